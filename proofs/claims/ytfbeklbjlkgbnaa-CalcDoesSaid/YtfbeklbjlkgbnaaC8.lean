/- Written in this session: the walk of calc.Binary's function value, way by way. No condition but the kinds of numbers and sizes. -/
import Derived.Test.YtfbeklbjlkgbnaaC7
import Derived.Test.YtfbeklbjlkgbnaaC6
import Derived.BigGuardPart
import Derived.RegionDies
import Derived.WalkLawsBesides
import Derived.WalkSpells
import Derived.Outline
namespace Go.Proofs.Ytfbeklbjlkgbnaa.P
open Go.RowKit Go.Proofs.Ytfbeklbjlkgbnaa.Pure Go.Proofs.YtfbeklbjlkgbnaaW.PrintWords Go.Proofs.YtfbeklbjlkgbnaaW.PrintLast Go.Proofs.YtfbeklbjlkgbnaaW.PrintMore
attribute [local go_sem] max2_int min2_int max_two min_two max_three min_three max_four min_four   -- for this text's walks alone
set_option linter.unusedVariables false
set_option linter.unusedSimpArgs false

set_option maxHeartbeats 2000000 in
set_option maxRecDepth 100000 in
theorem calc_Binary1.logic11 (op : Int) (u v : S25) (k : Int) (HK : Aside0 (calc_wants.f op = some k)) (b0 b1 b2 : Nat) (W : World) (h0 : W.heap[b0]? = some (.cells #[.int .i64 op] 3 (0, 0))) (h1 : W.heap[b1]? = some (.cells #[.int .i64 u.f0, .int .i64 u.f1, .string u.f2] 25 (0, 0))) (h2 : W.heap[b2]? = some (.cells #[.int .i64 v.f0, .int .i64 v.f1, .string v.f2] 25 (0, 0))) (l3 : 3 ≤ op) (l16 : op ≤ 16) (kn : ¬ k = 0) (l4 : op ≤ 4) (a0 : u.f0 = 0) (z0 : v.f0 = 0) :
    Calls Try.prog 38 #[.pointer (some ⟨b0, 0, none⟩), .pointer (some ⟨b1, 0, none⟩), .pointer (some ⟨b2, 0, none⟩)] W (fun e w' => RE (.ok (logicP u v (truthV (op == 3)))) e ∧ Below W.heap.size W w') := by
  have hu25 := Try.underlying25
  have n0 : ¬ b0 = W.heap.size := by have := blk_lt h0; omega
  have n1 : ¬ b1 = W.heap.size := by have := blk_lt h1; omega
  have n2 : ¬ b2 = W.heap.size := by have := blk_lt h2; omega
  have HS := Aside0.mk (BI.start h0 h1 h2)
  clear h0 h1 h2
  have hc0 := HS.out.o
  have ha0 := HS.out.a0
  have ha1 := HS.out.a1
  have ha2 := HS.out.a2
  have hb0 := HS.out.v0
  have hb1 := HS.out.v1
  have hb2 := HS.out.v2
  have q0 : decide (3 ≤ op) = true := decide_eq_true l3
  have q1 : decide (op ≤ 16) = true := decide_eq_true l16
  have q2 : (k != 0) = true := bne_iff_ne.mpr kn
  have q3 : decide (op ≤ 4) = true := decide_eq_true l4
  have q4 : (u.f0 == 0) = true := beq_iff_eq.mpr a0
  have q5 : (v.f0 == 0) = true := beq_iff_eq.mpr z0
  have q6 : (u.f0 == k) = false := beq_eq_false_iff_ne.mpr (fun h => kn (h.symm.trans a0))
  have q7 : (v.f0 == k) = false := beq_eq_false_iff_ne.mpr (fun h => kn (h.symm.trans z0))
  have l3' := Aside0.mk l3
  have l16' := Aside0.mk l16
  have kn' := Aside0.mk kn
  have l4' := Aside0.mk l4
  have a0' := Aside0.mk a0
  have z0' := Aside0.mk z0
  clear l3 l16 kn l4 a0 z0
  go_enter Try.func38, Try.ntmps38
  go_wp2_with (first | (go_at_call 39; (with_reducible refine (calc_wants.calls op k _ HK.out).mono ?_); rintro e w' ⟨rfl, ⟨nd, rfl⟩⟩) | (go_at_call 30; (with_reducible refine (calc_check.yes _ _).mono ?_); rintro e w' ⟨rfl, rfl⟩) | (go_at_call 30; (with_reducible refine (calc_check.no _ _).mono ?_); rintro e w' ⟨rfl, rfl⟩))
  refine at_world (fun w' => BI op u v b0 b1 b2 W w') (by repeat (first | exact HS.out | refine BI.drewN ?_ _ | refine BI.drew ?_)) (fun w1 hI => ?_)
  have HI := Aside0.mk hI
  clear hI hc0 ha0 ha1 ha2 hb0 hb1 hb2
  refine start_ (n := 7) (S := fun w' => w'.cell? ⟨b0, 0, none⟩ = some (.int .i64 op) ∧ w'.cell? ⟨b1, 0, none⟩ = some (.int .i64 u.f0) ∧ w'.cell? ⟨b1, 1, none⟩ = some (.int .i64 u.f1) ∧ w'.cell? ⟨b1, 2, none⟩ = some (.string u.f2) ∧ w'.cell? ⟨b2, 0, none⟩ = some (.int .i64 v.f0) ∧ w'.cell? ⟨b2, 1, none⟩ = some (.int .i64 v.f1) ∧ w'.cell? ⟨b2, 2, none⟩ = some (.string v.f2)) (ds := [6]) #[false, false, false, false, false, false, false] (by kernel_rfl) rfl rfl ⟨HI.out.o, HI.out.a0, HI.out.a1, HI.out.a2, HI.out.v0, HI.out.v1, HI.out.v2⟩ (fun hHeld => ?_)
  refine take_ (i := 0) (N := some 57) (v := ?_) (a' := ?_) #[true, false, false, false, false, false, false] rfl rfl (by kernel_rfl) (fun _ _ _ h => h) (Or.inl ⟨by rfl, ?_⟩) hHeld ?_ ?_
  rotate_left
  · rintro w' ⟨s0, s1, s2, s3, s4, s5, s6⟩
    go_simp
    with_reducible rfl
  rotate_left
  · simp only [Act.put, List.setIfInBounds_toArray, List.set_cons_zero, List.set_cons_succ, i64_w, i32_w]
    rfl
  refine take_ (i := 1) (N := some 58) (v := ?_) (a' := ?_) #[true, true, false, false, false, false, false] rfl rfl (by kernel_rfl) (fun _ _ _ h => h) (Or.inl ⟨by rfl, ?_⟩) hHeld ?_ ?_
  rotate_left
  · rintro w' ⟨s0, s1, s2, s3, s4, s5, s6⟩
    go_simp
    with_reducible rfl
  rotate_left
  · simp only [Act.put, List.setIfInBounds_toArray, List.set_cons_zero, List.set_cons_succ, i64_w, i32_w]
    rfl
  refine take_ (i := 2) (N := some 59) (v := ?_) (a' := ?_) #[true, true, true, false, false, false, false] rfl rfl (by kernel_rfl) (fun _ _ _ h => h) (Or.inl ⟨by rfl, ?_⟩) hHeld ?_ ?_
  rotate_left
  · rintro w' ⟨s0, s1, s2, s3, s4, s5, s6⟩
    go_simp
    with_reducible rfl
  rotate_left
  · simp only [Act.put, List.setIfInBounds_toArray, List.set_cons_zero, List.set_cons_succ, i64_w, i32_w]
    rfl
  refine pure_ (i := 3) (N := some 60) (v := ?_) (a' := ?_) #[true, true, true, true, false, false, false] rfl rfl (by kernel_rfl) (fun _ _ _ h => h) (Or.inl ⟨by rfl, ?_⟩) ?_ ?_
  rotate_left
  · intro w'
    go_simp
    with_reducible rfl
  rotate_left
  · simp only [Act.put, List.setIfInBounds_toArray, List.set_cons_zero, List.set_cons_succ, i64_w, i32_w]
    rfl
  refine one_ (i := 4) (N := some 61) #[true, true, true, true, true, false, false] rfl rfl (by kernel_rfl) (by decide) (fun K hK => ?_)
  refine goes_ Try.func41 (by kernel_rfl) rfl #[.bool (op == 3)] (by rfl) rfl rfl (by simp only [List.map_toArray, List.map_cons, List.map_nil]; rfl) ?_
  with_reducible refine (calc_truth.calls (op == 3) _ _ _ _ (truth_f (op == 3))).mono ?_
  rintro e w2 ⟨rfl, h2⟩
  refine ⟨_, rfl, ?_⟩
  have n0_ := Aside0.mk (BI.below HI.out.drew h2)
  clear h2 HI
  have HI := n0_
  clear n0_
  refine hK.out _ _ ⟨HI.out.o, HI.out.a0, HI.out.a1, HI.out.a2, HI.out.v0, HI.out.v1, HI.out.v2⟩ (fun hHeld => ?_)
  clear hK K
  refine norm_ (a' := ?_) ?_ ?_
  rotate_left
  · show Act.put _ (some 61) _ = _
    simp only [Act.put, List.setIfInBounds_toArray, List.set_cons_zero, List.set_cons_succ, i64_w, i32_w]
    rfl
  refine one_ (i := 5) (N := some 62) #[true, true, true, true, true, true, false] rfl rfl (by kernel_rfl) (by decide) (fun K hK => ?_)
  refine goes_ Try.func40 (by kernel_rfl) rfl #[.agg #[.int .i64 u.f0, .int .i64 u.f1, .string u.f2], .agg #[.int .i64 v.f0, .int .i64 v.f1, .string v.f2], .agg #[.int .i64 (truthV (op == 3)).f0, .int .i64 (truthV (op == 3)).f1, .string (truthV (op == 3)).f2]] (by rfl) rfl rfl (by simp only [List.map_toArray, List.map_cons, List.map_nil]; rfl) ?_
  with_reducible refine (logic_calls u v (truthV (op == 3)) _).mono ?_
  rintro e w2 ⟨rfl, h2⟩
  refine ⟨_, rfl, ?_⟩
  have n0_ := Aside0.mk (BI.below HI.out h2)
  clear h2 HI
  have HI := n0_
  clear n0_
  refine hK.out _ _ ⟨HI.out.o, HI.out.a0, HI.out.a1, HI.out.a2, HI.out.v0, HI.out.v1, HI.out.v2⟩ (fun hHeld => ?_)
  clear hK K
  refine norm_ (a' := ?_) ?_ ?_
  rotate_left
  · show Act.put _ (some 62) _ = _
    simp only [Act.put, List.setIfInBounds_toArray, List.set_cons_zero, List.set_cons_succ, i64_w, i32_w]
    rfl
  refine last_ (i := 6) (N := none) #[true, true, true, true, true, true, true] rfl rfl (by kernel_rfl) (by decide) (fun K hK => ?_)
  have gc0 : World.cell? _ ⟨W.heap.size, 0, none⟩ = some (.int .i64 0) := (blk_cell HI.out.2.2.2.1 0).trans rfl
  have gc1 : World.cell? _ ⟨W.heap.size, 1, none⟩ = some (.int .i64 0) := (blk_cell HI.out.2.2.2.1 1).trans rfl
  have gc2 : World.cell? _ ⟨W.heap.size, 2, none⟩ = some (.string (⟨#[]⟩ : ByteArray)) := (blk_cell HI.out.2.2.2.1 2).trans rfl
  have gf0 := blk_frozen HI.out.2.2.2.1 0
  have gf1 := blk_frozen HI.out.2.2.2.1 1
  have gf2 := blk_frozen HI.out.2.2.2.1 2
  refine skip_ (w1 := ?_) (by rfl) rfl ?_ ?_
  rotate_left
  · go_simp
    rfl
  refine hK.out _ _ ?_
  clear hK K
  refine done_ (by kernel_rfl) ?_
  go_wp2_with fail
  exact bodyPost_ret (v := encV (logicP u v (truthV (op == 3)))) (by simp [results, Try.results38, go_sem, encV, gc0, gc1, gc2]) rfl ⟨rfl, below_set3 HI.out.bel (Nat.le_refl W.heap.size) _ _ _ _ _ _⟩
set_option maxHeartbeats 2000000 in
set_option maxRecDepth 100000 in
theorem calc_Binary1.logic10 (op : Int) (u v : S25) (k : Int) (HK : Aside0 (calc_wants.f op = some k)) (b0 b1 b2 : Nat) (W : World) (h0 : W.heap[b0]? = some (.cells #[.int .i64 op] 3 (0, 0))) (h1 : W.heap[b1]? = some (.cells #[.int .i64 u.f0, .int .i64 u.f1, .string u.f2] 25 (0, 0))) (h2 : W.heap[b2]? = some (.cells #[.int .i64 v.f0, .int .i64 v.f1, .string v.f2] 25 (0, 0))) (l3 : 3 ≤ op) (l16 : op ≤ 16) (kn : ¬ k = 0) (l4 : op ≤ 4) (a0 : u.f0 = 0) (z0 : ¬ v.f0 = 0) (zk : v.f0 = k) :
    Calls Try.prog 38 #[.pointer (some ⟨b0, 0, none⟩), .pointer (some ⟨b1, 0, none⟩), .pointer (some ⟨b2, 0, none⟩)] W (fun e w' => RE (.ok (logicP u v (truthV (op == 3)))) e ∧ Below W.heap.size W w') := by
  have hu25 := Try.underlying25
  have n0 : ¬ b0 = W.heap.size := by have := blk_lt h0; omega
  have n1 : ¬ b1 = W.heap.size := by have := blk_lt h1; omega
  have n2 : ¬ b2 = W.heap.size := by have := blk_lt h2; omega
  have HS := Aside0.mk (BI.start h0 h1 h2)
  clear h0 h1 h2
  have hc0 := HS.out.o
  have ha0 := HS.out.a0
  have ha1 := HS.out.a1
  have ha2 := HS.out.a2
  have hb0 := HS.out.v0
  have hb1 := HS.out.v1
  have hb2 := HS.out.v2
  have q0 : decide (3 ≤ op) = true := decide_eq_true l3
  have q1 : decide (op ≤ 16) = true := decide_eq_true l16
  have q2 : (k != 0) = true := bne_iff_ne.mpr kn
  have q3 : decide (op ≤ 4) = true := decide_eq_true l4
  have q4 : (u.f0 == 0) = true := beq_iff_eq.mpr a0
  have q5 : (v.f0 == 0) = false := beq_eq_false_iff_ne.mpr z0
  have q6 : (u.f0 == k) = false := beq_eq_false_iff_ne.mpr (fun h => kn (h.symm.trans a0))
  have q7 : (v.f0 == k) = true := beq_iff_eq.mpr zk
  have l3' := Aside0.mk l3
  have l16' := Aside0.mk l16
  have kn' := Aside0.mk kn
  have l4' := Aside0.mk l4
  have a0' := Aside0.mk a0
  have z0' := Aside0.mk z0
  have zk' := Aside0.mk zk
  clear l3 l16 kn l4 a0 z0 zk
  go_enter Try.func38, Try.ntmps38
  go_wp2_with (first | (go_at_call 39; (with_reducible refine (calc_wants.calls op k _ HK.out).mono ?_); rintro e w' ⟨rfl, ⟨nd, rfl⟩⟩) | (go_at_call 30; (with_reducible refine (calc_check.yes _ _).mono ?_); rintro e w' ⟨rfl, rfl⟩) | (go_at_call 30; (with_reducible refine (calc_check.no _ _).mono ?_); rintro e w' ⟨rfl, rfl⟩))
  refine at_world (fun w' => BI op u v b0 b1 b2 W w') (by repeat (first | exact HS.out | refine BI.drewN ?_ _ | refine BI.drew ?_)) (fun w1 hI => ?_)
  have HI := Aside0.mk hI
  clear hI hc0 ha0 ha1 ha2 hb0 hb1 hb2
  refine start_ (n := 7) (S := fun w' => w'.cell? ⟨b0, 0, none⟩ = some (.int .i64 op) ∧ w'.cell? ⟨b1, 0, none⟩ = some (.int .i64 u.f0) ∧ w'.cell? ⟨b1, 1, none⟩ = some (.int .i64 u.f1) ∧ w'.cell? ⟨b1, 2, none⟩ = some (.string u.f2) ∧ w'.cell? ⟨b2, 0, none⟩ = some (.int .i64 v.f0) ∧ w'.cell? ⟨b2, 1, none⟩ = some (.int .i64 v.f1) ∧ w'.cell? ⟨b2, 2, none⟩ = some (.string v.f2)) (ds := [6]) #[false, false, false, false, false, false, false] (by kernel_rfl) rfl rfl ⟨HI.out.o, HI.out.a0, HI.out.a1, HI.out.a2, HI.out.v0, HI.out.v1, HI.out.v2⟩ (fun hHeld => ?_)
  refine take_ (i := 0) (N := some 57) (v := ?_) (a' := ?_) #[true, false, false, false, false, false, false] rfl rfl (by kernel_rfl) (fun _ _ _ h => h) (Or.inl ⟨by rfl, ?_⟩) hHeld ?_ ?_
  rotate_left
  · rintro w' ⟨s0, s1, s2, s3, s4, s5, s6⟩
    go_simp
    with_reducible rfl
  rotate_left
  · simp only [Act.put, List.setIfInBounds_toArray, List.set_cons_zero, List.set_cons_succ, i64_w, i32_w]
    rfl
  refine take_ (i := 1) (N := some 58) (v := ?_) (a' := ?_) #[true, true, false, false, false, false, false] rfl rfl (by kernel_rfl) (fun _ _ _ h => h) (Or.inl ⟨by rfl, ?_⟩) hHeld ?_ ?_
  rotate_left
  · rintro w' ⟨s0, s1, s2, s3, s4, s5, s6⟩
    go_simp
    with_reducible rfl
  rotate_left
  · simp only [Act.put, List.setIfInBounds_toArray, List.set_cons_zero, List.set_cons_succ, i64_w, i32_w]
    rfl
  refine take_ (i := 2) (N := some 59) (v := ?_) (a' := ?_) #[true, true, true, false, false, false, false] rfl rfl (by kernel_rfl) (fun _ _ _ h => h) (Or.inl ⟨by rfl, ?_⟩) hHeld ?_ ?_
  rotate_left
  · rintro w' ⟨s0, s1, s2, s3, s4, s5, s6⟩
    go_simp
    with_reducible rfl
  rotate_left
  · simp only [Act.put, List.setIfInBounds_toArray, List.set_cons_zero, List.set_cons_succ, i64_w, i32_w]
    rfl
  refine pure_ (i := 3) (N := some 60) (v := ?_) (a' := ?_) #[true, true, true, true, false, false, false] rfl rfl (by kernel_rfl) (fun _ _ _ h => h) (Or.inl ⟨by rfl, ?_⟩) ?_ ?_
  rotate_left
  · intro w'
    go_simp
    with_reducible rfl
  rotate_left
  · simp only [Act.put, List.setIfInBounds_toArray, List.set_cons_zero, List.set_cons_succ, i64_w, i32_w]
    rfl
  refine one_ (i := 4) (N := some 61) #[true, true, true, true, true, false, false] rfl rfl (by kernel_rfl) (by decide) (fun K hK => ?_)
  refine goes_ Try.func41 (by kernel_rfl) rfl #[.bool (op == 3)] (by rfl) rfl rfl (by simp only [List.map_toArray, List.map_cons, List.map_nil]; rfl) ?_
  with_reducible refine (calc_truth.calls (op == 3) _ _ _ _ (truth_f (op == 3))).mono ?_
  rintro e w2 ⟨rfl, h2⟩
  refine ⟨_, rfl, ?_⟩
  have n0_ := Aside0.mk (BI.below HI.out.drew h2)
  clear h2 HI
  have HI := n0_
  clear n0_
  refine hK.out _ _ ⟨HI.out.o, HI.out.a0, HI.out.a1, HI.out.a2, HI.out.v0, HI.out.v1, HI.out.v2⟩ (fun hHeld => ?_)
  clear hK K
  refine norm_ (a' := ?_) ?_ ?_
  rotate_left
  · show Act.put _ (some 61) _ = _
    simp only [Act.put, List.setIfInBounds_toArray, List.set_cons_zero, List.set_cons_succ, i64_w, i32_w]
    rfl
  refine one_ (i := 5) (N := some 62) #[true, true, true, true, true, true, false] rfl rfl (by kernel_rfl) (by decide) (fun K hK => ?_)
  refine goes_ Try.func40 (by kernel_rfl) rfl #[.agg #[.int .i64 u.f0, .int .i64 u.f1, .string u.f2], .agg #[.int .i64 v.f0, .int .i64 v.f1, .string v.f2], .agg #[.int .i64 (truthV (op == 3)).f0, .int .i64 (truthV (op == 3)).f1, .string (truthV (op == 3)).f2]] (by rfl) rfl rfl (by simp only [List.map_toArray, List.map_cons, List.map_nil]; rfl) ?_
  with_reducible refine (logic_calls u v (truthV (op == 3)) _).mono ?_
  rintro e w2 ⟨rfl, h2⟩
  refine ⟨_, rfl, ?_⟩
  have n0_ := Aside0.mk (BI.below HI.out h2)
  clear h2 HI
  have HI := n0_
  clear n0_
  refine hK.out _ _ ⟨HI.out.o, HI.out.a0, HI.out.a1, HI.out.a2, HI.out.v0, HI.out.v1, HI.out.v2⟩ (fun hHeld => ?_)
  clear hK K
  refine norm_ (a' := ?_) ?_ ?_
  rotate_left
  · show Act.put _ (some 62) _ = _
    simp only [Act.put, List.setIfInBounds_toArray, List.set_cons_zero, List.set_cons_succ, i64_w, i32_w]
    rfl
  refine last_ (i := 6) (N := none) #[true, true, true, true, true, true, true] rfl rfl (by kernel_rfl) (by decide) (fun K hK => ?_)
  have gc0 : World.cell? _ ⟨W.heap.size, 0, none⟩ = some (.int .i64 0) := (blk_cell HI.out.2.2.2.1 0).trans rfl
  have gc1 : World.cell? _ ⟨W.heap.size, 1, none⟩ = some (.int .i64 0) := (blk_cell HI.out.2.2.2.1 1).trans rfl
  have gc2 : World.cell? _ ⟨W.heap.size, 2, none⟩ = some (.string (⟨#[]⟩ : ByteArray)) := (blk_cell HI.out.2.2.2.1 2).trans rfl
  have gf0 := blk_frozen HI.out.2.2.2.1 0
  have gf1 := blk_frozen HI.out.2.2.2.1 1
  have gf2 := blk_frozen HI.out.2.2.2.1 2
  refine skip_ (w1 := ?_) (by rfl) rfl ?_ ?_
  rotate_left
  · go_simp
    rfl
  refine hK.out _ _ ?_
  clear hK K
  refine done_ (by kernel_rfl) ?_
  go_wp2_with fail
  exact bodyPost_ret (v := encV (logicP u v (truthV (op == 3)))) (by simp [results, Try.results38, go_sem, encV, gc0, gc1, gc2]) rfl ⟨rfl, below_set3 HI.out.bel (Nat.le_refl W.heap.size) _ _ _ _ _ _⟩
set_option maxHeartbeats 2000000 in
set_option maxRecDepth 100000 in
theorem calc_Binary1.logic01 (op : Int) (u v : S25) (k : Int) (HK : Aside0 (calc_wants.f op = some k)) (b0 b1 b2 : Nat) (W : World) (h0 : W.heap[b0]? = some (.cells #[.int .i64 op] 3 (0, 0))) (h1 : W.heap[b1]? = some (.cells #[.int .i64 u.f0, .int .i64 u.f1, .string u.f2] 25 (0, 0))) (h2 : W.heap[b2]? = some (.cells #[.int .i64 v.f0, .int .i64 v.f1, .string v.f2] 25 (0, 0))) (l3 : 3 ≤ op) (l16 : op ≤ 16) (kn : ¬ k = 0) (l4 : op ≤ 4) (a0 : ¬ u.f0 = 0) (z0 : v.f0 = 0) (ak : u.f0 = k) :
    Calls Try.prog 38 #[.pointer (some ⟨b0, 0, none⟩), .pointer (some ⟨b1, 0, none⟩), .pointer (some ⟨b2, 0, none⟩)] W (fun e w' => RE (.ok (logicP u v (truthV (op == 3)))) e ∧ Below W.heap.size W w') := by
  have hu25 := Try.underlying25
  have n0 : ¬ b0 = W.heap.size := by have := blk_lt h0; omega
  have n1 : ¬ b1 = W.heap.size := by have := blk_lt h1; omega
  have n2 : ¬ b2 = W.heap.size := by have := blk_lt h2; omega
  have HS := Aside0.mk (BI.start h0 h1 h2)
  clear h0 h1 h2
  have hc0 := HS.out.o
  have ha0 := HS.out.a0
  have ha1 := HS.out.a1
  have ha2 := HS.out.a2
  have hb0 := HS.out.v0
  have hb1 := HS.out.v1
  have hb2 := HS.out.v2
  have q0 : decide (3 ≤ op) = true := decide_eq_true l3
  have q1 : decide (op ≤ 16) = true := decide_eq_true l16
  have q2 : (k != 0) = true := bne_iff_ne.mpr kn
  have q3 : decide (op ≤ 4) = true := decide_eq_true l4
  have q4 : (u.f0 == 0) = false := beq_eq_false_iff_ne.mpr a0
  have q5 : (v.f0 == 0) = true := beq_iff_eq.mpr z0
  have q6 : (u.f0 == k) = true := beq_iff_eq.mpr ak
  have q7 : (v.f0 == k) = false := beq_eq_false_iff_ne.mpr (fun h => kn (h.symm.trans z0))
  have l3' := Aside0.mk l3
  have l16' := Aside0.mk l16
  have kn' := Aside0.mk kn
  have l4' := Aside0.mk l4
  have a0' := Aside0.mk a0
  have z0' := Aside0.mk z0
  have ak' := Aside0.mk ak
  clear l3 l16 kn l4 a0 z0 ak
  go_enter Try.func38, Try.ntmps38
  go_wp2_with (first | (go_at_call 39; (with_reducible refine (calc_wants.calls op k _ HK.out).mono ?_); rintro e w' ⟨rfl, ⟨nd, rfl⟩⟩) | (go_at_call 30; (with_reducible refine (calc_check.yes _ _).mono ?_); rintro e w' ⟨rfl, rfl⟩) | (go_at_call 30; (with_reducible refine (calc_check.no _ _).mono ?_); rintro e w' ⟨rfl, rfl⟩))
  refine at_world (fun w' => BI op u v b0 b1 b2 W w') (by repeat (first | exact HS.out | refine BI.drewN ?_ _ | refine BI.drew ?_)) (fun w1 hI => ?_)
  have HI := Aside0.mk hI
  clear hI hc0 ha0 ha1 ha2 hb0 hb1 hb2
  refine start_ (n := 7) (S := fun w' => w'.cell? ⟨b0, 0, none⟩ = some (.int .i64 op) ∧ w'.cell? ⟨b1, 0, none⟩ = some (.int .i64 u.f0) ∧ w'.cell? ⟨b1, 1, none⟩ = some (.int .i64 u.f1) ∧ w'.cell? ⟨b1, 2, none⟩ = some (.string u.f2) ∧ w'.cell? ⟨b2, 0, none⟩ = some (.int .i64 v.f0) ∧ w'.cell? ⟨b2, 1, none⟩ = some (.int .i64 v.f1) ∧ w'.cell? ⟨b2, 2, none⟩ = some (.string v.f2)) (ds := [6]) #[false, false, false, false, false, false, false] (by kernel_rfl) rfl rfl ⟨HI.out.o, HI.out.a0, HI.out.a1, HI.out.a2, HI.out.v0, HI.out.v1, HI.out.v2⟩ (fun hHeld => ?_)
  refine take_ (i := 0) (N := some 57) (v := ?_) (a' := ?_) #[true, false, false, false, false, false, false] rfl rfl (by kernel_rfl) (fun _ _ _ h => h) (Or.inl ⟨by rfl, ?_⟩) hHeld ?_ ?_
  rotate_left
  · rintro w' ⟨s0, s1, s2, s3, s4, s5, s6⟩
    go_simp
    with_reducible rfl
  rotate_left
  · simp only [Act.put, List.setIfInBounds_toArray, List.set_cons_zero, List.set_cons_succ, i64_w, i32_w]
    rfl
  refine take_ (i := 1) (N := some 58) (v := ?_) (a' := ?_) #[true, true, false, false, false, false, false] rfl rfl (by kernel_rfl) (fun _ _ _ h => h) (Or.inl ⟨by rfl, ?_⟩) hHeld ?_ ?_
  rotate_left
  · rintro w' ⟨s0, s1, s2, s3, s4, s5, s6⟩
    go_simp
    with_reducible rfl
  rotate_left
  · simp only [Act.put, List.setIfInBounds_toArray, List.set_cons_zero, List.set_cons_succ, i64_w, i32_w]
    rfl
  refine take_ (i := 2) (N := some 59) (v := ?_) (a' := ?_) #[true, true, true, false, false, false, false] rfl rfl (by kernel_rfl) (fun _ _ _ h => h) (Or.inl ⟨by rfl, ?_⟩) hHeld ?_ ?_
  rotate_left
  · rintro w' ⟨s0, s1, s2, s3, s4, s5, s6⟩
    go_simp
    with_reducible rfl
  rotate_left
  · simp only [Act.put, List.setIfInBounds_toArray, List.set_cons_zero, List.set_cons_succ, i64_w, i32_w]
    rfl
  refine pure_ (i := 3) (N := some 60) (v := ?_) (a' := ?_) #[true, true, true, true, false, false, false] rfl rfl (by kernel_rfl) (fun _ _ _ h => h) (Or.inl ⟨by rfl, ?_⟩) ?_ ?_
  rotate_left
  · intro w'
    go_simp
    with_reducible rfl
  rotate_left
  · simp only [Act.put, List.setIfInBounds_toArray, List.set_cons_zero, List.set_cons_succ, i64_w, i32_w]
    rfl
  refine one_ (i := 4) (N := some 61) #[true, true, true, true, true, false, false] rfl rfl (by kernel_rfl) (by decide) (fun K hK => ?_)
  refine goes_ Try.func41 (by kernel_rfl) rfl #[.bool (op == 3)] (by rfl) rfl rfl (by simp only [List.map_toArray, List.map_cons, List.map_nil]; rfl) ?_
  with_reducible refine (calc_truth.calls (op == 3) _ _ _ _ (truth_f (op == 3))).mono ?_
  rintro e w2 ⟨rfl, h2⟩
  refine ⟨_, rfl, ?_⟩
  have n0_ := Aside0.mk (BI.below HI.out.drew h2)
  clear h2 HI
  have HI := n0_
  clear n0_
  refine hK.out _ _ ⟨HI.out.o, HI.out.a0, HI.out.a1, HI.out.a2, HI.out.v0, HI.out.v1, HI.out.v2⟩ (fun hHeld => ?_)
  clear hK K
  refine norm_ (a' := ?_) ?_ ?_
  rotate_left
  · show Act.put _ (some 61) _ = _
    simp only [Act.put, List.setIfInBounds_toArray, List.set_cons_zero, List.set_cons_succ, i64_w, i32_w]
    rfl
  refine one_ (i := 5) (N := some 62) #[true, true, true, true, true, true, false] rfl rfl (by kernel_rfl) (by decide) (fun K hK => ?_)
  refine goes_ Try.func40 (by kernel_rfl) rfl #[.agg #[.int .i64 u.f0, .int .i64 u.f1, .string u.f2], .agg #[.int .i64 v.f0, .int .i64 v.f1, .string v.f2], .agg #[.int .i64 (truthV (op == 3)).f0, .int .i64 (truthV (op == 3)).f1, .string (truthV (op == 3)).f2]] (by rfl) rfl rfl (by simp only [List.map_toArray, List.map_cons, List.map_nil]; rfl) ?_
  with_reducible refine (logic_calls u v (truthV (op == 3)) _).mono ?_
  rintro e w2 ⟨rfl, h2⟩
  refine ⟨_, rfl, ?_⟩
  have n0_ := Aside0.mk (BI.below HI.out h2)
  clear h2 HI
  have HI := n0_
  clear n0_
  refine hK.out _ _ ⟨HI.out.o, HI.out.a0, HI.out.a1, HI.out.a2, HI.out.v0, HI.out.v1, HI.out.v2⟩ (fun hHeld => ?_)
  clear hK K
  refine norm_ (a' := ?_) ?_ ?_
  rotate_left
  · show Act.put _ (some 62) _ = _
    simp only [Act.put, List.setIfInBounds_toArray, List.set_cons_zero, List.set_cons_succ, i64_w, i32_w]
    rfl
  refine last_ (i := 6) (N := none) #[true, true, true, true, true, true, true] rfl rfl (by kernel_rfl) (by decide) (fun K hK => ?_)
  have gc0 : World.cell? _ ⟨W.heap.size, 0, none⟩ = some (.int .i64 0) := (blk_cell HI.out.2.2.2.1 0).trans rfl
  have gc1 : World.cell? _ ⟨W.heap.size, 1, none⟩ = some (.int .i64 0) := (blk_cell HI.out.2.2.2.1 1).trans rfl
  have gc2 : World.cell? _ ⟨W.heap.size, 2, none⟩ = some (.string (⟨#[]⟩ : ByteArray)) := (blk_cell HI.out.2.2.2.1 2).trans rfl
  have gf0 := blk_frozen HI.out.2.2.2.1 0
  have gf1 := blk_frozen HI.out.2.2.2.1 1
  have gf2 := blk_frozen HI.out.2.2.2.1 2
  refine skip_ (w1 := ?_) (by rfl) rfl ?_ ?_
  rotate_left
  · go_simp
    rfl
  refine hK.out _ _ ?_
  clear hK K
  refine done_ (by kernel_rfl) ?_
  go_wp2_with fail
  exact bodyPost_ret (v := encV (logicP u v (truthV (op == 3)))) (by simp [results, Try.results38, go_sem, encV, gc0, gc1, gc2]) rfl ⟨rfl, below_set3 HI.out.bel (Nat.le_refl W.heap.size) _ _ _ _ _ _⟩
set_option maxHeartbeats 2000000 in
set_option maxRecDepth 100000 in
theorem calc_Binary1.logic00 (op : Int) (u v : S25) (k : Int) (HK : Aside0 (calc_wants.f op = some k)) (b0 b1 b2 : Nat) (W : World) (h0 : W.heap[b0]? = some (.cells #[.int .i64 op] 3 (0, 0))) (h1 : W.heap[b1]? = some (.cells #[.int .i64 u.f0, .int .i64 u.f1, .string u.f2] 25 (0, 0))) (h2 : W.heap[b2]? = some (.cells #[.int .i64 v.f0, .int .i64 v.f1, .string v.f2] 25 (0, 0))) (l3 : 3 ≤ op) (l16 : op ≤ 16) (kn : ¬ k = 0) (l4 : op ≤ 4) (a0 : ¬ u.f0 = 0) (z0 : ¬ v.f0 = 0) (ak : u.f0 = k) (zk : v.f0 = k) :
    Calls Try.prog 38 #[.pointer (some ⟨b0, 0, none⟩), .pointer (some ⟨b1, 0, none⟩), .pointer (some ⟨b2, 0, none⟩)] W (fun e w' => RE (.ok (logicP u v (truthV (op == 3)))) e ∧ Below W.heap.size W w') := by
  have hu25 := Try.underlying25
  have n0 : ¬ b0 = W.heap.size := by have := blk_lt h0; omega
  have n1 : ¬ b1 = W.heap.size := by have := blk_lt h1; omega
  have n2 : ¬ b2 = W.heap.size := by have := blk_lt h2; omega
  have HS := Aside0.mk (BI.start h0 h1 h2)
  clear h0 h1 h2
  have hc0 := HS.out.o
  have ha0 := HS.out.a0
  have ha1 := HS.out.a1
  have ha2 := HS.out.a2
  have hb0 := HS.out.v0
  have hb1 := HS.out.v1
  have hb2 := HS.out.v2
  have q0 : decide (3 ≤ op) = true := decide_eq_true l3
  have q1 : decide (op ≤ 16) = true := decide_eq_true l16
  have q2 : (k != 0) = true := bne_iff_ne.mpr kn
  have q3 : decide (op ≤ 4) = true := decide_eq_true l4
  have q4 : (u.f0 == 0) = false := beq_eq_false_iff_ne.mpr a0
  have q5 : (v.f0 == 0) = false := beq_eq_false_iff_ne.mpr z0
  have q6 : (u.f0 == k) = true := beq_iff_eq.mpr ak
  have q7 : (v.f0 == k) = true := beq_iff_eq.mpr zk
  have l3' := Aside0.mk l3
  have l16' := Aside0.mk l16
  have kn' := Aside0.mk kn
  have l4' := Aside0.mk l4
  have a0' := Aside0.mk a0
  have z0' := Aside0.mk z0
  have ak' := Aside0.mk ak
  have zk' := Aside0.mk zk
  clear l3 l16 kn l4 a0 z0 ak zk
  go_enter Try.func38, Try.ntmps38
  go_wp2_with (first | (go_at_call 39; (with_reducible refine (calc_wants.calls op k _ HK.out).mono ?_); rintro e w' ⟨rfl, ⟨nd, rfl⟩⟩) | (go_at_call 30; (with_reducible refine (calc_check.yes _ _).mono ?_); rintro e w' ⟨rfl, rfl⟩) | (go_at_call 30; (with_reducible refine (calc_check.no _ _).mono ?_); rintro e w' ⟨rfl, rfl⟩))
  refine at_world (fun w' => BI op u v b0 b1 b2 W w') (by repeat (first | exact HS.out | refine BI.drewN ?_ _ | refine BI.drew ?_)) (fun w1 hI => ?_)
  have HI := Aside0.mk hI
  clear hI hc0 ha0 ha1 ha2 hb0 hb1 hb2
  refine start_ (n := 7) (S := fun w' => w'.cell? ⟨b0, 0, none⟩ = some (.int .i64 op) ∧ w'.cell? ⟨b1, 0, none⟩ = some (.int .i64 u.f0) ∧ w'.cell? ⟨b1, 1, none⟩ = some (.int .i64 u.f1) ∧ w'.cell? ⟨b1, 2, none⟩ = some (.string u.f2) ∧ w'.cell? ⟨b2, 0, none⟩ = some (.int .i64 v.f0) ∧ w'.cell? ⟨b2, 1, none⟩ = some (.int .i64 v.f1) ∧ w'.cell? ⟨b2, 2, none⟩ = some (.string v.f2)) (ds := [6]) #[false, false, false, false, false, false, false] (by kernel_rfl) rfl rfl ⟨HI.out.o, HI.out.a0, HI.out.a1, HI.out.a2, HI.out.v0, HI.out.v1, HI.out.v2⟩ (fun hHeld => ?_)
  refine take_ (i := 0) (N := some 57) (v := ?_) (a' := ?_) #[true, false, false, false, false, false, false] rfl rfl (by kernel_rfl) (fun _ _ _ h => h) (Or.inl ⟨by rfl, ?_⟩) hHeld ?_ ?_
  rotate_left
  · rintro w' ⟨s0, s1, s2, s3, s4, s5, s6⟩
    go_simp
    with_reducible rfl
  rotate_left
  · simp only [Act.put, List.setIfInBounds_toArray, List.set_cons_zero, List.set_cons_succ, i64_w, i32_w]
    rfl
  refine take_ (i := 1) (N := some 58) (v := ?_) (a' := ?_) #[true, true, false, false, false, false, false] rfl rfl (by kernel_rfl) (fun _ _ _ h => h) (Or.inl ⟨by rfl, ?_⟩) hHeld ?_ ?_
  rotate_left
  · rintro w' ⟨s0, s1, s2, s3, s4, s5, s6⟩
    go_simp
    with_reducible rfl
  rotate_left
  · simp only [Act.put, List.setIfInBounds_toArray, List.set_cons_zero, List.set_cons_succ, i64_w, i32_w]
    rfl
  refine take_ (i := 2) (N := some 59) (v := ?_) (a' := ?_) #[true, true, true, false, false, false, false] rfl rfl (by kernel_rfl) (fun _ _ _ h => h) (Or.inl ⟨by rfl, ?_⟩) hHeld ?_ ?_
  rotate_left
  · rintro w' ⟨s0, s1, s2, s3, s4, s5, s6⟩
    go_simp
    with_reducible rfl
  rotate_left
  · simp only [Act.put, List.setIfInBounds_toArray, List.set_cons_zero, List.set_cons_succ, i64_w, i32_w]
    rfl
  refine pure_ (i := 3) (N := some 60) (v := ?_) (a' := ?_) #[true, true, true, true, false, false, false] rfl rfl (by kernel_rfl) (fun _ _ _ h => h) (Or.inl ⟨by rfl, ?_⟩) ?_ ?_
  rotate_left
  · intro w'
    go_simp
    with_reducible rfl
  rotate_left
  · simp only [Act.put, List.setIfInBounds_toArray, List.set_cons_zero, List.set_cons_succ, i64_w, i32_w]
    rfl
  refine one_ (i := 4) (N := some 61) #[true, true, true, true, true, false, false] rfl rfl (by kernel_rfl) (by decide) (fun K hK => ?_)
  refine goes_ Try.func41 (by kernel_rfl) rfl #[.bool (op == 3)] (by rfl) rfl rfl (by simp only [List.map_toArray, List.map_cons, List.map_nil]; rfl) ?_
  with_reducible refine (calc_truth.calls (op == 3) _ _ _ _ (truth_f (op == 3))).mono ?_
  rintro e w2 ⟨rfl, h2⟩
  refine ⟨_, rfl, ?_⟩
  have n0_ := Aside0.mk (BI.below HI.out.drew h2)
  clear h2 HI
  have HI := n0_
  clear n0_
  refine hK.out _ _ ⟨HI.out.o, HI.out.a0, HI.out.a1, HI.out.a2, HI.out.v0, HI.out.v1, HI.out.v2⟩ (fun hHeld => ?_)
  clear hK K
  refine norm_ (a' := ?_) ?_ ?_
  rotate_left
  · show Act.put _ (some 61) _ = _
    simp only [Act.put, List.setIfInBounds_toArray, List.set_cons_zero, List.set_cons_succ, i64_w, i32_w]
    rfl
  refine one_ (i := 5) (N := some 62) #[true, true, true, true, true, true, false] rfl rfl (by kernel_rfl) (by decide) (fun K hK => ?_)
  refine goes_ Try.func40 (by kernel_rfl) rfl #[.agg #[.int .i64 u.f0, .int .i64 u.f1, .string u.f2], .agg #[.int .i64 v.f0, .int .i64 v.f1, .string v.f2], .agg #[.int .i64 (truthV (op == 3)).f0, .int .i64 (truthV (op == 3)).f1, .string (truthV (op == 3)).f2]] (by rfl) rfl rfl (by simp only [List.map_toArray, List.map_cons, List.map_nil]; rfl) ?_
  with_reducible refine (logic_calls u v (truthV (op == 3)) _).mono ?_
  rintro e w2 ⟨rfl, h2⟩
  refine ⟨_, rfl, ?_⟩
  have n0_ := Aside0.mk (BI.below HI.out h2)
  clear h2 HI
  have HI := n0_
  clear n0_
  refine hK.out _ _ ⟨HI.out.o, HI.out.a0, HI.out.a1, HI.out.a2, HI.out.v0, HI.out.v1, HI.out.v2⟩ (fun hHeld => ?_)
  clear hK K
  refine norm_ (a' := ?_) ?_ ?_
  rotate_left
  · show Act.put _ (some 62) _ = _
    simp only [Act.put, List.setIfInBounds_toArray, List.set_cons_zero, List.set_cons_succ, i64_w, i32_w]
    rfl
  refine last_ (i := 6) (N := none) #[true, true, true, true, true, true, true] rfl rfl (by kernel_rfl) (by decide) (fun K hK => ?_)
  have gc0 : World.cell? _ ⟨W.heap.size, 0, none⟩ = some (.int .i64 0) := (blk_cell HI.out.2.2.2.1 0).trans rfl
  have gc1 : World.cell? _ ⟨W.heap.size, 1, none⟩ = some (.int .i64 0) := (blk_cell HI.out.2.2.2.1 1).trans rfl
  have gc2 : World.cell? _ ⟨W.heap.size, 2, none⟩ = some (.string (⟨#[]⟩ : ByteArray)) := (blk_cell HI.out.2.2.2.1 2).trans rfl
  have gf0 := blk_frozen HI.out.2.2.2.1 0
  have gf1 := blk_frozen HI.out.2.2.2.1 1
  have gf2 := blk_frozen HI.out.2.2.2.1 2
  refine skip_ (w1 := ?_) (by rfl) rfl ?_ ?_
  rotate_left
  · go_simp
    rfl
  refine hK.out _ _ ?_
  clear hK K
  refine done_ (by kernel_rfl) ?_
  go_wp2_with fail
  exact bodyPost_ret (v := encV (logicP u v (truthV (op == 3)))) (by simp [results, Try.results38, go_sem, encV, gc0, gc1, gc2]) rfl ⟨rfl, below_set3 HI.out.bel (Nat.le_refl W.heap.size) _ _ _ _ _ _⟩
set_option maxHeartbeats 2000000 in
set_option maxRecDepth 100000 in
theorem calc_Binary1.cmp (op : Int) (u v : S25) (k : Int) (HK : Aside0 (calc_wants.f op = some k)) (b0 b1 b2 : Nat) (W : World) (h0 : W.heap[b0]? = some (.cells #[.int .i64 op] 3 (0, 0))) (h1 : W.heap[b1]? = some (.cells #[.int .i64 u.f0, .int .i64 u.f1, .string u.f2] 25 (0, 0))) (h2 : W.heap[b2]? = some (.cells #[.int .i64 v.f0, .int .i64 v.f1, .string v.f2] 25 (0, 0))) (l3 : 3 ≤ op) (l16 : op ≤ 16) (kz : k = 0) (l4 : ¬ op ≤ 4) (l10 : op ≤ 10) (a0 : ¬ u.f0 = 0) (z0 : ¬ v.f0 = 0) (uv : u.f0 = v.f0) :
    Calls Try.prog 38 #[.pointer (some ⟨b0, 0, none⟩), .pointer (some ⟨b1, 0, none⟩), .pointer (some ⟨b2, 0, none⟩)] W (fun e w' => RE (.ok (truthV (holdsP op (cmpV u v)))) e ∧ Below W.heap.size W w') := by
  have hu25 := Try.underlying25
  have n0 : ¬ b0 = W.heap.size := by have := blk_lt h0; omega
  have n1 : ¬ b1 = W.heap.size := by have := blk_lt h1; omega
  have n2 : ¬ b2 = W.heap.size := by have := blk_lt h2; omega
  have HS := Aside0.mk (BI.start h0 h1 h2)
  clear h0 h1 h2
  have hc0 := HS.out.o
  have ha0 := HS.out.a0
  have ha1 := HS.out.a1
  have ha2 := HS.out.a2
  have hb0 := HS.out.v0
  have hb1 := HS.out.v1
  have hb2 := HS.out.v2
  have q0 : decide (3 ≤ op) = true := decide_eq_true l3
  have q1 : decide (op ≤ 16) = true := decide_eq_true l16
  have q2 : (k != 0) = false := bne_eq_false_iff_eq.mpr kz
  have q3 : decide (op ≤ 4) = false := decide_eq_false l4
  have q4 : decide (op ≤ 10) = true := decide_eq_true l10
  have q5 : (u.f0 == 0) = false := beq_eq_false_iff_ne.mpr a0
  have q6 : (v.f0 == 0) = false := beq_eq_false_iff_ne.mpr z0
  have q7 : (u.f0 == v.f0) = true := beq_iff_eq.mpr uv
  have l3' := Aside0.mk l3
  have l16' := Aside0.mk l16
  have kz' := Aside0.mk kz
  have l4' := Aside0.mk l4
  have l10' := Aside0.mk l10
  have a0' := Aside0.mk a0
  have z0' := Aside0.mk z0
  have uv' := Aside0.mk uv
  clear l3 l16 kz l4 l10 a0 z0 uv
  go_enter Try.func38, Try.ntmps38
  go_wp2_with (first | (go_at_call 39; (with_reducible refine (calc_wants.calls op k _ HK.out).mono ?_); rintro e w' ⟨rfl, ⟨nd, rfl⟩⟩) | (go_at_call 30; (with_reducible refine (calc_check.yes _ _).mono ?_); rintro e w' ⟨rfl, rfl⟩) | (go_at_call 30; (with_reducible refine (calc_check.no _ _).mono ?_); rintro e w' ⟨rfl, rfl⟩))
  refine at_world (fun w' => BI op u v b0 b1 b2 W w') (by repeat (first | exact HS.out | refine BI.drewN ?_ _ | refine BI.drew ?_)) (fun w1 hI => ?_)
  have HI := Aside0.mk hI
  clear hI hc0 ha0 ha1 ha2 hb0 hb1 hb2
  refine start_ (n := 7) (S := fun w' => w'.cell? ⟨b0, 0, none⟩ = some (.int .i64 op) ∧ w'.cell? ⟨b1, 0, none⟩ = some (.int .i64 u.f0) ∧ w'.cell? ⟨b1, 1, none⟩ = some (.int .i64 u.f1) ∧ w'.cell? ⟨b1, 2, none⟩ = some (.string u.f2) ∧ w'.cell? ⟨b2, 0, none⟩ = some (.int .i64 v.f0) ∧ w'.cell? ⟨b2, 1, none⟩ = some (.int .i64 v.f1) ∧ w'.cell? ⟨b2, 2, none⟩ = some (.string v.f2)) (ds := [6]) #[false, false, false, false, false, false, false] (by kernel_rfl) rfl rfl ⟨HI.out.o, HI.out.a0, HI.out.a1, HI.out.a2, HI.out.v0, HI.out.v1, HI.out.v2⟩ (fun hHeld => ?_)
  refine take_ (i := 0) (N := some 69) (v := ?_) (a' := ?_) #[true, false, false, false, false, false, false] rfl rfl (by kernel_rfl) (fun _ _ _ h => h) (Or.inl ⟨by rfl, ?_⟩) hHeld ?_ ?_
  rotate_left
  · rintro w' ⟨s0, s1, s2, s3, s4, s5, s6⟩
    go_simp
    with_reducible rfl
  rotate_left
  · simp only [Act.put, List.setIfInBounds_toArray, List.set_cons_zero, List.set_cons_succ, i64_w, i32_w]
    rfl
  refine take_ (i := 1) (N := some 70) (v := ?_) (a' := ?_) #[true, true, false, false, false, false, false] rfl rfl (by kernel_rfl) (fun _ _ _ h => h) (Or.inl ⟨by rfl, ?_⟩) hHeld ?_ ?_
  rotate_left
  · rintro w' ⟨s0, s1, s2, s3, s4, s5, s6⟩
    go_simp
    with_reducible rfl
  rotate_left
  · simp only [Act.put, List.setIfInBounds_toArray, List.set_cons_zero, List.set_cons_succ, i64_w, i32_w]
    rfl
  refine take_ (i := 2) (N := some 71) (v := ?_) (a' := ?_) #[true, true, true, false, false, false, false] rfl rfl (by kernel_rfl) (fun _ _ _ h => h) (Or.inl ⟨by rfl, ?_⟩) hHeld ?_ ?_
  rotate_left
  · rintro w' ⟨s0, s1, s2, s3, s4, s5, s6⟩
    go_simp
    with_reducible rfl
  rotate_left
  · simp only [Act.put, List.setIfInBounds_toArray, List.set_cons_zero, List.set_cons_succ, i64_w, i32_w]
    rfl
  refine one_ (i := 3) (N := some 72) #[true, true, true, true, false, false, false] rfl rfl (by kernel_rfl) (by decide) (fun K hK => ?_)
  refine goes_ Try.func43 (by kernel_rfl) rfl #[.agg #[.int .i64 u.f0, .int .i64 u.f1, .string u.f2], .agg #[.int .i64 v.f0, .int .i64 v.f1, .string v.f2]] (by rfl) rfl rfl (by simp only [List.map_toArray, List.map_cons, List.map_nil]; rfl) ?_
  with_reducible refine (compare_calls u v _).mono ?_
  rintro e w2 ⟨rfl, h2⟩
  refine ⟨_, rfl, ?_⟩
  have n0_ := Aside0.mk (BI.below HI.out.drew h2)
  clear h2 HI
  have HI := n0_
  clear n0_
  refine hK.out _ _ ⟨HI.out.o, HI.out.a0, HI.out.a1, HI.out.a2, HI.out.v0, HI.out.v1, HI.out.v2⟩ (fun hHeld => ?_)
  clear hK K
  refine norm_ (a' := ?_) ?_ ?_
  rotate_left
  · show Act.put _ (some 72) _ = _
    simp only [Act.put, List.setIfInBounds_toArray, List.set_cons_zero, List.set_cons_succ, i64_w, i32_w]
    rfl
  refine one_ (i := 4) (N := some 73) #[true, true, true, true, true, false, false] rfl rfl (by kernel_rfl) (by decide) (fun K hK => ?_)
  refine goes_ Try.func42 (by kernel_rfl) rfl #[.int .i64 op, .int .i64 (cmpV u v)] (by rfl) rfl rfl (by simp only [List.map_toArray, List.map_cons, List.map_nil]; rfl) ?_
  with_reducible refine (calc_compared.calls op (cmpV u v) _ _ (holds_f op (cmpV u v))).mono ?_
  rintro e w2 ⟨rfl, ⟨nd3, rfl⟩⟩
  refine ⟨_, rfl, ?_⟩
  have n0_ := Aside0.mk (BI.drewN HI.out nd3)
  clear HI
  have HI := n0_
  clear n0_
  refine hK.out _ _ ⟨HI.out.o, HI.out.a0, HI.out.a1, HI.out.a2, HI.out.v0, HI.out.v1, HI.out.v2⟩ (fun hHeld => ?_)
  clear hK K
  refine norm_ (a' := ?_) ?_ ?_
  rotate_left
  · show Act.put _ (some 73) _ = _
    simp only [Act.put, List.setIfInBounds_toArray, List.set_cons_zero, List.set_cons_succ, i64_w, i32_w]
    rfl
  refine one_ (i := 5) (N := some 74) #[true, true, true, true, true, true, false] rfl rfl (by kernel_rfl) (by decide) (fun K hK => ?_)
  refine goes_ Try.func41 (by kernel_rfl) rfl #[.bool (holdsP op (cmpV u v))] (by rfl) rfl rfl (by simp only [List.map_toArray, List.map_cons, List.map_nil]; rfl) ?_
  with_reducible refine (calc_truth.calls (holdsP op (cmpV u v)) _ _ _ _ (truth_f (holdsP op (cmpV u v)))).mono ?_
  rintro e w2 ⟨rfl, h2⟩
  refine ⟨_, rfl, ?_⟩
  have n0_ := Aside0.mk (BI.below HI.out h2)
  clear h2 HI
  have HI := n0_
  clear n0_
  refine hK.out _ _ ⟨HI.out.o, HI.out.a0, HI.out.a1, HI.out.a2, HI.out.v0, HI.out.v1, HI.out.v2⟩ (fun hHeld => ?_)
  clear hK K
  refine norm_ (a' := ?_) ?_ ?_
  rotate_left
  · show Act.put _ (some 74) _ = _
    simp only [Act.put, List.setIfInBounds_toArray, List.set_cons_zero, List.set_cons_succ, i64_w, i32_w]
    rfl
  refine last_ (i := 6) (N := none) #[true, true, true, true, true, true, true] rfl rfl (by kernel_rfl) (by decide) (fun K hK => ?_)
  have gc0 : World.cell? _ ⟨W.heap.size, 0, none⟩ = some (.int .i64 0) := (blk_cell HI.out.2.2.2.1 0).trans rfl
  have gc1 : World.cell? _ ⟨W.heap.size, 1, none⟩ = some (.int .i64 0) := (blk_cell HI.out.2.2.2.1 1).trans rfl
  have gc2 : World.cell? _ ⟨W.heap.size, 2, none⟩ = some (.string (⟨#[]⟩ : ByteArray)) := (blk_cell HI.out.2.2.2.1 2).trans rfl
  have gf0 := blk_frozen HI.out.2.2.2.1 0
  have gf1 := blk_frozen HI.out.2.2.2.1 1
  have gf2 := blk_frozen HI.out.2.2.2.1 2
  refine skip_ (w1 := ?_) (by rfl) rfl ?_ ?_
  rotate_left
  · go_simp
    rfl
  refine hK.out _ _ ?_
  clear hK K
  refine done_ (by kernel_rfl) ?_
  go_wp2_with fail
  exact bodyPost_ret (v := encV (truthV (holdsP op (cmpV u v)))) (by simp [results, Try.results38, go_sem, encV, gc0, gc1, gc2]) rfl ⟨rfl, below_set3 HI.out.bel (Nat.le_refl W.heap.size) _ _ _ _ _ _⟩
end Go.Proofs.Ytfbeklbjlkgbnaa.P
