/- Laid by a program of this session out of its texts for the law CalcTexts, part 5. -/
import Derived.BigGuardPart
import Derived.RegionDies
import Derived.WalkLawsBesides
import Derived.WalkSpells
import Derived.Outline
import Derived.Test.YtfbeklbjlkgbnaaZCalcTexts4
section
namespace Go.Proofs.Ytfbeklbjlkgbnaa.P
open Go.RowKit Go.Proofs.Ytfbeklbjlkgbnaa.Pure Go.Proofs.YtfbeklbjlkgbnaaW.PrintWords Go.Proofs.YtfbeklbjlkgbnaaW.PrintLast Go.Proofs.YtfbeklbjlkgbnaaW.PrintMore
attribute [local go_sem] max2_int min2_int max_two min_two max_three min_three max_four min_four
set_option linter.unusedVariables false
set_option linter.unusedSimpArgs false
set_option maxHeartbeats 2000000 in
set_option maxRecDepth 100000 in
theorem calc_Binary1.logic11 (op : Int) (u v : S25) (k : Int) (HK : Aside0 (calc_wants.f op = some k)) (b0 b1 b2 : Nat) (W : World) (h0 : W.heap[b0]? = some (.cells #[.int .i64 op] 3 (0, 0))) (h1 : W.heap[b1]? = some (.cells #[.int .i64 u.f0, .int .i64 u.f1, .string u.f2] 25 (0, 0))) (h2 : W.heap[b2]? = some (.cells #[.int .i64 v.f0, .int .i64 v.f1, .string v.f2] 25 (0, 0))) (l3 : 3 ≤ op) (l16 : op ≤ 16) (kn : ¬ k = 0) (l4 : op ≤ 4) (a0 : u.f0 = 0) (z0 : v.f0 = 0) :
    Calls Try.prog 38 #[.pointer (some ⟨b0, 0, none⟩), .pointer (some ⟨b1, 0, none⟩), .pointer (some ⟨b2, 0, none⟩)] W (fun e w' => RE (.ok (logicP u v (truthV (op == 3)))) e ∧ Below W.heap.size W w') := by
  have hu25 := Try.underlying25
  have n0 : ¬ b0 = W.heap.size := by have := blk_lt h0; omega
  have n1 : ¬ b1 = W.heap.size := by have := blk_lt h1; omega
  have n2 : ¬ b2 = W.heap.size := by have := blk_lt h2; omega
  have HS := Aside0.mk (BI.start h0 h1 h2)
  clear h0 h1 h2
  have hc0 := HS.out.o
  have ha0 := HS.out.a0
  have ha1 := HS.out.a1
  have ha2 := HS.out.a2
  have hb0 := HS.out.v0
  have hb1 := HS.out.v1
  have hb2 := HS.out.v2
  have q0 : decide (3 ≤ op) = true := decide_eq_true l3
  have q1 : decide (op ≤ 16) = true := decide_eq_true l16
  have q2 : (k != 0) = true := bne_iff_ne.mpr kn
  have q3 : decide (op ≤ 4) = true := decide_eq_true l4
  have q4 : (u.f0 == 0) = true := beq_iff_eq.mpr a0
  have q5 : (v.f0 == 0) = true := beq_iff_eq.mpr z0
  have q6 : (u.f0 == k) = false := beq_eq_false_iff_ne.mpr (fun h => kn (h.symm.trans a0))
  have q7 : (v.f0 == k) = false := beq_eq_false_iff_ne.mpr (fun h => kn (h.symm.trans z0))
  have l3' := Aside0.mk l3
  have l16' := Aside0.mk l16
  have kn' := Aside0.mk kn
  have l4' := Aside0.mk l4
  have a0' := Aside0.mk a0
  have z0' := Aside0.mk z0
  clear l3 l16 kn l4 a0 z0
  go_enter Try.func38, Try.ntmps38
  go_wp2_with (first | (go_at_call 39; (with_reducible refine (calc_wants.calls op k _ HK.out).mono ?_); rintro e w' ⟨rfl, ⟨nd, rfl⟩⟩) | (go_at_call 30; (with_reducible refine (calc_check.yes _ _).mono ?_); rintro e w' ⟨rfl, rfl⟩) | (go_at_call 30; (with_reducible refine (calc_check.no _ _).mono ?_); rintro e w' ⟨rfl, rfl⟩))
  refine at_world (fun w' => BI op u v b0 b1 b2 W w') (by repeat (first | exact HS.out | refine BI.drewN ?_ _ | refine BI.drew ?_)) (fun w1 hI => ?_)
  have HI := Aside0.mk hI
  clear hI hc0 ha0 ha1 ha2 hb0 hb1 hb2
  refine start_ (n := 7) (S := fun w' => w'.cell? ⟨b0, 0, none⟩ = some (.int .i64 op) ∧ w'.cell? ⟨b1, 0, none⟩ = some (.int .i64 u.f0) ∧ w'.cell? ⟨b1, 1, none⟩ = some (.int .i64 u.f1) ∧ w'.cell? ⟨b1, 2, none⟩ = some (.string u.f2) ∧ w'.cell? ⟨b2, 0, none⟩ = some (.int .i64 v.f0) ∧ w'.cell? ⟨b2, 1, none⟩ = some (.int .i64 v.f1) ∧ w'.cell? ⟨b2, 2, none⟩ = some (.string v.f2)) (ds := [6]) #[false, false, false, false, false, false, false] (by kernel_rfl) rfl rfl ⟨HI.out.o, HI.out.a0, HI.out.a1, HI.out.a2, HI.out.v0, HI.out.v1, HI.out.v2⟩ (fun hHeld => ?_)
  refine take_ (i := 0) (N := some 57) (v := ?_) (a' := ?_) #[true, false, false, false, false, false, false] rfl rfl (by kernel_rfl) (fun _ _ _ h => h) (Or.inl ⟨by rfl, ?_⟩) hHeld ?_ ?_
  rotate_left
  · rintro w' ⟨s0, s1, s2, s3, s4, s5, s6⟩
    go_simp
    with_reducible rfl
  rotate_left
  · simp only [Act.put, List.setIfInBounds_toArray, List.set_cons_zero, List.set_cons_succ, i64_w, i32_w]
    rfl
  refine take_ (i := 1) (N := some 58) (v := ?_) (a' := ?_) #[true, true, false, false, false, false, false] rfl rfl (by kernel_rfl) (fun _ _ _ h => h) (Or.inl ⟨by rfl, ?_⟩) hHeld ?_ ?_
  rotate_left
  · rintro w' ⟨s0, s1, s2, s3, s4, s5, s6⟩
    go_simp
    with_reducible rfl
  rotate_left
  · simp only [Act.put, List.setIfInBounds_toArray, List.set_cons_zero, List.set_cons_succ, i64_w, i32_w]
    rfl
  refine take_ (i := 2) (N := some 59) (v := ?_) (a' := ?_) #[true, true, true, false, false, false, false] rfl rfl (by kernel_rfl) (fun _ _ _ h => h) (Or.inl ⟨by rfl, ?_⟩) hHeld ?_ ?_
  rotate_left
  · rintro w' ⟨s0, s1, s2, s3, s4, s5, s6⟩
    go_simp
    with_reducible rfl
  rotate_left
  · simp only [Act.put, List.setIfInBounds_toArray, List.set_cons_zero, List.set_cons_succ, i64_w, i32_w]
    rfl
  refine pure_ (i := 3) (N := some 60) (v := ?_) (a' := ?_) #[true, true, true, true, false, false, false] rfl rfl (by kernel_rfl) (fun _ _ _ h => h) (Or.inl ⟨by rfl, ?_⟩) ?_ ?_
  rotate_left
  · intro w'
    go_simp
    with_reducible rfl
  rotate_left
  · simp only [Act.put, List.setIfInBounds_toArray, List.set_cons_zero, List.set_cons_succ, i64_w, i32_w]
    rfl
  refine one_ (i := 4) (N := some 61) #[true, true, true, true, true, false, false] rfl rfl (by kernel_rfl) (by decide) (fun K hK => ?_)
  refine goes_ Try.func41 (by kernel_rfl) rfl #[.bool (op == 3)] (by rfl) rfl rfl (by simp only [List.map_toArray, List.map_cons, List.map_nil]; rfl) ?_
  with_reducible refine (calc_truth.calls (op == 3) _ _ _ _ (truth_f (op == 3))).mono ?_
  rintro e w2 ⟨rfl, h2⟩
  refine ⟨_, rfl, ?_⟩
  have n0_ := Aside0.mk (BI.below HI.out.drew h2)
  clear h2 HI
  have HI := n0_
  clear n0_
  refine hK.out _ _ ⟨HI.out.o, HI.out.a0, HI.out.a1, HI.out.a2, HI.out.v0, HI.out.v1, HI.out.v2⟩ (fun hHeld => ?_)
  clear hK K
  refine norm_ (a' := ?_) ?_ ?_
  rotate_left
  · show Act.put _ (some 61) _ = _
    simp only [Act.put, List.setIfInBounds_toArray, List.set_cons_zero, List.set_cons_succ, i64_w, i32_w]
    rfl
  refine one_ (i := 5) (N := some 62) #[true, true, true, true, true, true, false] rfl rfl (by kernel_rfl) (by decide) (fun K hK => ?_)
  refine goes_ Try.func40 (by kernel_rfl) rfl #[.agg #[.int .i64 u.f0, .int .i64 u.f1, .string u.f2], .agg #[.int .i64 v.f0, .int .i64 v.f1, .string v.f2], .agg #[.int .i64 (truthV (op == 3)).f0, .int .i64 (truthV (op == 3)).f1, .string (truthV (op == 3)).f2]] (by rfl) rfl rfl (by simp only [List.map_toArray, List.map_cons, List.map_nil]; rfl) ?_
  with_reducible refine (logic_calls u v (truthV (op == 3)) _).mono ?_
  rintro e w2 ⟨rfl, h2⟩
  refine ⟨_, rfl, ?_⟩
  have n0_ := Aside0.mk (BI.below HI.out h2)
  clear h2 HI
  have HI := n0_
  clear n0_
  refine hK.out _ _ ⟨HI.out.o, HI.out.a0, HI.out.a1, HI.out.a2, HI.out.v0, HI.out.v1, HI.out.v2⟩ (fun hHeld => ?_)
  clear hK K
  refine norm_ (a' := ?_) ?_ ?_
  rotate_left
  · show Act.put _ (some 62) _ = _
    simp only [Act.put, List.setIfInBounds_toArray, List.set_cons_zero, List.set_cons_succ, i64_w, i32_w]
    rfl
  refine last_ (i := 6) (N := none) #[true, true, true, true, true, true, true] rfl rfl (by kernel_rfl) (by decide) (fun K hK => ?_)
  have gc0 : World.cell? _ ⟨W.heap.size, 0, none⟩ = some (.int .i64 0) := (blk_cell HI.out.2.2.2.1 0).trans rfl
  have gc1 : World.cell? _ ⟨W.heap.size, 1, none⟩ = some (.int .i64 0) := (blk_cell HI.out.2.2.2.1 1).trans rfl
  have gc2 : World.cell? _ ⟨W.heap.size, 2, none⟩ = some (.string (⟨#[]⟩ : ByteArray)) := (blk_cell HI.out.2.2.2.1 2).trans rfl
  have gf0 := blk_frozen HI.out.2.2.2.1 0
  have gf1 := blk_frozen HI.out.2.2.2.1 1
  have gf2 := blk_frozen HI.out.2.2.2.1 2
  refine skip_ (w1 := ?_) (by rfl) rfl ?_ ?_
  rotate_left
  · go_simp
    rfl
  refine hK.out _ _ ?_
  clear hK K
  refine done_ (by kernel_rfl) ?_
  go_wp2_with fail
  exact bodyPost_ret (v := encV (logicP u v (truthV (op == 3)))) (by simp [results, Try.results38, go_sem, encV, gc0, gc1, gc2]) rfl ⟨rfl, below_set3 HI.out.bel (Nat.le_refl W.heap.size) _ _ _ _ _ _⟩
set_option maxHeartbeats 2000000 in
set_option maxRecDepth 100000 in
theorem calc_Binary1.logic10 (op : Int) (u v : S25) (k : Int) (HK : Aside0 (calc_wants.f op = some k)) (b0 b1 b2 : Nat) (W : World) (h0 : W.heap[b0]? = some (.cells #[.int .i64 op] 3 (0, 0))) (h1 : W.heap[b1]? = some (.cells #[.int .i64 u.f0, .int .i64 u.f1, .string u.f2] 25 (0, 0))) (h2 : W.heap[b2]? = some (.cells #[.int .i64 v.f0, .int .i64 v.f1, .string v.f2] 25 (0, 0))) (l3 : 3 ≤ op) (l16 : op ≤ 16) (kn : ¬ k = 0) (l4 : op ≤ 4) (a0 : u.f0 = 0) (z0 : ¬ v.f0 = 0) (zk : v.f0 = k) :
    Calls Try.prog 38 #[.pointer (some ⟨b0, 0, none⟩), .pointer (some ⟨b1, 0, none⟩), .pointer (some ⟨b2, 0, none⟩)] W (fun e w' => RE (.ok (logicP u v (truthV (op == 3)))) e ∧ Below W.heap.size W w') := by
  have hu25 := Try.underlying25
  have n0 : ¬ b0 = W.heap.size := by have := blk_lt h0; omega
  have n1 : ¬ b1 = W.heap.size := by have := blk_lt h1; omega
  have n2 : ¬ b2 = W.heap.size := by have := blk_lt h2; omega
  have HS := Aside0.mk (BI.start h0 h1 h2)
  clear h0 h1 h2
  have hc0 := HS.out.o
  have ha0 := HS.out.a0
  have ha1 := HS.out.a1
  have ha2 := HS.out.a2
  have hb0 := HS.out.v0
  have hb1 := HS.out.v1
  have hb2 := HS.out.v2
  have q0 : decide (3 ≤ op) = true := decide_eq_true l3
  have q1 : decide (op ≤ 16) = true := decide_eq_true l16
  have q2 : (k != 0) = true := bne_iff_ne.mpr kn
  have q3 : decide (op ≤ 4) = true := decide_eq_true l4
  have q4 : (u.f0 == 0) = true := beq_iff_eq.mpr a0
  have q5 : (v.f0 == 0) = false := beq_eq_false_iff_ne.mpr z0
  have q6 : (u.f0 == k) = false := beq_eq_false_iff_ne.mpr (fun h => kn (h.symm.trans a0))
  have q7 : (v.f0 == k) = true := beq_iff_eq.mpr zk
  have l3' := Aside0.mk l3
  have l16' := Aside0.mk l16
  have kn' := Aside0.mk kn
  have l4' := Aside0.mk l4
  have a0' := Aside0.mk a0
  have z0' := Aside0.mk z0
  have zk' := Aside0.mk zk
  clear l3 l16 kn l4 a0 z0 zk
  go_enter Try.func38, Try.ntmps38
  go_wp2_with (first | (go_at_call 39; (with_reducible refine (calc_wants.calls op k _ HK.out).mono ?_); rintro e w' ⟨rfl, ⟨nd, rfl⟩⟩) | (go_at_call 30; (with_reducible refine (calc_check.yes _ _).mono ?_); rintro e w' ⟨rfl, rfl⟩) | (go_at_call 30; (with_reducible refine (calc_check.no _ _).mono ?_); rintro e w' ⟨rfl, rfl⟩))
  refine at_world (fun w' => BI op u v b0 b1 b2 W w') (by repeat (first | exact HS.out | refine BI.drewN ?_ _ | refine BI.drew ?_)) (fun w1 hI => ?_)
  have HI := Aside0.mk hI
  clear hI hc0 ha0 ha1 ha2 hb0 hb1 hb2
  refine start_ (n := 7) (S := fun w' => w'.cell? ⟨b0, 0, none⟩ = some (.int .i64 op) ∧ w'.cell? ⟨b1, 0, none⟩ = some (.int .i64 u.f0) ∧ w'.cell? ⟨b1, 1, none⟩ = some (.int .i64 u.f1) ∧ w'.cell? ⟨b1, 2, none⟩ = some (.string u.f2) ∧ w'.cell? ⟨b2, 0, none⟩ = some (.int .i64 v.f0) ∧ w'.cell? ⟨b2, 1, none⟩ = some (.int .i64 v.f1) ∧ w'.cell? ⟨b2, 2, none⟩ = some (.string v.f2)) (ds := [6]) #[false, false, false, false, false, false, false] (by kernel_rfl) rfl rfl ⟨HI.out.o, HI.out.a0, HI.out.a1, HI.out.a2, HI.out.v0, HI.out.v1, HI.out.v2⟩ (fun hHeld => ?_)
  refine take_ (i := 0) (N := some 57) (v := ?_) (a' := ?_) #[true, false, false, false, false, false, false] rfl rfl (by kernel_rfl) (fun _ _ _ h => h) (Or.inl ⟨by rfl, ?_⟩) hHeld ?_ ?_
  rotate_left
  · rintro w' ⟨s0, s1, s2, s3, s4, s5, s6⟩
    go_simp
    with_reducible rfl
  rotate_left
  · simp only [Act.put, List.setIfInBounds_toArray, List.set_cons_zero, List.set_cons_succ, i64_w, i32_w]
    rfl
  refine take_ (i := 1) (N := some 58) (v := ?_) (a' := ?_) #[true, true, false, false, false, false, false] rfl rfl (by kernel_rfl) (fun _ _ _ h => h) (Or.inl ⟨by rfl, ?_⟩) hHeld ?_ ?_
  rotate_left
  · rintro w' ⟨s0, s1, s2, s3, s4, s5, s6⟩
    go_simp
    with_reducible rfl
  rotate_left
  · simp only [Act.put, List.setIfInBounds_toArray, List.set_cons_zero, List.set_cons_succ, i64_w, i32_w]
    rfl
  refine take_ (i := 2) (N := some 59) (v := ?_) (a' := ?_) #[true, true, true, false, false, false, false] rfl rfl (by kernel_rfl) (fun _ _ _ h => h) (Or.inl ⟨by rfl, ?_⟩) hHeld ?_ ?_
  rotate_left
  · rintro w' ⟨s0, s1, s2, s3, s4, s5, s6⟩
    go_simp
    with_reducible rfl
  rotate_left
  · simp only [Act.put, List.setIfInBounds_toArray, List.set_cons_zero, List.set_cons_succ, i64_w, i32_w]
    rfl
  refine pure_ (i := 3) (N := some 60) (v := ?_) (a' := ?_) #[true, true, true, true, false, false, false] rfl rfl (by kernel_rfl) (fun _ _ _ h => h) (Or.inl ⟨by rfl, ?_⟩) ?_ ?_
  rotate_left
  · intro w'
    go_simp
    with_reducible rfl
  rotate_left
  · simp only [Act.put, List.setIfInBounds_toArray, List.set_cons_zero, List.set_cons_succ, i64_w, i32_w]
    rfl
  refine one_ (i := 4) (N := some 61) #[true, true, true, true, true, false, false] rfl rfl (by kernel_rfl) (by decide) (fun K hK => ?_)
  refine goes_ Try.func41 (by kernel_rfl) rfl #[.bool (op == 3)] (by rfl) rfl rfl (by simp only [List.map_toArray, List.map_cons, List.map_nil]; rfl) ?_
  with_reducible refine (calc_truth.calls (op == 3) _ _ _ _ (truth_f (op == 3))).mono ?_
  rintro e w2 ⟨rfl, h2⟩
  refine ⟨_, rfl, ?_⟩
  have n0_ := Aside0.mk (BI.below HI.out.drew h2)
  clear h2 HI
  have HI := n0_
  clear n0_
  refine hK.out _ _ ⟨HI.out.o, HI.out.a0, HI.out.a1, HI.out.a2, HI.out.v0, HI.out.v1, HI.out.v2⟩ (fun hHeld => ?_)
  clear hK K
  refine norm_ (a' := ?_) ?_ ?_
  rotate_left
  · show Act.put _ (some 61) _ = _
    simp only [Act.put, List.setIfInBounds_toArray, List.set_cons_zero, List.set_cons_succ, i64_w, i32_w]
    rfl
  refine one_ (i := 5) (N := some 62) #[true, true, true, true, true, true, false] rfl rfl (by kernel_rfl) (by decide) (fun K hK => ?_)
  refine goes_ Try.func40 (by kernel_rfl) rfl #[.agg #[.int .i64 u.f0, .int .i64 u.f1, .string u.f2], .agg #[.int .i64 v.f0, .int .i64 v.f1, .string v.f2], .agg #[.int .i64 (truthV (op == 3)).f0, .int .i64 (truthV (op == 3)).f1, .string (truthV (op == 3)).f2]] (by rfl) rfl rfl (by simp only [List.map_toArray, List.map_cons, List.map_nil]; rfl) ?_
  with_reducible refine (logic_calls u v (truthV (op == 3)) _).mono ?_
  rintro e w2 ⟨rfl, h2⟩
  refine ⟨_, rfl, ?_⟩
  have n0_ := Aside0.mk (BI.below HI.out h2)
  clear h2 HI
  have HI := n0_
  clear n0_
  refine hK.out _ _ ⟨HI.out.o, HI.out.a0, HI.out.a1, HI.out.a2, HI.out.v0, HI.out.v1, HI.out.v2⟩ (fun hHeld => ?_)
  clear hK K
  refine norm_ (a' := ?_) ?_ ?_
  rotate_left
  · show Act.put _ (some 62) _ = _
    simp only [Act.put, List.setIfInBounds_toArray, List.set_cons_zero, List.set_cons_succ, i64_w, i32_w]
    rfl
  refine last_ (i := 6) (N := none) #[true, true, true, true, true, true, true] rfl rfl (by kernel_rfl) (by decide) (fun K hK => ?_)
  have gc0 : World.cell? _ ⟨W.heap.size, 0, none⟩ = some (.int .i64 0) := (blk_cell HI.out.2.2.2.1 0).trans rfl
  have gc1 : World.cell? _ ⟨W.heap.size, 1, none⟩ = some (.int .i64 0) := (blk_cell HI.out.2.2.2.1 1).trans rfl
  have gc2 : World.cell? _ ⟨W.heap.size, 2, none⟩ = some (.string (⟨#[]⟩ : ByteArray)) := (blk_cell HI.out.2.2.2.1 2).trans rfl
  have gf0 := blk_frozen HI.out.2.2.2.1 0
  have gf1 := blk_frozen HI.out.2.2.2.1 1
  have gf2 := blk_frozen HI.out.2.2.2.1 2
  refine skip_ (w1 := ?_) (by rfl) rfl ?_ ?_
  rotate_left
  · go_simp
    rfl
  refine hK.out _ _ ?_
  clear hK K
  refine done_ (by kernel_rfl) ?_
  go_wp2_with fail
  exact bodyPost_ret (v := encV (logicP u v (truthV (op == 3)))) (by simp [results, Try.results38, go_sem, encV, gc0, gc1, gc2]) rfl ⟨rfl, below_set3 HI.out.bel (Nat.le_refl W.heap.size) _ _ _ _ _ _⟩
set_option maxHeartbeats 2000000 in
set_option maxRecDepth 100000 in
theorem calc_Binary1.logic01 (op : Int) (u v : S25) (k : Int) (HK : Aside0 (calc_wants.f op = some k)) (b0 b1 b2 : Nat) (W : World) (h0 : W.heap[b0]? = some (.cells #[.int .i64 op] 3 (0, 0))) (h1 : W.heap[b1]? = some (.cells #[.int .i64 u.f0, .int .i64 u.f1, .string u.f2] 25 (0, 0))) (h2 : W.heap[b2]? = some (.cells #[.int .i64 v.f0, .int .i64 v.f1, .string v.f2] 25 (0, 0))) (l3 : 3 ≤ op) (l16 : op ≤ 16) (kn : ¬ k = 0) (l4 : op ≤ 4) (a0 : ¬ u.f0 = 0) (z0 : v.f0 = 0) (ak : u.f0 = k) :
    Calls Try.prog 38 #[.pointer (some ⟨b0, 0, none⟩), .pointer (some ⟨b1, 0, none⟩), .pointer (some ⟨b2, 0, none⟩)] W (fun e w' => RE (.ok (logicP u v (truthV (op == 3)))) e ∧ Below W.heap.size W w') := by
  have hu25 := Try.underlying25
  have n0 : ¬ b0 = W.heap.size := by have := blk_lt h0; omega
  have n1 : ¬ b1 = W.heap.size := by have := blk_lt h1; omega
  have n2 : ¬ b2 = W.heap.size := by have := blk_lt h2; omega
  have HS := Aside0.mk (BI.start h0 h1 h2)
  clear h0 h1 h2
  have hc0 := HS.out.o
  have ha0 := HS.out.a0
  have ha1 := HS.out.a1
  have ha2 := HS.out.a2
  have hb0 := HS.out.v0
  have hb1 := HS.out.v1
  have hb2 := HS.out.v2
  have q0 : decide (3 ≤ op) = true := decide_eq_true l3
  have q1 : decide (op ≤ 16) = true := decide_eq_true l16
  have q2 : (k != 0) = true := bne_iff_ne.mpr kn
  have q3 : decide (op ≤ 4) = true := decide_eq_true l4
  have q4 : (u.f0 == 0) = false := beq_eq_false_iff_ne.mpr a0
  have q5 : (v.f0 == 0) = true := beq_iff_eq.mpr z0
  have q6 : (u.f0 == k) = true := beq_iff_eq.mpr ak
  have q7 : (v.f0 == k) = false := beq_eq_false_iff_ne.mpr (fun h => kn (h.symm.trans z0))
  have l3' := Aside0.mk l3
  have l16' := Aside0.mk l16
  have kn' := Aside0.mk kn
  have l4' := Aside0.mk l4
  have a0' := Aside0.mk a0
  have z0' := Aside0.mk z0
  have ak' := Aside0.mk ak
  clear l3 l16 kn l4 a0 z0 ak
  go_enter Try.func38, Try.ntmps38
  go_wp2_with (first | (go_at_call 39; (with_reducible refine (calc_wants.calls op k _ HK.out).mono ?_); rintro e w' ⟨rfl, ⟨nd, rfl⟩⟩) | (go_at_call 30; (with_reducible refine (calc_check.yes _ _).mono ?_); rintro e w' ⟨rfl, rfl⟩) | (go_at_call 30; (with_reducible refine (calc_check.no _ _).mono ?_); rintro e w' ⟨rfl, rfl⟩))
  refine at_world (fun w' => BI op u v b0 b1 b2 W w') (by repeat (first | exact HS.out | refine BI.drewN ?_ _ | refine BI.drew ?_)) (fun w1 hI => ?_)
  have HI := Aside0.mk hI
  clear hI hc0 ha0 ha1 ha2 hb0 hb1 hb2
  refine start_ (n := 7) (S := fun w' => w'.cell? ⟨b0, 0, none⟩ = some (.int .i64 op) ∧ w'.cell? ⟨b1, 0, none⟩ = some (.int .i64 u.f0) ∧ w'.cell? ⟨b1, 1, none⟩ = some (.int .i64 u.f1) ∧ w'.cell? ⟨b1, 2, none⟩ = some (.string u.f2) ∧ w'.cell? ⟨b2, 0, none⟩ = some (.int .i64 v.f0) ∧ w'.cell? ⟨b2, 1, none⟩ = some (.int .i64 v.f1) ∧ w'.cell? ⟨b2, 2, none⟩ = some (.string v.f2)) (ds := [6]) #[false, false, false, false, false, false, false] (by kernel_rfl) rfl rfl ⟨HI.out.o, HI.out.a0, HI.out.a1, HI.out.a2, HI.out.v0, HI.out.v1, HI.out.v2⟩ (fun hHeld => ?_)
  refine take_ (i := 0) (N := some 57) (v := ?_) (a' := ?_) #[true, false, false, false, false, false, false] rfl rfl (by kernel_rfl) (fun _ _ _ h => h) (Or.inl ⟨by rfl, ?_⟩) hHeld ?_ ?_
  rotate_left
  · rintro w' ⟨s0, s1, s2, s3, s4, s5, s6⟩
    go_simp
    with_reducible rfl
  rotate_left
  · simp only [Act.put, List.setIfInBounds_toArray, List.set_cons_zero, List.set_cons_succ, i64_w, i32_w]
    rfl
  refine take_ (i := 1) (N := some 58) (v := ?_) (a' := ?_) #[true, true, false, false, false, false, false] rfl rfl (by kernel_rfl) (fun _ _ _ h => h) (Or.inl ⟨by rfl, ?_⟩) hHeld ?_ ?_
  rotate_left
  · rintro w' ⟨s0, s1, s2, s3, s4, s5, s6⟩
    go_simp
    with_reducible rfl
  rotate_left
  · simp only [Act.put, List.setIfInBounds_toArray, List.set_cons_zero, List.set_cons_succ, i64_w, i32_w]
    rfl
  refine take_ (i := 2) (N := some 59) (v := ?_) (a' := ?_) #[true, true, true, false, false, false, false] rfl rfl (by kernel_rfl) (fun _ _ _ h => h) (Or.inl ⟨by rfl, ?_⟩) hHeld ?_ ?_
  rotate_left
  · rintro w' ⟨s0, s1, s2, s3, s4, s5, s6⟩
    go_simp
    with_reducible rfl
  rotate_left
  · simp only [Act.put, List.setIfInBounds_toArray, List.set_cons_zero, List.set_cons_succ, i64_w, i32_w]
    rfl
  refine pure_ (i := 3) (N := some 60) (v := ?_) (a' := ?_) #[true, true, true, true, false, false, false] rfl rfl (by kernel_rfl) (fun _ _ _ h => h) (Or.inl ⟨by rfl, ?_⟩) ?_ ?_
  rotate_left
  · intro w'
    go_simp
    with_reducible rfl
  rotate_left
  · simp only [Act.put, List.setIfInBounds_toArray, List.set_cons_zero, List.set_cons_succ, i64_w, i32_w]
    rfl
  refine one_ (i := 4) (N := some 61) #[true, true, true, true, true, false, false] rfl rfl (by kernel_rfl) (by decide) (fun K hK => ?_)
  refine goes_ Try.func41 (by kernel_rfl) rfl #[.bool (op == 3)] (by rfl) rfl rfl (by simp only [List.map_toArray, List.map_cons, List.map_nil]; rfl) ?_
  with_reducible refine (calc_truth.calls (op == 3) _ _ _ _ (truth_f (op == 3))).mono ?_
  rintro e w2 ⟨rfl, h2⟩
  refine ⟨_, rfl, ?_⟩
  have n0_ := Aside0.mk (BI.below HI.out.drew h2)
  clear h2 HI
  have HI := n0_
  clear n0_
  refine hK.out _ _ ⟨HI.out.o, HI.out.a0, HI.out.a1, HI.out.a2, HI.out.v0, HI.out.v1, HI.out.v2⟩ (fun hHeld => ?_)
  clear hK K
  refine norm_ (a' := ?_) ?_ ?_
  rotate_left
  · show Act.put _ (some 61) _ = _
    simp only [Act.put, List.setIfInBounds_toArray, List.set_cons_zero, List.set_cons_succ, i64_w, i32_w]
    rfl
  refine one_ (i := 5) (N := some 62) #[true, true, true, true, true, true, false] rfl rfl (by kernel_rfl) (by decide) (fun K hK => ?_)
  refine goes_ Try.func40 (by kernel_rfl) rfl #[.agg #[.int .i64 u.f0, .int .i64 u.f1, .string u.f2], .agg #[.int .i64 v.f0, .int .i64 v.f1, .string v.f2], .agg #[.int .i64 (truthV (op == 3)).f0, .int .i64 (truthV (op == 3)).f1, .string (truthV (op == 3)).f2]] (by rfl) rfl rfl (by simp only [List.map_toArray, List.map_cons, List.map_nil]; rfl) ?_
  with_reducible refine (logic_calls u v (truthV (op == 3)) _).mono ?_
  rintro e w2 ⟨rfl, h2⟩
  refine ⟨_, rfl, ?_⟩
  have n0_ := Aside0.mk (BI.below HI.out h2)
  clear h2 HI
  have HI := n0_
  clear n0_
  refine hK.out _ _ ⟨HI.out.o, HI.out.a0, HI.out.a1, HI.out.a2, HI.out.v0, HI.out.v1, HI.out.v2⟩ (fun hHeld => ?_)
  clear hK K
  refine norm_ (a' := ?_) ?_ ?_
  rotate_left
  · show Act.put _ (some 62) _ = _
    simp only [Act.put, List.setIfInBounds_toArray, List.set_cons_zero, List.set_cons_succ, i64_w, i32_w]
    rfl
  refine last_ (i := 6) (N := none) #[true, true, true, true, true, true, true] rfl rfl (by kernel_rfl) (by decide) (fun K hK => ?_)
  have gc0 : World.cell? _ ⟨W.heap.size, 0, none⟩ = some (.int .i64 0) := (blk_cell HI.out.2.2.2.1 0).trans rfl
  have gc1 : World.cell? _ ⟨W.heap.size, 1, none⟩ = some (.int .i64 0) := (blk_cell HI.out.2.2.2.1 1).trans rfl
  have gc2 : World.cell? _ ⟨W.heap.size, 2, none⟩ = some (.string (⟨#[]⟩ : ByteArray)) := (blk_cell HI.out.2.2.2.1 2).trans rfl
  have gf0 := blk_frozen HI.out.2.2.2.1 0
  have gf1 := blk_frozen HI.out.2.2.2.1 1
  have gf2 := blk_frozen HI.out.2.2.2.1 2
  refine skip_ (w1 := ?_) (by rfl) rfl ?_ ?_
  rotate_left
  · go_simp
    rfl
  refine hK.out _ _ ?_
  clear hK K
  refine done_ (by kernel_rfl) ?_
  go_wp2_with fail
  exact bodyPost_ret (v := encV (logicP u v (truthV (op == 3)))) (by simp [results, Try.results38, go_sem, encV, gc0, gc1, gc2]) rfl ⟨rfl, below_set3 HI.out.bel (Nat.le_refl W.heap.size) _ _ _ _ _ _⟩
set_option maxHeartbeats 2000000 in
set_option maxRecDepth 100000 in
theorem calc_Binary1.logic00 (op : Int) (u v : S25) (k : Int) (HK : Aside0 (calc_wants.f op = some k)) (b0 b1 b2 : Nat) (W : World) (h0 : W.heap[b0]? = some (.cells #[.int .i64 op] 3 (0, 0))) (h1 : W.heap[b1]? = some (.cells #[.int .i64 u.f0, .int .i64 u.f1, .string u.f2] 25 (0, 0))) (h2 : W.heap[b2]? = some (.cells #[.int .i64 v.f0, .int .i64 v.f1, .string v.f2] 25 (0, 0))) (l3 : 3 ≤ op) (l16 : op ≤ 16) (kn : ¬ k = 0) (l4 : op ≤ 4) (a0 : ¬ u.f0 = 0) (z0 : ¬ v.f0 = 0) (ak : u.f0 = k) (zk : v.f0 = k) :
    Calls Try.prog 38 #[.pointer (some ⟨b0, 0, none⟩), .pointer (some ⟨b1, 0, none⟩), .pointer (some ⟨b2, 0, none⟩)] W (fun e w' => RE (.ok (logicP u v (truthV (op == 3)))) e ∧ Below W.heap.size W w') := by
  have hu25 := Try.underlying25
  have n0 : ¬ b0 = W.heap.size := by have := blk_lt h0; omega
  have n1 : ¬ b1 = W.heap.size := by have := blk_lt h1; omega
  have n2 : ¬ b2 = W.heap.size := by have := blk_lt h2; omega
  have HS := Aside0.mk (BI.start h0 h1 h2)
  clear h0 h1 h2
  have hc0 := HS.out.o
  have ha0 := HS.out.a0
  have ha1 := HS.out.a1
  have ha2 := HS.out.a2
  have hb0 := HS.out.v0
  have hb1 := HS.out.v1
  have hb2 := HS.out.v2
  have q0 : decide (3 ≤ op) = true := decide_eq_true l3
  have q1 : decide (op ≤ 16) = true := decide_eq_true l16
  have q2 : (k != 0) = true := bne_iff_ne.mpr kn
  have q3 : decide (op ≤ 4) = true := decide_eq_true l4
  have q4 : (u.f0 == 0) = false := beq_eq_false_iff_ne.mpr a0
  have q5 : (v.f0 == 0) = false := beq_eq_false_iff_ne.mpr z0
  have q6 : (u.f0 == k) = true := beq_iff_eq.mpr ak
  have q7 : (v.f0 == k) = true := beq_iff_eq.mpr zk
  have l3' := Aside0.mk l3
  have l16' := Aside0.mk l16
  have kn' := Aside0.mk kn
  have l4' := Aside0.mk l4
  have a0' := Aside0.mk a0
  have z0' := Aside0.mk z0
  have ak' := Aside0.mk ak
  have zk' := Aside0.mk zk
  clear l3 l16 kn l4 a0 z0 ak zk
  go_enter Try.func38, Try.ntmps38
  go_wp2_with (first | (go_at_call 39; (with_reducible refine (calc_wants.calls op k _ HK.out).mono ?_); rintro e w' ⟨rfl, ⟨nd, rfl⟩⟩) | (go_at_call 30; (with_reducible refine (calc_check.yes _ _).mono ?_); rintro e w' ⟨rfl, rfl⟩) | (go_at_call 30; (with_reducible refine (calc_check.no _ _).mono ?_); rintro e w' ⟨rfl, rfl⟩))
  refine at_world (fun w' => BI op u v b0 b1 b2 W w') (by repeat (first | exact HS.out | refine BI.drewN ?_ _ | refine BI.drew ?_)) (fun w1 hI => ?_)
  have HI := Aside0.mk hI
  clear hI hc0 ha0 ha1 ha2 hb0 hb1 hb2
  refine start_ (n := 7) (S := fun w' => w'.cell? ⟨b0, 0, none⟩ = some (.int .i64 op) ∧ w'.cell? ⟨b1, 0, none⟩ = some (.int .i64 u.f0) ∧ w'.cell? ⟨b1, 1, none⟩ = some (.int .i64 u.f1) ∧ w'.cell? ⟨b1, 2, none⟩ = some (.string u.f2) ∧ w'.cell? ⟨b2, 0, none⟩ = some (.int .i64 v.f0) ∧ w'.cell? ⟨b2, 1, none⟩ = some (.int .i64 v.f1) ∧ w'.cell? ⟨b2, 2, none⟩ = some (.string v.f2)) (ds := [6]) #[false, false, false, false, false, false, false] (by kernel_rfl) rfl rfl ⟨HI.out.o, HI.out.a0, HI.out.a1, HI.out.a2, HI.out.v0, HI.out.v1, HI.out.v2⟩ (fun hHeld => ?_)
  refine take_ (i := 0) (N := some 57) (v := ?_) (a' := ?_) #[true, false, false, false, false, false, false] rfl rfl (by kernel_rfl) (fun _ _ _ h => h) (Or.inl ⟨by rfl, ?_⟩) hHeld ?_ ?_
  rotate_left
  · rintro w' ⟨s0, s1, s2, s3, s4, s5, s6⟩
    go_simp
    with_reducible rfl
  rotate_left
  · simp only [Act.put, List.setIfInBounds_toArray, List.set_cons_zero, List.set_cons_succ, i64_w, i32_w]
    rfl
  refine take_ (i := 1) (N := some 58) (v := ?_) (a' := ?_) #[true, true, false, false, false, false, false] rfl rfl (by kernel_rfl) (fun _ _ _ h => h) (Or.inl ⟨by rfl, ?_⟩) hHeld ?_ ?_
  rotate_left
  · rintro w' ⟨s0, s1, s2, s3, s4, s5, s6⟩
    go_simp
    with_reducible rfl
  rotate_left
  · simp only [Act.put, List.setIfInBounds_toArray, List.set_cons_zero, List.set_cons_succ, i64_w, i32_w]
    rfl
  refine take_ (i := 2) (N := some 59) (v := ?_) (a' := ?_) #[true, true, true, false, false, false, false] rfl rfl (by kernel_rfl) (fun _ _ _ h => h) (Or.inl ⟨by rfl, ?_⟩) hHeld ?_ ?_
  rotate_left
  · rintro w' ⟨s0, s1, s2, s3, s4, s5, s6⟩
    go_simp
    with_reducible rfl
  rotate_left
  · simp only [Act.put, List.setIfInBounds_toArray, List.set_cons_zero, List.set_cons_succ, i64_w, i32_w]
    rfl
  refine pure_ (i := 3) (N := some 60) (v := ?_) (a' := ?_) #[true, true, true, true, false, false, false] rfl rfl (by kernel_rfl) (fun _ _ _ h => h) (Or.inl ⟨by rfl, ?_⟩) ?_ ?_
  rotate_left
  · intro w'
    go_simp
    with_reducible rfl
  rotate_left
  · simp only [Act.put, List.setIfInBounds_toArray, List.set_cons_zero, List.set_cons_succ, i64_w, i32_w]
    rfl
  refine one_ (i := 4) (N := some 61) #[true, true, true, true, true, false, false] rfl rfl (by kernel_rfl) (by decide) (fun K hK => ?_)
  refine goes_ Try.func41 (by kernel_rfl) rfl #[.bool (op == 3)] (by rfl) rfl rfl (by simp only [List.map_toArray, List.map_cons, List.map_nil]; rfl) ?_
  with_reducible refine (calc_truth.calls (op == 3) _ _ _ _ (truth_f (op == 3))).mono ?_
  rintro e w2 ⟨rfl, h2⟩
  refine ⟨_, rfl, ?_⟩
  have n0_ := Aside0.mk (BI.below HI.out.drew h2)
  clear h2 HI
  have HI := n0_
  clear n0_
  refine hK.out _ _ ⟨HI.out.o, HI.out.a0, HI.out.a1, HI.out.a2, HI.out.v0, HI.out.v1, HI.out.v2⟩ (fun hHeld => ?_)
  clear hK K
  refine norm_ (a' := ?_) ?_ ?_
  rotate_left
  · show Act.put _ (some 61) _ = _
    simp only [Act.put, List.setIfInBounds_toArray, List.set_cons_zero, List.set_cons_succ, i64_w, i32_w]
    rfl
  refine one_ (i := 5) (N := some 62) #[true, true, true, true, true, true, false] rfl rfl (by kernel_rfl) (by decide) (fun K hK => ?_)
  refine goes_ Try.func40 (by kernel_rfl) rfl #[.agg #[.int .i64 u.f0, .int .i64 u.f1, .string u.f2], .agg #[.int .i64 v.f0, .int .i64 v.f1, .string v.f2], .agg #[.int .i64 (truthV (op == 3)).f0, .int .i64 (truthV (op == 3)).f1, .string (truthV (op == 3)).f2]] (by rfl) rfl rfl (by simp only [List.map_toArray, List.map_cons, List.map_nil]; rfl) ?_
  with_reducible refine (logic_calls u v (truthV (op == 3)) _).mono ?_
  rintro e w2 ⟨rfl, h2⟩
  refine ⟨_, rfl, ?_⟩
  have n0_ := Aside0.mk (BI.below HI.out h2)
  clear h2 HI
  have HI := n0_
  clear n0_
  refine hK.out _ _ ⟨HI.out.o, HI.out.a0, HI.out.a1, HI.out.a2, HI.out.v0, HI.out.v1, HI.out.v2⟩ (fun hHeld => ?_)
  clear hK K
  refine norm_ (a' := ?_) ?_ ?_
  rotate_left
  · show Act.put _ (some 62) _ = _
    simp only [Act.put, List.setIfInBounds_toArray, List.set_cons_zero, List.set_cons_succ, i64_w, i32_w]
    rfl
  refine last_ (i := 6) (N := none) #[true, true, true, true, true, true, true] rfl rfl (by kernel_rfl) (by decide) (fun K hK => ?_)
  have gc0 : World.cell? _ ⟨W.heap.size, 0, none⟩ = some (.int .i64 0) := (blk_cell HI.out.2.2.2.1 0).trans rfl
  have gc1 : World.cell? _ ⟨W.heap.size, 1, none⟩ = some (.int .i64 0) := (blk_cell HI.out.2.2.2.1 1).trans rfl
  have gc2 : World.cell? _ ⟨W.heap.size, 2, none⟩ = some (.string (⟨#[]⟩ : ByteArray)) := (blk_cell HI.out.2.2.2.1 2).trans rfl
  have gf0 := blk_frozen HI.out.2.2.2.1 0
  have gf1 := blk_frozen HI.out.2.2.2.1 1
  have gf2 := blk_frozen HI.out.2.2.2.1 2
  refine skip_ (w1 := ?_) (by rfl) rfl ?_ ?_
  rotate_left
  · go_simp
    rfl
  refine hK.out _ _ ?_
  clear hK K
  refine done_ (by kernel_rfl) ?_
  go_wp2_with fail
  exact bodyPost_ret (v := encV (logicP u v (truthV (op == 3)))) (by simp [results, Try.results38, go_sem, encV, gc0, gc1, gc2]) rfl ⟨rfl, below_set3 HI.out.bel (Nat.le_refl W.heap.size) _ _ _ _ _ _⟩
set_option maxHeartbeats 2000000 in
set_option maxRecDepth 100000 in
theorem calc_Binary1.cmp (op : Int) (u v : S25) (k : Int) (HK : Aside0 (calc_wants.f op = some k)) (b0 b1 b2 : Nat) (W : World) (h0 : W.heap[b0]? = some (.cells #[.int .i64 op] 3 (0, 0))) (h1 : W.heap[b1]? = some (.cells #[.int .i64 u.f0, .int .i64 u.f1, .string u.f2] 25 (0, 0))) (h2 : W.heap[b2]? = some (.cells #[.int .i64 v.f0, .int .i64 v.f1, .string v.f2] 25 (0, 0))) (l3 : 3 ≤ op) (l16 : op ≤ 16) (kz : k = 0) (l4 : ¬ op ≤ 4) (l10 : op ≤ 10) (a0 : ¬ u.f0 = 0) (z0 : ¬ v.f0 = 0) (uv : u.f0 = v.f0) :
    Calls Try.prog 38 #[.pointer (some ⟨b0, 0, none⟩), .pointer (some ⟨b1, 0, none⟩), .pointer (some ⟨b2, 0, none⟩)] W (fun e w' => RE (.ok (truthV (holdsP op (cmpV u v)))) e ∧ Below W.heap.size W w') := by
  have hu25 := Try.underlying25
  have n0 : ¬ b0 = W.heap.size := by have := blk_lt h0; omega
  have n1 : ¬ b1 = W.heap.size := by have := blk_lt h1; omega
  have n2 : ¬ b2 = W.heap.size := by have := blk_lt h2; omega
  have HS := Aside0.mk (BI.start h0 h1 h2)
  clear h0 h1 h2
  have hc0 := HS.out.o
  have ha0 := HS.out.a0
  have ha1 := HS.out.a1
  have ha2 := HS.out.a2
  have hb0 := HS.out.v0
  have hb1 := HS.out.v1
  have hb2 := HS.out.v2
  have q0 : decide (3 ≤ op) = true := decide_eq_true l3
  have q1 : decide (op ≤ 16) = true := decide_eq_true l16
  have q2 : (k != 0) = false := bne_eq_false_iff_eq.mpr kz
  have q3 : decide (op ≤ 4) = false := decide_eq_false l4
  have q4 : decide (op ≤ 10) = true := decide_eq_true l10
  have q5 : (u.f0 == 0) = false := beq_eq_false_iff_ne.mpr a0
  have q6 : (v.f0 == 0) = false := beq_eq_false_iff_ne.mpr z0
  have q7 : (u.f0 == v.f0) = true := beq_iff_eq.mpr uv
  have l3' := Aside0.mk l3
  have l16' := Aside0.mk l16
  have kz' := Aside0.mk kz
  have l4' := Aside0.mk l4
  have l10' := Aside0.mk l10
  have a0' := Aside0.mk a0
  have z0' := Aside0.mk z0
  have uv' := Aside0.mk uv
  clear l3 l16 kz l4 l10 a0 z0 uv
  go_enter Try.func38, Try.ntmps38
  go_wp2_with (first | (go_at_call 39; (with_reducible refine (calc_wants.calls op k _ HK.out).mono ?_); rintro e w' ⟨rfl, ⟨nd, rfl⟩⟩) | (go_at_call 30; (with_reducible refine (calc_check.yes _ _).mono ?_); rintro e w' ⟨rfl, rfl⟩) | (go_at_call 30; (with_reducible refine (calc_check.no _ _).mono ?_); rintro e w' ⟨rfl, rfl⟩))
  refine at_world (fun w' => BI op u v b0 b1 b2 W w') (by repeat (first | exact HS.out | refine BI.drewN ?_ _ | refine BI.drew ?_)) (fun w1 hI => ?_)
  have HI := Aside0.mk hI
  clear hI hc0 ha0 ha1 ha2 hb0 hb1 hb2
  refine start_ (n := 7) (S := fun w' => w'.cell? ⟨b0, 0, none⟩ = some (.int .i64 op) ∧ w'.cell? ⟨b1, 0, none⟩ = some (.int .i64 u.f0) ∧ w'.cell? ⟨b1, 1, none⟩ = some (.int .i64 u.f1) ∧ w'.cell? ⟨b1, 2, none⟩ = some (.string u.f2) ∧ w'.cell? ⟨b2, 0, none⟩ = some (.int .i64 v.f0) ∧ w'.cell? ⟨b2, 1, none⟩ = some (.int .i64 v.f1) ∧ w'.cell? ⟨b2, 2, none⟩ = some (.string v.f2)) (ds := [6]) #[false, false, false, false, false, false, false] (by kernel_rfl) rfl rfl ⟨HI.out.o, HI.out.a0, HI.out.a1, HI.out.a2, HI.out.v0, HI.out.v1, HI.out.v2⟩ (fun hHeld => ?_)
  refine take_ (i := 0) (N := some 69) (v := ?_) (a' := ?_) #[true, false, false, false, false, false, false] rfl rfl (by kernel_rfl) (fun _ _ _ h => h) (Or.inl ⟨by rfl, ?_⟩) hHeld ?_ ?_
  rotate_left
  · rintro w' ⟨s0, s1, s2, s3, s4, s5, s6⟩
    go_simp
    with_reducible rfl
  rotate_left
  · simp only [Act.put, List.setIfInBounds_toArray, List.set_cons_zero, List.set_cons_succ, i64_w, i32_w]
    rfl
  refine take_ (i := 1) (N := some 70) (v := ?_) (a' := ?_) #[true, true, false, false, false, false, false] rfl rfl (by kernel_rfl) (fun _ _ _ h => h) (Or.inl ⟨by rfl, ?_⟩) hHeld ?_ ?_
  rotate_left
  · rintro w' ⟨s0, s1, s2, s3, s4, s5, s6⟩
    go_simp
    with_reducible rfl
  rotate_left
  · simp only [Act.put, List.setIfInBounds_toArray, List.set_cons_zero, List.set_cons_succ, i64_w, i32_w]
    rfl
  refine take_ (i := 2) (N := some 71) (v := ?_) (a' := ?_) #[true, true, true, false, false, false, false] rfl rfl (by kernel_rfl) (fun _ _ _ h => h) (Or.inl ⟨by rfl, ?_⟩) hHeld ?_ ?_
  rotate_left
  · rintro w' ⟨s0, s1, s2, s3, s4, s5, s6⟩
    go_simp
    with_reducible rfl
  rotate_left
  · simp only [Act.put, List.setIfInBounds_toArray, List.set_cons_zero, List.set_cons_succ, i64_w, i32_w]
    rfl
  refine one_ (i := 3) (N := some 72) #[true, true, true, true, false, false, false] rfl rfl (by kernel_rfl) (by decide) (fun K hK => ?_)
  refine goes_ Try.func43 (by kernel_rfl) rfl #[.agg #[.int .i64 u.f0, .int .i64 u.f1, .string u.f2], .agg #[.int .i64 v.f0, .int .i64 v.f1, .string v.f2]] (by rfl) rfl rfl (by simp only [List.map_toArray, List.map_cons, List.map_nil]; rfl) ?_
  with_reducible refine (compare_calls u v _).mono ?_
  rintro e w2 ⟨rfl, h2⟩
  refine ⟨_, rfl, ?_⟩
  have n0_ := Aside0.mk (BI.below HI.out.drew h2)
  clear h2 HI
  have HI := n0_
  clear n0_
  refine hK.out _ _ ⟨HI.out.o, HI.out.a0, HI.out.a1, HI.out.a2, HI.out.v0, HI.out.v1, HI.out.v2⟩ (fun hHeld => ?_)
  clear hK K
  refine norm_ (a' := ?_) ?_ ?_
  rotate_left
  · show Act.put _ (some 72) _ = _
    simp only [Act.put, List.setIfInBounds_toArray, List.set_cons_zero, List.set_cons_succ, i64_w, i32_w]
    rfl
  refine one_ (i := 4) (N := some 73) #[true, true, true, true, true, false, false] rfl rfl (by kernel_rfl) (by decide) (fun K hK => ?_)
  refine goes_ Try.func42 (by kernel_rfl) rfl #[.int .i64 op, .int .i64 (cmpV u v)] (by rfl) rfl rfl (by simp only [List.map_toArray, List.map_cons, List.map_nil]; rfl) ?_
  with_reducible refine (calc_compared.calls op (cmpV u v) _ _ (holds_f op (cmpV u v))).mono ?_
  rintro e w2 ⟨rfl, ⟨nd3, rfl⟩⟩
  refine ⟨_, rfl, ?_⟩
  have n0_ := Aside0.mk (BI.drewN HI.out nd3)
  clear HI
  have HI := n0_
  clear n0_
  refine hK.out _ _ ⟨HI.out.o, HI.out.a0, HI.out.a1, HI.out.a2, HI.out.v0, HI.out.v1, HI.out.v2⟩ (fun hHeld => ?_)
  clear hK K
  refine norm_ (a' := ?_) ?_ ?_
  rotate_left
  · show Act.put _ (some 73) _ = _
    simp only [Act.put, List.setIfInBounds_toArray, List.set_cons_zero, List.set_cons_succ, i64_w, i32_w]
    rfl
  refine one_ (i := 5) (N := some 74) #[true, true, true, true, true, true, false] rfl rfl (by kernel_rfl) (by decide) (fun K hK => ?_)
  refine goes_ Try.func41 (by kernel_rfl) rfl #[.bool (holdsP op (cmpV u v))] (by rfl) rfl rfl (by simp only [List.map_toArray, List.map_cons, List.map_nil]; rfl) ?_
  with_reducible refine (calc_truth.calls (holdsP op (cmpV u v)) _ _ _ _ (truth_f (holdsP op (cmpV u v)))).mono ?_
  rintro e w2 ⟨rfl, h2⟩
  refine ⟨_, rfl, ?_⟩
  have n0_ := Aside0.mk (BI.below HI.out h2)
  clear h2 HI
  have HI := n0_
  clear n0_
  refine hK.out _ _ ⟨HI.out.o, HI.out.a0, HI.out.a1, HI.out.a2, HI.out.v0, HI.out.v1, HI.out.v2⟩ (fun hHeld => ?_)
  clear hK K
  refine norm_ (a' := ?_) ?_ ?_
  rotate_left
  · show Act.put _ (some 74) _ = _
    simp only [Act.put, List.setIfInBounds_toArray, List.set_cons_zero, List.set_cons_succ, i64_w, i32_w]
    rfl
  refine last_ (i := 6) (N := none) #[true, true, true, true, true, true, true] rfl rfl (by kernel_rfl) (by decide) (fun K hK => ?_)
  have gc0 : World.cell? _ ⟨W.heap.size, 0, none⟩ = some (.int .i64 0) := (blk_cell HI.out.2.2.2.1 0).trans rfl
  have gc1 : World.cell? _ ⟨W.heap.size, 1, none⟩ = some (.int .i64 0) := (blk_cell HI.out.2.2.2.1 1).trans rfl
  have gc2 : World.cell? _ ⟨W.heap.size, 2, none⟩ = some (.string (⟨#[]⟩ : ByteArray)) := (blk_cell HI.out.2.2.2.1 2).trans rfl
  have gf0 := blk_frozen HI.out.2.2.2.1 0
  have gf1 := blk_frozen HI.out.2.2.2.1 1
  have gf2 := blk_frozen HI.out.2.2.2.1 2
  refine skip_ (w1 := ?_) (by rfl) rfl ?_ ?_
  rotate_left
  · go_simp
    rfl
  refine hK.out _ _ ?_
  clear hK K
  refine done_ (by kernel_rfl) ?_
  go_wp2_with fail
  exact bodyPost_ret (v := encV (truthV (holdsP op (cmpV u v)))) (by simp [results, Try.results38, go_sem, encV, gc0, gc1, gc2]) rfl ⟨rfl, below_set3 HI.out.bel (Nat.le_refl W.heap.size) _ _ _ _ _ _⟩
end Go.Proofs.Ytfbeklbjlkgbnaa.P
end
section
namespace Go.Proofs.Ytfbeklbjlkgbnaa.P
open Go.RowKit Go.Proofs.Ytfbeklbjlkgbnaa.Pure Go.Proofs.YtfbeklbjlkgbnaaW.PrintWords Go.Proofs.YtfbeklbjlkgbnaaW.PrintLast Go.Proofs.YtfbeklbjlkgbnaaW.PrintMore
attribute [local go_sem] max2_int min2_int max_two min_two max_three min_three max_four min_four
set_option linter.unusedVariables false
set_option linter.unusedSimpArgs false
theorem wants_zero {op : Int} (h : wantsP op = 0) : ¬ op ≤ 4 ∧ op ≤ 10 := by
  unfold wantsP at h
  by_cases h4 : op ≤ 4
  · rw [if_pos h4] at h; omega
  · rw [if_neg h4] at h
    by_cases h10 : op ≤ 10
    · exact ⟨h4, h10⟩
    · rw [if_neg h10] at h
      by_cases h16 : op = 16
      · rw [if_pos h16] at h; omega
      · rw [if_neg h16] at h; omega
theorem wants_not {op : Int} (h : ¬ wantsP op = 0) (h4 : ¬ op ≤ 4) : ¬ op ≤ 10 := by
  intro h10
  unfold wantsP at h
  rw [if_neg h4, if_pos h10] at h
  exact h rfl
theorem calc_Binary1.calls (op : Int) (u v : S25) (hu : In64 u.f1) (hv : In64 v.f1) (hz : u.f2.size + v.f2.size < 9223372036854775808) (b0 b1 b2 : Nat) (W : World) (h0 : W.heap[b0]? = some (.cells #[.int .i64 op] 3 (0, 0))) (h1 : W.heap[b1]? = some (.cells #[.int .i64 u.f0, .int .i64 u.f1, .string u.f2] 25 (0, 0))) (h2 : W.heap[b2]? = some (.cells #[.int .i64 v.f0, .int .i64 v.f1, .string v.f2] 25 (0, 0))) :
    Calls Try.prog 38 #[.pointer (some ⟨b0, 0, none⟩), .pointer (some ⟨b1, 0, none⟩), .pointer (some ⟨b2, 0, none⟩)] W (fun e w' => RE (bin op u v) e ∧ Below W.heap.size W w') := by
  have HK : Aside0 (calc_wants.f op = some (wantsP op)) := ⟨wants_f op⟩
  unfold bin
  by_cases l3 : 3 ≤ op
  · by_cases l16 : op ≤ 16
    · rw [if_neg (fun h => h ⟨l3, l16⟩)]
      by_cases kz : wantsP op = 0
      · obtain ⟨l4, l10⟩ := wants_zero kz
        have hk : kindsP op u.f0 v.f0 = (u.f0 = 0 ∨ v.f0 = 0 ∨ u.f0 = v.f0) := by unfold kindsP; rw [if_neg (fun h => h kz)]
        by_cases a0 : u.f0 = 0
        · rw [if_neg (by rw [hk]; exact fun h => h (.inl a0)), if_neg l4, if_pos (.inl a0)]
          exact calc_Binary1.nullA op u v _ HK b0 b1 b2 W h0 h1 h2 l3 l16 kz l4 a0
        by_cases z0 : v.f0 = 0
        · rw [if_neg (by rw [hk]; exact fun h => h (.inr (.inl z0))), if_neg l4, if_pos (.inr z0)]
          exact calc_Binary1.nullB op u v _ HK b0 b1 b2 W h0 h1 h2 l3 l16 kz l4 a0 z0
        by_cases uv : u.f0 = v.f0
        · rw [if_neg (by rw [hk]; exact fun h => h (.inr (.inr uv))), if_neg l4, if_neg (fun h => h.elim a0 z0), if_pos l10]
          exact calc_Binary1.cmp op u v _ HK b0 b1 b2 W h0 h1 h2 l3 l16 kz l4 l10 a0 z0 uv
        · rw [if_pos (by rw [hk]; exact fun h => h.elim a0 (fun h => h.elim z0 uv))]
          exact calc_Binary1.kindC op u v _ HK b0 b1 b2 W h0 h1 h2 l3 l16 kz a0 z0 uv
      · have hk : kindsP op u.f0 v.f0 = ((u.f0 = wantsP op ∨ u.f0 = 0) ∧ (v.f0 = wantsP op ∨ v.f0 = 0)) := by unfold kindsP; rw [if_pos kz]
        by_cases ak : u.f0 = wantsP op ∨ u.f0 = 0
        · by_cases zk : v.f0 = wantsP op ∨ v.f0 = 0
          · rw [if_neg (by rw [hk]; exact fun h => h ⟨ak, zk⟩)]
            by_cases l4 : op ≤ 4
            · rw [if_pos l4]
              by_cases a0 : u.f0 = 0 <;> by_cases z0 : v.f0 = 0
              · exact calc_Binary1.logic11 op u v _ HK b0 b1 b2 W h0 h1 h2 l3 l16 kz l4 a0 z0
              · exact calc_Binary1.logic10 op u v _ HK b0 b1 b2 W h0 h1 h2 l3 l16 kz l4 a0 z0 (zk.resolve_right z0)
              · exact calc_Binary1.logic01 op u v _ HK b0 b1 b2 W h0 h1 h2 l3 l16 kz l4 a0 z0 (ak.resolve_right a0)
              · exact calc_Binary1.logic00 op u v _ HK b0 b1 b2 W h0 h1 h2 l3 l16 kz l4 a0 z0 (ak.resolve_right a0) (zk.resolve_right z0)
            rw [if_neg l4]
            have l10 := wants_not kz l4
            by_cases a0 : u.f0 = 0 <;> by_cases z0 : v.f0 = 0
            · rw [if_pos (.inl a0)]; exact calc_Binary1.nullK11 op u v _ HK b0 b1 b2 W h0 h1 h2 l3 l16 kz l4 a0 z0
            · rw [if_pos (.inl a0)]; exact calc_Binary1.nullK10 op u v _ HK b0 b1 b2 W h0 h1 h2 l3 l16 kz l4 a0 z0 (zk.resolve_right z0)
            · rw [if_pos (.inr z0)]; exact calc_Binary1.nullK01 op u v _ HK b0 b1 b2 W h0 h1 h2 l3 l16 kz l4 a0 z0 (ak.resolve_right a0)
            · rw [if_neg (fun h => h.elim a0 z0), if_neg l10]
              have ak' := ak.resolve_right a0
              have zk' := zk.resolve_right z0
              by_cases o16 : op = 16
              · rw [if_pos o16]
                by_cases hl : u.f2.size + v.f2.size ≤ 2048
                · rw [if_pos hl]; exact calc_Binary1.cat op u v _ HK b0 b1 b2 W h0 h1 h2 l3 l16 kz l4 l10 o16 a0 z0 ak' zk' hz hl
                · rw [if_neg hl]; exact calc_Binary1.catLong op u v _ HK b0 b1 b2 W h0 h1 h2 l3 l16 kz l4 l10 o16 a0 z0 ak' zk' hz hl
              · rw [if_neg o16]
                cases hn : sumP op u.f1 v.f1 with
                | ok n => exact calc_Binary1.num op u v _ HK b0 b1 b2 W h0 h1 h2 l3 l16 kz l4 l10 o16 a0 z0 ak' zk' n ⟨hn⟩ ⟨hu⟩ ⟨hv⟩
                | error c => exact calc_Binary1.numE op u v _ HK b0 b1 b2 W h0 h1 h2 l3 l16 kz l4 l10 o16 a0 z0 ak' zk' c ⟨hn⟩ ⟨hu⟩ ⟨hv⟩
          · rw [if_pos (by rw [hk]; exact fun h => zk h.2)]
            by_cases a0 : u.f0 = 0
            · exact calc_Binary1.kindB1 op u v _ HK b0 b1 b2 W h0 h1 h2 l3 l16 kz a0 (fun h => zk (.inr h)) (fun h => zk (.inl h))
            · exact calc_Binary1.kindB0 op u v _ HK b0 b1 b2 W h0 h1 h2 l3 l16 kz a0 (fun h => zk (.inr h)) (ak.resolve_right a0) (fun h => zk (.inl h))
        · rw [if_pos (by rw [hk]; exact fun h => ak h.1)]
          by_cases z0 : v.f0 = 0
          · exact calc_Binary1.kindA1 op u v _ HK b0 b1 b2 W h0 h1 h2 l3 l16 kz (fun h => ak (.inr h)) (fun h => ak (.inl h)) z0
          · exact calc_Binary1.kindA0 op u v _ HK b0 b1 b2 W h0 h1 h2 l3 l16 kz (fun h => ak (.inr h)) (fun h => ak (.inl h)) z0
    · rw [if_pos (fun h => l16 h.2)]
      exact calc_Binary1.high op u v _ HK b0 b1 b2 W h0 h1 h2 l3 l16
  · rw [if_pos (fun h => l3 h.1)]
    exact calc_Binary1.low op u v _ HK b0 b1 b2 W h0 h1 h2 l3
set_option maxHeartbeats 1000000 in
set_option maxRecDepth 100000 in
theorem calc_Binary.calls (op : Int) (u v : S25) (hu : In64 u.f1) (hv : In64 v.f1) (hz : u.f2.size + v.f2.size < 9223372036854775808) (w : World) :
    Calls Try.prog 17 #[.int .i64 op, .agg #[.int .i64 u.f0, .int .i64 u.f1, .string u.f2], .agg #[.int .i64 v.f0, .int .i64 v.f1, .string v.f2]] w fun e w' => e = .returned (.tuple #[encV (outE (bin op u v)).1, .int .i64 (outE (bin op u v)).2]) ∧ Below w.heap.size w w' := by
  have hu25 := Try.underlying25
  have hmf : ∀ (fn : Fn) (first cap : Array Value) (w : World), (Instr.makeFunc fn first cap).run Try.prog w = .ok (.func fn first cap) w := fun _ _ _ _ => rfl
  have HU := Aside0.mk hu
  have HV := Aside0.mk hv
  have HZ := Aside0.mk hz
  clear hu hv hz
  obtain ⟨r, hr⟩ : ∃ r, outE (bin op u v) = r := ⟨_, rfl⟩
  rw [hr]
  go_enter Try.func17, Try.ntmps17
  go_wp2_with fail
  obtain ⟨W, hW⟩ : ∃ W, (((w.alloc (.cells #[.int .i64 op] 3)).alloc (.cells #[.int .i64 u.f0, .int .i64 u.f1, .string u.f2] 25)).alloc (.cells #[.int .i64 v.f0, .int .i64 v.f1, .string v.f2] 25)).alloc (.cells #[.int .i64 0, .int .i64 0, .string (⟨#[]⟩ : ByteArray)] 25) = W := ⟨_, rfl⟩
  have F0 : W.heap[w.heap.size]? = some (.cells #[.int .i64 op] 3 (0, 0)) := by rw [← hW]; exact blk_alloc (blk_alloc (blk_alloc (Deep.blk_alloc_new w _) _) _) _
  have F1 : W.heap[w.heap.size + 1]? = some (.cells #[.int .i64 u.f0, .int .i64 u.f1, .string u.f2] 25 (0, 0)) := by
    have := Deep.blk_alloc_new (w.alloc (.cells #[.int .i64 op] 3)) (.cells #[.int .i64 u.f0, .int .i64 u.f1, .string u.f2] 25)
    rw [← hW]
    exact blk_alloc (blk_alloc (by simpa using this) _) _
  have F2 : W.heap[w.heap.size + 1 + 1]? = some (.cells #[.int .i64 v.f0, .int .i64 v.f1, .string v.f2] 25 (0, 0)) := by
    have := Deep.blk_alloc_new ((w.alloc (.cells #[.int .i64 op] 3)).alloc (.cells #[.int .i64 u.f0, .int .i64 u.f1, .string u.f2] 25)) (.cells #[.int .i64 v.f0, .int .i64 v.f1, .string v.f2] 25)
    rw [← hW]
    exact blk_alloc (by simpa using this) _
  have F3 : W.heap[w.heap.size + 1 + 1 + 1]? = some (.cells #[.int .i64 0, .int .i64 0, .string (⟨#[]⟩ : ByteArray)] 25 (0, 0)) := by
    have := Deep.blk_alloc_new (((w.alloc (.cells #[.int .i64 op] 3)).alloc (.cells #[.int .i64 u.f0, .int .i64 u.f1, .string u.f2] 25)).alloc (.cells #[.int .i64 v.f0, .int .i64 v.f1, .string v.f2] 25)) (.cells #[.int .i64 0, .int .i64 0, .string (⟨#[]⟩ : ByteArray)] 25)
    rw [← hW]
    simpa using this
  have FB : Below w.heap.size w W := by rw [← hW]; exact below_alloc (below_alloc (below_alloc (below_alloc (Below.refl _ _) _) _) _) _
  rw [hW]
  refine (calc_caught.b _ _ _ W (bin op u v) (fun W1 hb => calc_Binary1.calls op u v HU.out HV.out HZ.out _ _ _ W1 ((hb.block _ (blk_lt F0)).trans F0) ((hb.block _ (blk_lt F1)).trans F1) ((hb.block _ (blk_lt F2)).trans F2))).mono ?_
  rintro e w1 ⟨rfl, hb⟩
  have F4 := (hb.block _ (blk_lt F3)).trans F3
  have GB := Aside0.mk (below_step FB hb)
  rw [hr]
  obtain ⟨⟨x0, x1, x2⟩, c⟩ := r
  have g0 : w1.cell? ⟨w.heap.size + 1 + 1 + 1, 0, none⟩ = some (.int .i64 0) := (blk_cell F4 0).trans rfl
  have g1 : w1.cell? ⟨w.heap.size + 1 + 1 + 1, 1, none⟩ = some (.int .i64 0) := (blk_cell F4 1).trans rfl
  have g2 : w1.cell? ⟨w.heap.size + 1 + 1 + 1, 2, none⟩ = some (.string (⟨#[]⟩ : ByteArray)) := (blk_cell F4 2).trans rfl
  have gf0 := blk_frozen F4 0
  have gf1 := blk_frozen F4 1
  have gf2 := blk_frozen F4 2
  clear F0 F1 F2 F3 F4 FB hb hW
  simp only [encV]
  go_wp2_with fail
  exact bodyPost_ret (v := .tuple #[.agg #[.int .i64 x0, .int .i64 x1, .string x2], .int .i64 c]) (by simp [results, Try.results17, go_sem, g0, g1, g2]) rfl ⟨rfl, below_set3 GB.out (by omega) _ _ _ _ _ _⟩
end Go.Proofs.Ytfbeklbjlkgbnaa.P
end
section
namespace Go.Proofs.Ytfbeklbjlkgbnaa.P
open Go.RowKit Go.Proofs.YtfbeklbjlkgbnaaW.PrintWords Go.Proofs.YtfbeklbjlkgbnaaW.PrintLast Go.Proofs.YtfbeklbjlkgbnaaW.PrintMore
attribute [local go_sem] max2_int min2_int max_two min_two max_three min_three max_four min_four
set_option linter.unusedVariables false
set_option linter.unusedSimpArgs false
attribute [local go_sem high] eqA25
end Go.Proofs.Ytfbeklbjlkgbnaa.P
end
section
namespace Go.Proofs.Ytfbeklbjlkgbnaa.P
open Go.RowKit Go.Proofs.Ytfbeklbjlkgbnaa.Pure Go.Proofs.YtfbeklbjlkgbnaaW.PrintWords Go.Proofs.YtfbeklbjlkgbnaaW.PrintLast Go.Proofs.YtfbeklbjlkgbnaaW.PrintMore
set_option linter.unusedVariables false
set_option linter.unusedSimpArgs false
theorem goes_of {op a : Int} (h3 : 3 ≤ op) (h16 : op ≤ 16) (b : Bool) (hb : goesP op a = b) : ∃ k, quarryref02_goes.f k op a = some b := by
  obtain ⟨k, hk⟩ := (goes_ev h3 h16 a).get
  exact ⟨k, by rw [hk, hb]⟩
theorem refBinary.calls (op : Int) (u v : S25) (hu : In64 u.f1) (hv : In64 v.f1) (hz : u.f2.size + v.f2.size < 9223372036854775808) (hx : u.f2.size ≤ 140737488351232) (w : World) :
    Calls Try.prog 18 #[.int .i64 op, .agg #[.int .i64 u.f0, .int .i64 u.f1, .string u.f2], .agg #[.int .i64 v.f0, .int .i64 v.f1, .string v.f2]] w fun e w' => e = .returned (.tuple #[encV (outE (bin op u v)).1, .int .i64 (outE (bin op u v)).2]) ∧ Below w.heap.size w w' := by
  unfold bin
  by_cases l3 : 3 ≤ op
  · by_cases l16 : op ≤ 16
    · rw [if_neg (fun h => h ⟨l3, l16⟩)]
      have hg : kindsP op u.f0 v.f0 ↔ (goesP op u.f0 = true ∧ goesP op v.f0 = true ∧ (wantsP op = 0 → u.f0 = 0 ∨ v.f0 = 0 ∨ u.f0 = v.f0)) := by
        unfold kindsP goesP
        by_cases kz : wantsP op = 0
        · simp [kz]
        · simp [kz]
      cases hA : goesP op u.f0 with
      | false =>
        obtain ⟨kA, HA⟩ := goes_of l3 l16 false hA
        rw [if_pos (fun h => by rw [hg, hA] at h; exact absurd h.1 (by decide))]
        have a0 : ¬ u.f0 = 0 := fun h => by simp [goesP, h] at hA
        by_cases z0 : v.f0 = 0
        · exact refBinary.kindAB op u v w kA ⟨HA⟩ l3 l16 a0 z0
        · exact refBinary.kindAC op u v w kA ⟨HA⟩ l3 l16 a0 z0
      | true =>
      obtain ⟨kA, HA⟩ := goes_of l3 l16 true hA
      cases hB : goesP op v.f0 with
      | false =>
        obtain ⟨kB, HB⟩ := goes_of l3 l16 false hB
        rw [if_pos (fun h => by rw [hg, hB] at h; exact absurd h.2.1 (by decide))]
        have z0 : ¬ v.f0 = 0 := fun h => by simp [goesP, h] at hB
        by_cases a0 : u.f0 = 0
        · exact refBinary.kindBA op u v w kA ⟨HA⟩ kB ⟨HB⟩ l3 l16 a0
        · exact refBinary.kindBC op u v w kA ⟨HA⟩ kB ⟨HB⟩ l3 l16 a0 z0
      | true =>
      obtain ⟨kB, HB⟩ := goes_of l3 l16 true hB
      by_cases l4 : op ≤ 4
      · have kn : ¬ wantsP op = 0 := fun h => (wants_zero h).1 l4
        rw [if_neg (fun h => h (hg.2 ⟨hA, hB, fun q => absurd q kn⟩)), if_pos l4]
        by_cases a0 : u.f0 = 0
        · exact refBinary.logicA op u v w kA ⟨HA⟩ kB ⟨HB⟩ l3 l16 l4 a0
        by_cases z0 : v.f0 = 0
        · exact refBinary.logicB op u v w kA ⟨HA⟩ kB ⟨HB⟩ l3 l16 l4 a0 z0
        · exact refBinary.logicC op u v w kA ⟨HA⟩ kB ⟨HB⟩ l3 l16 l4 a0 z0
      by_cases l10 : op ≤ 10
      · have kz : wantsP op = 0 := by unfold wantsP; rw [if_neg l4, if_pos l10]
        have l5 : 5 ≤ op := by omega
        by_cases a0 : u.f0 = 0
        · rw [if_neg (fun h => h (hg.2 ⟨hA, hB, fun _ => .inl a0⟩)), if_neg l4, if_pos (.inl a0)]
          exact refBinary.nullMA op u v w kA ⟨HA⟩ kB ⟨HB⟩ l3 l16 l5 l10 a0
        by_cases z0 : v.f0 = 0
        · rw [if_neg (fun h => h (hg.2 ⟨hA, hB, fun _ => .inr (.inl z0)⟩)), if_neg l4, if_pos (.inr z0)]
          exact refBinary.nullMB op u v w kA ⟨HA⟩ kB ⟨HB⟩ l3 l16 l5 l10 a0 z0
        by_cases uv : u.f0 = v.f0
        · rw [if_neg (fun h => h (hg.2 ⟨hA, hB, fun _ => .inr (.inr uv)⟩)), if_neg l4, if_neg (fun h => h.elim a0 z0), if_pos l10]
          exact refBinary.cmp op u v w kA ⟨HA⟩ kB ⟨HB⟩ l3 l16 l5 l10 a0 z0 uv ⟨hx⟩
        · rw [if_pos (fun h => (((hg.1 h).2.2 kz).elim a0 (fun h => h.elim z0 uv)))]
          exact refBinary.differ op u v w kA ⟨HA⟩ kB ⟨HB⟩ l3 l16 l5 l10 a0 z0 uv
      have kn : ¬ wantsP op = 0 := fun h => l10 (wants_zero h).2
      rw [if_neg (fun h => h (hg.2 ⟨hA, hB, fun q => absurd q kn⟩)), if_neg l4]
      by_cases a0 : u.f0 = 0
      · rw [if_pos (.inl a0)]; exact refBinary.nullHA op u v w kA ⟨HA⟩ kB ⟨HB⟩ l3 l16 l10 a0
      by_cases z0 : v.f0 = 0
      · rw [if_pos (.inr z0)]; exact refBinary.nullHB op u v w kA ⟨HA⟩ kB ⟨HB⟩ l3 l16 l10 a0 z0
      rw [if_neg (fun h => h.elim a0 z0), if_neg l10]
      by_cases o16 : op = 16
      · rw [if_pos o16]
        by_cases hs : u.f2.size + v.f2.size ≤ 2048
        · rw [if_pos hs]; exact refBinary.cat op u v w kA ⟨HA⟩ kB ⟨HB⟩ l3 l16 l10 a0 z0 o16 hz hs
        · rw [if_neg hs]
          by_cases ha : 2048 < u.f2.size
          · exact refBinary.catA op u v w kA ⟨HA⟩ kB ⟨HB⟩ l3 l16 l10 a0 z0 o16 hz ha
          · exact refBinary.catB op u v w kA ⟨HA⟩ kB ⟨HB⟩ l3 l16 l10 a0 z0 o16 hz ha hs
      rw [if_neg o16]
      by_cases hd : 14 ≤ op ∧ v.f1 = 0
      · have hs : sumP op u.f1 v.f1 = .error 41 := by
          unfold sumP
          rw [if_neg (by omega), if_neg (by omega), if_neg (by omega), if_pos hd.2]
        rw [hs]
        exact refBinary.zero op u v w kA ⟨HA⟩ kB ⟨HB⟩ l3 l16 l10 a0 z0 o16 hd.1 hd.2
      · have hnz : 14 ≤ op → ¬ v.f1 = 0 := fun h q => hd ⟨h, q⟩
        rw [sumP_R hu hv hnz (by omega) (by omega)]
        obtain ⟨k, hk⟩ := (sumR_ev hu hv hnz (by omega)).get
        obtain ⟨⟨n, b⟩, hr⟩ : ∃ p, sumR op u.f1 v.f1 = p := ⟨_, rfl⟩
        rw [hr] at hk ⊢
        cases b with
        | true =>
          by_cases l14 : 14 ≤ op
          · exact refBinary.num1 op u v w kA ⟨HA⟩ kB ⟨HB⟩ l3 l16 l10 a0 z0 o16 l14 (hnz l14) k n ⟨hk⟩
          · exact refBinary.num0 op u v w kA ⟨HA⟩ kB ⟨HB⟩ l3 l16 l10 a0 z0 o16 l14 k n ⟨hk⟩
        | false =>
          by_cases l14 : 14 ≤ op
          · exact refBinary.over1 op u v w kA ⟨HA⟩ kB ⟨HB⟩ l3 l16 l10 a0 z0 o16 l14 (hnz l14) k n ⟨hk⟩
          · exact refBinary.over0 op u v w kA ⟨HA⟩ kB ⟨HB⟩ l3 l16 l10 a0 z0 o16 l14 k n ⟨hk⟩
    · rw [if_pos (fun h => l16 h.2)]
      exact refBinary.high op u v w l3 l16
  · rw [if_pos (fun h => l3 h.1)]
    exact refBinary.low op u v w l3
end Go.Proofs.Ytfbeklbjlkgbnaa.P
namespace Go.Proofs.Ytfbeklbjlkgbnaa.Pure
open Go.RowKit Go.Proofs.Ytfbeklbjlkgbnaa.P Go.Proofs.YtfbeklbjlkgbnaaW.PrintWords Go.Proofs.YtfbeklbjlkgbnaaW.PrintLast Go.Proofs.YtfbeklbjlkgbnaaW.PrintMore
theorem refUnary_ev (op : Int) (v : S25) (hI : In64 v.f1) (hn : v.f0 = 0 → v = zeroV) : Ev (fun k => quarryref02_Unary.f k op v.f0 v.f1 v.f2) ((outE (una op v)).1.f0, (outE (una op v)).1.f1, (outE (una op v)).1.f2, (outE (una op v)).2) := by
  have h2 : ∀ x, Ev (fun k => quarryref02_Unary.j2 k op x v.f0 v.f1 v.f2) (if x = true then (0, 0, V0, 35) else if op = 2 then ((truthV (v.f1 == 0)).f0, (truthV (v.f1 == 0)).f1, (truthV (v.f1 == 0)).f2, 0) else if v.f1 = -9223372036854775808 then (0, 0, V0, 40) else (2, wrap64 (-v.f1), V0, 0)) := by
    intro x
    refine Ev.succ ?_
    simp only [quarryref02_Unary.j2, truthR_f, Option.bind_some]
    cases x
    · simp only [Bool.false_eq_true, if_false]
      by_cases h : op = 2
      · simp only [if_pos h]; exact Ev.pure _
      · by_cases hm : v.f1 = -9223372036854775808
        · simp only [if_neg h, if_pos hm]; exact Ev.pure _
        · simp only [if_neg h, if_neg hm]; exact Ev.pure _
    · exact Ev.pure _
  have h1 : ∀ x, Ev (fun k => quarryref02_Unary.j1 k op x v.f0 v.f1 v.f2) (if (x || (op == 2 && v.f0 != 1)) = true then (0, 0, V0, 35) else if op = 2 then ((truthV (v.f1 == 0)).f0, (truthV (v.f1 == 0)).f1, (truthV (v.f1 == 0)).f2, 0) else if v.f1 = -9223372036854775808 then (0, 0, V0, 40) else (2, wrap64 (-v.f1), V0, 0)) := by
    intro x
    refine Ev.succ ?_
    simp only [quarryref02_Unary.j1]
    cases x
    · simp only [Bool.false_eq_true, if_false, Bool.false_or]
      by_cases h : op = 2
      · have := h2 (v.f0 != 1)
        simpa [h] using this
      · have := h2 false
        simpa [h] using this
    · exact h2 true
  have h0 : ∀ x, Ev (fun k => quarryref02_Unary.j0 k op x v.f0 v.f1 v.f2) (if x = true then (0, 0, V0, 5) else if v.f0 = 0 then (0, 0, V0, 0) else if ((op == 1 && v.f0 != 2) || (op == 2 && v.f0 != 1)) = true then (0, 0, V0, 35) else if op = 2 then ((truthV (v.f1 == 0)).f0, (truthV (v.f1 == 0)).f1, (truthV (v.f1 == 0)).f2, 0) else if v.f1 = -9223372036854775808 then (0, 0, V0, 40) else (2, wrap64 (-v.f1), V0, 0)) := by
    intro x
    refine Ev.succ ?_
    simp only [quarryref02_Unary.j0]
    cases x
    · simp only [Bool.false_eq_true, if_false]
      by_cases hn : v.f0 = 0
      · simp only [if_pos hn]; exact Ev.pure _
      · simp only [if_neg hn]
        by_cases h : op = 1
        · have := h1 (v.f0 != 2)
          simp only [if_pos h]
          simpa [h] using this
        · have := h1 false
          simp only [if_neg h]
          simpa [h] using this
    · exact Ev.pure _
  unfold quarryref02_Unary.f
  by_cases e1 : op = 1
  · simp only [if_pos e1]
    have := h0 false
    unfold una
    by_cases hk : v.f0 = 0
    · have hv := hn hk
      rw [hv] at this ⊢
      simpa [e1, outE, zeroV] using this
    · by_cases hk2 : v.f0 = 2
      · by_cases hm : v.f1 = -9223372036854775808
        · simpa [e1, hk, hk2, hm, outE] using this
        · have hw : wrap64 (-v.f1) = -v.f1 := by unfold In64 at hI; unfold wrap64; omega
          simpa [e1, hk, hk2, hm, hw, outE] using this
      · simpa [e1, hk, hk2, outE] using this
  · simp only [if_neg e1]
    by_cases e2 : op = 2
    · have := h0 false
      unfold una
      by_cases hk : v.f0 = 0
      · have hv := hn hk
        rw [hv] at this ⊢
        simpa [e1, e2, outE, zeroV] using this
      · by_cases hk1 : v.f0 = 1
        · have hd : (v.f1 == 0) = decide (v.f1 = 0) := rfl
          simpa [e1, e2, hk, hk1, outE, hd] using this
        · simpa [e1, e2, hk, hk1, outE] using this
    · have := h0 true
      have hb : (op != 2) = true := bne_iff_ne.mpr e2
      unfold una
      simp only [hb]
      simpa [e1, e2, outE] using this
end Go.Proofs.Ytfbeklbjlkgbnaa.Pure
namespace Go.Proofs.Ytfbeklbjlkgbnaa.P
open Go.RowKit Go.Proofs.Ytfbeklbjlkgbnaa.Pure Go.Proofs.YtfbeklbjlkgbnaaW.PrintWords Go.Proofs.YtfbeklbjlkgbnaaW.PrintLast Go.Proofs.YtfbeklbjlkgbnaaW.PrintMore
theorem refUnary.calls (op : Int) (v : S25) (hI : In64 v.f1) (hn : v.f0 = 0 → v = zeroV) (w : World) :
    Calls Try.prog 20 #[.int .i64 op, .agg #[.int .i64 v.f0, .int .i64 v.f1, .string v.f2]] w fun e w' => e = .returned (.tuple #[encV (outE (una op v)).1, .int .i64 (outE (una op v)).2]) ∧ Below w.heap.size w w' := by
  obtain ⟨k, hk⟩ := (refUnary_ev op v hI hn).get
  exact quarryref02_Unary.calls k _ _ _ _ _ _ _ _ w hk
end Go.Proofs.Ytfbeklbjlkgbnaa.P
end
section
namespace Go.Proofs.Ytfbeklbjlkgbnaa.P
open Go.RowKit Go.Proofs.Ytfbeklbjlkgbnaa.Pure Go.Proofs.YtfbeklbjlkgbnaaW.PrintWords Go.Proofs.YtfbeklbjlkgbnaaW.PrintLast Go.Proofs.YtfbeklbjlkgbnaaW.PrintMore
set_option linter.unusedVariables false
set_option linter.unusedSimpArgs false
def outT (r : Except Int S25) : Int × Int × ByteArray × Int := ((outE r).1.f0, (outE r).1.f1, (outE r).1.f2, (outE r).2)
def fits (u v : S25) : Prop := In64 u.f1 ∧ In64 v.f1 ∧ u.f2.size ≤ 140737488351232 ∧ v.f2.size ≤ 140737488351232
instance (u v : S25) : Decidable (fits u v) := by unfold fits; infer_instance
def calc_Binary.f (op a0 a1 : Int) (a2 : ByteArray) (b0 b1 : Int) (b2 : ByteArray) : Option (Int × Int × ByteArray × Int) := if fits ⟨a0, a1, a2⟩ ⟨b0, b1, b2⟩ then some (outT (bin op ⟨a0, a1, a2⟩ ⟨b0, b1, b2⟩)) else none
theorem calc_Binary.print (op a0 a1 : Int) (a2 : ByteArray) (b0 b1 : Int) (b2 : ByteArray) (r1 r2 : Int) (r3 : ByteArray) (r4 : Int) (w : World) (h : calc_Binary.f op a0 a1 a2 b0 b1 b2 = some (r1, r2, r3, r4)) :
    Calls Try.prog 17 #[.int .i64 op, .agg #[.int .i64 a0, .int .i64 a1, .string a2], .agg #[.int .i64 b0, .int .i64 b1, .string b2]] w fun e w' => e = .returned (.tuple #[.agg #[.int .i64 r1, .int .i64 r2, .string r3], .int .i64 r4]) ∧ Below w.heap.size w w' := by
  unfold calc_Binary.f at h
  by_cases hf : fits ⟨a0, a1, a2⟩ ⟨b0, b1, b2⟩
  · rw [if_pos hf, Option.some.injEq] at h
    have := calc_Binary.calls op ⟨a0, a1, a2⟩ ⟨b0, b1, b2⟩ hf.1 hf.2.1 (by have := hf.2.2; simp only at this; simp only; omega) w
    unfold outT at h
    obtain ⟨rfl, rfl, rfl, rfl⟩ : (outE (bin op ⟨a0, a1, a2⟩ ⟨b0, b1, b2⟩)).1.f0 = r1 ∧ (outE (bin op ⟨a0, a1, a2⟩ ⟨b0, b1, b2⟩)).1.f1 = r2 ∧ (outE (bin op ⟨a0, a1, a2⟩ ⟨b0, b1, b2⟩)).1.f2 = r3 ∧ (outE (bin op ⟨a0, a1, a2⟩ ⟨b0, b1, b2⟩)).2 = r4 := by simpa using h
    exact this
  · rw [if_neg hf] at h; cases h
end Go.Proofs.Ytfbeklbjlkgbnaa.P
end
section
namespace Go.Proofs.Ytfbeklbjlkgbnaa.P
open Go.RowKit Go.Proofs.Ytfbeklbjlkgbnaa.Pure Go.Proofs.YtfbeklbjlkgbnaaW.PrintWords Go.Proofs.YtfbeklbjlkgbnaaW.PrintLast Go.Proofs.YtfbeklbjlkgbnaaW.PrintMore
set_option linter.unusedVariables false
set_option linter.unusedSimpArgs false
theorem calc_Call.print (a0 : Int) (A1 : Option Addr) (c1 : Nat) (l1 : List (S25)) (r1 : Int) (r2 : Int) (r3 : ByteArray) (r4 : Int) (w : World) (hr1 : Kd.C k25 w A1 l1.length l1) (hc1 : l1.length ≤ c1) (h : calc_Call.f a0 l1 = some (r1, r2, r3, r4)) :
    Calls Try.prog 12 #[.int .i64 a0, .slice A1 l1.length c1] w fun e w' => e = .returned (.tuple #[.agg #[.int .i64 r1, .int .i64 r2, .string r3], .int .i64 r4]) ∧ Below w.heap.size w w' := by
  unfold calc_Call.f at h
  by_cases hf : fitsB l1 = true
  · rw [if_pos hf, Option.some.injEq] at h
    have := calc_Call.plain a0 l1 A1 c1 w hr1 hc1 (fits_of hf)
    obtain ⟨rfl, rfl, rfl, rfl⟩ : (outE (call a0 l1)).1.f0 = r1 ∧ (outE (call a0 l1)).1.f1 = r2 ∧ (outE (call a0 l1)).1.f2 = r3 ∧ (outE (call a0 l1)).2 = r4 := by simpa using h
    exact this
  · rw [if_neg hf] at h; cases h
end Go.Proofs.Ytfbeklbjlkgbnaa.P
end
section
namespace Go.Proofs.Ytfbeklbjlkgbnaa.P
open Go.RowKit Go.Proofs.YtfbeklbjlkgbnaaW.PrintWords Go.Proofs.YtfbeklbjlkgbnaaW.PrintLast Go.Proofs.YtfbeklbjlkgbnaaW.PrintMore
attribute [local go_sem] max2_int min2_int max_two min_two max_three min_three max_four min_four
set_option linter.unusedVariables false
set_option linter.unusedSimpArgs false
attribute [local go_sem high] eqA25
def quarrylaw02_works.f  : Option (Bool) := (quarrylaw02_num.f 2).bind fun bt195 => ((quarrylaw02_num.f 3).bind fun bt198 => ((calc_Binary.f 11 bt195.1 bt195.2.1 bt195.2.2 bt198.1 bt198.2.1 bt198.2.2).bind fun bt201 => ((calc_Binary.f 4 0 0 (⟨#[]⟩ : ByteArray) 1 0 (⟨#[]⟩ : ByteArray)).bind fun bt206 => ((quarrylaw02_num.f 1).bind fun bt211 => ((quarrylaw02_num.f 0).bind fun bt214 => ((calc_Binary.f 14 bt211.1 bt211.2.1 bt211.2.2 bt214.1 bt214.2.1 bt214.2.2).bind fun bt217 => ((quarrylaw02_num.f 2).bind fun bt222 => ((quarrylaw02_num.f 3).bind fun bt225 => ((calc_Call.f 5 (([(⟨3, 0, (⟨#[104, 101, 108, 108, 111]⟩ : ByteArray)⟩ : S25), (⟨bt222.1, bt222.2.1, bt222.2.2⟩ : S25), (⟨bt225.1, bt225.2.1, bt225.2.2⟩ : S25)] : List (S25)))).bind fun bt231 => ((quarrylaw02_num.f 5).bind fun bt236 => (if (bt201.1 == bt236.1 && (bt201.2.1 == bt236.2.1 && (bt201.2.2.1.toList == bt236.2.2.toList))) = true then (if bt201.2.2.2 = 0 then (if (bt206.1 == 1 && (bt206.2.1 == 0 && (bt206.2.2.1.toList == ([] : List UInt8)))) = true then (if bt206.2.2.2 = 0 then (if bt217.2.2.2 = 41 then (if bt231.2.2.1.toList = ([101, 108, 108] : List UInt8) then (some (bt231.2.2.2 == 0)) else (none)) else (none)) else (none)) else (none)) else (none)) else (none))))))))))))
def quarrylaw02_works.T5 : Bool × List (List Nat × List Nat) := (true, [([], []), ([], []), ([0, 1], [0, 1]), ([2, 1], [2]), ([3], [3]), ([4, 3], [3, 4]), ([3, 5], [3, 5]), ([6, 3], [6]), ([7], [7]), ([7], [7]), ([8, 9, 7], [7, 8, 9]), ([7, 10], [7, 10]), ([11, 7], [11]), ([12], [12]), ([13, 12], [12, 13]), ([12, 14], [12, 14]), ([15, 12], [15]), ([16], [16]), ([17, 16], [16, 17]), ([16, 18], [16, 18]), ([19, 16], [19]), ([20], [20]), ([21, 20], [20, 21]), ([22, 20], [20, 22]), ([20, 23], [20, 23]), ([24, 20], [24]), ([25], [25]), ([26, 25], [25, 26]), ([25, 27], [25, 27]), ([28, 25, 0, 1, 2, 3, 4, 5, 6, 7, 8, 9, 10, 11, 12, 13, 14, 15, 16, 17, 18, 19, 20, 21, 22, 23, 24, 25, 26, 27, 28], [28])])
def quarrylaw02_works.B5 : List Nat := [0, 0, 3, 7, 15, 31, 63, 127, 255, 255, 1023, 2047, 4095, 8191, 16383, 32767, 65535, 131071, 262143, 524287, 1048575, 2097151, 4194303, 8388607, 16777215, 33554431, 67108863, 134217727, 268435455, 536870911]
theorem quarrylaw02_works.tab5 : rtab .any (opsOf Try.f23 5) = quarrylaw02_works.T5 := by kernel_rfl
theorem quarrylaw02_works.bits5 : waitsOk quarrylaw02_works.T5.2 quarrylaw02_works.B5 = true := by kernel_rfl
set_option maxHeartbeats 8000000 in
set_option maxRecDepth 100000 in
theorem quarrylaw02_works.calls  (r : Bool) (w : World) (h : quarrylaw02_works.f  = some r) :
  Calls Try.prog 23 #[] w fun e w' => e = .returned (.bool r) ∧ Below w.heap.size w w' := by
 have hu25 := Try.underlying25
 have HB := Aside0.mk (Below.refl w.heap.size w)
 have H : ((quarrylaw02_num.f 2).bind fun bt195 => ((quarrylaw02_num.f 3).bind fun bt198 => ((calc_Binary.f 11 bt195.1 bt195.2.1 bt195.2.2 bt198.1 bt198.2.1 bt198.2.2).bind fun bt201 => ((calc_Binary.f 4 0 0 (⟨#[]⟩ : ByteArray) 1 0 (⟨#[]⟩ : ByteArray)).bind fun bt206 => ((quarrylaw02_num.f 1).bind fun bt211 => ((quarrylaw02_num.f 0).bind fun bt214 => ((calc_Binary.f 14 bt211.1 bt211.2.1 bt211.2.2 bt214.1 bt214.2.1 bt214.2.2).bind fun bt217 => ((quarrylaw02_num.f 2).bind fun bt222 => ((quarrylaw02_num.f 3).bind fun bt225 => ((calc_Call.f 5 (([(⟨3, 0, (⟨#[104, 101, 108, 108, 111]⟩ : ByteArray)⟩ : S25), (⟨bt222.1, bt222.2.1, bt222.2.2⟩ : S25), (⟨bt225.1, bt225.2.1, bt225.2.2⟩ : S25)] : List (S25)))).bind fun bt231 => ((quarrylaw02_num.f 5).bind fun bt236 => (if (bt201.1 == bt236.1 && (bt201.2.1 == bt236.2.1 && (bt201.2.2.1.toList == bt236.2.2.toList))) = true then (if bt201.2.2.2 = 0 then (if (bt206.1 == 1 && (bt206.2.1 == 0 && (bt206.2.2.1.toList == ([] : List UInt8)))) = true then (if bt206.2.2.2 = 0 then (if bt217.2.2.2 = 41 then (if bt231.2.2.1.toList = ([101, 108, 108] : List UInt8) then (some (bt231.2.2.2 == 0)) else (none)) else (none)) else (none)) else (none)) else (none)) else (none))))))))))))) = some r := h
 clear h
 replace H := Option.bind_eq_some_iff.mp H
 obtain ⟨⟨t195, t196, t197⟩, A10, H⟩ := H
 replace H : ((quarrylaw02_num.f 3).bind fun bt198 => ((calc_Binary.f 11 t195 t196 t197 bt198.1 bt198.2.1 bt198.2.2).bind fun bt201 => ((calc_Binary.f 4 0 0 (⟨#[]⟩ : ByteArray) 1 0 (⟨#[]⟩ : ByteArray)).bind fun bt206 => ((quarrylaw02_num.f 1).bind fun bt211 => ((quarrylaw02_num.f 0).bind fun bt214 => ((calc_Binary.f 14 bt211.1 bt211.2.1 bt211.2.2 bt214.1 bt214.2.1 bt214.2.2).bind fun bt217 => ((quarrylaw02_num.f 2).bind fun bt222 => ((quarrylaw02_num.f 3).bind fun bt225 => ((calc_Call.f 5 (([(⟨3, 0, (⟨#[104, 101, 108, 108, 111]⟩ : ByteArray)⟩ : S25), (⟨bt222.1, bt222.2.1, bt222.2.2⟩ : S25), (⟨bt225.1, bt225.2.1, bt225.2.2⟩ : S25)] : List (S25)))).bind fun bt231 => ((quarrylaw02_num.f 5).bind fun bt236 => (if (bt201.1 == bt236.1 && (bt201.2.1 == bt236.2.1 && (bt201.2.2.1.toList == bt236.2.2.toList))) = true then (if bt201.2.2.2 = 0 then (if (bt206.1 == 1 && (bt206.2.1 == 0 && (bt206.2.2.1.toList == ([] : List UInt8)))) = true then (if bt206.2.2.2 = 0 then (if bt217.2.2.2 = 41 then (if bt231.2.2.1.toList = ([101, 108, 108] : List UInt8) then (some (bt231.2.2.2 == 0)) else (none)) else (none)) else (none)) else (none)) else (none)) else (none)))))))))))) = some r := H
 have A1 := Aside0.mk A10
 clear A10
 replace H := Option.bind_eq_some_iff.mp H
 obtain ⟨⟨t198, t199, t200⟩, A20, H⟩ := H
 replace H : ((calc_Binary.f 11 t195 t196 t197 t198 t199 t200).bind fun bt201 => ((calc_Binary.f 4 0 0 (⟨#[]⟩ : ByteArray) 1 0 (⟨#[]⟩ : ByteArray)).bind fun bt206 => ((quarrylaw02_num.f 1).bind fun bt211 => ((quarrylaw02_num.f 0).bind fun bt214 => ((calc_Binary.f 14 bt211.1 bt211.2.1 bt211.2.2 bt214.1 bt214.2.1 bt214.2.2).bind fun bt217 => ((quarrylaw02_num.f 2).bind fun bt222 => ((quarrylaw02_num.f 3).bind fun bt225 => ((calc_Call.f 5 (([(⟨3, 0, (⟨#[104, 101, 108, 108, 111]⟩ : ByteArray)⟩ : S25), (⟨bt222.1, bt222.2.1, bt222.2.2⟩ : S25), (⟨bt225.1, bt225.2.1, bt225.2.2⟩ : S25)] : List (S25)))).bind fun bt231 => ((quarrylaw02_num.f 5).bind fun bt236 => (if (bt201.1 == bt236.1 && (bt201.2.1 == bt236.2.1 && (bt201.2.2.1.toList == bt236.2.2.toList))) = true then (if bt201.2.2.2 = 0 then (if (bt206.1 == 1 && (bt206.2.1 == 0 && (bt206.2.2.1.toList == ([] : List UInt8)))) = true then (if bt206.2.2.2 = 0 then (if bt217.2.2.2 = 41 then (if bt231.2.2.1.toList = ([101, 108, 108] : List UInt8) then (some (bt231.2.2.2 == 0)) else (none)) else (none)) else (none)) else (none)) else (none)) else (none))))))))))) = some r := H
 have A2 := Aside0.mk A20
 clear A20
 replace H := Option.bind_eq_some_iff.mp H
 obtain ⟨⟨t201, t202, t203, t204⟩, A30, H⟩ := H
 replace H : ((calc_Binary.f 4 0 0 (⟨#[]⟩ : ByteArray) 1 0 (⟨#[]⟩ : ByteArray)).bind fun bt206 => ((quarrylaw02_num.f 1).bind fun bt211 => ((quarrylaw02_num.f 0).bind fun bt214 => ((calc_Binary.f 14 bt211.1 bt211.2.1 bt211.2.2 bt214.1 bt214.2.1 bt214.2.2).bind fun bt217 => ((quarrylaw02_num.f 2).bind fun bt222 => ((quarrylaw02_num.f 3).bind fun bt225 => ((calc_Call.f 5 (([(⟨3, 0, (⟨#[104, 101, 108, 108, 111]⟩ : ByteArray)⟩ : S25), (⟨bt222.1, bt222.2.1, bt222.2.2⟩ : S25), (⟨bt225.1, bt225.2.1, bt225.2.2⟩ : S25)] : List (S25)))).bind fun bt231 => ((quarrylaw02_num.f 5).bind fun bt236 => (if (t201 == bt236.1 && (t202 == bt236.2.1 && (t203.toList == bt236.2.2.toList))) = true then (if t204 = 0 then (if (bt206.1 == 1 && (bt206.2.1 == 0 && (bt206.2.2.1.toList == ([] : List UInt8)))) = true then (if bt206.2.2.2 = 0 then (if bt217.2.2.2 = 41 then (if bt231.2.2.1.toList = ([101, 108, 108] : List UInt8) then (some (bt231.2.2.2 == 0)) else (none)) else (none)) else (none)) else (none)) else (none)) else (none)))))))))) = some r := H
 have A3 := Aside0.mk A30
 clear A30
 replace H := Option.bind_eq_some_iff.mp H
 obtain ⟨⟨t206, t207, t208, t209⟩, A40, H⟩ := H
 replace H : ((quarrylaw02_num.f 1).bind fun bt211 => ((quarrylaw02_num.f 0).bind fun bt214 => ((calc_Binary.f 14 bt211.1 bt211.2.1 bt211.2.2 bt214.1 bt214.2.1 bt214.2.2).bind fun bt217 => ((quarrylaw02_num.f 2).bind fun bt222 => ((quarrylaw02_num.f 3).bind fun bt225 => ((calc_Call.f 5 (([(⟨3, 0, (⟨#[104, 101, 108, 108, 111]⟩ : ByteArray)⟩ : S25), (⟨bt222.1, bt222.2.1, bt222.2.2⟩ : S25), (⟨bt225.1, bt225.2.1, bt225.2.2⟩ : S25)] : List (S25)))).bind fun bt231 => ((quarrylaw02_num.f 5).bind fun bt236 => (if (t201 == bt236.1 && (t202 == bt236.2.1 && (t203.toList == bt236.2.2.toList))) = true then (if t204 = 0 then (if (t206 == 1 && (t207 == 0 && (t208.toList == ([] : List UInt8)))) = true then (if t209 = 0 then (if bt217.2.2.2 = 41 then (if bt231.2.2.1.toList = ([101, 108, 108] : List UInt8) then (some (bt231.2.2.2 == 0)) else (none)) else (none)) else (none)) else (none)) else (none)) else (none))))))))) = some r := H
 have A4 := Aside0.mk A40
 clear A40
 replace H := Option.bind_eq_some_iff.mp H
 obtain ⟨⟨t211, t212, t213⟩, A50, H⟩ := H
 replace H : ((quarrylaw02_num.f 0).bind fun bt214 => ((calc_Binary.f 14 t211 t212 t213 bt214.1 bt214.2.1 bt214.2.2).bind fun bt217 => ((quarrylaw02_num.f 2).bind fun bt222 => ((quarrylaw02_num.f 3).bind fun bt225 => ((calc_Call.f 5 (([(⟨3, 0, (⟨#[104, 101, 108, 108, 111]⟩ : ByteArray)⟩ : S25), (⟨bt222.1, bt222.2.1, bt222.2.2⟩ : S25), (⟨bt225.1, bt225.2.1, bt225.2.2⟩ : S25)] : List (S25)))).bind fun bt231 => ((quarrylaw02_num.f 5).bind fun bt236 => (if (t201 == bt236.1 && (t202 == bt236.2.1 && (t203.toList == bt236.2.2.toList))) = true then (if t204 = 0 then (if (t206 == 1 && (t207 == 0 && (t208.toList == ([] : List UInt8)))) = true then (if t209 = 0 then (if bt217.2.2.2 = 41 then (if bt231.2.2.1.toList = ([101, 108, 108] : List UInt8) then (some (bt231.2.2.2 == 0)) else (none)) else (none)) else (none)) else (none)) else (none)) else (none)))))))) = some r := H
 have A5 := Aside0.mk A50
 clear A50
 replace H := Option.bind_eq_some_iff.mp H
 obtain ⟨⟨t214, t215, t216⟩, A60, H⟩ := H
 replace H : ((calc_Binary.f 14 t211 t212 t213 t214 t215 t216).bind fun bt217 => ((quarrylaw02_num.f 2).bind fun bt222 => ((quarrylaw02_num.f 3).bind fun bt225 => ((calc_Call.f 5 (([(⟨3, 0, (⟨#[104, 101, 108, 108, 111]⟩ : ByteArray)⟩ : S25), (⟨bt222.1, bt222.2.1, bt222.2.2⟩ : S25), (⟨bt225.1, bt225.2.1, bt225.2.2⟩ : S25)] : List (S25)))).bind fun bt231 => ((quarrylaw02_num.f 5).bind fun bt236 => (if (t201 == bt236.1 && (t202 == bt236.2.1 && (t203.toList == bt236.2.2.toList))) = true then (if t204 = 0 then (if (t206 == 1 && (t207 == 0 && (t208.toList == ([] : List UInt8)))) = true then (if t209 = 0 then (if bt217.2.2.2 = 41 then (if bt231.2.2.1.toList = ([101, 108, 108] : List UInt8) then (some (bt231.2.2.2 == 0)) else (none)) else (none)) else (none)) else (none)) else (none)) else (none))))))) = some r := H
 have A6 := Aside0.mk A60
 clear A60
 replace H := Option.bind_eq_some_iff.mp H
 obtain ⟨⟨t217, t218, t219, t220⟩, A70, H⟩ := H
 replace H : ((quarrylaw02_num.f 2).bind fun bt222 => ((quarrylaw02_num.f 3).bind fun bt225 => ((calc_Call.f 5 (([(⟨3, 0, (⟨#[104, 101, 108, 108, 111]⟩ : ByteArray)⟩ : S25), (⟨bt222.1, bt222.2.1, bt222.2.2⟩ : S25), (⟨bt225.1, bt225.2.1, bt225.2.2⟩ : S25)] : List (S25)))).bind fun bt231 => ((quarrylaw02_num.f 5).bind fun bt236 => (if (t201 == bt236.1 && (t202 == bt236.2.1 && (t203.toList == bt236.2.2.toList))) = true then (if t204 = 0 then (if (t206 == 1 && (t207 == 0 && (t208.toList == ([] : List UInt8)))) = true then (if t209 = 0 then (if t220 = 41 then (if bt231.2.2.1.toList = ([101, 108, 108] : List UInt8) then (some (bt231.2.2.2 == 0)) else (none)) else (none)) else (none)) else (none)) else (none)) else (none)))))) = some r := H
 have A7 := Aside0.mk A70
 clear A70
 replace H := Option.bind_eq_some_iff.mp H
 obtain ⟨⟨t222, t223, t224⟩, A80, H⟩ := H
 replace H : ((quarrylaw02_num.f 3).bind fun bt225 => ((calc_Call.f 5 (([(⟨3, 0, (⟨#[104, 101, 108, 108, 111]⟩ : ByteArray)⟩ : S25), (⟨t222, t223, t224⟩ : S25), (⟨bt225.1, bt225.2.1, bt225.2.2⟩ : S25)] : List (S25)))).bind fun bt231 => ((quarrylaw02_num.f 5).bind fun bt236 => (if (t201 == bt236.1 && (t202 == bt236.2.1 && (t203.toList == bt236.2.2.toList))) = true then (if t204 = 0 then (if (t206 == 1 && (t207 == 0 && (t208.toList == ([] : List UInt8)))) = true then (if t209 = 0 then (if t220 = 41 then (if bt231.2.2.1.toList = ([101, 108, 108] : List UInt8) then (some (bt231.2.2.2 == 0)) else (none)) else (none)) else (none)) else (none)) else (none)) else (none))))) = some r := H
 have A8 := Aside0.mk A80
 clear A80
 replace H := Option.bind_eq_some_iff.mp H
 obtain ⟨⟨t225, t226, t227⟩, A90, H⟩ := H
 replace H : ((calc_Call.f 5 (([(⟨3, 0, (⟨#[104, 101, 108, 108, 111]⟩ : ByteArray)⟩ : S25), (⟨t222, t223, t224⟩ : S25), (⟨t225, t226, t227⟩ : S25)] : List (S25)))).bind fun bt231 => ((quarrylaw02_num.f 5).bind fun bt236 => (if (t201 == bt236.1 && (t202 == bt236.2.1 && (t203.toList == bt236.2.2.toList))) = true then (if t204 = 0 then (if (t206 == 1 && (t207 == 0 && (t208.toList == ([] : List UInt8)))) = true then (if t209 = 0 then (if t220 = 41 then (if bt231.2.2.1.toList = ([101, 108, 108] : List UInt8) then (some (bt231.2.2.2 == 0)) else (none)) else (none)) else (none)) else (none)) else (none)) else (none)))) = some r := H
 have A9 := Aside0.mk A90
 clear A90
 obtain ⟨y228, hy228⟩ : ∃ y_ : List (S25), y_ = (([(⟨3, 0, (⟨#[104, 101, 108, 108, 111]⟩ : ByteArray)⟩ : S25), (⟨t222, t223, t224⟩ : S25), (⟨t225, t226, t227⟩ : S25)] : List (S25))) := ⟨_, rfl⟩
 replace H : ((calc_Call.f 5 y228).bind fun bt231 => ((quarrylaw02_num.f 5).bind fun bt236 => (if (t201 == bt236.1 && (t202 == bt236.2.1 && (t203.toList == bt236.2.2.toList))) = true then (if t204 = 0 then (if (t206 == 1 && (t207 == 0 && (t208.toList == ([] : List UInt8)))) = true then (if t209 = 0 then (if t220 = 41 then (if bt231.2.2.1.toList = ([101, 108, 108] : List UInt8) then (some (bt231.2.2.2 == 0)) else (none)) else (none)) else (none)) else (none)) else (none)) else (none)))) = some r := by first | (rw [hy228]; with_reducible exact H) | (have H2_ := (Option.bind_some _ _).symm.trans H; rw [hy228]; with_reducible exact H2_) | (have H2_ := (Option.bind_some _ _).symm.trans H; with_reducible exact H2_) | with_reducible exact H | (rw [hy228]; exact H) | exact H
 have Ny228 := Aside0.mk hy228
 clear hy228
 replace H := Option.bind_eq_some_iff.mp H
 obtain ⟨⟨t231, t232, t233, t234⟩, A100, H⟩ := H
 replace H : ((quarrylaw02_num.f 5).bind fun bt236 => (if (t201 == bt236.1 && (t202 == bt236.2.1 && (t203.toList == bt236.2.2.toList))) = true then (if t204 = 0 then (if (t206 == 1 && (t207 == 0 && (t208.toList == ([] : List UInt8)))) = true then (if t209 = 0 then (if t220 = 41 then (if t233.toList = ([101, 108, 108] : List UInt8) then (some (t234 == 0)) else (none)) else (none)) else (none)) else (none)) else (none)) else (none))) = some r := H
 have A10 := Aside0.mk A100
 clear A100
 replace H := Option.bind_eq_some_iff.mp H
 obtain ⟨⟨t236, t237, t238⟩, A110, H⟩ := H
 replace H : (if (t201 == t236 && (t202 == t237 && (t203.toList == t238.toList))) = true then (if t204 = 0 then (if (t206 == 1 && (t207 == 0 && (t208.toList == ([] : List UInt8)))) = true then (if t209 = 0 then (if t220 = 41 then (if t233.toList = ([101, 108, 108] : List UInt8) then (some (t234 == 0)) else (none)) else (none)) else (none)) else (none)) else (none)) else (none)) = some r := H
 have A11 := Aside0.mk A110
 clear A110
 by_cases c12 : (t201 == t236 && (t202 == t237 && (t203.toList == t238.toList))) = true
 ·rw [if_pos c12] at H
  have c12b0 : (t201 == t236 && (t202 == t237 && (t203.toList == t238.toList))) = true := c12
  (try (have c12b1 : decide (t201 = t236 && (t202 == t237 && (t203.toList == t238.toList))) = true := by simpa using c12))
  (try (have c12b2 : (t201 == t236 && (t202 == t237 && (t203.toList == t238.toList))) = true := by simpa using c12))
  clear c12
  by_cases c13 : t204 = 0
  ·rw [if_pos c13] at H
   have c13b0 : (t204 == 0) = true := beq_iff_eq.mpr c13
   have c13b1 : (t204 != 0) = false := bne_eq_false_iff_eq.mpr c13
   clear c13
   by_cases c14 : (t206 == 1 && (t207 == 0 && (t208.toList == ([] : List UInt8)))) = true
   ·rw [if_pos c14] at H
    have c14b0 : (t206 == 1 && (t207 == 0 && (t208.toList == ([] : List UInt8)))) = true := c14
    (try (have c14b9 : (t206 == 1 && (t207 == 0 && t208.toList.isEmpty)) = true := by simpa using c14))
    (try (have c14b1 : decide (t206 = 1 && (t207 == 0 && (t208.toList == ([] : List UInt8)))) = true := by simpa using c14))
    (try (have c14b2 : (t206 == 1 && (t207 == 0 && (t208.toList == ([] : List UInt8)))) = true := by simpa using c14))
    clear c14
    by_cases c15 : t209 = 0
    ·rw [if_pos c15] at H
     have c15b0 : (t209 == 0) = true := beq_iff_eq.mpr c15
     have c15b1 : (t209 != 0) = false := bne_eq_false_iff_eq.mpr c15
     clear c15
     by_cases c16 : t220 = 41
     ·rw [if_pos c16] at H
      have c16b0 : (t220 == 41) = true := beq_iff_eq.mpr c16
      have c16b1 : (t220 != 41) = false := bne_eq_false_iff_eq.mpr c16
      clear c16
      by_cases c17 : t233.toList = ([101, 108, 108] : List UInt8)
      ·rw [if_pos c17] at H
       have c17b0 : (t233.toList == ([101, 108, 108] : List UInt8)) = true := beq_iff_eq.mpr c17
       have c17b1 : (t233.toList != ([101, 108, 108] : List UInt8)) = false := bne_eq_false_iff_eq.mpr c17
       clear c17
       obtain rfl := Option.some.inj H
       go_enter Try.func23, Try.ntmps23
       try go_wp2_with (first | ((with_reducible refine gate_callee (f := 24) rfl ?_); refine goesL_ (some 10) rfl rfl Try.func24 (by kernel_rfl) rfl #[.int .i64 2] rfl (by (try simp only [List.map_toArray, List.map_cons, List.map_nil]); first | done | rfl | (simp only [List.length_drop, List.length_take]; rfl)) ?_; (with_reducible refine (quarrylaw02_num.calls 2 t195 t196 t197 _ A1.out).mono ?_); rintro e w18 ⟨rfl, hb⟩; refine ⟨_, rfl, ?_⟩; have n0_ := Aside0.mk (below_step (by repeat (first | (with_reducible first | exact HB.out | apply below_alloc | apply pw_below_drewN | apply below_drew1) | exact HB.out)) hb); clear HB; have HB := n0_; clear n0_; (try clear hb); (try clear hb2); (try clear hk); (try clear hi)) | ((with_reducible refine gate_callee (f := 24) rfl ?_); refine goesL_ (some 11) rfl rfl Try.func24 (by kernel_rfl) rfl #[.int .i64 3] rfl (by (try simp only [List.map_toArray, List.map_cons, List.map_nil]); first | done | rfl | (simp only [List.length_drop, List.length_take]; rfl)) ?_; (with_reducible refine (quarrylaw02_num.calls 3 t198 t199 t200 _ A2.out).mono ?_); rintro e w19 ⟨rfl, hb⟩; refine ⟨_, rfl, ?_⟩; have n0_ := Aside0.mk (below_step (by repeat (first | (with_reducible first | exact HB.out | apply below_alloc | apply pw_below_drewN | apply below_drew1) | exact HB.out)) hb); clear HB; have HB := n0_; clear n0_; (try clear hb); (try clear hb2); (try clear hk); (try clear hi)) | ((with_reducible refine gate_callee (f := 17) rfl ?_); refine goesL_ (some 12) rfl rfl Try.func17 (by kernel_rfl) rfl #[.int .i64 11, .agg #[.int .i64 t195, .int .i64 t196, .string t197], .agg #[.int .i64 t198, .int .i64 t199, .string t200]] rfl (by (try simp only [List.map_toArray, List.map_cons, List.map_nil]); first | done | rfl | (simp only [List.length_drop, List.length_take]; rfl)) ?_; (with_reducible refine (calc_Binary.print 11 t195 t196 t197 t198 t199 t200 t201 t202 t203 t204 _ A3.out).mono ?_); rintro e w20 ⟨rfl, hb⟩; refine ⟨_, rfl, ?_⟩; have n0_ := Aside0.mk (below_step (by repeat (first | (with_reducible first | exact HB.out | apply below_alloc | apply pw_below_drewN | apply below_drew1) | exact HB.out)) hb); clear HB; have HB := n0_; clear n0_; (try clear hb); (try clear hb2); (try clear hk); (try clear hi)) | ((with_reducible refine gate_dst (N := 1) rfl ?_); refine box_event ?hg (N := 1) ?hd (cs := #[.int .i64 0, .int .i64 0, .string (⟨#[]⟩ : ByteArray)]) (t := 25) ?hr ?_; (case hd => rfl); (case hg => rfl); (case hr => first | (go_simp; done) | (go_simp; rfl)); intro gb205 hg w21 hbox hb; have n0_ := Aside0.mk (below_step (by repeat (first | (with_reducible first | exact HB.out | apply below_alloc | apply pw_below_drewN | apply below_drew1) | exact HB.out)) hb); have n1_ := Aside0.mk (hbox); have n2_ := Aside0.mk ((by rw [hg]; exact (below_size (by repeat (first | (with_reducible first | exact HB.out | apply below_alloc | apply pw_below_drewN | apply below_drew1) | exact HB.out))) : w.heap.size ≤ gb205)); have n3_ := Aside0.mk ((by rw [hg]; exact (below_size (by repeat (first | (with_reducible first | exact HB.out | apply below_alloc | apply pw_below_drewN | apply below_drew1) | exact HB.out))) : w.heap.size ≤ gb205)); clear HB; have HB := n0_; have BK205 := n1_; have GW205 := n2_; have GE205 := n3_; clear n0_ n1_ n2_ n3_; clear hb hbox hg; have hcz22_0 : w21.cell? ⟨gb205, 0, none⟩ = some (.int .i64 0) := (blk_cell BK205.out 0).trans rfl; have hcz22_1 : w21.cell? ⟨gb205, 1, none⟩ = some (.int .i64 0) := (blk_cell BK205.out 1).trans rfl; have hcz22_2 : w21.cell? ⟨gb205, 2, none⟩ = some (.string (⟨#[]⟩ : ByteArray)) := (blk_cell BK205.out 2).trans rfl; have hfz22_0 := blk_frozen BK205.out 0; have hfz22_1 := blk_frozen BK205.out 1; have hfz22_2 := blk_frozen BK205.out 2) | ((with_reducible refine gate_callee (f := 17) rfl ?_); refine goesL_ (some 18) rfl rfl Try.func17 (by kernel_rfl) rfl #[.int .i64 4, .agg #[.int .i64 0, .int .i64 0, .string (⟨#[]⟩ : ByteArray)], .agg #[.int .i64 1, .int .i64 0, .string (⟨#[]⟩ : ByteArray)]] rfl (by (try simp only [List.map_toArray, List.map_cons, List.map_nil]); first | done | rfl | (simp only [List.length_drop, List.length_take]; rfl)) ?_; (with_reducible refine (calc_Binary.print 4 0 0 (⟨#[]⟩ : ByteArray) 1 0 (⟨#[]⟩ : ByteArray) t206 t207 t208 t209 _ A4.out).mono ?_); rintro e w23 ⟨rfl, hb⟩; refine ⟨_, rfl, ?_⟩; have n0_ := Aside0.mk (blk_below (g := gb205) (o := .cells #[.int .i64 t201, .int .i64 t202, .string t203] 25 (0, 0)) (by (with_reducible repeat (first | refine blk_drewN ?_ _ | refine blk_drew ?_ | refine blk_alloc ?_ _)); refine blk_put (cs := #[.int .i64 t201, .int .i64 t202, .string (⟨#[]⟩ : ByteArray)]) ?_ 2 _ rfl; (with_reducible repeat (first | refine blk_drewN ?_ _ | refine blk_drew ?_ | refine blk_alloc ?_ _)); refine blk_put (cs := #[.int .i64 t201, .int .i64 0, .string (⟨#[]⟩ : ByteArray)]) ?_ 1 _ rfl; (with_reducible repeat (first | refine blk_drewN ?_ _ | refine blk_drew ?_ | refine blk_alloc ?_ _)); refine blk_put (cs := #[.int .i64 0, .int .i64 0, .string (⟨#[]⟩ : ByteArray)]) ?_ 0 _ rfl; (with_reducible repeat (first | refine blk_drewN ?_ _ | refine blk_drew ?_ | refine blk_alloc ?_ _)); exact BK205.out) hb); have n1_ := Aside0.mk (below_step (by repeat (first | (with_reducible first | exact HB.out | apply below_alloc | apply pw_below_drewN | apply below_drew1 | refine below_set ?_ GE205.out) | exact HB.out)) hb); clear BK205; clear HB; have BK205 := n0_; have HB := n1_; clear n0_ n1_; (try clear hb); (try clear hb2); (try clear hk); (try clear hi)) | ((with_reducible refine gate_dst (N := 3) rfl ?_); refine box_event ?hg (N := 3) ?hd (cs := #[.int .i64 0, .int .i64 0, .string (⟨#[]⟩ : ByteArray)]) (t := 25) ?hr ?_; (case hd => rfl); (case hg => rfl); (case hr => first | (go_simp; done) | (go_simp; rfl)); intro gb210 hg w24 hbox hb; have n0_ := Aside0.mk (blk_below (g := gb205) (o := .cells #[.int .i64 t201, .int .i64 t202, .string t203] 25 (0, 0)) (bk_ BK205) hb); have n1_ := Aside0.mk (below_step (by repeat (first | (with_reducible first | exact HB.out | apply below_alloc | apply pw_below_drewN | apply below_drew1 | refine below_set ?_ GE205.out) | exact HB.out)) hb); have n2_ := Aside0.mk (hbox); have n3_ := Aside0.mk ((by rw [hg]; exact (below_size (by repeat (first | (with_reducible first | exact HB.out | apply below_alloc | apply pw_below_drewN | apply below_drew1 | refine below_set ?_ GE205.out) | exact HB.out))) : w.heap.size ≤ gb210)); have n4_ := Aside0.mk ((by rw [hg]; exact (below_size (by repeat (first | (with_reducible first | exact HB.out | apply below_alloc | apply pw_below_drewN | apply below_drew1 | refine below_set ?_ GE205.out) | exact HB.out))) : w.heap.size ≤ gb210)); have n5_ := Aside0.mk ((by rw [hg]; exact Nat.ne_of_lt (blk_lt (g := gb205) (o := .cells #[.int .i64 t201, .int .i64 t202, .string t203] 25 (0, 0)) (bk_ BK205)) : gb205 ≠ gb210)); have n6_ := Aside0.mk ((by rw [hg]; exact Nat.ne_of_gt (blk_lt (g := gb205) (o := .cells #[.int .i64 t201, .int .i64 t202, .string t203] 25 (0, 0)) (bk_ BK205)) : gb210 ≠ gb205)); clear BK205; clear HB; have BK205 := n0_; have HB := n1_; have BK210 := n2_; have GW210 := n3_; have GE210 := n4_; have NB205_210 := n5_; have NB210_205 := n6_; clear n0_ n1_ n2_ n3_ n4_ n5_ n6_; clear hb hbox hg; have hnb25 := NB210_205.out; have hnc25 := NB205_210.out; have hcz26_0 : w24.cell? ⟨gb210, 0, none⟩ = some (.int .i64 0) := (blk_cell BK210.out 0).trans rfl; have hcz26_1 : w24.cell? ⟨gb210, 1, none⟩ = some (.int .i64 0) := (blk_cell BK210.out 1).trans rfl; have hcz26_2 : w24.cell? ⟨gb210, 2, none⟩ = some (.string (⟨#[]⟩ : ByteArray)) := (blk_cell BK210.out 2).trans rfl; have hfz26_0 := blk_frozen BK210.out 0; have hfz26_1 := blk_frozen BK210.out 1; have hfz26_2 := blk_frozen BK210.out 2) | ((with_reducible refine gate_callee (f := 24) rfl ?_); refine goesL_ (some 22) rfl rfl Try.func24 (by kernel_rfl) rfl #[.int .i64 1] rfl (by (try simp only [List.map_toArray, List.map_cons, List.map_nil]); first | done | rfl | (simp only [List.length_drop, List.length_take]; rfl)) ?_; (with_reducible refine (quarrylaw02_num.calls 1 t211 t212 t213 _ A5.out).mono ?_); rintro e w27 ⟨rfl, hb⟩; refine ⟨_, rfl, ?_⟩; have n0_ := Aside0.mk (blk_below (g := gb205) (o := .cells #[.int .i64 t201, .int .i64 t202, .string t203] 25 (0, 0)) (by (with_reducible repeat (first | refine blk_drewN ?_ _ | refine blk_drew ?_ | refine blk_alloc ?_ _)); refine blk_far ?_ NB205_210.out _; (with_reducible repeat (first | refine blk_drewN ?_ _ | refine blk_drew ?_ | refine blk_alloc ?_ _)); refine blk_far ?_ NB205_210.out _; (with_reducible repeat (first | refine blk_drewN ?_ _ | refine blk_drew ?_ | refine blk_alloc ?_ _)); refine blk_far ?_ NB205_210.out _; (with_reducible repeat (first | refine blk_drewN ?_ _ | refine blk_drew ?_ | refine blk_alloc ?_ _)); exact BK205.out) hb); have n1_ := Aside0.mk (blk_below (g := gb210) (o := .cells #[.int .i64 t206, .int .i64 t207, .string t208] 25 (0, 0)) (by (with_reducible repeat (first | refine blk_drewN ?_ _ | refine blk_drew ?_ | refine blk_alloc ?_ _)); refine blk_put (cs := #[.int .i64 t206, .int .i64 t207, .string (⟨#[]⟩ : ByteArray)]) ?_ 2 _ rfl; (with_reducible repeat (first | refine blk_drewN ?_ _ | refine blk_drew ?_ | refine blk_alloc ?_ _)); refine blk_put (cs := #[.int .i64 t206, .int .i64 0, .string (⟨#[]⟩ : ByteArray)]) ?_ 1 _ rfl; (with_reducible repeat (first | refine blk_drewN ?_ _ | refine blk_drew ?_ | refine blk_alloc ?_ _)); refine blk_put (cs := #[.int .i64 0, .int .i64 0, .string (⟨#[]⟩ : ByteArray)]) ?_ 0 _ rfl; (with_reducible repeat (first | refine blk_drewN ?_ _ | refine blk_drew ?_ | refine blk_alloc ?_ _)); exact BK210.out) hb); have n2_ := Aside0.mk (below_step (by repeat (first | (with_reducible first | exact HB.out | apply below_alloc | apply pw_below_drewN | apply below_drew1 | refine below_set ?_ GE205.out | refine below_set ?_ GE210.out) | exact HB.out)) hb); clear BK205; clear BK210; clear HB; have BK205 := n0_; have BK210 := n1_; have HB := n2_; clear n0_ n1_ n2_; (try clear hb); (try clear hb2); (try clear hk); (try clear hi)) | ((with_reducible refine gate_callee (f := 24) rfl ?_); refine goesL_ (some 23) rfl rfl Try.func24 (by kernel_rfl) rfl #[.int .i64 0] rfl (by (try simp only [List.map_toArray, List.map_cons, List.map_nil]); first | done | rfl | (simp only [List.length_drop, List.length_take]; rfl)) ?_; (with_reducible refine (quarrylaw02_num.calls 0 t214 t215 t216 _ A6.out).mono ?_); rintro e w28 ⟨rfl, hb⟩; refine ⟨_, rfl, ?_⟩; have n0_ := Aside0.mk (blk_below (g := gb205) (o := .cells #[.int .i64 t201, .int .i64 t202, .string t203] 25 (0, 0)) (bk_ BK205) hb); have n1_ := Aside0.mk (blk_below (g := gb210) (o := .cells #[.int .i64 t206, .int .i64 t207, .string t208] 25 (0, 0)) (bk_ BK210) hb); have n2_ := Aside0.mk (below_step (by repeat (first | (with_reducible first | exact HB.out | apply below_alloc | apply pw_below_drewN | apply below_drew1 | refine below_set ?_ GE205.out | refine below_set ?_ GE210.out) | exact HB.out)) hb); clear BK205; clear BK210; clear HB; have BK205 := n0_; have BK210 := n1_; have HB := n2_; clear n0_ n1_ n2_; (try clear hb); (try clear hb2); (try clear hk); (try clear hi)) | ((with_reducible refine gate_callee (f := 17) rfl ?_); refine goesL_ (some 24) rfl rfl Try.func17 (by kernel_rfl) rfl #[.int .i64 14, .agg #[.int .i64 t211, .int .i64 t212, .string t213], .agg #[.int .i64 t214, .int .i64 t215, .string t216]] rfl (by (try simp only [List.map_toArray, List.map_cons, List.map_nil]); first | done | rfl | (simp only [List.length_drop, List.length_take]; rfl)) ?_; (with_reducible refine (calc_Binary.print 14 t211 t212 t213 t214 t215 t216 t217 t218 t219 t220 _ A7.out).mono ?_); rintro e w29 ⟨rfl, hb⟩; refine ⟨_, rfl, ?_⟩; have n0_ := Aside0.mk (blk_below (g := gb205) (o := .cells #[.int .i64 t201, .int .i64 t202, .string t203] 25 (0, 0)) (bk_ BK205) hb); have n1_ := Aside0.mk (blk_below (g := gb210) (o := .cells #[.int .i64 t206, .int .i64 t207, .string t208] 25 (0, 0)) (bk_ BK210) hb); have n2_ := Aside0.mk (below_step (by repeat (first | (with_reducible first | exact HB.out | apply below_alloc | apply pw_below_drewN | apply below_drew1 | refine below_set ?_ GE205.out | refine below_set ?_ GE210.out) | exact HB.out)) hb); clear BK205; clear BK210; clear HB; have BK205 := n0_; have BK210 := n1_; have HB := n2_; clear n0_ n1_ n2_; (try clear hb); (try clear hb2); (try clear hk); (try clear hi)) | ((with_reducible refine gate_dst (N := 5) rfl ?_); refine box_event ?hg (N := 5) ?hd (cs := #[.int .i64 0, .int .i64 0, .string (⟨#[]⟩ : ByteArray)]) (t := 25) ?hr ?_; (case hd => rfl); (case hg => rfl); (case hr => first | (go_simp; done) | (go_simp; rfl)); intro gb221 hg w30 hbox hb; have n0_ := Aside0.mk (blk_below (g := gb205) (o := .cells #[.int .i64 t201, .int .i64 t202, .string t203] 25 (0, 0)) (bk_ BK205) hb); have n1_ := Aside0.mk (blk_below (g := gb210) (o := .cells #[.int .i64 t206, .int .i64 t207, .string t208] 25 (0, 0)) (bk_ BK210) hb); have n2_ := Aside0.mk (below_step (by repeat (first | (with_reducible first | exact HB.out | apply below_alloc | apply pw_below_drewN | apply below_drew1 | refine below_set ?_ GE205.out | refine below_set ?_ GE210.out) | exact HB.out)) hb); have n3_ := Aside0.mk (hbox); have n4_ := Aside0.mk ((by rw [hg]; exact (below_size (by repeat (first | (with_reducible first | exact HB.out | apply below_alloc | apply pw_below_drewN | apply below_drew1 | refine below_set ?_ GE205.out | refine below_set ?_ GE210.out) | exact HB.out))) : w.heap.size ≤ gb221)); have n5_ := Aside0.mk ((by rw [hg]; exact (below_size (by repeat (first | (with_reducible first | exact HB.out | apply below_alloc | apply pw_below_drewN | apply below_drew1 | refine below_set ?_ GE205.out | refine below_set ?_ GE210.out) | exact HB.out))) : w.heap.size ≤ gb221)); have n6_ := Aside0.mk ((by rw [hg]; exact Nat.ne_of_lt (blk_lt (g := gb205) (o := .cells #[.int .i64 t201, .int .i64 t202, .string t203] 25 (0, 0)) (bk_ BK205)) : gb205 ≠ gb221)); have n7_ := Aside0.mk ((by rw [hg]; exact Nat.ne_of_gt (blk_lt (g := gb205) (o := .cells #[.int .i64 t201, .int .i64 t202, .string t203] 25 (0, 0)) (bk_ BK205)) : gb221 ≠ gb205)); have n8_ := Aside0.mk ((by rw [hg]; exact Nat.ne_of_lt (blk_lt (g := gb210) (o := .cells #[.int .i64 t206, .int .i64 t207, .string t208] 25 (0, 0)) (bk_ BK210)) : gb210 ≠ gb221)); have n9_ := Aside0.mk ((by rw [hg]; exact Nat.ne_of_gt (blk_lt (g := gb210) (o := .cells #[.int .i64 t206, .int .i64 t207, .string t208] 25 (0, 0)) (bk_ BK210)) : gb221 ≠ gb210)); clear BK205; clear BK210; clear HB; have BK205 := n0_; have BK210 := n1_; have HB := n2_; have BK221 := n3_; have GW221 := n4_; have GE221 := n5_; have NB205_221 := n6_; have NB221_205 := n7_; have NB210_221 := n8_; have NB221_210 := n9_; clear n0_ n1_ n2_ n3_ n4_ n5_ n6_ n7_ n8_ n9_; clear hb hbox hg; have hnb31 := NB221_205.out; have hnc31 := NB205_221.out; have hnb32 := NB221_210.out; have hnc32 := NB210_221.out; have hcz33_0 : w30.cell? ⟨gb221, 0, none⟩ = some (.int .i64 0) := (blk_cell BK221.out 0).trans rfl; have hcz33_1 : w30.cell? ⟨gb221, 1, none⟩ = some (.int .i64 0) := (blk_cell BK221.out 1).trans rfl; have hcz33_2 : w30.cell? ⟨gb221, 2, none⟩ = some (.string (⟨#[]⟩ : ByteArray)) := (blk_cell BK221.out 2).trans rfl; have hfz33_0 := blk_frozen BK221.out 0; have hfz33_1 := blk_frozen BK221.out 1; have hfz33_2 := blk_frozen BK221.out 2) | ((with_reducible refine gate_callee (f := 24) rfl ?_); refine goesL_ (some 29) rfl rfl Try.func24 (by kernel_rfl) rfl #[.int .i64 2] rfl (by (try simp only [List.map_toArray, List.map_cons, List.map_nil]); first | done | rfl | (simp only [List.length_drop, List.length_take]; rfl)) ?_; (with_reducible refine (quarrylaw02_num.calls 2 t222 t223 t224 _ A8.out).mono ?_); rintro e w34 ⟨rfl, hb⟩; refine ⟨_, rfl, ?_⟩; have n0_ := Aside0.mk (blk_below (g := gb205) (o := .cells #[.int .i64 t201, .int .i64 t202, .string t203] 25 (0, 0)) (by (with_reducible repeat (first | refine blk_drewN ?_ _ | refine blk_drew ?_ | refine blk_alloc ?_ _)); refine blk_far ?_ NB205_221.out _; (with_reducible repeat (first | refine blk_drewN ?_ _ | refine blk_drew ?_ | refine blk_alloc ?_ _)); refine blk_far ?_ NB205_221.out _; (with_reducible repeat (first | refine blk_drewN ?_ _ | refine blk_drew ?_ | refine blk_alloc ?_ _)); refine blk_far ?_ NB205_221.out _; (with_reducible repeat (first | refine blk_drewN ?_ _ | refine blk_drew ?_ | refine blk_alloc ?_ _)); exact BK205.out) hb); have n1_ := Aside0.mk (blk_below (g := gb210) (o := .cells #[.int .i64 t206, .int .i64 t207, .string t208] 25 (0, 0)) (by (with_reducible repeat (first | refine blk_drewN ?_ _ | refine blk_drew ?_ | refine blk_alloc ?_ _)); refine blk_far ?_ NB210_221.out _; (with_reducible repeat (first | refine blk_drewN ?_ _ | refine blk_drew ?_ | refine blk_alloc ?_ _)); refine blk_far ?_ NB210_221.out _; (with_reducible repeat (first | refine blk_drewN ?_ _ | refine blk_drew ?_ | refine blk_alloc ?_ _)); refine blk_far ?_ NB210_221.out _; (with_reducible repeat (first | refine blk_drewN ?_ _ | refine blk_drew ?_ | refine blk_alloc ?_ _)); exact BK210.out) hb); have n2_ := Aside0.mk (blk_below (g := gb221) (o := .cells #[.int .i64 t217, .int .i64 t218, .string t219] 25 (0, 0)) (by (with_reducible repeat (first | refine blk_drewN ?_ _ | refine blk_drew ?_ | refine blk_alloc ?_ _)); refine blk_put (cs := #[.int .i64 t217, .int .i64 t218, .string (⟨#[]⟩ : ByteArray)]) ?_ 2 _ rfl; (with_reducible repeat (first | refine blk_drewN ?_ _ | refine blk_drew ?_ | refine blk_alloc ?_ _)); refine blk_put (cs := #[.int .i64 t217, .int .i64 0, .string (⟨#[]⟩ : ByteArray)]) ?_ 1 _ rfl; (with_reducible repeat (first | refine blk_drewN ?_ _ | refine blk_drew ?_ | refine blk_alloc ?_ _)); refine blk_put (cs := #[.int .i64 0, .int .i64 0, .string (⟨#[]⟩ : ByteArray)]) ?_ 0 _ rfl; (with_reducible repeat (first | refine blk_drewN ?_ _ | refine blk_drew ?_ | refine blk_alloc ?_ _)); exact BK221.out) hb); have n3_ := Aside0.mk (below_step (by repeat (first | (with_reducible first | exact HB.out | apply below_alloc | apply pw_below_drewN | apply below_drew1 | refine below_set ?_ GE205.out | refine below_set ?_ GE210.out | refine below_set ?_ GE221.out) | exact HB.out)) hb); clear BK205; clear BK210; clear BK221; clear HB; have BK205 := n0_; have BK210 := n1_; have BK221 := n2_; have HB := n3_; clear n0_ n1_ n2_ n3_; (try clear hb); (try clear hb2); (try clear hk); (try clear hi)) | ((with_reducible refine gate_callee (f := 24) rfl ?_); refine goesL_ (some 30) rfl rfl Try.func24 (by kernel_rfl) rfl #[.int .i64 3] rfl (by (try simp only [List.map_toArray, List.map_cons, List.map_nil]); first | done | rfl | (simp only [List.length_drop, List.length_take]; rfl)) ?_; (with_reducible refine (quarrylaw02_num.calls 3 t225 t226 t227 _ A9.out).mono ?_); rintro e w35 ⟨rfl, hb⟩; refine ⟨_, rfl, ?_⟩; have n0_ := Aside0.mk (blk_below (g := gb205) (o := .cells #[.int .i64 t201, .int .i64 t202, .string t203] 25 (0, 0)) (bk_ BK205) hb); have n1_ := Aside0.mk (blk_below (g := gb210) (o := .cells #[.int .i64 t206, .int .i64 t207, .string t208] 25 (0, 0)) (bk_ BK210) hb); have n2_ := Aside0.mk (blk_below (g := gb221) (o := .cells #[.int .i64 t217, .int .i64 t218, .string t219] 25 (0, 0)) (bk_ BK221) hb); have n3_ := Aside0.mk (below_step (by repeat (first | (with_reducible first | exact HB.out | apply below_alloc | apply pw_below_drewN | apply below_drew1 | refine below_set ?_ GE205.out | refine below_set ?_ GE210.out | refine below_set ?_ GE221.out) | exact HB.out)) hb); clear BK205; clear BK210; clear BK221; clear HB; have BK205 := n0_; have BK210 := n1_; have BK221 := n2_; have HB := n3_; clear n0_ n1_ n2_ n3_; (try clear hb); (try clear hb2); (try clear hk); (try clear hi)) | ((with_reducible refine gate_dst (N := 31) rfl ?_); refine Kd.R_lit k25 _ 25 ?hg (N := 31) ?hd (xs := ([(⟨3, 0, (⟨#[104, 101, 108, 108, 111]⟩ : ByteArray)⟩ : S25), (⟨t222, t223, t224⟩ : S25), (⟨t225, t226, t227⟩ : S25)] : List (S25))) (inner := [.int .i64 3, .int .i64 0, .string (⟨#[104, 101, 108, 108, 111]⟩ : ByteArray), .int .i64 t222, .int .i64 t223, .string t224, .int .i64 t225, .int .i64 t226, .string t227]) (ok := fun _ => True) (okp := fun _ => True) ?hr ?hp (fun _ hk => hk) trivial (Below.refl _ _) (Nat.le_refl _) (by simp) ?_; (case hd => rfl); (case hg => rfl); (case hr => first | (go_simp; done) | (go_simp; rfl)); (case hp => exact (Reps.c3 (show Kd.M k25 _ _ _ (⟨3, 0, (⟨#[104, 101, 108, 108, 111]⟩ : ByteArray)⟩ : S25) [.int .i64 3, .int .i64 0, .string (⟨#[104, 101, 108, 108, 111]⟩ : ByteArray)] from (k25_mkM _ _ _ (⟨3, 0, (⟨#[104, 101, 108, 108, 111]⟩ : ByteArray)⟩ : S25) )) (Reps.c3 (show Kd.M k25 _ _ _ (⟨t222, t223, t224⟩ : S25) [.int .i64 t222, .int .i64 t223, .string t224] from (k25_mkM _ _ _ (⟨t222, t223, t224⟩ : S25) )) (Reps.c3 (show Kd.M k25 _ _ _ (⟨t225, t226, t227⟩ : S25) [.int .i64 t225, .int .i64 t226, .string t227] from (k25_mkM _ _ _ (⟨t225, t226, t227⟩ : S25) )) (Reps.none _ _))))); intro v229 w36 ho37 hb hg_ hnew_; clear hg_ hnew_; (first | rw [← Ny228.out] at ho37 | (simp only [Int.reduceToNat] at ho37; rw [← Ny228.out] at ho37)); have n0_ := Aside0.mk (Kd.R_lower (Kd.R_newB (Kd.R_newB (Kd.R_newB ho37 (g := gb205) (o := .cells #[.int .i64 t201, .int .i64 t202, .string t203] 25 (0, 0)) (bk_ BK205)) (g := gb210) (o := .cells #[.int .i64 t206, .int .i64 t207, .string t208] 25 (0, 0)) (bk_ BK210)) (g := gb221) (o := .cells #[.int .i64 t217, .int .i64 t218, .string t219] 25 (0, 0)) (bk_ BK221)) (below_size (by repeat (first | (with_reducible first | exact HB.out | apply below_alloc | apply pw_below_drewN | apply below_drew1 | refine below_set ?_ GE205.out | refine below_set ?_ GE210.out | refine below_set ?_ GE221.out) | exact HB.out)))); have n1_ := Aside0.mk (blk_below (g := gb205) (o := .cells #[.int .i64 t201, .int .i64 t202, .string t203] 25 (0, 0)) (bk_ BK205) hb); have n2_ := Aside0.mk (blk_below (g := gb210) (o := .cells #[.int .i64 t206, .int .i64 t207, .string t208] 25 (0, 0)) (bk_ BK210) hb); have n3_ := Aside0.mk (blk_below (g := gb221) (o := .cells #[.int .i64 t217, .int .i64 t218, .string t219] 25 (0, 0)) (bk_ BK221) hb); have n4_ := Aside0.mk (below_step (by repeat (first | (with_reducible first | exact HB.out | apply below_alloc | apply pw_below_drewN | apply below_drew1 | refine below_set ?_ GE205.out | refine below_set ?_ GE210.out | refine below_set ?_ GE221.out) | exact HB.out)) hb); clear BK205; clear BK210; clear BK221; clear HB; have HO230 := n0_; have BK205 := n1_; have BK210 := n2_; have BK221 := n3_; have HB := n4_; clear n0_ n1_ n2_ n3_ n4_; clear hb ho37; obtain ⟨Ao38, co38, eo38⟩ := Kd.R_slice HO230.out; subst eo38) | ((with_reducible refine gate_callee (f := 12) rfl ?_); refine goesL_ (some 32) rfl rfl Try.func12 (by kernel_rfl) rfl #[.int .i64 5, .slice Ao38 y228.length co38] rfl (by (try simp only [List.map_toArray, List.map_cons, List.map_nil]); first | done | rfl | (simp only [List.length_drop, List.length_take]; rfl)) ?_; (with_reducible refine (calc_Call.print 5 _ _ y228 t231 t232 t233 t234 _ ?side1 ?side2 A10.out).mono ?_); (case side1 => repeat (first | exact (Kd.R_reads' HO230.out).2.2 | (with_reducible refine Kd.C_alloc ?_ _) | (with_reducible refine Kd.C_drewN ?_ _) | (with_reducible refine Kd.C_drew ?_))); (case side2 => exact (Kd.R_reads' HO230.out).2.1); rintro e w39 ⟨rfl, hb⟩; refine ⟨_, rfl, ?_⟩; have n0_ := Aside0.mk (Kd.R_below (by (with_reducible repeat (first | apply Kd.R_alloc | apply Kd.R_drewN | apply Kd.R_drew)); exact HO230.out) hb); have n1_ := Aside0.mk (blk_below (g := gb205) (o := .cells #[.int .i64 t201, .int .i64 t202, .string t203] 25 (0, 0)) (bk_ BK205) hb); have n2_ := Aside0.mk (blk_below (g := gb210) (o := .cells #[.int .i64 t206, .int .i64 t207, .string t208] 25 (0, 0)) (bk_ BK210) hb); have n3_ := Aside0.mk (blk_below (g := gb221) (o := .cells #[.int .i64 t217, .int .i64 t218, .string t219] 25 (0, 0)) (bk_ BK221) hb); have n4_ := Aside0.mk (below_step (by repeat (first | (with_reducible first | exact HB.out | apply below_alloc | apply pw_below_drewN | apply below_drew1 | refine below_set ?_ GE205.out | refine below_set ?_ GE210.out | refine below_set ?_ GE221.out) | exact HB.out)) hb); clear HO230; clear BK205; clear BK210; clear BK221; clear HB; have HO230 := n0_; have BK205 := n1_; have BK210 := n2_; have BK221 := n3_; have HB := n4_; clear n0_ n1_ n2_ n3_ n4_; (try clear hb); (try clear hb2); (try clear hk); (try clear hi)) | ((with_reducible refine gate_dst (N := 7) rfl ?_); refine box_event ?hg (N := 7) ?hd (cs := #[.int .i64 0, .int .i64 0, .string (⟨#[]⟩ : ByteArray)]) (t := 25) ?hr ?_; (case hd => rfl); (case hg => rfl); (case hr => first | (go_simp; done) | (go_simp; rfl)); intro gb235 hg w40 hbox hb; have n0_ := Aside0.mk (Kd.R_below (Kd.R_elderB (by (with_reducible repeat (first | apply Kd.R_alloc | apply Kd.R_drewN | apply Kd.R_drew)); exact HO230.out) gb235 (Nat.le_of_eq hg.symm)) hb); have n1_ := Aside0.mk (blk_below (g := gb205) (o := .cells #[.int .i64 t201, .int .i64 t202, .string t203] 25 (0, 0)) (bk_ BK205) hb); have n2_ := Aside0.mk (blk_below (g := gb210) (o := .cells #[.int .i64 t206, .int .i64 t207, .string t208] 25 (0, 0)) (bk_ BK210) hb); have n3_ := Aside0.mk (blk_below (g := gb221) (o := .cells #[.int .i64 t217, .int .i64 t218, .string t219] 25 (0, 0)) (bk_ BK221) hb); have n4_ := Aside0.mk (below_step (by repeat (first | (with_reducible first | exact HB.out | apply below_alloc | apply pw_below_drewN | apply below_drew1 | refine below_set ?_ GE205.out | refine below_set ?_ GE210.out | refine below_set ?_ GE221.out) | exact HB.out)) hb); have n5_ := Aside0.mk (hbox); have n6_ := Aside0.mk ((by rw [hg]; exact (below_size (by repeat (first | (with_reducible first | exact HB.out | apply below_alloc | apply pw_below_drewN | apply below_drew1 | refine below_set ?_ GE205.out | refine below_set ?_ GE210.out | refine below_set ?_ GE221.out) | exact HB.out))) : w.heap.size ≤ gb235)); have n7_ := Aside0.mk ((by rw [hg]; exact (below_size (by repeat (first | (with_reducible first | exact HB.out | apply below_alloc | apply pw_below_drewN | apply below_drew1 | refine below_set ?_ GE205.out | refine below_set ?_ GE210.out | refine below_set ?_ GE221.out) | exact HB.out))) : w.heap.size ≤ gb235)); have n8_ := Aside0.mk ((by rw [hg]; exact Nat.ne_of_lt (blk_lt (g := gb205) (o := .cells #[.int .i64 t201, .int .i64 t202, .string t203] 25 (0, 0)) (bk_ BK205)) : gb205 ≠ gb235)); have n9_ := Aside0.mk ((by rw [hg]; exact Nat.ne_of_gt (blk_lt (g := gb205) (o := .cells #[.int .i64 t201, .int .i64 t202, .string t203] 25 (0, 0)) (bk_ BK205)) : gb235 ≠ gb205)); have n10_ := Aside0.mk ((by rw [hg]; exact Nat.ne_of_lt (blk_lt (g := gb210) (o := .cells #[.int .i64 t206, .int .i64 t207, .string t208] 25 (0, 0)) (bk_ BK210)) : gb210 ≠ gb235)); have n11_ := Aside0.mk ((by rw [hg]; exact Nat.ne_of_gt (blk_lt (g := gb210) (o := .cells #[.int .i64 t206, .int .i64 t207, .string t208] 25 (0, 0)) (bk_ BK210)) : gb235 ≠ gb210)); have n12_ := Aside0.mk ((by rw [hg]; exact Nat.ne_of_lt (blk_lt (g := gb221) (o := .cells #[.int .i64 t217, .int .i64 t218, .string t219] 25 (0, 0)) (bk_ BK221)) : gb221 ≠ gb235)); have n13_ := Aside0.mk ((by rw [hg]; exact Nat.ne_of_gt (blk_lt (g := gb221) (o := .cells #[.int .i64 t217, .int .i64 t218, .string t219] 25 (0, 0)) (bk_ BK221)) : gb235 ≠ gb221)); clear HO230; clear BK205; clear BK210; clear BK221; clear HB; have HO230 := n0_; have BK205 := n1_; have BK210 := n2_; have BK221 := n3_; have HB := n4_; have BK235 := n5_; have GW235 := n6_; have GE235 := n7_; have NB205_235 := n8_; have NB235_205 := n9_; have NB210_235 := n10_; have NB235_210 := n11_; have NB221_235 := n12_; have NB235_221 := n13_; clear n0_ n1_ n2_ n3_ n4_ n5_ n6_ n7_ n8_ n9_ n10_ n11_ n12_ n13_; clear hb hbox hg; have hnb41 := NB235_205.out; have hnc41 := NB205_235.out; have hnb42 := NB235_210.out; have hnc42 := NB210_235.out; have hnb43 := NB235_221.out; have hnc43 := NB221_235.out; have hcz44_0 : w40.cell? ⟨gb235, 0, none⟩ = some (.int .i64 0) := (blk_cell BK235.out 0).trans rfl; have hcz44_1 : w40.cell? ⟨gb235, 1, none⟩ = some (.int .i64 0) := (blk_cell BK235.out 1).trans rfl; have hcz44_2 : w40.cell? ⟨gb235, 2, none⟩ = some (.string (⟨#[]⟩ : ByteArray)) := (blk_cell BK235.out 2).trans rfl; have hfz44_0 := blk_frozen BK235.out 0; have hfz44_1 := blk_frozen BK235.out 1; have hfz44_2 := blk_frozen BK235.out 2))
       have n0_ : Aside0 (Kd.R k25 25 (((w40.setCell ⟨gb235, 0, none⟩ (.int .i64 t231)).setCell ⟨gb235, 1, none⟩ (.int .i64 t232)).setCell ⟨gb235, 2, none⟩ (.string t233)) w.heap.size (fun k_ => k_ ≠ gb205 ∧ k_ ≠ gb210 ∧ k_ ≠ gb221 ∧ k_ ≠ gb235) (.slice Ao38 y228.length co38) y228) := ⟨by (with_reducible repeat (first | apply Kd.R_alloc | apply Kd.R_drewN | apply Kd.R_drew)); exact Kd.R_mono (Kd.R_far (p := ⟨gb235, 2, none⟩) (Kd.R_far (p := ⟨gb235, 1, none⟩) (Kd.R_far (p := ⟨gb235, 0, none⟩) (Kd.R_mono HO230.out (fun k_ hk => (⟨hk, hk.2⟩ : _ ∧ k_ ≠ gb235))) (fun _ hk => hk.2) (.int .i64 t231)) (fun _ hk => hk.2) (.int .i64 t232)) (fun _ hk => hk.2) (.string t233)) (fun _ hk => ⟨hk.1.1.1.1.2, ⟨hk.1.1.1.2, ⟨hk.1.1.2, hk.1.2⟩⟩⟩)⟩
       have n1_ : Aside0 ((((w40.setCell ⟨gb235, 0, none⟩ (.int .i64 t231)).setCell ⟨gb235, 1, none⟩ (.int .i64 t232)).setCell ⟨gb235, 2, none⟩ (.string t233)).heap[gb205]? = some (.cells #[.int .i64 t201, .int .i64 t202, .string t203] 25 (0, 0))) := ⟨by (with_reducible repeat (first | refine blk_drewN ?_ _ | refine blk_drew ?_ | refine blk_alloc ?_ _)); refine blk_far ?_ NB205_235.out _; (with_reducible repeat (first | refine blk_drewN ?_ _ | refine blk_drew ?_ | refine blk_alloc ?_ _)); refine blk_far ?_ NB205_235.out _; (with_reducible repeat (first | refine blk_drewN ?_ _ | refine blk_drew ?_ | refine blk_alloc ?_ _)); refine blk_far ?_ NB205_235.out _; (with_reducible repeat (first | refine blk_drewN ?_ _ | refine blk_drew ?_ | refine blk_alloc ?_ _)); exact BK205.out⟩
       have n2_ : Aside0 ((((w40.setCell ⟨gb235, 0, none⟩ (.int .i64 t231)).setCell ⟨gb235, 1, none⟩ (.int .i64 t232)).setCell ⟨gb235, 2, none⟩ (.string t233)).heap[gb210]? = some (.cells #[.int .i64 t206, .int .i64 t207, .string t208] 25 (0, 0))) := ⟨by (with_reducible repeat (first | refine blk_drewN ?_ _ | refine blk_drew ?_ | refine blk_alloc ?_ _)); refine blk_far ?_ NB210_235.out _; (with_reducible repeat (first | refine blk_drewN ?_ _ | refine blk_drew ?_ | refine blk_alloc ?_ _)); refine blk_far ?_ NB210_235.out _; (with_reducible repeat (first | refine blk_drewN ?_ _ | refine blk_drew ?_ | refine blk_alloc ?_ _)); refine blk_far ?_ NB210_235.out _; (with_reducible repeat (first | refine blk_drewN ?_ _ | refine blk_drew ?_ | refine blk_alloc ?_ _)); exact BK210.out⟩
       have n3_ : Aside0 ((((w40.setCell ⟨gb235, 0, none⟩ (.int .i64 t231)).setCell ⟨gb235, 1, none⟩ (.int .i64 t232)).setCell ⟨gb235, 2, none⟩ (.string t233)).heap[gb221]? = some (.cells #[.int .i64 t217, .int .i64 t218, .string t219] 25 (0, 0))) := ⟨by (with_reducible repeat (first | refine blk_drewN ?_ _ | refine blk_drew ?_ | refine blk_alloc ?_ _)); refine blk_far ?_ NB221_235.out _; (with_reducible repeat (first | refine blk_drewN ?_ _ | refine blk_drew ?_ | refine blk_alloc ?_ _)); refine blk_far ?_ NB221_235.out _; (with_reducible repeat (first | refine blk_drewN ?_ _ | refine blk_drew ?_ | refine blk_alloc ?_ _)); refine blk_far ?_ NB221_235.out _; (with_reducible repeat (first | refine blk_drewN ?_ _ | refine blk_drew ?_ | refine blk_alloc ?_ _)); exact BK221.out⟩
       have n4_ : Aside0 ((((w40.setCell ⟨gb235, 0, none⟩ (.int .i64 t231)).setCell ⟨gb235, 1, none⟩ (.int .i64 t232)).setCell ⟨gb235, 2, none⟩ (.string t233)).heap[gb235]? = some (.cells #[.int .i64 t231, .int .i64 t232, .string t233] 25 (0, 0))) := ⟨by (with_reducible repeat (first | refine blk_drewN ?_ _ | refine blk_drew ?_ | refine blk_alloc ?_ _)); refine blk_put (cs := #[.int .i64 t231, .int .i64 t232, .string (⟨#[]⟩ : ByteArray)]) ?_ 2 _ rfl; (with_reducible repeat (first | refine blk_drewN ?_ _ | refine blk_drew ?_ | refine blk_alloc ?_ _)); refine blk_put (cs := #[.int .i64 t231, .int .i64 0, .string (⟨#[]⟩ : ByteArray)]) ?_ 1 _ rfl; (with_reducible repeat (first | refine blk_drewN ?_ _ | refine blk_drew ?_ | refine blk_alloc ?_ _)); refine blk_put (cs := #[.int .i64 0, .int .i64 0, .string (⟨#[]⟩ : ByteArray)]) ?_ 0 _ rfl; (with_reducible repeat (first | refine blk_drewN ?_ _ | refine blk_drew ?_ | refine blk_alloc ?_ _)); exact BK235.out⟩
       have n5_ : Aside0 (Below w.heap.size w (((w40.setCell ⟨gb235, 0, none⟩ (.int .i64 t231)).setCell ⟨gb235, 1, none⟩ (.int .i64 t232)).setCell ⟨gb235, 2, none⟩ (.string t233))) := ⟨by repeat (first | (with_reducible first | exact HB.out | apply below_alloc | apply pw_below_drewN | apply below_drew1 | refine below_set ?_ GE205.out | refine below_set ?_ GE210.out | refine below_set ?_ GE221.out | refine below_set ?_ GE235.out) | exact HB.out)⟩
       (try clear HO230)
       (try clear BK205)
       (try clear BK210)
       (try clear BK221)
       (try clear BK235)
       (try clear HB)
       generalize (((w40.setCell ⟨gb235, 0, none⟩ (.int .i64 t231)).setCell ⟨gb235, 1, none⟩ (.int .i64 t232)).setCell ⟨gb235, 2, none⟩ (.string t233)) = w45 at n0_ n1_ n2_ n3_ n4_ n5_ ⊢
       have HO230 := n0_
       have BK205 := n1_
       have BK210 := n2_
       have BK221 := n3_
       have BK235 := n4_
       have HB := n5_
       clear n0_ n1_ n2_ n3_ n4_ n5_
       have n0_ := Aside0.mk (Kd.R_drew HO230.out)
       have n1_ := Aside0.mk (blk_drew BK205.out)
       have n2_ := Aside0.mk (blk_drew BK210.out)
       have n3_ := Aside0.mk (blk_drew BK221.out)
       have n4_ := Aside0.mk (blk_drew BK235.out)
       have n5_ := Aside0.mk (below_drew1 HB.out)
       clear HO230
       clear BK205
       clear BK210
       clear BK221
       clear BK235
       clear HB
       have HO230 := n0_
       have BK205 := n1_
       have BK210 := n2_
       have BK221 := n3_
       have BK235 := n4_
       have HB := n5_
       clear n0_ n1_ n2_ n3_ n4_ n5_
       refine start_ (n := 30) (S := fun w' => w'.cell? ⟨gb205, 0, none⟩ = some (.int .i64 t201) ∧ w'.cell? ⟨gb205, 1, none⟩ = some (.int .i64 t202) ∧ w'.cell? ⟨gb205, 2, none⟩ = some (.string t203) ∧ w'.cell? ⟨gb210, 0, none⟩ = some (.int .i64 t206) ∧ w'.cell? ⟨gb210, 1, none⟩ = some (.int .i64 t207) ∧ w'.cell? ⟨gb210, 2, none⟩ = some (.string t208) ∧ w'.cell? ⟨gb235, 0, none⟩ = some (.int .i64 t231) ∧ w'.cell? ⟨gb235, 1, none⟩ = some (.int .i64 t232) ∧ w'.cell? ⟨gb235, 2, none⟩ = some (.string t233)) (ds := []) #[false, false, false, false, false, false, false, false, false, false, false, false, false, false, false, false, false, false, false, false, false, false, false, false, false, false, false, false, false, false] (by kernel_rfl) rfl rfl ⟨(blk_cell BK205.out 0).trans rfl, (blk_cell BK205.out 1).trans rfl, (blk_cell BK205.out 2).trans rfl, (blk_cell BK210.out 0).trans rfl, (blk_cell BK210.out 1).trans rfl, (blk_cell BK210.out 2).trans rfl, (blk_cell BK235.out 0).trans rfl, (blk_cell BK235.out 1).trans rfl, (blk_cell BK235.out 2).trans rfl⟩ (fun hHeld => ?_); refine with_tabW quarrylaw02_works.tab5 quarrylaw02_works.bits5 (fun HT_ HW_ => ?_)
       generalize w45.drew = w46 at HO230 BK205 BK210 BK221 BK235 HB hHeld ⊢
       refine take_ (i := 0) (N := some 35) (v := ?_) (a' := ?_) #[true, false, false, false, false, false, false, false, false, false, false, false, false, false, false, false, false, false, false, false, false, false, false, false, false, false, false, false, false, false] rfl rfl (take_ofW HT_.out HW_.out (by kernel_rfl)) (fun _ _ _ h => h) (Or.inl ⟨by rfl, ?_⟩) hHeld ?_ ?_
       rotate_left
       ·rintro w' ⟨s0, s1, s2, s3, s4, s5, s6, s7, s8⟩
        go_simp
        with_reducible rfl
       rotate_left
       ·simp only [Act.put, List.setIfInBounds_toArray, List.set_cons_zero, List.set_cons_succ, i64_w, i32_w]
        rfl
       refine one_ (i := 1) (N := some 36) #[true, true, false, false, false, false, false, false, false, false, false, false, false, false, false, false, false, false, false, false, false, false, false, false, false, false, false, false, false, false] rfl rfl (one_of HT_.out (by kernel_rfl)) (by decide) (fun K hK => ?_)
       refine goes_ Try.func24 (by kernel_rfl) rfl #[.int .i64 5] (by rfl) rfl rfl (by (try simp only [List.map_toArray, List.map_cons, List.map_nil]); first | done | rfl | (simp only [List.length_drop, List.length_take]; rfl)) ?_
       with_reducible refine (quarrylaw02_num.calls 5 t236 t237 t238 _ A11.out).mono ?_
       rintro e w47 ⟨rfl, hb⟩
       refine ⟨_, rfl, ?_⟩
       have n0_ := Aside0.mk (Kd.R_below (by (with_reducible repeat (first | apply Kd.R_alloc | apply Kd.R_drewN | apply Kd.R_drew)); exact HO230.out) hb)
       have n1_ := Aside0.mk (blk_below (g := gb205) (o := .cells #[.int .i64 t201, .int .i64 t202, .string t203] 25 (0, 0)) (bk_ BK205) hb)
       have n2_ := Aside0.mk (blk_below (g := gb210) (o := .cells #[.int .i64 t206, .int .i64 t207, .string t208] 25 (0, 0)) (bk_ BK210) hb)
       have n3_ := Aside0.mk (blk_below (g := gb221) (o := .cells #[.int .i64 t217, .int .i64 t218, .string t219] 25 (0, 0)) (bk_ BK221) hb)
       have n4_ := Aside0.mk (blk_below (g := gb235) (o := .cells #[.int .i64 t231, .int .i64 t232, .string t233] 25 (0, 0)) (bk_ BK235) hb)
       have n5_ := Aside0.mk (below_step (by repeat (first | (with_reducible first | exact HB.out | apply below_alloc | apply pw_below_drewN | apply below_drew1 | refine below_set ?_ GE205.out | refine below_set ?_ GE210.out | refine below_set ?_ GE221.out | refine below_set ?_ GE235.out) | exact HB.out)) hb)
       clear HO230
       clear BK205
       clear BK210
       clear BK221
       clear BK235
       clear HB
       have HO230 := n0_
       have BK205 := n1_
       have BK210 := n2_
       have BK221 := n3_
       have BK235 := n4_
       have HB := n5_
       clear n0_ n1_ n2_ n3_ n4_ n5_
       (try clear hb)
       (try clear hb2)
       (try clear hk)
       (try clear hi)
       refine hK.out _ _ ⟨(blk_cell BK205.out 0).trans rfl, (blk_cell BK205.out 1).trans rfl, (blk_cell BK205.out 2).trans rfl, (blk_cell BK210.out 0).trans rfl, (blk_cell BK210.out 1).trans rfl, (blk_cell BK210.out 2).trans rfl, (blk_cell BK235.out 0).trans rfl, (blk_cell BK235.out 1).trans rfl, (blk_cell BK235.out 2).trans rfl⟩ (fun hHeld => ?_)
       clear hK K
       refine norm_ (a' := ?_) ?_ ?_
       rotate_left
       ·show Act.put _ (some 36) _ = _
        simp only [Act.put, List.setIfInBounds_toArray, List.set_cons_zero, List.set_cons_succ, i64_w, i32_w]
        rfl
       refine pure_ (i := 2) (N := some 37) (v := ?_) (a' := ?_) #[true, true, true, false, false, false, false, false, false, false, false, false, false, false, false, false, false, false, false, false, false, false, false, false, false, false, false, false, false, false] rfl rfl (any_of HT_.out (by kernel_rfl)) (fun _ _ _ h => h) (Or.inl ⟨by rfl, ?_⟩) ?_ ?_
       rotate_left
       ·intro w'
        go_simp
        with_reducible rfl
       rotate_left
       ·simp only [Act.put, List.setIfInBounds_toArray, List.set_cons_zero, List.set_cons_succ, i64_w, i32_w]
        rfl
       refine pure_ (i := 3) (N := some 38) (v := ?_) (a' := ?_) #[true, true, true, true, false, false, false, false, false, false, false, false, false, false, false, false, false, false, false, false, false, false, false, false, false, false, false, false, false, false] rfl rfl (any_of HT_.out (by kernel_rfl)) (fun _ _ _ h => h) (Or.inl ⟨by rfl, ?_⟩) ?_ ?_
       rotate_left
       ·intro w'
        go_simp
        with_reducible rfl
       rotate_left
       ·simp only [Act.put, List.setIfInBounds_toArray, List.set_cons_zero, List.set_cons_succ, i64_w, i32_w]
        rfl
       refine pure_ (i := 4) (N := some 39) (v := ?_) (a' := ?_) #[true, true, true, true, true, false, false, false, false, false, false, false, false, false, false, false, false, false, false, false, false, false, false, false, false, false, false, false, false, false] rfl rfl (any_of HT_.out (by kernel_rfl)) (fun _ _ _ h => h) (Or.inl ⟨by rfl, ?_⟩) ?_ ?_
       rotate_left
       ·intro w'
        go_simp
        with_reducible rfl
       rotate_left
       ·simp only [Act.put, List.setIfInBounds_toArray, List.set_cons_zero, List.set_cons_succ, i64_w, i32_w]
        rfl
       refine pure_ (i := 5) (N := some 40) (v := ?_) (a' := ?_) #[true, true, true, true, true, true, false, false, false, false, false, false, false, false, false, false, false, false, false, false, false, false, false, false, false, false, false, false, false, false] rfl rfl (any_of HT_.out (by kernel_rfl)) (fun _ _ _ h => h) (Or.inl ⟨by rfl, ?_⟩) ?_ ?_
       rotate_left
       ·intro w'
        go_simp
        with_reducible rfl
       rotate_left
       ·simp only [Act.put, List.setIfInBounds_toArray, List.set_cons_zero, List.set_cons_succ, i64_w, i32_w]
        rfl
       refine pure_ (i := 6) (N := some 41) (v := ?_) (a' := ?_) #[true, true, true, true, true, true, true, false, false, false, false, false, false, false, false, false, false, false, false, false, false, false, false, false, false, false, false, false, false, false] rfl rfl (any_of HT_.out (by kernel_rfl)) (fun _ _ _ h => h) (Or.inl ⟨by rfl, ?_⟩) ?_ ?_
       rotate_left
       ·intro w'
        go_simp
        with_reducible rfl
       rotate_left
       ·simp only [Act.put, List.setIfInBounds_toArray, List.set_cons_zero, List.set_cons_succ, i64_w, i32_w]
        rfl
       refine pure_ (i := 7) (N := some 42) (v := ?_) (a' := ?_) #[true, true, true, true, true, true, true, true, false, false, false, false, false, false, false, false, false, false, false, false, false, false, false, false, false, false, false, false, false, false] rfl rfl (any_of HT_.out (by kernel_rfl)) (fun _ _ _ h => h) (Or.inl ⟨by rfl, ?_⟩) ?_ ?_
       rotate_left
       ·intro w'
        go_simp
        with_reducible rfl
       rotate_left
       ·simp only [Act.put, List.setIfInBounds_toArray, List.set_cons_zero, List.set_cons_succ, i64_w, i32_w]
        rfl
       refine pure_ (i := 9) (N := some 44) (v := ?_) (a' := ?_) #[true, true, true, true, true, true, true, true, false, true, false, false, false, false, false, false, false, false, false, false, false, false, false, false, false, false, false, false, false, false] rfl rfl (any_of HT_.out (by kernel_rfl)) (fun _ _ _ h => h) (Or.inl ⟨by rfl, ?_⟩) ?_ ?_
       rotate_left
       ·intro w'
        go_simp
        with_reducible rfl
       rotate_left
       ·simp only [Act.put, List.setIfInBounds_toArray, List.set_cons_zero, List.set_cons_succ, i64_w, i32_w]
        rfl
       refine take_ (i := 8) (N := some 43) (v := ?_) (a' := ?_) #[true, true, true, true, true, true, true, true, true, true, false, false, false, false, false, false, false, false, false, false, false, false, false, false, false, false, false, false, false, false] rfl rfl (take_ofW HT_.out HW_.out (by kernel_rfl)) (fun _ _ _ h => h) (Or.inl ⟨by rfl, ?_⟩) hHeld ?_ ?_
       rotate_left
       ·rintro w' ⟨s0, s1, s2, s3, s4, s5, s6, s7, s8⟩
        go_simp
        with_reducible rfl
       rotate_left
       ·simp only [Act.put, List.setIfInBounds_toArray, List.set_cons_zero, List.set_cons_succ, i64_w, i32_w]
        rfl
       refine pure_ (i := 10) (N := some 45) (v := ?_) (a' := ?_) #[true, true, true, true, true, true, true, true, true, true, true, false, false, false, false, false, false, false, false, false, false, false, false, false, false, false, false, false, false, false] rfl rfl (any_of HT_.out (by kernel_rfl)) (fun _ _ _ h => h) (Or.inl ⟨by rfl, ?_⟩) ?_ ?_
       rotate_left
       ·intro w'
        go_simp
        with_reducible rfl
       rotate_left
       ·simp only [Act.put, List.setIfInBounds_toArray, List.set_cons_zero, List.set_cons_succ, i64_w, i32_w]
        rfl
       refine pure_ (i := 11) (N := some 46) (v := ?_) (a' := ?_) #[true, true, true, true, true, true, true, true, true, true, true, true, false, false, false, false, false, false, false, false, false, false, false, false, false, false, false, false, false, false] rfl rfl (any_of HT_.out (by kernel_rfl)) (fun _ _ _ h => h) (Or.inl ⟨by rfl, ?_⟩) ?_ ?_
       rotate_left
       ·intro w'
        go_simp
        with_reducible rfl
       rotate_left
       ·simp only [Act.put, List.setIfInBounds_toArray, List.set_cons_zero, List.set_cons_succ, i64_w, i32_w]
        rfl
       refine pure_ (i := 12) (N := some 47) (v := ?_) (a' := ?_) #[true, true, true, true, true, true, true, true, true, true, true, true, true, false, false, false, false, false, false, false, false, false, false, false, false, false, false, false, false, false] rfl rfl (any_of HT_.out (by kernel_rfl)) (fun _ _ _ h => h) (Or.inl ⟨by rfl, ?_⟩) ?_ ?_
       rotate_left
       ·intro w'
        go_simp
        with_reducible rfl
       rotate_left
       ·simp only [Act.put, List.setIfInBounds_toArray, List.set_cons_zero, List.set_cons_succ, i64_w, i32_w]
        rfl
       refine pure_ (i := 13) (N := some 48) (v := ?_) (a' := ?_) #[true, true, true, true, true, true, true, true, true, true, true, true, true, true, false, false, false, false, false, false, false, false, false, false, false, false, false, false, false, false] rfl rfl (any_of HT_.out (by kernel_rfl)) (fun _ _ _ h => h) (Or.inl ⟨by rfl, ?_⟩) ?_ ?_
       rotate_left
       ·intro w'
        go_simp
        with_reducible rfl
       rotate_left
       ·simp only [Act.put, List.setIfInBounds_toArray, List.set_cons_zero, List.set_cons_succ, i64_w, i32_w]
        rfl
       refine pure_ (i := 14) (N := some 49) (v := ?_) (a' := ?_) #[true, true, true, true, true, true, true, true, true, true, true, true, true, true, true, false, false, false, false, false, false, false, false, false, false, false, false, false, false, false] rfl rfl (any_of HT_.out (by kernel_rfl)) (fun _ _ _ h => h) (Or.inl ⟨by rfl, ?_⟩) ?_ ?_
       rotate_left
       ·intro w'
        go_simp
        with_reducible rfl
       rotate_left
       ·simp only [Act.put, List.setIfInBounds_toArray, List.set_cons_zero, List.set_cons_succ, i64_w, i32_w]
        rfl
       refine pure_ (i := 15) (N := some 50) (v := ?_) (a' := ?_) #[true, true, true, true, true, true, true, true, true, true, true, true, true, true, true, true, false, false, false, false, false, false, false, false, false, false, false, false, false, false] rfl rfl (any_of HT_.out (by kernel_rfl)) (fun _ _ _ h => h) (Or.inl ⟨by rfl, ?_⟩) ?_ ?_
       rotate_left
       ·intro w'
        go_simp
        with_reducible rfl
       rotate_left
       ·simp only [Act.put, List.setIfInBounds_toArray, List.set_cons_zero, List.set_cons_succ, i64_w, i32_w]
        rfl
       refine pure_ (i := 16) (N := some 51) (v := ?_) (a' := ?_) #[true, true, true, true, true, true, true, true, true, true, true, true, true, true, true, true, true, false, false, false, false, false, false, false, false, false, false, false, false, false] rfl rfl (any_of HT_.out (by kernel_rfl)) (fun _ _ _ h => h) (Or.inl ⟨by rfl, ?_⟩) ?_ ?_
       rotate_left
       ·intro w'
        go_simp
        with_reducible rfl
       rotate_left
       ·simp only [Act.put, List.setIfInBounds_toArray, List.set_cons_zero, List.set_cons_succ, i64_w, i32_w]
        rfl
       refine pure_ (i := 17) (N := some 52) (v := ?_) (a' := ?_) #[true, true, true, true, true, true, true, true, true, true, true, true, true, true, true, true, true, true, false, false, false, false, false, false, false, false, false, false, false, false] rfl rfl (any_of HT_.out (by kernel_rfl)) (fun _ _ _ h => h) (Or.inl ⟨by rfl, ?_⟩) ?_ ?_
       rotate_left
       ·intro w'
        go_simp
        with_reducible rfl
       rotate_left
       ·simp only [Act.put, List.setIfInBounds_toArray, List.set_cons_zero, List.set_cons_succ, i64_w, i32_w]
        rfl
       refine pure_ (i := 18) (N := some 53) (v := ?_) (a' := ?_) #[true, true, true, true, true, true, true, true, true, true, true, true, true, true, true, true, true, true, true, false, false, false, false, false, false, false, false, false, false, false] rfl rfl (any_of HT_.out (by kernel_rfl)) (fun _ _ _ h => h) (Or.inl ⟨by rfl, ?_⟩) ?_ ?_
       rotate_left
       ·intro w'
        go_simp
        with_reducible rfl
       rotate_left
       ·simp only [Act.put, List.setIfInBounds_toArray, List.set_cons_zero, List.set_cons_succ, i64_w, i32_w]
        rfl
       refine pure_ (i := 19) (N := some 54) (v := ?_) (a' := ?_) #[true, true, true, true, true, true, true, true, true, true, true, true, true, true, true, true, true, true, true, true, false, false, false, false, false, false, false, false, false, false] rfl rfl (any_of HT_.out (by kernel_rfl)) (fun _ _ _ h => h) (Or.inl ⟨by rfl, ?_⟩) ?_ ?_
       rotate_left
       ·intro w'
        go_simp
        with_reducible rfl
       rotate_left
       ·simp only [Act.put, List.setIfInBounds_toArray, List.set_cons_zero, List.set_cons_succ, i64_w, i32_w]
        rfl
       refine pure_ (i := 20) (N := some 55) (v := ?_) (a' := ?_) #[true, true, true, true, true, true, true, true, true, true, true, true, true, true, true, true, true, true, true, true, true, false, false, false, false, false, false, false, false, false] rfl rfl (any_of HT_.out (by kernel_rfl)) (fun _ _ _ h => h) (Or.inl ⟨by rfl, ?_⟩) ?_ ?_
       rotate_left
       ·intro w'
        go_simp
        with_reducible rfl
       rotate_left
       ·simp only [Act.put, List.setIfInBounds_toArray, List.set_cons_zero, List.set_cons_succ, i64_w, i32_w]
        rfl
       refine pure_ (i := 21) (N := some 56) (v := ?_) (a' := ?_) #[true, true, true, true, true, true, true, true, true, true, true, true, true, true, true, true, true, true, true, true, true, true, false, false, false, false, false, false, false, false] rfl rfl (any_of HT_.out (by kernel_rfl)) (fun _ _ _ h => h) (Or.inl ⟨by rfl, ?_⟩) ?_ ?_
       rotate_left
       ·intro w'
        go_simp
        with_reducible rfl
       rotate_left
       ·simp only [Act.put, List.setIfInBounds_toArray, List.set_cons_zero, List.set_cons_succ, i64_w, i32_w]
        rfl
       refine take_ (i := 22) (N := some 57) (v := ?_) (a' := ?_) #[true, true, true, true, true, true, true, true, true, true, true, true, true, true, true, true, true, true, true, true, true, true, true, false, false, false, false, false, false, false] rfl rfl (take_ofW HT_.out HW_.out (by kernel_rfl)) (fun _ _ _ h => h) (Or.inl ⟨by rfl, ?_⟩) hHeld ?_ ?_
       rotate_left
       ·rintro w' ⟨s0, s1, s2, s3, s4, s5, s6, s7, s8⟩
        go_simp
        with_reducible rfl
       rotate_left
       ·simp only [Act.put, List.setIfInBounds_toArray, List.set_cons_zero, List.set_cons_succ, i64_w, i32_w]
        rfl
       refine pure_ (i := 23) (N := some 58) (v := ?_) (a' := ?_) #[true, true, true, true, true, true, true, true, true, true, true, true, true, true, true, true, true, true, true, true, true, true, true, true, false, false, false, false, false, false] rfl rfl (any_of HT_.out (by kernel_rfl)) (fun _ _ _ h => h) (Or.inl ⟨by rfl, ?_⟩) ?_ ?_
       rotate_left
       ·intro w'
        go_simp
        with_reducible rfl
       rotate_left
       ·simp only [Act.put, List.setIfInBounds_toArray, List.set_cons_zero, List.set_cons_succ, i64_w, i32_w]
        rfl
       refine pure_ (i := 24) (N := some 59) (v := ?_) (a' := ?_) #[true, true, true, true, true, true, true, true, true, true, true, true, true, true, true, true, true, true, true, true, true, true, true, true, true, false, false, false, false, false] rfl rfl (any_of HT_.out (by kernel_rfl)) (fun _ _ _ h => h) (Or.inl ⟨by rfl, ?_⟩) ?_ ?_
       rotate_left
       ·intro w'
        go_simp
        with_reducible rfl
       rotate_left
       ·simp only [Act.put, List.setIfInBounds_toArray, List.set_cons_zero, List.set_cons_succ, i64_w, i32_w]
        rfl
       refine pure_ (i := 25) (N := some 60) (v := ?_) (a' := ?_) #[true, true, true, true, true, true, true, true, true, true, true, true, true, true, true, true, true, true, true, true, true, true, true, true, true, true, false, false, false, false] rfl rfl (any_of HT_.out (by kernel_rfl)) (fun _ _ _ h => h) (Or.inl ⟨by rfl, ?_⟩) ?_ ?_
       rotate_left
       ·intro w'
        go_simp
        with_reducible rfl
       rotate_left
       ·simp only [Act.put, List.setIfInBounds_toArray, List.set_cons_zero, List.set_cons_succ, i64_w, i32_w]
        rfl
       refine pure_ (i := 26) (N := some 61) (v := ?_) (a' := ?_) #[true, true, true, true, true, true, true, true, true, true, true, true, true, true, true, true, true, true, true, true, true, true, true, true, true, true, true, false, false, false] rfl rfl (any_of HT_.out (by kernel_rfl)) (fun _ _ _ h => h) (Or.inl ⟨by rfl, ?_⟩) ?_ ?_
       rotate_left
       ·intro w'
        go_simp
        with_reducible rfl
       rotate_left
       ·simp only [Act.put, List.setIfInBounds_toArray, List.set_cons_zero, List.set_cons_succ, i64_w, i32_w]
        rfl
       refine pure_ (i := 27) (N := some 62) (v := ?_) (a' := ?_) #[true, true, true, true, true, true, true, true, true, true, true, true, true, true, true, true, true, true, true, true, true, true, true, true, true, true, true, true, false, false] rfl rfl (any_of HT_.out (by kernel_rfl)) (fun _ _ _ h => h) (Or.inl ⟨by rfl, ?_⟩) ?_ ?_
       rotate_left
       ·intro w'
        go_simp
        with_reducible rfl
       rotate_left
       ·simp only [Act.put, List.setIfInBounds_toArray, List.set_cons_zero, List.set_cons_succ, i64_w, i32_w]
        rfl
       refine pure_ (i := 28) (N := some 63) (v := ?_) (a' := ?_) #[true, true, true, true, true, true, true, true, true, true, true, true, true, true, true, true, true, true, true, true, true, true, true, true, true, true, true, true, true, false] rfl rfl (any_of HT_.out (by kernel_rfl)) (fun _ _ _ h => h) (Or.inl ⟨by rfl, ?_⟩) ?_ ?_
       rotate_left
       ·intro w'
        go_simp
        with_reducible rfl
       rotate_left
       ·simp only [Act.put, List.setIfInBounds_toArray, List.set_cons_zero, List.set_cons_succ, i64_w, i32_w]
        rfl
       refine pure_ (i := 29) (N := some 0) (v := ?_) (a' := ?_) #[true, true, true, true, true, true, true, true, true, true, true, true, true, true, true, true, true, true, true, true, true, true, true, true, true, true, true, true, true, true] rfl rfl (any_of HT_.out (by kernel_rfl)) (fun _ _ _ h => h) (Or.inl ⟨by rfl, ?_⟩) ?_ ?_
       rotate_left
       ·intro w'
        go_simp
        with_reducible rfl
       rotate_left
       ·simp only [Act.put, List.setIfInBounds_toArray, List.set_cons_zero, List.set_cons_succ, i64_w, i32_w]
        rfl
       refine done_ (done_of HT_.out (by kernel_rfl)) ?_
       try go_wp2
       go_ret
       exact ⟨by first | rfl | (simp [errW_none, errW_some] <;> rfl) | (simp [*, errW_none, errW_some] <;> rfl), by repeat (first | (with_reducible first | exact HB.out | apply below_alloc | apply pw_below_drewN | apply below_drew1 | refine below_set ?_ GE205.out | refine below_set ?_ GE210.out | refine below_set ?_ GE221.out | refine below_set ?_ GE235.out) | exact HB.out)⟩
      ·rw [if_neg c17] at H
       cases H
     ·rw [if_neg c16] at H
      cases H
    ·rw [if_neg c15] at H
     cases H
   ·rw [if_neg c14] at H
    cases H
  ·rw [if_neg c13] at H
   cases H
 ·rw [if_neg c12] at H
  cases H
end Go.Proofs.Ytfbeklbjlkgbnaa.P
end
section
namespace Go.Proofs.Ytfbeklbjlkgbnaa.P
open Go.RowKit Go.Proofs.YtfbeklbjlkgbnaaW.PrintWords Go.Proofs.YtfbeklbjlkgbnaaW.PrintLast Go.Proofs.YtfbeklbjlkgbnaaW.PrintMore
attribute [local go_sem] max2_int min2_int max_two min_two max_three min_three max_four min_four
set_option linter.unusedVariables false
set_option linter.unusedSimpArgs false
attribute [local go_sem high] eqA25
def quarrylaw02_CalcTexts.f (a0 : ByteArray) (a1 : ByteArray) : Option (Bool) := (quarrylaw02_works.f).bind fun t341 => (if t341 = true then ((quarrylaw02_text.f a0).bind fun bt342 => ((quarrylaw02_text.f a1).bind fun bt345 => ((calc_Binary.f 16 bt342.1 bt342.2.1 bt342.2.2 bt345.1 bt345.2.1 bt345.2.2).bind fun bt348 => (if bt348.2.2.2 = 0 then ((calc_Call.f 1 (([(⟨bt348.1, bt348.2.1, bt348.2.2.1⟩ : S25)] : List (S25)))).bind fun bt356 => ((quarrylaw02_num.f 1).bind fun bt361 => ((quarrylaw02_num.f (a0.size : Int)).bind fun bt364 => ((calc_Call.f 5 (([(⟨bt348.1, bt348.2.1, bt348.2.2.1⟩ : S25), (⟨bt361.1, bt361.2.1, bt361.2.2⟩ : S25), (⟨bt364.1, bt364.2.1, bt364.2.2⟩ : S25)] : List (S25)))).bind fun bt370 => ((quarrylaw02_num.f (wrap64 ((a0.size : Int) + 1))).bind fun bt375 => ((quarrylaw02_num.f 1099511627776).bind fun bt378 => ((calc_Call.f 5 (([(⟨bt348.1, bt348.2.1, bt348.2.2.1⟩ : S25), (⟨bt375.1, bt375.2.1, bt375.2.2⟩ : S25), (⟨bt378.1, bt378.2.1, bt378.2.2⟩ : S25)] : List (S25)))).bind fun bt384 => ((quarrylaw02_text.f a0).bind fun bt389 => ((calc_Call.f 3 (([(⟨bt389.1, bt389.2.1, bt389.2.2⟩ : S25)] : List (S25)))).bind fun bt395 => ((quarrylaw02_text.f a0).bind fun bt400 => ((calc_Call.f 4 (([(⟨bt400.1, bt400.2.1, bt400.2.2⟩ : S25)] : List (S25)))).bind fun bt406 => ((calc_Call.f 3 (([(⟨bt406.1, bt406.2.1, bt406.2.2.1⟩ : S25)] : List (S25)))).bind fun bt414 => (if bt356.2.2.2 = 0 then (if bt370.2.2.2 = 0 then (if bt384.2.2.2 = 0 then (if bt395.2.2.2 = 0 then (if bt406.2.2.2 = 0 then (if bt414.2.2.2 = 0 then ((quarrylaw02_num.f (wrap64 ((a0.size : Int) + (a1.size : Int)))).bind fun bt419 => (if (bt356.1 == bt419.1 && (bt356.2.1 == bt419.2.1 && (bt356.2.2.1.toList == bt419.2.2.toList))) = true then ((quarrylaw02_text.f a0).bind fun bt422 => (if (bt370.1 == bt422.1 && (bt370.2.1 == bt422.2.1 && (bt370.2.2.1.toList == bt422.2.2.toList))) = true then ((quarrylaw02_text.f a1).bind fun bt425 => (if (bt384.1 == bt425.1 && (bt384.2.1 == bt425.2.1 && (bt384.2.2.1.toList == bt425.2.2.toList))) = true then (some (bt395.1 == bt414.1 && (bt395.2.1 == bt414.2.1 && (bt395.2.2.1.toList == bt414.2.2.1.toList)))) else (none))) else (none))) else (none))) else (none)) else (none)) else (none)) else (none)) else (none)) else (none)))))))))))))) else (if bt348.2.2.2 = 8 then (if (a0.size : Int) > 2048 then (some true) else (some (decide ((a1.size : Int) > (wrap64 (2048 - (a0.size : Int))))))) else (none)))))) else (none))
def quarrylaw02_CalcTexts.T7 : Bool × List (List Nat × List Nat) := (true, [([], []), ([], []), ([], []), ([2], [2]), ([3, 1], [3]), ([0, 1, 4], [0, 1, 4]), ([5, 4], [5]), ([6], [6]), ([7], [7]), ([7], [7]), ([], []), ([10, 8, 6, 0, 1, 2, 3, 4, 5, 6, 7, 8, 10], [8, 10]), ([9, 11, 0, 1, 2, 3, 4, 5, 6, 7, 8, 9, 10, 11], [9])])
def quarrylaw02_CalcTexts.B7 : List Nat := [0, 0, 0, 4, 14, 31, 63, 127, 255, 255, 0, 1535, 4095]
theorem quarrylaw02_CalcTexts.tab7 : rtab .any (opsOf Try.f7 7) = quarrylaw02_CalcTexts.T7 := by kernel_rfl
theorem quarrylaw02_CalcTexts.bits7 : waitsOk quarrylaw02_CalcTexts.T7.2 quarrylaw02_CalcTexts.B7 = true := by kernel_rfl
def quarrylaw02_CalcTexts.T8 : Bool × List (List Nat × List Nat) := (true, [([], []), ([], []), ([1], [1]), ([2], [2]), ([3], [3]), ([4], []), ([0, 4, 5], [0, 4, 5]), ([6, 5], [6]), ([7], [7]), ([8], [8]), ([8], [8]), ([], []), ([11, 9, 7, 0, 1, 2, 3, 4, 5, 6, 7, 8, 9, 11], [9, 11]), ([10, 12, 0, 1, 2, 3, 4, 5, 6, 7, 8, 9, 10, 11, 12], [10])])
def quarrylaw02_CalcTexts.B8 : List Nat := [0, 0, 2, 6, 14, 30, 63, 127, 255, 511, 511, 0, 3071, 8191]
theorem quarrylaw02_CalcTexts.tab8 : rtab .any (opsOf Try.f7 8) = quarrylaw02_CalcTexts.T8 := by kernel_rfl
theorem quarrylaw02_CalcTexts.bits8 : waitsOk quarrylaw02_CalcTexts.T8.2 quarrylaw02_CalcTexts.B8 = true := by kernel_rfl
def quarrylaw02_CalcTexts.T12 : Bool × List (List Nat × List Nat) := (true, [([], []), ([0], [0]), ([1], [1]), ([2], [2]), ([3, 2], [2, 3]), ([2, 4], [2, 4]), ([5, 2], [5]), ([6], [6]), ([7, 6], [6, 7]), ([6, 8], [6, 8]), ([9, 6], [9]), ([10], [10]), ([11, 10], [10, 11]), ([10, 12], [10, 12]), ([13, 10], [13]), ([14], [14]), ([15, 14], [14, 15]), ([14, 16], [14, 16]), ([17, 14], [17]), ([18], [18]), ([19, 18], [18, 19]), ([18, 20], [18, 20]), ([21, 18], [21]), ([22], [22]), ([22], [22]), ([24, 22], [22, 24]), ([22], [22]), ([26, 22], [22, 26]), ([25, 27, 22], [22, 25, 27]), ([28, 22, 22], [22, 28]), ([23, 29, 22], [22, 23, 29]), ([22, 30], [22, 30]), ([31, 29], [31]), ([32], [32]), ([32], [32]), ([34, 32, 32], [32, 34]), ([33, 35, 32], [32, 33, 35]), ([32, 36], [32, 36]), ([37, 35], [37]), ([38], [38]), ([38], [38]), ([40, 38, 38], [38, 40]), ([39, 41, 38], [38, 39, 41]), ([38, 42], [38, 42]), ([43, 41], [43]), ([44], [44]), ([44], [44]), ([45, 46, 44], [44, 45, 46]), ([44, 47], [44, 47]), ([48, 44, 0, 1, 2, 3, 4, 5, 6, 7, 8, 9, 10, 11, 12, 13, 14, 15, 16, 17, 18, 19, 20, 21, 22, 23, 24, 25, 26, 27, 28, 29, 30, 31, 32, 33, 34, 35, 36, 37, 38, 39, 40, 41, 42, 43, 44, 45, 46, 47, 48], [48])])
def quarrylaw02_CalcTexts.B12 : List Nat := [0, 1, 3, 7, 15, 31, 63, 127, 255, 511, 1023, 2047, 4095, 8191, 16383, 32767, 65535, 131071, 262143, 524287, 1048575, 2097151, 4194303, 8388607, 8388607, 25165823, 8388607, 75497471, 260046847, 528482303, 1073741823, 2147483647, 4294967295, 8589934591, 8589934591, 25769803775, 68719476735, 137438953471, 274877906943, 549755813887, 549755813887, 1649267441663, 4398046511103, 8796093022207, 17592186044415, 35184372088831, 35184372088831, 140737488355327, 281474976710655, 562949953421311]
theorem quarrylaw02_CalcTexts.tab12 : rtab .any (opsOf Try.f7 12) = quarrylaw02_CalcTexts.T12 := by kernel_rfl
theorem quarrylaw02_CalcTexts.bits12 : waitsOk quarrylaw02_CalcTexts.T12.2 quarrylaw02_CalcTexts.B12 = true := by kernel_rfl
end Go.Proofs.Ytfbeklbjlkgbnaa.P
end
