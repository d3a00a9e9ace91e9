/- Laid by a program of this session out of its texts for the law CalcCalls, part 4. -/
import Derived.BigGuardPart
import Derived.RegionDies
import Derived.WalkLawsBesides
import Derived.WalkSpells
import Derived.Outline
import Derived.Test.YtfbeklbjlkgbnaaZCalcCalls3
section
namespace Go.Proofs.Ytfbeklbjlkgbnaa.P
open Go.RowKit Go.Proofs.Ytfbeklbjlkgbnaa.Pure Go.Proofs.YtfbeklbjlkgbnaaW.PrintWords Go.Proofs.YtfbeklbjlkgbnaaW.PrintLast Go.Proofs.YtfbeklbjlkgbnaaW.PrintMore
attribute [local go_sem] max2_int min2_int max_two min_two max_three min_three max_four min_four
set_option linter.unusedVariables false
set_option linter.unusedSimpArgs false
theorem logicR_calls {op : Int} (h3 : 3 ≤ op) (h4 : op ≤ 4) (u v : S25) (w : World) : Calls Try.prog 48 #[.int .i64 op, .agg #[.int .i64 u.f0, .int .i64 u.f1, .string u.f2], .agg #[.int .i64 v.f0, .int .i64 v.f1, .string v.f2]] w fun e w' => e = .returned (.agg #[.int .i64 (logicP u v (truthV (op == 3))).f0, .int .i64 (logicP u v (truthV (op == 3))).f1, .string (logicP u v (truthV (op == 3))).f2]) ∧ Below w.heap.size w w' := by
  obtain ⟨k, hk⟩ := (logicR_ev h3 h4 u v).get
  exact quarryref02_logic.calls k _ _ _ _ _ _ _ _ _ _ w hk
theorem compareR_calls (u v : S25) (hz : u.f2.size ≤ 140737488351232) (w : World) : Calls Try.prog 51 #[.agg #[.int .i64 u.f0, .int .i64 u.f1, .string u.f2], .agg #[.int .i64 v.f0, .int .i64 v.f1, .string v.f2]] w fun e w' => e = .returned (.int .i64 (cmpV u v)) ∧ Below w.heap.size w w' := by
  obtain ⟨k, hk⟩ := (ref_cmp_ev u v hz).get
  exact quarryref01_Compare.calls k _ _ _ _ _ _ _ w hk
def BR (u v : S25) (W w : World) : Prop :=
  w.heap[W.heap.size]? = some (.cells #[.int .i64 u.f0, .int .i64 u.f1, .string u.f2] 25 (0, 0)) ∧ w.heap[W.heap.size + 1]? = some (.cells #[.int .i64 v.f0, .int .i64 v.f1, .string v.f2] 25 (0, 0)) ∧
  w.heap[W.heap.size + 1 + 1]? = some (.cells #[.int .i64 0, .int .i64 0, .string (⟨#[]⟩ : ByteArray)] 25 (0, 0)) ∧ Below W.heap.size W w
section
variable {u v : S25} {W w w' : World}
theorem BR.start : BR u v W (((W.alloc (.cells #[.int .i64 u.f0, .int .i64 u.f1, .string u.f2] 25)).alloc (.cells #[.int .i64 v.f0, .int .i64 v.f1, .string v.f2] 25)).alloc (.cells #[.int .i64 0, .int .i64 0, .string (⟨#[]⟩ : ByteArray)] 25)) := by
  have t1 := Deep.blk_alloc_new W (.cells #[.int .i64 u.f0, .int .i64 u.f1, .string u.f2] 25)
  have t2 := Deep.blk_alloc_new (W.alloc (.cells #[.int .i64 u.f0, .int .i64 u.f1, .string u.f2] 25)) (.cells #[.int .i64 v.f0, .int .i64 v.f1, .string v.f2] 25)
  have t3 := Deep.blk_alloc_new ((W.alloc (.cells #[.int .i64 u.f0, .int .i64 u.f1, .string u.f2] 25)).alloc (.cells #[.int .i64 v.f0, .int .i64 v.f1, .string v.f2] 25)) (.cells #[.int .i64 0, .int .i64 0, .string (⟨#[]⟩ : ByteArray)] 25)
  exact ⟨blk_alloc (blk_alloc t1 _) _, blk_alloc (by simpa using t2) _, by simpa using t3, below_alloc (below_alloc (below_alloc (Below.refl _ _) _) _) _⟩
theorem BR.drewN (h : BR u v W w) (n : Nat) : BR u v W (w.drewN n) := ⟨blk_drewN h.1 n, blk_drewN h.2.1 n, blk_drewN h.2.2.1 n, pw_below_drewN h.2.2.2 n⟩
theorem BR.below (h : BR u v W w) (hb : Below w.heap.size w w') : BR u v W w' :=
  ⟨(hb.block _ (blk_lt h.1)).trans h.1, (hb.block _ (blk_lt h.2.1)).trans h.2.1, (hb.block _ (blk_lt h.2.2.1)).trans h.2.2.1, below_step h.2.2.2 hb⟩
theorem BR.bel (h : BR u v W w) : Below W.heap.size W w := h.2.2.2
theorem BR.a0 (h : BR u v W w) : w.cell? ⟨W.heap.size, 0, none⟩ = some (.int .i64 u.f0) := (blk_cell h.1 0).trans rfl
theorem BR.a1 (h : BR u v W w) : w.cell? ⟨W.heap.size, 1, none⟩ = some (.int .i64 u.f1) := (blk_cell h.1 1).trans rfl
theorem BR.a2 (h : BR u v W w) : w.cell? ⟨W.heap.size, 2, none⟩ = some (.string u.f2) := (blk_cell h.1 2).trans rfl
theorem BR.v0 (h : BR u v W w) : w.cell? ⟨W.heap.size + 1, 0, none⟩ = some (.int .i64 v.f0) := (blk_cell h.2.1 0).trans rfl
theorem BR.v1 (h : BR u v W w) : w.cell? ⟨W.heap.size + 1, 1, none⟩ = some (.int .i64 v.f1) := (blk_cell h.2.1 1).trans rfl
theorem BR.v2 (h : BR u v W w) : w.cell? ⟨W.heap.size + 1, 2, none⟩ = some (.string v.f2) := (blk_cell h.2.1 2).trans rfl
end
set_option maxHeartbeats 2000000 in
set_option maxRecDepth 100000 in
theorem refBinary.low (op : Int) (u v : S25) (w : World) (l3 : ¬ 3 ≤ op) :
    Calls Try.prog 18 #[.int .i64 op, .agg #[.int .i64 u.f0, .int .i64 u.f1, .string u.f2], .agg #[.int .i64 v.f0, .int .i64 v.f1, .string v.f2]] w (fun e w' => e = .returned (.tuple #[.agg #[.int .i64 (0), .int .i64 (0), .string (V0)], .int .i64 5]) ∧ Below w.heap.size w w') := by
  have hu25 := Try.underlying25
  have q0 : decide (op < 3) = true := decide_eq_true (by omega)
  have q1 : decide (3 ≤ op) = false := decide_eq_false l3
  have l3' := Aside0.mk l3
  clear l3
  go_enter Try.func18, Try.ntmps18
  go_upto_region 1 with fail
  refine at_world (fun w' => BR u v w w') BR.start (fun w1 hI => ?_)
  have HI := Aside0.mk hI
  clear hI
  have ca0 : World.cell? w1 _ = some _ := HI.out.a0
  have ca1 : World.cell? w1 _ = some _ := HI.out.a1
  have ca2 : World.cell? w1 _ = some _ := HI.out.a2
  have cv0 : World.cell? w1 _ = some _ := HI.out.v0
  have cv1 : World.cell? w1 _ = some _ := HI.out.v1
  have cv2 : World.cell? w1 _ = some _ := HI.out.v2
  have gc0 : World.cell? w1 ⟨w.heap.size + 1 + 1, 0, none⟩ = some (.int .i64 0) := (blk_cell HI.out.2.2.1 0).trans rfl
  have gf0 := blk_frozen HI.out.2.2.1 0
  have gc1 : World.cell? w1 ⟨w.heap.size + 1 + 1, 1, none⟩ = some (.int .i64 0) := (blk_cell HI.out.2.2.1 1).trans rfl
  have gf1 := blk_frozen HI.out.2.2.1 1
  have gc2 : World.cell? w1 ⟨w.heap.size + 1 + 1, 2, none⟩ = some (.string (⟨#[]⟩ : ByteArray)) := (blk_cell HI.out.2.2.1 2).trans rfl
  have gf2 := blk_frozen HI.out.2.2.1 2
  go_wp2_with fail
  refine bodyPost_ret (v := .tuple #[.agg #[.int .i64 (0), .int .i64 (0), .string (V0)], .int .i64 5]) (by simp [results, Try.results18, go_sem, gc0, gc1, gc2, V0]) rfl ⟨rfl, ?_⟩
  refine below_set3 ?_ (by omega) _ _ _ _ _ _
  repeat (first | (with_reducible exact HI.out.bel) | apply pw_below_drewN)
set_option maxHeartbeats 2000000 in
set_option maxRecDepth 100000 in
theorem refBinary.high (op : Int) (u v : S25) (w : World) (l3 : 3 ≤ op) (l16 : ¬ op ≤ 16) :
    Calls Try.prog 18 #[.int .i64 op, .agg #[.int .i64 u.f0, .int .i64 u.f1, .string u.f2], .agg #[.int .i64 v.f0, .int .i64 v.f1, .string v.f2]] w (fun e w' => e = .returned (.tuple #[.agg #[.int .i64 (0), .int .i64 (0), .string (V0)], .int .i64 5]) ∧ Below w.heap.size w w') := by
  have hu25 := Try.underlying25
  have q0 : decide (op < 3) = false := decide_eq_false (by omega)
  have q1 : decide (3 ≤ op) = true := decide_eq_true l3
  have q2 : decide (16 < op) = true := decide_eq_true (by omega)
  have q3 : decide (op ≤ 16) = false := decide_eq_false l16
  have l3' := Aside0.mk l3
  have l16' := Aside0.mk l16
  clear l3 l16
  go_enter Try.func18, Try.ntmps18
  go_upto_region 1 with fail
  refine at_world (fun w' => BR u v w w') BR.start (fun w1 hI => ?_)
  have HI := Aside0.mk hI
  clear hI
  have ca0 : World.cell? w1 _ = some _ := HI.out.a0
  have ca1 : World.cell? w1 _ = some _ := HI.out.a1
  have ca2 : World.cell? w1 _ = some _ := HI.out.a2
  have cv0 : World.cell? w1 _ = some _ := HI.out.v0
  have cv1 : World.cell? w1 _ = some _ := HI.out.v1
  have cv2 : World.cell? w1 _ = some _ := HI.out.v2
  have gc0 : World.cell? w1 ⟨w.heap.size + 1 + 1, 0, none⟩ = some (.int .i64 0) := (blk_cell HI.out.2.2.1 0).trans rfl
  have gf0 := blk_frozen HI.out.2.2.1 0
  have gc1 : World.cell? w1 ⟨w.heap.size + 1 + 1, 1, none⟩ = some (.int .i64 0) := (blk_cell HI.out.2.2.1 1).trans rfl
  have gf1 := blk_frozen HI.out.2.2.1 1
  have gc2 : World.cell? w1 ⟨w.heap.size + 1 + 1, 2, none⟩ = some (.string (⟨#[]⟩ : ByteArray)) := (blk_cell HI.out.2.2.1 2).trans rfl
  have gf2 := blk_frozen HI.out.2.2.1 2
  go_wp2_with fail
  refine bodyPost_ret (v := .tuple #[.agg #[.int .i64 (0), .int .i64 (0), .string (V0)], .int .i64 5]) (by simp [results, Try.results18, go_sem, gc0, gc1, gc2, V0]) rfl ⟨rfl, ?_⟩
  refine below_set3 ?_ (by omega) _ _ _ _ _ _
  repeat (first | (with_reducible exact HI.out.bel) | apply pw_below_drewN)
set_option maxHeartbeats 2000000 in
set_option maxRecDepth 100000 in
theorem refBinary.kindAB (op : Int) (u v : S25) (w : World) (kA : Nat) (HGA : Aside0 (quarryref02_goes.f kA op u.f0 = some false)) (l3 : 3 ≤ op) (l16 : op ≤ 16) (a0 : ¬ u.f0 = 0) (z0 : v.f0 = 0) :
    Calls Try.prog 18 #[.int .i64 op, .agg #[.int .i64 u.f0, .int .i64 u.f1, .string u.f2], .agg #[.int .i64 v.f0, .int .i64 v.f1, .string v.f2]] w (fun e w' => e = .returned (.tuple #[.agg #[.int .i64 (0), .int .i64 (0), .string (V0)], .int .i64 35]) ∧ Below w.heap.size w w') := by
  have hu25 := Try.underlying25
  have q0 : decide (op < 3) = false := decide_eq_false (by omega)
  have q1 : decide (3 ≤ op) = true := decide_eq_true l3
  have q2 : decide (16 < op) = false := decide_eq_false (by omega)
  have q3 : decide (op ≤ 16) = true := decide_eq_true l16
  have q4 : (u.f0 == 0) = false := beq_eq_false_iff_ne.mpr a0
  have q5 : (v.f0 == 0) = true := beq_iff_eq.mpr z0
  have l3' := Aside0.mk l3
  have l16' := Aside0.mk l16
  have a0' := Aside0.mk a0
  have z0' := Aside0.mk z0
  clear l3 l16 a0 z0
  go_enter Try.func18, Try.ntmps18
  go_upto_region 1 with fail
  refine at_world (fun w' => BR u v w w') BR.start (fun w1 hI => ?_)
  have HI := Aside0.mk hI
  clear hI
  have ca0 : World.cell? w1 _ = some _ := HI.out.a0
  have ca1 : World.cell? w1 _ = some _ := HI.out.a1
  have ca2 : World.cell? w1 _ = some _ := HI.out.a2
  have cv0 : World.cell? w1 _ = some _ := HI.out.v0
  have cv1 : World.cell? w1 _ = some _ := HI.out.v1
  have cv2 : World.cell? w1 _ = some _ := HI.out.v2
  have gc0 : World.cell? w1 ⟨w.heap.size + 1 + 1, 0, none⟩ = some (.int .i64 0) := (blk_cell HI.out.2.2.1 0).trans rfl
  have gf0 := blk_frozen HI.out.2.2.1 0
  have gc1 : World.cell? w1 ⟨w.heap.size + 1 + 1, 1, none⟩ = some (.int .i64 0) := (blk_cell HI.out.2.2.1 1).trans rfl
  have gf1 := blk_frozen HI.out.2.2.1 1
  have gc2 : World.cell? w1 ⟨w.heap.size + 1 + 1, 2, none⟩ = some (.string (⟨#[]⟩ : ByteArray)) := (blk_cell HI.out.2.2.1 2).trans rfl
  have gf2 := blk_frozen HI.out.2.2.1 2
  go_wp2_with (first | (go_at_call 47; (with_reducible refine (quarryref02_goes.calls kA op u.f0 false _ HGA.out).mono ?_); rintro e w' ⟨rfl, ⟨nd, rfl⟩⟩))
  refine bodyPost_ret (v := .tuple #[.agg #[.int .i64 (0), .int .i64 (0), .string (V0)], .int .i64 35]) (by simp [results, Try.results18, go_sem, gc0, gc1, gc2, V0]) rfl ⟨rfl, ?_⟩
  refine below_set3 ?_ (by omega) _ _ _ _ _ _
  repeat (first | (with_reducible exact HI.out.bel) | apply pw_below_drewN)
set_option maxHeartbeats 2000000 in
set_option maxRecDepth 100000 in
theorem refBinary.kindAC (op : Int) (u v : S25) (w : World) (kA : Nat) (HGA : Aside0 (quarryref02_goes.f kA op u.f0 = some false)) (l3 : 3 ≤ op) (l16 : op ≤ 16) (a0 : ¬ u.f0 = 0) (z0 : ¬ v.f0 = 0) :
    Calls Try.prog 18 #[.int .i64 op, .agg #[.int .i64 u.f0, .int .i64 u.f1, .string u.f2], .agg #[.int .i64 v.f0, .int .i64 v.f1, .string v.f2]] w (fun e w' => e = .returned (.tuple #[.agg #[.int .i64 (0), .int .i64 (0), .string (V0)], .int .i64 35]) ∧ Below w.heap.size w w') := by
  have hu25 := Try.underlying25
  have q0 : decide (op < 3) = false := decide_eq_false (by omega)
  have q1 : decide (3 ≤ op) = true := decide_eq_true l3
  have q2 : decide (16 < op) = false := decide_eq_false (by omega)
  have q3 : decide (op ≤ 16) = true := decide_eq_true l16
  have q4 : (u.f0 == 0) = false := beq_eq_false_iff_ne.mpr a0
  have q5 : (v.f0 == 0) = false := beq_eq_false_iff_ne.mpr z0
  have l3' := Aside0.mk l3
  have l16' := Aside0.mk l16
  have a0' := Aside0.mk a0
  have z0' := Aside0.mk z0
  clear l3 l16 a0 z0
  go_enter Try.func18, Try.ntmps18
  go_upto_region 1 with fail
  refine at_world (fun w' => BR u v w w') BR.start (fun w1 hI => ?_)
  have HI := Aside0.mk hI
  clear hI
  have ca0 : World.cell? w1 _ = some _ := HI.out.a0
  have ca1 : World.cell? w1 _ = some _ := HI.out.a1
  have ca2 : World.cell? w1 _ = some _ := HI.out.a2
  have cv0 : World.cell? w1 _ = some _ := HI.out.v0
  have cv1 : World.cell? w1 _ = some _ := HI.out.v1
  have cv2 : World.cell? w1 _ = some _ := HI.out.v2
  have gc0 : World.cell? w1 ⟨w.heap.size + 1 + 1, 0, none⟩ = some (.int .i64 0) := (blk_cell HI.out.2.2.1 0).trans rfl
  have gf0 := blk_frozen HI.out.2.2.1 0
  have gc1 : World.cell? w1 ⟨w.heap.size + 1 + 1, 1, none⟩ = some (.int .i64 0) := (blk_cell HI.out.2.2.1 1).trans rfl
  have gf1 := blk_frozen HI.out.2.2.1 1
  have gc2 : World.cell? w1 ⟨w.heap.size + 1 + 1, 2, none⟩ = some (.string (⟨#[]⟩ : ByteArray)) := (blk_cell HI.out.2.2.1 2).trans rfl
  have gf2 := blk_frozen HI.out.2.2.1 2
  go_wp2_with (first | (go_at_call 47; (with_reducible refine (quarryref02_goes.calls kA op u.f0 false _ HGA.out).mono ?_); rintro e w' ⟨rfl, ⟨nd, rfl⟩⟩))
  refine bodyPost_ret (v := .tuple #[.agg #[.int .i64 (0), .int .i64 (0), .string (V0)], .int .i64 35]) (by simp [results, Try.results18, go_sem, gc0, gc1, gc2, V0]) rfl ⟨rfl, ?_⟩
  refine below_set3 ?_ (by omega) _ _ _ _ _ _
  repeat (first | (with_reducible exact HI.out.bel) | apply pw_below_drewN)
set_option maxHeartbeats 2000000 in
set_option maxRecDepth 100000 in
theorem refBinary.kindBA (op : Int) (u v : S25) (w : World) (kA : Nat) (HGA : Aside0 (quarryref02_goes.f kA op u.f0 = some true)) (kB : Nat) (HGB : Aside0 (quarryref02_goes.f kB op v.f0 = some false)) (l3 : 3 ≤ op) (l16 : op ≤ 16) (a0 : u.f0 = 0) :
    Calls Try.prog 18 #[.int .i64 op, .agg #[.int .i64 u.f0, .int .i64 u.f1, .string u.f2], .agg #[.int .i64 v.f0, .int .i64 v.f1, .string v.f2]] w (fun e w' => e = .returned (.tuple #[.agg #[.int .i64 (0), .int .i64 (0), .string (V0)], .int .i64 35]) ∧ Below w.heap.size w w') := by
  have hu25 := Try.underlying25
  have q0 : decide (op < 3) = false := decide_eq_false (by omega)
  have q1 : decide (3 ≤ op) = true := decide_eq_true l3
  have q2 : decide (16 < op) = false := decide_eq_false (by omega)
  have q3 : decide (op ≤ 16) = true := decide_eq_true l16
  have q4 : (u.f0 == 0) = true := beq_iff_eq.mpr a0
  have l3' := Aside0.mk l3
  have l16' := Aside0.mk l16
  have a0' := Aside0.mk a0
  clear l3 l16 a0
  go_enter Try.func18, Try.ntmps18
  go_upto_region 1 with fail
  refine at_world (fun w' => BR u v w w') BR.start (fun w1 hI => ?_)
  have HI := Aside0.mk hI
  clear hI
  have ca0 : World.cell? w1 _ = some _ := HI.out.a0
  have ca1 : World.cell? w1 _ = some _ := HI.out.a1
  have ca2 : World.cell? w1 _ = some _ := HI.out.a2
  have cv0 : World.cell? w1 _ = some _ := HI.out.v0
  have cv1 : World.cell? w1 _ = some _ := HI.out.v1
  have cv2 : World.cell? w1 _ = some _ := HI.out.v2
  have gc0 : World.cell? w1 ⟨w.heap.size + 1 + 1, 0, none⟩ = some (.int .i64 0) := (blk_cell HI.out.2.2.1 0).trans rfl
  have gf0 := blk_frozen HI.out.2.2.1 0
  have gc1 : World.cell? w1 ⟨w.heap.size + 1 + 1, 1, none⟩ = some (.int .i64 0) := (blk_cell HI.out.2.2.1 1).trans rfl
  have gf1 := blk_frozen HI.out.2.2.1 1
  have gc2 : World.cell? w1 ⟨w.heap.size + 1 + 1, 2, none⟩ = some (.string (⟨#[]⟩ : ByteArray)) := (blk_cell HI.out.2.2.1 2).trans rfl
  have gf2 := blk_frozen HI.out.2.2.1 2
  go_wp2_with (first | (go_at_call 47; (with_reducible refine (quarryref02_goes.calls kA op u.f0 true _ HGA.out).mono ?_); rintro e w' ⟨rfl, ⟨nd, rfl⟩⟩) | (go_at_call 47; (with_reducible refine (quarryref02_goes.calls kB op v.f0 false _ HGB.out).mono ?_); rintro e w' ⟨rfl, ⟨nd, rfl⟩⟩))
  refine bodyPost_ret (v := .tuple #[.agg #[.int .i64 (0), .int .i64 (0), .string (V0)], .int .i64 35]) (by simp [results, Try.results18, go_sem, gc0, gc1, gc2, V0]) rfl ⟨rfl, ?_⟩
  refine below_set3 ?_ (by omega) _ _ _ _ _ _
  repeat (first | (with_reducible exact HI.out.bel) | apply pw_below_drewN)
set_option maxHeartbeats 2000000 in
set_option maxRecDepth 100000 in
theorem refBinary.kindBC (op : Int) (u v : S25) (w : World) (kA : Nat) (HGA : Aside0 (quarryref02_goes.f kA op u.f0 = some true)) (kB : Nat) (HGB : Aside0 (quarryref02_goes.f kB op v.f0 = some false)) (l3 : 3 ≤ op) (l16 : op ≤ 16) (a0 : ¬ u.f0 = 0) (z0 : ¬ v.f0 = 0) :
    Calls Try.prog 18 #[.int .i64 op, .agg #[.int .i64 u.f0, .int .i64 u.f1, .string u.f2], .agg #[.int .i64 v.f0, .int .i64 v.f1, .string v.f2]] w (fun e w' => e = .returned (.tuple #[.agg #[.int .i64 (0), .int .i64 (0), .string (V0)], .int .i64 35]) ∧ Below w.heap.size w w') := by
  have hu25 := Try.underlying25
  have q0 : decide (op < 3) = false := decide_eq_false (by omega)
  have q1 : decide (3 ≤ op) = true := decide_eq_true l3
  have q2 : decide (16 < op) = false := decide_eq_false (by omega)
  have q3 : decide (op ≤ 16) = true := decide_eq_true l16
  have q4 : (u.f0 == 0) = false := beq_eq_false_iff_ne.mpr a0
  have q5 : (v.f0 == 0) = false := beq_eq_false_iff_ne.mpr z0
  have l3' := Aside0.mk l3
  have l16' := Aside0.mk l16
  have a0' := Aside0.mk a0
  have z0' := Aside0.mk z0
  clear l3 l16 a0 z0
  go_enter Try.func18, Try.ntmps18
  go_upto_region 1 with fail
  refine at_world (fun w' => BR u v w w') BR.start (fun w1 hI => ?_)
  have HI := Aside0.mk hI
  clear hI
  have ca0 : World.cell? w1 _ = some _ := HI.out.a0
  have ca1 : World.cell? w1 _ = some _ := HI.out.a1
  have ca2 : World.cell? w1 _ = some _ := HI.out.a2
  have cv0 : World.cell? w1 _ = some _ := HI.out.v0
  have cv1 : World.cell? w1 _ = some _ := HI.out.v1
  have cv2 : World.cell? w1 _ = some _ := HI.out.v2
  have gc0 : World.cell? w1 ⟨w.heap.size + 1 + 1, 0, none⟩ = some (.int .i64 0) := (blk_cell HI.out.2.2.1 0).trans rfl
  have gf0 := blk_frozen HI.out.2.2.1 0
  have gc1 : World.cell? w1 ⟨w.heap.size + 1 + 1, 1, none⟩ = some (.int .i64 0) := (blk_cell HI.out.2.2.1 1).trans rfl
  have gf1 := blk_frozen HI.out.2.2.1 1
  have gc2 : World.cell? w1 ⟨w.heap.size + 1 + 1, 2, none⟩ = some (.string (⟨#[]⟩ : ByteArray)) := (blk_cell HI.out.2.2.1 2).trans rfl
  have gf2 := blk_frozen HI.out.2.2.1 2
  go_wp2_with (first | (go_at_call 47; (with_reducible refine (quarryref02_goes.calls kA op u.f0 true _ HGA.out).mono ?_); rintro e w' ⟨rfl, ⟨nd, rfl⟩⟩) | (go_at_call 47; (with_reducible refine (quarryref02_goes.calls kB op v.f0 false _ HGB.out).mono ?_); rintro e w' ⟨rfl, ⟨nd, rfl⟩⟩))
  refine bodyPost_ret (v := .tuple #[.agg #[.int .i64 (0), .int .i64 (0), .string (V0)], .int .i64 35]) (by simp [results, Try.results18, go_sem, gc0, gc1, gc2, V0]) rfl ⟨rfl, ?_⟩
  refine below_set3 ?_ (by omega) _ _ _ _ _ _
  repeat (first | (with_reducible exact HI.out.bel) | apply pw_below_drewN)
set_option maxHeartbeats 2000000 in
set_option maxRecDepth 100000 in
theorem refBinary.differ (op : Int) (u v : S25) (w : World) (kA : Nat) (HGA : Aside0 (quarryref02_goes.f kA op u.f0 = some true)) (kB : Nat) (HGB : Aside0 (quarryref02_goes.f kB op v.f0 = some true)) (l3 : 3 ≤ op) (l16 : op ≤ 16) (l5 : 5 ≤ op) (l10 : op ≤ 10) (a0 : ¬ u.f0 = 0) (z0 : ¬ v.f0 = 0) (uv : ¬ u.f0 = v.f0) :
    Calls Try.prog 18 #[.int .i64 op, .agg #[.int .i64 u.f0, .int .i64 u.f1, .string u.f2], .agg #[.int .i64 v.f0, .int .i64 v.f1, .string v.f2]] w (fun e w' => e = .returned (.tuple #[.agg #[.int .i64 (0), .int .i64 (0), .string (V0)], .int .i64 35]) ∧ Below w.heap.size w w') := by
  have hu25 := Try.underlying25
  have q0 : decide (op < 3) = false := decide_eq_false (by omega)
  have q1 : decide (3 ≤ op) = true := decide_eq_true l3
  have q2 : decide (16 < op) = false := decide_eq_false (by omega)
  have q3 : decide (op ≤ 16) = true := decide_eq_true l16
  have q4 : decide (5 ≤ op) = true := decide_eq_true l5
  have q5 : decide (op ≤ 10) = true := decide_eq_true l10
  have q6 : decide (op ≤ 4) = false := decide_eq_false (by omega)
  have q7 : (u.f0 == 0) = false := beq_eq_false_iff_ne.mpr a0
  have q8 : (v.f0 == 0) = false := beq_eq_false_iff_ne.mpr z0
  have q9 : (u.f0 != v.f0) = true := bne_iff_ne.mpr uv
  have q10 : (u.f0 == v.f0) = false := beq_eq_false_iff_ne.mpr uv
  have l3' := Aside0.mk l3
  have l16' := Aside0.mk l16
  have l5' := Aside0.mk l5
  have l10' := Aside0.mk l10
  have a0' := Aside0.mk a0
  have z0' := Aside0.mk z0
  have uv' := Aside0.mk uv
  clear l3 l16 l5 l10 a0 z0 uv
  go_enter Try.func18, Try.ntmps18
  go_upto_region 1 with fail
  refine at_world (fun w' => BR u v w w') BR.start (fun w1 hI => ?_)
  have HI := Aside0.mk hI
  clear hI
  have ca0 : World.cell? w1 _ = some _ := HI.out.a0
  have ca1 : World.cell? w1 _ = some _ := HI.out.a1
  have ca2 : World.cell? w1 _ = some _ := HI.out.a2
  have cv0 : World.cell? w1 _ = some _ := HI.out.v0
  have cv1 : World.cell? w1 _ = some _ := HI.out.v1
  have cv2 : World.cell? w1 _ = some _ := HI.out.v2
  have gc0 : World.cell? w1 ⟨w.heap.size + 1 + 1, 0, none⟩ = some (.int .i64 0) := (blk_cell HI.out.2.2.1 0).trans rfl
  have gf0 := blk_frozen HI.out.2.2.1 0
  have gc1 : World.cell? w1 ⟨w.heap.size + 1 + 1, 1, none⟩ = some (.int .i64 0) := (blk_cell HI.out.2.2.1 1).trans rfl
  have gf1 := blk_frozen HI.out.2.2.1 1
  have gc2 : World.cell? w1 ⟨w.heap.size + 1 + 1, 2, none⟩ = some (.string (⟨#[]⟩ : ByteArray)) := (blk_cell HI.out.2.2.1 2).trans rfl
  have gf2 := blk_frozen HI.out.2.2.1 2
  go_wp2_with (first | (go_at_call 47; (with_reducible refine (quarryref02_goes.calls kA op u.f0 true _ HGA.out).mono ?_); rintro e w' ⟨rfl, ⟨nd, rfl⟩⟩) | (go_at_call 47; (with_reducible refine (quarryref02_goes.calls kB op v.f0 true _ HGB.out).mono ?_); rintro e w' ⟨rfl, ⟨nd, rfl⟩⟩))
  refine bodyPost_ret (v := .tuple #[.agg #[.int .i64 (0), .int .i64 (0), .string (V0)], .int .i64 35]) (by simp [results, Try.results18, go_sem, gc0, gc1, gc2, V0]) rfl ⟨rfl, ?_⟩
  refine below_set3 ?_ (by omega) _ _ _ _ _ _
  repeat (first | (with_reducible exact HI.out.bel) | apply pw_below_drewN)
set_option maxHeartbeats 2000000 in
set_option maxRecDepth 100000 in
theorem refBinary.logicA (op : Int) (u v : S25) (w : World) (kA : Nat) (HGA : Aside0 (quarryref02_goes.f kA op u.f0 = some true)) (kB : Nat) (HGB : Aside0 (quarryref02_goes.f kB op v.f0 = some true)) (l3 : 3 ≤ op) (l16 : op ≤ 16) (l4 : op ≤ 4) (a0 : u.f0 = 0) :
    Calls Try.prog 18 #[.int .i64 op, .agg #[.int .i64 u.f0, .int .i64 u.f1, .string u.f2], .agg #[.int .i64 v.f0, .int .i64 v.f1, .string v.f2]] w (fun e w' => e = .returned (.tuple #[.agg #[.int .i64 ((logicP u v (truthV (op == 3))).f0), .int .i64 ((logicP u v (truthV (op == 3))).f1), .string ((logicP u v (truthV (op == 3))).f2)], .int .i64 0]) ∧ Below w.heap.size w w') := by
  have hu25 := Try.underlying25
  have q0 : decide (op < 3) = false := decide_eq_false (by omega)
  have q1 : decide (3 ≤ op) = true := decide_eq_true l3
  have q2 : decide (16 < op) = false := decide_eq_false (by omega)
  have q3 : decide (op ≤ 16) = true := decide_eq_true l16
  have q4 : decide (5 ≤ op) = false := decide_eq_false (by omega)
  have q5 : decide (op ≤ 4) = true := decide_eq_true l4
  have q6 : (u.f0 == 0) = true := beq_iff_eq.mpr a0
  have l3' := Aside0.mk l3
  have l16' := Aside0.mk l16
  have l4' := Aside0.mk l4
  have a0' := Aside0.mk a0
  clear l3 l16 l4 a0
  go_enter Try.func18, Try.ntmps18
  go_upto_region 1 with fail
  refine at_world (fun w' => BR u v w w') BR.start (fun w1 hI => ?_)
  have HI := Aside0.mk hI
  clear hI
  have ca0 : World.cell? w1 _ = some _ := HI.out.a0
  have ca1 : World.cell? w1 _ = some _ := HI.out.a1
  have ca2 : World.cell? w1 _ = some _ := HI.out.a2
  have cv0 : World.cell? w1 _ = some _ := HI.out.v0
  have cv1 : World.cell? w1 _ = some _ := HI.out.v1
  have cv2 : World.cell? w1 _ = some _ := HI.out.v2
  have gc0 : World.cell? w1 ⟨w.heap.size + 1 + 1, 0, none⟩ = some (.int .i64 0) := (blk_cell HI.out.2.2.1 0).trans rfl
  have gf0 := blk_frozen HI.out.2.2.1 0
  have gc1 : World.cell? w1 ⟨w.heap.size + 1 + 1, 1, none⟩ = some (.int .i64 0) := (blk_cell HI.out.2.2.1 1).trans rfl
  have gf1 := blk_frozen HI.out.2.2.1 1
  have gc2 : World.cell? w1 ⟨w.heap.size + 1 + 1, 2, none⟩ = some (.string (⟨#[]⟩ : ByteArray)) := (blk_cell HI.out.2.2.1 2).trans rfl
  have gf2 := blk_frozen HI.out.2.2.1 2
  go_wp2_with (first | (go_at_call 47; (with_reducible refine (quarryref02_goes.calls kA op u.f0 true _ HGA.out).mono ?_); rintro e w' ⟨rfl, ⟨nd, rfl⟩⟩) | (go_at_call 47; (with_reducible refine (quarryref02_goes.calls kB op v.f0 true _ HGB.out).mono ?_); rintro e w' ⟨rfl, ⟨nd, rfl⟩⟩))
  refine (logicR_calls l3'.out l4'.out u v _).mono ?_
  rintro e w2 ⟨rfl, hb⟩
  have HJ : Aside0 (BR u v w w2) := ⟨BR.below (by repeat (first | exact HI.out | refine BR.drewN ?_ _)) hb⟩
  clear hb HI ca0 ca1 ca2 cv0 cv1 cv2 gc0 gc1 gc2 gf0 gf1 gf2
  have HI := HJ
  clear HJ
  have ca0 : World.cell? w2 _ = some _ := HI.out.a0
  have ca1 : World.cell? w2 _ = some _ := HI.out.a1
  have ca2 : World.cell? w2 _ = some _ := HI.out.a2
  have cv0 : World.cell? w2 _ = some _ := HI.out.v0
  have cv1 : World.cell? w2 _ = some _ := HI.out.v1
  have cv2 : World.cell? w2 _ = some _ := HI.out.v2
  have gc0 : World.cell? w2 ⟨w.heap.size + 1 + 1, 0, none⟩ = some (.int .i64 0) := (blk_cell HI.out.2.2.1 0).trans rfl
  have gf0 := blk_frozen HI.out.2.2.1 0
  have gc1 : World.cell? w2 ⟨w.heap.size + 1 + 1, 1, none⟩ = some (.int .i64 0) := (blk_cell HI.out.2.2.1 1).trans rfl
  have gf1 := blk_frozen HI.out.2.2.1 1
  have gc2 : World.cell? w2 ⟨w.heap.size + 1 + 1, 2, none⟩ = some (.string (⟨#[]⟩ : ByteArray)) := (blk_cell HI.out.2.2.1 2).trans rfl
  have gf2 := blk_frozen HI.out.2.2.1 2
  go_wp2_with fail
  refine bodyPost_ret (v := .tuple #[.agg #[.int .i64 ((logicP u v (truthV (op == 3))).f0), .int .i64 ((logicP u v (truthV (op == 3))).f1), .string ((logicP u v (truthV (op == 3))).f2)], .int .i64 0]) (by simp [results, Try.results18, go_sem, gc0, gc1, gc2, V0]) rfl ⟨rfl, ?_⟩
  refine below_set3 ?_ (by omega) _ _ _ _ _ _
  repeat (first | (with_reducible exact HI.out.bel) | apply pw_below_drewN)
set_option maxHeartbeats 2000000 in
set_option maxRecDepth 100000 in
theorem refBinary.logicB (op : Int) (u v : S25) (w : World) (kA : Nat) (HGA : Aside0 (quarryref02_goes.f kA op u.f0 = some true)) (kB : Nat) (HGB : Aside0 (quarryref02_goes.f kB op v.f0 = some true)) (l3 : 3 ≤ op) (l16 : op ≤ 16) (l4 : op ≤ 4) (a0 : ¬ u.f0 = 0) (z0 : v.f0 = 0) :
    Calls Try.prog 18 #[.int .i64 op, .agg #[.int .i64 u.f0, .int .i64 u.f1, .string u.f2], .agg #[.int .i64 v.f0, .int .i64 v.f1, .string v.f2]] w (fun e w' => e = .returned (.tuple #[.agg #[.int .i64 ((logicP u v (truthV (op == 3))).f0), .int .i64 ((logicP u v (truthV (op == 3))).f1), .string ((logicP u v (truthV (op == 3))).f2)], .int .i64 0]) ∧ Below w.heap.size w w') := by
  have hu25 := Try.underlying25
  have q0 : decide (op < 3) = false := decide_eq_false (by omega)
  have q1 : decide (3 ≤ op) = true := decide_eq_true l3
  have q2 : decide (16 < op) = false := decide_eq_false (by omega)
  have q3 : decide (op ≤ 16) = true := decide_eq_true l16
  have q4 : decide (5 ≤ op) = false := decide_eq_false (by omega)
  have q5 : decide (op ≤ 4) = true := decide_eq_true l4
  have q6 : (u.f0 == 0) = false := beq_eq_false_iff_ne.mpr a0
  have q7 : (v.f0 == 0) = true := beq_iff_eq.mpr z0
  have l3' := Aside0.mk l3
  have l16' := Aside0.mk l16
  have l4' := Aside0.mk l4
  have a0' := Aside0.mk a0
  have z0' := Aside0.mk z0
  clear l3 l16 l4 a0 z0
  go_enter Try.func18, Try.ntmps18
  go_upto_region 1 with fail
  refine at_world (fun w' => BR u v w w') BR.start (fun w1 hI => ?_)
  have HI := Aside0.mk hI
  clear hI
  have ca0 : World.cell? w1 _ = some _ := HI.out.a0
  have ca1 : World.cell? w1 _ = some _ := HI.out.a1
  have ca2 : World.cell? w1 _ = some _ := HI.out.a2
  have cv0 : World.cell? w1 _ = some _ := HI.out.v0
  have cv1 : World.cell? w1 _ = some _ := HI.out.v1
  have cv2 : World.cell? w1 _ = some _ := HI.out.v2
  have gc0 : World.cell? w1 ⟨w.heap.size + 1 + 1, 0, none⟩ = some (.int .i64 0) := (blk_cell HI.out.2.2.1 0).trans rfl
  have gf0 := blk_frozen HI.out.2.2.1 0
  have gc1 : World.cell? w1 ⟨w.heap.size + 1 + 1, 1, none⟩ = some (.int .i64 0) := (blk_cell HI.out.2.2.1 1).trans rfl
  have gf1 := blk_frozen HI.out.2.2.1 1
  have gc2 : World.cell? w1 ⟨w.heap.size + 1 + 1, 2, none⟩ = some (.string (⟨#[]⟩ : ByteArray)) := (blk_cell HI.out.2.2.1 2).trans rfl
  have gf2 := blk_frozen HI.out.2.2.1 2
  go_wp2_with (first | (go_at_call 47; (with_reducible refine (quarryref02_goes.calls kA op u.f0 true _ HGA.out).mono ?_); rintro e w' ⟨rfl, ⟨nd, rfl⟩⟩) | (go_at_call 47; (with_reducible refine (quarryref02_goes.calls kB op v.f0 true _ HGB.out).mono ?_); rintro e w' ⟨rfl, ⟨nd, rfl⟩⟩))
  refine (logicR_calls l3'.out l4'.out u v _).mono ?_
  rintro e w2 ⟨rfl, hb⟩
  have HJ : Aside0 (BR u v w w2) := ⟨BR.below (by repeat (first | exact HI.out | refine BR.drewN ?_ _)) hb⟩
  clear hb HI ca0 ca1 ca2 cv0 cv1 cv2 gc0 gc1 gc2 gf0 gf1 gf2
  have HI := HJ
  clear HJ
  have ca0 : World.cell? w2 _ = some _ := HI.out.a0
  have ca1 : World.cell? w2 _ = some _ := HI.out.a1
  have ca2 : World.cell? w2 _ = some _ := HI.out.a2
  have cv0 : World.cell? w2 _ = some _ := HI.out.v0
  have cv1 : World.cell? w2 _ = some _ := HI.out.v1
  have cv2 : World.cell? w2 _ = some _ := HI.out.v2
  have gc0 : World.cell? w2 ⟨w.heap.size + 1 + 1, 0, none⟩ = some (.int .i64 0) := (blk_cell HI.out.2.2.1 0).trans rfl
  have gf0 := blk_frozen HI.out.2.2.1 0
  have gc1 : World.cell? w2 ⟨w.heap.size + 1 + 1, 1, none⟩ = some (.int .i64 0) := (blk_cell HI.out.2.2.1 1).trans rfl
  have gf1 := blk_frozen HI.out.2.2.1 1
  have gc2 : World.cell? w2 ⟨w.heap.size + 1 + 1, 2, none⟩ = some (.string (⟨#[]⟩ : ByteArray)) := (blk_cell HI.out.2.2.1 2).trans rfl
  have gf2 := blk_frozen HI.out.2.2.1 2
  go_wp2_with fail
  refine bodyPost_ret (v := .tuple #[.agg #[.int .i64 ((logicP u v (truthV (op == 3))).f0), .int .i64 ((logicP u v (truthV (op == 3))).f1), .string ((logicP u v (truthV (op == 3))).f2)], .int .i64 0]) (by simp [results, Try.results18, go_sem, gc0, gc1, gc2, V0]) rfl ⟨rfl, ?_⟩
  refine below_set3 ?_ (by omega) _ _ _ _ _ _
  repeat (first | (with_reducible exact HI.out.bel) | apply pw_below_drewN)
set_option maxHeartbeats 2000000 in
set_option maxRecDepth 100000 in
theorem refBinary.logicC (op : Int) (u v : S25) (w : World) (kA : Nat) (HGA : Aside0 (quarryref02_goes.f kA op u.f0 = some true)) (kB : Nat) (HGB : Aside0 (quarryref02_goes.f kB op v.f0 = some true)) (l3 : 3 ≤ op) (l16 : op ≤ 16) (l4 : op ≤ 4) (a0 : ¬ u.f0 = 0) (z0 : ¬ v.f0 = 0) :
    Calls Try.prog 18 #[.int .i64 op, .agg #[.int .i64 u.f0, .int .i64 u.f1, .string u.f2], .agg #[.int .i64 v.f0, .int .i64 v.f1, .string v.f2]] w (fun e w' => e = .returned (.tuple #[.agg #[.int .i64 ((logicP u v (truthV (op == 3))).f0), .int .i64 ((logicP u v (truthV (op == 3))).f1), .string ((logicP u v (truthV (op == 3))).f2)], .int .i64 0]) ∧ Below w.heap.size w w') := by
  have hu25 := Try.underlying25
  have q0 : decide (op < 3) = false := decide_eq_false (by omega)
  have q1 : decide (3 ≤ op) = true := decide_eq_true l3
  have q2 : decide (16 < op) = false := decide_eq_false (by omega)
  have q3 : decide (op ≤ 16) = true := decide_eq_true l16
  have q4 : decide (5 ≤ op) = false := decide_eq_false (by omega)
  have q5 : decide (op ≤ 4) = true := decide_eq_true l4
  have q6 : (u.f0 == 0) = false := beq_eq_false_iff_ne.mpr a0
  have q7 : (v.f0 == 0) = false := beq_eq_false_iff_ne.mpr z0
  have l3' := Aside0.mk l3
  have l16' := Aside0.mk l16
  have l4' := Aside0.mk l4
  have a0' := Aside0.mk a0
  have z0' := Aside0.mk z0
  clear l3 l16 l4 a0 z0
  go_enter Try.func18, Try.ntmps18
  go_upto_region 1 with fail
  refine at_world (fun w' => BR u v w w') BR.start (fun w1 hI => ?_)
  have HI := Aside0.mk hI
  clear hI
  have ca0 : World.cell? w1 _ = some _ := HI.out.a0
  have ca1 : World.cell? w1 _ = some _ := HI.out.a1
  have ca2 : World.cell? w1 _ = some _ := HI.out.a2
  have cv0 : World.cell? w1 _ = some _ := HI.out.v0
  have cv1 : World.cell? w1 _ = some _ := HI.out.v1
  have cv2 : World.cell? w1 _ = some _ := HI.out.v2
  have gc0 : World.cell? w1 ⟨w.heap.size + 1 + 1, 0, none⟩ = some (.int .i64 0) := (blk_cell HI.out.2.2.1 0).trans rfl
  have gf0 := blk_frozen HI.out.2.2.1 0
  have gc1 : World.cell? w1 ⟨w.heap.size + 1 + 1, 1, none⟩ = some (.int .i64 0) := (blk_cell HI.out.2.2.1 1).trans rfl
  have gf1 := blk_frozen HI.out.2.2.1 1
  have gc2 : World.cell? w1 ⟨w.heap.size + 1 + 1, 2, none⟩ = some (.string (⟨#[]⟩ : ByteArray)) := (blk_cell HI.out.2.2.1 2).trans rfl
  have gf2 := blk_frozen HI.out.2.2.1 2
  go_wp2_with (first | (go_at_call 47; (with_reducible refine (quarryref02_goes.calls kA op u.f0 true _ HGA.out).mono ?_); rintro e w' ⟨rfl, ⟨nd, rfl⟩⟩) | (go_at_call 47; (with_reducible refine (quarryref02_goes.calls kB op v.f0 true _ HGB.out).mono ?_); rintro e w' ⟨rfl, ⟨nd, rfl⟩⟩))
  refine (logicR_calls l3'.out l4'.out u v _).mono ?_
  rintro e w2 ⟨rfl, hb⟩
  have HJ : Aside0 (BR u v w w2) := ⟨BR.below (by repeat (first | exact HI.out | refine BR.drewN ?_ _)) hb⟩
  clear hb HI ca0 ca1 ca2 cv0 cv1 cv2 gc0 gc1 gc2 gf0 gf1 gf2
  have HI := HJ
  clear HJ
  have ca0 : World.cell? w2 _ = some _ := HI.out.a0
  have ca1 : World.cell? w2 _ = some _ := HI.out.a1
  have ca2 : World.cell? w2 _ = some _ := HI.out.a2
  have cv0 : World.cell? w2 _ = some _ := HI.out.v0
  have cv1 : World.cell? w2 _ = some _ := HI.out.v1
  have cv2 : World.cell? w2 _ = some _ := HI.out.v2
  have gc0 : World.cell? w2 ⟨w.heap.size + 1 + 1, 0, none⟩ = some (.int .i64 0) := (blk_cell HI.out.2.2.1 0).trans rfl
  have gf0 := blk_frozen HI.out.2.2.1 0
  have gc1 : World.cell? w2 ⟨w.heap.size + 1 + 1, 1, none⟩ = some (.int .i64 0) := (blk_cell HI.out.2.2.1 1).trans rfl
  have gf1 := blk_frozen HI.out.2.2.1 1
  have gc2 : World.cell? w2 ⟨w.heap.size + 1 + 1, 2, none⟩ = some (.string (⟨#[]⟩ : ByteArray)) := (blk_cell HI.out.2.2.1 2).trans rfl
  have gf2 := blk_frozen HI.out.2.2.1 2
  go_wp2_with fail
  refine bodyPost_ret (v := .tuple #[.agg #[.int .i64 ((logicP u v (truthV (op == 3))).f0), .int .i64 ((logicP u v (truthV (op == 3))).f1), .string ((logicP u v (truthV (op == 3))).f2)], .int .i64 0]) (by simp [results, Try.results18, go_sem, gc0, gc1, gc2, V0]) rfl ⟨rfl, ?_⟩
  refine below_set3 ?_ (by omega) _ _ _ _ _ _
  repeat (first | (with_reducible exact HI.out.bel) | apply pw_below_drewN)
set_option maxHeartbeats 2000000 in
set_option maxRecDepth 100000 in
theorem refBinary.nullMA (op : Int) (u v : S25) (w : World) (kA : Nat) (HGA : Aside0 (quarryref02_goes.f kA op u.f0 = some true)) (kB : Nat) (HGB : Aside0 (quarryref02_goes.f kB op v.f0 = some true)) (l3 : 3 ≤ op) (l16 : op ≤ 16) (l5 : 5 ≤ op) (l10 : op ≤ 10) (a0 : u.f0 = 0) :
    Calls Try.prog 18 #[.int .i64 op, .agg #[.int .i64 u.f0, .int .i64 u.f1, .string u.f2], .agg #[.int .i64 v.f0, .int .i64 v.f1, .string v.f2]] w (fun e w' => e = .returned (.tuple #[.agg #[.int .i64 (0), .int .i64 (0), .string (V0)], .int .i64 0]) ∧ Below w.heap.size w w') := by
  have hu25 := Try.underlying25
  have q0 : decide (op < 3) = false := decide_eq_false (by omega)
  have q1 : decide (3 ≤ op) = true := decide_eq_true l3
  have q2 : decide (16 < op) = false := decide_eq_false (by omega)
  have q3 : decide (op ≤ 16) = true := decide_eq_true l16
  have q4 : decide (5 ≤ op) = true := decide_eq_true l5
  have q5 : decide (op ≤ 10) = true := decide_eq_true l10
  have q6 : decide (op ≤ 4) = false := decide_eq_false (by omega)
  have q7 : (u.f0 == 0) = true := beq_iff_eq.mpr a0
  have l3' := Aside0.mk l3
  have l16' := Aside0.mk l16
  have l5' := Aside0.mk l5
  have l10' := Aside0.mk l10
  have a0' := Aside0.mk a0
  clear l3 l16 l5 l10 a0
  go_enter Try.func18, Try.ntmps18
  go_upto_region 1 with fail
  refine at_world (fun w' => BR u v w w') BR.start (fun w1 hI => ?_)
  have HI := Aside0.mk hI
  clear hI
  have ca0 : World.cell? w1 _ = some _ := HI.out.a0
  have ca1 : World.cell? w1 _ = some _ := HI.out.a1
  have ca2 : World.cell? w1 _ = some _ := HI.out.a2
  have cv0 : World.cell? w1 _ = some _ := HI.out.v0
  have cv1 : World.cell? w1 _ = some _ := HI.out.v1
  have cv2 : World.cell? w1 _ = some _ := HI.out.v2
  have gc0 : World.cell? w1 ⟨w.heap.size + 1 + 1, 0, none⟩ = some (.int .i64 0) := (blk_cell HI.out.2.2.1 0).trans rfl
  have gf0 := blk_frozen HI.out.2.2.1 0
  have gc1 : World.cell? w1 ⟨w.heap.size + 1 + 1, 1, none⟩ = some (.int .i64 0) := (blk_cell HI.out.2.2.1 1).trans rfl
  have gf1 := blk_frozen HI.out.2.2.1 1
  have gc2 : World.cell? w1 ⟨w.heap.size + 1 + 1, 2, none⟩ = some (.string (⟨#[]⟩ : ByteArray)) := (blk_cell HI.out.2.2.1 2).trans rfl
  have gf2 := blk_frozen HI.out.2.2.1 2
  go_wp2_with (first | (go_at_call 47; (with_reducible refine (quarryref02_goes.calls kA op u.f0 true _ HGA.out).mono ?_); rintro e w' ⟨rfl, ⟨nd, rfl⟩⟩) | (go_at_call 47; (with_reducible refine (quarryref02_goes.calls kB op v.f0 true _ HGB.out).mono ?_); rintro e w' ⟨rfl, ⟨nd, rfl⟩⟩))
  refine bodyPost_ret (v := .tuple #[.agg #[.int .i64 (0), .int .i64 (0), .string (V0)], .int .i64 0]) (by simp [results, Try.results18, go_sem, gc0, gc1, gc2, V0]) rfl ⟨rfl, ?_⟩
  refine below_set3 ?_ (by omega) _ _ _ _ _ _
  repeat (first | (with_reducible exact HI.out.bel) | apply pw_below_drewN)
set_option maxHeartbeats 2000000 in
set_option maxRecDepth 100000 in
theorem refBinary.nullHA (op : Int) (u v : S25) (w : World) (kA : Nat) (HGA : Aside0 (quarryref02_goes.f kA op u.f0 = some true)) (kB : Nat) (HGB : Aside0 (quarryref02_goes.f kB op v.f0 = some true)) (l3 : 3 ≤ op) (l16 : op ≤ 16) (l10 : ¬ op ≤ 10) (a0 : u.f0 = 0) :
    Calls Try.prog 18 #[.int .i64 op, .agg #[.int .i64 u.f0, .int .i64 u.f1, .string u.f2], .agg #[.int .i64 v.f0, .int .i64 v.f1, .string v.f2]] w (fun e w' => e = .returned (.tuple #[.agg #[.int .i64 (0), .int .i64 (0), .string (V0)], .int .i64 0]) ∧ Below w.heap.size w w') := by
  have hu25 := Try.underlying25
  have q0 : decide (op < 3) = false := decide_eq_false (by omega)
  have q1 : decide (3 ≤ op) = true := decide_eq_true l3
  have q2 : decide (16 < op) = false := decide_eq_false (by omega)
  have q3 : decide (op ≤ 16) = true := decide_eq_true l16
  have q4 : decide (5 ≤ op) = true := decide_eq_true (by omega)
  have q5 : decide (op ≤ 10) = false := decide_eq_false l10
  have q6 : decide (op ≤ 4) = false := decide_eq_false (by omega)
  have q7 : (u.f0 == 0) = true := beq_iff_eq.mpr a0
  have l3' := Aside0.mk l3
  have l16' := Aside0.mk l16
  have l10' := Aside0.mk l10
  have a0' := Aside0.mk a0
  clear l3 l16 l10 a0
  go_enter Try.func18, Try.ntmps18
  go_upto_region 1 with fail
  refine at_world (fun w' => BR u v w w') BR.start (fun w1 hI => ?_)
  have HI := Aside0.mk hI
  clear hI
  have ca0 : World.cell? w1 _ = some _ := HI.out.a0
  have ca1 : World.cell? w1 _ = some _ := HI.out.a1
  have ca2 : World.cell? w1 _ = some _ := HI.out.a2
  have cv0 : World.cell? w1 _ = some _ := HI.out.v0
  have cv1 : World.cell? w1 _ = some _ := HI.out.v1
  have cv2 : World.cell? w1 _ = some _ := HI.out.v2
  have gc0 : World.cell? w1 ⟨w.heap.size + 1 + 1, 0, none⟩ = some (.int .i64 0) := (blk_cell HI.out.2.2.1 0).trans rfl
  have gf0 := blk_frozen HI.out.2.2.1 0
  have gc1 : World.cell? w1 ⟨w.heap.size + 1 + 1, 1, none⟩ = some (.int .i64 0) := (blk_cell HI.out.2.2.1 1).trans rfl
  have gf1 := blk_frozen HI.out.2.2.1 1
  have gc2 : World.cell? w1 ⟨w.heap.size + 1 + 1, 2, none⟩ = some (.string (⟨#[]⟩ : ByteArray)) := (blk_cell HI.out.2.2.1 2).trans rfl
  have gf2 := blk_frozen HI.out.2.2.1 2
  go_wp2_with (first | (go_at_call 47; (with_reducible refine (quarryref02_goes.calls kA op u.f0 true _ HGA.out).mono ?_); rintro e w' ⟨rfl, ⟨nd, rfl⟩⟩) | (go_at_call 47; (with_reducible refine (quarryref02_goes.calls kB op v.f0 true _ HGB.out).mono ?_); rintro e w' ⟨rfl, ⟨nd, rfl⟩⟩))
  refine bodyPost_ret (v := .tuple #[.agg #[.int .i64 (0), .int .i64 (0), .string (V0)], .int .i64 0]) (by simp [results, Try.results18, go_sem, gc0, gc1, gc2, V0]) rfl ⟨rfl, ?_⟩
  refine below_set3 ?_ (by omega) _ _ _ _ _ _
  repeat (first | (with_reducible exact HI.out.bel) | apply pw_below_drewN)
set_option maxHeartbeats 2000000 in
set_option maxRecDepth 100000 in
theorem refBinary.nullMB (op : Int) (u v : S25) (w : World) (kA : Nat) (HGA : Aside0 (quarryref02_goes.f kA op u.f0 = some true)) (kB : Nat) (HGB : Aside0 (quarryref02_goes.f kB op v.f0 = some true)) (l3 : 3 ≤ op) (l16 : op ≤ 16) (l5 : 5 ≤ op) (l10 : op ≤ 10) (a0 : ¬ u.f0 = 0) (z0 : v.f0 = 0) :
    Calls Try.prog 18 #[.int .i64 op, .agg #[.int .i64 u.f0, .int .i64 u.f1, .string u.f2], .agg #[.int .i64 v.f0, .int .i64 v.f1, .string v.f2]] w (fun e w' => e = .returned (.tuple #[.agg #[.int .i64 (0), .int .i64 (0), .string (V0)], .int .i64 0]) ∧ Below w.heap.size w w') := by
  have hu25 := Try.underlying25
  have q0 : decide (op < 3) = false := decide_eq_false (by omega)
  have q1 : decide (3 ≤ op) = true := decide_eq_true l3
  have q2 : decide (16 < op) = false := decide_eq_false (by omega)
  have q3 : decide (op ≤ 16) = true := decide_eq_true l16
  have q4 : decide (5 ≤ op) = true := decide_eq_true l5
  have q5 : decide (op ≤ 10) = true := decide_eq_true l10
  have q6 : decide (op ≤ 4) = false := decide_eq_false (by omega)
  have q7 : (u.f0 == 0) = false := beq_eq_false_iff_ne.mpr a0
  have q8 : (v.f0 == 0) = true := beq_iff_eq.mpr z0
  have l3' := Aside0.mk l3
  have l16' := Aside0.mk l16
  have l5' := Aside0.mk l5
  have l10' := Aside0.mk l10
  have a0' := Aside0.mk a0
  have z0' := Aside0.mk z0
  clear l3 l16 l5 l10 a0 z0
  go_enter Try.func18, Try.ntmps18
  go_upto_region 1 with fail
  refine at_world (fun w' => BR u v w w') BR.start (fun w1 hI => ?_)
  have HI := Aside0.mk hI
  clear hI
  have ca0 : World.cell? w1 _ = some _ := HI.out.a0
  have ca1 : World.cell? w1 _ = some _ := HI.out.a1
  have ca2 : World.cell? w1 _ = some _ := HI.out.a2
  have cv0 : World.cell? w1 _ = some _ := HI.out.v0
  have cv1 : World.cell? w1 _ = some _ := HI.out.v1
  have cv2 : World.cell? w1 _ = some _ := HI.out.v2
  have gc0 : World.cell? w1 ⟨w.heap.size + 1 + 1, 0, none⟩ = some (.int .i64 0) := (blk_cell HI.out.2.2.1 0).trans rfl
  have gf0 := blk_frozen HI.out.2.2.1 0
  have gc1 : World.cell? w1 ⟨w.heap.size + 1 + 1, 1, none⟩ = some (.int .i64 0) := (blk_cell HI.out.2.2.1 1).trans rfl
  have gf1 := blk_frozen HI.out.2.2.1 1
  have gc2 : World.cell? w1 ⟨w.heap.size + 1 + 1, 2, none⟩ = some (.string (⟨#[]⟩ : ByteArray)) := (blk_cell HI.out.2.2.1 2).trans rfl
  have gf2 := blk_frozen HI.out.2.2.1 2
  go_wp2_with (first | (go_at_call 47; (with_reducible refine (quarryref02_goes.calls kA op u.f0 true _ HGA.out).mono ?_); rintro e w' ⟨rfl, ⟨nd, rfl⟩⟩) | (go_at_call 47; (with_reducible refine (quarryref02_goes.calls kB op v.f0 true _ HGB.out).mono ?_); rintro e w' ⟨rfl, ⟨nd, rfl⟩⟩))
  refine bodyPost_ret (v := .tuple #[.agg #[.int .i64 (0), .int .i64 (0), .string (V0)], .int .i64 0]) (by simp [results, Try.results18, go_sem, gc0, gc1, gc2, V0]) rfl ⟨rfl, ?_⟩
  refine below_set3 ?_ (by omega) _ _ _ _ _ _
  repeat (first | (with_reducible exact HI.out.bel) | apply pw_below_drewN)
set_option maxHeartbeats 2000000 in
set_option maxRecDepth 100000 in
theorem refBinary.nullHB (op : Int) (u v : S25) (w : World) (kA : Nat) (HGA : Aside0 (quarryref02_goes.f kA op u.f0 = some true)) (kB : Nat) (HGB : Aside0 (quarryref02_goes.f kB op v.f0 = some true)) (l3 : 3 ≤ op) (l16 : op ≤ 16) (l10 : ¬ op ≤ 10) (a0 : ¬ u.f0 = 0) (z0 : v.f0 = 0) :
    Calls Try.prog 18 #[.int .i64 op, .agg #[.int .i64 u.f0, .int .i64 u.f1, .string u.f2], .agg #[.int .i64 v.f0, .int .i64 v.f1, .string v.f2]] w (fun e w' => e = .returned (.tuple #[.agg #[.int .i64 (0), .int .i64 (0), .string (V0)], .int .i64 0]) ∧ Below w.heap.size w w') := by
  have hu25 := Try.underlying25
  have q0 : decide (op < 3) = false := decide_eq_false (by omega)
  have q1 : decide (3 ≤ op) = true := decide_eq_true l3
  have q2 : decide (16 < op) = false := decide_eq_false (by omega)
  have q3 : decide (op ≤ 16) = true := decide_eq_true l16
  have q4 : decide (5 ≤ op) = true := decide_eq_true (by omega)
  have q5 : decide (op ≤ 10) = false := decide_eq_false l10
  have q6 : decide (op ≤ 4) = false := decide_eq_false (by omega)
  have q7 : (u.f0 == 0) = false := beq_eq_false_iff_ne.mpr a0
  have q8 : (v.f0 == 0) = true := beq_iff_eq.mpr z0
  have l3' := Aside0.mk l3
  have l16' := Aside0.mk l16
  have l10' := Aside0.mk l10
  have a0' := Aside0.mk a0
  have z0' := Aside0.mk z0
  clear l3 l16 l10 a0 z0
  go_enter Try.func18, Try.ntmps18
  go_upto_region 1 with fail
  refine at_world (fun w' => BR u v w w') BR.start (fun w1 hI => ?_)
  have HI := Aside0.mk hI
  clear hI
  have ca0 : World.cell? w1 _ = some _ := HI.out.a0
  have ca1 : World.cell? w1 _ = some _ := HI.out.a1
  have ca2 : World.cell? w1 _ = some _ := HI.out.a2
  have cv0 : World.cell? w1 _ = some _ := HI.out.v0
  have cv1 : World.cell? w1 _ = some _ := HI.out.v1
  have cv2 : World.cell? w1 _ = some _ := HI.out.v2
  have gc0 : World.cell? w1 ⟨w.heap.size + 1 + 1, 0, none⟩ = some (.int .i64 0) := (blk_cell HI.out.2.2.1 0).trans rfl
  have gf0 := blk_frozen HI.out.2.2.1 0
  have gc1 : World.cell? w1 ⟨w.heap.size + 1 + 1, 1, none⟩ = some (.int .i64 0) := (blk_cell HI.out.2.2.1 1).trans rfl
  have gf1 := blk_frozen HI.out.2.2.1 1
  have gc2 : World.cell? w1 ⟨w.heap.size + 1 + 1, 2, none⟩ = some (.string (⟨#[]⟩ : ByteArray)) := (blk_cell HI.out.2.2.1 2).trans rfl
  have gf2 := blk_frozen HI.out.2.2.1 2
  go_wp2_with (first | (go_at_call 47; (with_reducible refine (quarryref02_goes.calls kA op u.f0 true _ HGA.out).mono ?_); rintro e w' ⟨rfl, ⟨nd, rfl⟩⟩) | (go_at_call 47; (with_reducible refine (quarryref02_goes.calls kB op v.f0 true _ HGB.out).mono ?_); rintro e w' ⟨rfl, ⟨nd, rfl⟩⟩))
  refine bodyPost_ret (v := .tuple #[.agg #[.int .i64 (0), .int .i64 (0), .string (V0)], .int .i64 0]) (by simp [results, Try.results18, go_sem, gc0, gc1, gc2, V0]) rfl ⟨rfl, ?_⟩
  refine below_set3 ?_ (by omega) _ _ _ _ _ _
  repeat (first | (with_reducible exact HI.out.bel) | apply pw_below_drewN)
set_option maxHeartbeats 2000000 in
set_option maxRecDepth 100000 in
theorem refBinary.cmp (op : Int) (u v : S25) (w : World) (kA : Nat) (HGA : Aside0 (quarryref02_goes.f kA op u.f0 = some true)) (kB : Nat) (HGB : Aside0 (quarryref02_goes.f kB op v.f0 = some true)) (l3 : 3 ≤ op) (l16 : op ≤ 16) (l5 : 5 ≤ op) (l10 : op ≤ 10) (a0 : ¬ u.f0 = 0) (z0 : ¬ v.f0 = 0) (uv : u.f0 = v.f0) (HZ : Aside0 (u.f2.size ≤ 140737488351232)) :
    Calls Try.prog 18 #[.int .i64 op, .agg #[.int .i64 u.f0, .int .i64 u.f1, .string u.f2], .agg #[.int .i64 v.f0, .int .i64 v.f1, .string v.f2]] w (fun e w' => e = .returned (.tuple #[.agg #[.int .i64 ((truthV (holdsP op (cmpV u v))).f0), .int .i64 ((truthV (holdsP op (cmpV u v))).f1), .string ((truthV (holdsP op (cmpV u v))).f2)], .int .i64 0]) ∧ Below w.heap.size w w') := by
  have hu25 := Try.underlying25
  have q0 : decide (op < 3) = false := decide_eq_false (by omega)
  have q1 : decide (3 ≤ op) = true := decide_eq_true l3
  have q2 : decide (16 < op) = false := decide_eq_false (by omega)
  have q3 : decide (op ≤ 16) = true := decide_eq_true l16
  have q4 : decide (5 ≤ op) = true := decide_eq_true l5
  have q5 : decide (op ≤ 10) = true := decide_eq_true l10
  have q6 : decide (op ≤ 4) = false := decide_eq_false (by omega)
  have q7 : (u.f0 == 0) = false := beq_eq_false_iff_ne.mpr a0
  have q8 : (v.f0 == 0) = false := beq_eq_false_iff_ne.mpr z0
  have q9 : (u.f0 != v.f0) = false := bne_eq_false_iff_eq.mpr uv
  have q10 : (u.f0 == v.f0) = true := beq_iff_eq.mpr uv
  have l3' := Aside0.mk l3
  have l16' := Aside0.mk l16
  have l5' := Aside0.mk l5
  have l10' := Aside0.mk l10
  have a0' := Aside0.mk a0
  have z0' := Aside0.mk z0
  have uv' := Aside0.mk uv
  clear l3 l16 l5 l10 a0 z0 uv
  go_enter Try.func18, Try.ntmps18
  go_upto_region 1 with fail
  refine at_world (fun w' => BR u v w w') BR.start (fun w1 hI => ?_)
  have HI := Aside0.mk hI
  clear hI
  have ca0 : World.cell? w1 _ = some _ := HI.out.a0
  have ca1 : World.cell? w1 _ = some _ := HI.out.a1
  have ca2 : World.cell? w1 _ = some _ := HI.out.a2
  have cv0 : World.cell? w1 _ = some _ := HI.out.v0
  have cv1 : World.cell? w1 _ = some _ := HI.out.v1
  have cv2 : World.cell? w1 _ = some _ := HI.out.v2
  have gc0 : World.cell? w1 ⟨w.heap.size + 1 + 1, 0, none⟩ = some (.int .i64 0) := (blk_cell HI.out.2.2.1 0).trans rfl
  have gf0 := blk_frozen HI.out.2.2.1 0
  have gc1 : World.cell? w1 ⟨w.heap.size + 1 + 1, 1, none⟩ = some (.int .i64 0) := (blk_cell HI.out.2.2.1 1).trans rfl
  have gf1 := blk_frozen HI.out.2.2.1 1
  have gc2 : World.cell? w1 ⟨w.heap.size + 1 + 1, 2, none⟩ = some (.string (⟨#[]⟩ : ByteArray)) := (blk_cell HI.out.2.2.1 2).trans rfl
  have gf2 := blk_frozen HI.out.2.2.1 2
  go_wp2_with (first | (go_at_call 47; (with_reducible refine (quarryref02_goes.calls kA op u.f0 true _ HGA.out).mono ?_); rintro e w' ⟨rfl, ⟨nd, rfl⟩⟩) | (go_at_call 47; (with_reducible refine (quarryref02_goes.calls kB op v.f0 true _ HGB.out).mono ?_); rintro e w' ⟨rfl, ⟨nd, rfl⟩⟩))
  refine (compareR_calls u v HZ.out _).mono ?_
  rintro e w2 ⟨rfl, hb⟩
  have HJ : Aside0 (BR u v w w2) := ⟨BR.below (by repeat (first | exact HI.out | refine BR.drewN ?_ _)) hb⟩
  clear hb HI ca0 ca1 ca2 cv0 cv1 cv2 gc0 gc1 gc2 gf0 gf1 gf2
  have HI := HJ
  clear HJ
  have ca0 : World.cell? w2 _ = some _ := HI.out.a0
  have ca1 : World.cell? w2 _ = some _ := HI.out.a1
  have ca2 : World.cell? w2 _ = some _ := HI.out.a2
  have cv0 : World.cell? w2 _ = some _ := HI.out.v0
  have cv1 : World.cell? w2 _ = some _ := HI.out.v1
  have cv2 : World.cell? w2 _ = some _ := HI.out.v2
  have gc0 : World.cell? w2 ⟨w.heap.size + 1 + 1, 0, none⟩ = some (.int .i64 0) := (blk_cell HI.out.2.2.1 0).trans rfl
  have gf0 := blk_frozen HI.out.2.2.1 0
  have gc1 : World.cell? w2 ⟨w.heap.size + 1 + 1, 1, none⟩ = some (.int .i64 0) := (blk_cell HI.out.2.2.1 1).trans rfl
  have gf1 := blk_frozen HI.out.2.2.1 1
  have gc2 : World.cell? w2 ⟨w.heap.size + 1 + 1, 2, none⟩ = some (.string (⟨#[]⟩ : ByteArray)) := (blk_cell HI.out.2.2.1 2).trans rfl
  have gf2 := blk_frozen HI.out.2.2.1 2
  go_wp2_with fail
  refine (quarryref02_holds.calls op (cmpV u v) _ _ (holdsR_f op (cmpV u v))).mono ?_
  rintro e w' ⟨rfl, ⟨nd, rfl⟩⟩
  go_wp2_with fail
  refine (quarryref02_Truth.calls (holdsP op (cmpV u v)) _ _ _ _ (truthR_f (holdsP op (cmpV u v)))).mono ?_
  rintro e w2 ⟨rfl, hb⟩
  have HJ : Aside0 (BR u v w w2) := ⟨BR.below (by repeat (first | exact HI.out | refine BR.drewN ?_ _)) hb⟩
  clear hb HI ca0 ca1 ca2 cv0 cv1 cv2 gc0 gc1 gc2 gf0 gf1 gf2
  have HI := HJ
  clear HJ
  have ca0 : World.cell? w2 _ = some _ := HI.out.a0
  have ca1 : World.cell? w2 _ = some _ := HI.out.a1
  have ca2 : World.cell? w2 _ = some _ := HI.out.a2
  have cv0 : World.cell? w2 _ = some _ := HI.out.v0
  have cv1 : World.cell? w2 _ = some _ := HI.out.v1
  have cv2 : World.cell? w2 _ = some _ := HI.out.v2
  have gc0 : World.cell? w2 ⟨w.heap.size + 1 + 1, 0, none⟩ = some (.int .i64 0) := (blk_cell HI.out.2.2.1 0).trans rfl
  have gf0 := blk_frozen HI.out.2.2.1 0
  have gc1 : World.cell? w2 ⟨w.heap.size + 1 + 1, 1, none⟩ = some (.int .i64 0) := (blk_cell HI.out.2.2.1 1).trans rfl
  have gf1 := blk_frozen HI.out.2.2.1 1
  have gc2 : World.cell? w2 ⟨w.heap.size + 1 + 1, 2, none⟩ = some (.string (⟨#[]⟩ : ByteArray)) := (blk_cell HI.out.2.2.1 2).trans rfl
  have gf2 := blk_frozen HI.out.2.2.1 2
  go_wp2_with fail
  refine bodyPost_ret (v := .tuple #[.agg #[.int .i64 ((truthV (holdsP op (cmpV u v))).f0), .int .i64 ((truthV (holdsP op (cmpV u v))).f1), .string ((truthV (holdsP op (cmpV u v))).f2)], .int .i64 0]) (by simp [results, Try.results18, go_sem, gc0, gc1, gc2, V0]) rfl ⟨rfl, ?_⟩
  refine below_set3 ?_ (by omega) _ _ _ _ _ _
  repeat (first | (with_reducible exact HI.out.bel) | apply pw_below_drewN)
set_option maxHeartbeats 2000000 in
set_option maxRecDepth 100000 in
theorem refBinary.catA (op : Int) (u v : S25) (w : World) (kA : Nat) (HGA : Aside0 (quarryref02_goes.f kA op u.f0 = some true)) (kB : Nat) (HGB : Aside0 (quarryref02_goes.f kB op v.f0 = some true)) (l3 : 3 ≤ op) (l16 : op ≤ 16) (l10 : ¬ op ≤ 10) (a0 : ¬ u.f0 = 0) (z0 : ¬ v.f0 = 0) (o16 : op = 16) (hz : u.f2.size + v.f2.size < 9223372036854775808) (ha : 2048 < u.f2.size) :
    Calls Try.prog 18 #[.int .i64 op, .agg #[.int .i64 u.f0, .int .i64 u.f1, .string u.f2], .agg #[.int .i64 v.f0, .int .i64 v.f1, .string v.f2]] w (fun e w' => e = .returned (.tuple #[.agg #[.int .i64 (0), .int .i64 (0), .string (V0)], .int .i64 8]) ∧ Below w.heap.size w w') := by
  have hu25 := Try.underlying25
  have q0 : decide (op < 3) = false := decide_eq_false (by omega)
  have q1 : decide (3 ≤ op) = true := decide_eq_true l3
  have q2 : decide (16 < op) = false := decide_eq_false (by omega)
  have q3 : decide (op ≤ 16) = true := decide_eq_true l16
  have q4 : decide (5 ≤ op) = true := decide_eq_true (by omega)
  have q5 : decide (op ≤ 10) = false := decide_eq_false l10
  have q6 : decide (op ≤ 4) = false := decide_eq_false (by omega)
  have q7 : (u.f0 == 0) = false := beq_eq_false_iff_ne.mpr a0
  have q8 : (v.f0 == 0) = false := beq_eq_false_iff_ne.mpr z0
  have q9 : (op == 16) = true := beq_iff_eq.mpr o16
  have q10 : decide (2048 < (u.f2.size : Int)) = true := decide_eq_true (by omega)
  have q11 : decide (2048 < u.f2.size) = true := decide_eq_true (by omega)
  have l3' := Aside0.mk l3
  have l16' := Aside0.mk l16
  have l10' := Aside0.mk l10
  have a0' := Aside0.mk a0
  have z0' := Aside0.mk z0
  have o16' := Aside0.mk o16
  have hz' := Aside0.mk hz
  have ha' := Aside0.mk ha
  clear l3 l16 l10 a0 z0 o16 hz ha
  go_enter Try.func18, Try.ntmps18
  go_upto_region 1 with fail
  refine at_world (fun w' => BR u v w w') BR.start (fun w1 hI => ?_)
  have HI := Aside0.mk hI
  clear hI
  have ca0 : World.cell? w1 _ = some _ := HI.out.a0
  have ca1 : World.cell? w1 _ = some _ := HI.out.a1
  have ca2 : World.cell? w1 _ = some _ := HI.out.a2
  have cv0 : World.cell? w1 _ = some _ := HI.out.v0
  have cv1 : World.cell? w1 _ = some _ := HI.out.v1
  have cv2 : World.cell? w1 _ = some _ := HI.out.v2
  have gc0 : World.cell? w1 ⟨w.heap.size + 1 + 1, 0, none⟩ = some (.int .i64 0) := (blk_cell HI.out.2.2.1 0).trans rfl
  have gf0 := blk_frozen HI.out.2.2.1 0
  have gc1 : World.cell? w1 ⟨w.heap.size + 1 + 1, 1, none⟩ = some (.int .i64 0) := (blk_cell HI.out.2.2.1 1).trans rfl
  have gf1 := blk_frozen HI.out.2.2.1 1
  have gc2 : World.cell? w1 ⟨w.heap.size + 1 + 1, 2, none⟩ = some (.string (⟨#[]⟩ : ByteArray)) := (blk_cell HI.out.2.2.1 2).trans rfl
  have gf2 := blk_frozen HI.out.2.2.1 2
  go_wp2_with (first | (go_at_call 47; (with_reducible refine (quarryref02_goes.calls kA op u.f0 true _ HGA.out).mono ?_); rintro e w' ⟨rfl, ⟨nd, rfl⟩⟩) | (go_at_call 47; (with_reducible refine (quarryref02_goes.calls kB op v.f0 true _ HGB.out).mono ?_); rintro e w' ⟨rfl, ⟨nd, rfl⟩⟩))
  refine bodyPost_ret (v := .tuple #[.agg #[.int .i64 (0), .int .i64 (0), .string (V0)], .int .i64 8]) (by simp [results, Try.results18, go_sem, gc0, gc1, gc2, V0]) rfl ⟨rfl, ?_⟩
  refine below_set3 ?_ (by omega) _ _ _ _ _ _
  repeat (first | (with_reducible exact HI.out.bel) | apply pw_below_drewN)
set_option maxHeartbeats 2000000 in
set_option maxRecDepth 100000 in
theorem refBinary.catB (op : Int) (u v : S25) (w : World) (kA : Nat) (HGA : Aside0 (quarryref02_goes.f kA op u.f0 = some true)) (kB : Nat) (HGB : Aside0 (quarryref02_goes.f kB op v.f0 = some true)) (l3 : 3 ≤ op) (l16 : op ≤ 16) (l10 : ¬ op ≤ 10) (a0 : ¬ u.f0 = 0) (z0 : ¬ v.f0 = 0) (o16 : op = 16) (hz : u.f2.size + v.f2.size < 9223372036854775808) (ha : ¬ 2048 < u.f2.size) (hs : ¬ u.f2.size + v.f2.size ≤ 2048) :
    Calls Try.prog 18 #[.int .i64 op, .agg #[.int .i64 u.f0, .int .i64 u.f1, .string u.f2], .agg #[.int .i64 v.f0, .int .i64 v.f1, .string v.f2]] w (fun e w' => e = .returned (.tuple #[.agg #[.int .i64 (0), .int .i64 (0), .string (V0)], .int .i64 8]) ∧ Below w.heap.size w w') := by
  have hu25 := Try.underlying25
  have q0 : decide (op < 3) = false := decide_eq_false (by omega)
  have q1 : decide (3 ≤ op) = true := decide_eq_true l3
  have q2 : decide (16 < op) = false := decide_eq_false (by omega)
  have q3 : decide (op ≤ 16) = true := decide_eq_true l16
  have q4 : decide (5 ≤ op) = true := decide_eq_true (by omega)
  have q5 : decide (op ≤ 10) = false := decide_eq_false l10
  have q6 : decide (op ≤ 4) = false := decide_eq_false (by omega)
  have q7 : (u.f0 == 0) = false := beq_eq_false_iff_ne.mpr a0
  have q8 : (v.f0 == 0) = false := beq_eq_false_iff_ne.mpr z0
  have q9 : (op == 16) = true := beq_iff_eq.mpr o16
  have q10 : decide (2048 < (u.f2.size : Int)) = false := decide_eq_false (by omega)
  have q11 : decide (2048 < u.f2.size) = false := decide_eq_false (by omega)
  have hw : wrap64 (2048 - (u.f2.size : Int)) = 2048 - (u.f2.size : Int) := by unfold wrap64; omega
  have q13 : decide (2048 - (u.f2.size : Int) < (v.f2.size : Int)) = true := decide_eq_true (by omega)
  have l3' := Aside0.mk l3
  have l16' := Aside0.mk l16
  have l10' := Aside0.mk l10
  have a0' := Aside0.mk a0
  have z0' := Aside0.mk z0
  have o16' := Aside0.mk o16
  have hz' := Aside0.mk hz
  have ha' := Aside0.mk ha
  have hs' := Aside0.mk hs
  clear l3 l16 l10 a0 z0 o16 hz ha hs
  go_enter Try.func18, Try.ntmps18
  go_upto_region 1 with fail
  refine at_world (fun w' => BR u v w w') BR.start (fun w1 hI => ?_)
  have HI := Aside0.mk hI
  clear hI
  have ca0 : World.cell? w1 _ = some _ := HI.out.a0
  have ca1 : World.cell? w1 _ = some _ := HI.out.a1
  have ca2 : World.cell? w1 _ = some _ := HI.out.a2
  have cv0 : World.cell? w1 _ = some _ := HI.out.v0
  have cv1 : World.cell? w1 _ = some _ := HI.out.v1
  have cv2 : World.cell? w1 _ = some _ := HI.out.v2
  have gc0 : World.cell? w1 ⟨w.heap.size + 1 + 1, 0, none⟩ = some (.int .i64 0) := (blk_cell HI.out.2.2.1 0).trans rfl
  have gf0 := blk_frozen HI.out.2.2.1 0
  have gc1 : World.cell? w1 ⟨w.heap.size + 1 + 1, 1, none⟩ = some (.int .i64 0) := (blk_cell HI.out.2.2.1 1).trans rfl
  have gf1 := blk_frozen HI.out.2.2.1 1
  have gc2 : World.cell? w1 ⟨w.heap.size + 1 + 1, 2, none⟩ = some (.string (⟨#[]⟩ : ByteArray)) := (blk_cell HI.out.2.2.1 2).trans rfl
  have gf2 := blk_frozen HI.out.2.2.1 2
  go_wp2_with (first | (go_at_call 47; (with_reducible refine (quarryref02_goes.calls kA op u.f0 true _ HGA.out).mono ?_); rintro e w' ⟨rfl, ⟨nd, rfl⟩⟩) | (go_at_call 47; (with_reducible refine (quarryref02_goes.calls kB op v.f0 true _ HGB.out).mono ?_); rintro e w' ⟨rfl, ⟨nd, rfl⟩⟩))
  refine bodyPost_ret (v := .tuple #[.agg #[.int .i64 (0), .int .i64 (0), .string (V0)], .int .i64 8]) (by simp [results, Try.results18, go_sem, gc0, gc1, gc2, V0]) rfl ⟨rfl, ?_⟩
  refine below_set3 ?_ (by omega) _ _ _ _ _ _
  repeat (first | (with_reducible exact HI.out.bel) | apply pw_below_drewN)
set_option maxHeartbeats 2000000 in
set_option maxRecDepth 100000 in
theorem refBinary.cat (op : Int) (u v : S25) (w : World) (kA : Nat) (HGA : Aside0 (quarryref02_goes.f kA op u.f0 = some true)) (kB : Nat) (HGB : Aside0 (quarryref02_goes.f kB op v.f0 = some true)) (l3 : 3 ≤ op) (l16 : op ≤ 16) (l10 : ¬ op ≤ 10) (a0 : ¬ u.f0 = 0) (z0 : ¬ v.f0 = 0) (o16 : op = 16) (hz : u.f2.size + v.f2.size < 9223372036854775808) (hs : u.f2.size + v.f2.size ≤ 2048) :
    Calls Try.prog 18 #[.int .i64 op, .agg #[.int .i64 u.f0, .int .i64 u.f1, .string u.f2], .agg #[.int .i64 v.f0, .int .i64 v.f1, .string v.f2]] w (fun e w' => e = .returned (.tuple #[.agg #[.int .i64 (3), .int .i64 (0), .string (u.f2 ++ v.f2)], .int .i64 0]) ∧ Below w.heap.size w w') := by
  have hu25 := Try.underlying25
  have q0 : decide (op < 3) = false := decide_eq_false (by omega)
  have q1 : decide (3 ≤ op) = true := decide_eq_true l3
  have q2 : decide (16 < op) = false := decide_eq_false (by omega)
  have q3 : decide (op ≤ 16) = true := decide_eq_true l16
  have q4 : decide (5 ≤ op) = true := decide_eq_true (by omega)
  have q5 : decide (op ≤ 10) = false := decide_eq_false l10
  have q6 : decide (op ≤ 4) = false := decide_eq_false (by omega)
  have q7 : (u.f0 == 0) = false := beq_eq_false_iff_ne.mpr a0
  have q8 : (v.f0 == 0) = false := beq_eq_false_iff_ne.mpr z0
  have q9 : (op == 16) = true := beq_iff_eq.mpr o16
  have q10 : decide (2048 < (u.f2.size : Int)) = false := decide_eq_false (by omega)
  have q11 : decide (2048 < u.f2.size) = false := decide_eq_false (by omega)
  have hw : wrap64 (2048 - (u.f2.size : Int)) = 2048 - (u.f2.size : Int) := by unfold wrap64; omega
  have q13 : decide (2048 - (u.f2.size : Int) < (v.f2.size : Int)) = false := decide_eq_false (by omega)
  have hcat : ¬ (9223372036854775807 < u.f2.size + v.f2.size) := by omega
  have l3' := Aside0.mk l3
  have l16' := Aside0.mk l16
  have l10' := Aside0.mk l10
  have a0' := Aside0.mk a0
  have z0' := Aside0.mk z0
  have o16' := Aside0.mk o16
  have hz' := Aside0.mk hz
  have hs' := Aside0.mk hs
  clear l3 l16 l10 a0 z0 o16 hz hs
  go_enter Try.func18, Try.ntmps18
  go_upto_region 1 with fail
  refine at_world (fun w' => BR u v w w') BR.start (fun w1 hI => ?_)
  have HI := Aside0.mk hI
  clear hI
  have ca0 : World.cell? w1 _ = some _ := HI.out.a0
  have ca1 : World.cell? w1 _ = some _ := HI.out.a1
  have ca2 : World.cell? w1 _ = some _ := HI.out.a2
  have cv0 : World.cell? w1 _ = some _ := HI.out.v0
  have cv1 : World.cell? w1 _ = some _ := HI.out.v1
  have cv2 : World.cell? w1 _ = some _ := HI.out.v2
  have gc0 : World.cell? w1 ⟨w.heap.size + 1 + 1, 0, none⟩ = some (.int .i64 0) := (blk_cell HI.out.2.2.1 0).trans rfl
  have gf0 := blk_frozen HI.out.2.2.1 0
  have gc1 : World.cell? w1 ⟨w.heap.size + 1 + 1, 1, none⟩ = some (.int .i64 0) := (blk_cell HI.out.2.2.1 1).trans rfl
  have gf1 := blk_frozen HI.out.2.2.1 1
  have gc2 : World.cell? w1 ⟨w.heap.size + 1 + 1, 2, none⟩ = some (.string (⟨#[]⟩ : ByteArray)) := (blk_cell HI.out.2.2.1 2).trans rfl
  have gf2 := blk_frozen HI.out.2.2.1 2
  go_wp2_with (first | (go_at_call 47; (with_reducible refine (quarryref02_goes.calls kA op u.f0 true _ HGA.out).mono ?_); rintro e w' ⟨rfl, ⟨nd, rfl⟩⟩) | (go_at_call 47; (with_reducible refine (quarryref02_goes.calls kB op v.f0 true _ HGB.out).mono ?_); rintro e w' ⟨rfl, ⟨nd, rfl⟩⟩))
  refine (quarryref02_text.calls (u.f2 ++ v.f2) _ _ _ _ (show quarryref02_text.f (u.f2 ++ v.f2) = some (3, 0, u.f2 ++ v.f2) from rfl)).mono ?_
  rintro e w2 ⟨rfl, hb⟩
  have HJ : Aside0 (BR u v w w2) := ⟨BR.below (by repeat (first | exact HI.out | refine BR.drewN ?_ _)) hb⟩
  clear hb HI ca0 ca1 ca2 cv0 cv1 cv2 gc0 gc1 gc2 gf0 gf1 gf2
  have HI := HJ
  clear HJ
  have ca0 : World.cell? w2 _ = some _ := HI.out.a0
  have ca1 : World.cell? w2 _ = some _ := HI.out.a1
  have ca2 : World.cell? w2 _ = some _ := HI.out.a2
  have cv0 : World.cell? w2 _ = some _ := HI.out.v0
  have cv1 : World.cell? w2 _ = some _ := HI.out.v1
  have cv2 : World.cell? w2 _ = some _ := HI.out.v2
  have gc0 : World.cell? w2 ⟨w.heap.size + 1 + 1, 0, none⟩ = some (.int .i64 0) := (blk_cell HI.out.2.2.1 0).trans rfl
  have gf0 := blk_frozen HI.out.2.2.1 0
  have gc1 : World.cell? w2 ⟨w.heap.size + 1 + 1, 1, none⟩ = some (.int .i64 0) := (blk_cell HI.out.2.2.1 1).trans rfl
  have gf1 := blk_frozen HI.out.2.2.1 1
  have gc2 : World.cell? w2 ⟨w.heap.size + 1 + 1, 2, none⟩ = some (.string (⟨#[]⟩ : ByteArray)) := (blk_cell HI.out.2.2.1 2).trans rfl
  have gf2 := blk_frozen HI.out.2.2.1 2
  go_wp2_with fail
  refine bodyPost_ret (v := .tuple #[.agg #[.int .i64 (3), .int .i64 (0), .string (u.f2 ++ v.f2)], .int .i64 0]) (by simp [results, Try.results18, go_sem, gc0, gc1, gc2, V0]) rfl ⟨rfl, ?_⟩
  refine below_set3 ?_ (by omega) _ _ _ _ _ _
  repeat (first | (with_reducible exact HI.out.bel) | apply pw_below_drewN)
set_option maxHeartbeats 2000000 in
set_option maxRecDepth 100000 in
theorem refBinary.zero (op : Int) (u v : S25) (w : World) (kA : Nat) (HGA : Aside0 (quarryref02_goes.f kA op u.f0 = some true)) (kB : Nat) (HGB : Aside0 (quarryref02_goes.f kB op v.f0 = some true)) (l3 : 3 ≤ op) (l16 : op ≤ 16) (l10 : ¬ op ≤ 10) (a0 : ¬ u.f0 = 0) (z0 : ¬ v.f0 = 0) (o16 : ¬ op = 16) (l14 : 14 ≤ op) (hb : v.f1 = 0) :
    Calls Try.prog 18 #[.int .i64 op, .agg #[.int .i64 u.f0, .int .i64 u.f1, .string u.f2], .agg #[.int .i64 v.f0, .int .i64 v.f1, .string v.f2]] w (fun e w' => e = .returned (.tuple #[.agg #[.int .i64 (0), .int .i64 (0), .string (V0)], .int .i64 41]) ∧ Below w.heap.size w w') := by
  have hu25 := Try.underlying25
  have q0 : decide (op < 3) = false := decide_eq_false (by omega)
  have q1 : decide (3 ≤ op) = true := decide_eq_true l3
  have q2 : decide (16 < op) = false := decide_eq_false (by omega)
  have q3 : decide (op ≤ 16) = true := decide_eq_true l16
  have q4 : decide (5 ≤ op) = true := decide_eq_true (by omega)
  have q5 : decide (op ≤ 10) = false := decide_eq_false l10
  have q6 : decide (op ≤ 4) = false := decide_eq_false (by omega)
  have q7 : (u.f0 == 0) = false := beq_eq_false_iff_ne.mpr a0
  have q8 : (v.f0 == 0) = false := beq_eq_false_iff_ne.mpr z0
  have q9 : (op == 16) = false := beq_eq_false_iff_ne.mpr o16
  have q10 : decide (14 ≤ op) = true := decide_eq_true l14
  have q11 : (v.f1 == 0) = true := beq_iff_eq.mpr hb
  have l3' := Aside0.mk l3
  have l16' := Aside0.mk l16
  have l10' := Aside0.mk l10
  have a0' := Aside0.mk a0
  have z0' := Aside0.mk z0
  have o16' := Aside0.mk o16
  have l14' := Aside0.mk l14
  have hb' := Aside0.mk hb
  clear l3 l16 l10 a0 z0 o16 l14 hb
  go_enter Try.func18, Try.ntmps18
  go_upto_region 1 with fail
  refine at_world (fun w' => BR u v w w') BR.start (fun w1 hI => ?_)
  have HI := Aside0.mk hI
  clear hI
  have ca0 : World.cell? w1 _ = some _ := HI.out.a0
  have ca1 : World.cell? w1 _ = some _ := HI.out.a1
  have ca2 : World.cell? w1 _ = some _ := HI.out.a2
  have cv0 : World.cell? w1 _ = some _ := HI.out.v0
  have cv1 : World.cell? w1 _ = some _ := HI.out.v1
  have cv2 : World.cell? w1 _ = some _ := HI.out.v2
  have gc0 : World.cell? w1 ⟨w.heap.size + 1 + 1, 0, none⟩ = some (.int .i64 0) := (blk_cell HI.out.2.2.1 0).trans rfl
  have gf0 := blk_frozen HI.out.2.2.1 0
  have gc1 : World.cell? w1 ⟨w.heap.size + 1 + 1, 1, none⟩ = some (.int .i64 0) := (blk_cell HI.out.2.2.1 1).trans rfl
  have gf1 := blk_frozen HI.out.2.2.1 1
  have gc2 : World.cell? w1 ⟨w.heap.size + 1 + 1, 2, none⟩ = some (.string (⟨#[]⟩ : ByteArray)) := (blk_cell HI.out.2.2.1 2).trans rfl
  have gf2 := blk_frozen HI.out.2.2.1 2
  go_wp2_with (first | (go_at_call 47; (with_reducible refine (quarryref02_goes.calls kA op u.f0 true _ HGA.out).mono ?_); rintro e w' ⟨rfl, ⟨nd, rfl⟩⟩) | (go_at_call 47; (with_reducible refine (quarryref02_goes.calls kB op v.f0 true _ HGB.out).mono ?_); rintro e w' ⟨rfl, ⟨nd, rfl⟩⟩))
  refine bodyPost_ret (v := .tuple #[.agg #[.int .i64 (0), .int .i64 (0), .string (V0)], .int .i64 41]) (by simp [results, Try.results18, go_sem, gc0, gc1, gc2, V0]) rfl ⟨rfl, ?_⟩
  refine below_set3 ?_ (by omega) _ _ _ _ _ _
  repeat (first | (with_reducible exact HI.out.bel) | apply pw_below_drewN)
set_option maxHeartbeats 2000000 in
set_option maxRecDepth 100000 in
theorem refBinary.num0 (op : Int) (u v : S25) (w : World) (kA : Nat) (HGA : Aside0 (quarryref02_goes.f kA op u.f0 = some true)) (kB : Nat) (HGB : Aside0 (quarryref02_goes.f kB op v.f0 = some true)) (l3 : 3 ≤ op) (l16 : op ≤ 16) (l10 : ¬ op ≤ 10) (a0 : ¬ u.f0 = 0) (z0 : ¬ v.f0 = 0) (o16 : ¬ op = 16) (l14 : ¬ 14 ≤ op) (k : Nat) (n : Int) (HN : Aside0 (quarryref02_sum.f k op u.f1 v.f1 = some (n, true))) :
    Calls Try.prog 18 #[.int .i64 op, .agg #[.int .i64 u.f0, .int .i64 u.f1, .string u.f2], .agg #[.int .i64 v.f0, .int .i64 v.f1, .string v.f2]] w (fun e w' => e = .returned (.tuple #[.agg #[.int .i64 (2), .int .i64 (n), .string (V0)], .int .i64 0]) ∧ Below w.heap.size w w') := by
  have hu25 := Try.underlying25
  have q0 : decide (op < 3) = false := decide_eq_false (by omega)
  have q1 : decide (3 ≤ op) = true := decide_eq_true l3
  have q2 : decide (16 < op) = false := decide_eq_false (by omega)
  have q3 : decide (op ≤ 16) = true := decide_eq_true l16
  have q4 : decide (5 ≤ op) = true := decide_eq_true (by omega)
  have q5 : decide (op ≤ 10) = false := decide_eq_false l10
  have q6 : decide (op ≤ 4) = false := decide_eq_false (by omega)
  have q7 : (u.f0 == 0) = false := beq_eq_false_iff_ne.mpr a0
  have q8 : (v.f0 == 0) = false := beq_eq_false_iff_ne.mpr z0
  have q9 : (op == 16) = false := beq_eq_false_iff_ne.mpr o16
  have q10 : decide (14 ≤ op) = false := decide_eq_false l14
  have l3' := Aside0.mk l3
  have l16' := Aside0.mk l16
  have l10' := Aside0.mk l10
  have a0' := Aside0.mk a0
  have z0' := Aside0.mk z0
  have o16' := Aside0.mk o16
  have l14' := Aside0.mk l14
  clear l3 l16 l10 a0 z0 o16 l14
  go_enter Try.func18, Try.ntmps18
  go_upto_region 1 with fail
  refine at_world (fun w' => BR u v w w') BR.start (fun w1 hI => ?_)
  have HI := Aside0.mk hI
  clear hI
  have ca0 : World.cell? w1 _ = some _ := HI.out.a0
  have ca1 : World.cell? w1 _ = some _ := HI.out.a1
  have ca2 : World.cell? w1 _ = some _ := HI.out.a2
  have cv0 : World.cell? w1 _ = some _ := HI.out.v0
  have cv1 : World.cell? w1 _ = some _ := HI.out.v1
  have cv2 : World.cell? w1 _ = some _ := HI.out.v2
  have gc0 : World.cell? w1 ⟨w.heap.size + 1 + 1, 0, none⟩ = some (.int .i64 0) := (blk_cell HI.out.2.2.1 0).trans rfl
  have gf0 := blk_frozen HI.out.2.2.1 0
  have gc1 : World.cell? w1 ⟨w.heap.size + 1 + 1, 1, none⟩ = some (.int .i64 0) := (blk_cell HI.out.2.2.1 1).trans rfl
  have gf1 := blk_frozen HI.out.2.2.1 1
  have gc2 : World.cell? w1 ⟨w.heap.size + 1 + 1, 2, none⟩ = some (.string (⟨#[]⟩ : ByteArray)) := (blk_cell HI.out.2.2.1 2).trans rfl
  have gf2 := blk_frozen HI.out.2.2.1 2
  go_wp2_with (first | (go_at_call 47; (with_reducible refine (quarryref02_goes.calls kA op u.f0 true _ HGA.out).mono ?_); rintro e w' ⟨rfl, ⟨nd, rfl⟩⟩) | (go_at_call 47; (with_reducible refine (quarryref02_goes.calls kB op v.f0 true _ HGB.out).mono ?_); rintro e w' ⟨rfl, ⟨nd, rfl⟩⟩))
  refine (quarryref02_sum.calls k op u.f1 v.f1 n true _ HN.out).mono ?_
  rintro e w' ⟨rfl, ⟨nd, rfl⟩⟩
  go_wp2_with fail
  refine (quarryref02_Number.calls n _ _ _ _ (show quarryref02_Number.f n = some (2, n, V0) from rfl)).mono ?_
  rintro e w2 ⟨rfl, hb⟩
  have HJ : Aside0 (BR u v w w2) := ⟨BR.below (by repeat (first | exact HI.out | refine BR.drewN ?_ _)) hb⟩
  clear hb HI ca0 ca1 ca2 cv0 cv1 cv2 gc0 gc1 gc2 gf0 gf1 gf2
  have HI := HJ
  clear HJ
  have ca0 : World.cell? w2 _ = some _ := HI.out.a0
  have ca1 : World.cell? w2 _ = some _ := HI.out.a1
  have ca2 : World.cell? w2 _ = some _ := HI.out.a2
  have cv0 : World.cell? w2 _ = some _ := HI.out.v0
  have cv1 : World.cell? w2 _ = some _ := HI.out.v1
  have cv2 : World.cell? w2 _ = some _ := HI.out.v2
  have gc0 : World.cell? w2 ⟨w.heap.size + 1 + 1, 0, none⟩ = some (.int .i64 0) := (blk_cell HI.out.2.2.1 0).trans rfl
  have gf0 := blk_frozen HI.out.2.2.1 0
  have gc1 : World.cell? w2 ⟨w.heap.size + 1 + 1, 1, none⟩ = some (.int .i64 0) := (blk_cell HI.out.2.2.1 1).trans rfl
  have gf1 := blk_frozen HI.out.2.2.1 1
  have gc2 : World.cell? w2 ⟨w.heap.size + 1 + 1, 2, none⟩ = some (.string (⟨#[]⟩ : ByteArray)) := (blk_cell HI.out.2.2.1 2).trans rfl
  have gf2 := blk_frozen HI.out.2.2.1 2
  go_wp2_with fail
  refine bodyPost_ret (v := .tuple #[.agg #[.int .i64 (2), .int .i64 (n), .string (V0)], .int .i64 0]) (by simp [results, Try.results18, go_sem, gc0, gc1, gc2, V0]) rfl ⟨rfl, ?_⟩
  refine below_set3 ?_ (by omega) _ _ _ _ _ _
  repeat (first | (with_reducible exact HI.out.bel) | apply pw_below_drewN)
set_option maxHeartbeats 2000000 in
set_option maxRecDepth 100000 in
theorem refBinary.over0 (op : Int) (u v : S25) (w : World) (kA : Nat) (HGA : Aside0 (quarryref02_goes.f kA op u.f0 = some true)) (kB : Nat) (HGB : Aside0 (quarryref02_goes.f kB op v.f0 = some true)) (l3 : 3 ≤ op) (l16 : op ≤ 16) (l10 : ¬ op ≤ 10) (a0 : ¬ u.f0 = 0) (z0 : ¬ v.f0 = 0) (o16 : ¬ op = 16) (l14 : ¬ 14 ≤ op) (k : Nat) (n : Int) (HN : Aside0 (quarryref02_sum.f k op u.f1 v.f1 = some (n, false))) :
    Calls Try.prog 18 #[.int .i64 op, .agg #[.int .i64 u.f0, .int .i64 u.f1, .string u.f2], .agg #[.int .i64 v.f0, .int .i64 v.f1, .string v.f2]] w (fun e w' => e = .returned (.tuple #[.agg #[.int .i64 (0), .int .i64 (0), .string (V0)], .int .i64 40]) ∧ Below w.heap.size w w') := by
  have hu25 := Try.underlying25
  have q0 : decide (op < 3) = false := decide_eq_false (by omega)
  have q1 : decide (3 ≤ op) = true := decide_eq_true l3
  have q2 : decide (16 < op) = false := decide_eq_false (by omega)
  have q3 : decide (op ≤ 16) = true := decide_eq_true l16
  have q4 : decide (5 ≤ op) = true := decide_eq_true (by omega)
  have q5 : decide (op ≤ 10) = false := decide_eq_false l10
  have q6 : decide (op ≤ 4) = false := decide_eq_false (by omega)
  have q7 : (u.f0 == 0) = false := beq_eq_false_iff_ne.mpr a0
  have q8 : (v.f0 == 0) = false := beq_eq_false_iff_ne.mpr z0
  have q9 : (op == 16) = false := beq_eq_false_iff_ne.mpr o16
  have q10 : decide (14 ≤ op) = false := decide_eq_false l14
  have l3' := Aside0.mk l3
  have l16' := Aside0.mk l16
  have l10' := Aside0.mk l10
  have a0' := Aside0.mk a0
  have z0' := Aside0.mk z0
  have o16' := Aside0.mk o16
  have l14' := Aside0.mk l14
  clear l3 l16 l10 a0 z0 o16 l14
  go_enter Try.func18, Try.ntmps18
  go_upto_region 1 with fail
  refine at_world (fun w' => BR u v w w') BR.start (fun w1 hI => ?_)
  have HI := Aside0.mk hI
  clear hI
  have ca0 : World.cell? w1 _ = some _ := HI.out.a0
  have ca1 : World.cell? w1 _ = some _ := HI.out.a1
  have ca2 : World.cell? w1 _ = some _ := HI.out.a2
  have cv0 : World.cell? w1 _ = some _ := HI.out.v0
  have cv1 : World.cell? w1 _ = some _ := HI.out.v1
  have cv2 : World.cell? w1 _ = some _ := HI.out.v2
  have gc0 : World.cell? w1 ⟨w.heap.size + 1 + 1, 0, none⟩ = some (.int .i64 0) := (blk_cell HI.out.2.2.1 0).trans rfl
  have gf0 := blk_frozen HI.out.2.2.1 0
  have gc1 : World.cell? w1 ⟨w.heap.size + 1 + 1, 1, none⟩ = some (.int .i64 0) := (blk_cell HI.out.2.2.1 1).trans rfl
  have gf1 := blk_frozen HI.out.2.2.1 1
  have gc2 : World.cell? w1 ⟨w.heap.size + 1 + 1, 2, none⟩ = some (.string (⟨#[]⟩ : ByteArray)) := (blk_cell HI.out.2.2.1 2).trans rfl
  have gf2 := blk_frozen HI.out.2.2.1 2
  go_wp2_with (first | (go_at_call 47; (with_reducible refine (quarryref02_goes.calls kA op u.f0 true _ HGA.out).mono ?_); rintro e w' ⟨rfl, ⟨nd, rfl⟩⟩) | (go_at_call 47; (with_reducible refine (quarryref02_goes.calls kB op v.f0 true _ HGB.out).mono ?_); rintro e w' ⟨rfl, ⟨nd, rfl⟩⟩))
  refine (quarryref02_sum.calls k op u.f1 v.f1 n false _ HN.out).mono ?_
  rintro e w' ⟨rfl, ⟨nd, rfl⟩⟩
  go_wp2_with fail
  refine bodyPost_ret (v := .tuple #[.agg #[.int .i64 (0), .int .i64 (0), .string (V0)], .int .i64 40]) (by simp [results, Try.results18, go_sem, gc0, gc1, gc2, V0]) rfl ⟨rfl, ?_⟩
  refine below_set3 ?_ (by omega) _ _ _ _ _ _
  repeat (first | (with_reducible exact HI.out.bel) | apply pw_below_drewN)
set_option maxHeartbeats 2000000 in
set_option maxRecDepth 100000 in
theorem refBinary.num1 (op : Int) (u v : S25) (w : World) (kA : Nat) (HGA : Aside0 (quarryref02_goes.f kA op u.f0 = some true)) (kB : Nat) (HGB : Aside0 (quarryref02_goes.f kB op v.f0 = some true)) (l3 : 3 ≤ op) (l16 : op ≤ 16) (l10 : ¬ op ≤ 10) (a0 : ¬ u.f0 = 0) (z0 : ¬ v.f0 = 0) (o16 : ¬ op = 16) (l14 : 14 ≤ op) (hb : ¬ v.f1 = 0) (k : Nat) (n : Int) (HN : Aside0 (quarryref02_sum.f k op u.f1 v.f1 = some (n, true))) :
    Calls Try.prog 18 #[.int .i64 op, .agg #[.int .i64 u.f0, .int .i64 u.f1, .string u.f2], .agg #[.int .i64 v.f0, .int .i64 v.f1, .string v.f2]] w (fun e w' => e = .returned (.tuple #[.agg #[.int .i64 (2), .int .i64 (n), .string (V0)], .int .i64 0]) ∧ Below w.heap.size w w') := by
  have hu25 := Try.underlying25
  have q0 : decide (op < 3) = false := decide_eq_false (by omega)
  have q1 : decide (3 ≤ op) = true := decide_eq_true l3
  have q2 : decide (16 < op) = false := decide_eq_false (by omega)
  have q3 : decide (op ≤ 16) = true := decide_eq_true l16
  have q4 : decide (5 ≤ op) = true := decide_eq_true (by omega)
  have q5 : decide (op ≤ 10) = false := decide_eq_false l10
  have q6 : decide (op ≤ 4) = false := decide_eq_false (by omega)
  have q7 : (u.f0 == 0) = false := beq_eq_false_iff_ne.mpr a0
  have q8 : (v.f0 == 0) = false := beq_eq_false_iff_ne.mpr z0
  have q9 : (op == 16) = false := beq_eq_false_iff_ne.mpr o16
  have q10 : decide (14 ≤ op) = true := decide_eq_true l14
  have q11 : (v.f1 == 0) = false := beq_eq_false_iff_ne.mpr hb
  have l3' := Aside0.mk l3
  have l16' := Aside0.mk l16
  have l10' := Aside0.mk l10
  have a0' := Aside0.mk a0
  have z0' := Aside0.mk z0
  have o16' := Aside0.mk o16
  have l14' := Aside0.mk l14
  have hb' := Aside0.mk hb
  clear l3 l16 l10 a0 z0 o16 l14 hb
  go_enter Try.func18, Try.ntmps18
  go_upto_region 1 with fail
  refine at_world (fun w' => BR u v w w') BR.start (fun w1 hI => ?_)
  have HI := Aside0.mk hI
  clear hI
  have ca0 : World.cell? w1 _ = some _ := HI.out.a0
  have ca1 : World.cell? w1 _ = some _ := HI.out.a1
  have ca2 : World.cell? w1 _ = some _ := HI.out.a2
  have cv0 : World.cell? w1 _ = some _ := HI.out.v0
  have cv1 : World.cell? w1 _ = some _ := HI.out.v1
  have cv2 : World.cell? w1 _ = some _ := HI.out.v2
  have gc0 : World.cell? w1 ⟨w.heap.size + 1 + 1, 0, none⟩ = some (.int .i64 0) := (blk_cell HI.out.2.2.1 0).trans rfl
  have gf0 := blk_frozen HI.out.2.2.1 0
  have gc1 : World.cell? w1 ⟨w.heap.size + 1 + 1, 1, none⟩ = some (.int .i64 0) := (blk_cell HI.out.2.2.1 1).trans rfl
  have gf1 := blk_frozen HI.out.2.2.1 1
  have gc2 : World.cell? w1 ⟨w.heap.size + 1 + 1, 2, none⟩ = some (.string (⟨#[]⟩ : ByteArray)) := (blk_cell HI.out.2.2.1 2).trans rfl
  have gf2 := blk_frozen HI.out.2.2.1 2
  go_wp2_with (first | (go_at_call 47; (with_reducible refine (quarryref02_goes.calls kA op u.f0 true _ HGA.out).mono ?_); rintro e w' ⟨rfl, ⟨nd, rfl⟩⟩) | (go_at_call 47; (with_reducible refine (quarryref02_goes.calls kB op v.f0 true _ HGB.out).mono ?_); rintro e w' ⟨rfl, ⟨nd, rfl⟩⟩))
  refine (quarryref02_sum.calls k op u.f1 v.f1 n true _ HN.out).mono ?_
  rintro e w' ⟨rfl, ⟨nd, rfl⟩⟩
  go_wp2_with fail
  refine (quarryref02_Number.calls n _ _ _ _ (show quarryref02_Number.f n = some (2, n, V0) from rfl)).mono ?_
  rintro e w2 ⟨rfl, hb⟩
  have HJ : Aside0 (BR u v w w2) := ⟨BR.below (by repeat (first | exact HI.out | refine BR.drewN ?_ _)) hb⟩
  clear hb HI ca0 ca1 ca2 cv0 cv1 cv2 gc0 gc1 gc2 gf0 gf1 gf2
  have HI := HJ
  clear HJ
  have ca0 : World.cell? w2 _ = some _ := HI.out.a0
  have ca1 : World.cell? w2 _ = some _ := HI.out.a1
  have ca2 : World.cell? w2 _ = some _ := HI.out.a2
  have cv0 : World.cell? w2 _ = some _ := HI.out.v0
  have cv1 : World.cell? w2 _ = some _ := HI.out.v1
  have cv2 : World.cell? w2 _ = some _ := HI.out.v2
  have gc0 : World.cell? w2 ⟨w.heap.size + 1 + 1, 0, none⟩ = some (.int .i64 0) := (blk_cell HI.out.2.2.1 0).trans rfl
  have gf0 := blk_frozen HI.out.2.2.1 0
  have gc1 : World.cell? w2 ⟨w.heap.size + 1 + 1, 1, none⟩ = some (.int .i64 0) := (blk_cell HI.out.2.2.1 1).trans rfl
  have gf1 := blk_frozen HI.out.2.2.1 1
  have gc2 : World.cell? w2 ⟨w.heap.size + 1 + 1, 2, none⟩ = some (.string (⟨#[]⟩ : ByteArray)) := (blk_cell HI.out.2.2.1 2).trans rfl
  have gf2 := blk_frozen HI.out.2.2.1 2
  go_wp2_with fail
  refine bodyPost_ret (v := .tuple #[.agg #[.int .i64 (2), .int .i64 (n), .string (V0)], .int .i64 0]) (by simp [results, Try.results18, go_sem, gc0, gc1, gc2, V0]) rfl ⟨rfl, ?_⟩
  refine below_set3 ?_ (by omega) _ _ _ _ _ _
  repeat (first | (with_reducible exact HI.out.bel) | apply pw_below_drewN)
set_option maxHeartbeats 2000000 in
set_option maxRecDepth 100000 in
theorem refBinary.over1 (op : Int) (u v : S25) (w : World) (kA : Nat) (HGA : Aside0 (quarryref02_goes.f kA op u.f0 = some true)) (kB : Nat) (HGB : Aside0 (quarryref02_goes.f kB op v.f0 = some true)) (l3 : 3 ≤ op) (l16 : op ≤ 16) (l10 : ¬ op ≤ 10) (a0 : ¬ u.f0 = 0) (z0 : ¬ v.f0 = 0) (o16 : ¬ op = 16) (l14 : 14 ≤ op) (hb : ¬ v.f1 = 0) (k : Nat) (n : Int) (HN : Aside0 (quarryref02_sum.f k op u.f1 v.f1 = some (n, false))) :
    Calls Try.prog 18 #[.int .i64 op, .agg #[.int .i64 u.f0, .int .i64 u.f1, .string u.f2], .agg #[.int .i64 v.f0, .int .i64 v.f1, .string v.f2]] w (fun e w' => e = .returned (.tuple #[.agg #[.int .i64 (0), .int .i64 (0), .string (V0)], .int .i64 40]) ∧ Below w.heap.size w w') := by
  have hu25 := Try.underlying25
  have q0 : decide (op < 3) = false := decide_eq_false (by omega)
  have q1 : decide (3 ≤ op) = true := decide_eq_true l3
  have q2 : decide (16 < op) = false := decide_eq_false (by omega)
  have q3 : decide (op ≤ 16) = true := decide_eq_true l16
  have q4 : decide (5 ≤ op) = true := decide_eq_true (by omega)
  have q5 : decide (op ≤ 10) = false := decide_eq_false l10
  have q6 : decide (op ≤ 4) = false := decide_eq_false (by omega)
  have q7 : (u.f0 == 0) = false := beq_eq_false_iff_ne.mpr a0
  have q8 : (v.f0 == 0) = false := beq_eq_false_iff_ne.mpr z0
  have q9 : (op == 16) = false := beq_eq_false_iff_ne.mpr o16
  have q10 : decide (14 ≤ op) = true := decide_eq_true l14
  have q11 : (v.f1 == 0) = false := beq_eq_false_iff_ne.mpr hb
  have l3' := Aside0.mk l3
  have l16' := Aside0.mk l16
  have l10' := Aside0.mk l10
  have a0' := Aside0.mk a0
  have z0' := Aside0.mk z0
  have o16' := Aside0.mk o16
  have l14' := Aside0.mk l14
  have hb' := Aside0.mk hb
  clear l3 l16 l10 a0 z0 o16 l14 hb
  go_enter Try.func18, Try.ntmps18
  go_upto_region 1 with fail
  refine at_world (fun w' => BR u v w w') BR.start (fun w1 hI => ?_)
  have HI := Aside0.mk hI
  clear hI
  have ca0 : World.cell? w1 _ = some _ := HI.out.a0
  have ca1 : World.cell? w1 _ = some _ := HI.out.a1
  have ca2 : World.cell? w1 _ = some _ := HI.out.a2
  have cv0 : World.cell? w1 _ = some _ := HI.out.v0
  have cv1 : World.cell? w1 _ = some _ := HI.out.v1
  have cv2 : World.cell? w1 _ = some _ := HI.out.v2
  have gc0 : World.cell? w1 ⟨w.heap.size + 1 + 1, 0, none⟩ = some (.int .i64 0) := (blk_cell HI.out.2.2.1 0).trans rfl
  have gf0 := blk_frozen HI.out.2.2.1 0
  have gc1 : World.cell? w1 ⟨w.heap.size + 1 + 1, 1, none⟩ = some (.int .i64 0) := (blk_cell HI.out.2.2.1 1).trans rfl
  have gf1 := blk_frozen HI.out.2.2.1 1
  have gc2 : World.cell? w1 ⟨w.heap.size + 1 + 1, 2, none⟩ = some (.string (⟨#[]⟩ : ByteArray)) := (blk_cell HI.out.2.2.1 2).trans rfl
  have gf2 := blk_frozen HI.out.2.2.1 2
  go_wp2_with (first | (go_at_call 47; (with_reducible refine (quarryref02_goes.calls kA op u.f0 true _ HGA.out).mono ?_); rintro e w' ⟨rfl, ⟨nd, rfl⟩⟩) | (go_at_call 47; (with_reducible refine (quarryref02_goes.calls kB op v.f0 true _ HGB.out).mono ?_); rintro e w' ⟨rfl, ⟨nd, rfl⟩⟩))
  refine (quarryref02_sum.calls k op u.f1 v.f1 n false _ HN.out).mono ?_
  rintro e w' ⟨rfl, ⟨nd, rfl⟩⟩
  go_wp2_with fail
  refine bodyPost_ret (v := .tuple #[.agg #[.int .i64 (0), .int .i64 (0), .string (V0)], .int .i64 40]) (by simp [results, Try.results18, go_sem, gc0, gc1, gc2, V0]) rfl ⟨rfl, ?_⟩
  refine below_set3 ?_ (by omega) _ _ _ _ _ _
  repeat (first | (with_reducible exact HI.out.bel) | apply pw_below_drewN)
end Go.Proofs.Ytfbeklbjlkgbnaa.P
end
section
namespace Go.Proofs.Ytfbeklbjlkgbnaa.P
open Go.RowKit Go.Proofs.Ytfbeklbjlkgbnaa.Pure Go.Proofs.YtfbeklbjlkgbnaaW.PrintWords Go.Proofs.YtfbeklbjlkgbnaaW.PrintLast Go.Proofs.YtfbeklbjlkgbnaaW.PrintMore
attribute [local go_sem] max2_int min2_int max_two min_two max_three min_three max_four min_four
set_option linter.unusedVariables false
set_option linter.unusedSimpArgs false
end Go.Proofs.Ytfbeklbjlkgbnaa.P
end
section
namespace Go.Proofs.Ytfbeklbjlkgbnaa.P
open Go.RowKit Go.Proofs.Ytfbeklbjlkgbnaa.Pure Go.Proofs.YtfbeklbjlkgbnaaW.PrintWords Go.Proofs.YtfbeklbjlkgbnaaW.PrintLast Go.Proofs.YtfbeklbjlkgbnaaW.PrintMore
attribute [local go_sem] max2_int min2_int max_two min_two max_three min_three max_four min_four
set_option linter.unusedVariables false
set_option linter.unusedSimpArgs false
theorem wants_zero {op : Int} (h : wantsP op = 0) : ¬ op ≤ 4 ∧ op ≤ 10 := by
  unfold wantsP at h
  by_cases h4 : op ≤ 4
  · rw [if_pos h4] at h; omega
  · rw [if_neg h4] at h
    by_cases h10 : op ≤ 10
    · exact ⟨h4, h10⟩
    · rw [if_neg h10] at h
      by_cases h16 : op = 16
      · rw [if_pos h16] at h; omega
      · rw [if_neg h16] at h; omega
end Go.Proofs.Ytfbeklbjlkgbnaa.P
end
section
namespace Go.Proofs.Ytfbeklbjlkgbnaa.P
open Go.RowKit Go.Proofs.YtfbeklbjlkgbnaaW.PrintWords Go.Proofs.YtfbeklbjlkgbnaaW.PrintLast Go.Proofs.YtfbeklbjlkgbnaaW.PrintMore
attribute [local go_sem] max2_int min2_int max_two min_two max_three min_three max_four min_four
set_option linter.unusedVariables false
set_option linter.unusedSimpArgs false
attribute [local go_sem high] eqA25
end Go.Proofs.Ytfbeklbjlkgbnaa.P
end
section
namespace Go.Proofs.Ytfbeklbjlkgbnaa.P
open Go.RowKit Go.Proofs.Ytfbeklbjlkgbnaa.Pure Go.Proofs.YtfbeklbjlkgbnaaW.PrintWords Go.Proofs.YtfbeklbjlkgbnaaW.PrintLast Go.Proofs.YtfbeklbjlkgbnaaW.PrintMore
set_option linter.unusedVariables false
set_option linter.unusedSimpArgs false
theorem goes_of {op a : Int} (h3 : 3 ≤ op) (h16 : op ≤ 16) (b : Bool) (hb : goesP op a = b) : ∃ k, quarryref02_goes.f k op a = some b := by
  obtain ⟨k, hk⟩ := (goes_ev h3 h16 a).get
  exact ⟨k, by rw [hk, hb]⟩
theorem refBinary.calls (op : Int) (u v : S25) (hu : In64 u.f1) (hv : In64 v.f1) (hz : u.f2.size + v.f2.size < 9223372036854775808) (hx : u.f2.size ≤ 140737488351232) (w : World) :
    Calls Try.prog 18 #[.int .i64 op, .agg #[.int .i64 u.f0, .int .i64 u.f1, .string u.f2], .agg #[.int .i64 v.f0, .int .i64 v.f1, .string v.f2]] w fun e w' => e = .returned (.tuple #[encV (outE (bin op u v)).1, .int .i64 (outE (bin op u v)).2]) ∧ Below w.heap.size w w' := by
  unfold bin
  by_cases l3 : 3 ≤ op
  · by_cases l16 : op ≤ 16
    · rw [if_neg (fun h => h ⟨l3, l16⟩)]
      have hg : kindsP op u.f0 v.f0 ↔ (goesP op u.f0 = true ∧ goesP op v.f0 = true ∧ (wantsP op = 0 → u.f0 = 0 ∨ v.f0 = 0 ∨ u.f0 = v.f0)) := by
        unfold kindsP goesP
        by_cases kz : wantsP op = 0
        · simp [kz]
        · simp [kz]
      cases hA : goesP op u.f0 with
      | false =>
        obtain ⟨kA, HA⟩ := goes_of l3 l16 false hA
        rw [if_pos (fun h => by rw [hg, hA] at h; exact absurd h.1 (by decide))]
        have a0 : ¬ u.f0 = 0 := fun h => by simp [goesP, h] at hA
        by_cases z0 : v.f0 = 0
        · exact refBinary.kindAB op u v w kA ⟨HA⟩ l3 l16 a0 z0
        · exact refBinary.kindAC op u v w kA ⟨HA⟩ l3 l16 a0 z0
      | true =>
      obtain ⟨kA, HA⟩ := goes_of l3 l16 true hA
      cases hB : goesP op v.f0 with
      | false =>
        obtain ⟨kB, HB⟩ := goes_of l3 l16 false hB
        rw [if_pos (fun h => by rw [hg, hB] at h; exact absurd h.2.1 (by decide))]
        have z0 : ¬ v.f0 = 0 := fun h => by simp [goesP, h] at hB
        by_cases a0 : u.f0 = 0
        · exact refBinary.kindBA op u v w kA ⟨HA⟩ kB ⟨HB⟩ l3 l16 a0
        · exact refBinary.kindBC op u v w kA ⟨HA⟩ kB ⟨HB⟩ l3 l16 a0 z0
      | true =>
      obtain ⟨kB, HB⟩ := goes_of l3 l16 true hB
      by_cases l4 : op ≤ 4
      · have kn : ¬ wantsP op = 0 := fun h => (wants_zero h).1 l4
        rw [if_neg (fun h => h (hg.2 ⟨hA, hB, fun q => absurd q kn⟩)), if_pos l4]
        by_cases a0 : u.f0 = 0
        · exact refBinary.logicA op u v w kA ⟨HA⟩ kB ⟨HB⟩ l3 l16 l4 a0
        by_cases z0 : v.f0 = 0
        · exact refBinary.logicB op u v w kA ⟨HA⟩ kB ⟨HB⟩ l3 l16 l4 a0 z0
        · exact refBinary.logicC op u v w kA ⟨HA⟩ kB ⟨HB⟩ l3 l16 l4 a0 z0
      by_cases l10 : op ≤ 10
      · have kz : wantsP op = 0 := by unfold wantsP; rw [if_neg l4, if_pos l10]
        have l5 : 5 ≤ op := by omega
        by_cases a0 : u.f0 = 0
        · rw [if_neg (fun h => h (hg.2 ⟨hA, hB, fun _ => .inl a0⟩)), if_neg l4, if_pos (.inl a0)]
          exact refBinary.nullMA op u v w kA ⟨HA⟩ kB ⟨HB⟩ l3 l16 l5 l10 a0
        by_cases z0 : v.f0 = 0
        · rw [if_neg (fun h => h (hg.2 ⟨hA, hB, fun _ => .inr (.inl z0)⟩)), if_neg l4, if_pos (.inr z0)]
          exact refBinary.nullMB op u v w kA ⟨HA⟩ kB ⟨HB⟩ l3 l16 l5 l10 a0 z0
        by_cases uv : u.f0 = v.f0
        · rw [if_neg (fun h => h (hg.2 ⟨hA, hB, fun _ => .inr (.inr uv)⟩)), if_neg l4, if_neg (fun h => h.elim a0 z0), if_pos l10]
          exact refBinary.cmp op u v w kA ⟨HA⟩ kB ⟨HB⟩ l3 l16 l5 l10 a0 z0 uv ⟨hx⟩
        · rw [if_pos (fun h => (((hg.1 h).2.2 kz).elim a0 (fun h => h.elim z0 uv)))]
          exact refBinary.differ op u v w kA ⟨HA⟩ kB ⟨HB⟩ l3 l16 l5 l10 a0 z0 uv
      have kn : ¬ wantsP op = 0 := fun h => l10 (wants_zero h).2
      rw [if_neg (fun h => h (hg.2 ⟨hA, hB, fun q => absurd q kn⟩)), if_neg l4]
      by_cases a0 : u.f0 = 0
      · rw [if_pos (.inl a0)]; exact refBinary.nullHA op u v w kA ⟨HA⟩ kB ⟨HB⟩ l3 l16 l10 a0
      by_cases z0 : v.f0 = 0
      · rw [if_pos (.inr z0)]; exact refBinary.nullHB op u v w kA ⟨HA⟩ kB ⟨HB⟩ l3 l16 l10 a0 z0
      rw [if_neg (fun h => h.elim a0 z0), if_neg l10]
      by_cases o16 : op = 16
      · rw [if_pos o16]
        by_cases hs : u.f2.size + v.f2.size ≤ 2048
        · rw [if_pos hs]; exact refBinary.cat op u v w kA ⟨HA⟩ kB ⟨HB⟩ l3 l16 l10 a0 z0 o16 hz hs
        · rw [if_neg hs]
          by_cases ha : 2048 < u.f2.size
          · exact refBinary.catA op u v w kA ⟨HA⟩ kB ⟨HB⟩ l3 l16 l10 a0 z0 o16 hz ha
          · exact refBinary.catB op u v w kA ⟨HA⟩ kB ⟨HB⟩ l3 l16 l10 a0 z0 o16 hz ha hs
      rw [if_neg o16]
      by_cases hd : 14 ≤ op ∧ v.f1 = 0
      · have hs : sumP op u.f1 v.f1 = .error 41 := by
          unfold sumP
          rw [if_neg (by omega), if_neg (by omega), if_neg (by omega), if_pos hd.2]
        rw [hs]
        exact refBinary.zero op u v w kA ⟨HA⟩ kB ⟨HB⟩ l3 l16 l10 a0 z0 o16 hd.1 hd.2
      · have hnz : 14 ≤ op → ¬ v.f1 = 0 := fun h q => hd ⟨h, q⟩
        rw [sumP_R hu hv hnz (by omega) (by omega)]
        obtain ⟨k, hk⟩ := (sumR_ev hu hv hnz (by omega)).get
        obtain ⟨⟨n, b⟩, hr⟩ : ∃ p, sumR op u.f1 v.f1 = p := ⟨_, rfl⟩
        rw [hr] at hk ⊢
        cases b with
        | true =>
          by_cases l14 : 14 ≤ op
          · exact refBinary.num1 op u v w kA ⟨HA⟩ kB ⟨HB⟩ l3 l16 l10 a0 z0 o16 l14 (hnz l14) k n ⟨hk⟩
          · exact refBinary.num0 op u v w kA ⟨HA⟩ kB ⟨HB⟩ l3 l16 l10 a0 z0 o16 l14 k n ⟨hk⟩
        | false =>
          by_cases l14 : 14 ≤ op
          · exact refBinary.over1 op u v w kA ⟨HA⟩ kB ⟨HB⟩ l3 l16 l10 a0 z0 o16 l14 (hnz l14) k n ⟨hk⟩
          · exact refBinary.over0 op u v w kA ⟨HA⟩ kB ⟨HB⟩ l3 l16 l10 a0 z0 o16 l14 k n ⟨hk⟩
    · rw [if_pos (fun h => l16 h.2)]
      exact refBinary.high op u v w l3 l16
  · rw [if_pos (fun h => l3 h.1)]
    exact refBinary.low op u v w l3
end Go.Proofs.Ytfbeklbjlkgbnaa.P
namespace Go.Proofs.Ytfbeklbjlkgbnaa.Pure
open Go.RowKit Go.Proofs.Ytfbeklbjlkgbnaa.P Go.Proofs.YtfbeklbjlkgbnaaW.PrintWords Go.Proofs.YtfbeklbjlkgbnaaW.PrintLast Go.Proofs.YtfbeklbjlkgbnaaW.PrintMore
theorem refUnary_ev (op : Int) (v : S25) (hI : In64 v.f1) (hn : v.f0 = 0 → v = zeroV) : Ev (fun k => quarryref02_Unary.f k op v.f0 v.f1 v.f2) ((outE (una op v)).1.f0, (outE (una op v)).1.f1, (outE (una op v)).1.f2, (outE (una op v)).2) := by
  have h2 : ∀ x, Ev (fun k => quarryref02_Unary.j2 k op x v.f0 v.f1 v.f2) (if x = true then (0, 0, V0, 35) else if op = 2 then ((truthV (v.f1 == 0)).f0, (truthV (v.f1 == 0)).f1, (truthV (v.f1 == 0)).f2, 0) else if v.f1 = -9223372036854775808 then (0, 0, V0, 40) else (2, wrap64 (-v.f1), V0, 0)) := by
    intro x
    refine Ev.succ ?_
    simp only [quarryref02_Unary.j2, truthR_f, Option.bind_some]
    cases x
    · simp only [Bool.false_eq_true, if_false]
      by_cases h : op = 2
      · simp only [if_pos h]; exact Ev.pure _
      · by_cases hm : v.f1 = -9223372036854775808
        · simp only [if_neg h, if_pos hm]; exact Ev.pure _
        · simp only [if_neg h, if_neg hm]; exact Ev.pure _
    · exact Ev.pure _
  have h1 : ∀ x, Ev (fun k => quarryref02_Unary.j1 k op x v.f0 v.f1 v.f2) (if (x || (op == 2 && v.f0 != 1)) = true then (0, 0, V0, 35) else if op = 2 then ((truthV (v.f1 == 0)).f0, (truthV (v.f1 == 0)).f1, (truthV (v.f1 == 0)).f2, 0) else if v.f1 = -9223372036854775808 then (0, 0, V0, 40) else (2, wrap64 (-v.f1), V0, 0)) := by
    intro x
    refine Ev.succ ?_
    simp only [quarryref02_Unary.j1]
    cases x
    · simp only [Bool.false_eq_true, if_false, Bool.false_or]
      by_cases h : op = 2
      · have := h2 (v.f0 != 1)
        simpa [h] using this
      · have := h2 false
        simpa [h] using this
    · exact h2 true
  have h0 : ∀ x, Ev (fun k => quarryref02_Unary.j0 k op x v.f0 v.f1 v.f2) (if x = true then (0, 0, V0, 5) else if v.f0 = 0 then (0, 0, V0, 0) else if ((op == 1 && v.f0 != 2) || (op == 2 && v.f0 != 1)) = true then (0, 0, V0, 35) else if op = 2 then ((truthV (v.f1 == 0)).f0, (truthV (v.f1 == 0)).f1, (truthV (v.f1 == 0)).f2, 0) else if v.f1 = -9223372036854775808 then (0, 0, V0, 40) else (2, wrap64 (-v.f1), V0, 0)) := by
    intro x
    refine Ev.succ ?_
    simp only [quarryref02_Unary.j0]
    cases x
    · simp only [Bool.false_eq_true, if_false]
      by_cases hn : v.f0 = 0
      · simp only [if_pos hn]; exact Ev.pure _
      · simp only [if_neg hn]
        by_cases h : op = 1
        · have := h1 (v.f0 != 2)
          simp only [if_pos h]
          simpa [h] using this
        · have := h1 false
          simp only [if_neg h]
          simpa [h] using this
    · exact Ev.pure _
  unfold quarryref02_Unary.f
  by_cases e1 : op = 1
  · simp only [if_pos e1]
    have := h0 false
    unfold una
    by_cases hk : v.f0 = 0
    · have hv := hn hk
      rw [hv] at this ⊢
      simpa [e1, outE, zeroV] using this
    · by_cases hk2 : v.f0 = 2
      · by_cases hm : v.f1 = -9223372036854775808
        · simpa [e1, hk, hk2, hm, outE] using this
        · have hw : wrap64 (-v.f1) = -v.f1 := by unfold In64 at hI; unfold wrap64; omega
          simpa [e1, hk, hk2, hm, hw, outE] using this
      · simpa [e1, hk, hk2, outE] using this
  · simp only [if_neg e1]
    by_cases e2 : op = 2
    · have := h0 false
      unfold una
      by_cases hk : v.f0 = 0
      · have hv := hn hk
        rw [hv] at this ⊢
        simpa [e1, e2, outE, zeroV] using this
      · by_cases hk1 : v.f0 = 1
        · have hd : (v.f1 == 0) = decide (v.f1 = 0) := rfl
          simpa [e1, e2, hk, hk1, outE, hd] using this
        · simpa [e1, e2, hk, hk1, outE] using this
    · have := h0 true
      have hb : (op != 2) = true := bne_iff_ne.mpr e2
      unfold una
      simp only [hb]
      simpa [e1, e2, outE] using this
end Go.Proofs.Ytfbeklbjlkgbnaa.Pure
namespace Go.Proofs.Ytfbeklbjlkgbnaa.P
open Go.RowKit Go.Proofs.Ytfbeklbjlkgbnaa.Pure Go.Proofs.YtfbeklbjlkgbnaaW.PrintWords Go.Proofs.YtfbeklbjlkgbnaaW.PrintLast Go.Proofs.YtfbeklbjlkgbnaaW.PrintMore
theorem refUnary.calls (op : Int) (v : S25) (hI : In64 v.f1) (hn : v.f0 = 0 → v = zeroV) (w : World) :
    Calls Try.prog 20 #[.int .i64 op, .agg #[.int .i64 v.f0, .int .i64 v.f1, .string v.f2]] w fun e w' => e = .returned (.tuple #[encV (outE (una op v)).1, .int .i64 (outE (una op v)).2]) ∧ Below w.heap.size w w' := by
  obtain ⟨k, hk⟩ := (refUnary_ev op v hI hn).get
  exact quarryref02_Unary.calls k _ _ _ _ _ _ _ _ w hk
end Go.Proofs.Ytfbeklbjlkgbnaa.P
end
section
namespace Go.Proofs.Ytfbeklbjlkgbnaa.P
open Go.RowKit Go.Proofs.Ytfbeklbjlkgbnaa.Pure Go.Proofs.YtfbeklbjlkgbnaaW.PrintWords Go.Proofs.YtfbeklbjlkgbnaaW.PrintLast Go.Proofs.YtfbeklbjlkgbnaaW.PrintMore
set_option linter.unusedVariables false
set_option linter.unusedSimpArgs false
def outT (r : Except Int S25) : Int × Int × ByteArray × Int := ((outE r).1.f0, (outE r).1.f1, (outE r).1.f2, (outE r).2)
def fits (u v : S25) : Prop := In64 u.f1 ∧ In64 v.f1 ∧ u.f2.size ≤ 140737488351232 ∧ v.f2.size ≤ 140737488351232
instance (u v : S25) : Decidable (fits u v) := by unfold fits; infer_instance
end Go.Proofs.Ytfbeklbjlkgbnaa.P
end
section
namespace Go.Proofs.Ytfbeklbjlkgbnaa.P
open Go.RowKit Go.Proofs.Ytfbeklbjlkgbnaa.Pure Go.Proofs.YtfbeklbjlkgbnaaW.PrintWords Go.Proofs.YtfbeklbjlkgbnaaW.PrintLast Go.Proofs.YtfbeklbjlkgbnaaW.PrintMore
set_option linter.unusedVariables false
set_option linter.unusedSimpArgs false
theorem calc_Call.print (a0 : Int) (A1 : Option Addr) (c1 : Nat) (l1 : List (S25)) (r1 : Int) (r2 : Int) (r3 : ByteArray) (r4 : Int) (w : World) (hr1 : Kd.C k25 w A1 l1.length l1) (hc1 : l1.length ≤ c1) (h : calc_Call.f a0 l1 = some (r1, r2, r3, r4)) :
    Calls Try.prog 12 #[.int .i64 a0, .slice A1 l1.length c1] w fun e w' => e = .returned (.tuple #[.agg #[.int .i64 r1, .int .i64 r2, .string r3], .int .i64 r4]) ∧ Below w.heap.size w w' := by
  unfold calc_Call.f at h
  by_cases hf : fitsB l1 = true
  · rw [if_pos hf, Option.some.injEq] at h
    have := calc_Call.plain a0 l1 A1 c1 w hr1 hc1 (fits_of hf)
    obtain ⟨rfl, rfl, rfl, rfl⟩ : (outE (call a0 l1)).1.f0 = r1 ∧ (outE (call a0 l1)).1.f1 = r2 ∧ (outE (call a0 l1)).1.f2 = r3 ∧ (outE (call a0 l1)).2 = r4 := by simpa using h
    exact this
  · rw [if_neg hf] at h; cases h
end Go.Proofs.Ytfbeklbjlkgbnaa.P
end
