/- Laid by a program of this session out of its texts for the law AggOrder, part 4. -/
import Derived.WalkSpells
import Derived.LoopTactic
import Derived.Test.YtgjfciohmgpohaaZAggOrder3
section
namespace Go.Proofs.Ytgjfciohmgpohaa.P
open Go.RowKit Go.Proofs.Ytgjfciohmgpohaa.Pure Go.Proofs.YtgjfciohmgpohaaW.PrintWords Go.Proofs.YtgjfciohmgpohaaW.PrintLast Go.Proofs.YtgjfciohmgpohaaW.PrintMore
attribute [local go_sem] max2_int min2_int max_two min_two max_three min_three max_four min_four
set_option linter.unusedVariables false
set_option linter.unusedSimpArgs false
theorem at_exit {T : Exit → Act → World → Prop} {e : Exit} {a : Act} {W : World} (R : World → Prop) (h : R W) (k : ∀ W', R W' → T e a W') : T e a W := k W h
def BA (g n : Nat) (cs : Array Value) (t : TypeId) (v : S32) (w0 w : World) : Prop :=
  w.heap[g]? = some (.cells cs t (0, 0)) ∧ w.heap[n]? = some (.cells #[.int .i64 v.f0, .int .i64 v.f1, .string v.f2] 32 (0, 0)) ∧ Below w0.heap.size w0 w
section
variable {g n : Nat} {cs : Array Value} {t : TypeId} {v : S32} {w0 w w' : World}
theorem BA.start (hg : w0.heap[g]? = some (.cells cs t (0, 0))) : BA g w0.heap.size cs t v w0 (w0.alloc (.cells #[.int .i64 v.f0, .int .i64 v.f1, .string v.f2] 32)) :=
  ⟨blk_alloc hg _, Deep.blk_alloc_new w0 _, below_alloc (Below.refl _ _) _⟩
theorem BA.below (h : BA g n cs t v w0 w) (hb : Below w.heap.size w w') : BA g n cs t v w0 w' := ⟨blk_below h.1 hb, blk_below h.2.1 hb, below_step h.2.2 hb⟩
theorem BA.drew (h : BA g n cs t v w0 w) : BA g n cs t v w0 w.drew := h.below (below_drew1 (Below.refl _ _))
theorem BA.drewN (h : BA g n cs t v w0 w) (m : Nat) : BA g n cs t v w0 (w.drewN m) := h.below (pw_below_drewN (Below.refl _ _) m)
theorem BA.keep (h : BA g n cs t v w0 w) : KeepBut w0 w g none := KeepBut.of_below h.2.2 _ _
theorem BA.v0 (h : BA g n cs t v w0 w) : w.cell? ⟨n, 0, none⟩ = some (.int .i64 v.f0) := (blk_cell h.2.1 0).trans rfl
theorem BA.v1 (h : BA g n cs t v w0 w) : w.cell? ⟨n, 1, none⟩ = some (.int .i64 v.f1) := (blk_cell h.2.1 1).trans rfl
theorem BA.v2 (h : BA g n cs t v w0 w) : w.cell? ⟨n, 2, none⟩ = some (.string v.f2) := (blk_cell h.2.1 2).trans rfl
end
set_option maxHeartbeats 2000000 in
set_option maxRecDepth 100000 in
theorem best_add.null (g : Nat) (u : S32) (sg : Int) (v : S32) (w : World) (hg : w.heap[g]? = some (.cells #[.int .i64 u.f0, .int .i64 u.f1, .string u.f2, .int .i64 sg] 55 (0, 0))) (B : Nat) (hB : B ≤ g) (h0 : u.f0 = 0) :
    Calls Try.prog 76 #[.pointer (some ⟨g, 0, none⟩), .agg #[.int .i64 v.f0, .int .i64 v.f1, .string v.f2]] w fun e w' =>
      e = .returned (.int .i64 0) ∧ w'.heap[g]? = some (.cells #[.int .i64 v.f0, .int .i64 v.f1, .string v.f2, .int .i64 sg] 55 (0, 0)) ∧ Below B w w' ∧ KeepBut w w' g none := by
  have hu := Try.underlying32
  have HS := Aside0.mk (BA.start (v := v) hg)
  have HL := Aside0.mk (Nat.le_trans hB (Nat.le_of_lt (blk_lt hg)))
  have HB := Aside0.mk hB
  have HN := Aside0.mk (Nat.ne_of_lt (blk_lt hg))
  have q0 : (u.f0 == 0) = true := beq_iff_eq.mpr h0
  clear hg hB h0
  go_enter Try.func76, Try.ntmps76
  go_wp2_with fail
  refine at_world (fun w' => BA g w.heap.size #[.int .i64 u.f0, .int .i64 u.f1, .string u.f2, .int .i64 sg] 55 v w w') HS.out (fun w1 hI => ?_)
  have HI := Aside0.mk hI
  clear hI
  refine start_ (n := 19) (S := fun w' => w'.cell? ⟨g, 0, none⟩ = some (.int .i64 u.f0) ∧ w'.cell? ⟨g, 1, none⟩ = some (.int .i64 u.f1) ∧ w'.cell? ⟨g, 2, none⟩ = some (.string u.f2) ∧ w'.cell? ⟨g, 3, none⟩ = some (.int .i64 sg) ∧ w'.cell? ⟨w.heap.size, 0, none⟩ = some (.int .i64 v.f0) ∧ w'.cell? ⟨w.heap.size, 1, none⟩ = some (.int .i64 v.f1) ∧ w'.cell? ⟨w.heap.size, 2, none⟩ = some (.string v.f2)) (ds := []) #[false, false, false, false, false, false, false, false, false, false, false, false, false, false, false, false, false, false, false] (by kernel_rfl) rfl rfl ⟨(blk_cell (HI.out.drew).1 0).trans rfl, (blk_cell (HI.out.drew).1 1).trans rfl, (blk_cell (HI.out.drew).1 2).trans rfl, (blk_cell (HI.out.drew).1 3).trans rfl, (HI.out.drew).v0, (HI.out.drew).v1, (HI.out.drew).v2⟩ (fun hHeld => ?_)
  refine pure_ (i := 0) (N := some 5) (v := ?_) (a' := ?_) #[true, false, false, false, false, false, false, false, false, false, false, false, false, false, false, false, false, false, false] rfl rfl (by kernel_rfl) (fun _ _ _ h => h) (Or.inl ⟨by rfl, ?_⟩) ?_ ?_
  rotate_left
  · intro w'
    go_simp
    with_reducible rfl
  rotate_left
  · simp only [Act.put, List.setIfInBounds_toArray, List.set_cons_zero, List.set_cons_succ, i64_w, i32_w]
    rfl
  refine pure_ (i := 1) (N := some 6) (v := ?_) (a' := ?_) #[true, true, false, false, false, false, false, false, false, false, false, false, false, false, false, false, false, false, false] rfl rfl (by kernel_rfl) (fun _ _ _ h => h) (Or.inl ⟨by rfl, ?_⟩) ?_ ?_
  rotate_left
  · intro w'
    go_simp
    with_reducible rfl
  rotate_left
  · simp only [Act.put, List.setIfInBounds_toArray, List.set_cons_zero, List.set_cons_succ, i64_w, i32_w]
    rfl
  refine pure_ (i := 2) (N := some 7) (v := ?_) (a' := ?_) #[true, true, true, false, false, false, false, false, false, false, false, false, false, false, false, false, false, false, false] rfl rfl (by kernel_rfl) (fun _ _ _ h => h) (Or.inl ⟨by rfl, ?_⟩) ?_ ?_
  rotate_left
  · intro w'
    go_simp
    with_reducible rfl
  rotate_left
  · simp only [Act.put, List.setIfInBounds_toArray, List.set_cons_zero, List.set_cons_succ, i64_w, i32_w]
    rfl
  refine pure_ (i := 3) (N := some 8) (v := ?_) (a' := ?_) #[true, true, true, true, false, false, false, false, false, false, false, false, false, false, false, false, false, false, false] rfl rfl (by kernel_rfl) (fun _ _ _ h => h) (Or.inl ⟨by rfl, ?_⟩) ?_ ?_
  rotate_left
  · intro w'
    go_simp
    with_reducible rfl
  rotate_left
  · simp only [Act.put, List.setIfInBounds_toArray, List.set_cons_zero, List.set_cons_succ, i64_w, i32_w]
    rfl
  refine take_ (i := 4) (N := some 9) (v := ?_) (a' := ?_) #[true, true, true, true, true, false, false, false, false, false, false, false, false, false, false, false, false, false, false] rfl rfl (by kernel_rfl) (fun _ _ _ h => h) (Or.inl ⟨by rfl, ?_⟩) hHeld ?_ ?_
  rotate_left
  · rintro w' ⟨s0, s1, s2, s3, s4, s5, s6⟩
    go_simp
    with_reducible rfl
  rotate_left
  · simp only [Act.put, List.setIfInBounds_toArray, List.set_cons_zero, List.set_cons_succ, i64_w, i32_w]
    rfl
  refine pure_ (i := 5) (N := some 10) (v := ?_) (a' := ?_) #[true, true, true, true, true, true, false, false, false, false, false, false, false, false, false, false, false, false, false] rfl rfl (by kernel_rfl) (fun _ _ _ h => h) (Or.inl ⟨by rfl, ?_⟩) ?_ ?_
  rotate_left
  · intro w'
    go_simp
    with_reducible rfl
  rotate_left
  · simp only [Act.put, List.setIfInBounds_toArray, List.set_cons_zero, List.set_cons_succ, i64_w, i32_w]
    rfl
  refine pure_ (i := 6) (N := some 11) (v := ?_) (a' := ?_) #[true, true, true, true, true, true, true, false, false, false, false, false, false, false, false, false, false, false, false] rfl rfl (by kernel_rfl) (fun _ _ _ h => h) (Or.inl ⟨by rfl, ?_⟩) ?_ ?_
  rotate_left
  · intro w'
    go_simp
    with_reducible rfl
  rotate_left
  · simp only [Act.put, List.setIfInBounds_toArray, List.set_cons_zero, List.set_cons_succ, i64_w, i32_w]
    rfl
  refine pure_ (i := 7) (N := some 12) (v := undef) (a' := ?_) #[true, true, true, true, true, true, true, true, false, false, false, false, false, false, false, false, false, false, false] rfl rfl (by kernel_rfl) (fun _ _ _ h => h) (Or.inr ⟨by rfl, rfl⟩) ?_ ?_
  rotate_left
  · simp only [Act.put, List.setIfInBounds_toArray, List.set_cons_zero, List.set_cons_succ, i64_w, i32_w]
    rfl
  refine pure_ (i := 8) (N := some 13) (v := undef) (a' := ?_) #[true, true, true, true, true, true, true, true, true, false, false, false, false, false, false, false, false, false, false] rfl rfl (by kernel_rfl) (fun _ _ _ h => h) (Or.inr ⟨by rfl, rfl⟩) ?_ ?_
  rotate_left
  · simp only [Act.put, List.setIfInBounds_toArray, List.set_cons_zero, List.set_cons_succ, i64_w, i32_w]
    rfl
  refine pure_ (i := 9) (N := some 14) (v := undef) (a' := ?_) #[true, true, true, true, true, true, true, true, true, true, false, false, false, false, false, false, false, false, false] rfl rfl (by kernel_rfl) (fun _ _ _ h => h) (Or.inr ⟨by rfl, rfl⟩) ?_ ?_
  rotate_left
  · simp only [Act.put, List.setIfInBounds_toArray, List.set_cons_zero, List.set_cons_succ, i64_w, i32_w]
    rfl
  refine pure_ (i := 10) (N := some 15) (v := undef) (a' := ?_) #[true, true, true, true, true, true, true, true, true, true, true, false, false, false, false, false, false, false, false] rfl rfl (by kernel_rfl) (fun _ _ _ h => h) (Or.inr ⟨by rfl, rfl⟩) ?_ ?_
  rotate_left
  · simp only [Act.put, List.setIfInBounds_toArray, List.set_cons_zero, List.set_cons_succ, i64_w, i32_w]
    rfl
  refine pure_ (i := 11) (N := some 16) (v := undef) (a' := ?_) #[true, true, true, true, true, true, true, true, true, true, true, true, false, false, false, false, false, false, false] rfl rfl (by kernel_rfl) (fun _ _ _ h => h) (Or.inr ⟨by rfl, rfl⟩) ?_ ?_
  rotate_left
  · simp only [Act.put, List.setIfInBounds_toArray, List.set_cons_zero, List.set_cons_succ, i64_w, i32_w]
    rfl
  refine pure_ (i := 12) (N := some 17) (v := undef) (a' := ?_) #[true, true, true, true, true, true, true, true, true, true, true, true, true, false, false, false, false, false, false] rfl rfl (by kernel_rfl) (fun _ _ _ h => h) (Or.inr ⟨by rfl, rfl⟩) ?_ ?_
  rotate_left
  · simp only [Act.put, List.setIfInBounds_toArray, List.set_cons_zero, List.set_cons_succ, i64_w, i32_w]
    rfl
  refine pure_ (i := 13) (N := some 18) (v := undef) (a' := ?_) #[true, true, true, true, true, true, true, true, true, true, true, true, true, true, false, false, false, false, false] rfl rfl (by kernel_rfl) (fun _ _ _ h => h) (Or.inr ⟨by rfl, rfl⟩) ?_ ?_
  rotate_left
  · simp only [Act.put, List.setIfInBounds_toArray, List.set_cons_zero, List.set_cons_succ, i64_w, i32_w]
    rfl
  refine pure_ (i := 14) (N := some 19) (v := undef) (a' := ?_) #[true, true, true, true, true, true, true, true, true, true, true, true, true, true, true, false, false, false, false] rfl rfl (by kernel_rfl) (fun _ _ _ h => h) (Or.inr ⟨by rfl, rfl⟩) ?_ ?_
  rotate_left
  · simp only [Act.put, List.setIfInBounds_toArray, List.set_cons_zero, List.set_cons_succ, i64_w, i32_w]
    rfl
  refine pure_ (i := 15) (N := some 20) (v := undef) (a' := ?_) #[true, true, true, true, true, true, true, true, true, true, true, true, true, true, true, true, false, false, false] rfl rfl (by kernel_rfl) (fun _ _ _ h => h) (Or.inr ⟨by rfl, rfl⟩) ?_ ?_
  rotate_left
  · simp only [Act.put, List.setIfInBounds_toArray, List.set_cons_zero, List.set_cons_succ, i64_w, i32_w]
    rfl
  refine pure_ (i := 16) (N := some 21) (v := undef) (a' := ?_) #[true, true, true, true, true, true, true, true, true, true, true, true, true, true, true, true, true, false, false] rfl rfl (by kernel_rfl) (fun _ _ _ h => h) (Or.inr ⟨by rfl, rfl⟩) ?_ ?_
  rotate_left
  · simp only [Act.put, List.setIfInBounds_toArray, List.set_cons_zero, List.set_cons_succ, i64_w, i32_w]
    rfl
  refine pure_ (i := 17) (N := some 22) (v := undef) (a' := ?_) #[true, true, true, true, true, true, true, true, true, true, true, true, true, true, true, true, true, true, false] rfl rfl (by kernel_rfl) (fun _ _ _ h => h) (Or.inr ⟨by rfl, rfl⟩) ?_ ?_
  rotate_left
  · simp only [Act.put, List.setIfInBounds_toArray, List.set_cons_zero, List.set_cons_succ, i64_w, i32_w]
    rfl
  refine pure_ (i := 18) (N := some 23) (v := ?_) (a' := ?_) #[true, true, true, true, true, true, true, true, true, true, true, true, true, true, true, true, true, true, true] rfl rfl (by kernel_rfl) (fun _ _ _ h => h) (Or.inl ⟨by rfl, ?_⟩) ?_ ?_
  rotate_left
  · intro w'
    go_simp
    with_reducible rfl
  rotate_left
  · simp only [Act.put, List.setIfInBounds_toArray, List.set_cons_zero, List.set_cons_succ, i64_w, i32_w]
    rfl
  refine done_ (by kernel_rfl) ?_
  refine at_exit (fun w' => BA g w.heap.size #[.int .i64 u.f0, .int .i64 u.f1, .string u.f2, .int .i64 sg] 55 v w w') HI.out.drew (fun w3 hI => ?_)
  clear HI
  have HI := Aside0.mk hI
  clear hI
  have c0 : World.cell? w3 ⟨g, 0, none⟩ = some (.int .i64 u.f0) := (blk_cell HI.out.1 0).trans rfl
  have c1 : World.cell? w3 ⟨g, 1, none⟩ = some (.int .i64 u.f1) := (blk_cell HI.out.1 1).trans rfl
  have c2 : World.cell? w3 ⟨g, 2, none⟩ = some (.string u.f2) := (blk_cell HI.out.1 2).trans rfl
  have f0 := blk_frozen HI.out.1 0
  have f1 := blk_frozen HI.out.1 1
  have f2 := blk_frozen HI.out.1 2
  have d0 : World.cell? w3 _ = _ := HI.out.v0
  have d1 : World.cell? w3 _ = _ := HI.out.v1
  have d2 : World.cell? w3 _ = _ := HI.out.v2
  go_wp2_with fail
  go_ret
  exact ⟨rfl, blk_put (blk_put (blk_put HI.out.1 0 (.int .i64 v.f0) rfl) 1 (.int .i64 v.f1) rfl) 2 (.string v.f2) rfl, below_set3 (HI.out.2.2.mono HL.out) HB.out _ _ _ _ _ _, keep_set (keep_set (keep_set HI.out.keep 0 _) 1 _) 2 _⟩
set_option maxHeartbeats 2000000 in
set_option maxRecDepth 100000 in
theorem best_add.take (g : Nat) (u : S32) (sg : Int) (v : S32) (w : World) (hg : w.heap[g]? = some (.cells #[.int .i64 u.f0, .int .i64 u.f1, .string u.f2, .int .i64 sg] 55 (0, 0))) (B : Nat) (hB : B ≤ g) (h0 : ¬ u.f0 = 0) (h1 : cmpV v u = sg) :
    Calls Try.prog 76 #[.pointer (some ⟨g, 0, none⟩), .agg #[.int .i64 v.f0, .int .i64 v.f1, .string v.f2]] w fun e w' =>
      e = .returned (.int .i64 0) ∧ w'.heap[g]? = some (.cells #[.int .i64 v.f0, .int .i64 v.f1, .string v.f2, .int .i64 sg] 55 (0, 0)) ∧ Below B w w' ∧ KeepBut w w' g none := by
  have hu := Try.underlying32
  have HS := Aside0.mk (BA.start (v := v) hg)
  have HL := Aside0.mk (Nat.le_trans hB (Nat.le_of_lt (blk_lt hg)))
  have HB := Aside0.mk hB
  have HN := Aside0.mk (Nat.ne_of_lt (blk_lt hg))
  have q0 : (u.f0 == 0) = false := beq_eq_false_iff_ne.mpr h0
  have q1 : (cmpV v u == sg) = true := beq_iff_eq.mpr h1
  clear hg hB h0 h1
  go_enter Try.func76, Try.ntmps76
  go_wp2_with fail
  refine at_world (fun w' => BA g w.heap.size #[.int .i64 u.f0, .int .i64 u.f1, .string u.f2, .int .i64 sg] 55 v w w') HS.out (fun w1 hI => ?_)
  have HI := Aside0.mk hI
  clear hI
  refine start_ (n := 19) (S := fun w' => w'.cell? ⟨g, 0, none⟩ = some (.int .i64 u.f0) ∧ w'.cell? ⟨g, 1, none⟩ = some (.int .i64 u.f1) ∧ w'.cell? ⟨g, 2, none⟩ = some (.string u.f2) ∧ w'.cell? ⟨g, 3, none⟩ = some (.int .i64 sg) ∧ w'.cell? ⟨w.heap.size, 0, none⟩ = some (.int .i64 v.f0) ∧ w'.cell? ⟨w.heap.size, 1, none⟩ = some (.int .i64 v.f1) ∧ w'.cell? ⟨w.heap.size, 2, none⟩ = some (.string v.f2)) (ds := []) #[false, false, false, false, false, false, false, false, false, false, false, false, false, false, false, false, false, false, false] (by kernel_rfl) rfl rfl ⟨(blk_cell (HI.out.drew).1 0).trans rfl, (blk_cell (HI.out.drew).1 1).trans rfl, (blk_cell (HI.out.drew).1 2).trans rfl, (blk_cell (HI.out.drew).1 3).trans rfl, (HI.out.drew).v0, (HI.out.drew).v1, (HI.out.drew).v2⟩ (fun hHeld => ?_)
  refine pure_ (i := 0) (N := some 5) (v := ?_) (a' := ?_) #[true, false, false, false, false, false, false, false, false, false, false, false, false, false, false, false, false, false, false] rfl rfl (by kernel_rfl) (fun _ _ _ h => h) (Or.inl ⟨by rfl, ?_⟩) ?_ ?_
  rotate_left
  · intro w'
    go_simp
    with_reducible rfl
  rotate_left
  · simp only [Act.put, List.setIfInBounds_toArray, List.set_cons_zero, List.set_cons_succ, i64_w, i32_w]
    rfl
  refine pure_ (i := 1) (N := some 6) (v := ?_) (a' := ?_) #[true, true, false, false, false, false, false, false, false, false, false, false, false, false, false, false, false, false, false] rfl rfl (by kernel_rfl) (fun _ _ _ h => h) (Or.inl ⟨by rfl, ?_⟩) ?_ ?_
  rotate_left
  · intro w'
    go_simp
    with_reducible rfl
  rotate_left
  · simp only [Act.put, List.setIfInBounds_toArray, List.set_cons_zero, List.set_cons_succ, i64_w, i32_w]
    rfl
  refine pure_ (i := 2) (N := some 7) (v := ?_) (a' := ?_) #[true, true, true, false, false, false, false, false, false, false, false, false, false, false, false, false, false, false, false] rfl rfl (by kernel_rfl) (fun _ _ _ h => h) (Or.inl ⟨by rfl, ?_⟩) ?_ ?_
  rotate_left
  · intro w'
    go_simp
    with_reducible rfl
  rotate_left
  · simp only [Act.put, List.setIfInBounds_toArray, List.set_cons_zero, List.set_cons_succ, i64_w, i32_w]
    rfl
  refine pure_ (i := 3) (N := some 8) (v := ?_) (a' := ?_) #[true, true, true, true, false, false, false, false, false, false, false, false, false, false, false, false, false, false, false] rfl rfl (by kernel_rfl) (fun _ _ _ h => h) (Or.inl ⟨by rfl, ?_⟩) ?_ ?_
  rotate_left
  · intro w'
    go_simp
    with_reducible rfl
  rotate_left
  · simp only [Act.put, List.setIfInBounds_toArray, List.set_cons_zero, List.set_cons_succ, i64_w, i32_w]
    rfl
  refine take_ (i := 4) (N := some 9) (v := ?_) (a' := ?_) #[true, true, true, true, true, false, false, false, false, false, false, false, false, false, false, false, false, false, false] rfl rfl (by kernel_rfl) (fun _ _ _ h => h) (Or.inl ⟨by rfl, ?_⟩) hHeld ?_ ?_
  rotate_left
  · rintro w' ⟨s0, s1, s2, s3, s4, s5, s6⟩
    go_simp
    with_reducible rfl
  rotate_left
  · simp only [Act.put, List.setIfInBounds_toArray, List.set_cons_zero, List.set_cons_succ, i64_w, i32_w]
    rfl
  refine pure_ (i := 5) (N := some 10) (v := ?_) (a' := ?_) #[true, true, true, true, true, true, false, false, false, false, false, false, false, false, false, false, false, false, false] rfl rfl (by kernel_rfl) (fun _ _ _ h => h) (Or.inl ⟨by rfl, ?_⟩) ?_ ?_
  rotate_left
  · intro w'
    go_simp
    with_reducible rfl
  rotate_left
  · simp only [Act.put, List.setIfInBounds_toArray, List.set_cons_zero, List.set_cons_succ, i64_w, i32_w]
    rfl
  refine pure_ (i := 6) (N := some 11) (v := ?_) (a' := ?_) #[true, true, true, true, true, true, true, false, false, false, false, false, false, false, false, false, false, false, false] rfl rfl (by kernel_rfl) (fun _ _ _ h => h) (Or.inl ⟨by rfl, ?_⟩) ?_ ?_
  rotate_left
  · intro w'
    go_simp
    with_reducible rfl
  rotate_left
  · simp only [Act.put, List.setIfInBounds_toArray, List.set_cons_zero, List.set_cons_succ, i64_w, i32_w]
    rfl
  refine pure_ (i := 8) (N := some 13) (v := ?_) (a' := ?_) #[true, true, true, true, true, true, true, false, true, false, false, false, false, false, false, false, false, false, false] rfl rfl (by kernel_rfl) (fun _ _ _ h => h) (Or.inl ⟨by rfl, ?_⟩) ?_ ?_
  rotate_left
  · intro w'
    go_simp
    with_reducible rfl
  rotate_left
  · simp only [Act.put, List.setIfInBounds_toArray, List.set_cons_zero, List.set_cons_succ, i64_w, i32_w]
    rfl
  refine pure_ (i := 9) (N := some 14) (v := ?_) (a' := ?_) #[true, true, true, true, true, true, true, false, true, true, false, false, false, false, false, false, false, false, false] rfl rfl (by kernel_rfl) (fun _ _ _ h => h) (Or.inl ⟨by rfl, ?_⟩) ?_ ?_
  rotate_left
  · intro w'
    go_simp
    with_reducible rfl
  rotate_left
  · simp only [Act.put, List.setIfInBounds_toArray, List.set_cons_zero, List.set_cons_succ, i64_w, i32_w]
    rfl
  refine pure_ (i := 10) (N := some 15) (v := ?_) (a' := ?_) #[true, true, true, true, true, true, true, false, true, true, true, false, false, false, false, false, false, false, false] rfl rfl (by kernel_rfl) (fun _ _ _ h => h) (Or.inl ⟨by rfl, ?_⟩) ?_ ?_
  rotate_left
  · intro w'
    go_simp
    with_reducible rfl
  rotate_left
  · simp only [Act.put, List.setIfInBounds_toArray, List.set_cons_zero, List.set_cons_succ, i64_w, i32_w]
    rfl
  refine pure_ (i := 13) (N := some 18) (v := ?_) (a' := ?_) #[true, true, true, true, true, true, true, false, true, true, true, false, false, true, false, false, false, false, false] rfl rfl (by kernel_rfl) (fun _ _ _ h => h) (Or.inl ⟨by rfl, ?_⟩) ?_ ?_
  rotate_left
  · intro w'
    go_simp
    with_reducible rfl
  rotate_left
  · simp only [Act.put, List.setIfInBounds_toArray, List.set_cons_zero, List.set_cons_succ, i64_w, i32_w]
    rfl
  refine pure_ (i := 14) (N := some 19) (v := ?_) (a' := ?_) #[true, true, true, true, true, true, true, false, true, true, true, false, false, true, true, false, false, false, false] rfl rfl (by kernel_rfl) (fun _ _ _ h => h) (Or.inl ⟨by rfl, ?_⟩) ?_ ?_
  rotate_left
  · intro w'
    go_simp
    with_reducible rfl
  rotate_left
  · simp only [Act.put, List.setIfInBounds_toArray, List.set_cons_zero, List.set_cons_succ, i64_w, i32_w]
    rfl
  refine pure_ (i := 15) (N := some 20) (v := ?_) (a' := ?_) #[true, true, true, true, true, true, true, false, true, true, true, false, false, true, true, true, false, false, false] rfl rfl (by kernel_rfl) (fun _ _ _ h => h) (Or.inl ⟨by rfl, ?_⟩) ?_ ?_
  rotate_left
  · intro w'
    go_simp
    with_reducible rfl
  rotate_left
  · simp only [Act.put, List.setIfInBounds_toArray, List.set_cons_zero, List.set_cons_succ, i64_w, i32_w]
    rfl
  refine take_ (i := 7) (N := some 12) (v := ?_) (a' := ?_) #[true, true, true, true, true, true, true, true, true, true, true, false, false, true, true, true, false, false, false] rfl rfl (by kernel_rfl) (fun _ _ _ h => h) (Or.inl ⟨by rfl, ?_⟩) hHeld ?_ ?_
  rotate_left
  · rintro w' ⟨s0, s1, s2, s3, s4, s5, s6⟩
    go_simp
    with_reducible rfl
  rotate_left
  · simp only [Act.put, List.setIfInBounds_toArray, List.set_cons_zero, List.set_cons_succ, i64_w, i32_w]
    rfl
  refine take_ (i := 11) (N := some 16) (v := ?_) (a' := ?_) #[true, true, true, true, true, true, true, true, true, true, true, true, false, true, true, true, false, false, false] rfl rfl (by kernel_rfl) (fun _ _ _ h => h) (Or.inl ⟨by rfl, ?_⟩) hHeld ?_ ?_
  rotate_left
  · rintro w' ⟨s0, s1, s2, s3, s4, s5, s6⟩
    go_simp
    with_reducible rfl
  rotate_left
  · simp only [Act.put, List.setIfInBounds_toArray, List.set_cons_zero, List.set_cons_succ, i64_w, i32_w]
    rfl
  refine take_ (i := 16) (N := some 21) (v := ?_) (a' := ?_) #[true, true, true, true, true, true, true, true, true, true, true, true, false, true, true, true, true, false, false] rfl rfl (by kernel_rfl) (fun _ _ _ h => h) (Or.inl ⟨by rfl, ?_⟩) hHeld ?_ ?_
  rotate_left
  · rintro w' ⟨s0, s1, s2, s3, s4, s5, s6⟩
    go_simp
    with_reducible rfl
  rotate_left
  · simp only [Act.put, List.setIfInBounds_toArray, List.set_cons_zero, List.set_cons_succ, i64_w, i32_w]
    rfl
  refine one_ (i := 12) (N := some 17) #[true, true, true, true, true, true, true, true, true, true, true, true, true, true, true, true, true, false, false] rfl rfl (by kernel_rfl) (by decide) (fun K hK => ?_)
  refine goes_ Try.func60 (by kernel_rfl) rfl #[.agg #[.int .i64 v.f0, .int .i64 v.f1, .string v.f2], .agg #[.int .i64 u.f0, .int .i64 u.f1, .string u.f2]] (by rfl) rfl rfl (by simp only [List.map_toArray, List.map_cons, List.map_nil]; rfl) ?_
  with_reducible refine (compare_calls v u _).mono ?_
  rintro e w2 ⟨rfl, h2⟩
  refine ⟨_, rfl, ?_⟩
  have n0_ := Aside0.mk (BA.below HI.out.drew h2)
  clear h2 HI
  have HI := n0_
  clear n0_
  refine hK.out _ _ ⟨(blk_cell (HI.out).1 0).trans rfl, (blk_cell (HI.out).1 1).trans rfl, (blk_cell (HI.out).1 2).trans rfl, (blk_cell (HI.out).1 3).trans rfl, (HI.out).v0, (HI.out).v1, (HI.out).v2⟩ (fun hHeld => ?_)
  clear hK K
  refine norm_ (a' := ?_) ?_ ?_
  rotate_left
  · show Act.put _ (some 17) _ = _
    simp only [Act.put, List.setIfInBounds_toArray, List.set_cons_zero, List.set_cons_succ, i64_w, i32_w]
    rfl
  refine pure_ (i := 17) (N := some 22) (v := ?_) (a' := ?_) #[true, true, true, true, true, true, true, true, true, true, true, true, true, true, true, true, true, true, false] rfl rfl (by kernel_rfl) (fun _ _ _ h => h) (Or.inl ⟨by rfl, ?_⟩) ?_ ?_
  rotate_left
  · intro w'
    go_simp
    with_reducible rfl
  rotate_left
  · simp only [Act.put, List.setIfInBounds_toArray, List.set_cons_zero, List.set_cons_succ, i64_w, i32_w]
    rfl
  refine pure_ (i := 18) (N := some 23) (v := ?_) (a' := ?_) #[true, true, true, true, true, true, true, true, true, true, true, true, true, true, true, true, true, true, true] rfl rfl (by kernel_rfl) (fun _ _ _ h => h) (Or.inl ⟨by rfl, ?_⟩) ?_ ?_
  rotate_left
  · intro w'
    go_simp
    with_reducible rfl
  rotate_left
  · simp only [Act.put, List.setIfInBounds_toArray, List.set_cons_zero, List.set_cons_succ, i64_w, i32_w]
    rfl
  refine done_ (by kernel_rfl) ?_
  refine at_exit (fun w' => BA g w.heap.size #[.int .i64 u.f0, .int .i64 u.f1, .string u.f2, .int .i64 sg] 55 v w w') HI.out (fun w3 hI => ?_)
  clear HI
  have HI := Aside0.mk hI
  clear hI
  have c0 : World.cell? w3 ⟨g, 0, none⟩ = some (.int .i64 u.f0) := (blk_cell HI.out.1 0).trans rfl
  have c1 : World.cell? w3 ⟨g, 1, none⟩ = some (.int .i64 u.f1) := (blk_cell HI.out.1 1).trans rfl
  have c2 : World.cell? w3 ⟨g, 2, none⟩ = some (.string u.f2) := (blk_cell HI.out.1 2).trans rfl
  have f0 := blk_frozen HI.out.1 0
  have f1 := blk_frozen HI.out.1 1
  have f2 := blk_frozen HI.out.1 2
  have d0 : World.cell? w3 _ = _ := HI.out.v0
  have d1 : World.cell? w3 _ = _ := HI.out.v1
  have d2 : World.cell? w3 _ = _ := HI.out.v2
  go_wp2_with fail
  go_ret
  exact ⟨rfl, blk_put (blk_put (blk_put HI.out.1 0 (.int .i64 v.f0) rfl) 1 (.int .i64 v.f1) rfl) 2 (.string v.f2) rfl, below_set3 (HI.out.2.2.mono HL.out) HB.out _ _ _ _ _ _, keep_set (keep_set (keep_set HI.out.keep 0 _) 1 _) 2 _⟩
set_option maxHeartbeats 2000000 in
set_option maxRecDepth 100000 in
theorem best_add.stay (g : Nat) (u : S32) (sg : Int) (v : S32) (w : World) (hg : w.heap[g]? = some (.cells #[.int .i64 u.f0, .int .i64 u.f1, .string u.f2, .int .i64 sg] 55 (0, 0))) (B : Nat) (hB : B ≤ g) (h0 : ¬ u.f0 = 0) (h1 : ¬ cmpV v u = sg) :
    Calls Try.prog 76 #[.pointer (some ⟨g, 0, none⟩), .agg #[.int .i64 v.f0, .int .i64 v.f1, .string v.f2]] w fun e w' =>
      e = .returned (.int .i64 0) ∧ w'.heap[g]? = some (.cells #[.int .i64 u.f0, .int .i64 u.f1, .string u.f2, .int .i64 sg] 55 (0, 0)) ∧ Below B w w' ∧ KeepBut w w' g none := by
  have hu := Try.underlying32
  have HS := Aside0.mk (BA.start (v := v) hg)
  have HL := Aside0.mk (Nat.le_trans hB (Nat.le_of_lt (blk_lt hg)))
  have HB := Aside0.mk hB
  have HN := Aside0.mk (Nat.ne_of_lt (blk_lt hg))
  have q0 : (u.f0 == 0) = false := beq_eq_false_iff_ne.mpr h0
  have q1 : (cmpV v u == sg) = false := beq_eq_false_iff_ne.mpr h1
  clear hg hB h0 h1
  go_enter Try.func76, Try.ntmps76
  go_wp2_with fail
  refine at_world (fun w' => BA g w.heap.size #[.int .i64 u.f0, .int .i64 u.f1, .string u.f2, .int .i64 sg] 55 v w w') HS.out (fun w1 hI => ?_)
  have HI := Aside0.mk hI
  clear hI
  refine start_ (n := 19) (S := fun w' => w'.cell? ⟨g, 0, none⟩ = some (.int .i64 u.f0) ∧ w'.cell? ⟨g, 1, none⟩ = some (.int .i64 u.f1) ∧ w'.cell? ⟨g, 2, none⟩ = some (.string u.f2) ∧ w'.cell? ⟨g, 3, none⟩ = some (.int .i64 sg) ∧ w'.cell? ⟨w.heap.size, 0, none⟩ = some (.int .i64 v.f0) ∧ w'.cell? ⟨w.heap.size, 1, none⟩ = some (.int .i64 v.f1) ∧ w'.cell? ⟨w.heap.size, 2, none⟩ = some (.string v.f2)) (ds := []) #[false, false, false, false, false, false, false, false, false, false, false, false, false, false, false, false, false, false, false] (by kernel_rfl) rfl rfl ⟨(blk_cell (HI.out.drew).1 0).trans rfl, (blk_cell (HI.out.drew).1 1).trans rfl, (blk_cell (HI.out.drew).1 2).trans rfl, (blk_cell (HI.out.drew).1 3).trans rfl, (HI.out.drew).v0, (HI.out.drew).v1, (HI.out.drew).v2⟩ (fun hHeld => ?_)
  refine pure_ (i := 0) (N := some 5) (v := ?_) (a' := ?_) #[true, false, false, false, false, false, false, false, false, false, false, false, false, false, false, false, false, false, false] rfl rfl (by kernel_rfl) (fun _ _ _ h => h) (Or.inl ⟨by rfl, ?_⟩) ?_ ?_
  rotate_left
  · intro w'
    go_simp
    with_reducible rfl
  rotate_left
  · simp only [Act.put, List.setIfInBounds_toArray, List.set_cons_zero, List.set_cons_succ, i64_w, i32_w]
    rfl
  refine pure_ (i := 1) (N := some 6) (v := ?_) (a' := ?_) #[true, true, false, false, false, false, false, false, false, false, false, false, false, false, false, false, false, false, false] rfl rfl (by kernel_rfl) (fun _ _ _ h => h) (Or.inl ⟨by rfl, ?_⟩) ?_ ?_
  rotate_left
  · intro w'
    go_simp
    with_reducible rfl
  rotate_left
  · simp only [Act.put, List.setIfInBounds_toArray, List.set_cons_zero, List.set_cons_succ, i64_w, i32_w]
    rfl
  refine pure_ (i := 2) (N := some 7) (v := ?_) (a' := ?_) #[true, true, true, false, false, false, false, false, false, false, false, false, false, false, false, false, false, false, false] rfl rfl (by kernel_rfl) (fun _ _ _ h => h) (Or.inl ⟨by rfl, ?_⟩) ?_ ?_
  rotate_left
  · intro w'
    go_simp
    with_reducible rfl
  rotate_left
  · simp only [Act.put, List.setIfInBounds_toArray, List.set_cons_zero, List.set_cons_succ, i64_w, i32_w]
    rfl
  refine pure_ (i := 3) (N := some 8) (v := ?_) (a' := ?_) #[true, true, true, true, false, false, false, false, false, false, false, false, false, false, false, false, false, false, false] rfl rfl (by kernel_rfl) (fun _ _ _ h => h) (Or.inl ⟨by rfl, ?_⟩) ?_ ?_
  rotate_left
  · intro w'
    go_simp
    with_reducible rfl
  rotate_left
  · simp only [Act.put, List.setIfInBounds_toArray, List.set_cons_zero, List.set_cons_succ, i64_w, i32_w]
    rfl
  refine take_ (i := 4) (N := some 9) (v := ?_) (a' := ?_) #[true, true, true, true, true, false, false, false, false, false, false, false, false, false, false, false, false, false, false] rfl rfl (by kernel_rfl) (fun _ _ _ h => h) (Or.inl ⟨by rfl, ?_⟩) hHeld ?_ ?_
  rotate_left
  · rintro w' ⟨s0, s1, s2, s3, s4, s5, s6⟩
    go_simp
    with_reducible rfl
  rotate_left
  · simp only [Act.put, List.setIfInBounds_toArray, List.set_cons_zero, List.set_cons_succ, i64_w, i32_w]
    rfl
  refine pure_ (i := 5) (N := some 10) (v := ?_) (a' := ?_) #[true, true, true, true, true, true, false, false, false, false, false, false, false, false, false, false, false, false, false] rfl rfl (by kernel_rfl) (fun _ _ _ h => h) (Or.inl ⟨by rfl, ?_⟩) ?_ ?_
  rotate_left
  · intro w'
    go_simp
    with_reducible rfl
  rotate_left
  · simp only [Act.put, List.setIfInBounds_toArray, List.set_cons_zero, List.set_cons_succ, i64_w, i32_w]
    rfl
  refine pure_ (i := 6) (N := some 11) (v := ?_) (a' := ?_) #[true, true, true, true, true, true, true, false, false, false, false, false, false, false, false, false, false, false, false] rfl rfl (by kernel_rfl) (fun _ _ _ h => h) (Or.inl ⟨by rfl, ?_⟩) ?_ ?_
  rotate_left
  · intro w'
    go_simp
    with_reducible rfl
  rotate_left
  · simp only [Act.put, List.setIfInBounds_toArray, List.set_cons_zero, List.set_cons_succ, i64_w, i32_w]
    rfl
  refine pure_ (i := 8) (N := some 13) (v := ?_) (a' := ?_) #[true, true, true, true, true, true, true, false, true, false, false, false, false, false, false, false, false, false, false] rfl rfl (by kernel_rfl) (fun _ _ _ h => h) (Or.inl ⟨by rfl, ?_⟩) ?_ ?_
  rotate_left
  · intro w'
    go_simp
    with_reducible rfl
  rotate_left
  · simp only [Act.put, List.setIfInBounds_toArray, List.set_cons_zero, List.set_cons_succ, i64_w, i32_w]
    rfl
  refine pure_ (i := 9) (N := some 14) (v := ?_) (a' := ?_) #[true, true, true, true, true, true, true, false, true, true, false, false, false, false, false, false, false, false, false] rfl rfl (by kernel_rfl) (fun _ _ _ h => h) (Or.inl ⟨by rfl, ?_⟩) ?_ ?_
  rotate_left
  · intro w'
    go_simp
    with_reducible rfl
  rotate_left
  · simp only [Act.put, List.setIfInBounds_toArray, List.set_cons_zero, List.set_cons_succ, i64_w, i32_w]
    rfl
  refine pure_ (i := 10) (N := some 15) (v := ?_) (a' := ?_) #[true, true, true, true, true, true, true, false, true, true, true, false, false, false, false, false, false, false, false] rfl rfl (by kernel_rfl) (fun _ _ _ h => h) (Or.inl ⟨by rfl, ?_⟩) ?_ ?_
  rotate_left
  · intro w'
    go_simp
    with_reducible rfl
  rotate_left
  · simp only [Act.put, List.setIfInBounds_toArray, List.set_cons_zero, List.set_cons_succ, i64_w, i32_w]
    rfl
  refine pure_ (i := 13) (N := some 18) (v := ?_) (a' := ?_) #[true, true, true, true, true, true, true, false, true, true, true, false, false, true, false, false, false, false, false] rfl rfl (by kernel_rfl) (fun _ _ _ h => h) (Or.inl ⟨by rfl, ?_⟩) ?_ ?_
  rotate_left
  · intro w'
    go_simp
    with_reducible rfl
  rotate_left
  · simp only [Act.put, List.setIfInBounds_toArray, List.set_cons_zero, List.set_cons_succ, i64_w, i32_w]
    rfl
  refine pure_ (i := 14) (N := some 19) (v := ?_) (a' := ?_) #[true, true, true, true, true, true, true, false, true, true, true, false, false, true, true, false, false, false, false] rfl rfl (by kernel_rfl) (fun _ _ _ h => h) (Or.inl ⟨by rfl, ?_⟩) ?_ ?_
  rotate_left
  · intro w'
    go_simp
    with_reducible rfl
  rotate_left
  · simp only [Act.put, List.setIfInBounds_toArray, List.set_cons_zero, List.set_cons_succ, i64_w, i32_w]
    rfl
  refine pure_ (i := 15) (N := some 20) (v := ?_) (a' := ?_) #[true, true, true, true, true, true, true, false, true, true, true, false, false, true, true, true, false, false, false] rfl rfl (by kernel_rfl) (fun _ _ _ h => h) (Or.inl ⟨by rfl, ?_⟩) ?_ ?_
  rotate_left
  · intro w'
    go_simp
    with_reducible rfl
  rotate_left
  · simp only [Act.put, List.setIfInBounds_toArray, List.set_cons_zero, List.set_cons_succ, i64_w, i32_w]
    rfl
  refine take_ (i := 7) (N := some 12) (v := ?_) (a' := ?_) #[true, true, true, true, true, true, true, true, true, true, true, false, false, true, true, true, false, false, false] rfl rfl (by kernel_rfl) (fun _ _ _ h => h) (Or.inl ⟨by rfl, ?_⟩) hHeld ?_ ?_
  rotate_left
  · rintro w' ⟨s0, s1, s2, s3, s4, s5, s6⟩
    go_simp
    with_reducible rfl
  rotate_left
  · simp only [Act.put, List.setIfInBounds_toArray, List.set_cons_zero, List.set_cons_succ, i64_w, i32_w]
    rfl
  refine take_ (i := 11) (N := some 16) (v := ?_) (a' := ?_) #[true, true, true, true, true, true, true, true, true, true, true, true, false, true, true, true, false, false, false] rfl rfl (by kernel_rfl) (fun _ _ _ h => h) (Or.inl ⟨by rfl, ?_⟩) hHeld ?_ ?_
  rotate_left
  · rintro w' ⟨s0, s1, s2, s3, s4, s5, s6⟩
    go_simp
    with_reducible rfl
  rotate_left
  · simp only [Act.put, List.setIfInBounds_toArray, List.set_cons_zero, List.set_cons_succ, i64_w, i32_w]
    rfl
  refine take_ (i := 16) (N := some 21) (v := ?_) (a' := ?_) #[true, true, true, true, true, true, true, true, true, true, true, true, false, true, true, true, true, false, false] rfl rfl (by kernel_rfl) (fun _ _ _ h => h) (Or.inl ⟨by rfl, ?_⟩) hHeld ?_ ?_
  rotate_left
  · rintro w' ⟨s0, s1, s2, s3, s4, s5, s6⟩
    go_simp
    with_reducible rfl
  rotate_left
  · simp only [Act.put, List.setIfInBounds_toArray, List.set_cons_zero, List.set_cons_succ, i64_w, i32_w]
    rfl
  refine one_ (i := 12) (N := some 17) #[true, true, true, true, true, true, true, true, true, true, true, true, true, true, true, true, true, false, false] rfl rfl (by kernel_rfl) (by decide) (fun K hK => ?_)
  refine goes_ Try.func60 (by kernel_rfl) rfl #[.agg #[.int .i64 v.f0, .int .i64 v.f1, .string v.f2], .agg #[.int .i64 u.f0, .int .i64 u.f1, .string u.f2]] (by rfl) rfl rfl (by simp only [List.map_toArray, List.map_cons, List.map_nil]; rfl) ?_
  with_reducible refine (compare_calls v u _).mono ?_
  rintro e w2 ⟨rfl, h2⟩
  refine ⟨_, rfl, ?_⟩
  have n0_ := Aside0.mk (BA.below HI.out.drew h2)
  clear h2 HI
  have HI := n0_
  clear n0_
  refine hK.out _ _ ⟨(blk_cell (HI.out).1 0).trans rfl, (blk_cell (HI.out).1 1).trans rfl, (blk_cell (HI.out).1 2).trans rfl, (blk_cell (HI.out).1 3).trans rfl, (HI.out).v0, (HI.out).v1, (HI.out).v2⟩ (fun hHeld => ?_)
  clear hK K
  refine norm_ (a' := ?_) ?_ ?_
  rotate_left
  · show Act.put _ (some 17) _ = _
    simp only [Act.put, List.setIfInBounds_toArray, List.set_cons_zero, List.set_cons_succ, i64_w, i32_w]
    rfl
  refine pure_ (i := 17) (N := some 22) (v := ?_) (a' := ?_) #[true, true, true, true, true, true, true, true, true, true, true, true, true, true, true, true, true, true, false] rfl rfl (by kernel_rfl) (fun _ _ _ h => h) (Or.inl ⟨by rfl, ?_⟩) ?_ ?_
  rotate_left
  · intro w'
    go_simp
    with_reducible rfl
  rotate_left
  · simp only [Act.put, List.setIfInBounds_toArray, List.set_cons_zero, List.set_cons_succ, i64_w, i32_w]
    rfl
  refine pure_ (i := 18) (N := some 23) (v := ?_) (a' := ?_) #[true, true, true, true, true, true, true, true, true, true, true, true, true, true, true, true, true, true, true] rfl rfl (by kernel_rfl) (fun _ _ _ h => h) (Or.inl ⟨by rfl, ?_⟩) ?_ ?_
  rotate_left
  · intro w'
    go_simp
    with_reducible rfl
  rotate_left
  · simp only [Act.put, List.setIfInBounds_toArray, List.set_cons_zero, List.set_cons_succ, i64_w, i32_w]
    rfl
  refine done_ (by kernel_rfl) ?_
  refine at_exit (fun w' => BA g w.heap.size #[.int .i64 u.f0, .int .i64 u.f1, .string u.f2, .int .i64 sg] 55 v w w') HI.out (fun w3 hI => ?_)
  clear HI
  have HI := Aside0.mk hI
  clear hI
  go_wp2_with fail
  go_ret
  exact ⟨rfl, HI.out.1, HI.out.2.2.mono HL.out, HI.out.keep⟩
theorem bin_err {op : Int} {u v : S32} {c : Int} (h : bin op u v = .error c) : ¬ c = 0 := by
  unfold bin at h
  by_cases h1 : ¬ (3 ≤ op ∧ op ≤ 16)
  · rw [if_pos h1] at h; cases h; decide
  rw [if_neg h1] at h
  by_cases h2 : ¬ kindsP op u.f0 v.f0
  · rw [if_pos h2] at h; cases h; decide
  rw [if_neg h2] at h
  by_cases h3 : op ≤ 4
  · rw [if_pos h3] at h; cases h
  rw [if_neg h3] at h
  by_cases h4 : u.f0 = 0 ∨ v.f0 = 0
  · rw [if_pos h4] at h; cases h
  rw [if_neg h4] at h
  by_cases h5 : op ≤ 10
  · rw [if_pos h5] at h; cases h
  rw [if_neg h5] at h
  by_cases h6 : op = 16
  · rw [if_pos h6] at h
    by_cases h7 : u.f2.size + v.f2.size ≤ 2048
    · rw [if_pos h7] at h; cases h
    · rw [if_neg h7] at h; cases h; decide
  rw [if_neg h6] at h
  unfold sumP prodP at h
  repeat (first | split at h | (simp only [numE] at h; cases h; decide) | (simp only [numE] at h; cases h))
def sumA (s v : S32) : S32 × Int := match bin 11 (if s.f0 = 0 then numV 0 else s) v with | .ok r => (r, 0) | .error c => (s, c)
set_option maxHeartbeats 2000000 in
set_option maxRecDepth 100000 in
theorem sum_add.moreOk (g : Nat) (s v : S32) (w : World) (hg : w.heap[g]? = some (.cells #[.int .i64 s.f0, .int .i64 s.f1, .string s.f2] 52 (0, 0))) (hs : FitsV s) (hv : FitsV v) (B : Nat) (hB : B ≤ g) (h0 : ¬ s.f0 = 0) (r : S32) (hr : bin 11 (s) v = .ok r) :
    Calls Try.prog 50 #[.pointer (some ⟨g, 0, none⟩), .agg #[.int .i64 v.f0, .int .i64 v.f1, .string v.f2]] w fun e w' =>
      e = .returned (.int .i64 0) ∧ w'.heap[g]? = some (.cells #[.int .i64 r.f0, .int .i64 r.f1, .string r.f2] 52 (0, 0)) ∧ Below B w w' ∧ KeepBut w w' g none := by
  have hu := Try.underlying32
  have H1 := Aside0.mk (blk_alloc hg (.cells #[.int .i64 v.f0, .int .i64 v.f1, .string v.f2] 32))
  have HL := Aside0.mk (Nat.le_trans hB (Nat.le_of_lt (blk_lt hg)))
  have HB := Aside0.mk hB
  have HG := Aside0.mk hg
  have hc0 : World.cell? _ ⟨g, 0, none⟩ = some (.int .i64 s.f0) := (blk_cell H1.out 0).trans rfl
  have hc1 : World.cell? _ ⟨g, 1, none⟩ = some (.int .i64 s.f1) := (blk_cell H1.out 1).trans rfl
  have hc2 : World.cell? _ ⟨g, 2, none⟩ = some (.string s.f2) := (blk_cell H1.out 2).trans rfl
  have q0 : (s.f0 == 0) = false := beq_eq_false_iff_ne.mpr h0
  have HR := Aside0.mk hr
  have HS := Aside0.mk hs
  have HV := Aside0.mk hv
  have HC : Aside0 (True) := ⟨trivial⟩
  clear hg hB h0 hr hs hv
  go_enter Try.func50, Try.ntmps50
  go_wp2_with fail
  obtain ⟨W2, hW2⟩ : ∃ W2, (w.alloc (.cells #[.int .i64 v.f0, .int .i64 v.f1, .string v.f2] 32)).alloc (.cells #[.int .i64 s.f0, .int .i64 s.f1, .string s.f2] 32) = W2 := ⟨_, rfl⟩
  have FB2 : Below w.heap.size w W2 := by rw [← hW2]; exact below_alloc (below_alloc (Below.refl _ _) _) _
  rw [hW2]
  clear hc0 hc1 hc2
  refine (calc_Binary.calls 11 (s) v HS.out.1 HV.out.1 (by have h1 := HV.out.2; have h2 := HS.out.2; have h3 : V0.size = 0 := rfl; show (s.f2).size + v.f2.size < _; omega) _).mono ?_
  rintro e w2 ⟨rfl, hb⟩
  rw [HR.out]
  have GB2 := Aside0.mk (below_step FB2 hb)
  have G2 := Aside0.mk (blk_alloc (blk_below HG.out GB2.out) (.cells #[.int .i64 r.f0, .int .i64 r.f1, .string r.f2] 32))
  clear FB2 hb hW2
  simp only [outE, encV]
  have c0 : World.cell? _ ⟨g, 0, none⟩ = some (.int .i64 s.f0) := (blk_cell G2.out 0).trans rfl
  have c1 : World.cell? _ ⟨g, 1, none⟩ = some (.int .i64 s.f1) := (blk_cell G2.out 1).trans rfl
  have c2 : World.cell? _ ⟨g, 2, none⟩ = some (.string s.f2) := (blk_cell G2.out 2).trans rfl
  have f0 := blk_frozen G2.out 0
  have f1 := blk_frozen G2.out 1
  have f2 := blk_frozen G2.out 2
  go_wp2_with fail
  go_ret
  exact ⟨rfl, blk_put (blk_put (blk_put G2.out 0 (.int .i64 r.f0) rfl) 1 (.int .i64 r.f1) rfl) 2 (.string r.f2) rfl, below_set3 ((below_alloc GB2.out _).mono HL.out) HB.out _ _ _ _ _ _, keep_set (keep_set (keep_set (KeepBut.of_below (below_alloc GB2.out _) _ _) 0 _) 1 _) 2 _⟩
set_option maxHeartbeats 2000000 in
set_option maxRecDepth 100000 in
theorem sum_add.moreNo (g : Nat) (s v : S32) (w : World) (hg : w.heap[g]? = some (.cells #[.int .i64 s.f0, .int .i64 s.f1, .string s.f2] 52 (0, 0))) (hs : FitsV s) (hv : FitsV v) (B : Nat) (hB : B ≤ g) (h0 : ¬ s.f0 = 0) (c : Int) (hr : bin 11 (s) v = .error c) :
    Calls Try.prog 50 #[.pointer (some ⟨g, 0, none⟩), .agg #[.int .i64 v.f0, .int .i64 v.f1, .string v.f2]] w fun e w' =>
      e = .returned (.int .i64 c) ∧ w'.heap[g]? = some (.cells #[.int .i64 s.f0, .int .i64 s.f1, .string s.f2] 52 (0, 0)) ∧ Below B w w' ∧ KeepBut w w' g none := by
  have hu := Try.underlying32
  have H1 := Aside0.mk (blk_alloc hg (.cells #[.int .i64 v.f0, .int .i64 v.f1, .string v.f2] 32))
  have HL := Aside0.mk (Nat.le_trans hB (Nat.le_of_lt (blk_lt hg)))
  have HB := Aside0.mk hB
  have HG := Aside0.mk hg
  have hc0 : World.cell? _ ⟨g, 0, none⟩ = some (.int .i64 s.f0) := (blk_cell H1.out 0).trans rfl
  have hc1 : World.cell? _ ⟨g, 1, none⟩ = some (.int .i64 s.f1) := (blk_cell H1.out 1).trans rfl
  have hc2 : World.cell? _ ⟨g, 2, none⟩ = some (.string s.f2) := (blk_cell H1.out 2).trans rfl
  have q0 : (s.f0 == 0) = false := beq_eq_false_iff_ne.mpr h0
  have HR := Aside0.mk hr
  have HS := Aside0.mk hs
  have HV := Aside0.mk hv
  have HC : Aside0 (¬ c = 0) := ⟨bin_err hr⟩
  clear hg hB h0 hr hs hv
  go_enter Try.func50, Try.ntmps50
  go_wp2_with fail
  obtain ⟨W2, hW2⟩ : ∃ W2, (w.alloc (.cells #[.int .i64 v.f0, .int .i64 v.f1, .string v.f2] 32)).alloc (.cells #[.int .i64 s.f0, .int .i64 s.f1, .string s.f2] 32) = W2 := ⟨_, rfl⟩
  have FB2 : Below w.heap.size w W2 := by rw [← hW2]; exact below_alloc (below_alloc (Below.refl _ _) _) _
  rw [hW2]
  clear hc0 hc1 hc2
  refine (calc_Binary.calls 11 (s) v HS.out.1 HV.out.1 (by have h1 := HV.out.2; have h2 := HS.out.2; have h3 : V0.size = 0 := rfl; show (s.f2).size + v.f2.size < _; omega) _).mono ?_
  rintro e w2 ⟨rfl, hb⟩
  rw [HR.out]
  have GB2 := Aside0.mk (below_step FB2 hb)
  have G2 := Aside0.mk (blk_alloc (blk_below HG.out GB2.out) (.cells #[.int .i64 (⟨0, 0, V0⟩ : S32).f0, .int .i64 (⟨0, 0, V0⟩ : S32).f1, .string (⟨0, 0, V0⟩ : S32).f2] 32))
  clear FB2 hb hW2
  simp only [outE, encV]
  have qc : (c == 0) = false := beq_eq_false_iff_ne.mpr HC.out
  go_wp2_with fail
  go_ret
  exact ⟨rfl, G2.out, (below_alloc GB2.out _).mono HL.out, KeepBut.of_below (below_alloc GB2.out _) _ _⟩
set_option maxHeartbeats 2000000 in
set_option maxRecDepth 100000 in
theorem sum_add.nullOk (g : Nat) (s v : S32) (w : World) (hg : w.heap[g]? = some (.cells #[.int .i64 s.f0, .int .i64 s.f1, .string s.f2] 52 (0, 0))) (hs : FitsV s) (hv : FitsV v) (B : Nat) (hB : B ≤ g) (h0 : s.f0 = 0) (r : S32) (hr : bin 11 (numV 0) v = .ok r) :
    Calls Try.prog 50 #[.pointer (some ⟨g, 0, none⟩), .agg #[.int .i64 v.f0, .int .i64 v.f1, .string v.f2]] w fun e w' =>
      e = .returned (.int .i64 0) ∧ w'.heap[g]? = some (.cells #[.int .i64 r.f0, .int .i64 r.f1, .string r.f2] 52 (0, 0)) ∧ Below B w w' ∧ KeepBut w w' g none := by
  have hu := Try.underlying32
  have H1 := Aside0.mk (blk_alloc hg (.cells #[.int .i64 v.f0, .int .i64 v.f1, .string v.f2] 32))
  have HL := Aside0.mk (Nat.le_trans hB (Nat.le_of_lt (blk_lt hg)))
  have HB := Aside0.mk hB
  have HG := Aside0.mk hg
  have hc0 : World.cell? _ ⟨g, 0, none⟩ = some (.int .i64 s.f0) := (blk_cell H1.out 0).trans rfl
  have hc1 : World.cell? _ ⟨g, 1, none⟩ = some (.int .i64 s.f1) := (blk_cell H1.out 1).trans rfl
  have hc2 : World.cell? _ ⟨g, 2, none⟩ = some (.string s.f2) := (blk_cell H1.out 2).trans rfl
  have q0 : (s.f0 == 0) = true := beq_iff_eq.mpr h0
  have HR := Aside0.mk hr
  have HS := Aside0.mk hs
  have HV := Aside0.mk hv
  have HC : Aside0 (True) := ⟨trivial⟩
  clear hg hB h0 hr hs hv
  go_enter Try.func50, Try.ntmps50
  go_wp2_with fail
  obtain ⟨W, hW⟩ : ∃ W, (w.alloc (.cells #[.int .i64 v.f0, .int .i64 v.f1, .string v.f2] 32)).alloc (.cells #[.int .i64 s.f0, .int .i64 s.f1, .string s.f2] 32) = W := ⟨_, rfl⟩
  have F0 : W.heap[w.heap.size]? = some (.cells #[.int .i64 v.f0, .int .i64 v.f1, .string v.f2] 32 (0, 0)) := by rw [← hW]; exact blk_alloc (Deep.blk_alloc_new w _) _
  have F1 : W.heap[w.heap.size + 1]? = some (.cells #[.int .i64 s.f0, .int .i64 s.f1, .string s.f2] 32 (0, 0)) := by
    have := Deep.blk_alloc_new (w.alloc (.cells #[.int .i64 v.f0, .int .i64 v.f1, .string v.f2] 32)) (.cells #[.int .i64 s.f0, .int .i64 s.f1, .string s.f2] 32)
    rw [← hW]
    simpa using this
  have FB : Below w.heap.size w W := by rw [← hW]; exact below_alloc (below_alloc (Below.refl _ _) _) _
  rw [hW]
  refine (agg_number.calls 0 _ _ _ _ (show agg_number.f 0 = some (2, 0, V0) from rfl)).mono ?_
  rintro e w1 ⟨rfl, hb⟩
  have G0 := Aside0.mk (blk_below F0 hb)
  have G1 := Aside0.mk (blk_below F1 hb)
  have GB := Aside0.mk (below_step FB hb)
  clear F0 F1 FB hb hW hc0 hc1 hc2
  have e0 : World.cell? w1 ⟨w.heap.size, 0, none⟩ = some (.int .i64 v.f0) := (blk_cell G0.out 0).trans rfl
  have e1 : World.cell? w1 ⟨w.heap.size, 1, none⟩ = some (.int .i64 v.f1) := (blk_cell G0.out 1).trans rfl
  have e2 : World.cell? w1 ⟨w.heap.size, 2, none⟩ = some (.string v.f2) := (blk_cell G0.out 2).trans rfl
  have d0 : World.cell? w1 ⟨w.heap.size + 1, 0, none⟩ = some (.int .i64 s.f0) := (blk_cell G1.out 0).trans rfl
  have d1 : World.cell? w1 ⟨w.heap.size + 1, 1, none⟩ = some (.int .i64 s.f1) := (blk_cell G1.out 1).trans rfl
  have d2 : World.cell? w1 ⟨w.heap.size + 1, 2, none⟩ = some (.string s.f2) := (blk_cell G1.out 2).trans rfl
  have df0 := blk_frozen G1.out 0
  have df1 := blk_frozen G1.out 1
  have df2 := blk_frozen G1.out 2
  have hne : ¬ w.heap.size = w.heap.size + 1 := by omega
  have hne' : ¬ w.heap.size + 1 = w.heap.size := by omega
  go_wp2_with fail
  obtain ⟨W2, hW2⟩ : ∃ W2, ((w1.setCell ⟨w.heap.size + 1, 0, none⟩ (.int .i64 2)).setCell ⟨w.heap.size + 1, 1, none⟩ (.int .i64 0)).setCell ⟨w.heap.size + 1, 2, none⟩ (.string V0) = W2 := ⟨_, rfl⟩
  have FB2 : Below w.heap.size w W2 := by rw [← hW2]; exact below_set3 GB.out (Nat.le_succ _) _ _ _ _ _ _
  rw [hW2]
  refine (calc_Binary.calls 11 (numV 0) v (by show In64 0; decide) HV.out.1 (by have h1 := HV.out.2; have h2 := HS.out.2; have h3 : V0.size = 0 := rfl; show (V0).size + v.f2.size < _; omega) _).mono ?_
  rintro e w2 ⟨rfl, hb⟩
  rw [HR.out]
  have GB2 := Aside0.mk (below_step FB2 hb)
  have G2 := Aside0.mk (blk_alloc (blk_below HG.out GB2.out) (.cells #[.int .i64 r.f0, .int .i64 r.f1, .string r.f2] 32))
  clear FB2 hb hW2 e0 e1 e2 d0 d1 d2 df0 df1 df2 hne hne'
  simp only [outE, encV]
  have c0 : World.cell? _ ⟨g, 0, none⟩ = some (.int .i64 s.f0) := (blk_cell G2.out 0).trans rfl
  have c1 : World.cell? _ ⟨g, 1, none⟩ = some (.int .i64 s.f1) := (blk_cell G2.out 1).trans rfl
  have c2 : World.cell? _ ⟨g, 2, none⟩ = some (.string s.f2) := (blk_cell G2.out 2).trans rfl
  have f0 := blk_frozen G2.out 0
  have f1 := blk_frozen G2.out 1
  have f2 := blk_frozen G2.out 2
  go_wp2_with fail
  go_ret
  exact ⟨rfl, blk_put (blk_put (blk_put G2.out 0 (.int .i64 r.f0) rfl) 1 (.int .i64 r.f1) rfl) 2 (.string r.f2) rfl, below_set3 ((below_alloc GB2.out _).mono HL.out) HB.out _ _ _ _ _ _, keep_set (keep_set (keep_set (KeepBut.of_below (below_alloc GB2.out _) _ _) 0 _) 1 _) 2 _⟩
set_option maxHeartbeats 2000000 in
set_option maxRecDepth 100000 in
theorem sum_add.nullNo (g : Nat) (s v : S32) (w : World) (hg : w.heap[g]? = some (.cells #[.int .i64 s.f0, .int .i64 s.f1, .string s.f2] 52 (0, 0))) (hs : FitsV s) (hv : FitsV v) (B : Nat) (hB : B ≤ g) (h0 : s.f0 = 0) (c : Int) (hr : bin 11 (numV 0) v = .error c) :
    Calls Try.prog 50 #[.pointer (some ⟨g, 0, none⟩), .agg #[.int .i64 v.f0, .int .i64 v.f1, .string v.f2]] w fun e w' =>
      e = .returned (.int .i64 c) ∧ w'.heap[g]? = some (.cells #[.int .i64 s.f0, .int .i64 s.f1, .string s.f2] 52 (0, 0)) ∧ Below B w w' ∧ KeepBut w w' g none := by
  have hu := Try.underlying32
  have H1 := Aside0.mk (blk_alloc hg (.cells #[.int .i64 v.f0, .int .i64 v.f1, .string v.f2] 32))
  have HL := Aside0.mk (Nat.le_trans hB (Nat.le_of_lt (blk_lt hg)))
  have HB := Aside0.mk hB
  have HG := Aside0.mk hg
  have hc0 : World.cell? _ ⟨g, 0, none⟩ = some (.int .i64 s.f0) := (blk_cell H1.out 0).trans rfl
  have hc1 : World.cell? _ ⟨g, 1, none⟩ = some (.int .i64 s.f1) := (blk_cell H1.out 1).trans rfl
  have hc2 : World.cell? _ ⟨g, 2, none⟩ = some (.string s.f2) := (blk_cell H1.out 2).trans rfl
  have q0 : (s.f0 == 0) = true := beq_iff_eq.mpr h0
  have HR := Aside0.mk hr
  have HS := Aside0.mk hs
  have HV := Aside0.mk hv
  have HC : Aside0 (¬ c = 0) := ⟨bin_err hr⟩
  clear hg hB h0 hr hs hv
  go_enter Try.func50, Try.ntmps50
  go_wp2_with fail
  obtain ⟨W, hW⟩ : ∃ W, (w.alloc (.cells #[.int .i64 v.f0, .int .i64 v.f1, .string v.f2] 32)).alloc (.cells #[.int .i64 s.f0, .int .i64 s.f1, .string s.f2] 32) = W := ⟨_, rfl⟩
  have F0 : W.heap[w.heap.size]? = some (.cells #[.int .i64 v.f0, .int .i64 v.f1, .string v.f2] 32 (0, 0)) := by rw [← hW]; exact blk_alloc (Deep.blk_alloc_new w _) _
  have F1 : W.heap[w.heap.size + 1]? = some (.cells #[.int .i64 s.f0, .int .i64 s.f1, .string s.f2] 32 (0, 0)) := by
    have := Deep.blk_alloc_new (w.alloc (.cells #[.int .i64 v.f0, .int .i64 v.f1, .string v.f2] 32)) (.cells #[.int .i64 s.f0, .int .i64 s.f1, .string s.f2] 32)
    rw [← hW]
    simpa using this
  have FB : Below w.heap.size w W := by rw [← hW]; exact below_alloc (below_alloc (Below.refl _ _) _) _
  rw [hW]
  refine (agg_number.calls 0 _ _ _ _ (show agg_number.f 0 = some (2, 0, V0) from rfl)).mono ?_
  rintro e w1 ⟨rfl, hb⟩
  have G0 := Aside0.mk (blk_below F0 hb)
  have G1 := Aside0.mk (blk_below F1 hb)
  have GB := Aside0.mk (below_step FB hb)
  clear F0 F1 FB hb hW hc0 hc1 hc2
  have e0 : World.cell? w1 ⟨w.heap.size, 0, none⟩ = some (.int .i64 v.f0) := (blk_cell G0.out 0).trans rfl
  have e1 : World.cell? w1 ⟨w.heap.size, 1, none⟩ = some (.int .i64 v.f1) := (blk_cell G0.out 1).trans rfl
  have e2 : World.cell? w1 ⟨w.heap.size, 2, none⟩ = some (.string v.f2) := (blk_cell G0.out 2).trans rfl
  have d0 : World.cell? w1 ⟨w.heap.size + 1, 0, none⟩ = some (.int .i64 s.f0) := (blk_cell G1.out 0).trans rfl
  have d1 : World.cell? w1 ⟨w.heap.size + 1, 1, none⟩ = some (.int .i64 s.f1) := (blk_cell G1.out 1).trans rfl
  have d2 : World.cell? w1 ⟨w.heap.size + 1, 2, none⟩ = some (.string s.f2) := (blk_cell G1.out 2).trans rfl
  have df0 := blk_frozen G1.out 0
  have df1 := blk_frozen G1.out 1
  have df2 := blk_frozen G1.out 2
  have hne : ¬ w.heap.size = w.heap.size + 1 := by omega
  have hne' : ¬ w.heap.size + 1 = w.heap.size := by omega
  go_wp2_with fail
  obtain ⟨W2, hW2⟩ : ∃ W2, ((w1.setCell ⟨w.heap.size + 1, 0, none⟩ (.int .i64 2)).setCell ⟨w.heap.size + 1, 1, none⟩ (.int .i64 0)).setCell ⟨w.heap.size + 1, 2, none⟩ (.string V0) = W2 := ⟨_, rfl⟩
  have FB2 : Below w.heap.size w W2 := by rw [← hW2]; exact below_set3 GB.out (Nat.le_succ _) _ _ _ _ _ _
  rw [hW2]
  refine (calc_Binary.calls 11 (numV 0) v (by show In64 0; decide) HV.out.1 (by have h1 := HV.out.2; have h2 := HS.out.2; have h3 : V0.size = 0 := rfl; show (V0).size + v.f2.size < _; omega) _).mono ?_
  rintro e w2 ⟨rfl, hb⟩
  rw [HR.out]
  have GB2 := Aside0.mk (below_step FB2 hb)
  have G2 := Aside0.mk (blk_alloc (blk_below HG.out GB2.out) (.cells #[.int .i64 (⟨0, 0, V0⟩ : S32).f0, .int .i64 (⟨0, 0, V0⟩ : S32).f1, .string (⟨0, 0, V0⟩ : S32).f2] 32))
  clear FB2 hb hW2 e0 e1 e2 d0 d1 d2 df0 df1 df2 hne hne'
  simp only [outE, encV]
  have qc : (c == 0) = false := beq_eq_false_iff_ne.mpr HC.out
  go_wp2_with fail
  go_ret
  exact ⟨rfl, G2.out, (below_alloc GB2.out _).mono HL.out, KeepBut.of_below (below_alloc GB2.out _) _ _⟩
end Go.Proofs.Ytgjfciohmgpohaa.P
end
section
namespace Go.Proofs.Ytgjfciohmgpohaa.P
open Go.RowKit Go.Proofs.Ytgjfciohmgpohaa.Pure Go.Proofs.YtgjfciohmgpohaaW.PrintWords Go.Proofs.YtgjfciohmgpohaaW.PrintLast Go.Proofs.YtgjfciohmgpohaaW.PrintMore
attribute [local go_sem] max2_int min2_int max_two min_two max_three min_three max_four min_four
set_option linter.unusedVariables false
set_option linter.unusedSimpArgs false
def AccAt (w : World) (b g : Nat) (rows : Bool) (st : Gst) : Prop :=
  w.heap[b]? = some (.cells #[.iface st.dyn (.pointer (some ⟨g, 0, none⟩)), .bool rows] 57 (0, 0)) ∧ w.heap[g]? = some (.cells st.cells st.ty (0, 0)) ∧ b ≠ g
theorem AccAt.below {w w' : World} {b g : Nat} {rows : Bool} {st : Gst} (h : AccAt w b g rows st) (hb : Below w.heap.size w w') : AccAt w' b g rows st := ⟨blk_below h.1 hb, blk_below h.2.1 hb, h.2.2⟩
theorem AccAt.other {w w' : World} {b g g' : Nat} {rows : Bool} {st : Gst} (h : AccAt w b g rows st) (hk : KeepBut w w' g' none) (h1 : b ≠ g') (h2 : g ≠ g') : AccAt w' b g rows st := ⟨hk.blk h.1 h1 (by simp), hk.blk h.2.1 h2 (by simp), h.2.2⟩
def valP : Gst → S32 | .count n => numV n | .sum s => s | .best u _ => u
def addP (st : Gst) (rows : Bool) (v : S32) : Gst × Int :=
  if v.f0 = 0 ∧ rows = false then (st, 0) else match st with
  | .count n => (.count (wrap64 (n + 1)), 0)
  | .sum s => (.sum (sumA s v).1, (sumA s v).2)
  | .best u sg => if u.f0 = 0 ∨ cmpV v u = sg then (.best v sg, 0) else (.best u sg, 0)
def Gst.fits : Gst → Prop | .sum s => FitsV s | _ => True
theorem goesI_ {P : Program} {ops : Array Oper} {Q : Exit → Act → World → Prop} {oi : Oper} {N : Option Tmp} {a : Act} {w : World} {K : Act → World → Prop} {f : FuncId} {fn : Func} (hf : P.funcs[f]? = some fn) (hname : (fn.name == "runtime.NumGoroutine") = false) (hb : fn.body.isSome = true) (args : Array Value)
    (hw : Region.wanted oi (yielded ops a.tmps) = true) (hN : oi.dst = N) (hrun : (execOp a.eval oi).run P w = ((callFunc f args).run P w))
    (h : Calls P f args w fun e w' => ∃ v, e = .returned v ∧ K (a.put N v) w') : if Region.wanted oi (yielded ops a.tmps) = true then Oper.wp P oi a w K Q else K (a.put N undef) w :=
  call_ f args hw hN (hrun.trans (enters_ hf hname hb args w)) h
theorem m_value_count (a : Addr) (w : World) : (method 202 47 (.pointer (some a)) "quarry/agg.value").run Try.prog w = .ok (48, .pointer (some a)) w := by kernel_rfl
theorem m_add_count (a : Addr) (w : World) : (method 202 47 (.pointer (some a)) "quarry/agg.add").run Try.prog w = .ok (47, .pointer (some a)) w := by kernel_rfl
set_option maxHeartbeats 1000000 in
set_option maxRecDepth 100000 in
theorem acc_value.count (b g : Nat) (rows : Bool) (n : Int) (w : World) (h : AccAt w b g rows (.count n)) :
    Calls Try.prog 11 #[.pointer (some ⟨b, 0, none⟩)] w fun e w' => e = .returned (encV (numV n)) ∧ Below w.heap.size w w' := by
  have hu := Try.underlying32
  have hm := m_value_count
  obtain ⟨hb, hg, hne⟩ := h
  have hb0 : w.heap[b]? = some (.cells #[.iface 47 (.pointer (some ⟨g, 0, none⟩)), .bool rows] 57 (0, 0)) := hb
  have H1 := Aside0.mk (blk_alloc hb0 (.cells #[.int .i64 0, .int .i64 0, .string (⟨#[]⟩ : ByteArray)] 32))
  have HG := Aside0.mk (blk_alloc hg (.cells #[.int .i64 0, .int .i64 0, .string (⟨#[]⟩ : ByteArray)] 32))
  have hc0 : World.cell? _ ⟨b, 0, none⟩ = some (.iface 47 (.pointer (some ⟨g, 0, none⟩))) := (blk_cell H1.out 0).trans rfl
  have HZ := Aside0.mk (Deep.blk_alloc_new w (.cells #[.int .i64 0, .int .i64 0, .string (⟨#[]⟩ : ByteArray)] 32))
  clear hb hb0 hg hne
  go_enter Try.func11, Try.ntmps11
  go_wp2_with fail
  refine (count_value.calls g n _ HG.out).mono ?_
  rintro e w1 ⟨rfl, hb⟩
  have HI := Aside0.mk (blk_below HZ.out hb)
  have HW := Aside0.mk (below_step (below_alloc (Below.refl w.heap.size w) _) hb)
  clear hb hc0
  have gc0 : w1.cell? ⟨w.heap.size, 0, none⟩ = some (.int .i64 0) := (blk_cell HI.out 0).trans rfl
  have gc1 : w1.cell? ⟨w.heap.size, 1, none⟩ = some (.int .i64 0) := (blk_cell HI.out 1).trans rfl
  have gc2 : w1.cell? ⟨w.heap.size, 2, none⟩ = some (.string (⟨#[]⟩ : ByteArray)) := (blk_cell HI.out 2).trans rfl
  have gf0 := blk_frozen HI.out 0
  have gf1 := blk_frozen HI.out 1
  have gf2 := blk_frozen HI.out 2
  unfold encV
  go_wp2_with fail
  exact bodyPost_ret (v := encV (numV n)) (by simp [results, Try.results11, go_sem, encV, gc0, gc1, gc2]) rfl ⟨rfl, below_set3 HW.out (Nat.le_refl _) _ _ _ _ _ _⟩
theorem m_value_sum (a : Addr) (w : World) : (method 202 50 (.pointer (some a)) "quarry/agg.value").run Try.prog w = .ok (51, .pointer (some a)) w := by kernel_rfl
theorem m_add_sum (a : Addr) (w : World) : (method 202 50 (.pointer (some a)) "quarry/agg.add").run Try.prog w = .ok (50, .pointer (some a)) w := by kernel_rfl
set_option maxHeartbeats 1000000 in
set_option maxRecDepth 100000 in
theorem acc_value.sum (b g : Nat) (rows : Bool) (s : S32) (w : World) (h : AccAt w b g rows (.sum s)) :
    Calls Try.prog 11 #[.pointer (some ⟨b, 0, none⟩)] w fun e w' => e = .returned (encV (s)) ∧ Below w.heap.size w w' := by
  have hu := Try.underlying32
  have hm := m_value_sum
  obtain ⟨hb, hg, hne⟩ := h
  have hb0 : w.heap[b]? = some (.cells #[.iface 50 (.pointer (some ⟨g, 0, none⟩)), .bool rows] 57 (0, 0)) := hb
  have H1 := Aside0.mk (blk_alloc hb0 (.cells #[.int .i64 0, .int .i64 0, .string (⟨#[]⟩ : ByteArray)] 32))
  have HG := Aside0.mk (blk_alloc hg (.cells #[.int .i64 0, .int .i64 0, .string (⟨#[]⟩ : ByteArray)] 32))
  have hc0 : World.cell? _ ⟨b, 0, none⟩ = some (.iface 50 (.pointer (some ⟨g, 0, none⟩))) := (blk_cell H1.out 0).trans rfl
  have HZ := Aside0.mk (Deep.blk_alloc_new w (.cells #[.int .i64 0, .int .i64 0, .string (⟨#[]⟩ : ByteArray)] 32))
  clear hb hb0 hg hne
  go_enter Try.func11, Try.ntmps11
  go_wp2_with fail
  refine (sum_value.calls g s _ HG.out).mono ?_
  rintro e w1 ⟨rfl, hb⟩
  have HI := Aside0.mk (blk_below HZ.out hb)
  have HW := Aside0.mk (below_step (below_alloc (Below.refl w.heap.size w) _) hb)
  clear hb hc0
  have gc0 : w1.cell? ⟨w.heap.size, 0, none⟩ = some (.int .i64 0) := (blk_cell HI.out 0).trans rfl
  have gc1 : w1.cell? ⟨w.heap.size, 1, none⟩ = some (.int .i64 0) := (blk_cell HI.out 1).trans rfl
  have gc2 : w1.cell? ⟨w.heap.size, 2, none⟩ = some (.string (⟨#[]⟩ : ByteArray)) := (blk_cell HI.out 2).trans rfl
  have gf0 := blk_frozen HI.out 0
  have gf1 := blk_frozen HI.out 1
  have gf2 := blk_frozen HI.out 2
  unfold encV
  go_wp2_with fail
  exact bodyPost_ret (v := encV (s)) (by simp [results, Try.results11, go_sem, encV, gc0, gc1, gc2]) rfl ⟨rfl, below_set3 HW.out (Nat.le_refl _) _ _ _ _ _ _⟩
theorem m_value_best (a : Addr) (w : World) : (method 202 53 (.pointer (some a)) "quarry/agg.value").run Try.prog w = .ok (77, .pointer (some a)) w := by kernel_rfl
theorem m_add_best (a : Addr) (w : World) : (method 202 53 (.pointer (some a)) "quarry/agg.add").run Try.prog w = .ok (76, .pointer (some a)) w := by kernel_rfl
set_option maxHeartbeats 1000000 in
set_option maxRecDepth 100000 in
theorem acc_value.best (b g : Nat) (rows : Bool) (u : S32) (sg : Int) (w : World) (h : AccAt w b g rows (.best u sg)) :
    Calls Try.prog 11 #[.pointer (some ⟨b, 0, none⟩)] w fun e w' => e = .returned (encV (u)) ∧ Below w.heap.size w w' := by
  have hu := Try.underlying32
  have hm := m_value_best
  obtain ⟨hb, hg, hne⟩ := h
  have hb0 : w.heap[b]? = some (.cells #[.iface 53 (.pointer (some ⟨g, 0, none⟩)), .bool rows] 57 (0, 0)) := hb
  have H1 := Aside0.mk (blk_alloc hb0 (.cells #[.int .i64 0, .int .i64 0, .string (⟨#[]⟩ : ByteArray)] 32))
  have HG := Aside0.mk (blk_alloc hg (.cells #[.int .i64 0, .int .i64 0, .string (⟨#[]⟩ : ByteArray)] 32))
  have hc0 : World.cell? _ ⟨b, 0, none⟩ = some (.iface 53 (.pointer (some ⟨g, 0, none⟩))) := (blk_cell H1.out 0).trans rfl
  have HZ := Aside0.mk (Deep.blk_alloc_new w (.cells #[.int .i64 0, .int .i64 0, .string (⟨#[]⟩ : ByteArray)] 32))
  clear hb hb0 hg hne
  go_enter Try.func11, Try.ntmps11
  go_wp2_with fail
  refine (best_value.calls g u sg _ HG.out).mono ?_
  rintro e w1 ⟨rfl, hb⟩
  have HI := Aside0.mk (blk_below HZ.out hb)
  have HW := Aside0.mk (below_step (below_alloc (Below.refl w.heap.size w) _) hb)
  clear hb hc0
  have gc0 : w1.cell? ⟨w.heap.size, 0, none⟩ = some (.int .i64 0) := (blk_cell HI.out 0).trans rfl
  have gc1 : w1.cell? ⟨w.heap.size, 1, none⟩ = some (.int .i64 0) := (blk_cell HI.out 1).trans rfl
  have gc2 : w1.cell? ⟨w.heap.size, 2, none⟩ = some (.string (⟨#[]⟩ : ByteArray)) := (blk_cell HI.out 2).trans rfl
  have gf0 := blk_frozen HI.out 0
  have gf1 := blk_frozen HI.out 1
  have gf2 := blk_frozen HI.out 2
  unfold encV
  go_wp2_with fail
  exact bodyPost_ret (v := encV (u)) (by simp [results, Try.results11, go_sem, encV, gc0, gc1, gc2]) rfl ⟨rfl, below_set3 HW.out (Nat.le_refl _) _ _ _ _ _ _⟩
theorem acc_value.calls (b g : Nat) (rows : Bool) (st : Gst) (w : World) (h : AccAt w b g rows st) :
    Calls Try.prog 11 #[.pointer (some ⟨b, 0, none⟩)] w fun e w' => e = .returned (encV (valP st)) ∧ Below w.heap.size w w' := by
  cases st with
  | count n => exact acc_value.count b g rows n w h
  | sum s => exact acc_value.sum b g rows s w h
  | best u sg => exact acc_value.best b g rows u sg w h
set_option maxHeartbeats 2000000 in
set_option maxRecDepth 100000 in
theorem acc_add.count_v (b g : Nat) (rows : Bool) (n : Int) (v : S32) (w : World) (h : AccAt w b g rows (.count n)) (B : Nat) (hB : B ≤ g) (hz : ¬ v.f0 = 0) :
    Calls Try.prog 13 #[.pointer (some ⟨b, 0, none⟩), .agg #[.int .i64 v.f0, .int .i64 v.f1, .string v.f2]] w fun e w' =>
      e = .returned (.int .i64 0) ∧ AccAt w' b g rows (.count (wrap64 (n + 1))) ∧ Below B w w' ∧ KeepBut w w' g none := by
  have hu := Try.underlying32
  have hm := m_add_count
  have hne := Aside0.mk h.2.2
  have hb0 : w.heap[b]? = some (.cells #[.iface 47 (.pointer (some ⟨g, 0, none⟩)), .bool rows] 57 (0, 0)) := h.1
  have HS := Aside0.mk (BA.start (v := v) hb0)
  have HG := Aside0.mk h.2.1
  have HL := Aside0.mk (Nat.le_trans hB (Nat.le_of_lt (blk_lt h.2.1)))
  have HB := Aside0.mk hB
  have hc1 : World.cell? _ ⟨b, 1, none⟩ = some (.bool rows) := (blk_cell HS.out.1 1).trans rfl
  have qz : (v.f0 == 0) = false := beq_eq_false_iff_ne.mpr hz
  clear hb0 hB h hz
  go_enter Try.func13, Try.ntmps13
  go_wp2_with fail
  refine at_world (fun w' => BA b w.heap.size #[.iface 47 (.pointer (some ⟨g, 0, none⟩)), .bool rows] 57 v w w') (by repeat (first | exact HS.out | refine BA.drewN ?_ _ | refine BA.drew ?_)) (fun w1 hI => ?_)
  have HI := Aside0.mk hI
  clear hI hc1
  have HG1 := Aside0.mk (blk_below HG.out HI.out.drew.2.2)
  have hEnd : ∀ w2, w2.heap[g]? = some (.cells (.count (wrap64 (n + 1)) : Gst).cells (.count (wrap64 (n + 1)) : Gst).ty (0, 0)) → Below B w1.drew w2 → KeepBut w1.drew w2 g none → AccAt w2 b g rows (.count (wrap64 (n + 1))) ∧ Below B w w2 ∧ KeepBut w w2 g none := fun w2 a1 a2 a3 =>
    ⟨⟨a3.blk HI.out.drew.1 hne.out (by simp), a1, hne.out⟩, (HI.out.drew.2.2.mono HL.out).trans a2, (KeepBut.of_below HI.out.drew.2.2 g none).trans a3 (.inl rfl)⟩
  refine start_ (n := 7) (S := fun w' => w'.cell? ⟨b, 0, none⟩ = some (.iface 47 (.pointer (some ⟨g, 0, none⟩))) ∧ w'.cell? ⟨w.heap.size, 0, none⟩ = some (.int .i64 v.f0) ∧ w'.cell? ⟨w.heap.size, 1, none⟩ = some (.int .i64 v.f1) ∧ w'.cell? ⟨w.heap.size, 2, none⟩ = some (.string v.f2)) (ds := [5]) #[false, false, false, false, false, false, false] (by kernel_rfl) rfl rfl ⟨(blk_cell (HI.out.drew).1 0).trans rfl, (HI.out.drew).v0, (HI.out.drew).v1, (HI.out.drew).v2⟩ (fun hHeld => ?_)
  refine pure_ (i := 0) (N := some 15) (v := ?_) (a' := ?_) #[true, false, false, false, false, false, false] rfl rfl (by kernel_rfl) (fun _ _ _ h => h) (Or.inl ⟨by rfl, ?_⟩) ?_ ?_
  rotate_left
  · intro w'
    go_simp
    with_reducible rfl
  rotate_left
  · simp only [Act.put, List.setIfInBounds_toArray, List.set_cons_zero, List.set_cons_succ, i64_w, i32_w]
    rfl
  refine pure_ (i := 1) (N := some 16) (v := ?_) (a' := ?_) #[true, true, false, false, false, false, false] rfl rfl (by kernel_rfl) (fun _ _ _ h => h) (Or.inl ⟨by rfl, ?_⟩) ?_ ?_
  rotate_left
  · intro w'
    go_simp
    with_reducible rfl
  rotate_left
  · simp only [Act.put, List.setIfInBounds_toArray, List.set_cons_zero, List.set_cons_succ, i64_w, i32_w]
    rfl
  refine pure_ (i := 2) (N := some 17) (v := ?_) (a' := ?_) #[true, true, true, false, false, false, false] rfl rfl (by kernel_rfl) (fun _ _ _ h => h) (Or.inl ⟨by rfl, ?_⟩) ?_ ?_
  rotate_left
  · intro w'
    go_simp
    with_reducible rfl
  rotate_left
  · simp only [Act.put, List.setIfInBounds_toArray, List.set_cons_zero, List.set_cons_succ, i64_w, i32_w]
    rfl
  refine take_ (i := 3) (N := some 18) (v := ?_) (a' := ?_) #[true, true, true, true, false, false, false] rfl rfl (by kernel_rfl) (fun _ _ _ h => h) (Or.inl ⟨by rfl, ?_⟩) hHeld ?_ ?_
  rotate_left
  · rintro w' ⟨s0, s1, s2, s3⟩
    go_simp
    with_reducible rfl
  rotate_left
  · simp only [Act.put, List.setIfInBounds_toArray, List.set_cons_zero, List.set_cons_succ, i64_w, i32_w]
    rfl
  refine take_ (i := 4) (N := some 19) (v := ?_) (a' := ?_) #[true, true, true, true, true, false, false] rfl rfl (by kernel_rfl) (fun _ _ _ h => h) (Or.inl ⟨by rfl, ?_⟩) hHeld ?_ ?_
  rotate_left
  · rintro w' ⟨s0, s1, s2, s3⟩
    go_simp
    with_reducible rfl
  rotate_left
  · simp only [Act.put, List.setIfInBounds_toArray, List.set_cons_zero, List.set_cons_succ, i64_w, i32_w]
    rfl
  refine last_ (i := 5) (N := some 20) #[true, true, true, true, true, true, false] rfl rfl (by kernel_rfl) (by decide) (fun K hK => ?_)
  refine goesI_ Try.func47 (by kernel_rfl) rfl #[.pointer (some ⟨g, 0, none⟩), .agg #[.int .i64 v.f0, .int .i64 v.f1, .string v.f2]] (by rfl) rfl (by go_simp) ?_
  with_reducible refine (count_add.calls g n v _ HG1.out B HB.out).mono ?_
  rintro e w2 ⟨rfl, hg2, hb2, hk2⟩
  refine ⟨_, rfl, ?_⟩
  have HE := Aside0.mk (hEnd w2 hg2 hb2 hk2)
  clear hg2 hb2 hk2
  refine hK.out _ _ ?_
  clear hK K
  refine norm_ (a' := ?_) ?_ ?_
  rotate_left
  · show Act.put _ (some 20) _ = _
    simp only [Act.put, List.setIfInBounds_toArray, List.set_cons_zero, List.set_cons_succ, i64_w, i32_w]
    rfl
  refine pure_ (i := 6) (N := some 4) (v := ?_) (a' := ?_) #[true, true, true, true, true, true, true] rfl rfl (by kernel_rfl) (fun _ _ _ h => h) (Or.inl ⟨by rfl, ?_⟩) ?_ ?_
  rotate_left
  · intro w'
    go_simp
    with_reducible rfl
  rotate_left
  · simp only [Act.put, List.setIfInBounds_toArray, List.set_cons_zero, List.set_cons_succ, i64_w, i32_w]
    rfl
  refine done_ (by kernel_rfl) ?_
  go_wp2_with fail
  go_ret
  exact ⟨rfl, HE.out⟩
set_option maxHeartbeats 2000000 in
set_option maxRecDepth 100000 in
theorem acc_add.count_r (b g : Nat) (rows : Bool) (n : Int) (v : S32) (w : World) (h : AccAt w b g rows (.count n)) (B : Nat) (hB : B ≤ g) (hz0 : v.f0 = 0) (hz : rows = true) :
    Calls Try.prog 13 #[.pointer (some ⟨b, 0, none⟩), .agg #[.int .i64 v.f0, .int .i64 v.f1, .string v.f2]] w fun e w' =>
      e = .returned (.int .i64 0) ∧ AccAt w' b g rows (.count (wrap64 (n + 1))) ∧ Below B w w' ∧ KeepBut w w' g none := by
  have hu := Try.underlying32
  have hm := m_add_count
  have hne := Aside0.mk h.2.2
  have hb0 : w.heap[b]? = some (.cells #[.iface 47 (.pointer (some ⟨g, 0, none⟩)), .bool rows] 57 (0, 0)) := h.1
  have HS := Aside0.mk (BA.start (v := v) hb0)
  have HG := Aside0.mk h.2.1
  have HL := Aside0.mk (Nat.le_trans hB (Nat.le_of_lt (blk_lt h.2.1)))
  have HB := Aside0.mk hB
  have hc1 : World.cell? _ ⟨b, 1, none⟩ = some (.bool rows) := (blk_cell HS.out.1 1).trans rfl
  have qz0 : (v.f0 == 0) = true := beq_iff_eq.mpr hz0
  have qz : rows = true := hz
  clear hb0 hB h hz0 hz
  go_enter Try.func13, Try.ntmps13
  go_wp2_with fail
  refine at_world (fun w' => BA b w.heap.size #[.iface 47 (.pointer (some ⟨g, 0, none⟩)), .bool rows] 57 v w w') (by repeat (first | exact HS.out | refine BA.drewN ?_ _ | refine BA.drew ?_)) (fun w1 hI => ?_)
  have HI := Aside0.mk hI
  clear hI hc1
  have HG1 := Aside0.mk (blk_below HG.out HI.out.drew.2.2)
  have hEnd : ∀ w2, w2.heap[g]? = some (.cells (.count (wrap64 (n + 1)) : Gst).cells (.count (wrap64 (n + 1)) : Gst).ty (0, 0)) → Below B w1.drew w2 → KeepBut w1.drew w2 g none → AccAt w2 b g rows (.count (wrap64 (n + 1))) ∧ Below B w w2 ∧ KeepBut w w2 g none := fun w2 a1 a2 a3 =>
    ⟨⟨a3.blk HI.out.drew.1 hne.out (by simp), a1, hne.out⟩, (HI.out.drew.2.2.mono HL.out).trans a2, (KeepBut.of_below HI.out.drew.2.2 g none).trans a3 (.inl rfl)⟩
  refine start_ (n := 7) (S := fun w' => w'.cell? ⟨b, 0, none⟩ = some (.iface 47 (.pointer (some ⟨g, 0, none⟩))) ∧ w'.cell? ⟨w.heap.size, 0, none⟩ = some (.int .i64 v.f0) ∧ w'.cell? ⟨w.heap.size, 1, none⟩ = some (.int .i64 v.f1) ∧ w'.cell? ⟨w.heap.size, 2, none⟩ = some (.string v.f2)) (ds := [5]) #[false, false, false, false, false, false, false] (by kernel_rfl) rfl rfl ⟨(blk_cell (HI.out.drew).1 0).trans rfl, (HI.out.drew).v0, (HI.out.drew).v1, (HI.out.drew).v2⟩ (fun hHeld => ?_)
  refine pure_ (i := 0) (N := some 15) (v := ?_) (a' := ?_) #[true, false, false, false, false, false, false] rfl rfl (by kernel_rfl) (fun _ _ _ h => h) (Or.inl ⟨by rfl, ?_⟩) ?_ ?_
  rotate_left
  · intro w'
    go_simp
    with_reducible rfl
  rotate_left
  · simp only [Act.put, List.setIfInBounds_toArray, List.set_cons_zero, List.set_cons_succ, i64_w, i32_w]
    rfl
  refine pure_ (i := 1) (N := some 16) (v := ?_) (a' := ?_) #[true, true, false, false, false, false, false] rfl rfl (by kernel_rfl) (fun _ _ _ h => h) (Or.inl ⟨by rfl, ?_⟩) ?_ ?_
  rotate_left
  · intro w'
    go_simp
    with_reducible rfl
  rotate_left
  · simp only [Act.put, List.setIfInBounds_toArray, List.set_cons_zero, List.set_cons_succ, i64_w, i32_w]
    rfl
  refine pure_ (i := 2) (N := some 17) (v := ?_) (a' := ?_) #[true, true, true, false, false, false, false] rfl rfl (by kernel_rfl) (fun _ _ _ h => h) (Or.inl ⟨by rfl, ?_⟩) ?_ ?_
  rotate_left
  · intro w'
    go_simp
    with_reducible rfl
  rotate_left
  · simp only [Act.put, List.setIfInBounds_toArray, List.set_cons_zero, List.set_cons_succ, i64_w, i32_w]
    rfl
  refine take_ (i := 3) (N := some 18) (v := ?_) (a' := ?_) #[true, true, true, true, false, false, false] rfl rfl (by kernel_rfl) (fun _ _ _ h => h) (Or.inl ⟨by rfl, ?_⟩) hHeld ?_ ?_
  rotate_left
  · rintro w' ⟨s0, s1, s2, s3⟩
    go_simp
    with_reducible rfl
  rotate_left
  · simp only [Act.put, List.setIfInBounds_toArray, List.set_cons_zero, List.set_cons_succ, i64_w, i32_w]
    rfl
  refine take_ (i := 4) (N := some 19) (v := ?_) (a' := ?_) #[true, true, true, true, true, false, false] rfl rfl (by kernel_rfl) (fun _ _ _ h => h) (Or.inl ⟨by rfl, ?_⟩) hHeld ?_ ?_
  rotate_left
  · rintro w' ⟨s0, s1, s2, s3⟩
    go_simp
    with_reducible rfl
  rotate_left
  · simp only [Act.put, List.setIfInBounds_toArray, List.set_cons_zero, List.set_cons_succ, i64_w, i32_w]
    rfl
  refine last_ (i := 5) (N := some 20) #[true, true, true, true, true, true, false] rfl rfl (by kernel_rfl) (by decide) (fun K hK => ?_)
  refine goesI_ Try.func47 (by kernel_rfl) rfl #[.pointer (some ⟨g, 0, none⟩), .agg #[.int .i64 v.f0, .int .i64 v.f1, .string v.f2]] (by rfl) rfl (by go_simp) ?_
  with_reducible refine (count_add.calls g n v _ HG1.out B HB.out).mono ?_
  rintro e w2 ⟨rfl, hg2, hb2, hk2⟩
  refine ⟨_, rfl, ?_⟩
  have HE := Aside0.mk (hEnd w2 hg2 hb2 hk2)
  clear hg2 hb2 hk2
  refine hK.out _ _ ?_
  clear hK K
  refine norm_ (a' := ?_) ?_ ?_
  rotate_left
  · show Act.put _ (some 20) _ = _
    simp only [Act.put, List.setIfInBounds_toArray, List.set_cons_zero, List.set_cons_succ, i64_w, i32_w]
    rfl
  refine pure_ (i := 6) (N := some 4) (v := ?_) (a' := ?_) #[true, true, true, true, true, true, true] rfl rfl (by kernel_rfl) (fun _ _ _ h => h) (Or.inl ⟨by rfl, ?_⟩) ?_ ?_
  rotate_left
  · intro w'
    go_simp
    with_reducible rfl
  rotate_left
  · simp only [Act.put, List.setIfInBounds_toArray, List.set_cons_zero, List.set_cons_succ, i64_w, i32_w]
    rfl
  refine done_ (by kernel_rfl) ?_
  go_wp2_with fail
  go_ret
  exact ⟨rfl, HE.out⟩
set_option maxHeartbeats 2000000 in
set_option maxRecDepth 100000 in
theorem acc_add.sum_moreOk_v (b g : Nat) (rows : Bool) (s : S32) (r : S32) (v : S32) (w : World) (h : AccAt w b g rows (.sum s)) (B : Nat) (hB : B ≤ g) (hz : ¬ v.f0 = 0) (hfs : FitsV s) (hfv : FitsV v) (h0 : ¬ s.f0 = 0) (hr : bin 11 (s) v = .ok r) :
    Calls Try.prog 13 #[.pointer (some ⟨b, 0, none⟩), .agg #[.int .i64 v.f0, .int .i64 v.f1, .string v.f2]] w fun e w' =>
      e = .returned (.int .i64 0) ∧ AccAt w' b g rows (.sum r) ∧ Below B w w' ∧ KeepBut w w' g none := by
  have hu := Try.underlying32
  have hm := m_add_sum
  have hne := Aside0.mk h.2.2
  have hb0 : w.heap[b]? = some (.cells #[.iface 50 (.pointer (some ⟨g, 0, none⟩)), .bool rows] 57 (0, 0)) := h.1
  have HS := Aside0.mk (BA.start (v := v) hb0)
  have HG := Aside0.mk h.2.1
  have HL := Aside0.mk (Nat.le_trans hB (Nat.le_of_lt (blk_lt h.2.1)))
  have HB := Aside0.mk hB
  have hc1 : World.cell? _ ⟨b, 1, none⟩ = some (.bool rows) := (blk_cell HS.out.1 1).trans rfl
  have qz : (v.f0 == 0) = false := beq_eq_false_iff_ne.mpr hz
  have HFs := Aside0.mk hfs
  have HFv := Aside0.mk hfv
  have H0 := Aside0.mk h0
  have HR := Aside0.mk hr
  clear hb0 hB h hz hfs hfv h0 hr
  go_enter Try.func13, Try.ntmps13
  go_wp2_with fail
  refine at_world (fun w' => BA b w.heap.size #[.iface 50 (.pointer (some ⟨g, 0, none⟩)), .bool rows] 57 v w w') (by repeat (first | exact HS.out | refine BA.drewN ?_ _ | refine BA.drew ?_)) (fun w1 hI => ?_)
  have HI := Aside0.mk hI
  clear hI hc1
  have HG1 := Aside0.mk (blk_below HG.out HI.out.drew.2.2)
  have hEnd : ∀ w2, w2.heap[g]? = some (.cells (.sum r : Gst).cells (.sum r : Gst).ty (0, 0)) → Below B w1.drew w2 → KeepBut w1.drew w2 g none → AccAt w2 b g rows (.sum r) ∧ Below B w w2 ∧ KeepBut w w2 g none := fun w2 a1 a2 a3 =>
    ⟨⟨a3.blk HI.out.drew.1 hne.out (by simp), a1, hne.out⟩, (HI.out.drew.2.2.mono HL.out).trans a2, (KeepBut.of_below HI.out.drew.2.2 g none).trans a3 (.inl rfl)⟩
  refine start_ (n := 7) (S := fun w' => w'.cell? ⟨b, 0, none⟩ = some (.iface 50 (.pointer (some ⟨g, 0, none⟩))) ∧ w'.cell? ⟨w.heap.size, 0, none⟩ = some (.int .i64 v.f0) ∧ w'.cell? ⟨w.heap.size, 1, none⟩ = some (.int .i64 v.f1) ∧ w'.cell? ⟨w.heap.size, 2, none⟩ = some (.string v.f2)) (ds := [5]) #[false, false, false, false, false, false, false] (by kernel_rfl) rfl rfl ⟨(blk_cell (HI.out.drew).1 0).trans rfl, (HI.out.drew).v0, (HI.out.drew).v1, (HI.out.drew).v2⟩ (fun hHeld => ?_)
  refine pure_ (i := 0) (N := some 15) (v := ?_) (a' := ?_) #[true, false, false, false, false, false, false] rfl rfl (by kernel_rfl) (fun _ _ _ h => h) (Or.inl ⟨by rfl, ?_⟩) ?_ ?_
  rotate_left
  · intro w'
    go_simp
    with_reducible rfl
  rotate_left
  · simp only [Act.put, List.setIfInBounds_toArray, List.set_cons_zero, List.set_cons_succ, i64_w, i32_w]
    rfl
  refine pure_ (i := 1) (N := some 16) (v := ?_) (a' := ?_) #[true, true, false, false, false, false, false] rfl rfl (by kernel_rfl) (fun _ _ _ h => h) (Or.inl ⟨by rfl, ?_⟩) ?_ ?_
  rotate_left
  · intro w'
    go_simp
    with_reducible rfl
  rotate_left
  · simp only [Act.put, List.setIfInBounds_toArray, List.set_cons_zero, List.set_cons_succ, i64_w, i32_w]
    rfl
  refine pure_ (i := 2) (N := some 17) (v := ?_) (a' := ?_) #[true, true, true, false, false, false, false] rfl rfl (by kernel_rfl) (fun _ _ _ h => h) (Or.inl ⟨by rfl, ?_⟩) ?_ ?_
  rotate_left
  · intro w'
    go_simp
    with_reducible rfl
  rotate_left
  · simp only [Act.put, List.setIfInBounds_toArray, List.set_cons_zero, List.set_cons_succ, i64_w, i32_w]
    rfl
  refine take_ (i := 3) (N := some 18) (v := ?_) (a' := ?_) #[true, true, true, true, false, false, false] rfl rfl (by kernel_rfl) (fun _ _ _ h => h) (Or.inl ⟨by rfl, ?_⟩) hHeld ?_ ?_
  rotate_left
  · rintro w' ⟨s0, s1, s2, s3⟩
    go_simp
    with_reducible rfl
  rotate_left
  · simp only [Act.put, List.setIfInBounds_toArray, List.set_cons_zero, List.set_cons_succ, i64_w, i32_w]
    rfl
  refine take_ (i := 4) (N := some 19) (v := ?_) (a' := ?_) #[true, true, true, true, true, false, false] rfl rfl (by kernel_rfl) (fun _ _ _ h => h) (Or.inl ⟨by rfl, ?_⟩) hHeld ?_ ?_
  rotate_left
  · rintro w' ⟨s0, s1, s2, s3⟩
    go_simp
    with_reducible rfl
  rotate_left
  · simp only [Act.put, List.setIfInBounds_toArray, List.set_cons_zero, List.set_cons_succ, i64_w, i32_w]
    rfl
  refine last_ (i := 5) (N := some 20) #[true, true, true, true, true, true, false] rfl rfl (by kernel_rfl) (by decide) (fun K hK => ?_)
  refine goesI_ Try.func50 (by kernel_rfl) rfl #[.pointer (some ⟨g, 0, none⟩), .agg #[.int .i64 v.f0, .int .i64 v.f1, .string v.f2]] (by rfl) rfl (by go_simp) ?_
  with_reducible refine (sum_add.moreOk g s v _ HG1.out HFs.out HFv.out B HB.out H0.out r HR.out).mono ?_
  rintro e w2 ⟨rfl, hg2, hb2, hk2⟩
  refine ⟨_, rfl, ?_⟩
  have HE := Aside0.mk (hEnd w2 hg2 hb2 hk2)
  clear hg2 hb2 hk2
  refine hK.out _ _ ?_
  clear hK K
  refine norm_ (a' := ?_) ?_ ?_
  rotate_left
  · show Act.put _ (some 20) _ = _
    simp only [Act.put, List.setIfInBounds_toArray, List.set_cons_zero, List.set_cons_succ, i64_w, i32_w]
    rfl
  refine pure_ (i := 6) (N := some 4) (v := ?_) (a' := ?_) #[true, true, true, true, true, true, true] rfl rfl (by kernel_rfl) (fun _ _ _ h => h) (Or.inl ⟨by rfl, ?_⟩) ?_ ?_
  rotate_left
  · intro w'
    go_simp
    with_reducible rfl
  rotate_left
  · simp only [Act.put, List.setIfInBounds_toArray, List.set_cons_zero, List.set_cons_succ, i64_w, i32_w]
    rfl
  refine done_ (by kernel_rfl) ?_
  go_wp2_with fail
  go_ret
  exact ⟨rfl, HE.out⟩
set_option maxHeartbeats 2000000 in
set_option maxRecDepth 100000 in
theorem acc_add.sum_moreOk_r (b g : Nat) (rows : Bool) (s : S32) (r : S32) (v : S32) (w : World) (h : AccAt w b g rows (.sum s)) (B : Nat) (hB : B ≤ g) (hz0 : v.f0 = 0) (hz : rows = true) (hfs : FitsV s) (hfv : FitsV v) (h0 : ¬ s.f0 = 0) (hr : bin 11 (s) v = .ok r) :
    Calls Try.prog 13 #[.pointer (some ⟨b, 0, none⟩), .agg #[.int .i64 v.f0, .int .i64 v.f1, .string v.f2]] w fun e w' =>
      e = .returned (.int .i64 0) ∧ AccAt w' b g rows (.sum r) ∧ Below B w w' ∧ KeepBut w w' g none := by
  have hu := Try.underlying32
  have hm := m_add_sum
  have hne := Aside0.mk h.2.2
  have hb0 : w.heap[b]? = some (.cells #[.iface 50 (.pointer (some ⟨g, 0, none⟩)), .bool rows] 57 (0, 0)) := h.1
  have HS := Aside0.mk (BA.start (v := v) hb0)
  have HG := Aside0.mk h.2.1
  have HL := Aside0.mk (Nat.le_trans hB (Nat.le_of_lt (blk_lt h.2.1)))
  have HB := Aside0.mk hB
  have hc1 : World.cell? _ ⟨b, 1, none⟩ = some (.bool rows) := (blk_cell HS.out.1 1).trans rfl
  have qz0 : (v.f0 == 0) = true := beq_iff_eq.mpr hz0
  have qz : rows = true := hz
  have HFs := Aside0.mk hfs
  have HFv := Aside0.mk hfv
  have H0 := Aside0.mk h0
  have HR := Aside0.mk hr
  clear hb0 hB h hz0 hz hfs hfv h0 hr
  go_enter Try.func13, Try.ntmps13
  go_wp2_with fail
  refine at_world (fun w' => BA b w.heap.size #[.iface 50 (.pointer (some ⟨g, 0, none⟩)), .bool rows] 57 v w w') (by repeat (first | exact HS.out | refine BA.drewN ?_ _ | refine BA.drew ?_)) (fun w1 hI => ?_)
  have HI := Aside0.mk hI
  clear hI hc1
  have HG1 := Aside0.mk (blk_below HG.out HI.out.drew.2.2)
  have hEnd : ∀ w2, w2.heap[g]? = some (.cells (.sum r : Gst).cells (.sum r : Gst).ty (0, 0)) → Below B w1.drew w2 → KeepBut w1.drew w2 g none → AccAt w2 b g rows (.sum r) ∧ Below B w w2 ∧ KeepBut w w2 g none := fun w2 a1 a2 a3 =>
    ⟨⟨a3.blk HI.out.drew.1 hne.out (by simp), a1, hne.out⟩, (HI.out.drew.2.2.mono HL.out).trans a2, (KeepBut.of_below HI.out.drew.2.2 g none).trans a3 (.inl rfl)⟩
  refine start_ (n := 7) (S := fun w' => w'.cell? ⟨b, 0, none⟩ = some (.iface 50 (.pointer (some ⟨g, 0, none⟩))) ∧ w'.cell? ⟨w.heap.size, 0, none⟩ = some (.int .i64 v.f0) ∧ w'.cell? ⟨w.heap.size, 1, none⟩ = some (.int .i64 v.f1) ∧ w'.cell? ⟨w.heap.size, 2, none⟩ = some (.string v.f2)) (ds := [5]) #[false, false, false, false, false, false, false] (by kernel_rfl) rfl rfl ⟨(blk_cell (HI.out.drew).1 0).trans rfl, (HI.out.drew).v0, (HI.out.drew).v1, (HI.out.drew).v2⟩ (fun hHeld => ?_)
  refine pure_ (i := 0) (N := some 15) (v := ?_) (a' := ?_) #[true, false, false, false, false, false, false] rfl rfl (by kernel_rfl) (fun _ _ _ h => h) (Or.inl ⟨by rfl, ?_⟩) ?_ ?_
  rotate_left
  · intro w'
    go_simp
    with_reducible rfl
  rotate_left
  · simp only [Act.put, List.setIfInBounds_toArray, List.set_cons_zero, List.set_cons_succ, i64_w, i32_w]
    rfl
  refine pure_ (i := 1) (N := some 16) (v := ?_) (a' := ?_) #[true, true, false, false, false, false, false] rfl rfl (by kernel_rfl) (fun _ _ _ h => h) (Or.inl ⟨by rfl, ?_⟩) ?_ ?_
  rotate_left
  · intro w'
    go_simp
    with_reducible rfl
  rotate_left
  · simp only [Act.put, List.setIfInBounds_toArray, List.set_cons_zero, List.set_cons_succ, i64_w, i32_w]
    rfl
  refine pure_ (i := 2) (N := some 17) (v := ?_) (a' := ?_) #[true, true, true, false, false, false, false] rfl rfl (by kernel_rfl) (fun _ _ _ h => h) (Or.inl ⟨by rfl, ?_⟩) ?_ ?_
  rotate_left
  · intro w'
    go_simp
    with_reducible rfl
  rotate_left
  · simp only [Act.put, List.setIfInBounds_toArray, List.set_cons_zero, List.set_cons_succ, i64_w, i32_w]
    rfl
  refine take_ (i := 3) (N := some 18) (v := ?_) (a' := ?_) #[true, true, true, true, false, false, false] rfl rfl (by kernel_rfl) (fun _ _ _ h => h) (Or.inl ⟨by rfl, ?_⟩) hHeld ?_ ?_
  rotate_left
  · rintro w' ⟨s0, s1, s2, s3⟩
    go_simp
    with_reducible rfl
  rotate_left
  · simp only [Act.put, List.setIfInBounds_toArray, List.set_cons_zero, List.set_cons_succ, i64_w, i32_w]
    rfl
  refine take_ (i := 4) (N := some 19) (v := ?_) (a' := ?_) #[true, true, true, true, true, false, false] rfl rfl (by kernel_rfl) (fun _ _ _ h => h) (Or.inl ⟨by rfl, ?_⟩) hHeld ?_ ?_
  rotate_left
  · rintro w' ⟨s0, s1, s2, s3⟩
    go_simp
    with_reducible rfl
  rotate_left
  · simp only [Act.put, List.setIfInBounds_toArray, List.set_cons_zero, List.set_cons_succ, i64_w, i32_w]
    rfl
  refine last_ (i := 5) (N := some 20) #[true, true, true, true, true, true, false] rfl rfl (by kernel_rfl) (by decide) (fun K hK => ?_)
  refine goesI_ Try.func50 (by kernel_rfl) rfl #[.pointer (some ⟨g, 0, none⟩), .agg #[.int .i64 v.f0, .int .i64 v.f1, .string v.f2]] (by rfl) rfl (by go_simp) ?_
  with_reducible refine (sum_add.moreOk g s v _ HG1.out HFs.out HFv.out B HB.out H0.out r HR.out).mono ?_
  rintro e w2 ⟨rfl, hg2, hb2, hk2⟩
  refine ⟨_, rfl, ?_⟩
  have HE := Aside0.mk (hEnd w2 hg2 hb2 hk2)
  clear hg2 hb2 hk2
  refine hK.out _ _ ?_
  clear hK K
  refine norm_ (a' := ?_) ?_ ?_
  rotate_left
  · show Act.put _ (some 20) _ = _
    simp only [Act.put, List.setIfInBounds_toArray, List.set_cons_zero, List.set_cons_succ, i64_w, i32_w]
    rfl
  refine pure_ (i := 6) (N := some 4) (v := ?_) (a' := ?_) #[true, true, true, true, true, true, true] rfl rfl (by kernel_rfl) (fun _ _ _ h => h) (Or.inl ⟨by rfl, ?_⟩) ?_ ?_
  rotate_left
  · intro w'
    go_simp
    with_reducible rfl
  rotate_left
  · simp only [Act.put, List.setIfInBounds_toArray, List.set_cons_zero, List.set_cons_succ, i64_w, i32_w]
    rfl
  refine done_ (by kernel_rfl) ?_
  go_wp2_with fail
  go_ret
  exact ⟨rfl, HE.out⟩
set_option maxHeartbeats 2000000 in
set_option maxRecDepth 100000 in
theorem acc_add.sum_moreNo_v (b g : Nat) (rows : Bool) (s : S32) (c : Int) (v : S32) (w : World) (h : AccAt w b g rows (.sum s)) (B : Nat) (hB : B ≤ g) (hz : ¬ v.f0 = 0) (hfs : FitsV s) (hfv : FitsV v) (h0 : ¬ s.f0 = 0) (hr : bin 11 (s) v = .error c) :
    Calls Try.prog 13 #[.pointer (some ⟨b, 0, none⟩), .agg #[.int .i64 v.f0, .int .i64 v.f1, .string v.f2]] w fun e w' =>
      e = .returned (.int .i64 c) ∧ AccAt w' b g rows (.sum s) ∧ Below B w w' ∧ KeepBut w w' g none := by
  have hu := Try.underlying32
  have hm := m_add_sum
  have hne := Aside0.mk h.2.2
  have hb0 : w.heap[b]? = some (.cells #[.iface 50 (.pointer (some ⟨g, 0, none⟩)), .bool rows] 57 (0, 0)) := h.1
  have HS := Aside0.mk (BA.start (v := v) hb0)
  have HG := Aside0.mk h.2.1
  have HL := Aside0.mk (Nat.le_trans hB (Nat.le_of_lt (blk_lt h.2.1)))
  have HB := Aside0.mk hB
  have hc1 : World.cell? _ ⟨b, 1, none⟩ = some (.bool rows) := (blk_cell HS.out.1 1).trans rfl
  have qz : (v.f0 == 0) = false := beq_eq_false_iff_ne.mpr hz
  have HFs := Aside0.mk hfs
  have HFv := Aside0.mk hfv
  have H0 := Aside0.mk h0
  have HR := Aside0.mk hr
  clear hb0 hB h hz hfs hfv h0 hr
  go_enter Try.func13, Try.ntmps13
  go_wp2_with fail
  refine at_world (fun w' => BA b w.heap.size #[.iface 50 (.pointer (some ⟨g, 0, none⟩)), .bool rows] 57 v w w') (by repeat (first | exact HS.out | refine BA.drewN ?_ _ | refine BA.drew ?_)) (fun w1 hI => ?_)
  have HI := Aside0.mk hI
  clear hI hc1
  have HG1 := Aside0.mk (blk_below HG.out HI.out.drew.2.2)
  have hEnd : ∀ w2, w2.heap[g]? = some (.cells (.sum s : Gst).cells (.sum s : Gst).ty (0, 0)) → Below B w1.drew w2 → KeepBut w1.drew w2 g none → AccAt w2 b g rows (.sum s) ∧ Below B w w2 ∧ KeepBut w w2 g none := fun w2 a1 a2 a3 =>
    ⟨⟨a3.blk HI.out.drew.1 hne.out (by simp), a1, hne.out⟩, (HI.out.drew.2.2.mono HL.out).trans a2, (KeepBut.of_below HI.out.drew.2.2 g none).trans a3 (.inl rfl)⟩
  refine start_ (n := 7) (S := fun w' => w'.cell? ⟨b, 0, none⟩ = some (.iface 50 (.pointer (some ⟨g, 0, none⟩))) ∧ w'.cell? ⟨w.heap.size, 0, none⟩ = some (.int .i64 v.f0) ∧ w'.cell? ⟨w.heap.size, 1, none⟩ = some (.int .i64 v.f1) ∧ w'.cell? ⟨w.heap.size, 2, none⟩ = some (.string v.f2)) (ds := [5]) #[false, false, false, false, false, false, false] (by kernel_rfl) rfl rfl ⟨(blk_cell (HI.out.drew).1 0).trans rfl, (HI.out.drew).v0, (HI.out.drew).v1, (HI.out.drew).v2⟩ (fun hHeld => ?_)
  refine pure_ (i := 0) (N := some 15) (v := ?_) (a' := ?_) #[true, false, false, false, false, false, false] rfl rfl (by kernel_rfl) (fun _ _ _ h => h) (Or.inl ⟨by rfl, ?_⟩) ?_ ?_
  rotate_left
  · intro w'
    go_simp
    with_reducible rfl
  rotate_left
  · simp only [Act.put, List.setIfInBounds_toArray, List.set_cons_zero, List.set_cons_succ, i64_w, i32_w]
    rfl
  refine pure_ (i := 1) (N := some 16) (v := ?_) (a' := ?_) #[true, true, false, false, false, false, false] rfl rfl (by kernel_rfl) (fun _ _ _ h => h) (Or.inl ⟨by rfl, ?_⟩) ?_ ?_
  rotate_left
  · intro w'
    go_simp
    with_reducible rfl
  rotate_left
  · simp only [Act.put, List.setIfInBounds_toArray, List.set_cons_zero, List.set_cons_succ, i64_w, i32_w]
    rfl
  refine pure_ (i := 2) (N := some 17) (v := ?_) (a' := ?_) #[true, true, true, false, false, false, false] rfl rfl (by kernel_rfl) (fun _ _ _ h => h) (Or.inl ⟨by rfl, ?_⟩) ?_ ?_
  rotate_left
  · intro w'
    go_simp
    with_reducible rfl
  rotate_left
  · simp only [Act.put, List.setIfInBounds_toArray, List.set_cons_zero, List.set_cons_succ, i64_w, i32_w]
    rfl
  refine take_ (i := 3) (N := some 18) (v := ?_) (a' := ?_) #[true, true, true, true, false, false, false] rfl rfl (by kernel_rfl) (fun _ _ _ h => h) (Or.inl ⟨by rfl, ?_⟩) hHeld ?_ ?_
  rotate_left
  · rintro w' ⟨s0, s1, s2, s3⟩
    go_simp
    with_reducible rfl
  rotate_left
  · simp only [Act.put, List.setIfInBounds_toArray, List.set_cons_zero, List.set_cons_succ, i64_w, i32_w]
    rfl
  refine take_ (i := 4) (N := some 19) (v := ?_) (a' := ?_) #[true, true, true, true, true, false, false] rfl rfl (by kernel_rfl) (fun _ _ _ h => h) (Or.inl ⟨by rfl, ?_⟩) hHeld ?_ ?_
  rotate_left
  · rintro w' ⟨s0, s1, s2, s3⟩
    go_simp
    with_reducible rfl
  rotate_left
  · simp only [Act.put, List.setIfInBounds_toArray, List.set_cons_zero, List.set_cons_succ, i64_w, i32_w]
    rfl
  refine last_ (i := 5) (N := some 20) #[true, true, true, true, true, true, false] rfl rfl (by kernel_rfl) (by decide) (fun K hK => ?_)
  refine goesI_ Try.func50 (by kernel_rfl) rfl #[.pointer (some ⟨g, 0, none⟩), .agg #[.int .i64 v.f0, .int .i64 v.f1, .string v.f2]] (by rfl) rfl (by go_simp) ?_
  with_reducible refine (sum_add.moreNo g s v _ HG1.out HFs.out HFv.out B HB.out H0.out c HR.out).mono ?_
  rintro e w2 ⟨rfl, hg2, hb2, hk2⟩
  refine ⟨_, rfl, ?_⟩
  have HE := Aside0.mk (hEnd w2 hg2 hb2 hk2)
  clear hg2 hb2 hk2
  refine hK.out _ _ ?_
  clear hK K
  refine norm_ (a' := ?_) ?_ ?_
  rotate_left
  · show Act.put _ (some 20) _ = _
    simp only [Act.put, List.setIfInBounds_toArray, List.set_cons_zero, List.set_cons_succ, i64_w, i32_w]
    rfl
  refine pure_ (i := 6) (N := some 4) (v := ?_) (a' := ?_) #[true, true, true, true, true, true, true] rfl rfl (by kernel_rfl) (fun _ _ _ h => h) (Or.inl ⟨by rfl, ?_⟩) ?_ ?_
  rotate_left
  · intro w'
    go_simp
    with_reducible rfl
  rotate_left
  · simp only [Act.put, List.setIfInBounds_toArray, List.set_cons_zero, List.set_cons_succ, i64_w, i32_w]
    rfl
  refine done_ (by kernel_rfl) ?_
  go_wp2_with fail
  go_ret
  exact ⟨rfl, HE.out⟩
set_option maxHeartbeats 2000000 in
set_option maxRecDepth 100000 in
theorem acc_add.sum_moreNo_r (b g : Nat) (rows : Bool) (s : S32) (c : Int) (v : S32) (w : World) (h : AccAt w b g rows (.sum s)) (B : Nat) (hB : B ≤ g) (hz0 : v.f0 = 0) (hz : rows = true) (hfs : FitsV s) (hfv : FitsV v) (h0 : ¬ s.f0 = 0) (hr : bin 11 (s) v = .error c) :
    Calls Try.prog 13 #[.pointer (some ⟨b, 0, none⟩), .agg #[.int .i64 v.f0, .int .i64 v.f1, .string v.f2]] w fun e w' =>
      e = .returned (.int .i64 c) ∧ AccAt w' b g rows (.sum s) ∧ Below B w w' ∧ KeepBut w w' g none := by
  have hu := Try.underlying32
  have hm := m_add_sum
  have hne := Aside0.mk h.2.2
  have hb0 : w.heap[b]? = some (.cells #[.iface 50 (.pointer (some ⟨g, 0, none⟩)), .bool rows] 57 (0, 0)) := h.1
  have HS := Aside0.mk (BA.start (v := v) hb0)
  have HG := Aside0.mk h.2.1
  have HL := Aside0.mk (Nat.le_trans hB (Nat.le_of_lt (blk_lt h.2.1)))
  have HB := Aside0.mk hB
  have hc1 : World.cell? _ ⟨b, 1, none⟩ = some (.bool rows) := (blk_cell HS.out.1 1).trans rfl
  have qz0 : (v.f0 == 0) = true := beq_iff_eq.mpr hz0
  have qz : rows = true := hz
  have HFs := Aside0.mk hfs
  have HFv := Aside0.mk hfv
  have H0 := Aside0.mk h0
  have HR := Aside0.mk hr
  clear hb0 hB h hz0 hz hfs hfv h0 hr
  go_enter Try.func13, Try.ntmps13
  go_wp2_with fail
  refine at_world (fun w' => BA b w.heap.size #[.iface 50 (.pointer (some ⟨g, 0, none⟩)), .bool rows] 57 v w w') (by repeat (first | exact HS.out | refine BA.drewN ?_ _ | refine BA.drew ?_)) (fun w1 hI => ?_)
  have HI := Aside0.mk hI
  clear hI hc1
  have HG1 := Aside0.mk (blk_below HG.out HI.out.drew.2.2)
  have hEnd : ∀ w2, w2.heap[g]? = some (.cells (.sum s : Gst).cells (.sum s : Gst).ty (0, 0)) → Below B w1.drew w2 → KeepBut w1.drew w2 g none → AccAt w2 b g rows (.sum s) ∧ Below B w w2 ∧ KeepBut w w2 g none := fun w2 a1 a2 a3 =>
    ⟨⟨a3.blk HI.out.drew.1 hne.out (by simp), a1, hne.out⟩, (HI.out.drew.2.2.mono HL.out).trans a2, (KeepBut.of_below HI.out.drew.2.2 g none).trans a3 (.inl rfl)⟩
  refine start_ (n := 7) (S := fun w' => w'.cell? ⟨b, 0, none⟩ = some (.iface 50 (.pointer (some ⟨g, 0, none⟩))) ∧ w'.cell? ⟨w.heap.size, 0, none⟩ = some (.int .i64 v.f0) ∧ w'.cell? ⟨w.heap.size, 1, none⟩ = some (.int .i64 v.f1) ∧ w'.cell? ⟨w.heap.size, 2, none⟩ = some (.string v.f2)) (ds := [5]) #[false, false, false, false, false, false, false] (by kernel_rfl) rfl rfl ⟨(blk_cell (HI.out.drew).1 0).trans rfl, (HI.out.drew).v0, (HI.out.drew).v1, (HI.out.drew).v2⟩ (fun hHeld => ?_)
  refine pure_ (i := 0) (N := some 15) (v := ?_) (a' := ?_) #[true, false, false, false, false, false, false] rfl rfl (by kernel_rfl) (fun _ _ _ h => h) (Or.inl ⟨by rfl, ?_⟩) ?_ ?_
  rotate_left
  · intro w'
    go_simp
    with_reducible rfl
  rotate_left
  · simp only [Act.put, List.setIfInBounds_toArray, List.set_cons_zero, List.set_cons_succ, i64_w, i32_w]
    rfl
  refine pure_ (i := 1) (N := some 16) (v := ?_) (a' := ?_) #[true, true, false, false, false, false, false] rfl rfl (by kernel_rfl) (fun _ _ _ h => h) (Or.inl ⟨by rfl, ?_⟩) ?_ ?_
  rotate_left
  · intro w'
    go_simp
    with_reducible rfl
  rotate_left
  · simp only [Act.put, List.setIfInBounds_toArray, List.set_cons_zero, List.set_cons_succ, i64_w, i32_w]
    rfl
  refine pure_ (i := 2) (N := some 17) (v := ?_) (a' := ?_) #[true, true, true, false, false, false, false] rfl rfl (by kernel_rfl) (fun _ _ _ h => h) (Or.inl ⟨by rfl, ?_⟩) ?_ ?_
  rotate_left
  · intro w'
    go_simp
    with_reducible rfl
  rotate_left
  · simp only [Act.put, List.setIfInBounds_toArray, List.set_cons_zero, List.set_cons_succ, i64_w, i32_w]
    rfl
  refine take_ (i := 3) (N := some 18) (v := ?_) (a' := ?_) #[true, true, true, true, false, false, false] rfl rfl (by kernel_rfl) (fun _ _ _ h => h) (Or.inl ⟨by rfl, ?_⟩) hHeld ?_ ?_
  rotate_left
  · rintro w' ⟨s0, s1, s2, s3⟩
    go_simp
    with_reducible rfl
  rotate_left
  · simp only [Act.put, List.setIfInBounds_toArray, List.set_cons_zero, List.set_cons_succ, i64_w, i32_w]
    rfl
  refine take_ (i := 4) (N := some 19) (v := ?_) (a' := ?_) #[true, true, true, true, true, false, false] rfl rfl (by kernel_rfl) (fun _ _ _ h => h) (Or.inl ⟨by rfl, ?_⟩) hHeld ?_ ?_
  rotate_left
  · rintro w' ⟨s0, s1, s2, s3⟩
    go_simp
    with_reducible rfl
  rotate_left
  · simp only [Act.put, List.setIfInBounds_toArray, List.set_cons_zero, List.set_cons_succ, i64_w, i32_w]
    rfl
  refine last_ (i := 5) (N := some 20) #[true, true, true, true, true, true, false] rfl rfl (by kernel_rfl) (by decide) (fun K hK => ?_)
  refine goesI_ Try.func50 (by kernel_rfl) rfl #[.pointer (some ⟨g, 0, none⟩), .agg #[.int .i64 v.f0, .int .i64 v.f1, .string v.f2]] (by rfl) rfl (by go_simp) ?_
  with_reducible refine (sum_add.moreNo g s v _ HG1.out HFs.out HFv.out B HB.out H0.out c HR.out).mono ?_
  rintro e w2 ⟨rfl, hg2, hb2, hk2⟩
  refine ⟨_, rfl, ?_⟩
  have HE := Aside0.mk (hEnd w2 hg2 hb2 hk2)
  clear hg2 hb2 hk2
  refine hK.out _ _ ?_
  clear hK K
  refine norm_ (a' := ?_) ?_ ?_
  rotate_left
  · show Act.put _ (some 20) _ = _
    simp only [Act.put, List.setIfInBounds_toArray, List.set_cons_zero, List.set_cons_succ, i64_w, i32_w]
    rfl
  refine pure_ (i := 6) (N := some 4) (v := ?_) (a' := ?_) #[true, true, true, true, true, true, true] rfl rfl (by kernel_rfl) (fun _ _ _ h => h) (Or.inl ⟨by rfl, ?_⟩) ?_ ?_
  rotate_left
  · intro w'
    go_simp
    with_reducible rfl
  rotate_left
  · simp only [Act.put, List.setIfInBounds_toArray, List.set_cons_zero, List.set_cons_succ, i64_w, i32_w]
    rfl
  refine done_ (by kernel_rfl) ?_
  go_wp2_with fail
  go_ret
  exact ⟨rfl, HE.out⟩
set_option maxHeartbeats 2000000 in
set_option maxRecDepth 100000 in
theorem acc_add.sum_nullOk_v (b g : Nat) (rows : Bool) (s : S32) (r : S32) (v : S32) (w : World) (h : AccAt w b g rows (.sum s)) (B : Nat) (hB : B ≤ g) (hz : ¬ v.f0 = 0) (hfs : FitsV s) (hfv : FitsV v) (h0 : s.f0 = 0) (hr : bin 11 (numV 0) v = .ok r) :
    Calls Try.prog 13 #[.pointer (some ⟨b, 0, none⟩), .agg #[.int .i64 v.f0, .int .i64 v.f1, .string v.f2]] w fun e w' =>
      e = .returned (.int .i64 0) ∧ AccAt w' b g rows (.sum r) ∧ Below B w w' ∧ KeepBut w w' g none := by
  have hu := Try.underlying32
  have hm := m_add_sum
  have hne := Aside0.mk h.2.2
  have hb0 : w.heap[b]? = some (.cells #[.iface 50 (.pointer (some ⟨g, 0, none⟩)), .bool rows] 57 (0, 0)) := h.1
  have HS := Aside0.mk (BA.start (v := v) hb0)
  have HG := Aside0.mk h.2.1
  have HL := Aside0.mk (Nat.le_trans hB (Nat.le_of_lt (blk_lt h.2.1)))
  have HB := Aside0.mk hB
  have hc1 : World.cell? _ ⟨b, 1, none⟩ = some (.bool rows) := (blk_cell HS.out.1 1).trans rfl
  have qz : (v.f0 == 0) = false := beq_eq_false_iff_ne.mpr hz
  have HFs := Aside0.mk hfs
  have HFv := Aside0.mk hfv
  have H0 := Aside0.mk h0
  have HR := Aside0.mk hr
  clear hb0 hB h hz hfs hfv h0 hr
  go_enter Try.func13, Try.ntmps13
  go_wp2_with fail
  refine at_world (fun w' => BA b w.heap.size #[.iface 50 (.pointer (some ⟨g, 0, none⟩)), .bool rows] 57 v w w') (by repeat (first | exact HS.out | refine BA.drewN ?_ _ | refine BA.drew ?_)) (fun w1 hI => ?_)
  have HI := Aside0.mk hI
  clear hI hc1
  have HG1 := Aside0.mk (blk_below HG.out HI.out.drew.2.2)
  have hEnd : ∀ w2, w2.heap[g]? = some (.cells (.sum r : Gst).cells (.sum r : Gst).ty (0, 0)) → Below B w1.drew w2 → KeepBut w1.drew w2 g none → AccAt w2 b g rows (.sum r) ∧ Below B w w2 ∧ KeepBut w w2 g none := fun w2 a1 a2 a3 =>
    ⟨⟨a3.blk HI.out.drew.1 hne.out (by simp), a1, hne.out⟩, (HI.out.drew.2.2.mono HL.out).trans a2, (KeepBut.of_below HI.out.drew.2.2 g none).trans a3 (.inl rfl)⟩
  refine start_ (n := 7) (S := fun w' => w'.cell? ⟨b, 0, none⟩ = some (.iface 50 (.pointer (some ⟨g, 0, none⟩))) ∧ w'.cell? ⟨w.heap.size, 0, none⟩ = some (.int .i64 v.f0) ∧ w'.cell? ⟨w.heap.size, 1, none⟩ = some (.int .i64 v.f1) ∧ w'.cell? ⟨w.heap.size, 2, none⟩ = some (.string v.f2)) (ds := [5]) #[false, false, false, false, false, false, false] (by kernel_rfl) rfl rfl ⟨(blk_cell (HI.out.drew).1 0).trans rfl, (HI.out.drew).v0, (HI.out.drew).v1, (HI.out.drew).v2⟩ (fun hHeld => ?_)
  refine pure_ (i := 0) (N := some 15) (v := ?_) (a' := ?_) #[true, false, false, false, false, false, false] rfl rfl (by kernel_rfl) (fun _ _ _ h => h) (Or.inl ⟨by rfl, ?_⟩) ?_ ?_
  rotate_left
  · intro w'
    go_simp
    with_reducible rfl
  rotate_left
  · simp only [Act.put, List.setIfInBounds_toArray, List.set_cons_zero, List.set_cons_succ, i64_w, i32_w]
    rfl
  refine pure_ (i := 1) (N := some 16) (v := ?_) (a' := ?_) #[true, true, false, false, false, false, false] rfl rfl (by kernel_rfl) (fun _ _ _ h => h) (Or.inl ⟨by rfl, ?_⟩) ?_ ?_
  rotate_left
  · intro w'
    go_simp
    with_reducible rfl
  rotate_left
  · simp only [Act.put, List.setIfInBounds_toArray, List.set_cons_zero, List.set_cons_succ, i64_w, i32_w]
    rfl
  refine pure_ (i := 2) (N := some 17) (v := ?_) (a' := ?_) #[true, true, true, false, false, false, false] rfl rfl (by kernel_rfl) (fun _ _ _ h => h) (Or.inl ⟨by rfl, ?_⟩) ?_ ?_
  rotate_left
  · intro w'
    go_simp
    with_reducible rfl
  rotate_left
  · simp only [Act.put, List.setIfInBounds_toArray, List.set_cons_zero, List.set_cons_succ, i64_w, i32_w]
    rfl
  refine take_ (i := 3) (N := some 18) (v := ?_) (a' := ?_) #[true, true, true, true, false, false, false] rfl rfl (by kernel_rfl) (fun _ _ _ h => h) (Or.inl ⟨by rfl, ?_⟩) hHeld ?_ ?_
  rotate_left
  · rintro w' ⟨s0, s1, s2, s3⟩
    go_simp
    with_reducible rfl
  rotate_left
  · simp only [Act.put, List.setIfInBounds_toArray, List.set_cons_zero, List.set_cons_succ, i64_w, i32_w]
    rfl
  refine take_ (i := 4) (N := some 19) (v := ?_) (a' := ?_) #[true, true, true, true, true, false, false] rfl rfl (by kernel_rfl) (fun _ _ _ h => h) (Or.inl ⟨by rfl, ?_⟩) hHeld ?_ ?_
  rotate_left
  · rintro w' ⟨s0, s1, s2, s3⟩
    go_simp
    with_reducible rfl
  rotate_left
  · simp only [Act.put, List.setIfInBounds_toArray, List.set_cons_zero, List.set_cons_succ, i64_w, i32_w]
    rfl
  refine last_ (i := 5) (N := some 20) #[true, true, true, true, true, true, false] rfl rfl (by kernel_rfl) (by decide) (fun K hK => ?_)
  refine goesI_ Try.func50 (by kernel_rfl) rfl #[.pointer (some ⟨g, 0, none⟩), .agg #[.int .i64 v.f0, .int .i64 v.f1, .string v.f2]] (by rfl) rfl (by go_simp) ?_
  with_reducible refine (sum_add.nullOk g s v _ HG1.out HFs.out HFv.out B HB.out H0.out r HR.out).mono ?_
  rintro e w2 ⟨rfl, hg2, hb2, hk2⟩
  refine ⟨_, rfl, ?_⟩
  have HE := Aside0.mk (hEnd w2 hg2 hb2 hk2)
  clear hg2 hb2 hk2
  refine hK.out _ _ ?_
  clear hK K
  refine norm_ (a' := ?_) ?_ ?_
  rotate_left
  · show Act.put _ (some 20) _ = _
    simp only [Act.put, List.setIfInBounds_toArray, List.set_cons_zero, List.set_cons_succ, i64_w, i32_w]
    rfl
  refine pure_ (i := 6) (N := some 4) (v := ?_) (a' := ?_) #[true, true, true, true, true, true, true] rfl rfl (by kernel_rfl) (fun _ _ _ h => h) (Or.inl ⟨by rfl, ?_⟩) ?_ ?_
  rotate_left
  · intro w'
    go_simp
    with_reducible rfl
  rotate_left
  · simp only [Act.put, List.setIfInBounds_toArray, List.set_cons_zero, List.set_cons_succ, i64_w, i32_w]
    rfl
  refine done_ (by kernel_rfl) ?_
  go_wp2_with fail
  go_ret
  exact ⟨rfl, HE.out⟩
set_option maxHeartbeats 2000000 in
set_option maxRecDepth 100000 in
theorem acc_add.sum_nullOk_r (b g : Nat) (rows : Bool) (s : S32) (r : S32) (v : S32) (w : World) (h : AccAt w b g rows (.sum s)) (B : Nat) (hB : B ≤ g) (hz0 : v.f0 = 0) (hz : rows = true) (hfs : FitsV s) (hfv : FitsV v) (h0 : s.f0 = 0) (hr : bin 11 (numV 0) v = .ok r) :
    Calls Try.prog 13 #[.pointer (some ⟨b, 0, none⟩), .agg #[.int .i64 v.f0, .int .i64 v.f1, .string v.f2]] w fun e w' =>
      e = .returned (.int .i64 0) ∧ AccAt w' b g rows (.sum r) ∧ Below B w w' ∧ KeepBut w w' g none := by
  have hu := Try.underlying32
  have hm := m_add_sum
  have hne := Aside0.mk h.2.2
  have hb0 : w.heap[b]? = some (.cells #[.iface 50 (.pointer (some ⟨g, 0, none⟩)), .bool rows] 57 (0, 0)) := h.1
  have HS := Aside0.mk (BA.start (v := v) hb0)
  have HG := Aside0.mk h.2.1
  have HL := Aside0.mk (Nat.le_trans hB (Nat.le_of_lt (blk_lt h.2.1)))
  have HB := Aside0.mk hB
  have hc1 : World.cell? _ ⟨b, 1, none⟩ = some (.bool rows) := (blk_cell HS.out.1 1).trans rfl
  have qz0 : (v.f0 == 0) = true := beq_iff_eq.mpr hz0
  have qz : rows = true := hz
  have HFs := Aside0.mk hfs
  have HFv := Aside0.mk hfv
  have H0 := Aside0.mk h0
  have HR := Aside0.mk hr
  clear hb0 hB h hz0 hz hfs hfv h0 hr
  go_enter Try.func13, Try.ntmps13
  go_wp2_with fail
  refine at_world (fun w' => BA b w.heap.size #[.iface 50 (.pointer (some ⟨g, 0, none⟩)), .bool rows] 57 v w w') (by repeat (first | exact HS.out | refine BA.drewN ?_ _ | refine BA.drew ?_)) (fun w1 hI => ?_)
  have HI := Aside0.mk hI
  clear hI hc1
  have HG1 := Aside0.mk (blk_below HG.out HI.out.drew.2.2)
  have hEnd : ∀ w2, w2.heap[g]? = some (.cells (.sum r : Gst).cells (.sum r : Gst).ty (0, 0)) → Below B w1.drew w2 → KeepBut w1.drew w2 g none → AccAt w2 b g rows (.sum r) ∧ Below B w w2 ∧ KeepBut w w2 g none := fun w2 a1 a2 a3 =>
    ⟨⟨a3.blk HI.out.drew.1 hne.out (by simp), a1, hne.out⟩, (HI.out.drew.2.2.mono HL.out).trans a2, (KeepBut.of_below HI.out.drew.2.2 g none).trans a3 (.inl rfl)⟩
  refine start_ (n := 7) (S := fun w' => w'.cell? ⟨b, 0, none⟩ = some (.iface 50 (.pointer (some ⟨g, 0, none⟩))) ∧ w'.cell? ⟨w.heap.size, 0, none⟩ = some (.int .i64 v.f0) ∧ w'.cell? ⟨w.heap.size, 1, none⟩ = some (.int .i64 v.f1) ∧ w'.cell? ⟨w.heap.size, 2, none⟩ = some (.string v.f2)) (ds := [5]) #[false, false, false, false, false, false, false] (by kernel_rfl) rfl rfl ⟨(blk_cell (HI.out.drew).1 0).trans rfl, (HI.out.drew).v0, (HI.out.drew).v1, (HI.out.drew).v2⟩ (fun hHeld => ?_)
  refine pure_ (i := 0) (N := some 15) (v := ?_) (a' := ?_) #[true, false, false, false, false, false, false] rfl rfl (by kernel_rfl) (fun _ _ _ h => h) (Or.inl ⟨by rfl, ?_⟩) ?_ ?_
  rotate_left
  · intro w'
    go_simp
    with_reducible rfl
  rotate_left
  · simp only [Act.put, List.setIfInBounds_toArray, List.set_cons_zero, List.set_cons_succ, i64_w, i32_w]
    rfl
  refine pure_ (i := 1) (N := some 16) (v := ?_) (a' := ?_) #[true, true, false, false, false, false, false] rfl rfl (by kernel_rfl) (fun _ _ _ h => h) (Or.inl ⟨by rfl, ?_⟩) ?_ ?_
  rotate_left
  · intro w'
    go_simp
    with_reducible rfl
  rotate_left
  · simp only [Act.put, List.setIfInBounds_toArray, List.set_cons_zero, List.set_cons_succ, i64_w, i32_w]
    rfl
  refine pure_ (i := 2) (N := some 17) (v := ?_) (a' := ?_) #[true, true, true, false, false, false, false] rfl rfl (by kernel_rfl) (fun _ _ _ h => h) (Or.inl ⟨by rfl, ?_⟩) ?_ ?_
  rotate_left
  · intro w'
    go_simp
    with_reducible rfl
  rotate_left
  · simp only [Act.put, List.setIfInBounds_toArray, List.set_cons_zero, List.set_cons_succ, i64_w, i32_w]
    rfl
  refine take_ (i := 3) (N := some 18) (v := ?_) (a' := ?_) #[true, true, true, true, false, false, false] rfl rfl (by kernel_rfl) (fun _ _ _ h => h) (Or.inl ⟨by rfl, ?_⟩) hHeld ?_ ?_
  rotate_left
  · rintro w' ⟨s0, s1, s2, s3⟩
    go_simp
    with_reducible rfl
  rotate_left
  · simp only [Act.put, List.setIfInBounds_toArray, List.set_cons_zero, List.set_cons_succ, i64_w, i32_w]
    rfl
  refine take_ (i := 4) (N := some 19) (v := ?_) (a' := ?_) #[true, true, true, true, true, false, false] rfl rfl (by kernel_rfl) (fun _ _ _ h => h) (Or.inl ⟨by rfl, ?_⟩) hHeld ?_ ?_
  rotate_left
  · rintro w' ⟨s0, s1, s2, s3⟩
    go_simp
    with_reducible rfl
  rotate_left
  · simp only [Act.put, List.setIfInBounds_toArray, List.set_cons_zero, List.set_cons_succ, i64_w, i32_w]
    rfl
  refine last_ (i := 5) (N := some 20) #[true, true, true, true, true, true, false] rfl rfl (by kernel_rfl) (by decide) (fun K hK => ?_)
  refine goesI_ Try.func50 (by kernel_rfl) rfl #[.pointer (some ⟨g, 0, none⟩), .agg #[.int .i64 v.f0, .int .i64 v.f1, .string v.f2]] (by rfl) rfl (by go_simp) ?_
  with_reducible refine (sum_add.nullOk g s v _ HG1.out HFs.out HFv.out B HB.out H0.out r HR.out).mono ?_
  rintro e w2 ⟨rfl, hg2, hb2, hk2⟩
  refine ⟨_, rfl, ?_⟩
  have HE := Aside0.mk (hEnd w2 hg2 hb2 hk2)
  clear hg2 hb2 hk2
  refine hK.out _ _ ?_
  clear hK K
  refine norm_ (a' := ?_) ?_ ?_
  rotate_left
  · show Act.put _ (some 20) _ = _
    simp only [Act.put, List.setIfInBounds_toArray, List.set_cons_zero, List.set_cons_succ, i64_w, i32_w]
    rfl
  refine pure_ (i := 6) (N := some 4) (v := ?_) (a' := ?_) #[true, true, true, true, true, true, true] rfl rfl (by kernel_rfl) (fun _ _ _ h => h) (Or.inl ⟨by rfl, ?_⟩) ?_ ?_
  rotate_left
  · intro w'
    go_simp
    with_reducible rfl
  rotate_left
  · simp only [Act.put, List.setIfInBounds_toArray, List.set_cons_zero, List.set_cons_succ, i64_w, i32_w]
    rfl
  refine done_ (by kernel_rfl) ?_
  go_wp2_with fail
  go_ret
  exact ⟨rfl, HE.out⟩
set_option maxHeartbeats 2000000 in
set_option maxRecDepth 100000 in
theorem acc_add.sum_nullNo_v (b g : Nat) (rows : Bool) (s : S32) (c : Int) (v : S32) (w : World) (h : AccAt w b g rows (.sum s)) (B : Nat) (hB : B ≤ g) (hz : ¬ v.f0 = 0) (hfs : FitsV s) (hfv : FitsV v) (h0 : s.f0 = 0) (hr : bin 11 (numV 0) v = .error c) :
    Calls Try.prog 13 #[.pointer (some ⟨b, 0, none⟩), .agg #[.int .i64 v.f0, .int .i64 v.f1, .string v.f2]] w fun e w' =>
      e = .returned (.int .i64 c) ∧ AccAt w' b g rows (.sum s) ∧ Below B w w' ∧ KeepBut w w' g none := by
  have hu := Try.underlying32
  have hm := m_add_sum
  have hne := Aside0.mk h.2.2
  have hb0 : w.heap[b]? = some (.cells #[.iface 50 (.pointer (some ⟨g, 0, none⟩)), .bool rows] 57 (0, 0)) := h.1
  have HS := Aside0.mk (BA.start (v := v) hb0)
  have HG := Aside0.mk h.2.1
  have HL := Aside0.mk (Nat.le_trans hB (Nat.le_of_lt (blk_lt h.2.1)))
  have HB := Aside0.mk hB
  have hc1 : World.cell? _ ⟨b, 1, none⟩ = some (.bool rows) := (blk_cell HS.out.1 1).trans rfl
  have qz : (v.f0 == 0) = false := beq_eq_false_iff_ne.mpr hz
  have HFs := Aside0.mk hfs
  have HFv := Aside0.mk hfv
  have H0 := Aside0.mk h0
  have HR := Aside0.mk hr
  clear hb0 hB h hz hfs hfv h0 hr
  go_enter Try.func13, Try.ntmps13
  go_wp2_with fail
  refine at_world (fun w' => BA b w.heap.size #[.iface 50 (.pointer (some ⟨g, 0, none⟩)), .bool rows] 57 v w w') (by repeat (first | exact HS.out | refine BA.drewN ?_ _ | refine BA.drew ?_)) (fun w1 hI => ?_)
  have HI := Aside0.mk hI
  clear hI hc1
  have HG1 := Aside0.mk (blk_below HG.out HI.out.drew.2.2)
  have hEnd : ∀ w2, w2.heap[g]? = some (.cells (.sum s : Gst).cells (.sum s : Gst).ty (0, 0)) → Below B w1.drew w2 → KeepBut w1.drew w2 g none → AccAt w2 b g rows (.sum s) ∧ Below B w w2 ∧ KeepBut w w2 g none := fun w2 a1 a2 a3 =>
    ⟨⟨a3.blk HI.out.drew.1 hne.out (by simp), a1, hne.out⟩, (HI.out.drew.2.2.mono HL.out).trans a2, (KeepBut.of_below HI.out.drew.2.2 g none).trans a3 (.inl rfl)⟩
  refine start_ (n := 7) (S := fun w' => w'.cell? ⟨b, 0, none⟩ = some (.iface 50 (.pointer (some ⟨g, 0, none⟩))) ∧ w'.cell? ⟨w.heap.size, 0, none⟩ = some (.int .i64 v.f0) ∧ w'.cell? ⟨w.heap.size, 1, none⟩ = some (.int .i64 v.f1) ∧ w'.cell? ⟨w.heap.size, 2, none⟩ = some (.string v.f2)) (ds := [5]) #[false, false, false, false, false, false, false] (by kernel_rfl) rfl rfl ⟨(blk_cell (HI.out.drew).1 0).trans rfl, (HI.out.drew).v0, (HI.out.drew).v1, (HI.out.drew).v2⟩ (fun hHeld => ?_)
  refine pure_ (i := 0) (N := some 15) (v := ?_) (a' := ?_) #[true, false, false, false, false, false, false] rfl rfl (by kernel_rfl) (fun _ _ _ h => h) (Or.inl ⟨by rfl, ?_⟩) ?_ ?_
  rotate_left
  · intro w'
    go_simp
    with_reducible rfl
  rotate_left
  · simp only [Act.put, List.setIfInBounds_toArray, List.set_cons_zero, List.set_cons_succ, i64_w, i32_w]
    rfl
  refine pure_ (i := 1) (N := some 16) (v := ?_) (a' := ?_) #[true, true, false, false, false, false, false] rfl rfl (by kernel_rfl) (fun _ _ _ h => h) (Or.inl ⟨by rfl, ?_⟩) ?_ ?_
  rotate_left
  · intro w'
    go_simp
    with_reducible rfl
  rotate_left
  · simp only [Act.put, List.setIfInBounds_toArray, List.set_cons_zero, List.set_cons_succ, i64_w, i32_w]
    rfl
  refine pure_ (i := 2) (N := some 17) (v := ?_) (a' := ?_) #[true, true, true, false, false, false, false] rfl rfl (by kernel_rfl) (fun _ _ _ h => h) (Or.inl ⟨by rfl, ?_⟩) ?_ ?_
  rotate_left
  · intro w'
    go_simp
    with_reducible rfl
  rotate_left
  · simp only [Act.put, List.setIfInBounds_toArray, List.set_cons_zero, List.set_cons_succ, i64_w, i32_w]
    rfl
  refine take_ (i := 3) (N := some 18) (v := ?_) (a' := ?_) #[true, true, true, true, false, false, false] rfl rfl (by kernel_rfl) (fun _ _ _ h => h) (Or.inl ⟨by rfl, ?_⟩) hHeld ?_ ?_
  rotate_left
  · rintro w' ⟨s0, s1, s2, s3⟩
    go_simp
    with_reducible rfl
  rotate_left
  · simp only [Act.put, List.setIfInBounds_toArray, List.set_cons_zero, List.set_cons_succ, i64_w, i32_w]
    rfl
  refine take_ (i := 4) (N := some 19) (v := ?_) (a' := ?_) #[true, true, true, true, true, false, false] rfl rfl (by kernel_rfl) (fun _ _ _ h => h) (Or.inl ⟨by rfl, ?_⟩) hHeld ?_ ?_
  rotate_left
  · rintro w' ⟨s0, s1, s2, s3⟩
    go_simp
    with_reducible rfl
  rotate_left
  · simp only [Act.put, List.setIfInBounds_toArray, List.set_cons_zero, List.set_cons_succ, i64_w, i32_w]
    rfl
  refine last_ (i := 5) (N := some 20) #[true, true, true, true, true, true, false] rfl rfl (by kernel_rfl) (by decide) (fun K hK => ?_)
  refine goesI_ Try.func50 (by kernel_rfl) rfl #[.pointer (some ⟨g, 0, none⟩), .agg #[.int .i64 v.f0, .int .i64 v.f1, .string v.f2]] (by rfl) rfl (by go_simp) ?_
  with_reducible refine (sum_add.nullNo g s v _ HG1.out HFs.out HFv.out B HB.out H0.out c HR.out).mono ?_
  rintro e w2 ⟨rfl, hg2, hb2, hk2⟩
  refine ⟨_, rfl, ?_⟩
  have HE := Aside0.mk (hEnd w2 hg2 hb2 hk2)
  clear hg2 hb2 hk2
  refine hK.out _ _ ?_
  clear hK K
  refine norm_ (a' := ?_) ?_ ?_
  rotate_left
  · show Act.put _ (some 20) _ = _
    simp only [Act.put, List.setIfInBounds_toArray, List.set_cons_zero, List.set_cons_succ, i64_w, i32_w]
    rfl
  refine pure_ (i := 6) (N := some 4) (v := ?_) (a' := ?_) #[true, true, true, true, true, true, true] rfl rfl (by kernel_rfl) (fun _ _ _ h => h) (Or.inl ⟨by rfl, ?_⟩) ?_ ?_
  rotate_left
  · intro w'
    go_simp
    with_reducible rfl
  rotate_left
  · simp only [Act.put, List.setIfInBounds_toArray, List.set_cons_zero, List.set_cons_succ, i64_w, i32_w]
    rfl
  refine done_ (by kernel_rfl) ?_
  go_wp2_with fail
  go_ret
  exact ⟨rfl, HE.out⟩
set_option maxHeartbeats 2000000 in
set_option maxRecDepth 100000 in
theorem acc_add.sum_nullNo_r (b g : Nat) (rows : Bool) (s : S32) (c : Int) (v : S32) (w : World) (h : AccAt w b g rows (.sum s)) (B : Nat) (hB : B ≤ g) (hz0 : v.f0 = 0) (hz : rows = true) (hfs : FitsV s) (hfv : FitsV v) (h0 : s.f0 = 0) (hr : bin 11 (numV 0) v = .error c) :
    Calls Try.prog 13 #[.pointer (some ⟨b, 0, none⟩), .agg #[.int .i64 v.f0, .int .i64 v.f1, .string v.f2]] w fun e w' =>
      e = .returned (.int .i64 c) ∧ AccAt w' b g rows (.sum s) ∧ Below B w w' ∧ KeepBut w w' g none := by
  have hu := Try.underlying32
  have hm := m_add_sum
  have hne := Aside0.mk h.2.2
  have hb0 : w.heap[b]? = some (.cells #[.iface 50 (.pointer (some ⟨g, 0, none⟩)), .bool rows] 57 (0, 0)) := h.1
  have HS := Aside0.mk (BA.start (v := v) hb0)
  have HG := Aside0.mk h.2.1
  have HL := Aside0.mk (Nat.le_trans hB (Nat.le_of_lt (blk_lt h.2.1)))
  have HB := Aside0.mk hB
  have hc1 : World.cell? _ ⟨b, 1, none⟩ = some (.bool rows) := (blk_cell HS.out.1 1).trans rfl
  have qz0 : (v.f0 == 0) = true := beq_iff_eq.mpr hz0
  have qz : rows = true := hz
  have HFs := Aside0.mk hfs
  have HFv := Aside0.mk hfv
  have H0 := Aside0.mk h0
  have HR := Aside0.mk hr
  clear hb0 hB h hz0 hz hfs hfv h0 hr
  go_enter Try.func13, Try.ntmps13
  go_wp2_with fail
  refine at_world (fun w' => BA b w.heap.size #[.iface 50 (.pointer (some ⟨g, 0, none⟩)), .bool rows] 57 v w w') (by repeat (first | exact HS.out | refine BA.drewN ?_ _ | refine BA.drew ?_)) (fun w1 hI => ?_)
  have HI := Aside0.mk hI
  clear hI hc1
  have HG1 := Aside0.mk (blk_below HG.out HI.out.drew.2.2)
  have hEnd : ∀ w2, w2.heap[g]? = some (.cells (.sum s : Gst).cells (.sum s : Gst).ty (0, 0)) → Below B w1.drew w2 → KeepBut w1.drew w2 g none → AccAt w2 b g rows (.sum s) ∧ Below B w w2 ∧ KeepBut w w2 g none := fun w2 a1 a2 a3 =>
    ⟨⟨a3.blk HI.out.drew.1 hne.out (by simp), a1, hne.out⟩, (HI.out.drew.2.2.mono HL.out).trans a2, (KeepBut.of_below HI.out.drew.2.2 g none).trans a3 (.inl rfl)⟩
  refine start_ (n := 7) (S := fun w' => w'.cell? ⟨b, 0, none⟩ = some (.iface 50 (.pointer (some ⟨g, 0, none⟩))) ∧ w'.cell? ⟨w.heap.size, 0, none⟩ = some (.int .i64 v.f0) ∧ w'.cell? ⟨w.heap.size, 1, none⟩ = some (.int .i64 v.f1) ∧ w'.cell? ⟨w.heap.size, 2, none⟩ = some (.string v.f2)) (ds := [5]) #[false, false, false, false, false, false, false] (by kernel_rfl) rfl rfl ⟨(blk_cell (HI.out.drew).1 0).trans rfl, (HI.out.drew).v0, (HI.out.drew).v1, (HI.out.drew).v2⟩ (fun hHeld => ?_)
  refine pure_ (i := 0) (N := some 15) (v := ?_) (a' := ?_) #[true, false, false, false, false, false, false] rfl rfl (by kernel_rfl) (fun _ _ _ h => h) (Or.inl ⟨by rfl, ?_⟩) ?_ ?_
  rotate_left
  · intro w'
    go_simp
    with_reducible rfl
  rotate_left
  · simp only [Act.put, List.setIfInBounds_toArray, List.set_cons_zero, List.set_cons_succ, i64_w, i32_w]
    rfl
  refine pure_ (i := 1) (N := some 16) (v := ?_) (a' := ?_) #[true, true, false, false, false, false, false] rfl rfl (by kernel_rfl) (fun _ _ _ h => h) (Or.inl ⟨by rfl, ?_⟩) ?_ ?_
  rotate_left
  · intro w'
    go_simp
    with_reducible rfl
  rotate_left
  · simp only [Act.put, List.setIfInBounds_toArray, List.set_cons_zero, List.set_cons_succ, i64_w, i32_w]
    rfl
  refine pure_ (i := 2) (N := some 17) (v := ?_) (a' := ?_) #[true, true, true, false, false, false, false] rfl rfl (by kernel_rfl) (fun _ _ _ h => h) (Or.inl ⟨by rfl, ?_⟩) ?_ ?_
  rotate_left
  · intro w'
    go_simp
    with_reducible rfl
  rotate_left
  · simp only [Act.put, List.setIfInBounds_toArray, List.set_cons_zero, List.set_cons_succ, i64_w, i32_w]
    rfl
  refine take_ (i := 3) (N := some 18) (v := ?_) (a' := ?_) #[true, true, true, true, false, false, false] rfl rfl (by kernel_rfl) (fun _ _ _ h => h) (Or.inl ⟨by rfl, ?_⟩) hHeld ?_ ?_
  rotate_left
  · rintro w' ⟨s0, s1, s2, s3⟩
    go_simp
    with_reducible rfl
  rotate_left
  · simp only [Act.put, List.setIfInBounds_toArray, List.set_cons_zero, List.set_cons_succ, i64_w, i32_w]
    rfl
  refine take_ (i := 4) (N := some 19) (v := ?_) (a' := ?_) #[true, true, true, true, true, false, false] rfl rfl (by kernel_rfl) (fun _ _ _ h => h) (Or.inl ⟨by rfl, ?_⟩) hHeld ?_ ?_
  rotate_left
  · rintro w' ⟨s0, s1, s2, s3⟩
    go_simp
    with_reducible rfl
  rotate_left
  · simp only [Act.put, List.setIfInBounds_toArray, List.set_cons_zero, List.set_cons_succ, i64_w, i32_w]
    rfl
  refine last_ (i := 5) (N := some 20) #[true, true, true, true, true, true, false] rfl rfl (by kernel_rfl) (by decide) (fun K hK => ?_)
  refine goesI_ Try.func50 (by kernel_rfl) rfl #[.pointer (some ⟨g, 0, none⟩), .agg #[.int .i64 v.f0, .int .i64 v.f1, .string v.f2]] (by rfl) rfl (by go_simp) ?_
  with_reducible refine (sum_add.nullNo g s v _ HG1.out HFs.out HFv.out B HB.out H0.out c HR.out).mono ?_
  rintro e w2 ⟨rfl, hg2, hb2, hk2⟩
  refine ⟨_, rfl, ?_⟩
  have HE := Aside0.mk (hEnd w2 hg2 hb2 hk2)
  clear hg2 hb2 hk2
  refine hK.out _ _ ?_
  clear hK K
  refine norm_ (a' := ?_) ?_ ?_
  rotate_left
  · show Act.put _ (some 20) _ = _
    simp only [Act.put, List.setIfInBounds_toArray, List.set_cons_zero, List.set_cons_succ, i64_w, i32_w]
    rfl
  refine pure_ (i := 6) (N := some 4) (v := ?_) (a' := ?_) #[true, true, true, true, true, true, true] rfl rfl (by kernel_rfl) (fun _ _ _ h => h) (Or.inl ⟨by rfl, ?_⟩) ?_ ?_
  rotate_left
  · intro w'
    go_simp
    with_reducible rfl
  rotate_left
  · simp only [Act.put, List.setIfInBounds_toArray, List.set_cons_zero, List.set_cons_succ, i64_w, i32_w]
    rfl
  refine done_ (by kernel_rfl) ?_
  go_wp2_with fail
  go_ret
  exact ⟨rfl, HE.out⟩
set_option maxHeartbeats 2000000 in
set_option maxRecDepth 100000 in
theorem acc_add.best_null_v (b g : Nat) (rows : Bool) (u : S32) (sg : Int) (v : S32) (w : World) (h : AccAt w b g rows (.best u sg)) (B : Nat) (hB : B ≤ g) (hz : ¬ v.f0 = 0) (h0 : u.f0 = 0) :
    Calls Try.prog 13 #[.pointer (some ⟨b, 0, none⟩), .agg #[.int .i64 v.f0, .int .i64 v.f1, .string v.f2]] w fun e w' =>
      e = .returned (.int .i64 0) ∧ AccAt w' b g rows (.best v sg) ∧ Below B w w' ∧ KeepBut w w' g none := by
  have hu := Try.underlying32
  have hm := m_add_best
  have hne := Aside0.mk h.2.2
  have hb0 : w.heap[b]? = some (.cells #[.iface 53 (.pointer (some ⟨g, 0, none⟩)), .bool rows] 57 (0, 0)) := h.1
  have HS := Aside0.mk (BA.start (v := v) hb0)
  have HG := Aside0.mk h.2.1
  have HL := Aside0.mk (Nat.le_trans hB (Nat.le_of_lt (blk_lt h.2.1)))
  have HB := Aside0.mk hB
  have hc1 : World.cell? _ ⟨b, 1, none⟩ = some (.bool rows) := (blk_cell HS.out.1 1).trans rfl
  have qz : (v.f0 == 0) = false := beq_eq_false_iff_ne.mpr hz
  have H0 := Aside0.mk h0
  clear hb0 hB h hz h0
  go_enter Try.func13, Try.ntmps13
  go_wp2_with fail
  refine at_world (fun w' => BA b w.heap.size #[.iface 53 (.pointer (some ⟨g, 0, none⟩)), .bool rows] 57 v w w') (by repeat (first | exact HS.out | refine BA.drewN ?_ _ | refine BA.drew ?_)) (fun w1 hI => ?_)
  have HI := Aside0.mk hI
  clear hI hc1
  have HG1 := Aside0.mk (blk_below HG.out HI.out.drew.2.2)
  have hEnd : ∀ w2, w2.heap[g]? = some (.cells (.best v sg : Gst).cells (.best v sg : Gst).ty (0, 0)) → Below B w1.drew w2 → KeepBut w1.drew w2 g none → AccAt w2 b g rows (.best v sg) ∧ Below B w w2 ∧ KeepBut w w2 g none := fun w2 a1 a2 a3 =>
    ⟨⟨a3.blk HI.out.drew.1 hne.out (by simp), a1, hne.out⟩, (HI.out.drew.2.2.mono HL.out).trans a2, (KeepBut.of_below HI.out.drew.2.2 g none).trans a3 (.inl rfl)⟩
  refine start_ (n := 7) (S := fun w' => w'.cell? ⟨b, 0, none⟩ = some (.iface 53 (.pointer (some ⟨g, 0, none⟩))) ∧ w'.cell? ⟨w.heap.size, 0, none⟩ = some (.int .i64 v.f0) ∧ w'.cell? ⟨w.heap.size, 1, none⟩ = some (.int .i64 v.f1) ∧ w'.cell? ⟨w.heap.size, 2, none⟩ = some (.string v.f2)) (ds := [5]) #[false, false, false, false, false, false, false] (by kernel_rfl) rfl rfl ⟨(blk_cell (HI.out.drew).1 0).trans rfl, (HI.out.drew).v0, (HI.out.drew).v1, (HI.out.drew).v2⟩ (fun hHeld => ?_)
  refine pure_ (i := 0) (N := some 15) (v := ?_) (a' := ?_) #[true, false, false, false, false, false, false] rfl rfl (by kernel_rfl) (fun _ _ _ h => h) (Or.inl ⟨by rfl, ?_⟩) ?_ ?_
  rotate_left
  · intro w'
    go_simp
    with_reducible rfl
  rotate_left
  · simp only [Act.put, List.setIfInBounds_toArray, List.set_cons_zero, List.set_cons_succ, i64_w, i32_w]
    rfl
  refine pure_ (i := 1) (N := some 16) (v := ?_) (a' := ?_) #[true, true, false, false, false, false, false] rfl rfl (by kernel_rfl) (fun _ _ _ h => h) (Or.inl ⟨by rfl, ?_⟩) ?_ ?_
  rotate_left
  · intro w'
    go_simp
    with_reducible rfl
  rotate_left
  · simp only [Act.put, List.setIfInBounds_toArray, List.set_cons_zero, List.set_cons_succ, i64_w, i32_w]
    rfl
  refine pure_ (i := 2) (N := some 17) (v := ?_) (a' := ?_) #[true, true, true, false, false, false, false] rfl rfl (by kernel_rfl) (fun _ _ _ h => h) (Or.inl ⟨by rfl, ?_⟩) ?_ ?_
  rotate_left
  · intro w'
    go_simp
    with_reducible rfl
  rotate_left
  · simp only [Act.put, List.setIfInBounds_toArray, List.set_cons_zero, List.set_cons_succ, i64_w, i32_w]
    rfl
  refine take_ (i := 3) (N := some 18) (v := ?_) (a' := ?_) #[true, true, true, true, false, false, false] rfl rfl (by kernel_rfl) (fun _ _ _ h => h) (Or.inl ⟨by rfl, ?_⟩) hHeld ?_ ?_
  rotate_left
  · rintro w' ⟨s0, s1, s2, s3⟩
    go_simp
    with_reducible rfl
  rotate_left
  · simp only [Act.put, List.setIfInBounds_toArray, List.set_cons_zero, List.set_cons_succ, i64_w, i32_w]
    rfl
  refine take_ (i := 4) (N := some 19) (v := ?_) (a' := ?_) #[true, true, true, true, true, false, false] rfl rfl (by kernel_rfl) (fun _ _ _ h => h) (Or.inl ⟨by rfl, ?_⟩) hHeld ?_ ?_
  rotate_left
  · rintro w' ⟨s0, s1, s2, s3⟩
    go_simp
    with_reducible rfl
  rotate_left
  · simp only [Act.put, List.setIfInBounds_toArray, List.set_cons_zero, List.set_cons_succ, i64_w, i32_w]
    rfl
  refine last_ (i := 5) (N := some 20) #[true, true, true, true, true, true, false] rfl rfl (by kernel_rfl) (by decide) (fun K hK => ?_)
  refine goesI_ Try.func76 (by kernel_rfl) rfl #[.pointer (some ⟨g, 0, none⟩), .agg #[.int .i64 v.f0, .int .i64 v.f1, .string v.f2]] (by rfl) rfl (by go_simp) ?_
  with_reducible refine (best_add.null g u sg v _ HG1.out B HB.out H0.out).mono ?_
  rintro e w2 ⟨rfl, hg2, hb2, hk2⟩
  refine ⟨_, rfl, ?_⟩
  have HE := Aside0.mk (hEnd w2 hg2 hb2 hk2)
  clear hg2 hb2 hk2
  refine hK.out _ _ ?_
  clear hK K
  refine norm_ (a' := ?_) ?_ ?_
  rotate_left
  · show Act.put _ (some 20) _ = _
    simp only [Act.put, List.setIfInBounds_toArray, List.set_cons_zero, List.set_cons_succ, i64_w, i32_w]
    rfl
  refine pure_ (i := 6) (N := some 4) (v := ?_) (a' := ?_) #[true, true, true, true, true, true, true] rfl rfl (by kernel_rfl) (fun _ _ _ h => h) (Or.inl ⟨by rfl, ?_⟩) ?_ ?_
  rotate_left
  · intro w'
    go_simp
    with_reducible rfl
  rotate_left
  · simp only [Act.put, List.setIfInBounds_toArray, List.set_cons_zero, List.set_cons_succ, i64_w, i32_w]
    rfl
  refine done_ (by kernel_rfl) ?_
  go_wp2_with fail
  go_ret
  exact ⟨rfl, HE.out⟩
set_option maxHeartbeats 2000000 in
set_option maxRecDepth 100000 in
theorem acc_add.best_null_r (b g : Nat) (rows : Bool) (u : S32) (sg : Int) (v : S32) (w : World) (h : AccAt w b g rows (.best u sg)) (B : Nat) (hB : B ≤ g) (hz0 : v.f0 = 0) (hz : rows = true) (h0 : u.f0 = 0) :
    Calls Try.prog 13 #[.pointer (some ⟨b, 0, none⟩), .agg #[.int .i64 v.f0, .int .i64 v.f1, .string v.f2]] w fun e w' =>
      e = .returned (.int .i64 0) ∧ AccAt w' b g rows (.best v sg) ∧ Below B w w' ∧ KeepBut w w' g none := by
  have hu := Try.underlying32
  have hm := m_add_best
  have hne := Aside0.mk h.2.2
  have hb0 : w.heap[b]? = some (.cells #[.iface 53 (.pointer (some ⟨g, 0, none⟩)), .bool rows] 57 (0, 0)) := h.1
  have HS := Aside0.mk (BA.start (v := v) hb0)
  have HG := Aside0.mk h.2.1
  have HL := Aside0.mk (Nat.le_trans hB (Nat.le_of_lt (blk_lt h.2.1)))
  have HB := Aside0.mk hB
  have hc1 : World.cell? _ ⟨b, 1, none⟩ = some (.bool rows) := (blk_cell HS.out.1 1).trans rfl
  have qz0 : (v.f0 == 0) = true := beq_iff_eq.mpr hz0
  have qz : rows = true := hz
  have H0 := Aside0.mk h0
  clear hb0 hB h hz0 hz h0
  go_enter Try.func13, Try.ntmps13
  go_wp2_with fail
  refine at_world (fun w' => BA b w.heap.size #[.iface 53 (.pointer (some ⟨g, 0, none⟩)), .bool rows] 57 v w w') (by repeat (first | exact HS.out | refine BA.drewN ?_ _ | refine BA.drew ?_)) (fun w1 hI => ?_)
  have HI := Aside0.mk hI
  clear hI hc1
  have HG1 := Aside0.mk (blk_below HG.out HI.out.drew.2.2)
  have hEnd : ∀ w2, w2.heap[g]? = some (.cells (.best v sg : Gst).cells (.best v sg : Gst).ty (0, 0)) → Below B w1.drew w2 → KeepBut w1.drew w2 g none → AccAt w2 b g rows (.best v sg) ∧ Below B w w2 ∧ KeepBut w w2 g none := fun w2 a1 a2 a3 =>
    ⟨⟨a3.blk HI.out.drew.1 hne.out (by simp), a1, hne.out⟩, (HI.out.drew.2.2.mono HL.out).trans a2, (KeepBut.of_below HI.out.drew.2.2 g none).trans a3 (.inl rfl)⟩
  refine start_ (n := 7) (S := fun w' => w'.cell? ⟨b, 0, none⟩ = some (.iface 53 (.pointer (some ⟨g, 0, none⟩))) ∧ w'.cell? ⟨w.heap.size, 0, none⟩ = some (.int .i64 v.f0) ∧ w'.cell? ⟨w.heap.size, 1, none⟩ = some (.int .i64 v.f1) ∧ w'.cell? ⟨w.heap.size, 2, none⟩ = some (.string v.f2)) (ds := [5]) #[false, false, false, false, false, false, false] (by kernel_rfl) rfl rfl ⟨(blk_cell (HI.out.drew).1 0).trans rfl, (HI.out.drew).v0, (HI.out.drew).v1, (HI.out.drew).v2⟩ (fun hHeld => ?_)
  refine pure_ (i := 0) (N := some 15) (v := ?_) (a' := ?_) #[true, false, false, false, false, false, false] rfl rfl (by kernel_rfl) (fun _ _ _ h => h) (Or.inl ⟨by rfl, ?_⟩) ?_ ?_
  rotate_left
  · intro w'
    go_simp
    with_reducible rfl
  rotate_left
  · simp only [Act.put, List.setIfInBounds_toArray, List.set_cons_zero, List.set_cons_succ, i64_w, i32_w]
    rfl
  refine pure_ (i := 1) (N := some 16) (v := ?_) (a' := ?_) #[true, true, false, false, false, false, false] rfl rfl (by kernel_rfl) (fun _ _ _ h => h) (Or.inl ⟨by rfl, ?_⟩) ?_ ?_
  rotate_left
  · intro w'
    go_simp
    with_reducible rfl
  rotate_left
  · simp only [Act.put, List.setIfInBounds_toArray, List.set_cons_zero, List.set_cons_succ, i64_w, i32_w]
    rfl
  refine pure_ (i := 2) (N := some 17) (v := ?_) (a' := ?_) #[true, true, true, false, false, false, false] rfl rfl (by kernel_rfl) (fun _ _ _ h => h) (Or.inl ⟨by rfl, ?_⟩) ?_ ?_
  rotate_left
  · intro w'
    go_simp
    with_reducible rfl
  rotate_left
  · simp only [Act.put, List.setIfInBounds_toArray, List.set_cons_zero, List.set_cons_succ, i64_w, i32_w]
    rfl
  refine take_ (i := 3) (N := some 18) (v := ?_) (a' := ?_) #[true, true, true, true, false, false, false] rfl rfl (by kernel_rfl) (fun _ _ _ h => h) (Or.inl ⟨by rfl, ?_⟩) hHeld ?_ ?_
  rotate_left
  · rintro w' ⟨s0, s1, s2, s3⟩
    go_simp
    with_reducible rfl
  rotate_left
  · simp only [Act.put, List.setIfInBounds_toArray, List.set_cons_zero, List.set_cons_succ, i64_w, i32_w]
    rfl
  refine take_ (i := 4) (N := some 19) (v := ?_) (a' := ?_) #[true, true, true, true, true, false, false] rfl rfl (by kernel_rfl) (fun _ _ _ h => h) (Or.inl ⟨by rfl, ?_⟩) hHeld ?_ ?_
  rotate_left
  · rintro w' ⟨s0, s1, s2, s3⟩
    go_simp
    with_reducible rfl
  rotate_left
  · simp only [Act.put, List.setIfInBounds_toArray, List.set_cons_zero, List.set_cons_succ, i64_w, i32_w]
    rfl
  refine last_ (i := 5) (N := some 20) #[true, true, true, true, true, true, false] rfl rfl (by kernel_rfl) (by decide) (fun K hK => ?_)
  refine goesI_ Try.func76 (by kernel_rfl) rfl #[.pointer (some ⟨g, 0, none⟩), .agg #[.int .i64 v.f0, .int .i64 v.f1, .string v.f2]] (by rfl) rfl (by go_simp) ?_
  with_reducible refine (best_add.null g u sg v _ HG1.out B HB.out H0.out).mono ?_
  rintro e w2 ⟨rfl, hg2, hb2, hk2⟩
  refine ⟨_, rfl, ?_⟩
  have HE := Aside0.mk (hEnd w2 hg2 hb2 hk2)
  clear hg2 hb2 hk2
  refine hK.out _ _ ?_
  clear hK K
  refine norm_ (a' := ?_) ?_ ?_
  rotate_left
  · show Act.put _ (some 20) _ = _
    simp only [Act.put, List.setIfInBounds_toArray, List.set_cons_zero, List.set_cons_succ, i64_w, i32_w]
    rfl
  refine pure_ (i := 6) (N := some 4) (v := ?_) (a' := ?_) #[true, true, true, true, true, true, true] rfl rfl (by kernel_rfl) (fun _ _ _ h => h) (Or.inl ⟨by rfl, ?_⟩) ?_ ?_
  rotate_left
  · intro w'
    go_simp
    with_reducible rfl
  rotate_left
  · simp only [Act.put, List.setIfInBounds_toArray, List.set_cons_zero, List.set_cons_succ, i64_w, i32_w]
    rfl
  refine done_ (by kernel_rfl) ?_
  go_wp2_with fail
  go_ret
  exact ⟨rfl, HE.out⟩
set_option maxHeartbeats 2000000 in
set_option maxRecDepth 100000 in
theorem acc_add.best_take_v (b g : Nat) (rows : Bool) (u : S32) (sg : Int) (v : S32) (w : World) (h : AccAt w b g rows (.best u sg)) (B : Nat) (hB : B ≤ g) (hz : ¬ v.f0 = 0) (h0 : ¬ u.f0 = 0) (h1 : cmpV v u = sg) :
    Calls Try.prog 13 #[.pointer (some ⟨b, 0, none⟩), .agg #[.int .i64 v.f0, .int .i64 v.f1, .string v.f2]] w fun e w' =>
      e = .returned (.int .i64 0) ∧ AccAt w' b g rows (.best v sg) ∧ Below B w w' ∧ KeepBut w w' g none := by
  have hu := Try.underlying32
  have hm := m_add_best
  have hne := Aside0.mk h.2.2
  have hb0 : w.heap[b]? = some (.cells #[.iface 53 (.pointer (some ⟨g, 0, none⟩)), .bool rows] 57 (0, 0)) := h.1
  have HS := Aside0.mk (BA.start (v := v) hb0)
  have HG := Aside0.mk h.2.1
  have HL := Aside0.mk (Nat.le_trans hB (Nat.le_of_lt (blk_lt h.2.1)))
  have HB := Aside0.mk hB
  have hc1 : World.cell? _ ⟨b, 1, none⟩ = some (.bool rows) := (blk_cell HS.out.1 1).trans rfl
  have qz : (v.f0 == 0) = false := beq_eq_false_iff_ne.mpr hz
  have H0 := Aside0.mk h0
  have H1 := Aside0.mk h1
  clear hb0 hB h hz h0 h1
  go_enter Try.func13, Try.ntmps13
  go_wp2_with fail
  refine at_world (fun w' => BA b w.heap.size #[.iface 53 (.pointer (some ⟨g, 0, none⟩)), .bool rows] 57 v w w') (by repeat (first | exact HS.out | refine BA.drewN ?_ _ | refine BA.drew ?_)) (fun w1 hI => ?_)
  have HI := Aside0.mk hI
  clear hI hc1
  have HG1 := Aside0.mk (blk_below HG.out HI.out.drew.2.2)
  have hEnd : ∀ w2, w2.heap[g]? = some (.cells (.best v sg : Gst).cells (.best v sg : Gst).ty (0, 0)) → Below B w1.drew w2 → KeepBut w1.drew w2 g none → AccAt w2 b g rows (.best v sg) ∧ Below B w w2 ∧ KeepBut w w2 g none := fun w2 a1 a2 a3 =>
    ⟨⟨a3.blk HI.out.drew.1 hne.out (by simp), a1, hne.out⟩, (HI.out.drew.2.2.mono HL.out).trans a2, (KeepBut.of_below HI.out.drew.2.2 g none).trans a3 (.inl rfl)⟩
  refine start_ (n := 7) (S := fun w' => w'.cell? ⟨b, 0, none⟩ = some (.iface 53 (.pointer (some ⟨g, 0, none⟩))) ∧ w'.cell? ⟨w.heap.size, 0, none⟩ = some (.int .i64 v.f0) ∧ w'.cell? ⟨w.heap.size, 1, none⟩ = some (.int .i64 v.f1) ∧ w'.cell? ⟨w.heap.size, 2, none⟩ = some (.string v.f2)) (ds := [5]) #[false, false, false, false, false, false, false] (by kernel_rfl) rfl rfl ⟨(blk_cell (HI.out.drew).1 0).trans rfl, (HI.out.drew).v0, (HI.out.drew).v1, (HI.out.drew).v2⟩ (fun hHeld => ?_)
  refine pure_ (i := 0) (N := some 15) (v := ?_) (a' := ?_) #[true, false, false, false, false, false, false] rfl rfl (by kernel_rfl) (fun _ _ _ h => h) (Or.inl ⟨by rfl, ?_⟩) ?_ ?_
  rotate_left
  · intro w'
    go_simp
    with_reducible rfl
  rotate_left
  · simp only [Act.put, List.setIfInBounds_toArray, List.set_cons_zero, List.set_cons_succ, i64_w, i32_w]
    rfl
  refine pure_ (i := 1) (N := some 16) (v := ?_) (a' := ?_) #[true, true, false, false, false, false, false] rfl rfl (by kernel_rfl) (fun _ _ _ h => h) (Or.inl ⟨by rfl, ?_⟩) ?_ ?_
  rotate_left
  · intro w'
    go_simp
    with_reducible rfl
  rotate_left
  · simp only [Act.put, List.setIfInBounds_toArray, List.set_cons_zero, List.set_cons_succ, i64_w, i32_w]
    rfl
  refine pure_ (i := 2) (N := some 17) (v := ?_) (a' := ?_) #[true, true, true, false, false, false, false] rfl rfl (by kernel_rfl) (fun _ _ _ h => h) (Or.inl ⟨by rfl, ?_⟩) ?_ ?_
  rotate_left
  · intro w'
    go_simp
    with_reducible rfl
  rotate_left
  · simp only [Act.put, List.setIfInBounds_toArray, List.set_cons_zero, List.set_cons_succ, i64_w, i32_w]
    rfl
  refine take_ (i := 3) (N := some 18) (v := ?_) (a' := ?_) #[true, true, true, true, false, false, false] rfl rfl (by kernel_rfl) (fun _ _ _ h => h) (Or.inl ⟨by rfl, ?_⟩) hHeld ?_ ?_
  rotate_left
  · rintro w' ⟨s0, s1, s2, s3⟩
    go_simp
    with_reducible rfl
  rotate_left
  · simp only [Act.put, List.setIfInBounds_toArray, List.set_cons_zero, List.set_cons_succ, i64_w, i32_w]
    rfl
  refine take_ (i := 4) (N := some 19) (v := ?_) (a' := ?_) #[true, true, true, true, true, false, false] rfl rfl (by kernel_rfl) (fun _ _ _ h => h) (Or.inl ⟨by rfl, ?_⟩) hHeld ?_ ?_
  rotate_left
  · rintro w' ⟨s0, s1, s2, s3⟩
    go_simp
    with_reducible rfl
  rotate_left
  · simp only [Act.put, List.setIfInBounds_toArray, List.set_cons_zero, List.set_cons_succ, i64_w, i32_w]
    rfl
  refine last_ (i := 5) (N := some 20) #[true, true, true, true, true, true, false] rfl rfl (by kernel_rfl) (by decide) (fun K hK => ?_)
  refine goesI_ Try.func76 (by kernel_rfl) rfl #[.pointer (some ⟨g, 0, none⟩), .agg #[.int .i64 v.f0, .int .i64 v.f1, .string v.f2]] (by rfl) rfl (by go_simp) ?_
  with_reducible refine (best_add.take g u sg v _ HG1.out B HB.out H0.out H1.out).mono ?_
  rintro e w2 ⟨rfl, hg2, hb2, hk2⟩
  refine ⟨_, rfl, ?_⟩
  have HE := Aside0.mk (hEnd w2 hg2 hb2 hk2)
  clear hg2 hb2 hk2
  refine hK.out _ _ ?_
  clear hK K
  refine norm_ (a' := ?_) ?_ ?_
  rotate_left
  · show Act.put _ (some 20) _ = _
    simp only [Act.put, List.setIfInBounds_toArray, List.set_cons_zero, List.set_cons_succ, i64_w, i32_w]
    rfl
  refine pure_ (i := 6) (N := some 4) (v := ?_) (a' := ?_) #[true, true, true, true, true, true, true] rfl rfl (by kernel_rfl) (fun _ _ _ h => h) (Or.inl ⟨by rfl, ?_⟩) ?_ ?_
  rotate_left
  · intro w'
    go_simp
    with_reducible rfl
  rotate_left
  · simp only [Act.put, List.setIfInBounds_toArray, List.set_cons_zero, List.set_cons_succ, i64_w, i32_w]
    rfl
  refine done_ (by kernel_rfl) ?_
  go_wp2_with fail
  go_ret
  exact ⟨rfl, HE.out⟩
set_option maxHeartbeats 2000000 in
set_option maxRecDepth 100000 in
theorem acc_add.best_take_r (b g : Nat) (rows : Bool) (u : S32) (sg : Int) (v : S32) (w : World) (h : AccAt w b g rows (.best u sg)) (B : Nat) (hB : B ≤ g) (hz0 : v.f0 = 0) (hz : rows = true) (h0 : ¬ u.f0 = 0) (h1 : cmpV v u = sg) :
    Calls Try.prog 13 #[.pointer (some ⟨b, 0, none⟩), .agg #[.int .i64 v.f0, .int .i64 v.f1, .string v.f2]] w fun e w' =>
      e = .returned (.int .i64 0) ∧ AccAt w' b g rows (.best v sg) ∧ Below B w w' ∧ KeepBut w w' g none := by
  have hu := Try.underlying32
  have hm := m_add_best
  have hne := Aside0.mk h.2.2
  have hb0 : w.heap[b]? = some (.cells #[.iface 53 (.pointer (some ⟨g, 0, none⟩)), .bool rows] 57 (0, 0)) := h.1
  have HS := Aside0.mk (BA.start (v := v) hb0)
  have HG := Aside0.mk h.2.1
  have HL := Aside0.mk (Nat.le_trans hB (Nat.le_of_lt (blk_lt h.2.1)))
  have HB := Aside0.mk hB
  have hc1 : World.cell? _ ⟨b, 1, none⟩ = some (.bool rows) := (blk_cell HS.out.1 1).trans rfl
  have qz0 : (v.f0 == 0) = true := beq_iff_eq.mpr hz0
  have qz : rows = true := hz
  have H0 := Aside0.mk h0
  have H1 := Aside0.mk h1
  clear hb0 hB h hz0 hz h0 h1
  go_enter Try.func13, Try.ntmps13
  go_wp2_with fail
  refine at_world (fun w' => BA b w.heap.size #[.iface 53 (.pointer (some ⟨g, 0, none⟩)), .bool rows] 57 v w w') (by repeat (first | exact HS.out | refine BA.drewN ?_ _ | refine BA.drew ?_)) (fun w1 hI => ?_)
  have HI := Aside0.mk hI
  clear hI hc1
  have HG1 := Aside0.mk (blk_below HG.out HI.out.drew.2.2)
  have hEnd : ∀ w2, w2.heap[g]? = some (.cells (.best v sg : Gst).cells (.best v sg : Gst).ty (0, 0)) → Below B w1.drew w2 → KeepBut w1.drew w2 g none → AccAt w2 b g rows (.best v sg) ∧ Below B w w2 ∧ KeepBut w w2 g none := fun w2 a1 a2 a3 =>
    ⟨⟨a3.blk HI.out.drew.1 hne.out (by simp), a1, hne.out⟩, (HI.out.drew.2.2.mono HL.out).trans a2, (KeepBut.of_below HI.out.drew.2.2 g none).trans a3 (.inl rfl)⟩
  refine start_ (n := 7) (S := fun w' => w'.cell? ⟨b, 0, none⟩ = some (.iface 53 (.pointer (some ⟨g, 0, none⟩))) ∧ w'.cell? ⟨w.heap.size, 0, none⟩ = some (.int .i64 v.f0) ∧ w'.cell? ⟨w.heap.size, 1, none⟩ = some (.int .i64 v.f1) ∧ w'.cell? ⟨w.heap.size, 2, none⟩ = some (.string v.f2)) (ds := [5]) #[false, false, false, false, false, false, false] (by kernel_rfl) rfl rfl ⟨(blk_cell (HI.out.drew).1 0).trans rfl, (HI.out.drew).v0, (HI.out.drew).v1, (HI.out.drew).v2⟩ (fun hHeld => ?_)
  refine pure_ (i := 0) (N := some 15) (v := ?_) (a' := ?_) #[true, false, false, false, false, false, false] rfl rfl (by kernel_rfl) (fun _ _ _ h => h) (Or.inl ⟨by rfl, ?_⟩) ?_ ?_
  rotate_left
  · intro w'
    go_simp
    with_reducible rfl
  rotate_left
  · simp only [Act.put, List.setIfInBounds_toArray, List.set_cons_zero, List.set_cons_succ, i64_w, i32_w]
    rfl
  refine pure_ (i := 1) (N := some 16) (v := ?_) (a' := ?_) #[true, true, false, false, false, false, false] rfl rfl (by kernel_rfl) (fun _ _ _ h => h) (Or.inl ⟨by rfl, ?_⟩) ?_ ?_
  rotate_left
  · intro w'
    go_simp
    with_reducible rfl
  rotate_left
  · simp only [Act.put, List.setIfInBounds_toArray, List.set_cons_zero, List.set_cons_succ, i64_w, i32_w]
    rfl
  refine pure_ (i := 2) (N := some 17) (v := ?_) (a' := ?_) #[true, true, true, false, false, false, false] rfl rfl (by kernel_rfl) (fun _ _ _ h => h) (Or.inl ⟨by rfl, ?_⟩) ?_ ?_
  rotate_left
  · intro w'
    go_simp
    with_reducible rfl
  rotate_left
  · simp only [Act.put, List.setIfInBounds_toArray, List.set_cons_zero, List.set_cons_succ, i64_w, i32_w]
    rfl
  refine take_ (i := 3) (N := some 18) (v := ?_) (a' := ?_) #[true, true, true, true, false, false, false] rfl rfl (by kernel_rfl) (fun _ _ _ h => h) (Or.inl ⟨by rfl, ?_⟩) hHeld ?_ ?_
  rotate_left
  · rintro w' ⟨s0, s1, s2, s3⟩
    go_simp
    with_reducible rfl
  rotate_left
  · simp only [Act.put, List.setIfInBounds_toArray, List.set_cons_zero, List.set_cons_succ, i64_w, i32_w]
    rfl
  refine take_ (i := 4) (N := some 19) (v := ?_) (a' := ?_) #[true, true, true, true, true, false, false] rfl rfl (by kernel_rfl) (fun _ _ _ h => h) (Or.inl ⟨by rfl, ?_⟩) hHeld ?_ ?_
  rotate_left
  · rintro w' ⟨s0, s1, s2, s3⟩
    go_simp
    with_reducible rfl
  rotate_left
  · simp only [Act.put, List.setIfInBounds_toArray, List.set_cons_zero, List.set_cons_succ, i64_w, i32_w]
    rfl
  refine last_ (i := 5) (N := some 20) #[true, true, true, true, true, true, false] rfl rfl (by kernel_rfl) (by decide) (fun K hK => ?_)
  refine goesI_ Try.func76 (by kernel_rfl) rfl #[.pointer (some ⟨g, 0, none⟩), .agg #[.int .i64 v.f0, .int .i64 v.f1, .string v.f2]] (by rfl) rfl (by go_simp) ?_
  with_reducible refine (best_add.take g u sg v _ HG1.out B HB.out H0.out H1.out).mono ?_
  rintro e w2 ⟨rfl, hg2, hb2, hk2⟩
  refine ⟨_, rfl, ?_⟩
  have HE := Aside0.mk (hEnd w2 hg2 hb2 hk2)
  clear hg2 hb2 hk2
  refine hK.out _ _ ?_
  clear hK K
  refine norm_ (a' := ?_) ?_ ?_
  rotate_left
  · show Act.put _ (some 20) _ = _
    simp only [Act.put, List.setIfInBounds_toArray, List.set_cons_zero, List.set_cons_succ, i64_w, i32_w]
    rfl
  refine pure_ (i := 6) (N := some 4) (v := ?_) (a' := ?_) #[true, true, true, true, true, true, true] rfl rfl (by kernel_rfl) (fun _ _ _ h => h) (Or.inl ⟨by rfl, ?_⟩) ?_ ?_
  rotate_left
  · intro w'
    go_simp
    with_reducible rfl
  rotate_left
  · simp only [Act.put, List.setIfInBounds_toArray, List.set_cons_zero, List.set_cons_succ, i64_w, i32_w]
    rfl
  refine done_ (by kernel_rfl) ?_
  go_wp2_with fail
  go_ret
  exact ⟨rfl, HE.out⟩
set_option maxHeartbeats 2000000 in
set_option maxRecDepth 100000 in
theorem acc_add.best_stay_v (b g : Nat) (rows : Bool) (u : S32) (sg : Int) (v : S32) (w : World) (h : AccAt w b g rows (.best u sg)) (B : Nat) (hB : B ≤ g) (hz : ¬ v.f0 = 0) (h0 : ¬ u.f0 = 0) (h1 : ¬ cmpV v u = sg) :
    Calls Try.prog 13 #[.pointer (some ⟨b, 0, none⟩), .agg #[.int .i64 v.f0, .int .i64 v.f1, .string v.f2]] w fun e w' =>
      e = .returned (.int .i64 0) ∧ AccAt w' b g rows (.best u sg) ∧ Below B w w' ∧ KeepBut w w' g none := by
  have hu := Try.underlying32
  have hm := m_add_best
  have hne := Aside0.mk h.2.2
  have hb0 : w.heap[b]? = some (.cells #[.iface 53 (.pointer (some ⟨g, 0, none⟩)), .bool rows] 57 (0, 0)) := h.1
  have HS := Aside0.mk (BA.start (v := v) hb0)
  have HG := Aside0.mk h.2.1
  have HL := Aside0.mk (Nat.le_trans hB (Nat.le_of_lt (blk_lt h.2.1)))
  have HB := Aside0.mk hB
  have hc1 : World.cell? _ ⟨b, 1, none⟩ = some (.bool rows) := (blk_cell HS.out.1 1).trans rfl
  have qz : (v.f0 == 0) = false := beq_eq_false_iff_ne.mpr hz
  have H0 := Aside0.mk h0
  have H1 := Aside0.mk h1
  clear hb0 hB h hz h0 h1
  go_enter Try.func13, Try.ntmps13
  go_wp2_with fail
  refine at_world (fun w' => BA b w.heap.size #[.iface 53 (.pointer (some ⟨g, 0, none⟩)), .bool rows] 57 v w w') (by repeat (first | exact HS.out | refine BA.drewN ?_ _ | refine BA.drew ?_)) (fun w1 hI => ?_)
  have HI := Aside0.mk hI
  clear hI hc1
  have HG1 := Aside0.mk (blk_below HG.out HI.out.drew.2.2)
  have hEnd : ∀ w2, w2.heap[g]? = some (.cells (.best u sg : Gst).cells (.best u sg : Gst).ty (0, 0)) → Below B w1.drew w2 → KeepBut w1.drew w2 g none → AccAt w2 b g rows (.best u sg) ∧ Below B w w2 ∧ KeepBut w w2 g none := fun w2 a1 a2 a3 =>
    ⟨⟨a3.blk HI.out.drew.1 hne.out (by simp), a1, hne.out⟩, (HI.out.drew.2.2.mono HL.out).trans a2, (KeepBut.of_below HI.out.drew.2.2 g none).trans a3 (.inl rfl)⟩
  refine start_ (n := 7) (S := fun w' => w'.cell? ⟨b, 0, none⟩ = some (.iface 53 (.pointer (some ⟨g, 0, none⟩))) ∧ w'.cell? ⟨w.heap.size, 0, none⟩ = some (.int .i64 v.f0) ∧ w'.cell? ⟨w.heap.size, 1, none⟩ = some (.int .i64 v.f1) ∧ w'.cell? ⟨w.heap.size, 2, none⟩ = some (.string v.f2)) (ds := [5]) #[false, false, false, false, false, false, false] (by kernel_rfl) rfl rfl ⟨(blk_cell (HI.out.drew).1 0).trans rfl, (HI.out.drew).v0, (HI.out.drew).v1, (HI.out.drew).v2⟩ (fun hHeld => ?_)
  refine pure_ (i := 0) (N := some 15) (v := ?_) (a' := ?_) #[true, false, false, false, false, false, false] rfl rfl (by kernel_rfl) (fun _ _ _ h => h) (Or.inl ⟨by rfl, ?_⟩) ?_ ?_
  rotate_left
  · intro w'
    go_simp
    with_reducible rfl
  rotate_left
  · simp only [Act.put, List.setIfInBounds_toArray, List.set_cons_zero, List.set_cons_succ, i64_w, i32_w]
    rfl
  refine pure_ (i := 1) (N := some 16) (v := ?_) (a' := ?_) #[true, true, false, false, false, false, false] rfl rfl (by kernel_rfl) (fun _ _ _ h => h) (Or.inl ⟨by rfl, ?_⟩) ?_ ?_
  rotate_left
  · intro w'
    go_simp
    with_reducible rfl
  rotate_left
  · simp only [Act.put, List.setIfInBounds_toArray, List.set_cons_zero, List.set_cons_succ, i64_w, i32_w]
    rfl
  refine pure_ (i := 2) (N := some 17) (v := ?_) (a' := ?_) #[true, true, true, false, false, false, false] rfl rfl (by kernel_rfl) (fun _ _ _ h => h) (Or.inl ⟨by rfl, ?_⟩) ?_ ?_
  rotate_left
  · intro w'
    go_simp
    with_reducible rfl
  rotate_left
  · simp only [Act.put, List.setIfInBounds_toArray, List.set_cons_zero, List.set_cons_succ, i64_w, i32_w]
    rfl
  refine take_ (i := 3) (N := some 18) (v := ?_) (a' := ?_) #[true, true, true, true, false, false, false] rfl rfl (by kernel_rfl) (fun _ _ _ h => h) (Or.inl ⟨by rfl, ?_⟩) hHeld ?_ ?_
  rotate_left
  · rintro w' ⟨s0, s1, s2, s3⟩
    go_simp
    with_reducible rfl
  rotate_left
  · simp only [Act.put, List.setIfInBounds_toArray, List.set_cons_zero, List.set_cons_succ, i64_w, i32_w]
    rfl
  refine take_ (i := 4) (N := some 19) (v := ?_) (a' := ?_) #[true, true, true, true, true, false, false] rfl rfl (by kernel_rfl) (fun _ _ _ h => h) (Or.inl ⟨by rfl, ?_⟩) hHeld ?_ ?_
  rotate_left
  · rintro w' ⟨s0, s1, s2, s3⟩
    go_simp
    with_reducible rfl
  rotate_left
  · simp only [Act.put, List.setIfInBounds_toArray, List.set_cons_zero, List.set_cons_succ, i64_w, i32_w]
    rfl
  refine last_ (i := 5) (N := some 20) #[true, true, true, true, true, true, false] rfl rfl (by kernel_rfl) (by decide) (fun K hK => ?_)
  refine goesI_ Try.func76 (by kernel_rfl) rfl #[.pointer (some ⟨g, 0, none⟩), .agg #[.int .i64 v.f0, .int .i64 v.f1, .string v.f2]] (by rfl) rfl (by go_simp) ?_
  with_reducible refine (best_add.stay g u sg v _ HG1.out B HB.out H0.out H1.out).mono ?_
  rintro e w2 ⟨rfl, hg2, hb2, hk2⟩
  refine ⟨_, rfl, ?_⟩
  have HE := Aside0.mk (hEnd w2 hg2 hb2 hk2)
  clear hg2 hb2 hk2
  refine hK.out _ _ ?_
  clear hK K
  refine norm_ (a' := ?_) ?_ ?_
  rotate_left
  · show Act.put _ (some 20) _ = _
    simp only [Act.put, List.setIfInBounds_toArray, List.set_cons_zero, List.set_cons_succ, i64_w, i32_w]
    rfl
  refine pure_ (i := 6) (N := some 4) (v := ?_) (a' := ?_) #[true, true, true, true, true, true, true] rfl rfl (by kernel_rfl) (fun _ _ _ h => h) (Or.inl ⟨by rfl, ?_⟩) ?_ ?_
  rotate_left
  · intro w'
    go_simp
    with_reducible rfl
  rotate_left
  · simp only [Act.put, List.setIfInBounds_toArray, List.set_cons_zero, List.set_cons_succ, i64_w, i32_w]
    rfl
  refine done_ (by kernel_rfl) ?_
  go_wp2_with fail
  go_ret
  exact ⟨rfl, HE.out⟩
set_option maxHeartbeats 2000000 in
set_option maxRecDepth 100000 in
theorem acc_add.best_stay_r (b g : Nat) (rows : Bool) (u : S32) (sg : Int) (v : S32) (w : World) (h : AccAt w b g rows (.best u sg)) (B : Nat) (hB : B ≤ g) (hz0 : v.f0 = 0) (hz : rows = true) (h0 : ¬ u.f0 = 0) (h1 : ¬ cmpV v u = sg) :
    Calls Try.prog 13 #[.pointer (some ⟨b, 0, none⟩), .agg #[.int .i64 v.f0, .int .i64 v.f1, .string v.f2]] w fun e w' =>
      e = .returned (.int .i64 0) ∧ AccAt w' b g rows (.best u sg) ∧ Below B w w' ∧ KeepBut w w' g none := by
  have hu := Try.underlying32
  have hm := m_add_best
  have hne := Aside0.mk h.2.2
  have hb0 : w.heap[b]? = some (.cells #[.iface 53 (.pointer (some ⟨g, 0, none⟩)), .bool rows] 57 (0, 0)) := h.1
  have HS := Aside0.mk (BA.start (v := v) hb0)
  have HG := Aside0.mk h.2.1
  have HL := Aside0.mk (Nat.le_trans hB (Nat.le_of_lt (blk_lt h.2.1)))
  have HB := Aside0.mk hB
  have hc1 : World.cell? _ ⟨b, 1, none⟩ = some (.bool rows) := (blk_cell HS.out.1 1).trans rfl
  have qz0 : (v.f0 == 0) = true := beq_iff_eq.mpr hz0
  have qz : rows = true := hz
  have H0 := Aside0.mk h0
  have H1 := Aside0.mk h1
  clear hb0 hB h hz0 hz h0 h1
  go_enter Try.func13, Try.ntmps13
  go_wp2_with fail
  refine at_world (fun w' => BA b w.heap.size #[.iface 53 (.pointer (some ⟨g, 0, none⟩)), .bool rows] 57 v w w') (by repeat (first | exact HS.out | refine BA.drewN ?_ _ | refine BA.drew ?_)) (fun w1 hI => ?_)
  have HI := Aside0.mk hI
  clear hI hc1
  have HG1 := Aside0.mk (blk_below HG.out HI.out.drew.2.2)
  have hEnd : ∀ w2, w2.heap[g]? = some (.cells (.best u sg : Gst).cells (.best u sg : Gst).ty (0, 0)) → Below B w1.drew w2 → KeepBut w1.drew w2 g none → AccAt w2 b g rows (.best u sg) ∧ Below B w w2 ∧ KeepBut w w2 g none := fun w2 a1 a2 a3 =>
    ⟨⟨a3.blk HI.out.drew.1 hne.out (by simp), a1, hne.out⟩, (HI.out.drew.2.2.mono HL.out).trans a2, (KeepBut.of_below HI.out.drew.2.2 g none).trans a3 (.inl rfl)⟩
  refine start_ (n := 7) (S := fun w' => w'.cell? ⟨b, 0, none⟩ = some (.iface 53 (.pointer (some ⟨g, 0, none⟩))) ∧ w'.cell? ⟨w.heap.size, 0, none⟩ = some (.int .i64 v.f0) ∧ w'.cell? ⟨w.heap.size, 1, none⟩ = some (.int .i64 v.f1) ∧ w'.cell? ⟨w.heap.size, 2, none⟩ = some (.string v.f2)) (ds := [5]) #[false, false, false, false, false, false, false] (by kernel_rfl) rfl rfl ⟨(blk_cell (HI.out.drew).1 0).trans rfl, (HI.out.drew).v0, (HI.out.drew).v1, (HI.out.drew).v2⟩ (fun hHeld => ?_)
  refine pure_ (i := 0) (N := some 15) (v := ?_) (a' := ?_) #[true, false, false, false, false, false, false] rfl rfl (by kernel_rfl) (fun _ _ _ h => h) (Or.inl ⟨by rfl, ?_⟩) ?_ ?_
  rotate_left
  · intro w'
    go_simp
    with_reducible rfl
  rotate_left
  · simp only [Act.put, List.setIfInBounds_toArray, List.set_cons_zero, List.set_cons_succ, i64_w, i32_w]
    rfl
  refine pure_ (i := 1) (N := some 16) (v := ?_) (a' := ?_) #[true, true, false, false, false, false, false] rfl rfl (by kernel_rfl) (fun _ _ _ h => h) (Or.inl ⟨by rfl, ?_⟩) ?_ ?_
  rotate_left
  · intro w'
    go_simp
    with_reducible rfl
  rotate_left
  · simp only [Act.put, List.setIfInBounds_toArray, List.set_cons_zero, List.set_cons_succ, i64_w, i32_w]
    rfl
  refine pure_ (i := 2) (N := some 17) (v := ?_) (a' := ?_) #[true, true, true, false, false, false, false] rfl rfl (by kernel_rfl) (fun _ _ _ h => h) (Or.inl ⟨by rfl, ?_⟩) ?_ ?_
  rotate_left
  · intro w'
    go_simp
    with_reducible rfl
  rotate_left
  · simp only [Act.put, List.setIfInBounds_toArray, List.set_cons_zero, List.set_cons_succ, i64_w, i32_w]
    rfl
  refine take_ (i := 3) (N := some 18) (v := ?_) (a' := ?_) #[true, true, true, true, false, false, false] rfl rfl (by kernel_rfl) (fun _ _ _ h => h) (Or.inl ⟨by rfl, ?_⟩) hHeld ?_ ?_
  rotate_left
  · rintro w' ⟨s0, s1, s2, s3⟩
    go_simp
    with_reducible rfl
  rotate_left
  · simp only [Act.put, List.setIfInBounds_toArray, List.set_cons_zero, List.set_cons_succ, i64_w, i32_w]
    rfl
  refine take_ (i := 4) (N := some 19) (v := ?_) (a' := ?_) #[true, true, true, true, true, false, false] rfl rfl (by kernel_rfl) (fun _ _ _ h => h) (Or.inl ⟨by rfl, ?_⟩) hHeld ?_ ?_
  rotate_left
  · rintro w' ⟨s0, s1, s2, s3⟩
    go_simp
    with_reducible rfl
  rotate_left
  · simp only [Act.put, List.setIfInBounds_toArray, List.set_cons_zero, List.set_cons_succ, i64_w, i32_w]
    rfl
  refine last_ (i := 5) (N := some 20) #[true, true, true, true, true, true, false] rfl rfl (by kernel_rfl) (by decide) (fun K hK => ?_)
  refine goesI_ Try.func76 (by kernel_rfl) rfl #[.pointer (some ⟨g, 0, none⟩), .agg #[.int .i64 v.f0, .int .i64 v.f1, .string v.f2]] (by rfl) rfl (by go_simp) ?_
  with_reducible refine (best_add.stay g u sg v _ HG1.out B HB.out H0.out H1.out).mono ?_
  rintro e w2 ⟨rfl, hg2, hb2, hk2⟩
  refine ⟨_, rfl, ?_⟩
  have HE := Aside0.mk (hEnd w2 hg2 hb2 hk2)
  clear hg2 hb2 hk2
  refine hK.out _ _ ?_
  clear hK K
  refine norm_ (a' := ?_) ?_ ?_
  rotate_left
  · show Act.put _ (some 20) _ = _
    simp only [Act.put, List.setIfInBounds_toArray, List.set_cons_zero, List.set_cons_succ, i64_w, i32_w]
    rfl
  refine pure_ (i := 6) (N := some 4) (v := ?_) (a' := ?_) #[true, true, true, true, true, true, true] rfl rfl (by kernel_rfl) (fun _ _ _ h => h) (Or.inl ⟨by rfl, ?_⟩) ?_ ?_
  rotate_left
  · intro w'
    go_simp
    with_reducible rfl
  rotate_left
  · simp only [Act.put, List.setIfInBounds_toArray, List.set_cons_zero, List.set_cons_succ, i64_w, i32_w]
    rfl
  refine done_ (by kernel_rfl) ?_
  go_wp2_with fail
  go_ret
  exact ⟨rfl, HE.out⟩
end Go.Proofs.Ytgjfciohmgpohaa.P
end
section
namespace Go.Proofs.Ytgjfciohmgpohaa.P
open Go.RowKit Go.Proofs.Ytgjfciohmgpohaa.Pure Go.Proofs.YtgjfciohmgpohaaW.PrintWords Go.Proofs.YtgjfciohmgpohaaW.PrintLast Go.Proofs.YtgjfciohmgpohaaW.PrintMore
attribute [local go_sem] max2_int min2_int max_two min_two max_three min_three max_four min_four
set_option linter.unusedVariables false
set_option linter.unusedSimpArgs false
set_option maxHeartbeats 1000000 in
set_option maxRecDepth 100000 in
theorem acc_add.pass (b g : Nat) (rows : Bool) (st : Gst) (v : S32) (w : World) (h : AccAt w b g rows st) (B : Nat) (hB : B ≤ g) (hz : v.f0 = 0) (hr : rows = false) :
    Calls Try.prog 13 #[.pointer (some ⟨b, 0, none⟩), .agg #[.int .i64 v.f0, .int .i64 v.f1, .string v.f2]] w fun e w' =>
      e = .returned (.int .i64 0) ∧ AccAt w' b g rows st ∧ Below B w w' ∧ KeepBut w w' g none := by
  have hu := Try.underlying32
  have HS := Aside0.mk (BA.start (v := v) h.1)
  have HL := Aside0.mk (Nat.le_trans hB (Nat.le_of_lt (blk_lt h.2.1)))
  have HA := Aside0.mk h
  have hc1 : World.cell? _ ⟨b, 1, none⟩ = some (.bool rows) := (blk_cell HS.out.1 1).trans rfl
  have qz : (v.f0 == 0) = true := beq_iff_eq.mpr hz
  have qr : rows = false := hr
  clear hB h hz hr
  go_enter Try.func13, Try.ntmps13
  go_wp2_with fail
  go_ret
  exact ⟨rfl, HA.out.below HS.out.2.2, HS.out.2.2.mono HL.out, KeepBut.of_below HS.out.2.2 _ _⟩
theorem acc_add.calls (b g : Nat) (rows : Bool) (st : Gst) (v : S32) (w : World) (h : AccAt w b g rows st) (B : Nat) (hB : B ≤ g) (hs : st.fits) (hv : FitsV v) :
    Calls Try.prog 13 #[.pointer (some ⟨b, 0, none⟩), .agg #[.int .i64 v.f0, .int .i64 v.f1, .string v.f2]] w fun e w' =>
      e = .returned (.int .i64 (addP st rows v).2) ∧ AccAt w' b g rows (addP st rows v).1 ∧ Below B w w' ∧ KeepBut w w' g none := by
  by_cases hp : v.f0 = 0 ∧ rows = false
  · have e : addP st rows v = (st, 0) := by unfold addP; rw [if_pos hp]
    rw [e]; exact acc_add.pass b g rows st v w h B hB hp.1 hp.2
  · have hcase : ¬ v.f0 = 0 ∨ (v.f0 = 0 ∧ rows = true) := by
      by_cases h0 : v.f0 = 0
      · exact .inr ⟨h0, by cases rows with | true => rfl | false => exact absurd ⟨h0, rfl⟩ hp⟩
      · exact .inl h0
    cases st with
    | count n =>
      have e : addP (.count n) rows v = (.count (wrap64 (n + 1)), 0) := by unfold addP; rw [if_neg hp]
      rw [e]
      rcases hcase with h0 | ⟨h0, h1⟩
      · exact acc_add.count_v b g rows n v w h B hB h0
      · exact acc_add.count_r b g rows n v w h B hB h0 h1
    | sum s =>
      have e : addP (.sum s) rows v = (.sum (sumA s v).1, (sumA s v).2) := by unfold addP; rw [if_neg hp]
      rw [e]
      unfold sumA
      by_cases hs0 : s.f0 = 0
      · rw [if_pos hs0]
        cases hr : bin 11 (numV 0) v with
        | ok r =>
          rcases hcase with h0 | ⟨h0, h1⟩
          · exact acc_add.sum_nullOk_v b g rows s r v w h B hB h0 hs hv hs0 hr
          · exact acc_add.sum_nullOk_r b g rows s r v w h B hB h0 h1 hs hv hs0 hr
        | error c =>
          rcases hcase with h0 | ⟨h0, h1⟩
          · exact acc_add.sum_nullNo_v b g rows s c v w h B hB h0 hs hv hs0 hr
          · exact acc_add.sum_nullNo_r b g rows s c v w h B hB h0 h1 hs hv hs0 hr
      · rw [if_neg hs0]
        cases hr : bin 11 s v with
        | ok r =>
          rcases hcase with h0 | ⟨h0, h1⟩
          · exact acc_add.sum_moreOk_v b g rows s r v w h B hB h0 hs hv hs0 hr
          · exact acc_add.sum_moreOk_r b g rows s r v w h B hB h0 h1 hs hv hs0 hr
        | error c =>
          rcases hcase with h0 | ⟨h0, h1⟩
          · exact acc_add.sum_moreNo_v b g rows s c v w h B hB h0 hs hv hs0 hr
          · exact acc_add.sum_moreNo_r b g rows s c v w h B hB h0 h1 hs hv hs0 hr
    | best u sg =>
      by_cases hu0 : u.f0 = 0
      · have e : addP (.best u sg) rows v = (.best v sg, 0) := by unfold addP; rw [if_neg hp]; simp only [if_pos (Or.inl hu0 : u.f0 = 0 ∨ cmpV v u = sg)]
        rw [e]
        rcases hcase with h0 | ⟨h0, h1⟩
        · exact acc_add.best_null_v b g rows u sg v w h B hB h0 hu0
        · exact acc_add.best_null_r b g rows u sg v w h B hB h0 h1 hu0
      · by_cases hc : cmpV v u = sg
        · have e : addP (.best u sg) rows v = (.best v sg, 0) := by unfold addP; rw [if_neg hp]; simp only [if_pos (Or.inr hc : u.f0 = 0 ∨ cmpV v u = sg)]
          rw [e]
          rcases hcase with h0 | ⟨h0, h1⟩
          · exact acc_add.best_take_v b g rows u sg v w h B hB h0 hu0 hc
          · exact acc_add.best_take_r b g rows u sg v w h B hB h0 h1 hu0 hc
        · have e : addP (.best u sg) rows v = (.best u sg, 0) := by unfold addP; rw [if_neg hp]; simp only [if_neg (fun h => h.elim hu0 hc : ¬ (u.f0 = 0 ∨ cmpV v u = sg))]
          rw [e]
          rcases hcase with h0 | ⟨h0, h1⟩
          · exact acc_add.best_stay_v b g rows u sg v w h B hB h0 hu0 hc
          · exact acc_add.best_stay_r b g rows u sg v w h B hB h0 h1 hu0 hc
def newP (op : Int) (rows : Bool) : Option Gst :=
  if op = 1 then some (.count 0) else if rows = true then none else if op = 2 then some (.sum zeroV) else if op = 3 then some (.best zeroV (-1)) else if op = 4 then some (.best zeroV 1) else none
theorem AccAt.new (w : World) (rows : Bool) (st : Gst) : AccAt ((w.alloc (.cells st.cells st.ty)).alloc (.cells #[.iface st.dyn (.pointer (some ⟨w.heap.size, 0, none⟩)), .bool rows] 57)) (w.heap.size + 1) w.heap.size rows st :=
  ⟨by
    have h := Deep.blk_alloc_new (w.alloc (.cells st.cells st.ty)) (.cells #[.iface st.dyn (.pointer (some ⟨w.heap.size, 0, none⟩)), .bool rows] 57)
    have e : (w.alloc (.cells st.cells st.ty)).heap.size = w.heap.size + 1 := Array.size_push ..
    rw [e] at h
    exact h, blk_alloc (Deep.blk_alloc_new w _) _, by omega⟩
theorem if_nil (t : TypeId) (p : Value) (ht : t = 47 ∨ t = 50 ∨ t = 53) (w : World) : (binOp .eql 46 (.iface t p) .nilIface).run Try.prog w = .ok (.bool false) w := by
  rcases ht with rfl | rfl | rfl <;> kernel_rfl
set_option maxHeartbeats 1000000 in
set_option maxRecDepth 100000 in
theorem new.count (op : Int) (w : World) (h1 : op = 1) :
    Calls Try.prog 8 #[.int .i64 op, .bool false] w fun e w' => e = .returned (.tuple #[.pointer (some ⟨w.heap.size + 1, 0, none⟩), .int .i64 0]) ∧ AccAt w' (w.heap.size + 1) w.heap.size false (.count 0) ∧ Below w.heap.size w w' := by
  have hu := Try.underlying32
  have hq : ∀ (p : Value) (w : World), (binOp .eql 46 (.iface 47 p) .nilIface).run Try.prog w = .ok (.bool false) w := fun p w => if_nil _ p (by decide) w
  have hq0 : ∀ (w : World), (binOp .eql 46 .nilIface .nilIface).run Try.prog w = .ok (.bool true) w := fun w => by kernel_rfl
  have q1 : (op == 1) = true := beq_iff_eq.mpr h1
  have r1 : (op != 1) = false := bne_eq_false_iff_eq.mpr h1
  have q2 : (op == 2) = false := beq_eq_false_iff_ne.mpr (by omega)
  have r2 : (op != 2) = true := bne_iff_ne.mpr (by omega)
  have q3 : (op == 3) = false := beq_eq_false_iff_ne.mpr (by omega)
  have r3 : (op != 3) = true := bne_iff_ne.mpr (by omega)
  have q4 : (op == 4) = false := beq_eq_false_iff_ne.mpr (by omega)
  have r4 : (op != 4) = true := bne_iff_ne.mpr (by omega)
  clear h1
  go_enter Try.func8, Try.ntmps8
  go_wp2_with fail
  all_goals
    go_ret2
    exact ⟨rfl, AccAt.new w false (.count 0), below_alloc (below_alloc (Below.refl _ _) _) _⟩
set_option maxHeartbeats 1000000 in
set_option maxRecDepth 100000 in
theorem new.sum (op : Int) (w : World) (h1 : op = 2) :
    Calls Try.prog 8 #[.int .i64 op, .bool false] w fun e w' => e = .returned (.tuple #[.pointer (some ⟨w.heap.size + 1, 0, none⟩), .int .i64 0]) ∧ AccAt w' (w.heap.size + 1) w.heap.size false (.sum zeroV) ∧ Below w.heap.size w w' := by
  have hu := Try.underlying32
  have hq : ∀ (p : Value) (w : World), (binOp .eql 46 (.iface 50 p) .nilIface).run Try.prog w = .ok (.bool false) w := fun p w => if_nil _ p (by decide) w
  have hq0 : ∀ (w : World), (binOp .eql 46 .nilIface .nilIface).run Try.prog w = .ok (.bool true) w := fun w => by kernel_rfl
  have q1 : (op == 1) = false := beq_eq_false_iff_ne.mpr (by omega)
  have r1 : (op != 1) = true := bne_iff_ne.mpr (by omega)
  have q2 : (op == 2) = true := beq_iff_eq.mpr h1
  have r2 : (op != 2) = false := bne_eq_false_iff_eq.mpr h1
  have q3 : (op == 3) = false := beq_eq_false_iff_ne.mpr (by omega)
  have r3 : (op != 3) = true := bne_iff_ne.mpr (by omega)
  have q4 : (op == 4) = false := beq_eq_false_iff_ne.mpr (by omega)
  have r4 : (op != 4) = true := bne_iff_ne.mpr (by omega)
  clear h1
  go_enter Try.func8, Try.ntmps8
  go_wp2_with fail
  all_goals
    go_ret2
    exact ⟨rfl, AccAt.new w false (.sum zeroV), below_alloc (below_alloc (Below.refl _ _) _) _⟩
set_option maxHeartbeats 1000000 in
set_option maxRecDepth 100000 in
theorem new.min (op : Int) (w : World) (h1 : op = 3) :
    Calls Try.prog 8 #[.int .i64 op, .bool false] w fun e w' => e = .returned (.tuple #[.pointer (some ⟨w.heap.size + 1, 0, none⟩), .int .i64 0]) ∧ AccAt w' (w.heap.size + 1) w.heap.size false (.best zeroV (-1)) ∧ Below w.heap.size w w' := by
  have hu := Try.underlying32
  have hq : ∀ (p : Value) (w : World), (binOp .eql 46 (.iface 53 p) .nilIface).run Try.prog w = .ok (.bool false) w := fun p w => if_nil _ p (by decide) w
  have hq0 : ∀ (w : World), (binOp .eql 46 .nilIface .nilIface).run Try.prog w = .ok (.bool true) w := fun w => by kernel_rfl
  have q1 : (op == 1) = false := beq_eq_false_iff_ne.mpr (by omega)
  have r1 : (op != 1) = true := bne_iff_ne.mpr (by omega)
  have q2 : (op == 2) = false := beq_eq_false_iff_ne.mpr (by omega)
  have r2 : (op != 2) = true := bne_iff_ne.mpr (by omega)
  have q3 : (op == 3) = true := beq_iff_eq.mpr h1
  have r3 : (op != 3) = false := bne_eq_false_iff_eq.mpr h1
  have q4 : (op == 4) = false := beq_eq_false_iff_ne.mpr (by omega)
  have r4 : (op != 4) = true := bne_iff_ne.mpr (by omega)
  clear h1
  go_enter Try.func8, Try.ntmps8
  go_wp2_with fail
  all_goals
    go_ret2
    exact ⟨rfl, AccAt.new w false (.best zeroV (-1)), below_alloc (below_alloc (Below.refl _ _) _) _⟩
set_option maxHeartbeats 1000000 in
set_option maxRecDepth 100000 in
theorem new.max (op : Int) (w : World) (h1 : op = 4) :
    Calls Try.prog 8 #[.int .i64 op, .bool false] w fun e w' => e = .returned (.tuple #[.pointer (some ⟨w.heap.size + 1, 0, none⟩), .int .i64 0]) ∧ AccAt w' (w.heap.size + 1) w.heap.size false (.best zeroV 1) ∧ Below w.heap.size w w' := by
  have hu := Try.underlying32
  have hq : ∀ (p : Value) (w : World), (binOp .eql 46 (.iface 53 p) .nilIface).run Try.prog w = .ok (.bool false) w := fun p w => if_nil _ p (by decide) w
  have hq0 : ∀ (w : World), (binOp .eql 46 .nilIface .nilIface).run Try.prog w = .ok (.bool true) w := fun w => by kernel_rfl
  have q1 : (op == 1) = false := beq_eq_false_iff_ne.mpr (by omega)
  have r1 : (op != 1) = true := bne_iff_ne.mpr (by omega)
  have q2 : (op == 2) = false := beq_eq_false_iff_ne.mpr (by omega)
  have r2 : (op != 2) = true := bne_iff_ne.mpr (by omega)
  have q3 : (op == 3) = false := beq_eq_false_iff_ne.mpr (by omega)
  have r3 : (op != 3) = true := bne_iff_ne.mpr (by omega)
  have q4 : (op == 4) = true := beq_iff_eq.mpr h1
  have r4 : (op != 4) = false := bne_eq_false_iff_eq.mpr h1
  clear h1
  go_enter Try.func8, Try.ntmps8
  go_wp2_with fail
  all_goals
    go_ret2
    exact ⟨rfl, AccAt.new w false (.best zeroV 1), below_alloc (below_alloc (Below.refl _ _) _) _⟩
set_option maxHeartbeats 1000000 in
set_option maxRecDepth 100000 in
theorem new.sumR (op : Int) (w : World) (h1 : op = 2) :
    Calls Try.prog 8 #[.int .i64 op, .bool true] w fun e w' => e = .returned (.tuple #[.pointer none, .int .i64 5]) ∧ Below w.heap.size w w' := by
  have hu := Try.underlying32
  have hq : ∀ (p : Value) (w : World), (binOp .eql 46 (.iface 50 p) .nilIface).run Try.prog w = .ok (.bool false) w := fun p w => if_nil _ p (by decide) w
  have hq0 : ∀ (w : World), (binOp .eql 46 .nilIface .nilIface).run Try.prog w = .ok (.bool true) w := fun w => by kernel_rfl
  have q1 : (op == 1) = false := beq_eq_false_iff_ne.mpr (by omega)
  have r1 : (op != 1) = true := bne_iff_ne.mpr (by omega)
  have q2 : (op == 2) = true := beq_iff_eq.mpr h1
  have r2 : (op != 2) = false := bne_eq_false_iff_eq.mpr h1
  have q3 : (op == 3) = false := beq_eq_false_iff_ne.mpr (by omega)
  have r3 : (op != 3) = true := bne_iff_ne.mpr (by omega)
  have q4 : (op == 4) = false := beq_eq_false_iff_ne.mpr (by omega)
  have r4 : (op != 4) = true := bne_iff_ne.mpr (by omega)
  clear h1
  go_enter Try.func8, Try.ntmps8
  go_wp2_with fail
  all_goals
    go_ret2
    exact ⟨rfl, by repeat (first | exact Below.refl _ _ | apply below_alloc)⟩
set_option maxHeartbeats 1000000 in
set_option maxRecDepth 100000 in
theorem new.other (op : Int) (w : World) (h1 : ¬ op = 1) (h2 : ¬ op = 2) (h3 : ¬ op = 3) (h4 : ¬ op = 4) :
    Calls Try.prog 8 #[.int .i64 op, .bool false] w fun e w' => e = .returned (.tuple #[.pointer none, .int .i64 5]) ∧ Below w.heap.size w w' := by
  have hu := Try.underlying32
  have hq : ∀ (p : Value) (w : World), (binOp .eql 46 (.iface 53 p) .nilIface).run Try.prog w = .ok (.bool false) w := fun p w => if_nil _ p (by decide) w
  have hq0 : ∀ (w : World), (binOp .eql 46 .nilIface .nilIface).run Try.prog w = .ok (.bool true) w := fun w => by kernel_rfl
  have q1 : (op == 1) = false := beq_eq_false_iff_ne.mpr (by omega)
  have r1 : (op != 1) = true := bne_iff_ne.mpr (by omega)
  have q2 : (op == 2) = false := beq_eq_false_iff_ne.mpr (by omega)
  have r2 : (op != 2) = true := bne_iff_ne.mpr (by omega)
  have q3 : (op == 3) = false := beq_eq_false_iff_ne.mpr (by omega)
  have r3 : (op != 3) = true := bne_iff_ne.mpr (by omega)
  have q4 : (op == 4) = false := beq_eq_false_iff_ne.mpr (by omega)
  have r4 : (op != 4) = true := bne_iff_ne.mpr (by omega)
  clear h1 h2 h3 h4
  go_enter Try.func8, Try.ntmps8
  go_wp2_with fail
  all_goals
    go_ret2
    exact ⟨rfl, by repeat (first | exact Below.refl _ _ | apply below_alloc)⟩
end Go.Proofs.Ytgjfciohmgpohaa.P
end
section
namespace Go.Proofs.Ytgjfciohmgpohaa.P
open Go.RowKit Go.Proofs.Ytgjfciohmgpohaa.Pure Go.Proofs.YtgjfciohmgpohaaW.PrintWords Go.Proofs.YtgjfciohmgpohaaW.PrintLast Go.Proofs.YtgjfciohmgpohaaW.PrintMore
attribute [local go_sem] max2_int min2_int max_two min_two max_three min_three max_four min_four
set_option linter.unusedVariables false
set_option linter.unusedSimpArgs false
theorem new_some (op : Int) (st : Gst) (w : World) (h : newP op false = some st) :
    Calls Try.prog 8 #[.int .i64 op, .bool false] w fun e w' => e = .returned (.tuple #[.pointer (some ⟨w.heap.size + 1, 0, none⟩), .int .i64 0]) ∧ AccAt w' (w.heap.size + 1) w.heap.size false st ∧ Below w.heap.size w w' := by
  unfold newP at h
  by_cases h1 : op = 1
  · rw [if_pos h1] at h; cases h; exact new.count op w h1
  rw [if_neg h1, if_neg (by decide)] at h
  by_cases h2 : op = 2
  · rw [if_pos h2] at h; cases h; exact new.sum op w h2
  rw [if_neg h2] at h
  by_cases h3 : op = 3
  · rw [if_pos h3] at h; cases h; exact new.min op w h3
  rw [if_neg h3] at h
  by_cases h4 : op = 4
  · rw [if_pos h4] at h; cases h; exact new.max op w h4
  rw [if_neg h4] at h; cases h
theorem new_none (op : Int) (w : World) (h : newP op false = none) :
    Calls Try.prog 8 #[.int .i64 op, .bool false] w fun e w' => e = .returned (.tuple #[.pointer none, .int .i64 5]) ∧ Below w.heap.size w w' := by
  unfold newP at h
  by_cases h1 : op = 1
  · rw [if_pos h1] at h; cases h
  rw [if_neg h1, if_neg (by decide)] at h
  by_cases h2 : op = 2
  · rw [if_pos h2] at h; cases h
  rw [if_neg h2] at h
  by_cases h3 : op = 3
  · rw [if_pos h3] at h; cases h
  rw [if_neg h3] at h
  by_cases h4 : op = 4
  · rw [if_pos h4] at h; cases h
  exact new.other op w h1 h2 h3 h4
def goG (rows : Bool) : Gst → List S32 → Option Gst
  | st, [] => some st
  | st, v :: t => if (addP st rows v).2 = 0 then goG rows (addP st rows v).1 t else none
def gathP (op : Int) (l : List S32) : S32 × Bool :=
  match newP op false with
  | none => (zeroV, false)
  | some st => match goG false st l with | none => (zeroV, false) | some s => (valP s, true)
theorem goG_step {rows : Bool} {st : Gst} {l : List S32} {k : Nat} (hk : k < l.length) : goG rows st (l.drop k) = if (addP st rows (rd_T32 l k)).2 = 0 then goG rows (addP st rows (rd_T32 l k)).1 (l.drop (k + 1)) else none := by
  have : rd_T32 l k = l[k] := by unfold rd_T32; simp [hk]
  rw [List.drop_eq_getElem_cons hk, this]
  rfl
theorem sum_in {a b n : Int} (h : sumP 11 a b = .ok n) : In64 n := by
  unfold sumP at h
  rw [if_pos rfl] at h
  by_cases hi : In64 (a + b)
  · rw [if_pos hi] at h; cases h; exact hi
  · rw [if_neg hi] at h; cases h
theorem bin_num {op : Int} (ho : op = 11) (a b : S32) (r : S32) (h11 : 11 ≤ op) (h15 : op ≤ 15) (ha : In64 a.f1) (hb : In64 b.f1) (h : bin op a b = .ok r) : FitsV r := by
  unfold bin at h
  rw [if_neg (show ¬ ¬ (3 ≤ op ∧ op ≤ 16) by omega)] at h
  by_cases h2 : ¬ kindsP op a.f0 b.f0
  · rw [if_pos h2] at h; cases h
  rw [if_neg h2, if_neg (show ¬ op ≤ 4 by omega)] at h
  by_cases h4 : a.f0 = 0 ∨ b.f0 = 0
  · rw [if_pos h4] at h; cases h; exact ⟨by show In64 0; decide, by show (0 : Nat) ≤ _; omega⟩
  rw [if_neg h4, if_neg (show ¬ op ≤ 10 by omega), if_neg (show ¬ op = 16 by omega)] at h
  cases hs : sumP op a.f1 b.f1 with
  | error c => rw [hs] at h; cases h
  | ok n =>
    rw [hs] at h
    cases h
    subst ho
    exact ⟨sum_in hs, by show (0 : Nat) ≤ _; omega⟩
theorem addP_fits {st : Gst} {rows : Bool} {v : S32} (hs : st.fits) (hv : FitsV v) : (addP st rows v).1.fits := by
  unfold addP
  by_cases hp : v.f0 = 0 ∧ rows = false
  · rw [if_pos hp]; exact hs
  rw [if_neg hp]
  cases st with
  | count n => trivial
  | sum s =>
    show FitsV (sumA s v).1
    unfold sumA
    cases hr : bin 11 (if s.f0 = 0 then numV 0 else s) v with
    | error c => exact hs
    | ok r =>
      refine bin_num (op := 11) rfl _ v r (by omega) (by omega) ?_ hv.1 hr
      by_cases h0 : s.f0 = 0
      · rw [if_pos h0]; show In64 0; decide
      · rw [if_neg h0]; exact hs.1
  | best u sg =>
    by_cases h : u.f0 = 0 ∨ cmpV v u = sg
    · simp only [if_pos h]; trivial
    · simp only [if_neg h]; trivial
theorem newP_fits {op : Int} {st : Gst} (h : newP op false = some st) : st.fits := by
  unfold newP at h
  by_cases h1 : op = 1
  · rw [if_pos h1] at h; cases h; trivial
  rw [if_neg h1, if_neg (by decide)] at h
  by_cases h2 : op = 2
  · rw [if_pos h2] at h; cases h; exact ⟨by show In64 0; decide, by show (0 : Nat) ≤ _; omega⟩
  rw [if_neg h2] at h
  by_cases h3 : op = 3
  · rw [if_pos h3] at h; cases h; trivial
  rw [if_neg h3] at h
  by_cases h4 : op = 4
  · rw [if_pos h4] at h; cases h; trivial
  rw [if_neg h4] at h; cases h
theorem rd_fits {l : List S32} (h : ∀ v ∈ l, FitsV v) (k : Nat) (hk : k < l.length) : FitsV (rd_T32 l k) := by
  have : rd_T32 l k = l[k] := by unfold rd_T32; simp [hk]
  rw [this]; exact h _ (List.getElem_mem hk)
set_option maxHeartbeats 1000000 in
set_option maxRecDepth 100000 in
theorem gathered.no (op : Int) (l : List S32) (A : Option Addr) (c : Nat) (w : World) (h : newP op false = none) :
    Calls Try.prog 16 #[.int .i64 op, .slice A l.length c] w fun e w' => e = .returned (.tuple #[encV zeroV, .bool false]) ∧ Below w.heap.size w w' := by
  have hu := Try.underlying32
  have HN := Aside0.mk h
  have HZ := Aside0.mk (Deep.blk_alloc_new w (.cells #[.int .i64 0, .int .i64 0, .string (⟨#[]⟩ : ByteArray)] 32))
  clear h
  go_enter Try.func16, Try.ntmps16
  go_wp2_with fail
  refine (new_none op _ HN.out).mono ?_
  rintro e w1 ⟨rfl, hb⟩
  have HI := Aside0.mk (blk_below HZ.out hb)
  have HW := Aside0.mk (below_step (below_alloc (Below.refl w.heap.size w) _) hb)
  clear hb
  have gc0 : w1.cell? ⟨w.heap.size, 0, none⟩ = some (.int .i64 0) := (blk_cell HI.out 0).trans rfl
  have gc1 : w1.cell? ⟨w.heap.size, 1, none⟩ = some (.int .i64 0) := (blk_cell HI.out 1).trans rfl
  have gc2 : w1.cell? ⟨w.heap.size, 2, none⟩ = some (.string (⟨#[]⟩ : ByteArray)) := (blk_cell HI.out 2).trans rfl
  have gf0 := blk_frozen HI.out 0
  have gf1 := blk_frozen HI.out 1
  have gf2 := blk_frozen HI.out 2
  go_wp2_with fail
  exact bodyPost_ret (v := .tuple #[encV zeroV, .bool false]) (by simp [results, Try.results16, go_sem, encV, zeroV, V0, gc0, gc1, gc2]) rfl ⟨rfl, below_set3 HW.out (Nat.le_refl _) _ _ _ _ _ _⟩
def LW (w wr : World) (g : Nat) : Prop := wr.heap[w.heap.size]? = some (.cells #[.int .i64 0, .int .i64 0, .string (⟨#[]⟩ : ByteArray)] 32 (0, 0)) ∧ Below w.heap.size w wr ∧ w.heap.size < g
set_option maxHeartbeats 2000000 in
set_option maxRecDepth 100000 in
theorem gathered.yes (op : Int) (l : List S32) (A : Option Addr) (c : Nat) (w : World) (hr : Kd.C k32 w A l.length l) (hf : ∀ v ∈ l, FitsV v) (st : Gst) (h : newP op false = some st) :
    Calls Try.prog 16 #[.int .i64 op, .slice A l.length c] w fun e w' => e = .returned (.tuple #[encV (gathP op l).1, .bool (gathP op l).2]) ∧ Below w.heap.size w w' := by
  have hu := Try.underlying32
  have HN := Aside0.mk h
  have HR := Aside0.mk hr
  have HF := Aside0.mk hf
  have HZ := Aside0.mk (Deep.blk_alloc_new w (.cells #[.int .i64 0, .int .i64 0, .string (⟨#[]⟩ : ByteArray)] 32))
  have HP : Aside0 (gathP op l = match goG false st l with | none => (zeroV, false) | some s => (valP s, true)) := ⟨by unfold gathP; rw [h]⟩
  have HM : Aside0 (l.length ≤ 9223372036854775807) := ⟨Kd.C_max hr⟩
  clear h hr hf
  go_enter Try.func16, Try.ntmps16
  go_wp2_with fail
  refine (new_some op st _ HN.out).mono ?_
  rintro e w1 ⟨rfl, hA, hb⟩
  have hsz : (w.alloc (.cells #[.int .i64 0, .int .i64 0, .string (⟨#[]⟩ : ByteArray)] 32)).heap.size = w.heap.size + 1 := Array.size_push ..
  rw [hsz] at hA
  have HI := Aside0.mk (blk_below HZ.out hb)
  have HW := Aside0.mk (below_step (below_alloc (Below.refl w.heap.size w) _) hb)
  have HA := Aside0.mk hA
  clear hb hA hsz
  go_wp2_with fail
  go_loopw [8] (fun v8 wr => ∃ (k : Nat) (s : Gst), v8 = .int .i64 k ∧ k ≤ l.length ∧ Aside0 (goG false s (l.drop k) = goG false st l) ∧ Aside0 s.fits ∧ Aside0 (AccAt wr (w.heap.size + 1 + 1) (w.heap.size + 1) false s) ∧ Aside0 (LW w wr (w.heap.size + 1))) (fun v8 _ => l.length - (intOf v8).toNat)
  case atStart => exact ⟨0, st, rfl, Nat.zero_le _, ⟨by simp⟩, ⟨newP_fits HN.out⟩, HA, ⟨HI.out, HW.out, by omega⟩⟩
  case round =>
    obtain ⟨k, s, rfl, hk, HG, HS, HA, HL⟩ := hrel
    by_cases hlt : k < l.length
    · obtain ⟨ad, rfl, hx0, hx1, hx2⟩ := at_T32 (Kd.C_below HR.out HL.out.2.1) k (by omega) (by omega)
      replace hx0 : wr.cell? (ad.add (k * 3)) = some (.int .i64 (rd_T32 l k).f0) := hx0
      replace hx1 : wr.cell? ⟨(ad.add (k * 3)).block, (ad.add (k * 3)).off + 1, none⟩ = some (.int .i64 (rd_T32 l k).f1) := hx1
      replace hx2 : wr.cell? ⟨(ad.add (k * 3)).block, (ad.add (k * 3)).off + 2, none⟩ = some (.string (rd_T32 l k).f2) := hx2
      have q_a : decide (k < l.length) = true := decide_eq_true hlt
      have q_b : decide ((k : Int) < (l.length : Int)) = true := decide_eq_true (by omega)
      have q_c : (k < l.length) = True := eq_true hlt
      have q_e : ((k : Int) < (l.length : Int)) = True := eq_true (by omega)
      have q_d : (0 ≤ (k : Int)) = True := eq_true (by omega)
      have HK : Aside0 (k < l.length) := ⟨hlt⟩
      have hkm : k < 9223372036854775807 := by have := HM.out; omega
      have HST := Aside0.mk (goG_step (rows := false) (st := s) hlt)
      have HV := Aside0.mk (rd_fits HF.out k hlt)
      clear hlt hk
      go_wp2_with fail
      refine (acc_add.calls (w.heap.size + 1 + 1) (w.heap.size + 1) false s (rd_T32 l k) _ HA.out w.heap.size (Nat.le_succ _) HS.out HV.out).mono ?_
      rintro e w2 ⟨rfl, hA2, hb2, hk2⟩
      have HA2 := Aside0.mk hA2
      have HL2 : Aside0 (LW w w2 (w.heap.size + 1)) := ⟨hk2.blk HL.out.1 (by omega) (by simp), HL.out.2.1.trans hb2, HL.out.2.2⟩
      clear hA2 hb2 hk2
      by_cases ha : (addP s false (rd_T32 l k)).2 = 0
      · have q0 : ((addP s false (rd_T32 l k)).2 != 0) = false := bne_eq_false_iff_eq.mpr ha
        have HG2 : Aside0 (goG false (addP s false (rd_T32 l k)).1 (l.drop (k + 1)) = goG false st l) := ⟨by have h1 := HST.out; rw [if_pos ha] at h1; rw [← h1]; exact HG.out⟩
        clear ha hx0 hx1 hx2
        go_wp2_with fail
        go_roundw
        case rel => exact ⟨k + 1, _, by go_num, HK.out, HG2, ⟨addP_fits HS.out HV.out⟩, HA2, HL2⟩
        case measure => have := HK.out; simp [intOf]; omega
      · have q0 : ((addP s false (rd_T32 l k)).2 != 0) = true := bne_iff_ne.mpr ha
        have HG2 : Aside0 (gathP op l = (zeroV, false)) := ⟨by have h1 := HST.out; rw [if_neg ha] at h1; rw [HP.out, ← HG.out, h1]⟩
        clear ha hx0 hx1 hx2
        have gc0 : w2.cell? ⟨w.heap.size, 0, none⟩ = some (.int .i64 0) := (blk_cell HL2.out.1 0).trans rfl
        have gc1 : w2.cell? ⟨w.heap.size, 1, none⟩ = some (.int .i64 0) := (blk_cell HL2.out.1 1).trans rfl
        have gc2 : w2.cell? ⟨w.heap.size, 2, none⟩ = some (.string (⟨#[]⟩ : ByteArray)) := (blk_cell HL2.out.1 2).trans rfl
        have gf0 := blk_frozen HL2.out.1 0
        have gf1 := blk_frozen HL2.out.1 1
        have gf2 := blk_frozen HL2.out.1 2
        go_wp2_with fail
        refine bodyPost_ret (v := .tuple #[encV zeroV, .bool false]) (by simp [results, Try.results16, go_sem, encV, zeroV, V0, gc0, gc1, gc2]) rfl ⟨?_, below_set3 HL2.out.2.1 (Nat.le_refl _) _ _ _ _ _ _⟩
        rw [HG2.out]
    · have q_a : decide (k < l.length) = false := decide_eq_false hlt
      have q_b : decide ((k : Int) < (l.length : Int)) = false := decide_eq_false (by omega)
      have HG2 : Aside0 (gathP op l = (valP s, true)) := ⟨by rw [HP.out, ← HG.out, List.drop_eq_nil_of_le (by omega)]; rfl⟩
      clear hlt hk
      go_wp2_with fail
      refine (acc_value.calls (w.heap.size + 1 + 1) (w.heap.size + 1) false s _ HA.out).mono ?_
      rintro e w2 ⟨rfl, hb⟩
      have HL2 := Aside0.mk (blk_below HL.out.1 hb)
      have HB2 := Aside0.mk (below_step HL.out.2.1 hb)
      clear hb
      have gc0 : w2.cell? ⟨w.heap.size, 0, none⟩ = some (.int .i64 0) := (blk_cell HL2.out 0).trans rfl
      have gc1 : w2.cell? ⟨w.heap.size, 1, none⟩ = some (.int .i64 0) := (blk_cell HL2.out 1).trans rfl
      have gc2 : w2.cell? ⟨w.heap.size, 2, none⟩ = some (.string (⟨#[]⟩ : ByteArray)) := (blk_cell HL2.out 2).trans rfl
      have gf0 := blk_frozen HL2.out 0
      have gf1 := blk_frozen HL2.out 1
      have gf2 := blk_frozen HL2.out 2
      unfold encV
      go_wp2_with fail
      refine bodyPost_ret (v := .tuple #[encV (valP s), .bool true]) (by simp [results, Try.results16, go_sem, encV, gc0, gc1, gc2]) rfl ⟨?_, below_set3 HB2.out (Nat.le_refl _) _ _ _ _ _ _⟩
      rw [HG2.out]
theorem gathered.calls (op : Int) (l : List S32) (A : Option Addr) (c : Nat) (w : World) (hr : Kd.C k32 w A l.length l) (hf : ∀ v ∈ l, FitsV v) :
    Calls Try.prog 16 #[.int .i64 op, .slice A l.length c] w fun e w' => e = .returned (.tuple #[encV (gathP op l).1, .bool (gathP op l).2]) ∧ Below w.heap.size w w' := by
  cases h : newP op false with
  | none =>
    have e : gathP op l = (zeroV, false) := by unfold gathP; rw [h]
    rw [e]; exact gathered.no op l A c w h
  | some st => exact gathered.yes op l A c w hr hf st h
def fitsB (l : List S32) : Bool := l.all fun v => decide (-9223372036854775808 ≤ v.f1) && decide (v.f1 ≤ 9223372036854775807) && decide (v.f2.size ≤ 140737488351232)
theorem fits_of {l : List S32} (h : fitsB l = true) : ∀ v ∈ l, FitsV v := by
  intro v hv
  have := List.all_eq_true.1 h v hv
  simp only [Bool.and_eq_true, decide_eq_true_eq] at this
  exact ⟨⟨this.1.1, this.1.2⟩, this.2⟩
theorem of_fits {l : List S32} (h : ∀ v ∈ l, FitsV v) : fitsB l = true := by
  refine List.all_eq_true.2 fun v hv => ?_
  obtain ⟨⟨h1, h2⟩, h3⟩ := h v hv
  simp only [Bool.and_eq_true, decide_eq_true_eq]
  exact ⟨⟨h1, h2⟩, h3⟩
def quarrylaw17_gathered.f (op : Int) (l : List S32) : Option (Int × Int × ByteArray × Bool) := if fitsB l = true then some ((gathP op l).1.f0, (gathP op l).1.f1, (gathP op l).1.f2, (gathP op l).2) else none
theorem quarrylaw17_gathered.print (a0 : Int) (A1 : Option Addr) (c1 : Nat) (l1 : List (S32)) (r1 : Int) (r2 : Int) (r3 : ByteArray) (r4 : Bool) (w : World) (hr1 : Kd.C k32 w A1 l1.length l1) (hc1 : l1.length ≤ c1) (h : quarrylaw17_gathered.f a0 l1 = some (r1, r2, r3, r4)) :
    Calls Try.prog 16 #[.int .i64 a0, .slice A1 l1.length c1] w fun e w' => e = .returned (.tuple #[.agg #[.int .i64 r1, .int .i64 r2, .string r3], .bool r4]) ∧ Below w.heap.size w w' := by
  unfold quarrylaw17_gathered.f at h
  by_cases hf : fitsB l1 = true
  · rw [if_pos hf, Option.some.injEq] at h
    have := gathered.calls a0 l1 A1 c1 w hr1 (fits_of hf)
    obtain ⟨rfl, rfl, rfl, rfl⟩ : (gathP a0 l1).1.f0 = r1 ∧ (gathP a0 l1).1.f1 = r2 ∧ (gathP a0 l1).1.f2 = r3 ∧ (gathP a0 l1).2 = r4 := by simpa using h
    exact this
  · rw [if_neg hf] at h; cases h
end Go.Proofs.Ytgjfciohmgpohaa.P
end
