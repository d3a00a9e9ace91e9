/- Laid by a program of this session out of its texts for the law AggPlays, part 3. -/
import Derived.BigGuardPart
import Derived.RegionDies
import Derived.WalkLawsBesides
import Derived.WalkSpells
import Derived.Outline
import Derived.Test.YtgjfciohmgpohaaZAggPlays2
section
namespace Go.Proofs.Ytgjfciohmgpohaa.Pure
set_option linter.unusedVariables false
set_option linter.unusedSimpArgs false
open Go.RowKit Go.Proofs.Ytgjfciohmgpohaa.P Go.Proofs.YtgjfciohmgpohaaW.PrintWords Go.Proofs.YtgjfciohmgpohaaW.PrintLast Go.Proofs.YtgjfciohmgpohaaW.PrintMore
def goesP (op a : Int) : Bool := decide (wantsP op = 0 ∨ a = wantsP op ∨ a = 0)
theorem goes_ev {op : Int} (h3 : 3 ≤ op) (h16 : op ≤ 16) (a : Int) : Ev (fun k => quarryref02_goes.f k op a) (goesP op a) := by
  have hj1 : ∀ x : Bool, Ev (fun k => quarryref02_goes.j1 k op a x) (if x = true then a == 1 else if op = 16 then a == 3 else a == 2) := by
    intro x
    refine Ev.succ ?_
    simp only [quarryref02_goes.j1]
    cases x
    · by_cases h : op = 16
      · simp only [h, if_true]; exact Ev.pure _
      · simp only [h, if_false]; exact Ev.pure _
    · exact Ev.pure _
  have hj0 : ∀ x : Bool, Ev (fun k => quarryref02_goes.j0 k op a x) (if x = true then true else if op ≤ 4 then a == 1 else if op = 16 then a == 3 else a == 2) := by
    intro x
    refine Ev.succ ?_
    simp only [quarryref02_goes.j0]
    cases x
    · simp only [Bool.false_eq_true, if_false]
      by_cases e3 : op = 3
      · simp only [e3, if_true, beq_self_eq_true]
        have := hj1 true
        rw [e3] at this
        simpa using this
      · simp only [e3, if_false]
        by_cases e4 : op = 4
        · have := hj1 true
          rw [e4] at this ⊢
          simpa using this
        · have h4 : ¬ op ≤ 4 := by omega
          rw [if_neg h4, beq_eq_false_iff_ne.mpr e4]
          have := hj1 false
          simpa using this
    · exact Ev.pure _
  unfold quarryref02_goes.f goesP wantsP
  by_cases h0 : a = 0
  · have := hj0 true
    subst h0
    simpa using this
  · simp only [h0, if_false, or_false]
    by_cases h5 : op ≥ 5
    · have h4 : ¬ op ≤ 4 := by omega
      simp only [h5, if_true, h4, if_false]
      by_cases h10 : op ≤ 10
      · have := hj0 true
        simpa [h10] using this
      · have := hj0 false
        simp only [Bool.false_eq_true, if_false, h4] at this
        by_cases h16 : op = 16
        · simpa [h10, h16, BEq.beq, eq_comm] using this
        · simpa [h10, h16, BEq.beq, eq_comm] using this
    · have h4 : op ≤ 4 := by omega
      have := hj0 false
      simp only [Bool.false_eq_true, if_false, h4, if_true] at this
      simpa [h5, h4, BEq.beq, eq_comm] using this
theorem truthR_f (b : Bool) : quarryref02_Truth.f b = some ((truthV b).f0, (truthV b).f1, (truthV b).f2) := by cases b <;> rfl
theorem holdsR_f (op c : Int) : quarryref02_holds.f op c = some (holdsP op c) := by
  unfold quarryref02_holds.f holdsP
  repeat' split
  all_goals rfl
theorem logicR_ev {op : Int} (h3 : 3 ≤ op) (h4 : op ≤ 4) (u v : S32) : Ev (fun k => quarryref02_logic.f k op u.f0 u.f1 u.f2 v.f0 v.f1 v.f2) ((logicP u v (truthV (op == 3))).f0, (logicP u v (truthV (op == 3))).f1, (logicP u v (truthV (op == 3))).f2) := by
  have ho : truthV (!decide (truthV (op == 3) = truthV true)) = truthV (op == 4) := by
    rcases (by omega : op = 3 ∨ op = 4) with h | h <;> subst h <;> decide
  obtain ⟨s, hs⟩ : ∃ s, truthV (op == 3) = s := ⟨_, rfl⟩
  rw [hs] at ho ⊢
  have hj0 : ∀ b : Bool, Ev (fun k => quarryref02_logic.j0 k op b u.f0 u.f1 u.f2 v.f0 v.f1 v.f2 s.f0 s.f1 s.f2) (if b = true then (s.f0, s.f1, s.f2) else if u.f0 = 0 ∨ v.f0 = 0 then (0, 0, V0) else ((truthV (op == 4)).f0, (truthV (op == 4)).f1, (truthV (op == 4)).f2)) := by
    intro b
    refine Ev.succ ?_
    simp only [quarryref02_logic.j0, truthR_f, Option.bind_some]
    cases b
    · simp only [Bool.false_eq_true, if_false]
      by_cases h0 : u.f0 = 0
      · simp only [h0, if_true, true_or]; exact Ev.pure _
      · by_cases h1 : v.f0 = 0
        · simp only [h0, h1, if_true, if_false, or_true]; exact Ev.pure _
        · simp only [h0, h1, if_false, or_self]; exact Ev.pure _
    · exact Ev.pure _
  unfold quarryref02_logic.f logicP
  simp only [truthR_f, Option.bind_some, hs, eqb]
  by_cases h0 : u = s
  · have := hj0 true
    simpa [h0] using this
  · have := hj0 (decide (v = s))
    by_cases h1 : v = s
    · simpa [h0, h1] using this
    · simp only [h0, h1, decide_false, Bool.false_eq_true, if_false, or_self, ho] at this ⊢
      by_cases h2 : u.f0 = 0 ∨ v.f0 = 0
      · simp only [h2, if_true] at this ⊢; exact this
      · simp only [h2, if_false] at this ⊢; exact this
theorem wrap_at {n : Int} (h : In64 n) : wrap64 n = n := by unfold In64 at h; unfold wrap64; omega
theorem prod_back {a b : Int} (ha : In64 a) (hb : In64 b) (h0 : ¬ b = 0) (h1 : ¬ b = -1) : ((wrap64 (Int.tdiv (wrap64 (a * b)) b)) == a) = decide (In64 (a * b)) := by
  have hq : wrap64 (Int.tdiv (wrap64 (a * b)) b) = Int.tdiv (wrap64 (a * b)) b := P.quo_in (P.wrap_in _) hb h0 (fun h => h1 h.2)
  rw [hq]
  by_cases h : In64 (a * b)
  · rw [decide_eq_true h, wrap_at h, Int.mul_tdiv_cancel _ h0]
    exact beq_self_eq_true a
  · rw [decide_eq_false h]
    refine beq_eq_false_iff_ne.mpr fun e => h ?_
    have hd := Int.tmod_add_mul_tdiv (wrap64 (a * b)) b
    rw [e] at hd
    have hm : (Int.tmod (wrap64 (a * b)) b).natAbs < b.natAbs := by rw [Int.natAbs_tmod]; exact Nat.mod_lt _ (by omega)
    have hc : b * a = a * b := Int.mul_comm b a
    rw [hc] at hd
    obtain ⟨P, hP⟩ : ∃ P, a * b = P := ⟨_, rfl⟩
    rw [hP] at hd hm ⊢
    unfold In64 at hb ⊢
    unfold wrap64 at hd hm
    obtain ⟨t, ht⟩ : ∃ t, Int.tmod ((P + 9223372036854775808) % 18446744073709551616 - 9223372036854775808) b = t := ⟨_, rfl⟩
    rw [ht] at hd hm
    omega
theorem neg_bne {b : Int} (hb : In64 b) : (b != -9223372036854775808) = decide (In64 (-b)) := by
  by_cases q : b = -9223372036854775808
  · subst q; decide
  · rw [bne_iff_ne.mpr q]
    refine (decide_eq_true ?_).symm
    unfold In64 at hb ⊢
    omega
theorem times_ev {a b : Int} (ha : In64 a) (hb : In64 b) : Ev (fun k => quarryref02_times.f k a b) (wrap64 (a * b), decide (In64 (a * b))) := by
  have h00 : In64 0 := by unfold In64; omega
  have hj : ∀ x : Bool, x = decide (a = 0 ∨ b = 0) → Ev (fun k => quarryref02_times.j0 k a b x) (wrap64 (a * b), decide (In64 (a * b))) := by
    intro x hx
    refine Ev.succ ?_
    simp only [quarryref02_times.j0]
    by_cases h : a = 0 ∨ b = 0
    · have e : a * b = 0 := by rcases h with h | h <;> simp [h]
      rw [hx, decide_eq_true h, e]
      simp only [if_true, wrap_at h00, decide_eq_true h00]
      exact Ev.pure _
    · have na : ¬ a = 0 := fun q => h (.inl q)
      have nb : ¬ b = 0 := fun q => h (.inr q)
      rw [hx, decide_eq_false h]
      simp only [Bool.false_eq_true, if_false]
      by_cases ea : a = -1
      · have e : a * b = -b := by rw [ea]; omega
        simp only [ea, if_true]
        rw [ea] at e
        rw [e]
        rw [neg_bne hb]; exact Ev.pure _
      · simp only [ea, if_false]
        by_cases eb : b = -1
        · have e : a * b = -a := by rw [eb]; omega
          rw [e]
          simp only [eb, if_true, neg_bne ha]
          exact Ev.pure _
        · simp only [eb, nb, if_false, prod_back ha hb nb eb]
          exact Ev.pure _
  unfold quarryref02_times.f
  by_cases h0 : a = 0
  · simp only [if_pos h0]; exact hj true (by simp [h0])
  · simp only [if_neg h0]; exact hj (b == 0) (by by_cases q : b = 0 <;> simp [h0, q])
def sumR (op a b : Int) : Int × Bool :=
  if op = 11 then (wrap64 (a + b), decide (In64 (a + b))) else if op = 12 then (wrap64 (a - b), decide (In64 (a - b))) else if op = 13 then (wrap64 (a * b), decide (In64 (a * b)))
  else if op = 14 then (if b = -1 then (wrap64 (-a), a != -9223372036854775808) else (Int.tdiv a b, true)) else if b = -1 then (0, true) else (Int.tmod a b, true)
theorem sumR_ev {op a b : Int} (ha : In64 a) (hb : In64 b) (hz : 14 ≤ op → ¬ b = 0) (ho : 11 ≤ op) : Ev (fun k => quarryref02_sum.f k op a b) (sumR op a b) := by
  unfold quarryref02_sum.f sumR
  by_cases h11 : op = 11
  · simp only [if_pos h11]
    by_cases hb0 : b = 0
    · subst hb0
      rw [Int.add_zero, wrap_at ha, decide_eq_true ha]
      simp only [gt_iff_lt, Int.lt_irrefl, beq_self_eq_true, if_true]
      exact Ev.pure _
    have e : (decide (wrap64 (a + b) > a) == decide (b > 0)) = decide (In64 (a + b)) := by
      by_cases h : In64 (a + b)
      · rw [wrap_at h, decide_eq_true h]
        by_cases q : b > 0
        · rw [decide_eq_true q, decide_eq_true (by omega)]; rfl
        · rw [decide_eq_false q, decide_eq_false (by omega)]; rfl
      · rw [decide_eq_false h]
        unfold In64 at ha hb h
        by_cases q : b > 0
        · rw [decide_eq_true q, decide_eq_false (by unfold wrap64; omega)]; rfl
        · rw [decide_eq_false q, decide_eq_true (by unfold wrap64; omega)]; rfl
    rw [e]
    have : (b == 0) = false := beq_eq_false_iff_ne.mpr hb0
    by_cases h : In64 (a + b)
    · simp only [decide_eq_true h, if_true]; exact Ev.pure _
    · simp only [decide_eq_false h, Bool.false_eq_true, if_false, this]; exact Ev.pure _
  simp only [if_neg h11]
  by_cases h12 : op = 12
  · simp only [if_pos h12]
    by_cases hb0 : b = 0
    · subst hb0
      rw [Int.sub_zero, wrap_at ha, decide_eq_true ha]
      simp only [Int.lt_irrefl, beq_self_eq_true, if_true]
      exact Ev.pure _
    have e : (decide (wrap64 (a - b) < a) == decide (b > 0)) = decide (In64 (a - b)) := by
      by_cases h : In64 (a - b)
      · rw [wrap_at h, decide_eq_true h]
        by_cases q : b > 0
        · rw [decide_eq_true q, decide_eq_true (by omega)]; rfl
        · rw [decide_eq_false q, decide_eq_false (by omega)]; rfl
      · rw [decide_eq_false h]
        unfold In64 at ha hb h
        by_cases q : b > 0
        · rw [decide_eq_true q, decide_eq_false (by unfold wrap64; omega)]; rfl
        · rw [decide_eq_false q, decide_eq_true (by unfold wrap64; omega)]; rfl
    rw [e]
    have : (b == 0) = false := beq_eq_false_iff_ne.mpr hb0
    by_cases h : In64 (a - b)
    · simp only [decide_eq_true h, if_true]; exact Ev.pure _
    · simp only [decide_eq_false h, Bool.false_eq_true, if_false, this]; exact Ev.pure _
  simp only [if_neg h12]
  by_cases h13 : op = 13
  · simp only [if_pos h13]
    exact Ev.bind (times_ev ha hb) (Ev.pure _)
  simp only [if_neg h13]
  have nz := hz (by omega)
  by_cases h14 : op = 14
  · simp only [if_pos h14]
    by_cases hm : b = -1
    · simp only [if_pos hm]; exact Ev.pure _
    · simp only [if_neg hm, if_neg nz, P.quo_in ha hb nz (fun h => hm h.2)]; exact Ev.pure _
  · simp only [if_neg h14]
    by_cases hm : b = -1
    · simp only [if_pos hm]; exact Ev.pure _
    · simp only [if_neg hm, if_neg nz]; exact Ev.pure _
theorem sumP_R {op a b : Int} (ha : In64 a) (hb : In64 b) (hz : 14 ≤ op → ¬ b = 0) (h11 : 11 ≤ op) (h15 : op ≤ 15) : sumP op a b = if (sumR op a b).2 = true then .ok (sumR op a b).1 else .error 40 := by
  unfold sumP sumR prodP
  by_cases e11 : op = 11
  · simp only [if_pos e11]
    by_cases h : In64 (a + b)
    · simp [h, wrap_at h]
    · simp [h]
  simp only [if_neg e11]
  by_cases e12 : op = 12
  · simp only [if_pos e12]
    by_cases h : In64 (a - b)
    · simp [h, wrap_at h]
    · simp [h]
  simp only [if_neg e12]
  by_cases e13 : op = 13
  · simp only [if_pos e13]
    by_cases h : In64 (a * b)
    · simp [h, wrap_at h]
    · simp [h]
  simp only [if_neg e13, if_neg (hz (by omega))]
  by_cases e14 : op = 14
  · have e15 : ¬ op = 15 := by omega
    simp only [if_pos e14, if_neg e15]
    by_cases hm : b = -1
    · simp only [if_pos hm]
      by_cases q : a = -9223372036854775808
      · subst q; subst hm; simp
      · have hn : In64 (-a) := by unfold In64 at ha ⊢; omega
        simp [q, wrap_at hn, hm]
    · simp [hm]
  · have e15 : op = 15 := by omega
    simp only [if_neg e14, if_pos e15]
    by_cases hm : b = -1
    · simp [hm]
    · simp [hm]
end Go.Proofs.Ytgjfciohmgpohaa.Pure
end
section
namespace Go.Proofs.Ytgjfciohmgpohaa.P
open Go.RowKit Go.Proofs.Ytgjfciohmgpohaa.Pure Go.Proofs.YtgjfciohmgpohaaW.PrintWords Go.Proofs.YtgjfciohmgpohaaW.PrintLast Go.Proofs.YtgjfciohmgpohaaW.PrintMore
attribute [local go_sem] max2_int min2_int max_two min_two max_three min_three max_four min_four
set_option linter.unusedVariables false
set_option linter.unusedSimpArgs false
theorem logicR_calls {op : Int} (h3 : 3 ≤ op) (h4 : op ≤ 4) (u v : S32) (w : World) : Calls Try.prog 25 #[.int .i64 op, .agg #[.int .i64 u.f0, .int .i64 u.f1, .string u.f2], .agg #[.int .i64 v.f0, .int .i64 v.f1, .string v.f2]] w fun e w' => e = .returned (.agg #[.int .i64 (logicP u v (truthV (op == 3))).f0, .int .i64 (logicP u v (truthV (op == 3))).f1, .string (logicP u v (truthV (op == 3))).f2]) ∧ Below w.heap.size w w' := by
  obtain ⟨k, hk⟩ := (logicR_ev h3 h4 u v).get
  exact quarryref02_logic.calls k _ _ _ _ _ _ _ _ _ _ w hk
theorem compareR_calls (u v : S32) (hz : u.f2.size ≤ 140737488351232) (w : World) : Calls Try.prog 17 #[.agg #[.int .i64 u.f0, .int .i64 u.f1, .string u.f2], .agg #[.int .i64 v.f0, .int .i64 v.f1, .string v.f2]] w fun e w' => e = .returned (.int .i64 (cmpV u v)) ∧ Below w.heap.size w w' := by
  obtain ⟨k, hk⟩ := (ref_cmp_ev u v hz).get
  exact quarryref01_Compare.calls k _ _ _ _ _ _ _ w hk
def BR (u v : S32) (W w : World) : Prop :=
  w.heap[W.heap.size]? = some (.cells #[.int .i64 u.f0, .int .i64 u.f1, .string u.f2] 32 (0, 0)) ∧ w.heap[W.heap.size + 1]? = some (.cells #[.int .i64 v.f0, .int .i64 v.f1, .string v.f2] 32 (0, 0)) ∧
  w.heap[W.heap.size + 1 + 1]? = some (.cells #[.int .i64 0, .int .i64 0, .string (⟨#[]⟩ : ByteArray)] 32 (0, 0)) ∧ Below W.heap.size W w
section
variable {u v : S32} {W w w' : World}
theorem BR.start : BR u v W (((W.alloc (.cells #[.int .i64 u.f0, .int .i64 u.f1, .string u.f2] 32)).alloc (.cells #[.int .i64 v.f0, .int .i64 v.f1, .string v.f2] 32)).alloc (.cells #[.int .i64 0, .int .i64 0, .string (⟨#[]⟩ : ByteArray)] 32)) := by
  have t1 := Deep.blk_alloc_new W (.cells #[.int .i64 u.f0, .int .i64 u.f1, .string u.f2] 32)
  have t2 := Deep.blk_alloc_new (W.alloc (.cells #[.int .i64 u.f0, .int .i64 u.f1, .string u.f2] 32)) (.cells #[.int .i64 v.f0, .int .i64 v.f1, .string v.f2] 32)
  have t3 := Deep.blk_alloc_new ((W.alloc (.cells #[.int .i64 u.f0, .int .i64 u.f1, .string u.f2] 32)).alloc (.cells #[.int .i64 v.f0, .int .i64 v.f1, .string v.f2] 32)) (.cells #[.int .i64 0, .int .i64 0, .string (⟨#[]⟩ : ByteArray)] 32)
  exact ⟨blk_alloc (blk_alloc t1 _) _, blk_alloc (by simpa using t2) _, by simpa using t3, below_alloc (below_alloc (below_alloc (Below.refl _ _) _) _) _⟩
theorem BR.drewN (h : BR u v W w) (n : Nat) : BR u v W (w.drewN n) := ⟨blk_drewN h.1 n, blk_drewN h.2.1 n, blk_drewN h.2.2.1 n, pw_below_drewN h.2.2.2 n⟩
theorem BR.below (h : BR u v W w) (hb : Below w.heap.size w w') : BR u v W w' :=
  ⟨(hb.block _ (blk_lt h.1)).trans h.1, (hb.block _ (blk_lt h.2.1)).trans h.2.1, (hb.block _ (blk_lt h.2.2.1)).trans h.2.2.1, below_step h.2.2.2 hb⟩
theorem BR.bel (h : BR u v W w) : Below W.heap.size W w := h.2.2.2
theorem BR.a0 (h : BR u v W w) : w.cell? ⟨W.heap.size, 0, none⟩ = some (.int .i64 u.f0) := (blk_cell h.1 0).trans rfl
theorem BR.a1 (h : BR u v W w) : w.cell? ⟨W.heap.size, 1, none⟩ = some (.int .i64 u.f1) := (blk_cell h.1 1).trans rfl
theorem BR.a2 (h : BR u v W w) : w.cell? ⟨W.heap.size, 2, none⟩ = some (.string u.f2) := (blk_cell h.1 2).trans rfl
theorem BR.v0 (h : BR u v W w) : w.cell? ⟨W.heap.size + 1, 0, none⟩ = some (.int .i64 v.f0) := (blk_cell h.2.1 0).trans rfl
theorem BR.v1 (h : BR u v W w) : w.cell? ⟨W.heap.size + 1, 1, none⟩ = some (.int .i64 v.f1) := (blk_cell h.2.1 1).trans rfl
theorem BR.v2 (h : BR u v W w) : w.cell? ⟨W.heap.size + 1, 2, none⟩ = some (.string v.f2) := (blk_cell h.2.1 2).trans rfl
end
set_option maxHeartbeats 2000000 in
set_option maxRecDepth 100000 in
theorem refBinary.low (op : Int) (u v : S32) (w : World) (l3 : ¬ 3 ≤ op) :
    Calls Try.prog 22 #[.int .i64 op, .agg #[.int .i64 u.f0, .int .i64 u.f1, .string u.f2], .agg #[.int .i64 v.f0, .int .i64 v.f1, .string v.f2]] w (fun e w' => e = .returned (.tuple #[.agg #[.int .i64 (0), .int .i64 (0), .string (V0)], .int .i64 5]) ∧ Below w.heap.size w w') := by
  have hu32 := Try.underlying32
  have q0 : decide (op < 3) = true := decide_eq_true (by omega)
  have q1 : decide (3 ≤ op) = false := decide_eq_false l3
  have l3' := Aside0.mk l3
  clear l3
  go_enter Try.func22, Try.ntmps22
  go_upto_region 1 with fail
  refine at_world (fun w' => BR u v w w') BR.start (fun w1 hI => ?_)
  have HI := Aside0.mk hI
  clear hI
  have ca0 : World.cell? w1 _ = some _ := HI.out.a0
  have ca1 : World.cell? w1 _ = some _ := HI.out.a1
  have ca2 : World.cell? w1 _ = some _ := HI.out.a2
  have cv0 : World.cell? w1 _ = some _ := HI.out.v0
  have cv1 : World.cell? w1 _ = some _ := HI.out.v1
  have cv2 : World.cell? w1 _ = some _ := HI.out.v2
  have gc0 : World.cell? w1 ⟨w.heap.size + 1 + 1, 0, none⟩ = some (.int .i64 0) := (blk_cell HI.out.2.2.1 0).trans rfl
  have gf0 := blk_frozen HI.out.2.2.1 0
  have gc1 : World.cell? w1 ⟨w.heap.size + 1 + 1, 1, none⟩ = some (.int .i64 0) := (blk_cell HI.out.2.2.1 1).trans rfl
  have gf1 := blk_frozen HI.out.2.2.1 1
  have gc2 : World.cell? w1 ⟨w.heap.size + 1 + 1, 2, none⟩ = some (.string (⟨#[]⟩ : ByteArray)) := (blk_cell HI.out.2.2.1 2).trans rfl
  have gf2 := blk_frozen HI.out.2.2.1 2
  go_wp2_with fail
  refine bodyPost_ret (v := .tuple #[.agg #[.int .i64 (0), .int .i64 (0), .string (V0)], .int .i64 5]) (by simp [results, Try.results22, go_sem, gc0, gc1, gc2, V0]) rfl ⟨rfl, ?_⟩
  refine below_set3 ?_ (by omega) _ _ _ _ _ _
  repeat (first | (with_reducible exact HI.out.bel) | apply pw_below_drewN)
set_option maxHeartbeats 2000000 in
set_option maxRecDepth 100000 in
theorem refBinary.high (op : Int) (u v : S32) (w : World) (l3 : 3 ≤ op) (l16 : ¬ op ≤ 16) :
    Calls Try.prog 22 #[.int .i64 op, .agg #[.int .i64 u.f0, .int .i64 u.f1, .string u.f2], .agg #[.int .i64 v.f0, .int .i64 v.f1, .string v.f2]] w (fun e w' => e = .returned (.tuple #[.agg #[.int .i64 (0), .int .i64 (0), .string (V0)], .int .i64 5]) ∧ Below w.heap.size w w') := by
  have hu32 := Try.underlying32
  have q0 : decide (op < 3) = false := decide_eq_false (by omega)
  have q1 : decide (3 ≤ op) = true := decide_eq_true l3
  have q2 : decide (16 < op) = true := decide_eq_true (by omega)
  have q3 : decide (op ≤ 16) = false := decide_eq_false l16
  have l3' := Aside0.mk l3
  have l16' := Aside0.mk l16
  clear l3 l16
  go_enter Try.func22, Try.ntmps22
  go_upto_region 1 with fail
  refine at_world (fun w' => BR u v w w') BR.start (fun w1 hI => ?_)
  have HI := Aside0.mk hI
  clear hI
  have ca0 : World.cell? w1 _ = some _ := HI.out.a0
  have ca1 : World.cell? w1 _ = some _ := HI.out.a1
  have ca2 : World.cell? w1 _ = some _ := HI.out.a2
  have cv0 : World.cell? w1 _ = some _ := HI.out.v0
  have cv1 : World.cell? w1 _ = some _ := HI.out.v1
  have cv2 : World.cell? w1 _ = some _ := HI.out.v2
  have gc0 : World.cell? w1 ⟨w.heap.size + 1 + 1, 0, none⟩ = some (.int .i64 0) := (blk_cell HI.out.2.2.1 0).trans rfl
  have gf0 := blk_frozen HI.out.2.2.1 0
  have gc1 : World.cell? w1 ⟨w.heap.size + 1 + 1, 1, none⟩ = some (.int .i64 0) := (blk_cell HI.out.2.2.1 1).trans rfl
  have gf1 := blk_frozen HI.out.2.2.1 1
  have gc2 : World.cell? w1 ⟨w.heap.size + 1 + 1, 2, none⟩ = some (.string (⟨#[]⟩ : ByteArray)) := (blk_cell HI.out.2.2.1 2).trans rfl
  have gf2 := blk_frozen HI.out.2.2.1 2
  go_wp2_with fail
  refine bodyPost_ret (v := .tuple #[.agg #[.int .i64 (0), .int .i64 (0), .string (V0)], .int .i64 5]) (by simp [results, Try.results22, go_sem, gc0, gc1, gc2, V0]) rfl ⟨rfl, ?_⟩
  refine below_set3 ?_ (by omega) _ _ _ _ _ _
  repeat (first | (with_reducible exact HI.out.bel) | apply pw_below_drewN)
set_option maxHeartbeats 2000000 in
set_option maxRecDepth 100000 in
theorem refBinary.kindAB (op : Int) (u v : S32) (w : World) (kA : Nat) (HGA : Aside0 (quarryref02_goes.f kA op u.f0 = some false)) (l3 : 3 ≤ op) (l16 : op ≤ 16) (a0 : ¬ u.f0 = 0) (z0 : v.f0 = 0) :
    Calls Try.prog 22 #[.int .i64 op, .agg #[.int .i64 u.f0, .int .i64 u.f1, .string u.f2], .agg #[.int .i64 v.f0, .int .i64 v.f1, .string v.f2]] w (fun e w' => e = .returned (.tuple #[.agg #[.int .i64 (0), .int .i64 (0), .string (V0)], .int .i64 35]) ∧ Below w.heap.size w w') := by
  have hu32 := Try.underlying32
  have q0 : decide (op < 3) = false := decide_eq_false (by omega)
  have q1 : decide (3 ≤ op) = true := decide_eq_true l3
  have q2 : decide (16 < op) = false := decide_eq_false (by omega)
  have q3 : decide (op ≤ 16) = true := decide_eq_true l16
  have q4 : (u.f0 == 0) = false := beq_eq_false_iff_ne.mpr a0
  have q5 : (v.f0 == 0) = true := beq_iff_eq.mpr z0
  have l3' := Aside0.mk l3
  have l16' := Aside0.mk l16
  have a0' := Aside0.mk a0
  have z0' := Aside0.mk z0
  clear l3 l16 a0 z0
  go_enter Try.func22, Try.ntmps22
  go_upto_region 1 with fail
  refine at_world (fun w' => BR u v w w') BR.start (fun w1 hI => ?_)
  have HI := Aside0.mk hI
  clear hI
  have ca0 : World.cell? w1 _ = some _ := HI.out.a0
  have ca1 : World.cell? w1 _ = some _ := HI.out.a1
  have ca2 : World.cell? w1 _ = some _ := HI.out.a2
  have cv0 : World.cell? w1 _ = some _ := HI.out.v0
  have cv1 : World.cell? w1 _ = some _ := HI.out.v1
  have cv2 : World.cell? w1 _ = some _ := HI.out.v2
  have gc0 : World.cell? w1 ⟨w.heap.size + 1 + 1, 0, none⟩ = some (.int .i64 0) := (blk_cell HI.out.2.2.1 0).trans rfl
  have gf0 := blk_frozen HI.out.2.2.1 0
  have gc1 : World.cell? w1 ⟨w.heap.size + 1 + 1, 1, none⟩ = some (.int .i64 0) := (blk_cell HI.out.2.2.1 1).trans rfl
  have gf1 := blk_frozen HI.out.2.2.1 1
  have gc2 : World.cell? w1 ⟨w.heap.size + 1 + 1, 2, none⟩ = some (.string (⟨#[]⟩ : ByteArray)) := (blk_cell HI.out.2.2.1 2).trans rfl
  have gf2 := blk_frozen HI.out.2.2.1 2
  go_wp2_with (first | (go_at_call 24; (with_reducible refine (quarryref02_goes.calls kA op u.f0 false _ HGA.out).mono ?_); rintro e w' ⟨rfl, ⟨nd, rfl⟩⟩))
  refine bodyPost_ret (v := .tuple #[.agg #[.int .i64 (0), .int .i64 (0), .string (V0)], .int .i64 35]) (by simp [results, Try.results22, go_sem, gc0, gc1, gc2, V0]) rfl ⟨rfl, ?_⟩
  refine below_set3 ?_ (by omega) _ _ _ _ _ _
  repeat (first | (with_reducible exact HI.out.bel) | apply pw_below_drewN)
set_option maxHeartbeats 2000000 in
set_option maxRecDepth 100000 in
theorem refBinary.kindAC (op : Int) (u v : S32) (w : World) (kA : Nat) (HGA : Aside0 (quarryref02_goes.f kA op u.f0 = some false)) (l3 : 3 ≤ op) (l16 : op ≤ 16) (a0 : ¬ u.f0 = 0) (z0 : ¬ v.f0 = 0) :
    Calls Try.prog 22 #[.int .i64 op, .agg #[.int .i64 u.f0, .int .i64 u.f1, .string u.f2], .agg #[.int .i64 v.f0, .int .i64 v.f1, .string v.f2]] w (fun e w' => e = .returned (.tuple #[.agg #[.int .i64 (0), .int .i64 (0), .string (V0)], .int .i64 35]) ∧ Below w.heap.size w w') := by
  have hu32 := Try.underlying32
  have q0 : decide (op < 3) = false := decide_eq_false (by omega)
  have q1 : decide (3 ≤ op) = true := decide_eq_true l3
  have q2 : decide (16 < op) = false := decide_eq_false (by omega)
  have q3 : decide (op ≤ 16) = true := decide_eq_true l16
  have q4 : (u.f0 == 0) = false := beq_eq_false_iff_ne.mpr a0
  have q5 : (v.f0 == 0) = false := beq_eq_false_iff_ne.mpr z0
  have l3' := Aside0.mk l3
  have l16' := Aside0.mk l16
  have a0' := Aside0.mk a0
  have z0' := Aside0.mk z0
  clear l3 l16 a0 z0
  go_enter Try.func22, Try.ntmps22
  go_upto_region 1 with fail
  refine at_world (fun w' => BR u v w w') BR.start (fun w1 hI => ?_)
  have HI := Aside0.mk hI
  clear hI
  have ca0 : World.cell? w1 _ = some _ := HI.out.a0
  have ca1 : World.cell? w1 _ = some _ := HI.out.a1
  have ca2 : World.cell? w1 _ = some _ := HI.out.a2
  have cv0 : World.cell? w1 _ = some _ := HI.out.v0
  have cv1 : World.cell? w1 _ = some _ := HI.out.v1
  have cv2 : World.cell? w1 _ = some _ := HI.out.v2
  have gc0 : World.cell? w1 ⟨w.heap.size + 1 + 1, 0, none⟩ = some (.int .i64 0) := (blk_cell HI.out.2.2.1 0).trans rfl
  have gf0 := blk_frozen HI.out.2.2.1 0
  have gc1 : World.cell? w1 ⟨w.heap.size + 1 + 1, 1, none⟩ = some (.int .i64 0) := (blk_cell HI.out.2.2.1 1).trans rfl
  have gf1 := blk_frozen HI.out.2.2.1 1
  have gc2 : World.cell? w1 ⟨w.heap.size + 1 + 1, 2, none⟩ = some (.string (⟨#[]⟩ : ByteArray)) := (blk_cell HI.out.2.2.1 2).trans rfl
  have gf2 := blk_frozen HI.out.2.2.1 2
  go_wp2_with (first | (go_at_call 24; (with_reducible refine (quarryref02_goes.calls kA op u.f0 false _ HGA.out).mono ?_); rintro e w' ⟨rfl, ⟨nd, rfl⟩⟩))
  refine bodyPost_ret (v := .tuple #[.agg #[.int .i64 (0), .int .i64 (0), .string (V0)], .int .i64 35]) (by simp [results, Try.results22, go_sem, gc0, gc1, gc2, V0]) rfl ⟨rfl, ?_⟩
  refine below_set3 ?_ (by omega) _ _ _ _ _ _
  repeat (first | (with_reducible exact HI.out.bel) | apply pw_below_drewN)
set_option maxHeartbeats 2000000 in
set_option maxRecDepth 100000 in
theorem refBinary.kindBA (op : Int) (u v : S32) (w : World) (kA : Nat) (HGA : Aside0 (quarryref02_goes.f kA op u.f0 = some true)) (kB : Nat) (HGB : Aside0 (quarryref02_goes.f kB op v.f0 = some false)) (l3 : 3 ≤ op) (l16 : op ≤ 16) (a0 : u.f0 = 0) :
    Calls Try.prog 22 #[.int .i64 op, .agg #[.int .i64 u.f0, .int .i64 u.f1, .string u.f2], .agg #[.int .i64 v.f0, .int .i64 v.f1, .string v.f2]] w (fun e w' => e = .returned (.tuple #[.agg #[.int .i64 (0), .int .i64 (0), .string (V0)], .int .i64 35]) ∧ Below w.heap.size w w') := by
  have hu32 := Try.underlying32
  have q0 : decide (op < 3) = false := decide_eq_false (by omega)
  have q1 : decide (3 ≤ op) = true := decide_eq_true l3
  have q2 : decide (16 < op) = false := decide_eq_false (by omega)
  have q3 : decide (op ≤ 16) = true := decide_eq_true l16
  have q4 : (u.f0 == 0) = true := beq_iff_eq.mpr a0
  have l3' := Aside0.mk l3
  have l16' := Aside0.mk l16
  have a0' := Aside0.mk a0
  clear l3 l16 a0
  go_enter Try.func22, Try.ntmps22
  go_upto_region 1 with fail
  refine at_world (fun w' => BR u v w w') BR.start (fun w1 hI => ?_)
  have HI := Aside0.mk hI
  clear hI
  have ca0 : World.cell? w1 _ = some _ := HI.out.a0
  have ca1 : World.cell? w1 _ = some _ := HI.out.a1
  have ca2 : World.cell? w1 _ = some _ := HI.out.a2
  have cv0 : World.cell? w1 _ = some _ := HI.out.v0
  have cv1 : World.cell? w1 _ = some _ := HI.out.v1
  have cv2 : World.cell? w1 _ = some _ := HI.out.v2
  have gc0 : World.cell? w1 ⟨w.heap.size + 1 + 1, 0, none⟩ = some (.int .i64 0) := (blk_cell HI.out.2.2.1 0).trans rfl
  have gf0 := blk_frozen HI.out.2.2.1 0
  have gc1 : World.cell? w1 ⟨w.heap.size + 1 + 1, 1, none⟩ = some (.int .i64 0) := (blk_cell HI.out.2.2.1 1).trans rfl
  have gf1 := blk_frozen HI.out.2.2.1 1
  have gc2 : World.cell? w1 ⟨w.heap.size + 1 + 1, 2, none⟩ = some (.string (⟨#[]⟩ : ByteArray)) := (blk_cell HI.out.2.2.1 2).trans rfl
  have gf2 := blk_frozen HI.out.2.2.1 2
  go_wp2_with (first | (go_at_call 24; (with_reducible refine (quarryref02_goes.calls kA op u.f0 true _ HGA.out).mono ?_); rintro e w' ⟨rfl, ⟨nd, rfl⟩⟩) | (go_at_call 24; (with_reducible refine (quarryref02_goes.calls kB op v.f0 false _ HGB.out).mono ?_); rintro e w' ⟨rfl, ⟨nd, rfl⟩⟩))
  refine bodyPost_ret (v := .tuple #[.agg #[.int .i64 (0), .int .i64 (0), .string (V0)], .int .i64 35]) (by simp [results, Try.results22, go_sem, gc0, gc1, gc2, V0]) rfl ⟨rfl, ?_⟩
  refine below_set3 ?_ (by omega) _ _ _ _ _ _
  repeat (first | (with_reducible exact HI.out.bel) | apply pw_below_drewN)
set_option maxHeartbeats 2000000 in
set_option maxRecDepth 100000 in
theorem refBinary.kindBC (op : Int) (u v : S32) (w : World) (kA : Nat) (HGA : Aside0 (quarryref02_goes.f kA op u.f0 = some true)) (kB : Nat) (HGB : Aside0 (quarryref02_goes.f kB op v.f0 = some false)) (l3 : 3 ≤ op) (l16 : op ≤ 16) (a0 : ¬ u.f0 = 0) (z0 : ¬ v.f0 = 0) :
    Calls Try.prog 22 #[.int .i64 op, .agg #[.int .i64 u.f0, .int .i64 u.f1, .string u.f2], .agg #[.int .i64 v.f0, .int .i64 v.f1, .string v.f2]] w (fun e w' => e = .returned (.tuple #[.agg #[.int .i64 (0), .int .i64 (0), .string (V0)], .int .i64 35]) ∧ Below w.heap.size w w') := by
  have hu32 := Try.underlying32
  have q0 : decide (op < 3) = false := decide_eq_false (by omega)
  have q1 : decide (3 ≤ op) = true := decide_eq_true l3
  have q2 : decide (16 < op) = false := decide_eq_false (by omega)
  have q3 : decide (op ≤ 16) = true := decide_eq_true l16
  have q4 : (u.f0 == 0) = false := beq_eq_false_iff_ne.mpr a0
  have q5 : (v.f0 == 0) = false := beq_eq_false_iff_ne.mpr z0
  have l3' := Aside0.mk l3
  have l16' := Aside0.mk l16
  have a0' := Aside0.mk a0
  have z0' := Aside0.mk z0
  clear l3 l16 a0 z0
  go_enter Try.func22, Try.ntmps22
  go_upto_region 1 with fail
  refine at_world (fun w' => BR u v w w') BR.start (fun w1 hI => ?_)
  have HI := Aside0.mk hI
  clear hI
  have ca0 : World.cell? w1 _ = some _ := HI.out.a0
  have ca1 : World.cell? w1 _ = some _ := HI.out.a1
  have ca2 : World.cell? w1 _ = some _ := HI.out.a2
  have cv0 : World.cell? w1 _ = some _ := HI.out.v0
  have cv1 : World.cell? w1 _ = some _ := HI.out.v1
  have cv2 : World.cell? w1 _ = some _ := HI.out.v2
  have gc0 : World.cell? w1 ⟨w.heap.size + 1 + 1, 0, none⟩ = some (.int .i64 0) := (blk_cell HI.out.2.2.1 0).trans rfl
  have gf0 := blk_frozen HI.out.2.2.1 0
  have gc1 : World.cell? w1 ⟨w.heap.size + 1 + 1, 1, none⟩ = some (.int .i64 0) := (blk_cell HI.out.2.2.1 1).trans rfl
  have gf1 := blk_frozen HI.out.2.2.1 1
  have gc2 : World.cell? w1 ⟨w.heap.size + 1 + 1, 2, none⟩ = some (.string (⟨#[]⟩ : ByteArray)) := (blk_cell HI.out.2.2.1 2).trans rfl
  have gf2 := blk_frozen HI.out.2.2.1 2
  go_wp2_with (first | (go_at_call 24; (with_reducible refine (quarryref02_goes.calls kA op u.f0 true _ HGA.out).mono ?_); rintro e w' ⟨rfl, ⟨nd, rfl⟩⟩) | (go_at_call 24; (with_reducible refine (quarryref02_goes.calls kB op v.f0 false _ HGB.out).mono ?_); rintro e w' ⟨rfl, ⟨nd, rfl⟩⟩))
  refine bodyPost_ret (v := .tuple #[.agg #[.int .i64 (0), .int .i64 (0), .string (V0)], .int .i64 35]) (by simp [results, Try.results22, go_sem, gc0, gc1, gc2, V0]) rfl ⟨rfl, ?_⟩
  refine below_set3 ?_ (by omega) _ _ _ _ _ _
  repeat (first | (with_reducible exact HI.out.bel) | apply pw_below_drewN)
set_option maxHeartbeats 2000000 in
set_option maxRecDepth 100000 in
theorem refBinary.differ (op : Int) (u v : S32) (w : World) (kA : Nat) (HGA : Aside0 (quarryref02_goes.f kA op u.f0 = some true)) (kB : Nat) (HGB : Aside0 (quarryref02_goes.f kB op v.f0 = some true)) (l3 : 3 ≤ op) (l16 : op ≤ 16) (l5 : 5 ≤ op) (l10 : op ≤ 10) (a0 : ¬ u.f0 = 0) (z0 : ¬ v.f0 = 0) (uv : ¬ u.f0 = v.f0) :
    Calls Try.prog 22 #[.int .i64 op, .agg #[.int .i64 u.f0, .int .i64 u.f1, .string u.f2], .agg #[.int .i64 v.f0, .int .i64 v.f1, .string v.f2]] w (fun e w' => e = .returned (.tuple #[.agg #[.int .i64 (0), .int .i64 (0), .string (V0)], .int .i64 35]) ∧ Below w.heap.size w w') := by
  have hu32 := Try.underlying32
  have q0 : decide (op < 3) = false := decide_eq_false (by omega)
  have q1 : decide (3 ≤ op) = true := decide_eq_true l3
  have q2 : decide (16 < op) = false := decide_eq_false (by omega)
  have q3 : decide (op ≤ 16) = true := decide_eq_true l16
  have q4 : decide (5 ≤ op) = true := decide_eq_true l5
  have q5 : decide (op ≤ 10) = true := decide_eq_true l10
  have q6 : decide (op ≤ 4) = false := decide_eq_false (by omega)
  have q7 : (u.f0 == 0) = false := beq_eq_false_iff_ne.mpr a0
  have q8 : (v.f0 == 0) = false := beq_eq_false_iff_ne.mpr z0
  have q9 : (u.f0 != v.f0) = true := bne_iff_ne.mpr uv
  have q10 : (u.f0 == v.f0) = false := beq_eq_false_iff_ne.mpr uv
  have l3' := Aside0.mk l3
  have l16' := Aside0.mk l16
  have l5' := Aside0.mk l5
  have l10' := Aside0.mk l10
  have a0' := Aside0.mk a0
  have z0' := Aside0.mk z0
  have uv' := Aside0.mk uv
  clear l3 l16 l5 l10 a0 z0 uv
  go_enter Try.func22, Try.ntmps22
  go_upto_region 1 with fail
  refine at_world (fun w' => BR u v w w') BR.start (fun w1 hI => ?_)
  have HI := Aside0.mk hI
  clear hI
  have ca0 : World.cell? w1 _ = some _ := HI.out.a0
  have ca1 : World.cell? w1 _ = some _ := HI.out.a1
  have ca2 : World.cell? w1 _ = some _ := HI.out.a2
  have cv0 : World.cell? w1 _ = some _ := HI.out.v0
  have cv1 : World.cell? w1 _ = some _ := HI.out.v1
  have cv2 : World.cell? w1 _ = some _ := HI.out.v2
  have gc0 : World.cell? w1 ⟨w.heap.size + 1 + 1, 0, none⟩ = some (.int .i64 0) := (blk_cell HI.out.2.2.1 0).trans rfl
  have gf0 := blk_frozen HI.out.2.2.1 0
  have gc1 : World.cell? w1 ⟨w.heap.size + 1 + 1, 1, none⟩ = some (.int .i64 0) := (blk_cell HI.out.2.2.1 1).trans rfl
  have gf1 := blk_frozen HI.out.2.2.1 1
  have gc2 : World.cell? w1 ⟨w.heap.size + 1 + 1, 2, none⟩ = some (.string (⟨#[]⟩ : ByteArray)) := (blk_cell HI.out.2.2.1 2).trans rfl
  have gf2 := blk_frozen HI.out.2.2.1 2
  go_wp2_with (first | (go_at_call 24; (with_reducible refine (quarryref02_goes.calls kA op u.f0 true _ HGA.out).mono ?_); rintro e w' ⟨rfl, ⟨nd, rfl⟩⟩) | (go_at_call 24; (with_reducible refine (quarryref02_goes.calls kB op v.f0 true _ HGB.out).mono ?_); rintro e w' ⟨rfl, ⟨nd, rfl⟩⟩))
  refine bodyPost_ret (v := .tuple #[.agg #[.int .i64 (0), .int .i64 (0), .string (V0)], .int .i64 35]) (by simp [results, Try.results22, go_sem, gc0, gc1, gc2, V0]) rfl ⟨rfl, ?_⟩
  refine below_set3 ?_ (by omega) _ _ _ _ _ _
  repeat (first | (with_reducible exact HI.out.bel) | apply pw_below_drewN)
set_option maxHeartbeats 2000000 in
set_option maxRecDepth 100000 in
theorem refBinary.logicA (op : Int) (u v : S32) (w : World) (kA : Nat) (HGA : Aside0 (quarryref02_goes.f kA op u.f0 = some true)) (kB : Nat) (HGB : Aside0 (quarryref02_goes.f kB op v.f0 = some true)) (l3 : 3 ≤ op) (l16 : op ≤ 16) (l4 : op ≤ 4) (a0 : u.f0 = 0) :
    Calls Try.prog 22 #[.int .i64 op, .agg #[.int .i64 u.f0, .int .i64 u.f1, .string u.f2], .agg #[.int .i64 v.f0, .int .i64 v.f1, .string v.f2]] w (fun e w' => e = .returned (.tuple #[.agg #[.int .i64 ((logicP u v (truthV (op == 3))).f0), .int .i64 ((logicP u v (truthV (op == 3))).f1), .string ((logicP u v (truthV (op == 3))).f2)], .int .i64 0]) ∧ Below w.heap.size w w') := by
  have hu32 := Try.underlying32
  have q0 : decide (op < 3) = false := decide_eq_false (by omega)
  have q1 : decide (3 ≤ op) = true := decide_eq_true l3
  have q2 : decide (16 < op) = false := decide_eq_false (by omega)
  have q3 : decide (op ≤ 16) = true := decide_eq_true l16
  have q4 : decide (5 ≤ op) = false := decide_eq_false (by omega)
  have q5 : decide (op ≤ 4) = true := decide_eq_true l4
  have q6 : (u.f0 == 0) = true := beq_iff_eq.mpr a0
  have l3' := Aside0.mk l3
  have l16' := Aside0.mk l16
  have l4' := Aside0.mk l4
  have a0' := Aside0.mk a0
  clear l3 l16 l4 a0
  go_enter Try.func22, Try.ntmps22
  go_upto_region 1 with fail
  refine at_world (fun w' => BR u v w w') BR.start (fun w1 hI => ?_)
  have HI := Aside0.mk hI
  clear hI
  have ca0 : World.cell? w1 _ = some _ := HI.out.a0
  have ca1 : World.cell? w1 _ = some _ := HI.out.a1
  have ca2 : World.cell? w1 _ = some _ := HI.out.a2
  have cv0 : World.cell? w1 _ = some _ := HI.out.v0
  have cv1 : World.cell? w1 _ = some _ := HI.out.v1
  have cv2 : World.cell? w1 _ = some _ := HI.out.v2
  have gc0 : World.cell? w1 ⟨w.heap.size + 1 + 1, 0, none⟩ = some (.int .i64 0) := (blk_cell HI.out.2.2.1 0).trans rfl
  have gf0 := blk_frozen HI.out.2.2.1 0
  have gc1 : World.cell? w1 ⟨w.heap.size + 1 + 1, 1, none⟩ = some (.int .i64 0) := (blk_cell HI.out.2.2.1 1).trans rfl
  have gf1 := blk_frozen HI.out.2.2.1 1
  have gc2 : World.cell? w1 ⟨w.heap.size + 1 + 1, 2, none⟩ = some (.string (⟨#[]⟩ : ByteArray)) := (blk_cell HI.out.2.2.1 2).trans rfl
  have gf2 := blk_frozen HI.out.2.2.1 2
  go_wp2_with (first | (go_at_call 24; (with_reducible refine (quarryref02_goes.calls kA op u.f0 true _ HGA.out).mono ?_); rintro e w' ⟨rfl, ⟨nd, rfl⟩⟩) | (go_at_call 24; (with_reducible refine (quarryref02_goes.calls kB op v.f0 true _ HGB.out).mono ?_); rintro e w' ⟨rfl, ⟨nd, rfl⟩⟩))
  refine (logicR_calls l3'.out l4'.out u v _).mono ?_
  rintro e w2 ⟨rfl, hb⟩
  have HJ : Aside0 (BR u v w w2) := ⟨BR.below (by repeat (first | exact HI.out | refine BR.drewN ?_ _)) hb⟩
  clear hb HI ca0 ca1 ca2 cv0 cv1 cv2 gc0 gc1 gc2 gf0 gf1 gf2
  have HI := HJ
  clear HJ
  have ca0 : World.cell? w2 _ = some _ := HI.out.a0
  have ca1 : World.cell? w2 _ = some _ := HI.out.a1
  have ca2 : World.cell? w2 _ = some _ := HI.out.a2
  have cv0 : World.cell? w2 _ = some _ := HI.out.v0
  have cv1 : World.cell? w2 _ = some _ := HI.out.v1
  have cv2 : World.cell? w2 _ = some _ := HI.out.v2
  have gc0 : World.cell? w2 ⟨w.heap.size + 1 + 1, 0, none⟩ = some (.int .i64 0) := (blk_cell HI.out.2.2.1 0).trans rfl
  have gf0 := blk_frozen HI.out.2.2.1 0
  have gc1 : World.cell? w2 ⟨w.heap.size + 1 + 1, 1, none⟩ = some (.int .i64 0) := (blk_cell HI.out.2.2.1 1).trans rfl
  have gf1 := blk_frozen HI.out.2.2.1 1
  have gc2 : World.cell? w2 ⟨w.heap.size + 1 + 1, 2, none⟩ = some (.string (⟨#[]⟩ : ByteArray)) := (blk_cell HI.out.2.2.1 2).trans rfl
  have gf2 := blk_frozen HI.out.2.2.1 2
  go_wp2_with fail
  refine bodyPost_ret (v := .tuple #[.agg #[.int .i64 ((logicP u v (truthV (op == 3))).f0), .int .i64 ((logicP u v (truthV (op == 3))).f1), .string ((logicP u v (truthV (op == 3))).f2)], .int .i64 0]) (by simp [results, Try.results22, go_sem, gc0, gc1, gc2, V0]) rfl ⟨rfl, ?_⟩
  refine below_set3 ?_ (by omega) _ _ _ _ _ _
  repeat (first | (with_reducible exact HI.out.bel) | apply pw_below_drewN)
set_option maxHeartbeats 2000000 in
set_option maxRecDepth 100000 in
theorem refBinary.logicB (op : Int) (u v : S32) (w : World) (kA : Nat) (HGA : Aside0 (quarryref02_goes.f kA op u.f0 = some true)) (kB : Nat) (HGB : Aside0 (quarryref02_goes.f kB op v.f0 = some true)) (l3 : 3 ≤ op) (l16 : op ≤ 16) (l4 : op ≤ 4) (a0 : ¬ u.f0 = 0) (z0 : v.f0 = 0) :
    Calls Try.prog 22 #[.int .i64 op, .agg #[.int .i64 u.f0, .int .i64 u.f1, .string u.f2], .agg #[.int .i64 v.f0, .int .i64 v.f1, .string v.f2]] w (fun e w' => e = .returned (.tuple #[.agg #[.int .i64 ((logicP u v (truthV (op == 3))).f0), .int .i64 ((logicP u v (truthV (op == 3))).f1), .string ((logicP u v (truthV (op == 3))).f2)], .int .i64 0]) ∧ Below w.heap.size w w') := by
  have hu32 := Try.underlying32
  have q0 : decide (op < 3) = false := decide_eq_false (by omega)
  have q1 : decide (3 ≤ op) = true := decide_eq_true l3
  have q2 : decide (16 < op) = false := decide_eq_false (by omega)
  have q3 : decide (op ≤ 16) = true := decide_eq_true l16
  have q4 : decide (5 ≤ op) = false := decide_eq_false (by omega)
  have q5 : decide (op ≤ 4) = true := decide_eq_true l4
  have q6 : (u.f0 == 0) = false := beq_eq_false_iff_ne.mpr a0
  have q7 : (v.f0 == 0) = true := beq_iff_eq.mpr z0
  have l3' := Aside0.mk l3
  have l16' := Aside0.mk l16
  have l4' := Aside0.mk l4
  have a0' := Aside0.mk a0
  have z0' := Aside0.mk z0
  clear l3 l16 l4 a0 z0
  go_enter Try.func22, Try.ntmps22
  go_upto_region 1 with fail
  refine at_world (fun w' => BR u v w w') BR.start (fun w1 hI => ?_)
  have HI := Aside0.mk hI
  clear hI
  have ca0 : World.cell? w1 _ = some _ := HI.out.a0
  have ca1 : World.cell? w1 _ = some _ := HI.out.a1
  have ca2 : World.cell? w1 _ = some _ := HI.out.a2
  have cv0 : World.cell? w1 _ = some _ := HI.out.v0
  have cv1 : World.cell? w1 _ = some _ := HI.out.v1
  have cv2 : World.cell? w1 _ = some _ := HI.out.v2
  have gc0 : World.cell? w1 ⟨w.heap.size + 1 + 1, 0, none⟩ = some (.int .i64 0) := (blk_cell HI.out.2.2.1 0).trans rfl
  have gf0 := blk_frozen HI.out.2.2.1 0
  have gc1 : World.cell? w1 ⟨w.heap.size + 1 + 1, 1, none⟩ = some (.int .i64 0) := (blk_cell HI.out.2.2.1 1).trans rfl
  have gf1 := blk_frozen HI.out.2.2.1 1
  have gc2 : World.cell? w1 ⟨w.heap.size + 1 + 1, 2, none⟩ = some (.string (⟨#[]⟩ : ByteArray)) := (blk_cell HI.out.2.2.1 2).trans rfl
  have gf2 := blk_frozen HI.out.2.2.1 2
  go_wp2_with (first | (go_at_call 24; (with_reducible refine (quarryref02_goes.calls kA op u.f0 true _ HGA.out).mono ?_); rintro e w' ⟨rfl, ⟨nd, rfl⟩⟩) | (go_at_call 24; (with_reducible refine (quarryref02_goes.calls kB op v.f0 true _ HGB.out).mono ?_); rintro e w' ⟨rfl, ⟨nd, rfl⟩⟩))
  refine (logicR_calls l3'.out l4'.out u v _).mono ?_
  rintro e w2 ⟨rfl, hb⟩
  have HJ : Aside0 (BR u v w w2) := ⟨BR.below (by repeat (first | exact HI.out | refine BR.drewN ?_ _)) hb⟩
  clear hb HI ca0 ca1 ca2 cv0 cv1 cv2 gc0 gc1 gc2 gf0 gf1 gf2
  have HI := HJ
  clear HJ
  have ca0 : World.cell? w2 _ = some _ := HI.out.a0
  have ca1 : World.cell? w2 _ = some _ := HI.out.a1
  have ca2 : World.cell? w2 _ = some _ := HI.out.a2
  have cv0 : World.cell? w2 _ = some _ := HI.out.v0
  have cv1 : World.cell? w2 _ = some _ := HI.out.v1
  have cv2 : World.cell? w2 _ = some _ := HI.out.v2
  have gc0 : World.cell? w2 ⟨w.heap.size + 1 + 1, 0, none⟩ = some (.int .i64 0) := (blk_cell HI.out.2.2.1 0).trans rfl
  have gf0 := blk_frozen HI.out.2.2.1 0
  have gc1 : World.cell? w2 ⟨w.heap.size + 1 + 1, 1, none⟩ = some (.int .i64 0) := (blk_cell HI.out.2.2.1 1).trans rfl
  have gf1 := blk_frozen HI.out.2.2.1 1
  have gc2 : World.cell? w2 ⟨w.heap.size + 1 + 1, 2, none⟩ = some (.string (⟨#[]⟩ : ByteArray)) := (blk_cell HI.out.2.2.1 2).trans rfl
  have gf2 := blk_frozen HI.out.2.2.1 2
  go_wp2_with fail
  refine bodyPost_ret (v := .tuple #[.agg #[.int .i64 ((logicP u v (truthV (op == 3))).f0), .int .i64 ((logicP u v (truthV (op == 3))).f1), .string ((logicP u v (truthV (op == 3))).f2)], .int .i64 0]) (by simp [results, Try.results22, go_sem, gc0, gc1, gc2, V0]) rfl ⟨rfl, ?_⟩
  refine below_set3 ?_ (by omega) _ _ _ _ _ _
  repeat (first | (with_reducible exact HI.out.bel) | apply pw_below_drewN)
set_option maxHeartbeats 2000000 in
set_option maxRecDepth 100000 in
theorem refBinary.logicC (op : Int) (u v : S32) (w : World) (kA : Nat) (HGA : Aside0 (quarryref02_goes.f kA op u.f0 = some true)) (kB : Nat) (HGB : Aside0 (quarryref02_goes.f kB op v.f0 = some true)) (l3 : 3 ≤ op) (l16 : op ≤ 16) (l4 : op ≤ 4) (a0 : ¬ u.f0 = 0) (z0 : ¬ v.f0 = 0) :
    Calls Try.prog 22 #[.int .i64 op, .agg #[.int .i64 u.f0, .int .i64 u.f1, .string u.f2], .agg #[.int .i64 v.f0, .int .i64 v.f1, .string v.f2]] w (fun e w' => e = .returned (.tuple #[.agg #[.int .i64 ((logicP u v (truthV (op == 3))).f0), .int .i64 ((logicP u v (truthV (op == 3))).f1), .string ((logicP u v (truthV (op == 3))).f2)], .int .i64 0]) ∧ Below w.heap.size w w') := by
  have hu32 := Try.underlying32
  have q0 : decide (op < 3) = false := decide_eq_false (by omega)
  have q1 : decide (3 ≤ op) = true := decide_eq_true l3
  have q2 : decide (16 < op) = false := decide_eq_false (by omega)
  have q3 : decide (op ≤ 16) = true := decide_eq_true l16
  have q4 : decide (5 ≤ op) = false := decide_eq_false (by omega)
  have q5 : decide (op ≤ 4) = true := decide_eq_true l4
  have q6 : (u.f0 == 0) = false := beq_eq_false_iff_ne.mpr a0
  have q7 : (v.f0 == 0) = false := beq_eq_false_iff_ne.mpr z0
  have l3' := Aside0.mk l3
  have l16' := Aside0.mk l16
  have l4' := Aside0.mk l4
  have a0' := Aside0.mk a0
  have z0' := Aside0.mk z0
  clear l3 l16 l4 a0 z0
  go_enter Try.func22, Try.ntmps22
  go_upto_region 1 with fail
  refine at_world (fun w' => BR u v w w') BR.start (fun w1 hI => ?_)
  have HI := Aside0.mk hI
  clear hI
  have ca0 : World.cell? w1 _ = some _ := HI.out.a0
  have ca1 : World.cell? w1 _ = some _ := HI.out.a1
  have ca2 : World.cell? w1 _ = some _ := HI.out.a2
  have cv0 : World.cell? w1 _ = some _ := HI.out.v0
  have cv1 : World.cell? w1 _ = some _ := HI.out.v1
  have cv2 : World.cell? w1 _ = some _ := HI.out.v2
  have gc0 : World.cell? w1 ⟨w.heap.size + 1 + 1, 0, none⟩ = some (.int .i64 0) := (blk_cell HI.out.2.2.1 0).trans rfl
  have gf0 := blk_frozen HI.out.2.2.1 0
  have gc1 : World.cell? w1 ⟨w.heap.size + 1 + 1, 1, none⟩ = some (.int .i64 0) := (blk_cell HI.out.2.2.1 1).trans rfl
  have gf1 := blk_frozen HI.out.2.2.1 1
  have gc2 : World.cell? w1 ⟨w.heap.size + 1 + 1, 2, none⟩ = some (.string (⟨#[]⟩ : ByteArray)) := (blk_cell HI.out.2.2.1 2).trans rfl
  have gf2 := blk_frozen HI.out.2.2.1 2
  go_wp2_with (first | (go_at_call 24; (with_reducible refine (quarryref02_goes.calls kA op u.f0 true _ HGA.out).mono ?_); rintro e w' ⟨rfl, ⟨nd, rfl⟩⟩) | (go_at_call 24; (with_reducible refine (quarryref02_goes.calls kB op v.f0 true _ HGB.out).mono ?_); rintro e w' ⟨rfl, ⟨nd, rfl⟩⟩))
  refine (logicR_calls l3'.out l4'.out u v _).mono ?_
  rintro e w2 ⟨rfl, hb⟩
  have HJ : Aside0 (BR u v w w2) := ⟨BR.below (by repeat (first | exact HI.out | refine BR.drewN ?_ _)) hb⟩
  clear hb HI ca0 ca1 ca2 cv0 cv1 cv2 gc0 gc1 gc2 gf0 gf1 gf2
  have HI := HJ
  clear HJ
  have ca0 : World.cell? w2 _ = some _ := HI.out.a0
  have ca1 : World.cell? w2 _ = some _ := HI.out.a1
  have ca2 : World.cell? w2 _ = some _ := HI.out.a2
  have cv0 : World.cell? w2 _ = some _ := HI.out.v0
  have cv1 : World.cell? w2 _ = some _ := HI.out.v1
  have cv2 : World.cell? w2 _ = some _ := HI.out.v2
  have gc0 : World.cell? w2 ⟨w.heap.size + 1 + 1, 0, none⟩ = some (.int .i64 0) := (blk_cell HI.out.2.2.1 0).trans rfl
  have gf0 := blk_frozen HI.out.2.2.1 0
  have gc1 : World.cell? w2 ⟨w.heap.size + 1 + 1, 1, none⟩ = some (.int .i64 0) := (blk_cell HI.out.2.2.1 1).trans rfl
  have gf1 := blk_frozen HI.out.2.2.1 1
  have gc2 : World.cell? w2 ⟨w.heap.size + 1 + 1, 2, none⟩ = some (.string (⟨#[]⟩ : ByteArray)) := (blk_cell HI.out.2.2.1 2).trans rfl
  have gf2 := blk_frozen HI.out.2.2.1 2
  go_wp2_with fail
  refine bodyPost_ret (v := .tuple #[.agg #[.int .i64 ((logicP u v (truthV (op == 3))).f0), .int .i64 ((logicP u v (truthV (op == 3))).f1), .string ((logicP u v (truthV (op == 3))).f2)], .int .i64 0]) (by simp [results, Try.results22, go_sem, gc0, gc1, gc2, V0]) rfl ⟨rfl, ?_⟩
  refine below_set3 ?_ (by omega) _ _ _ _ _ _
  repeat (first | (with_reducible exact HI.out.bel) | apply pw_below_drewN)
set_option maxHeartbeats 2000000 in
set_option maxRecDepth 100000 in
theorem refBinary.nullMA (op : Int) (u v : S32) (w : World) (kA : Nat) (HGA : Aside0 (quarryref02_goes.f kA op u.f0 = some true)) (kB : Nat) (HGB : Aside0 (quarryref02_goes.f kB op v.f0 = some true)) (l3 : 3 ≤ op) (l16 : op ≤ 16) (l5 : 5 ≤ op) (l10 : op ≤ 10) (a0 : u.f0 = 0) :
    Calls Try.prog 22 #[.int .i64 op, .agg #[.int .i64 u.f0, .int .i64 u.f1, .string u.f2], .agg #[.int .i64 v.f0, .int .i64 v.f1, .string v.f2]] w (fun e w' => e = .returned (.tuple #[.agg #[.int .i64 (0), .int .i64 (0), .string (V0)], .int .i64 0]) ∧ Below w.heap.size w w') := by
  have hu32 := Try.underlying32
  have q0 : decide (op < 3) = false := decide_eq_false (by omega)
  have q1 : decide (3 ≤ op) = true := decide_eq_true l3
  have q2 : decide (16 < op) = false := decide_eq_false (by omega)
  have q3 : decide (op ≤ 16) = true := decide_eq_true l16
  have q4 : decide (5 ≤ op) = true := decide_eq_true l5
  have q5 : decide (op ≤ 10) = true := decide_eq_true l10
  have q6 : decide (op ≤ 4) = false := decide_eq_false (by omega)
  have q7 : (u.f0 == 0) = true := beq_iff_eq.mpr a0
  have l3' := Aside0.mk l3
  have l16' := Aside0.mk l16
  have l5' := Aside0.mk l5
  have l10' := Aside0.mk l10
  have a0' := Aside0.mk a0
  clear l3 l16 l5 l10 a0
  go_enter Try.func22, Try.ntmps22
  go_upto_region 1 with fail
  refine at_world (fun w' => BR u v w w') BR.start (fun w1 hI => ?_)
  have HI := Aside0.mk hI
  clear hI
  have ca0 : World.cell? w1 _ = some _ := HI.out.a0
  have ca1 : World.cell? w1 _ = some _ := HI.out.a1
  have ca2 : World.cell? w1 _ = some _ := HI.out.a2
  have cv0 : World.cell? w1 _ = some _ := HI.out.v0
  have cv1 : World.cell? w1 _ = some _ := HI.out.v1
  have cv2 : World.cell? w1 _ = some _ := HI.out.v2
  have gc0 : World.cell? w1 ⟨w.heap.size + 1 + 1, 0, none⟩ = some (.int .i64 0) := (blk_cell HI.out.2.2.1 0).trans rfl
  have gf0 := blk_frozen HI.out.2.2.1 0
  have gc1 : World.cell? w1 ⟨w.heap.size + 1 + 1, 1, none⟩ = some (.int .i64 0) := (blk_cell HI.out.2.2.1 1).trans rfl
  have gf1 := blk_frozen HI.out.2.2.1 1
  have gc2 : World.cell? w1 ⟨w.heap.size + 1 + 1, 2, none⟩ = some (.string (⟨#[]⟩ : ByteArray)) := (blk_cell HI.out.2.2.1 2).trans rfl
  have gf2 := blk_frozen HI.out.2.2.1 2
  go_wp2_with (first | (go_at_call 24; (with_reducible refine (quarryref02_goes.calls kA op u.f0 true _ HGA.out).mono ?_); rintro e w' ⟨rfl, ⟨nd, rfl⟩⟩) | (go_at_call 24; (with_reducible refine (quarryref02_goes.calls kB op v.f0 true _ HGB.out).mono ?_); rintro e w' ⟨rfl, ⟨nd, rfl⟩⟩))
  refine bodyPost_ret (v := .tuple #[.agg #[.int .i64 (0), .int .i64 (0), .string (V0)], .int .i64 0]) (by simp [results, Try.results22, go_sem, gc0, gc1, gc2, V0]) rfl ⟨rfl, ?_⟩
  refine below_set3 ?_ (by omega) _ _ _ _ _ _
  repeat (first | (with_reducible exact HI.out.bel) | apply pw_below_drewN)
set_option maxHeartbeats 2000000 in
set_option maxRecDepth 100000 in
theorem refBinary.nullHA (op : Int) (u v : S32) (w : World) (kA : Nat) (HGA : Aside0 (quarryref02_goes.f kA op u.f0 = some true)) (kB : Nat) (HGB : Aside0 (quarryref02_goes.f kB op v.f0 = some true)) (l3 : 3 ≤ op) (l16 : op ≤ 16) (l10 : ¬ op ≤ 10) (a0 : u.f0 = 0) :
    Calls Try.prog 22 #[.int .i64 op, .agg #[.int .i64 u.f0, .int .i64 u.f1, .string u.f2], .agg #[.int .i64 v.f0, .int .i64 v.f1, .string v.f2]] w (fun e w' => e = .returned (.tuple #[.agg #[.int .i64 (0), .int .i64 (0), .string (V0)], .int .i64 0]) ∧ Below w.heap.size w w') := by
  have hu32 := Try.underlying32
  have q0 : decide (op < 3) = false := decide_eq_false (by omega)
  have q1 : decide (3 ≤ op) = true := decide_eq_true l3
  have q2 : decide (16 < op) = false := decide_eq_false (by omega)
  have q3 : decide (op ≤ 16) = true := decide_eq_true l16
  have q4 : decide (5 ≤ op) = true := decide_eq_true (by omega)
  have q5 : decide (op ≤ 10) = false := decide_eq_false l10
  have q6 : decide (op ≤ 4) = false := decide_eq_false (by omega)
  have q7 : (u.f0 == 0) = true := beq_iff_eq.mpr a0
  have l3' := Aside0.mk l3
  have l16' := Aside0.mk l16
  have l10' := Aside0.mk l10
  have a0' := Aside0.mk a0
  clear l3 l16 l10 a0
  go_enter Try.func22, Try.ntmps22
  go_upto_region 1 with fail
  refine at_world (fun w' => BR u v w w') BR.start (fun w1 hI => ?_)
  have HI := Aside0.mk hI
  clear hI
  have ca0 : World.cell? w1 _ = some _ := HI.out.a0
  have ca1 : World.cell? w1 _ = some _ := HI.out.a1
  have ca2 : World.cell? w1 _ = some _ := HI.out.a2
  have cv0 : World.cell? w1 _ = some _ := HI.out.v0
  have cv1 : World.cell? w1 _ = some _ := HI.out.v1
  have cv2 : World.cell? w1 _ = some _ := HI.out.v2
  have gc0 : World.cell? w1 ⟨w.heap.size + 1 + 1, 0, none⟩ = some (.int .i64 0) := (blk_cell HI.out.2.2.1 0).trans rfl
  have gf0 := blk_frozen HI.out.2.2.1 0
  have gc1 : World.cell? w1 ⟨w.heap.size + 1 + 1, 1, none⟩ = some (.int .i64 0) := (blk_cell HI.out.2.2.1 1).trans rfl
  have gf1 := blk_frozen HI.out.2.2.1 1
  have gc2 : World.cell? w1 ⟨w.heap.size + 1 + 1, 2, none⟩ = some (.string (⟨#[]⟩ : ByteArray)) := (blk_cell HI.out.2.2.1 2).trans rfl
  have gf2 := blk_frozen HI.out.2.2.1 2
  go_wp2_with (first | (go_at_call 24; (with_reducible refine (quarryref02_goes.calls kA op u.f0 true _ HGA.out).mono ?_); rintro e w' ⟨rfl, ⟨nd, rfl⟩⟩) | (go_at_call 24; (with_reducible refine (quarryref02_goes.calls kB op v.f0 true _ HGB.out).mono ?_); rintro e w' ⟨rfl, ⟨nd, rfl⟩⟩))
  refine bodyPost_ret (v := .tuple #[.agg #[.int .i64 (0), .int .i64 (0), .string (V0)], .int .i64 0]) (by simp [results, Try.results22, go_sem, gc0, gc1, gc2, V0]) rfl ⟨rfl, ?_⟩
  refine below_set3 ?_ (by omega) _ _ _ _ _ _
  repeat (first | (with_reducible exact HI.out.bel) | apply pw_below_drewN)
set_option maxHeartbeats 2000000 in
set_option maxRecDepth 100000 in
theorem refBinary.nullMB (op : Int) (u v : S32) (w : World) (kA : Nat) (HGA : Aside0 (quarryref02_goes.f kA op u.f0 = some true)) (kB : Nat) (HGB : Aside0 (quarryref02_goes.f kB op v.f0 = some true)) (l3 : 3 ≤ op) (l16 : op ≤ 16) (l5 : 5 ≤ op) (l10 : op ≤ 10) (a0 : ¬ u.f0 = 0) (z0 : v.f0 = 0) :
    Calls Try.prog 22 #[.int .i64 op, .agg #[.int .i64 u.f0, .int .i64 u.f1, .string u.f2], .agg #[.int .i64 v.f0, .int .i64 v.f1, .string v.f2]] w (fun e w' => e = .returned (.tuple #[.agg #[.int .i64 (0), .int .i64 (0), .string (V0)], .int .i64 0]) ∧ Below w.heap.size w w') := by
  have hu32 := Try.underlying32
  have q0 : decide (op < 3) = false := decide_eq_false (by omega)
  have q1 : decide (3 ≤ op) = true := decide_eq_true l3
  have q2 : decide (16 < op) = false := decide_eq_false (by omega)
  have q3 : decide (op ≤ 16) = true := decide_eq_true l16
  have q4 : decide (5 ≤ op) = true := decide_eq_true l5
  have q5 : decide (op ≤ 10) = true := decide_eq_true l10
  have q6 : decide (op ≤ 4) = false := decide_eq_false (by omega)
  have q7 : (u.f0 == 0) = false := beq_eq_false_iff_ne.mpr a0
  have q8 : (v.f0 == 0) = true := beq_iff_eq.mpr z0
  have l3' := Aside0.mk l3
  have l16' := Aside0.mk l16
  have l5' := Aside0.mk l5
  have l10' := Aside0.mk l10
  have a0' := Aside0.mk a0
  have z0' := Aside0.mk z0
  clear l3 l16 l5 l10 a0 z0
  go_enter Try.func22, Try.ntmps22
  go_upto_region 1 with fail
  refine at_world (fun w' => BR u v w w') BR.start (fun w1 hI => ?_)
  have HI := Aside0.mk hI
  clear hI
  have ca0 : World.cell? w1 _ = some _ := HI.out.a0
  have ca1 : World.cell? w1 _ = some _ := HI.out.a1
  have ca2 : World.cell? w1 _ = some _ := HI.out.a2
  have cv0 : World.cell? w1 _ = some _ := HI.out.v0
  have cv1 : World.cell? w1 _ = some _ := HI.out.v1
  have cv2 : World.cell? w1 _ = some _ := HI.out.v2
  have gc0 : World.cell? w1 ⟨w.heap.size + 1 + 1, 0, none⟩ = some (.int .i64 0) := (blk_cell HI.out.2.2.1 0).trans rfl
  have gf0 := blk_frozen HI.out.2.2.1 0
  have gc1 : World.cell? w1 ⟨w.heap.size + 1 + 1, 1, none⟩ = some (.int .i64 0) := (blk_cell HI.out.2.2.1 1).trans rfl
  have gf1 := blk_frozen HI.out.2.2.1 1
  have gc2 : World.cell? w1 ⟨w.heap.size + 1 + 1, 2, none⟩ = some (.string (⟨#[]⟩ : ByteArray)) := (blk_cell HI.out.2.2.1 2).trans rfl
  have gf2 := blk_frozen HI.out.2.2.1 2
  go_wp2_with (first | (go_at_call 24; (with_reducible refine (quarryref02_goes.calls kA op u.f0 true _ HGA.out).mono ?_); rintro e w' ⟨rfl, ⟨nd, rfl⟩⟩) | (go_at_call 24; (with_reducible refine (quarryref02_goes.calls kB op v.f0 true _ HGB.out).mono ?_); rintro e w' ⟨rfl, ⟨nd, rfl⟩⟩))
  refine bodyPost_ret (v := .tuple #[.agg #[.int .i64 (0), .int .i64 (0), .string (V0)], .int .i64 0]) (by simp [results, Try.results22, go_sem, gc0, gc1, gc2, V0]) rfl ⟨rfl, ?_⟩
  refine below_set3 ?_ (by omega) _ _ _ _ _ _
  repeat (first | (with_reducible exact HI.out.bel) | apply pw_below_drewN)
set_option maxHeartbeats 2000000 in
set_option maxRecDepth 100000 in
theorem refBinary.nullHB (op : Int) (u v : S32) (w : World) (kA : Nat) (HGA : Aside0 (quarryref02_goes.f kA op u.f0 = some true)) (kB : Nat) (HGB : Aside0 (quarryref02_goes.f kB op v.f0 = some true)) (l3 : 3 ≤ op) (l16 : op ≤ 16) (l10 : ¬ op ≤ 10) (a0 : ¬ u.f0 = 0) (z0 : v.f0 = 0) :
    Calls Try.prog 22 #[.int .i64 op, .agg #[.int .i64 u.f0, .int .i64 u.f1, .string u.f2], .agg #[.int .i64 v.f0, .int .i64 v.f1, .string v.f2]] w (fun e w' => e = .returned (.tuple #[.agg #[.int .i64 (0), .int .i64 (0), .string (V0)], .int .i64 0]) ∧ Below w.heap.size w w') := by
  have hu32 := Try.underlying32
  have q0 : decide (op < 3) = false := decide_eq_false (by omega)
  have q1 : decide (3 ≤ op) = true := decide_eq_true l3
  have q2 : decide (16 < op) = false := decide_eq_false (by omega)
  have q3 : decide (op ≤ 16) = true := decide_eq_true l16
  have q4 : decide (5 ≤ op) = true := decide_eq_true (by omega)
  have q5 : decide (op ≤ 10) = false := decide_eq_false l10
  have q6 : decide (op ≤ 4) = false := decide_eq_false (by omega)
  have q7 : (u.f0 == 0) = false := beq_eq_false_iff_ne.mpr a0
  have q8 : (v.f0 == 0) = true := beq_iff_eq.mpr z0
  have l3' := Aside0.mk l3
  have l16' := Aside0.mk l16
  have l10' := Aside0.mk l10
  have a0' := Aside0.mk a0
  have z0' := Aside0.mk z0
  clear l3 l16 l10 a0 z0
  go_enter Try.func22, Try.ntmps22
  go_upto_region 1 with fail
  refine at_world (fun w' => BR u v w w') BR.start (fun w1 hI => ?_)
  have HI := Aside0.mk hI
  clear hI
  have ca0 : World.cell? w1 _ = some _ := HI.out.a0
  have ca1 : World.cell? w1 _ = some _ := HI.out.a1
  have ca2 : World.cell? w1 _ = some _ := HI.out.a2
  have cv0 : World.cell? w1 _ = some _ := HI.out.v0
  have cv1 : World.cell? w1 _ = some _ := HI.out.v1
  have cv2 : World.cell? w1 _ = some _ := HI.out.v2
  have gc0 : World.cell? w1 ⟨w.heap.size + 1 + 1, 0, none⟩ = some (.int .i64 0) := (blk_cell HI.out.2.2.1 0).trans rfl
  have gf0 := blk_frozen HI.out.2.2.1 0
  have gc1 : World.cell? w1 ⟨w.heap.size + 1 + 1, 1, none⟩ = some (.int .i64 0) := (blk_cell HI.out.2.2.1 1).trans rfl
  have gf1 := blk_frozen HI.out.2.2.1 1
  have gc2 : World.cell? w1 ⟨w.heap.size + 1 + 1, 2, none⟩ = some (.string (⟨#[]⟩ : ByteArray)) := (blk_cell HI.out.2.2.1 2).trans rfl
  have gf2 := blk_frozen HI.out.2.2.1 2
  go_wp2_with (first | (go_at_call 24; (with_reducible refine (quarryref02_goes.calls kA op u.f0 true _ HGA.out).mono ?_); rintro e w' ⟨rfl, ⟨nd, rfl⟩⟩) | (go_at_call 24; (with_reducible refine (quarryref02_goes.calls kB op v.f0 true _ HGB.out).mono ?_); rintro e w' ⟨rfl, ⟨nd, rfl⟩⟩))
  refine bodyPost_ret (v := .tuple #[.agg #[.int .i64 (0), .int .i64 (0), .string (V0)], .int .i64 0]) (by simp [results, Try.results22, go_sem, gc0, gc1, gc2, V0]) rfl ⟨rfl, ?_⟩
  refine below_set3 ?_ (by omega) _ _ _ _ _ _
  repeat (first | (with_reducible exact HI.out.bel) | apply pw_below_drewN)
set_option maxHeartbeats 2000000 in
set_option maxRecDepth 100000 in
theorem refBinary.cmp (op : Int) (u v : S32) (w : World) (kA : Nat) (HGA : Aside0 (quarryref02_goes.f kA op u.f0 = some true)) (kB : Nat) (HGB : Aside0 (quarryref02_goes.f kB op v.f0 = some true)) (l3 : 3 ≤ op) (l16 : op ≤ 16) (l5 : 5 ≤ op) (l10 : op ≤ 10) (a0 : ¬ u.f0 = 0) (z0 : ¬ v.f0 = 0) (uv : u.f0 = v.f0) (HZ : Aside0 (u.f2.size ≤ 140737488351232)) :
    Calls Try.prog 22 #[.int .i64 op, .agg #[.int .i64 u.f0, .int .i64 u.f1, .string u.f2], .agg #[.int .i64 v.f0, .int .i64 v.f1, .string v.f2]] w (fun e w' => e = .returned (.tuple #[.agg #[.int .i64 ((truthV (holdsP op (cmpV u v))).f0), .int .i64 ((truthV (holdsP op (cmpV u v))).f1), .string ((truthV (holdsP op (cmpV u v))).f2)], .int .i64 0]) ∧ Below w.heap.size w w') := by
  have hu32 := Try.underlying32
  have q0 : decide (op < 3) = false := decide_eq_false (by omega)
  have q1 : decide (3 ≤ op) = true := decide_eq_true l3
  have q2 : decide (16 < op) = false := decide_eq_false (by omega)
  have q3 : decide (op ≤ 16) = true := decide_eq_true l16
  have q4 : decide (5 ≤ op) = true := decide_eq_true l5
  have q5 : decide (op ≤ 10) = true := decide_eq_true l10
  have q6 : decide (op ≤ 4) = false := decide_eq_false (by omega)
  have q7 : (u.f0 == 0) = false := beq_eq_false_iff_ne.mpr a0
  have q8 : (v.f0 == 0) = false := beq_eq_false_iff_ne.mpr z0
  have q9 : (u.f0 != v.f0) = false := bne_eq_false_iff_eq.mpr uv
  have q10 : (u.f0 == v.f0) = true := beq_iff_eq.mpr uv
  have l3' := Aside0.mk l3
  have l16' := Aside0.mk l16
  have l5' := Aside0.mk l5
  have l10' := Aside0.mk l10
  have a0' := Aside0.mk a0
  have z0' := Aside0.mk z0
  have uv' := Aside0.mk uv
  clear l3 l16 l5 l10 a0 z0 uv
  go_enter Try.func22, Try.ntmps22
  go_upto_region 1 with fail
  refine at_world (fun w' => BR u v w w') BR.start (fun w1 hI => ?_)
  have HI := Aside0.mk hI
  clear hI
  have ca0 : World.cell? w1 _ = some _ := HI.out.a0
  have ca1 : World.cell? w1 _ = some _ := HI.out.a1
  have ca2 : World.cell? w1 _ = some _ := HI.out.a2
  have cv0 : World.cell? w1 _ = some _ := HI.out.v0
  have cv1 : World.cell? w1 _ = some _ := HI.out.v1
  have cv2 : World.cell? w1 _ = some _ := HI.out.v2
  have gc0 : World.cell? w1 ⟨w.heap.size + 1 + 1, 0, none⟩ = some (.int .i64 0) := (blk_cell HI.out.2.2.1 0).trans rfl
  have gf0 := blk_frozen HI.out.2.2.1 0
  have gc1 : World.cell? w1 ⟨w.heap.size + 1 + 1, 1, none⟩ = some (.int .i64 0) := (blk_cell HI.out.2.2.1 1).trans rfl
  have gf1 := blk_frozen HI.out.2.2.1 1
  have gc2 : World.cell? w1 ⟨w.heap.size + 1 + 1, 2, none⟩ = some (.string (⟨#[]⟩ : ByteArray)) := (blk_cell HI.out.2.2.1 2).trans rfl
  have gf2 := blk_frozen HI.out.2.2.1 2
  go_wp2_with (first | (go_at_call 24; (with_reducible refine (quarryref02_goes.calls kA op u.f0 true _ HGA.out).mono ?_); rintro e w' ⟨rfl, ⟨nd, rfl⟩⟩) | (go_at_call 24; (with_reducible refine (quarryref02_goes.calls kB op v.f0 true _ HGB.out).mono ?_); rintro e w' ⟨rfl, ⟨nd, rfl⟩⟩))
  refine (compareR_calls u v HZ.out _).mono ?_
  rintro e w2 ⟨rfl, hb⟩
  have HJ : Aside0 (BR u v w w2) := ⟨BR.below (by repeat (first | exact HI.out | refine BR.drewN ?_ _)) hb⟩
  clear hb HI ca0 ca1 ca2 cv0 cv1 cv2 gc0 gc1 gc2 gf0 gf1 gf2
  have HI := HJ
  clear HJ
  have ca0 : World.cell? w2 _ = some _ := HI.out.a0
  have ca1 : World.cell? w2 _ = some _ := HI.out.a1
  have ca2 : World.cell? w2 _ = some _ := HI.out.a2
  have cv0 : World.cell? w2 _ = some _ := HI.out.v0
  have cv1 : World.cell? w2 _ = some _ := HI.out.v1
  have cv2 : World.cell? w2 _ = some _ := HI.out.v2
  have gc0 : World.cell? w2 ⟨w.heap.size + 1 + 1, 0, none⟩ = some (.int .i64 0) := (blk_cell HI.out.2.2.1 0).trans rfl
  have gf0 := blk_frozen HI.out.2.2.1 0
  have gc1 : World.cell? w2 ⟨w.heap.size + 1 + 1, 1, none⟩ = some (.int .i64 0) := (blk_cell HI.out.2.2.1 1).trans rfl
  have gf1 := blk_frozen HI.out.2.2.1 1
  have gc2 : World.cell? w2 ⟨w.heap.size + 1 + 1, 2, none⟩ = some (.string (⟨#[]⟩ : ByteArray)) := (blk_cell HI.out.2.2.1 2).trans rfl
  have gf2 := blk_frozen HI.out.2.2.1 2
  go_wp2_with fail
  refine (quarryref02_holds.calls op (cmpV u v) _ _ (holdsR_f op (cmpV u v))).mono ?_
  rintro e w' ⟨rfl, ⟨nd, rfl⟩⟩
  go_wp2_with fail
  refine (quarryref02_Truth.calls (holdsP op (cmpV u v)) _ _ _ _ (truthR_f (holdsP op (cmpV u v)))).mono ?_
  rintro e w2 ⟨rfl, hb⟩
  have HJ : Aside0 (BR u v w w2) := ⟨BR.below (by repeat (first | exact HI.out | refine BR.drewN ?_ _)) hb⟩
  clear hb HI ca0 ca1 ca2 cv0 cv1 cv2 gc0 gc1 gc2 gf0 gf1 gf2
  have HI := HJ
  clear HJ
  have ca0 : World.cell? w2 _ = some _ := HI.out.a0
  have ca1 : World.cell? w2 _ = some _ := HI.out.a1
  have ca2 : World.cell? w2 _ = some _ := HI.out.a2
  have cv0 : World.cell? w2 _ = some _ := HI.out.v0
  have cv1 : World.cell? w2 _ = some _ := HI.out.v1
  have cv2 : World.cell? w2 _ = some _ := HI.out.v2
  have gc0 : World.cell? w2 ⟨w.heap.size + 1 + 1, 0, none⟩ = some (.int .i64 0) := (blk_cell HI.out.2.2.1 0).trans rfl
  have gf0 := blk_frozen HI.out.2.2.1 0
  have gc1 : World.cell? w2 ⟨w.heap.size + 1 + 1, 1, none⟩ = some (.int .i64 0) := (blk_cell HI.out.2.2.1 1).trans rfl
  have gf1 := blk_frozen HI.out.2.2.1 1
  have gc2 : World.cell? w2 ⟨w.heap.size + 1 + 1, 2, none⟩ = some (.string (⟨#[]⟩ : ByteArray)) := (blk_cell HI.out.2.2.1 2).trans rfl
  have gf2 := blk_frozen HI.out.2.2.1 2
  go_wp2_with fail
  refine bodyPost_ret (v := .tuple #[.agg #[.int .i64 ((truthV (holdsP op (cmpV u v))).f0), .int .i64 ((truthV (holdsP op (cmpV u v))).f1), .string ((truthV (holdsP op (cmpV u v))).f2)], .int .i64 0]) (by simp [results, Try.results22, go_sem, gc0, gc1, gc2, V0]) rfl ⟨rfl, ?_⟩
  refine below_set3 ?_ (by omega) _ _ _ _ _ _
  repeat (first | (with_reducible exact HI.out.bel) | apply pw_below_drewN)
set_option maxHeartbeats 2000000 in
set_option maxRecDepth 100000 in
theorem refBinary.catA (op : Int) (u v : S32) (w : World) (kA : Nat) (HGA : Aside0 (quarryref02_goes.f kA op u.f0 = some true)) (kB : Nat) (HGB : Aside0 (quarryref02_goes.f kB op v.f0 = some true)) (l3 : 3 ≤ op) (l16 : op ≤ 16) (l10 : ¬ op ≤ 10) (a0 : ¬ u.f0 = 0) (z0 : ¬ v.f0 = 0) (o16 : op = 16) (hz : u.f2.size + v.f2.size < 9223372036854775808) (ha : 2048 < u.f2.size) :
    Calls Try.prog 22 #[.int .i64 op, .agg #[.int .i64 u.f0, .int .i64 u.f1, .string u.f2], .agg #[.int .i64 v.f0, .int .i64 v.f1, .string v.f2]] w (fun e w' => e = .returned (.tuple #[.agg #[.int .i64 (0), .int .i64 (0), .string (V0)], .int .i64 8]) ∧ Below w.heap.size w w') := by
  have hu32 := Try.underlying32
  have q0 : decide (op < 3) = false := decide_eq_false (by omega)
  have q1 : decide (3 ≤ op) = true := decide_eq_true l3
  have q2 : decide (16 < op) = false := decide_eq_false (by omega)
  have q3 : decide (op ≤ 16) = true := decide_eq_true l16
  have q4 : decide (5 ≤ op) = true := decide_eq_true (by omega)
  have q5 : decide (op ≤ 10) = false := decide_eq_false l10
  have q6 : decide (op ≤ 4) = false := decide_eq_false (by omega)
  have q7 : (u.f0 == 0) = false := beq_eq_false_iff_ne.mpr a0
  have q8 : (v.f0 == 0) = false := beq_eq_false_iff_ne.mpr z0
  have q9 : (op == 16) = true := beq_iff_eq.mpr o16
  have q10 : decide (2048 < (u.f2.size : Int)) = true := decide_eq_true (by omega)
  have q11 : decide (2048 < u.f2.size) = true := decide_eq_true (by omega)
  have l3' := Aside0.mk l3
  have l16' := Aside0.mk l16
  have l10' := Aside0.mk l10
  have a0' := Aside0.mk a0
  have z0' := Aside0.mk z0
  have o16' := Aside0.mk o16
  have hz' := Aside0.mk hz
  have ha' := Aside0.mk ha
  clear l3 l16 l10 a0 z0 o16 hz ha
  go_enter Try.func22, Try.ntmps22
  go_upto_region 1 with fail
  refine at_world (fun w' => BR u v w w') BR.start (fun w1 hI => ?_)
  have HI := Aside0.mk hI
  clear hI
  have ca0 : World.cell? w1 _ = some _ := HI.out.a0
  have ca1 : World.cell? w1 _ = some _ := HI.out.a1
  have ca2 : World.cell? w1 _ = some _ := HI.out.a2
  have cv0 : World.cell? w1 _ = some _ := HI.out.v0
  have cv1 : World.cell? w1 _ = some _ := HI.out.v1
  have cv2 : World.cell? w1 _ = some _ := HI.out.v2
  have gc0 : World.cell? w1 ⟨w.heap.size + 1 + 1, 0, none⟩ = some (.int .i64 0) := (blk_cell HI.out.2.2.1 0).trans rfl
  have gf0 := blk_frozen HI.out.2.2.1 0
  have gc1 : World.cell? w1 ⟨w.heap.size + 1 + 1, 1, none⟩ = some (.int .i64 0) := (blk_cell HI.out.2.2.1 1).trans rfl
  have gf1 := blk_frozen HI.out.2.2.1 1
  have gc2 : World.cell? w1 ⟨w.heap.size + 1 + 1, 2, none⟩ = some (.string (⟨#[]⟩ : ByteArray)) := (blk_cell HI.out.2.2.1 2).trans rfl
  have gf2 := blk_frozen HI.out.2.2.1 2
  go_wp2_with (first | (go_at_call 24; (with_reducible refine (quarryref02_goes.calls kA op u.f0 true _ HGA.out).mono ?_); rintro e w' ⟨rfl, ⟨nd, rfl⟩⟩) | (go_at_call 24; (with_reducible refine (quarryref02_goes.calls kB op v.f0 true _ HGB.out).mono ?_); rintro e w' ⟨rfl, ⟨nd, rfl⟩⟩))
  refine bodyPost_ret (v := .tuple #[.agg #[.int .i64 (0), .int .i64 (0), .string (V0)], .int .i64 8]) (by simp [results, Try.results22, go_sem, gc0, gc1, gc2, V0]) rfl ⟨rfl, ?_⟩
  refine below_set3 ?_ (by omega) _ _ _ _ _ _
  repeat (first | (with_reducible exact HI.out.bel) | apply pw_below_drewN)
set_option maxHeartbeats 2000000 in
set_option maxRecDepth 100000 in
theorem refBinary.catB (op : Int) (u v : S32) (w : World) (kA : Nat) (HGA : Aside0 (quarryref02_goes.f kA op u.f0 = some true)) (kB : Nat) (HGB : Aside0 (quarryref02_goes.f kB op v.f0 = some true)) (l3 : 3 ≤ op) (l16 : op ≤ 16) (l10 : ¬ op ≤ 10) (a0 : ¬ u.f0 = 0) (z0 : ¬ v.f0 = 0) (o16 : op = 16) (hz : u.f2.size + v.f2.size < 9223372036854775808) (ha : ¬ 2048 < u.f2.size) (hs : ¬ u.f2.size + v.f2.size ≤ 2048) :
    Calls Try.prog 22 #[.int .i64 op, .agg #[.int .i64 u.f0, .int .i64 u.f1, .string u.f2], .agg #[.int .i64 v.f0, .int .i64 v.f1, .string v.f2]] w (fun e w' => e = .returned (.tuple #[.agg #[.int .i64 (0), .int .i64 (0), .string (V0)], .int .i64 8]) ∧ Below w.heap.size w w') := by
  have hu32 := Try.underlying32
  have q0 : decide (op < 3) = false := decide_eq_false (by omega)
  have q1 : decide (3 ≤ op) = true := decide_eq_true l3
  have q2 : decide (16 < op) = false := decide_eq_false (by omega)
  have q3 : decide (op ≤ 16) = true := decide_eq_true l16
  have q4 : decide (5 ≤ op) = true := decide_eq_true (by omega)
  have q5 : decide (op ≤ 10) = false := decide_eq_false l10
  have q6 : decide (op ≤ 4) = false := decide_eq_false (by omega)
  have q7 : (u.f0 == 0) = false := beq_eq_false_iff_ne.mpr a0
  have q8 : (v.f0 == 0) = false := beq_eq_false_iff_ne.mpr z0
  have q9 : (op == 16) = true := beq_iff_eq.mpr o16
  have q10 : decide (2048 < (u.f2.size : Int)) = false := decide_eq_false (by omega)
  have q11 : decide (2048 < u.f2.size) = false := decide_eq_false (by omega)
  have hw : wrap64 (2048 - (u.f2.size : Int)) = 2048 - (u.f2.size : Int) := by unfold wrap64; omega
  have q13 : decide (2048 - (u.f2.size : Int) < (v.f2.size : Int)) = true := decide_eq_true (by omega)
  have l3' := Aside0.mk l3
  have l16' := Aside0.mk l16
  have l10' := Aside0.mk l10
  have a0' := Aside0.mk a0
  have z0' := Aside0.mk z0
  have o16' := Aside0.mk o16
  have hz' := Aside0.mk hz
  have ha' := Aside0.mk ha
  have hs' := Aside0.mk hs
  clear l3 l16 l10 a0 z0 o16 hz ha hs
  go_enter Try.func22, Try.ntmps22
  go_upto_region 1 with fail
  refine at_world (fun w' => BR u v w w') BR.start (fun w1 hI => ?_)
  have HI := Aside0.mk hI
  clear hI
  have ca0 : World.cell? w1 _ = some _ := HI.out.a0
  have ca1 : World.cell? w1 _ = some _ := HI.out.a1
  have ca2 : World.cell? w1 _ = some _ := HI.out.a2
  have cv0 : World.cell? w1 _ = some _ := HI.out.v0
  have cv1 : World.cell? w1 _ = some _ := HI.out.v1
  have cv2 : World.cell? w1 _ = some _ := HI.out.v2
  have gc0 : World.cell? w1 ⟨w.heap.size + 1 + 1, 0, none⟩ = some (.int .i64 0) := (blk_cell HI.out.2.2.1 0).trans rfl
  have gf0 := blk_frozen HI.out.2.2.1 0
  have gc1 : World.cell? w1 ⟨w.heap.size + 1 + 1, 1, none⟩ = some (.int .i64 0) := (blk_cell HI.out.2.2.1 1).trans rfl
  have gf1 := blk_frozen HI.out.2.2.1 1
  have gc2 : World.cell? w1 ⟨w.heap.size + 1 + 1, 2, none⟩ = some (.string (⟨#[]⟩ : ByteArray)) := (blk_cell HI.out.2.2.1 2).trans rfl
  have gf2 := blk_frozen HI.out.2.2.1 2
  go_wp2_with (first | (go_at_call 24; (with_reducible refine (quarryref02_goes.calls kA op u.f0 true _ HGA.out).mono ?_); rintro e w' ⟨rfl, ⟨nd, rfl⟩⟩) | (go_at_call 24; (with_reducible refine (quarryref02_goes.calls kB op v.f0 true _ HGB.out).mono ?_); rintro e w' ⟨rfl, ⟨nd, rfl⟩⟩))
  refine bodyPost_ret (v := .tuple #[.agg #[.int .i64 (0), .int .i64 (0), .string (V0)], .int .i64 8]) (by simp [results, Try.results22, go_sem, gc0, gc1, gc2, V0]) rfl ⟨rfl, ?_⟩
  refine below_set3 ?_ (by omega) _ _ _ _ _ _
  repeat (first | (with_reducible exact HI.out.bel) | apply pw_below_drewN)
set_option maxHeartbeats 2000000 in
set_option maxRecDepth 100000 in
theorem refBinary.cat (op : Int) (u v : S32) (w : World) (kA : Nat) (HGA : Aside0 (quarryref02_goes.f kA op u.f0 = some true)) (kB : Nat) (HGB : Aside0 (quarryref02_goes.f kB op v.f0 = some true)) (l3 : 3 ≤ op) (l16 : op ≤ 16) (l10 : ¬ op ≤ 10) (a0 : ¬ u.f0 = 0) (z0 : ¬ v.f0 = 0) (o16 : op = 16) (hz : u.f2.size + v.f2.size < 9223372036854775808) (hs : u.f2.size + v.f2.size ≤ 2048) :
    Calls Try.prog 22 #[.int .i64 op, .agg #[.int .i64 u.f0, .int .i64 u.f1, .string u.f2], .agg #[.int .i64 v.f0, .int .i64 v.f1, .string v.f2]] w (fun e w' => e = .returned (.tuple #[.agg #[.int .i64 (3), .int .i64 (0), .string (u.f2 ++ v.f2)], .int .i64 0]) ∧ Below w.heap.size w w') := by
  have hu32 := Try.underlying32
  have q0 : decide (op < 3) = false := decide_eq_false (by omega)
  have q1 : decide (3 ≤ op) = true := decide_eq_true l3
  have q2 : decide (16 < op) = false := decide_eq_false (by omega)
  have q3 : decide (op ≤ 16) = true := decide_eq_true l16
  have q4 : decide (5 ≤ op) = true := decide_eq_true (by omega)
  have q5 : decide (op ≤ 10) = false := decide_eq_false l10
  have q6 : decide (op ≤ 4) = false := decide_eq_false (by omega)
  have q7 : (u.f0 == 0) = false := beq_eq_false_iff_ne.mpr a0
  have q8 : (v.f0 == 0) = false := beq_eq_false_iff_ne.mpr z0
  have q9 : (op == 16) = true := beq_iff_eq.mpr o16
  have q10 : decide (2048 < (u.f2.size : Int)) = false := decide_eq_false (by omega)
  have q11 : decide (2048 < u.f2.size) = false := decide_eq_false (by omega)
  have hw : wrap64 (2048 - (u.f2.size : Int)) = 2048 - (u.f2.size : Int) := by unfold wrap64; omega
  have q13 : decide (2048 - (u.f2.size : Int) < (v.f2.size : Int)) = false := decide_eq_false (by omega)
  have hcat : ¬ (9223372036854775807 < u.f2.size + v.f2.size) := by omega
  have l3' := Aside0.mk l3
  have l16' := Aside0.mk l16
  have l10' := Aside0.mk l10
  have a0' := Aside0.mk a0
  have z0' := Aside0.mk z0
  have o16' := Aside0.mk o16
  have hz' := Aside0.mk hz
  have hs' := Aside0.mk hs
  clear l3 l16 l10 a0 z0 o16 hz hs
  go_enter Try.func22, Try.ntmps22
  go_upto_region 1 with fail
  refine at_world (fun w' => BR u v w w') BR.start (fun w1 hI => ?_)
  have HI := Aside0.mk hI
  clear hI
  have ca0 : World.cell? w1 _ = some _ := HI.out.a0
  have ca1 : World.cell? w1 _ = some _ := HI.out.a1
  have ca2 : World.cell? w1 _ = some _ := HI.out.a2
  have cv0 : World.cell? w1 _ = some _ := HI.out.v0
  have cv1 : World.cell? w1 _ = some _ := HI.out.v1
  have cv2 : World.cell? w1 _ = some _ := HI.out.v2
  have gc0 : World.cell? w1 ⟨w.heap.size + 1 + 1, 0, none⟩ = some (.int .i64 0) := (blk_cell HI.out.2.2.1 0).trans rfl
  have gf0 := blk_frozen HI.out.2.2.1 0
  have gc1 : World.cell? w1 ⟨w.heap.size + 1 + 1, 1, none⟩ = some (.int .i64 0) := (blk_cell HI.out.2.2.1 1).trans rfl
  have gf1 := blk_frozen HI.out.2.2.1 1
  have gc2 : World.cell? w1 ⟨w.heap.size + 1 + 1, 2, none⟩ = some (.string (⟨#[]⟩ : ByteArray)) := (blk_cell HI.out.2.2.1 2).trans rfl
  have gf2 := blk_frozen HI.out.2.2.1 2
  go_wp2_with (first | (go_at_call 24; (with_reducible refine (quarryref02_goes.calls kA op u.f0 true _ HGA.out).mono ?_); rintro e w' ⟨rfl, ⟨nd, rfl⟩⟩) | (go_at_call 24; (with_reducible refine (quarryref02_goes.calls kB op v.f0 true _ HGB.out).mono ?_); rintro e w' ⟨rfl, ⟨nd, rfl⟩⟩))
  refine (quarryref02_text.calls (u.f2 ++ v.f2) _ _ _ _ (show quarryref02_text.f (u.f2 ++ v.f2) = some (3, 0, u.f2 ++ v.f2) from rfl)).mono ?_
  rintro e w2 ⟨rfl, hb⟩
  have HJ : Aside0 (BR u v w w2) := ⟨BR.below (by repeat (first | exact HI.out | refine BR.drewN ?_ _)) hb⟩
  clear hb HI ca0 ca1 ca2 cv0 cv1 cv2 gc0 gc1 gc2 gf0 gf1 gf2
  have HI := HJ
  clear HJ
  have ca0 : World.cell? w2 _ = some _ := HI.out.a0
  have ca1 : World.cell? w2 _ = some _ := HI.out.a1
  have ca2 : World.cell? w2 _ = some _ := HI.out.a2
  have cv0 : World.cell? w2 _ = some _ := HI.out.v0
  have cv1 : World.cell? w2 _ = some _ := HI.out.v1
  have cv2 : World.cell? w2 _ = some _ := HI.out.v2
  have gc0 : World.cell? w2 ⟨w.heap.size + 1 + 1, 0, none⟩ = some (.int .i64 0) := (blk_cell HI.out.2.2.1 0).trans rfl
  have gf0 := blk_frozen HI.out.2.2.1 0
  have gc1 : World.cell? w2 ⟨w.heap.size + 1 + 1, 1, none⟩ = some (.int .i64 0) := (blk_cell HI.out.2.2.1 1).trans rfl
  have gf1 := blk_frozen HI.out.2.2.1 1
  have gc2 : World.cell? w2 ⟨w.heap.size + 1 + 1, 2, none⟩ = some (.string (⟨#[]⟩ : ByteArray)) := (blk_cell HI.out.2.2.1 2).trans rfl
  have gf2 := blk_frozen HI.out.2.2.1 2
  go_wp2_with fail
  refine bodyPost_ret (v := .tuple #[.agg #[.int .i64 (3), .int .i64 (0), .string (u.f2 ++ v.f2)], .int .i64 0]) (by simp [results, Try.results22, go_sem, gc0, gc1, gc2, V0]) rfl ⟨rfl, ?_⟩
  refine below_set3 ?_ (by omega) _ _ _ _ _ _
  repeat (first | (with_reducible exact HI.out.bel) | apply pw_below_drewN)
set_option maxHeartbeats 2000000 in
set_option maxRecDepth 100000 in
theorem refBinary.zero (op : Int) (u v : S32) (w : World) (kA : Nat) (HGA : Aside0 (quarryref02_goes.f kA op u.f0 = some true)) (kB : Nat) (HGB : Aside0 (quarryref02_goes.f kB op v.f0 = some true)) (l3 : 3 ≤ op) (l16 : op ≤ 16) (l10 : ¬ op ≤ 10) (a0 : ¬ u.f0 = 0) (z0 : ¬ v.f0 = 0) (o16 : ¬ op = 16) (l14 : 14 ≤ op) (hb : v.f1 = 0) :
    Calls Try.prog 22 #[.int .i64 op, .agg #[.int .i64 u.f0, .int .i64 u.f1, .string u.f2], .agg #[.int .i64 v.f0, .int .i64 v.f1, .string v.f2]] w (fun e w' => e = .returned (.tuple #[.agg #[.int .i64 (0), .int .i64 (0), .string (V0)], .int .i64 41]) ∧ Below w.heap.size w w') := by
  have hu32 := Try.underlying32
  have q0 : decide (op < 3) = false := decide_eq_false (by omega)
  have q1 : decide (3 ≤ op) = true := decide_eq_true l3
  have q2 : decide (16 < op) = false := decide_eq_false (by omega)
  have q3 : decide (op ≤ 16) = true := decide_eq_true l16
  have q4 : decide (5 ≤ op) = true := decide_eq_true (by omega)
  have q5 : decide (op ≤ 10) = false := decide_eq_false l10
  have q6 : decide (op ≤ 4) = false := decide_eq_false (by omega)
  have q7 : (u.f0 == 0) = false := beq_eq_false_iff_ne.mpr a0
  have q8 : (v.f0 == 0) = false := beq_eq_false_iff_ne.mpr z0
  have q9 : (op == 16) = false := beq_eq_false_iff_ne.mpr o16
  have q10 : decide (14 ≤ op) = true := decide_eq_true l14
  have q11 : (v.f1 == 0) = true := beq_iff_eq.mpr hb
  have l3' := Aside0.mk l3
  have l16' := Aside0.mk l16
  have l10' := Aside0.mk l10
  have a0' := Aside0.mk a0
  have z0' := Aside0.mk z0
  have o16' := Aside0.mk o16
  have l14' := Aside0.mk l14
  have hb' := Aside0.mk hb
  clear l3 l16 l10 a0 z0 o16 l14 hb
  go_enter Try.func22, Try.ntmps22
  go_upto_region 1 with fail
  refine at_world (fun w' => BR u v w w') BR.start (fun w1 hI => ?_)
  have HI := Aside0.mk hI
  clear hI
  have ca0 : World.cell? w1 _ = some _ := HI.out.a0
  have ca1 : World.cell? w1 _ = some _ := HI.out.a1
  have ca2 : World.cell? w1 _ = some _ := HI.out.a2
  have cv0 : World.cell? w1 _ = some _ := HI.out.v0
  have cv1 : World.cell? w1 _ = some _ := HI.out.v1
  have cv2 : World.cell? w1 _ = some _ := HI.out.v2
  have gc0 : World.cell? w1 ⟨w.heap.size + 1 + 1, 0, none⟩ = some (.int .i64 0) := (blk_cell HI.out.2.2.1 0).trans rfl
  have gf0 := blk_frozen HI.out.2.2.1 0
  have gc1 : World.cell? w1 ⟨w.heap.size + 1 + 1, 1, none⟩ = some (.int .i64 0) := (blk_cell HI.out.2.2.1 1).trans rfl
  have gf1 := blk_frozen HI.out.2.2.1 1
  have gc2 : World.cell? w1 ⟨w.heap.size + 1 + 1, 2, none⟩ = some (.string (⟨#[]⟩ : ByteArray)) := (blk_cell HI.out.2.2.1 2).trans rfl
  have gf2 := blk_frozen HI.out.2.2.1 2
  go_wp2_with (first | (go_at_call 24; (with_reducible refine (quarryref02_goes.calls kA op u.f0 true _ HGA.out).mono ?_); rintro e w' ⟨rfl, ⟨nd, rfl⟩⟩) | (go_at_call 24; (with_reducible refine (quarryref02_goes.calls kB op v.f0 true _ HGB.out).mono ?_); rintro e w' ⟨rfl, ⟨nd, rfl⟩⟩))
  refine bodyPost_ret (v := .tuple #[.agg #[.int .i64 (0), .int .i64 (0), .string (V0)], .int .i64 41]) (by simp [results, Try.results22, go_sem, gc0, gc1, gc2, V0]) rfl ⟨rfl, ?_⟩
  refine below_set3 ?_ (by omega) _ _ _ _ _ _
  repeat (first | (with_reducible exact HI.out.bel) | apply pw_below_drewN)
set_option maxHeartbeats 2000000 in
set_option maxRecDepth 100000 in
theorem refBinary.num0 (op : Int) (u v : S32) (w : World) (kA : Nat) (HGA : Aside0 (quarryref02_goes.f kA op u.f0 = some true)) (kB : Nat) (HGB : Aside0 (quarryref02_goes.f kB op v.f0 = some true)) (l3 : 3 ≤ op) (l16 : op ≤ 16) (l10 : ¬ op ≤ 10) (a0 : ¬ u.f0 = 0) (z0 : ¬ v.f0 = 0) (o16 : ¬ op = 16) (l14 : ¬ 14 ≤ op) (k : Nat) (n : Int) (HN : Aside0 (quarryref02_sum.f k op u.f1 v.f1 = some (n, true))) :
    Calls Try.prog 22 #[.int .i64 op, .agg #[.int .i64 u.f0, .int .i64 u.f1, .string u.f2], .agg #[.int .i64 v.f0, .int .i64 v.f1, .string v.f2]] w (fun e w' => e = .returned (.tuple #[.agg #[.int .i64 (2), .int .i64 (n), .string (V0)], .int .i64 0]) ∧ Below w.heap.size w w') := by
  have hu32 := Try.underlying32
  have q0 : decide (op < 3) = false := decide_eq_false (by omega)
  have q1 : decide (3 ≤ op) = true := decide_eq_true l3
  have q2 : decide (16 < op) = false := decide_eq_false (by omega)
  have q3 : decide (op ≤ 16) = true := decide_eq_true l16
  have q4 : decide (5 ≤ op) = true := decide_eq_true (by omega)
  have q5 : decide (op ≤ 10) = false := decide_eq_false l10
  have q6 : decide (op ≤ 4) = false := decide_eq_false (by omega)
  have q7 : (u.f0 == 0) = false := beq_eq_false_iff_ne.mpr a0
  have q8 : (v.f0 == 0) = false := beq_eq_false_iff_ne.mpr z0
  have q9 : (op == 16) = false := beq_eq_false_iff_ne.mpr o16
  have q10 : decide (14 ≤ op) = false := decide_eq_false l14
  have l3' := Aside0.mk l3
  have l16' := Aside0.mk l16
  have l10' := Aside0.mk l10
  have a0' := Aside0.mk a0
  have z0' := Aside0.mk z0
  have o16' := Aside0.mk o16
  have l14' := Aside0.mk l14
  clear l3 l16 l10 a0 z0 o16 l14
  go_enter Try.func22, Try.ntmps22
  go_upto_region 1 with fail
  refine at_world (fun w' => BR u v w w') BR.start (fun w1 hI => ?_)
  have HI := Aside0.mk hI
  clear hI
  have ca0 : World.cell? w1 _ = some _ := HI.out.a0
  have ca1 : World.cell? w1 _ = some _ := HI.out.a1
  have ca2 : World.cell? w1 _ = some _ := HI.out.a2
  have cv0 : World.cell? w1 _ = some _ := HI.out.v0
  have cv1 : World.cell? w1 _ = some _ := HI.out.v1
  have cv2 : World.cell? w1 _ = some _ := HI.out.v2
  have gc0 : World.cell? w1 ⟨w.heap.size + 1 + 1, 0, none⟩ = some (.int .i64 0) := (blk_cell HI.out.2.2.1 0).trans rfl
  have gf0 := blk_frozen HI.out.2.2.1 0
  have gc1 : World.cell? w1 ⟨w.heap.size + 1 + 1, 1, none⟩ = some (.int .i64 0) := (blk_cell HI.out.2.2.1 1).trans rfl
  have gf1 := blk_frozen HI.out.2.2.1 1
  have gc2 : World.cell? w1 ⟨w.heap.size + 1 + 1, 2, none⟩ = some (.string (⟨#[]⟩ : ByteArray)) := (blk_cell HI.out.2.2.1 2).trans rfl
  have gf2 := blk_frozen HI.out.2.2.1 2
  go_wp2_with (first | (go_at_call 24; (with_reducible refine (quarryref02_goes.calls kA op u.f0 true _ HGA.out).mono ?_); rintro e w' ⟨rfl, ⟨nd, rfl⟩⟩) | (go_at_call 24; (with_reducible refine (quarryref02_goes.calls kB op v.f0 true _ HGB.out).mono ?_); rintro e w' ⟨rfl, ⟨nd, rfl⟩⟩))
  refine (quarryref02_sum.calls k op u.f1 v.f1 n true _ HN.out).mono ?_
  rintro e w' ⟨rfl, ⟨nd, rfl⟩⟩
  go_wp2_with fail
  refine (quarryref02_Number.calls n _ _ _ _ (show quarryref02_Number.f n = some (2, n, V0) from rfl)).mono ?_
  rintro e w2 ⟨rfl, hb⟩
  have HJ : Aside0 (BR u v w w2) := ⟨BR.below (by repeat (first | exact HI.out | refine BR.drewN ?_ _)) hb⟩
  clear hb HI ca0 ca1 ca2 cv0 cv1 cv2 gc0 gc1 gc2 gf0 gf1 gf2
  have HI := HJ
  clear HJ
  have ca0 : World.cell? w2 _ = some _ := HI.out.a0
  have ca1 : World.cell? w2 _ = some _ := HI.out.a1
  have ca2 : World.cell? w2 _ = some _ := HI.out.a2
  have cv0 : World.cell? w2 _ = some _ := HI.out.v0
  have cv1 : World.cell? w2 _ = some _ := HI.out.v1
  have cv2 : World.cell? w2 _ = some _ := HI.out.v2
  have gc0 : World.cell? w2 ⟨w.heap.size + 1 + 1, 0, none⟩ = some (.int .i64 0) := (blk_cell HI.out.2.2.1 0).trans rfl
  have gf0 := blk_frozen HI.out.2.2.1 0
  have gc1 : World.cell? w2 ⟨w.heap.size + 1 + 1, 1, none⟩ = some (.int .i64 0) := (blk_cell HI.out.2.2.1 1).trans rfl
  have gf1 := blk_frozen HI.out.2.2.1 1
  have gc2 : World.cell? w2 ⟨w.heap.size + 1 + 1, 2, none⟩ = some (.string (⟨#[]⟩ : ByteArray)) := (blk_cell HI.out.2.2.1 2).trans rfl
  have gf2 := blk_frozen HI.out.2.2.1 2
  go_wp2_with fail
  refine bodyPost_ret (v := .tuple #[.agg #[.int .i64 (2), .int .i64 (n), .string (V0)], .int .i64 0]) (by simp [results, Try.results22, go_sem, gc0, gc1, gc2, V0]) rfl ⟨rfl, ?_⟩
  refine below_set3 ?_ (by omega) _ _ _ _ _ _
  repeat (first | (with_reducible exact HI.out.bel) | apply pw_below_drewN)
set_option maxHeartbeats 2000000 in
set_option maxRecDepth 100000 in
theorem refBinary.over0 (op : Int) (u v : S32) (w : World) (kA : Nat) (HGA : Aside0 (quarryref02_goes.f kA op u.f0 = some true)) (kB : Nat) (HGB : Aside0 (quarryref02_goes.f kB op v.f0 = some true)) (l3 : 3 ≤ op) (l16 : op ≤ 16) (l10 : ¬ op ≤ 10) (a0 : ¬ u.f0 = 0) (z0 : ¬ v.f0 = 0) (o16 : ¬ op = 16) (l14 : ¬ 14 ≤ op) (k : Nat) (n : Int) (HN : Aside0 (quarryref02_sum.f k op u.f1 v.f1 = some (n, false))) :
    Calls Try.prog 22 #[.int .i64 op, .agg #[.int .i64 u.f0, .int .i64 u.f1, .string u.f2], .agg #[.int .i64 v.f0, .int .i64 v.f1, .string v.f2]] w (fun e w' => e = .returned (.tuple #[.agg #[.int .i64 (0), .int .i64 (0), .string (V0)], .int .i64 40]) ∧ Below w.heap.size w w') := by
  have hu32 := Try.underlying32
  have q0 : decide (op < 3) = false := decide_eq_false (by omega)
  have q1 : decide (3 ≤ op) = true := decide_eq_true l3
  have q2 : decide (16 < op) = false := decide_eq_false (by omega)
  have q3 : decide (op ≤ 16) = true := decide_eq_true l16
  have q4 : decide (5 ≤ op) = true := decide_eq_true (by omega)
  have q5 : decide (op ≤ 10) = false := decide_eq_false l10
  have q6 : decide (op ≤ 4) = false := decide_eq_false (by omega)
  have q7 : (u.f0 == 0) = false := beq_eq_false_iff_ne.mpr a0
  have q8 : (v.f0 == 0) = false := beq_eq_false_iff_ne.mpr z0
  have q9 : (op == 16) = false := beq_eq_false_iff_ne.mpr o16
  have q10 : decide (14 ≤ op) = false := decide_eq_false l14
  have l3' := Aside0.mk l3
  have l16' := Aside0.mk l16
  have l10' := Aside0.mk l10
  have a0' := Aside0.mk a0
  have z0' := Aside0.mk z0
  have o16' := Aside0.mk o16
  have l14' := Aside0.mk l14
  clear l3 l16 l10 a0 z0 o16 l14
  go_enter Try.func22, Try.ntmps22
  go_upto_region 1 with fail
  refine at_world (fun w' => BR u v w w') BR.start (fun w1 hI => ?_)
  have HI := Aside0.mk hI
  clear hI
  have ca0 : World.cell? w1 _ = some _ := HI.out.a0
  have ca1 : World.cell? w1 _ = some _ := HI.out.a1
  have ca2 : World.cell? w1 _ = some _ := HI.out.a2
  have cv0 : World.cell? w1 _ = some _ := HI.out.v0
  have cv1 : World.cell? w1 _ = some _ := HI.out.v1
  have cv2 : World.cell? w1 _ = some _ := HI.out.v2
  have gc0 : World.cell? w1 ⟨w.heap.size + 1 + 1, 0, none⟩ = some (.int .i64 0) := (blk_cell HI.out.2.2.1 0).trans rfl
  have gf0 := blk_frozen HI.out.2.2.1 0
  have gc1 : World.cell? w1 ⟨w.heap.size + 1 + 1, 1, none⟩ = some (.int .i64 0) := (blk_cell HI.out.2.2.1 1).trans rfl
  have gf1 := blk_frozen HI.out.2.2.1 1
  have gc2 : World.cell? w1 ⟨w.heap.size + 1 + 1, 2, none⟩ = some (.string (⟨#[]⟩ : ByteArray)) := (blk_cell HI.out.2.2.1 2).trans rfl
  have gf2 := blk_frozen HI.out.2.2.1 2
  go_wp2_with (first | (go_at_call 24; (with_reducible refine (quarryref02_goes.calls kA op u.f0 true _ HGA.out).mono ?_); rintro e w' ⟨rfl, ⟨nd, rfl⟩⟩) | (go_at_call 24; (with_reducible refine (quarryref02_goes.calls kB op v.f0 true _ HGB.out).mono ?_); rintro e w' ⟨rfl, ⟨nd, rfl⟩⟩))
  refine (quarryref02_sum.calls k op u.f1 v.f1 n false _ HN.out).mono ?_
  rintro e w' ⟨rfl, ⟨nd, rfl⟩⟩
  go_wp2_with fail
  refine bodyPost_ret (v := .tuple #[.agg #[.int .i64 (0), .int .i64 (0), .string (V0)], .int .i64 40]) (by simp [results, Try.results22, go_sem, gc0, gc1, gc2, V0]) rfl ⟨rfl, ?_⟩
  refine below_set3 ?_ (by omega) _ _ _ _ _ _
  repeat (first | (with_reducible exact HI.out.bel) | apply pw_below_drewN)
set_option maxHeartbeats 2000000 in
set_option maxRecDepth 100000 in
theorem refBinary.num1 (op : Int) (u v : S32) (w : World) (kA : Nat) (HGA : Aside0 (quarryref02_goes.f kA op u.f0 = some true)) (kB : Nat) (HGB : Aside0 (quarryref02_goes.f kB op v.f0 = some true)) (l3 : 3 ≤ op) (l16 : op ≤ 16) (l10 : ¬ op ≤ 10) (a0 : ¬ u.f0 = 0) (z0 : ¬ v.f0 = 0) (o16 : ¬ op = 16) (l14 : 14 ≤ op) (hb : ¬ v.f1 = 0) (k : Nat) (n : Int) (HN : Aside0 (quarryref02_sum.f k op u.f1 v.f1 = some (n, true))) :
    Calls Try.prog 22 #[.int .i64 op, .agg #[.int .i64 u.f0, .int .i64 u.f1, .string u.f2], .agg #[.int .i64 v.f0, .int .i64 v.f1, .string v.f2]] w (fun e w' => e = .returned (.tuple #[.agg #[.int .i64 (2), .int .i64 (n), .string (V0)], .int .i64 0]) ∧ Below w.heap.size w w') := by
  have hu32 := Try.underlying32
  have q0 : decide (op < 3) = false := decide_eq_false (by omega)
  have q1 : decide (3 ≤ op) = true := decide_eq_true l3
  have q2 : decide (16 < op) = false := decide_eq_false (by omega)
  have q3 : decide (op ≤ 16) = true := decide_eq_true l16
  have q4 : decide (5 ≤ op) = true := decide_eq_true (by omega)
  have q5 : decide (op ≤ 10) = false := decide_eq_false l10
  have q6 : decide (op ≤ 4) = false := decide_eq_false (by omega)
  have q7 : (u.f0 == 0) = false := beq_eq_false_iff_ne.mpr a0
  have q8 : (v.f0 == 0) = false := beq_eq_false_iff_ne.mpr z0
  have q9 : (op == 16) = false := beq_eq_false_iff_ne.mpr o16
  have q10 : decide (14 ≤ op) = true := decide_eq_true l14
  have q11 : (v.f1 == 0) = false := beq_eq_false_iff_ne.mpr hb
  have l3' := Aside0.mk l3
  have l16' := Aside0.mk l16
  have l10' := Aside0.mk l10
  have a0' := Aside0.mk a0
  have z0' := Aside0.mk z0
  have o16' := Aside0.mk o16
  have l14' := Aside0.mk l14
  have hb' := Aside0.mk hb
  clear l3 l16 l10 a0 z0 o16 l14 hb
  go_enter Try.func22, Try.ntmps22
  go_upto_region 1 with fail
  refine at_world (fun w' => BR u v w w') BR.start (fun w1 hI => ?_)
  have HI := Aside0.mk hI
  clear hI
  have ca0 : World.cell? w1 _ = some _ := HI.out.a0
  have ca1 : World.cell? w1 _ = some _ := HI.out.a1
  have ca2 : World.cell? w1 _ = some _ := HI.out.a2
  have cv0 : World.cell? w1 _ = some _ := HI.out.v0
  have cv1 : World.cell? w1 _ = some _ := HI.out.v1
  have cv2 : World.cell? w1 _ = some _ := HI.out.v2
  have gc0 : World.cell? w1 ⟨w.heap.size + 1 + 1, 0, none⟩ = some (.int .i64 0) := (blk_cell HI.out.2.2.1 0).trans rfl
  have gf0 := blk_frozen HI.out.2.2.1 0
  have gc1 : World.cell? w1 ⟨w.heap.size + 1 + 1, 1, none⟩ = some (.int .i64 0) := (blk_cell HI.out.2.2.1 1).trans rfl
  have gf1 := blk_frozen HI.out.2.2.1 1
  have gc2 : World.cell? w1 ⟨w.heap.size + 1 + 1, 2, none⟩ = some (.string (⟨#[]⟩ : ByteArray)) := (blk_cell HI.out.2.2.1 2).trans rfl
  have gf2 := blk_frozen HI.out.2.2.1 2
  go_wp2_with (first | (go_at_call 24; (with_reducible refine (quarryref02_goes.calls kA op u.f0 true _ HGA.out).mono ?_); rintro e w' ⟨rfl, ⟨nd, rfl⟩⟩) | (go_at_call 24; (with_reducible refine (quarryref02_goes.calls kB op v.f0 true _ HGB.out).mono ?_); rintro e w' ⟨rfl, ⟨nd, rfl⟩⟩))
  refine (quarryref02_sum.calls k op u.f1 v.f1 n true _ HN.out).mono ?_
  rintro e w' ⟨rfl, ⟨nd, rfl⟩⟩
  go_wp2_with fail
  refine (quarryref02_Number.calls n _ _ _ _ (show quarryref02_Number.f n = some (2, n, V0) from rfl)).mono ?_
  rintro e w2 ⟨rfl, hb⟩
  have HJ : Aside0 (BR u v w w2) := ⟨BR.below (by repeat (first | exact HI.out | refine BR.drewN ?_ _)) hb⟩
  clear hb HI ca0 ca1 ca2 cv0 cv1 cv2 gc0 gc1 gc2 gf0 gf1 gf2
  have HI := HJ
  clear HJ
  have ca0 : World.cell? w2 _ = some _ := HI.out.a0
  have ca1 : World.cell? w2 _ = some _ := HI.out.a1
  have ca2 : World.cell? w2 _ = some _ := HI.out.a2
  have cv0 : World.cell? w2 _ = some _ := HI.out.v0
  have cv1 : World.cell? w2 _ = some _ := HI.out.v1
  have cv2 : World.cell? w2 _ = some _ := HI.out.v2
  have gc0 : World.cell? w2 ⟨w.heap.size + 1 + 1, 0, none⟩ = some (.int .i64 0) := (blk_cell HI.out.2.2.1 0).trans rfl
  have gf0 := blk_frozen HI.out.2.2.1 0
  have gc1 : World.cell? w2 ⟨w.heap.size + 1 + 1, 1, none⟩ = some (.int .i64 0) := (blk_cell HI.out.2.2.1 1).trans rfl
  have gf1 := blk_frozen HI.out.2.2.1 1
  have gc2 : World.cell? w2 ⟨w.heap.size + 1 + 1, 2, none⟩ = some (.string (⟨#[]⟩ : ByteArray)) := (blk_cell HI.out.2.2.1 2).trans rfl
  have gf2 := blk_frozen HI.out.2.2.1 2
  go_wp2_with fail
  refine bodyPost_ret (v := .tuple #[.agg #[.int .i64 (2), .int .i64 (n), .string (V0)], .int .i64 0]) (by simp [results, Try.results22, go_sem, gc0, gc1, gc2, V0]) rfl ⟨rfl, ?_⟩
  refine below_set3 ?_ (by omega) _ _ _ _ _ _
  repeat (first | (with_reducible exact HI.out.bel) | apply pw_below_drewN)
set_option maxHeartbeats 2000000 in
set_option maxRecDepth 100000 in
theorem refBinary.over1 (op : Int) (u v : S32) (w : World) (kA : Nat) (HGA : Aside0 (quarryref02_goes.f kA op u.f0 = some true)) (kB : Nat) (HGB : Aside0 (quarryref02_goes.f kB op v.f0 = some true)) (l3 : 3 ≤ op) (l16 : op ≤ 16) (l10 : ¬ op ≤ 10) (a0 : ¬ u.f0 = 0) (z0 : ¬ v.f0 = 0) (o16 : ¬ op = 16) (l14 : 14 ≤ op) (hb : ¬ v.f1 = 0) (k : Nat) (n : Int) (HN : Aside0 (quarryref02_sum.f k op u.f1 v.f1 = some (n, false))) :
    Calls Try.prog 22 #[.int .i64 op, .agg #[.int .i64 u.f0, .int .i64 u.f1, .string u.f2], .agg #[.int .i64 v.f0, .int .i64 v.f1, .string v.f2]] w (fun e w' => e = .returned (.tuple #[.agg #[.int .i64 (0), .int .i64 (0), .string (V0)], .int .i64 40]) ∧ Below w.heap.size w w') := by
  have hu32 := Try.underlying32
  have q0 : decide (op < 3) = false := decide_eq_false (by omega)
  have q1 : decide (3 ≤ op) = true := decide_eq_true l3
  have q2 : decide (16 < op) = false := decide_eq_false (by omega)
  have q3 : decide (op ≤ 16) = true := decide_eq_true l16
  have q4 : decide (5 ≤ op) = true := decide_eq_true (by omega)
  have q5 : decide (op ≤ 10) = false := decide_eq_false l10
  have q6 : decide (op ≤ 4) = false := decide_eq_false (by omega)
  have q7 : (u.f0 == 0) = false := beq_eq_false_iff_ne.mpr a0
  have q8 : (v.f0 == 0) = false := beq_eq_false_iff_ne.mpr z0
  have q9 : (op == 16) = false := beq_eq_false_iff_ne.mpr o16
  have q10 : decide (14 ≤ op) = true := decide_eq_true l14
  have q11 : (v.f1 == 0) = false := beq_eq_false_iff_ne.mpr hb
  have l3' := Aside0.mk l3
  have l16' := Aside0.mk l16
  have l10' := Aside0.mk l10
  have a0' := Aside0.mk a0
  have z0' := Aside0.mk z0
  have o16' := Aside0.mk o16
  have l14' := Aside0.mk l14
  have hb' := Aside0.mk hb
  clear l3 l16 l10 a0 z0 o16 l14 hb
  go_enter Try.func22, Try.ntmps22
  go_upto_region 1 with fail
  refine at_world (fun w' => BR u v w w') BR.start (fun w1 hI => ?_)
  have HI := Aside0.mk hI
  clear hI
  have ca0 : World.cell? w1 _ = some _ := HI.out.a0
  have ca1 : World.cell? w1 _ = some _ := HI.out.a1
  have ca2 : World.cell? w1 _ = some _ := HI.out.a2
  have cv0 : World.cell? w1 _ = some _ := HI.out.v0
  have cv1 : World.cell? w1 _ = some _ := HI.out.v1
  have cv2 : World.cell? w1 _ = some _ := HI.out.v2
  have gc0 : World.cell? w1 ⟨w.heap.size + 1 + 1, 0, none⟩ = some (.int .i64 0) := (blk_cell HI.out.2.2.1 0).trans rfl
  have gf0 := blk_frozen HI.out.2.2.1 0
  have gc1 : World.cell? w1 ⟨w.heap.size + 1 + 1, 1, none⟩ = some (.int .i64 0) := (blk_cell HI.out.2.2.1 1).trans rfl
  have gf1 := blk_frozen HI.out.2.2.1 1
  have gc2 : World.cell? w1 ⟨w.heap.size + 1 + 1, 2, none⟩ = some (.string (⟨#[]⟩ : ByteArray)) := (blk_cell HI.out.2.2.1 2).trans rfl
  have gf2 := blk_frozen HI.out.2.2.1 2
  go_wp2_with (first | (go_at_call 24; (with_reducible refine (quarryref02_goes.calls kA op u.f0 true _ HGA.out).mono ?_); rintro e w' ⟨rfl, ⟨nd, rfl⟩⟩) | (go_at_call 24; (with_reducible refine (quarryref02_goes.calls kB op v.f0 true _ HGB.out).mono ?_); rintro e w' ⟨rfl, ⟨nd, rfl⟩⟩))
  refine (quarryref02_sum.calls k op u.f1 v.f1 n false _ HN.out).mono ?_
  rintro e w' ⟨rfl, ⟨nd, rfl⟩⟩
  go_wp2_with fail
  refine bodyPost_ret (v := .tuple #[.agg #[.int .i64 (0), .int .i64 (0), .string (V0)], .int .i64 40]) (by simp [results, Try.results22, go_sem, gc0, gc1, gc2, V0]) rfl ⟨rfl, ?_⟩
  refine below_set3 ?_ (by omega) _ _ _ _ _ _
  repeat (first | (with_reducible exact HI.out.bel) | apply pw_below_drewN)
end Go.Proofs.Ytgjfciohmgpohaa.P
end
section
namespace Go.Proofs.Ytgjfciohmgpohaa.P
open Go.RowKit Go.Proofs.Ytgjfciohmgpohaa.Pure Go.Proofs.YtgjfciohmgpohaaW.PrintWords Go.Proofs.YtgjfciohmgpohaaW.PrintLast Go.Proofs.YtgjfciohmgpohaaW.PrintMore
attribute [local go_sem] max2_int min2_int max_two min_two max_three min_three max_four min_four
set_option linter.unusedVariables false
set_option linter.unusedSimpArgs false
set_option maxHeartbeats 2000000 in
set_option maxRecDepth 100000 in
theorem calc_Binary1.logic11 (op : Int) (u v : S32) (k : Int) (HK : Aside0 (calc_wants.f op = some k)) (b0 b1 b2 : Nat) (W : World) (h0 : W.heap[b0]? = some (.cells #[.int .i64 op] 3 (0, 0))) (h1 : W.heap[b1]? = some (.cells #[.int .i64 u.f0, .int .i64 u.f1, .string u.f2] 32 (0, 0))) (h2 : W.heap[b2]? = some (.cells #[.int .i64 v.f0, .int .i64 v.f1, .string v.f2] 32 (0, 0))) (l3 : 3 ≤ op) (l16 : op ≤ 16) (kn : ¬ k = 0) (l4 : op ≤ 4) (a0 : u.f0 = 0) (z0 : v.f0 = 0) :
    Calls Try.prog 54 #[.pointer (some ⟨b0, 0, none⟩), .pointer (some ⟨b1, 0, none⟩), .pointer (some ⟨b2, 0, none⟩)] W (fun e w' => RE (.ok (logicP u v (truthV (op == 3)))) e ∧ Below W.heap.size W w') := by
  have hu32 := Try.underlying32
  have n0 : ¬ b0 = W.heap.size := by have := blk_lt h0; omega
  have n1 : ¬ b1 = W.heap.size := by have := blk_lt h1; omega
  have n2 : ¬ b2 = W.heap.size := by have := blk_lt h2; omega
  have HS := Aside0.mk (BI.start h0 h1 h2)
  clear h0 h1 h2
  have hc0 := HS.out.o
  have ha0 := HS.out.a0
  have ha1 := HS.out.a1
  have ha2 := HS.out.a2
  have hb0 := HS.out.v0
  have hb1 := HS.out.v1
  have hb2 := HS.out.v2
  have q0 : decide (3 ≤ op) = true := decide_eq_true l3
  have q1 : decide (op ≤ 16) = true := decide_eq_true l16
  have q2 : (k != 0) = true := bne_iff_ne.mpr kn
  have q3 : decide (op ≤ 4) = true := decide_eq_true l4
  have q4 : (u.f0 == 0) = true := beq_iff_eq.mpr a0
  have q5 : (v.f0 == 0) = true := beq_iff_eq.mpr z0
  have q6 : (u.f0 == k) = false := beq_eq_false_iff_ne.mpr (fun h => kn (h.symm.trans a0))
  have q7 : (v.f0 == k) = false := beq_eq_false_iff_ne.mpr (fun h => kn (h.symm.trans z0))
  have l3' := Aside0.mk l3
  have l16' := Aside0.mk l16
  have kn' := Aside0.mk kn
  have l4' := Aside0.mk l4
  have a0' := Aside0.mk a0
  have z0' := Aside0.mk z0
  clear l3 l16 kn l4 a0 z0
  go_enter Try.func54, Try.ntmps54
  go_wp2_with (first | (go_at_call 56; (with_reducible refine (calc_wants.calls op k _ HK.out).mono ?_); rintro e w' ⟨rfl, ⟨nd, rfl⟩⟩) | (go_at_call 55; (with_reducible refine (calc_check.yes _ _).mono ?_); rintro e w' ⟨rfl, rfl⟩) | (go_at_call 55; (with_reducible refine (calc_check.no _ _).mono ?_); rintro e w' ⟨rfl, rfl⟩))
  refine at_world (fun w' => BI op u v b0 b1 b2 W w') (by repeat (first | exact HS.out | refine BI.drewN ?_ _ | refine BI.drew ?_)) (fun w1 hI => ?_)
  have HI := Aside0.mk hI
  clear hI hc0 ha0 ha1 ha2 hb0 hb1 hb2
  refine start_ (n := 7) (S := fun w' => w'.cell? ⟨b0, 0, none⟩ = some (.int .i64 op) ∧ w'.cell? ⟨b1, 0, none⟩ = some (.int .i64 u.f0) ∧ w'.cell? ⟨b1, 1, none⟩ = some (.int .i64 u.f1) ∧ w'.cell? ⟨b1, 2, none⟩ = some (.string u.f2) ∧ w'.cell? ⟨b2, 0, none⟩ = some (.int .i64 v.f0) ∧ w'.cell? ⟨b2, 1, none⟩ = some (.int .i64 v.f1) ∧ w'.cell? ⟨b2, 2, none⟩ = some (.string v.f2)) (ds := [6]) #[false, false, false, false, false, false, false] (by kernel_rfl) rfl rfl ⟨HI.out.o, HI.out.a0, HI.out.a1, HI.out.a2, HI.out.v0, HI.out.v1, HI.out.v2⟩ (fun hHeld => ?_)
  refine take_ (i := 0) (N := some 57) (v := ?_) (a' := ?_) #[true, false, false, false, false, false, false] rfl rfl (by kernel_rfl) (fun _ _ _ h => h) (Or.inl ⟨by rfl, ?_⟩) hHeld ?_ ?_
  rotate_left
  · rintro w' ⟨s0, s1, s2, s3, s4, s5, s6⟩
    go_simp
    with_reducible rfl
  rotate_left
  · simp only [Act.put, List.setIfInBounds_toArray, List.set_cons_zero, List.set_cons_succ, i64_w, i32_w]
    rfl
  refine take_ (i := 1) (N := some 58) (v := ?_) (a' := ?_) #[true, true, false, false, false, false, false] rfl rfl (by kernel_rfl) (fun _ _ _ h => h) (Or.inl ⟨by rfl, ?_⟩) hHeld ?_ ?_
  rotate_left
  · rintro w' ⟨s0, s1, s2, s3, s4, s5, s6⟩
    go_simp
    with_reducible rfl
  rotate_left
  · simp only [Act.put, List.setIfInBounds_toArray, List.set_cons_zero, List.set_cons_succ, i64_w, i32_w]
    rfl
  refine take_ (i := 2) (N := some 59) (v := ?_) (a' := ?_) #[true, true, true, false, false, false, false] rfl rfl (by kernel_rfl) (fun _ _ _ h => h) (Or.inl ⟨by rfl, ?_⟩) hHeld ?_ ?_
  rotate_left
  · rintro w' ⟨s0, s1, s2, s3, s4, s5, s6⟩
    go_simp
    with_reducible rfl
  rotate_left
  · simp only [Act.put, List.setIfInBounds_toArray, List.set_cons_zero, List.set_cons_succ, i64_w, i32_w]
    rfl
  refine pure_ (i := 3) (N := some 60) (v := ?_) (a' := ?_) #[true, true, true, true, false, false, false] rfl rfl (by kernel_rfl) (fun _ _ _ h => h) (Or.inl ⟨by rfl, ?_⟩) ?_ ?_
  rotate_left
  · intro w'
    go_simp
    with_reducible rfl
  rotate_left
  · simp only [Act.put, List.setIfInBounds_toArray, List.set_cons_zero, List.set_cons_succ, i64_w, i32_w]
    rfl
  refine one_ (i := 4) (N := some 61) #[true, true, true, true, true, false, false] rfl rfl (by kernel_rfl) (by decide) (fun K hK => ?_)
  refine goes_ Try.func58 (by kernel_rfl) rfl #[.bool (op == 3)] (by rfl) rfl rfl (by simp only [List.map_toArray, List.map_cons, List.map_nil]; rfl) ?_
  with_reducible refine (calc_truth.calls (op == 3) _ _ _ _ (truth_f (op == 3))).mono ?_
  rintro e w2 ⟨rfl, h2⟩
  refine ⟨_, rfl, ?_⟩
  have n0_ := Aside0.mk (BI.below HI.out.drew h2)
  clear h2 HI
  have HI := n0_
  clear n0_
  refine hK.out _ _ ⟨HI.out.o, HI.out.a0, HI.out.a1, HI.out.a2, HI.out.v0, HI.out.v1, HI.out.v2⟩ (fun hHeld => ?_)
  clear hK K
  refine norm_ (a' := ?_) ?_ ?_
  rotate_left
  · show Act.put _ (some 61) _ = _
    simp only [Act.put, List.setIfInBounds_toArray, List.set_cons_zero, List.set_cons_succ, i64_w, i32_w]
    rfl
  refine one_ (i := 5) (N := some 62) #[true, true, true, true, true, true, false] rfl rfl (by kernel_rfl) (by decide) (fun K hK => ?_)
  refine goes_ Try.func57 (by kernel_rfl) rfl #[.agg #[.int .i64 u.f0, .int .i64 u.f1, .string u.f2], .agg #[.int .i64 v.f0, .int .i64 v.f1, .string v.f2], .agg #[.int .i64 (truthV (op == 3)).f0, .int .i64 (truthV (op == 3)).f1, .string (truthV (op == 3)).f2]] (by rfl) rfl rfl (by simp only [List.map_toArray, List.map_cons, List.map_nil]; rfl) ?_
  with_reducible refine (logic_calls u v (truthV (op == 3)) _).mono ?_
  rintro e w2 ⟨rfl, h2⟩
  refine ⟨_, rfl, ?_⟩
  have n0_ := Aside0.mk (BI.below HI.out h2)
  clear h2 HI
  have HI := n0_
  clear n0_
  refine hK.out _ _ ⟨HI.out.o, HI.out.a0, HI.out.a1, HI.out.a2, HI.out.v0, HI.out.v1, HI.out.v2⟩ (fun hHeld => ?_)
  clear hK K
  refine norm_ (a' := ?_) ?_ ?_
  rotate_left
  · show Act.put _ (some 62) _ = _
    simp only [Act.put, List.setIfInBounds_toArray, List.set_cons_zero, List.set_cons_succ, i64_w, i32_w]
    rfl
  refine last_ (i := 6) (N := none) #[true, true, true, true, true, true, true] rfl rfl (by kernel_rfl) (by decide) (fun K hK => ?_)
  have gc0 : World.cell? _ ⟨W.heap.size, 0, none⟩ = some (.int .i64 0) := (blk_cell HI.out.2.2.2.1 0).trans rfl
  have gc1 : World.cell? _ ⟨W.heap.size, 1, none⟩ = some (.int .i64 0) := (blk_cell HI.out.2.2.2.1 1).trans rfl
  have gc2 : World.cell? _ ⟨W.heap.size, 2, none⟩ = some (.string (⟨#[]⟩ : ByteArray)) := (blk_cell HI.out.2.2.2.1 2).trans rfl
  have gf0 := blk_frozen HI.out.2.2.2.1 0
  have gf1 := blk_frozen HI.out.2.2.2.1 1
  have gf2 := blk_frozen HI.out.2.2.2.1 2
  refine skip_ (w1 := ?_) (by rfl) rfl ?_ ?_
  rotate_left
  · go_simp
    rfl
  refine hK.out _ _ ?_
  clear hK K
  refine done_ (by kernel_rfl) ?_
  go_wp2_with fail
  exact bodyPost_ret (v := encV (logicP u v (truthV (op == 3)))) (by simp [results, Try.results54, go_sem, encV, gc0, gc1, gc2]) rfl ⟨rfl, below_set3 HI.out.bel (Nat.le_refl W.heap.size) _ _ _ _ _ _⟩
set_option maxHeartbeats 2000000 in
set_option maxRecDepth 100000 in
theorem calc_Binary1.logic10 (op : Int) (u v : S32) (k : Int) (HK : Aside0 (calc_wants.f op = some k)) (b0 b1 b2 : Nat) (W : World) (h0 : W.heap[b0]? = some (.cells #[.int .i64 op] 3 (0, 0))) (h1 : W.heap[b1]? = some (.cells #[.int .i64 u.f0, .int .i64 u.f1, .string u.f2] 32 (0, 0))) (h2 : W.heap[b2]? = some (.cells #[.int .i64 v.f0, .int .i64 v.f1, .string v.f2] 32 (0, 0))) (l3 : 3 ≤ op) (l16 : op ≤ 16) (kn : ¬ k = 0) (l4 : op ≤ 4) (a0 : u.f0 = 0) (z0 : ¬ v.f0 = 0) (zk : v.f0 = k) :
    Calls Try.prog 54 #[.pointer (some ⟨b0, 0, none⟩), .pointer (some ⟨b1, 0, none⟩), .pointer (some ⟨b2, 0, none⟩)] W (fun e w' => RE (.ok (logicP u v (truthV (op == 3)))) e ∧ Below W.heap.size W w') := by
  have hu32 := Try.underlying32
  have n0 : ¬ b0 = W.heap.size := by have := blk_lt h0; omega
  have n1 : ¬ b1 = W.heap.size := by have := blk_lt h1; omega
  have n2 : ¬ b2 = W.heap.size := by have := blk_lt h2; omega
  have HS := Aside0.mk (BI.start h0 h1 h2)
  clear h0 h1 h2
  have hc0 := HS.out.o
  have ha0 := HS.out.a0
  have ha1 := HS.out.a1
  have ha2 := HS.out.a2
  have hb0 := HS.out.v0
  have hb1 := HS.out.v1
  have hb2 := HS.out.v2
  have q0 : decide (3 ≤ op) = true := decide_eq_true l3
  have q1 : decide (op ≤ 16) = true := decide_eq_true l16
  have q2 : (k != 0) = true := bne_iff_ne.mpr kn
  have q3 : decide (op ≤ 4) = true := decide_eq_true l4
  have q4 : (u.f0 == 0) = true := beq_iff_eq.mpr a0
  have q5 : (v.f0 == 0) = false := beq_eq_false_iff_ne.mpr z0
  have q6 : (u.f0 == k) = false := beq_eq_false_iff_ne.mpr (fun h => kn (h.symm.trans a0))
  have q7 : (v.f0 == k) = true := beq_iff_eq.mpr zk
  have l3' := Aside0.mk l3
  have l16' := Aside0.mk l16
  have kn' := Aside0.mk kn
  have l4' := Aside0.mk l4
  have a0' := Aside0.mk a0
  have z0' := Aside0.mk z0
  have zk' := Aside0.mk zk
  clear l3 l16 kn l4 a0 z0 zk
  go_enter Try.func54, Try.ntmps54
  go_wp2_with (first | (go_at_call 56; (with_reducible refine (calc_wants.calls op k _ HK.out).mono ?_); rintro e w' ⟨rfl, ⟨nd, rfl⟩⟩) | (go_at_call 55; (with_reducible refine (calc_check.yes _ _).mono ?_); rintro e w' ⟨rfl, rfl⟩) | (go_at_call 55; (with_reducible refine (calc_check.no _ _).mono ?_); rintro e w' ⟨rfl, rfl⟩))
  refine at_world (fun w' => BI op u v b0 b1 b2 W w') (by repeat (first | exact HS.out | refine BI.drewN ?_ _ | refine BI.drew ?_)) (fun w1 hI => ?_)
  have HI := Aside0.mk hI
  clear hI hc0 ha0 ha1 ha2 hb0 hb1 hb2
  refine start_ (n := 7) (S := fun w' => w'.cell? ⟨b0, 0, none⟩ = some (.int .i64 op) ∧ w'.cell? ⟨b1, 0, none⟩ = some (.int .i64 u.f0) ∧ w'.cell? ⟨b1, 1, none⟩ = some (.int .i64 u.f1) ∧ w'.cell? ⟨b1, 2, none⟩ = some (.string u.f2) ∧ w'.cell? ⟨b2, 0, none⟩ = some (.int .i64 v.f0) ∧ w'.cell? ⟨b2, 1, none⟩ = some (.int .i64 v.f1) ∧ w'.cell? ⟨b2, 2, none⟩ = some (.string v.f2)) (ds := [6]) #[false, false, false, false, false, false, false] (by kernel_rfl) rfl rfl ⟨HI.out.o, HI.out.a0, HI.out.a1, HI.out.a2, HI.out.v0, HI.out.v1, HI.out.v2⟩ (fun hHeld => ?_)
  refine take_ (i := 0) (N := some 57) (v := ?_) (a' := ?_) #[true, false, false, false, false, false, false] rfl rfl (by kernel_rfl) (fun _ _ _ h => h) (Or.inl ⟨by rfl, ?_⟩) hHeld ?_ ?_
  rotate_left
  · rintro w' ⟨s0, s1, s2, s3, s4, s5, s6⟩
    go_simp
    with_reducible rfl
  rotate_left
  · simp only [Act.put, List.setIfInBounds_toArray, List.set_cons_zero, List.set_cons_succ, i64_w, i32_w]
    rfl
  refine take_ (i := 1) (N := some 58) (v := ?_) (a' := ?_) #[true, true, false, false, false, false, false] rfl rfl (by kernel_rfl) (fun _ _ _ h => h) (Or.inl ⟨by rfl, ?_⟩) hHeld ?_ ?_
  rotate_left
  · rintro w' ⟨s0, s1, s2, s3, s4, s5, s6⟩
    go_simp
    with_reducible rfl
  rotate_left
  · simp only [Act.put, List.setIfInBounds_toArray, List.set_cons_zero, List.set_cons_succ, i64_w, i32_w]
    rfl
  refine take_ (i := 2) (N := some 59) (v := ?_) (a' := ?_) #[true, true, true, false, false, false, false] rfl rfl (by kernel_rfl) (fun _ _ _ h => h) (Or.inl ⟨by rfl, ?_⟩) hHeld ?_ ?_
  rotate_left
  · rintro w' ⟨s0, s1, s2, s3, s4, s5, s6⟩
    go_simp
    with_reducible rfl
  rotate_left
  · simp only [Act.put, List.setIfInBounds_toArray, List.set_cons_zero, List.set_cons_succ, i64_w, i32_w]
    rfl
  refine pure_ (i := 3) (N := some 60) (v := ?_) (a' := ?_) #[true, true, true, true, false, false, false] rfl rfl (by kernel_rfl) (fun _ _ _ h => h) (Or.inl ⟨by rfl, ?_⟩) ?_ ?_
  rotate_left
  · intro w'
    go_simp
    with_reducible rfl
  rotate_left
  · simp only [Act.put, List.setIfInBounds_toArray, List.set_cons_zero, List.set_cons_succ, i64_w, i32_w]
    rfl
  refine one_ (i := 4) (N := some 61) #[true, true, true, true, true, false, false] rfl rfl (by kernel_rfl) (by decide) (fun K hK => ?_)
  refine goes_ Try.func58 (by kernel_rfl) rfl #[.bool (op == 3)] (by rfl) rfl rfl (by simp only [List.map_toArray, List.map_cons, List.map_nil]; rfl) ?_
  with_reducible refine (calc_truth.calls (op == 3) _ _ _ _ (truth_f (op == 3))).mono ?_
  rintro e w2 ⟨rfl, h2⟩
  refine ⟨_, rfl, ?_⟩
  have n0_ := Aside0.mk (BI.below HI.out.drew h2)
  clear h2 HI
  have HI := n0_
  clear n0_
  refine hK.out _ _ ⟨HI.out.o, HI.out.a0, HI.out.a1, HI.out.a2, HI.out.v0, HI.out.v1, HI.out.v2⟩ (fun hHeld => ?_)
  clear hK K
  refine norm_ (a' := ?_) ?_ ?_
  rotate_left
  · show Act.put _ (some 61) _ = _
    simp only [Act.put, List.setIfInBounds_toArray, List.set_cons_zero, List.set_cons_succ, i64_w, i32_w]
    rfl
  refine one_ (i := 5) (N := some 62) #[true, true, true, true, true, true, false] rfl rfl (by kernel_rfl) (by decide) (fun K hK => ?_)
  refine goes_ Try.func57 (by kernel_rfl) rfl #[.agg #[.int .i64 u.f0, .int .i64 u.f1, .string u.f2], .agg #[.int .i64 v.f0, .int .i64 v.f1, .string v.f2], .agg #[.int .i64 (truthV (op == 3)).f0, .int .i64 (truthV (op == 3)).f1, .string (truthV (op == 3)).f2]] (by rfl) rfl rfl (by simp only [List.map_toArray, List.map_cons, List.map_nil]; rfl) ?_
  with_reducible refine (logic_calls u v (truthV (op == 3)) _).mono ?_
  rintro e w2 ⟨rfl, h2⟩
  refine ⟨_, rfl, ?_⟩
  have n0_ := Aside0.mk (BI.below HI.out h2)
  clear h2 HI
  have HI := n0_
  clear n0_
  refine hK.out _ _ ⟨HI.out.o, HI.out.a0, HI.out.a1, HI.out.a2, HI.out.v0, HI.out.v1, HI.out.v2⟩ (fun hHeld => ?_)
  clear hK K
  refine norm_ (a' := ?_) ?_ ?_
  rotate_left
  · show Act.put _ (some 62) _ = _
    simp only [Act.put, List.setIfInBounds_toArray, List.set_cons_zero, List.set_cons_succ, i64_w, i32_w]
    rfl
  refine last_ (i := 6) (N := none) #[true, true, true, true, true, true, true] rfl rfl (by kernel_rfl) (by decide) (fun K hK => ?_)
  have gc0 : World.cell? _ ⟨W.heap.size, 0, none⟩ = some (.int .i64 0) := (blk_cell HI.out.2.2.2.1 0).trans rfl
  have gc1 : World.cell? _ ⟨W.heap.size, 1, none⟩ = some (.int .i64 0) := (blk_cell HI.out.2.2.2.1 1).trans rfl
  have gc2 : World.cell? _ ⟨W.heap.size, 2, none⟩ = some (.string (⟨#[]⟩ : ByteArray)) := (blk_cell HI.out.2.2.2.1 2).trans rfl
  have gf0 := blk_frozen HI.out.2.2.2.1 0
  have gf1 := blk_frozen HI.out.2.2.2.1 1
  have gf2 := blk_frozen HI.out.2.2.2.1 2
  refine skip_ (w1 := ?_) (by rfl) rfl ?_ ?_
  rotate_left
  · go_simp
    rfl
  refine hK.out _ _ ?_
  clear hK K
  refine done_ (by kernel_rfl) ?_
  go_wp2_with fail
  exact bodyPost_ret (v := encV (logicP u v (truthV (op == 3)))) (by simp [results, Try.results54, go_sem, encV, gc0, gc1, gc2]) rfl ⟨rfl, below_set3 HI.out.bel (Nat.le_refl W.heap.size) _ _ _ _ _ _⟩
set_option maxHeartbeats 2000000 in
set_option maxRecDepth 100000 in
theorem calc_Binary1.logic01 (op : Int) (u v : S32) (k : Int) (HK : Aside0 (calc_wants.f op = some k)) (b0 b1 b2 : Nat) (W : World) (h0 : W.heap[b0]? = some (.cells #[.int .i64 op] 3 (0, 0))) (h1 : W.heap[b1]? = some (.cells #[.int .i64 u.f0, .int .i64 u.f1, .string u.f2] 32 (0, 0))) (h2 : W.heap[b2]? = some (.cells #[.int .i64 v.f0, .int .i64 v.f1, .string v.f2] 32 (0, 0))) (l3 : 3 ≤ op) (l16 : op ≤ 16) (kn : ¬ k = 0) (l4 : op ≤ 4) (a0 : ¬ u.f0 = 0) (z0 : v.f0 = 0) (ak : u.f0 = k) :
    Calls Try.prog 54 #[.pointer (some ⟨b0, 0, none⟩), .pointer (some ⟨b1, 0, none⟩), .pointer (some ⟨b2, 0, none⟩)] W (fun e w' => RE (.ok (logicP u v (truthV (op == 3)))) e ∧ Below W.heap.size W w') := by
  have hu32 := Try.underlying32
  have n0 : ¬ b0 = W.heap.size := by have := blk_lt h0; omega
  have n1 : ¬ b1 = W.heap.size := by have := blk_lt h1; omega
  have n2 : ¬ b2 = W.heap.size := by have := blk_lt h2; omega
  have HS := Aside0.mk (BI.start h0 h1 h2)
  clear h0 h1 h2
  have hc0 := HS.out.o
  have ha0 := HS.out.a0
  have ha1 := HS.out.a1
  have ha2 := HS.out.a2
  have hb0 := HS.out.v0
  have hb1 := HS.out.v1
  have hb2 := HS.out.v2
  have q0 : decide (3 ≤ op) = true := decide_eq_true l3
  have q1 : decide (op ≤ 16) = true := decide_eq_true l16
  have q2 : (k != 0) = true := bne_iff_ne.mpr kn
  have q3 : decide (op ≤ 4) = true := decide_eq_true l4
  have q4 : (u.f0 == 0) = false := beq_eq_false_iff_ne.mpr a0
  have q5 : (v.f0 == 0) = true := beq_iff_eq.mpr z0
  have q6 : (u.f0 == k) = true := beq_iff_eq.mpr ak
  have q7 : (v.f0 == k) = false := beq_eq_false_iff_ne.mpr (fun h => kn (h.symm.trans z0))
  have l3' := Aside0.mk l3
  have l16' := Aside0.mk l16
  have kn' := Aside0.mk kn
  have l4' := Aside0.mk l4
  have a0' := Aside0.mk a0
  have z0' := Aside0.mk z0
  have ak' := Aside0.mk ak
  clear l3 l16 kn l4 a0 z0 ak
  go_enter Try.func54, Try.ntmps54
  go_wp2_with (first | (go_at_call 56; (with_reducible refine (calc_wants.calls op k _ HK.out).mono ?_); rintro e w' ⟨rfl, ⟨nd, rfl⟩⟩) | (go_at_call 55; (with_reducible refine (calc_check.yes _ _).mono ?_); rintro e w' ⟨rfl, rfl⟩) | (go_at_call 55; (with_reducible refine (calc_check.no _ _).mono ?_); rintro e w' ⟨rfl, rfl⟩))
  refine at_world (fun w' => BI op u v b0 b1 b2 W w') (by repeat (first | exact HS.out | refine BI.drewN ?_ _ | refine BI.drew ?_)) (fun w1 hI => ?_)
  have HI := Aside0.mk hI
  clear hI hc0 ha0 ha1 ha2 hb0 hb1 hb2
  refine start_ (n := 7) (S := fun w' => w'.cell? ⟨b0, 0, none⟩ = some (.int .i64 op) ∧ w'.cell? ⟨b1, 0, none⟩ = some (.int .i64 u.f0) ∧ w'.cell? ⟨b1, 1, none⟩ = some (.int .i64 u.f1) ∧ w'.cell? ⟨b1, 2, none⟩ = some (.string u.f2) ∧ w'.cell? ⟨b2, 0, none⟩ = some (.int .i64 v.f0) ∧ w'.cell? ⟨b2, 1, none⟩ = some (.int .i64 v.f1) ∧ w'.cell? ⟨b2, 2, none⟩ = some (.string v.f2)) (ds := [6]) #[false, false, false, false, false, false, false] (by kernel_rfl) rfl rfl ⟨HI.out.o, HI.out.a0, HI.out.a1, HI.out.a2, HI.out.v0, HI.out.v1, HI.out.v2⟩ (fun hHeld => ?_)
  refine take_ (i := 0) (N := some 57) (v := ?_) (a' := ?_) #[true, false, false, false, false, false, false] rfl rfl (by kernel_rfl) (fun _ _ _ h => h) (Or.inl ⟨by rfl, ?_⟩) hHeld ?_ ?_
  rotate_left
  · rintro w' ⟨s0, s1, s2, s3, s4, s5, s6⟩
    go_simp
    with_reducible rfl
  rotate_left
  · simp only [Act.put, List.setIfInBounds_toArray, List.set_cons_zero, List.set_cons_succ, i64_w, i32_w]
    rfl
  refine take_ (i := 1) (N := some 58) (v := ?_) (a' := ?_) #[true, true, false, false, false, false, false] rfl rfl (by kernel_rfl) (fun _ _ _ h => h) (Or.inl ⟨by rfl, ?_⟩) hHeld ?_ ?_
  rotate_left
  · rintro w' ⟨s0, s1, s2, s3, s4, s5, s6⟩
    go_simp
    with_reducible rfl
  rotate_left
  · simp only [Act.put, List.setIfInBounds_toArray, List.set_cons_zero, List.set_cons_succ, i64_w, i32_w]
    rfl
  refine take_ (i := 2) (N := some 59) (v := ?_) (a' := ?_) #[true, true, true, false, false, false, false] rfl rfl (by kernel_rfl) (fun _ _ _ h => h) (Or.inl ⟨by rfl, ?_⟩) hHeld ?_ ?_
  rotate_left
  · rintro w' ⟨s0, s1, s2, s3, s4, s5, s6⟩
    go_simp
    with_reducible rfl
  rotate_left
  · simp only [Act.put, List.setIfInBounds_toArray, List.set_cons_zero, List.set_cons_succ, i64_w, i32_w]
    rfl
  refine pure_ (i := 3) (N := some 60) (v := ?_) (a' := ?_) #[true, true, true, true, false, false, false] rfl rfl (by kernel_rfl) (fun _ _ _ h => h) (Or.inl ⟨by rfl, ?_⟩) ?_ ?_
  rotate_left
  · intro w'
    go_simp
    with_reducible rfl
  rotate_left
  · simp only [Act.put, List.setIfInBounds_toArray, List.set_cons_zero, List.set_cons_succ, i64_w, i32_w]
    rfl
  refine one_ (i := 4) (N := some 61) #[true, true, true, true, true, false, false] rfl rfl (by kernel_rfl) (by decide) (fun K hK => ?_)
  refine goes_ Try.func58 (by kernel_rfl) rfl #[.bool (op == 3)] (by rfl) rfl rfl (by simp only [List.map_toArray, List.map_cons, List.map_nil]; rfl) ?_
  with_reducible refine (calc_truth.calls (op == 3) _ _ _ _ (truth_f (op == 3))).mono ?_
  rintro e w2 ⟨rfl, h2⟩
  refine ⟨_, rfl, ?_⟩
  have n0_ := Aside0.mk (BI.below HI.out.drew h2)
  clear h2 HI
  have HI := n0_
  clear n0_
  refine hK.out _ _ ⟨HI.out.o, HI.out.a0, HI.out.a1, HI.out.a2, HI.out.v0, HI.out.v1, HI.out.v2⟩ (fun hHeld => ?_)
  clear hK K
  refine norm_ (a' := ?_) ?_ ?_
  rotate_left
  · show Act.put _ (some 61) _ = _
    simp only [Act.put, List.setIfInBounds_toArray, List.set_cons_zero, List.set_cons_succ, i64_w, i32_w]
    rfl
  refine one_ (i := 5) (N := some 62) #[true, true, true, true, true, true, false] rfl rfl (by kernel_rfl) (by decide) (fun K hK => ?_)
  refine goes_ Try.func57 (by kernel_rfl) rfl #[.agg #[.int .i64 u.f0, .int .i64 u.f1, .string u.f2], .agg #[.int .i64 v.f0, .int .i64 v.f1, .string v.f2], .agg #[.int .i64 (truthV (op == 3)).f0, .int .i64 (truthV (op == 3)).f1, .string (truthV (op == 3)).f2]] (by rfl) rfl rfl (by simp only [List.map_toArray, List.map_cons, List.map_nil]; rfl) ?_
  with_reducible refine (logic_calls u v (truthV (op == 3)) _).mono ?_
  rintro e w2 ⟨rfl, h2⟩
  refine ⟨_, rfl, ?_⟩
  have n0_ := Aside0.mk (BI.below HI.out h2)
  clear h2 HI
  have HI := n0_
  clear n0_
  refine hK.out _ _ ⟨HI.out.o, HI.out.a0, HI.out.a1, HI.out.a2, HI.out.v0, HI.out.v1, HI.out.v2⟩ (fun hHeld => ?_)
  clear hK K
  refine norm_ (a' := ?_) ?_ ?_
  rotate_left
  · show Act.put _ (some 62) _ = _
    simp only [Act.put, List.setIfInBounds_toArray, List.set_cons_zero, List.set_cons_succ, i64_w, i32_w]
    rfl
  refine last_ (i := 6) (N := none) #[true, true, true, true, true, true, true] rfl rfl (by kernel_rfl) (by decide) (fun K hK => ?_)
  have gc0 : World.cell? _ ⟨W.heap.size, 0, none⟩ = some (.int .i64 0) := (blk_cell HI.out.2.2.2.1 0).trans rfl
  have gc1 : World.cell? _ ⟨W.heap.size, 1, none⟩ = some (.int .i64 0) := (blk_cell HI.out.2.2.2.1 1).trans rfl
  have gc2 : World.cell? _ ⟨W.heap.size, 2, none⟩ = some (.string (⟨#[]⟩ : ByteArray)) := (blk_cell HI.out.2.2.2.1 2).trans rfl
  have gf0 := blk_frozen HI.out.2.2.2.1 0
  have gf1 := blk_frozen HI.out.2.2.2.1 1
  have gf2 := blk_frozen HI.out.2.2.2.1 2
  refine skip_ (w1 := ?_) (by rfl) rfl ?_ ?_
  rotate_left
  · go_simp
    rfl
  refine hK.out _ _ ?_
  clear hK K
  refine done_ (by kernel_rfl) ?_
  go_wp2_with fail
  exact bodyPost_ret (v := encV (logicP u v (truthV (op == 3)))) (by simp [results, Try.results54, go_sem, encV, gc0, gc1, gc2]) rfl ⟨rfl, below_set3 HI.out.bel (Nat.le_refl W.heap.size) _ _ _ _ _ _⟩
set_option maxHeartbeats 2000000 in
set_option maxRecDepth 100000 in
theorem calc_Binary1.logic00 (op : Int) (u v : S32) (k : Int) (HK : Aside0 (calc_wants.f op = some k)) (b0 b1 b2 : Nat) (W : World) (h0 : W.heap[b0]? = some (.cells #[.int .i64 op] 3 (0, 0))) (h1 : W.heap[b1]? = some (.cells #[.int .i64 u.f0, .int .i64 u.f1, .string u.f2] 32 (0, 0))) (h2 : W.heap[b2]? = some (.cells #[.int .i64 v.f0, .int .i64 v.f1, .string v.f2] 32 (0, 0))) (l3 : 3 ≤ op) (l16 : op ≤ 16) (kn : ¬ k = 0) (l4 : op ≤ 4) (a0 : ¬ u.f0 = 0) (z0 : ¬ v.f0 = 0) (ak : u.f0 = k) (zk : v.f0 = k) :
    Calls Try.prog 54 #[.pointer (some ⟨b0, 0, none⟩), .pointer (some ⟨b1, 0, none⟩), .pointer (some ⟨b2, 0, none⟩)] W (fun e w' => RE (.ok (logicP u v (truthV (op == 3)))) e ∧ Below W.heap.size W w') := by
  have hu32 := Try.underlying32
  have n0 : ¬ b0 = W.heap.size := by have := blk_lt h0; omega
  have n1 : ¬ b1 = W.heap.size := by have := blk_lt h1; omega
  have n2 : ¬ b2 = W.heap.size := by have := blk_lt h2; omega
  have HS := Aside0.mk (BI.start h0 h1 h2)
  clear h0 h1 h2
  have hc0 := HS.out.o
  have ha0 := HS.out.a0
  have ha1 := HS.out.a1
  have ha2 := HS.out.a2
  have hb0 := HS.out.v0
  have hb1 := HS.out.v1
  have hb2 := HS.out.v2
  have q0 : decide (3 ≤ op) = true := decide_eq_true l3
  have q1 : decide (op ≤ 16) = true := decide_eq_true l16
  have q2 : (k != 0) = true := bne_iff_ne.mpr kn
  have q3 : decide (op ≤ 4) = true := decide_eq_true l4
  have q4 : (u.f0 == 0) = false := beq_eq_false_iff_ne.mpr a0
  have q5 : (v.f0 == 0) = false := beq_eq_false_iff_ne.mpr z0
  have q6 : (u.f0 == k) = true := beq_iff_eq.mpr ak
  have q7 : (v.f0 == k) = true := beq_iff_eq.mpr zk
  have l3' := Aside0.mk l3
  have l16' := Aside0.mk l16
  have kn' := Aside0.mk kn
  have l4' := Aside0.mk l4
  have a0' := Aside0.mk a0
  have z0' := Aside0.mk z0
  have ak' := Aside0.mk ak
  have zk' := Aside0.mk zk
  clear l3 l16 kn l4 a0 z0 ak zk
  go_enter Try.func54, Try.ntmps54
  go_wp2_with (first | (go_at_call 56; (with_reducible refine (calc_wants.calls op k _ HK.out).mono ?_); rintro e w' ⟨rfl, ⟨nd, rfl⟩⟩) | (go_at_call 55; (with_reducible refine (calc_check.yes _ _).mono ?_); rintro e w' ⟨rfl, rfl⟩) | (go_at_call 55; (with_reducible refine (calc_check.no _ _).mono ?_); rintro e w' ⟨rfl, rfl⟩))
  refine at_world (fun w' => BI op u v b0 b1 b2 W w') (by repeat (first | exact HS.out | refine BI.drewN ?_ _ | refine BI.drew ?_)) (fun w1 hI => ?_)
  have HI := Aside0.mk hI
  clear hI hc0 ha0 ha1 ha2 hb0 hb1 hb2
  refine start_ (n := 7) (S := fun w' => w'.cell? ⟨b0, 0, none⟩ = some (.int .i64 op) ∧ w'.cell? ⟨b1, 0, none⟩ = some (.int .i64 u.f0) ∧ w'.cell? ⟨b1, 1, none⟩ = some (.int .i64 u.f1) ∧ w'.cell? ⟨b1, 2, none⟩ = some (.string u.f2) ∧ w'.cell? ⟨b2, 0, none⟩ = some (.int .i64 v.f0) ∧ w'.cell? ⟨b2, 1, none⟩ = some (.int .i64 v.f1) ∧ w'.cell? ⟨b2, 2, none⟩ = some (.string v.f2)) (ds := [6]) #[false, false, false, false, false, false, false] (by kernel_rfl) rfl rfl ⟨HI.out.o, HI.out.a0, HI.out.a1, HI.out.a2, HI.out.v0, HI.out.v1, HI.out.v2⟩ (fun hHeld => ?_)
  refine take_ (i := 0) (N := some 57) (v := ?_) (a' := ?_) #[true, false, false, false, false, false, false] rfl rfl (by kernel_rfl) (fun _ _ _ h => h) (Or.inl ⟨by rfl, ?_⟩) hHeld ?_ ?_
  rotate_left
  · rintro w' ⟨s0, s1, s2, s3, s4, s5, s6⟩
    go_simp
    with_reducible rfl
  rotate_left
  · simp only [Act.put, List.setIfInBounds_toArray, List.set_cons_zero, List.set_cons_succ, i64_w, i32_w]
    rfl
  refine take_ (i := 1) (N := some 58) (v := ?_) (a' := ?_) #[true, true, false, false, false, false, false] rfl rfl (by kernel_rfl) (fun _ _ _ h => h) (Or.inl ⟨by rfl, ?_⟩) hHeld ?_ ?_
  rotate_left
  · rintro w' ⟨s0, s1, s2, s3, s4, s5, s6⟩
    go_simp
    with_reducible rfl
  rotate_left
  · simp only [Act.put, List.setIfInBounds_toArray, List.set_cons_zero, List.set_cons_succ, i64_w, i32_w]
    rfl
  refine take_ (i := 2) (N := some 59) (v := ?_) (a' := ?_) #[true, true, true, false, false, false, false] rfl rfl (by kernel_rfl) (fun _ _ _ h => h) (Or.inl ⟨by rfl, ?_⟩) hHeld ?_ ?_
  rotate_left
  · rintro w' ⟨s0, s1, s2, s3, s4, s5, s6⟩
    go_simp
    with_reducible rfl
  rotate_left
  · simp only [Act.put, List.setIfInBounds_toArray, List.set_cons_zero, List.set_cons_succ, i64_w, i32_w]
    rfl
  refine pure_ (i := 3) (N := some 60) (v := ?_) (a' := ?_) #[true, true, true, true, false, false, false] rfl rfl (by kernel_rfl) (fun _ _ _ h => h) (Or.inl ⟨by rfl, ?_⟩) ?_ ?_
  rotate_left
  · intro w'
    go_simp
    with_reducible rfl
  rotate_left
  · simp only [Act.put, List.setIfInBounds_toArray, List.set_cons_zero, List.set_cons_succ, i64_w, i32_w]
    rfl
  refine one_ (i := 4) (N := some 61) #[true, true, true, true, true, false, false] rfl rfl (by kernel_rfl) (by decide) (fun K hK => ?_)
  refine goes_ Try.func58 (by kernel_rfl) rfl #[.bool (op == 3)] (by rfl) rfl rfl (by simp only [List.map_toArray, List.map_cons, List.map_nil]; rfl) ?_
  with_reducible refine (calc_truth.calls (op == 3) _ _ _ _ (truth_f (op == 3))).mono ?_
  rintro e w2 ⟨rfl, h2⟩
  refine ⟨_, rfl, ?_⟩
  have n0_ := Aside0.mk (BI.below HI.out.drew h2)
  clear h2 HI
  have HI := n0_
  clear n0_
  refine hK.out _ _ ⟨HI.out.o, HI.out.a0, HI.out.a1, HI.out.a2, HI.out.v0, HI.out.v1, HI.out.v2⟩ (fun hHeld => ?_)
  clear hK K
  refine norm_ (a' := ?_) ?_ ?_
  rotate_left
  · show Act.put _ (some 61) _ = _
    simp only [Act.put, List.setIfInBounds_toArray, List.set_cons_zero, List.set_cons_succ, i64_w, i32_w]
    rfl
  refine one_ (i := 5) (N := some 62) #[true, true, true, true, true, true, false] rfl rfl (by kernel_rfl) (by decide) (fun K hK => ?_)
  refine goes_ Try.func57 (by kernel_rfl) rfl #[.agg #[.int .i64 u.f0, .int .i64 u.f1, .string u.f2], .agg #[.int .i64 v.f0, .int .i64 v.f1, .string v.f2], .agg #[.int .i64 (truthV (op == 3)).f0, .int .i64 (truthV (op == 3)).f1, .string (truthV (op == 3)).f2]] (by rfl) rfl rfl (by simp only [List.map_toArray, List.map_cons, List.map_nil]; rfl) ?_
  with_reducible refine (logic_calls u v (truthV (op == 3)) _).mono ?_
  rintro e w2 ⟨rfl, h2⟩
  refine ⟨_, rfl, ?_⟩
  have n0_ := Aside0.mk (BI.below HI.out h2)
  clear h2 HI
  have HI := n0_
  clear n0_
  refine hK.out _ _ ⟨HI.out.o, HI.out.a0, HI.out.a1, HI.out.a2, HI.out.v0, HI.out.v1, HI.out.v2⟩ (fun hHeld => ?_)
  clear hK K
  refine norm_ (a' := ?_) ?_ ?_
  rotate_left
  · show Act.put _ (some 62) _ = _
    simp only [Act.put, List.setIfInBounds_toArray, List.set_cons_zero, List.set_cons_succ, i64_w, i32_w]
    rfl
  refine last_ (i := 6) (N := none) #[true, true, true, true, true, true, true] rfl rfl (by kernel_rfl) (by decide) (fun K hK => ?_)
  have gc0 : World.cell? _ ⟨W.heap.size, 0, none⟩ = some (.int .i64 0) := (blk_cell HI.out.2.2.2.1 0).trans rfl
  have gc1 : World.cell? _ ⟨W.heap.size, 1, none⟩ = some (.int .i64 0) := (blk_cell HI.out.2.2.2.1 1).trans rfl
  have gc2 : World.cell? _ ⟨W.heap.size, 2, none⟩ = some (.string (⟨#[]⟩ : ByteArray)) := (blk_cell HI.out.2.2.2.1 2).trans rfl
  have gf0 := blk_frozen HI.out.2.2.2.1 0
  have gf1 := blk_frozen HI.out.2.2.2.1 1
  have gf2 := blk_frozen HI.out.2.2.2.1 2
  refine skip_ (w1 := ?_) (by rfl) rfl ?_ ?_
  rotate_left
  · go_simp
    rfl
  refine hK.out _ _ ?_
  clear hK K
  refine done_ (by kernel_rfl) ?_
  go_wp2_with fail
  exact bodyPost_ret (v := encV (logicP u v (truthV (op == 3)))) (by simp [results, Try.results54, go_sem, encV, gc0, gc1, gc2]) rfl ⟨rfl, below_set3 HI.out.bel (Nat.le_refl W.heap.size) _ _ _ _ _ _⟩
set_option maxHeartbeats 2000000 in
set_option maxRecDepth 100000 in
theorem calc_Binary1.cmp (op : Int) (u v : S32) (k : Int) (HK : Aside0 (calc_wants.f op = some k)) (b0 b1 b2 : Nat) (W : World) (h0 : W.heap[b0]? = some (.cells #[.int .i64 op] 3 (0, 0))) (h1 : W.heap[b1]? = some (.cells #[.int .i64 u.f0, .int .i64 u.f1, .string u.f2] 32 (0, 0))) (h2 : W.heap[b2]? = some (.cells #[.int .i64 v.f0, .int .i64 v.f1, .string v.f2] 32 (0, 0))) (l3 : 3 ≤ op) (l16 : op ≤ 16) (kz : k = 0) (l4 : ¬ op ≤ 4) (l10 : op ≤ 10) (a0 : ¬ u.f0 = 0) (z0 : ¬ v.f0 = 0) (uv : u.f0 = v.f0) :
    Calls Try.prog 54 #[.pointer (some ⟨b0, 0, none⟩), .pointer (some ⟨b1, 0, none⟩), .pointer (some ⟨b2, 0, none⟩)] W (fun e w' => RE (.ok (truthV (holdsP op (cmpV u v)))) e ∧ Below W.heap.size W w') := by
  have hu32 := Try.underlying32
  have n0 : ¬ b0 = W.heap.size := by have := blk_lt h0; omega
  have n1 : ¬ b1 = W.heap.size := by have := blk_lt h1; omega
  have n2 : ¬ b2 = W.heap.size := by have := blk_lt h2; omega
  have HS := Aside0.mk (BI.start h0 h1 h2)
  clear h0 h1 h2
  have hc0 := HS.out.o
  have ha0 := HS.out.a0
  have ha1 := HS.out.a1
  have ha2 := HS.out.a2
  have hb0 := HS.out.v0
  have hb1 := HS.out.v1
  have hb2 := HS.out.v2
  have q0 : decide (3 ≤ op) = true := decide_eq_true l3
  have q1 : decide (op ≤ 16) = true := decide_eq_true l16
  have q2 : (k != 0) = false := bne_eq_false_iff_eq.mpr kz
  have q3 : decide (op ≤ 4) = false := decide_eq_false l4
  have q4 : decide (op ≤ 10) = true := decide_eq_true l10
  have q5 : (u.f0 == 0) = false := beq_eq_false_iff_ne.mpr a0
  have q6 : (v.f0 == 0) = false := beq_eq_false_iff_ne.mpr z0
  have q7 : (u.f0 == v.f0) = true := beq_iff_eq.mpr uv
  have l3' := Aside0.mk l3
  have l16' := Aside0.mk l16
  have kz' := Aside0.mk kz
  have l4' := Aside0.mk l4
  have l10' := Aside0.mk l10
  have a0' := Aside0.mk a0
  have z0' := Aside0.mk z0
  have uv' := Aside0.mk uv
  clear l3 l16 kz l4 l10 a0 z0 uv
  go_enter Try.func54, Try.ntmps54
  go_wp2_with (first | (go_at_call 56; (with_reducible refine (calc_wants.calls op k _ HK.out).mono ?_); rintro e w' ⟨rfl, ⟨nd, rfl⟩⟩) | (go_at_call 55; (with_reducible refine (calc_check.yes _ _).mono ?_); rintro e w' ⟨rfl, rfl⟩) | (go_at_call 55; (with_reducible refine (calc_check.no _ _).mono ?_); rintro e w' ⟨rfl, rfl⟩))
  refine at_world (fun w' => BI op u v b0 b1 b2 W w') (by repeat (first | exact HS.out | refine BI.drewN ?_ _ | refine BI.drew ?_)) (fun w1 hI => ?_)
  have HI := Aside0.mk hI
  clear hI hc0 ha0 ha1 ha2 hb0 hb1 hb2
  refine start_ (n := 7) (S := fun w' => w'.cell? ⟨b0, 0, none⟩ = some (.int .i64 op) ∧ w'.cell? ⟨b1, 0, none⟩ = some (.int .i64 u.f0) ∧ w'.cell? ⟨b1, 1, none⟩ = some (.int .i64 u.f1) ∧ w'.cell? ⟨b1, 2, none⟩ = some (.string u.f2) ∧ w'.cell? ⟨b2, 0, none⟩ = some (.int .i64 v.f0) ∧ w'.cell? ⟨b2, 1, none⟩ = some (.int .i64 v.f1) ∧ w'.cell? ⟨b2, 2, none⟩ = some (.string v.f2)) (ds := [6]) #[false, false, false, false, false, false, false] (by kernel_rfl) rfl rfl ⟨HI.out.o, HI.out.a0, HI.out.a1, HI.out.a2, HI.out.v0, HI.out.v1, HI.out.v2⟩ (fun hHeld => ?_)
  refine take_ (i := 0) (N := some 69) (v := ?_) (a' := ?_) #[true, false, false, false, false, false, false] rfl rfl (by kernel_rfl) (fun _ _ _ h => h) (Or.inl ⟨by rfl, ?_⟩) hHeld ?_ ?_
  rotate_left
  · rintro w' ⟨s0, s1, s2, s3, s4, s5, s6⟩
    go_simp
    with_reducible rfl
  rotate_left
  · simp only [Act.put, List.setIfInBounds_toArray, List.set_cons_zero, List.set_cons_succ, i64_w, i32_w]
    rfl
  refine take_ (i := 1) (N := some 70) (v := ?_) (a' := ?_) #[true, true, false, false, false, false, false] rfl rfl (by kernel_rfl) (fun _ _ _ h => h) (Or.inl ⟨by rfl, ?_⟩) hHeld ?_ ?_
  rotate_left
  · rintro w' ⟨s0, s1, s2, s3, s4, s5, s6⟩
    go_simp
    with_reducible rfl
  rotate_left
  · simp only [Act.put, List.setIfInBounds_toArray, List.set_cons_zero, List.set_cons_succ, i64_w, i32_w]
    rfl
  refine take_ (i := 2) (N := some 71) (v := ?_) (a' := ?_) #[true, true, true, false, false, false, false] rfl rfl (by kernel_rfl) (fun _ _ _ h => h) (Or.inl ⟨by rfl, ?_⟩) hHeld ?_ ?_
  rotate_left
  · rintro w' ⟨s0, s1, s2, s3, s4, s5, s6⟩
    go_simp
    with_reducible rfl
  rotate_left
  · simp only [Act.put, List.setIfInBounds_toArray, List.set_cons_zero, List.set_cons_succ, i64_w, i32_w]
    rfl
  refine one_ (i := 3) (N := some 72) #[true, true, true, true, false, false, false] rfl rfl (by kernel_rfl) (by decide) (fun K hK => ?_)
  refine goes_ Try.func60 (by kernel_rfl) rfl #[.agg #[.int .i64 u.f0, .int .i64 u.f1, .string u.f2], .agg #[.int .i64 v.f0, .int .i64 v.f1, .string v.f2]] (by rfl) rfl rfl (by simp only [List.map_toArray, List.map_cons, List.map_nil]; rfl) ?_
  with_reducible refine (compare_calls u v _).mono ?_
  rintro e w2 ⟨rfl, h2⟩
  refine ⟨_, rfl, ?_⟩
  have n0_ := Aside0.mk (BI.below HI.out.drew h2)
  clear h2 HI
  have HI := n0_
  clear n0_
  refine hK.out _ _ ⟨HI.out.o, HI.out.a0, HI.out.a1, HI.out.a2, HI.out.v0, HI.out.v1, HI.out.v2⟩ (fun hHeld => ?_)
  clear hK K
  refine norm_ (a' := ?_) ?_ ?_
  rotate_left
  · show Act.put _ (some 72) _ = _
    simp only [Act.put, List.setIfInBounds_toArray, List.set_cons_zero, List.set_cons_succ, i64_w, i32_w]
    rfl
  refine one_ (i := 4) (N := some 73) #[true, true, true, true, true, false, false] rfl rfl (by kernel_rfl) (by decide) (fun K hK => ?_)
  refine goes_ Try.func59 (by kernel_rfl) rfl #[.int .i64 op, .int .i64 (cmpV u v)] (by rfl) rfl rfl (by simp only [List.map_toArray, List.map_cons, List.map_nil]; rfl) ?_
  with_reducible refine (calc_compared.calls op (cmpV u v) _ _ (holds_f op (cmpV u v))).mono ?_
  rintro e w2 ⟨rfl, ⟨nd3, rfl⟩⟩
  refine ⟨_, rfl, ?_⟩
  have n0_ := Aside0.mk (BI.drewN HI.out nd3)
  clear HI
  have HI := n0_
  clear n0_
  refine hK.out _ _ ⟨HI.out.o, HI.out.a0, HI.out.a1, HI.out.a2, HI.out.v0, HI.out.v1, HI.out.v2⟩ (fun hHeld => ?_)
  clear hK K
  refine norm_ (a' := ?_) ?_ ?_
  rotate_left
  · show Act.put _ (some 73) _ = _
    simp only [Act.put, List.setIfInBounds_toArray, List.set_cons_zero, List.set_cons_succ, i64_w, i32_w]
    rfl
  refine one_ (i := 5) (N := some 74) #[true, true, true, true, true, true, false] rfl rfl (by kernel_rfl) (by decide) (fun K hK => ?_)
  refine goes_ Try.func58 (by kernel_rfl) rfl #[.bool (holdsP op (cmpV u v))] (by rfl) rfl rfl (by simp only [List.map_toArray, List.map_cons, List.map_nil]; rfl) ?_
  with_reducible refine (calc_truth.calls (holdsP op (cmpV u v)) _ _ _ _ (truth_f (holdsP op (cmpV u v)))).mono ?_
  rintro e w2 ⟨rfl, h2⟩
  refine ⟨_, rfl, ?_⟩
  have n0_ := Aside0.mk (BI.below HI.out h2)
  clear h2 HI
  have HI := n0_
  clear n0_
  refine hK.out _ _ ⟨HI.out.o, HI.out.a0, HI.out.a1, HI.out.a2, HI.out.v0, HI.out.v1, HI.out.v2⟩ (fun hHeld => ?_)
  clear hK K
  refine norm_ (a' := ?_) ?_ ?_
  rotate_left
  · show Act.put _ (some 74) _ = _
    simp only [Act.put, List.setIfInBounds_toArray, List.set_cons_zero, List.set_cons_succ, i64_w, i32_w]
    rfl
  refine last_ (i := 6) (N := none) #[true, true, true, true, true, true, true] rfl rfl (by kernel_rfl) (by decide) (fun K hK => ?_)
  have gc0 : World.cell? _ ⟨W.heap.size, 0, none⟩ = some (.int .i64 0) := (blk_cell HI.out.2.2.2.1 0).trans rfl
  have gc1 : World.cell? _ ⟨W.heap.size, 1, none⟩ = some (.int .i64 0) := (blk_cell HI.out.2.2.2.1 1).trans rfl
  have gc2 : World.cell? _ ⟨W.heap.size, 2, none⟩ = some (.string (⟨#[]⟩ : ByteArray)) := (blk_cell HI.out.2.2.2.1 2).trans rfl
  have gf0 := blk_frozen HI.out.2.2.2.1 0
  have gf1 := blk_frozen HI.out.2.2.2.1 1
  have gf2 := blk_frozen HI.out.2.2.2.1 2
  refine skip_ (w1 := ?_) (by rfl) rfl ?_ ?_
  rotate_left
  · go_simp
    rfl
  refine hK.out _ _ ?_
  clear hK K
  refine done_ (by kernel_rfl) ?_
  go_wp2_with fail
  exact bodyPost_ret (v := encV (truthV (holdsP op (cmpV u v)))) (by simp [results, Try.results54, go_sem, encV, gc0, gc1, gc2]) rfl ⟨rfl, below_set3 HI.out.bel (Nat.le_refl W.heap.size) _ _ _ _ _ _⟩
end Go.Proofs.Ytgjfciohmgpohaa.P
end
section
namespace Go.Proofs.Ytgjfciohmgpohaa.P
open Go.RowKit Go.Proofs.Ytgjfciohmgpohaa.Pure Go.Proofs.YtgjfciohmgpohaaW.PrintWords Go.Proofs.YtgjfciohmgpohaaW.PrintLast Go.Proofs.YtgjfciohmgpohaaW.PrintMore
attribute [local go_sem] max2_int min2_int max_two min_two max_three min_three max_four min_four
set_option linter.unusedVariables false
set_option linter.unusedSimpArgs false
theorem wants_zero {op : Int} (h : wantsP op = 0) : ¬ op ≤ 4 ∧ op ≤ 10 := by
  unfold wantsP at h
  by_cases h4 : op ≤ 4
  · rw [if_pos h4] at h; omega
  · rw [if_neg h4] at h
    by_cases h10 : op ≤ 10
    · exact ⟨h4, h10⟩
    · rw [if_neg h10] at h
      by_cases h16 : op = 16
      · rw [if_pos h16] at h; omega
      · rw [if_neg h16] at h; omega
theorem wants_not {op : Int} (h : ¬ wantsP op = 0) (h4 : ¬ op ≤ 4) : ¬ op ≤ 10 := by
  intro h10
  unfold wantsP at h
  rw [if_neg h4, if_pos h10] at h
  exact h rfl
theorem calc_Binary1.calls (op : Int) (u v : S32) (hu : In64 u.f1) (hv : In64 v.f1) (hz : u.f2.size + v.f2.size < 9223372036854775808) (b0 b1 b2 : Nat) (W : World) (h0 : W.heap[b0]? = some (.cells #[.int .i64 op] 3 (0, 0))) (h1 : W.heap[b1]? = some (.cells #[.int .i64 u.f0, .int .i64 u.f1, .string u.f2] 32 (0, 0))) (h2 : W.heap[b2]? = some (.cells #[.int .i64 v.f0, .int .i64 v.f1, .string v.f2] 32 (0, 0))) :
    Calls Try.prog 54 #[.pointer (some ⟨b0, 0, none⟩), .pointer (some ⟨b1, 0, none⟩), .pointer (some ⟨b2, 0, none⟩)] W (fun e w' => RE (bin op u v) e ∧ Below W.heap.size W w') := by
  have HK : Aside0 (calc_wants.f op = some (wantsP op)) := ⟨wants_f op⟩
  unfold bin
  by_cases l3 : 3 ≤ op
  · by_cases l16 : op ≤ 16
    · rw [if_neg (fun h => h ⟨l3, l16⟩)]
      by_cases kz : wantsP op = 0
      · obtain ⟨l4, l10⟩ := wants_zero kz
        have hk : kindsP op u.f0 v.f0 = (u.f0 = 0 ∨ v.f0 = 0 ∨ u.f0 = v.f0) := by unfold kindsP; rw [if_neg (fun h => h kz)]
        by_cases a0 : u.f0 = 0
        · rw [if_neg (by rw [hk]; exact fun h => h (.inl a0)), if_neg l4, if_pos (.inl a0)]
          exact calc_Binary1.nullA op u v _ HK b0 b1 b2 W h0 h1 h2 l3 l16 kz l4 a0
        by_cases z0 : v.f0 = 0
        · rw [if_neg (by rw [hk]; exact fun h => h (.inr (.inl z0))), if_neg l4, if_pos (.inr z0)]
          exact calc_Binary1.nullB op u v _ HK b0 b1 b2 W h0 h1 h2 l3 l16 kz l4 a0 z0
        by_cases uv : u.f0 = v.f0
        · rw [if_neg (by rw [hk]; exact fun h => h (.inr (.inr uv))), if_neg l4, if_neg (fun h => h.elim a0 z0), if_pos l10]
          exact calc_Binary1.cmp op u v _ HK b0 b1 b2 W h0 h1 h2 l3 l16 kz l4 l10 a0 z0 uv
        · rw [if_pos (by rw [hk]; exact fun h => h.elim a0 (fun h => h.elim z0 uv))]
          exact calc_Binary1.kindC op u v _ HK b0 b1 b2 W h0 h1 h2 l3 l16 kz a0 z0 uv
      · have hk : kindsP op u.f0 v.f0 = ((u.f0 = wantsP op ∨ u.f0 = 0) ∧ (v.f0 = wantsP op ∨ v.f0 = 0)) := by unfold kindsP; rw [if_pos kz]
        by_cases ak : u.f0 = wantsP op ∨ u.f0 = 0
        · by_cases zk : v.f0 = wantsP op ∨ v.f0 = 0
          · rw [if_neg (by rw [hk]; exact fun h => h ⟨ak, zk⟩)]
            by_cases l4 : op ≤ 4
            · rw [if_pos l4]
              by_cases a0 : u.f0 = 0 <;> by_cases z0 : v.f0 = 0
              · exact calc_Binary1.logic11 op u v _ HK b0 b1 b2 W h0 h1 h2 l3 l16 kz l4 a0 z0
              · exact calc_Binary1.logic10 op u v _ HK b0 b1 b2 W h0 h1 h2 l3 l16 kz l4 a0 z0 (zk.resolve_right z0)
              · exact calc_Binary1.logic01 op u v _ HK b0 b1 b2 W h0 h1 h2 l3 l16 kz l4 a0 z0 (ak.resolve_right a0)
              · exact calc_Binary1.logic00 op u v _ HK b0 b1 b2 W h0 h1 h2 l3 l16 kz l4 a0 z0 (ak.resolve_right a0) (zk.resolve_right z0)
            rw [if_neg l4]
            have l10 := wants_not kz l4
            by_cases a0 : u.f0 = 0 <;> by_cases z0 : v.f0 = 0
            · rw [if_pos (.inl a0)]; exact calc_Binary1.nullK11 op u v _ HK b0 b1 b2 W h0 h1 h2 l3 l16 kz l4 a0 z0
            · rw [if_pos (.inl a0)]; exact calc_Binary1.nullK10 op u v _ HK b0 b1 b2 W h0 h1 h2 l3 l16 kz l4 a0 z0 (zk.resolve_right z0)
            · rw [if_pos (.inr z0)]; exact calc_Binary1.nullK01 op u v _ HK b0 b1 b2 W h0 h1 h2 l3 l16 kz l4 a0 z0 (ak.resolve_right a0)
            · rw [if_neg (fun h => h.elim a0 z0), if_neg l10]
              have ak' := ak.resolve_right a0
              have zk' := zk.resolve_right z0
              by_cases o16 : op = 16
              · rw [if_pos o16]
                by_cases hl : u.f2.size + v.f2.size ≤ 2048
                · rw [if_pos hl]; exact calc_Binary1.cat op u v _ HK b0 b1 b2 W h0 h1 h2 l3 l16 kz l4 l10 o16 a0 z0 ak' zk' hz hl
                · rw [if_neg hl]; exact calc_Binary1.catLong op u v _ HK b0 b1 b2 W h0 h1 h2 l3 l16 kz l4 l10 o16 a0 z0 ak' zk' hz hl
              · rw [if_neg o16]
                cases hn : sumP op u.f1 v.f1 with
                | ok n => exact calc_Binary1.num op u v _ HK b0 b1 b2 W h0 h1 h2 l3 l16 kz l4 l10 o16 a0 z0 ak' zk' n ⟨hn⟩ ⟨hu⟩ ⟨hv⟩
                | error c => exact calc_Binary1.numE op u v _ HK b0 b1 b2 W h0 h1 h2 l3 l16 kz l4 l10 o16 a0 z0 ak' zk' c ⟨hn⟩ ⟨hu⟩ ⟨hv⟩
          · rw [if_pos (by rw [hk]; exact fun h => zk h.2)]
            by_cases a0 : u.f0 = 0
            · exact calc_Binary1.kindB1 op u v _ HK b0 b1 b2 W h0 h1 h2 l3 l16 kz a0 (fun h => zk (.inr h)) (fun h => zk (.inl h))
            · exact calc_Binary1.kindB0 op u v _ HK b0 b1 b2 W h0 h1 h2 l3 l16 kz a0 (fun h => zk (.inr h)) (ak.resolve_right a0) (fun h => zk (.inl h))
        · rw [if_pos (by rw [hk]; exact fun h => ak h.1)]
          by_cases z0 : v.f0 = 0
          · exact calc_Binary1.kindA1 op u v _ HK b0 b1 b2 W h0 h1 h2 l3 l16 kz (fun h => ak (.inr h)) (fun h => ak (.inl h)) z0
          · exact calc_Binary1.kindA0 op u v _ HK b0 b1 b2 W h0 h1 h2 l3 l16 kz (fun h => ak (.inr h)) (fun h => ak (.inl h)) z0
    · rw [if_pos (fun h => l16 h.2)]
      exact calc_Binary1.high op u v _ HK b0 b1 b2 W h0 h1 h2 l3 l16
  · rw [if_pos (fun h => l3 h.1)]
    exact calc_Binary1.low op u v _ HK b0 b1 b2 W h0 h1 h2 l3
set_option maxHeartbeats 1000000 in
set_option maxRecDepth 100000 in
theorem calc_Binary.calls (op : Int) (u v : S32) (hu : In64 u.f1) (hv : In64 v.f1) (hz : u.f2.size + v.f2.size < 9223372036854775808) (w : World) :
    Calls Try.prog 52 #[.int .i64 op, .agg #[.int .i64 u.f0, .int .i64 u.f1, .string u.f2], .agg #[.int .i64 v.f0, .int .i64 v.f1, .string v.f2]] w fun e w' => e = .returned (.tuple #[encV (outE (bin op u v)).1, .int .i64 (outE (bin op u v)).2]) ∧ Below w.heap.size w w' := by
  have hu32 := Try.underlying32
  have hmf : ∀ (fn : Fn) (first cap : Array Value) (w : World), (Instr.makeFunc fn first cap).run Try.prog w = .ok (.func fn first cap) w := fun _ _ _ _ => rfl
  have HU := Aside0.mk hu
  have HV := Aside0.mk hv
  have HZ := Aside0.mk hz
  clear hu hv hz
  obtain ⟨r, hr⟩ : ∃ r, outE (bin op u v) = r := ⟨_, rfl⟩
  rw [hr]
  go_enter Try.func52, Try.ntmps52
  go_wp2_with fail
  obtain ⟨W, hW⟩ : ∃ W, (((w.alloc (.cells #[.int .i64 op] 3)).alloc (.cells #[.int .i64 u.f0, .int .i64 u.f1, .string u.f2] 32)).alloc (.cells #[.int .i64 v.f0, .int .i64 v.f1, .string v.f2] 32)).alloc (.cells #[.int .i64 0, .int .i64 0, .string (⟨#[]⟩ : ByteArray)] 32) = W := ⟨_, rfl⟩
  have F0 : W.heap[w.heap.size]? = some (.cells #[.int .i64 op] 3 (0, 0)) := by rw [← hW]; exact blk_alloc (blk_alloc (blk_alloc (Deep.blk_alloc_new w _) _) _) _
  have F1 : W.heap[w.heap.size + 1]? = some (.cells #[.int .i64 u.f0, .int .i64 u.f1, .string u.f2] 32 (0, 0)) := by
    have := Deep.blk_alloc_new (w.alloc (.cells #[.int .i64 op] 3)) (.cells #[.int .i64 u.f0, .int .i64 u.f1, .string u.f2] 32)
    rw [← hW]
    exact blk_alloc (blk_alloc (by simpa using this) _) _
  have F2 : W.heap[w.heap.size + 1 + 1]? = some (.cells #[.int .i64 v.f0, .int .i64 v.f1, .string v.f2] 32 (0, 0)) := by
    have := Deep.blk_alloc_new ((w.alloc (.cells #[.int .i64 op] 3)).alloc (.cells #[.int .i64 u.f0, .int .i64 u.f1, .string u.f2] 32)) (.cells #[.int .i64 v.f0, .int .i64 v.f1, .string v.f2] 32)
    rw [← hW]
    exact blk_alloc (by simpa using this) _
  have F3 : W.heap[w.heap.size + 1 + 1 + 1]? = some (.cells #[.int .i64 0, .int .i64 0, .string (⟨#[]⟩ : ByteArray)] 32 (0, 0)) := by
    have := Deep.blk_alloc_new (((w.alloc (.cells #[.int .i64 op] 3)).alloc (.cells #[.int .i64 u.f0, .int .i64 u.f1, .string u.f2] 32)).alloc (.cells #[.int .i64 v.f0, .int .i64 v.f1, .string v.f2] 32)) (.cells #[.int .i64 0, .int .i64 0, .string (⟨#[]⟩ : ByteArray)] 32)
    rw [← hW]
    simpa using this
  have FB : Below w.heap.size w W := by rw [← hW]; exact below_alloc (below_alloc (below_alloc (below_alloc (Below.refl _ _) _) _) _) _
  rw [hW]
  refine (calc_caught.b _ _ _ W (bin op u v) (fun W1 hb => calc_Binary1.calls op u v HU.out HV.out HZ.out _ _ _ W1 ((hb.block _ (blk_lt F0)).trans F0) ((hb.block _ (blk_lt F1)).trans F1) ((hb.block _ (blk_lt F2)).trans F2))).mono ?_
  rintro e w1 ⟨rfl, hb⟩
  have F4 := (hb.block _ (blk_lt F3)).trans F3
  have GB := Aside0.mk (below_step FB hb)
  rw [hr]
  obtain ⟨⟨x0, x1, x2⟩, c⟩ := r
  have g0 : w1.cell? ⟨w.heap.size + 1 + 1 + 1, 0, none⟩ = some (.int .i64 0) := (blk_cell F4 0).trans rfl
  have g1 : w1.cell? ⟨w.heap.size + 1 + 1 + 1, 1, none⟩ = some (.int .i64 0) := (blk_cell F4 1).trans rfl
  have g2 : w1.cell? ⟨w.heap.size + 1 + 1 + 1, 2, none⟩ = some (.string (⟨#[]⟩ : ByteArray)) := (blk_cell F4 2).trans rfl
  have gf0 := blk_frozen F4 0
  have gf1 := blk_frozen F4 1
  have gf2 := blk_frozen F4 2
  clear F0 F1 F2 F3 F4 FB hb hW
  simp only [encV]
  go_wp2_with fail
  exact bodyPost_ret (v := .tuple #[.agg #[.int .i64 x0, .int .i64 x1, .string x2], .int .i64 c]) (by simp [results, Try.results52, go_sem, g0, g1, g2]) rfl ⟨rfl, below_set3 GB.out (by omega) _ _ _ _ _ _⟩
end Go.Proofs.Ytgjfciohmgpohaa.P
end
section
namespace Go.Proofs.Ytgjfciohmgpohaa.P
open Go.RowKit Go.Proofs.Ytgjfciohmgpohaa.Pure Go.Proofs.YtgjfciohmgpohaaW.PrintWords Go.Proofs.YtgjfciohmgpohaaW.PrintLast Go.Proofs.YtgjfciohmgpohaaW.PrintMore
set_option linter.unusedVariables false
set_option linter.unusedSimpArgs false
theorem goes_of {op a : Int} (h3 : 3 ≤ op) (h16 : op ≤ 16) (b : Bool) (hb : goesP op a = b) : ∃ k, quarryref02_goes.f k op a = some b := by
  obtain ⟨k, hk⟩ := (goes_ev h3 h16 a).get
  exact ⟨k, by rw [hk, hb]⟩
theorem refBinary.calls (op : Int) (u v : S32) (hu : In64 u.f1) (hv : In64 v.f1) (hz : u.f2.size + v.f2.size < 9223372036854775808) (hx : u.f2.size ≤ 140737488351232) (w : World) :
    Calls Try.prog 22 #[.int .i64 op, .agg #[.int .i64 u.f0, .int .i64 u.f1, .string u.f2], .agg #[.int .i64 v.f0, .int .i64 v.f1, .string v.f2]] w fun e w' => e = .returned (.tuple #[encV (outE (bin op u v)).1, .int .i64 (outE (bin op u v)).2]) ∧ Below w.heap.size w w' := by
  unfold bin
  by_cases l3 : 3 ≤ op
  · by_cases l16 : op ≤ 16
    · rw [if_neg (fun h => h ⟨l3, l16⟩)]
      have hg : kindsP op u.f0 v.f0 ↔ (goesP op u.f0 = true ∧ goesP op v.f0 = true ∧ (wantsP op = 0 → u.f0 = 0 ∨ v.f0 = 0 ∨ u.f0 = v.f0)) := by
        unfold kindsP goesP
        by_cases kz : wantsP op = 0
        · simp [kz]
        · simp [kz]
      cases hA : goesP op u.f0 with
      | false =>
        obtain ⟨kA, HA⟩ := goes_of l3 l16 false hA
        rw [if_pos (fun h => by rw [hg, hA] at h; exact absurd h.1 (by decide))]
        have a0 : ¬ u.f0 = 0 := fun h => by simp [goesP, h] at hA
        by_cases z0 : v.f0 = 0
        · exact refBinary.kindAB op u v w kA ⟨HA⟩ l3 l16 a0 z0
        · exact refBinary.kindAC op u v w kA ⟨HA⟩ l3 l16 a0 z0
      | true =>
      obtain ⟨kA, HA⟩ := goes_of l3 l16 true hA
      cases hB : goesP op v.f0 with
      | false =>
        obtain ⟨kB, HB⟩ := goes_of l3 l16 false hB
        rw [if_pos (fun h => by rw [hg, hB] at h; exact absurd h.2.1 (by decide))]
        have z0 : ¬ v.f0 = 0 := fun h => by simp [goesP, h] at hB
        by_cases a0 : u.f0 = 0
        · exact refBinary.kindBA op u v w kA ⟨HA⟩ kB ⟨HB⟩ l3 l16 a0
        · exact refBinary.kindBC op u v w kA ⟨HA⟩ kB ⟨HB⟩ l3 l16 a0 z0
      | true =>
      obtain ⟨kB, HB⟩ := goes_of l3 l16 true hB
      by_cases l4 : op ≤ 4
      · have kn : ¬ wantsP op = 0 := fun h => (wants_zero h).1 l4
        rw [if_neg (fun h => h (hg.2 ⟨hA, hB, fun q => absurd q kn⟩)), if_pos l4]
        by_cases a0 : u.f0 = 0
        · exact refBinary.logicA op u v w kA ⟨HA⟩ kB ⟨HB⟩ l3 l16 l4 a0
        by_cases z0 : v.f0 = 0
        · exact refBinary.logicB op u v w kA ⟨HA⟩ kB ⟨HB⟩ l3 l16 l4 a0 z0
        · exact refBinary.logicC op u v w kA ⟨HA⟩ kB ⟨HB⟩ l3 l16 l4 a0 z0
      by_cases l10 : op ≤ 10
      · have kz : wantsP op = 0 := by unfold wantsP; rw [if_neg l4, if_pos l10]
        have l5 : 5 ≤ op := by omega
        by_cases a0 : u.f0 = 0
        · rw [if_neg (fun h => h (hg.2 ⟨hA, hB, fun _ => .inl a0⟩)), if_neg l4, if_pos (.inl a0)]
          exact refBinary.nullMA op u v w kA ⟨HA⟩ kB ⟨HB⟩ l3 l16 l5 l10 a0
        by_cases z0 : v.f0 = 0
        · rw [if_neg (fun h => h (hg.2 ⟨hA, hB, fun _ => .inr (.inl z0)⟩)), if_neg l4, if_pos (.inr z0)]
          exact refBinary.nullMB op u v w kA ⟨HA⟩ kB ⟨HB⟩ l3 l16 l5 l10 a0 z0
        by_cases uv : u.f0 = v.f0
        · rw [if_neg (fun h => h (hg.2 ⟨hA, hB, fun _ => .inr (.inr uv)⟩)), if_neg l4, if_neg (fun h => h.elim a0 z0), if_pos l10]
          exact refBinary.cmp op u v w kA ⟨HA⟩ kB ⟨HB⟩ l3 l16 l5 l10 a0 z0 uv ⟨hx⟩
        · rw [if_pos (fun h => (((hg.1 h).2.2 kz).elim a0 (fun h => h.elim z0 uv)))]
          exact refBinary.differ op u v w kA ⟨HA⟩ kB ⟨HB⟩ l3 l16 l5 l10 a0 z0 uv
      have kn : ¬ wantsP op = 0 := fun h => l10 (wants_zero h).2
      rw [if_neg (fun h => h (hg.2 ⟨hA, hB, fun q => absurd q kn⟩)), if_neg l4]
      by_cases a0 : u.f0 = 0
      · rw [if_pos (.inl a0)]; exact refBinary.nullHA op u v w kA ⟨HA⟩ kB ⟨HB⟩ l3 l16 l10 a0
      by_cases z0 : v.f0 = 0
      · rw [if_pos (.inr z0)]; exact refBinary.nullHB op u v w kA ⟨HA⟩ kB ⟨HB⟩ l3 l16 l10 a0 z0
      rw [if_neg (fun h => h.elim a0 z0), if_neg l10]
      by_cases o16 : op = 16
      · rw [if_pos o16]
        by_cases hs : u.f2.size + v.f2.size ≤ 2048
        · rw [if_pos hs]; exact refBinary.cat op u v w kA ⟨HA⟩ kB ⟨HB⟩ l3 l16 l10 a0 z0 o16 hz hs
        · rw [if_neg hs]
          by_cases ha : 2048 < u.f2.size
          · exact refBinary.catA op u v w kA ⟨HA⟩ kB ⟨HB⟩ l3 l16 l10 a0 z0 o16 hz ha
          · exact refBinary.catB op u v w kA ⟨HA⟩ kB ⟨HB⟩ l3 l16 l10 a0 z0 o16 hz ha hs
      rw [if_neg o16]
      by_cases hd : 14 ≤ op ∧ v.f1 = 0
      · have hs : sumP op u.f1 v.f1 = .error 41 := by
          unfold sumP
          rw [if_neg (by omega), if_neg (by omega), if_neg (by omega), if_pos hd.2]
        rw [hs]
        exact refBinary.zero op u v w kA ⟨HA⟩ kB ⟨HB⟩ l3 l16 l10 a0 z0 o16 hd.1 hd.2
      · have hnz : 14 ≤ op → ¬ v.f1 = 0 := fun h q => hd ⟨h, q⟩
        rw [sumP_R hu hv hnz (by omega) (by omega)]
        obtain ⟨k, hk⟩ := (sumR_ev hu hv hnz (by omega)).get
        obtain ⟨⟨n, b⟩, hr⟩ : ∃ p, sumR op u.f1 v.f1 = p := ⟨_, rfl⟩
        rw [hr] at hk ⊢
        cases b with
        | true =>
          by_cases l14 : 14 ≤ op
          · exact refBinary.num1 op u v w kA ⟨HA⟩ kB ⟨HB⟩ l3 l16 l10 a0 z0 o16 l14 (hnz l14) k n ⟨hk⟩
          · exact refBinary.num0 op u v w kA ⟨HA⟩ kB ⟨HB⟩ l3 l16 l10 a0 z0 o16 l14 k n ⟨hk⟩
        | false =>
          by_cases l14 : 14 ≤ op
          · exact refBinary.over1 op u v w kA ⟨HA⟩ kB ⟨HB⟩ l3 l16 l10 a0 z0 o16 l14 (hnz l14) k n ⟨hk⟩
          · exact refBinary.over0 op u v w kA ⟨HA⟩ kB ⟨HB⟩ l3 l16 l10 a0 z0 o16 l14 k n ⟨hk⟩
    · rw [if_pos (fun h => l16 h.2)]
      exact refBinary.high op u v w l3 l16
  · rw [if_pos (fun h => l3 h.1)]
    exact refBinary.low op u v w l3
end Go.Proofs.Ytgjfciohmgpohaa.P
namespace Go.Proofs.Ytgjfciohmgpohaa.Pure
open Go.RowKit Go.Proofs.Ytgjfciohmgpohaa.P Go.Proofs.YtgjfciohmgpohaaW.PrintWords Go.Proofs.YtgjfciohmgpohaaW.PrintLast Go.Proofs.YtgjfciohmgpohaaW.PrintMore
end Go.Proofs.Ytgjfciohmgpohaa.Pure
namespace Go.Proofs.Ytgjfciohmgpohaa.P
open Go.RowKit Go.Proofs.Ytgjfciohmgpohaa.Pure Go.Proofs.YtgjfciohmgpohaaW.PrintWords Go.Proofs.YtgjfciohmgpohaaW.PrintLast Go.Proofs.YtgjfciohmgpohaaW.PrintMore
end Go.Proofs.Ytgjfciohmgpohaa.P
end
section
namespace Go.Proofs.Ytgjfciohmgpohaa.P
open Go.RowKit Go.Proofs.YtgjfciohmgpohaaW.PrintWords Go.Proofs.YtgjfciohmgpohaaW.PrintLast Go.Proofs.YtgjfciohmgpohaaW.PrintMore
attribute [local go_sem] max2_int min2_int max_two min_two max_three min_three max_four min_four
set_option linter.unusedVariables false
set_option linter.unusedSimpArgs false
def agg_number.f (a0 : Int) : Option (Int × Int × ByteArray) := some (2, a0, (⟨#[]⟩ : ByteArray))
set_option maxHeartbeats 8000000 in
set_option maxRecDepth 100000 in
theorem agg_number.calls (a0 : Int) (r1 : Int) (r2 : Int) (r3 : ByteArray) (w : World) (h : agg_number.f a0 = some (r1, r2, r3)) :
  Calls Try.prog 49 #[.int .i64 a0] w fun e w' => e = .returned (.agg #[.int .i64 r1, .int .i64 r2, .string r3]) ∧ Below w.heap.size w w' := by
 have hu32 := Try.underlying32
 have HB := Aside0.mk (Below.refl w.heap.size w)
 have H : (some (2, a0, (⟨#[]⟩ : ByteArray))) = some (r1, r2, r3) := h
 clear h
 simp only [Option.some.injEq, Prod.mk.injEq] at H
 obtain ⟨rfl, rfl, rfl⟩ := H
 go_enter Try.func49, Try.ntmps49
 go_wp2_with (first | ((with_reducible refine gate_dst (N := 2) rfl ?_); refine box_event ?hg (N := 2) ?hd (cs := #[.int .i64 0, .int .i64 0, .string (⟨#[]⟩ : ByteArray)]) (t := 32) ?hr ?_; (case hd => rfl); (case hg => rfl); (case hr => first | (go_simp; done) | (go_simp; rfl)); intro gb131 hg w2 hbox hb; have n0_ := Aside0.mk (below_step (by repeat (first | (with_reducible first | exact HB.out | apply below_alloc | apply pw_below_drewN | apply below_drew1) | exact HB.out)) hb); have n1_ := Aside0.mk (hbox); have n2_ := Aside0.mk ((by rw [hg]; exact (below_size (by repeat (first | (with_reducible first | exact HB.out | apply below_alloc | apply pw_below_drewN | apply below_drew1) | exact HB.out))) : w.heap.size ≤ gb131)); have n3_ := Aside0.mk ((by rw [hg]; exact (below_size (by repeat (first | (with_reducible first | exact HB.out | apply below_alloc | apply pw_below_drewN | apply below_drew1) | exact HB.out))) : w.heap.size ≤ gb131)); clear HB; have HB := n0_; have BK131 := n1_; have GW131 := n2_; have GE131 := n3_; clear n0_ n1_ n2_ n3_; clear hb hbox hg; have hcz3_0 : w2.cell? ⟨gb131, 0, none⟩ = some (.int .i64 0) := (blk_cell BK131.out 0).trans rfl; have hcz3_1 : w2.cell? ⟨gb131, 1, none⟩ = some (.int .i64 0) := (blk_cell BK131.out 1).trans rfl; have hcz3_2 : w2.cell? ⟨gb131, 2, none⟩ = some (.string (⟨#[]⟩ : ByteArray)) := (blk_cell BK131.out 2).trans rfl; have hfz3_0 := blk_frozen BK131.out 0; have hfz3_1 := blk_frozen BK131.out 1; have hfz3_2 := blk_frozen BK131.out 2))
 refine bodyPost_ret (results_cell_row rfl _ _ gb131 32 #[.int .i64 2, .int .i64 a0, .string (⟨#[]⟩ : ByteArray)] (0, 0) _ rfl (by (with_reducible repeat (first | refine blk_drewN ?_ _ | refine blk_drew ?_ | refine blk_alloc ?_ _)); refine blk_put (cs := #[.int .i64 2, .int .i64 a0, .string (⟨#[]⟩ : ByteArray)]) ?_ 2 _ rfl; (with_reducible repeat (first | refine blk_drewN ?_ _ | refine blk_drew ?_ | refine blk_alloc ?_ _)); refine blk_put (cs := #[.int .i64 2, .int .i64 0, .string (⟨#[]⟩ : ByteArray)]) ?_ 1 _ rfl; (with_reducible repeat (first | refine blk_drewN ?_ _ | refine blk_drew ?_ | refine blk_alloc ?_ _)); refine blk_put (cs := #[.int .i64 0, .int .i64 0, .string (⟨#[]⟩ : ByteArray)]) ?_ 0 _ rfl; (with_reducible repeat (first | refine blk_drewN ?_ _ | refine blk_drew ?_ | refine blk_alloc ?_ _)); exact BK131.out) Try.underlying32 rfl (by kernel_rfl)) rfl ?_
 exact ⟨by first | rfl | (simp [errW_none, errW_some] <;> rfl) | (simp [*, errW_none, errW_some] <;> rfl), by repeat (first | (with_reducible first | exact HB.out | apply below_alloc | apply pw_below_drewN | apply below_drew1 | refine below_set ?_ GE131.out) | exact HB.out)⟩
end Go.Proofs.Ytgjfciohmgpohaa.P
end
section
namespace Go.Proofs.Ytgjfciohmgpohaa.P
open Go.RowKit Go.Proofs.Ytgjfciohmgpohaa.Pure Go.Proofs.YtgjfciohmgpohaaW.PrintWords Go.Proofs.YtgjfciohmgpohaaW.PrintLast Go.Proofs.YtgjfciohmgpohaaW.PrintMore
attribute [local go_sem] max2_int min2_int max_two min_two max_three min_three max_four min_four
set_option linter.unusedVariables false
set_option linter.unusedSimpArgs false
def numV (n : Int) : S32 := ⟨2, n, V0⟩
def FitsV (v : S32) : Prop := In64 v.f1 ∧ v.f2.size ≤ 140737488351232
inductive Gst where
  | count (n : Int)
  | sum (v : S32)
  | best (v : S32) (sign : Int)
def Gst.cells : Gst → Array Value
  | .count n => #[.int .i64 n]
  | .sum v => #[.int .i64 v.f0, .int .i64 v.f1, .string v.f2]
  | .best v s => #[.int .i64 v.f0, .int .i64 v.f1, .string v.f2, .int .i64 s]
def Gst.ty : Gst → TypeId
  | .count _ => 49
  | .sum _ => 52
  | .best _ _ => 55
def Gst.dyn : Gst → TypeId
  | .count _ => 47
  | .sum _ => 50
  | .best _ _ => 53
theorem keep_set {w W : World} {g : Nat} (h : KeepBut w W g none) (i : Nat) (v : Value) : KeepBut w (W.setCell ⟨g, i, none⟩ v) g none := h.set_ i v
set_option maxHeartbeats 1000000 in
set_option maxRecDepth 100000 in
theorem count_add.calls (g : Nat) (n : Int) (v : S32) (w : World) (hg : w.heap[g]? = some (.cells #[.int .i64 n] 49 (0, 0))) (B : Nat) (hB : B ≤ g) :
    Calls Try.prog 47 #[.pointer (some ⟨g, 0, none⟩), .agg #[.int .i64 v.f0, .int .i64 v.f1, .string v.f2]] w fun e w' =>
      e = .returned (.int .i64 0) ∧ w'.heap[g]? = some (.cells #[.int .i64 (wrap64 (n + 1))] 49 (0, 0)) ∧ Below B w w' ∧ KeepBut w w' g none := by
  have hu := Try.underlying32
  have H1 := Aside0.mk (blk_alloc hg (.cells #[.int .i64 v.f0, .int .i64 v.f1, .string v.f2] 32))
  have hc : World.cell? _ ⟨g, 0, none⟩ = some (.int .i64 n) := (blk_cell H1.out 0).trans rfl
  have hf := blk_frozen H1.out 0
  have HL := Aside0.mk (blk_lt hg)
  have HB := Aside0.mk hB
  clear hg hB
  go_enter Try.func47, Try.ntmps47
  go_wp2_with fail
  go_ret
  exact ⟨rfl, blk_put H1.out 0 _ rfl, Below.setCell ((below_alloc (Below.refl _ _) _).mono (Nat.le_trans HB.out (Nat.le_of_lt HL.out))) (p := ⟨g, 0, none⟩) HB.out _, keep_set (keep_alloc (KeepBut.refl _ _ _) _) 0 _⟩
set_option maxHeartbeats 1000000 in
set_option maxRecDepth 100000 in
theorem count_value.calls (g : Nat) (n : Int) (w : World) (hg : w.heap[g]? = some (.cells #[.int .i64 n] 49 (0, 0))) :
    Calls Try.prog 48 #[.pointer (some ⟨g, 0, none⟩)] w fun e w' => e = .returned (encV (numV n)) ∧ Below w.heap.size w w' := by
  have hu := Try.underlying32
  have H1 := Aside0.mk (blk_alloc hg (.cells #[.int .i64 0, .int .i64 0, .string (⟨#[]⟩ : ByteArray)] 32))
  have hc : World.cell? _ ⟨g, 0, none⟩ = some (.int .i64 n) := (blk_cell H1.out 0).trans rfl
  have HZ := Aside0.mk (Deep.blk_alloc_new w (.cells #[.int .i64 0, .int .i64 0, .string (⟨#[]⟩ : ByteArray)] 32))
  clear hg
  go_enter Try.func48, Try.ntmps48
  go_wp2_with fail
  refine (agg_number.calls n _ _ _ _ (show agg_number.f n = some (2, n, V0) from rfl)).mono ?_
  rintro e w1 ⟨rfl, hb⟩
  have HI := Aside0.mk (blk_below HZ.out hb)
  have HW := Aside0.mk (below_step (below_alloc (Below.refl w.heap.size w) _) hb)
  clear hb hc
  have gc0 : w1.cell? ⟨w.heap.size, 0, none⟩ = some (.int .i64 0) := (blk_cell HI.out 0).trans rfl
  have gc1 : w1.cell? ⟨w.heap.size, 1, none⟩ = some (.int .i64 0) := (blk_cell HI.out 1).trans rfl
  have gc2 : w1.cell? ⟨w.heap.size, 2, none⟩ = some (.string (⟨#[]⟩ : ByteArray)) := (blk_cell HI.out 2).trans rfl
  have gf0 := blk_frozen HI.out 0
  have gf1 := blk_frozen HI.out 1
  have gf2 := blk_frozen HI.out 2
  go_wp2_with fail
  exact bodyPost_ret (v := .agg #[.int .i64 2, .int .i64 n, .string V0]) (by simp [results, Try.results48, go_sem, gc0, gc1, gc2, V0]) rfl ⟨rfl, below_set3 HW.out (Nat.le_refl _) _ _ _ _ _ _⟩
set_option maxHeartbeats 1000000 in
set_option maxRecDepth 100000 in
theorem sum_value.calls (g : Nat) (v : S32) (w : World) (hg : w.heap[g]? = some (.cells #[.int .i64 v.f0, .int .i64 v.f1, .string v.f2] 52 (0, 0))) :
    Calls Try.prog 51 #[.pointer (some ⟨g, 0, none⟩)] w fun e w' => e = .returned (encV v) ∧ Below w.heap.size w w' := by
  have hu := Try.underlying32
  have H1 := Aside0.mk (blk_alloc hg (.cells #[.int .i64 0, .int .i64 0, .string (⟨#[]⟩ : ByteArray)] 32))
  have hc0 : World.cell? _ ⟨g, 0, none⟩ = some (.int .i64 v.f0) := (blk_cell H1.out 0).trans rfl
  have hc1 : World.cell? _ ⟨g, 1, none⟩ = some (.int .i64 v.f1) := (blk_cell H1.out 1).trans rfl
  have hc2 : World.cell? _ ⟨g, 2, none⟩ = some (.string v.f2) := (blk_cell H1.out 2).trans rfl
  clear hg
  go_enter Try.func51, Try.ntmps51
  go_wp2_with fail
  exact bodyPost_ret (v := .agg #[.int .i64 v.f0, .int .i64 v.f1, .string v.f2]) (by simp [results, Try.results51, go_sem]) rfl ⟨rfl, by repeat (first | exact Below.refl _ _ | refine Below.setCell ?_ (Nat.le_refl _) _ | apply below_alloc)⟩
set_option maxHeartbeats 1000000 in
set_option maxRecDepth 100000 in
theorem best_value.calls (g : Nat) (v : S32) (sg : Int) (w : World) (hg : w.heap[g]? = some (.cells #[.int .i64 v.f0, .int .i64 v.f1, .string v.f2, .int .i64 sg] 55 (0, 0))) :
    Calls Try.prog 77 #[.pointer (some ⟨g, 0, none⟩)] w fun e w' => e = .returned (encV v) ∧ Below w.heap.size w w' := by
  have hu := Try.underlying32
  have H1 := Aside0.mk (blk_alloc hg (.cells #[.int .i64 0, .int .i64 0, .string (⟨#[]⟩ : ByteArray)] 32))
  have hc0 : World.cell? _ ⟨g, 0, none⟩ = some (.int .i64 v.f0) := (blk_cell H1.out 0).trans rfl
  have hc1 : World.cell? _ ⟨g, 1, none⟩ = some (.int .i64 v.f1) := (blk_cell H1.out 1).trans rfl
  have hc2 : World.cell? _ ⟨g, 2, none⟩ = some (.string v.f2) := (blk_cell H1.out 2).trans rfl
  clear hg
  go_enter Try.func77, Try.ntmps77
  go_wp2_with fail
  exact bodyPost_ret (v := .agg #[.int .i64 v.f0, .int .i64 v.f1, .string v.f2]) (by simp [results, Try.results77, go_sem]) rfl ⟨rfl, by repeat (first | exact Below.refl _ _ | refine Below.setCell ?_ (Nat.le_refl _) _ | apply below_alloc)⟩
end Go.Proofs.Ytgjfciohmgpohaa.P
end
section
namespace Go.Proofs.Ytgjfciohmgpohaa.P
open Go.RowKit Go.Proofs.Ytgjfciohmgpohaa.Pure Go.Proofs.YtgjfciohmgpohaaW.PrintWords Go.Proofs.YtgjfciohmgpohaaW.PrintLast Go.Proofs.YtgjfciohmgpohaaW.PrintMore
attribute [local go_sem] max2_int min2_int max_two min_two max_three min_three max_four min_four
set_option linter.unusedVariables false
set_option linter.unusedSimpArgs false
theorem at_exit {T : Exit → Act → World → Prop} {e : Exit} {a : Act} {W : World} (R : World → Prop) (h : R W) (k : ∀ W', R W' → T e a W') : T e a W := k W h
def BA (g n : Nat) (cs : Array Value) (t : TypeId) (v : S32) (w0 w : World) : Prop :=
  w.heap[g]? = some (.cells cs t (0, 0)) ∧ w.heap[n]? = some (.cells #[.int .i64 v.f0, .int .i64 v.f1, .string v.f2] 32 (0, 0)) ∧ Below w0.heap.size w0 w
section
variable {g n : Nat} {cs : Array Value} {t : TypeId} {v : S32} {w0 w w' : World}
theorem BA.start (hg : w0.heap[g]? = some (.cells cs t (0, 0))) : BA g w0.heap.size cs t v w0 (w0.alloc (.cells #[.int .i64 v.f0, .int .i64 v.f1, .string v.f2] 32)) :=
  ⟨blk_alloc hg _, Deep.blk_alloc_new w0 _, below_alloc (Below.refl _ _) _⟩
theorem BA.below (h : BA g n cs t v w0 w) (hb : Below w.heap.size w w') : BA g n cs t v w0 w' := ⟨blk_below h.1 hb, blk_below h.2.1 hb, below_step h.2.2 hb⟩
theorem BA.drew (h : BA g n cs t v w0 w) : BA g n cs t v w0 w.drew := h.below (below_drew1 (Below.refl _ _))
theorem BA.drewN (h : BA g n cs t v w0 w) (m : Nat) : BA g n cs t v w0 (w.drewN m) := h.below (pw_below_drewN (Below.refl _ _) m)
theorem BA.keep (h : BA g n cs t v w0 w) : KeepBut w0 w g none := KeepBut.of_below h.2.2 _ _
theorem BA.v0 (h : BA g n cs t v w0 w) : w.cell? ⟨n, 0, none⟩ = some (.int .i64 v.f0) := (blk_cell h.2.1 0).trans rfl
theorem BA.v1 (h : BA g n cs t v w0 w) : w.cell? ⟨n, 1, none⟩ = some (.int .i64 v.f1) := (blk_cell h.2.1 1).trans rfl
theorem BA.v2 (h : BA g n cs t v w0 w) : w.cell? ⟨n, 2, none⟩ = some (.string v.f2) := (blk_cell h.2.1 2).trans rfl
end
set_option maxHeartbeats 2000000 in
set_option maxRecDepth 100000 in
theorem best_add.null (g : Nat) (u : S32) (sg : Int) (v : S32) (w : World) (hg : w.heap[g]? = some (.cells #[.int .i64 u.f0, .int .i64 u.f1, .string u.f2, .int .i64 sg] 55 (0, 0))) (B : Nat) (hB : B ≤ g) (h0 : u.f0 = 0) :
    Calls Try.prog 76 #[.pointer (some ⟨g, 0, none⟩), .agg #[.int .i64 v.f0, .int .i64 v.f1, .string v.f2]] w fun e w' =>
      e = .returned (.int .i64 0) ∧ w'.heap[g]? = some (.cells #[.int .i64 v.f0, .int .i64 v.f1, .string v.f2, .int .i64 sg] 55 (0, 0)) ∧ Below B w w' ∧ KeepBut w w' g none := by
  have hu := Try.underlying32
  have HS := Aside0.mk (BA.start (v := v) hg)
  have HL := Aside0.mk (Nat.le_trans hB (Nat.le_of_lt (blk_lt hg)))
  have HB := Aside0.mk hB
  have HN := Aside0.mk (Nat.ne_of_lt (blk_lt hg))
  have q0 : (u.f0 == 0) = true := beq_iff_eq.mpr h0
  clear hg hB h0
  go_enter Try.func76, Try.ntmps76
  go_wp2_with fail
  refine at_world (fun w' => BA g w.heap.size #[.int .i64 u.f0, .int .i64 u.f1, .string u.f2, .int .i64 sg] 55 v w w') HS.out (fun w1 hI => ?_)
  have HI := Aside0.mk hI
  clear hI
  refine start_ (n := 19) (S := fun w' => w'.cell? ⟨g, 0, none⟩ = some (.int .i64 u.f0) ∧ w'.cell? ⟨g, 1, none⟩ = some (.int .i64 u.f1) ∧ w'.cell? ⟨g, 2, none⟩ = some (.string u.f2) ∧ w'.cell? ⟨g, 3, none⟩ = some (.int .i64 sg) ∧ w'.cell? ⟨w.heap.size, 0, none⟩ = some (.int .i64 v.f0) ∧ w'.cell? ⟨w.heap.size, 1, none⟩ = some (.int .i64 v.f1) ∧ w'.cell? ⟨w.heap.size, 2, none⟩ = some (.string v.f2)) (ds := []) #[false, false, false, false, false, false, false, false, false, false, false, false, false, false, false, false, false, false, false] (by kernel_rfl) rfl rfl ⟨(blk_cell (HI.out.drew).1 0).trans rfl, (blk_cell (HI.out.drew).1 1).trans rfl, (blk_cell (HI.out.drew).1 2).trans rfl, (blk_cell (HI.out.drew).1 3).trans rfl, (HI.out.drew).v0, (HI.out.drew).v1, (HI.out.drew).v2⟩ (fun hHeld => ?_)
  refine pure_ (i := 0) (N := some 5) (v := ?_) (a' := ?_) #[true, false, false, false, false, false, false, false, false, false, false, false, false, false, false, false, false, false, false] rfl rfl (by kernel_rfl) (fun _ _ _ h => h) (Or.inl ⟨by rfl, ?_⟩) ?_ ?_
  rotate_left
  · intro w'
    go_simp
    with_reducible rfl
  rotate_left
  · simp only [Act.put, List.setIfInBounds_toArray, List.set_cons_zero, List.set_cons_succ, i64_w, i32_w]
    rfl
  refine pure_ (i := 1) (N := some 6) (v := ?_) (a' := ?_) #[true, true, false, false, false, false, false, false, false, false, false, false, false, false, false, false, false, false, false] rfl rfl (by kernel_rfl) (fun _ _ _ h => h) (Or.inl ⟨by rfl, ?_⟩) ?_ ?_
  rotate_left
  · intro w'
    go_simp
    with_reducible rfl
  rotate_left
  · simp only [Act.put, List.setIfInBounds_toArray, List.set_cons_zero, List.set_cons_succ, i64_w, i32_w]
    rfl
  refine pure_ (i := 2) (N := some 7) (v := ?_) (a' := ?_) #[true, true, true, false, false, false, false, false, false, false, false, false, false, false, false, false, false, false, false] rfl rfl (by kernel_rfl) (fun _ _ _ h => h) (Or.inl ⟨by rfl, ?_⟩) ?_ ?_
  rotate_left
  · intro w'
    go_simp
    with_reducible rfl
  rotate_left
  · simp only [Act.put, List.setIfInBounds_toArray, List.set_cons_zero, List.set_cons_succ, i64_w, i32_w]
    rfl
  refine pure_ (i := 3) (N := some 8) (v := ?_) (a' := ?_) #[true, true, true, true, false, false, false, false, false, false, false, false, false, false, false, false, false, false, false] rfl rfl (by kernel_rfl) (fun _ _ _ h => h) (Or.inl ⟨by rfl, ?_⟩) ?_ ?_
  rotate_left
  · intro w'
    go_simp
    with_reducible rfl
  rotate_left
  · simp only [Act.put, List.setIfInBounds_toArray, List.set_cons_zero, List.set_cons_succ, i64_w, i32_w]
    rfl
  refine take_ (i := 4) (N := some 9) (v := ?_) (a' := ?_) #[true, true, true, true, true, false, false, false, false, false, false, false, false, false, false, false, false, false, false] rfl rfl (by kernel_rfl) (fun _ _ _ h => h) (Or.inl ⟨by rfl, ?_⟩) hHeld ?_ ?_
  rotate_left
  · rintro w' ⟨s0, s1, s2, s3, s4, s5, s6⟩
    go_simp
    with_reducible rfl
  rotate_left
  · simp only [Act.put, List.setIfInBounds_toArray, List.set_cons_zero, List.set_cons_succ, i64_w, i32_w]
    rfl
  refine pure_ (i := 5) (N := some 10) (v := ?_) (a' := ?_) #[true, true, true, true, true, true, false, false, false, false, false, false, false, false, false, false, false, false, false] rfl rfl (by kernel_rfl) (fun _ _ _ h => h) (Or.inl ⟨by rfl, ?_⟩) ?_ ?_
  rotate_left
  · intro w'
    go_simp
    with_reducible rfl
  rotate_left
  · simp only [Act.put, List.setIfInBounds_toArray, List.set_cons_zero, List.set_cons_succ, i64_w, i32_w]
    rfl
  refine pure_ (i := 6) (N := some 11) (v := ?_) (a' := ?_) #[true, true, true, true, true, true, true, false, false, false, false, false, false, false, false, false, false, false, false] rfl rfl (by kernel_rfl) (fun _ _ _ h => h) (Or.inl ⟨by rfl, ?_⟩) ?_ ?_
  rotate_left
  · intro w'
    go_simp
    with_reducible rfl
  rotate_left
  · simp only [Act.put, List.setIfInBounds_toArray, List.set_cons_zero, List.set_cons_succ, i64_w, i32_w]
    rfl
  refine pure_ (i := 7) (N := some 12) (v := undef) (a' := ?_) #[true, true, true, true, true, true, true, true, false, false, false, false, false, false, false, false, false, false, false] rfl rfl (by kernel_rfl) (fun _ _ _ h => h) (Or.inr ⟨by rfl, rfl⟩) ?_ ?_
  rotate_left
  · simp only [Act.put, List.setIfInBounds_toArray, List.set_cons_zero, List.set_cons_succ, i64_w, i32_w]
    rfl
  refine pure_ (i := 8) (N := some 13) (v := undef) (a' := ?_) #[true, true, true, true, true, true, true, true, true, false, false, false, false, false, false, false, false, false, false] rfl rfl (by kernel_rfl) (fun _ _ _ h => h) (Or.inr ⟨by rfl, rfl⟩) ?_ ?_
  rotate_left
  · simp only [Act.put, List.setIfInBounds_toArray, List.set_cons_zero, List.set_cons_succ, i64_w, i32_w]
    rfl
  refine pure_ (i := 9) (N := some 14) (v := undef) (a' := ?_) #[true, true, true, true, true, true, true, true, true, true, false, false, false, false, false, false, false, false, false] rfl rfl (by kernel_rfl) (fun _ _ _ h => h) (Or.inr ⟨by rfl, rfl⟩) ?_ ?_
  rotate_left
  · simp only [Act.put, List.setIfInBounds_toArray, List.set_cons_zero, List.set_cons_succ, i64_w, i32_w]
    rfl
  refine pure_ (i := 10) (N := some 15) (v := undef) (a' := ?_) #[true, true, true, true, true, true, true, true, true, true, true, false, false, false, false, false, false, false, false] rfl rfl (by kernel_rfl) (fun _ _ _ h => h) (Or.inr ⟨by rfl, rfl⟩) ?_ ?_
  rotate_left
  · simp only [Act.put, List.setIfInBounds_toArray, List.set_cons_zero, List.set_cons_succ, i64_w, i32_w]
    rfl
  refine pure_ (i := 11) (N := some 16) (v := undef) (a' := ?_) #[true, true, true, true, true, true, true, true, true, true, true, true, false, false, false, false, false, false, false] rfl rfl (by kernel_rfl) (fun _ _ _ h => h) (Or.inr ⟨by rfl, rfl⟩) ?_ ?_
  rotate_left
  · simp only [Act.put, List.setIfInBounds_toArray, List.set_cons_zero, List.set_cons_succ, i64_w, i32_w]
    rfl
  refine pure_ (i := 12) (N := some 17) (v := undef) (a' := ?_) #[true, true, true, true, true, true, true, true, true, true, true, true, true, false, false, false, false, false, false] rfl rfl (by kernel_rfl) (fun _ _ _ h => h) (Or.inr ⟨by rfl, rfl⟩) ?_ ?_
  rotate_left
  · simp only [Act.put, List.setIfInBounds_toArray, List.set_cons_zero, List.set_cons_succ, i64_w, i32_w]
    rfl
  refine pure_ (i := 13) (N := some 18) (v := undef) (a' := ?_) #[true, true, true, true, true, true, true, true, true, true, true, true, true, true, false, false, false, false, false] rfl rfl (by kernel_rfl) (fun _ _ _ h => h) (Or.inr ⟨by rfl, rfl⟩) ?_ ?_
  rotate_left
  · simp only [Act.put, List.setIfInBounds_toArray, List.set_cons_zero, List.set_cons_succ, i64_w, i32_w]
    rfl
  refine pure_ (i := 14) (N := some 19) (v := undef) (a' := ?_) #[true, true, true, true, true, true, true, true, true, true, true, true, true, true, true, false, false, false, false] rfl rfl (by kernel_rfl) (fun _ _ _ h => h) (Or.inr ⟨by rfl, rfl⟩) ?_ ?_
  rotate_left
  · simp only [Act.put, List.setIfInBounds_toArray, List.set_cons_zero, List.set_cons_succ, i64_w, i32_w]
    rfl
  refine pure_ (i := 15) (N := some 20) (v := undef) (a' := ?_) #[true, true, true, true, true, true, true, true, true, true, true, true, true, true, true, true, false, false, false] rfl rfl (by kernel_rfl) (fun _ _ _ h => h) (Or.inr ⟨by rfl, rfl⟩) ?_ ?_
  rotate_left
  · simp only [Act.put, List.setIfInBounds_toArray, List.set_cons_zero, List.set_cons_succ, i64_w, i32_w]
    rfl
  refine pure_ (i := 16) (N := some 21) (v := undef) (a' := ?_) #[true, true, true, true, true, true, true, true, true, true, true, true, true, true, true, true, true, false, false] rfl rfl (by kernel_rfl) (fun _ _ _ h => h) (Or.inr ⟨by rfl, rfl⟩) ?_ ?_
  rotate_left
  · simp only [Act.put, List.setIfInBounds_toArray, List.set_cons_zero, List.set_cons_succ, i64_w, i32_w]
    rfl
  refine pure_ (i := 17) (N := some 22) (v := undef) (a' := ?_) #[true, true, true, true, true, true, true, true, true, true, true, true, true, true, true, true, true, true, false] rfl rfl (by kernel_rfl) (fun _ _ _ h => h) (Or.inr ⟨by rfl, rfl⟩) ?_ ?_
  rotate_left
  · simp only [Act.put, List.setIfInBounds_toArray, List.set_cons_zero, List.set_cons_succ, i64_w, i32_w]
    rfl
  refine pure_ (i := 18) (N := some 23) (v := ?_) (a' := ?_) #[true, true, true, true, true, true, true, true, true, true, true, true, true, true, true, true, true, true, true] rfl rfl (by kernel_rfl) (fun _ _ _ h => h) (Or.inl ⟨by rfl, ?_⟩) ?_ ?_
  rotate_left
  · intro w'
    go_simp
    with_reducible rfl
  rotate_left
  · simp only [Act.put, List.setIfInBounds_toArray, List.set_cons_zero, List.set_cons_succ, i64_w, i32_w]
    rfl
  refine done_ (by kernel_rfl) ?_
  refine at_exit (fun w' => BA g w.heap.size #[.int .i64 u.f0, .int .i64 u.f1, .string u.f2, .int .i64 sg] 55 v w w') HI.out.drew (fun w3 hI => ?_)
  clear HI
  have HI := Aside0.mk hI
  clear hI
  have c0 : World.cell? w3 ⟨g, 0, none⟩ = some (.int .i64 u.f0) := (blk_cell HI.out.1 0).trans rfl
  have c1 : World.cell? w3 ⟨g, 1, none⟩ = some (.int .i64 u.f1) := (blk_cell HI.out.1 1).trans rfl
  have c2 : World.cell? w3 ⟨g, 2, none⟩ = some (.string u.f2) := (blk_cell HI.out.1 2).trans rfl
  have f0 := blk_frozen HI.out.1 0
  have f1 := blk_frozen HI.out.1 1
  have f2 := blk_frozen HI.out.1 2
  have d0 : World.cell? w3 _ = _ := HI.out.v0
  have d1 : World.cell? w3 _ = _ := HI.out.v1
  have d2 : World.cell? w3 _ = _ := HI.out.v2
  go_wp2_with fail
  go_ret
  exact ⟨rfl, blk_put (blk_put (blk_put HI.out.1 0 (.int .i64 v.f0) rfl) 1 (.int .i64 v.f1) rfl) 2 (.string v.f2) rfl, below_set3 (HI.out.2.2.mono HL.out) HB.out _ _ _ _ _ _, keep_set (keep_set (keep_set HI.out.keep 0 _) 1 _) 2 _⟩
set_option maxHeartbeats 2000000 in
set_option maxRecDepth 100000 in
theorem best_add.take (g : Nat) (u : S32) (sg : Int) (v : S32) (w : World) (hg : w.heap[g]? = some (.cells #[.int .i64 u.f0, .int .i64 u.f1, .string u.f2, .int .i64 sg] 55 (0, 0))) (B : Nat) (hB : B ≤ g) (h0 : ¬ u.f0 = 0) (h1 : cmpV v u = sg) :
    Calls Try.prog 76 #[.pointer (some ⟨g, 0, none⟩), .agg #[.int .i64 v.f0, .int .i64 v.f1, .string v.f2]] w fun e w' =>
      e = .returned (.int .i64 0) ∧ w'.heap[g]? = some (.cells #[.int .i64 v.f0, .int .i64 v.f1, .string v.f2, .int .i64 sg] 55 (0, 0)) ∧ Below B w w' ∧ KeepBut w w' g none := by
  have hu := Try.underlying32
  have HS := Aside0.mk (BA.start (v := v) hg)
  have HL := Aside0.mk (Nat.le_trans hB (Nat.le_of_lt (blk_lt hg)))
  have HB := Aside0.mk hB
  have HN := Aside0.mk (Nat.ne_of_lt (blk_lt hg))
  have q0 : (u.f0 == 0) = false := beq_eq_false_iff_ne.mpr h0
  have q1 : (cmpV v u == sg) = true := beq_iff_eq.mpr h1
  clear hg hB h0 h1
  go_enter Try.func76, Try.ntmps76
  go_wp2_with fail
  refine at_world (fun w' => BA g w.heap.size #[.int .i64 u.f0, .int .i64 u.f1, .string u.f2, .int .i64 sg] 55 v w w') HS.out (fun w1 hI => ?_)
  have HI := Aside0.mk hI
  clear hI
  refine start_ (n := 19) (S := fun w' => w'.cell? ⟨g, 0, none⟩ = some (.int .i64 u.f0) ∧ w'.cell? ⟨g, 1, none⟩ = some (.int .i64 u.f1) ∧ w'.cell? ⟨g, 2, none⟩ = some (.string u.f2) ∧ w'.cell? ⟨g, 3, none⟩ = some (.int .i64 sg) ∧ w'.cell? ⟨w.heap.size, 0, none⟩ = some (.int .i64 v.f0) ∧ w'.cell? ⟨w.heap.size, 1, none⟩ = some (.int .i64 v.f1) ∧ w'.cell? ⟨w.heap.size, 2, none⟩ = some (.string v.f2)) (ds := []) #[false, false, false, false, false, false, false, false, false, false, false, false, false, false, false, false, false, false, false] (by kernel_rfl) rfl rfl ⟨(blk_cell (HI.out.drew).1 0).trans rfl, (blk_cell (HI.out.drew).1 1).trans rfl, (blk_cell (HI.out.drew).1 2).trans rfl, (blk_cell (HI.out.drew).1 3).trans rfl, (HI.out.drew).v0, (HI.out.drew).v1, (HI.out.drew).v2⟩ (fun hHeld => ?_)
  refine pure_ (i := 0) (N := some 5) (v := ?_) (a' := ?_) #[true, false, false, false, false, false, false, false, false, false, false, false, false, false, false, false, false, false, false] rfl rfl (by kernel_rfl) (fun _ _ _ h => h) (Or.inl ⟨by rfl, ?_⟩) ?_ ?_
  rotate_left
  · intro w'
    go_simp
    with_reducible rfl
  rotate_left
  · simp only [Act.put, List.setIfInBounds_toArray, List.set_cons_zero, List.set_cons_succ, i64_w, i32_w]
    rfl
  refine pure_ (i := 1) (N := some 6) (v := ?_) (a' := ?_) #[true, true, false, false, false, false, false, false, false, false, false, false, false, false, false, false, false, false, false] rfl rfl (by kernel_rfl) (fun _ _ _ h => h) (Or.inl ⟨by rfl, ?_⟩) ?_ ?_
  rotate_left
  · intro w'
    go_simp
    with_reducible rfl
  rotate_left
  · simp only [Act.put, List.setIfInBounds_toArray, List.set_cons_zero, List.set_cons_succ, i64_w, i32_w]
    rfl
  refine pure_ (i := 2) (N := some 7) (v := ?_) (a' := ?_) #[true, true, true, false, false, false, false, false, false, false, false, false, false, false, false, false, false, false, false] rfl rfl (by kernel_rfl) (fun _ _ _ h => h) (Or.inl ⟨by rfl, ?_⟩) ?_ ?_
  rotate_left
  · intro w'
    go_simp
    with_reducible rfl
  rotate_left
  · simp only [Act.put, List.setIfInBounds_toArray, List.set_cons_zero, List.set_cons_succ, i64_w, i32_w]
    rfl
  refine pure_ (i := 3) (N := some 8) (v := ?_) (a' := ?_) #[true, true, true, true, false, false, false, false, false, false, false, false, false, false, false, false, false, false, false] rfl rfl (by kernel_rfl) (fun _ _ _ h => h) (Or.inl ⟨by rfl, ?_⟩) ?_ ?_
  rotate_left
  · intro w'
    go_simp
    with_reducible rfl
  rotate_left
  · simp only [Act.put, List.setIfInBounds_toArray, List.set_cons_zero, List.set_cons_succ, i64_w, i32_w]
    rfl
  refine take_ (i := 4) (N := some 9) (v := ?_) (a' := ?_) #[true, true, true, true, true, false, false, false, false, false, false, false, false, false, false, false, false, false, false] rfl rfl (by kernel_rfl) (fun _ _ _ h => h) (Or.inl ⟨by rfl, ?_⟩) hHeld ?_ ?_
  rotate_left
  · rintro w' ⟨s0, s1, s2, s3, s4, s5, s6⟩
    go_simp
    with_reducible rfl
  rotate_left
  · simp only [Act.put, List.setIfInBounds_toArray, List.set_cons_zero, List.set_cons_succ, i64_w, i32_w]
    rfl
  refine pure_ (i := 5) (N := some 10) (v := ?_) (a' := ?_) #[true, true, true, true, true, true, false, false, false, false, false, false, false, false, false, false, false, false, false] rfl rfl (by kernel_rfl) (fun _ _ _ h => h) (Or.inl ⟨by rfl, ?_⟩) ?_ ?_
  rotate_left
  · intro w'
    go_simp
    with_reducible rfl
  rotate_left
  · simp only [Act.put, List.setIfInBounds_toArray, List.set_cons_zero, List.set_cons_succ, i64_w, i32_w]
    rfl
  refine pure_ (i := 6) (N := some 11) (v := ?_) (a' := ?_) #[true, true, true, true, true, true, true, false, false, false, false, false, false, false, false, false, false, false, false] rfl rfl (by kernel_rfl) (fun _ _ _ h => h) (Or.inl ⟨by rfl, ?_⟩) ?_ ?_
  rotate_left
  · intro w'
    go_simp
    with_reducible rfl
  rotate_left
  · simp only [Act.put, List.setIfInBounds_toArray, List.set_cons_zero, List.set_cons_succ, i64_w, i32_w]
    rfl
  refine pure_ (i := 8) (N := some 13) (v := ?_) (a' := ?_) #[true, true, true, true, true, true, true, false, true, false, false, false, false, false, false, false, false, false, false] rfl rfl (by kernel_rfl) (fun _ _ _ h => h) (Or.inl ⟨by rfl, ?_⟩) ?_ ?_
  rotate_left
  · intro w'
    go_simp
    with_reducible rfl
  rotate_left
  · simp only [Act.put, List.setIfInBounds_toArray, List.set_cons_zero, List.set_cons_succ, i64_w, i32_w]
    rfl
  refine pure_ (i := 9) (N := some 14) (v := ?_) (a' := ?_) #[true, true, true, true, true, true, true, false, true, true, false, false, false, false, false, false, false, false, false] rfl rfl (by kernel_rfl) (fun _ _ _ h => h) (Or.inl ⟨by rfl, ?_⟩) ?_ ?_
  rotate_left
  · intro w'
    go_simp
    with_reducible rfl
  rotate_left
  · simp only [Act.put, List.setIfInBounds_toArray, List.set_cons_zero, List.set_cons_succ, i64_w, i32_w]
    rfl
  refine pure_ (i := 10) (N := some 15) (v := ?_) (a' := ?_) #[true, true, true, true, true, true, true, false, true, true, true, false, false, false, false, false, false, false, false] rfl rfl (by kernel_rfl) (fun _ _ _ h => h) (Or.inl ⟨by rfl, ?_⟩) ?_ ?_
  rotate_left
  · intro w'
    go_simp
    with_reducible rfl
  rotate_left
  · simp only [Act.put, List.setIfInBounds_toArray, List.set_cons_zero, List.set_cons_succ, i64_w, i32_w]
    rfl
  refine pure_ (i := 13) (N := some 18) (v := ?_) (a' := ?_) #[true, true, true, true, true, true, true, false, true, true, true, false, false, true, false, false, false, false, false] rfl rfl (by kernel_rfl) (fun _ _ _ h => h) (Or.inl ⟨by rfl, ?_⟩) ?_ ?_
  rotate_left
  · intro w'
    go_simp
    with_reducible rfl
  rotate_left
  · simp only [Act.put, List.setIfInBounds_toArray, List.set_cons_zero, List.set_cons_succ, i64_w, i32_w]
    rfl
  refine pure_ (i := 14) (N := some 19) (v := ?_) (a' := ?_) #[true, true, true, true, true, true, true, false, true, true, true, false, false, true, true, false, false, false, false] rfl rfl (by kernel_rfl) (fun _ _ _ h => h) (Or.inl ⟨by rfl, ?_⟩) ?_ ?_
  rotate_left
  · intro w'
    go_simp
    with_reducible rfl
  rotate_left
  · simp only [Act.put, List.setIfInBounds_toArray, List.set_cons_zero, List.set_cons_succ, i64_w, i32_w]
    rfl
  refine pure_ (i := 15) (N := some 20) (v := ?_) (a' := ?_) #[true, true, true, true, true, true, true, false, true, true, true, false, false, true, true, true, false, false, false] rfl rfl (by kernel_rfl) (fun _ _ _ h => h) (Or.inl ⟨by rfl, ?_⟩) ?_ ?_
  rotate_left
  · intro w'
    go_simp
    with_reducible rfl
  rotate_left
  · simp only [Act.put, List.setIfInBounds_toArray, List.set_cons_zero, List.set_cons_succ, i64_w, i32_w]
    rfl
  refine take_ (i := 7) (N := some 12) (v := ?_) (a' := ?_) #[true, true, true, true, true, true, true, true, true, true, true, false, false, true, true, true, false, false, false] rfl rfl (by kernel_rfl) (fun _ _ _ h => h) (Or.inl ⟨by rfl, ?_⟩) hHeld ?_ ?_
  rotate_left
  · rintro w' ⟨s0, s1, s2, s3, s4, s5, s6⟩
    go_simp
    with_reducible rfl
  rotate_left
  · simp only [Act.put, List.setIfInBounds_toArray, List.set_cons_zero, List.set_cons_succ, i64_w, i32_w]
    rfl
  refine take_ (i := 11) (N := some 16) (v := ?_) (a' := ?_) #[true, true, true, true, true, true, true, true, true, true, true, true, false, true, true, true, false, false, false] rfl rfl (by kernel_rfl) (fun _ _ _ h => h) (Or.inl ⟨by rfl, ?_⟩) hHeld ?_ ?_
  rotate_left
  · rintro w' ⟨s0, s1, s2, s3, s4, s5, s6⟩
    go_simp
    with_reducible rfl
  rotate_left
  · simp only [Act.put, List.setIfInBounds_toArray, List.set_cons_zero, List.set_cons_succ, i64_w, i32_w]
    rfl
  refine take_ (i := 16) (N := some 21) (v := ?_) (a' := ?_) #[true, true, true, true, true, true, true, true, true, true, true, true, false, true, true, true, true, false, false] rfl rfl (by kernel_rfl) (fun _ _ _ h => h) (Or.inl ⟨by rfl, ?_⟩) hHeld ?_ ?_
  rotate_left
  · rintro w' ⟨s0, s1, s2, s3, s4, s5, s6⟩
    go_simp
    with_reducible rfl
  rotate_left
  · simp only [Act.put, List.setIfInBounds_toArray, List.set_cons_zero, List.set_cons_succ, i64_w, i32_w]
    rfl
  refine one_ (i := 12) (N := some 17) #[true, true, true, true, true, true, true, true, true, true, true, true, true, true, true, true, true, false, false] rfl rfl (by kernel_rfl) (by decide) (fun K hK => ?_)
  refine goes_ Try.func60 (by kernel_rfl) rfl #[.agg #[.int .i64 v.f0, .int .i64 v.f1, .string v.f2], .agg #[.int .i64 u.f0, .int .i64 u.f1, .string u.f2]] (by rfl) rfl rfl (by simp only [List.map_toArray, List.map_cons, List.map_nil]; rfl) ?_
  with_reducible refine (compare_calls v u _).mono ?_
  rintro e w2 ⟨rfl, h2⟩
  refine ⟨_, rfl, ?_⟩
  have n0_ := Aside0.mk (BA.below HI.out.drew h2)
  clear h2 HI
  have HI := n0_
  clear n0_
  refine hK.out _ _ ⟨(blk_cell (HI.out).1 0).trans rfl, (blk_cell (HI.out).1 1).trans rfl, (blk_cell (HI.out).1 2).trans rfl, (blk_cell (HI.out).1 3).trans rfl, (HI.out).v0, (HI.out).v1, (HI.out).v2⟩ (fun hHeld => ?_)
  clear hK K
  refine norm_ (a' := ?_) ?_ ?_
  rotate_left
  · show Act.put _ (some 17) _ = _
    simp only [Act.put, List.setIfInBounds_toArray, List.set_cons_zero, List.set_cons_succ, i64_w, i32_w]
    rfl
  refine pure_ (i := 17) (N := some 22) (v := ?_) (a' := ?_) #[true, true, true, true, true, true, true, true, true, true, true, true, true, true, true, true, true, true, false] rfl rfl (by kernel_rfl) (fun _ _ _ h => h) (Or.inl ⟨by rfl, ?_⟩) ?_ ?_
  rotate_left
  · intro w'
    go_simp
    with_reducible rfl
  rotate_left
  · simp only [Act.put, List.setIfInBounds_toArray, List.set_cons_zero, List.set_cons_succ, i64_w, i32_w]
    rfl
  refine pure_ (i := 18) (N := some 23) (v := ?_) (a' := ?_) #[true, true, true, true, true, true, true, true, true, true, true, true, true, true, true, true, true, true, true] rfl rfl (by kernel_rfl) (fun _ _ _ h => h) (Or.inl ⟨by rfl, ?_⟩) ?_ ?_
  rotate_left
  · intro w'
    go_simp
    with_reducible rfl
  rotate_left
  · simp only [Act.put, List.setIfInBounds_toArray, List.set_cons_zero, List.set_cons_succ, i64_w, i32_w]
    rfl
  refine done_ (by kernel_rfl) ?_
  refine at_exit (fun w' => BA g w.heap.size #[.int .i64 u.f0, .int .i64 u.f1, .string u.f2, .int .i64 sg] 55 v w w') HI.out (fun w3 hI => ?_)
  clear HI
  have HI := Aside0.mk hI
  clear hI
  have c0 : World.cell? w3 ⟨g, 0, none⟩ = some (.int .i64 u.f0) := (blk_cell HI.out.1 0).trans rfl
  have c1 : World.cell? w3 ⟨g, 1, none⟩ = some (.int .i64 u.f1) := (blk_cell HI.out.1 1).trans rfl
  have c2 : World.cell? w3 ⟨g, 2, none⟩ = some (.string u.f2) := (blk_cell HI.out.1 2).trans rfl
  have f0 := blk_frozen HI.out.1 0
  have f1 := blk_frozen HI.out.1 1
  have f2 := blk_frozen HI.out.1 2
  have d0 : World.cell? w3 _ = _ := HI.out.v0
  have d1 : World.cell? w3 _ = _ := HI.out.v1
  have d2 : World.cell? w3 _ = _ := HI.out.v2
  go_wp2_with fail
  go_ret
  exact ⟨rfl, blk_put (blk_put (blk_put HI.out.1 0 (.int .i64 v.f0) rfl) 1 (.int .i64 v.f1) rfl) 2 (.string v.f2) rfl, below_set3 (HI.out.2.2.mono HL.out) HB.out _ _ _ _ _ _, keep_set (keep_set (keep_set HI.out.keep 0 _) 1 _) 2 _⟩
set_option maxHeartbeats 2000000 in
set_option maxRecDepth 100000 in
theorem best_add.stay (g : Nat) (u : S32) (sg : Int) (v : S32) (w : World) (hg : w.heap[g]? = some (.cells #[.int .i64 u.f0, .int .i64 u.f1, .string u.f2, .int .i64 sg] 55 (0, 0))) (B : Nat) (hB : B ≤ g) (h0 : ¬ u.f0 = 0) (h1 : ¬ cmpV v u = sg) :
    Calls Try.prog 76 #[.pointer (some ⟨g, 0, none⟩), .agg #[.int .i64 v.f0, .int .i64 v.f1, .string v.f2]] w fun e w' =>
      e = .returned (.int .i64 0) ∧ w'.heap[g]? = some (.cells #[.int .i64 u.f0, .int .i64 u.f1, .string u.f2, .int .i64 sg] 55 (0, 0)) ∧ Below B w w' ∧ KeepBut w w' g none := by
  have hu := Try.underlying32
  have HS := Aside0.mk (BA.start (v := v) hg)
  have HL := Aside0.mk (Nat.le_trans hB (Nat.le_of_lt (blk_lt hg)))
  have HB := Aside0.mk hB
  have HN := Aside0.mk (Nat.ne_of_lt (blk_lt hg))
  have q0 : (u.f0 == 0) = false := beq_eq_false_iff_ne.mpr h0
  have q1 : (cmpV v u == sg) = false := beq_eq_false_iff_ne.mpr h1
  clear hg hB h0 h1
  go_enter Try.func76, Try.ntmps76
  go_wp2_with fail
  refine at_world (fun w' => BA g w.heap.size #[.int .i64 u.f0, .int .i64 u.f1, .string u.f2, .int .i64 sg] 55 v w w') HS.out (fun w1 hI => ?_)
  have HI := Aside0.mk hI
  clear hI
  refine start_ (n := 19) (S := fun w' => w'.cell? ⟨g, 0, none⟩ = some (.int .i64 u.f0) ∧ w'.cell? ⟨g, 1, none⟩ = some (.int .i64 u.f1) ∧ w'.cell? ⟨g, 2, none⟩ = some (.string u.f2) ∧ w'.cell? ⟨g, 3, none⟩ = some (.int .i64 sg) ∧ w'.cell? ⟨w.heap.size, 0, none⟩ = some (.int .i64 v.f0) ∧ w'.cell? ⟨w.heap.size, 1, none⟩ = some (.int .i64 v.f1) ∧ w'.cell? ⟨w.heap.size, 2, none⟩ = some (.string v.f2)) (ds := []) #[false, false, false, false, false, false, false, false, false, false, false, false, false, false, false, false, false, false, false] (by kernel_rfl) rfl rfl ⟨(blk_cell (HI.out.drew).1 0).trans rfl, (blk_cell (HI.out.drew).1 1).trans rfl, (blk_cell (HI.out.drew).1 2).trans rfl, (blk_cell (HI.out.drew).1 3).trans rfl, (HI.out.drew).v0, (HI.out.drew).v1, (HI.out.drew).v2⟩ (fun hHeld => ?_)
  refine pure_ (i := 0) (N := some 5) (v := ?_) (a' := ?_) #[true, false, false, false, false, false, false, false, false, false, false, false, false, false, false, false, false, false, false] rfl rfl (by kernel_rfl) (fun _ _ _ h => h) (Or.inl ⟨by rfl, ?_⟩) ?_ ?_
  rotate_left
  · intro w'
    go_simp
    with_reducible rfl
  rotate_left
  · simp only [Act.put, List.setIfInBounds_toArray, List.set_cons_zero, List.set_cons_succ, i64_w, i32_w]
    rfl
  refine pure_ (i := 1) (N := some 6) (v := ?_) (a' := ?_) #[true, true, false, false, false, false, false, false, false, false, false, false, false, false, false, false, false, false, false] rfl rfl (by kernel_rfl) (fun _ _ _ h => h) (Or.inl ⟨by rfl, ?_⟩) ?_ ?_
  rotate_left
  · intro w'
    go_simp
    with_reducible rfl
  rotate_left
  · simp only [Act.put, List.setIfInBounds_toArray, List.set_cons_zero, List.set_cons_succ, i64_w, i32_w]
    rfl
  refine pure_ (i := 2) (N := some 7) (v := ?_) (a' := ?_) #[true, true, true, false, false, false, false, false, false, false, false, false, false, false, false, false, false, false, false] rfl rfl (by kernel_rfl) (fun _ _ _ h => h) (Or.inl ⟨by rfl, ?_⟩) ?_ ?_
  rotate_left
  · intro w'
    go_simp
    with_reducible rfl
  rotate_left
  · simp only [Act.put, List.setIfInBounds_toArray, List.set_cons_zero, List.set_cons_succ, i64_w, i32_w]
    rfl
  refine pure_ (i := 3) (N := some 8) (v := ?_) (a' := ?_) #[true, true, true, true, false, false, false, false, false, false, false, false, false, false, false, false, false, false, false] rfl rfl (by kernel_rfl) (fun _ _ _ h => h) (Or.inl ⟨by rfl, ?_⟩) ?_ ?_
  rotate_left
  · intro w'
    go_simp
    with_reducible rfl
  rotate_left
  · simp only [Act.put, List.setIfInBounds_toArray, List.set_cons_zero, List.set_cons_succ, i64_w, i32_w]
    rfl
  refine take_ (i := 4) (N := some 9) (v := ?_) (a' := ?_) #[true, true, true, true, true, false, false, false, false, false, false, false, false, false, false, false, false, false, false] rfl rfl (by kernel_rfl) (fun _ _ _ h => h) (Or.inl ⟨by rfl, ?_⟩) hHeld ?_ ?_
  rotate_left
  · rintro w' ⟨s0, s1, s2, s3, s4, s5, s6⟩
    go_simp
    with_reducible rfl
  rotate_left
  · simp only [Act.put, List.setIfInBounds_toArray, List.set_cons_zero, List.set_cons_succ, i64_w, i32_w]
    rfl
  refine pure_ (i := 5) (N := some 10) (v := ?_) (a' := ?_) #[true, true, true, true, true, true, false, false, false, false, false, false, false, false, false, false, false, false, false] rfl rfl (by kernel_rfl) (fun _ _ _ h => h) (Or.inl ⟨by rfl, ?_⟩) ?_ ?_
  rotate_left
  · intro w'
    go_simp
    with_reducible rfl
  rotate_left
  · simp only [Act.put, List.setIfInBounds_toArray, List.set_cons_zero, List.set_cons_succ, i64_w, i32_w]
    rfl
  refine pure_ (i := 6) (N := some 11) (v := ?_) (a' := ?_) #[true, true, true, true, true, true, true, false, false, false, false, false, false, false, false, false, false, false, false] rfl rfl (by kernel_rfl) (fun _ _ _ h => h) (Or.inl ⟨by rfl, ?_⟩) ?_ ?_
  rotate_left
  · intro w'
    go_simp
    with_reducible rfl
  rotate_left
  · simp only [Act.put, List.setIfInBounds_toArray, List.set_cons_zero, List.set_cons_succ, i64_w, i32_w]
    rfl
  refine pure_ (i := 8) (N := some 13) (v := ?_) (a' := ?_) #[true, true, true, true, true, true, true, false, true, false, false, false, false, false, false, false, false, false, false] rfl rfl (by kernel_rfl) (fun _ _ _ h => h) (Or.inl ⟨by rfl, ?_⟩) ?_ ?_
  rotate_left
  · intro w'
    go_simp
    with_reducible rfl
  rotate_left
  · simp only [Act.put, List.setIfInBounds_toArray, List.set_cons_zero, List.set_cons_succ, i64_w, i32_w]
    rfl
  refine pure_ (i := 9) (N := some 14) (v := ?_) (a' := ?_) #[true, true, true, true, true, true, true, false, true, true, false, false, false, false, false, false, false, false, false] rfl rfl (by kernel_rfl) (fun _ _ _ h => h) (Or.inl ⟨by rfl, ?_⟩) ?_ ?_
  rotate_left
  · intro w'
    go_simp
    with_reducible rfl
  rotate_left
  · simp only [Act.put, List.setIfInBounds_toArray, List.set_cons_zero, List.set_cons_succ, i64_w, i32_w]
    rfl
  refine pure_ (i := 10) (N := some 15) (v := ?_) (a' := ?_) #[true, true, true, true, true, true, true, false, true, true, true, false, false, false, false, false, false, false, false] rfl rfl (by kernel_rfl) (fun _ _ _ h => h) (Or.inl ⟨by rfl, ?_⟩) ?_ ?_
  rotate_left
  · intro w'
    go_simp
    with_reducible rfl
  rotate_left
  · simp only [Act.put, List.setIfInBounds_toArray, List.set_cons_zero, List.set_cons_succ, i64_w, i32_w]
    rfl
  refine pure_ (i := 13) (N := some 18) (v := ?_) (a' := ?_) #[true, true, true, true, true, true, true, false, true, true, true, false, false, true, false, false, false, false, false] rfl rfl (by kernel_rfl) (fun _ _ _ h => h) (Or.inl ⟨by rfl, ?_⟩) ?_ ?_
  rotate_left
  · intro w'
    go_simp
    with_reducible rfl
  rotate_left
  · simp only [Act.put, List.setIfInBounds_toArray, List.set_cons_zero, List.set_cons_succ, i64_w, i32_w]
    rfl
  refine pure_ (i := 14) (N := some 19) (v := ?_) (a' := ?_) #[true, true, true, true, true, true, true, false, true, true, true, false, false, true, true, false, false, false, false] rfl rfl (by kernel_rfl) (fun _ _ _ h => h) (Or.inl ⟨by rfl, ?_⟩) ?_ ?_
  rotate_left
  · intro w'
    go_simp
    with_reducible rfl
  rotate_left
  · simp only [Act.put, List.setIfInBounds_toArray, List.set_cons_zero, List.set_cons_succ, i64_w, i32_w]
    rfl
  refine pure_ (i := 15) (N := some 20) (v := ?_) (a' := ?_) #[true, true, true, true, true, true, true, false, true, true, true, false, false, true, true, true, false, false, false] rfl rfl (by kernel_rfl) (fun _ _ _ h => h) (Or.inl ⟨by rfl, ?_⟩) ?_ ?_
  rotate_left
  · intro w'
    go_simp
    with_reducible rfl
  rotate_left
  · simp only [Act.put, List.setIfInBounds_toArray, List.set_cons_zero, List.set_cons_succ, i64_w, i32_w]
    rfl
  refine take_ (i := 7) (N := some 12) (v := ?_) (a' := ?_) #[true, true, true, true, true, true, true, true, true, true, true, false, false, true, true, true, false, false, false] rfl rfl (by kernel_rfl) (fun _ _ _ h => h) (Or.inl ⟨by rfl, ?_⟩) hHeld ?_ ?_
  rotate_left
  · rintro w' ⟨s0, s1, s2, s3, s4, s5, s6⟩
    go_simp
    with_reducible rfl
  rotate_left
  · simp only [Act.put, List.setIfInBounds_toArray, List.set_cons_zero, List.set_cons_succ, i64_w, i32_w]
    rfl
  refine take_ (i := 11) (N := some 16) (v := ?_) (a' := ?_) #[true, true, true, true, true, true, true, true, true, true, true, true, false, true, true, true, false, false, false] rfl rfl (by kernel_rfl) (fun _ _ _ h => h) (Or.inl ⟨by rfl, ?_⟩) hHeld ?_ ?_
  rotate_left
  · rintro w' ⟨s0, s1, s2, s3, s4, s5, s6⟩
    go_simp
    with_reducible rfl
  rotate_left
  · simp only [Act.put, List.setIfInBounds_toArray, List.set_cons_zero, List.set_cons_succ, i64_w, i32_w]
    rfl
  refine take_ (i := 16) (N := some 21) (v := ?_) (a' := ?_) #[true, true, true, true, true, true, true, true, true, true, true, true, false, true, true, true, true, false, false] rfl rfl (by kernel_rfl) (fun _ _ _ h => h) (Or.inl ⟨by rfl, ?_⟩) hHeld ?_ ?_
  rotate_left
  · rintro w' ⟨s0, s1, s2, s3, s4, s5, s6⟩
    go_simp
    with_reducible rfl
  rotate_left
  · simp only [Act.put, List.setIfInBounds_toArray, List.set_cons_zero, List.set_cons_succ, i64_w, i32_w]
    rfl
  refine one_ (i := 12) (N := some 17) #[true, true, true, true, true, true, true, true, true, true, true, true, true, true, true, true, true, false, false] rfl rfl (by kernel_rfl) (by decide) (fun K hK => ?_)
  refine goes_ Try.func60 (by kernel_rfl) rfl #[.agg #[.int .i64 v.f0, .int .i64 v.f1, .string v.f2], .agg #[.int .i64 u.f0, .int .i64 u.f1, .string u.f2]] (by rfl) rfl rfl (by simp only [List.map_toArray, List.map_cons, List.map_nil]; rfl) ?_
  with_reducible refine (compare_calls v u _).mono ?_
  rintro e w2 ⟨rfl, h2⟩
  refine ⟨_, rfl, ?_⟩
  have n0_ := Aside0.mk (BA.below HI.out.drew h2)
  clear h2 HI
  have HI := n0_
  clear n0_
  refine hK.out _ _ ⟨(blk_cell (HI.out).1 0).trans rfl, (blk_cell (HI.out).1 1).trans rfl, (blk_cell (HI.out).1 2).trans rfl, (blk_cell (HI.out).1 3).trans rfl, (HI.out).v0, (HI.out).v1, (HI.out).v2⟩ (fun hHeld => ?_)
  clear hK K
  refine norm_ (a' := ?_) ?_ ?_
  rotate_left
  · show Act.put _ (some 17) _ = _
    simp only [Act.put, List.setIfInBounds_toArray, List.set_cons_zero, List.set_cons_succ, i64_w, i32_w]
    rfl
  refine pure_ (i := 17) (N := some 22) (v := ?_) (a' := ?_) #[true, true, true, true, true, true, true, true, true, true, true, true, true, true, true, true, true, true, false] rfl rfl (by kernel_rfl) (fun _ _ _ h => h) (Or.inl ⟨by rfl, ?_⟩) ?_ ?_
  rotate_left
  · intro w'
    go_simp
    with_reducible rfl
  rotate_left
  · simp only [Act.put, List.setIfInBounds_toArray, List.set_cons_zero, List.set_cons_succ, i64_w, i32_w]
    rfl
  refine pure_ (i := 18) (N := some 23) (v := ?_) (a' := ?_) #[true, true, true, true, true, true, true, true, true, true, true, true, true, true, true, true, true, true, true] rfl rfl (by kernel_rfl) (fun _ _ _ h => h) (Or.inl ⟨by rfl, ?_⟩) ?_ ?_
  rotate_left
  · intro w'
    go_simp
    with_reducible rfl
  rotate_left
  · simp only [Act.put, List.setIfInBounds_toArray, List.set_cons_zero, List.set_cons_succ, i64_w, i32_w]
    rfl
  refine done_ (by kernel_rfl) ?_
  refine at_exit (fun w' => BA g w.heap.size #[.int .i64 u.f0, .int .i64 u.f1, .string u.f2, .int .i64 sg] 55 v w w') HI.out (fun w3 hI => ?_)
  clear HI
  have HI := Aside0.mk hI
  clear hI
  go_wp2_with fail
  go_ret
  exact ⟨rfl, HI.out.1, HI.out.2.2.mono HL.out, HI.out.keep⟩
theorem bin_err {op : Int} {u v : S32} {c : Int} (h : bin op u v = .error c) : ¬ c = 0 := by
  unfold bin at h
  by_cases h1 : ¬ (3 ≤ op ∧ op ≤ 16)
  · rw [if_pos h1] at h; cases h; decide
  rw [if_neg h1] at h
  by_cases h2 : ¬ kindsP op u.f0 v.f0
  · rw [if_pos h2] at h; cases h; decide
  rw [if_neg h2] at h
  by_cases h3 : op ≤ 4
  · rw [if_pos h3] at h; cases h
  rw [if_neg h3] at h
  by_cases h4 : u.f0 = 0 ∨ v.f0 = 0
  · rw [if_pos h4] at h; cases h
  rw [if_neg h4] at h
  by_cases h5 : op ≤ 10
  · rw [if_pos h5] at h; cases h
  rw [if_neg h5] at h
  by_cases h6 : op = 16
  · rw [if_pos h6] at h
    by_cases h7 : u.f2.size + v.f2.size ≤ 2048
    · rw [if_pos h7] at h; cases h
    · rw [if_neg h7] at h; cases h; decide
  rw [if_neg h6] at h
  unfold sumP prodP at h
  repeat (first | split at h | (simp only [numE] at h; cases h; decide) | (simp only [numE] at h; cases h))
def sumA (s v : S32) : S32 × Int := match bin 11 (if s.f0 = 0 then numV 0 else s) v with | .ok r => (r, 0) | .error c => (s, c)
set_option maxHeartbeats 2000000 in
set_option maxRecDepth 100000 in
theorem sum_add.moreOk (g : Nat) (s v : S32) (w : World) (hg : w.heap[g]? = some (.cells #[.int .i64 s.f0, .int .i64 s.f1, .string s.f2] 52 (0, 0))) (hs : FitsV s) (hv : FitsV v) (B : Nat) (hB : B ≤ g) (h0 : ¬ s.f0 = 0) (r : S32) (hr : bin 11 (s) v = .ok r) :
    Calls Try.prog 50 #[.pointer (some ⟨g, 0, none⟩), .agg #[.int .i64 v.f0, .int .i64 v.f1, .string v.f2]] w fun e w' =>
      e = .returned (.int .i64 0) ∧ w'.heap[g]? = some (.cells #[.int .i64 r.f0, .int .i64 r.f1, .string r.f2] 52 (0, 0)) ∧ Below B w w' ∧ KeepBut w w' g none := by
  have hu := Try.underlying32
  have H1 := Aside0.mk (blk_alloc hg (.cells #[.int .i64 v.f0, .int .i64 v.f1, .string v.f2] 32))
  have HL := Aside0.mk (Nat.le_trans hB (Nat.le_of_lt (blk_lt hg)))
  have HB := Aside0.mk hB
  have HG := Aside0.mk hg
  have hc0 : World.cell? _ ⟨g, 0, none⟩ = some (.int .i64 s.f0) := (blk_cell H1.out 0).trans rfl
  have hc1 : World.cell? _ ⟨g, 1, none⟩ = some (.int .i64 s.f1) := (blk_cell H1.out 1).trans rfl
  have hc2 : World.cell? _ ⟨g, 2, none⟩ = some (.string s.f2) := (blk_cell H1.out 2).trans rfl
  have q0 : (s.f0 == 0) = false := beq_eq_false_iff_ne.mpr h0
  have HR := Aside0.mk hr
  have HS := Aside0.mk hs
  have HV := Aside0.mk hv
  have HC : Aside0 (True) := ⟨trivial⟩
  clear hg hB h0 hr hs hv
  go_enter Try.func50, Try.ntmps50
  go_wp2_with fail
  obtain ⟨W2, hW2⟩ : ∃ W2, (w.alloc (.cells #[.int .i64 v.f0, .int .i64 v.f1, .string v.f2] 32)).alloc (.cells #[.int .i64 s.f0, .int .i64 s.f1, .string s.f2] 32) = W2 := ⟨_, rfl⟩
  have FB2 : Below w.heap.size w W2 := by rw [← hW2]; exact below_alloc (below_alloc (Below.refl _ _) _) _
  rw [hW2]
  clear hc0 hc1 hc2
  refine (calc_Binary.calls 11 (s) v HS.out.1 HV.out.1 (by have h1 := HV.out.2; have h2 := HS.out.2; have h3 : V0.size = 0 := rfl; show (s.f2).size + v.f2.size < _; omega) _).mono ?_
  rintro e w2 ⟨rfl, hb⟩
  rw [HR.out]
  have GB2 := Aside0.mk (below_step FB2 hb)
  have G2 := Aside0.mk (blk_alloc (blk_below HG.out GB2.out) (.cells #[.int .i64 r.f0, .int .i64 r.f1, .string r.f2] 32))
  clear FB2 hb hW2
  simp only [outE, encV]
  have c0 : World.cell? _ ⟨g, 0, none⟩ = some (.int .i64 s.f0) := (blk_cell G2.out 0).trans rfl
  have c1 : World.cell? _ ⟨g, 1, none⟩ = some (.int .i64 s.f1) := (blk_cell G2.out 1).trans rfl
  have c2 : World.cell? _ ⟨g, 2, none⟩ = some (.string s.f2) := (blk_cell G2.out 2).trans rfl
  have f0 := blk_frozen G2.out 0
  have f1 := blk_frozen G2.out 1
  have f2 := blk_frozen G2.out 2
  go_wp2_with fail
  go_ret
  exact ⟨rfl, blk_put (blk_put (blk_put G2.out 0 (.int .i64 r.f0) rfl) 1 (.int .i64 r.f1) rfl) 2 (.string r.f2) rfl, below_set3 ((below_alloc GB2.out _).mono HL.out) HB.out _ _ _ _ _ _, keep_set (keep_set (keep_set (KeepBut.of_below (below_alloc GB2.out _) _ _) 0 _) 1 _) 2 _⟩
set_option maxHeartbeats 2000000 in
set_option maxRecDepth 100000 in
theorem sum_add.moreNo (g : Nat) (s v : S32) (w : World) (hg : w.heap[g]? = some (.cells #[.int .i64 s.f0, .int .i64 s.f1, .string s.f2] 52 (0, 0))) (hs : FitsV s) (hv : FitsV v) (B : Nat) (hB : B ≤ g) (h0 : ¬ s.f0 = 0) (c : Int) (hr : bin 11 (s) v = .error c) :
    Calls Try.prog 50 #[.pointer (some ⟨g, 0, none⟩), .agg #[.int .i64 v.f0, .int .i64 v.f1, .string v.f2]] w fun e w' =>
      e = .returned (.int .i64 c) ∧ w'.heap[g]? = some (.cells #[.int .i64 s.f0, .int .i64 s.f1, .string s.f2] 52 (0, 0)) ∧ Below B w w' ∧ KeepBut w w' g none := by
  have hu := Try.underlying32
  have H1 := Aside0.mk (blk_alloc hg (.cells #[.int .i64 v.f0, .int .i64 v.f1, .string v.f2] 32))
  have HL := Aside0.mk (Nat.le_trans hB (Nat.le_of_lt (blk_lt hg)))
  have HB := Aside0.mk hB
  have HG := Aside0.mk hg
  have hc0 : World.cell? _ ⟨g, 0, none⟩ = some (.int .i64 s.f0) := (blk_cell H1.out 0).trans rfl
  have hc1 : World.cell? _ ⟨g, 1, none⟩ = some (.int .i64 s.f1) := (blk_cell H1.out 1).trans rfl
  have hc2 : World.cell? _ ⟨g, 2, none⟩ = some (.string s.f2) := (blk_cell H1.out 2).trans rfl
  have q0 : (s.f0 == 0) = false := beq_eq_false_iff_ne.mpr h0
  have HR := Aside0.mk hr
  have HS := Aside0.mk hs
  have HV := Aside0.mk hv
  have HC : Aside0 (¬ c = 0) := ⟨bin_err hr⟩
  clear hg hB h0 hr hs hv
  go_enter Try.func50, Try.ntmps50
  go_wp2_with fail
  obtain ⟨W2, hW2⟩ : ∃ W2, (w.alloc (.cells #[.int .i64 v.f0, .int .i64 v.f1, .string v.f2] 32)).alloc (.cells #[.int .i64 s.f0, .int .i64 s.f1, .string s.f2] 32) = W2 := ⟨_, rfl⟩
  have FB2 : Below w.heap.size w W2 := by rw [← hW2]; exact below_alloc (below_alloc (Below.refl _ _) _) _
  rw [hW2]
  clear hc0 hc1 hc2
  refine (calc_Binary.calls 11 (s) v HS.out.1 HV.out.1 (by have h1 := HV.out.2; have h2 := HS.out.2; have h3 : V0.size = 0 := rfl; show (s.f2).size + v.f2.size < _; omega) _).mono ?_
  rintro e w2 ⟨rfl, hb⟩
  rw [HR.out]
  have GB2 := Aside0.mk (below_step FB2 hb)
  have G2 := Aside0.mk (blk_alloc (blk_below HG.out GB2.out) (.cells #[.int .i64 (⟨0, 0, V0⟩ : S32).f0, .int .i64 (⟨0, 0, V0⟩ : S32).f1, .string (⟨0, 0, V0⟩ : S32).f2] 32))
  clear FB2 hb hW2
  simp only [outE, encV]
  have qc : (c == 0) = false := beq_eq_false_iff_ne.mpr HC.out
  go_wp2_with fail
  go_ret
  exact ⟨rfl, G2.out, (below_alloc GB2.out _).mono HL.out, KeepBut.of_below (below_alloc GB2.out _) _ _⟩
set_option maxHeartbeats 2000000 in
set_option maxRecDepth 100000 in
theorem sum_add.nullOk (g : Nat) (s v : S32) (w : World) (hg : w.heap[g]? = some (.cells #[.int .i64 s.f0, .int .i64 s.f1, .string s.f2] 52 (0, 0))) (hs : FitsV s) (hv : FitsV v) (B : Nat) (hB : B ≤ g) (h0 : s.f0 = 0) (r : S32) (hr : bin 11 (numV 0) v = .ok r) :
    Calls Try.prog 50 #[.pointer (some ⟨g, 0, none⟩), .agg #[.int .i64 v.f0, .int .i64 v.f1, .string v.f2]] w fun e w' =>
      e = .returned (.int .i64 0) ∧ w'.heap[g]? = some (.cells #[.int .i64 r.f0, .int .i64 r.f1, .string r.f2] 52 (0, 0)) ∧ Below B w w' ∧ KeepBut w w' g none := by
  have hu := Try.underlying32
  have H1 := Aside0.mk (blk_alloc hg (.cells #[.int .i64 v.f0, .int .i64 v.f1, .string v.f2] 32))
  have HL := Aside0.mk (Nat.le_trans hB (Nat.le_of_lt (blk_lt hg)))
  have HB := Aside0.mk hB
  have HG := Aside0.mk hg
  have hc0 : World.cell? _ ⟨g, 0, none⟩ = some (.int .i64 s.f0) := (blk_cell H1.out 0).trans rfl
  have hc1 : World.cell? _ ⟨g, 1, none⟩ = some (.int .i64 s.f1) := (blk_cell H1.out 1).trans rfl
  have hc2 : World.cell? _ ⟨g, 2, none⟩ = some (.string s.f2) := (blk_cell H1.out 2).trans rfl
  have q0 : (s.f0 == 0) = true := beq_iff_eq.mpr h0
  have HR := Aside0.mk hr
  have HS := Aside0.mk hs
  have HV := Aside0.mk hv
  have HC : Aside0 (True) := ⟨trivial⟩
  clear hg hB h0 hr hs hv
  go_enter Try.func50, Try.ntmps50
  go_wp2_with fail
  obtain ⟨W, hW⟩ : ∃ W, (w.alloc (.cells #[.int .i64 v.f0, .int .i64 v.f1, .string v.f2] 32)).alloc (.cells #[.int .i64 s.f0, .int .i64 s.f1, .string s.f2] 32) = W := ⟨_, rfl⟩
  have F0 : W.heap[w.heap.size]? = some (.cells #[.int .i64 v.f0, .int .i64 v.f1, .string v.f2] 32 (0, 0)) := by rw [← hW]; exact blk_alloc (Deep.blk_alloc_new w _) _
  have F1 : W.heap[w.heap.size + 1]? = some (.cells #[.int .i64 s.f0, .int .i64 s.f1, .string s.f2] 32 (0, 0)) := by
    have := Deep.blk_alloc_new (w.alloc (.cells #[.int .i64 v.f0, .int .i64 v.f1, .string v.f2] 32)) (.cells #[.int .i64 s.f0, .int .i64 s.f1, .string s.f2] 32)
    rw [← hW]
    simpa using this
  have FB : Below w.heap.size w W := by rw [← hW]; exact below_alloc (below_alloc (Below.refl _ _) _) _
  rw [hW]
  refine (agg_number.calls 0 _ _ _ _ (show agg_number.f 0 = some (2, 0, V0) from rfl)).mono ?_
  rintro e w1 ⟨rfl, hb⟩
  have G0 := Aside0.mk (blk_below F0 hb)
  have G1 := Aside0.mk (blk_below F1 hb)
  have GB := Aside0.mk (below_step FB hb)
  clear F0 F1 FB hb hW hc0 hc1 hc2
  have e0 : World.cell? w1 ⟨w.heap.size, 0, none⟩ = some (.int .i64 v.f0) := (blk_cell G0.out 0).trans rfl
  have e1 : World.cell? w1 ⟨w.heap.size, 1, none⟩ = some (.int .i64 v.f1) := (blk_cell G0.out 1).trans rfl
  have e2 : World.cell? w1 ⟨w.heap.size, 2, none⟩ = some (.string v.f2) := (blk_cell G0.out 2).trans rfl
  have d0 : World.cell? w1 ⟨w.heap.size + 1, 0, none⟩ = some (.int .i64 s.f0) := (blk_cell G1.out 0).trans rfl
  have d1 : World.cell? w1 ⟨w.heap.size + 1, 1, none⟩ = some (.int .i64 s.f1) := (blk_cell G1.out 1).trans rfl
  have d2 : World.cell? w1 ⟨w.heap.size + 1, 2, none⟩ = some (.string s.f2) := (blk_cell G1.out 2).trans rfl
  have df0 := blk_frozen G1.out 0
  have df1 := blk_frozen G1.out 1
  have df2 := blk_frozen G1.out 2
  have hne : ¬ w.heap.size = w.heap.size + 1 := by omega
  have hne' : ¬ w.heap.size + 1 = w.heap.size := by omega
  go_wp2_with fail
  obtain ⟨W2, hW2⟩ : ∃ W2, ((w1.setCell ⟨w.heap.size + 1, 0, none⟩ (.int .i64 2)).setCell ⟨w.heap.size + 1, 1, none⟩ (.int .i64 0)).setCell ⟨w.heap.size + 1, 2, none⟩ (.string V0) = W2 := ⟨_, rfl⟩
  have FB2 : Below w.heap.size w W2 := by rw [← hW2]; exact below_set3 GB.out (Nat.le_succ _) _ _ _ _ _ _
  rw [hW2]
  refine (calc_Binary.calls 11 (numV 0) v (by show In64 0; decide) HV.out.1 (by have h1 := HV.out.2; have h2 := HS.out.2; have h3 : V0.size = 0 := rfl; show (V0).size + v.f2.size < _; omega) _).mono ?_
  rintro e w2 ⟨rfl, hb⟩
  rw [HR.out]
  have GB2 := Aside0.mk (below_step FB2 hb)
  have G2 := Aside0.mk (blk_alloc (blk_below HG.out GB2.out) (.cells #[.int .i64 r.f0, .int .i64 r.f1, .string r.f2] 32))
  clear FB2 hb hW2 e0 e1 e2 d0 d1 d2 df0 df1 df2 hne hne'
  simp only [outE, encV]
  have c0 : World.cell? _ ⟨g, 0, none⟩ = some (.int .i64 s.f0) := (blk_cell G2.out 0).trans rfl
  have c1 : World.cell? _ ⟨g, 1, none⟩ = some (.int .i64 s.f1) := (blk_cell G2.out 1).trans rfl
  have c2 : World.cell? _ ⟨g, 2, none⟩ = some (.string s.f2) := (blk_cell G2.out 2).trans rfl
  have f0 := blk_frozen G2.out 0
  have f1 := blk_frozen G2.out 1
  have f2 := blk_frozen G2.out 2
  go_wp2_with fail
  go_ret
  exact ⟨rfl, blk_put (blk_put (blk_put G2.out 0 (.int .i64 r.f0) rfl) 1 (.int .i64 r.f1) rfl) 2 (.string r.f2) rfl, below_set3 ((below_alloc GB2.out _).mono HL.out) HB.out _ _ _ _ _ _, keep_set (keep_set (keep_set (KeepBut.of_below (below_alloc GB2.out _) _ _) 0 _) 1 _) 2 _⟩
set_option maxHeartbeats 2000000 in
set_option maxRecDepth 100000 in
theorem sum_add.nullNo (g : Nat) (s v : S32) (w : World) (hg : w.heap[g]? = some (.cells #[.int .i64 s.f0, .int .i64 s.f1, .string s.f2] 52 (0, 0))) (hs : FitsV s) (hv : FitsV v) (B : Nat) (hB : B ≤ g) (h0 : s.f0 = 0) (c : Int) (hr : bin 11 (numV 0) v = .error c) :
    Calls Try.prog 50 #[.pointer (some ⟨g, 0, none⟩), .agg #[.int .i64 v.f0, .int .i64 v.f1, .string v.f2]] w fun e w' =>
      e = .returned (.int .i64 c) ∧ w'.heap[g]? = some (.cells #[.int .i64 s.f0, .int .i64 s.f1, .string s.f2] 52 (0, 0)) ∧ Below B w w' ∧ KeepBut w w' g none := by
  have hu := Try.underlying32
  have H1 := Aside0.mk (blk_alloc hg (.cells #[.int .i64 v.f0, .int .i64 v.f1, .string v.f2] 32))
  have HL := Aside0.mk (Nat.le_trans hB (Nat.le_of_lt (blk_lt hg)))
  have HB := Aside0.mk hB
  have HG := Aside0.mk hg
  have hc0 : World.cell? _ ⟨g, 0, none⟩ = some (.int .i64 s.f0) := (blk_cell H1.out 0).trans rfl
  have hc1 : World.cell? _ ⟨g, 1, none⟩ = some (.int .i64 s.f1) := (blk_cell H1.out 1).trans rfl
  have hc2 : World.cell? _ ⟨g, 2, none⟩ = some (.string s.f2) := (blk_cell H1.out 2).trans rfl
  have q0 : (s.f0 == 0) = true := beq_iff_eq.mpr h0
  have HR := Aside0.mk hr
  have HS := Aside0.mk hs
  have HV := Aside0.mk hv
  have HC : Aside0 (¬ c = 0) := ⟨bin_err hr⟩
  clear hg hB h0 hr hs hv
  go_enter Try.func50, Try.ntmps50
  go_wp2_with fail
  obtain ⟨W, hW⟩ : ∃ W, (w.alloc (.cells #[.int .i64 v.f0, .int .i64 v.f1, .string v.f2] 32)).alloc (.cells #[.int .i64 s.f0, .int .i64 s.f1, .string s.f2] 32) = W := ⟨_, rfl⟩
  have F0 : W.heap[w.heap.size]? = some (.cells #[.int .i64 v.f0, .int .i64 v.f1, .string v.f2] 32 (0, 0)) := by rw [← hW]; exact blk_alloc (Deep.blk_alloc_new w _) _
  have F1 : W.heap[w.heap.size + 1]? = some (.cells #[.int .i64 s.f0, .int .i64 s.f1, .string s.f2] 32 (0, 0)) := by
    have := Deep.blk_alloc_new (w.alloc (.cells #[.int .i64 v.f0, .int .i64 v.f1, .string v.f2] 32)) (.cells #[.int .i64 s.f0, .int .i64 s.f1, .string s.f2] 32)
    rw [← hW]
    simpa using this
  have FB : Below w.heap.size w W := by rw [← hW]; exact below_alloc (below_alloc (Below.refl _ _) _) _
  rw [hW]
  refine (agg_number.calls 0 _ _ _ _ (show agg_number.f 0 = some (2, 0, V0) from rfl)).mono ?_
  rintro e w1 ⟨rfl, hb⟩
  have G0 := Aside0.mk (blk_below F0 hb)
  have G1 := Aside0.mk (blk_below F1 hb)
  have GB := Aside0.mk (below_step FB hb)
  clear F0 F1 FB hb hW hc0 hc1 hc2
  have e0 : World.cell? w1 ⟨w.heap.size, 0, none⟩ = some (.int .i64 v.f0) := (blk_cell G0.out 0).trans rfl
  have e1 : World.cell? w1 ⟨w.heap.size, 1, none⟩ = some (.int .i64 v.f1) := (blk_cell G0.out 1).trans rfl
  have e2 : World.cell? w1 ⟨w.heap.size, 2, none⟩ = some (.string v.f2) := (blk_cell G0.out 2).trans rfl
  have d0 : World.cell? w1 ⟨w.heap.size + 1, 0, none⟩ = some (.int .i64 s.f0) := (blk_cell G1.out 0).trans rfl
  have d1 : World.cell? w1 ⟨w.heap.size + 1, 1, none⟩ = some (.int .i64 s.f1) := (blk_cell G1.out 1).trans rfl
  have d2 : World.cell? w1 ⟨w.heap.size + 1, 2, none⟩ = some (.string s.f2) := (blk_cell G1.out 2).trans rfl
  have df0 := blk_frozen G1.out 0
  have df1 := blk_frozen G1.out 1
  have df2 := blk_frozen G1.out 2
  have hne : ¬ w.heap.size = w.heap.size + 1 := by omega
  have hne' : ¬ w.heap.size + 1 = w.heap.size := by omega
  go_wp2_with fail
  obtain ⟨W2, hW2⟩ : ∃ W2, ((w1.setCell ⟨w.heap.size + 1, 0, none⟩ (.int .i64 2)).setCell ⟨w.heap.size + 1, 1, none⟩ (.int .i64 0)).setCell ⟨w.heap.size + 1, 2, none⟩ (.string V0) = W2 := ⟨_, rfl⟩
  have FB2 : Below w.heap.size w W2 := by rw [← hW2]; exact below_set3 GB.out (Nat.le_succ _) _ _ _ _ _ _
  rw [hW2]
  refine (calc_Binary.calls 11 (numV 0) v (by show In64 0; decide) HV.out.1 (by have h1 := HV.out.2; have h2 := HS.out.2; have h3 : V0.size = 0 := rfl; show (V0).size + v.f2.size < _; omega) _).mono ?_
  rintro e w2 ⟨rfl, hb⟩
  rw [HR.out]
  have GB2 := Aside0.mk (below_step FB2 hb)
  have G2 := Aside0.mk (blk_alloc (blk_below HG.out GB2.out) (.cells #[.int .i64 (⟨0, 0, V0⟩ : S32).f0, .int .i64 (⟨0, 0, V0⟩ : S32).f1, .string (⟨0, 0, V0⟩ : S32).f2] 32))
  clear FB2 hb hW2 e0 e1 e2 d0 d1 d2 df0 df1 df2 hne hne'
  simp only [outE, encV]
  have qc : (c == 0) = false := beq_eq_false_iff_ne.mpr HC.out
  go_wp2_with fail
  go_ret
  exact ⟨rfl, G2.out, (below_alloc GB2.out _).mono HL.out, KeepBut.of_below (below_alloc GB2.out _) _ _⟩
end Go.Proofs.Ytgjfciohmgpohaa.P
end
