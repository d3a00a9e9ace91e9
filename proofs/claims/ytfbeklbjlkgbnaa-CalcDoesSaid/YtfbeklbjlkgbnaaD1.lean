/- Written in this session: what the document's Binary's helpers make of values, as plain data. No condition but the kinds of numbers and sizes. -/
import Derived.Test.YtfbeklbjlkgbnaaC6
import Derived.Test.YtfbeklbjlkgbnaaC4
import Derived.Test.YtfbeklbjlkgbnaaB2
import Derived.Test.YtfbeklbjlkgbnaaOrdB
namespace Go.Proofs.Ytfbeklbjlkgbnaa.Pure
set_option linter.unusedVariables false
set_option linter.unusedSimpArgs false
open Go.RowKit Go.Proofs.Ytfbeklbjlkgbnaa.P Go.Proofs.YtfbeklbjlkgbnaaW.PrintWords Go.Proofs.YtfbeklbjlkgbnaaW.PrintLast Go.Proofs.YtfbeklbjlkgbnaaW.PrintMore
def goesP (op a : Int) : Bool := decide (wantsP op = 0 ∨ a = wantsP op ∨ a = 0)
theorem goes_ev {op : Int} (h3 : 3 ≤ op) (h16 : op ≤ 16) (a : Int) : Ev (fun k => quarryref02_goes.f k op a) (goesP op a) := by
  have hj1 : ∀ x : Bool, Ev (fun k => quarryref02_goes.j1 k op a x) (if x = true then a == 1 else if op = 16 then a == 3 else a == 2) := by
    intro x
    refine Ev.succ ?_
    simp only [quarryref02_goes.j1]
    cases x
    · by_cases h : op = 16
      · simp only [h, if_true]; exact Ev.pure _
      · simp only [h, if_false]; exact Ev.pure _
    · exact Ev.pure _
  have hj0 : ∀ x : Bool, Ev (fun k => quarryref02_goes.j0 k op a x) (if x = true then true else if op ≤ 4 then a == 1 else if op = 16 then a == 3 else a == 2) := by
    intro x
    refine Ev.succ ?_
    simp only [quarryref02_goes.j0]
    cases x
    · simp only [Bool.false_eq_true, if_false]
      by_cases e3 : op = 3
      · simp only [e3, if_true, beq_self_eq_true]
        have := hj1 true
        rw [e3] at this
        simpa using this
      · simp only [e3, if_false]
        by_cases e4 : op = 4
        · have := hj1 true
          rw [e4] at this ⊢
          simpa using this
        · have h4 : ¬ op ≤ 4 := by omega
          rw [if_neg h4, beq_eq_false_iff_ne.mpr e4]
          have := hj1 false
          simpa using this
    · exact Ev.pure _
  unfold quarryref02_goes.f goesP wantsP
  by_cases h0 : a = 0
  · have := hj0 true
    subst h0
    simpa using this
  · simp only [h0, if_false, or_false]
    by_cases h5 : op ≥ 5
    · have h4 : ¬ op ≤ 4 := by omega
      simp only [h5, if_true, h4, if_false]
      by_cases h10 : op ≤ 10
      · have := hj0 true
        simpa [h10] using this
      · have := hj0 false
        simp only [Bool.false_eq_true, if_false, h4] at this
        by_cases h16 : op = 16
        · simpa [h10, h16, BEq.beq, eq_comm] using this
        · simpa [h10, h16, BEq.beq, eq_comm] using this
    · have h4 : op ≤ 4 := by omega
      have := hj0 false
      simp only [Bool.false_eq_true, if_false, h4, if_true] at this
      simpa [h5, h4, BEq.beq, eq_comm] using this
theorem truthR_f (b : Bool) : quarryref02_Truth.f b = some ((truthV b).f0, (truthV b).f1, (truthV b).f2) := by cases b <;> rfl
theorem holdsR_f (op c : Int) : quarryref02_holds.f op c = some (holdsP op c) := by
  unfold quarryref02_holds.f holdsP
  repeat' split
  all_goals rfl
theorem logicR_ev {op : Int} (h3 : 3 ≤ op) (h4 : op ≤ 4) (u v : S25) : Ev (fun k => quarryref02_logic.f k op u.f0 u.f1 u.f2 v.f0 v.f1 v.f2) ((logicP u v (truthV (op == 3))).f0, (logicP u v (truthV (op == 3))).f1, (logicP u v (truthV (op == 3))).f2) := by
  have ho : truthV (!decide (truthV (op == 3) = truthV true)) = truthV (op == 4) := by
    rcases (by omega : op = 3 ∨ op = 4) with h | h <;> subst h <;> decide
  obtain ⟨s, hs⟩ : ∃ s, truthV (op == 3) = s := ⟨_, rfl⟩
  rw [hs] at ho ⊢
  have hj0 : ∀ b : Bool, Ev (fun k => quarryref02_logic.j0 k op b u.f0 u.f1 u.f2 v.f0 v.f1 v.f2 s.f0 s.f1 s.f2) (if b = true then (s.f0, s.f1, s.f2) else if u.f0 = 0 ∨ v.f0 = 0 then (0, 0, V0) else ((truthV (op == 4)).f0, (truthV (op == 4)).f1, (truthV (op == 4)).f2)) := by
    intro b
    refine Ev.succ ?_
    simp only [quarryref02_logic.j0, truthR_f, Option.bind_some]
    cases b
    · simp only [Bool.false_eq_true, if_false]
      by_cases h0 : u.f0 = 0
      · simp only [h0, if_true, true_or]; exact Ev.pure _
      · by_cases h1 : v.f0 = 0
        · simp only [h0, h1, if_true, if_false, or_true]; exact Ev.pure _
        · simp only [h0, h1, if_false, or_self]; exact Ev.pure _
    · exact Ev.pure _
  unfold quarryref02_logic.f logicP
  simp only [truthR_f, Option.bind_some, hs, eqb]
  by_cases h0 : u = s
  · have := hj0 true
    simpa [h0] using this
  · have := hj0 (decide (v = s))
    by_cases h1 : v = s
    · simpa [h0, h1] using this
    · simp only [h0, h1, decide_false, Bool.false_eq_true, if_false, or_self, ho] at this ⊢
      by_cases h2 : u.f0 = 0 ∨ v.f0 = 0
      · simp only [h2, if_true] at this ⊢; exact this
      · simp only [h2, if_false] at this ⊢; exact this
theorem wrap_at {n : Int} (h : In64 n) : wrap64 n = n := by unfold In64 at h; unfold wrap64; omega
theorem prod_back {a b : Int} (ha : In64 a) (hb : In64 b) (h0 : ¬ b = 0) (h1 : ¬ b = -1) : ((wrap64 (Int.tdiv (wrap64 (a * b)) b)) == a) = decide (In64 (a * b)) := by
  have hq : wrap64 (Int.tdiv (wrap64 (a * b)) b) = Int.tdiv (wrap64 (a * b)) b := P.quo_in (P.wrap_in _) hb h0 (fun h => h1 h.2)
  rw [hq]
  by_cases h : In64 (a * b)
  · rw [decide_eq_true h, wrap_at h, Int.mul_tdiv_cancel _ h0]
    exact beq_self_eq_true a
  · rw [decide_eq_false h]
    refine beq_eq_false_iff_ne.mpr fun e => h ?_
    have hd := Int.tmod_add_mul_tdiv (wrap64 (a * b)) b
    rw [e] at hd
    have hm : (Int.tmod (wrap64 (a * b)) b).natAbs < b.natAbs := by rw [Int.natAbs_tmod]; exact Nat.mod_lt _ (by omega)
    have hc : b * a = a * b := Int.mul_comm b a
    rw [hc] at hd
    obtain ⟨P, hP⟩ : ∃ P, a * b = P := ⟨_, rfl⟩
    rw [hP] at hd hm ⊢
    unfold In64 at hb ⊢
    unfold wrap64 at hd hm
    obtain ⟨t, ht⟩ : ∃ t, Int.tmod ((P + 9223372036854775808) % 18446744073709551616 - 9223372036854775808) b = t := ⟨_, rfl⟩
    rw [ht] at hd hm
    omega
theorem neg_bne {b : Int} (hb : In64 b) : (b != -9223372036854775808) = decide (In64 (-b)) := by
  by_cases q : b = -9223372036854775808
  · subst q; decide
  · rw [bne_iff_ne.mpr q]
    refine (decide_eq_true ?_).symm
    unfold In64 at hb ⊢
    omega
theorem times_ev {a b : Int} (ha : In64 a) (hb : In64 b) : Ev (fun k => quarryref02_times.f k a b) (wrap64 (a * b), decide (In64 (a * b))) := by
  have h00 : In64 0 := by unfold In64; omega
  have hj : ∀ x : Bool, x = decide (a = 0 ∨ b = 0) → Ev (fun k => quarryref02_times.j0 k a b x) (wrap64 (a * b), decide (In64 (a * b))) := by
    intro x hx
    refine Ev.succ ?_
    simp only [quarryref02_times.j0]
    by_cases h : a = 0 ∨ b = 0
    · have e : a * b = 0 := by rcases h with h | h <;> simp [h]
      rw [hx, decide_eq_true h, e]
      simp only [if_true, wrap_at h00, decide_eq_true h00]
      exact Ev.pure _
    · have na : ¬ a = 0 := fun q => h (.inl q)
      have nb : ¬ b = 0 := fun q => h (.inr q)
      rw [hx, decide_eq_false h]
      simp only [Bool.false_eq_true, if_false]
      by_cases ea : a = -1
      · have e : a * b = -b := by rw [ea]; omega
        simp only [ea, if_true]
        rw [ea] at e
        rw [e]
        rw [neg_bne hb]; exact Ev.pure _
      · simp only [ea, if_false]
        by_cases eb : b = -1
        · have e : a * b = -a := by rw [eb]; omega
          rw [e]
          simp only [eb, if_true, neg_bne ha]
          exact Ev.pure _
        · simp only [eb, nb, if_false, prod_back ha hb nb eb]
          exact Ev.pure _
  unfold quarryref02_times.f
  by_cases h0 : a = 0
  · simp only [if_pos h0]; exact hj true (by simp [h0])
  · simp only [if_neg h0]; exact hj (b == 0) (by by_cases q : b = 0 <;> simp [h0, q])
/-- A sum as the document has it: what is answered, and is it answered. -/
def sumR (op a b : Int) : Int × Bool :=
  if op = 11 then (wrap64 (a + b), decide (In64 (a + b))) else if op = 12 then (wrap64 (a - b), decide (In64 (a - b))) else if op = 13 then (wrap64 (a * b), decide (In64 (a * b)))
  else if op = 14 then (if b = -1 then (wrap64 (-a), a != -9223372036854775808) else (Int.tdiv a b, true)) else if b = -1 then (0, true) else (Int.tmod a b, true)
theorem sumR_ev {op a b : Int} (ha : In64 a) (hb : In64 b) (hz : 14 ≤ op → ¬ b = 0) (ho : 11 ≤ op) : Ev (fun k => quarryref02_sum.f k op a b) (sumR op a b) := by
  unfold quarryref02_sum.f sumR
  by_cases h11 : op = 11
  · simp only [if_pos h11]
    by_cases hb0 : b = 0
    · subst hb0
      rw [Int.add_zero, wrap_at ha, decide_eq_true ha]
      simp only [gt_iff_lt, Int.lt_irrefl, beq_self_eq_true, if_true]
      exact Ev.pure _
    have e : (decide (wrap64 (a + b) > a) == decide (b > 0)) = decide (In64 (a + b)) := by
      by_cases h : In64 (a + b)
      · rw [wrap_at h, decide_eq_true h]
        by_cases q : b > 0
        · rw [decide_eq_true q, decide_eq_true (by omega)]; rfl
        · rw [decide_eq_false q, decide_eq_false (by omega)]; rfl
      · rw [decide_eq_false h]
        unfold In64 at ha hb h
        by_cases q : b > 0
        · rw [decide_eq_true q, decide_eq_false (by unfold wrap64; omega)]; rfl
        · rw [decide_eq_false q, decide_eq_true (by unfold wrap64; omega)]; rfl
    rw [e]
    have : (b == 0) = false := beq_eq_false_iff_ne.mpr hb0
    by_cases h : In64 (a + b)
    · simp only [decide_eq_true h, if_true]; exact Ev.pure _
    · simp only [decide_eq_false h, Bool.false_eq_true, if_false, this]; exact Ev.pure _
  simp only [if_neg h11]
  by_cases h12 : op = 12
  · simp only [if_pos h12]
    by_cases hb0 : b = 0
    · subst hb0
      rw [Int.sub_zero, wrap_at ha, decide_eq_true ha]
      simp only [Int.lt_irrefl, beq_self_eq_true, if_true]
      exact Ev.pure _
    have e : (decide (wrap64 (a - b) < a) == decide (b > 0)) = decide (In64 (a - b)) := by
      by_cases h : In64 (a - b)
      · rw [wrap_at h, decide_eq_true h]
        by_cases q : b > 0
        · rw [decide_eq_true q, decide_eq_true (by omega)]; rfl
        · rw [decide_eq_false q, decide_eq_false (by omega)]; rfl
      · rw [decide_eq_false h]
        unfold In64 at ha hb h
        by_cases q : b > 0
        · rw [decide_eq_true q, decide_eq_false (by unfold wrap64; omega)]; rfl
        · rw [decide_eq_false q, decide_eq_true (by unfold wrap64; omega)]; rfl
    rw [e]
    have : (b == 0) = false := beq_eq_false_iff_ne.mpr hb0
    by_cases h : In64 (a - b)
    · simp only [decide_eq_true h, if_true]; exact Ev.pure _
    · simp only [decide_eq_false h, Bool.false_eq_true, if_false, this]; exact Ev.pure _
  simp only [if_neg h12]
  by_cases h13 : op = 13
  · simp only [if_pos h13]
    exact Ev.bind (times_ev ha hb) (Ev.pure _)
  simp only [if_neg h13]
  have nz := hz (by omega)
  by_cases h14 : op = 14
  · simp only [if_pos h14]
    by_cases hm : b = -1
    · simp only [if_pos hm]; exact Ev.pure _
    · simp only [if_neg hm, if_neg nz, P.quo_in ha hb nz (fun h => hm h.2)]; exact Ev.pure _
  · simp only [if_neg h14]
    by_cases hm : b = -1
    · simp only [if_pos hm]; exact Ev.pure _
    · simp only [if_neg hm, if_neg nz]; exact Ev.pure _
theorem sumP_R {op a b : Int} (ha : In64 a) (hb : In64 b) (hz : 14 ≤ op → ¬ b = 0) (h11 : 11 ≤ op) (h15 : op ≤ 15) : sumP op a b = if (sumR op a b).2 = true then .ok (sumR op a b).1 else .error 40 := by
  unfold sumP sumR prodP
  by_cases e11 : op = 11
  · simp only [if_pos e11]
    by_cases h : In64 (a + b)
    · simp [h, wrap_at h]
    · simp [h]
  simp only [if_neg e11]
  by_cases e12 : op = 12
  · simp only [if_pos e12]
    by_cases h : In64 (a - b)
    · simp [h, wrap_at h]
    · simp [h]
  simp only [if_neg e12]
  by_cases e13 : op = 13
  · simp only [if_pos e13]
    by_cases h : In64 (a * b)
    · simp [h, wrap_at h]
    · simp [h]
  simp only [if_neg e13, if_neg (hz (by omega))]
  by_cases e14 : op = 14
  · have e15 : ¬ op = 15 := by omega
    simp only [if_pos e14, if_neg e15]
    by_cases hm : b = -1
    · simp only [if_pos hm]
      by_cases q : a = -9223372036854775808
      · subst q; subst hm; simp
      · have hn : In64 (-a) := by unfold In64 at ha ⊢; omega
        simp [q, wrap_at hn, hm]
    · simp [hm]
  · have e15 : op = 15 := by omega
    simp only [if_neg e14, if_pos e15]
    by_cases hm : b = -1
    · simp [hm]
    · simp [hm]
end Go.Proofs.Ytfbeklbjlkgbnaa.Pure
