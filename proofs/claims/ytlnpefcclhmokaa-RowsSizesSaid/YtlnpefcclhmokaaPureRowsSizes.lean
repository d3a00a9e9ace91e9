/- Two rows as one have as many bytes as both. -/
import Derived.Test.YtlnpefcclhmokaaR5
import Derived.Test.YtlnpefcclhmokaaRowWorks
namespace Go.Proofs.Ytlnpefcclhmokaa.Pure
set_option linter.unusedVariables false
set_option linter.unusedSimpArgs false
open Go.RowKit Go.Proofs.Ytlnpefcclhmokaa.P Go.Proofs.YtlnpefcclhmokaaW.PrintWords Go.Proofs.YtlnpefcclhmokaaW.PrintLast
theorem encL_append : ∀ (a b : List S38), encL (a ++ b) = (encL a).bind fun x => (encL b).map fun y => x ++ y := by
  intro a b
  induction a with
  | nil => simp [encL]
  | cons x a ih =>
    rw [List.cons_append, encL, encL, ih]
    by_cases hc : chk x.f0 x.f1 x.f2 = 0
    · rw [if_pos hc, if_pos hc]
      cases encL a <;> cases encL b <;> simp
    · rw [if_neg hc, if_neg hc]
      rfl
theorem size_of (l : List S38) (h : l.length ≤ 100) : sizeR l = match encL l with | none => 0 | some c => 1 + (c.length : Int) := by
  unfold sizeR allR encR
  cases encL l with
  | none => rfl
  | some c =>
    simp only [Option.map_some]
    rw [vnum_small (by omega)]
    simp
    omega
theorem encL_len : ∀ (l : List S38) {c : List Int}, (∀ x ∈ l, okV x) → encL l = some c → c.length ≤ room l := by
  intro l
  induction l with
  | nil => intro c _ h; simp only [encL, Option.some.injEq] at h; subst h; simp
  | cons x l ih =>
    intro c hx h
    rw [encL] at h
    by_cases hc : chk x.f0 x.f1 x.f2 = 0
    · rw [if_pos hc] at h
      obtain ⟨b', hb, rfl⟩ := Option.map_eq_some_iff.1 h
      have h1 := encB_len (hx x (by simp))
      have h2 := ih (fun y hy => hx y (by simp [hy])) hb
      simp only [room, List.length_append]
      omega
    · rw [if_neg hc] at h; cases h
theorem room_append (a b : List S38) : room (a ++ b) = room a + room b := by
  induction a with
  | nil => simp [room]
  | cons x a ih => simp only [List.cons_append, room, ih]; omega
theorem sizes_ev (x0 x1 : List S38) (h0 : okR x0) (h1 : okR x1) (r0 : room x0 < 210000) (r1 : room x1 < 210000) (hl : x0.length + x1.length ≤ 100) : Ev (fun k => quarrylaw04_RowsSizes.j0 k x0 x1 false) true := by
  have hb : okR (x0 ++ x1) := by
    refine ⟨fun x hx => ?_, by simp; omega, by rw [room_append]; omega⟩
    rcases List.mem_append.1 hx with h | h
    · exact h0.1 x h
    · exact h1.1 x h
  have e1 : ([] : List S38).length + x0.length < 4398046511104 := by simp; omega
  have e2 : x0.length + x1.length < 4398046511104 := by omega
  refine Ev.succ ?_
  simp only [quarrylaw04_RowsSizes.j0, Bool.false_eq_true, if_false]
  refine Ev.bind (rows_Size_ev h0) (Ev.bind (rows_Size_ev h1) ?_)
  simp only [Option.bind_some, e1, e2, if_true, List.nil_append]
  refine Ev.bind (rows_Size_ev hb) ?_
  rw [size_of x0 (by omega), size_of x1 (by omega), size_of (x0 ++ x1) (by simp; omega), encL_append]
  cases g0 : encL x0 with
  | none =>
    simp
    exact Ev.pure _
  | some c0 =>
    have l0 := encL_len x0 h0.1 g0
    cases g1 : encL x1 with
    | none =>
      have q : ¬ (1 + (c0.length : Int)) = 0 := by omega
      simp [q]
      exact Ev.pure _
    | some c1 =>
      have l1 := encL_len x1 h1.1 g1
      have q0 : ¬ (1 + (c0.length : Int)) = 0 := by omega
      have q1 : ¬ (1 + (c1.length : Int)) = 0 := by omega
      have w1 : wrap64 (1 + (c0.length : Int) + (1 + (c1.length : Int))) = 1 + (c0.length : Int) + (1 + (c1.length : Int)) := wrap64_in (by omega) (by omega)
      have w2 : wrap64 (1 + (c0.length : Int) + (1 + (c1.length : Int)) - 1) = 1 + (c0.length : Int) + (1 + (c1.length : Int)) - 1 := wrap64_in (by omega) (by omega)
      have w3 : ((1 + ((c0 ++ c1).length : Int)) == (1 + (c0.length : Int) + (1 + (c1.length : Int)) - 1)) = true := by rw [beq_iff_eq]; simp; omega
      simp only [Option.bind_some, Option.map_some, q0, q1, if_false, w1, w2, w3]
      exact Ev.pure _
theorem sizes_true (x0 x1 : List S38) : Ev (fun k => quarrylaw04_RowsSizes.j0 k x0 x1 true) true := by
  refine Ev.succ ?_
  simp only [quarrylaw04_RowsSizes.j0, if_true]
  exact Ev.pure _
theorem RowsSizes : ∀ (l0 : List (S38)) (l1 : List (S38)), G22 l0 → G22 l1 → ∃ k, quarrylaw04_RowsSizes.f k l0 l1 = some true := by
  intro l0 l1 h0 h1
  refine Ev.get ?_
  obtain ⟨hl0, hv0⟩ := row_known h0
  obtain ⟨b0, hb0, ht0⟩ := short_ev l0 hl0 (fun x hx => (hv0 x hx).2)
  obtain ⟨hl1, hv1⟩ := row_known h1
  obtain ⟨b1, hb1, ht1⟩ := short_ev l1 hl1 (fun x hx => (hv1 x hx).2)
  unfold quarrylaw04_RowsSizes.f
  refine Ev.bind works_ev ?_
  simp only [if_true]
  refine Ev.bind hb0 ?_
  cases b0 with
  | false =>
    simp only [Bool.false_eq_true, if_false]
    exact sizes_true _ _
  | true =>
    obtain ⟨o0, p0, q0⟩ := ht0 rfl
    simp only [if_true]
    refine Ev.bind hb1 ?_
    cases b1 with
    | false =>
      simp only [Bool.false_eq_true, if_false]
      exact sizes_true _ _
    | true =>
      obtain ⟨o1, p1, q1⟩ := ht1 rfl
      have w : wrap64 ((l0.length : Int) + (l1.length : Int)) = (l0.length : Int) + (l1.length : Int) := wrap64_in (by omega) (by omega)
      simp only [if_true, w]
      by_cases e : (l0.length : Int) + (l1.length : Int) > 100
      · have d : decide ((l0.length : Int) + (l1.length : Int) > 100) = true := decide_eq_true e
        simp only [d]
        exact sizes_true _ _
      · have d : decide ((l0.length : Int) + (l1.length : Int) > 100) = false := decide_eq_false e
        simp only [d]
        exact sizes_ev _ _ o0 o1 q0 q1 (by omega)
end Go.Proofs.Ytlnpefcclhmokaa.Pure
