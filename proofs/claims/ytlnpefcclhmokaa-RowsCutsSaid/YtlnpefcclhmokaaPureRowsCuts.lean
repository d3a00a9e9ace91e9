/- A row's bytes that are cut off, or go on, are no row's. -/
import Derived.Test.YtlnpefcclhmokaaR6
import Derived.Test.YtlnpefcclhmokaaRowWorks
namespace Go.Proofs.Ytlnpefcclhmokaa.Pure
set_option linter.unusedVariables false
set_option linter.unusedSimpArgs false
open Go.RowKit Go.Proofs.Ytlnpefcclhmokaa.P Go.Proofs.YtlnpefcclhmokaaW.PrintWords Go.Proofs.YtlnpefcclhmokaaW.PrintLast
theorem cuts_true (a : Int) (x y : List Int) : Ev (fun k => quarrylaw04_RowsCuts.j0 k a x y true) true := by
  refine Ev.succ ?_
  simp only [quarrylaw04_RowsCuts.j0, if_true]
  exact Ev.pure _
theorem cuts_ev (l : List S38) (a : Int) (t b : List Int) (hv : ∀ x ∈ l, okV x) (hl : l.length < 18446744073709551616) (he : encR l = some b) (hb : b.length ≤ 1900) (ht : t.length ≤ 100) (hT : BytesIn t) :
    Ev (fun k => quarrylaw04_RowsCuts.j0 k a t b false) true := by
  have hp := encR_pos he
  have hbb := encR_bytes he
  have w1 : IntKind.u64.wrap (b.length : Int) = (b.length : Int) := by rw [IntKind.wrap_u64]; omega
  have u0 : 0 ≤ IntKind.u64.wrap a := by rw [IntKind.wrap_u64]; omega
  obtain ⟨i, hi, hib⟩ : ∃ i : Nat, wrap64 (Int.tmod (IntKind.u64.wrap a) (b.length : Int)) = (i : Int) ∧ i < b.length := by
    have m0 := Int.emod_nonneg (IntKind.u64.wrap a) (show (b.length : Int) ≠ 0 by omega)
    have m1 := Int.emod_lt_of_pos (IntKind.u64.wrap a) (show 0 < (b.length : Int) by omega)
    refine ⟨(IntKind.u64.wrap a % (b.length : Int)).toNat, ?_, by omega⟩
    rw [Int.tmod_eq_emod_of_nonneg u0, wrap64_in (by omega) (by omega)]
    omega
  have e0 : ¬ (b.length : Int) = 0 := by omega
  have e1 : (0 : Int) ≤ (i : Int) := by omega
  have e2 : (i : Int) ≤ (b.length : Int) := by omega
  have e3 : ([] : List Int).length + b.length < 140737488355328 := by simp; omega
  have e4 : b.length + t.length < 140737488355328 := by omega
  have d1 : r_dec (b.take i) = ([], 1) := dec_cut (s := b.drop i) hv hl he (by omega) (List.take_append_drop i b).symm (by
    intro h
    have := congrArg List.length h
    rw [List.length_drop, List.length_nil] at this
    omega)
  have d2 := dec_enc t hv hl he (by simp; omega)
  have f1 : BytesIn (b.take i) := fun y hy => hbb y (List.mem_of_mem_take hy)
  have f2 : BytesIn (b ++ t) := fun y hy => (List.mem_append.1 hy).elim (hbb y) (hT y)
  refine Ev.succ ?_
  simp only [quarrylaw04_RowsCuts.j0, Bool.false_eq_true, if_false, w1, e0, hi, e1, e2, if_true, Int.toNat_natCast, Decode_is f1, d1, Option.bind_some, List.nil_append, e3, e4, Decode_is f2, d2]
  by_cases h : 0 < t.length
  · have g0 : ¬ (t.length : Int) = 0 := by omega
    have g1 : (t.length : Int) > 0 := by omega
    simp only [h, g0, g1, if_true, if_false]
    exact Ev.pure _
  · have g0 : (t.length : Int) = 0 := by omega
    simp only [h, g0, if_true, if_false]
    exact Ev.pure _
theorem RowsCuts : ∀ (l0 : List (S38)) (a1 : Int) (l2 : List (Int)), G22 l0 → (Lit.int .i64 a1).wf = true → G24 l2 → ∃ k, quarrylaw04_RowsCuts.f k l0 a1 l2 = some true := by
  intro l0 a1 l2 h0 _ h2
  refine Ev.get ?_
  have hT := bytesB_in (bytes_known2 h2).1
  obtain ⟨hl0, hv0⟩ := row_known h0
  obtain ⟨b0, hb0, ht0⟩ := short_ev l0 hl0 (fun x hx => (hv0 x hx).2)
  unfold quarrylaw04_RowsCuts.f
  refine Ev.bind works_ev ?_
  simp only [if_true]
  refine Ev.bind hb0 ?_
  cases b0 with
  | false =>
    simp only [Bool.false_eq_true, if_false]
    exact Ev.pure _
  | true =>
    obtain ⟨o0, p0, q0⟩ := ht0 rfl
    simp only [if_true]
    refine Ev.bind (rows_Encode_ev o0) ?_
    cases he : encR l0 with
    | none =>
      have e : encode l0 = ([], 3) := by unfold encode; rw [he]
      simp only [e]
      exact cuts_true _ _ _
    | some b =>
      by_cases hb : 2048 < b.length
      · have e : encode l0 = ([], 8) := by unfold encode; rw [he]; exact if_pos hb
        simp only [e]
        exact cuts_true _ _ _
      · simp only [encode_some he (by omega), if_true]
        by_cases h1 : (b.length : Int) > 1900
        · simp only [h1, if_true]
          exact cuts_true _ _ _
        · simp only [h1, if_false]
          by_cases h3 : (l2.length : Int) > 100
          · have d : decide ((l2.length : Int) > 100) = true := decide_eq_true h3
            simp only [d]
            exact cuts_true _ _ _
          · have d : decide ((l2.length : Int) > 100) = false := decide_eq_false h3
            simp only [d]
            exact cuts_ev l0 a1 l2 b o0.1 (by omega) he (by omega) (by omega) hT
end Go.Proofs.Ytlnpefcclhmokaa.Pure
