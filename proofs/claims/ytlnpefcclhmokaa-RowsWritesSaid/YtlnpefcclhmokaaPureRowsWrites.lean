/- Rows are written by the program as by the document, whatever the rows are. -/
import Derived.Test.YtlnpefcclhmokaaRowBase
namespace Go.Proofs.Ytlnpefcclhmokaa.Pure
open Go.RowKit Go.Proofs.Ytlnpefcclhmokaa.P Go.Proofs.YtlnpefcclhmokaaW.PrintWords Go.Proofs.YtlnpefcclhmokaaW.PrintLast
theorem RowsWrites : ∀ (l0 : List (S38)), G22 l0 → ∃ k, quarrylaw04_RowsWrites.f k l0 = some true := by
  intro l0 h
  obtain ⟨hl, hv⟩ := row_known h
  refine Ev.get ?_
  obtain ⟨b, hb, ht⟩ := short_ev l0 hl (fun x hx => (hv x hx).2)
  unfold quarrylaw04_RowsWrites.f
  refine Ev.bind hb ?_
  cases b with
  | false =>
    simp only [Bool.false_eq_true, if_false]
    exact Ev.pure _
  | true =>
    obtain ⟨hr, h1, h2⟩ := ht rfl
    have e1 : ([] : List S38).length + l0.length < 4398046511104 := by simp; omega
    simp only [if_true, Option.bind_some, e1, List.nil_append]
    refine Ev.bind (rows_Encode_ev hr) (Ev.bind (ref_Encode_ev hr) ?_)
    simp only [if_true]
    refine Ev.bind (rows_Size_ev hr) (Ev.bind (ref_Size_ev hr) ?_)
    simp only [if_true]
    refine Ev.bind (same_ev l0 l0 (by omega)) ?_
    simp only [decide_true]
    exact Ev.pure _
end Go.Proofs.Ytlnpefcclhmokaa.Pure
