/- A row is read from its bytes as it was; bytes that are read are written again as they were. -/
import Derived.Test.YtlnpefcclhmokaaR3
import Derived.Test.YtlnpefcclhmokaaRowWorks
namespace Go.Proofs.Ytlnpefcclhmokaa.Pure
set_option linter.unusedVariables false
set_option linter.unusedSimpArgs false
open Go.RowKit Go.Proofs.Ytlnpefcclhmokaa.P Go.Proofs.YtlnpefcclhmokaaW.PrintWords Go.Proofs.YtlnpefcclhmokaaW.PrintLast
theorem back_ev (l0 : List S38) (h : G22 l0) : Ev (fun k => quarrylaw04_RowsBack.j0 k l0) true := by
  obtain ⟨hl, hv⟩ := row_known h
  obtain ⟨b, hb, ht⟩ := short_ev l0 hl (fun x hx => (hv x hx).2)
  refine Ev.succ ?_
  simp only [quarrylaw04_RowsBack.j0]
  refine Ev.bind hb ?_
  cases b with
  | false =>
    simp only [Bool.false_eq_true, if_false]
    exact Ev.pure _
  | true =>
    obtain ⟨hr, h1, h2⟩ := ht rfl
    simp only [if_true]
    refine Ev.bind (rows_Encode_ev hr) ?_
    cases he : encR l0 with
    | none =>
      have e : encode l0 = ([], 3) := by unfold encode; rw [he]
      simp only [e]
      exact Ev.pure _
    | some b =>
      by_cases hb : 2048 < b.length
      · have e : encode l0 = ([], 8) := by unfold encode; rw [he]; exact if_pos hb
        simp only [e]
        exact Ev.pure _
      · have hd := dec_enc [] hr.1 (by omega) he (by simpa using hb)
        rw [List.append_nil] at hd
        have hd2 : r_dec b = (l0, 0) := by simpa using hd
        have e5 : (sizeR l0 == (b.length : Int)) = true := by rw [sizeR_some he]; exact beq_self_eq_true _
        simp only [encode_some he (by omega), if_true, Decode_is (encR_bytes he), Option.bind_some, hd2]
        refine Ev.bind (same_ev l0 l0 (by omega)) ?_
        simp only [decide_true, if_true]
        refine Ev.bind (rows_Size_ev hr) ?_
        simp only [e5]
        exact Ev.pure _
theorem RowsBack : ∀ (l0 : List (S38)) (l1 : List (Int)), G22 l0 → G24 l1 → ∃ k, quarrylaw04_RowsBack.f k l0 l1 = some true := by
  intro l0 l1 h0 h1
  refine Ev.get ?_
  unfold quarrylaw04_RowsBack.f
  refine Ev.bind works_ev ?_
  have hB := bytesB_in (bytes_known2 h1).1
  simp only [if_true, Decode_is hB, Option.bind_some]
  by_cases hc : (r_dec l1).2 = 0
  · obtain ⟨he, hl, hx, _⟩ := dec_back hB hc
    have hr : okR (r_dec l1).1 := okR_of (n := 0) (fun x hm => ⟨(hx x hm).1, by have := (hx x hm).2; omega⟩) (by have := r_dec_len2 l1; omega)
    simp only [hc, if_true]
    refine Ev.bind (rows_Encode_ev hr) ?_
    simp only [encode_some he hl, if_true]
    refine Ev.bind (rows_Size_ev hr) ?_
    simp only [sizeR_some he, if_true]
    exact back_ev l0 h0
  · simp only [hc, if_false]
    exact back_ev l0 h0
end Go.Proofs.Ytlnpefcclhmokaa.Pure
