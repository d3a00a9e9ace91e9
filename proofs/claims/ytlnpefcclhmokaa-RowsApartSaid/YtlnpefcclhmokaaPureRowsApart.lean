/- Different rows have different bytes, none a beginning of another. -/
import Derived.Test.YtlnpefcclhmokaaR4
import Derived.Test.YtlnpefcclhmokaaRowWorks
namespace Go.Proofs.Ytlnpefcclhmokaa.Pure
set_option linter.unusedVariables false
set_option linter.unusedSimpArgs false
open Go.RowKit Go.Proofs.Ytlnpefcclhmokaa.P Go.Proofs.YtlnpefcclhmokaaW.PrintWords Go.Proofs.YtlnpefcclhmokaaW.PrintLast
/-- Bytes that begin alike are one row's. -/
theorem begins_alike {a b : List S38} {x y : List Int} (ha : ∀ q ∈ a, okV q) (hb : ∀ q ∈ b, okV q) (la : a.length < 18446744073709551616) (lb : b.length < 18446744073709551616) (ea : encR a = some x) (eb : encR b = some y) (hx : x.length ≤ 2048) (hy : y.length ≤ 2048) (h : x = y.take x.length) : a = b := by
  have hd := dec_enc [] hb lb eb (by simpa using hy)
  rw [List.append_nil] at hd
  have hs : x ++ y.drop x.length = y := by
    conv => lhs; lhs; rw [h]
    exact List.take_append_drop _ _
  have hd2 := dec_enc (y.drop x.length) ha la ea (by rw [hs]; exact hy)
  rw [hs, hd] at hd2
  by_cases e : 0 < (y.drop x.length).length
  · rw [if_pos e] at hd2
    simp at hd2
  · rw [if_neg e] at hd2
    simp at hd2
    exact hd2.symm
theorem apart_true (x y : List S38) : Ev (fun k => quarrylaw04_RowsApart.j0 k x y true) true := by
  refine Ev.succ ?_
  simp only [quarrylaw04_RowsApart.j0, if_true]
  exact Ev.pure _
theorem encode_no {l : List S38} (h : ∀ b, encR l = some b → 2048 < b.length) : ¬ (encode l).2 = 0 := by
  unfold encode
  cases he : encR l with
  | none => simp
  | some b =>
    simp only
    rw [if_pos (h b he)]
    simp
theorem apart_ev (x y : List S38) (hx : okR x) (hy : okR y) : Ev (fun k => quarrylaw04_RowsApart.j0 k x y false) true := by
  refine Ev.succ ?_
  simp only [quarrylaw04_RowsApart.j0, Bool.false_eq_true, if_false]
  refine Ev.bind (rows_Encode_ev hx) (Ev.bind (rows_Encode_ev hy) ?_)
  by_cases cx : ∃ b, encR x = some b ∧ b.length ≤ 2048
  · by_cases cy : ∃ b, encR y = some b ∧ b.length ≤ 2048
    · obtain ⟨b, eb, hb⟩ := cx
      obtain ⟨c, ec, hc⟩ := cy
      have m0 : (0 : Int) ≤ mn (b.length : Int) (c.length : Int) := by unfold mn; split <;> omega
      have m1 : mn (b.length : Int) (c.length : Int) ≤ (b.length : Int) := by unfold mn; split <;> omega
      have m2 : mn (b.length : Int) (c.length : Int) ≤ (c.length : Int) := by unfold mn; split <;> omega
      simp only [encode_some eb hb, encode_some ec hc, if_true, m0, m1, m2]
      refine Ev.bind (same_ev x y hx.2.1) ?_
      have key : ((strOfNums (b.take (mn (b.length : Int) (c.length : Int)).toNat)).toList == (strOfNums (c.take (mn (b.length : Int) (c.length : Int)).toNat)).toList) = decide (x = y) := by
        by_cases hxy : x = y
        · subst hxy
          rw [eb] at ec
          obtain rfl := Option.some.inj ec
          simp
        · have hn : ¬ (strOfNums (b.take (mn (b.length : Int) (c.length : Int)).toNat)).toList = (strOfNums (c.take (mn (b.length : Int) (c.length : Int)).toNat)).toList := by
            intro h
            have h2 := strOf_toList (fun q hq => encR_bytes eb q (List.mem_of_mem_take hq)) (fun q hq => encR_bytes ec q (List.mem_of_mem_take hq)) h
            by_cases hl : b.length ≤ c.length
            · have e : (mn (b.length : Int) (c.length : Int)).toNat = b.length := by unfold mn; split <;> omega
              rw [e, List.take_length] at h2
              exact hxy (begins_alike hx.1 hy.1 (by have := hx.2.1; omega) (by have := hy.2.1; omega) eb ec hb hc h2)
            · have e : (mn (b.length : Int) (c.length : Int)).toNat = c.length := by unfold mn; split <;> omega
              rw [e, List.take_length] at h2
              exact hxy (begins_alike hy.1 hx.1 (by have := hy.2.1; omega) (by have := hx.2.1; omega) ec eb hc hb h2.symm).symm
          rw [decide_eq_false hxy]
          exact beq_eq_false_iff_ne.mpr hn
      simp only [key, beq_self_eq_true]
      exact Ev.pure _
    · obtain ⟨b, eb, hb⟩ := cx
      have n := encode_no (l := y) (fun c ec => by
        by_cases h : c.length ≤ 2048
        · exact absurd ⟨c, ec, h⟩ cy
        · omega)
      simp only [encode_some eb hb, if_true, n, if_false]
      exact Ev.pure _
  · have n := encode_no (l := x) (fun c ec => by
      by_cases h : c.length ≤ 2048
      · exact absurd ⟨c, ec, h⟩ cx
      · omega)
    simp only [n, if_false]
    exact Ev.pure _
theorem RowsApart : ∀ (l0 : List (S38)) (l1 : List (S38)), G22 l0 → G22 l1 → ∃ k, quarrylaw04_RowsApart.f k l0 l1 = some true := by
  intro l0 l1 h0 h1
  refine Ev.get ?_
  obtain ⟨hl0, hv0⟩ := row_known h0
  obtain ⟨b0, hb0, ht0⟩ := short_ev l0 hl0 (fun x hx => (hv0 x hx).2)
  obtain ⟨hl1, hv1⟩ := row_known h1
  obtain ⟨b1, hb1, ht1⟩ := short_ev l1 hl1 (fun x hx => (hv1 x hx).2)
  unfold quarrylaw04_RowsApart.f
  refine Ev.bind works_ev ?_
  simp only [if_true]
  refine Ev.bind hb0 ?_
  cases b0 with
  | false =>
    simp only [Bool.false_eq_true, if_false]
    exact apart_true _ _
  | true =>
    simp only [if_true]
    refine Ev.bind hb1 ?_
    cases b1 with
    | false => exact apart_true _ _
    | true => exact apart_ev _ _ (ht0 rfl).1 (ht1 rfl).1
end Go.Proofs.Ytlnpefcclhmokaa.Pure
