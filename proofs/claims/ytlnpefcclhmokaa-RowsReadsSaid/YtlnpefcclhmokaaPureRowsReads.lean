/- Any bytes are read by the program as by the document. -/
import Derived.Test.YtlnpefcclhmokaaR1
import Derived.Test.YtlnpefcclhmokaaRowBase
namespace Go.Proofs.Ytlnpefcclhmokaa.Pure
set_option linter.unusedVariables false
set_option linter.unusedSimpArgs false
open Go.RowKit Go.Proofs.Ytlnpefcclhmokaa.P Go.Proofs.YtlnpefcclhmokaaW.PrintWords Go.Proofs.YtlnpefcclhmokaaW.PrintLast
theorem r_loop_len : ∀ (n : Nat) (acc : List S38) (l : List Int) {r : List S38} {t : List Int}, r_loop n acc l = .ok (r, t) → r.length + t.length ≤ acc.length + l.length := by
  intro n
  induction n with
  | zero =>
    intro acc l r t h
    simp only [r_loop, Except.ok.injEq, Prod.mk.injEq] at h
    obtain ⟨rfl, rfl⟩ := h
    exact Nat.le_refl _
  | succ n ih =>
    intro acc l r t h
    rw [r_loop] at h
    cases hv : r_val l with
    | error c => rw [hv] at h; cases h
    | ok p =>
      obtain ⟨x, t'⟩ := p
      rw [hv] at h
      have h1 := ih _ _ h
      have h2 := r_val_length hv
      simp at h1
      omega
theorem r_dec_len (l : List Int) : (r_dec l).1.length ≤ 2048 := by
  unfold r_dec
  by_cases e : 2048 < l.length
  · rw [if_pos e]; simp
  rw [if_neg e]
  cases hn : r_num 0 0 l with
  | error c => simp
  | ok p =>
    obtain ⟨n, t⟩ := p
    simp only
    have h0 := r_num_length hn
    cases hq : r_loop n.toNat [] t with
    | error c => simp [r_fin]
    | ok q =>
      obtain ⟨r, t'⟩ := q
      have := r_loop_len _ _ _ hq
      rw [r_fin]
      split
      · simp
      · simp at this ⊢; omega
theorem reads_loop (a b : List S38) (h : Ev (fun k => quarryref01_SameRow.f k a b) true) : ∀ (m : Nat) (x : List Int) (i : Nat), x.length = i + m → x.length < 140737488355328 → Ev (fun k => quarrylaw04_RowsReads.l0 k x a b (i : Int)) true := by
  intro m
  induction m with
  | zero =>
    intro x i hl hs
    refine Ev.succ ?_
    have e : ¬ (i : Int) < (x.length : Int) := by omega
    simp only [quarrylaw04_RowsReads.l0, e, if_false]
    exact Ev.bind h (Ev.pure _)
  | succ m ih =>
    intro x i hl hs
    refine Ev.succ ?_
    have e : (i : Int) < (x.length : Int) := by omega
    have e0 : (0 : Int) ≤ (i : Int) := by omega
    have e1 : wrap64 ((i : Int) + 1) = ((i + 1 : Nat) : Int) := by rw [wrap64_in] <;> omega
    simp only [quarrylaw04_RowsReads.l0, e, e0, if_true, e1]
    exact ih _ (i + 1) (by rw [List.length_set]; omega) (by rw [List.length_set]; exact hs)
theorem bytes_known {l : List Int} (h : G24 l) : bytesB l = true ∧ l.length < 140737488355328 := by
  refine ⟨?_, by have := h.2; omega⟩
  unfold bytesB
  rw [List.all_eq_true]
  intro x hx
  have := bounds_u8 (h.1 x hx)
  simp only [Bool.and_eq_true, decide_eq_true_eq]
  omega
theorem RowsReads : ∀ (l0 : List (Int)), G24 l0 → ∃ k, quarrylaw04_RowsReads.f k l0 = some true := by
  intro l0 h
  obtain ⟨hB, hl⟩ := bytes_known h
  refine Ev.get ?_
  have hs : Ev (fun k => quarryref01_SameRow.f k (r_dec l0).1 (r_dec l0).1) true := by
    have := same_ev (r_dec l0).1 (r_dec l0).1 (by have := r_dec_len l0; omega)
    simpa only [decide_true] using this
  have e1 : ([] : List Int).length + l0.length < 140737488355328 := by simp; omega
  unfold quarrylaw04_RowsReads.f
  simp only [Option.bind_some, e1, if_true, List.nil_append, rows_Decode.f, quarryref04_Decode.f, hB]
  refine Ev.bind hs (Ev.succ ?_)
  simp only [quarrylaw04_RowsReads.j0, Bool.not_true, Bool.false_eq_true, if_false]
  exact reads_loop _ _ hs l0.length l0 0 (by omega) hl
end Go.Proofs.Ytlnpefcclhmokaa.Pure
