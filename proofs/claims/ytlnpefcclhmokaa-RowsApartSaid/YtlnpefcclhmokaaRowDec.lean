/- Rows as plain data: whole rows, read and written. -/
import Derived.Test.YtlnpefcclhmokaaRowRead
namespace Go.Proofs.Ytlnpefcclhmokaa.Pure
set_option linter.unusedVariables false
set_option linter.unusedSimpArgs false
open Go.RowKit Go.Proofs.Ytlnpefcclhmokaa.P Go.Proofs.YtlnpefcclhmokaaW.PrintWords Go.Proofs.YtlnpefcclhmokaaW.PrintLast Go.Proofs.YtlnpefcclhmokaaW.PrintMore
theorem encR_some {l : List S38} {b : List Int} (h : encR l = some b) : ∃ c, encL l = some c ∧ b = vnum l.length ++ c := by
  unfold encR at h
  obtain ⟨c, hc, rfl⟩ := Option.map_eq_some_iff.1 h
  exact ⟨c, hc, rfl⟩
theorem encR_pos {l : List S38} {b : List Int} (h : encR l = some b) : 0 < b.length := by
  obtain ⟨c, _, rfl⟩ := encR_some h
  have := vnum_pos l.length
  simp
  omega
/-- A row's bytes, and whatever stands behind them. -/
theorem dec_enc {l : List S38} {b : List Int} (t : List Int) (hv : ∀ x ∈ l, okV x) (hl : l.length < 18446744073709551616) (h : encR l = some b) (hs : (b ++ t).length ≤ 2048) : r_dec (b ++ t) = if 0 < t.length then ([], 6) else (l, 0) := by
  obtain ⟨c, hc, rfl⟩ := encR_some h
  unfold r_dec
  rw [if_neg (by omega), List.append_assoc, r_num_zero _ hl]
  simp only [Int.toNat_natCast]
  rw [r_loop_enc l [] c t hv hc, r_fin]
  simp
theorem dec_cut {l : List S38} {b p s : List Int} (hv : ∀ x ∈ l, okV x) (hl : l.length < 18446744073709551616) (h : encR l = some b) (hb : b.length ≤ 2048) (he : b = p ++ s) (hs : s ≠ []) : r_dec p = ([], 1) := by
  obtain ⟨c, hc, hbc⟩ := encR_some h
  have hp : p.length ≤ 2048 := by rw [he] at hb; simp at hb; omega
  unfold r_dec
  rw [if_neg (by omega)]
  rw [hbc] at he
  rcases List.append_eq_append_iff.1 he with ⟨u, hp', hu⟩ | ⟨u, hv', hu⟩
  · rw [hp', r_num_zero _ hl]
    simp only [Int.toNat_natCast]
    rw [r_loop_cut l [] c u s hv hc hu hs, r_fin]
  · by_cases hu0 : u = []
    · subst hu0
      rw [List.append_nil] at hv'
      have hsb : c = [] ++ s := by simpa using hu.symm
      rw [← hv', ← List.append_nil (vnum l.length), r_num_zero _ hl]
      simp only [Int.toNat_natCast]
      rw [r_loop_cut l [] c [] s hv hc hsb hs, r_fin]
    · rw [r_num_short hl hv' hu0]
theorem num_err : ∀ (l : List Int) (i : Nat) (m c : Int), r_num i m l = .error c → c ≠ 0 := by
  intro l
  induction l with
  | nil => intro i m c h; simp only [r_num, Except.error.injEq] at h; omega
  | cons d l ih =>
    intro i m c h
    rw [r_num] at h
    by_cases e1 : (d = 0 ∧ 0 < i) ∨ (1 < d ∧ i = 9)
    · rw [if_pos e1] at h; simp only [Except.error.injEq] at h; omega
    · rw [if_neg e1] at h
      by_cases e2 : d < 128
      · rw [if_pos e2] at h; cases h
      · rw [if_neg e2] at h; exact ih _ _ _ h
theorem val_err {l : List Int} {c : Int} (h : r_val l = .error c) : c ≠ 0 := by
  cases l with
  | nil => simp only [r_val, Except.error.injEq] at h; omega
  | cons k l =>
    rw [r_val_cons] at h
    by_cases e0 : k = 0
    · rw [if_pos e0] at h; cases h
    rw [if_neg e0] at h
    by_cases e1 : k = 1
    · rw [if_pos e1] at h
      cases l with
      | nil => simp only [Except.error.injEq] at h; omega
      | cons d l =>
        by_cases e : 1 < d
        · simp only [e, if_true, Except.error.injEq] at h; omega
        · simp only [e, if_false] at h; cases h
    rw [if_neg e1] at h
    by_cases e2 : k = 2
    · rw [if_pos e2] at h
      cases hn : r_num 0 0 l with
      | error d => rw [hn] at h; simp only [Except.error.injEq] at h; rw [← h]; exact num_err _ _ _ _ hn
      | ok p => rw [hn] at h; cases h
    rw [if_neg e2] at h
    by_cases e3 : k = 3 ∨ k = 4
    · rw [if_pos e3] at h
      cases hn : r_num 0 0 l with
      | error d => rw [hn] at h; simp only [Except.error.injEq] at h; rw [← h]; exact num_err _ _ _ _ hn
      | ok p =>
        obtain ⟨n, t⟩ := p
        rw [hn] at h
        by_cases e : (t.length : Int) < n
        · simp only [e, if_true, Except.error.injEq] at h; omega
        · simp only [e, if_false] at h; cases h
    · rw [if_neg e3] at h; simp only [Except.error.injEq] at h; omega
theorem loop_err : ∀ (n : Nat) (acc : List S38) (l : List Int) (c : Int), r_loop n acc l = .error c → c ≠ 0 := by
  intro n
  induction n with
  | zero => intro acc l c h; simp only [r_loop] at h; cases h
  | succ n ih =>
    intro acc l c h
    rw [r_loop] at h
    cases hv : r_val l with
    | error d => rw [hv] at h; simp only [Except.error.injEq] at h; rw [← h]; exact val_err hv
    | ok p => rw [hv] at h; exact ih _ _ _ h
/-- What is read as a row was written so. -/
theorem dec_back {b : List Int} (hB : BytesIn b) (h : (r_dec b).2 = 0) : encR (r_dec b).1 = some b ∧ b.length ≤ 2048 ∧ (∀ x ∈ (r_dec b).1, I64 x.f1 ∧ x.f2.size ≤ b.length) ∧ (r_dec b).1.length < 18446744073709551616 := by
  unfold r_dec at h ⊢
  by_cases e : 2048 < b.length
  · rw [if_pos e] at h; simp at h
  rw [if_neg e] at h ⊢
  cases hn : r_num 0 0 b with
  | error c => rw [hn] at h; exact absurd h (num_err _ _ _ _ hn)
  | ok p =>
    obtain ⟨n, t⟩ := p
    rw [hn] at h
    simp only at h ⊢
    obtain ⟨m, hl, hv, _⟩ := r_num_back b 0 0 n t hB (by omega) hn
    obtain ⟨_, hm⟩ := r_num_bound hB (by omega) (by omega) (by decide) hn
    have hv' : n = (m : Int) := by rw [hv]; simp
    subst hv'
    rw [Int.toNat_natCast] at h ⊢
    cases hq : r_loop m [] t with
    | error c => rw [hq] at h; exact absurd h (loop_err _ _ _ _ hq)
    | ok q =>
      obtain ⟨r, t'⟩ := q
      rw [hq, r_fin] at h
      rw [r_fin]
      by_cases ht : 0 < t'.length
      · rw [if_pos ht] at h; simp at h
      · rw [if_neg ht]
        have ht0 : t' = [] := List.length_eq_zero_iff.1 (by omega)
        subst ht0
        obtain ⟨xs, c, hr, hxs, hc, htc, hall⟩ := r_loop_back m [] t (fun y hy => hB y (by rw [hl]; exact List.mem_append_right _ hy)) hq
        rw [List.nil_append] at hr
        subst hr
        refine ⟨?_, by omega, fun x hx => ⟨(hall x hx).1, ?_⟩, by simp only; omega⟩
        · unfold encR
          rw [hc, Option.map_some, hxs, hl, htc, List.append_nil]
        · have := (hall x hx).2
          have h3 : t.length ≤ b.length := by rw [hl]; simp
          omega
end Go.Proofs.Ytlnpefcclhmokaa.Pure
