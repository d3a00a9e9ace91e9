/- Any bytes, at most 1048576 of them, are read by the program as by the document, and what stands behind them is told alike. No other condition. -/
import Derived.Test.YtbpnmmakodaakaaR2
import Derived.Test.YtbpnmmakodaakaaKB
import Derived.Test.YtbpnmmakodaakaaKR
import Derived.Test.YtbpnmmakodaakaaSame
namespace Go.Proofs.Ytbpnmmakodaakaa.Pure
set_option linter.unusedVariables false
set_option linter.unusedSimpArgs false
open Go.RowKit Go.Proofs.Ytbpnmmakodaakaa.P Go.Proofs.YtbpnmmakodaakaaW.PrintWords Go.Proofs.YtbpnmmakodaakaaW.PrintLast Go.Proofs.YtbpnmmakodaakaaW.PrintMore

theorem r_loop_len (d : List Bool) : ∀ (n : Nat) (acc : List S43) (l : List Int) {r : List S43}, r_loop d n acc l = .ok r → r.length ≤ acc.length + l.length := by
  intro n
  induction n with
  | zero =>
    intro acc l r h
    cases l with
    | nil => simp only [r_loop, Except.ok.injEq] at h; subst h; simp
    | cons k l => simp [r_loop] at h
  | succ n ih =>
    intro acc l r h
    cases l with
    | nil => simp only [r_loop, Except.ok.injEq] at h; subst h; simp
    | cons k l =>
      simp only [r_loop] at h
      cases hv : r_val (dT d acc.length) (k :: l) with
      | error c => rw [hv] at h; cases h
      | ok p =>
        obtain ⟨x, t'⟩ := p
        rw [hv] at h
        have h1 := ih _ _ h
        have h2 := r_val_length _ hv
        simp at h1 h2 ⊢
        omega
theorem r_dec_len (d : List Bool) (l : List Int) : (r_dec d l).1.length ≤ l.length := by
  unfold r_dec
  cases hq : r_loop d l.length [] l with
  | error c => simp [r_fin]
  | ok q =>
    have := r_loop_len d _ _ _ hq
    simpa [r_fin] using this
theorem reads_loop (a b : List Int) (hab : a = b) : ∀ (m : Nat) (x : List Int) (i : Nat), x.length = i + m → x.length < 140737488355328 → Ev (fun k => quarrylaw03_KeysReads.l0 k a b x (i : Int)) true := by
  intro m
  induction m with
  | zero =>
    intro x i hl hs
    refine Ev.succ ?_
    have e : ¬ (i : Int) < (x.length : Int) := by omega
    subst hab
    simp only [quarrylaw03_KeysReads.l0, e, if_false, beq_self_eq_true]
    exact Ev.pure _
  | succ m ih =>
    intro x i hl hs
    refine Ev.succ ?_
    have e : (i : Int) < (x.length : Int) := by omega
    have e0 : (0 : Int) ≤ (i : Int) := by omega
    have e1 : wrap64 ((i : Int) + 1) = ((i + 1 : Nat) : Int) := by rw [wrap64_in] <;> omega
    simp only [quarrylaw03_KeysReads.l0, e, e0, if_true, e1]
    exact ih _ (i + 1) (by rw [List.length_set]; omega) (by rw [List.length_set]; exact hs)
theorem bump_len : ∀ l : List Int, (bump l).length = l.length
  | [] => rfl
  | [_] => rfl
  | c :: d :: l => by simp only [bump, List.length_cons, bump_len (d :: l)]
theorem trim_len : ∀ l : List Int, (trim l).length ≤ l.length
  | [] => Nat.le_refl _
  | c :: l => by
    have := trim_len l
    unfold trim
    split
    · simp
    · simp; omega
theorem next_len (b : List Int) : (nextB b).1.length ≤ b.length := by
  unfold nextB
  split
  · simp
  · rw [bump_len]; exact trim_len b
theorem KeysReads : ∀ (l0 : List (Int)) (l1 : List (Bool)), G24 l0 → G23 l1 → m24 l0 + m23 l1 ≤ 1048576 → ∃ k, quarrylaw03_KeysReads.f k l0 l1 = some true := by
  intro b d hb hd hm
  obtain ⟨hB, hb2, hl⟩ := known_bytes hb
  have hl2 : b.length ≤ 1048576 := by rw [m24_len] at hm; omega
  refine Ev.get ?_
  have e1 : ([] : List Int).length + b.length < 140737488355328 := by simp; omega
  unfold quarrylaw03_KeysReads.f
  simp only [Option.bind_some, e1, if_true, List.nil_append, decode_f b d hB (by omega)]
  refine Ev.bind (ref_decode_ev b d hb2 (by omega)) (Ev.bind (next_ev b hl) (Ev.bind (ref_next_ev b hl) ?_))
  simp only [if_true]
  have hrl := r_dec_len d b
  refine Ev.bind (same_ev (r_dec d b).1 (r_dec d b).1 (by omega)) ?_
  simp only [decide_true, if_true, bne_self_eq_false, Bool.false_eq_true, if_false]
  refine Ev.succ ?_
  simp only [quarrylaw03_KeysReads.j0, Bool.false_eq_true, if_false]
  have hnl := next_len b
  exact reads_loop b b rfl (nextB b).1.length (nextB b).1 0 (by omega) (by omega)
end Go.Proofs.Ytbpnmmakodaakaa.Pure
