/- What the program reads; what stands behind all that begin with some bytes. No condition but sizes. -/
import Derived.Test.YtbpnmmakodaakaaA7
import Derived.Test.YtbpnmmakodaakaaKE
import Derived.Test.YtbpnmmakodaakaaKD
namespace Go.Proofs.Ytbpnmmakodaakaa.Pure
set_option linter.unusedVariables false
set_option linter.unusedSimpArgs false
open Go.RowKit Go.Proofs.Ytbpnmmakodaakaa.P Go.Proofs.YtbpnmmakodaakaaW.PrintWords Go.Proofs.YtbpnmmakodaakaaW.PrintLast Go.Proofs.YtbpnmmakodaakaaW.PrintMore

theorem decode_f (l : List Int) (d : List Bool) (hb : bytesB l = true) (hl : l.length < 4398046511104) : keys_Decode.f l d = some (r_dec d l) := by
  unfold keys_Decode.f
  rw [if_pos ⟨hb, hl⟩]

/-! ### What stands behind all that begin with some bytes -/
/-- Without the 255s at the end. -/
def trim : List Int → List Int
  | [] => []
  | c :: l => if trim l = [] ∧ c = 255 then [] else c :: trim l
def bump : List Int → List Int
  | [] => []
  | [c] => [(c + 1) % 256]
  | c :: d :: l => c :: bump (d :: l)
def nextB (l : List Int) : List Int × Bool := if trim l = [] then ([], false) else (bump (trim l), true)
theorem trim_snoc_255 (l : List Int) : trim (l ++ [255]) = trim l := by
  induction l with
  | nil => simp [trim]
  | cons c l ih => simp only [List.cons_append, trim, ih]
theorem trim_snoc (l : List Int) (c : Int) (h : c ≠ 255) : trim (l ++ [c]) = l ++ [c] := by
  induction l with
  | nil => simp [trim, h]
  | cons d l ih => simp [List.cons_append, trim, ih]
theorem bump_snoc (l : List Int) (c : Int) : bump (l ++ [c]) = l ++ [(c + 1) % 256] := by
  induction l with
  | nil => rfl
  | cons d l ih =>
    cases l with
    | nil => rfl
    | cons e l => simp only [List.cons_append, bump] at ih ⊢; rw [ih]
theorem clone_f (l : List Int) (hl : l.length < 140737488355328) : slices_Clone_byte_byte.f l = some l := by unfold slices_Clone_byte_byte.f; rw [if_pos hl]
theorem next_loop (b : List Int) (hl : b.length < 140737488355328) : ∀ (n : Nat), n ≤ b.length → trim b = trim (b.take n) → Ev (fun k => keys_Next.l0 k b (n : Int)) (nextB b) := by
  intro n
  induction n with
  | zero =>
    intro _ ht
    refine Ev.succ ?_
    have e : ¬ (((0 : Nat) : Int) > 0) := by omega
    have e2 : ((0 : Nat) : Int) = 0 := rfl
    have h0 : trim b = [] := by rw [ht]; rfl
    unfold nextB
    simp only [keys_Next.l0, e, if_false, e2, if_true, h0]
    exact Ev.pure _
  | succ n ih =>
    intro hn ht
    refine Ev.succ ?_
    have e : (((n + 1 : Nat) : Int) > 0) := by omega
    have e1 : wrap64 (((n + 1 : Nat) : Int) - 1) = (n : Int) := by unfold wrap64; omega
    have e2 : (0 : Int) ≤ (n : Int) := by omega
    have e3 : (n : Int) < (b.length : Int) := by omega
    have hlt : n < b.length := by omega
    have htk : b.take (n + 1) = b.take n ++ [b[n]] := by rw [List.take_succ_eq_append_getElem hlt]
    have hbn : rd b (n : Int) = b[n] := by
      unfold rd
      rw [Int.toNat_natCast, List.getD_eq_getElem?_getD, List.getElem?_eq_getElem hlt]
      rfl
    simp only [keys_Next.l0, e, e1, e2, e3, if_true, hbn]
    by_cases h : b[n] = 255
    · simp only [h, if_true]
      rw [htk, h, trim_snoc_255] at ht
      exact ih (by omega) ht
    · have hne : ¬ ((n + 1 : Nat) : Int) = 0 := by omega
      have e4 : (0 : Int) ≤ ((n + 1 : Nat) : Int) := by omega
      have e5 : ((n + 1 : Nat) : Int) ≤ (b.length : Int) := by omega
      have e6 : (n : Int) < ((b.take (n + 1)).length : Int) := by rw [List.length_take]; omega
      rw [htk, trim_snoc _ _ h] at ht
      have hnb : nextB b = (b.take n ++ [(b[n] + 1) % 256], true) := by
        unfold nextB
        rw [ht, if_neg (by intro h0; have h1 := congrArg List.length h0; rw [List.length_append, List.length_cons, List.length_nil] at h1; omega), bump_snoc]
      have hset : (b.take (n + 1)).set n ((rd (b.take (n + 1)) (n : Int) + 1) % 256) = b.take n ++ [(b[n] + 1) % 256] := by
        have hr : rd (b.take (n + 1)) (n : Int) = b[n] := by
          rw [htk]
          have := rdI_at (b.take n) b[n] []
          rw [List.length_take, Nat.min_eq_left (by omega)] at this
          exact this
        rw [hr, htk, List.set_append_right _ _ (by rw [List.length_take]; omega)]
        rw [List.length_take, Nat.min_eq_left (by omega), Nat.sub_self]
        rfl
      simp only [h, if_false, hne, e4, e5, if_true, Int.toNat_natCast, clone_f (b.take (n + 1)) (by rw [List.length_take]; omega), Option.bind_some, e6, hset]
      rw [hnb]
      exact Ev.pure _
theorem next_ev (b : List Int) (hl : b.length < 140737488355328) : Ev (fun k => keys_Next.f k b) (nextB b) := by
  unfold keys_Next.f
  exact next_loop b hl b.length (Nat.le_refl _) (by rw [List.take_length])
end Go.Proofs.Ytbpnmmakodaakaa.Pure
