/- Rows: what the program and the document write, as plain data; that both come to it. No condition but sizes. -/
import Derived.Test.YtlnpefcclhmokaaP4
import Derived.Test.YtlnpefcclhmokaaKinds
import Derived.Test.YtlnpefcclhmokaaRowPlain
import Derived.OpenShut
import Derived.Laws.BitsLemmas
import Derived.Laws.Bits64
import Derived.Laws.BitsAllLaws
namespace Go.Proofs.Ytlnpefcclhmokaa.Pure
set_option linter.unusedVariables false
set_option linter.unusedSimpArgs false
open Go.RowKit Go.Proofs.Ytlnpefcclhmokaa.P Go.Proofs.YtlnpefcclhmokaaW.PrintWords Go.Proofs.YtlnpefcclhmokaaW.PrintLast Go.Proofs.YtlnpefcclhmokaaW.PrintMore

/-- With enough rounds, and with any more. -/
def Ev {α : Type} (g : Nat → Option α) (r : α) : Prop := ∃ k0, ∀ k, k0 ≤ k → g k = some r
theorem Ev.pure {α : Type} (r : α) : Ev (fun _ => some r) r := ⟨0, fun _ _ => rfl⟩
theorem Ev.bind {α β : Type} {g : Nat → Option α} {h : Nat → α → Option β} {a : α} {r : β} (hg : Ev g a) (hh : Ev (fun k => h k a) r) : Ev (fun k => (g k).bind (h k)) r := by
  obtain ⟨k1, h1⟩ := hg
  obtain ⟨k2, h2⟩ := hh
  refine ⟨max k1 k2, fun k hk => ?_⟩
  show (g k).bind (h k) = some r
  rw [h1 k (by omega)]
  exact h2 k (by omega)
theorem Ev.succ {α : Type} {g : Nat → Option α} {r : α} (h : Ev (fun k => g (k + 1)) r) : Ev g r := by
  obtain ⟨k1, h1⟩ := h
  refine ⟨k1 + 1, fun k hk => ?_⟩
  have h2 : g (k - 1 + 1) = some r := h1 (k - 1) (by omega)
  rwa [show k - 1 + 1 = k by omega] at h2
theorem Ev.get {α : Type} {g : Nat → Option α} {r : α} (h : Ev g r) : ∃ k, g k = some r := by
  obtain ⟨k, h⟩ := h
  exact ⟨k, h k (Nat.le_refl _)⟩
theorem Ev.of_eq {α : Type} {g g' : Nat → Option α} {r : α} (h : Ev g r) (e : ∀ k, g' k = g k) : Ev g' r := by
  obtain ⟨k1, h1⟩ := h
  exact ⟨k1, fun k hk => (e k).trans (h1 k hk)⟩
theorem Ev.ite {α : Type} {c : Prop} [Decidable c] {g h : Nat → Option α} {r : α} (h1 : c → Ev g r) (h2 : ¬ c → Ev h r) : Ev (fun k => if c then g k else h k) r := by
  by_cases e : c
  · exact (h1 e).of_eq fun k => if_pos e
  · exact (h2 e).of_eq fun k => if_neg e

theorem rd_at (pre : List S38) (x : S38) (suf : List S38) : rd_T38 (pre ++ x :: suf) (pre.length : Int) = x := by
  unfold rd_T38
  simp
theorem wrap64_in {n : Int} (h0 : -9223372036854775808 ≤ n) (h1 : n ≤ 9223372036854775807) : wrap64 n = n := by unfold wrap64; omega

theorem or_128 (x : Int) (h0 : 0 ≤ x) (h1 : x ≤ 18446744073709551615) : Go.bits .or .u8 (x % 256) 128 = x % 128 + 128 := by
  obtain ⟨m, hm⟩ := Int.eq_ofNat_of_zero_le (show 0 ≤ x % 256 by omega)
  have hm2 : m < 256 := by omega
  have h3 : x % 128 = ((m % 128 : Nat) : Int) := by omega
  rw [hm, h3]
  have h4 : ∀ m : Fin 256, Go.bits .or .u8 ((m.val : Nat) : Int) 128 = ((m.val % 128 : Nat) : Int) + 128 := by decide +kernel
  exact h4 ⟨m, hm2⟩

theorem rows_number_ev : ∀ (n : Nat) (acc : List Int), n < 18446744073709551616 → acc.length + (vnum n).length ≤ 140737488355328 → Ev (fun k => rows_number.l0 k acc (n : Int)) (acc ++ vnum n) := by
  intro n
  induction n using Nat.strongRecOn with
  | ind n ih =>
    intro acc hn hl
    refine Ev.succ ?_
    simp only [rows_number.l0]
    have := vnum_pos n
    by_cases hb : 128 ≤ n
    · rw [vnum_big hb] at hl ⊢
      simp only [List.length_cons] at hl
      have e1 : ((n : Int) ≥ 128) := by omega
      have e2 : acc.length < 140737488355328 := by omega
      simp only [e1, e2, if_true]
      have e3 : ((n : Int) / 128) = ((n / 128 : Nat) : Int) := by omega
      rw [e3, or_128 (n : Int) (by omega) (by omega)]
      have := ih (n / 128) (by omega) (acc ++ [(n : Int) % 128 + 128]) (by omega) (by simp; omega)
      simpa using this
    · rw [vnum_small (by omega)] at hl ⊢
      have e1 : ¬ ((n : Int) ≥ 128) := by omega
      have e2 : acc.length < 140737488355328 := by simp at hl; omega
      simp only [e1, e2, if_true, if_false]
      rw [show (n : Int) % 256 = (n : Int) by omega]
      exact Ev.pure _
theorem ref_number_ev : ∀ (n : Nat) (acc : List Int), n < 18446744073709551616 → acc.length + (vnum n).length ≤ 140737488355328 → Ev (fun k => quarryref04_number.l0 k (n : Int) acc) (acc ++ vnum n) := by
  intro n
  induction n using Nat.strongRecOn with
  | ind n ih =>
    intro acc hn hl
    refine Ev.succ ?_
    simp only [quarryref04_number.l0]
    have := vnum_pos n
    by_cases hb : 128 ≤ n
    · rw [vnum_big hb] at hl ⊢
      simp only [List.length_cons] at hl
      have e1 : ((n : Int) ≥ 128) := by omega
      have e2 : acc.length < 140737488355328 := by omega
      simp only [e1, e2, if_true]
      have q1 : Int.tdiv (n : Int) 128 = ((n / 128 : Nat) : Int) := by rw [Int.tdiv_eq_ediv_of_nonneg (by omega)]; omega
      have q2 : Int.tmod (n : Int) 128 = (n : Int) % 128 := Int.tmod_eq_emod_of_nonneg (by omega)
      have e3 : IntKind.u64.wrap (Int.tdiv (n : Int) 128) = ((n / 128 : Nat) : Int) := by rw [q1, IntKind.wrap_u64]; omega
      have e4 : (IntKind.u64.wrap (Int.tmod (n : Int) 128 + 128)) % 256 = (n : Int) % 128 + 128 := by rw [q2, IntKind.wrap_u64]; omega
      rw [e3, e4]
      have := ih (n / 128) (by omega) (acc ++ [(n : Int) % 128 + 128]) (by omega) (by simp; omega)
      simpa using this
    · rw [vnum_small (by omega)] at hl ⊢
      have e1 : ¬ ((n : Int) ≥ 128) := by omega
      have e2 : acc.length < 140737488355328 := by simp at hl; omega
      simp only [e1, e2, if_true, if_false]
      rw [show (n : Int) % 256 = (n : Int) by omega]
      exact Ev.pure _

theorem signed_is {n : Int} (h : I64 n) : quarryref04_signed.f n = some (zig n : Int) := by
  unfold quarryref04_signed.f zig I64 at *
  by_cases e : 0 ≤ n
  · rw [if_pos e, if_pos e, IntKind.wrap_u64, IntKind.wrap_u64]
    congr 1
    omega
  · rw [if_neg e, if_neg (by omega), IntKind.wrap_u64, IntKind.wrap_u64, IntKind.wrap_u64]
    unfold wrap64
    congr 1
    omega
theorem xor_is {n : Int} (h : I64 n) : Go.bits .xor .u64 (IntKind.u64.wrap ((IntKind.u64.wrap n) * 2)) (IntKind.u64.wrap (n / 9223372036854775808)) = (zig n : Int) := by
  obtain ⟨h0, h1⟩ := h
  by_cases e : 0 ≤ n
  · have e1 : IntKind.u64.wrap (n / 9223372036854775808) = 0 := by rw [IntKind.wrap_u64]; omega
    have e2 : IntKind.u64.wrap ((IntKind.u64.wrap n) * 2) = ((2 * n).toNat : Int) := by rw [IntKind.wrap_u64, IntKind.wrap_u64]; omega
    have e3 : zig n = (2 * n).toNat := by unfold zig; rw [if_pos e]
    rw [e1, e2, e3]
    have hm : (2 * n).toNat < 18446744073709551616 := by omega
    generalize (2 * n).toNat = m at hm
    show IntKind.u64.wrap ((BitVec.ofInt 64 ((m : Nat) : Int) ^^^ BitVec.ofInt 64 0).toNat : Int) = _
    have hv : (BitVec.ofInt 64 ((m : Nat) : Int)).toNat = m := by
      rw [BitVec.ofInt_natCast, BitVec.toNat_ofNat]; exact Nat.mod_eq_of_lt (by omega)
    have hz : BitVec.ofInt 64 0 = 0#64 := by decide
    rw [hz, BitVec.xor_zero, hv, IntKind.wrap_u64]
    omega
  · have e1 : IntKind.u64.wrap (n / 9223372036854775808) = 18446744073709551615 := by rw [IntKind.wrap_u64]; omega
    have e2 : IntKind.u64.wrap ((IntKind.u64.wrap n) * 2) = ((18446744073709551616 + 2 * n).toNat : Int) := by rw [IntKind.wrap_u64, IntKind.wrap_u64]; omega
    have e3 : zig n = 18446744073709551615 - (18446744073709551616 + 2 * n).toNat := by unfold zig; rw [if_neg e]; omega
    rw [e1, e2, e3]
    have hm : (18446744073709551616 + 2 * n).toNat < 18446744073709551616 := by omega
    generalize (18446744073709551616 + 2 * n).toNat = m at hm
    show IntKind.u64.wrap ((BitVec.ofInt 64 ((m : Nat) : Int) ^^^ BitVec.ofInt 64 18446744073709551615).toNat : Int) = _
    have hv : (BitVec.ofInt 64 ((m : Nat) : Int)).toNat = m := by
      rw [BitVec.ofInt_natCast, BitVec.toNat_ofNat]; exact Nat.mod_eq_of_lt (by omega)
    have hz : BitVec.ofInt 64 18446744073709551615 = BitVec.allOnes 64 := by decide
    rw [hz, BitVec.xor_allOnes, BitVec.toNat_not, hv, IntKind.wrap_u64]
    omega

theorem check_ev (a b : Int) (c : ByteArray) : Ev (fun _ => value_Check.f a b c) (chk a b c) := Ev.pure _
theorem ref_check_ev (a b : Int) (c : ByteArray) : Ev (fun _ => quarryref01_Check.f a b c) (chk a b c) := Ev.pure _

theorem ref_bytes_ev (x : S38) (h : okV x) : Ev (fun k => quarryref04_bytes.f k x.f0 x.f1 x.f2) (encB x) := by
  have h1 := vnum_ten (zig_lt h.1)
  have h2 := vnum_ten (n := x.f2.size) (by have := h.2; omega)
  have h3 := h.2
  unfold quarryref04_bytes.f encB
  by_cases e1 : x.f0 = 1
  · simp [e1]
    exact Ev.pure _
  by_cases e2 : x.f0 = 2
  · simp only [e2, signed_is h.1]
    simp
    refine Ev.bind (ref_number_ev (zig x.f1) [] (zig_lt h.1) (by simp; omega)) ?_
    have e5 : 1 + (vnum (zig x.f1)).length < 140737488355328 := by omega
    simp [e5]
    exact Ev.pure _
  have hw : IntKind.u64.wrap (x.f2.size : Int) = (x.f2.size : Int) := by rw [IntKind.wrap_u64]; omega
  by_cases e3 : x.f0 = 3
  · simp only [e3, hw]
    simp
    refine Ev.bind (ref_number_ev x.f2.size [] (by omega) (by simp; omega)) ?_
    have e5 : 1 + (vnum x.f2.size).length < 140737488355328 := by omega
    have e6 : 1 + (vnum x.f2.size).length + x.f2.size < 140737488355328 := by omega
    have e7 : (vnum x.f2.size).length + 1 < 140737488355328 := by omega
    have e8 : (vnum x.f2.size).length + 1 + x.f2.size < 140737488355328 := by omega
    simp [e5, e6, e7, e8]
    exact Ev.pure _
  by_cases e4 : x.f0 = 4
  · simp only [e4, hw]
    simp
    refine Ev.bind (ref_number_ev x.f2.size [] (by omega) (by simp; omega)) ?_
    have e5 : 1 + (vnum x.f2.size).length < 140737488355328 := by omega
    have e6 : 1 + (vnum x.f2.size).length + x.f2.size < 140737488355328 := by omega
    have e7 : (vnum x.f2.size).length + 1 < 140737488355328 := by omega
    have e8 : (vnum x.f2.size).length + 1 + x.f2.size < 140737488355328 := by omega
    simp [e5, e6, e7, e8]
    exact Ev.pure _
  simp [e1, e2, e3, e4]
  exact Ev.pure _

theorem ref_all_loop : ∀ (suf pre : List S38) (acc : List Int), (∀ x ∈ suf, okV x) → (pre ++ suf).length < 140737488355328 → acc.length + room suf < 140737488355328 →
    Ev (fun k => quarryref04_all.l0 k (pre ++ suf) acc (pre.length : Int)) (match encL suf with | none => ([], false) | some b => (acc ++ b, true)) := by
  intro suf
  induction suf with
  | nil =>
    intro pre acc _ hl _
    refine Ev.succ ?_
    simp [quarryref04_all.l0, encL]
    exact Ev.pure _
  | cons x suf ih =>
    intro pre acc hx hl hr
    refine Ev.succ ?_
    have e1 : (pre.length : Int) < ((pre ++ x :: suf).length : Int) := by simp; omega
    have e2 : (0 : Int) ≤ (pre.length : Int) := by omega
    simp only [quarryref04_all.l0, e1, e2, if_true, rd_at]
    refine Ev.bind (ref_check_ev x.f0 x.f1 x.f2) ?_
    by_cases hc : chk x.f0 x.f1 x.f2 = 0
    · rw [encL, if_pos hc]
      simp only [hc, if_true]
      have hx0 := hx x (by simp)
      have hb := encB_len hx0
      simp only [room] at hr
      refine Ev.bind (ref_bytes_ev x hx0) ?_
      have e5 : acc.length + (encB x).length < 140737488355328 := by omega
      have e6 : wrap64 ((pre.length : Int) + 1) = (pre.length : Int) + 1 := wrap64_in (by omega) (by simp at hl; omega)
      simp only [e5, if_true, e6]
      have := ih (pre ++ [x]) (acc ++ encB x) (fun y hy => hx y (by simp [hy])) (by simpa using hl) (by simp; omega)
      cases he : encL suf with
      | none => rw [he] at this; simpa using this
      | some b => rw [he] at this; simpa using this
    · rw [encL, if_neg hc]
      simp only [hc, if_false]
      exact Ev.pure _
theorem rows_write_loop : ∀ (suf pre : List S38) (acc : List Int), (∀ x ∈ suf, okV x) → (pre ++ suf).length < 140737488355328 → acc.length + room suf < 140737488355328 →
    Ev (fun k => rows_write.l0 k acc (pre ++ suf) ((pre ++ suf).length : Int) (pre.length : Int)) (match encL suf with | none => ([], false) | some b => (acc ++ b, true)) := by
  intro suf
  induction suf with
  | nil =>
    intro pre acc _ hl _
    refine Ev.succ ?_
    simp [rows_write.l0, encL]
    exact Ev.pure _
  | cons x suf ih =>
    intro pre acc hx hl hr
    refine Ev.succ ?_
    have e1 : (pre.length : Int) < ((pre ++ x :: suf).length : Int) := by simp; omega
    have e2 : (0 : Int) ≤ (pre.length : Int) := by omega
    simp only [rows_write.l0, e1, e2, if_true, rd_at]
    refine Ev.bind (check_ev x.f0 x.f1 x.f2) ?_
    by_cases hc : chk x.f0 x.f1 x.f2 = 0
    · rw [encL, if_pos hc]
      have hx0 := hx x (by simp)
      have hb := encB_len hx0
      have h1 := vnum_ten (zig_lt hx0.1)
      have h2 := vnum_ten (n := x.f2.size) (by have := hx0.2; omega)
      simp only [room] at hr
      have e3 : acc.length < 140737488355328 := by omega
      have e6 : wrap64 ((pre.length : Int) + 1) = (pre.length : Int) + 1 := wrap64_in (by omega) (by simp at hl; omega)
      simp only [hc, e3, if_true, Option.bind_some, e6]
      have := ih (pre ++ [x]) (acc ++ encB x) (fun y hy => hx y (by simp [hy])) (by simpa using hl) (by simp; omega)
      have hgo : Ev (fun k => rows_write.l0 k (acc ++ encB x) (pre ++ x :: suf) ((pre ++ x :: suf).length : Int) ((pre.length : Int) + 1)) (match (encL suf).map (encB x ++ ·) with | none => ([], false) | some b => (acc ++ b, true)) := by
        cases he : encL suf with
        | none => rw [he] at this; simpa using this
        | some b => rw [he] at this; simpa using this
      clear this ih
      have hw : IntKind.u64.wrap (x.f2.size : Int) = (x.f2.size : Int) := by rw [IntKind.wrap_u64]; have := hx0.2; omega
      have hsz := hx0.2
      by_cases f1 : x.f0 = 1
      · have e7 : (acc ++ [x.f0 % 256]).length < 140737488355328 := by simp; omega
        have eb : acc ++ encB x = acc ++ [x.f0 % 256] ++ [x.f1 % 256] := by unfold encB; rw [if_pos f1]; simp
        rw [eb] at hgo
        simp only [f1] at e7 hgo ⊢
        simp only [e7, if_true]
        exact hgo
      by_cases f2 : x.f0 = 2
      · have eb : acc ++ encB x = acc ++ [x.f0 % 256] ++ vnum (zig x.f1) := by unfold encB; rw [if_neg f1, if_pos f2]; simp
        have hn := rows_number_ev (zig x.f1) (acc ++ [x.f0 % 256]) (zig_lt hx0.1) (by simp; omega)
        rw [eb] at hgo
        simp only [f1, f2, if_false, if_true, xor_is hx0.1] at hn hgo ⊢
        exact Ev.bind hn hgo
      by_cases f34 : x.f0 = 3 ∨ x.f0 = 4
      · have eb : acc ++ encB x = acc ++ [x.f0 % 256] ++ vnum x.f2.size ++ bytesOf x.f2 := by unfold encB; rw [if_neg f1, if_neg f2, if_pos f34]; simp
        have hn := rows_number_ev x.f2.size (acc ++ [x.f0 % 256]) (by omega) (by simp; omega)
        have e8 : (acc ++ [x.f0 % 256] ++ vnum x.f2.size).length + x.f2.size < 140737488355328 := by simp; omega
        rw [eb] at hgo
        by_cases f3 : x.f0 = 3
        · simp only [f1, f2, f3, if_false, if_true, hw] at hn hgo e8 ⊢
          refine Ev.bind hn ?_
          simp only [e8, if_true]
          exact hgo
        · have f4 : x.f0 = 4 := by omega
          simp only [f1, f2, f3, f4, if_false, if_true, hw] at hn hgo e8 ⊢
          refine Ev.bind hn ?_
          simp only [e8, if_true]
          exact hgo
      · have eb : acc ++ encB x = acc ++ [x.f0 % 256] := by unfold encB; rw [if_neg f1, if_neg f2, if_neg f34]
        have f3 : ¬ x.f0 = 3 := fun h => f34 (.inl h)
        have f4 : ¬ x.f0 = 4 := fun h => f34 (.inr h)
        rw [eb] at hgo
        simp only [f1, f2, f3, f4, if_false] at hgo ⊢
        exact hgo
    · rw [encL, if_neg hc]
      simp only [hc, if_false]
      exact Ev.pure _

theorem ref_all_ev {l : List S38} (h : okR l) : Ev (fun k => quarryref04_all.f k l) (allR l) := by
  have h2 := vnum_ten (n := l.length) (by have := h.2.1; omega)
  have hw : IntKind.u64.wrap (l.length : Int) = (l.length : Int) := by rw [IntKind.wrap_u64]; have := h.2.1; omega
  unfold quarryref04_all.f
  rw [hw]
  refine Ev.bind (ref_number_ev l.length [] (by have := h.2.1; omega) (by simp; omega)) ?_
  have := ref_all_loop l [] ([] ++ vnum l.length) h.1 (by simpa using h.2.1) (by have := h.2.2; simp; omega)
  unfold allR encR
  cases he : encL l with
  | none => rw [he] at this; simpa using this
  | some b => rw [he] at this; simpa using this
theorem rows_write_ev {l : List S38} (h : okR l) : Ev (fun k => rows_write.f k l) (allR l) := by
  have h2 := vnum_ten (n := l.length) (by have := h.2.1; omega)
  have hw : IntKind.u64.wrap (l.length : Int) = (l.length : Int) := by rw [IntKind.wrap_u64]; have := h.2.1; omega
  unfold rows_write.f
  rw [hw]
  refine Ev.bind (rows_number_ev l.length [] (by have := h.2.1; omega) (by simp; omega)) ?_
  have := rows_write_loop l [] ([] ++ vnum l.length) h.1 (by simpa using h.2.1) (by have := h.2.2; simp; omega)
  unfold allR encR
  cases he : encL l with
  | none => rw [he] at this; simpa using this
  | some b => rw [he] at this; simpa using this
theorem enc_of_all {l : List S38} : (if (allR l).2 = true then (if ((allR l).1.length : Int) > 2048 then (some (([] : List Int), (8 : Int))) else (some ((allR l).1, 0))) else (some (([] : List Int), 3))) = some (encode l) := by
  unfold allR encode
  cases encR l with
  | none => simp
  | some b =>
    by_cases e : 2048 < b.length
    · have e' : (b.length : Int) > 2048 := by omega
      simp only [if_true, e, e']
    · have e' : ¬ (b.length : Int) > 2048 := by omega
      simp only [if_true, if_false, e, e']
theorem rows_Encode_ev {l : List S38} (h : okR l) : Ev (fun k => rows_Encode.f k l) (encode l) := by
  unfold rows_Encode.f
  refine Ev.bind (rows_write_ev h) ?_
  simp only [enc_of_all]
  exact Ev.pure _
theorem ref_Encode_ev {l : List S38} (h : okR l) : Ev (fun k => quarryref04_Encode.f k l) (encode l) := by
  unfold quarryref04_Encode.f
  refine Ev.bind (ref_all_ev h) ?_
  simp only [enc_of_all]
  exact Ev.pure _
theorem rows_Size_ev {l : List S38} (h : okR l) : Ev (fun k => rows_Size.f k l) (sizeR l) := by
  unfold rows_Size.f
  exact Ev.bind (rows_write_ev h) (Ev.pure _)
theorem ref_Size_ev {l : List S38} (h : okR l) : Ev (fun k => quarryref04_Size.f k l) (sizeR l) := by
  unfold quarryref04_Size.f
  exact Ev.bind (ref_all_ev h) (Ev.pure _)

/-! ### Rows that are one -/
theorem same_loop : ∀ (s1 s2 p1 p2 : List S38), p1.length = p2.length → s1.length = s2.length → (p1 ++ s1).length < 140737488355328 →
    Ev (fun k => quarryref01_SameRow.l0 k (p1 ++ s1) (p2 ++ s2) (p1.length : Int)) (decide (s1 = s2)) := by
  intro s1
  induction s1 with
  | nil =>
    intro s2 p1 p2 hp hs hl
    refine Ev.succ ?_
    obtain rfl : s2 = [] := List.length_eq_zero_iff.1 (by simpa using hs.symm)
    simp [quarryref01_SameRow.l0]
    exact Ev.pure _
  | cons x s1 ih =>
    intro s2 p1 p2 hp hs hl
    refine Ev.succ ?_
    cases s2 with
    | nil => simp at hs
    | cons y s2 =>
      have e1 : (p1.length : Int) < ((p1 ++ x :: s1).length : Int) := by simp; omega
      have e2 : (0 : Int) ≤ (p1.length : Int) := by omega
      have e3 : (p1.length : Int) < ((p2 ++ y :: s2).length : Int) := by simp; omega
      have hy : rd_T38 (p2 ++ y :: s2) (p1.length : Int) = y := by rw [hp]; exact rd_at _ _ _
      simp only [quarryref01_SameRow.l0, e1, e2, e3, if_true, rd_at, hy]
      by_cases hxy : x = y
      · subst hxy
        have e6 : wrap64 ((p1.length : Int) + 1) = (p1.length : Int) + 1 := wrap64_in (by omega) (by simp at hl; omega)
        simp only [beq_self_eq_true, Bool.not_true, Bool.or_self, Bool.false_eq_true, if_false, e6]
        have := ih s2 (p1 ++ [x]) (p2 ++ [x]) (by simpa using hp) (by simpa using hs) (by simpa using hl)
        simpa using this
      · have hn : (!((x.f0) == (y.f0)) || (!((x.f1) == (y.f1)) || (!((x.f2.toList) == (y.f2.toList))))) = true := by
          rcases x with ⟨a, b, c⟩
          rcases y with ⟨a', b', c'⟩
          by_cases h1 : a = a' <;> by_cases h2 : b = b' <;> by_cases h3 : c.toList = c'.toList <;> simp [h1, h2, h3]
          exact absurd (by rw [h1, h2, toList_inj h3]) hxy
        simp only [hn, if_true]
        have : decide (x :: s1 = y :: s2) = false := decide_eq_false (by intro e; injection e with e _; exact hxy e)
        rw [this]
        exact Ev.pure _
theorem same_ev (a b : List S38) (hl : a.length < 140737488355328) : Ev (fun k => quarryref01_SameRow.f k a b) (decide (a = b)) := by
  unfold quarryref01_SameRow.f
  by_cases h : a.length = b.length
  · have e : (a.length : Int) = (b.length : Int) := by omega
    simp only [e, if_true]
    have := same_loop a b [] [] rfl h (by simpa using hl)
    simpa using this
  · have e : ¬ (a.length : Int) = (b.length : Int) := by omega
    simp only [e, if_false]
    have : decide (a = b) = false := decide_eq_false (by rintro rfl; exact h rfl)
    rw [this]
    exact Ev.pure _

/-! ### Rows that are not too long to speak of -/
def shortB (l : List S38) : Bool := l.all (fun x => decide (x.f2.size ≤ 100000)) && decide ((l.map fun x => x.f2.size).sum < 100000) && decide (l.length < 10000)
theorem short_loop : ∀ (suf pre : List S38) (s : Nat), (pre ++ suf).length < 4398046511104 → s ≤ 100000 * pre.length →
    ∃ b, Ev (fun k => quarrylaw04_short.l0 k (pre ++ suf) (s : Int) (pre.length : Int)) b ∧ (b = true → (∀ x ∈ suf, x.f2.size ≤ 100000) ∧ s + (suf.map fun x => x.f2.size).sum < 100000 ∧ (pre ++ suf).length < 10000) := by
  intro suf
  induction suf with
  | nil =>
    intro pre s hl hs
    by_cases h : s < 100000
    · refine ⟨decide (((pre ++ []).length : Int) < 10000), Ev.succ ?_, fun hb => ?_⟩
      · have h' : (s : Int) < 100000 := by omega
        simp only [quarrylaw04_short.l0, List.append_nil, Int.lt_irrefl, if_false, h', if_true]
        exact Ev.pure _
      · have := of_decide_eq_true hb
        refine ⟨by simp, by simpa using h, by simp at this ⊢; omega⟩
    · refine ⟨false, Ev.succ ?_, fun hb => by cases hb⟩
      have h' : ¬ (s : Int) < 100000 := by omega
      simp only [quarrylaw04_short.l0, List.append_nil, Int.lt_irrefl, if_false, h']
      exact Ev.pure _
  | cons x suf ih =>
    intro pre s hl hs
    have e1 : (pre.length : Int) < ((pre ++ x :: suf).length : Int) := by simp; omega
    have e2 : (0 : Int) ≤ (pre.length : Int) := by omega
    by_cases h : x.f2.size ≤ 100000
    · obtain ⟨b, hb, hbt⟩ := ih (pre ++ [x]) (s + x.f2.size) (by simpa using hl) (by simp; omega)
      refine ⟨b, Ev.succ ?_, fun e => ?_⟩
      · have h' : ¬ ((x.f2.size : Int) > 100000) := by omega
        have hlp : pre.length + 1 + suf.length < 4398046511104 := by simp at hl; omega
        have e6 : wrap64 ((pre.length : Int) + 1) = (pre.length : Int) + 1 := wrap64_in (by omega) (by omega)
        have e7 : wrap64 ((s : Int) + (x.f2.size : Int)) = (s : Int) + (x.f2.size : Int) := wrap64_in (by omega) (by omega)
        simp only [quarrylaw04_short.l0, e1, e2, if_true, rd_at, h', if_false, e6, e7]
        simpa using hb
      · obtain ⟨q1, q2, q3⟩ := hbt e
        refine ⟨?_, by simp; omega, by simpa using q3⟩
        intro y hy
        rcases List.mem_cons.1 hy with rfl | hy
        · exact h
        · exact q1 y hy
    · refine ⟨false, Ev.succ ?_, fun hb => by cases hb⟩
      have h' : ((x.f2.size : Int) > 100000) := by omega
      simp only [quarrylaw04_short.l0, e1, e2, if_true, rd_at, h']
      exact Ev.pure _
theorem room_le : ∀ (l : List S38), room l = (l.map fun x => x.f2.size).sum + 11 * l.length := by
  intro l
  induction l with
  | nil => rfl
  | cons x l ih => simp only [room, ih, List.map_cons, List.sum_cons, List.length_cons]; omega
theorem short_ev (l : List S38) (hl : l.length < 4398046511104) (hv : ∀ x ∈ l, I64 x.f1) : ∃ b, Ev (fun k => quarrylaw04_short.f k l) b ∧ (b = true → okR l ∧ l.length < 10000 ∧ room l < 210000) := by
  obtain ⟨b, hb, ht⟩ := short_loop l [] 0 (by simpa using hl) (by simp)
  refine ⟨b, by simpa [quarrylaw04_short.f] using hb, fun e => ?_⟩
  obtain ⟨h1, h2, h3⟩ := ht e
  have := room_le l
  simp at h2 h3
  exact ⟨⟨fun x hx => ⟨hv x hx, by have := h1 x hx; omega⟩, by omega, by omega⟩, h3, by omega⟩
/-- What a law's argument is known to be. -/
theorem row_known {l : List S38} (h : G22 l) : l.length < 4398046511104 ∧ (∀ x ∈ l, I64 x.f0 ∧ I64 x.f1) := by
  refine ⟨by have := h.2; omega, fun x hx => ?_⟩
  obtain ⟨h0, h1, _⟩ := h.1 x hx
  exact ⟨bounds_i64 h0, bounds_i64 h1⟩
end Go.Proofs.Ytlnpefcclhmokaa.Pure
