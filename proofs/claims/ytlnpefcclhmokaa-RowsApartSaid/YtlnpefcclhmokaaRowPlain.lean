/- Rows as plain data: what is written. -/
import Derived.Test.YtlnpefcclhmokaaP2
import Derived.Test.YtlnpefcclhmokaaH7
import Derived.Laws.BitsLemmas
import Derived.WideShapes
namespace Go.Proofs.Ytlnpefcclhmokaa.Pure
set_option linter.unusedVariables false
set_option linter.unusedSimpArgs false
open Go.RowKit Go.Proofs.Ytlnpefcclhmokaa.P Go.Proofs.YtlnpefcclhmokaaW.PrintWords Go.Proofs.YtlnpefcclhmokaaW.PrintLast Go.Proofs.YtlnpefcclhmokaaW.PrintMore

theorem toList_inj {a b : ByteArray} (h : a.toList = b.toList) : a = b := by
  rw [Go.ByteArray.toList_eq, Go.ByteArray.toList_eq] at h
  exact Go.WideShapes.bytes_inj h

instance decS38 : DecidableEq S38 := fun a b =>
  if h : a.f0 = b.f0 ∧ a.f1 = b.f1 ∧ a.f2 = b.f2 then .isTrue (by cases a; cases b; simp_all) else .isFalse (by rintro rfl; exact h ⟨rfl, rfl, rfl⟩)

/-! ### A number -/
def vnum (n : Nat) : List Int := if h : 128 ≤ n then ((n : Int) % 128 + 128) :: vnum (n / 128) else [(n : Int)]
termination_by n
decreasing_by omega
theorem vnum_small {n : Nat} (h : n < 128) : vnum n = [(n : Int)] := by rw [vnum, dif_neg (by omega)]
theorem vnum_big {n : Nat} (h : 128 ≤ n) : vnum n = ((n : Int) % 128 + 128) :: vnum (n / 128) := by rw [vnum, dif_pos h]
theorem vnum_pos (n : Nat) : 0 < (vnum n).length := by
  by_cases h : 128 ≤ n
  · rw [vnum_big h]; simp
  · rw [vnum_small (by omega)]; simp
theorem vnum_len : ∀ (i n : Nat), n < 128 ^ i * 128 → (vnum n).length ≤ i + 1 := by
  intro i
  induction i with
  | zero => intro n h; rw [vnum_small (by omega)]; simp
  | succ i ih =>
    intro n h
    by_cases hb : 128 ≤ n
    · rw [vnum_big hb, List.length_cons]
      have : n / 128 < 128 ^ i * 128 := by
        rw [Nat.pow_succ] at h
        omega
      have := ih _ this
      omega
    · rw [vnum_small (by omega)]; simp
theorem vnum_ten {n : Nat} (h : n < 18446744073709551616) : (vnum n).length ≤ 10 := vnum_len 9 n (by omega)
/-! ### A value -/
def zig (n : Int) : Nat := if 0 ≤ n then (2 * n).toNat else (-2 * n - 1).toNat
def I64 (n : Int) : Prop := -9223372036854775808 ≤ n ∧ n ≤ 9223372036854775807
theorem zig_lt {n : Int} (h : I64 n) : zig n < 18446744073709551616 := by unfold zig I64 at *; split <;> omega
abbrev chk (a b : Int) (c : ByteArray) : Int := chkV a b c
/-- The bytes of a value. -/
def encB (x : S38) : List Int :=
  x.f0 % 256 :: (if x.f0 = 1 then [x.f1 % 256] else if x.f0 = 2 then vnum (zig x.f1) else if x.f0 = 3 ∨ x.f0 = 4 then vnum x.f2.size ++ bytesOf x.f2 else [])
/-- The bytes of values, or none. -/
def encL : List S38 → Option (List Int)
  | [] => some []
  | x :: l => if chk x.f0 x.f1 x.f2 = 0 then (encL l).map (encB x ++ ·) else none
/-- What a row is at most long. -/
def room : List S38 → Nat
  | [] => 0
  | x :: l => x.f2.size + 11 + room l
def okV (x : S38) : Prop := I64 x.f1 ∧ x.f2.size ≤ 140737488351232
theorem encB_len {x : S38} (h : okV x) : (encB x).length ≤ x.f2.size + 11 := by
  unfold encB
  have h1 := vnum_ten (zig_lt h.1)
  have h2 := vnum_ten (n := x.f2.size) (by have := h.2; omega)
  split
  · simp
  split
  · simp; omega
  split
  · simp [bytesOf_length]; omega
  · simp

/-- A row's bytes. -/
def encR (l : List S38) : Option (List Int) := (encL l).map (vnum l.length ++ ·)
def allR (l : List S38) : List Int × Bool := match encR l with | none => ([], false) | some b => (b, true)
def encode (l : List S38) : List Int × Int := match encR l with | none => ([], 3) | some b => if 2048 < b.length then ([], 8) else (b, 0)
def sizeR (l : List S38) : Int := ((allR l).1.length : Int)
/-- A row of which the law speaks. -/
def okR (l : List S38) : Prop := (∀ x ∈ l, okV x) ∧ l.length < 140737488355328 ∧ room l + 10 < 140737488355328
end Go.Proofs.Ytlnpefcclhmokaa.Pure
