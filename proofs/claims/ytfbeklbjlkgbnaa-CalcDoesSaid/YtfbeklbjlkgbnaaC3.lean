/- Written in this session: calc's sums and products by hand. No condition but the kinds of numbers. -/
import Derived.Test.YtfbeklbjlkgbnaaC1
import Derived.Test.YtfbeklbjlkgbnaaA1
import Derived.Lib.Mul64
import Derived.Laws.Bits64
import Derived.Laws.BitsAllLaws
namespace Go.Proofs.Ytfbeklbjlkgbnaa.P
open Go.RowKit Go.Proofs.YtfbeklbjlkgbnaaW.PrintWords Go.Proofs.YtfbeklbjlkgbnaaW.PrintLast Go.Proofs.YtfbeklbjlkgbnaaW.PrintMore
attribute [local go_sem] max2_int min2_int max_two min_two max_three min_three max_four min_four   -- for this text's walks alone
set_option linter.unusedVariables false
set_option linter.unusedSimpArgs false

def In64 (n : Int) : Prop := -9223372036854775808 ≤ n ∧ n ≤ 9223372036854775807
instance (n : Int) : Decidable (In64 n) := by unfold In64; infer_instance
def prodP (a b : Int) : Except Int Int := if In64 (a * b) then .ok (a * b) else .error 40
def sumP (op a b : Int) : Except Int Int :=
  if op = 11 then (if In64 (a + b) then .ok (a + b) else .error 40)
  else if op = 12 then (if In64 (a - b) then .ok (a - b) else .error 40)
  else if op = 13 then prodP a b
  else if b = 0 then .error 41
  else if op = 15 then (if b = -1 then .ok 0 else .ok (Int.tmod a b))
  else if a = -9223372036854775808 ∧ b = -1 then .error 40 else .ok (Int.tdiv a b)
def NE (r : Except Int Int) (e : Ending) : Prop := match r with | .ok v => e = .returned (.int .i64 v) | .error c => e = PErr c

/-! ### Signs of bits -/
theorem neg_iff (x : BitVec 64) : IntKind.i64.wrap (x.toNat : Int) < 0 ↔ x.msb = true := by
  rw [BitVec.msb_eq_decide, IntKind.wrap_i64, decide_eq_true_eq]
  have := x.isLt
  show _ ↔ 2 ^ 63 ≤ x.toNat
  omega
theorem msb_of {a : Int} (h : In64 a) : (BitVec.ofInt 64 a).msb = decide (a < 0) := by
  rw [BitVec.msb_eq_decide, BitVec.toNat_ofInt, decide_eq_decide]
  unfold In64 at h
  show 2 ^ 63 ≤ _ ↔ _
  omega
theorem xor_neg {a b : Int} (ha : In64 a) (hb : In64 b) : Go.bits .xor .i64 a b < 0 ↔ (a < 0) ≠ (b < 0) := by
  show IntKind.i64.wrap ((BitVec.ofInt 64 a ^^^ BitVec.ofInt 64 b).toNat : Int) < 0 ↔ _
  rw [neg_iff, BitVec.msb_xor, msb_of ha, msb_of hb]
  by_cases h1 : a < 0 <;> by_cases h2 : b < 0 <;> simp [h1, h2]
theorem xor_in (a b : Int) : In64 (Go.bits .xor .i64 a b) := by
  show In64 (IntKind.i64.wrap _)
  unfold In64
  rw [IntKind.wrap_i64]
  omega
theorem and_neg {a b : Int} (ha : In64 a) (hb : In64 b) : Go.bits .and .i64 a b < 0 ↔ (a < 0 ∧ b < 0) := by
  show IntKind.i64.wrap ((BitVec.ofInt 64 a &&& BitVec.ofInt 64 b).toNat : Int) < 0 ↔ _
  rw [neg_iff, BitVec.msb_and, msb_of ha, msb_of hb]
  simp
theorem wrap_in (n : Int) : In64 (wrap64 n) := by unfold wrap64 In64; omega
theorem add_over {a b : Int} (ha : In64 a) (hb : In64 b) : 0 ≤ Go.bits .and .i64 (Go.bits .xor .i64 a (wrap64 (a + b))) (Go.bits .xor .i64 b (wrap64 (a + b))) ↔ In64 (a + b) := by
  have h1 := and_neg (xor_in a (wrap64 (a + b))) (xor_in b (wrap64 (a + b)))
  rw [xor_neg ha (wrap_in _), xor_neg hb (wrap_in _)] at h1
  have h2 : ¬ (0 ≤ Go.bits .and .i64 (Go.bits .xor .i64 a (wrap64 (a + b))) (Go.bits .xor .i64 b (wrap64 (a + b)))) ↔ _ := Int.not_le.trans h1
  unfold In64 at *
  have h3 : ((a < 0) ≠ (wrap64 (a + b) < 0) ∧ (b < 0) ≠ (wrap64 (a + b) < 0)) ↔ ¬ (-9223372036854775808 ≤ a + b ∧ a + b ≤ 9223372036854775807) := by
    unfold wrap64
    by_cases p : a < 0 <;> by_cases q : b < 0 <;> simp [p, q] <;> omega
  rw [h3] at h2
  exact Decidable.not_iff_not.1 h2
theorem sub_over {a b : Int} (ha : In64 a) (hb : In64 b) : 0 ≤ Go.bits .and .i64 (Go.bits .xor .i64 a b) (Go.bits .xor .i64 a (wrap64 (a - b))) ↔ In64 (a - b) := by
  have h1 := and_neg (xor_in a b) (xor_in a (wrap64 (a - b)))
  rw [xor_neg ha hb, xor_neg ha (wrap_in _)] at h1
  have h2 : ¬ (0 ≤ Go.bits .and .i64 (Go.bits .xor .i64 a b) (Go.bits .xor .i64 a (wrap64 (a - b)))) ↔ _ := Int.not_le.trans h1
  unfold In64 at *
  have h3 : ((a < 0) ≠ (b < 0) ∧ (a < 0) ≠ (wrap64 (a - b) < 0)) ↔ ¬ (-9223372036854775808 ≤ a - b ∧ a - b ≤ 9223372036854775807) := by
    unfold wrap64
    by_cases p : a < 0 <;> by_cases q : b < 0 <;> simp [p, q] <;> omega
  rw [h3] at h2
  exact Decidable.not_iff_not.1 h2

/-! ### Products -/
theorem size_nat {a : Int} (h : In64 a) : calc_size.f a = some (a.natAbs : Int) := by
  unfold calc_size.f
  unfold In64 at h
  rw [IntKind.wrap_u64, IntKind.wrap_u64]
  split <;> congr 1 <;> omega
theorem and_low (m : Nat) (h : m < 18446744073709551616) : Go.bits .and .u64 (m : Int) 4294967295 = ((m % 4294967296 : Nat) : Int) := by
  have := bits_mask .u64 64 (by decide) (fun m h0 h1 => by rw [IntKind.wrap_u64]; omega) 32 (by decide) (m : Int) (by omega) (by omega)
  rw [show (4294967295 : Int) = 2 ^ 32 - 1 by decide]
  rw [this]
  have e : (2 : Int) ^ 32 = 4294967296 := by decide
  rw [e]
  omega
theorem mul64_is (x y : Nat) (hx : x < 18446744073709551616) (hy : y < 18446744073709551616) : bits_Mul64.f (x : Int) (y : Int) = some (((x * y / 18446744073709551616 : Nat) : Int), ((x * y % 18446744073709551616 : Nat) : Int)) := by
  obtain ⟨h1, h2, h3, h4⟩ := Lib.mul64_hi x y hx hy
  unfold bits_Mul64.f
  rw [and_low x hx, and_low y hy]
  have ex : (x : Int) / 4294967296 = ((x / 4294967296 : Nat) : Int) := by omega
  have ey : (y : Int) / 4294967296 = ((y / 4294967296 : Nat) : Int) := by omega
  have wn : ∀ n : Nat, n < 18446744073709551616 → IntKind.u64.wrap (n : Int) = (n : Int) := fun n hn => by rw [IntKind.wrap_u64]; omega
  have m1 : (x / 4294967296) * (y / 4294967296) < 18446744073709551616 := by
    have : (x / 4294967296) * (y / 4294967296) ≤ 4294967295 * 4294967295 := Nat.mul_le_mul (by omega) (by omega)
    omega
  have m2 : (x / 4294967296) * (y % 4294967296) < 18446744073709551616 := by
    have : (x / 4294967296) * (y % 4294967296) ≤ 4294967295 * 4294967295 := Nat.mul_le_mul (by omega) (by omega)
    omega
  have m3 : (x % 4294967296) * (y / 4294967296) < 18446744073709551616 := by
    have : (x % 4294967296) * (y / 4294967296) ≤ 4294967295 * 4294967295 := Nat.mul_le_mul (by omega) (by omega)
    omega
  have hq : x * y / 18446744073709551616 < 18446744073709551616 := by
    have : x * y ≤ 18446744073709551615 * 18446744073709551615 := Nat.mul_le_mul (by omega) (by omega)
    omega
  rw [ex, ey]
  simp only [← Int.natCast_mul]
  rw [wn _ m1, wn _ m2, wn _ h1, wn _ m3]
  have e1 : (((x % 4294967296 * (y % 4294967296) : Nat) : Int) / 4294967296) = ((x % 4294967296 * (y % 4294967296) / 4294967296 : Nat) : Int) := by omega
  rw [e1]
  simp only [← Int.natCast_add]
  rw [wn _ h2]
  have lt2 : x / 4294967296 * (y % 4294967296) + x % 4294967296 * (y % 4294967296) / 4294967296 < 18446744073709551616 := h2
  rw [and_low _ lt2]
  have e2 : (((x / 4294967296 * (y % 4294967296) + x % 4294967296 * (y % 4294967296) / 4294967296 : Nat) : Int) / 4294967296) = (((x / 4294967296 * (y % 4294967296) + x % 4294967296 * (y % 4294967296) / 4294967296) / 4294967296 : Nat) : Int) := by omega
  rw [e2]
  simp only [← Int.natCast_add]
  rw [wn _ h3]
  have e3 : ((((x / 4294967296 * (y % 4294967296) + x % 4294967296 * (y % 4294967296) / 4294967296) % 4294967296 + x % 4294967296 * (y / 4294967296) : Nat) : Int) / 4294967296) = ((((x / 4294967296 * (y % 4294967296) + x % 4294967296 * (y % 4294967296) / 4294967296) % 4294967296 + x % 4294967296 * (y / 4294967296)) / 4294967296 : Nat) : Int) := by omega
  rw [e3]
  have lt4 : x / 4294967296 * (y / 4294967296) + (x / 4294967296 * (y % 4294967296) + x % 4294967296 * (y % 4294967296) / 4294967296) / 4294967296 < 18446744073709551616 := by omega
  rw [wn _ lt4]
  simp only [← Int.natCast_add]
  rw [h4, wn _ hq, IntKind.wrap_u64]
  simp only [Option.some.injEq, Prod.mk.injEq, true_and]
  omega
theorem natAbs_mul_sign (a b : Int) : (((a < 0) ≠ (b < 0)) → a * b = -((a.natAbs * b.natAbs : Nat) : Int)) ∧ (¬ ((a < 0) ≠ (b < 0)) → a * b = ((a.natAbs * b.natAbs : Nat) : Int)) := by
  have hn : ((a.natAbs * b.natAbs : Nat) : Int) = (a.natAbs : Int) * (b.natAbs : Int) := Int.natCast_mul ..
  rw [hn]
  by_cases h1 : a < 0 <;> by_cases h2 : b < 0
  · have ea : (a.natAbs : Int) = -a := by omega
    have eb : (b.natAbs : Int) = -b := by omega
    rw [ea, eb, Int.neg_mul_neg]; simp [h1, h2]
  · have ea : (a.natAbs : Int) = -a := by omega
    have eb : (b.natAbs : Int) = b := by omega
    rw [ea, eb, Int.neg_mul]; simp [h1, h2]
  · have ea : (a.natAbs : Int) = a := by omega
    have eb : (b.natAbs : Int) = -b := by omega
    rw [ea, eb, Int.mul_neg]; simp [h1, h2]
  · have ea : (a.natAbs : Int) = a := by omega
    have eb : (b.natAbs : Int) = b := by omega
    rw [ea, eb]; simp [h1, h2]
end Go.Proofs.Ytfbeklbjlkgbnaa.P
