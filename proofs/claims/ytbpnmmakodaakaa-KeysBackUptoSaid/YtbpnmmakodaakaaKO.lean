/- The bytes of values and rows stand in their order. No condition. -/
import Derived.Test.YtbpnmmakodaakaaKP
namespace Go.Proofs.Ytbpnmmakodaakaa.Pure
set_option linter.unusedVariables false
set_option linter.unusedSimpArgs false
open Go.RowKit Go.Proofs.Ytbpnmmakodaakaa.P Go.Proofs.YtbpnmmakodaakaaW.PrintWords Go.Proofs.YtbpnmmakodaakaaW.PrintLast Go.Proofs.YtbpnmmakodaakaaW.PrintMore

theorem cmpI_self (a : Int) : cmpI a a = 0 := by unfold cmpI; simp
theorem cmpI_shift (a b c : Int) : cmpI (a + c) (b + c) = cmpI a b := by
  unfold cmpI
  by_cases h1 : a < b
  · have : a + c < b + c := by omega
    simp [h1, this]
  · have : ¬ a + c < b + c := by omega
    by_cases h2 : b < a
    · have h3 : b + c < a + c := by omega
      simp [h1, h2, h3, this]
    · have h3 : ¬ b + c < a + c := by omega
      simp [h1, h2, h3, this]
theorem be_mod (k : Nat) : ∀ (j : Nat) (n : Int), j ≤ k → be j (n % 256 ^ k) = be j n := by
  intro j
  induction j with
  | zero => intro n _; rfl
  | succ j ih =>
    intro n hj
    simp only [be]
    rw [ih n (by omega)]
    congr 1
    obtain ⟨i, rfl⟩ : ∃ i, k = j + 1 + i := ⟨k - (j + 1), by omega⟩
    have hp : (0 : Int) < 256 ^ j := Int.pow_pos (by decide)
    have e : (256 : Int) ^ (j + 1 + i) = 256 ^ j * (256 * 256 ^ i) := by rw [Int.pow_add, Int.pow_add, Int.pow_one, Int.mul_assoc]
    have h1 : n % 256 ^ (j + 1 + i) = n - 256 ^ j * (256 * 256 ^ i * (n / (256 ^ (j + 1 + i)))) := by
      rw [Int.emod_def]
      generalize n / 256 ^ (j + 1 + i) = q
      rw [e, Int.mul_assoc]
    rw [h1]
    have h2 : n - 256 ^ j * (256 * 256 ^ i * (n / (256 ^ (j + 1 + i)))) = n + 256 ^ j * (-(256 * 256 ^ i * (n / (256 ^ (j + 1 + i))))) := by rw [Int.mul_neg]; omega
    rw [h2, Int.add_mul_ediv_left _ _ (by omega)]
    have h3 : -(256 * 256 ^ i * (n / (256 ^ (j + 1 + i)))) = 256 * (-(256 ^ i * (n / (256 ^ (j + 1 + i))))) := by rw [Int.mul_neg, Int.mul_assoc]
    rw [h3, Int.add_mul_emod_self_left]
theorem be_diff : ∀ (k : Nat) (m n : Int), 0 ≤ m → m < 256 ^ k → 0 ≤ n → n < 256 ^ k → Diff (be k m) (be k n) (cmpI m n) := by
  intro k
  induction k with
  | zero =>
    intro m n h0 h1 h2 h3
    simp only [Int.pow_zero] at h1 h3
    have : m = n := by omega
    subst this
    rw [cmpI_self]
    exact Diff.refl _
  | succ k ih =>
    intro m n h0 h1 h2 h3
    have hp : (0 : Int) < 256 ^ k := Int.pow_pos (by decide)
    rw [Int.pow_succ] at h1 h3
    have hm : m / 256 ^ k < 256 := Int.ediv_lt_of_lt_mul hp (by omega)
    have hn : n / 256 ^ k < 256 := Int.ediv_lt_of_lt_mul hp (by omega)
    have hm0 : 0 ≤ m / 256 ^ k := Int.ediv_nonneg h0 (by omega)
    have hn0 : 0 ≤ n / 256 ^ k := Int.ediv_nonneg h2 (by omega)
    simp only [be]
    rw [Int.emod_eq_of_lt hm0 hm, Int.emod_eq_of_lt hn0 hn]
    have em := Int.mul_ediv_add_emod m (256 ^ k)
    have en := Int.mul_ediv_add_emod n (256 ^ k)
    have rm0 := Int.emod_nonneg m (show (256 : Int) ^ k ≠ 0 by omega)
    have rn0 := Int.emod_nonneg n (show (256 : Int) ^ k ≠ 0 by omega)
    have rm1 := Int.emod_lt_of_pos m hp
    have rn1 := Int.emod_lt_of_pos n hp
    generalize m / 256 ^ k = q at *
    generalize n / 256 ^ k = r at *
    by_cases e : q = r
    · subst e
      have := ih (m % 256 ^ k) (n % 256 ^ k) rm0 rm1 rn0 rn1
      rw [be_mod k k m (Nat.le_refl _), be_mod k k n (Nat.le_refl _)] at this
      have hc : cmpI (m % 256 ^ k) (n % 256 ^ k) = cmpI m n := by
        have := cmpI_shift (m % 256 ^ k) (n % 256 ^ k) (256 ^ k * q)
        rw [← this]
        congr 1 <;> omega
      rw [← hc]
      exact Diff.cons _ this
    · have hc : cmpI m n = cmpI q r := by
        generalize hP : (256 : Int) ^ k = P at *
        unfold cmpI
        rcases Int.lt_or_gt_of_ne e with h | h
        · have : P * q + P ≤ P * r := by
            have : P * (q + 1) ≤ P * r := Int.mul_le_mul_of_nonneg_left (by omega) (by omega)
            rw [Int.mul_add, Int.mul_one] at this
            exact this
          have h4 : m < n := by omega
          simp [h, h4]
        · have : P * r + P ≤ P * q := by
            have : P * (r + 1) ≤ P * q := Int.mul_le_mul_of_nonneg_left (by omega) (by omega)
            rw [Int.mul_add, Int.mul_one] at this
            exact this
          have h4 : n < m := by omega
          have h5 : ¬ m < n := by omega
          have h6 : ¬ q < r := by omega
          simp [h, h4, h5, h6]
      rw [hc]
      exact Diff.head e _ _
theorem u8_lt {x y : UInt8} : x < y ↔ (x.toNat : Int) < (y.toNat : Int) := by rw [UInt8.lt_iff_toNat_lt]; omega
theorem u8_zero {x : UInt8} : x = 0 ↔ (x.toNat : Int) = 0 := by
  constructor
  · rintro rfl; rfl
  · intro h
    exact UInt8.toNat_inj.1 (by show x.toNat = 0; omega)
theorem esc_diff : ∀ a b : List UInt8, Diff (esc a ++ [0, 1]) (esc b ++ [0, 1]) (Lib.compareBytes a b)
  | [], [] => Diff.refl _
  | [], y :: b => by
    show Diff [0, 1] (esc (y :: b) ++ [0, 1]) (-1)
    unfold esc
    by_cases h : y = 0
    · rw [if_pos h]
      exact Diff.cons 0 (Diff.head (a := 1) (b := 255) (by decide) _ _)
    · rw [if_neg h]
      have hz : ¬ (y.toNat : Int) = 0 := fun e => h (u8_zero.2 e)
      have := Diff.head (a := 0) (b := (y.toNat : Int)) (by omega) [1] (esc b ++ [0, 1])
      have e : cmpI 0 (y.toNat : Int) = -1 := by unfold cmpI; rw [if_pos (by omega)]
      rw [e] at this
      exact this
  | x :: a, [] => by
    show Diff (esc (x :: a) ++ [0, 1]) [0, 1] 1
    unfold esc
    by_cases h : x = 0
    · rw [if_pos h]
      exact Diff.cons 0 (Diff.head (a := 255) (b := 1) (by decide) _ _)
    · rw [if_neg h]
      have hz : ¬ (x.toNat : Int) = 0 := fun e => h (u8_zero.2 e)
      have := Diff.head (a := (x.toNat : Int)) (b := 0) (by omega) (esc a ++ [0, 1]) [1]
      have e : cmpI (x.toNat : Int) 0 = 1 := by unfold cmpI; rw [if_neg (by omega), if_pos (by omega)]
      rw [e] at this
      exact this
  | x :: a, y :: b => by
    unfold Lib.compareBytes
    by_cases e : x = y
    · subst e
      have hn : ¬ x < x := UInt8.lt_irrefl x
      rw [if_neg hn, if_neg hn]
      unfold esc
      split
      · exact Diff.cons _ (Diff.cons _ (esc_diff a b))
      · exact Diff.cons _ (esc_diff a b)
    · have hne : ¬ (x.toNat : Int) = (y.toNat : Int) := fun h => e (UInt8.toNat_inj.1 (by omega))
      have hc : (if x < y then (-1 : Int) else if y < x then 1 else Lib.compareBytes a b) = cmpI (x.toNat : Int) (y.toNat : Int) := by
        unfold cmpI
        by_cases h1 : x < y
        · have := u8_lt.1 h1; simp [h1, this]
        · have h1' : ¬ (x.toNat : Int) < (y.toNat : Int) := fun h => h1 (u8_lt.2 h)
          have h2' : (y.toNat : Int) < (x.toNat : Int) := by omega
          have h2 := u8_lt.2 h2'
          simp [h1, h1', h2, h2']
      rw [hc]
      have hd : ∀ (p q : List Int), Diff ((x.toNat : Int) :: p) ((y.toNat : Int) :: q) (cmpI (x.toNat : Int) (y.toNat : Int)) := fun p q => Diff.head hne p q
      unfold esc
      by_cases hx : x = 0
      · by_cases hy : y = 0
        · exact absurd (hx.trans hy.symm) e
        · rw [if_pos hx, if_neg hy]
          have := u8_zero.1 hx
          rw [this] at hd ⊢
          exact hd _ _
      · by_cases hy : y = 0
        · rw [if_neg hx, if_pos hy]
          have := u8_zero.1 hy
          rw [this] at hd ⊢
          exact hd _ _
        · rw [if_neg hx, if_neg hy]
          exact hd _ _
theorem encB_diff {x y : S43} (hx : chk x = 0) (hy : chk y = 0) (ix : I64 x.f1) (iy : I64 y.f1) : Diff (encB x) (encB y) (cmpV x y) := by
  have kx := chk_kind hx
  have ky := chk_kind hy
  unfold encB cmpV
  by_cases e : x.f0 = y.f0
  · rw [if_pos e]
    have e1 : (x.f0 + 1) % 256 = (y.f0 + 1) % 256 := by rw [e]
    rw [e1]
    refine Diff.cons _ ?_
    unfold payload
    by_cases h1 : x.f0 = 1
    · have h1' : y.f0 = 1 := by omega
      have a := (chk_one hx h1).1
      have b := (chk_one hy h1').1
      rw [if_pos h1, if_pos h1', if_pos (.inl h1)]
      have ea : x.f1 % 256 = x.f1 := by omega
      have eb : y.f1 % 256 = y.f1 := by omega
      rw [ea, eb]
      by_cases h : x.f1 = y.f1
      · rw [h, cmpI_self]; exact Diff.refl _
      · exact Diff.head h _ _
    have h1' : ¬ y.f0 = 1 := by omega
    by_cases h2 : x.f0 = 2
    · have h2' : y.f0 = 2 := by omega
      rw [if_neg h1, if_neg h1', if_pos h2, if_pos h2', if_pos (.inr h2), ← cmpI_shift x.f1 y.f1 9223372036854775808]
      obtain ⟨x0, x1⟩ := ix
      obtain ⟨y0, y1⟩ := iy
      have e8 : (256 : Int) ^ 8 = 18446744073709551616 := by decide
      exact be_diff 8 _ _ (by omega) (by rw [e8]; omega) (by omega) (by rw [e8]; omega)
    have h2' : ¬ y.f0 = 2 := by omega
    by_cases h3 : x.f0 = 3 ∨ x.f0 = 4
    · have h3' : y.f0 = 3 ∨ y.f0 = 4 := by omega
      rw [if_neg h1, if_neg h1', if_neg h2, if_neg h2', if_pos h3, if_pos h3', if_neg (by omega), if_pos h3]
      exact esc_diff _ _
    · have h3' : ¬ (y.f0 = 3 ∨ y.f0 = 4) := by omega
      rw [if_neg h1, if_neg h1', if_neg h2, if_neg h2', if_neg h3, if_neg h3', if_neg (by omega), if_neg h3]
      exact Diff.refl _
  · rw [if_neg e]
    have a : (x.f0 + 1) % 256 = x.f0 + 1 := by omega
    have b : (y.f0 + 1) % 256 = y.f0 + 1 := by omega
    rw [a, b, ← cmpI_shift x.f0 y.f0 1]
    exact Diff.head (by omega) _ _
/-- The bytes of rows stand in the order of the rows. -/
theorem encE_order : ∀ (a b : List S43) (d : List Bool) {p q : List Int}, (∀ x ∈ a, I64 x.f1) → (∀ x ∈ b, I64 x.f1) → encE d a = some p → encE d b = some q → cmpL p q = cmpR d a b
  | [], [], d, p, q, _, _, hp, hq => by simp only [encE, Option.some.injEq] at hp hq; subst hp hq; rfl
  | [], y :: b, d, p, q, _, _, hp, hq => by
    simp only [encE, Option.some.injEq] at hp
    subst hp
    unfold encE at hq
    split at hq
    · obtain ⟨b', hb, rfl⟩ := Option.map_eq_some_iff.1 hq
      unfold turnB encB
      split <;> rfl
    · cases hq
  | x :: a, [], d, p, q, _, _, hp, hq => by
    simp only [encE, Option.some.injEq] at hq
    subst hq
    unfold encE at hp
    split at hp
    · obtain ⟨b', hb, rfl⟩ := Option.map_eq_some_iff.1 hp
      unfold turnB encB
      split <;> rfl
    · cases hp
  | x :: a, y :: b, d, p, q, ha, hb, hp, hq => by
    unfold encE at hp hq
    split at hp
    case isFalse => cases hp
    rename_i hx
    split at hq
    case isFalse => cases hq
    rename_i hy
    obtain ⟨p', hp', rfl⟩ := Option.map_eq_some_iff.1 hp
    obtain ⟨q', hq', rfl⟩ := Option.map_eq_some_iff.1 hq
    have ih := encE_order a b d.tail (fun z hz => ha z (by simp [hz])) (fun z hz => hb z (by simp [hz])) hp' hq'
    have hd := encB_diff hx hy (ha x (by simp)) (hb y (by simp))
    rw [cmpR]
    cases hh : d.headD false with
    | false =>
      simp only [turnB, Bool.false_eq_true, if_false]
      rw [hd.cmp, ih]
    | true =>
      simp only [turnB, if_true]
      rw [hd.flip.cmp, ih]
      by_cases h : cmpV x y = 0
      · simp [h]
      · have : ¬ -cmpV x y = 0 := by omega
        simp [h, this]
end Go.Proofs.Ytbpnmmakodaakaa.Pure
