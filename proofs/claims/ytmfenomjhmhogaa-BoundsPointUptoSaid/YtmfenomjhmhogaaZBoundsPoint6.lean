/- Laid by a program of this session out of its texts for the law BoundsPoint, part 6. -/
import Derived.Test.YtmfenomjhmhogaaZBoundsPoint5
section
namespace Go.Proofs.Ytmfenomjhmhogaa.Pure
set_option linter.unusedVariables false
set_option linter.unusedSimpArgs false
open Go.RowKit Go.Proofs.Ytmfenomjhmhogaa.P Go.Proofs.YtmfenomjhmhogaaW.PrintWords Go.Proofs.YtmfenomjhmhogaaW.PrintLast Go.Proofs.YtmfenomjhmhogaaW.PrintMore
def trim : List Int → List Int
  | [] => []
  | c :: l => if trim l = [] ∧ c = 255 then [] else c :: trim l
def bump : List Int → List Int
  | [] => []
  | [c] => [(c + 1) % 256]
  | c :: d :: l => c :: bump (d :: l)
def nextB (l : List Int) : List Int × Bool := if trim l = [] then ([], false) else (bump (trim l), true)
theorem trim_snoc_255 (l : List Int) : trim (l ++ [255]) = trim l := by
  induction l with
  | nil => simp [trim]
  | cons c l ih => simp only [List.cons_append, trim, ih]
theorem trim_snoc (l : List Int) (c : Int) (h : c ≠ 255) : trim (l ++ [c]) = l ++ [c] := by
  induction l with
  | nil => simp [trim, h]
  | cons d l ih => simp [List.cons_append, trim, ih]
theorem bump_snoc (l : List Int) (c : Int) : bump (l ++ [c]) = l ++ [(c + 1) % 256] := by
  induction l with
  | nil => rfl
  | cons d l ih =>
    cases l with
    | nil => rfl
    | cons e l => simp only [List.cons_append, bump] at ih ⊢; rw [ih]
theorem clone_f (l : List Int) (hl : l.length < 140737488355328) : slices_Clone_byte_byte.f l = some l := by unfold slices_Clone_byte_byte.f; rw [if_pos hl]
theorem next_loop (b : List Int) (hl : b.length < 140737488355328) : ∀ (n : Nat), n ≤ b.length → trim b = trim (b.take n) → Ev (fun k => keys_Next.l0 k b (n : Int)) (nextB b) := by
  intro n
  induction n with
  | zero =>
    intro _ ht
    refine Ev.succ ?_
    have e : ¬ (((0 : Nat) : Int) > 0) := by omega
    have e2 : ((0 : Nat) : Int) = 0 := rfl
    have h0 : trim b = [] := by rw [ht]; rfl
    unfold nextB
    simp only [keys_Next.l0, e, if_false, e2, if_true, h0]
    exact Ev.pure _
  | succ n ih =>
    intro hn ht
    refine Ev.succ ?_
    have e : (((n + 1 : Nat) : Int) > 0) := by omega
    have e1 : wrap64 (((n + 1 : Nat) : Int) - 1) = (n : Int) := by unfold wrap64; omega
    have e2 : (0 : Int) ≤ (n : Int) := by omega
    have e3 : (n : Int) < (b.length : Int) := by omega
    have hlt : n < b.length := by omega
    have htk : b.take (n + 1) = b.take n ++ [b[n]] := by rw [List.take_succ_eq_append_getElem hlt]
    have hbn : rd b (n : Int) = b[n] := by
      unfold rd
      rw [Int.toNat_natCast, List.getD_eq_getElem?_getD, List.getElem?_eq_getElem hlt]
      rfl
    simp only [keys_Next.l0, e, e1, e2, e3, if_true, hbn]
    by_cases h : b[n] = 255
    · simp only [h, if_true]
      rw [htk, h, trim_snoc_255] at ht
      exact ih (by omega) ht
    · have hne : ¬ ((n + 1 : Nat) : Int) = 0 := by omega
      have e4 : (0 : Int) ≤ ((n + 1 : Nat) : Int) := by omega
      have e5 : ((n + 1 : Nat) : Int) ≤ (b.length : Int) := by omega
      have e6 : (n : Int) < ((b.take (n + 1)).length : Int) := by rw [List.length_take]; omega
      rw [htk, trim_snoc _ _ h] at ht
      have hnb : nextB b = (b.take n ++ [(b[n] + 1) % 256], true) := by
        unfold nextB
        rw [ht, if_neg (by intro h0; have h1 := congrArg List.length h0; rw [List.length_append, List.length_cons, List.length_nil] at h1; omega), bump_snoc]
      have hset : (b.take (n + 1)).set n ((rd (b.take (n + 1)) (n : Int) + 1) % 256) = b.take n ++ [(b[n] + 1) % 256] := by
        have hr : rd (b.take (n + 1)) (n : Int) = b[n] := by
          rw [htk]
          have := rdI_at (b.take n) b[n] []
          rw [List.length_take, Nat.min_eq_left (by omega)] at this
          exact this
        rw [hr, htk, List.set_append_right _ _ (by rw [List.length_take]; omega)]
        rw [List.length_take, Nat.min_eq_left (by omega), Nat.sub_self]
        rfl
      simp only [h, if_false, hne, e4, e5, if_true, Int.toNat_natCast, clone_f (b.take (n + 1)) (by rw [List.length_take]; omega), Option.bind_some, e6, hset]
      rw [hnb]
      exact Ev.pure _
theorem next_ev (b : List Int) (hl : b.length < 140737488355328) : Ev (fun k => keys_Next.f k b) (nextB b) := by
  unfold keys_Next.f
  exact next_loop b hl b.length (Nat.le_refl _) (by rw [List.take_length])
end Go.Proofs.Ytmfenomjhmhogaa.Pure
end
section
namespace Go.Proofs.Ytmfenomjhmhogaa.Pure
set_option linter.unusedVariables false
set_option linter.unusedSimpArgs false
open Go.RowKit Go.Proofs.Ytmfenomjhmhogaa.P Go.Proofs.YtmfenomjhmhogaaW.PrintWords Go.Proofs.YtmfenomjhmhogaaW.PrintLast Go.Proofs.YtmfenomjhmhogaaW.PrintMore
theorem cmpI_self (a : Int) : cmpI a a = 0 := by unfold cmpI; simp
theorem cmpI_shift (a b c : Int) : cmpI (a + c) (b + c) = cmpI a b := by
  unfold cmpI
  by_cases h1 : a < b
  · have : a + c < b + c := by omega
    simp [h1, this]
  · have : ¬ a + c < b + c := by omega
    by_cases h2 : b < a
    · have h3 : b + c < a + c := by omega
      simp [h1, h2, h3, this]
    · have h3 : ¬ b + c < a + c := by omega
      simp [h1, h2, h3, this]
theorem be_mod (k : Nat) : ∀ (j : Nat) (n : Int), j ≤ k → be j (n % 256 ^ k) = be j n := by
  intro j
  induction j with
  | zero => intro n _; rfl
  | succ j ih =>
    intro n hj
    simp only [be]
    rw [ih n (by omega)]
    congr 1
    obtain ⟨i, rfl⟩ : ∃ i, k = j + 1 + i := ⟨k - (j + 1), by omega⟩
    have hp : (0 : Int) < 256 ^ j := Int.pow_pos (by decide)
    have e : (256 : Int) ^ (j + 1 + i) = 256 ^ j * (256 * 256 ^ i) := by rw [Int.pow_add, Int.pow_add, Int.pow_one, Int.mul_assoc]
    have h1 : n % 256 ^ (j + 1 + i) = n - 256 ^ j * (256 * 256 ^ i * (n / (256 ^ (j + 1 + i)))) := by
      rw [Int.emod_def]
      generalize n / 256 ^ (j + 1 + i) = q
      rw [e, Int.mul_assoc]
    rw [h1]
    have h2 : n - 256 ^ j * (256 * 256 ^ i * (n / (256 ^ (j + 1 + i)))) = n + 256 ^ j * (-(256 * 256 ^ i * (n / (256 ^ (j + 1 + i))))) := by rw [Int.mul_neg]; omega
    rw [h2, Int.add_mul_ediv_left _ _ (by omega)]
    have h3 : -(256 * 256 ^ i * (n / (256 ^ (j + 1 + i)))) = 256 * (-(256 ^ i * (n / (256 ^ (j + 1 + i))))) := by rw [Int.mul_neg, Int.mul_assoc]
    rw [h3, Int.add_mul_emod_self_left]
theorem be_diff : ∀ (k : Nat) (m n : Int), 0 ≤ m → m < 256 ^ k → 0 ≤ n → n < 256 ^ k → Diff (be k m) (be k n) (cmpI m n) := by
  intro k
  induction k with
  | zero =>
    intro m n h0 h1 h2 h3
    simp only [Int.pow_zero] at h1 h3
    have : m = n := by omega
    subst this
    rw [cmpI_self]
    exact Diff.refl _
  | succ k ih =>
    intro m n h0 h1 h2 h3
    have hp : (0 : Int) < 256 ^ k := Int.pow_pos (by decide)
    rw [Int.pow_succ] at h1 h3
    have hm : m / 256 ^ k < 256 := Int.ediv_lt_of_lt_mul hp (by omega)
    have hn : n / 256 ^ k < 256 := Int.ediv_lt_of_lt_mul hp (by omega)
    have hm0 : 0 ≤ m / 256 ^ k := Int.ediv_nonneg h0 (by omega)
    have hn0 : 0 ≤ n / 256 ^ k := Int.ediv_nonneg h2 (by omega)
    simp only [be]
    rw [Int.emod_eq_of_lt hm0 hm, Int.emod_eq_of_lt hn0 hn]
    have em := Int.mul_ediv_add_emod m (256 ^ k)
    have en := Int.mul_ediv_add_emod n (256 ^ k)
    have rm0 := Int.emod_nonneg m (show (256 : Int) ^ k ≠ 0 by omega)
    have rn0 := Int.emod_nonneg n (show (256 : Int) ^ k ≠ 0 by omega)
    have rm1 := Int.emod_lt_of_pos m hp
    have rn1 := Int.emod_lt_of_pos n hp
    generalize m / 256 ^ k = q at *
    generalize n / 256 ^ k = r at *
    by_cases e : q = r
    · subst e
      have := ih (m % 256 ^ k) (n % 256 ^ k) rm0 rm1 rn0 rn1
      rw [be_mod k k m (Nat.le_refl _), be_mod k k n (Nat.le_refl _)] at this
      have hc : cmpI (m % 256 ^ k) (n % 256 ^ k) = cmpI m n := by
        have := cmpI_shift (m % 256 ^ k) (n % 256 ^ k) (256 ^ k * q)
        rw [← this]
        congr 1 <;> omega
      rw [← hc]
      exact Diff.cons _ this
    · have hc : cmpI m n = cmpI q r := by
        generalize hP : (256 : Int) ^ k = P at *
        unfold cmpI
        rcases Int.lt_or_gt_of_ne e with h | h
        · have : P * q + P ≤ P * r := by
            have : P * (q + 1) ≤ P * r := Int.mul_le_mul_of_nonneg_left (by omega) (by omega)
            rw [Int.mul_add, Int.mul_one] at this
            exact this
          have h4 : m < n := by omega
          simp [h, h4]
        · have : P * r + P ≤ P * q := by
            have : P * (r + 1) ≤ P * q := Int.mul_le_mul_of_nonneg_left (by omega) (by omega)
            rw [Int.mul_add, Int.mul_one] at this
            exact this
          have h4 : n < m := by omega
          have h5 : ¬ m < n := by omega
          have h6 : ¬ q < r := by omega
          simp [h, h4, h5, h6]
      rw [hc]
      exact Diff.head e _ _
theorem u8_lt {x y : UInt8} : x < y ↔ (x.toNat : Int) < (y.toNat : Int) := by rw [UInt8.lt_iff_toNat_lt]; omega
theorem u8_zero {x : UInt8} : x = 0 ↔ (x.toNat : Int) = 0 := by
  constructor
  · rintro rfl; rfl
  · intro h
    exact UInt8.toNat_inj.1 (by show x.toNat = 0; omega)
theorem esc_diff : ∀ a b : List UInt8, Diff (esc a ++ [0, 1]) (esc b ++ [0, 1]) (Lib.compareBytes a b)
  | [], [] => Diff.refl _
  | [], y :: b => by
    show Diff [0, 1] (esc (y :: b) ++ [0, 1]) (-1)
    unfold esc
    by_cases h : y = 0
    · rw [if_pos h]
      exact Diff.cons 0 (Diff.head (a := 1) (b := 255) (by decide) _ _)
    · rw [if_neg h]
      have hz : ¬ (y.toNat : Int) = 0 := fun e => h (u8_zero.2 e)
      have := Diff.head (a := 0) (b := (y.toNat : Int)) (by omega) [1] (esc b ++ [0, 1])
      have e : cmpI 0 (y.toNat : Int) = -1 := by unfold cmpI; rw [if_pos (by omega)]
      rw [e] at this
      exact this
  | x :: a, [] => by
    show Diff (esc (x :: a) ++ [0, 1]) [0, 1] 1
    unfold esc
    by_cases h : x = 0
    · rw [if_pos h]
      exact Diff.cons 0 (Diff.head (a := 255) (b := 1) (by decide) _ _)
    · rw [if_neg h]
      have hz : ¬ (x.toNat : Int) = 0 := fun e => h (u8_zero.2 e)
      have := Diff.head (a := (x.toNat : Int)) (b := 0) (by omega) (esc a ++ [0, 1]) [1]
      have e : cmpI (x.toNat : Int) 0 = 1 := by unfold cmpI; rw [if_neg (by omega), if_pos (by omega)]
      rw [e] at this
      exact this
  | x :: a, y :: b => by
    unfold Lib.compareBytes
    by_cases e : x = y
    · subst e
      have hn : ¬ x < x := UInt8.lt_irrefl x
      rw [if_neg hn, if_neg hn]
      unfold esc
      split
      · exact Diff.cons _ (Diff.cons _ (esc_diff a b))
      · exact Diff.cons _ (esc_diff a b)
    · have hne : ¬ (x.toNat : Int) = (y.toNat : Int) := fun h => e (UInt8.toNat_inj.1 (by omega))
      have hc : (if x < y then (-1 : Int) else if y < x then 1 else Lib.compareBytes a b) = cmpI (x.toNat : Int) (y.toNat : Int) := by
        unfold cmpI
        by_cases h1 : x < y
        · have := u8_lt.1 h1; simp [h1, this]
        · have h1' : ¬ (x.toNat : Int) < (y.toNat : Int) := fun h => h1 (u8_lt.2 h)
          have h2' : (y.toNat : Int) < (x.toNat : Int) := by omega
          have h2 := u8_lt.2 h2'
          simp [h1, h1', h2, h2']
      rw [hc]
      have hd : ∀ (p q : List Int), Diff ((x.toNat : Int) :: p) ((y.toNat : Int) :: q) (cmpI (x.toNat : Int) (y.toNat : Int)) := fun p q => Diff.head hne p q
      unfold esc
      by_cases hx : x = 0
      · by_cases hy : y = 0
        · exact absurd (hx.trans hy.symm) e
        · rw [if_pos hx, if_neg hy]
          have := u8_zero.1 hx
          rw [this] at hd ⊢
          exact hd _ _
      · by_cases hy : y = 0
        · rw [if_neg hx, if_pos hy]
          have := u8_zero.1 hy
          rw [this] at hd ⊢
          exact hd _ _
        · rw [if_neg hx, if_neg hy]
          exact hd _ _
theorem encB_diff {x y : S25} (hx : chk x = 0) (hy : chk y = 0) (ix : I64 x.f1) (iy : I64 y.f1) : Diff (encB x) (encB y) (cmpV x y) := by
  have kx := chk_kind hx
  have ky := chk_kind hy
  unfold encB cmpV
  by_cases e : x.f0 = y.f0
  · rw [if_pos e]
    have e1 : (x.f0 + 1) % 256 = (y.f0 + 1) % 256 := by rw [e]
    rw [e1]
    refine Diff.cons _ ?_
    unfold payload
    by_cases h1 : x.f0 = 1
    · have h1' : y.f0 = 1 := by omega
      have a := (chk_one hx h1).1
      have b := (chk_one hy h1').1
      rw [if_pos h1, if_pos h1', if_pos (.inl h1)]
      have ea : x.f1 % 256 = x.f1 := by omega
      have eb : y.f1 % 256 = y.f1 := by omega
      rw [ea, eb]
      by_cases h : x.f1 = y.f1
      · rw [h, cmpI_self]; exact Diff.refl _
      · exact Diff.head h _ _
    have h1' : ¬ y.f0 = 1 := by omega
    by_cases h2 : x.f0 = 2
    · have h2' : y.f0 = 2 := by omega
      rw [if_neg h1, if_neg h1', if_pos h2, if_pos h2', if_pos (.inr h2), ← cmpI_shift x.f1 y.f1 9223372036854775808]
      obtain ⟨x0, x1⟩ := ix
      obtain ⟨y0, y1⟩ := iy
      have e8 : (256 : Int) ^ 8 = 18446744073709551616 := by decide
      exact be_diff 8 _ _ (by omega) (by rw [e8]; omega) (by omega) (by rw [e8]; omega)
    have h2' : ¬ y.f0 = 2 := by omega
    by_cases h3 : x.f0 = 3 ∨ x.f0 = 4
    · have h3' : y.f0 = 3 ∨ y.f0 = 4 := by omega
      rw [if_neg h1, if_neg h1', if_neg h2, if_neg h2', if_pos h3, if_pos h3', if_neg (by omega), if_pos h3]
      exact esc_diff _ _
    · have h3' : ¬ (y.f0 = 3 ∨ y.f0 = 4) := by omega
      rw [if_neg h1, if_neg h1', if_neg h2, if_neg h2', if_neg h3, if_neg h3', if_neg (by omega), if_neg h3]
      exact Diff.refl _
  · rw [if_neg e]
    have a : (x.f0 + 1) % 256 = x.f0 + 1 := by omega
    have b : (y.f0 + 1) % 256 = y.f0 + 1 := by omega
    rw [a, b, ← cmpI_shift x.f0 y.f0 1]
    exact Diff.head (by omega) _ _
end Go.Proofs.Ytmfenomjhmhogaa.Pure
end
section
namespace Go.Proofs.Ytmfenomjhmhogaa.Pure
set_option linter.unusedVariables false
set_option linter.unusedSimpArgs false
open Go.RowKit Go.Proofs.Ytmfenomjhmhogaa.P Go.Proofs.YtmfenomjhmhogaaW.PrintWords Go.Proofs.YtmfenomjhmhogaaW.PrintLast Go.Proofs.YtmfenomjhmhogaaW.PrintMore
theorem str_list (a : List Int) : (strOfNums a).toList = a.map fun n => UInt8.ofNat n.toNat := by rw [Go.ByteArray.toList_eq]; rfl
theorem u8_back {c : Int} (h0 : 0 ≤ c) (h1 : c ≤ 255) : ((UInt8.ofNat c.toNat).toNat : Int) = c := by
  have : (UInt8.ofNat c.toNat).toNat = c.toNat % 256 := by simp
  rw [this]
  omega
theorem less_is : ∀ {a b : List Int}, BytesIn a → BytesIn b → Op.bytesLess (strOfNums a).toList (strOfNums b).toList = decide (cmpL a b = -1) := by
  have key : ∀ (a b : List Int), BytesIn a → BytesIn b → Op.bytesLess (a.map fun n => UInt8.ofNat n.toNat) (b.map fun n => UInt8.ofNat n.toNat) = decide (cmpL a b = -1) := by
    intro a
    induction a with
    | nil =>
      intro b _ _
      cases b with
      | nil => simp [Op.bytesLess, cmpL]
      | cons y b => simp [Op.bytesLess, cmpL]
    | cons x a ih =>
      intro b ha hb
      cases b with
      | nil => simp [Op.bytesLess, cmpL]
      | cons y b =>
        have hx := ha x (by simp)
        have hy := hb y (by simp)
        have ex := u8_back hx.1 hx.2
        have ey := u8_back hy.1 hy.2
        simp only [List.map_cons, Op.bytesLess, cmpL]
        rw [ih b (fun z hz => ha z (by simp [hz])) (fun z hz => hb z (by simp [hz]))]
        by_cases h1 : x < y
        · have : UInt8.ofNat x.toNat < UInt8.ofNat y.toNat := u8_lt.2 (by omega)
          simp [h1, this]
        · have n1 : ¬ UInt8.ofNat x.toNat < UInt8.ofNat y.toNat := fun h => h1 (by have := u8_lt.1 h; omega)
          by_cases h2 : y < x
          · have n2 : ¬ (UInt8.ofNat x.toNat = UInt8.ofNat y.toNat) := fun h => by rw [h] at ex; omega
            simp [h1, h2, n1, n2]
          · have e : x = y := by omega
            subst e
            simp
  intro a b ha hb
  rw [str_list, str_list]
  exact key a b ha hb
theorem trim_nil : ∀ {b : List Int}, trim b = [] → ∀ x ∈ b, x = 255
  | [], _, x, hx => by simp at hx
  | c :: l, h, x, hx => by
    unfold trim at h
    split at h
    · rename_i hc
      rcases List.mem_cons.1 hx with rfl | hx
      · exact hc.2
      · exact trim_nil hc.1 x hx
    · cases h
theorem all_255 : ∀ (b c : List Int), (∀ x ∈ b, x = 255) → BytesIn c → (b.isPrefixOf c = true ↔ cmpL c b ≠ -1)
  | [], c, _, _ => by cases c <;> simp [cmpL, List.isPrefixOf]
  | x :: b, [], h, _ => by simp [cmpL, List.isPrefixOf]
  | x :: b, y :: c, h, hc => by
    have hx := h x (by simp)
    subst hx
    have hy := hc y (by simp)
    have ih := all_255 b c (fun z hz => h z (by simp [hz])) (fun z hz => hc z (by simp [hz]))
    simp only [List.isPrefixOf, cmpL]
    by_cases e : y = 255
    · subst e
      simp only [beq_self_eq_true, Bool.true_and, Int.lt_irrefl, if_false]
      exact ih
    · have h1 : y < 255 := by omega
      have h2 : ((255 : Int) == y) = false := beq_eq_false_iff_ne.2 (fun q => e q.symm)
      simp [h1, h2]
theorem trim_cons_nil {c : Int} {l : List Int} (h : trim (c :: l) ≠ []) (hl : trim l = []) : c ≠ 255 ∧ trim (c :: l) = [c] := by
  unfold trim at h ⊢
  by_cases e : c = 255
  · rw [if_pos ⟨hl, e⟩] at h; exact absurd rfl h
  · rw [if_neg (fun q => e q.2), hl]; exact ⟨e, rfl⟩
theorem begins_iff : ∀ (b c : List Int), BytesIn b → BytesIn c → trim b ≠ [] → (b.isPrefixOf c = true ↔ (cmpL c b ≠ -1 ∧ cmpL c (bump (trim b)) = -1))
  | [], c, _, _, h => absurd rfl h
  | x :: b, [], _, _, h => by simp [cmpL, List.isPrefixOf]
  | x :: b, y :: c, hb, hc, h => by
    have hx := hb x (by simp)
    have hy := hc y (by simp)
    have hbb : BytesIn b := fun z hz => hb z (by simp [hz])
    have hcc : BytesIn c := fun z hz => hc z (by simp [hz])
    by_cases hl : trim b = []
    · obtain ⟨hx255, ht⟩ := trim_cons_nil h hl
      rw [ht]
      have hm : (x + 1) % 256 = x + 1 := by omega
      simp only [bump, hm, List.isPrefixOf, cmpL]
      have key := all_255 b c (trim_nil hl) hcc
      by_cases e : x = y
      · subst e
        have h2 : x < x + 1 := by omega
        simp only [beq_self_eq_true, Bool.true_and, Int.lt_irrefl, if_false, h2, if_true, and_true]
        exact key
      · have hne : (x == y) = false := beq_eq_false_iff_ne.2 e
        simp only [hne, Bool.false_and, Bool.false_eq_true, false_iff]
        intro q
        by_cases h1 : y < x
        · simp [h1] at q
        · have h2 : ¬ y < x + 1 := by omega
          simp only [h2, if_false] at q
          by_cases h3 : x + 1 < y
          · simp [h3] at q
          · have h4 : y = x + 1 := by omega
            subst h4
            simp only [Int.lt_irrefl, if_false] at q
            cases c <;> simp [cmpL] at q
    · have ht : trim (x :: b) = x :: trim b := by rw [trim, if_neg (fun q => hl q.1)]
      rw [ht]
      obtain ⟨d, l, hdl⟩ : ∃ d l, trim b = d :: l := by
        cases q : trim b with
        | nil => exact absurd q hl
        | cons d l => exact ⟨d, l, rfl⟩
      have ih := begins_iff b c hbb hcc hl
      rw [hdl] at ih ⊢
      simp only [bump, List.isPrefixOf, cmpL]
      by_cases e : x = y
      · subst e
        simp only [beq_self_eq_true, Bool.true_and, Int.lt_irrefl, if_false]
        exact ih
      · have hne : (x == y) = false := beq_eq_false_iff_ne.2 e
        simp only [hne, Bool.false_and, Bool.false_eq_true, false_iff]
        intro q
        by_cases h1 : y < x
        · simp [h1] at q
        · have h3 : x < y := by omega
          simp [h1, h3] at q
theorem bump_range : ∀ l : List Int, BytesIn l → BytesIn (bump l)
  | [], _ => by intro x hx; simp [bump] at hx
  | [c], _ => by intro x hx; simp [bump] at hx; omega
  | c :: d :: l, h => by
    intro x hx
    simp only [bump, List.mem_cons] at hx
    rcases hx with rfl | hx
    · exact h x (by simp)
    · exact bump_range (d :: l) (fun z hz => h z (List.mem_cons_of_mem _ hz)) x hx
theorem trim_range : ∀ l : List Int, BytesIn l → BytesIn (trim l)
  | [], h => h
  | c :: l, h => by
    have ih := trim_range l (fun z hz => h z (List.mem_cons_of_mem _ hz))
    unfold trim
    split
    · intro x hx; simp at hx
    · intro x hx
      rcases List.mem_cons.1 hx with rfl | hx
      · exact h x (by simp)
      · exact ih x hx
end Go.Proofs.Ytmfenomjhmhogaa.Pure
end
section
namespace Go.Proofs.Ytmfenomjhmhogaa.Pure
set_option linter.unusedVariables false
set_option linter.unusedSimpArgs false
open Go.RowKit Go.Proofs.Ytmfenomjhmhogaa.P Go.Proofs.YtmfenomjhmhogaaW.PrintWords Go.Proofs.YtmfenomjhmhogaaW.PrintLast Go.Proofs.YtmfenomjhmhogaaW.PrintMore
def toT (x : S58) : S69 := ⟨x.f0, x.f1, x.f2⟩
theorem rd_at58 (pre : List S58) (x : S58) (suf : List S58) : rd_T58 (pre ++ x :: suf) (pre.length : Int) = x := by
  simp [rd_T58, List.getD_eq_getElem?_getD]
theorem its_loop : ∀ (suf pre : List S58) (acc : List S69), (pre ++ suf).length < 2932031007402 → acc.length = pre.length →
    Ev (fun k => quarrylaw19_its.l0 k (pre ++ suf) acc (pre.length : Int)) (acc ++ suf.map toT) := by
  intro suf
  induction suf with
  | nil =>
    intro pre acc hl ha
    refine Ev.succ ?_
    simp [quarrylaw19_its.l0]
    exact Ev.pure _
  | cons x suf ih =>
    intro pre acc hl ha
    refine Ev.succ ?_
    have e1 : (pre.length : Int) < ((pre ++ x :: suf).length : Int) := by simp; omega
    have e2 : (0 : Int) ≤ (pre.length : Int) := by omega
    have e3 : acc.length < 2932031007402 := by simp at hl; omega
    have e6 : wrap64 ((pre.length : Int) + 1) = (pre.length : Int) + 1 := wrap64_in (by omega) (by simp at hl; omega)
    simp only [quarrylaw19_its.l0, e1, e2, e3, if_true, rd_at58, e6]
    have := ih (pre ++ [x]) (acc ++ [toT x]) (by simpa using hl) (by simp [ha])
    simpa [toT] using this
theorem its_ev (l : List S58) (hl : l.length < 2932031007402) : Ev (fun k => quarrylaw19_its.f k l) (l.map toT) := by
  unfold quarrylaw19_its.f
  have := its_loop l [] [] (by simpa using hl) rfl
  simpa using this
theorem idxP_find (p : S69 → Bool) : ∀ l : List S69, (∃ x, l.find? p = some x ∧ 0 ≤ idxP p l ∧ rd_T69 l (idxP p l) = x) ∨ (l.find? p = none ∧ idxP p l = -1)
  | [] => .inr ⟨rfl, rfl⟩
  | x :: l => by
    by_cases hp : p x = true
    · left
      refine ⟨x, by simp [List.find?, hp], ?_, ?_⟩
      · unfold idxP; rw [if_pos hp]; decide
      · unfold idxP; rw [if_pos hp]; rfl
    · have hp' : p x = false := by simpa using hp
      rcases idxP_find p l with ⟨y, h1, h2, h3⟩ | ⟨h1, h2⟩
      · left
        refine ⟨y, by simp [List.find?, hp', h1], ?_, ?_⟩
        · unfold idxP; rw [if_neg hp, if_neg (by omega)]; omega
        · unfold idxP
          rw [if_neg hp, if_neg (by omega)]
          obtain ⟨n, hn⟩ := Int.eq_ofNat_of_zero_le h2
          rw [hn] at h3 ⊢
          rw [← h3]
          have e : ((n : Int) + 1).toNat = n + 1 := by omega
          simp only [rd_T69, Int.toNat_natCast, e, List.getD_cons_succ]
      · right
        refine ⟨by simp [List.find?, hp', h1], ?_⟩
        unfold idxP
        rw [if_neg hp, if_pos (by omega)]
theorem firstT_is (col : Int) (ops : List Int) (l : List S69) : firstT col ops l = match l.find? (isT col ops) with | some x => (x, true) | none => (z69, false) := by
  unfold firstT
  rcases idxP_find (isT col ops) l with ⟨x, h1, h2, h3⟩ | ⟨h1, h2⟩
  · rw [if_neg (by omega), h1, h3]
  · rw [if_pos (by omega), h1]
theorem firstT_some {col : Int} {ops : List Int} {l : List S69} (h : (firstT col ops l).2 = true) : (firstT col ops l).1 ∈ l ∧ (firstT col ops l).1.f0 = col ∧ (firstT col ops l).1.f1 ∈ ops := by
  rw [firstT_is] at h ⊢
  cases hf : l.find? (isT col ops) with
  | none => rw [hf] at h; cases h
  | some x =>
    have h1 := List.mem_of_find?_eq_some hf
    have h2 := List.find?_some hf
    simp only [isT, Bool.and_eq_true, beq_iff_eq] at h2
    exact ⟨h1, h2.1, by simpa using h2.2⟩
def optT (p : S69 × Bool) : List S69 := if p.2 = true then [p.1] else []
theorem optT_mem {col : Int} {ops : List Int} {l : List S69} {t : S69} (h : t ∈ optT (firstT col ops l)) : t ∈ l ∧ t.f0 = col ∧ t.f1 ∈ ops := by
  unfold optT at h
  split at h
  · rename_i h2
    simp only [List.mem_singleton] at h
    subst h
    exact firstT_some h2
  · cases h
theorem useG_form (L : List S69) : ∀ (cols : List Int) (acc : List S25), ∃ (pf cs : List Int) (pv : List S25), cols = pf ++ cs ∧ (useG L cols acc).1 = acc ++ pv ∧ pv.length = pf.length ∧
    (∀ (i : Nat) c v, pf[i]? = some c → pv[i]? = some v → ∃ t ∈ L, t.f0 = c ∧ t.f1 = 5 ∧ v = t.f2) ∧
    ((cs = [] ∧ (useG L cols acc).2 = ([], [])) ∨ ∃ c cs', cs = c :: cs' ∧ (useG L cols acc).2 = (optT (firstT c [9, 10] L), optT (firstT c [7, 8] L)))
  | [], acc => ⟨[], [], [], rfl, by simp [useG], rfl, fun i c v h => by simp at h, .inl ⟨rfl, rfl⟩⟩
  | c :: cols, acc => by
    by_cases h : (firstT c [5] L).2 = true
    · obtain ⟨pf, cs, pv, h1, h2, h3, h4, h5⟩ := useG_form L cols (acc ++ [(firstT c [5] L).1.f2])
      have e : useG L (c :: cols) acc = useG L cols (acc ++ [(firstT c [5] L).1.f2]) := by rw [useG, if_pos h]
      obtain ⟨m1, m2, m3⟩ := firstT_some h
      refine ⟨c :: pf, cs, (firstT c [5] L).1.f2 :: pv, by rw [h1]; rfl, by rw [e, h2, List.append_assoc]; rfl, by simp [h3], ?_, by rw [e]; exact h5⟩
      intro i c' v hc hv
      cases i with
      | zero =>
        simp at hc hv
        subst hc
        exact ⟨_, m1, m2, by simpa using m3, hv.symm⟩
      | succ i => exact h4 i c' v (by simpa using hc) (by simpa using hv)
    · have e : useG L (c :: cols) acc = (acc, optT (firstT c [9, 10] L), optT (firstT c [7, 8] L)) := by rw [useG, if_neg h]; rfl
      exact ⟨[], c :: cols, [], rfl, by rw [e]; simp, rfl, fun i c v h => by simp at h, .inr ⟨c, cols, rfl, by rw [e]⟩⟩
def Small (x : S25) : Prop := okV x ∧ x.f2.size ≤ 1048576
theorem room_small : ∀ (l : List S25), (∀ x ∈ l, Small x) → room l ≤ l.length * 2097164
  | [], _ => by simp [room]
  | x :: l, h => by
    have h1 := (h x (by simp)).2
    have h2 := room_small l (fun y hy => h y (by simp [hy]))
    simp only [room, List.map_cons, List.sum_cons, List.length_cons, Nat.add_mul] at h2 ⊢
    omega
theorem encR_len (d : List Bool) (l : List S25) : (encR d l).1.length ≤ room l := by
  unfold encR
  cases h : encE d l with
  | none => simp
  | some b => exact encE_length l d h
def keyP (vs : List S25) (d : List Bool) (t : S69) : List Int := (encR d (vs ++ [t.f2])).1
def lowP (vs : List S25) (d : List Bool) (base : List Int) : List S69 → List Int → List Int
  | [], cur => cur
  | t :: r, _ => lowP vs d base r (if t.f1 = 9 ∨ t.f1 = 7 then (if (nextB (keyP vs d t)).2 = true then (nextB (keyP vs d t)).1 else base) else keyP vs d t)
def highP (vs : List S25) (d : List Bool) : List S69 → List Int × Bool → List Int × Bool
  | [], cur => cur
  | t :: r, _ => highP vs d r (if t.f1 = 8 ∨ t.f1 = 10 then nextB (keyP vs d t) else (keyP vs d t, true))
theorem small_append {vs : List S25} {x : S25} (hv : ∀ x ∈ vs, Small x) (hx : Small x) : ∀ y ∈ vs ++ [x], Small y := fun y hy => by
  rcases List.mem_append.1 hy with h | h
  · exact hv y h
  · simp at h; subst h; exact hx
theorem enc_ev {vs : List S25} (d : List Bool) (hv : ∀ x ∈ vs, Small x) (hl : vs.length ≤ 1048577) : Ev (fun k => keys_Encode.f k vs d) (encR d vs) :=
  encode_ev vs d (fun x hx => (hv x hx).1) (by omega) (by have := room_small vs hv; omega)
theorem enc_small {vs : List S25} (d : List Bool) (hv : ∀ x ∈ vs, Small x) (hl : vs.length ≤ 1048577) : (encR d vs).1.length < 140737488355328 := by
  have h1 := encR_len d vs
  have h2 := room_small vs hv
  omega
theorem key_ev {vs : List S25} (d : List Bool) {t : S69} (hv : ∀ x ∈ vs, Small x) (ht : Small t.f2) (hl : vs.length ≤ 1048576) : Ev (fun k => keyF k vs d t) (keyP vs d t) := by
  unfold keyF
  refine Ev.pos (by omega) ?_
  refine Ev.bind (enc_ev d (small_append hv ht) (by simp; omega)) ?_
  exact Ev.pure _
theorem key_small {vs : List S25} (d : List Bool) {t : S69} (hv : ∀ x ∈ vs, Small x) (ht : Small t.f2) (hl : vs.length ≤ 1048576) : (keyP vs d t).length < 140737488355328 := enc_small d (small_append hv ht) (by simp; omega)
theorem low_ev {vs : List S25} (d : List Bool) (base : List Int) (hv : ∀ x ∈ vs, Small x) (hl : vs.length ≤ 1048576) : ∀ (lo : List S69) (cur : List Int), (∀ t ∈ lo, Small t.f2) → Ev (fun k => lowF k vs d base lo cur) (lowP vs d base lo cur)
  | [], cur, _ => Ev.pure _
  | t :: r, cur, h => by
    have ht := h t (by simp)
    have hr := fun c => low_ev d base hv hl r c (fun y hy => h y (by simp [hy]))
    simp only [lowF, lowP]
    refine Ev.bind (key_ev d hv ht hl) ?_
    by_cases hs : t.f1 = 9 ∨ t.f1 = 7
    · rw [if_pos hs]
      refine Ev.pos hs ?_
      refine Ev.bind (next_ev _ (key_small d hv ht hl)) ?_
      exact hr _
    · rw [if_neg hs]
      exact Ev.neg hs (hr _)
theorem high_ev {vs : List S25} (d : List Bool) (hv : ∀ x ∈ vs, Small x) (hl : vs.length ≤ 1048576) : ∀ (up : List S69) (cur : List Int × Bool), (∀ t ∈ up, Small t.f2) → Ev (fun k => highF k vs d up cur.1 cur.2) (highP vs d up cur)
  | [], cur, _ => Ev.pure _
  | t :: r, cur, h => by
    have ht := h t (by simp)
    have hr := fun c => high_ev d hv hl r c (fun y hy => h y (by simp [hy]))
    simp only [highF, highP]
    refine Ev.bind (key_ev d hv ht hl) ?_
    by_cases hs : t.f1 = 8 ∨ t.f1 = 10
    · rw [if_pos hs]
      refine Ev.pos hs ?_
      refine Ev.bind (next_ev _ (key_small d hv ht hl)) ?_
      exact hr _
    · rw [if_neg hs]
      exact Ev.neg hs (hr (_, true))
def rangeG (vs : List S25) (lo up : List S69) (d : List Bool) : List Int × List Int × Bool :=
  (lowP vs d (encR d vs).1 lo (encR d vs).1, (highP vs d up (nextB (encR d vs).1)).1, !(highP vs d up (nextB (encR d vs).1)).2)
def rangeP (cols : List Int) (d : List Bool) (L : List S69) : List Int × List Int × Bool :=
  if swapB (useG L cols []).1 d = true then rangeG (useG L cols []).1 (useG L cols []).2.2 (useG L cols []).2.1 d else rangeG (useG L cols []).1 (useG L cols []).2.1 (useG L cols []).2.2 d
theorem g_ev {vs : List S25} {lo up : List S69} (d : List Bool) (hv : ∀ x ∈ vs, Small x) (hlo : ∀ t ∈ lo, Small t.f2) (hup : ∀ t ∈ up, Small t.f2) (hl : vs.length ≤ 1048576) : Ev (fun k => bounds_Range.g k vs lo up d) (rangeG vs lo up d) := by
  unfold bounds_Range.g
  refine Ev.bind (enc_ev d hv (by omega)) ?_
  refine Ev.bind (low_ev d _ hv hl lo _ hlo) ?_
  refine Ev.bind (next_ev _ (enc_small d hv (by omega))) ?_
  refine Ev.bind (high_ev d hv hl up _ hup) ?_
  exact Ev.pure _
theorem useG_small {L : List S69} (hL : ∀ t ∈ L, Small t.f2) (cols : List Int) (hl : cols.length ≤ 1048576) :
    (∀ x ∈ (useG L cols []).1, Small x) ∧ (∀ t ∈ (useG L cols []).2.1, t ∈ L) ∧ (∀ t ∈ (useG L cols []).2.2, t ∈ L) ∧ (useG L cols []).1.length ≤ cols.length := by
  obtain ⟨pf, cs, pv, h1, h2, h3, h4, h5⟩ := useG_form L cols []
  rw [List.nil_append] at h2
  have hlen : pv.length ≤ cols.length := by rw [h3, h1]; simp
  refine ⟨?_, ?_, ?_, by rw [h2]; exact hlen⟩
  · intro x hx
    rw [h2] at hx
    obtain ⟨i, hi, rfl⟩ := List.getElem_of_mem hx
    obtain ⟨t, ht, _, _, hv⟩ := h4 i pf[i] pv[i] (List.getElem?_eq_getElem (by omega)) (List.getElem?_eq_getElem hi)
    rw [hv]
    exact hL t ht
  · intro t ht
    rcases h5 with ⟨_, e⟩ | ⟨c, cs', _, e⟩
    · rw [e] at ht; cases ht
    · rw [e] at ht; exact (optT_mem ht).1
  · intro t ht
    rcases h5 with ⟨_, e⟩ | ⟨c, cs', _, e⟩
    · rw [e] at ht; cases ht
    · rw [e] at ht; exact (optT_mem ht).1
theorem range_ev (a0 : Int) (a1 a2 : ByteArray) (cols : List Int) (d : List Bool) (a5 : Bool) {L : List S69} (hL : ∀ t ∈ L, Small t.f2) (hl : cols.length ≤ 1048576) : Ev (fun k => bounds_Range.f k a0 a1 a2 cols d a5 L) (rangeP cols d L) := by
  obtain ⟨s1, s2, s3, s4⟩ := useG_small hL cols hl
  unfold bounds_Range.f
  have hu : bounds_useOf.f a0 a1 a2 cols d a5 L = some (useG L cols []) := by unfold bounds_useOf.f; rw [if_pos (by omega)]
  simp only [hu, Option.bind_some]
  unfold rangeP
  by_cases hs : swapB (useG L cols []).1 d = true
  · rw [if_pos hs]
    exact Ev.pos hs (g_ev d s1 (fun t ht => hL t (s3 t ht)) (fun t ht => hL t (s2 t ht)) (by omega))
  · rw [if_neg hs]
    exact Ev.neg hs (g_ev d s1 (fun t ht => hL t (s2 t ht)) (fun t ht => hL t (s3 t ht)) (by omega))
end Go.Proofs.Ytmfenomjhmhogaa.Pure
end
section
namespace Go.Proofs.Ytmfenomjhmhogaa.Pure
set_option linter.unusedVariables false
set_option linter.unusedSimpArgs false
open Go.RowKit Go.Proofs.Ytmfenomjhmhogaa.P Go.Proofs.YtmfenomjhmhogaaW.PrintWords Go.Proofs.YtmfenomjhmhogaaW.PrintLast Go.Proofs.YtmfenomjhmhogaaW.PrintMore
def encA : List Bool → List S25 → List Int
  | _, [] => []
  | d, x :: l => turnB (d.headD false) (encB x) ++ encA d.tail l
theorem encE_all : ∀ (l : List S25) (d : List Bool), (∀ x ∈ l, chk x = 0) → encE d l = some (encA d l)
  | [], d, _ => rfl
  | x :: l, d, h => by
    rw [encE, if_pos (h x (by simp)), encE_all l d.tail (fun y hy => h y (by simp [hy]))]
    rfl
theorem encR_all {l : List S25} {d : List Bool} (h : ∀ x ∈ l, chk x = 0) : (encR d l).1 = encA d l := by
  unfold encR
  rw [encE_all l d h]
theorem encA_bytes : ∀ (l : List S25) (d : List Bool), BytesIn (encA d l)
  | [], d => fun x hx => by cases hx
  | x :: l, d => fun y hy => by
    rw [encA] at hy
    rcases List.mem_append.1 hy with h | h
    · exact turnB_range _ (encB_range x) y h
    · exact encA_bytes l d.tail y h
def sgn (b : Bool) (c : Int) : Int := if b = true then -c else c
theorem diffT (b : Bool) {x y : S25} (hx : chk x = 0) (hy : chk y = 0) (ix : I64 x.f1) (iy : I64 y.f1) : Diff (turnB b (encB x)) (turnB b (encB y)) (sgn b (cmpV x y)) := by
  have h := encB_diff hx hy ix iy
  unfold turnB sgn
  cases b with
  | true => simpa using h.flip
  | false => simpa using h
theorem prefix_append (a b : List Int) : a.isPrefixOf (a ++ b) = true := List.isPrefixOf_iff_prefix.2 ⟨b, rfl⟩
section
variable {base ev et rest : List Int} {c : Int}
end
theorem next_range {b : List Int} (h : BytesIn b) : BytesIn (nextB b).1 := by
  unfold nextB
  split
  · intro x hx; cases hx
  · exact bump_range _ (trim_range _ h)
end Go.Proofs.Ytmfenomjhmhogaa.Pure
end
section
namespace Go.Proofs.Ytmfenomjhmhogaa.Pure
set_option linter.unusedVariables false
set_option linter.unusedSimpArgs false
open Go.RowKit Go.Proofs.Ytmfenomjhmhogaa.P Go.Proofs.YtmfenomjhmhogaaW.PrintWords Go.Proofs.YtmfenomjhmhogaaW.PrintLast Go.Proofs.YtmfenomjhmhogaaW.PrintMore
theorem ref_check_f (x : S25) : quarryref01_Check.f x.f0 x.f1 x.f2 = some (chk x) := rfl
theorem ref_num (acc : List Int) (n : Int) (h0 : 0 ≤ n) (hl : acc.length + 8 < 140737488355328) : Ev (fun k => quarryref03_bytes.l0 k acc n 7) (acc ++ be 8 n) := by
  have key : ∀ (j : Nat) (acc' : List Int), j ≤ 8 → acc'.length + j < 140737488355328 → Ev (fun k => quarryref03_bytes.l0 k acc' n ((j : Int) - 1)) (acc' ++ be j n) := by
    intro j
    induction j with
    | zero =>
      intro acc' _ _
      refine Ev.succ ?_
      have e : ¬ (((0 : Nat) : Int) - 1 ≥ 0) := by omega
      simp only [quarryref03_bytes.l0, e, if_false, be, List.append_nil]
      exact Ev.pure _
    | succ j ih =>
      intro acc' hj hl'
      refine Ev.succ ?_
      have e : (((j + 1 : Nat) : Int) - 1 ≥ 0) := by omega
      have e1 : wrap64 (8 * (((j + 1 : Nat) : Int) - 1)) = 8 * (j : Int) := by unfold wrap64; omega
      have e2 : (0 : Int) ≤ 8 * (j : Int) := by omega
      have e3 : acc'.length < 140737488355328 := by omega
      have e4 : wrap64 (((j + 1 : Nat) : Int) - 1 - 1) = (j : Int) - 1 := by unfold wrap64; omega
      simp only [quarryref03_bytes.l0, e, e1, e2, e3, e4, if_true]
      have e5 : shr .u64 n (8 * (j : Int)) = n / 256 ^ j := by
        unfold shr
        have : min (8 * (j : Int)).toNat IntKind.u64.bits = 8 * j := by
          show min _ 64 = _
          omega
        rw [this, Int.pow_mul]
        rfl
      have hp : (0 : Int) < 256 ^ j := Int.pow_pos (by decide)
      have hq : 0 ≤ n / 256 ^ j := Int.ediv_nonneg h0 (by omega)
      have e6 : Int.tmod (n / 256 ^ j) 256 % 256 = n / 256 ^ j % 256 := by rw [Int.tmod_eq_emod_of_nonneg hq]; omega
      rw [e5, e6]
      have := ih (acc' ++ [n / 256 ^ j % 256]) (by omega) (by simp; omega)
      simpa [be] using this
  exact key 8 acc (by omega) hl
theorem ref_text (s : ByteArray) (a : Int) (b : Int) (hs : s.size ≤ 140737488351232) : ∀ (suf pre : List UInt8) (acc : List Int), s.data.toList = pre ++ suf → acc.length + 2 * suf.length + 2 < 140737488355328 →
    Ev (fun k => quarryref03_bytes.l1 k acc (pre.length : Int) a b s) (acc ++ (esc suf ++ [0, 1])) := by
  intro suf
  induction suf with
  | nil =>
    intro pre acc he hl
    have hz := size_toList s
    rw [he] at hz
    simp only [List.append_nil] at hz
    refine Ev.succ ?_
    have e : ¬ ((pre.length : Int) < (s.size : Int)) := by omega
    have e2 : acc.length + [(0 : Int), 1].length < 140737488355328 := by simp at hl ⊢; omega
    simp only [quarryref03_bytes.l1, e, if_false, Option.bind_some, e2, if_true, esc, List.nil_append]
    exact Ev.pure _
  | cons c suf ih =>
    intro pre acc he hl
    have hz := size_toList s
    rw [he] at hz
    simp only [List.length_append, List.length_cons] at hz hl
    refine Ev.succ ?_
    have e : ((pre.length : Int) < (s.size : Int)) := by omega
    have e1 : (0 : Int) ≤ (pre.length : Int) := by omega
    have e2 : acc.length < 140737488355328 := by omega
    have e4 : wrap64 ((pre.length : Int) + 1) = (pre.length : Int) + 1 := wrap64_in (by omega) (by omega)
    have e5 := bt_at' s pre c suf he
    simp only [quarryref03_bytes.l1, e, e1, e2, if_true, Option.bind_some, e4, e5]
    by_cases h : (c.toNat : Int) = 0
    · have hc : c = 0 := UInt8.toNat_inj.1 (by show c.toNat = 0; omega)
      simp only [h, if_true]
      have e6 : (acc ++ [(0 : Int)]).length < 140737488355328 := by simp; omega
      simp only [e6, if_true]
      have := ih (pre ++ [c]) (acc ++ [0] ++ [255]) (by simpa using he) (by simp; omega)
      rw [show esc (c :: suf) = 0 :: 255 :: esc suf by rw [esc, if_pos hc]]
      simpa using this
    · have hc : ¬ c = 0 := fun e => h (by subst e; rfl)
      simp only [h, if_false]
      have := ih (pre ++ [c]) (acc ++ [(c.toNat : Int)]) (by simpa using he) (by simp; omega)
      rw [show esc (c :: suf) = (c.toNat : Int) :: esc suf by rw [esc, if_neg hc]]
      simpa using this
theorem ref_bytes_ev (x : S25) (h : okV x) (hc : chk x = 0) (hl : 2 * x.f2.size + 11 < 140737488355328) : Ev (fun k => quarryref03_bytes.f k x.f0 x.f1 x.f2) (encB x) := by
  have hk := chk_kind hc
  unfold quarryref03_bytes.f encB payload
  simp only [Option.bind_some, wrap_kind hc]
  have hi := h.2.1
  unfold I64 at hi
  by_cases h0 : x.f0 = 0
  · simp [h0]
    exact Ev.pure _
  by_cases h1 : x.f0 = 1
  · simp [h1]
    exact Ev.pure _
  by_cases h2 : x.f0 = 2
  · have e0 : ¬ (2 : Int) = 0 := by decide
    have e1 : ¬ (2 : Int) = 1 := by decide
    simp only [h2, e0, e1, if_true, if_false, sign_add h.2.1]
    exact ref_num [((2 : Int) + 1) % 256] _ (by omega) (by simp)
  have hz := size_toList x.f2
  have h3 : x.f0 = 3 ∨ x.f0 = 4 := by omega
  simp only [h0, h1, h2, h3, if_true, if_false]
  have := ref_text x.f2 x.f0 x.f1 h.2.2 x.f2.data.toList [] [(x.f0 + 1) % 256] rfl (by simp; omega)
  simpa using this
theorem ref_flip_loop : ∀ (suf pre acc : List Int), BytesIn suf → (pre ++ suf).length < 140737488355328 → acc.length + suf.length < 140737488355328 → Ev (fun k => quarryref03_flip.l0 k (pre ++ suf) acc (pre.length : Int)) (acc ++ flipL suf) := by
  intro suf
  induction suf with
  | nil =>
    intro pre acc _ hl _
    refine Ev.succ ?_
    simp [quarryref03_flip.l0, flipL]
    exact Ev.pure _
  | cons x suf ih =>
    intro pre acc hb hl ha
    refine Ev.succ ?_
    have e1 : (pre.length : Int) < ((pre ++ x :: suf).length : Int) := by simp; omega
    have e2 : (0 : Int) ≤ (pre.length : Int) := by omega
    have e3 : acc.length < 140737488355328 := by simp at ha; omega
    have e6 : wrap64 ((pre.length : Int) + 1) = (pre.length : Int) + 1 := wrap64_in (by omega) (by simp at hl; omega)
    have hx := hb x (by simp)
    have e7 : (255 - x) % 256 = 255 - x := by omega
    simp only [quarryref03_flip.l0, e1, e2, e3, if_true, rdI_at, e6, e7]
    have := ih (pre ++ [x]) (acc ++ [255 - x]) (fun y hy => hb y (by simp [hy])) (by simpa using hl) (by simp at ha ⊢; omega)
    simpa [flipL] using this
theorem ref_flip_ev (l : List Int) (hb : BytesIn l) (hl : l.length < 140737488355328) : Ev (fun k => quarryref03_flip.f k l) (flipL l) := by
  unfold quarryref03_flip.f
  have := ref_flip_loop l [] [] hb (by simpa using hl) (by simpa using hl)
  simpa using this
theorem ref_turned_at (d : List Bool) (n : Nat) : quarryref03_turned.f d (n : Int) = keys_turned.f d (n : Int) := rfl
theorem ref_encode_loop : ∀ (suf pre : List S25) (pd d : List Bool) (acc : List Int), (∀ x ∈ suf, okV x) → (pre ++ suf).length < 140737488355328 → acc.length + room suf < 140737488355328 → (pd.length = pre.length ∨ (pd.length < pre.length ∧ d = [])) →
    Ev (fun k => quarryref03_Encode.l0 k (pre ++ suf) (pd ++ d) acc (pre.length : Int)) (match encE d suf with | none => ([], 3) | some b => (acc ++ b, 0)) := by
  intro suf
  induction suf with
  | nil =>
    intro pre pd d acc _ hl _ _
    refine Ev.succ ?_
    simp [quarryref03_Encode.l0, encE]
    exact Ev.pure _
  | cons x suf ih =>
    intro pre pd d acc hx hl hr hd
    refine Ev.succ ?_
    have e1 : (pre.length : Int) < ((pre ++ x :: suf).length : Int) := by simp; omega
    have e2 : (0 : Int) ≤ (pre.length : Int) := by omega
    simp only [quarryref03_Encode.l0, e1, e2, if_true, rd_at, ref_check_f, Option.bind_some]
    by_cases hc : chk x = 0
    · rw [encE, if_pos hc]
      have hx0 := hx x (by simp)
      have hb := encB_length x
      simp only [room, List.map_cons, List.sum_cons] at hr
      have e6 : wrap64 ((pre.length : Int) + 1) = (pre.length : Int) + 1 := wrap64_in (by omega) (by simp at hl; omega)
      simp only [hc, if_true, e6]
      refine Ev.bind (ref_bytes_ev x hx0 hc (by omega)) ?_
      rw [ref_turned_at, turned_at (pd ++ d) pd d pre.length rfl hd]
      simp only [Option.bind_some]
      obtain ⟨pd', hpd, hn⟩ := desc_next pd d pre.length hd
      have hgo : ∀ b : Bool, d.headD false = b → Ev (fun k => quarryref03_Encode.l0 k (pre ++ x :: suf) (pd ++ d) (acc ++ turnB b (encB x)) ((pre.length : Int) + 1)) (match (encE d.tail suf).map (turnB b (encB x) ++ ·) with | none => ([], 3) | some b => (acc ++ b, 0)) := by
        intro b _
        have := ih (pre ++ [x]) pd' d.tail (acc ++ turnB b (encB x)) (fun y hy => hx y (by simp [hy])) (by simpa using hl) (by rw [List.length_append, turnB_length]; unfold room; omega) (by simpa using hn)
        rw [hpd] at this
        cases he : encE d.tail suf with
        | none => rw [he] at this; simpa using this
        | some c => rw [he] at this; simpa using this
      cases hh : d.headD false with
      | false =>
        have e8 : acc.length + (encB x).length < 140737488355328 := by omega
        simp only [Bool.false_eq_true, if_false, e8, if_true]
        exact hgo false hh
      | true =>
        simp only [if_true]
        refine Ev.bind (ref_flip_ev (encB x) (encB_range x) (by omega)) ?_
        have e8 : acc.length + (flipL (encB x)).length < 140737488355328 := by rw [flipL_length]; omega
        simp only [e8, if_true]
        exact hgo true hh
    · rw [encE, if_neg hc]
      simp only [hc, if_false]
      exact Ev.pure _
theorem ref_encode_ev (l : List S25) (d : List Bool) (hx : ∀ x ∈ l, okV x) (hl : l.length < 140737488355328) (hr : room l < 140737488355328) : Ev (fun k => quarryref03_Encode.f k l d) (encR d l) := by
  unfold quarryref03_Encode.f encR
  have := ref_encode_loop l [] [] d [] hx (by simpa using hl) (by simpa using hr) (.inl rfl)
  cases he : encE d l with
  | none => rw [he] at this; simpa using this
  | some b => rw [he] at this; simpa using this
end Go.Proofs.Ytmfenomjhmhogaa.Pure
end
section
namespace Go.Proofs.Ytmfenomjhmhogaa.Pure
set_option linter.unusedVariables false
set_option linter.unusedSimpArgs false
open Go.RowKit Go.Proofs.Ytmfenomjhmhogaa.P Go.Proofs.YtmfenomjhmhogaaW.PrintWords Go.Proofs.YtmfenomjhmhogaaW.PrintLast Go.Proofs.YtmfenomjhmhogaaW.PrintMore
theorem ref_next_loop (b : List Int) (hl : b.length < 140737488355328) : ∀ (n : Nat), n ≤ b.length → trim b = trim (b.take n) → Ev (fun k => quarryref03_Next.l0 k b (n : Int)) (nextB b) := by
  intro n
  induction n with
  | zero =>
    intro _ ht
    refine Ev.succ ?_
    have e : ¬ (((0 : Nat) : Int) > 0) := by omega
    have e2 : ((0 : Nat) : Int) = 0 := rfl
    have h0 : trim b = [] := by rw [ht]; rfl
    unfold nextB
    simp only [quarryref03_Next.l0, e, if_false, e2, if_true, h0]
    exact Ev.pure _
  | succ n ih =>
    intro hn ht
    refine Ev.succ ?_
    have e : (((n + 1 : Nat) : Int) > 0) := by omega
    have e1 : wrap64 (((n + 1 : Nat) : Int) - 1) = (n : Int) := by unfold wrap64; omega
    have e2 : (0 : Int) ≤ (n : Int) := by omega
    have e3 : (n : Int) < (b.length : Int) := by omega
    have hlt : n < b.length := by omega
    have htk : b.take (n + 1) = b.take n ++ [b[n]] := by rw [List.take_succ_eq_append_getElem hlt]
    have hbn : rd b (n : Int) = b[n] := by
      unfold rd
      rw [Int.toNat_natCast, List.getD_eq_getElem?_getD, List.getElem?_eq_getElem hlt]
      rfl
    simp only [quarryref03_Next.l0, e, e1, e2, e3, if_true, hbn]
    by_cases h : b[n] = 255
    · simp only [h, if_true]
      rw [htk, h, trim_snoc_255] at ht
      exact ih (by omega) ht
    · have hne : ¬ ((n + 1 : Nat) : Int) = 0 := by omega
      have e4 : (0 : Int) ≤ ((n + 1 : Nat) : Int) := by omega
      have e5 : ((n + 1 : Nat) : Int) ≤ (b.length : Int) := by omega
      have e6 : (n : Int) < ((b.take (n + 1)).length : Int) := by rw [List.length_take]; omega
      have e7 : ([] : List Int).length + (b.take (n + 1)).length < 140737488355328 := by rw [List.length_take]; simp; omega
      rw [htk, trim_snoc _ _ h] at ht
      have hnb : nextB b = (b.take n ++ [(b[n] + 1) % 256], true) := by
        unfold nextB
        rw [ht, if_neg (by intro h0; have h1 := congrArg List.length h0; rw [List.length_append, List.length_cons, List.length_nil] at h1; omega), bump_snoc]
      have hset : (b.take (n + 1)).set n ((rd (b.take (n + 1)) (n : Int) + 1) % 256) = b.take n ++ [(b[n] + 1) % 256] := by
        have hr : rd (b.take (n + 1)) (n : Int) = b[n] := by
          rw [htk]
          have := rdI_at (b.take n) b[n] []
          rw [List.length_take, Nat.min_eq_left (by omega)] at this
          exact this
        rw [hr, htk, List.set_append_right _ _ (by rw [List.length_take]; omega)]
        rw [List.length_take, Nat.min_eq_left (by omega), Nat.sub_self]
        rfl
      simp only [h, if_false, hne, e4, e5, if_true, Int.toNat_natCast, Option.bind_some, List.nil_append, e6, e7, hset]
      rw [hnb]
      exact Ev.pure _
theorem ref_next_ev (b : List Int) (hl : b.length < 140737488355328) : Ev (fun k => quarryref03_Next.f k b) (nextB b) := by
  unfold quarryref03_Next.f
  exact ref_next_loop b hl b.length (Nat.le_refl _) (by rw [List.take_length])
end Go.Proofs.Ytmfenomjhmhogaa.Pure
end
section
namespace Go.Proofs.Ytmfenomjhmhogaa.Pure
set_option linter.unusedVariables false
set_option linter.unusedSimpArgs false
open Go.RowKit Go.Proofs.Ytmfenomjhmhogaa.P Go.Proofs.YtmfenomjhmhogaaW.PrintWords Go.Proofs.YtmfenomjhmhogaaW.PrintLast Go.Proofs.YtmfenomjhmhogaaW.PrintMore
def cntP (L : List S69) (cols : List Int) : Int := (useG L cols []).1.length + (useG L cols []).2.1.length + (useG L cols []).2.2.length
def bestP (L : List S69) : List S41 → Int → Int → Int → Int
  | [], _, best, _ => best
  | x :: l, i, best, most => if cntP L x.f3 > most then bestP L l (i + 1) i (cntP L x.f3) else bestP L l (i + 1) best most
theorem optT_len (p : S69 × Bool) : (optT p).length ≤ 1 := by unfold optT; split <;> simp
theorem cnt_small (L : List S69) (cols : List Int) (hl : cols.length ≤ 1048576) : 0 ≤ cntP L cols ∧ cntP L cols ≤ 1048578 ∧ (useG L cols []).1.length ≤ 1048576 ∧ (useG L cols []).2.1.length ≤ 1 ∧ (useG L cols []).2.2.length ≤ 1 := by
  obtain ⟨pf, cs, pv, h1, h2, h3, h4, h5⟩ := useG_form L cols []
  rw [List.nil_append] at h2
  have hlen : pv.length ≤ cols.length := by rw [h3, h1]; simp
  unfold cntP
  rw [h2]
  rcases h5 with ⟨_, e⟩ | ⟨c, cs', _, e⟩
  · rw [e]; simp; omega
  · rw [e]
    have a := optT_len (firstT c [9, 10] L)
    have b := optT_len (firstT c [7, 8] L)
    simp only
    omega
theorem rd_at41 (pre : List S41) (x : S41) (suf : List S41) : rd_T41 (pre ++ x :: suf) (pre.length : Int) = x := by
  simp [rd_T41, List.getD_eq_getElem?_getD]
theorem best_loop (L : List S69) : ∀ (suf pre : List S41) (best most : Int), (pre ++ suf).length < 140737488355328 → (∀ x ∈ suf, x.f3.length ≤ 1048576) →
    Ev (fun k => bounds_Best.l0 k L best most (pre ++ suf) ((pre ++ suf).length : Int) (pre.length : Int)) (bestP L suf (pre.length : Int) best most) := by
  intro suf
  induction suf with
  | nil =>
    intro pre best most hl hx
    refine Ev.succ ?_
    simp [bounds_Best.l0, bestP]
    exact Ev.pure _
  | cons x suf ih =>
    intro pre best most hl hx
    refine Ev.succ ?_
    have e1 : (pre.length : Int) < ((pre ++ x :: suf).length : Int) := by simp; omega
    have e2 : (0 : Int) ≤ (pre.length : Int) := by omega
    have e6 : wrap64 ((pre.length : Int) + 1) = (pre.length : Int) + 1 := wrap64_in (by omega) (by simp at hl; omega)
    have hxl := hx x (by simp)
    have hu : bounds_useOf.f x.f0 x.f1 x.f2 x.f3 x.f4 x.f5 L = some (useG L x.f3 []) := by unfold bounds_useOf.f; rw [if_pos (by omega)]
    have hcs := cnt_small L x.f3 hxl
    have hc : bounds_use_count.f (useG L x.f3 []).1 (useG L x.f3 []).2.1 (useG L x.f3 []).2.2 = some (cntP L x.f3) := by
      unfold bounds_use_count.f cntP
      rw [wrap64_in (n := ((useG L x.f3 []).1.length : Int) + ((useG L x.f3 []).2.1.length : Int)) (by omega) (by omega), wrap64_in (by omega) (by omega)]
    have step : ∀ k, bounds_Best.l0 (k + 1) L best most (pre ++ x :: suf) ((pre ++ x :: suf).length : Int) (pre.length : Int) =
        if cntP L x.f3 > most then bounds_Best.l0 k L (pre.length : Int) (cntP L x.f3) (pre ++ x :: suf) ((pre ++ x :: suf).length : Int) ((pre.length : Int) + 1) else bounds_Best.l0 k L best most (pre ++ x :: suf) ((pre ++ x :: suf).length : Int) ((pre.length : Int) + 1) := by
      intro k
      rw [bounds_Best.l0, if_pos e1, if_pos e2, if_pos e1, rd_at41, hu, Option.bind_some, hc, Option.bind_some, e6]
    clear hu hc
    have hr := fun b m => ih (pre ++ [x]) b m (by simpa using hl) (fun y hy => hx y (by simp [hy]))
    unfold bestP
    by_cases hg : cntP L x.f3 > most
    · rw [if_pos hg]
      refine Ev.of_eq ?_ (fun k => (step k).trans (if_pos hg))
      have := hr (pre.length : Int) (cntP L x.f3)
      simpa using this
    · rw [if_neg hg]
      refine Ev.of_eq ?_ (fun k => (step k).trans (if_neg hg))
      have := hr best most
      simpa using this
theorem best_ev (l : List S41) (L : List S69) (hl : l.length < 140737488355328) (hx : ∀ x ∈ l, x.f3.length ≤ 1048576) : Ev (fun k => bounds_Best.f k l L) (bestP L l 0 (-1) 0) := by
  unfold bounds_Best.f
  have := best_loop L l [] (-1) 0 (by simpa using hl) hx
  simpa using this
def w1 : S25 := ⟨2, 1, ⟨#[]⟩⟩
def w2 : S25 := ⟨2, 2, ⟨#[]⟩⟩
theorem w_small : Small w1 ∧ Small w2 := ⟨⟨⟨⟨by show _ ≤ (2 : Int); decide, by show (2 : Int) ≤ _; decide⟩, ⟨by show _ ≤ (1 : Int); decide, by show (1 : Int) ≤ _; decide⟩, by show (0 : Nat) ≤ _; decide⟩, by show (0 : Nat) ≤ _; decide⟩,
  ⟨⟨⟨by show _ ≤ (2 : Int); decide, by show (2 : Int) ≤ _; decide⟩, ⟨by show _ ≤ (2 : Int); decide, by show (2 : Int) ≤ _; decide⟩, by show (0 : Nat) ≤ _; decide⟩, by show (0 : Nat) ≤ _; decide⟩⟩
theorem w_chk : chk w1 = 0 ∧ chk w2 = 0 := ⟨by simp [chk, chkV, w1, Go.ByteArray.toList_eq], by simp [chk, chkV, w2, Go.ByteArray.toList_eq]⟩
theorem w_enc1 (d : List Bool) (h : d = [] ∨ d = [false, false]) : encR d [w1] = ([3, 128, 0, 0, 0, 0, 0, 0, 1], 0) := by
  unfold encR
  rw [encE, if_pos w_chk.1]
  rcases h with rfl | rfl <;> rfl
theorem w_enc2 (d : List Bool) (h : d = [] ∨ d = [false, false]) : encR d [w1, w2] = ([3, 128, 0, 0, 0, 0, 0, 0, 1, 3, 128, 0, 0, 0, 0, 0, 0, 2], 0) := by
  unfold encR
  rw [encE, if_pos w_chk.1, encE, if_pos w_chk.2]
  rcases h with rfl | rfl <;> rfl
def wL : List S69 := [⟨0, 5, w1⟩, ⟨1, 9, w2⟩]
theorem w_use : useG wL [0, 1] [] = ([w1], [⟨1, 9, w2⟩], []) := by rfl
theorem w_use1 : useG wL [1] [] = ([], [⟨1, 9, w2⟩], []) := by rfl
theorem w_range : rangeP [0, 1] [false, false] wL = ([3, 128, 0, 0, 0, 0, 0, 0, 1, 3, 128, 0, 0, 0, 0, 0, 0, 3], [3, 128, 0, 0, 0, 0, 0, 0, 2], false) := by
  unfold rangeP
  rw [w_use]
  have hs : swapB [w1] [false, false] = false := by rfl
  simp only [hs, Bool.false_eq_true, if_false]
  unfold rangeG
  rw [w_enc1 _ (.inr rfl)]
  simp only [lowP, highP, keyP, List.cons_append, List.nil_append, w_enc2 _ (.inr rfl)]
  decide
theorem works_ev : Ev (fun k => quarrylaw19_works.f k) true := by
  unfold quarrylaw19_works.f
  simp only [quarrylaw19_number.f, Option.bind_some]
  have h1 := range_ev 0 ⟨#[]⟩ ⟨#[]⟩ [0, 1] [false, false] false (L := wL) (by
    intro t ht
    simp only [wL, List.mem_cons, List.not_mem_nil, or_false] at ht
    rcases ht with rfl | rfl
    · exact w_small.1
    · exact w_small.2) (by simp)
  rw [w_range] at h1
  refine Ev.bind h1 ?_
  have hsm : ∀ x ∈ [w1, w2], okV x := by
    intro x hx
    simp only [List.mem_cons, List.not_mem_nil, or_false] at hx
    rcases hx with rfl | rfl
    · exact w_small.1.1
    · exact w_small.2.1
  have h2 := ref_encode_ev [w1, w2] [] hsm (by simp) (by simp [room]; decide)
  rw [w_enc2 _ (.inl rfl)] at h2
  refine Ev.bind h2 ?_
  have h3 := ref_encode_ev [w1] [] (fun x hx => hsm x (by simp at hx; simp [hx])) (by simp) (by simp [room]; decide)
  rw [w_enc1 _ (.inl rfl)] at h3
  refine Ev.bind h3 ?_
  have h4 := ref_next_ev [3, 128, 0, 0, 0, 0, 0, 0, 1, 3, 128, 0, 0, 0, 0, 0, 0, 2] (by simp)
  have e4 : nextB [3, 128, 0, 0, 0, 0, 0, 0, 1, 3, 128, 0, 0, 0, 0, 0, 0, 2] = ([3, 128, 0, 0, 0, 0, 0, 0, 1, 3, 128, 0, 0, 0, 0, 0, 0, 3], true) := by decide
  rw [e4] at h4
  refine Ev.bind h4 ?_
  have h5 := ref_next_ev [3, 128, 0, 0, 0, 0, 0, 0, 1] (by simp)
  have e5 : nextB [3, 128, 0, 0, 0, 0, 0, 0, 1] = ([3, 128, 0, 0, 0, 0, 0, 0, 2], true) := by decide
  rw [e5] at h5
  refine Ev.bind h5 ?_
  simp only [if_true, Bool.false_eq_true, if_false]
  have h6 := best_ev [(⟨0, ⟨#[]⟩, ⟨#[]⟩, [1], [false], false⟩ : S41), ⟨0, ⟨#[]⟩, ⟨#[]⟩, [0, 1], [false, false], false⟩] wL (by simp) (by
    intro x hx
    simp only [List.mem_cons, List.not_mem_nil, or_false] at hx
    rcases hx with rfl | rfl <;> simp)
  have e6 : bestP wL [(⟨0, ⟨#[]⟩, ⟨#[]⟩, [1], [false], false⟩ : S41), ⟨0, ⟨#[]⟩, ⟨#[]⟩, [0, 1], [false, false], false⟩] 0 (-1) 0 = 1 := by
    simp only [bestP, cntP, w_use, w_use1]
    decide
  rw [e6] at h6
  refine Ev.bind h6 ?_
  exact Ev.pure _
theorem m38_len (l : List Int) : m38 l = l.length + 1 := by unfold m38; induction l with | nil => rfl | cons x l ih => simp at ih ⊢; omega
theorem m39_len (l : List Bool) : m39 l = l.length + 1 := by unfold m39; induction l with | nil => rfl | cons x l ih => simp at ih ⊢; omega
theorem sum_mem {α : Type} (f : α → Nat) : ∀ {l : List α} {x : α}, x ∈ l → f x ≤ (l.map f).sum
  | y :: l, x, h => by
    simp only [List.map_cons, List.sum_cons]
    rcases List.mem_cons.1 h with rfl | h
    · omega
    · have := sum_mem f h; omega
theorem sum_len {α : Type} (f : α → Nat) (hf : ∀ x, 1 ≤ f x) : ∀ l : List α, l.length ≤ (l.map f).sum
  | [] => by simp
  | y :: l => by
    have := sum_len f hf l
    have := hf y
    simp only [List.length_cons, List.map_cons, List.sum_cons]
    omega
theorem known_values {l : List S25} (h : G52 l) (hm : m52 l ≤ 1048576) : (∀ x ∈ l, Small x) ∧ l.length ≤ 1048576 := by
  unfold m52 at hm
  refine ⟨fun t ht => ?_, by have h : l.length ≤ (l.map fun x => m25 x).sum := sum_len m25 (fun x => by unfold m25; omega) l; omega⟩
  have h1 := h.1 t ht
  have h2 : m25 t ≤ (l.map fun x => m25 x).sum := sum_mem m25 ht
  have h3 : t.f2.size ≤ m25 t := by unfold m25; omega
  exact ⟨⟨wf64 h1.1, wf64 h1.2.1, h1.2.2⟩, by omega⟩
theorem known_index {x : S41} (hm : m41 x ≤ 1048576) : x.f3.length ≤ 1048576 ∧ x.f4.length ≤ 1048576 := by
  unfold m41 at hm
  rw [m38_len, m39_len] at hm
  omega
theorem map_small {l : List S58} (h : ∀ t ∈ l, Small t.f2) : ∀ t ∈ l.map toT, Small t.f2 := fun t ht => by
  obtain ⟨x, hx, rfl⟩ := List.mem_map.1 ht
  exact h x hx
end Go.Proofs.Ytmfenomjhmhogaa.Pure
end
section
namespace Go.Proofs.Ytmfenomjhmhogaa.Pure
set_option linter.unusedVariables false
set_option linter.unusedSimpArgs false
open Go.RowKit Go.Proofs.Ytmfenomjhmhogaa.P Go.Proofs.YtmfenomjhmhogaaW.PrintWords Go.Proofs.YtmfenomjhmhogaaW.PrintLast Go.Proofs.YtmfenomjhmhogaaW.PrintMore
theorem cmpI_zero {a b : Int} : cmpI a b = 0 ↔ a = b := by
  unfold cmpI
  by_cases h1 : a < b
  · rw [if_pos h1]; constructor <;> intro h <;> omega
  · rw [if_neg h1]
    by_cases h2 : b < a
    · rw [if_pos h2]; constructor <;> intro h <;> omega
    · rw [if_neg h2]; constructor <;> intro h <;> omega
theorem cmpB_zero : ∀ {a b : List UInt8}, Lib.compareBytes a b = 0 ↔ a = b
  | [], [] => by simp [Lib.compareBytes]
  | [], _ :: _ => by simp [Lib.compareBytes]
  | _ :: _, [] => by simp [Lib.compareBytes]
  | x :: a, y :: b => by
    unfold Lib.compareBytes
    by_cases h1 : x < y
    · rw [if_pos h1]
      constructor
      · intro h; exact absurd h (by decide)
      · intro h; injection h with h _; subst h; exact absurd h1 (UInt8.lt_irrefl x)
    · rw [if_neg h1]
      by_cases h2 : y < x
      · rw [if_pos h2]
        constructor
        · intro h; exact absurd h (by decide)
        · intro h; injection h with h _; subst h; exact absurd h2 (UInt8.lt_irrefl x)
      · rw [if_neg h2, cmpB_zero]
        have he : x = y := UInt8.le_antisymm (UInt8.not_lt.1 h2) (UInt8.not_lt.1 h1)
        subst he
        simp
theorem bytes_eq {s t : ByteArray} (h : s.data.toList = t.data.toList) : s = t := Go.WideShapes.bytes_inj h
theorem same_value {x y : S25} (hx : chk x = 0) (hy : chk y = 0) (h : cmpV x y = 0) : x = y := by
  have kx := chk_kind hx
  have ky := chk_kind hy
  unfold cmpV at h
  by_cases hk : x.f0 = y.f0
  · rw [if_pos hk] at h
    by_cases h1 : x.f0 = 1 ∨ x.f0 = 2
    · rw [if_pos h1, cmpI_zero] at h
      have tx : x.f2 = V0 := by rcases h1 with h1 | h1; exact (chk_one hx h1).2; exact chk_two hx h1
      have ty : y.f2 = V0 := by
        rw [hk] at h1
        rcases h1 with h1 | h1
        · exact (chk_one hy h1).2
        · exact chk_two hy h1
      cases x; cases y; simp only at hk h tx ty; subst hk; subst h; subst tx; subst ty; rfl
    · rw [if_neg h1] at h
      by_cases h3 : x.f0 = 3 ∨ x.f0 = 4
      · rw [if_pos h3] at h
        have tx := chk_text hx h3
        have ty := chk_text hy (by rw [← hk]; exact h3)
        have he := bytes_eq (cmpB_zero.1 h)
        cases x; cases y; simp only at hk tx ty he; subst hk; subst he; subst tx; subst ty; rfl
      · have h0 : x.f0 = 0 := by omega
        rw [chk_zero hx h0, chk_zero hy (by omega)]
  · rw [if_neg hk, cmpI_zero] at h
    exact absurd h hk
theorem same_row : ∀ (a b : List S25) (d : List Bool) (s : List Int), a.length = b.length → (∀ x ∈ a, chk x = 0 ∧ I64 x.f1) → (∀ x ∈ b, chk x = 0 ∧ I64 x.f1) → encA d b = encA d a ++ s → a = b
  | [], [], d, s, _, _, _, _ => rfl
  | [], y :: b, d, s, h, _, _, _ => by simp at h
  | x :: a, [], d, s, h, _, _, _ => by simp at h
  | x :: a, y :: b, d, s, h, ha, hb, he => by
    rw [encA, encA, List.append_assoc] at he
    have hx := ha x (by simp)
    have hy := hb y (by simp)
    have hD := diffT (d.headD false) hy.1 hx.1 hy.2 hx.2
    have h1 := hD.cmp (encA d.tail b) (encA d.tail a ++ s)
    rw [he, cmpL_self] at h1
    have hc : sgn (d.headD false) (cmpV y x) = 0 := by
      by_cases e : sgn (d.headD false) (cmpV y x) = 0
      · exact e
      · rw [if_neg e] at h1; exact h1.symm
    have hv : cmpV y x = 0 := by
      unfold sgn at hc
      split at hc <;> omega
    have e := same_value hy.1 hx.1 hv
    subst e
    have h2 := List.append_cancel_left he
    rw [same_row a b d.tail s (by simpa using h) (fun z hz => ha z (by simp [hz])) (fun z hz => hb z (by simp [hz])) h2]
theorem eqS (u s : S25) : (u.f0 == s.f0 && (u.f1 == s.f1 && (u.f2.toList == s.f2.toList))) = true ↔ u = s := by
  simp only [Bool.and_eq_true, beq_iff_eq]
  constructor
  · rintro ⟨h0, h1, h2⟩
    have := toList_inj h2
    cases u; cases s; simp only at h0 h1 this; subst h0; subst h1; subst this; rfl
  · rintro rfl; exact ⟨rfl, rfl, rfl⟩
def mkT (p : Int × S25) : S58 := ⟨p.1, 5, p.2⟩
theorem find_zip : ∀ (cs : List Int) (vs : List S25), cs.Nodup → ∀ (i : Nat) c v, cs[i]? = some c → vs[i]? = some v → (((cs.zip vs).map mkT).map toT).find? (isT c [5]) = some ⟨c, 5, v⟩
  | [], vs, _, i, c, v, h, _ => by simp at h
  | c0 :: cs, [], _, i, c, v, _, h => by simp at h
  | c0 :: cs, v0 :: vs, hn, i, c, v, hc, hv => by
    rw [List.nodup_cons] at hn
    cases i with
    | zero =>
      simp at hc hv
      subst hc; subst hv
      simp [List.find?, isT, mkT, toT]
    | succ i =>
      simp at hc hv
      have hne : ¬ c0 = c := fun e => hn.1 (by rw [e]; exact List.mem_of_getElem? hc)
      have := find_zip cs vs hn.2 i c v hc hv
      simp only [List.zip_cons_cons, List.map_cons, List.find?]
      have e : isT c [5] (toT (mkT (c0, v0))) = false := by simp [isT, mkT, toT, hne]
      rw [e]
      exact this
theorem use_point (L : List S69) : ∀ (cs : List Int) (vs acc : List S25), cs.length = vs.length → (∀ (i : Nat) c v, cs[i]? = some c → vs[i]? = some v → L.find? (isT c [5]) = some ⟨c, 5, v⟩) → useG L cs acc = (acc ++ vs, [], [])
  | [], [], acc, _, _ => by simp [useG]
  | [], v :: vs, acc, h, _ => by simp at h
  | c :: cs, [], acc, h, _ => by simp at h
  | c :: cs, v :: vs, acc, h, hf => by
    have h0 := hf 0 c v rfl rfl
    have e : firstT c [5] L = (⟨c, 5, v⟩, true) := by rw [firstT_is, h0]
    rw [useG, e, if_pos rfl, use_point L cs vs _ (by simpa using h) (fun i a b ha hb => hf (i + 1) a b (by simpa using ha) (by simpa using hb))]
    simp
theorem within {b c : List Int} (hb : BytesIn b) (hc : BytesIn c) : (if cmpL c b = -1 then false else if (!(nextB b).2) = true then true else decide (cmpL c (nextB b).1 = -1)) = b.isPrefixOf c := by
  by_cases ht : trim b = []
  · have h := all_255 b c (trim_nil ht) hc
    have hn : nextB b = ([], false) := by unfold nextB; rw [if_pos ht]
    rw [hn]
    simp only [Bool.not_false, if_true]
    by_cases e : cmpL c b = -1
    · rw [if_pos e]
      cases hp : b.isPrefixOf c with
      | true => exact absurd e (h.1 hp)
      | false => rfl
    · rw [if_neg e]; exact (h.2 e).symm
  · have h := begins_iff b c hb hc ht
    have hn : nextB b = (bump (trim b), true) := by unfold nextB; rw [if_neg ht]
    rw [hn]
    simp only [Bool.not_true, Bool.false_eq_true, if_false]
    by_cases e : cmpL c b = -1
    · rw [if_pos e]
      cases hp : b.isPrefixOf c with
      | true => exact absurd e (h.1 hp).1
      | false => rfl
    · rw [if_neg e]
      by_cases e2 : cmpL c (bump (trim b)) = -1
      · rw [decide_eq_true e2]; exact (h.2 ⟨e, e2⟩).symm
      · rw [decide_eq_false e2]
        cases hp : b.isPrefixOf c with
        | true => exact absurd (h.1 hp).2 e2
        | false => rfl
section
variable (x : S41) (vs rw_ : List S25)
theorem point_end (hv : ∀ v ∈ vs, Small v) (hr : ∀ v ∈ rw_, Small v) (hl1 : x.f3.length ≤ vs.length) (hl2 : x.f3.length ≤ rw_.length) (hn : x.f3.length ≤ 1048576) (hnd : x.f3.Nodup)
    (hcv : ∀ v ∈ vs.take x.f3.length, chk v = 0) (hcr : ∀ v ∈ rw_.take x.f3.length, chk v = 0) (s : Bool) (hs : s = true ↔ vs.take x.f3.length = rw_.take x.f3.length) :
    Ev (fun k => quarrylaw19_BoundsPoint.l0 k vs rw_ ((x.f3.zip (vs.take x.f3.length)).map mkT) s (x.f3.length : Int) x.f0 x.f1 x.f2 x.f3 x.f4 x.f5) true := by
  have hlt : (vs.take x.f3.length).length = x.f3.length := by rw [List.length_take]; omega
  have hlr : (rw_.take x.f3.length).length = x.f3.length := by rw [List.length_take]; omega
  have hsv : ∀ v ∈ vs.take x.f3.length, Small v := fun v h => hv v (List.mem_of_mem_take h)
  have hsr : ∀ v ∈ rw_.take x.f3.length, Small v := fun v h => hr v (List.mem_of_mem_take h)
  have hu := use_point (((x.f3.zip (vs.take x.f3.length)).map mkT).map toT) x.f3 (vs.take x.f3.length) [] (by omega) (find_zip x.f3 _ hnd)
  rw [List.nil_append] at hu
  have hR : rangeP x.f3 x.f4 (((x.f3.zip (vs.take x.f3.length)).map mkT).map toT) = (encA x.f4 (vs.take x.f3.length), (nextB (encA x.f4 (vs.take x.f3.length))).1, !(nextB (encA x.f4 (vs.take x.f3.length))).2) := by
    unfold rangeP
    rw [hu]
    simp only [ite_self]
    unfold rangeG lowP highP
    rw [encR_all hcv]
  have hek := encR_all (d := x.f4) hcr
  have hroom := room_small _ hsr
  have hlen := encR_len x.f4 (rw_.take x.f3.length)
  refine Ev.succ ?_
  have e1 : ¬ ((x.f3.length : Int) < (x.f3.length : Int)) := by omega
  refine Ev.of_eq ?_ (fun k => by rw [quarrylaw19_BoundsPoint.l0, if_neg e1])
  have hzl : ((x.f3.zip (vs.take x.f3.length)).map mkT).length = x.f3.length := by rw [List.length_map, List.length_zip]; omega
  refine Ev.bind (its_ev _ (by rw [hzl]; omega)) ?_
  refine Ev.bind (range_ev x.f0 x.f1 x.f2 x.f3 x.f4 x.f5 (map_small (fun t ht => by
    obtain ⟨p, hp, rfl⟩ := List.mem_map.1 ht
    exact hsv _ (List.of_mem_zip hp).2)) hn) ?_
  rw [hR]
  refine Ev.pos (by omega) (Ev.pos (by omega) ?_)
  rw [Int.toNat_natCast]
  unfold quarrylaw19_key.f
  refine Ev.bind (Ev.bind (ref_encode_ev _ x.f4 (fun v hv' => (hsr v hv').1) (by rw [hlr]; omega) (by rw [hlr] at hroom; omega)) (Ev.pure _)) ?_
  rw [hek]
  have b1 := encA_bytes (vs.take x.f3.length) x.f4
  have b2 := encA_bytes (rw_.take x.f3.length) x.f4
  rw [less_is b2 b1, less_is b2 (next_range b1)]
  have hw := within b1 b2
  have hpre : (encA x.f4 (vs.take x.f3.length)).isPrefixOf (encA x.f4 (rw_.take x.f3.length)) = s := by
    cases hsb : s with
    | true =>
      rw [hs.1 hsb]
      have := prefix_append (encA x.f4 (rw_.take x.f3.length)) []
      rwa [List.append_nil] at this
    | false =>
      cases hp : (encA x.f4 (vs.take x.f3.length)).isPrefixOf (encA x.f4 (rw_.take x.f3.length)) with
      | false => rfl
      | true =>
        obtain ⟨t, ht⟩ := List.isPrefixOf_iff_prefix.1 hp
        have := same_row _ _ x.f4 t (by omega) (fun v hv' => ⟨hcv v hv', (hsv v hv').1.2.1⟩) (fun v hv' => ⟨hcr v hv', (hsr v hv').1.2.1⟩) ht.symm
        rw [hs.2 this] at hsb
        cases hsb
  rw [hpre] at hw
  by_cases c1 : cmpL (encA x.f4 (rw_.take x.f3.length)) (encA x.f4 (vs.take x.f3.length)) = -1
  · rw [if_pos c1] at hw
    refine Ev.pos (decide_eq_true c1) ?_
    rw [← hw]
    exact Ev.pure _
  · rw [if_neg c1] at hw
    refine Ev.neg (by rw [decide_eq_false c1]; decide) ?_
    by_cases c2 : (!(nextB (encA x.f4 (vs.take x.f3.length))).2) = true
    · rw [if_pos c2] at hw
      refine Ev.pos c2 ?_
      rw [← hw]
      exact Ev.pure _
    · rw [if_neg c2] at hw
      refine Ev.neg c2 ?_
      rw [← hw, BEq.rfl]
      exact Ev.pure _
theorem take_succ_get {l : List S25} {i : Nat} (h : i < l.length) : l.take (i + 1) = l.take i ++ [rd_T25 l (i : Int)] := by
  rw [List.take_add_one, List.getElem?_eq_getElem h]
  simp [rd_T25, List.getD_eq_getElem?_getD, List.getElem?_eq_getElem h]
theorem l1_ev (acc : List S58) (s : Bool) (suf pre : List Int) (c : Int) (hx : x.f3 = pre ++ c :: suf) (hn : x.f3.length ≤ 1048576)
    (h : c ∉ pre → Ev (fun k => quarrylaw19_BoundsPoint.l1 k vs rw_ acc s (pre.length : Int) (pre.length : Int) x.f0 x.f1 x.f2 x.f3 x.f4 x.f5) true) :
    ∀ (s2 p2 : List Int), pre = p2 ++ s2 → c ∉ p2 → Ev (fun k => quarrylaw19_BoundsPoint.l1 k vs rw_ acc s (pre.length : Int) (p2.length : Int) x.f0 x.f1 x.f2 x.f3 x.f4 x.f5) true := by
  intro s2
  induction s2 with
  | nil =>
    intro p2 hp hc
    rw [List.append_nil] at hp
    rw [← hp] at hc ⊢
    exact h hc
  | cons e s2 ih =>
    intro p2 hp hc
    have l1 : (p2.length : Int) < (pre.length : Int) := by rw [hp]; simp; omega
    have l2 : (pre.length : Int) < (x.f3.length : Int) := by rw [hx]; simp; omega
    have e6 : wrap64 ((p2.length : Int) + 1) = (p2.length : Int) + 1 := wrap64_in (by omega) (by omega)
    have g1 : rd x.f3 (p2.length : Int) = e := by rw [hx, hp, List.append_assoc]; exact rd_pre p2 _ e
    have g2 : rd x.f3 (pre.length : Int) = c := by rw [hx]; exact rd_pre pre suf c
    refine Ev.succ ?_
    refine Ev.of_eq ?_ (fun k => by rw [quarrylaw19_BoundsPoint.l1, if_pos l1, if_pos (by omega), if_pos (by omega), if_pos (by omega), if_pos l2, g1, g2, e6])
    by_cases he : e = c
    · exact Ev.pos he (Ev.pure _)
    · refine Ev.neg he ?_
      have := ih (p2 ++ [e]) (by rw [hp]; simp) (by simp [hc]; exact fun h => he h.symm)
      simpa using this
theorem l0_ev (hv : ∀ v ∈ vs, Small v) (hr : ∀ v ∈ rw_, Small v) (hl1 : x.f3.length ≤ vs.length) (hl2 : x.f3.length ≤ rw_.length) (hn : x.f3.length ≤ 1048576) : ∀ (suf pre : List Int) (s : Bool), x.f3 = pre ++ suf → pre.Nodup →
    (∀ v ∈ vs.take pre.length, chk v = 0) → (∀ v ∈ rw_.take pre.length, chk v = 0) → (s = true ↔ vs.take pre.length = rw_.take pre.length) →
    Ev (fun k => quarrylaw19_BoundsPoint.l0 k vs rw_ ((pre.zip (vs.take pre.length)).map mkT) s (pre.length : Int) x.f0 x.f1 x.f2 x.f3 x.f4 x.f5) true := by
  intro suf
  induction suf with
  | nil =>
    intro pre s hx hnd h1 h2 hs
    rw [List.append_nil] at hx
    rw [← hx] at hnd h1 h2 hs ⊢
    exact point_end x vs rw_ hv hr hl1 hl2 hn hnd h1 h2 s hs
  | cons c suf ih =>
    intro pre s hx hnd h1 h2 hs
    have lx : pre.length < x.f3.length := by rw [hx]; simp
    have e1 : (pre.length : Int) < (x.f3.length : Int) := by omega
    have e6 : wrap64 ((pre.length : Int) + 1) = (pre.length : Int) + 1 := wrap64_in (by omega) (by omega)
    have g2 : rd x.f3 (pre.length : Int) = c := by rw [hx]; exact rd_pre pre suf c
    refine Ev.succ ?_
    refine Ev.of_eq ?_ (fun k => by rw [quarrylaw19_BoundsPoint.l0, if_pos e1])
    refine l1_ev x vs rw_ _ s suf pre c hx hn (fun hc => ?_) pre [] rfl (by simp)
    refine Ev.succ ?_
    have a0 : (0 : Int) ≤ (pre.length : Int) := by omega
    have a1 : (pre.length : Int) < (vs.length : Int) := by omega
    have a2 : (pre.length : Int) < (rw_.length : Int) := by omega
    have a3 : ((pre.zip (vs.take pre.length)).map mkT).length < 2932031007402 := by rw [List.length_map, List.length_zip]; omega
    refine Ev.of_eq ?_ (fun k => by rw [quarrylaw19_BoundsPoint.l1, if_neg (by omega), if_pos a0, if_pos a1, ref_check_f, Option.bind_some, e6, g2])
    have hmv : rd_T25 vs (pre.length : Int) ∈ vs := by
      unfold rd_T25
      rw [Int.toNat_natCast, List.getD_eq_getElem?_getD, List.getElem?_eq_getElem (by omega)]
      exact List.getElem_mem _
    by_cases c1 : chk (rd_T25 vs (pre.length : Int)) = 0
    case neg => exact Ev.neg c1 (Ev.pure _)
    refine Ev.pos c1 ?_
    by_cases c2 : (rd_T25 vs (pre.length : Int)).f0 = 0
    · exact Ev.pos c2 (Ev.pure _)
    refine Ev.neg c2 (Ev.pos a2 ?_)
    refine Ev.of_eq ?_ (fun k => by rw [ref_check_f, Option.bind_some])
    by_cases c3 : chk (rd_T25 rw_ (pre.length : Int)) = 0
    case neg => exact Ev.neg c3 (Ev.pure _)
    refine Ev.pos c3 ?_
    have tv := take_succ_get (l := vs) (i := pre.length) (by omega)
    have tr := take_succ_get (l := rw_) (i := pre.length) (by omega)
    have hlz : pre.length = (vs.take pre.length).length := by rw [List.length_take]; omega
    have hz : ((pre ++ [c]).zip (vs.take (pre.length + 1))).map mkT = (pre.zip (vs.take pre.length)).map mkT ++ [⟨c, 5, ⟨(rd_T25 vs (pre.length : Int)).f0, (rd_T25 vs (pre.length : Int)).f1, (rd_T25 vs (pre.length : Int)).f2⟩⟩] := by
      rw [tv, List.zip_append hlz]
      simp [mkT]
    have hnd2 : (pre ++ [c]).Nodup := by
      rw [List.nodup_append]
      exact ⟨hnd, by simp, fun a ha b hb => by simp at hb; subst hb; rintro rfl; exact hc ha⟩
    have go : ∀ s', (s' = true ↔ vs.take (pre.length + 1) = rw_.take (pre.length + 1)) → Ev (fun k => quarrylaw19_BoundsPoint.l0 k vs rw_ ((pre.zip (vs.take pre.length)).map mkT ++ [⟨c, 5, ⟨(rd_T25 vs (pre.length : Int)).f0, (rd_T25 vs (pre.length : Int)).f1, (rd_T25 vs (pre.length : Int)).f2⟩⟩]) s' ((pre.length : Int) + 1) x.f0 x.f1 x.f2 x.f3 x.f4 x.f5) true := by
      intro s' hs'
      have := ih (pre ++ [c]) s' (by rw [hx]; simp) hnd2 (by
        rw [List.length_append, List.length_singleton, tv]
        intro v hv'
        rcases List.mem_append.1 hv' with h | h
        · exact h1 v h
        · simp at h; subst h; exact c1) (by
        rw [List.length_append, List.length_singleton, tr]
        intro v hv'
        rcases List.mem_append.1 hv' with h | h
        · exact h2 v h
        · simp at h; subst h; exact c3) (by rw [List.length_append, List.length_singleton]; exact hs')
      rw [List.length_append, List.length_singleton, hz] at this
      simpa using this
    have hstep : vs.take (pre.length + 1) = rw_.take (pre.length + 1) ↔ (vs.take pre.length = rw_.take pre.length ∧ rd_T25 vs (pre.length : Int) = rd_T25 rw_ (pre.length : Int)) := by
      rw [tv, tr]
      constructor
      · intro h
        have h3 := List.append_inj h (by rw [List.length_take, List.length_take]; omega)
        exact ⟨h3.1, by simpa using h3.2⟩
      · rintro ⟨h3, h4⟩; rw [h3, h4]
    cases s with
    | true =>
      refine Ev.pos rfl (Ev.pos e1 (Ev.pos a3 ?_))
      refine go _ ?_
      rw [eqS, hstep]
      exact ⟨fun h => ⟨hs.1 rfl, h⟩, fun h => h.2⟩
    | false =>
      refine Ev.neg (by decide) (Ev.pos e1 (Ev.pos a3 ?_))
      refine go _ ?_
      rw [hstep]
      exact ⟨fun h => absurd h (by decide), fun h => absurd (hs.2 h.1) (by decide)⟩
end
theorem BoundsPoint : ∀ (x0 : S41) (l1 : List (S25)) (l2 : List (S25)), G41 x0 → G52 l1 → G52 l2 → m41 x0 + m52 l1 + m52 l2 ≤ 1048576 → ∃ k, quarrylaw19_BoundsPoint.f k (x0.f0) (x0.f1) (x0.f2) (x0.f3) (x0.f4) (x0.f5) l1 l2 = some true := by
  intro x0 l1 l2 g0 g1 g2 hm
  obtain ⟨s1, s2⟩ := known_values g1 (by omega)
  obtain ⟨s3, s4⟩ := known_values g2 (by omega)
  obtain ⟨s5, s6⟩ := known_index (x := x0) (by omega)
  have stop : Ev (fun k => quarrylaw19_BoundsPoint.j0 k l1 l2 true x0.f0 x0.f1 x0.f2 x0.f3 x0.f4 x0.f5) true := Ev.succ ((Ev.pure _).of_eq fun k => by rw [quarrylaw19_BoundsPoint.j0, if_pos rfl])
  apply Ev.get
  unfold quarrylaw19_BoundsPoint.f
  refine Ev.bind works_ev ?_
  refine Ev.pos rfl ?_
  by_cases h1 : (l1.length : Int) < (x0.f3.length : Int)
  · exact Ev.pos h1 stop
  refine Ev.neg h1 ?_
  by_cases h2 : (x0.f4.length : Int) = (x0.f3.length : Int)
  case neg => exact Ev.neg h2 stop
  refine Ev.pos h2 ?_
  by_cases h3 : (x0.f3.length : Int) = 0
  · exact Ev.pos h3 stop
  refine Ev.neg h3 ?_
  by_cases h4 : (l2.length : Int) < (x0.f3.length : Int)
  · rw [decide_eq_true h4]; exact stop
  · rw [decide_eq_false h4]
    refine Ev.succ (Ev.of_eq ?_ (fun k => by rw [quarrylaw19_BoundsPoint.j0, if_neg (by decide)]))
    exact l0_ev x0 l1 l2 s1 s3 (by omega) (by omega) s5 x0.f3 [] true rfl (by simp) (by simp) (by simp) (by simp)
end Go.Proofs.Ytmfenomjhmhogaa.Pure
end
