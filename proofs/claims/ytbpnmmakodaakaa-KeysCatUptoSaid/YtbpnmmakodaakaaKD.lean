/- Reading: what a reader with turned bits reads is what is read of the turned bytes; what was written is read again, and only that. No condition. -/
import Derived.Test.YtbpnmmakodaakaaKP
namespace Go.Proofs.Ytbpnmmakodaakaa.Pure
set_option linter.unusedVariables false
set_option linter.unusedSimpArgs false
open Go.RowKit Go.Proofs.Ytbpnmmakodaakaa.P Go.Proofs.YtbpnmmakodaakaaW.PrintWords Go.Proofs.YtbpnmmakodaakaaW.PrintLast Go.Proofs.YtbpnmmakodaakaaW.PrintMore

theorem tx_zero {c : Int} (h0 : 0 ≤ c) (h1 : c ≤ 255) : tx 0 c = c := by
  obtain ⟨m, rfl⟩ := Int.eq_ofNat_of_zero_le h0
  have hm : m < 256 := by omega
  have h4 : ∀ m : Fin 256, tx 0 ((m.val : Nat) : Int) = ((m.val : Nat) : Int) := by decide +kernel
  exact h4 ⟨m, hm⟩
theorem tx_all {c : Int} (h0 : 0 ≤ c) (h1 : c ≤ 255) : tx 255 c = 255 - c := by
  obtain ⟨m, rfl⟩ := Int.eq_ofNat_of_zero_le h0
  have hm : m < 256 := by omega
  have h4 : ∀ m : Fin 256, tx 255 ((m.val : Nat) : Int) = 255 - ((m.val : Nat) : Int) := by decide +kernel
  exact h4 ⟨m, hm⟩
def tB (b : Bool) : Int := if b = true then 255 else 0
theorem map_tx (b : Bool) {l : List Int} (h : BytesIn l) : l.map (tx (tB b)) = turnB b l := by
  unfold turnB tB flipL
  cases b with
  | false =>
    simp only [Bool.false_eq_true, if_false]
    conv => rhs; rw [← List.map_id l]
    exact List.map_congr_left fun x hx => tx_zero (h x hx).1 (h x hx).2
  | true =>
    simp only [if_true]
    exact List.map_congr_left fun x hx => tx_all (h x hx).1 (h x hx).2
theorem turnB_twice (b : Bool) {l : List Int} : turnB b (turnB b l) = l := by
  unfold turnB flipL
  cases b
  · rfl
  · simp only [if_true, List.map_map]
    conv => rhs; rw [← List.map_id l]
    exact List.map_congr_left fun x hx => by simp; omega
theorem tx_tx (T c : Int) : tx 0 (tx T c) = tx T c := tx_zero (tx_range T c).1 (tx_range T c).2

/-! ### The turned bytes -/
def mapE (T : Int) {α : Type} : Except Int (α × List Int) → Except Int (α × List Int)
  | .error c => .error c
  | .ok (v, t) => .ok (v, t.map (tx T))
theorem text_map (T : Int) : ∀ (l acc : List Int), r_text 0 acc (l.map (tx T)) = mapE T (r_text T acc l)
  | [], acc => rfl
  | [c], acc => rfl
  | c :: d :: u, acc => by
    simp only [List.map_cons]
    rw [r_text, r_text, tx_tx, tx_tx]
    split
    · split
      · rfl
      · split
        · exact text_map T u _
        · rfl
    · have := text_map T (d :: u) (acc ++ [tx T c])
      simpa using this
theorem num_map (T : Int) : ∀ (l : List Int) (n : Int), r_num 0 n (l.map (tx T)) = r_num T n l := by
  intro l
  induction l with
  | nil => intro n; rfl
  | cons c l ih =>
    intro n
    show r_num 0 (n * 256 + tx 0 (tx T c)) (l.map (tx T)) = r_num T (n * 256 + tx T c) l
    rw [tx_tx, ih]
theorem val_map (T : Int) (l : List Int) : r_val 0 (l.map (tx T)) = mapE T (r_val T l) := by
  cases l with
  | nil => rfl
  | cons k l =>
    simp only [List.map_cons, r_val, tx_tx]
    generalize tx T k = v
    by_cases e1 : v = 1
    · rw [if_pos e1, if_pos e1]; rfl
    rw [if_neg e1, if_neg e1]
    by_cases e2 : v = 2
    · rw [if_pos e2, if_pos e2]
      cases l with
      | nil => rfl
      | cons c l =>
        simp only [List.map_cons, tx_tx]
        by_cases e : 1 < tx T c
        · rw [if_pos e, if_pos e]; rfl
        · rw [if_neg e, if_neg e]; rfl
    rw [if_neg e2, if_neg e2]
    by_cases e3 : v = 3
    · rw [if_pos e3, if_pos e3]
      simp only [List.length_map]
      by_cases e : l.length < 8
      · rw [if_pos e, if_pos e]; rfl
      · rw [if_neg e, if_neg e, ← List.map_take, num_map, ← List.map_drop]; rfl
    rw [if_neg e3, if_neg e3]
    by_cases e4 : v = 4 ∨ v = 5
    · rw [if_pos e4, if_pos e4, text_map]
      cases r_text T [] l with
      | error c => rfl
      | ok p => rfl
    · rw [if_neg e4, if_neg e4]; rfl
/-! ### What is left is the list's end -/
theorem text_suffix (T : Int) : ∀ (l acc : List Int) {s : ByteArray} {t : List Int}, r_text T acc l = .ok (s, t) → ∃ p, l = p ++ t
  | [], acc, s, t, h => by simp [r_text] at h
  | [c], acc, s, t, h => by simp [r_text] at h
  | c :: d :: u, acc, s, t, h => by
    rw [r_text] at h
    split at h
    · split at h
      · simp only [Except.ok.injEq, Prod.mk.injEq] at h
        obtain ⟨_, rfl⟩ := h
        exact ⟨[c, d], rfl⟩
      · split at h
        · obtain ⟨p, rfl⟩ := text_suffix T u _ h
          exact ⟨c :: d :: p, rfl⟩
        · cases h
    · obtain ⟨p, hp⟩ := text_suffix T (d :: u) _ h
      exact ⟨c :: p, by rw [hp]; rfl⟩
theorem val_suffix (T : Int) {l t : List Int} {x : S43} (h : r_val T l = .ok (x, t)) : ∃ p, l = p ++ t := by
  cases l with
  | nil => simp [r_val] at h
  | cons k l =>
    simp only [r_val] at h
    by_cases e1 : tx T k = 1
    · rw [if_pos e1] at h
      simp only [Except.ok.injEq, Prod.mk.injEq] at h
      obtain ⟨_, rfl⟩ := h
      exact ⟨[k], rfl⟩
    rw [if_neg e1] at h
    by_cases e2 : tx T k = 2
    · rw [if_pos e2] at h
      cases l with
      | nil => simp at h
      | cons c l =>
        by_cases e : 1 < tx T c
        · simp [e] at h
        · simp only [if_neg e, Except.ok.injEq, Prod.mk.injEq] at h
          obtain ⟨_, rfl⟩ := h
          exact ⟨[k, c], rfl⟩
    rw [if_neg e2] at h
    by_cases e3 : tx T k = 3
    · rw [if_pos e3] at h
      by_cases e8 : l.length < 8
      · rw [if_pos e8] at h; cases h
      · rw [if_neg e8] at h
        simp only [Except.ok.injEq, Prod.mk.injEq] at h
        obtain ⟨_, rfl⟩ := h
        exact ⟨k :: l.take 8, by rw [List.cons_append, List.take_append_drop]⟩
    rw [if_neg e3] at h
    by_cases e4 : tx T k = 4 ∨ tx T k = 5
    · rw [if_pos e4] at h
      cases hn : r_text T [] l with
      | error c => simp [hn] at h
      | ok p =>
        obtain ⟨s, t2⟩ := p
        obtain ⟨p, hp⟩ := text_suffix T l [] hn
        simp only [hn, Except.ok.injEq, Prod.mk.injEq] at h
        obtain ⟨_, rfl⟩ := h
        exact ⟨k :: p, by rw [hp]; rfl⟩
    · rw [if_neg e4] at h
      cases h
theorem suffix_drop {l p t : List Int} (h : l = p ++ t) : l.drop (l.length - t.length) = t := by
  subst h
  simp

/-! ### What was written is read -/
def nums (l : List UInt8) : List Int := l.map fun c => (c.toNat : Int)
theorem strOf_nums (s : ByteArray) : strOfNums (nums s.data.toList) = s := by
  refine toList_inj ?_
  rw [Go.ByteArray.toList_eq, Go.ByteArray.toList_eq]
  show (s.data.toList.map fun c => (c.toNat : Int)).map (fun n => UInt8.ofNat n.toNat) = s.data.toList
  rw [List.map_map]
  conv => rhs; rw [← List.map_id s.data.toList]
  exact List.map_congr_left fun x _ => by simp
theorem text_read : ∀ (a : List UInt8) (acc s : List Int), r_text 0 acc ((esc a ++ [0, 1]) ++ s) = .ok (strOfNums (acc ++ nums a), s)
  | [], acc, s => by
    show r_text 0 acc (0 :: 1 :: s) = _
    rw [r_text, if_pos (by decide), if_pos (by decide)]
    simp [nums]
  | c :: a, acc, s => by
    have hb := c.toNat_lt
    by_cases hc : c = 0
    · rw [esc, if_pos hc]
      show r_text 0 acc (0 :: 255 :: ((esc a ++ [0, 1]) ++ s)) = _
      rw [r_text, if_pos (by decide), if_neg (by decide), if_pos (by decide), text_read a]
      subst hc
      simp [nums]
    · rw [esc, if_neg hc]
      have hz : ¬ (c.toNat : Int) = 0 := fun h => hc (UInt8.toNat_inj.1 (by show c.toNat = 0; omega))
      have ht : tx 0 (c.toNat : Int) = (c.toNat : Int) := tx_zero (by omega) (by omega)
      obtain ⟨d, u, hdu⟩ : ∃ d u, (esc a ++ [0, 1]) ++ s = d :: u := by
        cases he : (esc a ++ [0, 1]) ++ s with
        | nil => simp at he
        | cons d u => exact ⟨d, u, rfl⟩
      show r_text 0 acc ((c.toNat : Int) :: ((esc a ++ [0, 1]) ++ s)) = _
      have ih := text_read a (acc ++ [(c.toNat : Int)]) s
      rw [hdu] at ih ⊢
      rw [r_text, ht, if_neg hz, ih]
      simp [nums]
theorem num_be : ∀ (k : Nat) (n a : Int), 0 ≤ n → n < 256 ^ k → r_num 0 a (be k n) = a * 256 ^ k + n := by
  intro k
  induction k with
  | zero => intro n a h0 h1; simp only [Int.pow_zero] at h1; have : n = 0 := by omega
            subst this; simp [r_num, be]
  | succ k ih =>
    intro n a h0 h1
    have hp : (0 : Int) < 256 ^ k := Int.pow_pos (by decide)
    rw [Int.pow_succ] at h1
    have hq1 : n / 256 ^ k < 256 := Int.ediv_lt_of_lt_mul hp (by omega)
    have hq0 : 0 ≤ n / 256 ^ k := Int.ediv_nonneg h0 (by omega)
    have em := Int.mul_ediv_add_emod n (256 ^ k)
    have r0 := Int.emod_nonneg n (show (256 : Int) ^ k ≠ 0 by omega)
    have r1 := Int.emod_lt_of_pos n hp
    simp only [be]
    show r_num 0 (a * 256 + tx 0 (n / 256 ^ k % 256)) (be k n) = _
    rw [Int.emod_eq_of_lt hq0 hq1, tx_zero hq0 (by omega)]
    have hbm : be k (n % 256 ^ k) = be k n := by
      have key : ∀ (K j : Nat) (n : Int), j ≤ K → be j (n % 256 ^ K) = be j n := by
        intro K j
        induction j with
        | zero => intro n _; rfl
        | succ j ihj =>
          intro n hj
          simp only [be]
          rw [ihj n (by omega)]
          congr 1
          obtain ⟨i, rfl⟩ : ∃ i, K = j + 1 + i := ⟨K - (j + 1), by omega⟩
          have hp : (0 : Int) < 256 ^ j := Int.pow_pos (by decide)
          have e : (256 : Int) ^ (j + 1 + i) = 256 ^ j * (256 * 256 ^ i) := by rw [Int.pow_add, Int.pow_add, Int.pow_one, Int.mul_assoc]
          have h1 : n % 256 ^ (j + 1 + i) = n - 256 ^ j * (256 * 256 ^ i * (n / (256 ^ (j + 1 + i)))) := by
            rw [Int.emod_def]
            generalize n / 256 ^ (j + 1 + i) = q
            rw [e, Int.mul_assoc]
          rw [h1]
          have h2 : n - 256 ^ j * (256 * 256 ^ i * (n / (256 ^ (j + 1 + i)))) = n + 256 ^ j * (-(256 * 256 ^ i * (n / (256 ^ (j + 1 + i))))) := by rw [Int.mul_neg]; omega
          rw [h2, Int.add_mul_ediv_left _ _ (by omega)]
          have h3 : -(256 * 256 ^ i * (n / (256 ^ (j + 1 + i)))) = 256 * (-(256 ^ i * (n / (256 ^ (j + 1 + i))))) := by rw [Int.mul_neg, Int.mul_assoc]
          rw [h3, Int.add_mul_emod_self_left]
      exact key k k n (Nat.le_refl _)
    rw [← hbm, ih (n % 256 ^ k) _ r0 r1, Int.pow_succ]
    generalize hP : (256 : Int) ^ k = P at *
    generalize hq : n / P = q at *
    rw [Int.add_mul]
    have e1 : a * 256 * P = a * (P * 256) := by rw [Int.mul_assoc, Int.mul_comm 256 P]
    have e2 : q * P = P * q := Int.mul_comm _ _
    rw [e1, e2]
    omega
theorem read_encB {x : S43} (hc : chk x = 0) (hi : I64 x.f1) (s : List Int) : r_val 0 (encB x ++ s) = .ok (x, s) := by
  have hk := chk_kind hc
  have hm : (x.f0 + 1) % 256 = x.f0 + 1 := by omega
  have ht : tx 0 (x.f0 + 1) = x.f0 + 1 := tx_zero (by omega) (by omega)
  unfold encB
  rw [hm]
  show r_val 0 ((x.f0 + 1) :: (payload x ++ s)) = _
  simp only [r_val, ht]
  unfold payload
  by_cases h0 : x.f0 = 0
  · have := chk_zero hc h0
    simp [h0]
    exact this.symm
  by_cases h1 : x.f0 = 1
  · obtain ⟨a, b⟩ := chk_one hc h1
    have e : x.f1 % 256 = x.f1 := by omega
    have e2 : tx 0 x.f1 = x.f1 := tx_zero (by omega) (by omega)
    have e3 : ¬ 1 < x.f1 := by omega
    simp only [h1, if_true]
    rw [if_neg (by decide), if_pos (by decide)]
    simp only [List.cons_append, List.nil_append, e, e2, e3, if_false]
    rw [← b, ← h1]
  by_cases h2 : x.f0 = 2
  · have b := chk_two hc h2
    obtain ⟨i0, i1⟩ := hi
    have hl : ¬ (be 8 (x.f1 + 9223372036854775808) ++ s).length < 8 := by rw [List.length_append, be_length]; omega
    have h12 : ¬ (2 : Int) = 1 := by decide
    simp only [h2, h12, if_false, if_true]
    have h256 : (256 : Int) ^ 8 = 18446744073709551616 := by decide
    have hlt : x.f1 + 9223372036854775808 < 256 ^ 8 := by rw [h256]; omega
    rw [if_neg (by decide), if_neg (by decide), if_pos (by decide), if_neg hl, List.take_left' (be_length 8 _), List.drop_left' (be_length 8 _), num_be 8 _ 0 (by omega) hlt]
    have e : (0 : Int) * 256 ^ 8 + (x.f1 + 9223372036854775808) - 9223372036854775808 = x.f1 := by omega
    rw [e, ← b, ← h2]
  have h3 : x.f0 = 3 ∨ x.f0 = 4 := by omega
  have b := chk_text hc h3
  rw [if_neg (by omega), if_neg (by omega), if_neg (by omega), if_pos (by omega), if_neg h1, if_neg h2, if_pos h3, text_read]
  simp only [List.nil_append, strOf_nums]
  have e : x.f0 + 1 - 1 = x.f0 := by omega
  rw [e, ← b]
/-! ### What is read was written -/
theorem text_back : ∀ (l acc : List Int), BytesIn l → ∀ {s : ByteArray} {t : List Int}, r_text 0 acc l = .ok (s, t) → ∃ a : List UInt8, l = (esc a ++ [0, 1]) ++ t ∧ s = strOfNums (acc ++ nums a)
  | [], acc, _, s, t, h => by simp [r_text] at h
  | [c], acc, _, s, t, h => by simp [r_text] at h
  | c :: d :: u, acc, hb, s, t, h => by
    have hc := hb c (by simp)
    have hd := hb d (by simp)
    rw [r_text, tx_zero hc.1 hc.2, tx_zero hd.1 hd.2] at h
    split at h
    · rename_i h0
      split at h
      · rename_i h1
        simp only [Except.ok.injEq, Prod.mk.injEq] at h
        obtain ⟨rfl, rfl⟩ := h
        exact ⟨[], by rw [h0, h1]; rfl, by simp [nums]⟩
      · split at h
        · rename_i h255
          obtain ⟨a, ha, hs⟩ := text_back u _ (fun x hx => hb x (by simp [hx])) h
          refine ⟨0 :: a, ?_, ?_⟩
          · rw [h0, h255, ha, esc, if_pos rfl]; rfl
          · rw [hs]; simp [nums]
        · cases h
    · rename_i h0
      obtain ⟨a, ha, hs⟩ := text_back (d :: u) _ (fun x hx => hb x (List.mem_cons_of_mem _ hx)) h
      have hn : ((UInt8.ofNat c.toNat).toNat : Int) = c := by
        have : (UInt8.ofNat c.toNat).toNat = c.toNat % 256 := by simp
        rw [this]
        omega
      refine ⟨UInt8.ofNat c.toNat :: a, ?_, ?_⟩
      · have hz : ¬ UInt8.ofNat c.toNat = 0 := by
          intro e
          rw [e] at hn
          exact h0 hn.symm
        rw [esc, if_neg hz, hn, ha]; rfl
      · rw [hs]
        unfold nums
        rw [List.map_cons, hn, List.append_assoc]
        rfl
theorem be_num : ∀ (l : List Int), BytesIn l → ∀ (a : Int), 0 ≤ a → be l.length (r_num 0 a l) = l := by
  have key : ∀ (l : List Int), BytesIn l → ∀ a : Int, r_num 0 a l = a * 256 ^ l.length + r_num 0 0 l ∧ 0 ≤ r_num 0 0 l ∧ r_num 0 0 l < 256 ^ l.length := by
    intro l
    induction l with
    | nil => intro _ a; exact ⟨by simp [r_num], Int.le_refl _, by simp [r_num]⟩
    | cons c l ih =>
      intro hb a
      have hc := hb c (by simp)
      have h1 := ih (fun x hx => hb x (by simp [hx])) (a * 256 + c)
      have h2 := ih (fun x hx => hb x (by simp [hx])) c
      have e1 : r_num 0 a (c :: l) = r_num 0 (a * 256 + c) l := by show r_num 0 (a * 256 + tx 0 c) l = _; rw [tx_zero hc.1 hc.2]
      have e2 : r_num 0 0 (c :: l) = r_num 0 c l := by show r_num 0 (0 * 256 + tx 0 c) l = _; rw [tx_zero hc.1 hc.2]; congr 1; omega
      rw [e1, e2, h1.1, h2.1, List.length_cons, Int.pow_succ]
      have hp : (0 : Int) < 256 ^ l.length := Int.pow_pos (by decide)
      generalize (256 : Int) ^ l.length = P at *
      have hm : c * P ≤ 255 * P := Int.mul_le_mul_of_nonneg_right hc.2 (by omega)
      have hm0 : 0 ≤ c * P := Int.mul_nonneg hc.1 (by omega)
      refine ⟨?_, by omega, by omega⟩
      rw [Int.add_mul, Int.mul_assoc, Int.mul_comm 256 P]
      omega
  intro l
  induction l with
  | nil => intro _ a _; rfl
  | cons c l ih =>
    intro hb a ha
    have hc := hb c (by simp)
    have hl : BytesIn l := fun x hx => hb x (by simp [hx])
    have e1 : r_num 0 a (c :: l) = r_num 0 (a * 256 + c) l := by show r_num 0 (a * 256 + tx 0 c) l = _; rw [tx_zero hc.1 hc.2]
    rw [e1, List.length_cons]
    simp only [be]
    rw [ih hl _ (by omega)]
    congr 1
    obtain ⟨k1, k2, k3⟩ := key l hl (a * 256 + c)
    have hp : (0 : Int) < 256 ^ l.length := Int.pow_pos (by decide)
    rw [k1, Int.add_comm, Int.add_mul_ediv_right _ _ (by omega), Int.ediv_eq_zero_of_lt k2 k3]
    omega
theorem val_back {u t : List Int} {v : S43} (hb : BytesIn u) (h : r_val 0 u = .ok (v, t)) : chk v = 0 ∧ I64 v.f0 ∧ I64 v.f1 ∧ u = encB v ++ t := by
  cases u with
  | nil => simp [r_val] at h
  | cons k l =>
    have hk := hb k (by simp)
    have hbl : BytesIn l := fun x hx => hb x (by simp [hx])
    simp only [r_val, tx_zero hk.1 hk.2] at h
    by_cases e1 : k = 1
    · rw [if_pos e1] at h
      simp only [Except.ok.injEq, Prod.mk.injEq] at h
      obtain ⟨rfl, rfl⟩ := h
      subst e1
      refine ⟨?_, ⟨by decide, by decide⟩, ⟨by decide, by decide⟩, ?_⟩
      · unfold chk chkV
        have : V0.toList = [] := by rw [Go.ByteArray.toList_eq]; rfl
        simp [this]
      · simp [encB, payload]
    rw [if_neg e1] at h
    by_cases e2 : k = 2
    · rw [if_pos e2] at h
      cases l with
      | nil => simp at h
      | cons c l =>
        have hc := hbl c (by simp)
        simp only [tx_zero hc.1 hc.2] at h
        by_cases e : 1 < c
        · simp [e] at h
        · simp only [if_neg e, Except.ok.injEq, Prod.mk.injEq] at h
          obtain ⟨rfl, rfl⟩ := h
          subst e2
          have hc2 : c = 0 ∨ c = 1 := by omega
          refine ⟨?_, ⟨by show _ ≤ (1 : Int); decide, by show (1 : Int) ≤ _; decide⟩, ⟨by show _ ≤ c; omega, by show c ≤ _; omega⟩, ?_⟩
          · unfold chk chkV
            have : V0.toList = [] := by rw [Go.ByteArray.toList_eq]; rfl
            simp [this, hc2]
          · have : c % 256 = c := by omega
            simp [encB, payload, this]
    rw [if_neg e2] at h
    by_cases e3 : k = 3
    · rw [if_pos e3] at h
      by_cases e8 : l.length < 8
      · rw [if_pos e8] at h; cases h
      · rw [if_neg e8] at h
        simp only [Except.ok.injEq, Prod.mk.injEq] at h
        obtain ⟨rfl, rfl⟩ := h
        subst e3
        have hb8 : BytesIn (l.take 8) := fun x hx => hbl x (List.mem_of_mem_take hx)
        have hl8 : (l.take 8).length = 8 := by simp; omega
        have hr := be_num (l.take 8) hb8 0 (by omega)
        have hbd := r_num_bound 0 (l.take 8) 0 0 (by omega) (by decide)
        rw [hl8] at hr hbd
        have e256 : (256 : Int) ^ (0 + 8) = 18446744073709551616 := by decide
        rw [e256] at hbd
        refine ⟨?_, ⟨by show _ ≤ (2 : Int); decide, by show (2 : Int) ≤ _; decide⟩, ⟨by show _ ≤ r_num 0 0 (l.take 8) - 9223372036854775808; omega, by show r_num 0 0 (l.take 8) - 9223372036854775808 ≤ _; omega⟩, ?_⟩
        · unfold chk chkV
          have : V0.toList = [] := by rw [Go.ByteArray.toList_eq]; rfl
          simp [this]
        · have e : r_num 0 0 (l.take 8) - 9223372036854775808 + 9223372036854775808 = r_num 0 0 (l.take 8) := by omega
          have e21 : ¬ (2 : Int) = 1 := by decide
          simp only [encB, payload, e, hr, e21, if_true, if_false]
          simp
    rw [if_neg e3] at h
    by_cases e4 : k = 4 ∨ k = 5
    · rw [if_pos e4] at h
      cases hn : r_text 0 [] l with
      | error c => simp [hn] at h
      | ok p =>
        obtain ⟨s, t2⟩ := p
        obtain ⟨a, ha, hs⟩ := text_back l [] hbl hn
        simp only [hn, Except.ok.injEq, Prod.mk.injEq] at h
        obtain ⟨rfl, rfl⟩ := h
        have hk2 : k - 1 = 3 ∨ k - 1 = 4 := by omega
        refine ⟨chk_mk_text hk2 s, ⟨by show _ ≤ k - 1; omega, by show k - 1 ≤ _; omega⟩, ⟨by show _ ≤ (0 : Int); omega, by show (0 : Int) ≤ _; omega⟩, ?_⟩
        have e : (k - 1 + 1) % 256 = k := by omega
        have hsd : s.data.toList = a := by
          rw [hs]
          show (nums a).map (fun n => UInt8.ofNat n.toNat) = a
          unfold nums
          rw [List.map_map]
          conv => rhs; rw [← List.map_id a]
          exact List.map_congr_left fun x _ => by simp
        unfold encB payload
        simp only [e]
        rw [if_neg (by omega), if_neg (by omega), if_pos hk2, hsd, ha]
        rfl
    · rw [if_neg e4] at h
      cases h
/-! ### With bits turned -/
theorem read_turned (b : Bool) {x : S43} (hc : chk x = 0) (hi : I64 x.f1) {s : List Int} (hs : BytesIn s) : r_val (tB b) (turnB b (encB x) ++ s) = .ok (x, s) := by
  have hb : BytesIn (turnB b (encB x) ++ s) := by
    intro y hy
    rcases List.mem_append.1 hy with hy | hy
    · exact turnB_range b (encB_range x) y hy
    · exact hs y hy
  have h1 := val_map (tB b) (turnB b (encB x) ++ s)
  rw [List.map_append, map_tx b (turnB_range b (encB_range x)), turnB_twice, read_encB hc hi] at h1
  cases hr : r_val (tB b) (turnB b (encB x) ++ s) with
  | error c => rw [hr] at h1; cases h1
  | ok p =>
    obtain ⟨v, t⟩ := p
    rw [hr] at h1
    simp only [mapE, Except.ok.injEq, Prod.mk.injEq] at h1
    obtain ⟨rfl, ht⟩ := h1
    obtain ⟨q, hq⟩ := val_suffix _ hr
    have hlen : s.length = t.length := by have := congrArg List.length ht; simpa using this
    have := List.append_inj' hq hlen
    rw [this.2]
theorem back_turned (b : Bool) {l t : List Int} {v : S43} (hb : BytesIn l) (h : r_val (tB b) l = .ok (v, t)) : chk v = 0 ∧ I64 v.f0 ∧ I64 v.f1 ∧ l = turnB b (encB v) ++ t := by
  have h1 := val_map (tB b) l
  rw [h, map_tx b hb] at h1
  obtain ⟨p, hp⟩ := val_suffix _ h
  have hbt : BytesIn t := fun x hx => hb x (by rw [hp]; simp [hx])
  obtain ⟨h2, h3, h4, h5⟩ := val_back (turnB_range b hb) h1
  refine ⟨h2, h3, h4, ?_⟩
  rw [map_tx b hbt] at h5
  have := congrArg (turnB b) h5
  rw [turnB_twice] at this
  rw [this]
  unfold turnB
  split
  · rw [flipL_append]
    have := turnB_twice true (l := t)
    unfold turnB at this
    simp only [if_true] at this
    rw [this]
  · rfl
theorem dT_is (d : List Bool) (n : Nat) : dT d n = tB (d.getD n false) := rfl
end Go.Proofs.Ytbpnmmakodaakaa.Pure
