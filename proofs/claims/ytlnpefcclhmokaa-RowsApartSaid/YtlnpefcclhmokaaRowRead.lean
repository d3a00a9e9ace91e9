/- Rows as plain data: what is read of what was written, and the other way about. -/
import Derived.Test.YtlnpefcclhmokaaRowPlain
namespace Go.Proofs.Ytlnpefcclhmokaa.Pure
set_option linter.unusedVariables false
set_option linter.unusedSimpArgs false
open Go.RowKit Go.Proofs.Ytlnpefcclhmokaa.P Go.Proofs.YtlnpefcclhmokaaW.PrintWords Go.Proofs.YtlnpefcclhmokaaW.PrintLast Go.Proofs.YtlnpefcclhmokaaW.PrintMore

/-! ### Numbers -/
theorem pow_step (i : Nat) : (2 : Nat) ^ (7 * (i + 1)) = 128 * 2 ^ (7 * i) := by rw [Nat.mul_add, Nat.pow_add, Nat.mul_comm]
theorem num_fits {n i : Nat} (hi : i ≤ 9) (h : n * 2 ^ (7 * i) < 18446744073709551616) (h9 : i = 9) : n ≤ 1 := by
  subst h9
  have : (2 : Nat) ^ (7 * 9) = 9223372036854775808 := by decide
  omega
theorem r_num_vnum : ∀ (n i : Nat) (m : Int) (t : List Int), i ≤ 9 → n * 2 ^ (7 * i) < 18446744073709551616 → (0 < i → 0 < n) → r_num i m (vnum n ++ t) = .ok (m + (n : Int) * 2 ^ (7 * i), t) := by
  intro n
  induction n using Nat.strongRecOn with
  | ind n ih =>
    intro i m t hi hf hp
    by_cases hb : 128 ≤ n
    · have h9 : i ≠ 9 := fun h => by have := num_fits hi hf h; omega
      rw [vnum_big hb, List.cons_append, r_num_again (by omega) (by omega)]
      have hdiv : n / 128 * 2 ^ (7 * (i + 1)) ≤ n * 2 ^ (7 * i) := by
        rw [pow_step, ← Nat.mul_assoc]
        exact Nat.mul_le_mul_right _ (by omega)
      rw [ih (n / 128) (by omega) (i + 1) _ t (by omega) (Nat.lt_of_le_of_lt hdiv hf) (by omega)]
      have e : ((n : Int) % 128 + 128) % 128 = (n : Int) % 128 := by omega
      have e2 : ((2 : Int) ^ (7 * (i + 1))) = 128 * 2 ^ (7 * i) := by have := pow_step i; exact_mod_cast this
      have e3 : (n : Int) = (n : Int) % 128 + 128 * ((n / 128 : Nat) : Int) := by omega
      have e4 : (n : Int) * 2 ^ (7 * i) = (n : Int) % 128 * 2 ^ (7 * i) + ((n / 128 : Nat) : Int) * (128 * 2 ^ (7 * i)) := by
        conv => lhs; rw [e3]
        rw [Int.add_mul, Int.mul_comm 128 (((n / 128 : Nat) : Int)), Int.mul_assoc]
      rw [e, e2, e4, Int.add_assoc]
    · rw [vnum_small (by omega)]
      have h9 : i = 9 → n ≤ 1 := fun h => num_fits hi hf h
      show r_num i m ((n : Int) :: t) = _
      rw [r_num, if_neg (by omega), if_pos (by omega), show (n : Int) % 128 = (n : Int) by omega]
theorem r_num_zero {n : Nat} (t : List Int) (h : n < 18446744073709551616) : r_num 0 0 (vnum n ++ t) = .ok ((n : Int), t) := by
  rw [r_num_vnum n 0 0 t (by omega) (by simpa using h) (by omega)]
  simp
/-- What is read as a number was written so. -/
theorem r_num_back : ∀ (l : List Int) (i : Nat) (m v : Int) (t : List Int), BytesIn l → i ≤ 9 → r_num i m l = .ok (v, t) → ∃ n : Nat, l = vnum n ++ t ∧ v = m + (n : Int) * 2 ^ (7 * i) ∧ (0 < i → 0 < n) := by
  intro l
  induction l with
  | nil => intro i m v t _ _ h; simp [r_num] at h
  | cons c l ih =>
    intro i m v t hB hi h
    have hc := hB c (by simp)
    by_cases e1 : (c = 0 ∧ 0 < i) ∨ (1 < c ∧ i = 9)
    · rw [r_num, if_pos e1] at h; cases h
    · by_cases e2 : c < 128
      · rw [r_num, if_neg e1, if_pos e2] at h
        simp only [Except.ok.injEq, Prod.mk.injEq] at h
        obtain ⟨rfl, rfl⟩ := h
        obtain ⟨n, rfl⟩ := Int.eq_ofNat_of_zero_le hc.1
        refine ⟨n, by rw [vnum_small (by omega)]; rfl, by rw [show (n : Int) % 128 = (n : Int) by omega], by omega⟩
      · rw [r_num_again e1 e2] at h
        obtain ⟨n, rfl, hv, hp⟩ := ih (i + 1) _ v t (fun x hx => hB x (List.mem_cons_of_mem _ hx)) (by omega) h
        have hn := hp (by omega)
        refine ⟨128 * n + (c.toNat - 128), ?_, ?_, by omega⟩
        · rw [vnum_big (n := 128 * n + (c.toNat - 128)) (by omega), show (128 * n + (c.toNat - 128)) / 128 = n by omega]
          rw [List.cons_append]
          congr 1
          omega
        · rw [hv]
          have e3 : ((2 : Int) ^ (7 * (i + 1))) = 128 * 2 ^ (7 * i) := by have := pow_step i; exact_mod_cast this
          have e4 : (((128 * n + (c.toNat - 128) : Nat)) : Int) = c % 128 + 128 * (n : Int) := by omega
          rw [e3, e4, Int.add_mul, Int.add_assoc, Int.mul_comm 128 (n : Int), Int.mul_assoc]
/-- A number that is cut off. -/
theorem r_num_cut : ∀ (n i : Nat) (m : Int) (p s : List Int), i ≤ 9 → n * 2 ^ (7 * i) < 18446744073709551616 → (0 < i → 0 < n) → vnum n = p ++ s → s ≠ [] → r_num i m p = .error 1 := by
  intro n
  induction n using Nat.strongRecOn with
  | ind n ih =>
    intro i m p s hi hf hp he hs
    cases p with
    | nil => rfl
    | cons c p =>
      by_cases hb : 128 ≤ n
      · have h9 : i ≠ 9 := fun h => by have := num_fits hi hf h; omega
        rw [vnum_big hb, List.cons_append] at he
        injection he with h1 h2
        subst h1
        have hdiv : n / 128 * 2 ^ (7 * (i + 1)) ≤ n * 2 ^ (7 * i) := by
          rw [pow_step, ← Nat.mul_assoc]
          exact Nat.mul_le_mul_right _ (by omega)
        rw [r_num_again (by omega) (by omega)]
        exact ih (n / 128) (by omega) (i + 1) _ p s (by omega) (Nat.lt_of_le_of_lt hdiv hf) (by omega) h2 hs
      · rw [vnum_small (by omega), List.cons_append] at he
        injection he with h1 h2
        have := List.append_eq_nil_iff.1 h2.symm
        exact absurd this.2 hs
theorem r_num_short {n : Nat} {p s : List Int} (h : n < 18446744073709551616) (he : vnum n = p ++ s) (hs : s ≠ []) : r_num 0 0 p = .error 1 := r_num_cut n 0 0 p s (by omega) (by simpa using h) (by omega) he hs

/-! ### Values -/
theorem unzig_zig {n : Int} : unzig (zig n : Int) = n := by
  unfold unzig zig
  by_cases e : 0 ≤ n
  · rw [if_pos e, if_pos (by omega)]; omega
  · rw [if_neg e, if_neg (by omega)]; omega
theorem zig_unzig {m : Nat} : zig (unzig (m : Int)) = m := by
  unfold unzig zig
  by_cases e : (m : Int) % 2 = 0
  · rw [if_pos e, if_pos (by omega)]; omega
  · rw [if_neg e, if_neg (by omega)]; omega
theorem unzig_in {m : Nat} (h : m < 18446744073709551616) : I64 (unzig (m : Int)) := by
  unfold unzig I64
  split <;> omega
theorem vnum_bytes : ∀ (n : Nat), BytesIn (vnum n) := by
  intro n
  induction n using Nat.strongRecOn with
  | ind n ih =>
    by_cases hb : 128 ≤ n
    · rw [vnum_big hb]
      intro x hx
      rcases List.mem_cons.1 hx with rfl | hx
      · omega
      · exact ih (n / 128) (by omega) x hx
    · rw [vnum_small (by omega)]
      intro x hx
      simp at hx
      omega
theorem bytesOf_in (s : ByteArray) : BytesIn (bytesOf s) := by
  intro x hx
  unfold bytesOf at hx
  obtain ⟨b, _, rfl⟩ := List.mem_map.1 hx
  have := b.toNat_lt
  omega
theorem strOf_bytesOf (s : ByteArray) : strOfNums (bytesOf s) = s := by
  rcases s with ⟨⟨l⟩⟩
  show (⟨((l.map fun b => (b.toNat : Int)).map fun n => UInt8.ofNat n.toNat).toArray⟩ : ByteArray) = ⟨⟨l⟩⟩
  rw [List.map_map]
  have : ((fun n : Int => UInt8.ofNat n.toNat) ∘ fun b : UInt8 => (b.toNat : Int)) = id := by
    funext b
    simp
  rw [this, List.map_id]
theorem bytesOf_strOf {l : List Int} (h : BytesIn l) : bytesOf (strOfNums l) = l := by
  unfold bytesOf
  rw [strOfNums_data, List.map_map]
  have : ∀ x ∈ l, ((fun b : UInt8 => (b.toNat : Int)) ∘ fun n : Int => UInt8.ofNat n.toNat) x = x := by
    intro x hx
    have := h x hx
    show ((UInt8.ofNat x.toNat).toNat : Int) = x
    rw [UInt8.toNat_ofNat']
    omega
  rw [List.map_congr_left this]
  simp
theorem strOf_toList {a b : List Int} (ha : BytesIn a) (hb : BytesIn b) (h : (strOfNums a).toList = (strOfNums b).toList) : a = b := by
  rw [← bytesOf_strOf ha, ← bytesOf_strOf hb, toList_inj h]

theorem V0_list : V0.toList = [] := by rw [Go.ByteArray.toList_eq]; rfl
theorem empty_is {c : ByteArray} (h : c.toList = []) : c = V0 := toList_inj (h.trans V0_list.symm)
theorem chk_zero {a b : Int} {c : ByteArray} (h : chk a b c = 0) : (a = 0 ∧ b = 0 ∧ c = V0) ∨ (a = 1 ∧ (b = 0 ∨ b = 1) ∧ c = V0) ∨ (a = 2 ∧ c = V0) ∨ ((a = 3 ∨ a = 4) ∧ b = 0) := by
  unfold chk chkV at h
  by_cases e0 : a = 0
  · rw [if_pos e0] at h
    by_cases e : b = 0 ∧ c.toList = []
    · exact .inl ⟨e0, e.1, empty_is e.2⟩
    · rw [if_neg e] at h; cases h
  rw [if_neg e0] at h
  by_cases e1 : a = 1
  · rw [if_pos e1] at h
    by_cases e : (b = 0 ∨ b = 1) ∧ c.toList = []
    · exact .inr (.inl ⟨e1, e.1, empty_is e.2⟩)
    · rw [if_neg e] at h; cases h
  rw [if_neg e1] at h
  by_cases e2 : a = 2
  · rw [if_pos e2] at h
    by_cases e : c.toList = []
    · exact .inr (.inr (.inl ⟨e2, empty_is e⟩))
    · rw [if_neg e] at h; cases h
  rw [if_neg e2] at h
  by_cases e3 : a = 3 ∨ a = 4
  · rw [if_pos e3] at h
    by_cases e : b = 0
    · exact .inr (.inr (.inr ⟨e3, e⟩))
    · rw [if_neg e] at h; cases h
  · rw [if_neg e3] at h; cases h
theorem r_val_enc {x : S38} (t : List Int) (h : okV x) (hc : chk x.f0 x.f1 x.f2 = 0) : r_val (encB x ++ t) = .ok (x, t) := by
  obtain ⟨a, b, c⟩ := x
  have hs := h.2
  rcases chk_zero hc with ⟨e0, e1, e2⟩ | ⟨e0, e1, e2⟩ | ⟨e0, e2⟩ | ⟨e0, e1⟩
  · simp only at e0 e1 e2
    subst e0 e1 e2
    rfl
  · simp only at e0 e1 e2
    subst e0 e2
    rcases e1 with rfl | rfl <;> rfl
  · simp only at e0 e2
    subst e0 e2
    have e : encB ⟨2, b, V0⟩ ++ t = 2 :: (vnum (zig b) ++ t) := rfl
    rw [e, r_val_cons, if_neg (by decide), if_neg (by decide), if_pos rfl, r_num_zero t (zig_lt h.1)]
    simp only [unzig_zig]
  · simp only at e0 e1 hs
    subst e1
    have e : encB ⟨a, 0, c⟩ ++ t = a :: (vnum c.size ++ (bytesOf c ++ t)) := by
      unfold encB
      rcases e0 with rfl | rfl <;> simp
    rw [e, r_val_cons, if_neg (by omega), if_neg (by omega), if_neg (by omega), if_pos e0, r_num_zero _ (by omega)]
    have hl := bytesOf_length c
    simp only [Int.toNat_natCast]
    rw [if_neg (by simp; omega), ← hl, List.take_left, List.drop_left, strOf_bytesOf]
/-- What is read as a value was written so. -/
theorem r_val_back {l t : List Int} {x : S38} (hB : BytesIn l) (h : r_val l = .ok (x, t)) : chk x.f0 x.f1 x.f2 = 0 ∧ l = encB x ++ t ∧ I64 x.f1 ∧ x.f2.size ≤ l.length := by
  cases l with
  | nil => simp [r_val] at h
  | cons k l =>
    have hB' : BytesIn l := fun y hy => hB y (List.mem_cons_of_mem _ hy)
    rw [r_val_cons] at h
    by_cases e0 : k = 0
    · rw [if_pos e0] at h
      simp only [Except.ok.injEq, Prod.mk.injEq] at h
      obtain ⟨rfl, rfl⟩ := h
      subst e0
      exact ⟨by simp [chkV, V0_list], rfl, by constructor <;> decide, Nat.zero_le _⟩
    rw [if_neg e0] at h
    by_cases e1 : k = 1
    · rw [if_pos e1] at h
      cases l with
      | nil => simp at h
      | cons c l =>
        by_cases e : 1 < c
        · simp [e] at h
        · simp only [if_neg e, Except.ok.injEq, Prod.mk.injEq] at h
          obtain ⟨rfl, rfl⟩ := h
          subst e1
          have hc := hB' c (by simp)
          rcases (show c = 0 ∨ c = 1 by omega) with rfl | rfl
          · exact ⟨by simp [chkV, V0_list], rfl, by constructor <;> decide, Nat.zero_le _⟩
          · exact ⟨by simp [chkV, V0_list], rfl, by constructor <;> decide, Nat.zero_le _⟩
    rw [if_neg e1] at h
    by_cases e2 : k = 2
    · rw [if_pos e2] at h
      cases hn : r_num 0 0 l with
      | error c => simp [hn] at h
      | ok p =>
        obtain ⟨n, t2⟩ := p
        obtain ⟨m, hl, hv, _⟩ := r_num_back l 0 0 n t2 hB' (by omega) hn
        obtain ⟨_, hm⟩ := r_num_bound hB' (by omega) (by omega) (by decide) hn
        simp only [hn, Except.ok.injEq, Prod.mk.injEq] at h
        obtain ⟨rfl, rfl⟩ := h
        have hv' : n = (m : Int) := by rw [hv]; simp
        subst e2 hv'
        refine ⟨by simp [chkV, V0_list], ?_, unzig_in (by omega), Nat.zero_le _⟩
        rw [hl]
        show _ = encB ⟨2, unzig (m : Int), V0⟩ ++ t2
        have : encB ⟨2, unzig (m : Int), V0⟩ = 2 :: vnum (zig (unzig (m : Int))) := rfl
        rw [this, zig_unzig]
        rfl
    rw [if_neg e2] at h
    by_cases e3 : k = 3 ∨ k = 4
    · rw [if_pos e3] at h
      cases hn : r_num 0 0 l with
      | error c => simp [hn] at h
      | ok p =>
        obtain ⟨n, t2⟩ := p
        obtain ⟨m, hl, hv, _⟩ := r_num_back l 0 0 n t2 hB' (by omega) hn
        simp only [hn] at h
        have hv' : n = (m : Int) := by rw [hv]; simp
        subst hv'
        by_cases e : (t2.length : Int) < (m : Int)
        · simp [e] at h
        · simp only [if_neg e, Except.ok.injEq, Prod.mk.injEq, Int.toNat_natCast] at h
          obtain ⟨rfl, rfl⟩ := h
          have hB2 : BytesIn t2 := fun y hy => hB' y (by rw [hl]; exact List.mem_append_right _ hy)
          have hBt : BytesIn (t2.take m) := fun y hy => hB2 y (List.mem_of_mem_take hy)
          have hsz : (strOfNums (t2.take m)).size = m := by rw [strOfNums_size, List.length_take]; omega
          refine ⟨?_, ?_, (show I64 0 by constructor <;> decide), ?_⟩
          · rcases e3 with rfl | rfl <;> simp [chkV]
          · have : encB ⟨k, 0, strOfNums (t2.take m)⟩ = k :: (vnum m ++ t2.take m) := by
              unfold encB
              simp only [hsz, bytesOf_strOf hBt]
              rcases e3 with rfl | rfl <;> simp
            rw [this, List.cons_append, List.append_assoc, List.take_append_drop, ← hl]
          · show (strOfNums (t2.take m)).size ≤ _
            rw [hsz, hl]
            simp
            omega
    · rw [if_neg e3] at h
      cases h
/-- A value that is cut off. -/
theorem r_val_cut {x : S38} {p s : List Int} (h : okV x) (hc : chk x.f0 x.f1 x.f2 = 0) (he : encB x = p ++ s) (hs : s ≠ []) : r_val p = .error 1 := by
  obtain ⟨a, b, c⟩ := x
  have hsz := h.2
  cases p with
  | nil => rfl
  | cons k p =>
    rcases chk_zero hc with ⟨e0, e1, e2⟩ | ⟨e0, e1, e2⟩ | ⟨e0, e2⟩ | ⟨e0, e1⟩
    · simp only at e0 e1 e2
      subst e0 e1 e2
      have e : encB ⟨0, 0, V0⟩ = [0] := rfl
      rw [e, List.cons_append] at he
      injection he with h1 h2
      exact absurd (List.append_eq_nil_iff.1 h2.symm).2 hs
    · simp only at e0 e1 e2
      subst e0 e2
      have e : encB ⟨1, b, V0⟩ = [1, b % 256] := rfl
      rw [e, List.cons_append] at he
      injection he with h1 h2
      subst h1
      cases p with
      | nil => rfl
      | cons d p =>
        rw [List.cons_append] at h2
        injection h2 with h3 h4
        exact absurd (List.append_eq_nil_iff.1 h4.symm).2 hs
    · simp only at e0 e2
      subst e0 e2
      have e : encB ⟨2, b, V0⟩ = 2 :: vnum (zig b) := rfl
      rw [e, List.cons_append] at he
      injection he with h1 h2
      subst h1
      rw [r_val_cons, if_neg (by decide), if_neg (by decide), if_pos rfl, r_num_short (zig_lt h.1) h2 hs]
    · simp only at e0 e1 hsz
      subst e1
      have e : encB ⟨a, 0, c⟩ = a :: (vnum c.size ++ bytesOf c) := by
        unfold encB
        rcases e0 with rfl | rfl <;> simp
      rw [e, List.cons_append] at he
      injection he with h1 h2
      subst h1
      rw [r_val_cons, if_neg (by omega), if_neg (by omega), if_neg (by omega), if_pos e0]
      rcases List.append_eq_append_iff.1 h2 with ⟨u, hp, hu⟩ | ⟨u, hv, hu⟩
      · -- the number is whole
        rw [hp, r_num_zero _ (by omega)]
        have hl : (bytesOf c).length = u.length + s.length := by rw [hu]; simp
        have hs' : 0 < s.length := List.length_pos_iff.2 hs
        rw [bytesOf_length] at hl
        simp only
        rw [if_pos (by omega)]
      · by_cases hu0 : u = []
        · subst hu0
          rw [List.append_nil] at hv
          rw [← hv, ← List.append_nil (vnum c.size), r_num_zero _ (by omega)]
          simp only
          have hs' : 0 < (bytesOf c).length := by
            have : s = bytesOf c := by simpa using hu
            rw [← this]
            exact List.length_pos_iff.2 hs
          rw [bytesOf_length] at hs'
          rw [if_pos (by simp; omega)]
        · rw [r_num_short (by omega) hv hu0]

/-! ### Rows -/
theorem r_loop_enc : ∀ (xs acc : List S38) (b t : List Int), (∀ x ∈ xs, okV x) → encL xs = some b → r_loop xs.length acc (b ++ t) = .ok (acc ++ xs, t) := by
  intro xs
  induction xs with
  | nil =>
    intro acc b t _ h
    simp only [encL, Option.some.injEq] at h
    subst h
    simp [r_loop]
  | cons x xs ih =>
    intro acc b t hx h
    rw [encL] at h
    by_cases hc : chk x.f0 x.f1 x.f2 = 0
    · rw [if_pos hc] at h
      obtain ⟨b', hb, rfl⟩ := Option.map_eq_some_iff.1 h
      rw [List.length_cons, r_loop, List.append_assoc, r_val_enc _ (hx x (by simp)) hc]
      simp only
      rw [ih (acc ++ [x]) b' t (fun y hy => hx y (by simp [hy])) hb]
      simp
    · rw [if_neg hc] at h; cases h
theorem r_loop_back : ∀ (n : Nat) (acc : List S38) (l : List Int) {r : List S38} {t : List Int}, BytesIn l → r_loop n acc l = .ok (r, t) →
    ∃ xs b, r = acc ++ xs ∧ xs.length = n ∧ encL xs = some b ∧ l = b ++ t ∧ ∀ x ∈ xs, I64 x.f1 ∧ x.f2.size ≤ l.length := by
  intro n
  induction n with
  | zero =>
    intro acc l r t _ h
    simp only [r_loop, Except.ok.injEq, Prod.mk.injEq] at h
    obtain ⟨rfl, rfl⟩ := h
    exact ⟨[], [], by simp, rfl, rfl, rfl, by simp⟩
  | succ n ih =>
    intro acc l r t hB h
    rw [r_loop] at h
    cases hv : r_val l with
    | error c => rw [hv] at h; cases h
    | ok p =>
      obtain ⟨x, t'⟩ := p
      rw [hv] at h
      obtain ⟨hc, hl, h1, h2⟩ := r_val_back hB hv
      obtain ⟨xs, b, hr, hn, hb, ht, hall⟩ := ih (acc ++ [x]) t' (fun y hy => hB y (by rw [hl]; exact List.mem_append_right _ hy)) h
      refine ⟨x :: xs, encB x ++ b, by rw [hr]; simp, by rw [List.length_cons, hn], by rw [encL, if_pos hc, hb]; rfl, by rw [hl, ht, List.append_assoc], ?_⟩
      intro y hy
      rcases List.mem_cons.1 hy with rfl | hy
      · exact ⟨h1, h2⟩
      · have := hall y hy
        refine ⟨this.1, ?_⟩
        have h3 : t'.length ≤ l.length := by rw [hl]; simp
        omega
theorem r_loop_cut : ∀ (xs acc : List S38) (b p s : List Int), (∀ x ∈ xs, okV x) → encL xs = some b → b = p ++ s → s ≠ [] → r_loop xs.length acc p = .error 1 := by
  intro xs
  induction xs with
  | nil =>
    intro acc b p s _ h he hs
    simp only [encL, Option.some.injEq] at h
    subst h
    exact absurd (List.append_eq_nil_iff.1 he.symm).2 hs
  | cons x xs ih =>
    intro acc b p s hx h he hs
    rw [encL] at h
    by_cases hc : chk x.f0 x.f1 x.f2 = 0
    · rw [if_pos hc] at h
      obtain ⟨b', hb, rfl⟩ := Option.map_eq_some_iff.1 h
      have hx0 := hx x (by simp)
      rw [List.length_cons, r_loop]
      rcases List.append_eq_append_iff.1 he with ⟨u, hp, hu⟩ | ⟨u, hv, hu⟩
      · rw [hp, r_val_enc _ hx0 hc]
        simp only
        exact ih (acc ++ [x]) b' u s (fun y hy => hx y (by simp [hy])) hb hu hs
      · by_cases hu0 : u = []
        · subst hu0
          rw [List.append_nil] at hv
          have hsb : b' = [] ++ s := by simpa using hu.symm
          rw [← hv, ← List.append_nil (encB x), r_val_enc _ hx0 hc]
          simp only
          exact ih (acc ++ [x]) b' [] s (fun y hy => hx y (by simp [hy])) hb hsb hs
        · rw [r_val_cut hx0 hc hv hu0]
    · rw [if_neg hc] at h; cases h
end Go.Proofs.Ytlnpefcclhmokaa.Pure
