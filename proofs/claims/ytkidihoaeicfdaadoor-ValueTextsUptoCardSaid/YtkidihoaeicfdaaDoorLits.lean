/- How right values are written, as plain lists of bytes: the first byte tells the kind, different values are written differently. No condition. -/
import Derived.Test.YtkidihoaeicfdaaDoorT2
import Derived.Test.YtkidihoaeicfdaaDoorOrdVal
import Derived.Test.YtkidihoaeicfdaaDoorOrdMore
import Derived.Lib.ItoaNum
namespace Go.Proofs.YtkidihoaeicfdaaDoor.Pure
set_option linter.unusedVariables false
set_option linter.unusedSimpArgs false
open Go.RowKit Go.Proofs.YtkidihoaeicfdaaDoor.P Go.Proofs.YtkidihoaeicfdaaDoorW.PrintWords Go.Proofs.YtkidihoaeicfdaaDoorW.PrintLast

theorem right_eq {x y : S23} (hx : chkV x.f0 x.f1 x.f2 = 0) (hy : chkV y.f0 y.f1 y.f2 = 0) (h : cmpV x y = 0) : x = y := by
  have hk : x.f0 = y.f0 := by
    unfold cmpV at h
    by_cases hk : x.f0 = y.f0
    · exact hk
    · rw [if_neg hk, cmpI_zero] at h; exact absurd h hk
  have e : ∀ (s t : ByteArray), s.toList = [] → t.toList = [] → s = t := fun s t h1 h2 => toList_inj (h1.trans h2.symm)
  unfold cmpV at h
  rw [if_pos hk] at h
  unfold chkV at hx hy
  rw [← hk] at hy
  obtain ⟨k, i, s⟩ := x
  obtain ⟨k', j, t⟩ := y
  simp only at hk hx hy h
  subst hk
  by_cases k0 : k = 0
  · rw [if_pos k0] at hx hy
    by_cases p : i = 0 ∧ s.toList = []
    · by_cases q : j = 0 ∧ t.toList = []
      · rw [p.1, q.1, e s t p.2 q.2]
      · rw [if_neg q] at hy; cases hy
    · rw [if_neg p] at hx; cases hx
  rw [if_neg k0] at hx hy
  by_cases k1 : k = 1
  · rw [if_pos k1] at hx hy
    rw [if_pos (.inl k1), cmpI_zero] at h
    by_cases p : (i = 0 ∨ i = 1) ∧ s.toList = []
    · by_cases q : (j = 0 ∨ j = 1) ∧ t.toList = []
      · rw [h, e s t p.2 q.2]
      · rw [if_neg q] at hy; cases hy
    · rw [if_neg p] at hx; cases hx
  rw [if_neg k1] at hx hy
  by_cases k2 : k = 2
  · rw [if_pos k2] at hx hy
    rw [if_pos (.inr k2), cmpI_zero] at h
    by_cases p : s.toList = []
    · by_cases q : t.toList = []
      · rw [h, e s t p q]
      · rw [if_neg q] at hy; cases hy
    · rw [if_neg p] at hx; cases hx
  rw [if_neg k2] at hx hy
  by_cases k3 : k = 3 ∨ k = 4
  · rw [if_pos k3] at hx hy
    rw [if_neg (by omega), if_pos k3, cmpT_zero] at h
    by_cases p : i = 0
    · by_cases q : j = 0
      · rw [h, p, q]
      · rw [if_neg q] at hy; cases hy
    · rw [if_neg p] at hx; cases hx
  · rw [if_neg k3] at hx; cases hx
theorem eq_bool (x y : S23) (h : cmpV x y = 0 ↔ x = y) : ((cmpV x y == 0) == (x.f0 == y.f0 && (x.f1 == y.f1 && (x.f2.toList == y.f2.toList)))) = true := by
  rw [beq_iff_eq, Bool.eq_iff_iff]
  simp only [beq_iff_eq, Bool.and_eq_true]
  rw [h]
  constructor
  · rintro rfl; exact ⟨rfl, rfl, rfl⟩
  · rintro ⟨a, b, c⟩
    obtain ⟨k, i, s⟩ := x
    obtain ⟨k', j, t⟩ := y
    simp only at a b c
    rw [a, b, toList_inj c]

def valD (l : List UInt8) : Nat := l.foldl (fun a c => a * 10 + (c.toNat - 48)) 0
theorem dig_nat (d : Nat) (h : d < 10) : (UInt8.ofNat (48 + d)).toNat = 48 + d := by rw [UInt8.toNat_ofNat']; omega
theorem valD_dec (u : Nat) : valD (Lib.decDigits u) = u := by
  induction u using Nat.strongRecOn with
  | _ u ih =>
    rw [Lib.decDigits]
    by_cases h : u < 10
    · rw [dif_pos h]
      simp only [valD, List.foldl_cons, List.foldl_nil]
      rw [dig_nat u h]; omega
    · rw [dif_neg h]
      have := ih (u / 10) (by omega)
      unfold valD at *
      rw [List.foldl_append, this]
      simp only [List.foldl_cons, List.foldl_nil]
      rw [dig_nat _ (by omega)]; omega
theorem dec_head (u : Nat) : ∃ c t, Lib.decDigits u = c :: t ∧ 48 ≤ c.toNat ∧ c.toNat ≤ 57 := by
  induction u using Nat.strongRecOn with
  | _ u ih =>
    rw [Lib.decDigits]
    by_cases h : u < 10
    · rw [dif_pos h]
      exact ⟨_, [], rfl, by rw [dig_nat u h]; omega, by rw [dig_nat u h]; omega⟩
    · rw [dif_neg h]
      obtain ⟨c, t, e, h1, h2⟩ := ih (u / 10) (by omega)
      rw [e]
      exact ⟨c, t ++ [_], rfl, h1, h2⟩
theorem itoa_head (i : Int) : ∃ c t, Lib.itoa i = c :: t ∧ (if i < 0 then c.toNat = 45 else 48 ≤ c.toNat ∧ c.toNat ≤ 57) := by
  unfold Lib.itoa
  by_cases h : i < 0
  · rw [if_pos h]; exact ⟨45, _, rfl, by rw [if_pos h]; rfl⟩
  · rw [if_neg h]
    obtain ⟨c, t, e, h1⟩ := dec_head i.toNat
    exact ⟨c, t, e, by rw [if_neg h]; exact h1⟩
theorem itoa_inj {i j : Int} (h : Lib.itoa i = Lib.itoa j) : i = j := by
  obtain ⟨c, t, e1, h1⟩ := itoa_head i
  obtain ⟨d, s, e2, h2⟩ := itoa_head j
  rw [e1, e2] at h
  obtain ⟨rfl, rfl⟩ := List.cons.inj h
  unfold Lib.itoa at e1 e2
  by_cases hi : i < 0
  · rw [if_pos hi] at h1 e1
    by_cases hj : j < 0
    · rw [if_pos hj] at e2
      have e := (List.cons.inj (e1.trans e2.symm)).2
      have := valD_dec i.natAbs
      rw [e, valD_dec] at this
      omega
    · rw [if_neg hj] at h2; omega
  · rw [if_neg hi] at h1 e1
    by_cases hj : j < 0
    · rw [if_pos hj] at h2; omega
    · rw [if_neg hj] at e2
      have e := e1.trans e2.symm
      have := valD_dec i.toNat
      rw [e, valD_dec] at this
      omega
theorem quote_inj : ∀ a b : List UInt8, a.flatMap quoteC = b.flatMap quoteC → a = b
  | [], [], _ => rfl
  | [], y :: b, h => by
    rw [List.flatMap_nil, List.flatMap_cons] at h
    have : (quoteC y).length = 0 := by have h2 := congrArg List.length h; rw [List.length_append, List.length_nil] at h2; omega
    unfold quoteC at this; split at this <;> simp at this
  | x :: a, [], h => by
    rw [List.flatMap_nil, List.flatMap_cons] at h
    have : (quoteC x).length = 0 := by have h2 := congrArg List.length h; rw [List.length_append, List.length_nil] at h2; omega
    unfold quoteC at this; split at this <;> simp at this
  | x :: a, y :: b, h => by
    rw [List.flatMap_cons, List.flatMap_cons] at h
    unfold quoteC at h
    by_cases hx : x = 39
    · by_cases hy : y = 39
      · rw [if_pos hx, if_pos hy] at h
        have := List.append_cancel_left h
        rw [hx, hy, quote_inj a b this]
      · rw [if_pos hx, if_neg hy] at h
        injection h with h1 _
        exact absurd h1.symm hy
    · by_cases hy : y = 39
      · rw [if_neg hx, if_pos hy] at h
        injection h with h1 _
        exact absurd h1 hx
      · rw [if_neg hx, if_neg hy] at h
        injection h with h1 h2
        have h2' : a.flatMap quoteC = b.flatMap quoteC := h2
        rw [h1, quote_inj a b h2']
theorem quote_ge : ∀ l : List UInt8, l.length ≤ (l.flatMap quoteC).length
  | [] => by simp
  | a :: l => by
    rw [List.flatMap_cons, List.length_append, List.length_cons]
    have := quote_ge l
    have h : 1 ≤ (quoteC a).length := by unfold quoteC; split <;> simp
    omega
theorem hexD_inj {m n : Nat} (hm : m < 16) (hn : n < 16) (h : hexD m = hexD n) : m = n := by
  have : ∀ (a b : Fin 16), hexD a.1 = hexD b.1 → a = b := by decide
  exact congrArg Fin.val (this ⟨m, hm⟩ ⟨n, hn⟩ h)
theorem hexS_inj : ∀ a b : List UInt8, hexS a = hexS b → a = b
  | [], [], _ => rfl
  | [], y :: b, h => by have := congrArg List.length h; rw [hexS_length, hexS_length] at this; simp at this
  | x :: a, [], h => by have := congrArg List.length h; rw [hexS_length, hexS_length] at this; simp at this
  | x :: a, y :: b, h => by
    have h' : hexD (x.toNat / 16) :: hexD (x.toNat % 16) :: hexS a = hexD (y.toNat / 16) :: hexD (y.toNat % 16) :: hexS b := h
    injection h' with h1 h2
    injection h2 with h2 h3
    have q1 := hexD_inj (by have := x.toNat_lt; omega) (by have := y.toNat_lt; omega) h1
    have q2 := hexD_inj (by omega) (by omega) h2
    have : x = y := UInt8.toNat_inj.1 (by omega)
    rw [this, hexS_inj a b h3]

def kindC (c : UInt8) : Int := if c = 78 then 0 else if c = 84 ∨ c = 70 then 1 else if c = 39 then 3 else if c = 88 then 4 else 2
/-- The bytes of a right value. -/
def litL (x : S23) : List UInt8 := (litV x.f0 x.f1 x.f2).data.toList
theorem chk_kind {k i : Int} {s : ByteArray} (h : chkV k i s = 0) : k = 0 ∨ k = 1 ∨ k = 2 ∨ k = 3 ∨ k = 4 := by
  unfold chkV at h
  by_cases k0 : k = 0
  · exact .inl k0
  by_cases k1 : k = 1
  · exact .inr (.inl k1)
  by_cases k2 : k = 2
  · exact .inr (.inr (.inl k2))
  rw [if_neg k0, if_neg k1, if_neg k2] at h
  by_cases k3 : k = 3 ∨ k = 4
  · exact .inr (.inr (.inr k3))
  · rw [if_neg k3] at h; cases h
theorem chk_bool {i : Int} {s : ByteArray} (h : chkV 1 i s = 0) : i = 0 ∨ i = 1 := by
  unfold chkV at h
  rw [if_neg (by decide), if_pos rfl] at h
  by_cases h2 : (i = 0 ∨ i = 1) ∧ s.toList = []
  · exact h2.1
  · rw [if_neg h2] at h; cases h
theorem lit_null {i : Int} {s : ByteArray} (h : chkV 0 i s = 0) : litV 0 i s = ⟨#[78, 85, 76, 76]⟩ := by unfold litV; rw [if_neg (fun e => e h), if_pos rfl]
theorem lit_bool {i : Int} {s : ByteArray} (h : chkV 1 i s = 0) : litV 1 i s = if i = 1 then ⟨#[84, 82, 85, 69]⟩ else ⟨#[70, 65, 76, 83, 69]⟩ := by unfold litV; rw [if_neg (fun e => e h), if_neg (by decide), if_pos rfl]
theorem lit_int {i : Int} {s : ByteArray} (h : chkV 2 i s = 0) : litV 2 i s = ⟨(Lib.itoa i).toArray⟩ := by unfold litV; rw [if_neg (fun e => e h), if_neg (by decide), if_neg (by decide), if_pos rfl]
theorem lit_text {i : Int} {s : ByteArray} (h : chkV 3 i s = 0) : litV 3 i s = ⟨(textL s.data.toList).toArray⟩ := by unfold litV; rw [if_neg (fun e => e h), if_neg (by decide), if_neg (by decide), if_neg (by decide), if_pos rfl]
theorem lit_bytes {i : Int} {s : ByteArray} (h : chkV 4 i s = 0) : litV 4 i s = ⟨(blobL s.data.toList).toArray⟩ := by unfold litV; rw [if_neg (fun e => e h), if_neg (by decide), if_neg (by decide), if_neg (by decide), if_neg (by decide)]
theorem lit_head (k i : Int) (s : ByteArray) (h : chkV k i s = 0) : ∃ c t, (litV k i s).data.toList = c :: t ∧ kindC c = k ∧ (k = 2 → if i < 0 then c.toNat = 45 else 48 ≤ c.toNat ∧ c.toNat ≤ 57) := by
  rcases chk_kind h with rfl | rfl | rfl | rfl | rfl
  · rw [lit_null h]; exact ⟨78, _, rfl, by decide, fun h => absurd h (by decide)⟩
  · rw [lit_bool h]
    by_cases hi : i = 1
    · rw [if_pos hi]; exact ⟨84, _, rfl, by decide, fun h => absurd h (by decide)⟩
    · rw [if_neg hi]; exact ⟨70, _, rfl, by decide, fun h => absurd h (by decide)⟩
  · rw [lit_int h]
    obtain ⟨c, t, e, hc⟩ := itoa_head i
    refine ⟨c, t, by simpa using e, ?_, fun _ => hc⟩
    have hr : c.toNat = 45 ∨ (48 ≤ c.toNat ∧ c.toNat ≤ 57) := by
      by_cases hi : i < 0
      · rw [if_pos hi] at hc; exact .inl hc
      · rw [if_neg hi] at hc; exact .inr hc
    have ne : ∀ n : UInt8, n.toNat ≠ 45 ∧ (n.toNat < 48 ∨ 57 < n.toNat) → ¬ c = n := fun n hn e => by subst e; omega
    unfold kindC
    rw [if_neg (ne 78 (by decide)), if_neg (fun h => h.elim (ne 84 (by decide)) (ne 70 (by decide))), if_neg (ne 39 (by decide)), if_neg (ne 88 (by decide))]
  · rw [lit_text h]; exact ⟨39, _, by simp [textL]; rfl, by decide, fun h => absurd h (by decide)⟩
  · rw [lit_bytes h]; exact ⟨88, _, by simp [blobL]; rfl, by decide, fun h => absurd h (by decide)⟩
theorem lit_inj {x y : S23} (hx : chkV x.f0 x.f1 x.f2 = 0) (hy : chkV y.f0 y.f1 y.f2 = 0) (h : (litV x.f0 x.f1 x.f2).data.toList = (litV y.f0 y.f1 y.f2).data.toList) : x = y := by
  refine right_eq hx hy ?_
  obtain ⟨c, t, e1, k1, _⟩ := lit_head _ _ _ hx
  obtain ⟨d, s, e2, k2, _⟩ := lit_head _ _ _ hy
  have hk : x.f0 = y.f0 := by
    rw [e1, e2] at h
    rw [← k1, ← k2, (List.cons.inj h).1]
  unfold cmpV
  rw [if_pos hk]
  obtain ⟨k, i, s'⟩ := x
  obtain ⟨k', j, t'⟩ := y
  simp only at hk hx hy h ⊢
  subst hk
  rcases chk_kind hx with rfl | rfl | rfl | rfl | rfl
  · simp
  · rw [if_pos (.inl rfl), cmpI_zero]
    rw [lit_bool hx, lit_bool hy] at h
    rcases chk_bool hx with rfl | rfl <;> rcases chk_bool hy with rfl | rfl <;> first | rfl | (simp at h)
  · rw [if_pos (.inr rfl), cmpI_zero]
    rw [lit_int hx, lit_int hy] at h
    exact itoa_inj (by simpa using h)
  · rw [if_neg (by decide), if_pos (.inl rfl)]
    rw [lit_text hx, lit_text hy] at h
    have h1 : textL s'.data.toList = textL t'.data.toList := by simpa using h
    unfold textL at h1
    rw [repl_eq, repl_eq] at h1
    have h2 := List.append_cancel_left (List.append_cancel_right h1)
    unfold cmpT
    rw [quote_inj _ _ h2]
    exact (cmpB_zero _ _).2 rfl
  · rw [if_neg (by decide), if_pos (.inr rfl)]
    rw [lit_bytes hx, lit_bytes hy] at h
    have h1 : blobL s'.data.toList = blobL t'.data.toList := by simpa using h
    unfold blobL at h1
    have h2 := List.append_cancel_left (List.append_cancel_right h1)
    unfold cmpT
    rw [hexS_inj _ _ h2]
    exact (cmpB_zero _ _).2 rfl
end Go.Proofs.YtkidihoaeicfdaaDoor.Pure
