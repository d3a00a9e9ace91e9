/- The order of values and of rows: turned about, and through a third one. No condition. -/
import Derived.Test.YtkidihoaeicfdaaDoorOrd
namespace Go.Proofs.YtkidihoaeicfdaaDoor.Pure
set_option linter.unusedVariables false
set_option linter.unusedSimpArgs false
open Go.RowKit Go.Proofs.YtkidihoaeicfdaaDoor.P Go.Proofs.YtkidihoaeicfdaaDoorW.PrintWords Go.Proofs.YtkidihoaeicfdaaDoorW.PrintLast Go.Proofs.YtkidihoaeicfdaaDoorW.PrintMore
theorem cmpI_neg (a b : Int) : cmpI b a = -cmpI a b := by
  unfold cmpI
  by_cases h : a < b
  · rw [if_pos h, if_neg (by omega), if_pos h]; rfl
  · by_cases h' : b < a
    · rw [if_pos h', if_neg h, if_pos h']
    · rw [if_neg h', if_neg h, if_neg h, if_neg h']; rfl
theorem cmpI_zero {a b : Int} : cmpI a b = 0 ↔ a = b := by
  unfold cmpI
  by_cases h : a < b
  · rw [if_pos h]; omega
  · by_cases h' : b < a
    · rw [if_neg h, if_pos h']; omega
    · rw [if_neg h, if_neg h']; omega
theorem cmpB_neg : ∀ a b : List UInt8, Lib.compareBytes b a = -Lib.compareBytes a b
  | [], [] => rfl
  | [], _ :: _ => rfl
  | _ :: _, [] => rfl
  | a :: l, b :: m => by
    unfold Lib.compareBytes
    have ih := cmpB_neg l m
    by_cases h : a < b
    · have h' : ¬ b < a := fun h2 => by have := UInt8.lt_iff_toNat_lt.1 h; have := UInt8.lt_iff_toNat_lt.1 h2; omega
      rw [if_pos h, if_neg h', if_pos h]; rfl
    · by_cases h' : b < a
      · rw [if_pos h', if_neg h, if_pos h']
      · rw [if_neg h', if_neg h, if_neg h, if_neg h', ih]
theorem cmpB_zero : ∀ a b : List UInt8, Lib.compareBytes a b = 0 ↔ a = b
  | [], [] => by simp [Lib.compareBytes]
  | [], _ :: _ => by simp [Lib.compareBytes]
  | _ :: _, [] => by simp [Lib.compareBytes]
  | a :: l, b :: m => by
    unfold Lib.compareBytes
    have ih := cmpB_zero l m
    by_cases h : a < b
    · rw [if_pos h]
      refine ⟨fun h1 => by omega, fun h1 => ?_⟩
      injection h1 with h2 h3; subst h2
      have := UInt8.lt_iff_toNat_lt.1 h; omega
    · by_cases h' : b < a
      · rw [if_neg h, if_pos h']
        refine ⟨fun h1 => by omega, fun h1 => ?_⟩
        injection h1 with h2 h3; subst h2
        have := UInt8.lt_iff_toNat_lt.1 h'; omega
      · rw [if_neg h, if_neg h', ih]
        have e : a = b := by
          apply UInt8.toNat_inj.1
          have h1 : ¬ a.toNat < b.toNat := fun x => h (UInt8.lt_iff_toNat_lt.2 x)
          have h2 : ¬ b.toNat < a.toNat := fun x => h' (UInt8.lt_iff_toNat_lt.2 x)
          omega
        constructor
        · rintro rfl; rw [e]
        · intro h1; injection h1
theorem cmpT_neg (a b : ByteArray) : cmpT b a = -cmpT a b := cmpB_neg _ _
theorem cmpT_zero {a b : ByteArray} : cmpT a b = 0 ↔ a = b := by
  unfold cmpT
  rw [cmpB_zero]
  constructor
  · intro h
    cases a; cases b
    exact congrArg ByteArray.mk (Array.toList_inj.1 h)
  · rintro rfl; rfl
theorem cmpV_neg (x y : S23) : cmpV y x = -cmpV x y := by
  unfold cmpV
  by_cases h : x.f0 = y.f0
  · rw [if_pos h, if_pos h.symm]
    by_cases h1 : x.f0 = 1 ∨ x.f0 = 2
    · rw [if_pos h1, if_pos (by omega), cmpI_neg]
    · rw [if_neg h1, if_neg (by omega)]
      by_cases h2 : x.f0 = 3 ∨ x.f0 = 4
      · rw [if_pos h2, if_pos (by omega), cmpT_neg]
      · rw [if_neg h2, if_neg (by omega)]; rfl
  · rw [if_neg h, if_neg (fun e => h e.symm), cmpI_neg]
theorem cmpI_lt {a b : Int} : cmpI a b = -1 ↔ a < b := by
  unfold cmpI
  by_cases h : a < b
  · rw [if_pos h]; exact ⟨fun _ => h, fun _ => rfl⟩
  · by_cases h' : b < a
    · rw [if_neg h, if_pos h']; constructor <;> intro <;> omega
    · rw [if_neg h, if_neg h']; constructor <;> intro <;> omega
theorem cmpB_trans : ∀ a b c : List UInt8, Lib.compareBytes a b = -1 → Lib.compareBytes b c = -1 → Lib.compareBytes a c = -1
  | [], _, [], h1, h2 => by
    rename_i b
    cases b with
    | nil => exact absurd h1 (by simp [Lib.compareBytes])
    | cons x m => exact absurd h2 (by simp [Lib.compareBytes])
  | [], _, _ :: _, _, _ => by simp [Lib.compareBytes]
  | _ :: _, [], _, h1, _ => absurd h1 (by simp [Lib.compareBytes])
  | _ :: _, _ :: _, [], _, h2 => absurd h2 (by simp [Lib.compareBytes])
  | a :: l, b :: m, c :: n, h1, h2 => by
    unfold Lib.compareBytes at h1 h2 ⊢
    have e1 := @UInt8.lt_iff_toNat_lt a b
    have e2 := @UInt8.lt_iff_toNat_lt b a
    have e3 := @UInt8.lt_iff_toNat_lt b c
    have e4 := @UInt8.lt_iff_toNat_lt c b
    have e5 := @UInt8.lt_iff_toNat_lt a c
    have e6 := @UInt8.lt_iff_toNat_lt c a
    by_cases p1 : a.toNat < b.toNat
    · by_cases p3 : b.toNat < c.toNat
      · rw [if_pos (e5.2 (by omega))]
      · rw [if_neg (fun h => p3 (e3.1 h))] at h2
        by_cases p4 : c.toNat < b.toNat
        · rw [if_pos (e4.2 p4)] at h2; omega
        · rw [if_pos (e5.2 (by omega))]
    · rw [if_neg (fun h => p1 (e1.1 h))] at h1
      by_cases p2 : b.toNat < a.toNat
      · rw [if_pos (e2.2 p2)] at h1; omega
      · rw [if_neg (fun h => p2 (e2.1 h))] at h1
        by_cases p3 : b.toNat < c.toNat
        · rw [if_pos (e5.2 (by omega))]
        · rw [if_neg (fun h => p3 (e3.1 h))] at h2
          by_cases p4 : c.toNat < b.toNat
          · rw [if_pos (e4.2 p4)] at h2; omega
          · rw [if_neg (fun h => p4 (e4.1 h))] at h2
            rw [if_neg (fun h => by have := e5.1 h; omega), if_neg (fun h => by have := e6.1 h; omega)]
            exact cmpB_trans l m n h1 h2
theorem cmpV_lt {x y : S23} : cmpV x y = -1 ↔ x.f0 < y.f0 ∨ (x.f0 = y.f0 ∧ ((x.f0 = 1 ∨ x.f0 = 2) ∧ x.f1 < y.f1 ∨ (x.f0 = 3 ∨ x.f0 = 4) ∧ cmpT x.f2 y.f2 = -1)) := by
  unfold cmpV
  by_cases h : x.f0 = y.f0
  · rw [if_pos h]
    by_cases h1 : x.f0 = 1 ∨ x.f0 = 2
    · rw [if_pos h1, cmpI_lt]
      constructor
      · intro h2; exact .inr ⟨h, .inl ⟨h1, h2⟩⟩
      · rintro (h2 | ⟨_, ⟨_, h2⟩ | ⟨h2, _⟩⟩)
        · omega
        · exact h2
        · omega
    · rw [if_neg h1]
      by_cases h2 : x.f0 = 3 ∨ x.f0 = 4
      · rw [if_pos h2]
        constructor
        · intro h3; exact .inr ⟨h, .inr ⟨h2, h3⟩⟩
        · rintro (h3 | ⟨_, ⟨h3, _⟩ | ⟨_, h3⟩⟩)
          · omega
          · exact absurd h3 h1
          · exact h3
      · rw [if_neg h2]
        constructor
        · intro h3; omega
        · rintro (h3 | ⟨_, ⟨h3, _⟩ | ⟨h3, _⟩⟩)
          · omega
          · exact absurd h3 h1
          · exact absurd h3 h2
  · rw [if_neg h, cmpI_lt]
    constructor
    · intro h1; exact .inl h1
    · rintro (h1 | ⟨h1, _⟩)
      · exact h1
      · exact absurd h1 h
theorem cmpV_trans {x y z : S23} (h1 : cmpV x y = -1) (h2 : cmpV y z = -1) : cmpV x z = -1 := by
  rw [cmpV_lt] at *
  rcases h1 with h1 | ⟨e1, h1⟩
  · rcases h2 with h2 | ⟨e2, _⟩
    · exact .inl (by omega)
    · exact .inl (by omega)
  · rcases h2 with h2 | ⟨e2, h2⟩
    · exact .inl (by omega)
    · refine .inr ⟨by omega, ?_⟩
      rcases h1 with ⟨k1, h1⟩ | ⟨k1, h1⟩
      · rcases h2 with ⟨k2, h2⟩ | ⟨k2, h2⟩
        · exact .inl ⟨k1, by omega⟩
        · omega
      · rcases h2 with ⟨k2, h2⟩ | ⟨k2, h2⟩
        · omega
        · exact .inr ⟨k1, cmpB_trans _ _ _ h1 h2⟩
/-- Ahead of it: the lesser, or the greater. -/
theorem cmpV_tr {x y z : S23} {sg : Int} (hs : sg = -1 ∨ sg = 1) (h1 : cmpV x y = sg) (h2 : cmpV y z = sg) : cmpV x z = sg := by
  rcases hs with rfl | rfl
  · exact cmpV_trans h1 h2
  · have a : cmpV y x = -1 := by rw [cmpV_neg x y, h1]
    have b : cmpV z y = -1 := by rw [cmpV_neg y z, h2]
    have c := cmpV_trans b a
    rw [cmpV_neg z x, c]; rfl
theorem cmpV_self (x : S23) : cmpV x x = 0 := by
  have h := cmpV_neg x x
  omega
theorem cmpV_eqv {x y : S23} (z : S23) (h : cmpV x y = 0) : cmpV x z = cmpV y z := by
  unfold cmpV at *
  by_cases hk : x.f0 = y.f0
  · rw [if_pos hk] at h
    rw [hk] at h ⊢
    by_cases h1 : y.f0 = 1 ∨ y.f0 = 2
    · rw [if_pos h1, cmpI_zero] at h
      rw [h]
      simp only [if_pos h1]
    · rw [if_neg h1] at h
      by_cases h2 : y.f0 = 3 ∨ y.f0 = 4
      · rw [if_pos h2, cmpT_zero] at h
        rw [h]
        simp only [if_neg h1]
      · simp only [if_neg h1, if_neg h2]
  · rw [if_neg hk, cmpI_zero] at h; exact absurd h hk
theorem cmpV_eqv' {x y : S23} (z : S23) (h : cmpV x y = 0) : cmpV z x = cmpV z y := by
  rw [cmpV_neg x z, cmpV_neg y z, cmpV_eqv z h]
theorem cmpR_neg : ∀ (d : List Bool) (a b : List S23), cmpR d b a = -cmpR d a b
  | _, [], [] => rfl
  | _, [], _ :: _ => rfl
  | _, _ :: _, [] => rfl
  | d, x :: a, y :: b => by
    unfold cmpR
    rw [cmpV_neg x y]
    by_cases h : cmpV x y = 0
    · rw [if_pos (by omega), if_pos h]; exact cmpR_neg d.tail a b
    · rw [if_neg (by omega), if_neg h]
      by_cases hd : d.headD false = true
      · rw [if_pos hd, if_pos hd]
      · rw [if_neg hd, if_neg hd]
theorem cmpR_self : ∀ (d : List Bool) (a : List S23), cmpR d a a = 0
  | _, [] => rfl
  | d, x :: a => by unfold cmpR; rw [if_pos (cmpV_self x)]; exact cmpR_self d.tail a
theorem cmpR_turn : ∀ (d t : List Bool) (a b : List S23), a.length = b.length → (∀ i, i < a.length → t.getD i false = !(d.getD i false)) → cmpR t a b = -cmpR d a b
  | _, _, [], [], _, _ => rfl
  | _, _, [], _ :: _, h, _ => by simp at h
  | _, _, _ :: _, [], h, _ => by simp at h
  | d, t, x :: a, y :: b, hl, h => by
    unfold cmpR
    have h0 := h 0 (by simp)
    have e0 : t.headD false = !(d.headD false) := by
      rw [show t.headD false = t.getD 0 false from by cases t <;> rfl, show d.headD false = d.getD 0 false from by cases d <;> rfl]; exact h0
    by_cases hz : cmpV x y = 0
    · rw [if_pos hz, if_pos hz]
      refine cmpR_turn d.tail t.tail a b (by simpa using hl) (fun i hi => ?_)
      have := h (i + 1) (by simp; omega)
      rw [show t.tail.getD i false = t.getD (i + 1) false from by cases t <;> rfl, show d.tail.getD i false = d.getD (i + 1) false from by cases d <;> rfl]
      exact this
    · rw [if_neg hz, if_neg hz, e0]
      cases d.headD false <;> simp
theorem cmpR_tr : ∀ (d : List Bool) (a b c : List S23), a.length = b.length → b.length = c.length → cmpR d a b ≤ 0 → cmpR d b c ≤ 0 →
    cmpR d a c ≤ 0 ∧ ((cmpR d a b = 0 ∧ cmpR d b c = 0) ∨ cmpR d a c < 0)
  | _, [], [], [], _, _, _, _ => ⟨by simp [cmpR], .inl ⟨rfl, rfl⟩⟩
  | _, [], _ :: _, _, h, _, _, _ => by simp at h
  | _, _ :: _, [], _, h, _, _, _ => by simp at h
  | _, [], [], _ :: _, _, h, _, _ => by simp at h
  | _, _ :: _, _ :: _, [], _, h, _, _ => by simp at h
  | d, x :: a, y :: b, z :: c, hl, hm, h1, h2 => by
    unfold cmpR at *
    have s1 := cmpV_s3 x y
    have s2 := cmpV_s3 y z
    unfold S3 at s1 s2
    by_cases u : cmpV x y = 0
    · have e := cmpV_eqv z u
      rw [if_pos u] at h1 ⊢
      by_cases v : cmpV y z = 0
      · rw [if_pos v] at h2 ⊢
        rw [if_pos (by omega)]
        exact cmpR_tr d.tail a b c (by simpa using hl) (by simpa using hm) h1 h2
      · rw [if_neg v] at h2 ⊢
        rw [if_neg (by omega), e]
        refine ⟨h2, .inr ?_⟩
        by_cases hd : d.headD false = true
        · rw [if_pos hd] at h2 ⊢; omega
        · rw [if_neg hd] at h2 ⊢; omega
    · rw [if_neg u] at h1 ⊢
      by_cases v : cmpV y z = 0
      · have e := cmpV_eqv' x v
        rw [if_neg (show ¬ cmpV x z = 0 by omega), ← e]
        refine ⟨h1, .inr ?_⟩
        by_cases hd : d.headD false = true
        · rw [if_pos hd] at h1 ⊢; omega
        · rw [if_neg hd] at h1 ⊢; omega
      · rw [if_neg v] at h2 ⊢
        by_cases hd : d.headD false = true
        · rw [if_pos hd] at h1 h2
          have e := cmpV_tr (sg := 1) (.inr rfl) (show cmpV x y = 1 by omega) (show cmpV y z = 1 by omega)
          rw [if_neg (by omega), if_pos hd, e]
          exact ⟨by decide, .inr (by decide)⟩
        · rw [if_neg hd] at h1 h2
          have e := cmpV_tr (sg := -1) (.inl rfl) (show cmpV x y = -1 by omega) (show cmpV y z = -1 by omega)
          rw [if_neg (by omega), if_neg hd, e]
          exact ⟨by decide, .inr (by decide)⟩
end Go.Proofs.YtkidihoaeicfdaaDoor.Pure
