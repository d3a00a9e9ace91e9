/- Laid by a program of this session out of its texts for the law AggOrder, part 6. -/
import Derived.Test.YtgjfciohmgpohaaZAggOrder5
section
namespace Go.Proofs.Ytgjfciohmgpohaa.Pure
set_option linter.unusedVariables false
set_option linter.unusedSimpArgs false
open Go.RowKit Go.Proofs.Ytgjfciohmgpohaa.P Go.Proofs.YtgjfciohmgpohaaW.PrintWords Go.Proofs.YtgjfciohmgpohaaW.PrintLast Go.Proofs.YtgjfciohmgpohaaW.PrintMore
theorem V0_list : V0.toList = [] := by rw [Go.ByteArray.toList_eq]; rfl
theorem cmpI_neg (a b : Int) : cmpI b a = -cmpI a b := by
  unfold cmpI
  by_cases h : a < b
  · rw [if_pos h, if_neg (by omega), if_pos h]; rfl
  · by_cases h' : b < a
    · rw [if_pos h', if_neg h, if_pos h']
    · rw [if_neg h', if_neg h, if_neg h, if_neg h']; rfl
theorem cmpI_zero {a b : Int} : cmpI a b = 0 ↔ a = b := by
  unfold cmpI
  by_cases h : a < b
  · rw [if_pos h]; omega
  · by_cases h' : b < a
    · rw [if_neg h, if_pos h']; omega
    · rw [if_neg h, if_neg h']; omega
theorem cmpB_neg : ∀ a b : List UInt8, Lib.compareBytes b a = -Lib.compareBytes a b
  | [], [] => rfl
  | [], _ :: _ => rfl
  | _ :: _, [] => rfl
  | a :: l, b :: m => by
    unfold Lib.compareBytes
    have ih := cmpB_neg l m
    by_cases h : a < b
    · have h' : ¬ b < a := fun h2 => by have := UInt8.lt_iff_toNat_lt.1 h; have := UInt8.lt_iff_toNat_lt.1 h2; omega
      rw [if_pos h, if_neg h', if_pos h]; rfl
    · by_cases h' : b < a
      · rw [if_pos h', if_neg h, if_pos h']
      · rw [if_neg h', if_neg h, if_neg h, if_neg h', ih]
theorem cmpB_zero : ∀ a b : List UInt8, Lib.compareBytes a b = 0 ↔ a = b
  | [], [] => by simp [Lib.compareBytes]
  | [], _ :: _ => by simp [Lib.compareBytes]
  | _ :: _, [] => by simp [Lib.compareBytes]
  | a :: l, b :: m => by
    unfold Lib.compareBytes
    have ih := cmpB_zero l m
    by_cases h : a < b
    · rw [if_pos h]
      refine ⟨fun h1 => by omega, fun h1 => ?_⟩
      injection h1 with h2 h3; subst h2
      have := UInt8.lt_iff_toNat_lt.1 h; omega
    · by_cases h' : b < a
      · rw [if_neg h, if_pos h']
        refine ⟨fun h1 => by omega, fun h1 => ?_⟩
        injection h1 with h2 h3; subst h2
        have := UInt8.lt_iff_toNat_lt.1 h'; omega
      · rw [if_neg h, if_neg h', ih]
        have e : a = b := by
          apply UInt8.toNat_inj.1
          have h1 : ¬ a.toNat < b.toNat := fun x => h (UInt8.lt_iff_toNat_lt.2 x)
          have h2 : ¬ b.toNat < a.toNat := fun x => h' (UInt8.lt_iff_toNat_lt.2 x)
          omega
        constructor
        · rintro rfl; rw [e]
        · intro h1; injection h1
theorem cmpT_neg (a b : ByteArray) : cmpT b a = -cmpT a b := cmpB_neg _ _
theorem cmpT_zero {a b : ByteArray} : cmpT a b = 0 ↔ a = b := by
  unfold cmpT
  rw [cmpB_zero]
  constructor
  · intro h
    cases a; cases b
    exact congrArg ByteArray.mk (Array.toList_inj.1 h)
  · rintro rfl; rfl
theorem cmpV_neg (x y : S32) : cmpV y x = -cmpV x y := by
  unfold cmpV
  by_cases h : x.f0 = y.f0
  · rw [if_pos h, if_pos h.symm]
    by_cases h1 : x.f0 = 1 ∨ x.f0 = 2
    · rw [if_pos h1, if_pos (by omega), cmpI_neg]
    · rw [if_neg h1, if_neg (by omega)]
      by_cases h2 : x.f0 = 3 ∨ x.f0 = 4
      · rw [if_pos h2, if_pos (by omega), cmpT_neg]
      · rw [if_neg h2, if_neg (by omega)]; rfl
  · rw [if_neg h, if_neg (fun e => h e.symm), cmpI_neg]
theorem okV_num {x : S32} (h : okV x = true) (h2 : x.f0 = 1 ∨ x.f0 = 2) : x.f2 = V0 := by
  have h' : chkR x.f0 x.f1 x.f2 = 0 := beq_iff_eq.1 h
  have hc : x.f2.toList = [] := by
    unfold chkR at h'
    rw [if_neg (by omega)] at h'
    by_cases h1 : x.f0 = 1
    · rw [if_pos h1] at h'
      by_cases hc : (x.f1 = 0 ∨ x.f1 = 1) ∧ x.f2.toList = []
      · exact hc.2
      · rw [if_neg hc] at h'; omega
    · rw [if_neg h1, if_pos (by omega)] at h'
      by_cases hc : x.f2.toList = []
      · exact hc
      · rw [if_neg hc] at h'; omega
  exact toList_inj (hc.trans V0_list.symm)
theorem okV_text {x : S32} (h : okV x = true) (h1 : x.f0 = 3 ∨ x.f0 = 4) : x.f1 = 0 := by
  have h' : chkR x.f0 x.f1 x.f2 = 0 := beq_iff_eq.1 h
  unfold chkR at h'
  rw [if_neg (by omega), if_neg (by omega), if_neg (by omega), if_pos h1] at h'
  by_cases hc : x.f1 = 0
  · exact hc
  · rw [if_neg hc] at h'; omega
theorem okV_kind {x : S32} (h : okV x = true) : 0 ≤ x.f0 ∧ x.f0 ≤ 4 := by
  have h' : chkR x.f0 x.f1 x.f2 = 0 := beq_iff_eq.1 h
  unfold chkR at h'
  by_cases h0 : x.f0 = 0
  · omega
  by_cases h1 : x.f0 = 1
  · omega
  by_cases h2 : x.f0 = 2
  · omega
  by_cases h3 : x.f0 = 3 ∨ x.f0 = 4
  · omega
  rw [if_neg h0, if_neg h1, if_neg h2, if_neg h3] at h'
  omega
theorem cmpV_zero {x y : S32} (hx : okV x = true) (hy : okV y = true) (hk : x.f0 = y.f0) (h0 : ¬ x.f0 = 0) : cmpV x y = 0 ↔ x = y := by
  have k := okV_kind hx
  unfold cmpV
  rw [if_pos hk]
  by_cases h1 : x.f0 = 1 ∨ x.f0 = 2
  · rw [if_pos h1, cmpI_zero]
    have tx := okV_num hx h1
    have ty := okV_num hy (by omega)
    constructor
    · intro h; cases x; cases y; simp only at hk h tx ty; subst hk; subst h; subst tx; subst ty; rfl
    · rintro rfl; rfl
  · have h3 : x.f0 = 3 ∨ x.f0 = 4 := by omega
    rw [if_neg h1, if_pos h3, cmpT_zero]
    have tx := okV_text hx h3
    have ty := okV_text hy (by omega)
    constructor
    · intro h; cases x; cases y; simp only at hk h tx ty; subst hk; subst h; subst tx; subst ty; rfl
    · rintro rfl; rfl
end Go.Proofs.Ytgjfciohmgpohaa.Pure
end
section
namespace Go.Proofs.Ytgjfciohmgpohaa.Pure
set_option linter.unusedVariables false
set_option linter.unusedSimpArgs false
open Go.RowKit Go.Proofs.Ytgjfciohmgpohaa.P Go.Proofs.YtgjfciohmgpohaaW.PrintWords Go.Proofs.YtgjfciohmgpohaaW.PrintLast Go.Proofs.YtgjfciohmgpohaaW.PrintMore
theorem cmpI_lt {a b : Int} : cmpI a b = -1 ↔ a < b := by
  unfold cmpI
  by_cases h : a < b
  · rw [if_pos h]; exact ⟨fun _ => h, fun _ => rfl⟩
  · by_cases h' : b < a
    · rw [if_neg h, if_pos h']; constructor <;> intro <;> omega
    · rw [if_neg h, if_neg h']; constructor <;> intro <;> omega
theorem cmpB_trans : ∀ a b c : List UInt8, Lib.compareBytes a b = -1 → Lib.compareBytes b c = -1 → Lib.compareBytes a c = -1
  | [], _, [], h1, h2 => by
    rename_i b
    cases b with
    | nil => exact absurd h1 (by simp [Lib.compareBytes])
    | cons x m => exact absurd h2 (by simp [Lib.compareBytes])
  | [], _, _ :: _, _, _ => by simp [Lib.compareBytes]
  | _ :: _, [], _, h1, _ => absurd h1 (by simp [Lib.compareBytes])
  | _ :: _, _ :: _, [], _, h2 => absurd h2 (by simp [Lib.compareBytes])
  | a :: l, b :: m, c :: n, h1, h2 => by
    unfold Lib.compareBytes at h1 h2 ⊢
    have e1 := @UInt8.lt_iff_toNat_lt a b
    have e2 := @UInt8.lt_iff_toNat_lt b a
    have e3 := @UInt8.lt_iff_toNat_lt b c
    have e4 := @UInt8.lt_iff_toNat_lt c b
    have e5 := @UInt8.lt_iff_toNat_lt a c
    have e6 := @UInt8.lt_iff_toNat_lt c a
    by_cases p1 : a.toNat < b.toNat
    · by_cases p3 : b.toNat < c.toNat
      · rw [if_pos (e5.2 (by omega))]
      · rw [if_neg (fun h => p3 (e3.1 h))] at h2
        by_cases p4 : c.toNat < b.toNat
        · rw [if_pos (e4.2 p4)] at h2; omega
        · rw [if_pos (e5.2 (by omega))]
    · rw [if_neg (fun h => p1 (e1.1 h))] at h1
      by_cases p2 : b.toNat < a.toNat
      · rw [if_pos (e2.2 p2)] at h1; omega
      · rw [if_neg (fun h => p2 (e2.1 h))] at h1
        by_cases p3 : b.toNat < c.toNat
        · rw [if_pos (e5.2 (by omega))]
        · rw [if_neg (fun h => p3 (e3.1 h))] at h2
          by_cases p4 : c.toNat < b.toNat
          · rw [if_pos (e4.2 p4)] at h2; omega
          · rw [if_neg (fun h => p4 (e4.1 h))] at h2
            rw [if_neg (fun h => by have := e5.1 h; omega), if_neg (fun h => by have := e6.1 h; omega)]
            exact cmpB_trans l m n h1 h2
theorem cmpV_lt {x y : S32} : cmpV x y = -1 ↔ x.f0 < y.f0 ∨ (x.f0 = y.f0 ∧ ((x.f0 = 1 ∨ x.f0 = 2) ∧ x.f1 < y.f1 ∨ (x.f0 = 3 ∨ x.f0 = 4) ∧ cmpT x.f2 y.f2 = -1)) := by
  unfold cmpV
  by_cases h : x.f0 = y.f0
  · rw [if_pos h]
    by_cases h1 : x.f0 = 1 ∨ x.f0 = 2
    · rw [if_pos h1, cmpI_lt]
      constructor
      · intro h2; exact .inr ⟨h, .inl ⟨h1, h2⟩⟩
      · rintro (h2 | ⟨_, ⟨_, h2⟩ | ⟨h2, _⟩⟩)
        · omega
        · exact h2
        · omega
    · rw [if_neg h1]
      by_cases h2 : x.f0 = 3 ∨ x.f0 = 4
      · rw [if_pos h2]
        constructor
        · intro h3; exact .inr ⟨h, .inr ⟨h2, h3⟩⟩
        · rintro (h3 | ⟨_, ⟨h3, _⟩ | ⟨_, h3⟩⟩)
          · omega
          · exact absurd h3 h1
          · exact h3
      · rw [if_neg h2]
        constructor
        · intro h3; omega
        · rintro (h3 | ⟨_, ⟨h3, _⟩ | ⟨h3, _⟩⟩)
          · omega
          · exact absurd h3 h1
          · exact absurd h3 h2
  · rw [if_neg h, cmpI_lt]
    constructor
    · intro h1; exact .inl h1
    · rintro (h1 | ⟨h1, _⟩)
      · exact h1
      · exact absurd h1 h
theorem cmpV_trans {x y z : S32} (h1 : cmpV x y = -1) (h2 : cmpV y z = -1) : cmpV x z = -1 := by
  rw [cmpV_lt] at *
  rcases h1 with h1 | ⟨e1, h1⟩
  · rcases h2 with h2 | ⟨e2, _⟩
    · exact .inl (by omega)
    · exact .inl (by omega)
  · rcases h2 with h2 | ⟨e2, h2⟩
    · exact .inl (by omega)
    · refine .inr ⟨by omega, ?_⟩
      rcases h1 with ⟨k1, h1⟩ | ⟨k1, h1⟩
      · rcases h2 with ⟨k2, h2⟩ | ⟨k2, h2⟩
        · exact .inl ⟨k1, by omega⟩
        · omega
      · rcases h2 with ⟨k2, h2⟩ | ⟨k2, h2⟩
        · omega
        · exact .inr ⟨k1, cmpB_trans _ _ _ h1 h2⟩
theorem cmpV_tr {x y z : S32} {sg : Int} (hs : sg = -1 ∨ sg = 1) (h1 : cmpV x y = sg) (h2 : cmpV y z = sg) : cmpV x z = sg := by
  rcases hs with rfl | rfl
  · exact cmpV_trans h1 h2
  · have a : cmpV y x = -1 := by rw [cmpV_neg x y, h1]
    have b : cmpV z y = -1 := by rw [cmpV_neg y z, h2]
    have c := cmpV_trans b a
    rw [cmpV_neg z x, c]; rfl
theorem cmpV_self (x : S32) : cmpV x x = 0 := by
  have h := cmpV_neg x x
  omega
theorem cmpV_kind {x y : S32} (h : cmpV x y = 0) : x.f0 = y.f0 := by
  unfold cmpV at h
  by_cases hk : x.f0 = y.f0
  · exact hk
  · rw [if_neg hk, cmpI_zero] at h; exact h
def cnt (l : List S32) : Nat := (l.filter fun v => decide (¬ v.f0 = 0)).length
theorem cnt_cons (v : S32) (l : List S32) : cnt (v :: l) = (if v.f0 = 0 then 0 else 1) + cnt l := by
  unfold cnt
  rw [List.filter_cons]
  by_cases h : v.f0 = 0
  · rw [if_neg (by simp [h]), if_pos h]; omega
  · rw [if_pos (by simp [h]), if_neg h, List.length_cons]; omega
theorem go_count : ∀ (l : List S32) (n : Nat), n + l.length < 9223372036854775807 → goG false (.count n) l = some (.count ((n + cnt l : Nat) : Int))
  | [], n, h => by simp [goG, cnt]
  | v :: l, n, h => by
    rw [List.length_cons] at h
    unfold goG addP
    by_cases h0 : v.f0 = 0
    · rw [if_pos (show v.f0 = 0 ∧ false = false from ⟨h0, rfl⟩), if_pos rfl, go_count l n (by omega), cnt_cons, if_pos h0, Nat.zero_add]
    · rw [if_neg (show ¬ (v.f0 = 0 ∧ false = false) from fun h => h0 h.1)]
      simp only [if_true]
      have hw : wrap64 ((n : Int) + 1) = ((n + 1 : Nat) : Int) := by unfold wrap64; omega
      rw [hw, go_count l (n + 1) (by omega), cnt_cons, if_neg h0]
      congr 3
      omega
def bst (sg : Int) : S32 → List S32 → S32
  | u, [] => u
  | u, v :: t => bst sg (if v.f0 = 0 then u else if u.f0 = 0 ∨ cmpV v u = sg then v else u) t
theorem go_best (sg : Int) : ∀ (l : List S32) (u : S32), goG false (.best u sg) l = some (.best (bst sg u l) sg)
  | [], u => rfl
  | v :: l, u => by
    unfold goG addP bst
    by_cases h0 : v.f0 = 0
    · rw [if_pos (show v.f0 = 0 ∧ false = false from ⟨h0, rfl⟩), if_pos rfl, if_pos h0]; exact go_best sg l u
    · rw [if_neg (show ¬ (v.f0 = 0 ∧ false = false) from fun h => h0 h.1), if_neg h0]
      by_cases h1 : u.f0 = 0 ∨ cmpV v u = sg
      · simp only [if_pos h1, if_true]; exact go_best sg l v
      · simp only [if_neg h1, if_true]; exact go_best sg l u
theorem gath_count (l : List S32) (h : l.length < 9223372036854775807) : gathP 1 l = (numV (cnt l), true) := by
  have : gathP 1 l = match goG false (.count ((0 : Nat) : Int)) l with | none => (zeroV, false) | some s => (valP s, true) := rfl
  rw [this, go_count l 0 (by omega), Nat.zero_add]
  rfl
theorem gath_min (l : List S32) : gathP 3 l = (bst (-1) zeroV l, true) := by
  have : gathP 3 l = match goG false (.best zeroV (-1)) l with | none => (zeroV, false) | some s => (valP s, true) := rfl
  rw [this, go_best]
  rfl
theorem gath_max (l : List S32) : gathP 4 l = (bst 1 zeroV l, true) := by
  have : gathP 4 l = match goG false (.best zeroV 1) l with | none => (zeroV, false) | some s => (valP s, true) := rfl
  rw [this, go_best]
  rfl
def Best (sg : Int) (P : S32 → Prop) (r : S32) : Prop := (P r ∧ ¬ r.f0 = 0 ∧ ∀ x, P x → ¬ x.f0 = 0 → ¬ cmpV x r = sg) ∨ (r = zeroV ∧ ∀ x, P x → x.f0 = 0)
theorem best_of {sg : Int} (hs : sg = -1 ∨ sg = 1) : ∀ (l : List S32) (u : S32) (P : S32 → Prop), Best sg P u → Best sg (fun x => P x ∨ x ∈ l) (bst sg u l)
  | [], u, P, h => by
    have e : (fun x => P x ∨ x ∈ ([] : List S32)) = P := by funext x; simp
    rw [e]; exact h
  | v :: l, u, P, h => by
    unfold bst
    have e : (fun x => P x ∨ x ∈ v :: l) = (fun x => (P x ∨ x = v) ∨ x ∈ l) := by funext x; simp [or_assoc]
    rw [e]
    refine best_of hs l _ (fun x => P x ∨ x = v) ?_
    by_cases h0 : v.f0 = 0
    · rw [if_pos h0]
      rcases h with ⟨h1, h2, h3⟩ | ⟨h1, h2⟩
      · exact .inl ⟨.inl h1, h2, fun x hx hn => hx.elim (fun hx => h3 x hx hn) (fun hx => absurd (hx ▸ h0) hn)⟩
      · exact .inr ⟨h1, fun x hx => hx.elim (h2 x) (fun hx => hx ▸ h0)⟩
    · rw [if_neg h0]
      by_cases hu : u.f0 = 0
      · rw [if_pos (.inl hu)]
        refine .inl ⟨.inr rfl, h0, fun x hx hn => ?_⟩
        rcases hx with hx | rfl
        · rcases h with ⟨_, h2, _⟩ | ⟨_, h2⟩
          · exact absurd hu h2
          · exact absurd (h2 x hx) hn
        · rw [cmpV_self]; rcases hs with rfl | rfl <;> decide
      · have hh : P u ∧ ∀ x, P x → ¬ x.f0 = 0 → ¬ cmpV x u = sg := by
          rcases h with ⟨h1, _, h3⟩ | ⟨h1, _⟩
          · exact ⟨h1, h3⟩
          · exact absurd (by rw [h1]; rfl) hu
        by_cases hc : cmpV v u = sg
        · rw [if_pos (.inr hc)]
          refine .inl ⟨.inr rfl, h0, fun x hx hn => ?_⟩
          rcases hx with hx | rfl
          · exact fun hxv => hh.2 x hx hn (cmpV_tr hs hxv hc)
          · rw [cmpV_self]; rcases hs with rfl | rfl <;> decide
        · rw [if_neg (fun h => h.elim hu hc)]
          refine .inl ⟨.inl hh.1, hu, fun x hx hn => ?_⟩
          rcases hx with hx | rfl
          · exact hh.2 x hx hn
          · exact hc
theorem best_all {sg : Int} (hs : sg = -1 ∨ sg = 1) (l : List S32) : Best sg (fun x => x ∈ l) (bst sg zeroV l) := by
  have h := best_of hs l zeroV (fun _ => False) (.inr ⟨rfl, fun _ h => h.elim⟩)
  have e : (fun x => False ∨ x ∈ l) = (fun x => x ∈ l) := by funext x; simp
  rwa [e] at h
theorem best_one {sg : Int} (hs : sg = -1 ∨ sg = 1) {P : S32 → Prop} (hP : ∀ x, P x → okV x = true) {r s : S32} (h1 : Best sg P r) (h2 : Best sg P s) : r = s := by
  rcases h1 with ⟨a1, a2, a3⟩ | ⟨a1, a2⟩
  · rcases h2 with ⟨b1, b2, b3⟩ | ⟨b1, b2⟩
    · have c1 := a3 s b1 b2
      have c2 := b3 r a1 a2
      have c3 := cmpV_s3 r s
      have c4 := cmpV_neg r s
      have hz : cmpV r s = 0 := by
        unfold S3 at c3
        rcases hs with rfl | rfl <;> omega
      exact (cmpV_zero (hP r a1) (hP s b1) (cmpV_kind hz) a2).1 hz
    · exact absurd (b2 r a1) a2
  · rcases h2 with ⟨b1, b2, _⟩ | ⟨b1, _⟩
    · exact absurd (a2 s b1) b2
    · rw [a1, b1]
end Go.Proofs.Ytgjfciohmgpohaa.Pure
end
section
namespace Go.Proofs.Ytgjfciohmgpohaa.Pure
set_option linter.unusedVariables false
set_option linter.unusedSimpArgs false
open Go.RowKit Go.Proofs.Ytgjfciohmgpohaa.P Go.Proofs.YtgjfciohmgpohaaW.PrintWords Go.Proofs.YtgjfciohmgpohaaW.PrintLast Go.Proofs.YtgjfciohmgpohaaW.PrintMore
theorem num_f (n : Int) : quarrylaw17_number.f n = some (2, n, V0) := rfl
theorem works_f : quarrylaw17_works.f = some true := by
  have b1 : quarrylaw17_gathered.f 2 [⟨2, 1, V0⟩, ⟨0, 0, V0⟩, ⟨2, 2, V0⟩] = some (2, 3, V0, true) := by kernel_rfl
  have b2 : quarrylaw17_gathered.f 2 [] = some (0, 0, V0, true) := by kernel_rfl
  have b3 : quarrylaw17_gathered.f 4 [⟨3, 0, ⟨#[97]⟩⟩, ⟨3, 0, ⟨#[98]⟩⟩] = some (3, 0, ⟨#[98]⟩, true) := by kernel_rfl
  have b4 : quarrylaw17_gathered.f 2 [⟨2, 9223372036854775807, V0⟩, ⟨2, 1, V0⟩] = some (0, 0, V0, false) := by kernel_rfl
  have e : (⟨#[98]⟩ : ByteArray).toList = [98] := by rw [Go.ByteArray.toList_eq]
  have e0 : (⟨#[]⟩ : ByteArray) = V0 := rfl
  unfold quarrylaw17_works.f
  simp only [num_f, Option.bind_some, e0, b1, b2, b3, b4, e, V0_list]
  rfl
theorem fits_right {l : List S32} (hl : G22 l) : fitsB l = true := of_fits (fun v hv => ⟨wf64 (hl.1 v hv).2.1, (hl.1 v hv).2.2⟩)
theorem gath_f (op : Int) (l : List S32) (h : fitsB l = true) : quarrylaw17_gathered.f op l = some ((gathP op l).1.f0, (gathP op l).1.f1, (gathP op l).1.f2, (gathP op l).2) := if_pos h
end Go.Proofs.Ytgjfciohmgpohaa.Pure
end
section
namespace Go.Proofs.Ytgjfciohmgpohaa.Pure
open Go.RowKit Go.Proofs.Ytgjfciohmgpohaa.P Go.Proofs.YtgjfciohmgpohaaW.PrintWords Go.Proofs.YtgjfciohmgpohaaW.PrintLast
def tot : List S32 → Int
  | [] => 0
  | v :: t => (if v.f0 = 0 then 0 else v.f1) + tot t
theorem tot_perm {l m : List S32} (h : l.Perm m) : tot l = tot m := by
  induction h with
  | nil => rfl
  | cons x _ ih => simp only [tot, ih]
  | swap x y l => simp only [tot]; omega
  | trans _ _ h1 h2 => exact h1.trans h2
theorem cnt_perm {l m : List S32} (h : l.Perm m) : cnt l = cnt m := (h.filter _).length_eq
theorem bin_11 {n : Int} {v : S32} (h0 : ¬ v.f0 = 0) : (bin 11 (numV n) v = .ok (numV (n + v.f1))) ∨ (∃ c, bin 11 (numV n) v = .error c ∧ ¬ c = 0) := by
  unfold bin
  rw [if_neg (show ¬ ¬ (3 ≤ (11 : Int) ∧ (11 : Int) ≤ 16) by omega)]
  by_cases hk : kindsP 11 (numV n).f0 v.f0
  · rw [if_neg (fun h => h hk), if_neg (show ¬ (11 : Int) ≤ 4 by omega), if_neg (show ¬ ((numV n).f0 = 0 ∨ v.f0 = 0) from fun h => h.elim (fun h => absurd (show (2 : Int) = 0 from h) (by decide)) h0), if_neg (show ¬ (11 : Int) ≤ 10 by omega), if_neg (show ¬ (11 : Int) = 16 by omega)]
    unfold sumP
    rw [if_pos rfl]
    by_cases hi : In64 ((numV n).f1 + v.f1)
    · rw [if_pos hi]; exact .inl rfl
    · rw [if_neg hi]; exact .inr ⟨40, rfl, by decide⟩
  · rw [if_pos hk]; exact .inr ⟨35, rfl, by decide⟩
def sumV (c : Nat) (n : Int) : S32 := if c = 0 then zeroV else numV n
theorem sumV_base {c : Nat} {n : Int} (h : c = 0 → n = 0) : (if (sumV c n).f0 = 0 then numV 0 else sumV c n) = numV n := by
  unfold sumV
  by_cases hc : c = 0
  · rw [if_pos hc, if_pos (show zeroV.f0 = 0 from rfl), h hc]
  · rw [if_neg hc, if_neg (show ¬ (numV n).f0 = 0 from show ¬ (2 : Int) = 0 by decide)]
theorem go_sum : ∀ (l : List S32) (c : Nat) (n : Int) (st : Gst), (c = 0 → n = 0) → goG false (.sum (sumV c n)) l = some st → st = .sum (sumV (c + cnt l) (n + tot l))
  | [], c, n, st, h, hg => by
    unfold goG at hg
    injection hg with hg
    rw [← hg]
    simp [cnt, tot]
  | v :: l, c, n, st, h, hg => by
    unfold goG addP at hg
    rw [cnt_cons]
    unfold tot
    by_cases h0 : v.f0 = 0
    · rw [if_pos (show v.f0 = 0 ∧ false = false from ⟨h0, rfl⟩), if_pos rfl] at hg
      rw [if_pos h0, if_pos h0, Nat.zero_add, Int.zero_add]
      exact go_sum l c n st h hg
    · rw [if_neg (show ¬ (v.f0 = 0 ∧ false = false) from fun h => h0 h.1)] at hg
      rw [if_neg h0, if_neg h0]
      rcases bin_11 (n := n) h0 with hb | ⟨e, hb, he⟩
      · have hs : sumA (sumV c n) v = (numV (n + v.f1), 0) := by unfold sumA; rw [sumV_base h, hb]
        simp only [hs, if_true] at hg
        have ih := go_sum l (c + 1) (n + v.f1) st (fun h => by omega) (by rw [show sumV (c + 1) (n + v.f1) = numV (n + v.f1) from if_neg (by omega)]; exact hg)
        rw [ih, Nat.add_assoc, Int.add_assoc]
      · have hs : sumA (sumV c n) v = (sumV c n, e) := by unfold sumA; rw [sumV_base h, hb]
        simp only [hs, if_neg he] at hg
        cases hg
theorem gath_sum {l : List S32} (h : (gathP 2 l).2 = true) : (gathP 2 l).1 = sumV (cnt l) (tot l) := by
  have e : gathP 2 l = match goG false (.sum (sumV 0 0)) l with | none => (zeroV, false) | some s => (valP s, true) := rfl
  rw [e] at h ⊢
  cases hg : goG false (.sum (sumV 0 0)) l with
  | none => rw [hg] at h; cases h
  | some st =>
    have := go_sum l 0 0 st (fun _ => rfl) hg
    rw [this, Nat.zero_add, Int.zero_add]
    rfl
theorem gath_perm {op : Int} {l m : List S32} (hp : m.Perm l) (hl : l.length < 9223372036854775807) (ok : ∀ v ∈ l, okV v = true) (h1 : (gathP op l).2 = true) (h2 : (gathP op m).2 = true) : (gathP op m).1 = (gathP op l).1 := by
  by_cases o1 : op = 1
  · subst o1
    rw [gath_count l hl, gath_count m (by rw [hp.length_eq]; exact hl), cnt_perm hp]
  by_cases o2 : op = 2
  · subst o2
    rw [gath_sum h1, gath_sum h2, cnt_perm hp, tot_perm hp]
  have eP : (fun x => x ∈ m) = (fun x => x ∈ l) := by funext x; exact propext hp.mem_iff
  by_cases o3 : op = 3
  · subst o3
    rw [gath_min, gath_min]
    have a := best_all (sg := -1) (.inl rfl) l
    have b := best_all (sg := -1) (.inl rfl) m
    rw [eP] at b
    exact best_one (.inl rfl) (fun x hx => ok x hx) b a
  by_cases o4 : op = 4
  · subst o4
    rw [gath_max, gath_max]
    have a := best_all (sg := 1) (.inr rfl) l
    have b := best_all (sg := 1) (.inr rfl) m
    rw [eP] at b
    exact best_one (.inr rfl) (fun x hx => ok x hx) b a
  · have hn : newP op false = none := by unfold newP; rw [if_neg o1, if_neg (by decide), if_neg o2, if_neg o3, if_neg o4]
    unfold gathP at h1
    rw [hn] at h1
    cases h1
theorem order_end (op : Int) {l m : List S32} (hp : m.Perm l) (hl : l.length < 9223372036854775807) (ok : ∀ v ∈ l, okV v = true) (fl : fitsB l = true) (fm : fitsB m = true) :
    ((quarrylaw17_gathered.f op l).bind fun b => ((quarrylaw17_gathered.f op m).bind fun c => (if b.2.2.2 = true then (if c.2.2.2 = true then (some (b.1 == c.1 && (b.2.1 == c.2.1 && (b.2.2.1.toList == c.2.2.1.toList)))) else (some true)) else (some true)))) = some true := by
  rw [gath_f op l fl, gath_f op m fm, Option.bind_some, Option.bind_some]
  by_cases h1 : (gathP op l).2 = true
  · by_cases h2 : (gathP op m).2 = true
    · rw [if_pos h1, if_pos h2, gath_perm hp hl ok h1 h2]; simp
    · rw [if_pos h1, if_neg h2]
  · rw [if_neg h1]
theorem at_in {n : Int} (h0 : 0 < n) (h1 : n < 140737488355328) (a : Int) : 0 ≤ wrap64 (Int.tmod (IntKind.u64.wrap a) (IntKind.u64.wrap n)) ∧ wrap64 (Int.tmod (IntKind.u64.wrap a) (IntKind.u64.wrap n)) < n := by
  have e1 : IntKind.u64.wrap n = n := by rw [IntKind.wrap_u64]; omega
  have e2 : 0 ≤ IntKind.u64.wrap a := by rw [IntKind.wrap_u64]; omega
  rw [e1, Int.tmod_eq_emod_of_nonneg e2]
  have a1 := Int.emod_nonneg (IntKind.u64.wrap a) (show n ≠ 0 by omega)
  have a2 := Int.emod_lt_of_pos (IntKind.u64.wrap a) h0
  unfold wrap64
  omega
theorem swap_perm (l : List S32) (i j : Int) (hi : 0 ≤ i) (hj : 0 ≤ j) (hi' : i < l.length) (hj' : j < l.length) : ((l.set i.toNat (rd_T32 l j)).set j.toNat (rd_T32 l i)).Perm l := by
  have a : i.toNat < l.toArray.size := by simp; omega
  have b : j.toNat < l.toArray.size := by simp; omega
  have h := Array.swap_perm (xs := l.toArray) (i := i.toNat) (j := j.toNat) a b
  have h2 := Array.perm_iff_toList_perm.1 h
  have e1 : rd_T32 l j = l[j.toNat]'(by omega) := by unfold rd_T32; simp [show j.toNat < l.length by omega]
  have e2 : rd_T32 l i = l[i.toNat]'(by omega) := by unfold rd_T32; simp [show i.toNat < l.length by omega]
  rw [e1, e2]
  simpa [Array.swap_def] using h2
theorem order_loop (a0 : Int) (l : List S32) (x2 : List Int) (hl : l.length < 140737488355328) (hx : x2.length < 140737488355328) (ok : ∀ v ∈ l, okV v = true) (fl : fitsB l = true) :
    ∀ (n : Nat) (m : List S32) (x8 : Int), 0 ≤ x8 → x8 ≤ x2.length + 1 → (x2.length : Int) - x8 < n → m.Perm l → Ev (fun k => quarrylaw17_AggOrder.l0 k a0 l x2 m x8) true
  | 0, m, x8, h0, h1, h2, hp => by
    have fm : fitsB m = true := of_fits fun v hv => fits_of fl v (hp.mem_iff.1 hv)
    refine Ev.succ ?_
    have hw : wrap64 (x8 + 1) = x8 + 1 := by unfold wrap64; omega
    have he := fun op => order_end op hp (by omega) ok fl fm
    simp only [quarrylaw17_AggOrder.l0, hw, if_neg (show ¬ x8 + 1 < (x2.length : Int) by omega), he]
    exact Ev.pure _
  | n + 1, m, x8, h0, h1, h2, hp => by
    have fm : fitsB m = true := of_fits fun v hv => fits_of fl v (hp.mem_iff.1 hv)
    refine Ev.succ ?_
    have hw : wrap64 (x8 + 1) = x8 + 1 := by unfold wrap64; omega
    have hw2 : wrap64 (x8 + 2) = x8 + 2 := by unfold wrap64; omega
    have he := fun op => order_end op hp (by omega) ok fl fm
    have hml : m.length = l.length := hp.length_eq
    by_cases c1 : x8 + 1 < (x2.length : Int)
    · by_cases c2 : (m.length : Int) > 0
      · have ne : ¬ IntKind.u64.wrap (m.length : Int) = 0 := by rw [IntKind.wrap_u64]; omega
        have ai := at_in c2 (by omega) (rd x2 x8)
        have aj := at_in c2 (by omega) (rd x2 (x8 + 1))
        have ih := order_loop a0 l x2 hl hx ok fl n _ (x8 + 2) (by omega) (by omega) (by omega) ((swap_perm m _ _ ai.1 aj.1 ai.2 aj.2).trans hp)
        simp only [quarrylaw17_AggOrder.l0, hw, hw2, if_pos c1, if_pos c2, if_pos h0, if_pos (show x8 < (x2.length : Int) by omega), if_neg ne, if_pos (show 0 ≤ x8 + 1 by omega), if_pos aj.1, if_pos aj.2, if_pos ai.1, if_pos ai.2]
        exact ih
      · simp only [quarrylaw17_AggOrder.l0, hw, if_pos c1, if_neg c2, he]
        exact Ev.pure _
    · simp only [quarrylaw17_AggOrder.l0, hw, if_neg c1, he]
      exact Ev.pure _
theorem AggOrder : ∀ (a0 : Int) (l1 : List (S32)) (l2 : List (Int)), (Lit.int .i64 a0).wf = true → G22 l1 → G36 l2 → ∃ k, quarrylaw17_AggOrder.f k a0 l1 l2 = some true := by
  intro a0 l m _ hl hm
  refine Ev.get ?_
  have hn : l.length < 140737488355328 := by have := hl.2; omega
  have hm' : m.length < 140737488355328 := by have := hm.2; omega
  have fl := fits_right hl
  unfold quarrylaw17_AggOrder.f
  simp only [works_f, Option.bind_some, if_true, List.nil_append, List.length_nil, Nat.zero_add]
  refine Ev.bind (right_ev l hn) ?_
  cases h : (l.all okV && decide ((l.length : Int) ≤ 300)) with
  | false =>
    simp only [Bool.false_eq_true, if_false]
    exact Ev.pure _
  | true =>
    have h1 := Bool.and_eq_true_iff.1 h
    have hlen : l.length < 4398046511104 := by have := of_decide_eq_true h1.2; omega
    simp only [if_true, if_pos hlen]
    exact order_loop a0 l m hn hm' (fun v hv => List.all_eq_true.1 h1.1 v hv) fl (m.length + 1) l 0 (by omega) (by omega) (by omega) (List.Perm.refl _)
end Go.Proofs.Ytgjfciohmgpohaa.Pure
end
