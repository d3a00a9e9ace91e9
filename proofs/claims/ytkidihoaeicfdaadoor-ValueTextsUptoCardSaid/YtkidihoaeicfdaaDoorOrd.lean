/- The order of values and of rows, as plain data. No condition. -/
import Derived.Test.YtkidihoaeicfdaaDoorEv
import Derived.Lib.Bytealg
namespace Go.Proofs.YtkidihoaeicfdaaDoor.Pure
set_option linter.unusedVariables false
set_option linter.unusedSimpArgs false
open Go.RowKit Go.Proofs.YtkidihoaeicfdaaDoor.P Go.Proofs.YtkidihoaeicfdaaDoorW.PrintWords Go.Proofs.YtkidihoaeicfdaaDoorW.PrintLast Go.Proofs.YtkidihoaeicfdaaDoorW.PrintMore

def cmpI (a b : Int) : Int := if a < b then -1 else if b < a then 1 else 0
def cmpT (a b : ByteArray) : Int := Lib.compareBytes a.data.toList b.data.toList
def cmpV (x y : S23) : Int := if x.f0 = y.f0 then (if x.f0 = 1 ∨ x.f0 = 2 then cmpI x.f1 y.f1 else if x.f0 = 3 ∨ x.f0 = 4 then cmpT x.f2 y.f2 else 0) else cmpI x.f0 y.f0
def cmpR : List Bool → List S23 → List S23 → Int
  | _, [], [] => 0
  | _, [], _ :: _ => -1
  | _, _ :: _, [] => 1
  | d, x :: a, y :: b => if cmpV x y = 0 then cmpR d.tail a b else if d.headD false = true then -cmpV x y else cmpV x y
def S3 (c : Int) : Prop := c = -1 ∨ c = 0 ∨ c = 1
theorem cmpI_s3 (a b : Int) : S3 (cmpI a b) := by
  unfold cmpI S3; split
  · exact .inl rfl
  · split
    · exact .inr (.inr rfl)
    · exact .inr (.inl rfl)
theorem cmpB_s3 : ∀ a b : List UInt8, S3 (Lib.compareBytes a b)
  | [], [] => .inr (.inl rfl)
  | [], _ :: _ => .inl rfl
  | _ :: _, [] => .inr (.inr rfl)
  | a :: l, b :: m => by
    unfold Lib.compareBytes
    split
    · exact .inl rfl
    · split
      · exact .inr (.inr rfl)
      · exact cmpB_s3 l m
theorem cmpV_s3 (x y : S23) : S3 (cmpV x y) := by
  unfold cmpV
  split
  · split
    · exact cmpI_s3 _ _
    · split
      · exact cmpB_s3 _ _
      · exact .inr (.inl rfl)
  · exact cmpI_s3 _ _
theorem neg_s3 {c : Int} (h : S3 c) : S3 (-c) ∧ wrap64 (-c) = -c := by
  unfold S3 at *
  refine ⟨by omega, ?_⟩
  unfold wrap64
  omega
theorem cmpR_s3 : ∀ (d : List Bool) (a b : List S23), S3 (cmpR d a b)
  | _, [], [] => .inr (.inl rfl)
  | _, [], _ :: _ => .inl rfl
  | _, _ :: _, [] => .inr (.inr rfl)
  | d, x :: a, y :: b => by
    unfold cmpR
    split
    · exact cmpR_s3 _ a b
    · split
      · exact (neg_s3 (cmpV_s3 x y)).1
      · exact cmpV_s3 x y

/-! ### Places in lists and texts -/
theorem rd_at (pre : List S23) (x : S23) (suf : List S23) : rd_T23 (pre ++ x :: suf) (pre.length : Int) = x := by
  unfold rd_T23
  simp
theorem bt_at' (s : ByteArray) (pre : List UInt8) (c : UInt8) (suf : List UInt8) (h : s.data.toList = pre ++ c :: suf) : bt s (pre.length : Int) = (c.toNat : Int) := by
  unfold bt
  have hl : s.size = pre.length + (suf.length + 1) := by
    have : s.size = s.data.toList.length := by rw [Array.length_toList]; rfl
    rw [this, h]; simp
  have hi : (pre.length : Int).toNat < s.size := by omega
  rw [dif_pos hi]
  have e : s[(pre.length : Int).toNat] = s.data.toList[(pre.length : Int).toNat]'(by rw [Array.length_toList]; exact hi) := by
    rw [Array.getElem_toList]; rfl
  rw [e]
  have : s.data.toList[(pre.length : Int).toNat]'(by rw [Array.length_toList]; exact hi) = c := by
    rw [List.getElem_of_eq h]
    simp
  rw [this]
theorem rdOf_at (pre : List Bool) (c : Bool) (suf : List Bool) : rdOf false (pre ++ c :: suf) (pre.length : Int) = c := by
  unfold rdOf
  simp
end Go.Proofs.YtkidihoaeicfdaaDoor.Pure
