/- Written in this session: calc.Binary, calc.Unary and the document's, in the print's form. No condition but the kinds of numbers and sizes. -/
import Derived.Test.YtfbeklbjlkgbnaaD3
namespace Go.Proofs.Ytfbeklbjlkgbnaa.P
open Go.RowKit Go.Proofs.Ytfbeklbjlkgbnaa.Pure Go.Proofs.YtfbeklbjlkgbnaaW.PrintWords Go.Proofs.YtfbeklbjlkgbnaaW.PrintLast Go.Proofs.YtfbeklbjlkgbnaaW.PrintMore
set_option linter.unusedVariables false
set_option linter.unusedSimpArgs false
def outT (r : Except Int S25) : Int × Int × ByteArray × Int := ((outE r).1.f0, (outE r).1.f1, (outE r).1.f2, (outE r).2)
def fits (u v : S25) : Prop := In64 u.f1 ∧ In64 v.f1 ∧ u.f2.size ≤ 140737488351232 ∧ v.f2.size ≤ 140737488351232
instance (u v : S25) : Decidable (fits u v) := by unfold fits; infer_instance
def calc_Binary.f (op a0 a1 : Int) (a2 : ByteArray) (b0 b1 : Int) (b2 : ByteArray) : Option (Int × Int × ByteArray × Int) := if fits ⟨a0, a1, a2⟩ ⟨b0, b1, b2⟩ then some (outT (bin op ⟨a0, a1, a2⟩ ⟨b0, b1, b2⟩)) else none
def quarryref02_Binary.f (op a0 a1 : Int) (a2 : ByteArray) (b0 b1 : Int) (b2 : ByteArray) : Option (Int × Int × ByteArray × Int) := if fits ⟨a0, a1, a2⟩ ⟨b0, b1, b2⟩ then some (outT (bin op ⟨a0, a1, a2⟩ ⟨b0, b1, b2⟩)) else none
def calc_Unary.f (op a0 a1 : Int) (a2 : ByteArray) : Option (Int × Int × ByteArray × Int) := if In64 a1 then some (outT (una op ⟨a0, a1, a2⟩)) else none
theorem calc_Binary.print (op a0 a1 : Int) (a2 : ByteArray) (b0 b1 : Int) (b2 : ByteArray) (r1 r2 : Int) (r3 : ByteArray) (r4 : Int) (w : World) (h : calc_Binary.f op a0 a1 a2 b0 b1 b2 = some (r1, r2, r3, r4)) :
    Calls Try.prog 17 #[.int .i64 op, .agg #[.int .i64 a0, .int .i64 a1, .string a2], .agg #[.int .i64 b0, .int .i64 b1, .string b2]] w fun e w' => e = .returned (.tuple #[.agg #[.int .i64 r1, .int .i64 r2, .string r3], .int .i64 r4]) ∧ Below w.heap.size w w' := by
  unfold calc_Binary.f at h
  by_cases hf : fits ⟨a0, a1, a2⟩ ⟨b0, b1, b2⟩
  · rw [if_pos hf, Option.some.injEq] at h
    have := calc_Binary.calls op ⟨a0, a1, a2⟩ ⟨b0, b1, b2⟩ hf.1 hf.2.1 (by have := hf.2.2; simp only at this; simp only; omega) w
    unfold outT at h
    obtain ⟨rfl, rfl, rfl, rfl⟩ : (outE (bin op ⟨a0, a1, a2⟩ ⟨b0, b1, b2⟩)).1.f0 = r1 ∧ (outE (bin op ⟨a0, a1, a2⟩ ⟨b0, b1, b2⟩)).1.f1 = r2 ∧ (outE (bin op ⟨a0, a1, a2⟩ ⟨b0, b1, b2⟩)).1.f2 = r3 ∧ (outE (bin op ⟨a0, a1, a2⟩ ⟨b0, b1, b2⟩)).2 = r4 := by simpa using h
    exact this
  · rw [if_neg hf] at h; cases h
theorem quarryref02_Binary.calls (op a0 a1 : Int) (a2 : ByteArray) (b0 b1 : Int) (b2 : ByteArray) (r1 r2 : Int) (r3 : ByteArray) (r4 : Int) (w : World) (h : quarryref02_Binary.f op a0 a1 a2 b0 b1 b2 = some (r1, r2, r3, r4)) :
    Calls Try.prog 18 #[.int .i64 op, .agg #[.int .i64 a0, .int .i64 a1, .string a2], .agg #[.int .i64 b0, .int .i64 b1, .string b2]] w fun e w' => e = .returned (.tuple #[.agg #[.int .i64 r1, .int .i64 r2, .string r3], .int .i64 r4]) ∧ Below w.heap.size w w' := by
  unfold quarryref02_Binary.f at h
  by_cases hf : fits ⟨a0, a1, a2⟩ ⟨b0, b1, b2⟩
  · rw [if_pos hf, Option.some.injEq] at h
    have := refBinary.calls op ⟨a0, a1, a2⟩ ⟨b0, b1, b2⟩ hf.1 hf.2.1 (by have := hf.2.2; simp only at this; simp only; omega) hf.2.2.1 w
    unfold outT at h
    obtain ⟨rfl, rfl, rfl, rfl⟩ : (outE (bin op ⟨a0, a1, a2⟩ ⟨b0, b1, b2⟩)).1.f0 = r1 ∧ (outE (bin op ⟨a0, a1, a2⟩ ⟨b0, b1, b2⟩)).1.f1 = r2 ∧ (outE (bin op ⟨a0, a1, a2⟩ ⟨b0, b1, b2⟩)).1.f2 = r3 ∧ (outE (bin op ⟨a0, a1, a2⟩ ⟨b0, b1, b2⟩)).2 = r4 := by simpa using h
    exact this
  · rw [if_neg hf] at h; cases h
theorem calc_Unary.print (op a0 a1 : Int) (a2 : ByteArray) (r1 r2 : Int) (r3 : ByteArray) (r4 : Int) (w : World) (h : calc_Unary.f op a0 a1 a2 = some (r1, r2, r3, r4)) :
    Calls Try.prog 19 #[.int .i64 op, .agg #[.int .i64 a0, .int .i64 a1, .string a2]] w fun e w' => e = .returned (.tuple #[.agg #[.int .i64 r1, .int .i64 r2, .string r3], .int .i64 r4]) ∧ Below w.heap.size w w' := by
  unfold calc_Unary.f at h
  by_cases hf : In64 a1
  · rw [if_pos hf, Option.some.injEq] at h
    have := calc_Unary.calls op ⟨a0, a1, a2⟩ hf w
    unfold outT at h
    obtain ⟨rfl, rfl, rfl, rfl⟩ : (outE (una op ⟨a0, a1, a2⟩)).1.f0 = r1 ∧ (outE (una op ⟨a0, a1, a2⟩)).1.f1 = r2 ∧ (outE (una op ⟨a0, a1, a2⟩)).1.f2 = r3 ∧ (outE (una op ⟨a0, a1, a2⟩)).2 = r4 := by simpa using h
    exact this
  · rw [if_neg hf] at h; cases h
end Go.Proofs.Ytfbeklbjlkgbnaa.P
