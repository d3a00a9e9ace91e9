/- The order of values and rows, as the program and the document tell it: both are the plain one. No condition but sizes. -/
import Derived.Test.YtfbeklbjlkgbnaaOrd
import Derived.Test.YtfbeklbjlkgbnaaA2
namespace Go.Proofs.Ytfbeklbjlkgbnaa.Pure
set_option linter.unusedVariables false
set_option linter.unusedSimpArgs false
open Go.RowKit Go.Proofs.Ytfbeklbjlkgbnaa.P Go.Proofs.YtfbeklbjlkgbnaaW.PrintWords Go.Proofs.YtfbeklbjlkgbnaaW.PrintLast Go.Proofs.YtfbeklbjlkgbnaaW.PrintMore

theorem cmp_int (a b : Int) : cmp_Compare_int.f a b = some (cmpI a b) := by
  unfold cmp_Compare_int.f cmp_isNaN_int.f cmpI
  simp only [Option.bind_some, bne_self_eq_false, Bool.false_eq_true, if_false, gt_iff_lt]
  split
  · rfl
  · split <;> rfl
theorem cmp_int64 (a b : Int) : cmp_Compare_int64.f a b = some (cmpI a b) := by
  unfold cmp_Compare_int64.f cmp_isNaN_int64.f cmpI
  simp only [Option.bind_some, bne_self_eq_false, Bool.false_eq_true, if_false, gt_iff_lt]
  split
  · rfl
  · split <;> rfl
theorem cmp_ev (x y : S25) : Ev (fun k => value_Compare.f k x.f0 x.f1 x.f2 y.f0 y.f1 y.f2) (cmpV x y) := by
  unfold value_Compare.f cmpV
  by_cases e : x.f0 = y.f0
  · rw [if_pos e]
    have hj : Ev (fun k => value_Compare.j0 k x.f0 (x.f0 == 1 || x.f0 == 2) x.f0 x.f1 x.f2 y.f0 y.f1 y.f2) (if x.f0 = 1 ∨ x.f0 = 2 then cmpI x.f1 y.f1 else if x.f0 = 3 ∨ x.f0 = 4 then cmpT x.f2 y.f2 else 0) := by
      refine Ev.succ ?_
      simp only [value_Compare.j0, cmp_int64, strings_Compare.f, Option.bind_some]
      by_cases h12 : x.f0 = 1 ∨ x.f0 = 2
      · have : (x.f0 == 1 || x.f0 == 2) = true := by simpa using h12
        rw [if_pos h12]
        simp only [this, if_true]
        exact Ev.pure _
      · have : (x.f0 == 1 || x.f0 == 2) = false := by simpa using h12
        rw [if_neg h12]
        simp only [this, Bool.false_eq_true, if_false]
        by_cases h3 : x.f0 = 3
        · rw [if_pos (show x.f0 = 3 ∨ x.f0 = 4 from .inl h3)]
          simp only [h3, if_true]
          exact Ev.pure _
        · by_cases h4 : x.f0 = 4
          · rw [if_pos (show x.f0 = 3 ∨ x.f0 = 4 from .inr h4)]
            simp only [h3, h4, if_true, if_false]
            exact Ev.pure _
          · rw [if_neg (show ¬ (x.f0 = 3 ∨ x.f0 = 4) by omega)]
            simp only [h3, h4, if_false]
            exact Ev.pure _
    by_cases h1 : x.f0 = 1
    · have q : (x.f0 == 1 || x.f0 == 2) = (x.f0 == 1) := by simp [h1]
      rw [q] at hj
      simp only [e, if_true] at hj ⊢
      simp only [← e, h1, if_true] at hj ⊢
      exact hj
    · have q : (x.f0 == 1 || x.f0 == 2) = (x.f0 == 2) := by simp [h1]
      rw [q] at hj
      have h1' : ¬ y.f0 = 1 := by omega
      simp only [e, if_true] at hj ⊢
      simp only [h1', if_false] at hj ⊢
      exact hj
  · rw [if_neg e]
    simp only [e, if_false, cmp_int, Option.bind_some]
    exact Ev.pure _

end Go.Proofs.Ytfbeklbjlkgbnaa.Pure
