/- The law ValueThree without Go: of three rows of one length the order is one. Condition: sizes. -/
import Derived.Test.YtkidihoaeicfdaaDoorR3
import Derived.Test.YtkidihoaeicfdaaDoorKinds
import Derived.Test.YtkidihoaeicfdaaDoorOrdVal
import Derived.Test.YtkidihoaeicfdaaDoorOrdMore
namespace Go.Proofs.YtkidihoaeicfdaaDoor.Pure
set_option linter.unusedVariables false
set_option linter.unusedSimpArgs false
open Go.RowKit Go.Proofs.YtkidihoaeicfdaaDoor.P Go.Proofs.YtkidihoaeicfdaaDoorW.PrintWords Go.Proofs.YtkidihoaeicfdaaDoorW.PrintLast

theorem ValueThree : ∀ (l0 : List (S23)) (l1 : List (S23)) (l2 : List (S23)) (l3 : List (Bool)), G33 l0 → G33 l1 → G33 l2 → G34 l3 → ∃ k, quarrylaw01_ValueThree.f k l0 l1 l2 l3 = some true := by
  intro a b c d ha hb hc hd
  have h1 : a.length < 140737488355328 := by have := ha.2; omega
  have h2 : b.length < 140737488355328 := by have := hb.2; omega
  refine Ev.get (g := fun k => quarrylaw01_ValueThree.f k a b c d) ?_
  unfold quarrylaw01_ValueThree.f
  simp only [quarrylaw01_works.f, Option.bind_some, if_true]
  by_cases e1 : (a.length : Int) = (b.length : Int)
  · simp only [if_pos e1]
    by_cases e2 : (b.length : Int) = (c.length : Int)
    · have q : ((b.length : Int) != (c.length : Int)) = false := bne_eq_false_iff_eq.mpr e2
      simp only [q]
      refine Ev.succ ?_
      simp only [quarrylaw01_ValueThree.j0, Bool.false_eq_true, if_false]
      refine Ev.bind (rows_ev a b d h1) (Ev.bind (rows_ev b c d h2) (Ev.bind (rows_ev a c d h1) ?_))
      refine ⟨0, fun k _ => ?_⟩
      have e1' : a.length = b.length := by omega
      have e2' : b.length = c.length := by omega
      by_cases p1 : cmpR d a b > 0
      · rw [if_pos p1]
      rw [if_neg p1]
      by_cases p2 : cmpR d b c > 0
      · rw [if_pos p2]
      rw [if_neg p2]
      obtain ⟨q1, q2⟩ := cmpR_tr d a b c e1' e2' (by omega) (by omega)
      rw [if_pos q1]
      rcases q2 with ⟨z1, z2⟩ | q2
      · rw [if_pos z1, if_pos z2]
      · have q3 : decide (cmpR d a c < 0) = true := decide_eq_true q2
        rw [q3]
        split
        · split <;> rfl
        · rfl
    · have q : ((b.length : Int) != (c.length : Int)) = true := bne_iff_ne.mpr e2
      simp only [q]
      refine Ev.succ ⟨0, fun k _ => ?_⟩
      simp only [quarrylaw01_ValueThree.j0, if_true]
  · simp only [if_neg e1]
    refine Ev.succ ⟨0, fun k _ => ?_⟩
    simp only [quarrylaw01_ValueThree.j0, if_true]

end Go.Proofs.YtkidihoaeicfdaaDoor.Pure
