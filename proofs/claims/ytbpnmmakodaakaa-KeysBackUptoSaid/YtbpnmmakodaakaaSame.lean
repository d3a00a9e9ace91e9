/- Rows are the same, as the document's SameRow tells it. No condition but sizes. -/
import Derived.Test.YtbpnmmakodaakaaOrd
import Derived.Test.YtbpnmmakodaakaaA4
namespace Go.Proofs.Ytbpnmmakodaakaa.Pure
set_option linter.unusedVariables false
set_option linter.unusedSimpArgs false
open Go.RowKit Go.Proofs.Ytbpnmmakodaakaa.P Go.Proofs.YtbpnmmakodaakaaW.PrintWords Go.Proofs.YtbpnmmakodaakaaW.PrintLast Go.Proofs.YtbpnmmakodaakaaW.PrintMore
instance decSV : DecidableEq S43 := fun a b =>
  if h : a.f0 = b.f0 ∧ a.f1 = b.f1 ∧ a.f2 = b.f2 then .isTrue (by cases a; cases b; simp_all) else .isFalse (by rintro rfl; exact h ⟨rfl, rfl, rfl⟩)
theorem same_loop : ∀ (s1 s2 p1 p2 : List S43), p1.length = p2.length → s1.length = s2.length → (p1 ++ s1).length < 140737488355328 →
    Ev (fun k => quarryref01_SameRow.l0 k (p1 ++ s1) (p2 ++ s2) (p1.length : Int)) (decide (s1 = s2)) := by
  intro s1
  induction s1 with
  | nil =>
    intro s2 p1 p2 hp hs hl
    refine Ev.succ ?_
    obtain rfl : s2 = [] := List.length_eq_zero_iff.1 (by simpa using hs.symm)
    simp [quarryref01_SameRow.l0]
    exact Ev.pure _
  | cons x s1 ih =>
    intro s2 p1 p2 hp hs hl
    refine Ev.succ ?_
    cases s2 with
    | nil => simp at hs
    | cons y s2 =>
      have e1 : (p1.length : Int) < ((p1 ++ x :: s1).length : Int) := by simp; omega
      have e2 : (0 : Int) ≤ (p1.length : Int) := by omega
      have e3 : (p1.length : Int) < ((p2 ++ y :: s2).length : Int) := by simp; omega
      have hy : rd_T43 (p2 ++ y :: s2) (p1.length : Int) = y := by rw [hp]; exact rd_at _ _ _
      simp only [quarryref01_SameRow.l0, e1, e2, e3, if_true, rd_at, hy]
      by_cases hxy : x = y
      · subst hxy
        have e6 : wrap64 ((p1.length : Int) + 1) = (p1.length : Int) + 1 := wrap64_in (by omega) (by simp at hl; omega)
        simp only [beq_self_eq_true, Bool.not_true, Bool.or_self, Bool.false_eq_true, if_false, e6]
        have := ih s2 (p1 ++ [x]) (p2 ++ [x]) (by simpa using hp) (by simpa using hs) (by simpa using hl)
        simpa using this
      · have hn : (!((x.f0) == (y.f0)) || (!((x.f1) == (y.f1)) || (!((x.f2.toList) == (y.f2.toList))))) = true := by
          rcases x with ⟨a, b, c⟩
          rcases y with ⟨a', b', c'⟩
          by_cases h1 : a = a' <;> by_cases h2 : b = b' <;> by_cases h3 : c.toList = c'.toList <;> simp [h1, h2, h3]
          exact absurd (by rw [h1, h2, toList_inj h3]) hxy
        simp only [hn, if_true]
        have : decide (x :: s1 = y :: s2) = false := decide_eq_false (by intro e; injection e with e _; exact hxy e)
        rw [this]
        exact Ev.pure _
theorem same_ev (a b : List S43) (hl : a.length < 140737488355328) : Ev (fun k => quarryref01_SameRow.f k a b) (decide (a = b)) := by
  unfold quarryref01_SameRow.f
  by_cases h : a.length = b.length
  · have e : (a.length : Int) = (b.length : Int) := by omega
    simp only [e, if_true]
    have := same_loop a b [] [] rfl h (by simpa using hl)
    simpa using this
  · have e : ¬ (a.length : Int) = (b.length : Int) := by omega
    simp only [e, if_false]
    have : decide (a = b) = false := decide_eq_false (by rintro rfl; exact h rfl)
    rw [this]
    exact Ev.pure _

end Go.Proofs.Ytbpnmmakodaakaa.Pure
