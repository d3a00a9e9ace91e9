/- Right values, as the law's own function tells them. No condition but sizes. -/
import Derived.Test.YtfbeklbjlkgbnaaOrd
import Derived.Test.YtfbeklbjlkgbnaaB7
namespace Go.Proofs.Ytfbeklbjlkgbnaa.Pure
set_option linter.unusedVariables false
set_option linter.unusedSimpArgs false
open Go.RowKit Go.Proofs.Ytfbeklbjlkgbnaa.P Go.Proofs.YtfbeklbjlkgbnaaW.PrintWords Go.Proofs.YtfbeklbjlkgbnaaW.PrintLast Go.Proofs.YtfbeklbjlkgbnaaW.PrintMore
def okV (x : S25) : Bool := chkR x.f0 x.f1 x.f2 == 0
theorem right_loop : ∀ (s p : List S25), (p ++ s).length < 140737488355328 → Ev (fun k => quarrylaw02_right.l0 k (p ++ s) (p.length : Int)) (s.all okV)
  | [], p, hl => by
    refine Ev.succ ?_
    simp only [quarrylaw02_right.l0, List.append_nil, Int.lt_irrefl, if_false]
    exact Ev.pure _
  | x :: s, p, hl => by
    refine Ev.succ ?_
    have h1 : (p.length : Int) < ((p ++ x :: s).length : Int) := by simp; omega
    have h2 : (0 : Int) ≤ (p.length : Int) := by omega
    simp only [quarrylaw02_right.l0, if_pos h1, if_pos h2, rd_at, quarryref01_Check.f, Option.bind_some]
    by_cases h : chkR x.f0 x.f1 x.f2 = 0
    · simp only [if_pos h]
      have ih := right_loop s (p ++ [x]) (by simpa using hl)
      have hw : wrap64 ((p.length : Int) + 1) = ((p ++ [x]).length : Int) := by
        simp at hl
        unfold wrap64
        simp
        omega
      rw [hw]
      have hb : (x :: s).all okV = s.all okV := by simp [okV, h]
      rw [hb]
      simpa using ih
    · simp only [if_neg h]
      have hb : (x :: s).all okV = false := by simp [okV, h]
      rw [hb]
      exact Ev.pure _
theorem right_ev (l : List S25) (hl : l.length < 140737488355328) : Ev (fun k => quarrylaw02_right.f k l) (l.all okV) := by
  have := right_loop l [] (by simpa using hl)
  simpa [quarrylaw02_right.f] using this
theorem okV_null {x : S25} (h : okV x = true) (h0 : x.f0 = 0) : x = ⟨0, 0, ⟨#[]⟩⟩ := by
  have h' : chkR x.f0 x.f1 x.f2 = 0 := beq_iff_eq.1 h
  unfold chkR at h'
  rw [if_pos h0] at h'
  by_cases hc : x.f1 = 0 ∧ x.f2.toList = []
  · cases x
    simp only at h0 hc
    have he : (⟨#[]⟩ : ByteArray).toList = [] := by rw [Go.ByteArray.toList_eq]
    rw [h0, hc.1, toList_inj (hc.2.trans he.symm)]
  · rw [if_neg hc] at h'
    omega
end Go.Proofs.Ytfbeklbjlkgbnaa.Pure
