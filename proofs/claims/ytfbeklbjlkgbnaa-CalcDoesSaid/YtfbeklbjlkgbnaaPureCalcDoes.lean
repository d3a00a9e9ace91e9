/- Any operator makes of any two right values the value, or the error, that the chapter says: program and document both answer the plain one. No condition but that the arguments fit memory. -/
import Derived.Test.YtfbeklbjlkgbnaaR2
import Derived.Test.YtfbeklbjlkgbnaaKinds
import Derived.Test.YtfbeklbjlkgbnaaRight
namespace Go.Proofs.Ytfbeklbjlkgbnaa.Pure
open Go.RowKit Go.Proofs.Ytfbeklbjlkgbnaa.P Go.Proofs.YtfbeklbjlkgbnaaW.PrintWords Go.Proofs.YtfbeklbjlkgbnaaW.PrintLast

theorem in64 {n : Int} (h : (Lit.int .i64 n).wf = true) : In64 n := wf64 h
theorem fits_of {x y : S25} (hx : G25 x) (hy : G25 y) : fits x y := ⟨in64 hx.2.1, in64 hy.2.1, hx.2.2, hy.2.2⟩
theorem CalcDoes : ∀ (a0 : Int) (x1 : S25) (x2 : S25), (Lit.int .i64 a0).wf = true → G25 x1 → G25 x2 → ∃ k, quarrylaw02_CalcDoes.f k a0 (x1.f0) (x1.f1) (x1.f2) (x2.f0) (x2.f1) (x2.f2) = some true := by
  intro op x y _ hx hy
  refine Ev.get ?_
  have hb : calc_Binary.f op x.f0 x.f1 x.f2 y.f0 y.f1 y.f2 = some (outT (bin op x y)) := if_pos (fits_of hx hy)
  have hb' : quarryref02_Binary.f op x.f0 x.f1 x.f2 y.f0 y.f1 y.f2 = some (outT (bin op x y)) := if_pos (fits_of hx hy)
  have hu : calc_Unary.f op x.f0 x.f1 x.f2 = some (outT (una op x)) := if_pos (in64 hx.2.1)
  have ht := True_f x
  have ht' := refTrue_f x
  unfold quarrylaw02_CalcDoes.f
  refine Ev.bind (right_ev [x, y] (by simp)) ?_
  cases h : [x, y].all okV with
  | false =>
    simp only [Bool.false_eq_true, if_false]
    exact Ev.pure _
  | true =>
    have hn : x.f0 = 0 → x = zeroV := fun h0 => okV_null (by simp at h; exact h.1) h0
    simp only [if_true, hb, hb', hu, ht, ht', Option.bind_some]
    refine Ev.bind (refUnary_ev op x (in64 hx.2.1) hn) ?_
    simp only [outT, beq_self_eq_true, Bool.and_self, if_true]
    exact Ev.pure _

end Go.Proofs.Ytfbeklbjlkgbnaa.Pure
