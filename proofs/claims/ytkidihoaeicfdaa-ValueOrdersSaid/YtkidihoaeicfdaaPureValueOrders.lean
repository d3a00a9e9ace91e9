/- Any two values, and any two rows, stand in the order of the chapter: the program's and the document's are both the plain one. No condition but that the arguments fit memory. -/
import Derived.Test.YtkidihoaeicfdaaP
import Derived.Test.YtkidihoaeicfdaaKinds
import Derived.Test.YtkidihoaeicfdaaOrdProg
import Derived.Test.YtkidihoaeicfdaaSame
namespace Go.Proofs.Ytkidihoaeicfdaa.Pure
open Go.RowKit Go.Proofs.Ytkidihoaeicfdaa.P Go.Proofs.YtkidihoaeicfdaaW.PrintWords Go.Proofs.YtkidihoaeicfdaaW.PrintLast

theorem ValueOrders : ∀ (x0 : S23) (x1 : S23) (l2 : List (S23)) (l3 : List (S23)) (l4 : List (Bool)), G23 x0 → G23 x1 → G24 l2 → G24 l3 → G25 l4 → ∃ k, quarrylaw01_ValueOrders.f k (x0.f0) (x0.f1) (x0.f2) (x1.f0) (x1.f1) (x1.f2) l2 l3 l4 = some true := by
  intro x y a b d hx hy ha hb hd
  have hla := ha.2
  have hlb := hb.2
  have hld := hd.2
  refine Ev.get ?_
  have e1 : ([] : List S23).length + a.length < 4398046511104 := by simp; omega
  have e2 : ([] : List S23).length + b.length < 4398046511104 := by simp; omega
  have e3 : ([] : List Bool).length + d.length < 140737488355328 := by simp; omega
  unfold quarrylaw01_ValueOrders.f
  simp only [Option.bind_some, e1, e2, e3, if_true, List.nil_append]
  refine Ev.bind (cmp_ev x y) (Ev.bind (ref_cmp_ev x y hx.2.2) ?_)
  simp only [if_true]
  refine Ev.bind (rows_ev a b d (by omega)) (Ev.bind (ref_rows_ev a b d (fun z hz => (ha.1 z hz).2.2) (by omega)) ?_)
  simp only [if_true]
  refine Ev.bind (same_ev a a (by omega)) ?_
  simp only [decide_true, if_true]
  refine Ev.bind (same_ev b b (by omega)) ?_
  simp only [decide_true]
  exact Ev.pure _
end Go.Proofs.Ytkidihoaeicfdaa.Pure
