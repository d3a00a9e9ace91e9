/- The law ValueRows without Go: rows stand in one order; turned about the other way round. Condition: sizes. -/
import Derived.Test.YtkidihoaeicfdaaDoorR2
import Derived.Test.YtkidihoaeicfdaaDoorKinds
import Derived.Test.YtkidihoaeicfdaaDoorOrdVal
import Derived.Test.YtkidihoaeicfdaaDoorOrdMore
namespace Go.Proofs.YtkidihoaeicfdaaDoor.Pure
set_option linter.unusedVariables false
set_option linter.unusedSimpArgs false
open Go.RowKit Go.Proofs.YtkidihoaeicfdaaDoor.P Go.Proofs.YtkidihoaeicfdaaDoorW.PrintWords Go.Proofs.YtkidihoaeicfdaaDoorW.PrintLast

def turnL (d : List Bool) (n : Nat) : List Bool := (List.range n).map fun i => !(d.getD i false)
theorem turnL_succ (d : List Bool) (n : Nat) : turnL d (n + 1) = turnL d n ++ [!(d.getD n false)] := by unfold turnL; rw [List.range_succ]; simp
theorem turnL_len (d : List Bool) (n : Nat) : (turnL d n).length = n := by unfold turnL; simp
theorem turnL_get (d : List Bool) (n i : Nat) (h : i < n) : (turnL d n).getD i false = !(d.getD i false) := by
  unfold turnL
  rw [List.getD_eq_getElem?_getD, List.getElem?_map, List.getElem?_range h]; rfl
theorem end_ev (a b : List S23) (d : List Bool) (ha : a.length < 140737488355328) (hb : b.length < 140737488355328) (n : Nat) (hn : a.length ≤ n ∧ b.length ≤ n) :
    Ev (fun k => (value_Rows.f k a b (turnL d n)).bind fun t169 => ((value_Rows.f k b a d).bind fun t170 => (if (cmpR d a b) = (wrap64 (-t170)) then (if (a.length : Int) = (b.length : Int) then (if t169 = (wrap64 (-(cmpR d a b))) then ((value_Rows.f k a a d).bind fun t171 => (some (t171 == 0))) else (none)) else ((value_Rows.f k a a d).bind fun t172 => (some (t172 == 0)))) else (none)))) true := by
  refine Ev.bind (rows_ev a b (turnL d n) ha) (Ev.bind (rows_ev b a d hb) ?_)
  have e1 : cmpR d a b = wrap64 (-(cmpR d b a)) := by rw [(neg_s3 (cmpR_s3 d b a)).2, cmpR_neg d b a]
  refine Ev.pos e1 ?_
  have self : Ev (fun k => (value_Rows.f k a a d).bind fun t172 => some (t172 == 0)) true := by
    refine Ev.bind (rows_ev a a d ha) ?_
    rw [cmpR_self]
    exact Ev.pure _
  refine Ev.ite (fun hl => ?_) (fun _ => self)
  refine Ev.pos ?_ self
  rw [(neg_s3 (cmpR_s3 d a b)).2]
  exact cmpR_turn d _ a b (by omega) (fun i hi => turnL_get d n i (by omega))
theorem loop_ev (a b : List S23) (d : List Bool) (ha : a.length < 140737488355328) (hb : b.length < 140737488355328) : ∀ (m i : Nat), (i + m = max a.length b.length) →
    Ev (fun k => quarrylaw01_ValueRows.l0 k a b d (cmpR d a b) (turnL d i) (i : Int)) true
  | 0, i, hm => by
    refine Ev.succ ?_
    simp only [quarrylaw01_ValueRows.l0]
    refine Ev.neg (by omega) (Ev.neg (by omega) ?_)
    exact end_ev a b d ha hb i (by omega)
  | m + 1, i, hm => by
    have ih := loop_ev a b d ha hb m (i + 1) (by omega)
    have hw : wrap64 ((i : Int) + 1) = ((i + 1 : Nat) : Int) := by rw [wrap64_in (by omega) (by omega)]; omega
    have hlen := turnL_len d i
    have step : Ev (fun k => if (i : Int) ≥ (d.length : Int) then (if (turnL d i).length < 140737488355328 then (quarrylaw01_ValueRows.l0 k a b d (cmpR d a b) (turnL d i ++ [true]) (wrap64 ((i : Int) + 1))) else (none)) else (if 0 ≤ (i : Int) then (if (i : Int) < (d.length : Int) then (if (turnL d i).length < 140737488355328 then (quarrylaw01_ValueRows.l0 k a b d (cmpR d a b) (turnL d i ++ [!(rdOf false d (i : Int))]) (wrap64 ((i : Int) + 1))) else (none)) else (none)) else (none))) true := by
      refine Ev.ite (fun h => ?_) (fun h => ?_)
      · refine Ev.pos (by omega) ?_
        have e : turnL d i ++ [true] = turnL d (i + 1) := by
          rw [turnL_succ, List.getD_eq_getElem?_getD, List.getElem?_eq_none (by omega)]; rfl
        rw [hw, e]
        exact ih
      · refine Ev.pos (by omega) (Ev.pos (by omega) (Ev.pos (by omega) ?_))
        have e : turnL d i ++ [!(rdOf false d (i : Int))] = turnL d (i + 1) := by
          rw [turnL_succ]; rfl
        rw [hw, e]
        exact ih
    refine Ev.succ ?_
    simp only [quarrylaw01_ValueRows.l0]
    refine Ev.ite (fun _ => step) (fun _ => Ev.pos (by omega) step)

theorem ValueRows : ∀ (l0 : List (S23)) (l1 : List (S23)) (l2 : List (Bool)), G33 l0 → G33 l1 → G34 l2 → ∃ k, quarrylaw01_ValueRows.f k l0 l1 l2 = some true := by
  intro a b d ha hb hd
  have h1 : a.length < 140737488355328 := by have := ha.2; omega
  have h2 : b.length < 140737488355328 := by have := hb.2; omega
  refine Ev.get (g := fun k => quarrylaw01_ValueRows.f k a b d) ?_
  unfold quarrylaw01_ValueRows.f
  simp only [quarrylaw01_works.f, Option.bind_some, if_true]
  refine Ev.bind (rows_ev a b d h1) ?_
  exact loop_ev a b d h1 h2 (max a.length b.length) 0 (by omega)

end Go.Proofs.YtkidihoaeicfdaaDoor.Pure
