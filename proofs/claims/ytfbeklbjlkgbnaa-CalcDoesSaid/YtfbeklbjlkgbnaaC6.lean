/- Written in this session: what calc.Binary makes of two values, as plain data; its helpers answer so. No condition. -/
import Derived.Test.YtfbeklbjlkgbnaaC5
import Derived.Test.YtfbeklbjlkgbnaaOrdA
namespace Go.Proofs.Ytfbeklbjlkgbnaa.Pure
set_option linter.unusedVariables false
set_option linter.unusedSimpArgs false
open Go.RowKit Go.Proofs.Ytfbeklbjlkgbnaa.P Go.Proofs.YtfbeklbjlkgbnaaW.PrintWords Go.Proofs.YtfbeklbjlkgbnaaW.PrintLast Go.Proofs.YtfbeklbjlkgbnaaW.PrintMore
instance decSV : DecidableEq S25 := fun a b =>
  if h : a.f0 = b.f0 ∧ a.f1 = b.f1 ∧ a.f2 = b.f2 then .isTrue (by cases a; cases b; simp_all) else .isFalse (by rintro rfl; exact h ⟨rfl, rfl, rfl⟩)
def wantsP (op : Int) : Int := if op ≤ 4 then 1 else if op ≤ 10 then 0 else if op = 16 then 3 else 2
def holdsP (op c : Int) : Bool := if op = 5 then c == 0 else if op = 6 then c != 0 else if op = 7 then decide (c < 0) else if op = 8 then decide (c ≤ 0) else if op = 9 then decide (0 < c) else decide (0 ≤ c)
def logicP (u v s : S25) : S25 := if u = s ∨ v = s then s else if u.f0 = 0 ∨ v.f0 = 0 then zeroV else truthV (!decide (s = truthV true))
/-- Do the kinds go into the operator? -/
def kindsP (op a b : Int) : Prop := if wantsP op ≠ 0 then (a = wantsP op ∨ a = 0) ∧ (b = wantsP op ∨ b = 0) else a = 0 ∨ b = 0 ∨ a = b
instance (op a b : Int) : Decidable (kindsP op a b) := by unfold kindsP; infer_instance
def numE : Except Int Int → Except Int S25 | .ok n => .ok ⟨2, n, V0⟩ | .error c => .error c
def bin (op : Int) (u v : S25) : Except Int S25 :=
  if ¬ (3 ≤ op ∧ op ≤ 16) then .error 5
  else if ¬ kindsP op u.f0 v.f0 then .error 35
  else if op ≤ 4 then .ok (logicP u v (truthV (op == 3)))
  else if u.f0 = 0 ∨ v.f0 = 0 then .ok zeroV
  else if op ≤ 10 then .ok (truthV (holdsP op (cmpV u v)))
  else if op = 16 then (if u.f2.size + v.f2.size ≤ 2048 then .ok ⟨3, 0, u.f2 ++ v.f2⟩ else .error 8)
  else numE (sumP op u.f1 v.f1)
theorem wants_f (op : Int) : calc_wants.f op = some (wantsP op) := by
  unfold calc_wants.f wantsP
  repeat' split
  all_goals rfl
theorem holds_f (op c : Int) : calc_compared.f op c = some (holdsP op c) := by
  unfold calc_compared.f holdsP
  repeat' split
  all_goals rfl
theorem eqb (u s : S25) : (u.f0 == s.f0 && (u.f1 == s.f1 && (u.f2.toList == s.f2.toList))) = decide (u = s) := by
  by_cases h : u = s
  · subst h; simp
  · rw [decide_eq_false h]
    by_cases h0 : u.f0 = s.f0
    · by_cases h1 : u.f1 = s.f1
      · by_cases h2 : u.f2.toList = s.f2.toList
        · exact absurd (by cases u; cases s; simp only at h0 h1 h2; rw [h0, h1, toList_inj h2]) h
        · simp [h2]
      · simp [h1]
    · simp [h0]
theorem True_f (s : S25) : calc_True.f s.f0 s.f1 s.f2 = some (decide (s = truthV true)) := by
  unfold calc_True.f
  rw [truth_f]
  exact congrArg some (eqb s (truthV true))
theorem logic_ev (u v s : S25) : Ev (fun k => calc_logic.f k u.f0 u.f1 u.f2 v.f0 v.f1 v.f2 s.f0 s.f1 s.f2) ((logicP u v s).f0, (logicP u v s).f1, (logicP u v s).f2) := by
  unfold calc_logic.f
  simp only [eqb]
  have hj1 : ∀ b : Bool, Ev (fun k => calc_logic.j1 k b s.f0 s.f1 s.f2) (if b = true then (0, 0, V0) else ((truthV (!decide (s = truthV true))).f0, (truthV (!decide (s = truthV true))).f1, (truthV (!decide (s = truthV true))).f2)) := by
    intro b
    refine Ev.succ ?_
    simp only [calc_logic.j1, True_f, truth_f, Option.bind_some]
    cases b
    · exact Ev.pure _
    · exact Ev.pure _
  have hj0 : ∀ b : Bool, Ev (fun k => calc_logic.j0 k b u.f0 u.f1 u.f2 v.f0 v.f1 v.f2 s.f0 s.f1 s.f2) (if b = true then (s.f0, s.f1, s.f2) else if u.f0 = 0 ∨ v.f0 = 0 then (0, 0, V0) else ((truthV (!decide (s = truthV true))).f0, (truthV (!decide (s = truthV true))).f1, (truthV (!decide (s = truthV true))).f2)) := by
    intro b
    refine Ev.succ ?_
    simp only [calc_logic.j0]
    cases b
    · simp only [Bool.false_eq_true, if_false]
      by_cases h0 : u.f0 = 0
      · simp only [h0, if_true, true_or]
        exact hj1 true
      · simp only [h0, if_false, false_or]
        have := hj1 (v.f0 == 0)
        by_cases h1 : v.f0 = 0
        · simpa [h1] using this
        · simpa [h1, beq_eq_false_iff_ne.mpr h1] using this
    · exact Ev.pure _
  unfold logicP
  by_cases h0 : u = s
  · rw [decide_eq_true h0]
    have := hj0 true
    simpa [h0] using this
  · rw [decide_eq_false h0]
    have := hj0 (decide (v = s))
    by_cases h1 : v = s
    · simpa [h0, h1] using this
    · simp only [Bool.false_eq_true, if_false, h0, h1, or_self, decide_false] at this ⊢
      by_cases h2 : u.f0 = 0 ∨ v.f0 = 0
      · simp only [h2, if_true] at this ⊢; exact this
      · simp only [h2, if_false] at this ⊢; exact this
theorem logic_calls (u v s : S25) (w : World) : Calls Try.prog 40 #[.agg #[.int .i64 u.f0, .int .i64 u.f1, .string u.f2], .agg #[.int .i64 v.f0, .int .i64 v.f1, .string v.f2], .agg #[.int .i64 s.f0, .int .i64 s.f1, .string s.f2]] w fun e w' => e = .returned (.agg #[.int .i64 (logicP u v s).f0, .int .i64 (logicP u v s).f1, .string (logicP u v s).f2]) ∧ Below w.heap.size w w' := by
  obtain ⟨k, hk⟩ := (logic_ev u v s).get
  exact calc_logic.calls k _ _ _ _ _ _ _ _ _ _ _ _ w hk
theorem compare_calls (u v : S25) (w : World) : Calls Try.prog 43 #[.agg #[.int .i64 u.f0, .int .i64 u.f1, .string u.f2], .agg #[.int .i64 v.f0, .int .i64 v.f1, .string v.f2]] w fun e w' => e = .returned (.int .i64 (cmpV u v)) ∧ Below w.heap.size w w' := by
  obtain ⟨k, hk⟩ := (cmp_ev u v).get
  exact value_Compare.calls k _ _ _ _ _ _ _ w hk
end Go.Proofs.Ytfbeklbjlkgbnaa.Pure
