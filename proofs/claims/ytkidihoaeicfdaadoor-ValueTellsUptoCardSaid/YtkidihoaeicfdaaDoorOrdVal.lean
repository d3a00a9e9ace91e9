/- The order of values and rows, as the program and the document tell it: both are the plain one. No condition but sizes. -/
import Derived.Test.YtkidihoaeicfdaaDoorOrd
import Derived.Test.YtkidihoaeicfdaaDoorA3
namespace Go.Proofs.YtkidihoaeicfdaaDoor.Pure
set_option linter.unusedVariables false
set_option linter.unusedSimpArgs false
open Go.RowKit Go.Proofs.YtkidihoaeicfdaaDoor.P Go.Proofs.YtkidihoaeicfdaaDoorW.PrintWords Go.Proofs.YtkidihoaeicfdaaDoorW.PrintLast Go.Proofs.YtkidihoaeicfdaaDoorW.PrintMore

theorem cmp_int (a b : Int) : cmp_Compare_int.f a b = some (cmpI a b) := by
  unfold cmp_Compare_int.f cmp_isNaN_int.f cmpI
  simp only [Option.bind_some, bne_self_eq_false, Bool.false_eq_true, if_false, gt_iff_lt]
  split
  · rfl
  · split <;> rfl
theorem cmp_int64 (a b : Int) : cmp_Compare_int64.f a b = some (cmpI a b) := by
  unfold cmp_Compare_int64.f cmp_isNaN_int64.f cmpI
  simp only [Option.bind_some, bne_self_eq_false, Bool.false_eq_true, if_false, gt_iff_lt]
  split
  · rfl
  · split <;> rfl
theorem cmp_ev (x y : S23) : Ev (fun k => value_Compare.f k x.f0 x.f1 x.f2 y.f0 y.f1 y.f2) (cmpV x y) := by
  unfold value_Compare.f cmpV
  by_cases e : x.f0 = y.f0
  · rw [if_pos e]
    have hj : Ev (fun k => value_Compare.j0 k x.f0 (x.f0 == 1 || x.f0 == 2) x.f0 x.f1 x.f2 y.f0 y.f1 y.f2) (if x.f0 = 1 ∨ x.f0 = 2 then cmpI x.f1 y.f1 else if x.f0 = 3 ∨ x.f0 = 4 then cmpT x.f2 y.f2 else 0) := by
      refine Ev.succ ?_
      simp only [value_Compare.j0, cmp_int64, strings_Compare.f, Option.bind_some]
      by_cases h12 : x.f0 = 1 ∨ x.f0 = 2
      · have : (x.f0 == 1 || x.f0 == 2) = true := by simpa using h12
        rw [if_pos h12]
        simp only [this, if_true]
        exact Ev.pure _
      · have : (x.f0 == 1 || x.f0 == 2) = false := by simpa using h12
        rw [if_neg h12]
        simp only [this, Bool.false_eq_true, if_false]
        by_cases h3 : x.f0 = 3
        · rw [if_pos (show x.f0 = 3 ∨ x.f0 = 4 from .inl h3)]
          simp only [h3, if_true]
          exact Ev.pure _
        · by_cases h4 : x.f0 = 4
          · rw [if_pos (show x.f0 = 3 ∨ x.f0 = 4 from .inr h4)]
            simp only [h3, h4, if_true, if_false]
            exact Ev.pure _
          · rw [if_neg (show ¬ (x.f0 = 3 ∨ x.f0 = 4) by omega)]
            simp only [h3, h4, if_false]
            exact Ev.pure _
    by_cases h1 : x.f0 = 1
    · have q : (x.f0 == 1 || x.f0 == 2) = (x.f0 == 1) := by simp [h1]
      rw [q] at hj
      simp only [e, if_true] at hj ⊢
      simp only [← e, h1, if_true] at hj ⊢
      exact hj
    · have q : (x.f0 == 1 || x.f0 == 2) = (x.f0 == 2) := by simp [h1]
      rw [q] at hj
      have h1' : ¬ y.f0 = 1 := by omega
      simp only [e, if_true] at hj ⊢
      simp only [h1', if_false] at hj ⊢
      exact hj
  · rw [if_neg e]
    simp only [e, if_false, cmp_int, Option.bind_some]
    exact Ev.pure _

theorem desc_read (x : S23) (y : S23) (suf : List Bool) (pre : List Bool) (n : Nat) (hn : pre.length = n ∨ (pre.length < n ∧ suf = [])) :
    (fun _ : Nat => if (n : Int) < ((pre ++ suf).length : Int) then (if rdOf false (pre ++ suf) (n : Int) = true then some (wrap64 (-cmpV x y)) else some (cmpV x y)) else some (cmpV x y)) = fun _ => some (if suf.headD false = true then -cmpV x y else cmpV x y) := by
  funext _
  rcases hn with rfl | ⟨hn, rfl⟩
  · cases suf with
    | nil =>
      have e : ¬ (pre.length : Int) < ((pre ++ []).length : Int) := by simp
      simp only [e, if_false, List.headD_nil, Bool.false_eq_true]
    | cons c suf =>
      have e : (pre.length : Int) < ((pre ++ c :: suf).length : Int) := by simp; omega
      simp only [e, if_true, rdOf_at, List.headD_cons]
      cases c
      · simp
      · simp only [if_true, (neg_s3 (cmpV_s3 x y)).2]
  · have e : ¬ (n : Int) < ((pre ++ []).length : Int) := by simp; omega
    simp only [e, if_false, List.headD_nil, Bool.false_eq_true]
theorem desc_next (pre suf : List Bool) (n : Nat) (hn : pre.length = n ∨ (pre.length < n ∧ suf = [])) : ∃ pre', pre' ++ suf.tail = pre ++ suf ∧ (pre'.length = n + 1 ∨ (pre'.length < n + 1 ∧ suf.tail = [])) := by
  cases suf with
  | nil => exact ⟨pre, rfl, .inr ⟨by rcases hn with h | h <;> omega, rfl⟩⟩
  | cons c suf =>
    rcases hn with h | ⟨_, h⟩
    · exact ⟨pre ++ [c], by simp, .inl (by simp; omega)⟩
    · cases h

theorem rows_loop (m : Int) : ∀ (a b pa pb : List S23) (pd d : List Bool), pa.length = pb.length → (pa ++ a).length < 140737488355328 → m = (if (pb ++ b).length < (pa ++ a).length then ((pb ++ b).length : Int) else ((pa ++ a).length : Int)) →
    (pd.length = pa.length ∨ (pd.length < pa.length ∧ d = [])) →
    Ev (fun k => value_Rows.l0 k (pa ++ a) (pb ++ b) (pd ++ d) m (pa.length : Int)) (cmpR d a b) := by
  intro a
  induction a with
  | nil =>
    intro b pa pb pd d hp hl hm hd
    refine Ev.succ ?_
    have e : ¬ (pa.length : Int) < m := by rw [hm]; split <;> simp at * <;> omega
    simp only [value_Rows.l0, e, if_false, cmp_int, Option.bind_some]
    cases b with
    | nil => simp [cmpR, cmpI, hp]; exact Ev.pure _
    | cons y b =>
      have e2 : (((pa ++ []).length : Nat) : Int) < (((pb ++ y :: b).length : Nat) : Int) := by simp; omega
      simp only [cmpR, cmpI, e2, if_true]
      exact Ev.pure _
  | cons x a ih =>
    intro b pa pb pd d hp hl hm hd
    refine Ev.succ ?_
    cases b with
    | nil =>
      have e : ¬ (pa.length : Int) < m := by rw [hm]; split <;> simp at * <;> omega
      have e2 : ¬ (((pa ++ x :: a).length : Nat) : Int) < (((pb ++ []).length : Nat) : Int) := by simp; omega
      have e3 : (((pb ++ []).length : Nat) : Int) < (((pa ++ x :: a).length : Nat) : Int) := by simp; omega
      simp only [value_Rows.l0, e, if_false, cmp_int, Option.bind_some, cmpR, cmpI, e2, e3, if_true]
      exact Ev.pure _
    | cons y b =>
      have e : (pa.length : Int) < m := by rw [hm]; split <;> simp at * <;> omega
      have e0 : (0 : Int) ≤ (pa.length : Int) := by omega
      have e1 : (pa.length : Int) < ((pa ++ x :: a).length : Int) := by simp; omega
      have e2 : (pa.length : Int) < ((pb ++ y :: b).length : Int) := by simp; omega
      have e6 : wrap64 ((pa.length : Int) + 1) = (pa.length : Int) + 1 := wrap64_in (by omega) (by simp at hl; omega)
      have hy : rd_T23 (pb ++ y :: b) (pa.length : Int) = y := by rw [hp]; exact rd_at _ _ _
      simp only [value_Rows.l0, e, e0, e1, e2, if_true, rd_at, hy, e6]
      refine Ev.bind (cmp_ev x y) ?_
      rw [cmpR]
      by_cases hc : cmpV x y = 0
      · simp only [hc, if_true]
        obtain ⟨pd', hpd, hn⟩ := desc_next pd d pa.length hd
        have := ih b (pa ++ [x]) (pb ++ [y]) pd' d.tail (by simp; omega) (by simpa using hl) (by simpa using hm) (by simpa using hn)
        rw [hpd] at this
        simpa using this
      · simp only [hc, if_false]
        rw [desc_read x y d pd pa.length hd]
        exact Ev.pure _
theorem rows_ev (a b : List S23) (d : List Bool) (hl : a.length < 140737488355328) : Ev (fun k => value_Rows.f k a b d) (cmpR d a b) := by
  unfold value_Rows.f
  have := rows_loop (mn (a.length : Int) (b.length : Int)) a b [] [] [] d rfl (by simpa using hl) (by unfold mn; simp only [List.nil_append]; split <;> split <;> omega) (.inl rfl)
  simpa using this

end Go.Proofs.YtkidihoaeicfdaaDoor.Pure
