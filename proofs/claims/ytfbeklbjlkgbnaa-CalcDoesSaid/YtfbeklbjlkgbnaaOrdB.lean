/- The order of values and rows, as the program and the document tell it: both are the plain one. No condition but sizes. -/
import Derived.Test.YtfbeklbjlkgbnaaOrd
import Derived.Test.YtfbeklbjlkgbnaaOrdA
import Derived.Test.YtfbeklbjlkgbnaaB3
namespace Go.Proofs.Ytfbeklbjlkgbnaa.Pure
set_option linter.unusedVariables false
set_option linter.unusedSimpArgs false
open Go.RowKit Go.Proofs.Ytfbeklbjlkgbnaa.P Go.Proofs.YtfbeklbjlkgbnaaW.PrintWords Go.Proofs.YtfbeklbjlkgbnaaW.PrintLast Go.Proofs.YtfbeklbjlkgbnaaW.PrintMore

theorem texts_loop (s t : ByteArray) (hs : s.size ≤ 140737488351232) : ∀ (a b pa pb : List UInt8), s.data.toList = pa ++ a → t.data.toList = pb ++ b → pa.length = pb.length →
    Ev (fun k => quarryref01_texts.l0 k s t (pa.length : Int)) (Lib.compareBytes a b) := by
  have hz : ∀ u : ByteArray, u.size = u.data.toList.length := fun u => by rw [Array.length_toList]; rfl
  intro a
  induction a with
  | nil =>
    intro b pa pb ha hb hp
    have h1 := hz s
    have h2 := hz t
    rw [ha] at h1
    rw [hb] at h2
    simp only [List.append_nil, List.length_append] at h1 h2
    have e1 : ¬ ((pa.length : Int) < (s.size : Int)) := by omega
    refine Ev.succ ?_
    simp only [quarryref01_texts.l0, e1, if_false]
    refine Ev.succ ?_
    simp only [quarryref01_texts.j1, Bool.false_eq_true, if_false]
    cases b with
    | nil =>
      simp only [List.length_nil] at h2
      have e2 : ¬ (s.size : Int) < (t.size : Int) := by omega
      have e3 : ¬ (s.size : Int) > (t.size : Int) := by omega
      simp only [e2, e3, if_false]
      exact Ev.pure _
    | cons y b =>
      simp only [List.length_cons] at h2
      have e2 : (s.size : Int) < (t.size : Int) := by omega
      simp only [e2, if_true]
      exact Ev.pure _
  | cons x a ih =>
    intro b pa pb ha hb hp
    have h1 := hz s
    have h2 := hz t
    rw [ha] at h1
    rw [hb] at h2
    simp only [List.length_append, List.length_cons] at h1 h2
    have e1 : ((pa.length : Int) < (s.size : Int)) := by omega
    have e0 : (0 : Int) ≤ (pa.length : Int) := by omega
    refine Ev.succ ?_
    simp only [quarryref01_texts.l0, e1, if_true]
    refine Ev.succ ?_
    cases b with
    | nil =>
      simp only [List.length_nil] at h2
      have e2 : ¬ ((pa.length : Int) < (t.size : Int)) := by omega
      have e3 : ¬ (s.size : Int) < (t.size : Int) := by omega
      have e4 : (s.size : Int) > (t.size : Int) := by omega
      simp only [quarryref01_texts.j1, e2, decide_false, Bool.false_eq_true, if_false, e3, e4, if_true]
      exact Ev.pure _
    | cons y b =>
      simp only [List.length_cons] at h2
      have e2 : ((pa.length : Int) < (t.size : Int)) := by omega
      have b1 := bt_at' s pa x a ha
      have b2 := bt_at' t pb y b hb
      rw [← hp] at b2
      simp only [quarryref01_texts.j1, e2, decide_true, if_true, e0, e1, b1, b2]
      unfold Lib.compareBytes
      by_cases c1 : x < y
      · have c1' : (x.toNat : Int) < (y.toNat : Int) := by have := UInt8.lt_iff_toNat_lt.1 c1; omega
        simp only [c1, c1', if_true]
        exact Ev.pure _
      · have c1' : ¬ (x.toNat : Int) < (y.toNat : Int) := fun h => c1 (UInt8.lt_iff_toNat_lt.2 (by omega))
        by_cases c2 : y < x
        · have c2' : (x.toNat : Int) > (y.toNat : Int) := by have := UInt8.lt_iff_toNat_lt.1 c2; omega
          simp only [c1, c1', c2, c2', if_true, if_false]
          exact Ev.pure _
        · have c2' : ¬ (x.toNat : Int) > (y.toNat : Int) := fun h => c2 (UInt8.lt_iff_toNat_lt.2 (by omega))
          have e6 : wrap64 ((pa.length : Int) + 1) = (pa.length : Int) + 1 := wrap64_in (by omega) (by omega)
          simp only [c1, c1', c2, c2', if_false, e6]
          have := ih b (pa ++ [x]) (pb ++ [y]) (by simpa using ha) (by simpa using hb) (by simpa using hp)
          simpa using this
theorem texts_ev (s t : ByteArray) (hs : s.size ≤ 140737488351232) : Ev (fun k => quarryref01_texts.f k s t) (cmpT s t) := by
  unfold quarryref01_texts.f cmpT
  have := texts_loop s t hs s.data.toList t.data.toList [] [] rfl rfl rfl
  simpa using this

theorem ref_cmp_ev (x y : S25) (hx : x.f2.size ≤ 140737488351232) : Ev (fun k => quarryref01_Compare.f k x.f0 x.f1 x.f2 y.f0 y.f1 y.f2) (cmpV x y) := by
  unfold quarryref01_Compare.f cmpV cmpI
  by_cases c1 : x.f0 < y.f0
  · have e : ¬ x.f0 = y.f0 := by omega
    simp only [c1, e, if_true, if_false]
    exact Ev.pure _
  by_cases c2 : y.f0 < x.f0
  · have e : ¬ x.f0 = y.f0 := by omega
    simp only [c1, c2, e, gt_iff_lt, if_true, if_false]
    exact Ev.pure _
  have e : x.f0 = y.f0 := by omega
  rw [if_pos e]
  simp only [c1, c2, gt_iff_lt, if_false]
  have hj : Ev (fun k => quarryref01_Compare.j0 k (x.f0 == 3 || x.f0 == 4) x.f0 x.f1 x.f2 y.f0 y.f1 y.f2) (if x.f0 = 1 ∨ x.f0 = 2 then (if x.f1 < y.f1 then -1 else if y.f1 < x.f1 then 1 else 0) else if x.f0 = 3 ∨ x.f0 = 4 then cmpT x.f2 y.f2 else 0) := by
    refine Ev.succ ?_
    simp only [quarryref01_Compare.j0]
    by_cases h34 : x.f0 = 3 ∨ x.f0 = 4
    · have q : (x.f0 == 3 || x.f0 == 4) = true := by simpa using h34
      rw [if_neg (by omega), if_pos h34]
      simp only [q, if_true]
      exact Ev.bind (texts_ev _ _ hx) (Ev.pure _)
    have q : (x.f0 == 3 || x.f0 == 4) = false := by simpa using h34
    simp only [q, Bool.false_eq_true, if_false]
    rw [if_neg h34]
    have hk : Ev (fun k => quarryref01_Compare.j1 k (x.f1 == y.f1) x.f0 x.f1 x.f2 y.f0 y.f1 y.f2) (if x.f1 < y.f1 then -1 else if y.f1 < x.f1 then 1 else 0) := by
      refine Ev.succ ?_
      simp only [quarryref01_Compare.j1]
      by_cases g : x.f1 = y.f1
      · simp only [g, beq_self_eq_true, if_true, Int.lt_irrefl, if_false]
        exact Ev.pure _
      · have : (x.f1 == y.f1) = false := by simpa using g
        simp only [this, Bool.false_eq_true, if_false]
        by_cases g1 : x.f1 < y.f1
        · simp only [g1, if_true]; exact Ev.pure _
        · have g2 : y.f1 < x.f1 := by omega
          simp only [g1, g2, if_true, if_false]; exact Ev.pure _
    by_cases h1 : x.f0 = 1
    · rw [if_pos (.inl h1)]
      simp only [h1, if_true] at hk ⊢
      exact hk
    by_cases h2 : x.f0 = 2
    · rw [if_pos (.inr h2)]
      simp only [h1, h2, if_true, if_false] at hk ⊢
      exact hk
    rw [if_neg (by omega)]
    simp only [h1, h2, if_false]
    refine Ev.succ ?_
    simp only [quarryref01_Compare.j1, if_true]
    exact Ev.pure _
  by_cases h3 : x.f0 = 3
  · have q : (x.f0 == 3 || x.f0 == 4) = true := by simp [h3]
    rw [q] at hj
    simp only [h3, if_true] at hj ⊢
    exact hj
  · have q : (x.f0 == 3 || x.f0 == 4) = (x.f0 == 4) := by simp [h3]
    rw [q] at hj
    simp only [h3, if_false] at hj ⊢
    exact hj

end Go.Proofs.Ytfbeklbjlkgbnaa.Pure
