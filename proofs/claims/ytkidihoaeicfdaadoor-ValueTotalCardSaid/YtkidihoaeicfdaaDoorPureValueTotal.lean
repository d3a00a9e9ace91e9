/- The law ValueTotal without Go: the order of right values is one. Condition: sizes. -/
import Derived.Test.YtkidihoaeicfdaaDoorR1
import Derived.Test.YtkidihoaeicfdaaDoorKinds
import Derived.Test.YtkidihoaeicfdaaDoorOrdVal
import Derived.Test.YtkidihoaeicfdaaDoorOrdMore
namespace Go.Proofs.YtkidihoaeicfdaaDoor.Pure
set_option linter.unusedVariables false
set_option linter.unusedSimpArgs false
open Go.RowKit Go.Proofs.YtkidihoaeicfdaaDoor.P Go.Proofs.YtkidihoaeicfdaaDoorW.PrintWords Go.Proofs.YtkidihoaeicfdaaDoorW.PrintLast

theorem right_eq {x y : S23} (hx : chkV x.f0 x.f1 x.f2 = 0) (hy : chkV y.f0 y.f1 y.f2 = 0) (h : cmpV x y = 0) : x = y := by
  have hk : x.f0 = y.f0 := by
    unfold cmpV at h
    by_cases hk : x.f0 = y.f0
    · exact hk
    · rw [if_neg hk, cmpI_zero] at h; exact absurd h hk
  have e : ∀ (s t : ByteArray), s.toList = [] → t.toList = [] → s = t := fun s t h1 h2 => toList_inj (h1.trans h2.symm)
  unfold cmpV at h
  rw [if_pos hk] at h
  unfold chkV at hx hy
  rw [← hk] at hy
  obtain ⟨k, i, s⟩ := x
  obtain ⟨k', j, t⟩ := y
  simp only at hk hx hy h
  subst hk
  by_cases k0 : k = 0
  · rw [if_pos k0] at hx hy
    by_cases p : i = 0 ∧ s.toList = []
    · by_cases q : j = 0 ∧ t.toList = []
      · rw [p.1, q.1, e s t p.2 q.2]
      · rw [if_neg q] at hy; cases hy
    · rw [if_neg p] at hx; cases hx
  rw [if_neg k0] at hx hy
  by_cases k1 : k = 1
  · rw [if_pos k1] at hx hy
    rw [if_pos (.inl k1), cmpI_zero] at h
    by_cases p : (i = 0 ∨ i = 1) ∧ s.toList = []
    · by_cases q : (j = 0 ∨ j = 1) ∧ t.toList = []
      · rw [h, e s t p.2 q.2]
      · rw [if_neg q] at hy; cases hy
    · rw [if_neg p] at hx; cases hx
  rw [if_neg k1] at hx hy
  by_cases k2 : k = 2
  · rw [if_pos k2] at hx hy
    rw [if_pos (.inr k2), cmpI_zero] at h
    by_cases p : s.toList = []
    · by_cases q : t.toList = []
      · rw [h, e s t p q]
      · rw [if_neg q] at hy; cases hy
    · rw [if_neg p] at hx; cases hx
  rw [if_neg k2] at hx hy
  by_cases k3 : k = 3 ∨ k = 4
  · rw [if_pos k3] at hx hy
    rw [if_neg (by omega), if_pos k3, cmpT_zero] at h
    by_cases p : i = 0
    · by_cases q : j = 0
      · rw [h, p, q]
      · rw [if_neg q] at hy; cases hy
    · rw [if_neg p] at hx; cases hx
  · rw [if_neg k3] at hx; cases hx
theorem eq_bool (x y : S23) (h : cmpV x y = 0 ↔ x = y) : ((cmpV x y == 0) == (x.f0 == y.f0 && (x.f1 == y.f1 && (x.f2.toList == y.f2.toList)))) = true := by
  rw [beq_iff_eq, Bool.eq_iff_iff]
  simp only [beq_iff_eq, Bool.and_eq_true]
  rw [h]
  constructor
  · rintro rfl; exact ⟨rfl, rfl, rfl⟩
  · rintro ⟨a, b, c⟩
    obtain ⟨k, i, s⟩ := x
    obtain ⟨k', j, t⟩ := y
    simp only at a b c
    rw [a, b, toList_inj c]

theorem ValueTotal : ∀ (x0 : S23) (x1 : S23) (x2 : S23), G23 x0 → G23 x1 → G23 x2 → ∃ k, quarrylaw01_ValueTotal.f k (x0.f0) (x0.f1) (x0.f2) (x1.f0) (x1.f1) (x1.f2) (x2.f0) (x2.f1) (x2.f2) = some true := by
  intro x y z hx hy hz
  refine Ev.get (g := fun k => quarrylaw01_ValueTotal.f k (x.f0) (x.f1) (x.f2) (y.f0) (y.f1) (y.f2) (z.f0) (z.f1) (z.f2)) ?_
  unfold quarrylaw01_ValueTotal.f
  simp only [quarrylaw01_works.f, Option.bind_some, if_true, value_Check.f]
  have dead : Ev (fun k => quarrylaw01_ValueTotal.j0 k true x.f0 x.f1 x.f2 y.f0 y.f1 y.f2 z.f0 z.f1 z.f2) true := by
    refine Ev.succ ⟨0, fun k _ => ?_⟩
    simp only [quarrylaw01_ValueTotal.j0, if_true]
  refine Ev.ite (fun p1 => ?_) (fun _ => dead)
  refine Ev.ite (fun p2 => ?_) (fun _ => dead)
  by_cases p3 : chkV z.f0 z.f1 z.f2 = 0
  · have q : (chkV z.f0 z.f1 z.f2 != 0) = false := bne_eq_false_iff_eq.mpr p3
    simp only [q]
    refine Ev.succ ?_
    simp only [quarrylaw01_ValueTotal.j0, Bool.false_eq_true, if_false]
    refine Ev.bind (cmp_ev x y) (Ev.bind (cmp_ev y z) (Ev.bind (cmp_ev x z) (Ev.bind (cmp_ev y x) ?_)))
    refine Ev.pos (by rw [(neg_s3 (cmpV_s3 y x)).2, cmpV_neg y x]) ?_
    have hxy : cmpV x y = 0 ↔ x = y := ⟨right_eq p1 p2, fun h => by rw [h]; exact cmpV_self y⟩
    refine Ev.pos (eq_bool x y hxy) ?_
    have self : Ev (fun k => (value_Compare.f k x.f0 x.f1 x.f2 x.f0 x.f1 x.f2).bind fun t => some (t == 0)) true := by
      refine Ev.bind (cmp_ev x x) ?_
      rw [cmpV_self]
      exact Ev.pure _
    refine Ev.ite (fun _ => self) (fun h1 => ?_)
    refine Ev.ite (fun _ => self) (fun h2 => ?_)
    have s1 := cmpV_s3 x y
    have s2 := cmpV_s3 y z
    have s3 := cmpV_s3 x z
    unfold S3 at s1 s2 s3
    have tr : (cmpV x y = 0 ∧ cmpV y z = 0 ∧ cmpV x z = 0) ∨ cmpV x z < 0 := by
      by_cases u : cmpV x y = 0
      · have e := cmpV_eqv z u
        by_cases v : cmpV y z = 0
        · exact .inl ⟨u, v, by omega⟩
        · exact .inr (by omega)
      · by_cases v : cmpV y z = 0
        · have e := cmpV_eqv' x v
          exact .inr (by omega)
        · have e := cmpV_tr (sg := -1) (.inl rfl) (show cmpV x y = -1 by omega) (show cmpV y z = -1 by omega)
          exact .inr (by omega)
    refine Ev.pos (by omega) ?_
    refine Ev.ite (fun h3 => ?_) (fun h3 => ?_)
    · refine Ev.ite (fun h4 => self) (fun h4 => ?_)
      exact Ev.pos (by omega) self
    · exact Ev.pos (by omega) self
  · have q : (chkV z.f0 z.f1 z.f2 != 0) = true := bne_iff_ne.mpr p3
    simp only [q]
    exact dead

end Go.Proofs.YtkidihoaeicfdaaDoor.Pure
