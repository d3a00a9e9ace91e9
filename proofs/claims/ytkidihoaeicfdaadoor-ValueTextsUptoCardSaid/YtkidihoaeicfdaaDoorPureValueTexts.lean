/- The law ValueTexts without Go: different right values are written differently, each as its kind is. Condition: the bulk's bound alone, as the given statement has it. -/
import Derived.Test.YtkidihoaeicfdaaDoorR5
import Derived.Test.YtkidihoaeicfdaaDoorKinds
import Derived.Test.YtkidihoaeicfdaaDoorLits
namespace Go.Proofs.YtkidihoaeicfdaaDoor.Pure
set_option linter.unusedVariables false
set_option linter.unusedSimpArgs false
open Go.RowKit Go.Proofs.YtkidihoaeicfdaaDoor.P Go.Proofs.YtkidihoaeicfdaaDoorW.PrintWords Go.Proofs.YtkidihoaeicfdaaDoorW.PrintLast

theorem chkR_V (a b : Int) (c : ByteArray) : chkR a b c = chkV a b c := rfl
theorem eq_neq (x y : S23) (hx : chkV x.f0 x.f1 x.f2 = 0) (hy : chkV y.f0 y.f1 y.f2 = 0) :
    (((litV x.f0 x.f1 x.f2).toList == (litV y.f0 y.f1 y.f2).toList) != (x.f0 == y.f0 && (x.f1 == y.f1 && (x.f2.toList == y.f2.toList)))) = false := by
  rw [bne_eq_false_iff_eq, Bool.eq_iff_iff]
  simp only [beq_iff_eq, Bool.and_eq_true]
  constructor
  · intro h
    rw [Go.ByteArray.toList_eq, Go.ByteArray.toList_eq] at h
    have := lit_inj hx hy h
    subst this
    exact ⟨rfl, rfl, rfl⟩
  · rintro ⟨a, b, c⟩
    rw [a, b, toList_inj c]
theorem lit_size (x : S23) : (litV x.f0 x.f1 x.f2).size = (litV x.f0 x.f1 x.f2).data.toList.length := by rw [Array.length_toList]; rfl
theorem bt_head {s : ByteArray} {c : UInt8} {t : List UInt8} (h : s.data.toList = c :: t) : bt s 0 = (c.toNat : Int) := bt_at' s [] c t h
theorem size_cons {s : ByteArray} {c : UInt8} {t : List UInt8} (h : s.data.toList = c :: t) : (s.size : Int) = t.length + 1 := by
  have : s.size = s.data.toList.length := by rw [Array.length_toList]; rfl
  rw [this, h]; simp

theorem ValueTexts : ∀ (x0 : S23) (x1 : S23), G23 x0 → G23 x1 → m23 x0 + m23 x1 ≤ 1048576 → ∃ k, quarrylaw01_ValueTexts.f k (x0.f0) (x0.f1) (x0.f2) (x1.f0) (x1.f1) (x1.f2) = some true := by
  intro x y hx hy hb
  refine Ev.get (g := fun k => quarrylaw01_ValueTexts.f k (x.f0) (x.f1) (x.f2) (y.f0) (y.f1) (y.f2)) ?_
  unfold quarrylaw01_ValueTexts.f
  simp only [quarrylaw01_works.f, Option.bind_some, if_true, quarryref01_Check.f, chkR_V]
  have dead : Ev (fun k => quarrylaw01_ValueTexts.j0 k true x.f0 x.f1 x.f2 y.f0 y.f1 y.f2) true := by
    refine Ev.succ ⟨0, fun k _ => ?_⟩
    simp only [quarrylaw01_ValueTexts.j0, if_true]
  refine Ev.ite (fun p1 => ?_) (fun _ => dead)
  by_cases p2 : chkV y.f0 y.f1 y.f2 = 0
  · have q : (chkV y.f0 y.f1 y.f2 != 0) = false := bne_eq_false_iff_eq.mpr p2
    simp only [q]
    have sx : x.f2.size ≤ 1048576 := by unfold m23 at hb; omega
    have sy : y.f2.size ≤ 1048576 := by unfold m23 at hb; omega
    have ix := wf64 hx.2.1
    have iy := wf64 hy.2.1
    unfold I64 at ix iy
    have lx : value_Literal.f x.f0 x.f1 x.f2 = some (litV x.f0 x.f1 x.f2) := by unfold value_Literal.f; rw [if_pos ⟨by omega, ix.1, ix.2⟩]
    have ly : value_Literal.f y.f0 y.f1 y.f2 = some (litV y.f0 y.f1 y.f2) := by unfold value_Literal.f; rw [if_pos ⟨by omega, iy.1, iy.2⟩]
    obtain ⟨c, t, e, hk, hn⟩ := lit_head _ _ _ p1
    have hsz := size_cons e
    have q3 : (((litV x.f0 x.f1 x.f2).size : Int) == 0) = false := beq_eq_false_iff_ne.mpr (by omega)
    refine Ev.succ ?_
    simp only [quarrylaw01_ValueTexts.j0, Bool.false_eq_true, if_false, lx, ly, Option.bind_some, eq_neq x y p1 p2, q3]
    refine Ev.succ ?_
    simp only [quarrylaw01_ValueTexts.j1, Bool.false_eq_true, if_false]
    refine ⟨0, fun k _ => ?_⟩
    have hs0 : 0 < ((litV x.f0 x.f1 x.f2).size : Int) := by omega
    obtain ⟨k0, i, s⟩ := x
    simp only at *
    rcases chk_kind p1 with rfl | rfl | rfl | rfl | rfl
    · rw [if_neg (by decide), if_neg (by decide), if_neg (by decide), if_pos rfl, lit_null p1, Go.ByteArray.toList_eq]
      rfl
    · rw [if_neg (by decide), if_neg (by decide), if_pos rfl, lit_bool p1]
      by_cases hi : i = 1
      · rw [if_pos hi, Go.ByteArray.toList_eq]; rfl
      · rw [if_neg hi, Go.ByteArray.toList_eq]; rfl
    · rw [if_neg (by decide), if_neg (by decide), if_neg (by decide), if_neg (by decide), if_pos rfl, if_pos hs0, bt_head e]
      have hc := hn rfl
      by_cases hi : i < 0
      · rw [if_pos hi] at hc
        rw [hc]; simp [hi]
      · rw [if_neg hi] at hc
        have q : (((c.toNat : Int)) == 45) = false := beq_eq_false_iff_ne.mpr (by omega)
        rw [q, decide_eq_false hi]; rfl
    · rw [if_pos rfl, if_pos hs0]
      have e2 : (litV 3 i s).data.toList = textL s.data.toList := by rw [lit_text p1]
      have hl : ((litV 3 i s).size : Int) ≥ s.size + 2 := by
        have h1 : (litV 3 i s).size = (litV 3 i s).data.toList.length := by rw [Array.length_toList]; rfl
        have h2 := quote_ge s.data.toList
        have h3 : s.data.toList.length = s.size := by rw [Array.length_toList]; rfl
        rw [h1, e2]
        unfold textL
        rw [repl_eq]
        simp only [List.length_append, List.length_singleton]
        omega
      have hb0 : bt (litV 3 i s) 0 = 39 := by
        have e3 : (litV 3 i s).data.toList = 39 :: (Lib.replaceAll s.data.toList [39] [39, 39] ++ [39]) := by rw [e2]; rfl
        rw [bt_head e3]; rfl
      rw [if_pos hb0]
      have hw : wrap64 ((s.size : Int) + 2) = s.size + 2 := wrap64_in (by omega) (by omega)
      rw [hw, decide_eq_true hl]
    · rw [if_neg (by decide), if_pos rfl]
      have e2 : (litV 4 i s).data.toList = blobL s.data.toList := by rw [lit_bytes p1]
      have hl : ((litV 4 i s).size : Int) = 2 * s.size + 3 := by
        have h1 : (litV 4 i s).size = (litV 4 i s).data.toList.length := by rw [Array.length_toList]; rfl
        have h3 : s.data.toList.length = s.size := by rw [Array.length_toList]; rfl
        rw [h1, e2]
        unfold blobL
        simp only [List.length_append, List.length_singleton, hexS_length, List.length_cons, List.length_nil]
        omega
      have hw : wrap64 (wrap64 (2 * (s.size : Int)) + 3) = 2 * s.size + 3 := by rw [wrap64_in (n := 2 * (s.size : Int)) (by omega) (by omega), wrap64_in (by omega) (by omega)]
      rw [hw, hl]; simp
  · have q : (chkV y.f0 y.f1 y.f2 != 0) = true := bne_iff_ne.mpr p2
    simp only [q]
    exact dead

end Go.Proofs.YtkidihoaeicfdaaDoor.Pure
