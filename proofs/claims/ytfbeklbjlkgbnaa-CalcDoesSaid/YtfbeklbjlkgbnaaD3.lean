/- Written in this session: the document's Binary, Unary and True answer as the program's. No condition but the kinds of numbers and sizes. -/
import Derived.Test.YtfbeklbjlkgbnaaD2
import Derived.Test.YtfbeklbjlkgbnaaC9
import Derived.Test.YtfbeklbjlkgbnaaB6
namespace Go.Proofs.Ytfbeklbjlkgbnaa.P
open Go.RowKit Go.Proofs.Ytfbeklbjlkgbnaa.Pure Go.Proofs.YtfbeklbjlkgbnaaW.PrintWords Go.Proofs.YtfbeklbjlkgbnaaW.PrintLast Go.Proofs.YtfbeklbjlkgbnaaW.PrintMore
set_option linter.unusedVariables false
set_option linter.unusedSimpArgs false
theorem goes_of {op a : Int} (h3 : 3 ≤ op) (h16 : op ≤ 16) (b : Bool) (hb : goesP op a = b) : ∃ k, quarryref02_goes.f k op a = some b := by
  obtain ⟨k, hk⟩ := (goes_ev h3 h16 a).get
  exact ⟨k, by rw [hk, hb]⟩
theorem refBinary.calls (op : Int) (u v : S25) (hu : In64 u.f1) (hv : In64 v.f1) (hz : u.f2.size + v.f2.size < 9223372036854775808) (hx : u.f2.size ≤ 140737488351232) (w : World) :
    Calls Try.prog 18 #[.int .i64 op, .agg #[.int .i64 u.f0, .int .i64 u.f1, .string u.f2], .agg #[.int .i64 v.f0, .int .i64 v.f1, .string v.f2]] w fun e w' => e = .returned (.tuple #[encV (outE (bin op u v)).1, .int .i64 (outE (bin op u v)).2]) ∧ Below w.heap.size w w' := by
  unfold bin
  by_cases l3 : 3 ≤ op
  · by_cases l16 : op ≤ 16
    · rw [if_neg (fun h => h ⟨l3, l16⟩)]
      have hg : kindsP op u.f0 v.f0 ↔ (goesP op u.f0 = true ∧ goesP op v.f0 = true ∧ (wantsP op = 0 → u.f0 = 0 ∨ v.f0 = 0 ∨ u.f0 = v.f0)) := by
        unfold kindsP goesP
        by_cases kz : wantsP op = 0
        · simp [kz]
        · simp [kz]
      cases hA : goesP op u.f0 with
      | false =>
        obtain ⟨kA, HA⟩ := goes_of l3 l16 false hA
        rw [if_pos (fun h => by rw [hg, hA] at h; exact absurd h.1 (by decide))]
        have a0 : ¬ u.f0 = 0 := fun h => by simp [goesP, h] at hA
        by_cases z0 : v.f0 = 0
        · exact refBinary.kindAB op u v w kA ⟨HA⟩ l3 l16 a0 z0
        · exact refBinary.kindAC op u v w kA ⟨HA⟩ l3 l16 a0 z0
      | true =>
      obtain ⟨kA, HA⟩ := goes_of l3 l16 true hA
      cases hB : goesP op v.f0 with
      | false =>
        obtain ⟨kB, HB⟩ := goes_of l3 l16 false hB
        rw [if_pos (fun h => by rw [hg, hB] at h; exact absurd h.2.1 (by decide))]
        have z0 : ¬ v.f0 = 0 := fun h => by simp [goesP, h] at hB
        by_cases a0 : u.f0 = 0
        · exact refBinary.kindBA op u v w kA ⟨HA⟩ kB ⟨HB⟩ l3 l16 a0
        · exact refBinary.kindBC op u v w kA ⟨HA⟩ kB ⟨HB⟩ l3 l16 a0 z0
      | true =>
      obtain ⟨kB, HB⟩ := goes_of l3 l16 true hB
      by_cases l4 : op ≤ 4
      · have kn : ¬ wantsP op = 0 := fun h => (wants_zero h).1 l4
        rw [if_neg (fun h => h (hg.2 ⟨hA, hB, fun q => absurd q kn⟩)), if_pos l4]
        by_cases a0 : u.f0 = 0
        · exact refBinary.logicA op u v w kA ⟨HA⟩ kB ⟨HB⟩ l3 l16 l4 a0
        by_cases z0 : v.f0 = 0
        · exact refBinary.logicB op u v w kA ⟨HA⟩ kB ⟨HB⟩ l3 l16 l4 a0 z0
        · exact refBinary.logicC op u v w kA ⟨HA⟩ kB ⟨HB⟩ l3 l16 l4 a0 z0
      by_cases l10 : op ≤ 10
      · have kz : wantsP op = 0 := by unfold wantsP; rw [if_neg l4, if_pos l10]
        have l5 : 5 ≤ op := by omega
        by_cases a0 : u.f0 = 0
        · rw [if_neg (fun h => h (hg.2 ⟨hA, hB, fun _ => .inl a0⟩)), if_neg l4, if_pos (.inl a0)]
          exact refBinary.nullMA op u v w kA ⟨HA⟩ kB ⟨HB⟩ l3 l16 l5 l10 a0
        by_cases z0 : v.f0 = 0
        · rw [if_neg (fun h => h (hg.2 ⟨hA, hB, fun _ => .inr (.inl z0)⟩)), if_neg l4, if_pos (.inr z0)]
          exact refBinary.nullMB op u v w kA ⟨HA⟩ kB ⟨HB⟩ l3 l16 l5 l10 a0 z0
        by_cases uv : u.f0 = v.f0
        · rw [if_neg (fun h => h (hg.2 ⟨hA, hB, fun _ => .inr (.inr uv)⟩)), if_neg l4, if_neg (fun h => h.elim a0 z0), if_pos l10]
          exact refBinary.cmp op u v w kA ⟨HA⟩ kB ⟨HB⟩ l3 l16 l5 l10 a0 z0 uv ⟨hx⟩
        · rw [if_pos (fun h => (((hg.1 h).2.2 kz).elim a0 (fun h => h.elim z0 uv)))]
          exact refBinary.differ op u v w kA ⟨HA⟩ kB ⟨HB⟩ l3 l16 l5 l10 a0 z0 uv
      have kn : ¬ wantsP op = 0 := fun h => l10 (wants_zero h).2
      rw [if_neg (fun h => h (hg.2 ⟨hA, hB, fun q => absurd q kn⟩)), if_neg l4]
      by_cases a0 : u.f0 = 0
      · rw [if_pos (.inl a0)]; exact refBinary.nullHA op u v w kA ⟨HA⟩ kB ⟨HB⟩ l3 l16 l10 a0
      by_cases z0 : v.f0 = 0
      · rw [if_pos (.inr z0)]; exact refBinary.nullHB op u v w kA ⟨HA⟩ kB ⟨HB⟩ l3 l16 l10 a0 z0
      rw [if_neg (fun h => h.elim a0 z0), if_neg l10]
      by_cases o16 : op = 16
      · rw [if_pos o16]
        by_cases hs : u.f2.size + v.f2.size ≤ 2048
        · rw [if_pos hs]; exact refBinary.cat op u v w kA ⟨HA⟩ kB ⟨HB⟩ l3 l16 l10 a0 z0 o16 hz hs
        · rw [if_neg hs]
          by_cases ha : 2048 < u.f2.size
          · exact refBinary.catA op u v w kA ⟨HA⟩ kB ⟨HB⟩ l3 l16 l10 a0 z0 o16 hz ha
          · exact refBinary.catB op u v w kA ⟨HA⟩ kB ⟨HB⟩ l3 l16 l10 a0 z0 o16 hz ha hs
      rw [if_neg o16]
      by_cases hd : 14 ≤ op ∧ v.f1 = 0
      · have hs : sumP op u.f1 v.f1 = .error 41 := by
          unfold sumP
          rw [if_neg (by omega), if_neg (by omega), if_neg (by omega), if_pos hd.2]
        rw [hs]
        exact refBinary.zero op u v w kA ⟨HA⟩ kB ⟨HB⟩ l3 l16 l10 a0 z0 o16 hd.1 hd.2
      · have hnz : 14 ≤ op → ¬ v.f1 = 0 := fun h q => hd ⟨h, q⟩
        rw [sumP_R hu hv hnz (by omega) (by omega)]
        obtain ⟨k, hk⟩ := (sumR_ev hu hv hnz (by omega)).get
        obtain ⟨⟨n, b⟩, hr⟩ : ∃ p, sumR op u.f1 v.f1 = p := ⟨_, rfl⟩
        rw [hr] at hk ⊢
        cases b with
        | true =>
          by_cases l14 : 14 ≤ op
          · exact refBinary.num1 op u v w kA ⟨HA⟩ kB ⟨HB⟩ l3 l16 l10 a0 z0 o16 l14 (hnz l14) k n ⟨hk⟩
          · exact refBinary.num0 op u v w kA ⟨HA⟩ kB ⟨HB⟩ l3 l16 l10 a0 z0 o16 l14 k n ⟨hk⟩
        | false =>
          by_cases l14 : 14 ≤ op
          · exact refBinary.over1 op u v w kA ⟨HA⟩ kB ⟨HB⟩ l3 l16 l10 a0 z0 o16 l14 (hnz l14) k n ⟨hk⟩
          · exact refBinary.over0 op u v w kA ⟨HA⟩ kB ⟨HB⟩ l3 l16 l10 a0 z0 o16 l14 k n ⟨hk⟩
    · rw [if_pos (fun h => l16 h.2)]
      exact refBinary.high op u v w l3 l16
  · rw [if_pos (fun h => l3 h.1)]
    exact refBinary.low op u v w l3
end Go.Proofs.Ytfbeklbjlkgbnaa.P
namespace Go.Proofs.Ytfbeklbjlkgbnaa.Pure
open Go.RowKit Go.Proofs.Ytfbeklbjlkgbnaa.P Go.Proofs.YtfbeklbjlkgbnaaW.PrintWords Go.Proofs.YtfbeklbjlkgbnaaW.PrintLast Go.Proofs.YtfbeklbjlkgbnaaW.PrintMore
theorem refUnary_ev (op : Int) (v : S25) (hI : In64 v.f1) (hn : v.f0 = 0 → v = zeroV) : Ev (fun k => quarryref02_Unary.f k op v.f0 v.f1 v.f2) ((outE (una op v)).1.f0, (outE (una op v)).1.f1, (outE (una op v)).1.f2, (outE (una op v)).2) := by
  have h2 : ∀ x, Ev (fun k => quarryref02_Unary.j2 k op x v.f0 v.f1 v.f2) (if x = true then (0, 0, V0, 35) else if op = 2 then ((truthV (v.f1 == 0)).f0, (truthV (v.f1 == 0)).f1, (truthV (v.f1 == 0)).f2, 0) else if v.f1 = -9223372036854775808 then (0, 0, V0, 40) else (2, wrap64 (-v.f1), V0, 0)) := by
    intro x
    refine Ev.succ ?_
    simp only [quarryref02_Unary.j2, truthR_f, Option.bind_some]
    cases x
    · simp only [Bool.false_eq_true, if_false]
      by_cases h : op = 2
      · simp only [if_pos h]; exact Ev.pure _
      · by_cases hm : v.f1 = -9223372036854775808
        · simp only [if_neg h, if_pos hm]; exact Ev.pure _
        · simp only [if_neg h, if_neg hm]; exact Ev.pure _
    · exact Ev.pure _
  have h1 : ∀ x, Ev (fun k => quarryref02_Unary.j1 k op x v.f0 v.f1 v.f2) (if (x || (op == 2 && v.f0 != 1)) = true then (0, 0, V0, 35) else if op = 2 then ((truthV (v.f1 == 0)).f0, (truthV (v.f1 == 0)).f1, (truthV (v.f1 == 0)).f2, 0) else if v.f1 = -9223372036854775808 then (0, 0, V0, 40) else (2, wrap64 (-v.f1), V0, 0)) := by
    intro x
    refine Ev.succ ?_
    simp only [quarryref02_Unary.j1]
    cases x
    · simp only [Bool.false_eq_true, if_false, Bool.false_or]
      by_cases h : op = 2
      · have := h2 (v.f0 != 1)
        simpa [h] using this
      · have := h2 false
        simpa [h] using this
    · exact h2 true
  have h0 : ∀ x, Ev (fun k => quarryref02_Unary.j0 k op x v.f0 v.f1 v.f2) (if x = true then (0, 0, V0, 5) else if v.f0 = 0 then (0, 0, V0, 0) else if ((op == 1 && v.f0 != 2) || (op == 2 && v.f0 != 1)) = true then (0, 0, V0, 35) else if op = 2 then ((truthV (v.f1 == 0)).f0, (truthV (v.f1 == 0)).f1, (truthV (v.f1 == 0)).f2, 0) else if v.f1 = -9223372036854775808 then (0, 0, V0, 40) else (2, wrap64 (-v.f1), V0, 0)) := by
    intro x
    refine Ev.succ ?_
    simp only [quarryref02_Unary.j0]
    cases x
    · simp only [Bool.false_eq_true, if_false]
      by_cases hn : v.f0 = 0
      · simp only [if_pos hn]; exact Ev.pure _
      · simp only [if_neg hn]
        by_cases h : op = 1
        · have := h1 (v.f0 != 2)
          simp only [if_pos h]
          simpa [h] using this
        · have := h1 false
          simp only [if_neg h]
          simpa [h] using this
    · exact Ev.pure _
  unfold quarryref02_Unary.f
  by_cases e1 : op = 1
  · simp only [if_pos e1]
    have := h0 false
    unfold una
    by_cases hk : v.f0 = 0
    · have hv := hn hk
      rw [hv] at this ⊢
      simpa [e1, outE, zeroV] using this
    · by_cases hk2 : v.f0 = 2
      · by_cases hm : v.f1 = -9223372036854775808
        · simpa [e1, hk, hk2, hm, outE] using this
        · have hw : wrap64 (-v.f1) = -v.f1 := by unfold In64 at hI; unfold wrap64; omega
          simpa [e1, hk, hk2, hm, hw, outE] using this
      · simpa [e1, hk, hk2, outE] using this
  · simp only [if_neg e1]
    by_cases e2 : op = 2
    · have := h0 false
      unfold una
      by_cases hk : v.f0 = 0
      · have hv := hn hk
        rw [hv] at this ⊢
        simpa [e1, e2, outE, zeroV] using this
      · by_cases hk1 : v.f0 = 1
        · have hd : (v.f1 == 0) = decide (v.f1 = 0) := rfl
          simpa [e1, e2, hk, hk1, outE, hd] using this
        · simpa [e1, e2, hk, hk1, outE] using this
    · have := h0 true
      have hb : (op != 2) = true := bne_iff_ne.mpr e2
      unfold una
      simp only [hb]
      simpa [e1, e2, outE] using this
end Go.Proofs.Ytfbeklbjlkgbnaa.Pure
namespace Go.Proofs.Ytfbeklbjlkgbnaa.P
open Go.RowKit Go.Proofs.Ytfbeklbjlkgbnaa.Pure Go.Proofs.YtfbeklbjlkgbnaaW.PrintWords Go.Proofs.YtfbeklbjlkgbnaaW.PrintLast Go.Proofs.YtfbeklbjlkgbnaaW.PrintMore
theorem refUnary.calls (op : Int) (v : S25) (hI : In64 v.f1) (hn : v.f0 = 0 → v = zeroV) (w : World) :
    Calls Try.prog 20 #[.int .i64 op, .agg #[.int .i64 v.f0, .int .i64 v.f1, .string v.f2]] w fun e w' => e = .returned (.tuple #[encV (outE (una op v)).1, .int .i64 (outE (una op v)).2]) ∧ Below w.heap.size w w' := by
  obtain ⟨k, hk⟩ := (refUnary_ev op v hI hn).get
  exact quarryref02_Unary.calls k _ _ _ _ _ _ _ _ w hk
theorem refTrue_f (s : S25) : quarryref02_True.f s.f0 s.f1 s.f2 = some (decide (s = truthV true)) := by
  unfold quarryref02_True.f
  rw [truthR_f]
  exact congrArg some (eqb s (truthV true))
end Go.Proofs.Ytfbeklbjlkgbnaa.P
