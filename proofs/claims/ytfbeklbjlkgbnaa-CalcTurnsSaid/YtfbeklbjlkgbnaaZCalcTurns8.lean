/- Laid by a program of this session out of its texts for the law CalcTurns, part 8. -/
import Derived.Test.YtfbeklbjlkgbnaaZCalcTurns7
section
namespace Go.Proofs.Ytfbeklbjlkgbnaa.Pure
set_option linter.unusedVariables false
set_option linter.unusedSimpArgs false
open Go.RowKit Go.Proofs.Ytfbeklbjlkgbnaa.P Go.Proofs.YtfbeklbjlkgbnaaW.PrintWords Go.Proofs.YtfbeklbjlkgbnaaW.PrintLast Go.Proofs.YtfbeklbjlkgbnaaW.PrintMore
def okV (x : S25) : Bool := chkR x.f0 x.f1 x.f2 == 0
theorem right_loop : ∀ (s p : List S25), (p ++ s).length < 140737488355328 → Ev (fun k => quarrylaw02_right.l0 k (p ++ s) (p.length : Int)) (s.all okV)
  | [], p, hl => by
    refine Ev.succ ?_
    simp only [quarrylaw02_right.l0, List.append_nil, Int.lt_irrefl, if_false]
    exact Ev.pure _
  | x :: s, p, hl => by
    refine Ev.succ ?_
    have h1 : (p.length : Int) < ((p ++ x :: s).length : Int) := by simp; omega
    have h2 : (0 : Int) ≤ (p.length : Int) := by omega
    simp only [quarrylaw02_right.l0, if_pos h1, if_pos h2, rd_at, quarryref01_Check.f, Option.bind_some]
    by_cases h : chkR x.f0 x.f1 x.f2 = 0
    · simp only [if_pos h]
      have ih := right_loop s (p ++ [x]) (by simpa using hl)
      have hw : wrap64 ((p.length : Int) + 1) = ((p ++ [x]).length : Int) := by
        simp at hl
        unfold wrap64
        simp
        omega
      rw [hw]
      have hb : (x :: s).all okV = s.all okV := by simp [okV, h]
      rw [hb]
      simpa using ih
    · simp only [if_neg h]
      have hb : (x :: s).all okV = false := by simp [okV, h]
      rw [hb]
      exact Ev.pure _
theorem right_ev (l : List S25) (hl : l.length < 140737488355328) : Ev (fun k => quarrylaw02_right.f k l) (l.all okV) := by
  have := right_loop l [] (by simpa using hl)
  simpa [quarrylaw02_right.f] using this
theorem okV_null {x : S25} (h : okV x = true) (h0 : x.f0 = 0) : x = ⟨0, 0, ⟨#[]⟩⟩ := by
  have h' : chkR x.f0 x.f1 x.f2 = 0 := beq_iff_eq.1 h
  unfold chkR at h'
  rw [if_pos h0] at h'
  by_cases hc : x.f1 = 0 ∧ x.f2.toList = []
  · cases x
    simp only at h0 hc
    have he : (⟨#[]⟩ : ByteArray).toList = [] := by rw [Go.ByteArray.toList_eq]
    rw [h0, hc.1, toList_inj (hc.2.trans he.symm)]
  · rw [if_neg hc] at h'
    omega
end Go.Proofs.Ytfbeklbjlkgbnaa.Pure
end
section
namespace Go.Proofs.Ytfbeklbjlkgbnaa.Pure
set_option linter.unusedVariables false
set_option linter.unusedSimpArgs false
open Go.RowKit Go.Proofs.Ytfbeklbjlkgbnaa.P Go.Proofs.YtfbeklbjlkgbnaaW.PrintWords Go.Proofs.YtfbeklbjlkgbnaaW.PrintLast Go.Proofs.YtfbeklbjlkgbnaaW.PrintMore
theorem fits25 {x y : S25} (hx : G25 x) (hy : G25 y) : fits x y := ⟨wf64 hx.2.1, wf64 hy.2.1, hx.2.2, hy.2.2⟩
theorem bin_f (op : Int) (x y : S25) (h : fits x y) : calc_Binary.f op x.f0 x.f1 x.f2 y.f0 y.f1 y.f2 = some (outT (bin op x y)) := if_pos h
theorem una_f (op : Int) (x : S25) (h : In64 x.f1) : calc_Unary.f op x.f0 x.f1 x.f2 = some (outT (una op x)) := if_pos h
theorem num_f (n : Int) : quarrylaw02_num.f n = some (2, n, V0) := rfl
theorem V0_list : V0.toList = [] := by rw [Go.ByteArray.toList_eq]; rfl
theorem works_f : quarrylaw02_works.f = some true := by
  have b1 : calc_Binary.f 11 2 2 V0 2 3 V0 = some (2, 5, V0, 0) := by kernel_rfl
  have b2 : calc_Binary.f 4 0 0 V0 1 0 V0 = some (1, 0, V0, 0) := by kernel_rfl
  have b3 : calc_Binary.f 14 2 1 V0 2 0 V0 = some (0, 0, V0, 41) := by kernel_rfl
  have b4 : calc_Call.f 5 [⟨3, 0, ⟨#[104, 101, 108, 108, 111]⟩⟩, ⟨2, 2, V0⟩, ⟨2, 3, V0⟩] = some (3, 0, ⟨#[101, 108, 108]⟩, 0) := by kernel_rfl
  have e : (⟨#[101, 108, 108]⟩ : ByteArray).toList = [101, 108, 108] := by rw [Go.ByteArray.toList_eq]
  unfold quarrylaw02_works.f
  have e0 : (⟨#[]⟩ : ByteArray) = V0 := rfl
  simp only [num_f, Option.bind_some, e0, b1, b2, b3, b4, e, V0_list]
  rfl
end Go.Proofs.Ytfbeklbjlkgbnaa.Pure
end
section
namespace Go.Proofs.Ytfbeklbjlkgbnaa.Pure
set_option linter.unusedVariables false
set_option linter.unusedSimpArgs false
open Go.RowKit Go.Proofs.Ytfbeklbjlkgbnaa.P Go.Proofs.YtfbeklbjlkgbnaaW.PrintWords Go.Proofs.YtfbeklbjlkgbnaaW.PrintLast Go.Proofs.YtfbeklbjlkgbnaaW.PrintMore
theorem cmpI_neg (a b : Int) : cmpI b a = -cmpI a b := by
  unfold cmpI
  by_cases h : a < b
  · rw [if_pos h, if_neg (by omega), if_pos h]; rfl
  · by_cases h' : b < a
    · rw [if_pos h', if_neg h, if_pos h']
    · rw [if_neg h', if_neg h, if_neg h, if_neg h']; rfl
theorem cmpB_neg : ∀ a b : List UInt8, Lib.compareBytes b a = -Lib.compareBytes a b
  | [], [] => rfl
  | [], _ :: _ => rfl
  | _ :: _, [] => rfl
  | a :: l, b :: m => by
    unfold Lib.compareBytes
    have ih := cmpB_neg l m
    by_cases h : a < b
    · have h' : ¬ b < a := fun h2 => by have := UInt8.lt_iff_toNat_lt.1 h; have := UInt8.lt_iff_toNat_lt.1 h2; omega
      rw [if_pos h, if_neg h', if_pos h]; rfl
    · by_cases h' : b < a
      · rw [if_pos h', if_neg h, if_pos h']
      · rw [if_neg h', if_neg h, if_neg h, if_neg h', ih]
theorem cmpT_neg (a b : ByteArray) : cmpT b a = -cmpT a b := cmpB_neg _ _
theorem cmpV_neg (x y : S25) : cmpV y x = -cmpV x y := by
  unfold cmpV
  by_cases h : x.f0 = y.f0
  · rw [if_pos h, if_pos h.symm]
    by_cases h1 : x.f0 = 1 ∨ x.f0 = 2
    · rw [if_pos h1, if_pos (by omega), cmpI_neg]
    · rw [if_neg h1, if_neg (by omega)]
      by_cases h2 : x.f0 = 3 ∨ x.f0 = 4
      · rw [if_pos h2, if_pos (by omega), cmpT_neg]
      · rw [if_neg h2, if_neg (by omega)]; rfl
  · rw [if_neg h, if_neg (fun e => h e.symm), cmpI_neg]
theorem okV_num {x : S25} (h : okV x = true) (h2 : x.f0 = 1 ∨ x.f0 = 2) : x.f2 = V0 := by
  have h' : chkR x.f0 x.f1 x.f2 = 0 := beq_iff_eq.1 h
  have hc : x.f2.toList = [] := by
    unfold chkR at h'
    rw [if_neg (by omega)] at h'
    by_cases h1 : x.f0 = 1
    · rw [if_pos h1] at h'
      by_cases hc : (x.f1 = 0 ∨ x.f1 = 1) ∧ x.f2.toList = []
      · exact hc.2
      · rw [if_neg hc] at h'; omega
    · rw [if_neg h1, if_pos (by omega)] at h'
      by_cases hc : x.f2.toList = []
      · exact hc
      · rw [if_neg hc] at h'; omega
  exact toList_inj (hc.trans V0_list.symm)
theorem okV_bool {x : S25} (h : okV x = true) (h1 : x.f0 = 1) : x = truthV true ∨ x = truthV false := by
  have h' : chkR x.f0 x.f1 x.f2 = 0 := beq_iff_eq.1 h
  have ht := okV_num h (.inl h1)
  unfold chkR at h'
  rw [if_neg (by omega), if_pos h1] at h'
  by_cases hc : (x.f1 = 0 ∨ x.f1 = 1) ∧ x.f2.toList = []
  · cases x
    simp only at h1 ht hc
    subst h1; subst ht
    rcases hc.1 with h0 | h0
    · subst h0; exact .inr rfl
    · subst h0; exact .inl rfl
  · rw [if_neg hc] at h'; omega
end Go.Proofs.Ytfbeklbjlkgbnaa.Pure
end
section
namespace Go.Proofs.Ytfbeklbjlkgbnaa.Pure
open Go.RowKit Go.Proofs.Ytfbeklbjlkgbnaa.P Go.Proofs.YtfbeklbjlkgbnaaW.PrintWords Go.Proofs.YtfbeklbjlkgbnaaW.PrintLast
theorem logicP_comm (u v s : S25) : logicP u v s = logicP v u s := by
  unfold logicP
  by_cases h1 : u = s ∨ v = s
  · rw [if_pos h1, if_pos h1.symm]
  · rw [if_neg h1, if_neg (show ¬ (v = s ∨ u = s) from fun h => h1 h.symm)]
    by_cases h2 : u.f0 = 0 ∨ v.f0 = 0
    · rw [if_pos h2, if_pos h2.symm]
    · rw [if_neg h2, if_neg (show ¬ (v.f0 = 0 ∨ u.f0 = 0) from fun h => h2 h.symm)]
theorem kindsP_comm {op a b : Int} : kindsP op a b ↔ kindsP op b a := by
  unfold kindsP
  split
  · exact and_comm
  · constructor
    · rintro (h | h | h)
      · exact .inr (.inl h)
      · exact .inl h
      · exact .inr (.inr h.symm)
    · rintro (h | h | h)
      · exact .inr (.inl h)
      · exact .inl h
      · exact .inr (.inr h.symm)
theorem sumP_comm (op a b : Int) (ho : op = 11 ∨ op = 13) : sumP op a b = sumP op b a := by
  unfold sumP prodP
  rcases ho with rfl | rfl
  · rw [if_pos rfl, if_pos rfl, Int.add_comm]
  · have h1 : ¬ (13 : Int) = 11 := by decide
    have h2 : ¬ (13 : Int) = 12 := by decide
    simp only [if_neg h1, if_neg h2, if_true, Int.mul_comm b a]
theorem holds_eq (op c : Int) (ho : op = 5 ∨ op = 6) : holdsP op c = holdsP op (-c) := by
  unfold holdsP
  rcases ho with rfl | rfl
  · rw [if_pos rfl, if_pos rfl, Bool.eq_iff_iff]; simp
  · rw [if_neg (by omega), if_pos rfl, if_neg (by omega), if_pos rfl, Bool.eq_iff_iff]; simp
theorem bin_comm (op : Int) (u v : S25) (ho : op = 4 ∨ op = 3 ∨ op = 5 ∨ op = 6 ∨ op = 11 ∨ op = 13) : bin op u v = bin op v u := by
  unfold bin
  rw [if_neg (show ¬ ¬ (3 ≤ op ∧ op ≤ 16) by omega), if_neg (show ¬ ¬ (3 ≤ op ∧ op ≤ 16) by omega)]
  by_cases hk : kindsP op u.f0 v.f0
  · rw [if_neg (show ¬ ¬ kindsP op u.f0 v.f0 from fun h => h hk), if_neg (show ¬ ¬ kindsP op v.f0 u.f0 from fun h => h (kindsP_comm.1 hk)), logicP_comm u v]
    by_cases h4 : op ≤ 4
    · rw [if_pos h4, if_pos h4]
    · rw [if_neg h4, if_neg h4]
      by_cases h0 : u.f0 = 0 ∨ v.f0 = 0
      · rw [if_pos h0, if_pos h0.symm]
      · rw [if_neg h0, if_neg (show ¬ (v.f0 = 0 ∨ u.f0 = 0) from fun h => h0 h.symm)]
        by_cases h10 : op ≤ 10
        · rw [if_pos h10, if_pos h10, cmpV_neg u v, ← holds_eq op _ (by omega)]
        · have h16 : ¬ op = 16 := by omega
          rw [if_neg h10, if_neg h10, if_neg h16, if_neg h16, sumP_comm op u.f1 v.f1 (by omega)]
  · rw [if_pos hk, if_pos (fun h => hk (kindsP_comm.1 h))]
theorem less_great (u v : S25) : bin 7 u v = bin 9 v u := by
  have e : kindsP 7 u.f0 v.f0 ↔ kindsP 9 v.f0 u.f0 := (show kindsP 7 u.f0 v.f0 ↔ kindsP 9 u.f0 v.f0 from Iff.rfl).trans kindsP_comm
  have t1 : ¬ ¬ ((3 : Int) ≤ 7 ∧ (7 : Int) ≤ 16) := by decide
  have t2 : ¬ ¬ ((3 : Int) ≤ 9 ∧ (9 : Int) ≤ 16) := by decide
  have t3 : ¬ (7 : Int) ≤ 4 := by decide
  have t4 : ¬ (9 : Int) ≤ 4 := by decide
  have t5 : (7 : Int) ≤ 10 := by decide
  have t6 : (9 : Int) ≤ 10 := by decide
  have hh : holdsP 7 (cmpV u v) = holdsP 9 (cmpV v u) := by
    rw [cmpV_neg u v]
    have a : holdsP 7 (cmpV u v) = decide (cmpV u v < 0) := rfl
    have b : holdsP 9 (-cmpV u v) = decide (0 < -cmpV u v) := rfl
    rw [a, b]
    exact decide_eq_decide.2 (by omega)
  unfold bin
  rw [if_neg t1, if_neg t2, if_neg t3, if_neg t4, if_pos t5, if_pos t6, hh]
  by_cases hk : kindsP 7 u.f0 v.f0
  · rw [if_neg (show ¬ ¬ kindsP 7 u.f0 v.f0 from fun h => h hk), if_neg (show ¬ ¬ kindsP 9 v.f0 u.f0 from fun h => h (e.1 hk))]
    by_cases h0 : u.f0 = 0 ∨ v.f0 = 0
    · rw [if_pos h0, if_pos h0.symm]
    · rw [if_neg h0, if_neg (show ¬ (v.f0 = 0 ∨ u.f0 = 0) from fun h => h0 h.symm)]
  · rw [if_pos hk, if_pos (show ¬ kindsP 9 v.f0 u.f0 from fun h => hk (e.2 h))]
theorem same3 (r : Except Int S25) : (!((outT r).1 == (outT r).1) || (!((outT r).2.1 == (outT r).2.1) || (!((outT r).2.2.1.toList == (outT r).2.2.1.toList)))) = false := by simp
theorem demorgan {u v : S25} (hu : okV u = true) (hv : okV v = true) (h : (outT (bin 4 u v)).2.2.2 = 0) :
    ∃ p q a b, bin 4 u v = .ok p ∧ una 2 p = .ok q ∧ una 2 u = .ok a ∧ una 2 v = .ok b ∧ bin 3 a b = .ok q ∧ In64 p.f1 ∧ fits a b := by
  have ku : u.f0 = 1 ∨ u.f0 = 0 := by
    unfold bin at h
    rw [if_neg (by omega)] at h
    by_cases hk : kindsP 4 u.f0 v.f0
    · unfold kindsP at hk; rw [if_pos (by decide)] at hk; exact hk.1
    · rw [if_pos hk] at h; exact absurd h (by decide)
  have kv : v.f0 = 1 ∨ v.f0 = 0 := by
    unfold bin at h
    rw [if_neg (by omega)] at h
    by_cases hk : kindsP 4 u.f0 v.f0
    · unfold kindsP at hk; rw [if_pos (by decide)] at hk; exact hk.2
    · rw [if_pos hk] at h; exact absurd h (by decide)
  have cu : u = truthV true ∨ u = truthV false ∨ u = zeroV := ku.elim (fun h => (okV_bool hu h).elim .inl (fun h => .inr (.inl h))) (fun h => .inr (.inr (okV_null hu h)))
  have cv : v = truthV true ∨ v = truthV false ∨ v = zeroV := kv.elim (fun h => (okV_bool hv h).elim .inl (fun h => .inr (.inl h))) (fun h => .inr (.inr (okV_null hv h)))
  clear h ku kv hu hv
  rcases cu with rfl | rfl | rfl <;> rcases cv with rfl | rfl | rfl
  · exact ⟨truthV true, truthV false, truthV false, truthV false, by kernel_rfl, by kernel_rfl, by kernel_rfl, by kernel_rfl, by kernel_rfl, by decide, by decide⟩
  · exact ⟨truthV false, truthV true, truthV false, truthV true, by kernel_rfl, by kernel_rfl, by kernel_rfl, by kernel_rfl, by kernel_rfl, by decide, by decide⟩
  · exact ⟨zeroV, zeroV, truthV false, zeroV, by kernel_rfl, by kernel_rfl, by kernel_rfl, by kernel_rfl, by kernel_rfl, by decide, by decide⟩
  · exact ⟨truthV false, truthV true, truthV true, truthV false, by kernel_rfl, by kernel_rfl, by kernel_rfl, by kernel_rfl, by kernel_rfl, by decide, by decide⟩
  · exact ⟨truthV false, truthV true, truthV true, truthV true, by kernel_rfl, by kernel_rfl, by kernel_rfl, by kernel_rfl, by kernel_rfl, by decide, by decide⟩
  · exact ⟨truthV false, truthV true, truthV true, zeroV, by kernel_rfl, by kernel_rfl, by kernel_rfl, by kernel_rfl, by kernel_rfl, by decide, by decide⟩
  · exact ⟨zeroV, zeroV, zeroV, truthV false, by kernel_rfl, by kernel_rfl, by kernel_rfl, by kernel_rfl, by kernel_rfl, by decide, by decide⟩
  · exact ⟨truthV false, truthV true, zeroV, truthV true, by kernel_rfl, by kernel_rfl, by kernel_rfl, by kernel_rfl, by kernel_rfl, by decide, by decide⟩
  · exact ⟨zeroV, zeroV, zeroV, zeroV, by kernel_rfl, by kernel_rfl, by kernel_rfl, by kernel_rfl, by kernel_rfl, by decide, by decide⟩
theorem outE_in {u v : S25} (hu : okV u = true) (hv : okV v = true) : In64 (outE (bin 4 u v)).1.f1 := by
  cases hb : bin 4 u v with
  | error c => show In64 0; decide
  | ok p =>
    obtain ⟨p', q, a, b, h1, -, -, -, -, h6, -⟩ := demorgan hu hv (by rw [hb]; rfl)
    rw [hb] at h1
    cases h1
    exact h6
theorem turns_loop (u v : S25) (hf : fits u v) (hg : fits v u) (hend : Ev (fun k => quarrylaw02_CalcTurns.l0 k [4, 3, 5, 6, 11, 13] 6 u.f0 u.f1 u.f2 v.f0 v.f1 v.f2) true) :
    Ev (fun k => quarrylaw02_CalcTurns.l0 k [4, 3, 5, 6, 11, 13] 0 u.f0 u.f1 u.f2 v.f0 v.f1 v.f2) true := by
  have step : ∀ (i op : Int), 0 ≤ i → i < 6 → rd [4, 3, 5, 6, 11, 13] i = op → (op = 4 ∨ op = 3 ∨ op = 5 ∨ op = 6 ∨ op = 11 ∨ op = 13) → Ev (fun k => quarrylaw02_CalcTurns.l0 k [4, 3, 5, 6, 11, 13] (i + 1) u.f0 u.f1 u.f2 v.f0 v.f1 v.f2) true →
      Ev (fun k => quarrylaw02_CalcTurns.l0 k [4, 3, 5, 6, 11, 13] i u.f0 u.f1 u.f2 v.f0 v.f1 v.f2) true := by
    intro i op h0 h6 hr ho hn
    refine Ev.succ ?_
    have hl : i < (([4, 3, 5, 6, 11, 13] : List Int).length : Int) := h6
    have hw : wrap64 (i + 1) = i + 1 := by unfold wrap64; omega
    simp only [quarrylaw02_CalcTurns.l0, if_pos hl, if_pos h0, hr, bin_f op u v hf, bin_f op v u hg, Option.bind_some, bin_comm op v u (by omega), same3, Bool.false_eq_true, if_false, if_true, hw]
    exact hn
  refine step 0 4 (by omega) (by omega) rfl (by omega) ?_
  refine step 1 3 (by omega) (by omega) rfl (by omega) ?_
  refine step 2 5 (by omega) (by omega) rfl (by omega) ?_
  refine step 3 6 (by omega) (by omega) rfl (by omega) ?_
  refine step 4 11 (by omega) (by omega) rfl (by omega) ?_
  exact step 5 13 (by omega) (by omega) rfl (by omega) hend
theorem CalcTurns : ∀ (x0 : S25) (x1 : S25), G25 x0 → G25 x1 → ∃ k, quarrylaw02_CalcTurns.f k (x0.f0) (x0.f1) (x0.f2) (x1.f0) (x1.f1) (x1.f2) = some true := by
  intro x y hx hy
  refine Ev.get ?_
  unfold quarrylaw02_CalcTurns.f
  simp only [works_f, Option.bind_some, if_true]
  refine Ev.bind (right_ev [x, y] (by simp)) ?_
  cases h : [x, y].all okV with
  | false =>
    simp only [Bool.false_eq_true, if_false]
    exact Ev.pure _
  | true =>
    have ox : okV x = true := by simp at h; exact h.1
    have oy : okV y = true := by simp at h; exact h.2
    have hf := fits25 hx hy
    have hg := fits25 hy hx
    simp only [if_true]
    refine turns_loop x y hf hg ?_
    refine Ev.succ ?_
    have hl : ¬ (6 : Int) < (([4, 3, 5, 6, 11, 13] : List Int).length : Int) := by decide
    simp only [quarrylaw02_CalcTurns.l0, if_neg hl, bin_f 7 x y hf, bin_f 9 y x hg, Option.bind_some, less_great x y, same3, Bool.false_eq_true, if_false, bne_self_eq_false]
    refine Ev.succ ?_
    have hi := outE_in ox oy
    have hp : calc_Unary.f 2 (outT (bin 4 x y)).1 (outT (bin 4 x y)).2.1 (outT (bin 4 x y)).2.2.1 = some (outT (una 2 (outE (bin 4 x y)).1)) := una_f 2 (outE (bin 4 x y)).1 hi
    simp only [quarrylaw02_CalcTurns.j1, Bool.false_eq_true, if_false, bin_f 4 x y hf, Option.bind_some, hp, una_f 2 x (wf64 hx.2.1), una_f 2 y (wf64 hy.2.1)]
    by_cases h0 : (outT (bin 4 x y)).2.2.2 = 0
    · simp only [if_pos h0]
      obtain ⟨p, q, a, b, e1, e2, e3, e4, e5, -, hab⟩ := demorgan ox oy h0
      rw [e1, e3, e4]
      have e6 : una 2 (outE (.ok p)).1 = .ok q := e2
      have e7 : calc_Binary.f 3 a.f0 a.f1 a.f2 b.f0 b.f1 b.f2 = some (q.f0, q.f1, q.f2, 0) := (bin_f 3 a b hab).trans (by rw [e5]; rfl)
      rw [e6]
      simp only [outT, outE, e7, Option.bind_some, if_true, beq_self_eq_true, Bool.and_self]
      exact Ev.pure _
    · simp only [if_neg h0]; exact Ev.pure _
end Go.Proofs.Ytfbeklbjlkgbnaa.Pure
end
