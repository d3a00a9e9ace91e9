/- The bytes of rows, whose values and letters are together at most 1048576, stand in the order of the rows. No other condition. -/
import Derived.Test.YtbpnmmakodaakaaR3
import Derived.Test.YtbpnmmakodaakaaKB
namespace Go.Proofs.Ytbpnmmakodaakaa.Pure
set_option linter.unusedVariables false
set_option linter.unusedSimpArgs false
open Go.RowKit Go.Proofs.Ytbpnmmakodaakaa.P Go.Proofs.YtbpnmmakodaakaaW.PrintWords Go.Proofs.YtbpnmmakodaakaaW.PrintLast Go.Proofs.YtbpnmmakodaakaaW.PrintMore

theorem texts_loop (s t : ByteArray) (hs : s.size ≤ 140737488351232) : ∀ (a b pa pb : List UInt8), s.data.toList = pa ++ a → t.data.toList = pb ++ b → pa.length = pb.length →
    Ev (fun k => quarryref01_texts.l0 k s t (pa.length : Int)) (Lib.compareBytes a b) := by
  have hz : ∀ u : ByteArray, u.size = u.data.toList.length := fun u => by rw [Array.length_toList]; rfl
  intro a
  induction a with
  | nil =>
    intro b pa pb ha hb hp
    have h1 := hz s
    have h2 := hz t
    rw [ha] at h1
    rw [hb] at h2
    simp only [List.append_nil, List.length_append] at h1 h2
    have e1 : ¬ ((pa.length : Int) < (s.size : Int)) := by omega
    refine Ev.succ ?_
    simp only [quarryref01_texts.l0, e1, if_false]
    refine Ev.succ ?_
    simp only [quarryref01_texts.j1, Bool.false_eq_true, if_false]
    cases b with
    | nil =>
      simp only [List.length_nil] at h2
      have e2 : ¬ (s.size : Int) < (t.size : Int) := by omega
      have e3 : ¬ (s.size : Int) > (t.size : Int) := by omega
      simp only [e2, e3, if_false]
      exact Ev.pure _
    | cons y b =>
      simp only [List.length_cons] at h2
      have e2 : (s.size : Int) < (t.size : Int) := by omega
      simp only [e2, if_true]
      exact Ev.pure _
  | cons x a ih =>
    intro b pa pb ha hb hp
    have h1 := hz s
    have h2 := hz t
    rw [ha] at h1
    rw [hb] at h2
    simp only [List.length_append, List.length_cons] at h1 h2
    have e1 : ((pa.length : Int) < (s.size : Int)) := by omega
    have e0 : (0 : Int) ≤ (pa.length : Int) := by omega
    refine Ev.succ ?_
    simp only [quarryref01_texts.l0, e1, if_true]
    refine Ev.succ ?_
    cases b with
    | nil =>
      simp only [List.length_nil] at h2
      have e2 : ¬ ((pa.length : Int) < (t.size : Int)) := by omega
      have e3 : ¬ (s.size : Int) < (t.size : Int) := by omega
      have e4 : (s.size : Int) > (t.size : Int) := by omega
      simp only [quarryref01_texts.j1, e2, decide_false, Bool.false_eq_true, if_false, e3, e4, if_true]
      exact Ev.pure _
    | cons y b =>
      simp only [List.length_cons] at h2
      have e2 : ((pa.length : Int) < (t.size : Int)) := by omega
      have b1 := bt_at' s pa x a ha
      have b2 := bt_at' t pb y b hb
      rw [← hp] at b2
      simp only [quarryref01_texts.j1, e2, decide_true, if_true, e0, e1, b1, b2]
      unfold Lib.compareBytes
      by_cases c1 : x < y
      · have c1' : (x.toNat : Int) < (y.toNat : Int) := by have := UInt8.lt_iff_toNat_lt.1 c1; omega
        simp only [c1, c1', if_true]
        exact Ev.pure _
      · have c1' : ¬ (x.toNat : Int) < (y.toNat : Int) := fun h => c1 (UInt8.lt_iff_toNat_lt.2 (by omega))
        by_cases c2 : y < x
        · have c2' : (x.toNat : Int) > (y.toNat : Int) := by have := UInt8.lt_iff_toNat_lt.1 c2; omega
          simp only [c1, c1', c2, c2', if_true, if_false]
          exact Ev.pure _
        · have c2' : ¬ (x.toNat : Int) > (y.toNat : Int) := fun h => c2 (UInt8.lt_iff_toNat_lt.2 (by omega))
          have e6 : wrap64 ((pa.length : Int) + 1) = (pa.length : Int) + 1 := wrap64_in (by omega) (by omega)
          simp only [c1, c1', c2, c2', if_false, e6]
          have := ih b (pa ++ [x]) (pb ++ [y]) (by simpa using ha) (by simpa using hb) (by simpa using hp)
          simpa using this
theorem texts_ev (s t : ByteArray) (hs : s.size ≤ 140737488351232) : Ev (fun k => quarryref01_texts.f k s t) (cmpT s t) := by
  unfold quarryref01_texts.f cmpT
  have := texts_loop s t hs s.data.toList t.data.toList [] [] rfl rfl rfl
  simpa using this

theorem ref_cmp_ev (x y : S43) (hx : x.f2.size ≤ 140737488351232) : Ev (fun k => quarryref01_Compare.f k x.f0 x.f1 x.f2 y.f0 y.f1 y.f2) (cmpV x y) := by
  unfold quarryref01_Compare.f cmpV cmpI
  by_cases c1 : x.f0 < y.f0
  · have e : ¬ x.f0 = y.f0 := by omega
    simp only [c1, e, if_true, if_false]
    exact Ev.pure _
  by_cases c2 : y.f0 < x.f0
  · have e : ¬ x.f0 = y.f0 := by omega
    simp only [c1, c2, e, gt_iff_lt, if_true, if_false]
    exact Ev.pure _
  have e : x.f0 = y.f0 := by omega
  rw [if_pos e]
  simp only [c1, c2, gt_iff_lt, if_false]
  have hj : Ev (fun k => quarryref01_Compare.j0 k (x.f0 == 3 || x.f0 == 4) x.f0 x.f1 x.f2 y.f0 y.f1 y.f2) (if x.f0 = 1 ∨ x.f0 = 2 then (if x.f1 < y.f1 then -1 else if y.f1 < x.f1 then 1 else 0) else if x.f0 = 3 ∨ x.f0 = 4 then cmpT x.f2 y.f2 else 0) := by
    refine Ev.succ ?_
    simp only [quarryref01_Compare.j0]
    by_cases h34 : x.f0 = 3 ∨ x.f0 = 4
    · have q : (x.f0 == 3 || x.f0 == 4) = true := by simpa using h34
      rw [if_neg (by omega), if_pos h34]
      simp only [q, if_true]
      exact Ev.bind (texts_ev _ _ hx) (Ev.pure _)
    have q : (x.f0 == 3 || x.f0 == 4) = false := by simpa using h34
    simp only [q, Bool.false_eq_true, if_false]
    rw [if_neg h34]
    have hk : Ev (fun k => quarryref01_Compare.j1 k (x.f1 == y.f1) x.f0 x.f1 x.f2 y.f0 y.f1 y.f2) (if x.f1 < y.f1 then -1 else if y.f1 < x.f1 then 1 else 0) := by
      refine Ev.succ ?_
      simp only [quarryref01_Compare.j1]
      by_cases g : x.f1 = y.f1
      · simp only [g, beq_self_eq_true, if_true, Int.lt_irrefl, if_false]
        exact Ev.pure _
      · have : (x.f1 == y.f1) = false := by simpa using g
        simp only [this, Bool.false_eq_true, if_false]
        by_cases g1 : x.f1 < y.f1
        · simp only [g1, if_true]; exact Ev.pure _
        · have g2 : y.f1 < x.f1 := by omega
          simp only [g1, g2, if_true, if_false]; exact Ev.pure _
    by_cases h1 : x.f0 = 1
    · rw [if_pos (.inl h1)]
      simp only [h1, if_true] at hk ⊢
      exact hk
    by_cases h2 : x.f0 = 2
    · rw [if_pos (.inr h2)]
      simp only [h1, h2, if_true, if_false] at hk ⊢
      exact hk
    rw [if_neg (by omega)]
    simp only [h1, h2, if_false]
    refine Ev.succ ?_
    simp only [quarryref01_Compare.j1, if_true]
    exact Ev.pure _
  by_cases h3 : x.f0 = 3
  · have q : (x.f0 == 3 || x.f0 == 4) = true := by simp [h3]
    rw [q] at hj
    simp only [h3, if_true] at hj ⊢
    exact hj
  · have q : (x.f0 == 3 || x.f0 == 4) = (x.f0 == 4) := by simp [h3]
    rw [q] at hj
    simp only [h3, if_false] at hj ⊢
    exact hj

theorem desc_read (x : S43) (y : S43) (suf : List Bool) (pre : List Bool) (n : Nat) (hn : pre.length = n ∨ (pre.length < n ∧ suf = [])) :
    (fun _ : Nat => if (n : Int) < ((pre ++ suf).length : Int) then (if rdOf false (pre ++ suf) (n : Int) = true then some (wrap64 (-cmpV x y)) else some (cmpV x y)) else some (cmpV x y)) = fun _ => some (if suf.headD false = true then -cmpV x y else cmpV x y) := by
  funext _
  rcases hn with rfl | ⟨hn, rfl⟩
  · cases suf with
    | nil =>
      have e : ¬ (pre.length : Int) < ((pre ++ []).length : Int) := by simp
      simp only [e, if_false, List.headD_nil, Bool.false_eq_true]
    | cons c suf =>
      have e : (pre.length : Int) < ((pre ++ c :: suf).length : Int) := by simp; omega
      simp only [e, if_true, rdOf_at, List.headD_cons]
      cases c
      · simp
      · simp only [if_true, (neg_s3 (cmpV_s3 x y)).2]
  · have e : ¬ (n : Int) < ((pre ++ []).length : Int) := by simp; omega
    simp only [e, if_false, List.headD_nil, Bool.false_eq_true]
theorem ref_rows_loop : ∀ (a b pa pb : List S43) (pd d : List Bool), (∀ x ∈ a, x.f2.size ≤ 140737488351232) → pa.length = pb.length → (pa ++ a).length < 140737488355328 →
    (pd.length = pa.length ∨ (pd.length < pa.length ∧ d = [])) →
    Ev (fun k => quarryref01_Rows.l0 k (pa ++ a) (pb ++ b) (pd ++ d) (pa.length : Int)) (cmpR d a b) := by
  intro a
  induction a with
  | nil =>
    intro b pa pb pd d _ hp hl hd
    refine Ev.succ ?_
    have e : ¬ (pa.length : Int) < ((pa ++ []).length : Int) := by simp
    simp only [quarryref01_Rows.l0, e, if_false]
    refine Ev.succ ?_
    simp only [quarryref01_Rows.j1, Bool.false_eq_true, if_false]
    cases b with
    | nil =>
      have e2 : ¬ (((pa ++ []).length : Nat) : Int) < (((pb ++ []).length : Nat) : Int) := by simp; omega
      have e3 : ¬ (((pa ++ []).length : Nat) : Int) > (((pb ++ []).length : Nat) : Int) := by simp; omega
      simp only [cmpR, e2, e3, if_false]
      exact Ev.pure _
    | cons y b =>
      have e2 : (((pa ++ []).length : Nat) : Int) < (((pb ++ y :: b).length : Nat) : Int) := by simp; omega
      simp only [cmpR, e2, if_true]
      exact Ev.pure _
  | cons x a ih =>
    intro b pa pb pd d hz hp hl hd
    refine Ev.succ ?_
    have e0 : (0 : Int) ≤ (pa.length : Int) := by omega
    have e1 : (pa.length : Int) < ((pa ++ x :: a).length : Int) := by simp; omega
    simp only [quarryref01_Rows.l0, e1, if_true]
    refine Ev.succ ?_
    cases b with
    | nil =>
      have e : ¬ (pa.length : Int) < ((pb ++ []).length : Int) := by simp; omega
      have e2 : ¬ (((pa ++ x :: a).length : Nat) : Int) < (((pb ++ []).length : Nat) : Int) := by simp; omega
      have e3 : (((pa ++ x :: a).length : Nat) : Int) > (((pb ++ []).length : Nat) : Int) := by simp; omega
      simp only [quarryref01_Rows.j1, e, decide_false, Bool.false_eq_true, if_false, cmpR, e2, e3, if_true]
      exact Ev.pure _
    | cons y b =>
      have e2 : (pa.length : Int) < ((pb ++ y :: b).length : Int) := by simp; omega
      have e6 : wrap64 ((pa.length : Int) + 1) = (pa.length : Int) + 1 := wrap64_in (by omega) (by simp at hl; omega)
      have hy : rd_T43 (pb ++ y :: b) (pa.length : Int) = y := by rw [hp]; exact rd_at _ _ _
      simp only [quarryref01_Rows.j1, e0, e1, e2, decide_true, if_true, rd_at, hy, e6]
      refine Ev.bind (ref_cmp_ev x y (hz x (by simp))) ?_
      rw [cmpR]
      by_cases hc : cmpV x y = 0
      · simp only [hc, if_true]
        obtain ⟨pd', hpd, hn⟩ := desc_next pd d pa.length hd
        have := ih b (pa ++ [x]) (pb ++ [y]) pd' d.tail (fun z h => hz z (by simp [h])) (by simp; omega) (by simpa using hl) (by simpa using hn)
        rw [hpd] at this
        simpa using this
      · simp only [hc, if_false]
        rw [desc_read x y d pd pa.length hd]
        exact Ev.pure _
theorem ref_rows_ev (a b : List S43) (d : List Bool) (hz : ∀ x ∈ a, x.f2.size ≤ 140737488351232) (hl : a.length < 140737488355328) : Ev (fun k => quarryref01_Rows.f k a b d) (cmpR d a b) := by
  unfold quarryref01_Rows.f
  have := ref_rows_loop a b [] [] [] d hz rfl (by simpa using hl) (.inl rfl)
  simpa using this
theorem KeysOrder : ∀ (l0 : List (S43)) (l1 : List (S43)) (l2 : List (Bool)), G22 l0 → G22 l1 → G23 l2 → m22 l0 + m22 l1 + m23 l2 ≤ 1048576 → ∃ k, quarrylaw03_KeysOrder.f k l0 l1 l2 = some true := by
  intro a b d ha hb hd hm
  obtain ⟨ax, an, ar⟩ := known_row ha (by omega)
  obtain ⟨bx, bn, br⟩ := known_row hb (by omega)
  refine Ev.get ?_
  unfold quarrylaw03_KeysOrder.f
  refine Ev.bind works_ev ?_
  simp only [if_true]
  refine Ev.bind (right_ev a (by omega)) ?_
  cases ra : rightB a with
  | false =>
    simp only [Bool.false_eq_true, if_false]
    refine Ev.succ ?_
    simp only [quarrylaw03_KeysOrder.j0, if_true]
    exact Ev.pure _
  | true =>
    simp only [if_true]
    refine Ev.bind (right_ev b (by omega)) (Ev.succ ?_)
    cases rb : rightB b with
    | false =>
      simp only [quarrylaw03_KeysOrder.j0, Bool.not_false, if_true]
      exact Ev.pure _
    | true =>
      simp only [quarrylaw03_KeysOrder.j0, Bool.not_true, Bool.false_eq_true, if_false]
      obtain ⟨p, hp⟩ := enc_of_right a d (right_all ra)
      obtain ⟨q, hq⟩ := enc_of_right b d (right_all rb)
      have h1 := encode_ev a d ax (by omega) (by omega)
      have h2 := encode_ev b d bx (by omega) (by omega)
      rw [encR_of hp] at h1
      rw [encR_of hq] at h2
      refine Ev.bind h1 (Ev.bind h2 ?_)
      simp only [if_true, order_f (encE_range a d hp) (encE_range b d hq), Option.bind_some]
      refine Ev.bind (ref_rows_ev a b d (fun x hx => (ax x hx).2.2) (by omega)) ?_
      rw [encE_order a b d (fun x hx => (ax x hx).2.1) (fun x hx => (bx x hx).2.1) hp hq]
      simp only [beq_self_eq_true]
      exact Ev.pure _
end Go.Proofs.Ytbpnmmakodaakaa.Pure
