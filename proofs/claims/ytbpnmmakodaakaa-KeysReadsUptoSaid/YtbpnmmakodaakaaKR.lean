/- The document's reading is the program's, and what it tells of what stands behind. No condition but sizes. -/
import Derived.Test.YtbpnmmakodaakaaA6
import Derived.Test.YtbpnmmakodaakaaA8
import Derived.Test.YtbpnmmakodaakaaKF
import Derived.Test.YtbpnmmakodaakaaKN
namespace Go.Proofs.Ytbpnmmakodaakaa.Pure
set_option linter.unusedVariables false
set_option linter.unusedSimpArgs false
open Go.RowKit Go.Proofs.Ytbpnmmakodaakaa.P Go.Proofs.YtbpnmmakodaakaaW.PrintWords Go.Proofs.YtbpnmmakodaakaaW.PrintLast Go.Proofs.YtbpnmmakodaakaaW.PrintMore

/-- How the document's reading of a value is told: the value, how many bytes, the error. -/
def resV (n : Nat) : Except Int (S43 × List Int) → Int × Int × ByteArray × Int × Int
  | .error c => (0, 0, V0, 0, c)
  | .ok (v, t) => (v.f0, v.f1, v.f2, (n : Int) - (t.length : Int), 0)
theorem rd_get (u pre suf : List Int) (x : Int) (n : Nat) (h : u = pre ++ x :: suf) (hn : pre.length = n) : rd u (n : Int) = x := by
  subst h hn
  exact rdI_at _ _ _
set_option maxRecDepth 100000 in
theorem ref_num_loop (u : List Int) (K : Int) (hl : u.length < 140737488355328) (hlen : 9 ≤ u.length) : ∀ (suf pre : List Int) (n : Int), u.take 9 = pre ++ suf → BytesIn suf → 0 ≤ n → n < 256 ^ (pre.length - 1) → 1 ≤ pre.length → Ev (fun k => quarryref03_value.l0 k u K n (pre.length : Int)) (K, r_num 0 n suf - 9223372036854775808, V0, 9, 0) := by
  intro suf
  induction suf with
  | nil =>
    intro pre n he hb h0 h1 hp
    have hpl : pre.length = 9 := by have h2 := congrArg List.length he; rw [List.length_take, List.append_nil] at h2; omega
    refine Ev.succ ?_
    have e : ¬ ((pre.length : Int) < 9) := by omega
    rw [hpl] at h1
    have e8 : (256 : Int) ^ (9 - 1) = 18446744073709551616 := by decide
    rw [e8] at h1
    have e2 : wrap64 (IntKind.u64.wrap (n - 9223372036854775808)) = n - 9223372036854775808 := by
      unfold wrap64
      rw [IntKind.wrap_u64]
      omega
    simp only [quarryref03_value.l0, e, if_false, e2]
    exact Ev.pure _
  | cons c suf ih =>
    intro pre n he hb h0 h1 hp
    have hpl : pre.length + suf.length = 8 := by have h2 := congrArg List.length he; rw [List.length_take, List.length_append, List.length_cons] at h2; omega
    refine Ev.succ ?_
    have e : ((pre.length : Int) < 9) := by omega
    have e1 : (0 : Int) ≤ (pre.length : Int) := by omega
    have e2 : (pre.length : Int) < (u.length : Int) := by omega
    have hu : u = pre ++ c :: (suf ++ u.drop 9) := by
      conv => lhs; rw [← List.take_append_drop 9 u, he]
      exact List.append_assoc _ _ _
    have e3 : rd u (pre.length : Int) = c := rd_get u pre (suf ++ u.drop 9) c pre.length hu rfl
    have hc := hb c (by simp)
    have e4 : wrap64 ((pre.length : Int) + 1) = ((pre.length + 1 : Nat) : Int) := by unfold wrap64; omega
    have h7 : (256 : Int) ^ (pre.length - 1) ≤ 256 ^ 7 := by
      have : 256 ^ (pre.length - 1) ≤ 256 ^ 7 := Nat.pow_le_pow_right (by decide) (by omega)
      exact_mod_cast this
    have h7' : (256 : Int) ^ 7 = 72057594037927936 := by decide
    have e5 : IntKind.u64.wrap (IntKind.u64.wrap (n * 256) + IntKind.u64.wrap c) = n * 256 + c := by
      rw [IntKind.wrap_u64, IntKind.wrap_u64, IntKind.wrap_u64]
      omega
    simp only [quarryref03_value.l0, e, e1, e2, e3, e4, e5, if_true]
    have hlt : n * 256 + c < 256 ^ ((pre ++ [c]).length - 1) := by
      rw [List.length_append, List.length_cons, List.length_nil, show pre.length + (0 + 1) - 1 = (pre.length - 1) + 1 by omega, Int.pow_succ]
      omega
    have := ih (pre ++ [c]) (n * 256 + c) (by rw [he]; simp) (fun x hx => hb x (by simp [hx])) (by omega) hlt (by simp)
    have e6 : r_num 0 n (c :: suf) = r_num 0 (n * 256 + c) suf := by show r_num 0 (n * 256 + tx 0 c) suf = _; rw [tx_zero hc.1 hc.2]
    rw [e6]
    simpa using this
theorem ref_text_loop (u : List Int) (K : Int) (hl : u.length < 140737488355328) : ∀ (m : Nat) (suf pre acc : List Int), suf.length ≤ m → u = pre ++ suf → BytesIn suf → acc.length + suf.length < 140737488355328 →
    Ev (fun k => quarryref03_value.l1 k u K acc (pre.length : Int)) (match r_text 0 acc suf with | .error c => (0, 0, V0, 0, c) | .ok (s, t) => (K, 0, s, (u.length : Int) - (t.length : Int), 0)) := by
  intro m
  induction m with
  | zero =>
    intro suf pre acc hm he hb ha
    obtain rfl : suf = [] := List.length_eq_zero_iff.1 (by omega)
    refine Ev.succ ?_
    have e : ¬ ((pre.length : Int) < (u.length : Int)) := by rw [he]; simp
    simp only [quarryref03_value.l1, e, if_false, r_text]
    exact Ev.pure _
  | succ m ih =>
    intro suf pre acc hm he hb ha
    cases suf with
    | nil =>
      refine Ev.succ ?_
      have e : ¬ ((pre.length : Int) < (u.length : Int)) := by rw [he]; simp
      simp only [quarryref03_value.l1, e, if_false, r_text]
      exact Ev.pure _
    | cons c suf =>
      have hul : u.length = pre.length + (suf.length + 1) := by rw [he]; simp
      have hc := hb c (by simp)
      refine Ev.succ ?_
      have e : ((pre.length : Int) < (u.length : Int)) := by omega
      have e1 : (0 : Int) ≤ (pre.length : Int) := by omega
      have e3 : rd u (pre.length : Int) = c := rd_get u pre suf c pre.length he rfl
      have e4 : wrap64 ((pre.length : Int) + 1) = ((pre.length + 1 : Nat) : Int) := by unfold wrap64; omega
      have e5 : wrap64 ((pre.length : Int) + 2) = ((pre.length + 2 : Nat) : Int) := by unfold wrap64; omega
      have e6 : wrap64 (((pre.length + 1 : Nat) : Int) + 1) = ((pre.length + 2 : Nat) : Int) := by unfold wrap64; omega
      have e7 : acc.length < 140737488355328 := by simp at ha; omega
      simp only [quarryref03_value.l1, e, e1, e3, e4, e5, e6, e7, if_true]
      by_cases h0 : c = 0
      · simp only [h0, if_true]
        cases suf with
        | nil =>
          have e8 : ((pre.length + 1 : Nat) : Int) = (u.length : Int) := by simp at hul; omega
          simp only [e8, if_true, r_text]
          exact Ev.pure _
        | cons d suf =>
          have hd := hb d (by simp)
          simp only [List.length_cons] at hul
          have e8 : ¬ ((pre.length + 1 : Nat) : Int) = (u.length : Int) := by omega
          have e9 : (0 : Int) ≤ ((pre.length + 1 : Nat) : Int) := by omega
          have e10 : ((pre.length + 1 : Nat) : Int) < (u.length : Int) := by omega
          have e11 : rd u ((pre.length + 1 : Nat) : Int) = d := rd_get u (pre ++ [c]) suf d (pre.length + 1) (by rw [he]; simp) (by simp)
          simp only [e8, e9, e10, e11, if_true, if_false]
          rw [r_text, tx_zero (by omega) (by omega), if_pos rfl, tx_zero hd.1 hd.2]
          by_cases h1 : d = 1
          · simp only [h1, if_true]
            have e12 : ((pre.length + 2 : Nat) : Int) = (u.length : Int) - (suf.length : Int) := by omega
            rw [e12]
            exact Ev.pure _
          · rw [if_neg h1]
            simp only [h1, if_false]
            by_cases h2 : d = 255
            · rw [if_pos h2]
              simp only [h2, if_true]
              have := ih suf (pre ++ [c, d]) (acc ++ [0]) (by simp at hm; omega) (by rw [he]; simp) (fun x hx => hb x (by simp [hx])) (by simp at ha ⊢; omega)
              rw [show (pre ++ [c, d]).length = pre.length + 2 by simp] at this
              exact this
            · rw [if_neg h2]
              simp only [h2, if_false]
              exact Ev.pure _
      · simp only [h0, if_false]
        have := ih suf (pre ++ [c]) (acc ++ [c]) (by simp at hm; omega) (by rw [he]; simp) (fun x hx => hb x (by simp [hx])) (by simp at ha ⊢; omega)
        rw [show (pre ++ [c]).length = pre.length + 1 by simp] at this
        cases suf with
        | nil => simp only [r_text] at this ⊢; exact this
        | cons d suf =>
          rw [r_text, tx_zero hc.1 hc.2, if_neg h0]
          exact this
theorem ref_value_ev (u : List Int) (hb : BytesIn u) (hn : u ≠ []) (hl : u.length < 140737488355328) : Ev (fun k => quarryref03_value.f k u) (resV u.length (r_val 0 u)) := by
  cases u with
  | nil => exact absurd rfl hn
  | cons k l =>
    have hk := hb k (by simp)
    have hbl : BytesIn l := fun x hx => hb x (by simp [hx])
    have e0 : rd (k :: l) 0 = k := rfl
    have e1 : (0 : Int) < ((k :: l).length : Int) := by rw [List.length_cons]; omega
    have e2 : wrap64 (wrap64 k - 1) = k - 1 := by unfold wrap64; omega
    unfold quarryref03_value.f
    simp only [e0, e1, e2, if_true]
    have hgo : Ev (fun j => quarryref03_value.j0 j (k :: l) (k - 1) (decide (k - 1 < 0) || decide (k - 1 > 4))) (resV (k :: l).length (r_val 0 (k :: l))) := by
      simp only [r_val, tx_zero hk.1 hk.2]
      refine Ev.succ ?_
      by_cases h1 : k = 1
      · subst h1
        simp only [quarryref03_value.j0]
        simp [resV]
        rw [show ((l.length : Int) + 1 - (l.length : Int)) = 1 by omega]
        exact Ev.pure _
      by_cases h2 : k = 2
      · subst h2
        simp only [quarryref03_value.j0]
        cases l with
        | nil => simp [resV]; exact Ev.pure _
        | cons c t =>
          have hc := hbl c (by simp)
          have q1 : ¬ ((2 :: c :: t).length : Int) < 2 := by simp; omega
          have q2 : (1 : Int) < ((2 :: c :: t).length : Int) := by simp; omega
          have q3 : rd (2 :: c :: t) 1 = c := rfl
          have q4 : wrap64 c = c := by unfold wrap64; omega
          have q5 : (decide ((2 : Int) - 1 < 0) || decide ((2 : Int) - 1 > 4)) = false := by decide
          have q6 : ¬ (2 : Int) - 1 = 0 := by decide
          have q7 : (2 : Int) - 1 = 1 := by decide
          have q8 : ¬ (2 : Int) = 1 := by decide
          simp only [q5, Bool.false_eq_true, if_false, q6, q7, if_true, q1, q2, q3, q4, q8, tx_zero hc.1 hc.2]
          by_cases h : 1 < c
          · have h' : c > 1 := h
            simp only [h, h', if_true, resV]
            simp only [show ¬ ((1 : Int) = 0) by decide, if_false]
            exact Ev.pure _
          · have h' : ¬ c > 1 := h
            simp only [h, h', if_false, resV, show ¬ ((1 : Int) = 0) by decide]
            rw [show (((2 :: c :: t).length : Nat) : Int) - (t.length : Int) = 2 by simp; omega]
            exact Ev.pure _
      by_cases h3 : k = 3
      · subst h3
        have q5 : (decide ((3 : Int) - 1 < 0) || decide ((3 : Int) - 1 > 4)) = false := by decide
        have q6 : ¬ (3 : Int) - 1 = 0 := by decide
        have q7 : ¬ (3 : Int) - 1 = 1 := by decide
        have q8 : (3 : Int) - 1 = 2 := by decide
        have q9 : ¬ (3 : Int) = 1 := by decide
        have q10 : ¬ (3 : Int) = 2 := by decide
        have q11 : ¬ (2 : Int) = 0 := by decide
        have q12 : ¬ (2 : Int) = 1 := by decide
        simp only [quarryref03_value.j0, q5, Bool.false_eq_true, if_false, q8, q9, q10, q11, q12, if_true]
        by_cases h : l.length < 8
        · have h' : ((3 :: l).length : Int) < 9 := by simp; omega
          simp only [h, h', if_true, resV]
          exact Ev.pure _
        · have h' : ¬ ((3 :: l).length : Int) < 9 := by simp; omega
          simp only [h, h', if_false, resV]
          have := ref_num_loop (3 :: l) 2 hl (by simp; omega) (l.take 8) [3] 0 (by simp) (fun x hx => hbl x (List.mem_of_mem_take hx)) (by omega) (by simp) (by simp)
          rw [show (((3 :: l).length : Nat) : Int) - ((l.drop 8).length : Int) = 9 by simp; omega]
          simpa using this
      by_cases h4 : k = 4 ∨ k = 5
      · have q5 : (decide (k - 1 < 0) || decide (k - 1 > 4)) = false := by rcases h4 with rfl | rfl <;> decide
        have q6 : ¬ k - 1 = 0 := by omega
        have q7 : ¬ k - 1 = 1 := by omega
        have q8 : ¬ k - 1 = 2 := by omega
        simp only [quarryref03_value.j0, q5, Bool.false_eq_true, if_false, q6, q7, q8, h1, h2, h3, h4, if_true]
        have := ref_text_loop (k :: l) (k - 1) hl l.length l [k] [] (Nat.le_refl _) rfl hbl (by simp at hl ⊢; omega)
        cases ht : r_text 0 [] l with
        | error c => rw [ht] at this; simpa [resV] using this
        | ok p => rw [ht] at this; simpa [resV] using this
      · have q5 : (decide (k - 1 < 0) || decide (k - 1 > 4)) = true := by
          rw [Bool.or_eq_true, decide_eq_true_eq, decide_eq_true_eq]; omega
        simp only [quarryref03_value.j0, q5, if_true, h1, h2, h3, h4, if_false, resV]
        exact Ev.pure _
    by_cases hlt : k - 1 < 0
    · simp only [hlt, decide_true, Bool.true_or, if_true] at hgo ⊢
      exact hgo
    · simp only [hlt, decide_false, Bool.false_or, if_false] at hgo ⊢
      exact hgo
theorem ref_decode_loop (d : List Bool) : ∀ (n : Nat) (l : List Int) (acc : List S43), l.length ≤ n → BytesIn l → acc.length + l.length < 4398046511104 →
    Ev (fun k => quarryref03_Decode.l0 k l d acc) (r_fin (r_loop d n acc l)) := by
  intro n
  induction n with
  | zero =>
    intro l acc hn hb hl
    obtain rfl : l = [] := List.length_eq_zero_iff.1 (by omega)
    refine Ev.succ ?_
    simp [quarryref03_Decode.l0, r_loop, r_fin]
    exact Ev.pure _
  | succ n ih =>
    intro l acc hn hb hl
    cases l with
    | nil =>
      refine Ev.succ ?_
      simp [quarryref03_Decode.l0, r_loop, r_fin]
      exact Ev.pure _
    | cons k0 t0 =>
      obtain ⟨u, hu⟩ : ∃ u, k0 :: t0 = u := ⟨_, rfl⟩
      have hne : u ≠ [] := by rw [← hu]; simp
      have hr : r_loop d (n + 1) acc (k0 :: t0) = match r_val (dT d acc.length) (k0 :: t0) with | .error c => .error c | .ok (v, t) => r_loop d n (acc ++ [v]) t := rfl
      rw [hr]
      rw [hu] at hb hl hn ⊢
      clear hr hu
      refine Ev.succ ?_
      have e1 : (u.length : Int) > 0 := by have := List.length_pos_iff.2 hne; omega
      have e2 : acc.length < 4398046511104 := by omega
      simp only [quarryref03_Decode.l0, e1, if_true, ref_turned_at, turned_is, Option.bind_some, e2]
      rw [dT_is]
      generalize hbb : d.getD acc.length false = b
      have hm := val_map (tB b) u
      rw [map_tx b hb] at hm
      have hv := ref_value_ev (turnB b u) (turnB_range b hb) (by intro h; have := congrArg List.length h; rw [turnB_length] at this; exact hne (List.length_eq_zero_iff.1 this)) (by rw [turnB_length]; omega)
      rw [hm, turnB_length] at hv
      have hgo : ∀ (v : S43) (t : List Int), r_val (tB b) u = .ok (v, t) → Ev (fun k => quarryref03_Decode.l0 k (u.drop ((u.length : Int) - ((t.map (tx (tB b))).length : Int)).toNat) d (acc ++ [v])) (r_fin (r_loop d n (acc ++ [v]) t)) := by
        intro v t hvt
        obtain ⟨p, hp⟩ := val_suffix _ hvt
        have hlt := r_val_length _ hvt
        have hdr : u.drop ((u.length : Int) - ((t.map (tx (tB b))).length : Int)).toNat = t := by
          rw [List.length_map, show ((u.length : Int) - (t.length : Int)).toNat = u.length - t.length by omega]
          exact suffix_drop hp
        rw [hdr]
        exact ih t (acc ++ [v]) (by omega) (fun x hx => hb x (by rw [hp]; simp [hx])) (by simp; omega)
      have htail : Ev (fun k => (quarryref03_value.f k (turnB b u)).bind fun bt208 => (if bt208.2.2.2.2 = 0 then (if 0 ≤ bt208.2.2.2.1 then (if bt208.2.2.2.1 ≤ (u.length : Int) then (quarryref03_Decode.l0 k (u.drop (bt208.2.2.2.1 : Int).toNat) d (acc ++ [(⟨bt208.1, bt208.2.1, bt208.2.2.1⟩ : S43)])) else (none)) else (none)) else (some (([] : List (S43)), bt208.2.2.2.2)))) (r_fin (match r_val (tB b) u with | .error c => .error c | .ok (v, t) => r_loop d n (acc ++ [v]) t)) := by
        refine Ev.bind hv ?_
        cases hvv : r_val (tB b) u with
        | error c =>
          have hc0 : ¬ c = 0 := by
            intro e
            subst e
            have key : ∀ (T : Int) (l : List Int), r_val T l ≠ .error 0 := by
              intro T l h
              cases l with
              | nil => simp [r_val] at h
              | cons k l =>
                simp only [r_val] at h
                split at h
                · cases h
                split at h
                · split at h
                  · cases h
                  · split at h <;> cases h
                split at h
                · split at h <;> cases h
                split at h
                · have tkey : ∀ (m : Nat) (l acc : List Int), l.length ≤ m → r_text T acc l ≠ .error 0 := by
                    intro m
                    induction m with
                    | zero => intro l acc hl h; obtain rfl : l = [] := List.length_eq_zero_iff.1 (by omega); cases h
                    | succ m ihm =>
                      intro l acc hl h
                      match l, h with
                      | [], h => cases h
                      | [_], h => cases h
                      | c :: d :: u, h =>
                        rw [r_text] at h
                        split at h
                        · split at h
                          · cases h
                          · split at h
                            · exact ihm u _ (by simp at hl; omega) h
                            · cases h
                        · exact ihm (d :: u) _ (by simp at hl ⊢; omega) h
                  cases ht : r_text T [] l with
                  | error c =>
                    rw [ht] at h
                    simp only [Except.error.injEq] at h
                    subst h
                    exact tkey l.length l [] (Nat.le_refl _) ht
                  | ok p => rw [ht] at h; cases h
                · cases h
            exact key _ _ hvv
          simp only [mapE, resV, hc0, if_false, r_fin]
          exact Ev.pure _
        | ok p =>
          obtain ⟨v, t⟩ := p
          have hlt := r_val_length _ hvv
          have q1 : (0 : Int) ≤ (u.length : Int) - ((t.map (tx (tB b))).length : Int) := by rw [List.length_map]; omega
          have q2 : (u.length : Int) - ((t.map (tx (tB b))).length : Int) ≤ (u.length : Int) := by omega
          simp only [mapE, resV, if_true, q1, q2]
          exact hgo v t hvv
      cases b with
      | false =>
        simp only [Bool.false_eq_true, if_false]
        exact htail
      | true =>
        simp only [if_true]
        exact Ev.bind (ref_flip_ev u hb (by omega)) htail
theorem ref_decode_ev (l : List Int) (d : List Bool) (hb : BytesIn l) (hl : l.length < 4398046511104) : Ev (fun k => quarryref03_Decode.f k l d) (r_dec d l) := by
  unfold quarryref03_Decode.f r_dec
  exact ref_decode_loop d l.length l [] (Nat.le_refl _) hb (by simpa using hl)
theorem ref_next_loop (b : List Int) (hl : b.length < 140737488355328) : ∀ (n : Nat), n ≤ b.length → trim b = trim (b.take n) → Ev (fun k => quarryref03_Next.l0 k b (n : Int)) (nextB b) := by
  intro n
  induction n with
  | zero =>
    intro _ ht
    refine Ev.succ ?_
    have e : ¬ (((0 : Nat) : Int) > 0) := by omega
    have e2 : ((0 : Nat) : Int) = 0 := rfl
    have h0 : trim b = [] := by rw [ht]; rfl
    unfold nextB
    simp only [quarryref03_Next.l0, e, if_false, e2, if_true, h0]
    exact Ev.pure _
  | succ n ih =>
    intro hn ht
    refine Ev.succ ?_
    have e : (((n + 1 : Nat) : Int) > 0) := by omega
    have e1 : wrap64 (((n + 1 : Nat) : Int) - 1) = (n : Int) := by unfold wrap64; omega
    have e2 : (0 : Int) ≤ (n : Int) := by omega
    have e3 : (n : Int) < (b.length : Int) := by omega
    have hlt : n < b.length := by omega
    have htk : b.take (n + 1) = b.take n ++ [b[n]] := by rw [List.take_succ_eq_append_getElem hlt]
    have hbn : rd b (n : Int) = b[n] := by
      unfold rd
      rw [Int.toNat_natCast, List.getD_eq_getElem?_getD, List.getElem?_eq_getElem hlt]
      rfl
    simp only [quarryref03_Next.l0, e, e1, e2, e3, if_true, hbn]
    by_cases h : b[n] = 255
    · simp only [h, if_true]
      rw [htk, h, trim_snoc_255] at ht
      exact ih (by omega) ht
    · have hne : ¬ ((n + 1 : Nat) : Int) = 0 := by omega
      have e4 : (0 : Int) ≤ ((n + 1 : Nat) : Int) := by omega
      have e5 : ((n + 1 : Nat) : Int) ≤ (b.length : Int) := by omega
      have e6 : (n : Int) < ((b.take (n + 1)).length : Int) := by rw [List.length_take]; omega
      have e7 : ([] : List Int).length + (b.take (n + 1)).length < 140737488355328 := by rw [List.length_take]; simp; omega
      rw [htk, trim_snoc _ _ h] at ht
      have hnb : nextB b = (b.take n ++ [(b[n] + 1) % 256], true) := by
        unfold nextB
        rw [ht, if_neg (by intro h0; have h1 := congrArg List.length h0; rw [List.length_append, List.length_cons, List.length_nil] at h1; omega), bump_snoc]
      have hset : (b.take (n + 1)).set n ((rd (b.take (n + 1)) (n : Int) + 1) % 256) = b.take n ++ [(b[n] + 1) % 256] := by
        have hr : rd (b.take (n + 1)) (n : Int) = b[n] := by
          rw [htk]
          have := rdI_at (b.take n) b[n] []
          rw [List.length_take, Nat.min_eq_left (by omega)] at this
          exact this
        rw [hr, htk, List.set_append_right _ _ (by rw [List.length_take]; omega)]
        rw [List.length_take, Nat.min_eq_left (by omega), Nat.sub_self]
        rfl
      simp only [h, if_false, hne, e4, e5, if_true, Int.toNat_natCast, Option.bind_some, List.nil_append, e6, e7, hset]
      rw [hnb]
      exact Ev.pure _
theorem ref_next_ev (b : List Int) (hl : b.length < 140737488355328) : Ev (fun k => quarryref03_Next.f k b) (nextB b) := by
  unfold quarryref03_Next.f
  exact ref_next_loop b hl b.length (Nat.le_refl _) (by rw [List.take_length])
end Go.Proofs.Ytbpnmmakodaakaa.Pure
