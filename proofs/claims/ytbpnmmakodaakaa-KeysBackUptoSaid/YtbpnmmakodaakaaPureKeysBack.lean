/- A row is read from its bytes as it was, and bytes that are a row's are what that row is written as; values, letters and bytes together at most 1048576. No other condition. -/
import Derived.Test.YtbpnmmakodaakaaR4
import Derived.Test.YtbpnmmakodaakaaKB
import Derived.Test.YtbpnmmakodaakaaSame
namespace Go.Proofs.Ytbpnmmakodaakaa.Pure
set_option linter.unusedVariables false
set_option linter.unusedSimpArgs false
open Go.RowKit Go.Proofs.Ytbpnmmakodaakaa.P Go.Proofs.YtbpnmmakodaakaaW.PrintWords Go.Proofs.YtbpnmmakodaakaaW.PrintLast Go.Proofs.YtbpnmmakodaakaaW.PrintMore

theorem r_loop_len (d : List Bool) : ∀ (n : Nat) (acc : List S43) (l : List Int) {r : List S43}, r_loop d n acc l = .ok r → r.length ≤ acc.length + l.length := by
  intro n
  induction n with
  | zero =>
    intro acc l r h
    cases l with
    | nil => simp only [r_loop, Except.ok.injEq] at h; subst h; simp
    | cons k l => simp [r_loop] at h
  | succ n ih =>
    intro acc l r h
    cases l with
    | nil => simp only [r_loop, Except.ok.injEq] at h; subst h; simp
    | cons k l =>
      simp only [r_loop] at h
      cases hv : r_val (dT d acc.length) (k :: l) with
      | error c => rw [hv] at h; cases h
      | ok p =>
        obtain ⟨x, t'⟩ := p
        rw [hv] at h
        have h1 := ih _ _ h
        have h2 := r_val_length _ hv
        simp at h1 h2 ⊢
        omega
theorem r_dec_len (d : List Bool) (l : List Int) : (r_dec d l).1.length ≤ l.length := by
  unfold r_dec
  cases hq : r_loop d l.length [] l with
  | error c => simp [r_fin]
  | ok q =>
    have := r_loop_len d _ _ _ hq
    simpa [r_fin] using this

theorem loop_err (d : List Bool) : ∀ (n : Nat) (acc : List S43) (l : List Int), l.length ≤ n → ¬ r_loop d n acc l = .error 0 := by
  have key : ∀ (T : Int) (l : List Int), r_val T l ≠ .error 0 := by
    intro T l h
    cases l with
    | nil => simp [r_val] at h
    | cons k l =>
      simp only [r_val] at h
      split at h
      · cases h
      split at h
      · split at h
        · cases h
        · split at h <;> cases h
      split at h
      · split at h <;> cases h
      split at h
      · have tkey : ∀ (m : Nat) (l acc : List Int), l.length ≤ m → r_text T acc l ≠ .error 0 := by
          intro m
          induction m with
          | zero => intro l acc hl h; obtain rfl : l = [] := List.length_eq_zero_iff.1 (by omega); cases h
          | succ m ihm =>
            intro l acc hl h
            match l, h with
            | [], h => cases h
            | [_], h => cases h
            | c :: d :: u, h =>
              rw [r_text] at h
              split at h
              · split at h
                · cases h
                · split at h
                  · exact ihm u _ (by simp at hl; omega) h
                  · cases h
              · exact ihm (d :: u) _ (by simp at hl ⊢; omega) h
        cases ht : r_text T [] l with
        | error c =>
          rw [ht] at h
          simp only [Except.error.injEq] at h
          subst h
          exact tkey l.length l [] (Nat.le_refl _) ht
        | ok p => rw [ht] at h; cases h
      · cases h
  intro n
  induction n with
  | zero =>
    intro acc l hl h
    obtain rfl : l = [] := List.length_eq_zero_iff.1 (by omega)
    cases h
  | succ n ih =>
    intro acc l hl h
    cases l with
    | nil => cases h
    | cons k l =>
      simp only [r_loop] at h
      cases hv : r_val (dT d acc.length) (k :: l) with
      | error c =>
        rw [hv] at h
        simp only [Except.error.injEq] at h
        subst h
        exact key _ _ hv
      | ok p =>
        rw [hv] at h
        have := r_val_length _ hv
        exact ih _ _ (by simp at this hl ⊢; omega) h
theorem esc_len_ge (l : List UInt8) : l.length ≤ (esc l).length := by
  induction l with
  | nil => simp [esc]
  | cons c l ih => unfold esc; split <;> simp <;> omega
theorem text_len_ge (x : S43) (hc : chk x = 0) : x.f2.size + 1 ≤ (encB x).length := by
  have hk := chk_kind hc
  have hz : V0.size = 0 := rfl
  unfold encB payload
  by_cases h0 : x.f0 = 0
  · have := chk_zero hc h0
    rw [this]
    simp [hz]
  by_cases h1 : x.f0 = 1
  · rw [(chk_one hc h1).2, hz]; simp
  by_cases h2 : x.f0 = 2
  · rw [chk_two hc h2, hz]; simp
  have h3 : x.f0 = 3 ∨ x.f0 = 4 := by omega
  rw [if_neg h1, if_neg h2, if_pos h3]
  have := esc_len_ge x.f2.data.toList
  rw [← size_toList] at this
  simp
  omega
theorem size_le : ∀ (l : List S43) (d : List Bool) {b : List Int}, encE d l = some b → ∀ x ∈ l, x.f2.size ≤ b.length
  | [], d, b, h, x, hx => by simp at hx
  | y :: l, d, b, h, x, hx => by
    unfold encE at h
    split at h
    · rename_i hc
      obtain ⟨b', hb, rfl⟩ := Option.map_eq_some_iff.1 h
      rw [List.length_append, turnB_length]
      rcases List.mem_cons.1 hx with rfl | hx
      · have := text_len_ge x hc; omega
      · have := size_le l _ hb x hx; omega
    · cases h
theorem room_le : ∀ (l : List S43) (d : List Bool) {b : List Int}, encE d l = some b → room l ≤ 12 * b.length
  | [], d, b, h => by simp [room]
  | y :: l, d, b, h => by
    unfold encE at h
    split at h
    · rename_i hc
      obtain ⟨b', hb, rfl⟩ := Option.map_eq_some_iff.1 h
      have h1 := text_len_ge y hc
      have h2 := room_le l _ hb
      rw [List.length_append, turnB_length]
      simp only [room, List.map_cons, List.sum_cons] at h2 ⊢
      omega
    · cases h

theorem loop_back (d : List Bool) : ∀ (n : Nat) (l : List Int) (acc r : List S43), l.length ≤ n → BytesIn l → r_loop d n acc l = .ok r → ∃ s, r = acc ++ s ∧ (∀ x ∈ s, chk x = 0 ∧ I64 x.f0 ∧ I64 x.f1) ∧ encE (d.drop acc.length) s = some l := by
  intro n
  induction n with
  | zero =>
    intro l acc r hn hb h
    obtain rfl : l = [] := List.length_eq_zero_iff.1 (by omega)
    simp only [r_loop, Except.ok.injEq] at h
    subst h
    exact ⟨[], by simp, by simp, rfl⟩
  | succ n ih =>
    intro l acc r hn hb h
    cases l with
    | nil =>
      simp only [r_loop, Except.ok.injEq] at h
      subst h
      exact ⟨[], by simp, by simp, rfl⟩
    | cons k l =>
      simp only [r_loop] at h
      cases hv : r_val (dT d acc.length) (k :: l) with
      | error c => rw [hv] at h; cases h
      | ok p =>
        obtain ⟨x, t⟩ := p
        rw [hv] at h
        simp only at h
        have hlt := r_val_length _ hv
        rw [dT_is] at hv
        obtain ⟨h1, h2, h3, h4⟩ := back_turned _ hb hv
        have hbt : BytesIn t := fun y hy => hb y (by rw [h4]; simp [hy])
        obtain ⟨s, hs, hall, he⟩ := ih t (acc ++ [x]) r (by simp at hlt hn ⊢; omega) hbt h
        refine ⟨x :: s, by rw [hs]; simp, ?_, ?_⟩
        · intro y hy
          rcases List.mem_cons.1 hy with rfl | hy
          · exact ⟨h1, h2, h3⟩
          · exact hall y hy
        · have hd : (d.drop acc.length).headD false = d.getD acc.length false := by
            rw [List.headD_eq_head?_getD, List.head?_drop, List.getD_eq_getElem?_getD]
          have ht : (d.drop acc.length).tail = d.drop (acc ++ [x]).length := by rw [List.tail_drop, List.length_append]; rfl
          rw [encE, if_pos h1, ht, he, hd, h4]
          rfl
theorem dec_back {d : List Bool} {b : List Int} {r : List S43} (hb : BytesIn b) (h : r_dec d b = (r, 0)) : (∀ x ∈ r, chk x = 0 ∧ I64 x.f0 ∧ I64 x.f1) ∧ encE d r = some b := by
  unfold r_dec at h
  cases hq : r_loop d b.length [] b with
  | error c =>
    rw [hq] at h
    simp only [r_fin, Prod.mk.injEq] at h
    obtain ⟨_, rfl⟩ := h
    exact absurd hq (loop_err d _ _ _ (Nat.le_refl _))
  | ok q =>
    rw [hq] at h
    simp only [r_fin, Prod.mk.injEq] at h
    obtain ⟨rfl, _⟩ := h
    obtain ⟨s, hs, hall, he⟩ := loop_back d _ _ _ _ (Nat.le_refl _) hb hq
    rw [List.nil_append] at hs
    subst hs
    exact ⟨hall, by simpa using he⟩
theorem loop_read (d : List Bool) : ∀ (s : List S43) (n : Nat) (acc : List S43) (l : List Int), l.length ≤ n → (∀ x ∈ s, chk x = 0 ∧ I64 x.f1) → encE (d.drop acc.length) s = some l → r_loop d n acc l = .ok (acc ++ s) := by
  intro s
  induction s with
  | nil =>
    intro n acc l hn _ h
    simp only [encE, Option.some.injEq] at h
    subst h
    cases n <;> simp [r_loop]
  | cons x s ih =>
    intro n acc l hn hx h
    have h1 := hx x (by simp)
    rw [encE, if_pos h1.1] at h
    obtain ⟨b, hb, rfl⟩ := Option.map_eq_some_iff.1 h
    have hd : (d.drop acc.length).headD false = d.getD acc.length false := by
      rw [List.headD_eq_head?_getD, List.head?_drop, List.getD_eq_getElem?_getD]
    have ht : (d.drop acc.length).tail = d.drop (acc ++ [x]).length := by rw [List.tail_drop, List.length_append]; rfl
    rw [ht] at hb
    rw [hd] at hn ⊢
    have hbr := encE_range s _ hb
    have hrt := read_turned (d.getD acc.length false) h1.1 h1.2 hbr
    obtain ⟨k, t, hkt⟩ : ∃ k t, turnB (d.getD acc.length false) (encB x) ++ b = k :: t := by
      cases he : turnB (d.getD acc.length false) (encB x) ++ b with
      | nil =>
        have := congrArg List.length he
        rw [List.length_append, turnB_length] at this
        simp [encB] at this
      | cons k t => exact ⟨k, t, rfl⟩
    have hbl : b.length < (k :: t).length := by rw [← hkt, List.length_append, turnB_length]; simp [encB]
    rw [hkt] at hn hrt ⊢
    obtain ⟨n, rfl⟩ : ∃ m, n = m + 1 := ⟨n - 1, by simp at hn; omega⟩
    simp only [r_loop, dT_is, hrt]
    rw [ih n (acc ++ [x]) b (by simp at hn hbl ⊢; omega) (fun y hy => hx y (by simp [hy])) hb]
    simp
theorem KeysBack : ∀ (l0 : List (S43)) (l1 : List (Int)) (l2 : List (Bool)), G22 l0 → G24 l1 → G23 l2 → m22 l0 + m24 l1 + m23 l2 ≤ 1048576 → ∃ k, quarrylaw03_KeysBack.f k l0 l1 l2 = some true := by
  intro a b d ha hb hd hm
  obtain ⟨ax, an, ar⟩ := known_row ha (by omega)
  obtain ⟨hB, hb2, hl⟩ := known_bytes hb
  have hbl : b.length ≤ 1048576 := by rw [m24_len] at hm; omega
  have hj : Ev (fun k => quarrylaw03_KeysBack.j0 k a d) true := by
    refine Ev.succ ?_
    simp only [quarrylaw03_KeysBack.j0]
    refine Ev.bind (right_ev a (by omega)) ?_
    cases ra : rightB a with
    | false =>
      simp only [Bool.false_eq_true, if_false]
      exact Ev.pure _
    | true =>
      simp only [if_true]
      obtain ⟨p, hp⟩ := enc_of_right a d (right_all ra)
      have h1 := encode_ev a d ax (by omega) (by omega)
      rw [encR_of hp] at h1
      refine Ev.bind h1 ?_
      have hpr := encE_range a d hp
      have hpl := encE_length a d hp
      have hdec : r_dec d p = (a, 0) := by
        unfold r_dec
        rw [loop_read d a p.length [] p (Nat.le_refl _) (fun x hx => ⟨right_all ra x hx, (ax x hx).2.1⟩) (by simpa using hp)]
        simp [r_fin]
      simp only [decode_f p d (bytesB_of hpr) (by omega), hdec, Option.bind_some, if_true]
      refine Ev.bind (same_ev a a (by omega)) ?_
      simp only [decide_true]
      exact Ev.pure _
  refine Ev.get ?_
  unfold quarrylaw03_KeysBack.f
  refine Ev.bind works_ev ?_
  simp only [if_true, decode_f b d hB (by omega), Option.bind_some]
  by_cases he : (r_dec d b).2 = 0
  · simp only [he, if_true]
    obtain ⟨hall, henc⟩ := dec_back hb2 (show r_dec d b = ((r_dec d b).1, 0) by rw [← he])
    have hrl := r_dec_len d b
    have hroom := room_le (r_dec d b).1 d henc
    have h1 := encode_ev (r_dec d b).1 d (fun x hx => ⟨(hall x hx).2.1, (hall x hx).2.2, by have := size_le (r_dec d b).1 d henc x hx; omega⟩) (by omega) (by omega)
    rw [encR_of henc] at h1
    refine Ev.bind h1 ?_
    simp only [if_true]
    exact hj
  · simp only [he, if_false]
    exact hj
end Go.Proofs.Ytbpnmmakodaakaa.Pure
