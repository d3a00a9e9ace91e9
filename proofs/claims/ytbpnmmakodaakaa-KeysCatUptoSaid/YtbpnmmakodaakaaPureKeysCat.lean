/- The bytes of two rows as one are those of the first, and then those of the second, and stand ahead of the first one's next ones; values and letters together at most 1048576. No other condition. -/
import Derived.Test.YtbpnmmakodaakaaR6
import Derived.Test.YtbpnmmakodaakaaKB
namespace Go.Proofs.Ytbpnmmakodaakaa.Pure
set_option linter.unusedVariables false
set_option linter.unusedSimpArgs false
open Go.RowKit Go.Proofs.Ytbpnmmakodaakaa.P Go.Proofs.YtbpnmmakodaakaaW.PrintWords Go.Proofs.YtbpnmmakodaakaaW.PrintLast Go.Proofs.YtbpnmmakodaakaaW.PrintMore

theorem trim_nil : ∀ {b : List Int}, trim b = [] → ∀ x ∈ b, x = 255
  | [], _, x, hx => by simp at hx
  | c :: l, h, x, hx => by
    unfold trim at h
    split at h
    · rename_i hc
      rcases List.mem_cons.1 hx with rfl | hx
      · exact hc.2
      · exact trim_nil hc.1 x hx
    · cases h
theorem begins_ge : ∀ (b c : List Int), b.isPrefixOf c = true → cmpL c b ≠ -1
  | [], c, _ => by cases c <;> simp [cmpL]
  | x :: b, [], h => by simp at h
  | x :: b, y :: c, h => by
    simp only [List.isPrefixOf, Bool.and_eq_true, beq_iff_eq] at h
    obtain ⟨rfl, h⟩ := h
    simp only [cmpL, Int.lt_irrefl, if_false]
    exact begins_ge b c h
/-- With nothing but 255s: what stands not ahead begins with them. -/
theorem all_255 : ∀ (b c : List Int), (∀ x ∈ b, x = 255) → BytesIn c → (b.isPrefixOf c = true ↔ cmpL c b ≠ -1)
  | [], c, _, _ => by cases c <;> simp [cmpL, List.isPrefixOf]
  | x :: b, [], h, _ => by simp [cmpL, List.isPrefixOf]
  | x :: b, y :: c, h, hc => by
    have hx := h x (by simp)
    subst hx
    have hy := hc y (by simp)
    have ih := all_255 b c (fun z hz => h z (by simp [hz])) (fun z hz => hc z (by simp [hz]))
    simp only [List.isPrefixOf, cmpL]
    by_cases e : y = 255
    · subst e
      simp only [beq_self_eq_true, Bool.true_and, Int.lt_irrefl, if_false]
      exact ih
    · have h1 : y < 255 := by omega
      have h2 : ((255 : Int) == y) = false := beq_eq_false_iff_ne.2 (fun q => e q.symm)
      simp [h1, h2]
theorem trim_cons_nil {c : Int} {l : List Int} (h : trim (c :: l) ≠ []) (hl : trim l = []) : c ≠ 255 ∧ trim (c :: l) = [c] := by
  unfold trim at h ⊢
  by_cases e : c = 255
  · rw [if_pos ⟨hl, e⟩] at h; exact absurd rfl h
  · rw [if_neg (fun q => e q.2), hl]; exact ⟨e, rfl⟩
theorem begins_iff : ∀ (b c : List Int), BytesIn b → BytesIn c → trim b ≠ [] → (b.isPrefixOf c = true ↔ (cmpL c b ≠ -1 ∧ cmpL c (bump (trim b)) = -1))
  | [], c, _, _, h => absurd rfl h
  | x :: b, [], _, _, h => by simp [cmpL, List.isPrefixOf]
  | x :: b, y :: c, hb, hc, h => by
    have hx := hb x (by simp)
    have hy := hc y (by simp)
    have hbb : BytesIn b := fun z hz => hb z (by simp [hz])
    have hcc : BytesIn c := fun z hz => hc z (by simp [hz])
    by_cases hl : trim b = []
    · obtain ⟨hx255, ht⟩ := trim_cons_nil h hl
      rw [ht]
      have hm : (x + 1) % 256 = x + 1 := by omega
      simp only [bump, hm, List.isPrefixOf, cmpL]
      have key := all_255 b c (trim_nil hl) hcc
      by_cases e : x = y
      · subst e
        have h2 : x < x + 1 := by omega
        simp only [beq_self_eq_true, Bool.true_and, Int.lt_irrefl, if_false, h2, if_true, and_true]
        exact key
      · have hne : (x == y) = false := beq_eq_false_iff_ne.2 e
        simp only [hne, Bool.false_and, Bool.false_eq_true, false_iff]
        intro q
        by_cases h1 : y < x
        · simp [h1] at q
        · have h2 : ¬ y < x + 1 := by omega
          simp only [h2, if_false] at q
          by_cases h3 : x + 1 < y
          · simp [h3] at q
          · have h4 : y = x + 1 := by omega
            subst h4
            simp only [Int.lt_irrefl, if_false] at q
            cases c <;> simp [cmpL] at q
    · have ht : trim (x :: b) = x :: trim b := by rw [trim, if_neg (fun q => hl q.1)]
      rw [ht]
      obtain ⟨d, l, hdl⟩ : ∃ d l, trim b = d :: l := by
        cases q : trim b with
        | nil => exact absurd q hl
        | cons d l => exact ⟨d, l, rfl⟩
      have ih := begins_iff b c hbb hcc hl
      rw [hdl] at ih ⊢
      simp only [bump, List.isPrefixOf, cmpL]
      by_cases e : x = y
      · subst e
        simp only [beq_self_eq_true, Bool.true_and, Int.lt_irrefl, if_false]
        exact ih
      · have hne : (x == y) = false := beq_eq_false_iff_ne.2 e
        simp only [hne, Bool.false_and, Bool.false_eq_true, false_iff]
        intro q
        by_cases h1 : y < x
        · simp [h1] at q
        · have h3 : x < y := by omega
          simp [h1, h3] at q
theorem bump_range : ∀ l : List Int, BytesIn l → BytesIn (bump l)
  | [], _ => by intro x hx; simp [bump] at hx
  | [c], _ => by intro x hx; simp [bump] at hx; omega
  | c :: d :: l, h => by
    intro x hx
    simp only [bump, List.mem_cons] at hx
    rcases hx with rfl | hx
    · exact h x (by simp)
    · exact bump_range (d :: l) (fun z hz => h z (List.mem_cons_of_mem _ hz)) x hx
theorem trim_range : ∀ l : List Int, BytesIn l → BytesIn (trim l)
  | [], h => h
  | c :: l, h => by
    have ih := trim_range l (fun z hz => h z (List.mem_cons_of_mem _ hz))
    unfold trim
    split
    · intro x hx; simp at hx
    · intro x hx
      rcases List.mem_cons.1 hx with rfl | hx
      · exact h x (by simp)
      · exact ih x hx

theorem enc_cat : ∀ (a b : List S43) {p q : List Int}, encE [] a = some p → encE [] b = some q → encE [] (a ++ b) = some (p ++ q)
  | [], b, p, q, hp, hq => by
    simp only [encE, Option.some.injEq] at hp
    subst hp
    simpa using hq
  | x :: a, b, p, q, hp, hq => by
    rw [List.cons_append]
    unfold encE at hp ⊢
    split at hp
    · rename_i hc
      obtain ⟨p', hp', rfl⟩ := Option.map_eq_some_iff.1 hp
      rw [if_pos hc]
      have := enc_cat a b hp' hq
      show Option.map _ (encE [] (a ++ b)) = _
      rw [this]
      simp
    · cases hp
theorem room_append (a b : List S43) : room (a ++ b) = room a + room b := by simp [room]
theorem prefix_append (p q : List Int) : p.isPrefixOf (p ++ q) = true := List.isPrefixOf_iff_prefix.2 ⟨q, rfl⟩
theorem str_append (p q : List Int) : ((strOfNums p) ++ (strOfNums q)).toList = (strOfNums (p ++ q)).toList := by
  rw [Go.ByteArray.toList_eq, Go.ByteArray.toList_eq]
  simp [strOfNums]
theorem KeysCat : ∀ (l0 : List (S43)) (l1 : List (S43)), G22 l0 → G22 l1 → m22 l0 + m22 l1 ≤ 1048576 → ∃ k, quarrylaw03_KeysCat.f k l0 l1 = some true := by
  intro a b ha hb hm
  obtain ⟨ax, an, ar⟩ := known_row ha (by omega)
  obtain ⟨bx, bn, br⟩ := known_row hb (by omega)
  refine Ev.get ?_
  unfold quarrylaw03_KeysCat.f
  refine Ev.bind works_ev ?_
  simp only [if_true]
  refine Ev.bind (right_ev a (by omega)) ?_
  cases ra : rightB a with
  | false =>
    simp only [Bool.false_eq_true, if_false]
    refine Ev.succ ?_
    simp only [quarrylaw03_KeysCat.j0, if_true]
    exact Ev.pure _
  | true =>
    simp only [if_true]
    refine Ev.bind (right_ev b (by omega)) (Ev.succ ?_)
    cases rb : rightB b with
    | false =>
      simp only [quarrylaw03_KeysCat.j0, Bool.not_false, if_true]
      exact Ev.pure _
    | true =>
      simp only [quarrylaw03_KeysCat.j0, Bool.not_true, Bool.false_eq_true, if_false]
      obtain ⟨p, hp⟩ := enc_of_right a [] (right_all ra)
      obtain ⟨q, hq⟩ := enc_of_right b [] (right_all rb)
      have hpq := enc_cat a b hp hq
      have h1 := encode_ev a [] ax (by omega) (by omega)
      have h2 := encode_ev b [] bx (by omega) (by omega)
      have h3 := encode_ev (a ++ b) [] (fun x hx => (List.mem_append.1 hx).elim (ax x) (bx x)) (by rw [List.length_append]; omega) (by rw [room_append]; omega)
      rw [encR_of hp] at h1
      rw [encR_of hq] at h2
      rw [encR_of hpq] at h3
      have e1 : ([] : List S43).length + a.length < 4398046511104 := by simp; omega
      have e2 : a.length + b.length < 4398046511104 := by omega
      have pr := encE_range a [] hp
      have qr := encE_range b [] hq
      have zr := encE_range (a ++ b) [] hpq
      have pl := encE_length a [] hp
      have ql := encE_length b [] hq
      have e3 : (strOfNums p).size + (strOfNums q).size ≤ 9223372036854775807 := by rw [strOfNums_size, strOfNums_size]; omega
      refine Ev.bind h1 (Ev.bind h2 ?_)
      simp only [Option.bind_some, List.nil_append, e1, e2, if_true]
      refine Ev.bind h3 ?_
      simp only [if_true, e3, str_append]
      refine Ev.bind (next_ev p (by omega)) ?_
      have hb1 := begins_ge p (p ++ q) (prefix_append p q)
      have hl1 : Op.bytesLess (strOfNums (p ++ q)).toList (strOfNums p).toList = false := by rw [less_is zr pr]; exact decide_eq_false hb1
      simp only [hl1, Bool.false_eq_true, if_false]
      unfold nextB
      by_cases ht : trim p = []
      · simp only [ht, if_true, Bool.false_eq_true, if_false]
        exact Ev.pure _
      · simp only [ht, if_false, if_true]
        have hb2 := ((begins_iff p (p ++ q) pr zr ht).1 (prefix_append p q)).2
        have hl2 : Op.bytesLess (strOfNums (p ++ q)).toList (strOfNums (bump (trim p))).toList = true := by rw [less_is zr (bump_range _ (trim_range p pr))]; exact decide_eq_true hb2
        simp only [hl2]
        exact Ev.pure _
end Go.Proofs.Ytbpnmmakodaakaa.Pure
