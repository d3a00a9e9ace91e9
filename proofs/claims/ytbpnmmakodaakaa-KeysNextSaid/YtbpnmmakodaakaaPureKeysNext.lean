/- Just those bytes begin with some bytes that stand ahead of the next ones, and not ahead of them. No condition but that they fit memory. -/
import Derived.Test.YtbpnmmakodaakaaR5
import Derived.Test.YtbpnmmakodaakaaKB
namespace Go.Proofs.Ytbpnmmakodaakaa.Pure
set_option linter.unusedVariables false
set_option linter.unusedSimpArgs false
open Go.RowKit Go.Proofs.Ytbpnmmakodaakaa.P Go.Proofs.YtbpnmmakodaakaaW.PrintWords Go.Proofs.YtbpnmmakodaakaaW.PrintLast Go.Proofs.YtbpnmmakodaakaaW.PrintMore

/-- The lists that begin with b. -/
theorem trim_nil : ∀ {b : List Int}, trim b = [] → ∀ x ∈ b, x = 255
  | [], _, x, hx => by simp at hx
  | c :: l, h, x, hx => by
    unfold trim at h
    split at h
    · rename_i hc
      rcases List.mem_cons.1 hx with rfl | hx
      · exact hc.2
      · exact trim_nil hc.1 x hx
    · cases h
theorem begins_ge : ∀ (b c : List Int), b.isPrefixOf c = true → cmpL c b ≠ -1
  | [], c, _ => by cases c <;> simp [cmpL]
  | x :: b, [], h => by simp at h
  | x :: b, y :: c, h => by
    simp only [List.isPrefixOf, Bool.and_eq_true, beq_iff_eq] at h
    obtain ⟨rfl, h⟩ := h
    simp only [cmpL, Int.lt_irrefl, if_false]
    exact begins_ge b c h
/-- With nothing but 255s: what stands not ahead begins with them. -/
theorem all_255 : ∀ (b c : List Int), (∀ x ∈ b, x = 255) → BytesIn c → (b.isPrefixOf c = true ↔ cmpL c b ≠ -1)
  | [], c, _, _ => by cases c <;> simp [cmpL, List.isPrefixOf]
  | x :: b, [], h, _ => by simp [cmpL, List.isPrefixOf]
  | x :: b, y :: c, h, hc => by
    have hx := h x (by simp)
    subst hx
    have hy := hc y (by simp)
    have ih := all_255 b c (fun z hz => h z (by simp [hz])) (fun z hz => hc z (by simp [hz]))
    simp only [List.isPrefixOf, cmpL]
    by_cases e : y = 255
    · subst e
      simp only [beq_self_eq_true, Bool.true_and, Int.lt_irrefl, if_false]
      exact ih
    · have h1 : y < 255 := by omega
      have h2 : ((255 : Int) == y) = false := beq_eq_false_iff_ne.2 (fun q => e q.symm)
      simp [h1, h2]
theorem trim_cons_nil {c : Int} {l : List Int} (h : trim (c :: l) ≠ []) (hl : trim l = []) : c ≠ 255 ∧ trim (c :: l) = [c] := by
  unfold trim at h ⊢
  by_cases e : c = 255
  · rw [if_pos ⟨hl, e⟩] at h; exact absurd rfl h
  · rw [if_neg (fun q => e q.2), hl]; exact ⟨e, rfl⟩
theorem begins_iff : ∀ (b c : List Int), BytesIn b → BytesIn c → trim b ≠ [] → (b.isPrefixOf c = true ↔ (cmpL c b ≠ -1 ∧ cmpL c (bump (trim b)) = -1))
  | [], c, _, _, h => absurd rfl h
  | x :: b, [], _, _, h => by simp [cmpL, List.isPrefixOf]
  | x :: b, y :: c, hb, hc, h => by
    have hx := hb x (by simp)
    have hy := hc y (by simp)
    have hbb : BytesIn b := fun z hz => hb z (by simp [hz])
    have hcc : BytesIn c := fun z hz => hc z (by simp [hz])
    by_cases hl : trim b = []
    · obtain ⟨hx255, ht⟩ := trim_cons_nil h hl
      rw [ht]
      have hm : (x + 1) % 256 = x + 1 := by omega
      simp only [bump, hm, List.isPrefixOf, cmpL]
      have key := all_255 b c (trim_nil hl) hcc
      by_cases e : x = y
      · subst e
        have h2 : x < x + 1 := by omega
        simp only [beq_self_eq_true, Bool.true_and, Int.lt_irrefl, if_false, h2, if_true, and_true]
        exact key
      · have hne : (x == y) = false := beq_eq_false_iff_ne.2 e
        simp only [hne, Bool.false_and, Bool.false_eq_true, false_iff]
        intro q
        by_cases h1 : y < x
        · simp [h1] at q
        · have h2 : ¬ y < x + 1 := by omega
          simp only [h2, if_false] at q
          by_cases h3 : x + 1 < y
          · simp [h3] at q
          · have h4 : y = x + 1 := by omega
            subst h4
            simp only [Int.lt_irrefl, if_false] at q
            cases c <;> simp [cmpL] at q
    · have ht : trim (x :: b) = x :: trim b := by rw [trim, if_neg (fun q => hl q.1)]
      rw [ht]
      obtain ⟨d, l, hdl⟩ : ∃ d l, trim b = d :: l := by
        cases q : trim b with
        | nil => exact absurd q hl
        | cons d l => exact ⟨d, l, rfl⟩
      have ih := begins_iff b c hbb hcc hl
      rw [hdl] at ih ⊢
      simp only [bump, List.isPrefixOf, cmpL]
      by_cases e : x = y
      · subst e
        simp only [beq_self_eq_true, Bool.true_and, Int.lt_irrefl, if_false]
        exact ih
      · have hne : (x == y) = false := beq_eq_false_iff_ne.2 e
        simp only [hne, Bool.false_and, Bool.false_eq_true, false_iff]
        intro q
        by_cases h1 : y < x
        · simp [h1] at q
        · have h3 : x < y := by omega
          simp [h1, h3] at q
theorem take_prefix : ∀ (b c : List Int), b.length ≤ c.length → (c.take b.length = b ↔ b.isPrefixOf c = true)
  | [], c, _ => by simp [List.isPrefixOf]
  | x :: b, [], h => by simp at h
  | x :: b, y :: c, h => by
    have ih := take_prefix b c (by simpa using h)
    simp only [List.length_cons, List.take_succ_cons, List.isPrefixOf, Bool.and_eq_true, beq_iff_eq, List.cons.injEq, ih]
    exact ⟨fun ⟨a, b⟩ => ⟨a.symm, b⟩, fun ⟨a, b⟩ => ⟨a.symm, b⟩⟩
theorem long_prefix {b c : List Int} (h : b.isPrefixOf c = true) : b.length ≤ c.length := (List.isPrefixOf_iff_prefix.1 h).length_le
theorem bump_range : ∀ l : List Int, BytesIn l → BytesIn (bump l)
  | [], _ => by intro x hx; simp [bump] at hx
  | [c], _ => by intro x hx; simp [bump] at hx; omega
  | c :: d :: l, h => by
    intro x hx
    simp only [bump, List.mem_cons] at hx
    rcases hx with rfl | hx
    · exact h x (by simp)
    · exact bump_range (d :: l) (fun z hz => h z (List.mem_cons_of_mem _ hz)) x hx
theorem trim_range : ∀ l : List Int, BytesIn l → BytesIn (trim l)
  | [], h => h
  | c :: l, h => by
    have ih := trim_range l (fun z hz => h z (List.mem_cons_of_mem _ hz))
    unfold trim
    split
    · intro x hx; simp at hx
    · intro x hx
      rcases List.mem_cons.1 hx with rfl | hx
      · exact h x (by simp)
      · exact ih x hx
theorem next_all (c : List Int) (begins : Bool) : ∀ (suf pre : List Int), (∀ x ∈ suf, x = 255) → (pre ++ suf).length < 140737488355328 → Ev (fun k => quarrylaw03_KeysNext.l0 k (pre ++ suf) c begins (pre.length : Int)) (begins == (!(Op.bytesLess ((strOfNums c).toList) ((strOfNums (pre ++ suf)).toList)))) := by
  intro suf
  induction suf with
  | nil =>
    intro pre _ hl
    refine Ev.succ ?_
    have e : ¬ ((pre.length : Int) < ((pre ++ []).length : Int)) := by simp
    simp only [quarrylaw03_KeysNext.l0, e, if_false]
    exact Ev.pure _
  | cons x suf ih =>
    intro pre hx hl
    refine Ev.succ ?_
    have e1 : (pre.length : Int) < ((pre ++ x :: suf).length : Int) := by simp; omega
    have e2 : (0 : Int) ≤ (pre.length : Int) := by omega
    have e6 : wrap64 ((pre.length : Int) + 1) = (pre.length : Int) + 1 := wrap64_in (by omega) (by simp at hl; omega)
    have e7 := hx x (by simp)
    subst e7
    simp only [quarrylaw03_KeysNext.l0, e1, e2, if_true, rdI_at, e6]
    have := ih (pre ++ [255]) (fun y hy => hx y (by simp [hy])) (by simpa using hl)
    simpa using this
theorem KeysNext : ∀ (l0 : List (Int)) (l1 : List (Int)), G24 l0 → G24 l1 → ∃ k, quarrylaw03_KeysNext.f k l0 l1 = some true := by
  intro b c hb hc
  obtain ⟨_, hb2, hbl⟩ := known_bytes hb
  obtain ⟨_, hc2, hcl⟩ := known_bytes hc
  refine Ev.get ?_
  unfold quarrylaw03_KeysNext.f
  refine Ev.bind works_ev ?_
  simp only [if_true]
  refine Ev.bind (next_ev b hbl) ?_
  have hj : Ev (fun k => quarrylaw03_KeysNext.j0 k b c (nextB b).1 (nextB b).2 (b.isPrefixOf c)) true := by
    refine Ev.succ ?_
    unfold nextB
    by_cases ht : trim b = []
    · simp only [ht, if_true, quarrylaw03_KeysNext.j0, Bool.false_eq_true, if_false]
      have h255 := trim_nil ht
      have := next_all c (b.isPrefixOf c) b [] h255 (by simpa using hbl)
      have hiff := all_255 b c h255 hc2
      have hval : (b.isPrefixOf c == (!(Op.bytesLess ((strOfNums c).toList) ((strOfNums b).toList)))) = true := by
        rw [less_is hc2 hb2]
        by_cases q : cmpL c b = -1
        · have : b.isPrefixOf c = false := by
            cases w : b.isPrefixOf c with
            | false => rfl
            | true => exact absurd q (hiff.1 w)
          simp [q, this]
        · have := hiff.2 q
          simp [q, this]
      simp only [List.nil_append, hval] at this
      exact this
    · simp only [ht, if_false, quarrylaw03_KeysNext.j0, if_true]
      have hiff := begins_iff b c hb2 hc2 ht
      have hr := bump_range _ (trim_range b hb2)
      rw [less_is hc2 hb2, less_is hc2 hr]
      by_cases q : cmpL c b = -1
      · have : b.isPrefixOf c = false := by
          cases w : b.isPrefixOf c with
          | false => rfl
          | true => exact absurd q (hiff.1 w).1
        simp [q, this]
        exact Ev.pure _
      · by_cases q2 : cmpL c (bump (trim b)) = -1
        · have := hiff.2 ⟨q, q2⟩
          simp [q, q2, this]
          exact Ev.pure _
        · have : b.isPrefixOf c = false := by
            cases w : b.isPrefixOf c with
            | false => rfl
            | true => exact absurd (hiff.1 w).2 q2
          simp [q, q2, this]
          exact Ev.pure _
  by_cases hlen : b.length ≤ c.length
  · have e1 : (c.length : Int) ≥ (b.length : Int) := by omega
    have e2 : (0 : Int) ≤ (b.length : Int) := by omega
    have e3 : (b.length : Int) ≤ (c.length : Int) := by omega
    have e4 : ((strOfNums (c.take ((b.length : Int) : Int).toNat)).toList == (strOfNums b).toList) = b.isPrefixOf c := by
      rw [Int.toNat_natCast]
      have h1 := same_str (a := c.take b.length) (b := b) (fun x hx => hc2 x (List.mem_of_mem_take hx)) hb2
      have h2 := take_prefix b c hlen
      rw [Bool.eq_iff_iff, beq_iff_eq, h1, h2]
    simp only [e1, e2, e3, if_true, e4]
    exact hj
  · have e1 : ¬ (c.length : Int) ≥ (b.length : Int) := by omega
    have e4 : b.isPrefixOf c = false := by
      cases w : b.isPrefixOf c with
      | false => rfl
      | true => exact absurd (long_prefix w) hlen
    rw [e4] at hj
    simp only [e1, if_false]
    exact hj
end Go.Proofs.Ytbpnmmakodaakaa.Pure
