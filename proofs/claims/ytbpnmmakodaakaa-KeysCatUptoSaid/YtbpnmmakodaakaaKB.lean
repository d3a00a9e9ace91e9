/- What all laws of keys lean on: the first look at the program; which rows are right; texts of bytes. No condition but sizes. -/
import Derived.Test.YtbpnmmakodaakaaA9
import Derived.Test.YtbpnmmakodaakaaA10
import Derived.Test.YtbpnmmakodaakaaA11
import Derived.Test.YtbpnmmakodaakaaKN
import Derived.Test.YtbpnmmakodaakaaKO
import Derived.Test.YtbpnmmakodaakaaKinds
namespace Go.Proofs.Ytbpnmmakodaakaa.Pure
set_option linter.unusedVariables false
set_option linter.unusedSimpArgs false
open Go.RowKit Go.Proofs.Ytbpnmmakodaakaa.P Go.Proofs.YtbpnmmakodaakaaW.PrintWords Go.Proofs.YtbpnmmakodaakaaW.PrintLast Go.Proofs.YtbpnmmakodaakaaW.PrintMore

theorem known_row {l : List S43} (h : G22 l) (hm : m22 l ≤ 1048576) : (∀ x ∈ l, okV x) ∧ l.length ≤ 1048576 ∧ room l ≤ 3145728 := by
  refine ⟨fun x hx => ⟨wf64 (h.1 x hx).1, wf64 (h.1 x hx).2.1, (h.1 x hx).2.2⟩, ?_, ?_⟩
  · have key : ∀ l : List S43, l.length ≤ (l.map fun x => m43 x).sum := by
      intro l
      induction l with
      | nil => simp
      | cons x l ih =>
        have hx : 1 ≤ m43 x := by unfold m43; omega
        simp only [List.length_cons, List.map_cons, List.sum_cons]; omega
    have := key l
    unfold m22 at hm
    omega
  · have key : ∀ l : List S43, room l ≤ 3 * (l.map fun x => m43 x).sum := by
      intro l
      induction l with
      | nil => simp [room]
      | cons x l ih =>
        have hx : 2 * x.f2.size + 12 ≤ 3 * m43 x := by unfold m43; omega
        simp only [room, List.map_cons, List.sum_cons] at ih ⊢; omega
    have := key l
    unfold m22 at hm
    omega
theorem known_bytes {l : List Int} (h : G24 l) : bytesB l = true ∧ BytesIn l ∧ l.length < 140737488355328 := by
  have hb : BytesIn l := fun x hx => bounds_u8 (h.1 x hx)
  refine ⟨?_, hb, by have := h.2; omega⟩
  unfold bytesB
  rw [List.all_eq_true]
  intro x hx
  have := hb x hx
  simp only [Bool.and_eq_true, decide_eq_true_eq]
  omega
theorem bytesB_of {l : List Int} (hb : BytesIn l) : bytesB l = true := by
  unfold bytesB
  rw [List.all_eq_true]
  intro x hx
  have := hb x hx
  simp only [Bool.and_eq_true, decide_eq_true_eq]
  omega
theorem m24_len (l : List Int) : m24 l = l.length + 1 := by
  unfold m24
  congr 1
  induction l with
  | nil => rfl
  | cons x l ih => simp only [List.map_cons, List.sum_cons, List.length_cons, ih]; omega

theorem ref_check_f' (x : S43) : quarryref01_Check.f x.f0 x.f1 x.f2 = some (chk x) := rfl

/-! ### Texts of bytes -/
theorem str_list (a : List Int) : (strOfNums a).toList = a.map fun n => UInt8.ofNat n.toNat := by rw [Go.ByteArray.toList_eq]; rfl
theorem u8_back {c : Int} (h0 : 0 ≤ c) (h1 : c ≤ 255) : ((UInt8.ofNat c.toNat).toNat : Int) = c := by
  have : (UInt8.ofNat c.toNat).toNat = c.toNat % 256 := by simp
  rw [this]
  omega
theorem less_is : ∀ {a b : List Int}, BytesIn a → BytesIn b → Op.bytesLess (strOfNums a).toList (strOfNums b).toList = decide (cmpL a b = -1) := by
  have key : ∀ (a b : List Int), BytesIn a → BytesIn b → Op.bytesLess (a.map fun n => UInt8.ofNat n.toNat) (b.map fun n => UInt8.ofNat n.toNat) = decide (cmpL a b = -1) := by
    intro a
    induction a with
    | nil =>
      intro b _ _
      cases b with
      | nil => simp [Op.bytesLess, cmpL]
      | cons y b => simp [Op.bytesLess, cmpL]
    | cons x a ih =>
      intro b ha hb
      cases b with
      | nil => simp [Op.bytesLess, cmpL]
      | cons y b =>
        have hx := ha x (by simp)
        have hy := hb y (by simp)
        have ex := u8_back hx.1 hx.2
        have ey := u8_back hy.1 hy.2
        simp only [List.map_cons, Op.bytesLess, cmpL]
        rw [ih b (fun z hz => ha z (by simp [hz])) (fun z hz => hb z (by simp [hz]))]
        by_cases h1 : x < y
        · have : UInt8.ofNat x.toNat < UInt8.ofNat y.toNat := u8_lt.2 (by omega)
          simp [h1, this]
        · have n1 : ¬ UInt8.ofNat x.toNat < UInt8.ofNat y.toNat := fun h => h1 (by have := u8_lt.1 h; omega)
          by_cases h2 : y < x
          · have n2 : ¬ (UInt8.ofNat x.toNat = UInt8.ofNat y.toNat) := fun h => by rw [h] at ex; omega
            simp [h1, h2, n1, n2]
          · have e : x = y := by omega
            subst e
            simp
  intro a b ha hb
  rw [str_list, str_list]
  exact key a b ha hb
theorem same_str {a b : List Int} (ha : BytesIn a) (hb : BytesIn b) : (strOfNums a).toList = (strOfNums b).toList ↔ a = b := by
  refine ⟨fun h => ?_, fun h => by rw [h]⟩
  have back : ∀ l : List Int, BytesIn l → (l.map fun n => UInt8.ofNat n.toNat).map (fun c => (c.toNat : Int)) = l := by
    intro l hl
    rw [List.map_map]
    conv => rhs; rw [← List.map_id l]
    exact List.map_congr_left fun x hx => u8_back (hl x hx).1 (hl x hx).2
  rw [str_list, str_list] at h
  rw [← back a ha, h, back b hb]
theorem cmpL_zero : ∀ {a b : List Int}, cmpL a b = 0 ↔ a = b
  | [], [] => by simp [cmpL]
  | [], _ :: _ => by simp [cmpL]
  | _ :: _, [] => by simp [cmpL]
  | x :: a, y :: b => by
    simp only [cmpL]
    have ih := cmpL_zero (a := a) (b := b)
    by_cases h1 : x < y
    · simp [h1]; omega
    · by_cases h2 : y < x
      · simp [h1, h2]; omega
      · have : x = y := by omega
        subst this
        simp [ih]
theorem cmpL_s3 : ∀ a b : List Int, S3 (cmpL a b)
  | [], [] => .inr (.inl rfl)
  | [], _ :: _ => .inl rfl
  | _ :: _, [] => .inr (.inr rfl)
  | x :: a, y :: b => by
    simp only [cmpL]
    split
    · exact .inl rfl
    · split
      · exact .inr (.inr rfl)
      · exact cmpL_s3 a b
theorem order_f {a b : List Int} (ha : BytesIn a) (hb : BytesIn b) : quarrylaw03_order.f a b = some (cmpL a b) := by
  unfold quarrylaw03_order.f
  rw [less_is ha hb]
  have h3 := cmpL_s3 a b
  unfold S3 at h3
  by_cases h : cmpL a b = -1
  · simp [h]
  · by_cases e : a = b
    · have h0 := cmpL_zero.2 e
      subst e
      simp [h0]
    · have hz : ¬ cmpL a b = 0 := fun h0 => e (cmpL_zero.1 h0)
      have h1 : cmpL a b = 1 := by omega
      have hs : ((strOfNums a).toList == (strOfNums b).toList) = false := beq_eq_false_iff_ne.2 (fun h => e ((same_str ha hb).1 h))
      simp [h1, hs]

/-! ### The first look at the program -/
theorem works_ev : Ev (fun k => quarrylaw03_works.f k) true := by
  unfold quarrylaw03_works.f
  have h1 := encode_ev [(⟨3, 0, (⟨#[97]⟩ : ByteArray)⟩ : S43)] [true] (fun x hx => by
    simp only [List.mem_singleton] at hx
    subst hx
    exact ⟨⟨by show _ ≤ (3 : Int); decide, by show (3 : Int) ≤ _; decide⟩, ⟨by show _ ≤ (0 : Int); decide, by show (0 : Int) ≤ _; decide⟩, by show (1 : Nat) ≤ _; decide⟩) (by simp) (by simp [room]; decide)
  have he : encR [true] [(⟨3, 0, (⟨#[97]⟩ : ByteArray)⟩ : S43)] = ([251, 158, 255, 254], 0) := by
    have hc : chk (⟨3, 0, (⟨#[97]⟩ : ByteArray)⟩ : S43) = 0 := chk_mk_text (.inl rfl) _
    unfold encR
    rw [encE, if_pos hc]
    rfl
  rw [he] at h1
  refine Ev.bind h1 ?_
  have h2 : keys_Decode.f [2, 2] [] = some ([], 3) := by
    rw [decode_f [2, 2] [] (by decide) (by simp)]
    rfl
  simp only [h2, Option.bind_some]
  have h3 := next_ev [1, 255] (by simp)
  have hn : nextB [1, 255] = ([2], true) := by decide
  rw [hn] at h3
  refine Ev.bind h3 ?_
  simp
  exact Ev.pure _
def rightB (l : List S43) : Bool := l.all fun x => decide (chk x = 0)
theorem right_loop : ∀ (suf pre : List S43), (pre ++ suf).length < 140737488355328 → Ev (fun k => quarrylaw03_right.l0 k (pre ++ suf) (pre.length : Int)) (rightB suf) := by
  intro suf
  induction suf with
  | nil =>
    intro pre hl
    refine Ev.succ ?_
    simp [quarrylaw03_right.l0, rightB]
    exact Ev.pure _
  | cons x suf ih =>
    intro pre hl
    refine Ev.succ ?_
    have e1 : (pre.length : Int) < ((pre ++ x :: suf).length : Int) := by simp; omega
    have e2 : (0 : Int) ≤ (pre.length : Int) := by omega
    have e6 : wrap64 ((pre.length : Int) + 1) = (pre.length : Int) + 1 := wrap64_in (by omega) (by simp at hl; omega)
    simp only [quarrylaw03_right.l0, e1, e2, if_true, rd_at, ref_check_f', Option.bind_some, e6]
    by_cases hc : chk x = 0
    · simp only [hc, if_true]
      have := ih (pre ++ [x]) (by simpa using hl)
      have e : rightB (x :: suf) = rightB suf := by simp [rightB, hc]
      rw [e]
      simpa using this
    · simp only [hc, if_false]
      have e : rightB (x :: suf) = false := by simp [rightB, hc]
      rw [e]
      exact Ev.pure _
theorem right_ev (l : List S43) (hl : l.length < 140737488355328) : Ev (fun k => quarrylaw03_right.f k l) (rightB l) := by
  unfold quarrylaw03_right.f
  have := right_loop l [] (by simpa using hl)
  simpa using this
theorem right_all {l : List S43} (h : rightB l = true) : ∀ x ∈ l, chk x = 0 := by
  intro x hx
  have := List.all_eq_true.1 h x hx
  simpa using this
theorem enc_of_right : ∀ (l : List S43) (d : List Bool), (∀ x ∈ l, chk x = 0) → ∃ b, encE d l = some b
  | [], d, _ => ⟨[], rfl⟩
  | x :: l, d, h => by
    obtain ⟨b, hb⟩ := enc_of_right l d.tail (fun y hy => h y (by simp [hy]))
    refine ⟨turnB (d.headD false) (encB x) ++ b, ?_⟩
    rw [encE, if_pos (h x (by simp)), hb]
    rfl
theorem encR_of {d : List Bool} {l : List S43} {b : List Int} (h : encE d l = some b) : encR d l = (b, 0) := by unfold encR; rw [h]
theorem encR_range (d : List Bool) (l : List S43) : BytesIn (encR d l).1 := by
  unfold encR
  cases h : encE d l with
  | none => intro x hx; simp at hx
  | some b => exact encE_range l d h
end Go.Proofs.Ytbpnmmakodaakaa.Pure
