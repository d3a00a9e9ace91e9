/- What the document writes of rows: the plain bytes. No condition but sizes. -/
import Derived.Test.YtbpnmmakodaakaaA3
import Derived.Test.YtbpnmmakodaakaaKE
import Derived.Test.YtbpnmmakodaakaaKinds
namespace Go.Proofs.Ytbpnmmakodaakaa.Pure
set_option linter.unusedVariables false
set_option linter.unusedSimpArgs false
open Go.RowKit Go.Proofs.Ytbpnmmakodaakaa.P Go.Proofs.YtbpnmmakodaakaaW.PrintWords Go.Proofs.YtbpnmmakodaakaaW.PrintLast Go.Proofs.YtbpnmmakodaakaaW.PrintMore

theorem ref_check_f (x : S43) : quarryref01_Check.f x.f0 x.f1 x.f2 = some (chk x) := rfl
/-! ### The document's -/
theorem ref_num (acc : List Int) (n : Int) (h0 : 0 ≤ n) (hl : acc.length + 8 < 140737488355328) : Ev (fun k => quarryref03_bytes.l0 k acc n 7) (acc ++ be 8 n) := by
  have key : ∀ (j : Nat) (acc' : List Int), j ≤ 8 → acc'.length + j < 140737488355328 → Ev (fun k => quarryref03_bytes.l0 k acc' n ((j : Int) - 1)) (acc' ++ be j n) := by
    intro j
    induction j with
    | zero =>
      intro acc' _ _
      refine Ev.succ ?_
      have e : ¬ (((0 : Nat) : Int) - 1 ≥ 0) := by omega
      simp only [quarryref03_bytes.l0, e, if_false, be, List.append_nil]
      exact Ev.pure _
    | succ j ih =>
      intro acc' hj hl'
      refine Ev.succ ?_
      have e : (((j + 1 : Nat) : Int) - 1 ≥ 0) := by omega
      have e1 : wrap64 (8 * (((j + 1 : Nat) : Int) - 1)) = 8 * (j : Int) := by unfold wrap64; omega
      have e2 : (0 : Int) ≤ 8 * (j : Int) := by omega
      have e3 : acc'.length < 140737488355328 := by omega
      have e4 : wrap64 (((j + 1 : Nat) : Int) - 1 - 1) = (j : Int) - 1 := by unfold wrap64; omega
      simp only [quarryref03_bytes.l0, e, e1, e2, e3, e4, if_true]
      have e5 : shr .u64 n (8 * (j : Int)) = n / 256 ^ j := by
        unfold shr
        have : min (8 * (j : Int)).toNat IntKind.u64.bits = 8 * j := by
          show min _ 64 = _
          omega
        rw [this, Int.pow_mul]
        rfl
      have hp : (0 : Int) < 256 ^ j := Int.pow_pos (by decide)
      have hq : 0 ≤ n / 256 ^ j := Int.ediv_nonneg h0 (by omega)
      have e6 : Int.tmod (n / 256 ^ j) 256 % 256 = n / 256 ^ j % 256 := by rw [Int.tmod_eq_emod_of_nonneg hq]; omega
      rw [e5, e6]
      have := ih (acc' ++ [n / 256 ^ j % 256]) (by omega) (by simp; omega)
      simpa [be] using this
  exact key 8 acc (by omega) hl
theorem ref_text (s : ByteArray) (a : Int) (b : Int) (hs : s.size ≤ 140737488351232) : ∀ (suf pre : List UInt8) (acc : List Int), s.data.toList = pre ++ suf → acc.length + 2 * suf.length + 2 < 140737488355328 →
    Ev (fun k => quarryref03_bytes.l1 k acc (pre.length : Int) a b s) (acc ++ (esc suf ++ [0, 1])) := by
  intro suf
  induction suf with
  | nil =>
    intro pre acc he hl
    have hz := size_toList s
    rw [he] at hz
    simp only [List.append_nil] at hz
    refine Ev.succ ?_
    have e : ¬ ((pre.length : Int) < (s.size : Int)) := by omega
    have e2 : acc.length + [(0 : Int), 1].length < 140737488355328 := by simp at hl ⊢; omega
    simp only [quarryref03_bytes.l1, e, if_false, Option.bind_some, e2, if_true, esc, List.nil_append]
    exact Ev.pure _
  | cons c suf ih =>
    intro pre acc he hl
    have hz := size_toList s
    rw [he] at hz
    simp only [List.length_append, List.length_cons] at hz hl
    refine Ev.succ ?_
    have e : ((pre.length : Int) < (s.size : Int)) := by omega
    have e1 : (0 : Int) ≤ (pre.length : Int) := by omega
    have e2 : acc.length < 140737488355328 := by omega
    have e4 : wrap64 ((pre.length : Int) + 1) = (pre.length : Int) + 1 := wrap64_in (by omega) (by omega)
    have e5 := bt_at' s pre c suf he
    simp only [quarryref03_bytes.l1, e, e1, e2, if_true, Option.bind_some, e4, e5]
    by_cases h : (c.toNat : Int) = 0
    · have hc : c = 0 := UInt8.toNat_inj.1 (by show c.toNat = 0; omega)
      simp only [h, if_true]
      have e6 : (acc ++ [(0 : Int)]).length < 140737488355328 := by simp; omega
      simp only [e6, if_true]
      have := ih (pre ++ [c]) (acc ++ [0] ++ [255]) (by simpa using he) (by simp; omega)
      rw [show esc (c :: suf) = 0 :: 255 :: esc suf by rw [esc, if_pos hc]]
      simpa using this
    · have hc : ¬ c = 0 := fun e => h (by subst e; rfl)
      simp only [h, if_false]
      have := ih (pre ++ [c]) (acc ++ [(c.toNat : Int)]) (by simpa using he) (by simp; omega)
      rw [show esc (c :: suf) = (c.toNat : Int) :: esc suf by rw [esc, if_neg hc]]
      simpa using this
theorem ref_bytes_ev (x : S43) (h : okV x) (hc : chk x = 0) (hl : 2 * x.f2.size + 11 < 140737488355328) : Ev (fun k => quarryref03_bytes.f k x.f0 x.f1 x.f2) (encB x) := by
  have hk := chk_kind hc
  unfold quarryref03_bytes.f encB payload
  simp only [Option.bind_some, wrap_kind hc]
  have hi := h.2.1
  unfold I64 at hi
  by_cases h0 : x.f0 = 0
  · simp [h0]
    exact Ev.pure _
  by_cases h1 : x.f0 = 1
  · simp [h1]
    exact Ev.pure _
  by_cases h2 : x.f0 = 2
  · have e0 : ¬ (2 : Int) = 0 := by decide
    have e1 : ¬ (2 : Int) = 1 := by decide
    simp only [h2, e0, e1, if_true, if_false, sign_add h.2.1]
    exact ref_num [((2 : Int) + 1) % 256] _ (by omega) (by simp)
  have hz := size_toList x.f2
  have h3 : x.f0 = 3 ∨ x.f0 = 4 := by omega
  simp only [h0, h1, h2, h3, if_true, if_false]
  have := ref_text x.f2 x.f0 x.f1 h.2.2 x.f2.data.toList [] [(x.f0 + 1) % 256] rfl (by simp; omega)
  simpa using this
theorem ref_flip_loop : ∀ (suf pre acc : List Int), BytesIn suf → (pre ++ suf).length < 140737488355328 → acc.length + suf.length < 140737488355328 → Ev (fun k => quarryref03_flip.l0 k (pre ++ suf) acc (pre.length : Int)) (acc ++ flipL suf) := by
  intro suf
  induction suf with
  | nil =>
    intro pre acc _ hl _
    refine Ev.succ ?_
    simp [quarryref03_flip.l0, flipL]
    exact Ev.pure _
  | cons x suf ih =>
    intro pre acc hb hl ha
    refine Ev.succ ?_
    have e1 : (pre.length : Int) < ((pre ++ x :: suf).length : Int) := by simp; omega
    have e2 : (0 : Int) ≤ (pre.length : Int) := by omega
    have e3 : acc.length < 140737488355328 := by simp at ha; omega
    have e6 : wrap64 ((pre.length : Int) + 1) = (pre.length : Int) + 1 := wrap64_in (by omega) (by simp at hl; omega)
    have hx := hb x (by simp)
    have e7 : (255 - x) % 256 = 255 - x := by omega
    simp only [quarryref03_flip.l0, e1, e2, e3, if_true, rdI_at, e6, e7]
    have := ih (pre ++ [x]) (acc ++ [255 - x]) (fun y hy => hb y (by simp [hy])) (by simpa using hl) (by simp at ha ⊢; omega)
    simpa [flipL] using this
theorem ref_flip_ev (l : List Int) (hb : BytesIn l) (hl : l.length < 140737488355328) : Ev (fun k => quarryref03_flip.f k l) (flipL l) := by
  unfold quarryref03_flip.f
  have := ref_flip_loop l [] [] hb (by simpa using hl) (by simpa using hl)
  simpa using this
theorem ref_turned_at (d : List Bool) (n : Nat) : quarryref03_turned.f d (n : Int) = keys_turned.f d (n : Int) := rfl
theorem ref_encode_loop : ∀ (suf pre : List S43) (pd d : List Bool) (acc : List Int), (∀ x ∈ suf, okV x) → (pre ++ suf).length < 140737488355328 → acc.length + room suf < 140737488355328 → (pd.length = pre.length ∨ (pd.length < pre.length ∧ d = [])) →
    Ev (fun k => quarryref03_Encode.l0 k (pre ++ suf) (pd ++ d) acc (pre.length : Int)) (match encE d suf with | none => ([], 3) | some b => (acc ++ b, 0)) := by
  intro suf
  induction suf with
  | nil =>
    intro pre pd d acc _ hl _ _
    refine Ev.succ ?_
    simp [quarryref03_Encode.l0, encE]
    exact Ev.pure _
  | cons x suf ih =>
    intro pre pd d acc hx hl hr hd
    refine Ev.succ ?_
    have e1 : (pre.length : Int) < ((pre ++ x :: suf).length : Int) := by simp; omega
    have e2 : (0 : Int) ≤ (pre.length : Int) := by omega
    simp only [quarryref03_Encode.l0, e1, e2, if_true, rd_at, ref_check_f, Option.bind_some]
    by_cases hc : chk x = 0
    · rw [encE, if_pos hc]
      have hx0 := hx x (by simp)
      have hb := encB_length x
      simp only [room, List.map_cons, List.sum_cons] at hr
      have e6 : wrap64 ((pre.length : Int) + 1) = (pre.length : Int) + 1 := wrap64_in (by omega) (by simp at hl; omega)
      simp only [hc, if_true, e6]
      refine Ev.bind (ref_bytes_ev x hx0 hc (by omega)) ?_
      rw [ref_turned_at, turned_at (pd ++ d) pd d pre.length rfl hd]
      simp only [Option.bind_some]
      obtain ⟨pd', hpd, hn⟩ := desc_next pd d pre.length hd
      have hgo : ∀ b : Bool, d.headD false = b → Ev (fun k => quarryref03_Encode.l0 k (pre ++ x :: suf) (pd ++ d) (acc ++ turnB b (encB x)) ((pre.length : Int) + 1)) (match (encE d.tail suf).map (turnB b (encB x) ++ ·) with | none => ([], 3) | some b => (acc ++ b, 0)) := by
        intro b _
        have := ih (pre ++ [x]) pd' d.tail (acc ++ turnB b (encB x)) (fun y hy => hx y (by simp [hy])) (by simpa using hl) (by rw [List.length_append, turnB_length]; unfold room; omega) (by simpa using hn)
        rw [hpd] at this
        cases he : encE d.tail suf with
        | none => rw [he] at this; simpa using this
        | some c => rw [he] at this; simpa using this
      cases hh : d.headD false with
      | false =>
        have e8 : acc.length + (encB x).length < 140737488355328 := by omega
        simp only [Bool.false_eq_true, if_false, e8, if_true]
        exact hgo false hh
      | true =>
        simp only [if_true]
        refine Ev.bind (ref_flip_ev (encB x) (encB_range x) (by omega)) ?_
        have e8 : acc.length + (flipL (encB x)).length < 140737488355328 := by rw [flipL_length]; omega
        simp only [e8, if_true]
        exact hgo true hh
    · rw [encE, if_neg hc]
      simp only [hc, if_false]
      exact Ev.pure _
theorem ref_encode_ev (l : List S43) (d : List Bool) (hx : ∀ x ∈ l, okV x) (hl : l.length < 140737488355328) (hr : room l < 140737488355328) : Ev (fun k => quarryref03_Encode.f k l d) (encR d l) := by
  unfold quarryref03_Encode.f encR
  have := ref_encode_loop l [] [] d [] hx (by simpa using hl) (by simpa using hr) (.inl rfl)
  cases he : encE d l with
  | none => rw [he] at this; simpa using this
  | some b => rw [he] at this; simpa using this
end Go.Proofs.Ytbpnmmakodaakaa.Pure
