/- What the program and the document write of rows: both the plain bytes. No condition but sizes. -/
import Derived.Test.YtbpnmmakodaakaaA1
import Derived.Test.YtbpnmmakodaakaaKP
import Derived.Test.YtbpnmmakodaakaaKinds
namespace Go.Proofs.Ytbpnmmakodaakaa.Pure
set_option linter.unusedVariables false
set_option linter.unusedSimpArgs false
open Go.RowKit Go.Proofs.Ytbpnmmakodaakaa.P Go.Proofs.YtbpnmmakodaakaaW.PrintWords Go.Proofs.YtbpnmmakodaakaaW.PrintLast Go.Proofs.YtbpnmmakodaakaaW.PrintMore

theorem check_f (x : S43) : value_Check.f x.f0 x.f1 x.f2 = some (chk x) := rfl
theorem fx_is {c : Int} (h0 : 0 ≤ c) (h1 : c ≤ 255) : fx c = 255 - c := by
  obtain ⟨m, rfl⟩ := Int.eq_ofNat_of_zero_le h0
  have hm : m < 256 := by omega
  have h4 : ∀ m : Fin 256, fx ((m.val : Nat) : Int) = 255 - ((m.val : Nat) : Int) := by decide +kernel
  exact h4 ⟨m, hm⟩
theorem fx_map {l : List Int} (h : BytesIn l) : l.map fx = flipL l := by
  unfold flipL
  refine List.map_congr_left fun x hx => ?_
  have := h x hx
  exact fx_is this.1 this.2
/-- The number of an Int with the sign's bit turned. -/
theorem sign_xor {n : Int} (h : I64 n) : Go.bits .xor .u64 (IntKind.u64.wrap n) 9223372036854775808 = n + 9223372036854775808 := by
  obtain ⟨h0, h1⟩ := h
  obtain ⟨m, hm⟩ : ∃ m : Nat, IntKind.u64.wrap n = (m : Int) ∧ m < 18446744073709551616 := by
    rw [IntKind.wrap_u64]
    exact ⟨(n % 18446744073709551616).toNat, by omega, by omega⟩
  have hv : (BitVec.ofInt 64 ((m : Nat) : Int)) = BitVec.ofNat 64 m := BitVec.ofInt_natCast ..
  have hs : BitVec.ofInt 64 9223372036854775808 = BitVec.ofNat 64 9223372036854775808 := by decide
  rw [hm.1]
  show IntKind.u64.wrap ((BitVec.ofInt 64 ((m : Nat) : Int) ^^^ BitVec.ofInt 64 9223372036854775808).toNat : Int) = _
  rw [hv, hs, BitVec.toNat_xor, BitVec.toNat_ofNat, BitVec.toNat_ofNat, Nat.mod_eq_of_lt hm.2, Nat.mod_eq_of_lt (by decide), xor_top m hm.2]
  have h2 := hm.1
  rw [IntKind.wrap_u64] at h2 ⊢
  omega
theorem sign_add {n : Int} (h : I64 n) : IntKind.u64.wrap (IntKind.u64.wrap n + 9223372036854775808) = n + 9223372036854775808 := by
  obtain ⟨h0, h1⟩ := h
  rw [IntKind.wrap_u64, IntKind.wrap_u64]
  omega

/-! ### The program's bytes of a value -/
theorem put_num (acc : List Int) (n : Int) (hl : acc.length + 8 < 140737488355328) : Ev (fun k => keys_put.l0 k acc n 0) (acc ++ be 8 n) := by
  have hw : ∀ i : Nat, i < 8 → wrap64 (56 - wrap64 (8 * (i : Int))) = 56 - 8 * (i : Int) := by intro i hi; unfold wrap64; omega
  have key : ∀ (j : Nat) (acc' : List Int), j ≤ 8 → acc'.length + j < 140737488355328 → Ev (fun k => keys_put.l0 k acc' n ((8 - j : Nat) : Int)) (acc' ++ be j n) := by
    intro j
    induction j with
    | zero =>
      intro acc' _ _
      refine Ev.succ ?_
      have e : ¬ (((8 - 0 : Nat) : Int) < 8) := by omega
      simp only [keys_put.l0, e, if_false, be, List.append_nil]
      exact Ev.pure _
    | succ j ih =>
      intro acc' hj hl'
      refine Ev.succ ?_
      have e : (((8 - (j + 1) : Nat) : Int) < 8) := by omega
      have e1 := hw (8 - (j + 1)) (by omega)
      have e2 : (0 : Int) ≤ 56 - 8 * ((8 - (j + 1) : Nat) : Int) := by omega
      have e3 : acc'.length < 140737488355328 := by omega
      have e4 : wrap64 (((8 - (j + 1) : Nat) : Int) + 1) = ((8 - j : Nat) : Int) := by unfold wrap64; omega
      simp only [keys_put.l0, e, e1, e2, e3, e4, if_true]
      have e5 : shr .u64 n (56 - 8 * ((8 - (j + 1) : Nat) : Int)) = n / 256 ^ j := by
        unfold shr
        have : min (56 - 8 * ((8 - (j + 1) : Nat) : Int)).toNat IntKind.u64.bits = 8 * j := by
          show min _ 64 = _
          omega
        rw [this, Int.pow_mul]
        rfl
      rw [e5]
      have := ih (acc' ++ [n / 256 ^ j % 256]) (by omega) (by simp; omega)
      simpa [be] using this
  exact key 8 acc (by omega) hl
theorem put_text (s : ByteArray) (a : Int) (b : Int) (hs : s.size ≤ 140737488351232) : ∀ (suf pre : List UInt8) (acc : List Int), s.data.toList = pre ++ suf → acc.length + 2 * suf.length + 2 < 140737488355328 →
    Ev (fun k => keys_put.l1 k acc (s.size : Int) (pre.length : Int) a b s) (acc ++ (esc suf ++ [0, 1])) := by
  intro suf
  induction suf with
  | nil =>
    intro pre acc he hl
    have hz := size_toList s
    rw [he] at hz
    simp only [List.append_nil] at hz
    refine Ev.succ ?_
    have e : ¬ ((pre.length : Int) < (s.size : Int)) := by omega
    have e2 : acc.length + [(0 : Int), 1].length < 140737488355328 := by simp at hl ⊢; omega
    simp only [keys_put.l1, e, if_false, Option.bind_some, e2, if_true, esc, List.nil_append]
    exact Ev.pure _
  | cons c suf ih =>
    intro pre acc he hl
    have hz := size_toList s
    rw [he] at hz
    simp only [List.length_append, List.length_cons] at hz hl
    refine Ev.succ ?_
    have e : ((pre.length : Int) < (s.size : Int)) := by omega
    have e1 : (0 : Int) ≤ (pre.length : Int) := by omega
    have e2 : acc.length < 140737488355328 := by omega
    have e3 : (acc ++ [(c.toNat : Int)]).length < 140737488355328 := by simp; omega
    have e4 : wrap64 ((pre.length : Int) + 1) = (pre.length : Int) + 1 := wrap64_in (by omega) (by omega)
    have e5 := bt_at' s pre c suf he
    simp only [keys_put.l1, e, e1, e2, if_true, Option.bind_some, e4, e5]
    by_cases h : (c.toNat : Int) = 0
    · have hc : c = 0 := UInt8.toNat_inj.1 (by show c.toNat = 0; omega)
      simp only [h, if_true]
      have e6 : (acc ++ [(0 : Int)]).length < 140737488355328 := by simp; omega
      simp only [e6, if_true]
      have := ih (pre ++ [c]) (acc ++ [0] ++ [255]) (by simpa using he) (by simp; omega)
      rw [show esc (c :: suf) = 0 :: 255 :: esc suf by rw [esc, if_pos hc]]
      simpa using this
    · have hc : ¬ c = 0 := fun e => h (by subst e; rfl)
      simp only [h, if_false]
      have := ih (pre ++ [c]) (acc ++ [(c.toNat : Int)]) (by simpa using he) (by simp; omega)
      rw [show esc (c :: suf) = (c.toNat : Int) :: esc suf by rw [esc, if_neg hc]]
      simpa using this
theorem put_ev (x : S43) (acc : List Int) (h : okV x) (hc : chk x = 0) (hl : acc.length + 2 * x.f2.size + 11 < 140737488355328) : Ev (fun k => keys_put.f k acc x.f0 x.f1 x.f2) (acc ++ payload x) := by
  have hk := chk_kind hc
  unfold keys_put.f payload
  by_cases h1 : x.f0 = 1
  · have e : acc.length < 140737488355328 := by omega
    simp only [h1, if_true, e]
    exact Ev.pure _
  by_cases h2 : x.f0 = 2
  · have h12 : ¬ (2 : Int) = 1 := by decide
    simp only [h2, h12, if_true, if_false, sign_xor h.2.1]
    exact put_num acc _ (by omega)
  have hz := size_toList x.f2
  by_cases h3 : x.f0 = 3
  · have e1 : ¬ (3 : Int) = 1 := by decide
    have e2 : ¬ (3 : Int) = 2 := by decide
    have e3 : ((3 : Int) = 3 ∨ (3 : Int) = 4) = True := by simp
    simp only [h3, e1, e2, e3, if_false, if_true]
    refine Ev.succ ?_
    simp only [keys_put.j1, beq_self_eq_true, if_true]
    have := put_text x.f2 3 x.f1 h.2.2 x.f2.data.toList [] acc rfl (by omega)
    simpa using this
  by_cases h4 : x.f0 = 4
  · have e1 : ¬ (4 : Int) = 1 := by decide
    have e2 : ¬ (4 : Int) = 2 := by decide
    have e3 : ¬ (4 : Int) = 3 := by decide
    have e4 : ((4 : Int) = 3 ∨ (4 : Int) = 4) = True := by simp
    simp only [h4, e1, e2, e3, e4, if_false, if_true]
    refine Ev.succ ?_
    simp only [keys_put.j1, beq_self_eq_true, if_true]
    have := put_text x.f2 4 x.f1 h.2.2 x.f2.data.toList [] acc rfl (by omega)
    simpa using this
  · have h0 : x.f0 = 0 := by omega
    have e1 : ¬ (0 : Int) = 1 := by decide
    have e2 : ¬ (0 : Int) = 2 := by decide
    have e3 : ¬ (0 : Int) = 3 := by decide
    have e4 : ((0 : Int) == 4) = false := by decide
    simp only [h0, e1, e2, e3, if_false]
    refine Ev.succ ?_
    simp only [keys_put.j1, e4, Bool.false_eq_true, if_false]
    simp
    exact Ev.pure _
theorem turned_at (d : List Bool) (pre suf : List Bool) (n : Nat) (hd : d = pre ++ suf) (hn : pre.length = n ∨ (pre.length < n ∧ suf = [])) : keys_turned.f d (n : Int) = some (suf.headD false) := by
  rw [turned_is]
  subst hd
  rcases hn with rfl | ⟨hn, rfl⟩
  · cases suf with
    | nil => simp
    | cons c suf => simp
  · rw [List.append_nil, List.getD_eq_getElem?_getD, List.getElem?_eq_none (by omega)]
    rfl
theorem desc_next (pre suf : List Bool) (n : Nat) (hn : pre.length = n ∨ (pre.length < n ∧ suf = [])) : ∃ pre', pre' ++ suf.tail = pre ++ suf ∧ (pre'.length = n + 1 ∨ (pre'.length < n + 1 ∧ suf.tail = [])) := by
  cases suf with
  | nil => exact ⟨pre, rfl, .inr ⟨by rcases hn with h | h <;> omega, rfl⟩⟩
  | cons c suf =>
    rcases hn with h | ⟨_, h⟩
    · exact ⟨pre ++ [c], by simp, .inl (by simp; omega)⟩
    · cases h
theorem wrap_kind {x : S43} (hc : chk x = 0) : wrap64 (x.f0 + 1) % 256 = (x.f0 + 1) % 256 := by
  have := chk_kind hc
  rw [wrap64_in (by omega) (by omega)]
theorem encode_loop : ∀ (suf pre : List S43) (pd d : List Bool) (acc : List Int), (∀ x ∈ suf, okV x) → (pre ++ suf).length < 140737488355328 → acc.length + room suf < 140737488355328 → (pd.length = pre.length ∨ (pd.length < pre.length ∧ d = [])) →
    Ev (fun k => keys_Encode.l0 k (pd ++ d) acc (pre ++ suf) ((pre ++ suf).length : Int) (pre.length : Int)) (match encE d suf with | none => ([], 3) | some b => (acc ++ b, 0)) := by
  intro suf
  induction suf with
  | nil =>
    intro pre pd d acc _ hl _ _
    refine Ev.succ ?_
    simp [keys_Encode.l0, encE]
    exact Ev.pure _
  | cons x suf ih =>
    intro pre pd d acc hx hl hr hd
    refine Ev.succ ?_
    have e1 : (pre.length : Int) < ((pre ++ x :: suf).length : Int) := by simp; omega
    have e2 : (0 : Int) ≤ (pre.length : Int) := by omega
    simp only [keys_Encode.l0, e1, e2, if_true, rd_at, check_f, Option.bind_some]
    by_cases hc : chk x = 0
    · rw [encE, if_pos hc]
      have hx0 := hx x (by simp)
      have hb := encB_length x
      simp only [room, List.map_cons, List.sum_cons] at hr
      have e3 : acc.length < 140737488355328 := by omega
      have e6 : wrap64 ((pre.length : Int) + 1) = (pre.length : Int) + 1 := wrap64_in (by omega) (by simp at hl; omega)
      simp only [hc, e3, if_true, wrap_kind hc, e6]
      refine Ev.bind (put_ev x (acc ++ [(x.f0 + 1) % 256]) hx0 hc (by rw [List.length_append]; simp; omega)) ?_
      rw [turned_at (pd ++ d) pd d pre.length rfl hd]
      simp only [Option.bind_some]
      have ea : acc ++ [(x.f0 + 1) % 256] ++ payload x = acc ++ encB x := by simp [encB]
      rw [ea]
      obtain ⟨pd', hpd, hn⟩ := desc_next pd d pre.length hd
      have hgo : ∀ b : Bool, d.headD false = b → Ev (fun k => keys_Encode.l0 k (pd ++ d) (acc ++ turnB b (encB x)) (pre ++ x :: suf) ((pre ++ x :: suf).length : Int) ((pre.length : Int) + 1)) (match (encE d.tail suf).map (turnB b (encB x) ++ ·) with | none => ([], 3) | some b => (acc ++ b, 0)) := by
        intro b _
        have := ih (pre ++ [x]) pd' d.tail (acc ++ turnB b (encB x)) (fun y hy => hx y (by simp [hy])) (by simpa using hl) (by rw [List.length_append, turnB_length]; unfold room; omega) (by simpa using hn)
        rw [hpd] at this
        cases he : encE d.tail suf with
        | none => rw [he] at this; simpa using this
        | some c => rw [he] at this; simpa using this
      cases hh : d.headD false with
      | false =>
        simp only [Bool.false_eq_true, if_false]
        exact hgo false hh
      | true =>
        simp only [if_true]
        have e8 : acc.length < (acc ++ encB x).length := by rw [List.length_append]; simp [encB]
        have e9 : (acc ++ encB x).take acc.length ++ ((acc ++ encB x).drop acc.length).map fx = acc ++ turnB true (encB x) := by
          rw [List.take_left' rfl, List.drop_left' rfl, fx_map (encB_range x)]
          rfl
        simp only [e8, if_true, e9]
        exact hgo true hh
    · rw [encE, if_neg hc]
      simp only [hc, if_false]
      exact Ev.pure _
theorem encode_ev (l : List S43) (d : List Bool) (hx : ∀ x ∈ l, okV x) (hl : l.length < 140737488355328) (hr : room l < 140737488355328) : Ev (fun k => keys_Encode.f k l d) (encR d l) := by
  unfold keys_Encode.f encR
  have := encode_loop l [] [] d [] hx (by simpa using hl) (by simpa using hr) (.inl rfl)
  cases he : encE d l with
  | none => rw [he] at this; simpa using this
  | some b => rw [he] at this; simpa using this

theorem rdI_at (pre : List Int) (x : Int) (suf : List Int) : rd (pre ++ x :: suf) (pre.length : Int) = x := by
  unfold rd
  simp
end Go.Proofs.Ytbpnmmakodaakaa.Pure
