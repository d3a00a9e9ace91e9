/- Laid by a program of this session out of its texts for the law BoundsMore, part 5. -/
import Derived.Test.YtmfenomjhmhogaaZBoundsMore4
section
namespace Go.Proofs.Ytmfenomjhmhogaa.Pure
set_option linter.unusedVariables false
set_option linter.unusedSimpArgs false
open Go.RowKit Go.Proofs.Ytmfenomjhmhogaa.P Go.Proofs.YtmfenomjhmhogaaW.PrintWords Go.Proofs.YtmfenomjhmhogaaW.PrintLast Go.Proofs.YtmfenomjhmhogaaW.PrintMore
theorem xor_top (m : Nat) (h : m < 18446744073709551616) : m ^^^ 9223372036854775808 = (9223372036854775808 + m) % 18446744073709551616 := by
  have e : (9223372036854775808 : Nat) = 2 ^ 63 := by decide
  have e2 : (18446744073709551616 : Nat) = 2 ^ 64 := by decide
  rw [e2] at h ⊢
  rw [e]
  refine Nat.eq_of_testBit_eq fun j => ?_
  rw [Nat.testBit_xor, Nat.testBit_mod_two_pow, Nat.testBit_two_pow]
  rcases Nat.lt_trichotomy j 63 with hj | hj | hj
  · rw [Nat.testBit_two_pow_add_gt hj]
    have : decide (j < 64) = true := decide_eq_true (by omega)
    have h2 : decide (63 = j) = false := decide_eq_false (by omega)
    rw [this, h2]; simp
  · subst hj
    rw [Nat.testBit_two_pow_add_eq]
    simp
  · have h1 : decide (j < 64) = false := decide_eq_false (by omega)
    have h2 : decide (63 = j) = false := decide_eq_false (by omega)
    have h3 : m.testBit j = false := Nat.testBit_lt_two_pow (Nat.lt_of_lt_of_le h (Nat.pow_le_pow_right (by decide) (by omega)))
    rw [h1, h2, h3]; rfl
theorem turned_is (d : List Bool) (n : Nat) : keys_turned.f d (n : Int) = some (d.getD n false) := by
  unfold keys_turned.f rdOf
  by_cases h : n < d.length
  · have h1 : (n : Int) < (d.length : Int) := by omega
    have h2 : (0 : Int) ≤ (n : Int) := by omega
    simp [h1, h2]
  · have h1 : ¬ (n : Int) < (d.length : Int) := by omega
    simp only [h1, if_false]
    rw [List.getD_eq_getElem?_getD, List.getElem?_eq_none (by omega)]
    rfl
theorem check_f (x : S25) : value_Check.f x.f0 x.f1 x.f2 = some (chk x) := rfl
theorem fx_is {c : Int} (h0 : 0 ≤ c) (h1 : c ≤ 255) : fx c = 255 - c := by
  obtain ⟨m, rfl⟩ := Int.eq_ofNat_of_zero_le h0
  have hm : m < 256 := by omega
  have h4 : ∀ m : Fin 256, fx ((m.val : Nat) : Int) = 255 - ((m.val : Nat) : Int) := by decide +kernel
  exact h4 ⟨m, hm⟩
theorem fx_map {l : List Int} (h : BytesIn l) : l.map fx = flipL l := by
  unfold flipL
  refine List.map_congr_left fun x hx => ?_
  have := h x hx
  exact fx_is this.1 this.2
theorem sign_xor {n : Int} (h : I64 n) : Go.bits .xor .u64 (IntKind.u64.wrap n) 9223372036854775808 = n + 9223372036854775808 := by
  obtain ⟨h0, h1⟩ := h
  obtain ⟨m, hm⟩ : ∃ m : Nat, IntKind.u64.wrap n = (m : Int) ∧ m < 18446744073709551616 := by
    rw [IntKind.wrap_u64]
    exact ⟨(n % 18446744073709551616).toNat, by omega, by omega⟩
  have hv : (BitVec.ofInt 64 ((m : Nat) : Int)) = BitVec.ofNat 64 m := BitVec.ofInt_natCast ..
  have hs : BitVec.ofInt 64 9223372036854775808 = BitVec.ofNat 64 9223372036854775808 := by decide
  rw [hm.1]
  show IntKind.u64.wrap ((BitVec.ofInt 64 ((m : Nat) : Int) ^^^ BitVec.ofInt 64 9223372036854775808).toNat : Int) = _
  rw [hv, hs, BitVec.toNat_xor, BitVec.toNat_ofNat, BitVec.toNat_ofNat, Nat.mod_eq_of_lt hm.2, Nat.mod_eq_of_lt (by decide), xor_top m hm.2]
  have h2 := hm.1
  rw [IntKind.wrap_u64] at h2 ⊢
  omega
theorem sign_add {n : Int} (h : I64 n) : IntKind.u64.wrap (IntKind.u64.wrap n + 9223372036854775808) = n + 9223372036854775808 := by
  obtain ⟨h0, h1⟩ := h
  rw [IntKind.wrap_u64, IntKind.wrap_u64]
  omega
theorem put_num (acc : List Int) (n : Int) (hl : acc.length + 8 < 140737488355328) : Ev (fun k => keys_put.l0 k acc n 0) (acc ++ be 8 n) := by
  have hw : ∀ i : Nat, i < 8 → wrap64 (56 - wrap64 (8 * (i : Int))) = 56 - 8 * (i : Int) := by intro i hi; unfold wrap64; omega
  have key : ∀ (j : Nat) (acc' : List Int), j ≤ 8 → acc'.length + j < 140737488355328 → Ev (fun k => keys_put.l0 k acc' n ((8 - j : Nat) : Int)) (acc' ++ be j n) := by
    intro j
    induction j with
    | zero =>
      intro acc' _ _
      refine Ev.succ ?_
      have e : ¬ (((8 - 0 : Nat) : Int) < 8) := by omega
      simp only [keys_put.l0, e, if_false, be, List.append_nil]
      exact Ev.pure _
    | succ j ih =>
      intro acc' hj hl'
      refine Ev.succ ?_
      have e : (((8 - (j + 1) : Nat) : Int) < 8) := by omega
      have e1 := hw (8 - (j + 1)) (by omega)
      have e2 : (0 : Int) ≤ 56 - 8 * ((8 - (j + 1) : Nat) : Int) := by omega
      have e3 : acc'.length < 140737488355328 := by omega
      have e4 : wrap64 (((8 - (j + 1) : Nat) : Int) + 1) = ((8 - j : Nat) : Int) := by unfold wrap64; omega
      simp only [keys_put.l0, e, e1, e2, e3, e4, if_true]
      have e5 : shr .u64 n (56 - 8 * ((8 - (j + 1) : Nat) : Int)) = n / 256 ^ j := by
        unfold shr
        have : min (56 - 8 * ((8 - (j + 1) : Nat) : Int)).toNat IntKind.u64.bits = 8 * j := by
          show min _ 64 = _
          omega
        rw [this, Int.pow_mul]
        rfl
      rw [e5]
      have := ih (acc' ++ [n / 256 ^ j % 256]) (by omega) (by simp; omega)
      simpa [be] using this
  exact key 8 acc (by omega) hl
theorem put_text (s : ByteArray) (a : Int) (b : Int) (hs : s.size ≤ 140737488351232) : ∀ (suf pre : List UInt8) (acc : List Int), s.data.toList = pre ++ suf → acc.length + 2 * suf.length + 2 < 140737488355328 →
    Ev (fun k => keys_put.l1 k acc (s.size : Int) (pre.length : Int) a b s) (acc ++ (esc suf ++ [0, 1])) := by
  intro suf
  induction suf with
  | nil =>
    intro pre acc he hl
    have hz := size_toList s
    rw [he] at hz
    simp only [List.append_nil] at hz
    refine Ev.succ ?_
    have e : ¬ ((pre.length : Int) < (s.size : Int)) := by omega
    have e2 : acc.length + [(0 : Int), 1].length < 140737488355328 := by simp at hl ⊢; omega
    simp only [keys_put.l1, e, if_false, Option.bind_some, e2, if_true, esc, List.nil_append]
    exact Ev.pure _
  | cons c suf ih =>
    intro pre acc he hl
    have hz := size_toList s
    rw [he] at hz
    simp only [List.length_append, List.length_cons] at hz hl
    refine Ev.succ ?_
    have e : ((pre.length : Int) < (s.size : Int)) := by omega
    have e1 : (0 : Int) ≤ (pre.length : Int) := by omega
    have e2 : acc.length < 140737488355328 := by omega
    have e3 : (acc ++ [(c.toNat : Int)]).length < 140737488355328 := by simp; omega
    have e4 : wrap64 ((pre.length : Int) + 1) = (pre.length : Int) + 1 := wrap64_in (by omega) (by omega)
    have e5 := bt_at' s pre c suf he
    simp only [keys_put.l1, e, e1, e2, if_true, Option.bind_some, e4, e5]
    by_cases h : (c.toNat : Int) = 0
    · have hc : c = 0 := UInt8.toNat_inj.1 (by show c.toNat = 0; omega)
      simp only [h, if_true]
      have e6 : (acc ++ [(0 : Int)]).length < 140737488355328 := by simp; omega
      simp only [e6, if_true]
      have := ih (pre ++ [c]) (acc ++ [0] ++ [255]) (by simpa using he) (by simp; omega)
      rw [show esc (c :: suf) = 0 :: 255 :: esc suf by rw [esc, if_pos hc]]
      simpa using this
    · have hc : ¬ c = 0 := fun e => h (by subst e; rfl)
      simp only [h, if_false]
      have := ih (pre ++ [c]) (acc ++ [(c.toNat : Int)]) (by simpa using he) (by simp; omega)
      rw [show esc (c :: suf) = (c.toNat : Int) :: esc suf by rw [esc, if_neg hc]]
      simpa using this
theorem put_ev (x : S25) (acc : List Int) (h : okV x) (hc : chk x = 0) (hl : acc.length + 2 * x.f2.size + 11 < 140737488355328) : Ev (fun k => keys_put.f k acc x.f0 x.f1 x.f2) (acc ++ payload x) := by
  have hk := chk_kind hc
  unfold keys_put.f payload
  by_cases h1 : x.f0 = 1
  · have e : acc.length < 140737488355328 := by omega
    simp only [h1, if_true, e]
    exact Ev.pure _
  by_cases h2 : x.f0 = 2
  · have h12 : ¬ (2 : Int) = 1 := by decide
    simp only [h2, h12, if_true, if_false, sign_xor h.2.1]
    exact put_num acc _ (by omega)
  have hz := size_toList x.f2
  by_cases h3 : x.f0 = 3
  · have e1 : ¬ (3 : Int) = 1 := by decide
    have e2 : ¬ (3 : Int) = 2 := by decide
    have e3 : ((3 : Int) = 3 ∨ (3 : Int) = 4) = True := by simp
    simp only [h3, e1, e2, e3, if_false, if_true]
    refine Ev.succ ?_
    simp only [keys_put.j1, beq_self_eq_true, if_true]
    have := put_text x.f2 3 x.f1 h.2.2 x.f2.data.toList [] acc rfl (by omega)
    simpa using this
  by_cases h4 : x.f0 = 4
  · have e1 : ¬ (4 : Int) = 1 := by decide
    have e2 : ¬ (4 : Int) = 2 := by decide
    have e3 : ¬ (4 : Int) = 3 := by decide
    have e4 : ((4 : Int) = 3 ∨ (4 : Int) = 4) = True := by simp
    simp only [h4, e1, e2, e3, e4, if_false, if_true]
    refine Ev.succ ?_
    simp only [keys_put.j1, beq_self_eq_true, if_true]
    have := put_text x.f2 4 x.f1 h.2.2 x.f2.data.toList [] acc rfl (by omega)
    simpa using this
  · have h0 : x.f0 = 0 := by omega
    have e1 : ¬ (0 : Int) = 1 := by decide
    have e2 : ¬ (0 : Int) = 2 := by decide
    have e3 : ¬ (0 : Int) = 3 := by decide
    have e4 : ((0 : Int) == 4) = false := by decide
    simp only [h0, e1, e2, e3, if_false]
    refine Ev.succ ?_
    simp only [keys_put.j1, e4, Bool.false_eq_true, if_false]
    simp
    exact Ev.pure _
theorem turned_at (d : List Bool) (pre suf : List Bool) (n : Nat) (hd : d = pre ++ suf) (hn : pre.length = n ∨ (pre.length < n ∧ suf = [])) : keys_turned.f d (n : Int) = some (suf.headD false) := by
  rw [turned_is]
  subst hd
  rcases hn with rfl | ⟨hn, rfl⟩
  · cases suf with
    | nil => simp
    | cons c suf => simp
  · rw [List.append_nil, List.getD_eq_getElem?_getD, List.getElem?_eq_none (by omega)]
    rfl
theorem desc_next (pre suf : List Bool) (n : Nat) (hn : pre.length = n ∨ (pre.length < n ∧ suf = [])) : ∃ pre', pre' ++ suf.tail = pre ++ suf ∧ (pre'.length = n + 1 ∨ (pre'.length < n + 1 ∧ suf.tail = [])) := by
  cases suf with
  | nil => exact ⟨pre, rfl, .inr ⟨by rcases hn with h | h <;> omega, rfl⟩⟩
  | cons c suf =>
    rcases hn with h | ⟨_, h⟩
    · exact ⟨pre ++ [c], by simp, .inl (by simp; omega)⟩
    · cases h
theorem wrap_kind {x : S25} (hc : chk x = 0) : wrap64 (x.f0 + 1) % 256 = (x.f0 + 1) % 256 := by
  have := chk_kind hc
  rw [wrap64_in (by omega) (by omega)]
theorem encode_loop : ∀ (suf pre : List S25) (pd d : List Bool) (acc : List Int), (∀ x ∈ suf, okV x) → (pre ++ suf).length < 140737488355328 → acc.length + room suf < 140737488355328 → (pd.length = pre.length ∨ (pd.length < pre.length ∧ d = [])) →
    Ev (fun k => keys_Encode.l0 k (pd ++ d) acc (pre ++ suf) ((pre ++ suf).length : Int) (pre.length : Int)) (match encE d suf with | none => ([], 3) | some b => (acc ++ b, 0)) := by
  intro suf
  induction suf with
  | nil =>
    intro pre pd d acc _ hl _ _
    refine Ev.succ ?_
    simp [keys_Encode.l0, encE]
    exact Ev.pure _
  | cons x suf ih =>
    intro pre pd d acc hx hl hr hd
    refine Ev.succ ?_
    have e1 : (pre.length : Int) < ((pre ++ x :: suf).length : Int) := by simp; omega
    have e2 : (0 : Int) ≤ (pre.length : Int) := by omega
    simp only [keys_Encode.l0, e1, e2, if_true, rd_at, check_f, Option.bind_some]
    by_cases hc : chk x = 0
    · rw [encE, if_pos hc]
      have hx0 := hx x (by simp)
      have hb := encB_length x
      simp only [room, List.map_cons, List.sum_cons] at hr
      have e3 : acc.length < 140737488355328 := by omega
      have e6 : wrap64 ((pre.length : Int) + 1) = (pre.length : Int) + 1 := wrap64_in (by omega) (by simp at hl; omega)
      simp only [hc, e3, if_true, wrap_kind hc, e6]
      refine Ev.bind (put_ev x (acc ++ [(x.f0 + 1) % 256]) hx0 hc (by rw [List.length_append]; simp; omega)) ?_
      rw [turned_at (pd ++ d) pd d pre.length rfl hd]
      simp only [Option.bind_some]
      have ea : acc ++ [(x.f0 + 1) % 256] ++ payload x = acc ++ encB x := by simp [encB]
      rw [ea]
      obtain ⟨pd', hpd, hn⟩ := desc_next pd d pre.length hd
      have hgo : ∀ b : Bool, d.headD false = b → Ev (fun k => keys_Encode.l0 k (pd ++ d) (acc ++ turnB b (encB x)) (pre ++ x :: suf) ((pre ++ x :: suf).length : Int) ((pre.length : Int) + 1)) (match (encE d.tail suf).map (turnB b (encB x) ++ ·) with | none => ([], 3) | some b => (acc ++ b, 0)) := by
        intro b _
        have := ih (pre ++ [x]) pd' d.tail (acc ++ turnB b (encB x)) (fun y hy => hx y (by simp [hy])) (by simpa using hl) (by rw [List.length_append, turnB_length]; unfold room; omega) (by simpa using hn)
        rw [hpd] at this
        cases he : encE d.tail suf with
        | none => rw [he] at this; simpa using this
        | some c => rw [he] at this; simpa using this
      cases hh : d.headD false with
      | false =>
        simp only [Bool.false_eq_true, if_false]
        exact hgo false hh
      | true =>
        simp only [if_true]
        have e8 : acc.length < (acc ++ encB x).length := by rw [List.length_append]; simp [encB]
        have e9 : (acc ++ encB x).take acc.length ++ ((acc ++ encB x).drop acc.length).map fx = acc ++ turnB true (encB x) := by
          rw [List.take_left' rfl, List.drop_left' rfl, fx_map (encB_range x)]
          rfl
        simp only [e8, if_true, e9]
        exact hgo true hh
    · rw [encE, if_neg hc]
      simp only [hc, if_false]
      exact Ev.pure _
theorem encode_ev (l : List S25) (d : List Bool) (hx : ∀ x ∈ l, okV x) (hl : l.length < 140737488355328) (hr : room l < 140737488355328) : Ev (fun k => keys_Encode.f k l d) (encR d l) := by
  unfold keys_Encode.f encR
  have := encode_loop l [] [] d [] hx (by simpa using hl) (by simpa using hr) (.inl rfl)
  cases he : encE d l with
  | none => rw [he] at this; simpa using this
  | some b => rw [he] at this; simpa using this
theorem rdI_at (pre : List Int) (x : Int) (suf : List Int) : rd (pre ++ x :: suf) (pre.length : Int) = x := by
  unfold rd
  simp
end Go.Proofs.Ytmfenomjhmhogaa.Pure
end
section
namespace Go.Proofs.Ytmfenomjhmhogaa.Pure
set_option linter.unusedVariables false
set_option linter.unusedSimpArgs false
open Go.RowKit Go.Proofs.Ytmfenomjhmhogaa.P Go.Proofs.YtmfenomjhmhogaaW.PrintWords Go.Proofs.YtmfenomjhmhogaaW.PrintLast Go.Proofs.YtmfenomjhmhogaaW.PrintMore
def trim : List Int → List Int
  | [] => []
  | c :: l => if trim l = [] ∧ c = 255 then [] else c :: trim l
def bump : List Int → List Int
  | [] => []
  | [c] => [(c + 1) % 256]
  | c :: d :: l => c :: bump (d :: l)
def nextB (l : List Int) : List Int × Bool := if trim l = [] then ([], false) else (bump (trim l), true)
theorem trim_snoc_255 (l : List Int) : trim (l ++ [255]) = trim l := by
  induction l with
  | nil => simp [trim]
  | cons c l ih => simp only [List.cons_append, trim, ih]
theorem trim_snoc (l : List Int) (c : Int) (h : c ≠ 255) : trim (l ++ [c]) = l ++ [c] := by
  induction l with
  | nil => simp [trim, h]
  | cons d l ih => simp [List.cons_append, trim, ih]
theorem bump_snoc (l : List Int) (c : Int) : bump (l ++ [c]) = l ++ [(c + 1) % 256] := by
  induction l with
  | nil => rfl
  | cons d l ih =>
    cases l with
    | nil => rfl
    | cons e l => simp only [List.cons_append, bump] at ih ⊢; rw [ih]
theorem clone_f (l : List Int) (hl : l.length < 140737488355328) : slices_Clone_byte_byte.f l = some l := by unfold slices_Clone_byte_byte.f; rw [if_pos hl]
theorem next_loop (b : List Int) (hl : b.length < 140737488355328) : ∀ (n : Nat), n ≤ b.length → trim b = trim (b.take n) → Ev (fun k => keys_Next.l0 k b (n : Int)) (nextB b) := by
  intro n
  induction n with
  | zero =>
    intro _ ht
    refine Ev.succ ?_
    have e : ¬ (((0 : Nat) : Int) > 0) := by omega
    have e2 : ((0 : Nat) : Int) = 0 := rfl
    have h0 : trim b = [] := by rw [ht]; rfl
    unfold nextB
    simp only [keys_Next.l0, e, if_false, e2, if_true, h0]
    exact Ev.pure _
  | succ n ih =>
    intro hn ht
    refine Ev.succ ?_
    have e : (((n + 1 : Nat) : Int) > 0) := by omega
    have e1 : wrap64 (((n + 1 : Nat) : Int) - 1) = (n : Int) := by unfold wrap64; omega
    have e2 : (0 : Int) ≤ (n : Int) := by omega
    have e3 : (n : Int) < (b.length : Int) := by omega
    have hlt : n < b.length := by omega
    have htk : b.take (n + 1) = b.take n ++ [b[n]] := by rw [List.take_succ_eq_append_getElem hlt]
    have hbn : rd b (n : Int) = b[n] := by
      unfold rd
      rw [Int.toNat_natCast, List.getD_eq_getElem?_getD, List.getElem?_eq_getElem hlt]
      rfl
    simp only [keys_Next.l0, e, e1, e2, e3, if_true, hbn]
    by_cases h : b[n] = 255
    · simp only [h, if_true]
      rw [htk, h, trim_snoc_255] at ht
      exact ih (by omega) ht
    · have hne : ¬ ((n + 1 : Nat) : Int) = 0 := by omega
      have e4 : (0 : Int) ≤ ((n + 1 : Nat) : Int) := by omega
      have e5 : ((n + 1 : Nat) : Int) ≤ (b.length : Int) := by omega
      have e6 : (n : Int) < ((b.take (n + 1)).length : Int) := by rw [List.length_take]; omega
      rw [htk, trim_snoc _ _ h] at ht
      have hnb : nextB b = (b.take n ++ [(b[n] + 1) % 256], true) := by
        unfold nextB
        rw [ht, if_neg (by intro h0; have h1 := congrArg List.length h0; rw [List.length_append, List.length_cons, List.length_nil] at h1; omega), bump_snoc]
      have hset : (b.take (n + 1)).set n ((rd (b.take (n + 1)) (n : Int) + 1) % 256) = b.take n ++ [(b[n] + 1) % 256] := by
        have hr : rd (b.take (n + 1)) (n : Int) = b[n] := by
          rw [htk]
          have := rdI_at (b.take n) b[n] []
          rw [List.length_take, Nat.min_eq_left (by omega)] at this
          exact this
        rw [hr, htk, List.set_append_right _ _ (by rw [List.length_take]; omega)]
        rw [List.length_take, Nat.min_eq_left (by omega), Nat.sub_self]
        rfl
      simp only [h, if_false, hne, e4, e5, if_true, Int.toNat_natCast, clone_f (b.take (n + 1)) (by rw [List.length_take]; omega), Option.bind_some, e6, hset]
      rw [hnb]
      exact Ev.pure _
theorem next_ev (b : List Int) (hl : b.length < 140737488355328) : Ev (fun k => keys_Next.f k b) (nextB b) := by
  unfold keys_Next.f
  exact next_loop b hl b.length (Nat.le_refl _) (by rw [List.take_length])
end Go.Proofs.Ytmfenomjhmhogaa.Pure
end
section
namespace Go.Proofs.Ytmfenomjhmhogaa.Pure
set_option linter.unusedVariables false
set_option linter.unusedSimpArgs false
open Go.RowKit Go.Proofs.Ytmfenomjhmhogaa.P Go.Proofs.YtmfenomjhmhogaaW.PrintWords Go.Proofs.YtmfenomjhmhogaaW.PrintLast Go.Proofs.YtmfenomjhmhogaaW.PrintMore
def toT (x : S58) : S69 := ⟨x.f0, x.f1, x.f2⟩
theorem rd_at58 (pre : List S58) (x : S58) (suf : List S58) : rd_T58 (pre ++ x :: suf) (pre.length : Int) = x := by
  simp [rd_T58, List.getD_eq_getElem?_getD]
theorem its_loop : ∀ (suf pre : List S58) (acc : List S69), (pre ++ suf).length < 2932031007402 → acc.length = pre.length →
    Ev (fun k => quarrylaw19_its.l0 k (pre ++ suf) acc (pre.length : Int)) (acc ++ suf.map toT) := by
  intro suf
  induction suf with
  | nil =>
    intro pre acc hl ha
    refine Ev.succ ?_
    simp [quarrylaw19_its.l0]
    exact Ev.pure _
  | cons x suf ih =>
    intro pre acc hl ha
    refine Ev.succ ?_
    have e1 : (pre.length : Int) < ((pre ++ x :: suf).length : Int) := by simp; omega
    have e2 : (0 : Int) ≤ (pre.length : Int) := by omega
    have e3 : acc.length < 2932031007402 := by simp at hl; omega
    have e6 : wrap64 ((pre.length : Int) + 1) = (pre.length : Int) + 1 := wrap64_in (by omega) (by simp at hl; omega)
    simp only [quarrylaw19_its.l0, e1, e2, e3, if_true, rd_at58, e6]
    have := ih (pre ++ [x]) (acc ++ [toT x]) (by simpa using hl) (by simp [ha])
    simpa [toT] using this
theorem its_ev (l : List S58) (hl : l.length < 2932031007402) : Ev (fun k => quarrylaw19_its.f k l) (l.map toT) := by
  unfold quarrylaw19_its.f
  have := its_loop l [] [] (by simpa using hl) rfl
  simpa using this
theorem idxP_find (p : S69 → Bool) : ∀ l : List S69, (∃ x, l.find? p = some x ∧ 0 ≤ idxP p l ∧ rd_T69 l (idxP p l) = x) ∨ (l.find? p = none ∧ idxP p l = -1)
  | [] => .inr ⟨rfl, rfl⟩
  | x :: l => by
    by_cases hp : p x = true
    · left
      refine ⟨x, by simp [List.find?, hp], ?_, ?_⟩
      · unfold idxP; rw [if_pos hp]; decide
      · unfold idxP; rw [if_pos hp]; rfl
    · have hp' : p x = false := by simpa using hp
      rcases idxP_find p l with ⟨y, h1, h2, h3⟩ | ⟨h1, h2⟩
      · left
        refine ⟨y, by simp [List.find?, hp', h1], ?_, ?_⟩
        · unfold idxP; rw [if_neg hp, if_neg (by omega)]; omega
        · unfold idxP
          rw [if_neg hp, if_neg (by omega)]
          obtain ⟨n, hn⟩ := Int.eq_ofNat_of_zero_le h2
          rw [hn] at h3 ⊢
          rw [← h3]
          have e : ((n : Int) + 1).toNat = n + 1 := by omega
          simp only [rd_T69, Int.toNat_natCast, e, List.getD_cons_succ]
      · right
        refine ⟨by simp [List.find?, hp', h1], ?_⟩
        unfold idxP
        rw [if_neg hp, if_pos (by omega)]
theorem firstT_is (col : Int) (ops : List Int) (l : List S69) : firstT col ops l = match l.find? (isT col ops) with | some x => (x, true) | none => (z69, false) := by
  unfold firstT
  rcases idxP_find (isT col ops) l with ⟨x, h1, h2, h3⟩ | ⟨h1, h2⟩
  · rw [if_neg (by omega), h1, h3]
  · rw [if_pos (by omega), h1]
theorem firstT_some {col : Int} {ops : List Int} {l : List S69} (h : (firstT col ops l).2 = true) : (firstT col ops l).1 ∈ l ∧ (firstT col ops l).1.f0 = col ∧ (firstT col ops l).1.f1 ∈ ops := by
  rw [firstT_is] at h ⊢
  cases hf : l.find? (isT col ops) with
  | none => rw [hf] at h; cases h
  | some x =>
    have h1 := List.mem_of_find?_eq_some hf
    have h2 := List.find?_some hf
    simp only [isT, Bool.and_eq_true, beq_iff_eq] at h2
    exact ⟨h1, h2.1, by simpa using h2.2⟩
def optT (p : S69 × Bool) : List S69 := if p.2 = true then [p.1] else []
theorem optT_mem {col : Int} {ops : List Int} {l : List S69} {t : S69} (h : t ∈ optT (firstT col ops l)) : t ∈ l ∧ t.f0 = col ∧ t.f1 ∈ ops := by
  unfold optT at h
  split at h
  · rename_i h2
    simp only [List.mem_singleton] at h
    subst h
    exact firstT_some h2
  · cases h
theorem useG_form (L : List S69) : ∀ (cols : List Int) (acc : List S25), ∃ (pf cs : List Int) (pv : List S25), cols = pf ++ cs ∧ (useG L cols acc).1 = acc ++ pv ∧ pv.length = pf.length ∧
    (∀ (i : Nat) c v, pf[i]? = some c → pv[i]? = some v → ∃ t ∈ L, t.f0 = c ∧ t.f1 = 5 ∧ v = t.f2) ∧
    ((cs = [] ∧ (useG L cols acc).2 = ([], [])) ∨ ∃ c cs', cs = c :: cs' ∧ (useG L cols acc).2 = (optT (firstT c [9, 10] L), optT (firstT c [7, 8] L)))
  | [], acc => ⟨[], [], [], rfl, by simp [useG], rfl, fun i c v h => by simp at h, .inl ⟨rfl, rfl⟩⟩
  | c :: cols, acc => by
    by_cases h : (firstT c [5] L).2 = true
    · obtain ⟨pf, cs, pv, h1, h2, h3, h4, h5⟩ := useG_form L cols (acc ++ [(firstT c [5] L).1.f2])
      have e : useG L (c :: cols) acc = useG L cols (acc ++ [(firstT c [5] L).1.f2]) := by rw [useG, if_pos h]
      obtain ⟨m1, m2, m3⟩ := firstT_some h
      refine ⟨c :: pf, cs, (firstT c [5] L).1.f2 :: pv, by rw [h1]; rfl, by rw [e, h2, List.append_assoc]; rfl, by simp [h3], ?_, by rw [e]; exact h5⟩
      intro i c' v hc hv
      cases i with
      | zero =>
        simp at hc hv
        subst hc
        exact ⟨_, m1, m2, by simpa using m3, hv.symm⟩
      | succ i => exact h4 i c' v (by simpa using hc) (by simpa using hv)
    · have e : useG L (c :: cols) acc = (acc, optT (firstT c [9, 10] L), optT (firstT c [7, 8] L)) := by rw [useG, if_neg h]; rfl
      exact ⟨[], c :: cols, [], rfl, by rw [e]; simp, rfl, fun i c v h => by simp at h, .inr ⟨c, cols, rfl, by rw [e]⟩⟩
def Small (x : S25) : Prop := okV x ∧ x.f2.size ≤ 1048576
theorem room_small : ∀ (l : List S25), (∀ x ∈ l, Small x) → room l ≤ l.length * 2097164
  | [], _ => by simp [room]
  | x :: l, h => by
    have h1 := (h x (by simp)).2
    have h2 := room_small l (fun y hy => h y (by simp [hy]))
    simp only [room, List.map_cons, List.sum_cons, List.length_cons, Nat.add_mul] at h2 ⊢
    omega
theorem encR_len (d : List Bool) (l : List S25) : (encR d l).1.length ≤ room l := by
  unfold encR
  cases h : encE d l with
  | none => simp
  | some b => exact encE_length l d h
def keyP (vs : List S25) (d : List Bool) (t : S69) : List Int := (encR d (vs ++ [t.f2])).1
def lowP (vs : List S25) (d : List Bool) (base : List Int) : List S69 → List Int → List Int
  | [], cur => cur
  | t :: r, _ => lowP vs d base r (if t.f1 = 9 ∨ t.f1 = 7 then (if (nextB (keyP vs d t)).2 = true then (nextB (keyP vs d t)).1 else base) else keyP vs d t)
def highP (vs : List S25) (d : List Bool) : List S69 → List Int × Bool → List Int × Bool
  | [], cur => cur
  | t :: r, _ => highP vs d r (if t.f1 = 8 ∨ t.f1 = 10 then nextB (keyP vs d t) else (keyP vs d t, true))
theorem small_append {vs : List S25} {x : S25} (hv : ∀ x ∈ vs, Small x) (hx : Small x) : ∀ y ∈ vs ++ [x], Small y := fun y hy => by
  rcases List.mem_append.1 hy with h | h
  · exact hv y h
  · simp at h; subst h; exact hx
theorem enc_ev {vs : List S25} (d : List Bool) (hv : ∀ x ∈ vs, Small x) (hl : vs.length ≤ 1048577) : Ev (fun k => keys_Encode.f k vs d) (encR d vs) :=
  encode_ev vs d (fun x hx => (hv x hx).1) (by omega) (by have := room_small vs hv; omega)
theorem enc_small {vs : List S25} (d : List Bool) (hv : ∀ x ∈ vs, Small x) (hl : vs.length ≤ 1048577) : (encR d vs).1.length < 140737488355328 := by
  have h1 := encR_len d vs
  have h2 := room_small vs hv
  omega
theorem key_ev {vs : List S25} (d : List Bool) {t : S69} (hv : ∀ x ∈ vs, Small x) (ht : Small t.f2) (hl : vs.length ≤ 1048576) : Ev (fun k => keyF k vs d t) (keyP vs d t) := by
  unfold keyF
  refine Ev.pos (by omega) ?_
  refine Ev.bind (enc_ev d (small_append hv ht) (by simp; omega)) ?_
  exact Ev.pure _
theorem key_small {vs : List S25} (d : List Bool) {t : S69} (hv : ∀ x ∈ vs, Small x) (ht : Small t.f2) (hl : vs.length ≤ 1048576) : (keyP vs d t).length < 140737488355328 := enc_small d (small_append hv ht) (by simp; omega)
theorem low_ev {vs : List S25} (d : List Bool) (base : List Int) (hv : ∀ x ∈ vs, Small x) (hl : vs.length ≤ 1048576) : ∀ (lo : List S69) (cur : List Int), (∀ t ∈ lo, Small t.f2) → Ev (fun k => lowF k vs d base lo cur) (lowP vs d base lo cur)
  | [], cur, _ => Ev.pure _
  | t :: r, cur, h => by
    have ht := h t (by simp)
    have hr := fun c => low_ev d base hv hl r c (fun y hy => h y (by simp [hy]))
    simp only [lowF, lowP]
    refine Ev.bind (key_ev d hv ht hl) ?_
    by_cases hs : t.f1 = 9 ∨ t.f1 = 7
    · rw [if_pos hs]
      refine Ev.pos hs ?_
      refine Ev.bind (next_ev _ (key_small d hv ht hl)) ?_
      exact hr _
    · rw [if_neg hs]
      exact Ev.neg hs (hr _)
theorem high_ev {vs : List S25} (d : List Bool) (hv : ∀ x ∈ vs, Small x) (hl : vs.length ≤ 1048576) : ∀ (up : List S69) (cur : List Int × Bool), (∀ t ∈ up, Small t.f2) → Ev (fun k => highF k vs d up cur.1 cur.2) (highP vs d up cur)
  | [], cur, _ => Ev.pure _
  | t :: r, cur, h => by
    have ht := h t (by simp)
    have hr := fun c => high_ev d hv hl r c (fun y hy => h y (by simp [hy]))
    simp only [highF, highP]
    refine Ev.bind (key_ev d hv ht hl) ?_
    by_cases hs : t.f1 = 8 ∨ t.f1 = 10
    · rw [if_pos hs]
      refine Ev.pos hs ?_
      refine Ev.bind (next_ev _ (key_small d hv ht hl)) ?_
      exact hr _
    · rw [if_neg hs]
      exact Ev.neg hs (hr (_, true))
def rangeG (vs : List S25) (lo up : List S69) (d : List Bool) : List Int × List Int × Bool :=
  (lowP vs d (encR d vs).1 lo (encR d vs).1, (highP vs d up (nextB (encR d vs).1)).1, !(highP vs d up (nextB (encR d vs).1)).2)
def rangeP (cols : List Int) (d : List Bool) (L : List S69) : List Int × List Int × Bool :=
  if swapB (useG L cols []).1 d = true then rangeG (useG L cols []).1 (useG L cols []).2.2 (useG L cols []).2.1 d else rangeG (useG L cols []).1 (useG L cols []).2.1 (useG L cols []).2.2 d
theorem g_ev {vs : List S25} {lo up : List S69} (d : List Bool) (hv : ∀ x ∈ vs, Small x) (hlo : ∀ t ∈ lo, Small t.f2) (hup : ∀ t ∈ up, Small t.f2) (hl : vs.length ≤ 1048576) : Ev (fun k => bounds_Range.g k vs lo up d) (rangeG vs lo up d) := by
  unfold bounds_Range.g
  refine Ev.bind (enc_ev d hv (by omega)) ?_
  refine Ev.bind (low_ev d _ hv hl lo _ hlo) ?_
  refine Ev.bind (next_ev _ (enc_small d hv (by omega))) ?_
  refine Ev.bind (high_ev d hv hl up _ hup) ?_
  exact Ev.pure _
theorem useG_small {L : List S69} (hL : ∀ t ∈ L, Small t.f2) (cols : List Int) (hl : cols.length ≤ 1048576) :
    (∀ x ∈ (useG L cols []).1, Small x) ∧ (∀ t ∈ (useG L cols []).2.1, t ∈ L) ∧ (∀ t ∈ (useG L cols []).2.2, t ∈ L) ∧ (useG L cols []).1.length ≤ cols.length := by
  obtain ⟨pf, cs, pv, h1, h2, h3, h4, h5⟩ := useG_form L cols []
  rw [List.nil_append] at h2
  have hlen : pv.length ≤ cols.length := by rw [h3, h1]; simp
  refine ⟨?_, ?_, ?_, by rw [h2]; exact hlen⟩
  · intro x hx
    rw [h2] at hx
    obtain ⟨i, hi, rfl⟩ := List.getElem_of_mem hx
    obtain ⟨t, ht, _, _, hv⟩ := h4 i pf[i] pv[i] (List.getElem?_eq_getElem (by omega)) (List.getElem?_eq_getElem hi)
    rw [hv]
    exact hL t ht
  · intro t ht
    rcases h5 with ⟨_, e⟩ | ⟨c, cs', _, e⟩
    · rw [e] at ht; cases ht
    · rw [e] at ht; exact (optT_mem ht).1
  · intro t ht
    rcases h5 with ⟨_, e⟩ | ⟨c, cs', _, e⟩
    · rw [e] at ht; cases ht
    · rw [e] at ht; exact (optT_mem ht).1
theorem range_ev (a0 : Int) (a1 a2 : ByteArray) (cols : List Int) (d : List Bool) (a5 : Bool) {L : List S69} (hL : ∀ t ∈ L, Small t.f2) (hl : cols.length ≤ 1048576) : Ev (fun k => bounds_Range.f k a0 a1 a2 cols d a5 L) (rangeP cols d L) := by
  obtain ⟨s1, s2, s3, s4⟩ := useG_small hL cols hl
  unfold bounds_Range.f
  have hu : bounds_useOf.f a0 a1 a2 cols d a5 L = some (useG L cols []) := by unfold bounds_useOf.f; rw [if_pos (by omega)]
  simp only [hu, Option.bind_some]
  unfold rangeP
  by_cases hs : swapB (useG L cols []).1 d = true
  · rw [if_pos hs]
    exact Ev.pos hs (g_ev d s1 (fun t ht => hL t (s3 t ht)) (fun t ht => hL t (s2 t ht)) (by omega))
  · rw [if_neg hs]
    exact Ev.neg hs (g_ev d s1 (fun t ht => hL t (s2 t ht)) (fun t ht => hL t (s3 t ht)) (by omega))
end Go.Proofs.Ytmfenomjhmhogaa.Pure
end
section
namespace Go.Proofs.Ytmfenomjhmhogaa.Pure
set_option linter.unusedVariables false
set_option linter.unusedSimpArgs false
open Go.RowKit Go.Proofs.Ytmfenomjhmhogaa.P Go.Proofs.YtmfenomjhmhogaaW.PrintWords Go.Proofs.YtmfenomjhmhogaaW.PrintLast Go.Proofs.YtmfenomjhmhogaaW.PrintMore
theorem ref_check_f (x : S25) : quarryref01_Check.f x.f0 x.f1 x.f2 = some (chk x) := rfl
theorem ref_num (acc : List Int) (n : Int) (h0 : 0 ≤ n) (hl : acc.length + 8 < 140737488355328) : Ev (fun k => quarryref03_bytes.l0 k acc n 7) (acc ++ be 8 n) := by
  have key : ∀ (j : Nat) (acc' : List Int), j ≤ 8 → acc'.length + j < 140737488355328 → Ev (fun k => quarryref03_bytes.l0 k acc' n ((j : Int) - 1)) (acc' ++ be j n) := by
    intro j
    induction j with
    | zero =>
      intro acc' _ _
      refine Ev.succ ?_
      have e : ¬ (((0 : Nat) : Int) - 1 ≥ 0) := by omega
      simp only [quarryref03_bytes.l0, e, if_false, be, List.append_nil]
      exact Ev.pure _
    | succ j ih =>
      intro acc' hj hl'
      refine Ev.succ ?_
      have e : (((j + 1 : Nat) : Int) - 1 ≥ 0) := by omega
      have e1 : wrap64 (8 * (((j + 1 : Nat) : Int) - 1)) = 8 * (j : Int) := by unfold wrap64; omega
      have e2 : (0 : Int) ≤ 8 * (j : Int) := by omega
      have e3 : acc'.length < 140737488355328 := by omega
      have e4 : wrap64 (((j + 1 : Nat) : Int) - 1 - 1) = (j : Int) - 1 := by unfold wrap64; omega
      simp only [quarryref03_bytes.l0, e, e1, e2, e3, e4, if_true]
      have e5 : shr .u64 n (8 * (j : Int)) = n / 256 ^ j := by
        unfold shr
        have : min (8 * (j : Int)).toNat IntKind.u64.bits = 8 * j := by
          show min _ 64 = _
          omega
        rw [this, Int.pow_mul]
        rfl
      have hp : (0 : Int) < 256 ^ j := Int.pow_pos (by decide)
      have hq : 0 ≤ n / 256 ^ j := Int.ediv_nonneg h0 (by omega)
      have e6 : Int.tmod (n / 256 ^ j) 256 % 256 = n / 256 ^ j % 256 := by rw [Int.tmod_eq_emod_of_nonneg hq]; omega
      rw [e5, e6]
      have := ih (acc' ++ [n / 256 ^ j % 256]) (by omega) (by simp; omega)
      simpa [be] using this
  exact key 8 acc (by omega) hl
theorem ref_text (s : ByteArray) (a : Int) (b : Int) (hs : s.size ≤ 140737488351232) : ∀ (suf pre : List UInt8) (acc : List Int), s.data.toList = pre ++ suf → acc.length + 2 * suf.length + 2 < 140737488355328 →
    Ev (fun k => quarryref03_bytes.l1 k acc (pre.length : Int) a b s) (acc ++ (esc suf ++ [0, 1])) := by
  intro suf
  induction suf with
  | nil =>
    intro pre acc he hl
    have hz := size_toList s
    rw [he] at hz
    simp only [List.append_nil] at hz
    refine Ev.succ ?_
    have e : ¬ ((pre.length : Int) < (s.size : Int)) := by omega
    have e2 : acc.length + [(0 : Int), 1].length < 140737488355328 := by simp at hl ⊢; omega
    simp only [quarryref03_bytes.l1, e, if_false, Option.bind_some, e2, if_true, esc, List.nil_append]
    exact Ev.pure _
  | cons c suf ih =>
    intro pre acc he hl
    have hz := size_toList s
    rw [he] at hz
    simp only [List.length_append, List.length_cons] at hz hl
    refine Ev.succ ?_
    have e : ((pre.length : Int) < (s.size : Int)) := by omega
    have e1 : (0 : Int) ≤ (pre.length : Int) := by omega
    have e2 : acc.length < 140737488355328 := by omega
    have e4 : wrap64 ((pre.length : Int) + 1) = (pre.length : Int) + 1 := wrap64_in (by omega) (by omega)
    have e5 := bt_at' s pre c suf he
    simp only [quarryref03_bytes.l1, e, e1, e2, if_true, Option.bind_some, e4, e5]
    by_cases h : (c.toNat : Int) = 0
    · have hc : c = 0 := UInt8.toNat_inj.1 (by show c.toNat = 0; omega)
      simp only [h, if_true]
      have e6 : (acc ++ [(0 : Int)]).length < 140737488355328 := by simp; omega
      simp only [e6, if_true]
      have := ih (pre ++ [c]) (acc ++ [0] ++ [255]) (by simpa using he) (by simp; omega)
      rw [show esc (c :: suf) = 0 :: 255 :: esc suf by rw [esc, if_pos hc]]
      simpa using this
    · have hc : ¬ c = 0 := fun e => h (by subst e; rfl)
      simp only [h, if_false]
      have := ih (pre ++ [c]) (acc ++ [(c.toNat : Int)]) (by simpa using he) (by simp; omega)
      rw [show esc (c :: suf) = (c.toNat : Int) :: esc suf by rw [esc, if_neg hc]]
      simpa using this
theorem ref_bytes_ev (x : S25) (h : okV x) (hc : chk x = 0) (hl : 2 * x.f2.size + 11 < 140737488355328) : Ev (fun k => quarryref03_bytes.f k x.f0 x.f1 x.f2) (encB x) := by
  have hk := chk_kind hc
  unfold quarryref03_bytes.f encB payload
  simp only [Option.bind_some, wrap_kind hc]
  have hi := h.2.1
  unfold I64 at hi
  by_cases h0 : x.f0 = 0
  · simp [h0]
    exact Ev.pure _
  by_cases h1 : x.f0 = 1
  · simp [h1]
    exact Ev.pure _
  by_cases h2 : x.f0 = 2
  · have e0 : ¬ (2 : Int) = 0 := by decide
    have e1 : ¬ (2 : Int) = 1 := by decide
    simp only [h2, e0, e1, if_true, if_false, sign_add h.2.1]
    exact ref_num [((2 : Int) + 1) % 256] _ (by omega) (by simp)
  have hz := size_toList x.f2
  have h3 : x.f0 = 3 ∨ x.f0 = 4 := by omega
  simp only [h0, h1, h2, h3, if_true, if_false]
  have := ref_text x.f2 x.f0 x.f1 h.2.2 x.f2.data.toList [] [(x.f0 + 1) % 256] rfl (by simp; omega)
  simpa using this
theorem ref_flip_loop : ∀ (suf pre acc : List Int), BytesIn suf → (pre ++ suf).length < 140737488355328 → acc.length + suf.length < 140737488355328 → Ev (fun k => quarryref03_flip.l0 k (pre ++ suf) acc (pre.length : Int)) (acc ++ flipL suf) := by
  intro suf
  induction suf with
  | nil =>
    intro pre acc _ hl _
    refine Ev.succ ?_
    simp [quarryref03_flip.l0, flipL]
    exact Ev.pure _
  | cons x suf ih =>
    intro pre acc hb hl ha
    refine Ev.succ ?_
    have e1 : (pre.length : Int) < ((pre ++ x :: suf).length : Int) := by simp; omega
    have e2 : (0 : Int) ≤ (pre.length : Int) := by omega
    have e3 : acc.length < 140737488355328 := by simp at ha; omega
    have e6 : wrap64 ((pre.length : Int) + 1) = (pre.length : Int) + 1 := wrap64_in (by omega) (by simp at hl; omega)
    have hx := hb x (by simp)
    have e7 : (255 - x) % 256 = 255 - x := by omega
    simp only [quarryref03_flip.l0, e1, e2, e3, if_true, rdI_at, e6, e7]
    have := ih (pre ++ [x]) (acc ++ [255 - x]) (fun y hy => hb y (by simp [hy])) (by simpa using hl) (by simp at ha ⊢; omega)
    simpa [flipL] using this
theorem ref_flip_ev (l : List Int) (hb : BytesIn l) (hl : l.length < 140737488355328) : Ev (fun k => quarryref03_flip.f k l) (flipL l) := by
  unfold quarryref03_flip.f
  have := ref_flip_loop l [] [] hb (by simpa using hl) (by simpa using hl)
  simpa using this
theorem ref_turned_at (d : List Bool) (n : Nat) : quarryref03_turned.f d (n : Int) = keys_turned.f d (n : Int) := rfl
theorem ref_encode_loop : ∀ (suf pre : List S25) (pd d : List Bool) (acc : List Int), (∀ x ∈ suf, okV x) → (pre ++ suf).length < 140737488355328 → acc.length + room suf < 140737488355328 → (pd.length = pre.length ∨ (pd.length < pre.length ∧ d = [])) →
    Ev (fun k => quarryref03_Encode.l0 k (pre ++ suf) (pd ++ d) acc (pre.length : Int)) (match encE d suf with | none => ([], 3) | some b => (acc ++ b, 0)) := by
  intro suf
  induction suf with
  | nil =>
    intro pre pd d acc _ hl _ _
    refine Ev.succ ?_
    simp [quarryref03_Encode.l0, encE]
    exact Ev.pure _
  | cons x suf ih =>
    intro pre pd d acc hx hl hr hd
    refine Ev.succ ?_
    have e1 : (pre.length : Int) < ((pre ++ x :: suf).length : Int) := by simp; omega
    have e2 : (0 : Int) ≤ (pre.length : Int) := by omega
    simp only [quarryref03_Encode.l0, e1, e2, if_true, rd_at, ref_check_f, Option.bind_some]
    by_cases hc : chk x = 0
    · rw [encE, if_pos hc]
      have hx0 := hx x (by simp)
      have hb := encB_length x
      simp only [room, List.map_cons, List.sum_cons] at hr
      have e6 : wrap64 ((pre.length : Int) + 1) = (pre.length : Int) + 1 := wrap64_in (by omega) (by simp at hl; omega)
      simp only [hc, if_true, e6]
      refine Ev.bind (ref_bytes_ev x hx0 hc (by omega)) ?_
      rw [ref_turned_at, turned_at (pd ++ d) pd d pre.length rfl hd]
      simp only [Option.bind_some]
      obtain ⟨pd', hpd, hn⟩ := desc_next pd d pre.length hd
      have hgo : ∀ b : Bool, d.headD false = b → Ev (fun k => quarryref03_Encode.l0 k (pre ++ x :: suf) (pd ++ d) (acc ++ turnB b (encB x)) ((pre.length : Int) + 1)) (match (encE d.tail suf).map (turnB b (encB x) ++ ·) with | none => ([], 3) | some b => (acc ++ b, 0)) := by
        intro b _
        have := ih (pre ++ [x]) pd' d.tail (acc ++ turnB b (encB x)) (fun y hy => hx y (by simp [hy])) (by simpa using hl) (by rw [List.length_append, turnB_length]; unfold room; omega) (by simpa using hn)
        rw [hpd] at this
        cases he : encE d.tail suf with
        | none => rw [he] at this; simpa using this
        | some c => rw [he] at this; simpa using this
      cases hh : d.headD false with
      | false =>
        have e8 : acc.length + (encB x).length < 140737488355328 := by omega
        simp only [Bool.false_eq_true, if_false, e8, if_true]
        exact hgo false hh
      | true =>
        simp only [if_true]
        refine Ev.bind (ref_flip_ev (encB x) (encB_range x) (by omega)) ?_
        have e8 : acc.length + (flipL (encB x)).length < 140737488355328 := by rw [flipL_length]; omega
        simp only [e8, if_true]
        exact hgo true hh
    · rw [encE, if_neg hc]
      simp only [hc, if_false]
      exact Ev.pure _
theorem ref_encode_ev (l : List S25) (d : List Bool) (hx : ∀ x ∈ l, okV x) (hl : l.length < 140737488355328) (hr : room l < 140737488355328) : Ev (fun k => quarryref03_Encode.f k l d) (encR d l) := by
  unfold quarryref03_Encode.f encR
  have := ref_encode_loop l [] [] d [] hx (by simpa using hl) (by simpa using hr) (.inl rfl)
  cases he : encE d l with
  | none => rw [he] at this; simpa using this
  | some b => rw [he] at this; simpa using this
end Go.Proofs.Ytmfenomjhmhogaa.Pure
end
section
namespace Go.Proofs.Ytmfenomjhmhogaa.Pure
set_option linter.unusedVariables false
set_option linter.unusedSimpArgs false
open Go.RowKit Go.Proofs.Ytmfenomjhmhogaa.P Go.Proofs.YtmfenomjhmhogaaW.PrintWords Go.Proofs.YtmfenomjhmhogaaW.PrintLast Go.Proofs.YtmfenomjhmhogaaW.PrintMore
theorem ref_next_loop (b : List Int) (hl : b.length < 140737488355328) : ∀ (n : Nat), n ≤ b.length → trim b = trim (b.take n) → Ev (fun k => quarryref03_Next.l0 k b (n : Int)) (nextB b) := by
  intro n
  induction n with
  | zero =>
    intro _ ht
    refine Ev.succ ?_
    have e : ¬ (((0 : Nat) : Int) > 0) := by omega
    have e2 : ((0 : Nat) : Int) = 0 := rfl
    have h0 : trim b = [] := by rw [ht]; rfl
    unfold nextB
    simp only [quarryref03_Next.l0, e, if_false, e2, if_true, h0]
    exact Ev.pure _
  | succ n ih =>
    intro hn ht
    refine Ev.succ ?_
    have e : (((n + 1 : Nat) : Int) > 0) := by omega
    have e1 : wrap64 (((n + 1 : Nat) : Int) - 1) = (n : Int) := by unfold wrap64; omega
    have e2 : (0 : Int) ≤ (n : Int) := by omega
    have e3 : (n : Int) < (b.length : Int) := by omega
    have hlt : n < b.length := by omega
    have htk : b.take (n + 1) = b.take n ++ [b[n]] := by rw [List.take_succ_eq_append_getElem hlt]
    have hbn : rd b (n : Int) = b[n] := by
      unfold rd
      rw [Int.toNat_natCast, List.getD_eq_getElem?_getD, List.getElem?_eq_getElem hlt]
      rfl
    simp only [quarryref03_Next.l0, e, e1, e2, e3, if_true, hbn]
    by_cases h : b[n] = 255
    · simp only [h, if_true]
      rw [htk, h, trim_snoc_255] at ht
      exact ih (by omega) ht
    · have hne : ¬ ((n + 1 : Nat) : Int) = 0 := by omega
      have e4 : (0 : Int) ≤ ((n + 1 : Nat) : Int) := by omega
      have e5 : ((n + 1 : Nat) : Int) ≤ (b.length : Int) := by omega
      have e6 : (n : Int) < ((b.take (n + 1)).length : Int) := by rw [List.length_take]; omega
      have e7 : ([] : List Int).length + (b.take (n + 1)).length < 140737488355328 := by rw [List.length_take]; simp; omega
      rw [htk, trim_snoc _ _ h] at ht
      have hnb : nextB b = (b.take n ++ [(b[n] + 1) % 256], true) := by
        unfold nextB
        rw [ht, if_neg (by intro h0; have h1 := congrArg List.length h0; rw [List.length_append, List.length_cons, List.length_nil] at h1; omega), bump_snoc]
      have hset : (b.take (n + 1)).set n ((rd (b.take (n + 1)) (n : Int) + 1) % 256) = b.take n ++ [(b[n] + 1) % 256] := by
        have hr : rd (b.take (n + 1)) (n : Int) = b[n] := by
          rw [htk]
          have := rdI_at (b.take n) b[n] []
          rw [List.length_take, Nat.min_eq_left (by omega)] at this
          exact this
        rw [hr, htk, List.set_append_right _ _ (by rw [List.length_take]; omega)]
        rw [List.length_take, Nat.min_eq_left (by omega), Nat.sub_self]
        rfl
      simp only [h, if_false, hne, e4, e5, if_true, Int.toNat_natCast, Option.bind_some, List.nil_append, e6, e7, hset]
      rw [hnb]
      exact Ev.pure _
theorem ref_next_ev (b : List Int) (hl : b.length < 140737488355328) : Ev (fun k => quarryref03_Next.f k b) (nextB b) := by
  unfold quarryref03_Next.f
  exact ref_next_loop b hl b.length (Nat.le_refl _) (by rw [List.take_length])
end Go.Proofs.Ytmfenomjhmhogaa.Pure
end
section
namespace Go.Proofs.Ytmfenomjhmhogaa.Pure
set_option linter.unusedVariables false
set_option linter.unusedSimpArgs false
open Go.RowKit Go.Proofs.Ytmfenomjhmhogaa.P Go.Proofs.YtmfenomjhmhogaaW.PrintWords Go.Proofs.YtmfenomjhmhogaaW.PrintLast Go.Proofs.YtmfenomjhmhogaaW.PrintMore
def rightB (l : List S58) : Bool := l.all fun x => decide (chk x.f2 = 0) && !decide (x.f2.f0 = 0)
theorem right_loop : ∀ (suf pre : List S58), (pre ++ suf).length < 140737488355328 → Ev (fun k => quarrylaw19_right.l0 k (pre ++ suf) (pre.length : Int)) (rightB suf) := by
  intro suf
  induction suf with
  | nil =>
    intro pre hl
    refine Ev.succ ?_
    simp [quarrylaw19_right.l0, rightB]
    exact Ev.pure _
  | cons x suf ih =>
    intro pre hl
    refine Ev.succ ?_
    have e1 : (pre.length : Int) < ((pre ++ x :: suf).length : Int) := by simp; omega
    have e2 : (0 : Int) ≤ (pre.length : Int) := by omega
    have e6 : wrap64 ((pre.length : Int) + 1) = (pre.length : Int) + 1 := wrap64_in (by omega) (by simp at hl; omega)
    simp only [quarrylaw19_right.l0, e1, e2, if_true, rd_at58, ref_check_f, Option.bind_some, e6]
    by_cases hc : chk x.f2 = 0
    · simp only [hc, if_true]
      by_cases hn : x.f2.f0 = 0
      · simp only [hn, if_true]
        have e : rightB (x :: suf) = false := by simp [rightB, hn]
        rw [e]
        exact Ev.pure _
      · simp only [hn, if_false]
        have := ih (pre ++ [x]) (by simpa using hl)
        have e : rightB (x :: suf) = rightB suf := by simp [rightB, hc, hn]
        rw [e]
        simpa using this
    · simp only [hc, if_false]
      have e : rightB (x :: suf) = false := by simp [rightB, hc]
      rw [e]
      exact Ev.pure _
theorem right_ev (l : List S58) (hl : l.length < 140737488355328) : Ev (fun k => quarrylaw19_right.f k l) (rightB l) := by
  unfold quarrylaw19_right.f
  have := right_loop l [] (by simpa using hl)
  simpa using this
def cntP (L : List S69) (cols : List Int) : Int := (useG L cols []).1.length + (useG L cols []).2.1.length + (useG L cols []).2.2.length
def bestP (L : List S69) : List S41 → Int → Int → Int → Int
  | [], _, best, _ => best
  | x :: l, i, best, most => if cntP L x.f3 > most then bestP L l (i + 1) i (cntP L x.f3) else bestP L l (i + 1) best most
theorem optT_len (p : S69 × Bool) : (optT p).length ≤ 1 := by unfold optT; split <;> simp
theorem cnt_small (L : List S69) (cols : List Int) (hl : cols.length ≤ 1048576) : 0 ≤ cntP L cols ∧ cntP L cols ≤ 1048578 ∧ (useG L cols []).1.length ≤ 1048576 ∧ (useG L cols []).2.1.length ≤ 1 ∧ (useG L cols []).2.2.length ≤ 1 := by
  obtain ⟨pf, cs, pv, h1, h2, h3, h4, h5⟩ := useG_form L cols []
  rw [List.nil_append] at h2
  have hlen : pv.length ≤ cols.length := by rw [h3, h1]; simp
  unfold cntP
  rw [h2]
  rcases h5 with ⟨_, e⟩ | ⟨c, cs', _, e⟩
  · rw [e]; simp; omega
  · rw [e]
    have a := optT_len (firstT c [9, 10] L)
    have b := optT_len (firstT c [7, 8] L)
    simp only
    omega
theorem rd_at41 (pre : List S41) (x : S41) (suf : List S41) : rd_T41 (pre ++ x :: suf) (pre.length : Int) = x := by
  simp [rd_T41, List.getD_eq_getElem?_getD]
theorem best_loop (L : List S69) : ∀ (suf pre : List S41) (best most : Int), (pre ++ suf).length < 140737488355328 → (∀ x ∈ suf, x.f3.length ≤ 1048576) →
    Ev (fun k => bounds_Best.l0 k L best most (pre ++ suf) ((pre ++ suf).length : Int) (pre.length : Int)) (bestP L suf (pre.length : Int) best most) := by
  intro suf
  induction suf with
  | nil =>
    intro pre best most hl hx
    refine Ev.succ ?_
    simp [bounds_Best.l0, bestP]
    exact Ev.pure _
  | cons x suf ih =>
    intro pre best most hl hx
    refine Ev.succ ?_
    have e1 : (pre.length : Int) < ((pre ++ x :: suf).length : Int) := by simp; omega
    have e2 : (0 : Int) ≤ (pre.length : Int) := by omega
    have e6 : wrap64 ((pre.length : Int) + 1) = (pre.length : Int) + 1 := wrap64_in (by omega) (by simp at hl; omega)
    have hxl := hx x (by simp)
    have hu : bounds_useOf.f x.f0 x.f1 x.f2 x.f3 x.f4 x.f5 L = some (useG L x.f3 []) := by unfold bounds_useOf.f; rw [if_pos (by omega)]
    have hcs := cnt_small L x.f3 hxl
    have hc : bounds_use_count.f (useG L x.f3 []).1 (useG L x.f3 []).2.1 (useG L x.f3 []).2.2 = some (cntP L x.f3) := by
      unfold bounds_use_count.f cntP
      rw [wrap64_in (n := ((useG L x.f3 []).1.length : Int) + ((useG L x.f3 []).2.1.length : Int)) (by omega) (by omega), wrap64_in (by omega) (by omega)]
    have step : ∀ k, bounds_Best.l0 (k + 1) L best most (pre ++ x :: suf) ((pre ++ x :: suf).length : Int) (pre.length : Int) =
        if cntP L x.f3 > most then bounds_Best.l0 k L (pre.length : Int) (cntP L x.f3) (pre ++ x :: suf) ((pre ++ x :: suf).length : Int) ((pre.length : Int) + 1) else bounds_Best.l0 k L best most (pre ++ x :: suf) ((pre ++ x :: suf).length : Int) ((pre.length : Int) + 1) := by
      intro k
      rw [bounds_Best.l0, if_pos e1, if_pos e2, if_pos e1, rd_at41, hu, Option.bind_some, hc, Option.bind_some, e6]
    clear hu hc
    have hr := fun b m => ih (pre ++ [x]) b m (by simpa using hl) (fun y hy => hx y (by simp [hy]))
    unfold bestP
    by_cases hg : cntP L x.f3 > most
    · rw [if_pos hg]
      refine Ev.of_eq ?_ (fun k => (step k).trans (if_pos hg))
      have := hr (pre.length : Int) (cntP L x.f3)
      simpa using this
    · rw [if_neg hg]
      refine Ev.of_eq ?_ (fun k => (step k).trans (if_neg hg))
      have := hr best most
      simpa using this
theorem best_ev (l : List S41) (L : List S69) (hl : l.length < 140737488355328) (hx : ∀ x ∈ l, x.f3.length ≤ 1048576) : Ev (fun k => bounds_Best.f k l L) (bestP L l 0 (-1) 0) := by
  unfold bounds_Best.f
  have := best_loop L l [] (-1) 0 (by simpa using hl) hx
  simpa using this
def w1 : S25 := ⟨2, 1, ⟨#[]⟩⟩
def w2 : S25 := ⟨2, 2, ⟨#[]⟩⟩
theorem w_small : Small w1 ∧ Small w2 := ⟨⟨⟨⟨by show _ ≤ (2 : Int); decide, by show (2 : Int) ≤ _; decide⟩, ⟨by show _ ≤ (1 : Int); decide, by show (1 : Int) ≤ _; decide⟩, by show (0 : Nat) ≤ _; decide⟩, by show (0 : Nat) ≤ _; decide⟩,
  ⟨⟨⟨by show _ ≤ (2 : Int); decide, by show (2 : Int) ≤ _; decide⟩, ⟨by show _ ≤ (2 : Int); decide, by show (2 : Int) ≤ _; decide⟩, by show (0 : Nat) ≤ _; decide⟩, by show (0 : Nat) ≤ _; decide⟩⟩
theorem w_chk : chk w1 = 0 ∧ chk w2 = 0 := ⟨by simp [chk, chkV, w1, Go.ByteArray.toList_eq], by simp [chk, chkV, w2, Go.ByteArray.toList_eq]⟩
theorem w_enc1 (d : List Bool) (h : d = [] ∨ d = [false, false]) : encR d [w1] = ([3, 128, 0, 0, 0, 0, 0, 0, 1], 0) := by
  unfold encR
  rw [encE, if_pos w_chk.1]
  rcases h with rfl | rfl <;> rfl
theorem w_enc2 (d : List Bool) (h : d = [] ∨ d = [false, false]) : encR d [w1, w2] = ([3, 128, 0, 0, 0, 0, 0, 0, 1, 3, 128, 0, 0, 0, 0, 0, 0, 2], 0) := by
  unfold encR
  rw [encE, if_pos w_chk.1, encE, if_pos w_chk.2]
  rcases h with rfl | rfl <;> rfl
def wL : List S69 := [⟨0, 5, w1⟩, ⟨1, 9, w2⟩]
theorem w_use : useG wL [0, 1] [] = ([w1], [⟨1, 9, w2⟩], []) := by rfl
theorem w_use1 : useG wL [1] [] = ([], [⟨1, 9, w2⟩], []) := by rfl
theorem w_range : rangeP [0, 1] [false, false] wL = ([3, 128, 0, 0, 0, 0, 0, 0, 1, 3, 128, 0, 0, 0, 0, 0, 0, 3], [3, 128, 0, 0, 0, 0, 0, 0, 2], false) := by
  unfold rangeP
  rw [w_use]
  have hs : swapB [w1] [false, false] = false := by rfl
  simp only [hs, Bool.false_eq_true, if_false]
  unfold rangeG
  rw [w_enc1 _ (.inr rfl)]
  simp only [lowP, highP, keyP, List.cons_append, List.nil_append, w_enc2 _ (.inr rfl)]
  decide
theorem works_ev : Ev (fun k => quarrylaw19_works.f k) true := by
  unfold quarrylaw19_works.f
  simp only [quarrylaw19_number.f, Option.bind_some]
  have h1 := range_ev 0 ⟨#[]⟩ ⟨#[]⟩ [0, 1] [false, false] false (L := wL) (by
    intro t ht
    simp only [wL, List.mem_cons, List.not_mem_nil, or_false] at ht
    rcases ht with rfl | rfl
    · exact w_small.1
    · exact w_small.2) (by simp)
  rw [w_range] at h1
  refine Ev.bind h1 ?_
  have hsm : ∀ x ∈ [w1, w2], okV x := by
    intro x hx
    simp only [List.mem_cons, List.not_mem_nil, or_false] at hx
    rcases hx with rfl | rfl
    · exact w_small.1.1
    · exact w_small.2.1
  have h2 := ref_encode_ev [w1, w2] [] hsm (by simp) (by simp [room]; decide)
  rw [w_enc2 _ (.inl rfl)] at h2
  refine Ev.bind h2 ?_
  have h3 := ref_encode_ev [w1] [] (fun x hx => hsm x (by simp at hx; simp [hx])) (by simp) (by simp [room]; decide)
  rw [w_enc1 _ (.inl rfl)] at h3
  refine Ev.bind h3 ?_
  have h4 := ref_next_ev [3, 128, 0, 0, 0, 0, 0, 0, 1, 3, 128, 0, 0, 0, 0, 0, 0, 2] (by simp)
  have e4 : nextB [3, 128, 0, 0, 0, 0, 0, 0, 1, 3, 128, 0, 0, 0, 0, 0, 0, 2] = ([3, 128, 0, 0, 0, 0, 0, 0, 1, 3, 128, 0, 0, 0, 0, 0, 0, 3], true) := by decide
  rw [e4] at h4
  refine Ev.bind h4 ?_
  have h5 := ref_next_ev [3, 128, 0, 0, 0, 0, 0, 0, 1] (by simp)
  have e5 : nextB [3, 128, 0, 0, 0, 0, 0, 0, 1] = ([3, 128, 0, 0, 0, 0, 0, 0, 2], true) := by decide
  rw [e5] at h5
  refine Ev.bind h5 ?_
  simp only [if_true, Bool.false_eq_true, if_false]
  have h6 := best_ev [(⟨0, ⟨#[]⟩, ⟨#[]⟩, [1], [false], false⟩ : S41), ⟨0, ⟨#[]⟩, ⟨#[]⟩, [0, 1], [false, false], false⟩] wL (by simp) (by
    intro x hx
    simp only [List.mem_cons, List.not_mem_nil, or_false] at hx
    rcases hx with rfl | rfl <;> simp)
  have e6 : bestP wL [(⟨0, ⟨#[]⟩, ⟨#[]⟩, [1], [false], false⟩ : S41), ⟨0, ⟨#[]⟩, ⟨#[]⟩, [0, 1], [false, false], false⟩] 0 (-1) 0 = 1 := by
    simp only [bestP, cntP, w_use, w_use1]
    decide
  rw [e6] at h6
  refine Ev.bind h6 ?_
  exact Ev.pure _
theorem m38_len (l : List Int) : m38 l = l.length + 1 := by unfold m38; induction l with | nil => rfl | cons x l ih => simp at ih ⊢; omega
theorem m39_len (l : List Bool) : m39 l = l.length + 1 := by unfold m39; induction l with | nil => rfl | cons x l ih => simp at ih ⊢; omega
theorem sum_mem {α : Type} (f : α → Nat) : ∀ {l : List α} {x : α}, x ∈ l → f x ≤ (l.map f).sum
  | y :: l, x, h => by
    simp only [List.map_cons, List.sum_cons]
    rcases List.mem_cons.1 h with rfl | h
    · omega
    · have := sum_mem f h; omega
theorem sum_len {α : Type} (f : α → Nat) (hf : ∀ x, 1 ≤ f x) : ∀ l : List α, l.length ≤ (l.map f).sum
  | [] => by simp
  | y :: l => by
    have := sum_len f hf l
    have := hf y
    simp only [List.length_cons, List.map_cons, List.sum_cons]
    omega
theorem known_terms {l : List S58} (h : G32 l) (hm : m32 l ≤ 1048576) : (∀ t ∈ l, Small t.f2) ∧ l.length ≤ 1048576 := by
  unfold m32 at hm
  refine ⟨fun t ht => ?_, by have h : l.length ≤ (l.map fun x => m58 x).sum := sum_len m58 (fun x => by unfold m58; omega) l; omega⟩
  have h1 := h.1 t ht
  have h2 : m58 t ≤ (l.map fun x => m58 x).sum := sum_mem m58 ht
  have h3 : t.f2.f2.size ≤ m58 t := by unfold m58 m25; omega
  exact ⟨⟨wf64 h1.2.2.1, wf64 h1.2.2.2.1, h1.2.2.2.2⟩, by omega⟩
theorem known_index {x : S41} (hm : m41 x ≤ 1048576) : x.f3.length ≤ 1048576 ∧ x.f4.length ≤ 1048576 := by
  unfold m41 at hm
  rw [m38_len, m39_len] at hm
  omega
end Go.Proofs.Ytmfenomjhmhogaa.Pure
end
section
namespace Go.Proofs.Ytmfenomjhmhogaa.Pure
set_option linter.unusedVariables false
set_option linter.unusedSimpArgs false
open Go.RowKit Go.Proofs.Ytmfenomjhmhogaa.P Go.Proofs.YtmfenomjhmhogaaW.PrintWords Go.Proofs.YtmfenomjhmhogaaW.PrintLast Go.Proofs.YtmfenomjhmhogaaW.PrintMore
theorem first_more (col : Int) (ops : List Int) (a b : List S69) (h : (firstT col ops a).2 = true) : (firstT col ops (a ++ b)).2 = true := by
  rw [firstT_is] at h ⊢
  cases hf : a.find? (isT col ops) with
  | none => rw [hf] at h; cases h
  | some x => rw [List.find?_append, hf]; rfl
theorem cnt_pos (L : List S69) (c : Int) (cs : List Int) : 0 < cntP L (c :: cs) ↔ ((firstT c [5] L).2 = true ∨ (firstT c [9, 10] L).2 = true ∨ (firstT c [7, 8] L).2 = true) := by
  have hacc : ∀ (cs : List Int) (acc : List S25), acc ≠ [] → (useG L cs acc).1 ≠ [] := by
    intro cs
    induction cs with
    | nil => intro acc h; exact h
    | cons x cs ih =>
      intro acc h
      unfold useG
      split
      · exact ih _ (by simp)
      · exact h
  unfold cntP
  by_cases h5 : (firstT c [5] L).2 = true
  · have e : useG L (c :: cs) [] = useG L cs ([] ++ [(firstT c [5] L).1.f2]) := by rw [useG, if_pos h5]
    have h1 := hacc cs ([] ++ [(firstT c [5] L).1.f2]) (by simp)
    rw [e]
    have h2 := List.length_pos_iff.2 h1
    constructor
    · intro _; exact .inl h5
    · intro _; omega
  · have e : useG L (c :: cs) [] = ([], if (firstT c [9, 10] L).2 = true then [(firstT c [9, 10] L).1] else [], if (firstT c [7, 8] L).2 = true then [(firstT c [7, 8] L).1] else []) := by rw [useG, if_neg h5]
    rw [e]
    by_cases h9 : (firstT c [9, 10] L).2 = true
    · simp [h9]
      try omega
    · by_cases h7 : (firstT c [7, 8] L).2 = true
      · simp [h7]
        try omega
      · simp [h5, h9, h7]
theorem cnt_more (cols : List Int) (a b : List S69) (h : 0 < cntP a cols) : 0 < cntP (a ++ b) cols := by
  cases cols with
  | nil => simp [cntP, useG] at h
  | cons c cs =>
    rw [cnt_pos] at h ⊢
    rcases h with h | h | h
    · exact .inl (first_more _ _ _ _ h)
    · exact .inr (.inl (first_more _ _ _ _ h))
    · exact .inr (.inr (first_more _ _ _ _ h))
theorem best_one (L : List S69) (x : S41) : bestP L [x] 0 (-1) 0 = if 0 < cntP L x.f3 then 0 else -1 := by
  unfold bestP
  by_cases h : 0 < cntP L x.f3
  · rw [if_pos h, if_pos (by omega)]; rfl
  · rw [if_neg h, if_neg (by omega)]; rfl
theorem BoundsMore : ∀ (x0 : S41) (l1 : List (S58)) (l2 : List (S58)), G41 x0 → G32 l1 → G32 l2 → m41 x0 + m32 l1 + m32 l2 ≤ 1048576 → ∃ k, quarrylaw19_BoundsMore.f k (x0.f0) (x0.f1) (x0.f2) (x0.f3) (x0.f4) (x0.f5) l1 l2 = some true := by
  intro x0 l1 l2 g0 g1 g2 hm
  obtain ⟨s1, s2⟩ := known_terms g1 (by omega)
  obtain ⟨s3, s4⟩ := known_terms g2 (by omega)
  obtain ⟨s5, s6⟩ := known_index (x := x0) (by omega)
  apply Ev.get
  unfold quarrylaw19_BoundsMore.f
  refine Ev.bind works_ev (Ev.pos rfl ?_)
  refine Ev.bind (right_ev l1 (by omega)) ?_
  cases hr1 : rightB l1 with
  | false => exact Ev.neg (by decide) (Ev.pure _)
  | true =>
  refine Ev.pos rfl ?_
  refine Ev.bind (right_ev l2 (by omega)) ?_
  cases hr2 : rightB l2 with
  | false => exact Ev.neg (by decide) (Ev.pure _)
  | true =>
  refine Ev.pos rfl ?_
  by_cases hd : x0.f4.length = x0.f3.length
  case neg => exact Ev.neg hd (Ev.pure _)
  refine Ev.pos hd ?_
  refine Ev.bind (its_ev l1 (by omega)) ?_
  have hb := fun L => best_ev [(⟨x0.f0, x0.f1, x0.f2, x0.f3, x0.f4, x0.f5⟩ : S41)] L (by simp) (fun x hx => by simp at hx; subst hx; exact s5)
  refine Ev.bind (hb (l1.map toT)) ?_
  refine Ev.pos (by omega) ?_
  refine Ev.bind (its_ev (l1 ++ l2) (by simp; omega)) ?_
  refine Ev.bind (hb ((l1 ++ l2).map toT)) ?_
  rw [best_one, best_one, List.map_append]
  have hmore := cnt_more x0.f3 (l1.map toT) (l2.map toT)
  by_cases h : 0 < cntP (l1.map toT) x0.f3
  · rw [if_pos h, if_pos (hmore h)]
    exact Ev.pure _
  · rw [if_neg h]
    exact Ev.pure _
end Go.Proofs.Ytmfenomjhmhogaa.Pure
end
