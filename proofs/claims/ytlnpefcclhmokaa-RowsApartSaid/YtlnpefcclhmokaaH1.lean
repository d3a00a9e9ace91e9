/- Written in this session: the readers of rows by hand. -/
import Derived.Test.YtlnpefcclhmokaaP0
import Derived.WalkLawsBesides
import Derived.Outline
import Derived.Laws.Bits64
import Derived.Laws.BitsAllLaws
namespace Go.Proofs.Ytlnpefcclhmokaa.P
open Go.RowKit Go.Proofs.YtlnpefcclhmokaaW.PrintWords Go.Proofs.YtlnpefcclhmokaaW.PrintLast Go.Proofs.YtlnpefcclhmokaaW.PrintMore
attribute [local go_sem] max2_int min2_int max_two min_two max_three min_three max_four min_four   -- for this text's walks alone
set_option linter.unusedVariables false
set_option linter.unusedSimpArgs false


/-! ### Readers over bytes: what they come to (the same for the program's and the document's) -/
def PErr (c : Int) : Ending := .panicked [{ v := .iface 25 (.int .i64 c), recovered := false }]
def BytesIn (l : List Int) : Prop := ∀ x ∈ l, 0 ≤ x ∧ x ≤ 255
/-- A reader at block g over the bytes l, which lie in the world w0. -/
def Rd (w0 w : World) (g : Nat) (l : List Int) : Prop :=
  w0.heap.size ≤ g ∧ Below w0.heap.size w0 w ∧ BytesIn l ∧ ∃ A c, w.heap[g]? = some (.cells #[.slice A l.length c] 43 (0, 0)) ∧ l.length ≤ c ∧ ReadsInt w0 .u8 A l.length l
def RPost {α : Type} (enc : α → Value) (r : Except Int (α × List Int)) (w0 w : World) (g : Nat) (e : Ending) (w' : World) : Prop :=
  KeepBut w w' g none ∧ Below w0.heap.size w0 w' ∧ match r with
    | .error c => e = PErr c
    | .ok (x, t) => e = .returned (enc x) ∧ Rd w0 w' g t

def r_one : List Int → Except Int (Int × List Int)
  | [] => .error 1
  | c :: t => .ok (c, t)
def r_num : Nat → Int → List Int → Except Int (Int × List Int)
  | _, _, [] => .error 1
  | i, n, c :: t => if (c = 0 ∧ 0 < i) ∨ (1 < c ∧ i = 9) then .error 3 else if c < 128 then .ok (n + c % 128 * 2 ^ (7 * i), t) else r_num (i + 1) (n + c % 128 * 2 ^ (7 * i)) t

theorem C_ints {k : IntKind} {w : World} {A : Option Addr} {n : Nat} {xs : List Int} (h : Kd.C (Kd.int k) w A n xs) : ReadsInt w k A n xs := Kd.reads_of_C (enc := Value.int k) (d := (0 : Int)) (h1 := fun _ => rfl) h

theorem Rd.alive {w0 w w' : World} {g : Nat} {l : List Int} (h : Rd w0 w g l) (hb : Below w0.heap.size w0 w') (hg : w'.heap[g]? = w.heap[g]?) : Rd w0 w' g l := by
  obtain ⟨h1, _, hB, A, c, h2, h3⟩ := h
  exact ⟨h1, hb, hB, A, c, hg.trans h2, h3⟩

theorem rows_reader_one.calls (l : List Int) (g : Nat) (w0 w : World) (h : Rd w0 w g l) :
    Calls Try.prog 31 #[.pointer (some ⟨g, 0, none⟩)] w (RPost (Value.int .u8) (r_one l) w0 w g) := by
  obtain ⟨hg, hB, hbi, A, c, hb, hc, hR⟩ := h
  have hfz := blk_frozen hb 0
  cases l with
  | nil =>
    have hcell : w.cell? ⟨g, 0, none⟩ = some (.slice A 0 c) := (blk_cell hb 0).trans rfl
    have HB := Aside0.mk hB
    have Hb := Aside0.mk hb
    clear hB hR hb hbi
    go_enter Try.func31, Try.ntmps31
    go_wp2
    exact ⟨rfl, KeepBut.refl _ _ _, HB.out, rfl⟩
  | cons x t =>
    obtain ⟨ad, rfl, hx⟩ := hR.2.2 (by simp)
    have hx0 : w0.cell? ad = some (.int .u8 x) := by
      have := hx 0 (by simp)
      simpa [Addr.add] using this
    have hxc : w.cell? ad = some (.int .u8 x) := pw_cell_below hB hx0
    have hcell : w.cell? ⟨g, 0, none⟩ = some (.slice (some ad) (t.length + 1) c) := (blk_cell hb 0).trans rfl
    obtain ⟨i5, hi5, h55⟩ := Option.map_eq_some_iff.1 info5
    simp only [Prod.mk.injEq] at h55
    obtain ⟨A', hcut, hcutR⟩ := print_cut (P := Try.prog) 24 5 .i64 Try.underlying24 hi5 h55.2.1 (some ad) (t.length + 1) c 1 (by omega)
    rw [Nat.add_sub_cancel] at hcut hcutR
    have hcut1 : ∀ W : World, (Instr.slice 24 (.slice (some ad) (t.length + 1) c) (some (.int .i64 1)) none none).run Try.prog W = .ok (.slice A' t.length (c - 1)) W := fun W => hcut W
    clear hcut
    have hR' : ReadsInt w0 .u8 A' t.length t := hcutR w0 .u8 (x :: t) hc hR
    have HB := Aside0.mk hB
    have Hb := Aside0.mk hb
    have HR := Aside0.mk hR'
    have HC := Aside0.mk hc
    have HI := Aside0.mk hbi
    clear hB hR hb hR' hcutR hx hx0 hi5 h55 hbi
    go_enter Try.func31, Try.ntmps31
    go_wp2
    go_ret
    refine ⟨KeepBut.set_ (KeepBut.refl _ _ _) 0 _, Below.setCell HB.out hg _, rfl, hg, Below.setCell HB.out hg _, fun y hy => HI.out y (List.mem_cons_of_mem _ hy), A', c - 1, ?_, ?_, HR.out⟩
    · exact blk_set Hb.out 0 _
    · have := HC.out
      simp at this
      omega
theorem r_num_again {i : Nat} {n c : Int} {t : List Int} (h1 : ¬ ((c = 0 ∧ 0 < i) ∨ (1 < c ∧ i = 9))) (h2 : ¬ c < 128) : r_num i n (c :: t) = r_num (i + 1) (n + c % 128 * 2 ^ (7 * i)) t := by
  rw [r_num, if_neg h1, if_neg h2]
theorem num_step (i : Nat) (n c : Int) (hi : i ≤ 9) (hn0 : 0 ≤ n) (hn : n < 2 ^ (7 * i)) (hc0 : 0 ≤ c) (hc1 : c ≤ 255) (h9 : i = 9 → c ≤ 1) :
    ∃ S : Int, S = c % 128 * 2 ^ (7 * i) ∧ IntKind.u64.wrap (c % 128 * 2 ^ (7 * (i : Int)).toNat) = S ∧ Go.bits .or .u64 n S = n + S ∧ 0 ≤ n + S ∧ n + S < 2 ^ (7 * (i + 1)) := by
  obtain ⟨m, rfl⟩ := Int.eq_ofNat_of_zero_le hn0
  obtain ⟨d, hd⟩ := Int.eq_ofNat_of_zero_le (show 0 ≤ c % 128 by omega)
  have hd2 : d < 128 := by omega
  have hm : m < 2 ^ (7 * i) := by exact_mod_cast hn
  have hp : 0 < 2 ^ (7 * i) := Nat.pow_pos (by decide)
  have hlt : d * 2 ^ (7 * i) < 18446744073709551616 := by
    by_cases h : i = 9
    · subst h
      have := h9 rfl
      have : d ≤ 1 := by omega
      have : d * 2 ^ 63 ≤ 1 * 2 ^ 63 := Nat.mul_le_mul_right _ this
      omega
    · have h8 : 2 ^ (7 * i) ≤ 2 ^ 56 := Nat.pow_le_pow_right (by decide) (by omega)
      have : d * 2 ^ (7 * i) ≤ 127 * 2 ^ 56 := Nat.mul_le_mul (by omega) h8
      omega
  have ht : (7 * (i : Int)).toNat = 7 * i := by omega
  have hS : c % 128 * 2 ^ (7 * i) = ((d * 2 ^ (7 * i) : Nat) : Int) := by rw [hd]; push_cast; rfl
  refine ⟨((d * 2 ^ (7 * i) : Nat) : Int), hS.symm, ?_, ?_, by omega, ?_⟩
  · rw [ht, hS, IntKind.wrap_u64]
    omega
  · have hsum : m + d * 2 ^ (7 * i) < 18446744073709551616 ∨ True := .inr trivial
    have hm64 : m < 18446744073709551616 := by
      have : 2 ^ (7 * i) ≤ 2 ^ 63 := Nat.pow_le_pow_right (by decide) (by omega)
      omega
    rw [u64_or_nat m (d * 2 ^ (7 * i)) hm64 hlt]
    have := Nat.two_pow_add_eq_or_of_lt hm d
    rw [Nat.mul_comm] at this
    rw [Nat.or_comm, ← this]
    push_cast
    omega
  · have e : 2 ^ (7 * (i + 1)) = 128 * 2 ^ (7 * i) := by rw [Nat.mul_add, Nat.pow_add, Nat.mul_comm]
    have e2 : d * 2 ^ (7 * i) ≤ 127 * 2 ^ (7 * i) := Nat.mul_le_mul_right _ (by omega)
    have e3 : m + d * 2 ^ (7 * i) < 2 ^ (7 * (i + 1)) := by omega
    exact_mod_cast e3

set_option maxHeartbeats 1000000 in
theorem rows_reader_number.calls (l : List Int) (g : Nat) (w0 w : World) (h : Rd w0 w g l) :
    Calls Try.prog 21 #[.pointer (some ⟨g, 0, none⟩)] w (RPost (Value.int .u64) (r_num 0 0 l) w0 w g) := by
  obtain ⟨r, hr⟩ : ∃ r, r_num 0 0 l = r := ⟨_, rfl⟩
  rw [hr]
  have HA := Aside0.mk hr
  have HR := Aside0.mk h
  clear hr h
  go_enter Try.func21, Try.ntmps21
  go_wp2
  go_loopg [3, 4] (l.length + 1) (fun kq v3 v4 w' => ∃ (i : Nat) (n : Int) (l' : List Int), v3 = .int .u64 n ∧ v4 = .int .i64 (7 * (i : Int)) ∧ Aside0 (i ≤ 9 ∧ 0 ≤ n ∧ n < 2 ^ (7 * i)) ∧ Aside0 (r_num i n l' = r) ∧ Aside0 (l'.length < kq) ∧ Aside0 (Rd w0 w' g l') ∧ Aside0 (KeepBut w w' g none))
  case atStart => exact ⟨0, 0, l, rfl, rfl, ⟨by omega, by omega, by decide⟩, HA, ⟨by omega⟩, HR, ⟨KeepBut.refl _ _ _⟩⟩
  case round =>
    clear HA HR
    obtain ⟨i, n, l', rfl, rfl, HI, HA, HL, HR, HK⟩ := hrel
    cases l' with
    | nil =>
      obtain rfl : r = .error 1 := HA.out.symm
      go_wp2_with fail
      refine (rows_reader_one.calls [] g w0 _ HR.out).mono ?_
      rintro e w1 ⟨hk, hb, he⟩
      obtain rfl : e = .panicked [{ v := .iface 25 (.int .i64 1), recovered := false }] := he
      have HK1 := Aside0.mk hk
      have HB1 := Aside0.mk hb
      clear hk hb
      go_wp2
      exact ⟨rfl, KeepBut.trans HK.out HK1.out (.inl rfl), HB1.out, rfl⟩
    | cons c t =>
      have hc := HR.out.2.2.1 c (by simp)
      have h1 : Go.bits .and .u8 c 127 = c % 128 := bits_mask .u8 8 (by decide) wraps_u8 7 (by decide) c hc.1 (by omega)
      have h2 : IntKind.u64.wrap (c % 128) = c % 128 := by rw [IntKind.wrap_u64]; omega
      have hs0 : 0 ≤ 7 * (i : Int) := by omega
      have hs1 : 7 * (i : Int) ≤ 64 := by have := HI.out.1; omega
      obtain ⟨hc0, hc1⟩ := hc
      by_cases e0 : c = 0
      · by_cases ei : 0 < i
        · obtain rfl : r = .error 3 := by rw [← HA.out]; unfold r_num; rw [if_pos (by omega)]
          have b0 : (c == 0) = true := beq_iff_eq.mpr e0
          have b1 : decide (0 < 7 * (i : Int)) = true := decide_eq_true (by omega)
          clear e0 ei
          go_wp2_with fail
          refine (rows_reader_one.calls (c :: t) g w0 _ HR.out).mono ?_
          rintro e w1 ⟨hk, hb, he, hrd⟩
          obtain rfl : e = .returned (.int .u8 c) := he
          have HK1 := Aside0.mk hk
          have HB1 := Aside0.mk hb
          have HR1 := Aside0.mk hrd
          clear hk hb hrd
          go_wp2
          exact ⟨rfl, KeepBut.trans HK.out HK1.out (.inl rfl), HB1.out, rfl⟩
        · have b128 : decide (c < 128) = true := decide_eq_true (by omega)
          obtain ⟨S, hS, hw, hor, hS0, hS1⟩ := num_step i n c HI.out.1 HI.out.2.1 HI.out.2.2 hc0 hc1 (by omega)
          obtain rfl : r = .ok (n + S, t) := by rw [← HA.out]; unfold r_num; rw [if_neg (by omega), if_pos (by omega), hS]
          have b0 : (c == 0) = true := beq_iff_eq.mpr e0
          have b1 : decide (0 < 7 * (i : Int)) = false := decide_eq_false (by omega)
          have b2 : decide (1 < c) = false := decide_eq_false (by omega)
          clear e0 ei
          clear hS hS0 hS1
          go_wp2_with fail
          refine (rows_reader_one.calls (c :: t) g w0 _ HR.out).mono ?_
          rintro e w1 ⟨hk, hb, he, hrd⟩
          obtain rfl : e = .returned (.int .u8 c) := he
          have HK1 := Aside0.mk hk
          have HB1 := Aside0.mk hb
          have HR1 := Aside0.mk hrd
          clear hk hb hrd
          go_wp2
          go_ret
          exact ⟨KeepBut.trans HK.out HK1.out (.inl rfl), HB1.out, rfl, HR1.out⟩
      · have b0 : (c == 0) = false := beq_eq_false_iff_ne.mpr e0
        by_cases e1 : 1 < c
        · have b1 : decide (1 < c) = true := decide_eq_true e1
          by_cases e9 : i = 9
          · obtain rfl : r = .error 3 := by rw [← HA.out]; unfold r_num; rw [if_pos (by omega)]
            have b9 : ((7 * (i : Int)) == 63) = true := beq_iff_eq.mpr (by omega)
            clear e0 e1 e9
            go_wp2_with fail
            refine (rows_reader_one.calls (c :: t) g w0 _ HR.out).mono ?_
            rintro e w1 ⟨hk, hb, he, hrd⟩
            obtain rfl : e = .returned (.int .u8 c) := he
            have HK1 := Aside0.mk hk
            have HB1 := Aside0.mk hb
            have HR1 := Aside0.mk hrd
            clear hk hb hrd
            go_wp2
            exact ⟨rfl, KeepBut.trans HK.out HK1.out (.inl rfl), HB1.out, rfl⟩
          · have b9 : ((7 * (i : Int)) == 63) = false := beq_eq_false_iff_ne.mpr (by omega)
            by_cases e128 : c < 128
            · have b128 : decide (c < 128) = true := decide_eq_true (by omega)
              obtain ⟨S, hS, hw, hor, hS0, hS1⟩ := num_step i n c HI.out.1 HI.out.2.1 HI.out.2.2 hc0 hc1 (by omega)
              obtain rfl : r = .ok (n + S, t) := by rw [← HA.out]; unfold r_num; rw [if_neg (by omega), if_pos (by omega), hS]
              clear e0 e1 e9 e128
              clear hS hS0 hS1
              go_wp2_with fail
              refine (rows_reader_one.calls (c :: t) g w0 _ HR.out).mono ?_
              rintro e w1 ⟨hk, hb, he, hrd⟩
              obtain rfl : e = .returned (.int .u8 c) := he
              have HK1 := Aside0.mk hk
              have HB1 := Aside0.mk hb
              have HR1 := Aside0.mk hrd
              clear hk hb hrd
              go_wp2
              go_ret
              exact ⟨KeepBut.trans HK.out HK1.out (.inl rfl), HB1.out, rfl, HR1.out⟩
            · have b128 : decide (c < 128) = false := decide_eq_false (by omega)
              obtain ⟨S, hS, hw, hor, hS0, hS1⟩ := num_step i n c HI.out.1 HI.out.2.1 HI.out.2.2 hc0 hc1 (by omega)
              have HA1 : Aside0 (r_num (i + 1) (n + S) t = r) := ⟨by rw [← HA.out, hS, r_num_again (by omega) (by omega)]⟩
              have HI1 : Aside0 (i + 1 ≤ 9 ∧ 0 ≤ n + S ∧ n + S < 2 ^ (7 * (i + 1))) := ⟨by omega, hS0, hS1⟩
              clear e0 e1 e9 e128
              clear hS hS0 hS1
              go_wp2_with fail
              refine (rows_reader_one.calls (c :: t) g w0 _ HR.out).mono ?_
              rintro e w1 ⟨hk, hb, he, hrd⟩
              obtain rfl : e = .returned (.int .u8 c) := he
              have HK1 := Aside0.mk hk
              have HB1 := Aside0.mk hb
              have HR1 := Aside0.mk hrd
              clear hk hb hrd
              go_wp2
              obtain ⟨k1, rfl⟩ : ∃ k1, gk = k1 + 1 := ⟨gk - 1, by have := HL.out; simp at this; omega⟩
              go_roundg k1
              case measure => omega
              case rel => exact ⟨i + 1, n + S, t, rfl, by go_num, HI1, HA1, ⟨by have := HL.out; simp at this; omega⟩, HR1, ⟨KeepBut.trans HK.out HK1.out (.inl rfl)⟩⟩
        · have b1 : decide (1 < c) = false := decide_eq_false e1
          have b128 : decide (c < 128) = true := decide_eq_true (by omega)
          obtain ⟨S, hS, hw, hor, hS0, hS1⟩ := num_step i n c HI.out.1 HI.out.2.1 HI.out.2.2 hc0 hc1 (by omega)
          obtain rfl : r = .ok (n + S, t) := by rw [← HA.out]; unfold r_num; rw [if_neg (by omega), if_pos (by omega), hS]
          clear e0 e1
          clear hS hS0 hS1
          go_wp2_with fail
          refine (rows_reader_one.calls (c :: t) g w0 _ HR.out).mono ?_
          rintro e w1 ⟨hk, hb, he, hrd⟩
          obtain rfl : e = .returned (.int .u8 c) := he
          have HK1 := Aside0.mk hk
          have HB1 := Aside0.mk hb
          have HR1 := Aside0.mk hrd
          clear hk hb hrd
          go_wp2
          go_ret
          exact ⟨KeepBut.trans HK.out HK1.out (.inl rfl), HB1.out, rfl, HR1.out⟩
def unzig (n : Int) : Int := if n % 2 = 0 then n / 2 else -(n / 2) - 1
def V0 : ByteArray := ⟨#[]⟩
def r_val : List Int → Except Int (S38 × List Int)
  | [] => .error 1
  | k :: l =>
    if k = 0 then .ok (⟨0, 0, V0⟩, l)
    else if k = 1 then (match l with | [] => .error 1 | c :: t => if 1 < c then .error 3 else .ok (⟨1, c, V0⟩, t))
    else if k = 2 then (match r_num 0 0 l with | .error e => .error e | .ok (n, t) => .ok (⟨2, unzig n, V0⟩, t))
    else if k = 3 ∨ k = 4 then (match r_num 0 0 l with | .error e => .error e | .ok (n, t) => if (t.length : Int) < n then .error 1 else .ok (⟨k, 0, strOfNums (t.take n.toNat)⟩, t.drop n.toNat))
    else .error 5
def encV (v : S38) : Value := .agg #[.int .i64 v.f0, .int .i64 v.f1, .string v.f2]

theorem r_num_bound {l : List Int} : ∀ {i : Nat} {n v : Int} {t : List Int}, BytesIn l → i ≤ 9 → 0 ≤ n → n < 2 ^ (7 * i) → r_num i n l = .ok (v, t) → 0 ≤ v ∧ v < 18446744073709551616 := by
  induction l with
  | nil => intro i n v t _ _ _ _ h; simp [r_num] at h
  | cons c l ih =>
    intro i n v t hb hi hn0 hn1 h
    have hc := hb c (by simp)
    by_cases e1 : (c = 0 ∧ 0 < i) ∨ (1 < c ∧ i = 9)
    · rw [r_num, if_pos e1] at h; cases h
    · obtain ⟨S, hS, hw, hor, hS0, hS1⟩ := num_step i n c hi hn0 hn1 hc.1 hc.2 (by omega)
      have hw2 : S < 18446744073709551616 ∧ 0 ≤ S := by rw [← hw, IntKind.wrap_u64]; omega
      by_cases e2 : c < 128
      · rw [r_num, if_neg e1, if_pos e2, ← hS] at h
        simp only [Except.ok.injEq, Prod.mk.injEq] at h
        obtain ⟨rfl, _⟩ := h
        refine ⟨hS0, ?_⟩
        by_cases e9 : i = 9
        · subst e9
          have : c % 128 ≤ 1 := by omega
          have h2 : S ≤ 9223372036854775808 := by
            rw [hS]
            have : c % 128 = 0 ∨ c % 128 = 1 := by omega
            rcases this with h | h <;> rw [h] <;> decide
          have h3 : n < 9223372036854775808 := hn1
          omega
        · have h3 : (2 : Int) ^ (7 * (i + 1)) ≤ 2 ^ 63 := by
            have : 2 ^ (7 * (i + 1)) ≤ 2 ^ 63 := Nat.pow_le_pow_right (by decide) (by omega)
            exact_mod_cast this
          have h4 : (2 : Int) ^ 63 = 9223372036854775808 := by decide
          omega
      · rw [r_num_again e1 e2, ← hS] at h
        refine ih (fun x hx => hb x (List.mem_cons_of_mem _ hx)) ?_ hS0 hS1 h
        by_cases e9 : i = 9
        · omega
        · omega

theorem Rd.alloc {w0 w : World} {g : Nat} {l : List Int} (h : Rd w0 w g l) (o : Obj) : Rd w0 (w.alloc o) g l := by
  obtain ⟨A, c, h2, h3⟩ := h.2.2.2
  exact h.alive (h.2.1.alloc h.2.1.size o) (blk_alloc h2 o |>.trans h2.symm)
/-- What a walk through 'value' keeps. -/
def Iv (w0 w W : World) (g : Nat) (l : List Int) : Prop := KeepBut w W g none ∧ Rd w0 W g l
theorem Iv.set {w0 w W : World} {g b : Nat} {l : List Int} (hg : g < w.heap.size) (hb : w.heap.size ≤ b) (h : Iv w0 w W g l) (j : Nat) (u : Value) : Iv w0 w (W.setCell ⟨b, j, none⟩ u) g l :=
  ⟨keep_far h.1 hb u, h.2.alive (Below.setCell h.2.2.1 (by have := h.2.1; show w0.heap.size ≤ b; omega) _) (Below.heap_setCell W ⟨b, j, none⟩ u g (by show g ≠ b; omega))⟩
theorem Iv.alloc {w0 w W : World} {g : Nat} {l : List Int} (h : Iv w0 w W g l) (o : Obj) : Iv w0 w (W.alloc o) g l := ⟨keep_alloc h.1 o, h.2.alloc o⟩
theorem Iv.drew {w0 w W : World} {g : Nat} {l : List Int} (h : Iv w0 w W g l) : Iv w0 w W.drew g l := ⟨keep_drew h.1, h.2.alive (below_drew h.2.2.1) rfl⟩
theorem Iv.post {α : Type} {enc : α → Value} {w0 w W : World} {g : Nat} {l : List Int} {x : α} (h : Iv w0 w W g l) : RPost enc (.ok (x, l)) w0 w g (.returned (enc x)) W := ⟨h.1, h.2.2.1, rfl, h.2⟩
theorem Iv.then {α : Type} {enc : α → Value} {w0 w W W1 : World} {g : Nat} {l t : List Int} {x : α} {e : Ending} (h : Iv w0 w W g l) (h1 : RPost enc (.ok (x, t)) w0 W g e W1) : e = .returned (enc x) ∧ Iv w0 w W1 g t := ⟨h1.2.2.1, KeepBut.trans h.1 h1.1 (.inl rfl), h1.2.2.2⟩
theorem Iv.fail {α β : Type} {enc : α → Value} {enc' : β → Value} {w0 w W W1 : World} {g : Nat} {l : List Int} {c : Int} {e : Ending} (h : Iv w0 w W g l) (h1 : RPost enc (.error c) w0 W g e W1) : e = .panicked [{ v := .iface 25 (.int .i64 c), recovered := false }] ∧ RPost enc' (.error c : Except Int (β × List Int)) w0 w g (PErr c) W1 := ⟨h1.2.2, KeepBut.trans h.1 h1.1 (.inl rfl), h1.2.1, rfl⟩
theorem Iv.err {β : Type} {enc' : β → Value} {w0 w W : World} {g : Nat} {l : List Int} (h : Iv w0 w W g l) (c : Int) : RPost enc' (.error c : Except Int (β × List Int)) w0 w g (.panicked [{ v := .iface 25 (.int .i64 c), recovered := false }]) W := ⟨h.1, h.2.2.1, rfl⟩
theorem Iv.turn {w0 w W : World} {g m c' : Nat} {l : List Int} {A' : Option Addr} (h : Iv w0 w W g l) (hc : l.length - m ≤ c') (hR : ReadsInt w0 .u8 A' (l.length - m) (l.drop m)) : Iv w0 w (W.setCell ⟨g, 0, none⟩ (.slice A' (l.length - m) c')) g (l.drop m) := by
  obtain ⟨hk, hg, hb, hB, A, c, h1, h2, h3⟩ := h
  refine ⟨KeepBut.set_ hk 0 _, hg, Below.setCell hb hg _, fun x hx => hB x (List.mem_of_mem_drop hx), A', c', ?_, ?_, ?_⟩
  · rw [List.length_drop]
    exact blk_set h1 0 _
  · rw [List.length_drop]; exact hc
  · rw [List.length_drop]; exact hR
theorem Rd.lt {w0 w : World} {g : Nat} {l : List Int} (h : Rd w0 w g l) : g < w.heap.size := by obtain ⟨A, c, h2, _⟩ := h.2.2.2; exact blk_lt h2
theorem v_new {W W1 : World} {g : Nat} {o : Obj} (hg : g < W.heap.size) (h : KeepBut (W.alloc o) W1 g none) : W.heap.size < W1.heap.size ∧ W1.heap[W.heap.size]? = some o := by
  refine ⟨?_, ?_⟩
  · have h1 := h.1
    have h2 : (W.alloc o).heap.size = W.heap.size + 1 := by show (W.heap.push _).size = _; rw [Array.size_push]
    omega
  · exact h.blk (by show (W.heap.push _)[W.heap.size]? = _; rw [Array.getElem?_push_size]) (by omega) (by simp)
theorem v_old {W W1 : World} {g b : Nat} {o o' : Obj} (hg : g ≠ b) (hb : W.heap[b]? = some o') (h : KeepBut (W.alloc o) W1 g none) : W1.heap[b]? = some o' := h.blk (blk_alloc hb o) (by omega) (by simp)

set_option maxHeartbeats 2000000 in
set_option maxRecDepth 100000 in
theorem rows_reader_value.nil  (g : Nat) (w0 w : World) (h : Rd w0 w g []) :
    Calls Try.prog 22 #[.pointer (some ⟨g, 0, none⟩)] w (RPost encV (.error 1) w0 w g) := by
  have hu38 := Try.underlying38
  have HG := Aside0.mk h.lt
  have HI : Aside0 (Iv w0 w w g []) := ⟨KeepBut.refl w g none, h⟩
  clear h
  go_enter Try.func22, Try.ntmps22
  go_wp2_with fail
  refine (rows_reader_one.calls [] g w0 _ (HI.out.alloc _).2).mono ?_
  rintro e w1 h1
  obtain ⟨he, hi⟩ := (HI.out.alloc _).fail (enc' := encV) h1
  obtain rfl := he
  have HP := Aside0.mk hi
  clear hi h1
  go_wp2
  exact ⟨rfl, HP.out⟩
set_option maxHeartbeats 2000000 in
set_option maxRecDepth 100000 in
theorem rows_reader_value.zero (k : Int) (t : List Int) (g : Nat) (w0 w : World) (h : Rd w0 w g (k :: t)) (e : k = 0) :
    Calls Try.prog 22 #[.pointer (some ⟨g, 0, none⟩)] w (RPost encV (.ok (⟨0, 0, V0⟩, t)) w0 w g) := by
  have hu38 := Try.underlying38
  have HG := Aside0.mk h.lt
  have HI : Aside0 (Iv w0 w w g (k :: t)) := ⟨KeepBut.refl w g none, h⟩
  obtain ⟨hk0, hk1⟩ := h.2.2.1 k (by simp)
  clear h
  have b0 : (k == 0) = true := beq_iff_eq.mpr e
  go_enter Try.func22, Try.ntmps22
  go_wp2_with fail
  refine (rows_reader_one.calls (k :: _) g w0 _ (HI.out.alloc _).2).mono ?_
  rintro e w1 h1
  obtain ⟨hz, F2⟩ := v_new HG.out h1.1
  obtain ⟨he, hi⟩ := (HI.out.alloc _).then h1
  obtain rfl : e = .returned (.int .u8 k) := he
  clear h1 HI
  have HI := Aside0.mk hi
  clear hi
  have hca0 : World.cell? _ ⟨w.heap.size, 0, none⟩ = some (.int .i64 0) := (blk_cell F2 0).trans rfl
  have hfa0 := blk_frozen F2 0
  have hca1 : World.cell? _ ⟨w.heap.size, 1, none⟩ = some (.int .i64 0) := (blk_cell F2 1).trans rfl
  have hfa1 := blk_frozen F2 1
  have hca2 : World.cell? _ ⟨w.heap.size, 2, none⟩ = some (.string (⟨#[]⟩ : ByteArray)) := (blk_cell F2 2).trans rfl
  have hfa2 := blk_frozen F2 2
  have HF := Aside0.mk F2
  clear F2
  go_wp2
  subst e
  exact bodyPost_ret (v := .agg #[.int .i64 0, .int .i64 0, .string V0]) (by simp [results, Try.results22, go_sem, V0, hz, hca0, hca1, hca2]) rfl ((((HI.out.set HG.out (Nat.le_refl _) 0 _).set HG.out (Nat.le_refl _) 1 _).set HG.out (Nat.le_refl _) 2 _).alloc _).post
set_option maxHeartbeats 2000000 in
set_option maxRecDepth 100000 in
theorem rows_reader_value.other (k : Int) (t : List Int) (g : Nat) (w0 w : World) (h : Rd w0 w g (k :: t)) (e : k ≠ 0 ∧ k ≠ 1 ∧ k ≠ 2 ∧ k ≠ 3 ∧ k ≠ 4) :
    Calls Try.prog 22 #[.pointer (some ⟨g, 0, none⟩)] w (RPost encV (.error 5) w0 w g) := by
  have hu38 := Try.underlying38
  have HG := Aside0.mk h.lt
  have HI : Aside0 (Iv w0 w w g (k :: t)) := ⟨KeepBut.refl w g none, h⟩
  obtain ⟨hk0, hk1⟩ := h.2.2.1 k (by simp)
  clear h
  have b0 : (k == 0) = false := beq_eq_false_iff_ne.mpr (by omega)
  have b1 : (k == 1) = false := beq_eq_false_iff_ne.mpr (by omega)
  have b2 : (k == 2) = false := beq_eq_false_iff_ne.mpr (by omega)
  have b3 : (k == 3) = false := beq_eq_false_iff_ne.mpr (by omega)
  have b4 : (k == 4) = false := beq_eq_false_iff_ne.mpr (by omega)
  clear e
  go_enter Try.func22, Try.ntmps22
  go_wp2_with fail
  refine (rows_reader_one.calls (k :: _) g w0 _ (HI.out.alloc _).2).mono ?_
  rintro e w1 h1
  obtain ⟨hz, F2⟩ := v_new HG.out h1.1
  obtain ⟨he, hi⟩ := (HI.out.alloc _).then h1
  obtain rfl : e = .returned (.int .u8 k) := he
  clear h1 HI
  have HI := Aside0.mk hi
  clear hi
  have hca0 : World.cell? _ ⟨w.heap.size, 0, none⟩ = some (.int .i64 0) := (blk_cell F2 0).trans rfl
  have hfa0 := blk_frozen F2 0
  have hca1 : World.cell? _ ⟨w.heap.size, 1, none⟩ = some (.int .i64 0) := (blk_cell F2 1).trans rfl
  have hfa1 := blk_frozen F2 1
  have hca2 : World.cell? _ ⟨w.heap.size, 2, none⟩ = some (.string (⟨#[]⟩ : ByteArray)) := (blk_cell F2 2).trans rfl
  have hfa2 := blk_frozen F2 2
  have HF := Aside0.mk F2
  clear F2
  go_wp2
  exact ⟨rfl, (HI.out.alloc _).err 5⟩
set_option maxHeartbeats 2000000 in
set_option maxRecDepth 100000 in
theorem rows_reader_value.bool_none (k : Int) (t : List Int) (g : Nat) (w0 w : World) (h : Rd w0 w g (k :: t)) (e : k = 1) (et : t = []) :
    Calls Try.prog 22 #[.pointer (some ⟨g, 0, none⟩)] w (RPost encV (.error 1) w0 w g) := by
  have hu38 := Try.underlying38
  have HG := Aside0.mk h.lt
  have HI : Aside0 (Iv w0 w w g (k :: t)) := ⟨KeepBut.refl w g none, h⟩
  obtain ⟨hk0, hk1⟩ := h.2.2.1 k (by simp)
  clear h
  subst et
  have b0 : (k == 0) = false := beq_eq_false_iff_ne.mpr (by omega)
  have b1 : (k == 1) = true := beq_iff_eq.mpr e
  go_enter Try.func22, Try.ntmps22
  go_wp2_with fail
  refine (rows_reader_one.calls (k :: _) g w0 _ (HI.out.alloc _).2).mono ?_
  rintro e w1 h1
  obtain ⟨hz, F2⟩ := v_new HG.out h1.1
  obtain ⟨he, hi⟩ := (HI.out.alloc _).then h1
  obtain rfl : e = .returned (.int .u8 k) := he
  clear h1 HI
  have HI := Aside0.mk hi
  clear hi
  have hca0 : World.cell? _ ⟨w.heap.size, 0, none⟩ = some (.int .i64 0) := (blk_cell F2 0).trans rfl
  have hfa0 := blk_frozen F2 0
  have hca1 : World.cell? _ ⟨w.heap.size, 1, none⟩ = some (.int .i64 0) := (blk_cell F2 1).trans rfl
  have hfa1 := blk_frozen F2 1
  have hca2 : World.cell? _ ⟨w.heap.size, 2, none⟩ = some (.string (⟨#[]⟩ : ByteArray)) := (blk_cell F2 2).trans rfl
  have hfa2 := blk_frozen F2 2
  have HF := Aside0.mk F2
  clear F2
  go_wp2_with fail
  refine (rows_reader_one.calls [] g w0 _ (HI.out.alloc _).2).mono ?_
  rintro e w2 h2
  obtain ⟨he, hi⟩ := (HI.out.alloc _).fail (enc' := encV) h2
  obtain rfl := he
  have HP := Aside0.mk hi
  clear hi h2
  go_wp2
  exact ⟨rfl, HP.out⟩
set_option maxHeartbeats 2000000 in
set_option maxRecDepth 100000 in
theorem rows_reader_value.bool_bad (k : Int) (t : List Int) (g : Nat) (w0 w : World) (h : Rd w0 w g (k :: t)) (e : k = 1) (c : Int) (t2 : List Int) (et : t = c :: t2) (e2 : 1 < c) :
    Calls Try.prog 22 #[.pointer (some ⟨g, 0, none⟩)] w (RPost encV (.error 3) w0 w g) := by
  have hu38 := Try.underlying38
  have HG := Aside0.mk h.lt
  have HI : Aside0 (Iv w0 w w g (k :: t)) := ⟨KeepBut.refl w g none, h⟩
  obtain ⟨hk0, hk1⟩ := h.2.2.1 k (by simp)
  clear h
  subst et
  obtain ⟨hc0, hc1⟩ := HI.out.2.2.2.1 c (by simp)
  have b0 : (k == 0) = false := beq_eq_false_iff_ne.mpr (by omega)
  have b1 : (k == 1) = true := beq_iff_eq.mpr e
  go_enter Try.func22, Try.ntmps22
  go_wp2_with fail
  refine (rows_reader_one.calls (k :: _) g w0 _ (HI.out.alloc _).2).mono ?_
  rintro e w1 h1
  obtain ⟨hz, F2⟩ := v_new HG.out h1.1
  obtain ⟨he, hi⟩ := (HI.out.alloc _).then h1
  obtain rfl : e = .returned (.int .u8 k) := he
  clear h1 HI
  have HI := Aside0.mk hi
  clear hi
  have hca0 : World.cell? _ ⟨w.heap.size, 0, none⟩ = some (.int .i64 0) := (blk_cell F2 0).trans rfl
  have hfa0 := blk_frozen F2 0
  have hca1 : World.cell? _ ⟨w.heap.size, 1, none⟩ = some (.int .i64 0) := (blk_cell F2 1).trans rfl
  have hfa1 := blk_frozen F2 1
  have hca2 : World.cell? _ ⟨w.heap.size, 2, none⟩ = some (.string (⟨#[]⟩ : ByteArray)) := (blk_cell F2 2).trans rfl
  have hfa2 := blk_frozen F2 2
  have HF := Aside0.mk F2
  clear F2
  go_wp2_with fail
  refine (rows_reader_one.calls (c :: t2) g w0 _ (HI.out.alloc _).2).mono ?_
  rintro e w2 h2
  clear hca0 hfa0
  clear hca1 hfa1
  clear hca2 hfa2
  obtain ⟨hz2, F3⟩ := v_new HI.out.2.lt h2.1
  have F2 := v_old (by have := HG.out; omega) HF.out h2.1
  have hz3 : w.heap.size < w2.heap.size := by omega
  obtain ⟨he, hi⟩ := (HI.out.alloc _).then h2
  obtain rfl : e = .returned (.int .u8 c) := he
  clear h2 HI HF
  have HI := Aside0.mk hi
  clear hi
  have hca0 : World.cell? w2 ⟨w.heap.size, 0, none⟩ = some (.int .i64 0) := (blk_cell F2 0).trans rfl
  have hfa0 : w2.frozen? ⟨w.heap.size, 0, none⟩ = false := blk_frozen F2 0
  have hca1 : World.cell? w2 ⟨w.heap.size, 1, none⟩ = some (.int .i64 0) := (blk_cell F2 1).trans rfl
  have hfa1 : w2.frozen? ⟨w.heap.size, 1, none⟩ = false := blk_frozen F2 1
  have hca2 : World.cell? w2 ⟨w.heap.size, 2, none⟩ = some (.string (⟨#[]⟩ : ByteArray)) := (blk_cell F2 2).trans rfl
  have hfa2 : w2.frozen? ⟨w.heap.size, 2, none⟩ = false := blk_frozen F2 2
  have hcb0 : World.cell? w2 ⟨w1.heap.size, 0, none⟩ = some (.int .i64 1) := (blk_cell F3 0).trans rfl
  have hfb0 : w2.frozen? ⟨w1.heap.size, 0, none⟩ = false := blk_frozen F3 0
  have hcb1 : World.cell? w2 ⟨w1.heap.size, 1, none⟩ = some (.int .i64 0) := (blk_cell F3 1).trans rfl
  have hfb1 : w2.frozen? ⟨w1.heap.size, 1, none⟩ = false := blk_frozen F3 1
  have hcb2 : World.cell? w2 ⟨w1.heap.size, 2, none⟩ = some (.string (⟨#[]⟩ : ByteArray)) := (blk_cell F3 2).trans rfl
  have hfb2 : w2.frozen? ⟨w1.heap.size, 2, none⟩ = false := blk_frozen F3 2
  have GB := Aside0.mk (show w.heap.size ≤ w1.heap.size by omega)
  have hne : ¬ w.heap.size = w1.heap.size := by omega
  have hne' : ¬ w1.heap.size = w.heap.size := by omega
  clear F2 F3
  go_wp2
  exact ⟨rfl, HI.out.err 3⟩
set_option maxHeartbeats 2000000 in
set_option maxRecDepth 100000 in
theorem rows_reader_value.bool (k : Int) (t : List Int) (g : Nat) (w0 w : World) (h : Rd w0 w g (k :: t)) (e : k = 1) (c : Int) (t2 : List Int) (et : t = c :: t2) (e2 : ¬ 1 < c) :
    Calls Try.prog 22 #[.pointer (some ⟨g, 0, none⟩)] w (RPost encV (.ok (⟨1, c, V0⟩, t2)) w0 w g) := by
  have hu38 := Try.underlying38
  have HG := Aside0.mk h.lt
  have HI : Aside0 (Iv w0 w w g (k :: t)) := ⟨KeepBut.refl w g none, h⟩
  obtain ⟨hk0, hk1⟩ := h.2.2.1 k (by simp)
  clear h
  subst et
  obtain ⟨hc0, hc1⟩ := HI.out.2.2.2.1 c (by simp)
  have b0 : (k == 0) = false := beq_eq_false_iff_ne.mpr (by omega)
  have b1 : (k == 1) = true := beq_iff_eq.mpr e
  go_enter Try.func22, Try.ntmps22
  go_wp2_with fail
  refine (rows_reader_one.calls (k :: _) g w0 _ (HI.out.alloc _).2).mono ?_
  rintro e w1 h1
  obtain ⟨hz, F2⟩ := v_new HG.out h1.1
  obtain ⟨he, hi⟩ := (HI.out.alloc _).then h1
  obtain rfl : e = .returned (.int .u8 k) := he
  clear h1 HI
  have HI := Aside0.mk hi
  clear hi
  have hca0 : World.cell? _ ⟨w.heap.size, 0, none⟩ = some (.int .i64 0) := (blk_cell F2 0).trans rfl
  have hfa0 := blk_frozen F2 0
  have hca1 : World.cell? _ ⟨w.heap.size, 1, none⟩ = some (.int .i64 0) := (blk_cell F2 1).trans rfl
  have hfa1 := blk_frozen F2 1
  have hca2 : World.cell? _ ⟨w.heap.size, 2, none⟩ = some (.string (⟨#[]⟩ : ByteArray)) := (blk_cell F2 2).trans rfl
  have hfa2 := blk_frozen F2 2
  have HF := Aside0.mk F2
  clear F2
  go_wp2_with fail
  refine (rows_reader_one.calls (c :: t2) g w0 _ (HI.out.alloc _).2).mono ?_
  rintro e w2 h2
  clear hca0 hfa0
  clear hca1 hfa1
  clear hca2 hfa2
  obtain ⟨hz2, F3⟩ := v_new HI.out.2.lt h2.1
  have F2 := v_old (by have := HG.out; omega) HF.out h2.1
  have hz3 : w.heap.size < w2.heap.size := by omega
  obtain ⟨he, hi⟩ := (HI.out.alloc _).then h2
  obtain rfl : e = .returned (.int .u8 c) := he
  clear h2 HI HF
  have HI := Aside0.mk hi
  clear hi
  have hca0 : World.cell? w2 ⟨w.heap.size, 0, none⟩ = some (.int .i64 0) := (blk_cell F2 0).trans rfl
  have hfa0 : w2.frozen? ⟨w.heap.size, 0, none⟩ = false := blk_frozen F2 0
  have hca1 : World.cell? w2 ⟨w.heap.size, 1, none⟩ = some (.int .i64 0) := (blk_cell F2 1).trans rfl
  have hfa1 : w2.frozen? ⟨w.heap.size, 1, none⟩ = false := blk_frozen F2 1
  have hca2 : World.cell? w2 ⟨w.heap.size, 2, none⟩ = some (.string (⟨#[]⟩ : ByteArray)) := (blk_cell F2 2).trans rfl
  have hfa2 : w2.frozen? ⟨w.heap.size, 2, none⟩ = false := blk_frozen F2 2
  have hcb0 : World.cell? w2 ⟨w1.heap.size, 0, none⟩ = some (.int .i64 1) := (blk_cell F3 0).trans rfl
  have hfb0 : w2.frozen? ⟨w1.heap.size, 0, none⟩ = false := blk_frozen F3 0
  have hcb1 : World.cell? w2 ⟨w1.heap.size, 1, none⟩ = some (.int .i64 0) := (blk_cell F3 1).trans rfl
  have hfb1 : w2.frozen? ⟨w1.heap.size, 1, none⟩ = false := blk_frozen F3 1
  have hcb2 : World.cell? w2 ⟨w1.heap.size, 2, none⟩ = some (.string (⟨#[]⟩ : ByteArray)) := (blk_cell F3 2).trans rfl
  have hfb2 : w2.frozen? ⟨w1.heap.size, 2, none⟩ = false := blk_frozen F3 2
  have GB := Aside0.mk (show w.heap.size ≤ w1.heap.size by omega)
  have hne : ¬ w.heap.size = w1.heap.size := by omega
  have hne' : ¬ w1.heap.size = w.heap.size := by omega
  clear F2 F3
  subst e
  go_wp2
  exact bodyPost_ret (v := .agg #[.int .i64 1, .int .i64 c, .string V0]) (by simp [results, Try.results22, go_sem, V0, hz3, hz2, hne, hne', hca0, hca1, hca2, hcb0, hcb1, hcb2]) rfl (((((HI.out.set HG.out GB.out 1 _).set HG.out (Nat.le_refl _) 0 _).set HG.out (Nat.le_refl _) 1 _).set HG.out (Nat.le_refl _) 2 _)).post
theorem unzig_bits (n : Int) (h0 : 0 ≤ n) (h1 : n < 18446744073709551616) : Go.bits .and .u64 n 1 = n % 2 ∧ wrap64 (n / 2) = n / 2 ∧ Go.bits .xor .i64 (n / 2) (-(n % 2)) = unzig n := by
  have ha : Go.bits .and .u64 n 1 = n % 2 := bits_mask .u64 64 (by decide) (fun m h0 h1 => by rw [IntKind.wrap_u64]; omega) 1 (by decide) n h0 h1
  refine ⟨ha, by unfold wrap64; omega, ?_⟩
  obtain ⟨m, hm⟩ := Int.eq_ofNat_of_zero_le (show 0 ≤ n / 2 by omega)
  have hm2 : m < 9223372036854775808 := by omega
  have hv : (BitVec.ofInt 64 ((m : Nat) : Int)).toNat = m := by
    rw [BitVec.ofInt_natCast, BitVec.toNat_ofNat]; exact Nat.mod_eq_of_lt (by omega)
  unfold unzig
  by_cases e : n % 2 = 0
  · rw [if_pos e, e, hm]
    show IntKind.i64.wrap ((BitVec.ofInt 64 ((m : Nat) : Int) ^^^ BitVec.ofInt 64 (-0)).toNat : Int) = _
    have h0 : BitVec.ofInt 64 (-0) = 0#64 := by decide
    rw [h0, BitVec.xor_zero, hv, IntKind.wrap_i64]
    omega
  · rw [if_neg e, show n % 2 = 1 by omega, hm]
    show IntKind.i64.wrap ((BitVec.ofInt 64 ((m : Nat) : Int) ^^^ BitVec.ofInt 64 (-1)).toNat : Int) = _
    have h0 : BitVec.ofInt 64 (-1) = BitVec.allOnes 64 := by decide
    rw [h0, BitVec.xor_allOnes, BitVec.toNat_not, hv, IntKind.wrap_i64]
    omega

set_option maxHeartbeats 2000000 in
set_option maxRecDepth 100000 in
theorem rows_reader_value.num_none (k : Int) (t : List Int) (g : Nat) (w0 w : World) (h : Rd w0 w g (k :: t)) (e : k = 2) (c : Int) (et : r_num 0 0 t = .error c) :
    Calls Try.prog 22 #[.pointer (some ⟨g, 0, none⟩)] w (RPost encV (.error c) w0 w g) := by
  have hu38 := Try.underlying38
  have HG := Aside0.mk h.lt
  have HI : Aside0 (Iv w0 w w g (k :: t)) := ⟨KeepBut.refl w g none, h⟩
  obtain ⟨hk0, hk1⟩ := h.2.2.1 k (by simp)
  clear h
  have b0 : (k == 0) = false := beq_eq_false_iff_ne.mpr (by omega)
  have b1 : (k == 1) = false := beq_eq_false_iff_ne.mpr (by omega)
  have b2 : (k == 2) = true := beq_iff_eq.mpr e
  have ET := Aside0.mk et
  clear et
  go_enter Try.func22, Try.ntmps22
  go_wp2_with fail
  refine (rows_reader_one.calls (k :: _) g w0 _ (HI.out.alloc _).2).mono ?_
  rintro e w1 h1
  obtain ⟨hz, F2⟩ := v_new HG.out h1.1
  obtain ⟨he, hi⟩ := (HI.out.alloc _).then h1
  obtain rfl : e = .returned (.int .u8 k) := he
  clear h1 HI
  have HI := Aside0.mk hi
  clear hi
  have hca0 : World.cell? _ ⟨w.heap.size, 0, none⟩ = some (.int .i64 0) := (blk_cell F2 0).trans rfl
  have hfa0 := blk_frozen F2 0
  have hca1 : World.cell? _ ⟨w.heap.size, 1, none⟩ = some (.int .i64 0) := (blk_cell F2 1).trans rfl
  have hfa1 := blk_frozen F2 1
  have hca2 : World.cell? _ ⟨w.heap.size, 2, none⟩ = some (.string (⟨#[]⟩ : ByteArray)) := (blk_cell F2 2).trans rfl
  have hfa2 := blk_frozen F2 2
  have HF := Aside0.mk F2
  clear F2
  go_wp2_with fail
  refine (rows_reader_number.calls t g w0 _ (HI.out.alloc _).2).mono ?_
  rintro e w2 h2
  rw [ET.out] at h2
  obtain ⟨he, hi⟩ := (HI.out.alloc _).fail (enc' := encV) h2
  obtain rfl := he
  have HP := Aside0.mk hi
  clear hi h2
  go_wp2
  exact ⟨rfl, HP.out⟩
set_option maxHeartbeats 2000000 in
set_option maxRecDepth 100000 in
theorem rows_reader_value.num (k : Int) (t : List Int) (g : Nat) (w0 w : World) (h : Rd w0 w g (k :: t)) (e : k = 2) (n : Int) (t2 : List Int) (et : r_num 0 0 t = .ok (n, t2)) :
    Calls Try.prog 22 #[.pointer (some ⟨g, 0, none⟩)] w (RPost encV (.ok (⟨2, unzig n, V0⟩, t2)) w0 w g) := by
  have hu38 := Try.underlying38
  have HG := Aside0.mk h.lt
  have HI : Aside0 (Iv w0 w w g (k :: t)) := ⟨KeepBut.refl w g none, h⟩
  obtain ⟨hk0, hk1⟩ := h.2.2.1 k (by simp)
  clear h
  have b0 : (k == 0) = false := beq_eq_false_iff_ne.mpr (by omega)
  have b1 : (k == 1) = false := beq_eq_false_iff_ne.mpr (by omega)
  have b2 : (k == 2) = true := beq_iff_eq.mpr e
  obtain ⟨hn0, hn1⟩ := r_num_bound (fun x hx => HI.out.2.2.2.1 x (List.mem_cons_of_mem _ hx)) (by omega) (by omega) (by decide) et
  obtain ⟨ha, hw, hx⟩ := unzig_bits n hn0 hn1
  have ET := Aside0.mk et
  clear et
  go_enter Try.func22, Try.ntmps22
  go_wp2_with fail
  refine (rows_reader_one.calls (k :: _) g w0 _ (HI.out.alloc _).2).mono ?_
  rintro e w1 h1
  obtain ⟨hz, F2⟩ := v_new HG.out h1.1
  obtain ⟨he, hi⟩ := (HI.out.alloc _).then h1
  obtain rfl : e = .returned (.int .u8 k) := he
  clear h1 HI
  have HI := Aside0.mk hi
  clear hi
  have hca0 : World.cell? _ ⟨w.heap.size, 0, none⟩ = some (.int .i64 0) := (blk_cell F2 0).trans rfl
  have hfa0 := blk_frozen F2 0
  have hca1 : World.cell? _ ⟨w.heap.size, 1, none⟩ = some (.int .i64 0) := (blk_cell F2 1).trans rfl
  have hfa1 := blk_frozen F2 1
  have hca2 : World.cell? _ ⟨w.heap.size, 2, none⟩ = some (.string (⟨#[]⟩ : ByteArray)) := (blk_cell F2 2).trans rfl
  have hfa2 := blk_frozen F2 2
  have HF := Aside0.mk F2
  clear F2
  go_wp2_with fail
  refine (rows_reader_number.calls t g w0 _ (HI.out.alloc _).2).mono ?_
  rintro e w2 h2
  rw [ET.out] at h2
  clear hca0 hfa0
  clear hca1 hfa1
  clear hca2 hfa2
  obtain ⟨hz2, F3⟩ := v_new HI.out.2.lt h2.1
  have F2 := v_old (by have := HG.out; omega) HF.out h2.1
  have hz3 : w.heap.size < w2.heap.size := by omega
  obtain ⟨he, hi⟩ := (HI.out.alloc _).then h2
  obtain rfl : e = .returned (.int .u64 n) := he
  clear h2 HI HF
  have HI := Aside0.mk hi
  clear hi
  have hca0 : World.cell? w2 ⟨w.heap.size, 0, none⟩ = some (.int .i64 0) := (blk_cell F2 0).trans rfl
  have hfa0 : w2.frozen? ⟨w.heap.size, 0, none⟩ = false := blk_frozen F2 0
  have hca1 : World.cell? w2 ⟨w.heap.size, 1, none⟩ = some (.int .i64 0) := (blk_cell F2 1).trans rfl
  have hfa1 : w2.frozen? ⟨w.heap.size, 1, none⟩ = false := blk_frozen F2 1
  have hca2 : World.cell? w2 ⟨w.heap.size, 2, none⟩ = some (.string (⟨#[]⟩ : ByteArray)) := (blk_cell F2 2).trans rfl
  have hfa2 : w2.frozen? ⟨w.heap.size, 2, none⟩ = false := blk_frozen F2 2
  have hcb0 : World.cell? w2 ⟨w1.heap.size, 0, none⟩ = some (.int .i64 2) := (blk_cell F3 0).trans rfl
  have hfb0 : w2.frozen? ⟨w1.heap.size, 0, none⟩ = false := blk_frozen F3 0
  have hcb1 : World.cell? w2 ⟨w1.heap.size, 1, none⟩ = some (.int .i64 0) := (blk_cell F3 1).trans rfl
  have hfb1 : w2.frozen? ⟨w1.heap.size, 1, none⟩ = false := blk_frozen F3 1
  have hcb2 : World.cell? w2 ⟨w1.heap.size, 2, none⟩ = some (.string (⟨#[]⟩ : ByteArray)) := (blk_cell F3 2).trans rfl
  have hfb2 : w2.frozen? ⟨w1.heap.size, 2, none⟩ = false := blk_frozen F3 2
  have GB := Aside0.mk (show w.heap.size ≤ w1.heap.size by omega)
  have hne : ¬ w.heap.size = w1.heap.size := by omega
  have hne' : ¬ w1.heap.size = w.heap.size := by omega
  clear F2 F3
  subst e
  go_wp2
  exact bodyPost_ret (v := .agg #[.int .i64 2, .int .i64 (unzig n), .string V0]) (by simp [results, Try.results22, go_sem, V0, hz3, hz2, hne, hne', hca0, hca1, hca2, hcb0, hcb1, hcb2]) rfl (((((HI.out.set HG.out GB.out 1 _).set HG.out (Nat.le_refl _) 0 _).set HG.out (Nat.le_refl _) 1 _).set HG.out (Nat.le_refl _) 2 _)).post

end Go.Proofs.Ytlnpefcclhmokaa.P
