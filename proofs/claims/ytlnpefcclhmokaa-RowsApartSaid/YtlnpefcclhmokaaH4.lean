/- Written in this session: the readers of rows by hand. -/
import Derived.Test.YtlnpefcclhmokaaH2
import Derived.Defers
import Derived.Recover
import Derived.WideLaws
import Derived.WalkLawsBesides
import Derived.WalkSpells
import Derived.Outline
import Derived.RegionDies
namespace Go.Proofs.Ytlnpefcclhmokaa.P
open Go.RowKit Go.Proofs.YtlnpefcclhmokaaW.PrintWords Go.Proofs.YtlnpefcclhmokaaW.PrintLast Go.Proofs.YtlnpefcclhmokaaW.PrintMore
attribute [local go_sem] max2_int min2_int max_two min_two max_three min_three max_four min_four   -- for this text's walks alone
set_option linter.unusedVariables false
set_option linter.unusedSimpArgs false


/-! ### The document's reader: bytes, and the first thing that is wrong -/
def Qd (w0 w : World) (g : Nat) (l : List Int) : Prop :=
  w0.heap.size ≤ g ∧ Below w0.heap.size w0 w ∧ BytesIn l ∧ ∃ A c, w.heap[g]? = some (.cells #[.slice A l.length c, .int .i64 0] 48 (0, 0)) ∧ l.length ≤ c ∧ ReadsInt w0 .u8 A l.length l
def Qe (w : World) (g : Nat) (c : Int) : Prop := c ≠ 0 ∧ ∃ (A : Option Addr) (n k : Nat), w.heap[g]? = some (.cells #[.slice A n k, .int .i64 c] 48 (0, 0)) ∧ n ≤ 9223372036854775807
def QPost {α : Type} (enc : α → Value) (z : α → Prop) (r : Except Int (α × List Int)) (w0 w : World) (g : Nat) (e : Ending) (w' : World) : Prop :=
  KeepBut w w' g none ∧ Below w0.heap.size w0 w' ∧ match r with
    | .error c => (∃ x, z x ∧ e = .returned (enc x)) ∧ Qe w' g c
    | .ok (x, t) => e = .returned (enc x) ∧ Qd w0 w' g t
theorem Qd.alive {w0 w w' : World} {g : Nat} {l : List Int} (h : Qd w0 w g l) (hb : Below w0.heap.size w0 w') (hg : w'.heap[g]? = w.heap[g]?) : Qd w0 w' g l := by
  obtain ⟨h1, _, hB, A, c, h2, h3⟩ := h
  exact ⟨h1, hb, hB, A, c, hg.trans h2, h3⟩
theorem quarryref04_reader_fail.first (g : Nat) (c : Int) (w : World) (h : w.cell? ⟨g, 1, none⟩ = some (.int .i64 0)) (hf : w.frozen? ⟨g, 1, none⟩ = false) :
    Calls Try.prog 25 #[.pointer (some ⟨g, 0, none⟩), .int .i64 c] w fun e w' => e = .returned (.tuple #[]) ∧ w' = w.setCell ⟨g, 1, none⟩ (.int .i64 c) := by
  go_enter Try.func25, Try.ntmps25
  go_wp2
  exact ⟨rfl, .tuple #[], results_none rfl _ _ _, rfl, rfl⟩
theorem quarryref04_reader_fail.later (g : Nat) (c v : Int) (w : World) (h : w.cell? ⟨g, 1, none⟩ = some (.int .i64 v)) (hv : v ≠ 0) :
    Calls Try.prog 25 #[.pointer (some ⟨g, 0, none⟩), .int .i64 c] w fun e w' => e = .returned (.tuple #[]) ∧ w' = w := by
  have hv' : (v == 0) = false := beq_eq_false_iff_ne.mpr hv
  clear hv
  go_enter Try.func25, Try.ntmps25
  go_wp2
  exact ⟨rfl, .tuple #[], results_none rfl _ _ _, rfl, rfl⟩
theorem quarryref04_reader_one.calls (l : List Int) (g : Nat) (w0 w : World) (h : Qd w0 w g l) :
    Calls Try.prog 32 #[.pointer (some ⟨g, 0, none⟩)] w (QPost (Value.int .u8) (· = 0) (r_one l) w0 w g) := by
  obtain ⟨hg, hB, hbi, A, c, hb, hc, hR⟩ := h
  have hfz := blk_frozen hb 0
  have hfz1 := blk_frozen hb 1
  have hcell1 : w.cell? ⟨g, 1, none⟩ = some (.int .i64 0) := (blk_cell hb 1).trans rfl
  cases l with
  | nil =>
    have hcell : w.cell? ⟨g, 0, none⟩ = some (.slice A 0 c) := (blk_cell hb 0).trans rfl
    have HB := Aside0.mk hB
    have Hb := Aside0.mk hb
    have HG := Aside0.mk hg
    clear hB hR hb hbi hg
    go_enter Try.func32, Try.ntmps32
    go_wp2_with fail
    refine (quarryref04_reader_fail.first g 1 _ hcell1 hfz1).mono ?_
    rintro e w2 ⟨rfl, rfl⟩
    go_wp2
    go_ret
    exact ⟨KeepBut.set_ (KeepBut.refl _ _ _) 1 _, Below.setCell HB.out HG.out _, ⟨0, rfl, rfl⟩, by decide, A, 0, c, blk_set Hb.out 1 _, by decide⟩
  | cons x t =>
    obtain ⟨ad, rfl, hx⟩ := hR.2.2 (by simp)
    have hml : t.length + 1 ≤ 9223372036854775807 := by have := hR.2.1; simpa using this
    have hl0 : ((((t.length + 1 : Nat) : Int)) == 0) = false := beq_eq_false_iff_ne.mpr (by omega)
    have hl1 : ((((t.length : Nat) : Int)) + 1 == 0) = false := beq_eq_false_iff_ne.mpr (by omega)
    have hx0 : w0.cell? ad = some (.int .u8 x) := by
      have := hx 0 (by simp)
      simpa [Addr.add] using this
    have hxc : w.cell? ad = some (.int .u8 x) := pw_cell_below hB hx0
    have hcell : w.cell? ⟨g, 0, none⟩ = some (.slice (some ad) (t.length + 1) c) := (blk_cell hb 0).trans rfl
    obtain ⟨i5, hi5, h55⟩ := Option.map_eq_some_iff.1 info5
    simp only [Prod.mk.injEq] at h55
    obtain ⟨A', hcut, hcutR⟩ := print_cut (P := Try.prog) 24 5 .i64 Try.underlying24 hi5 h55.2.1 (some ad) (t.length + 1) c 1 (by omega)
    rw [Nat.add_sub_cancel] at hcut hcutR
    have hcut1 : ∀ W : World, (Instr.slice 24 (.slice (some ad) (t.length + 1) c) (some (.int .i64 1)) none none).run Try.prog W = .ok (.slice A' t.length (c - 1)) W := fun W => hcut W
    clear hcut
    have hR' : ReadsInt w0 .u8 A' t.length t := hcutR w0 .u8 (x :: t) hc hR
    have HB := Aside0.mk hB
    have Hb := Aside0.mk hb
    have HR := Aside0.mk hR'
    have HC := Aside0.mk hc
    have HI := Aside0.mk hbi
    clear hB hR hb hR' hcutR hx hx0 hi5 h55 hbi
    go_enter Try.func32, Try.ntmps32
    go_wp2
    go_ret
    refine ⟨KeepBut.set_ (KeepBut.refl _ _ _) 0 _, Below.setCell HB.out hg _, rfl, hg, Below.setCell HB.out hg _, fun y hy => HI.out y (List.mem_cons_of_mem _ hy), A', c - 1, ?_, ?_, HR.out⟩
    · exact blk_set Hb.out 0 _
    · have := HC.out
      simp at this
      omega
theorem num_sum (i : Nat) (n c S : Int) (hi : i ≤ 9) (h9 : i = 9 → c ≤ 1) (hS : S = c % 128 * 2 ^ (7 * i)) (hn0 : 0 ≤ n) (hn : n < 2 ^ (7 * i)) (hc0 : 0 ≤ c) (h0 : 0 ≤ n + S) (h : n + S < 2 ^ (7 * (i + 1))) : IntKind.u64.wrap (n + S) = n + S := by
  have h64 : n + S < 18446744073709551616 := by
    by_cases e : i = 9
    · subst e
      have h2 : S ≤ 9223372036854775808 := by
        rw [hS]
        have : c % 128 = 0 ∨ c % 128 = 1 := by have := h9 rfl; omega
        rcases this with h | h <;> rw [h] <;> decide
      have h3 : n < 9223372036854775808 := hn
      omega
    · have h3 : (2 : Int) ^ (7 * (i + 1)) ≤ 2 ^ 63 := by
        have : 2 ^ (7 * (i + 1)) ≤ 2 ^ 63 := Nat.pow_le_pow_right (by decide) (by omega)
        exact_mod_cast this
      have h4 : (2 : Int) ^ 63 = 9223372036854775808 := by decide
      omega
  rw [IntKind.wrap_u64]; omega
set_option maxHeartbeats 2000000 in
set_option maxRecDepth 100000 in
theorem quarryref04_reader_number.calls (l : List Int) (g : Nat) (w0 w : World) (h : Qd w0 w g l) :
    Calls Try.prog 23 #[.pointer (some ⟨g, 0, none⟩)] w (QPost (Value.int .u64) (· = 0) (r_num 0 0 l) w0 w g) := by
  obtain ⟨r, hr⟩ : ∃ r, r_num 0 0 l = r := ⟨_, rfl⟩
  rw [hr]
  have HA := Aside0.mk hr
  have HR := Aside0.mk h
  clear hr h
  go_enter Try.func23, Try.ntmps23
  go_wp2
  go_loopg [3, 4] (l.length + 1) (fun kq v3 v4 w' => ∃ (i : Nat) (n : Int) (l' : List Int), v3 = .int .u64 n ∧ v4 = .int .i64 (i : Int) ∧ Aside0 (i ≤ 9 ∧ 0 ≤ n ∧ n < 2 ^ (7 * i)) ∧ Aside0 (r_num i n l' = r) ∧ Aside0 (l'.length < kq) ∧ Aside0 (Qd w0 w' g l') ∧ Aside0 (KeepBut w w' g none))
  case atStart => exact ⟨0, 0, l, rfl, rfl, ⟨by omega, by omega, by decide⟩, HA, ⟨by omega⟩, HR, ⟨KeepBut.refl _ _ _⟩⟩
  case round =>
    clear HA HR
    obtain ⟨i, n, l', rfl, rfl, HI, HA, HL, HR, HK⟩ := hrel
    cases l' with
    | nil =>
      rcases (show i = 0 ∨ (0 < i ∧ i < 9) ∨ i = 9 by have := HI.out.1; omega) with ei | ei | ei
      · obtain rfl : r = .error 1 := HA.out.symm
        have b9 : ((i : Int) == 9) = false := beq_eq_false_iff_ne.mpr (by omega)
        have bi : decide (0 < (i : Int)) = false := decide_eq_false (by omega)
        have bj : decide (0 < i) = false := decide_eq_false (by omega)
        have bt : decide ((i : Int) < 10) = true := decide_eq_true (by have := HI.out.1; omega)
        clear ei
        go_wp2_with fail
        refine (quarryref04_reader_one.calls [] g w0 _ HR.out).mono ?_
        rintro e w1 ⟨hk, hb, he, hrd⟩
        obtain ⟨_, rfl, rfl⟩ := he
        obtain ⟨_, A1, n1, k1, hbe, hn1⟩ := hrd
        have hce : w1.cell? ⟨g, 1, none⟩ = some (.int .i64 1) := (blk_cell hbe 1).trans rfl
        have hfe := blk_frozen hbe 1
        have HK1 := Aside0.mk hk
        have HB1 := Aside0.mk hb
        have HE := Aside0.mk hbe
        clear hk hb hbe
        go_wp2
        go_ret
        exact ⟨KeepBut.trans HK.out HK1.out (.inl rfl), HB1.out, ⟨0, rfl, rfl⟩, by decide, A1, n1, k1, HE.out, hn1⟩
      · obtain rfl : r = .error 1 := HA.out.symm
        have b9 : ((i : Int) == 9) = false := beq_eq_false_iff_ne.mpr (by omega)
        have bi : decide (0 < (i : Int)) = true := decide_eq_true (by omega)
        have bj : decide (0 < i) = true := decide_eq_true (by omega)
        have bt : decide ((i : Int) < 10) = true := decide_eq_true (by have := HI.out.1; omega)
        clear ei
        go_wp2_with fail
        refine (quarryref04_reader_one.calls [] g w0 _ HR.out).mono ?_
        rintro e w1 ⟨hk, hb, he, hrd⟩
        obtain ⟨_, rfl, rfl⟩ := he
        obtain ⟨_, A1, n1, k1, hbe, hn1⟩ := hrd
        have hce : w1.cell? ⟨g, 1, none⟩ = some (.int .i64 1) := (blk_cell hbe 1).trans rfl
        have hfe := blk_frozen hbe 1
        have HK1 := Aside0.mk hk
        have HB1 := Aside0.mk hb
        have HE := Aside0.mk hbe
        clear hk hb hbe
        go_wp2_with fail
        refine (quarryref04_reader_fail.later g 3 1 _ hce (by decide)).mono ?_
        rintro e w2 ⟨rfl, rfl⟩
        go_wp2
        go_ret
        exact ⟨KeepBut.trans HK.out HK1.out (.inl rfl), HB1.out, ⟨0, rfl, rfl⟩, by decide, A1, n1, k1, HE.out, hn1⟩
      · obtain rfl : r = .error 1 := HA.out.symm
        have b9 : ((i : Int) == 9) = true := beq_iff_eq.mpr (by omega)
        have bi : decide (0 < (i : Int)) = true := decide_eq_true (by omega)
        have bj : decide (0 < i) = true := decide_eq_true (by omega)
        have bt : decide ((i : Int) < 10) = true := decide_eq_true (by have := HI.out.1; omega)
        clear ei
        go_wp2_with fail
        refine (quarryref04_reader_one.calls [] g w0 _ HR.out).mono ?_
        rintro e w1 ⟨hk, hb, he, hrd⟩
        obtain ⟨_, rfl, rfl⟩ := he
        obtain ⟨_, A1, n1, k1, hbe, hn1⟩ := hrd
        have hce : w1.cell? ⟨g, 1, none⟩ = some (.int .i64 1) := (blk_cell hbe 1).trans rfl
        have hfe := blk_frozen hbe 1
        have HK1 := Aside0.mk hk
        have HB1 := Aside0.mk hb
        have HE := Aside0.mk hbe
        clear hk hb hbe
        go_wp2_with fail
        refine (quarryref04_reader_fail.later g 3 1 _ hce (by decide)).mono ?_
        rintro e w2 ⟨rfl, rfl⟩
        go_wp2
        go_ret
        exact ⟨KeepBut.trans HK.out HK1.out (.inl rfl), HB1.out, ⟨0, rfl, rfl⟩, by decide, A1, n1, k1, HE.out, hn1⟩
    | cons c t =>
      obtain ⟨hc0, hc1⟩ := HR.out.2.2.1 c (by simp)
      have hrem : c.tmod 128 = c % 128 := Int.tmod_eq_emod_of_nonneg hc0
      have h2 : IntKind.u64.wrap (c % 128) = c % 128 := by rw [IntKind.wrap_u64]; omega
      have h3 : IntKind.u8.wrap (c % 128) = c % 128 := by exact wraps_u8 _ (by omega) (by omega)
      have hs0 : 0 ≤ 7 * (i : Int) := by omega
      have hs1 : 7 * (i : Int) ≤ 64 := by have := HI.out.1; omega
      rcases (show i = 0 ∨ (0 < i ∧ i < 9) ∨ i = 9 by have := HI.out.1; omega) with ei | ei | ei
      · rcases (show c = 0 ∨ c = 1 ∨ (1 < c ∧ c < 128) ∨ 128 ≤ c by omega) with ec | ec | ec | ec
        · obtain ⟨S, hS, hw, hor, hS0, hS1⟩ := num_step i n c HI.out.1 HI.out.2.1 HI.out.2.2 hc0 hc1 (by omega)
          have h7 : IntKind.i64.wrap (7 * (i : Int)) = 7 * (i : Int) := by rw [IntKind.wrap_i64] <;> omega
          have hsum : IntKind.u64.wrap (n + S) = n + S := num_sum i n c S HI.out.1 (by omega) hS HI.out.2.1 HI.out.2.2 hc0 hS0 hS1
          obtain rfl : r = .ok (n + S, t) := by rw [← HA.out]; unfold r_num; rw [if_neg (by omega), if_pos (by omega), hS]
          have b9 : ((i : Int) == 9) = false := beq_eq_false_iff_ne.mpr (by omega)
          have bi : decide (0 < (i : Int)) = false := decide_eq_false (by omega)
          have bj : decide (0 < i) = false := decide_eq_false (by omega)
          have bt : decide ((i : Int) < 10) = true := decide_eq_true (by have := HI.out.1; omega)
          have b0 : (c == 0) = true := beq_iff_eq.mpr (by omega)
          have b1 : decide (1 < c) = false := decide_eq_false (by omega)
          have b128 : decide (c < 128) = true := decide_eq_true (by omega)
          clear ei ec hS hS0 hS1 hor
          go_wp2_with fail
          refine (quarryref04_reader_one.calls (c :: t) g w0 _ HR.out).mono ?_
          rintro e w1 ⟨hk, hb, he, hrd⟩
          obtain rfl : e = .returned (.int .u8 c) := he
          obtain ⟨hgg, _, hbi, A1, k1, hbe, hck, hRR⟩ := hrd
          have hce : w1.cell? ⟨g, 1, none⟩ = some (.int .i64 0) := (blk_cell hbe 1).trans rfl
          have hfe := blk_frozen hbe 1
          have HK1 := Aside0.mk hk
          have HB1 := Aside0.mk hb
          have HE := Aside0.mk hbe
          have HM1 := Aside0.mk hRR.2.1
          have HR1 : Aside0 (Qd w0 w1 g t) := ⟨hgg, hb, hbi, A1, k1, hbe, hck, hRR⟩
          clear hk hb hbe hRR hbi hck
          go_wp2
          go_ret
          exact ⟨KeepBut.trans HK.out HK1.out (.inl rfl), HB1.out, rfl, HR1.out⟩
        · obtain ⟨S, hS, hw, hor, hS0, hS1⟩ := num_step i n c HI.out.1 HI.out.2.1 HI.out.2.2 hc0 hc1 (by omega)
          have h7 : IntKind.i64.wrap (7 * (i : Int)) = 7 * (i : Int) := by rw [IntKind.wrap_i64] <;> omega
          have hsum : IntKind.u64.wrap (n + S) = n + S := num_sum i n c S HI.out.1 (by omega) hS HI.out.2.1 HI.out.2.2 hc0 hS0 hS1
          obtain rfl : r = .ok (n + S, t) := by rw [← HA.out]; unfold r_num; rw [if_neg (by omega), if_pos (by omega), hS]
          have b9 : ((i : Int) == 9) = false := beq_eq_false_iff_ne.mpr (by omega)
          have bi : decide (0 < (i : Int)) = false := decide_eq_false (by omega)
          have bj : decide (0 < i) = false := decide_eq_false (by omega)
          have bt : decide ((i : Int) < 10) = true := decide_eq_true (by have := HI.out.1; omega)
          have b0 : (c == 0) = false := beq_eq_false_iff_ne.mpr (by omega)
          have b1 : decide (1 < c) = false := decide_eq_false (by omega)
          have b128 : decide (c < 128) = true := decide_eq_true (by omega)
          clear ei ec hS hS0 hS1 hor
          go_wp2_with fail
          refine (quarryref04_reader_one.calls (c :: t) g w0 _ HR.out).mono ?_
          rintro e w1 ⟨hk, hb, he, hrd⟩
          obtain rfl : e = .returned (.int .u8 c) := he
          obtain ⟨hgg, _, hbi, A1, k1, hbe, hck, hRR⟩ := hrd
          have hce : w1.cell? ⟨g, 1, none⟩ = some (.int .i64 0) := (blk_cell hbe 1).trans rfl
          have hfe := blk_frozen hbe 1
          have HK1 := Aside0.mk hk
          have HB1 := Aside0.mk hb
          have HE := Aside0.mk hbe
          have HM1 := Aside0.mk hRR.2.1
          have HR1 : Aside0 (Qd w0 w1 g t) := ⟨hgg, hb, hbi, A1, k1, hbe, hck, hRR⟩
          clear hk hb hbe hRR hbi hck
          go_wp2
          go_ret
          exact ⟨KeepBut.trans HK.out HK1.out (.inl rfl), HB1.out, rfl, HR1.out⟩
        · obtain ⟨S, hS, hw, hor, hS0, hS1⟩ := num_step i n c HI.out.1 HI.out.2.1 HI.out.2.2 hc0 hc1 (by omega)
          have h7 : IntKind.i64.wrap (7 * (i : Int)) = 7 * (i : Int) := by rw [IntKind.wrap_i64] <;> omega
          have hsum : IntKind.u64.wrap (n + S) = n + S := num_sum i n c S HI.out.1 (by omega) hS HI.out.2.1 HI.out.2.2 hc0 hS0 hS1
          obtain rfl : r = .ok (n + S, t) := by rw [← HA.out]; unfold r_num; rw [if_neg (by omega), if_pos (by omega), hS]
          have b9 : ((i : Int) == 9) = false := beq_eq_false_iff_ne.mpr (by omega)
          have bi : decide (0 < (i : Int)) = false := decide_eq_false (by omega)
          have bj : decide (0 < i) = false := decide_eq_false (by omega)
          have bt : decide ((i : Int) < 10) = true := decide_eq_true (by have := HI.out.1; omega)
          have b0 : (c == 0) = false := beq_eq_false_iff_ne.mpr (by omega)
          have b1 : decide (1 < c) = true := decide_eq_true (by omega)
          have b128 : decide (c < 128) = true := decide_eq_true (by omega)
          clear ei ec hS hS0 hS1 hor
          go_wp2_with fail
          refine (quarryref04_reader_one.calls (c :: t) g w0 _ HR.out).mono ?_
          rintro e w1 ⟨hk, hb, he, hrd⟩
          obtain rfl : e = .returned (.int .u8 c) := he
          obtain ⟨hgg, _, hbi, A1, k1, hbe, hck, hRR⟩ := hrd
          have hce : w1.cell? ⟨g, 1, none⟩ = some (.int .i64 0) := (blk_cell hbe 1).trans rfl
          have hfe := blk_frozen hbe 1
          have HK1 := Aside0.mk hk
          have HB1 := Aside0.mk hb
          have HE := Aside0.mk hbe
          have HM1 := Aside0.mk hRR.2.1
          have HR1 : Aside0 (Qd w0 w1 g t) := ⟨hgg, hb, hbi, A1, k1, hbe, hck, hRR⟩
          clear hk hb hbe hRR hbi hck
          go_wp2
          go_ret
          exact ⟨KeepBut.trans HK.out HK1.out (.inl rfl), HB1.out, rfl, HR1.out⟩
        · obtain ⟨S, hS, hw, hor, hS0, hS1⟩ := num_step i n c HI.out.1 HI.out.2.1 HI.out.2.2 hc0 hc1 (by omega)
          have h7 : IntKind.i64.wrap (7 * (i : Int)) = 7 * (i : Int) := by rw [IntKind.wrap_i64] <;> omega
          have hsum : IntKind.u64.wrap (n + S) = n + S := num_sum i n c S HI.out.1 (by omega) hS HI.out.2.1 HI.out.2.2 hc0 hS0 hS1
          have HA1 : Aside0 (r_num (i + 1) (n + S) t = r) := ⟨by rw [← HA.out, hS, r_num_again (by omega) (by omega)]⟩
          have HI1 : Aside0 (i + 1 ≤ 9 ∧ 0 ≤ n + S ∧ n + S < 2 ^ (7 * (i + 1))) := ⟨by have := HI.out.1; omega, hS0, hS1⟩
          have b9 : ((i : Int) == 9) = false := beq_eq_false_iff_ne.mpr (by omega)
          have bi : decide (0 < (i : Int)) = false := decide_eq_false (by omega)
          have bj : decide (0 < i) = false := decide_eq_false (by omega)
          have bt : decide ((i : Int) < 10) = true := decide_eq_true (by have := HI.out.1; omega)
          have b0 : (c == 0) = false := beq_eq_false_iff_ne.mpr (by omega)
          have b1 : decide (1 < c) = true := decide_eq_true (by omega)
          have b128 : decide (c < 128) = false := decide_eq_false (by omega)
          clear ei ec hS hS0 hS1 hor
          go_wp2_with fail
          refine (quarryref04_reader_one.calls (c :: t) g w0 _ HR.out).mono ?_
          rintro e w1 ⟨hk, hb, he, hrd⟩
          obtain rfl : e = .returned (.int .u8 c) := he
          obtain ⟨hgg, _, hbi, A1, k1, hbe, hck, hRR⟩ := hrd
          have hce : w1.cell? ⟨g, 1, none⟩ = some (.int .i64 0) := (blk_cell hbe 1).trans rfl
          have hfe := blk_frozen hbe 1
          have HK1 := Aside0.mk hk
          have HB1 := Aside0.mk hb
          have HE := Aside0.mk hbe
          have HM1 := Aside0.mk hRR.2.1
          have HR1 : Aside0 (Qd w0 w1 g t) := ⟨hgg, hb, hbi, A1, k1, hbe, hck, hRR⟩
          clear hk hb hbe hRR hbi hck
          go_wp2
          obtain ⟨k1, rfl⟩ : ∃ k1, gk = k1 + 1 := ⟨gk - 1, by have := HL.out; simp at this; omega⟩
          go_roundg k1
          case measure => omega
          case rel => exact ⟨i + 1, n + S, t, rfl, by go_num, HI1, HA1, ⟨by have := HL.out; simp at this; omega⟩, HR1, ⟨KeepBut.trans HK.out HK1.out (.inl rfl)⟩⟩
      · rcases (show c = 0 ∨ c = 1 ∨ (1 < c ∧ c < 128) ∨ 128 ≤ c by omega) with ec | ec | ec | ec
        · obtain rfl : r = .error 3 := by rw [← HA.out]; unfold r_num; rw [if_pos (by omega)]
          have b9 : ((i : Int) == 9) = false := beq_eq_false_iff_ne.mpr (by omega)
          have bi : decide (0 < (i : Int)) = true := decide_eq_true (by omega)
          have bj : decide (0 < i) = true := decide_eq_true (by omega)
          have bt : decide ((i : Int) < 10) = true := decide_eq_true (by have := HI.out.1; omega)
          have b0 : (c == 0) = true := beq_iff_eq.mpr (by omega)
          have b1 : decide (1 < c) = false := decide_eq_false (by omega)
          have b128 : decide (c < 128) = true := decide_eq_true (by omega)
          clear ei ec
          go_wp2_with fail
          refine (quarryref04_reader_one.calls (c :: t) g w0 _ HR.out).mono ?_
          rintro e w1 ⟨hk, hb, he, hrd⟩
          obtain rfl : e = .returned (.int .u8 c) := he
          obtain ⟨hgg, _, hbi, A1, k1, hbe, hck, hRR⟩ := hrd
          have hce : w1.cell? ⟨g, 1, none⟩ = some (.int .i64 0) := (blk_cell hbe 1).trans rfl
          have hfe := blk_frozen hbe 1
          have HK1 := Aside0.mk hk
          have HB1 := Aside0.mk hb
          have HE := Aside0.mk hbe
          have HM1 := Aside0.mk hRR.2.1
          have HR1 : Aside0 (Qd w0 w1 g t) := ⟨hgg, hb, hbi, A1, k1, hbe, hck, hRR⟩
          clear hk hb hbe hRR hbi hck
          go_wp2_with fail
          refine (quarryref04_reader_fail.first g 3 _ hce hfe).mono ?_
          rintro e w2 ⟨rfl, rfl⟩
          go_wp2
          go_ret
          exact ⟨KeepBut.trans HK.out (KeepBut.set_ HK1.out 1 _) (.inl rfl), Below.setCell HB1.out hgg _, ⟨0, rfl, rfl⟩, by decide, A1, _, k1, blk_set HE.out 1 _, HM1.out⟩
        · obtain ⟨S, hS, hw, hor, hS0, hS1⟩ := num_step i n c HI.out.1 HI.out.2.1 HI.out.2.2 hc0 hc1 (by omega)
          have h7 : IntKind.i64.wrap (7 * (i : Int)) = 7 * (i : Int) := by rw [IntKind.wrap_i64] <;> omega
          have hsum : IntKind.u64.wrap (n + S) = n + S := num_sum i n c S HI.out.1 (by omega) hS HI.out.2.1 HI.out.2.2 hc0 hS0 hS1
          obtain rfl : r = .ok (n + S, t) := by rw [← HA.out]; unfold r_num; rw [if_neg (by omega), if_pos (by omega), hS]
          have b9 : ((i : Int) == 9) = false := beq_eq_false_iff_ne.mpr (by omega)
          have bi : decide (0 < (i : Int)) = true := decide_eq_true (by omega)
          have bj : decide (0 < i) = true := decide_eq_true (by omega)
          have bt : decide ((i : Int) < 10) = true := decide_eq_true (by have := HI.out.1; omega)
          have b0 : (c == 0) = false := beq_eq_false_iff_ne.mpr (by omega)
          have b1 : decide (1 < c) = false := decide_eq_false (by omega)
          have b128 : decide (c < 128) = true := decide_eq_true (by omega)
          clear ei ec hS hS0 hS1 hor
          go_wp2_with fail
          refine (quarryref04_reader_one.calls (c :: t) g w0 _ HR.out).mono ?_
          rintro e w1 ⟨hk, hb, he, hrd⟩
          obtain rfl : e = .returned (.int .u8 c) := he
          obtain ⟨hgg, _, hbi, A1, k1, hbe, hck, hRR⟩ := hrd
          have hce : w1.cell? ⟨g, 1, none⟩ = some (.int .i64 0) := (blk_cell hbe 1).trans rfl
          have hfe := blk_frozen hbe 1
          have HK1 := Aside0.mk hk
          have HB1 := Aside0.mk hb
          have HE := Aside0.mk hbe
          have HM1 := Aside0.mk hRR.2.1
          have HR1 : Aside0 (Qd w0 w1 g t) := ⟨hgg, hb, hbi, A1, k1, hbe, hck, hRR⟩
          clear hk hb hbe hRR hbi hck
          go_wp2
          go_ret
          exact ⟨KeepBut.trans HK.out HK1.out (.inl rfl), HB1.out, rfl, HR1.out⟩
        · obtain ⟨S, hS, hw, hor, hS0, hS1⟩ := num_step i n c HI.out.1 HI.out.2.1 HI.out.2.2 hc0 hc1 (by omega)
          have h7 : IntKind.i64.wrap (7 * (i : Int)) = 7 * (i : Int) := by rw [IntKind.wrap_i64] <;> omega
          have hsum : IntKind.u64.wrap (n + S) = n + S := num_sum i n c S HI.out.1 (by omega) hS HI.out.2.1 HI.out.2.2 hc0 hS0 hS1
          obtain rfl : r = .ok (n + S, t) := by rw [← HA.out]; unfold r_num; rw [if_neg (by omega), if_pos (by omega), hS]
          have b9 : ((i : Int) == 9) = false := beq_eq_false_iff_ne.mpr (by omega)
          have bi : decide (0 < (i : Int)) = true := decide_eq_true (by omega)
          have bj : decide (0 < i) = true := decide_eq_true (by omega)
          have bt : decide ((i : Int) < 10) = true := decide_eq_true (by have := HI.out.1; omega)
          have b0 : (c == 0) = false := beq_eq_false_iff_ne.mpr (by omega)
          have b1 : decide (1 < c) = true := decide_eq_true (by omega)
          have b128 : decide (c < 128) = true := decide_eq_true (by omega)
          clear ei ec hS hS0 hS1 hor
          go_wp2_with fail
          refine (quarryref04_reader_one.calls (c :: t) g w0 _ HR.out).mono ?_
          rintro e w1 ⟨hk, hb, he, hrd⟩
          obtain rfl : e = .returned (.int .u8 c) := he
          obtain ⟨hgg, _, hbi, A1, k1, hbe, hck, hRR⟩ := hrd
          have hce : w1.cell? ⟨g, 1, none⟩ = some (.int .i64 0) := (blk_cell hbe 1).trans rfl
          have hfe := blk_frozen hbe 1
          have HK1 := Aside0.mk hk
          have HB1 := Aside0.mk hb
          have HE := Aside0.mk hbe
          have HM1 := Aside0.mk hRR.2.1
          have HR1 : Aside0 (Qd w0 w1 g t) := ⟨hgg, hb, hbi, A1, k1, hbe, hck, hRR⟩
          clear hk hb hbe hRR hbi hck
          go_wp2
          go_ret
          exact ⟨KeepBut.trans HK.out HK1.out (.inl rfl), HB1.out, rfl, HR1.out⟩
        · obtain ⟨S, hS, hw, hor, hS0, hS1⟩ := num_step i n c HI.out.1 HI.out.2.1 HI.out.2.2 hc0 hc1 (by omega)
          have h7 : IntKind.i64.wrap (7 * (i : Int)) = 7 * (i : Int) := by rw [IntKind.wrap_i64] <;> omega
          have hsum : IntKind.u64.wrap (n + S) = n + S := num_sum i n c S HI.out.1 (by omega) hS HI.out.2.1 HI.out.2.2 hc0 hS0 hS1
          have HA1 : Aside0 (r_num (i + 1) (n + S) t = r) := ⟨by rw [← HA.out, hS, r_num_again (by omega) (by omega)]⟩
          have HI1 : Aside0 (i + 1 ≤ 9 ∧ 0 ≤ n + S ∧ n + S < 2 ^ (7 * (i + 1))) := ⟨by have := HI.out.1; omega, hS0, hS1⟩
          have b9 : ((i : Int) == 9) = false := beq_eq_false_iff_ne.mpr (by omega)
          have bi : decide (0 < (i : Int)) = true := decide_eq_true (by omega)
          have bj : decide (0 < i) = true := decide_eq_true (by omega)
          have bt : decide ((i : Int) < 10) = true := decide_eq_true (by have := HI.out.1; omega)
          have b0 : (c == 0) = false := beq_eq_false_iff_ne.mpr (by omega)
          have b1 : decide (1 < c) = true := decide_eq_true (by omega)
          have b128 : decide (c < 128) = false := decide_eq_false (by omega)
          clear ei ec hS hS0 hS1 hor
          go_wp2_with fail
          refine (quarryref04_reader_one.calls (c :: t) g w0 _ HR.out).mono ?_
          rintro e w1 ⟨hk, hb, he, hrd⟩
          obtain rfl : e = .returned (.int .u8 c) := he
          obtain ⟨hgg, _, hbi, A1, k1, hbe, hck, hRR⟩ := hrd
          have hce : w1.cell? ⟨g, 1, none⟩ = some (.int .i64 0) := (blk_cell hbe 1).trans rfl
          have hfe := blk_frozen hbe 1
          have HK1 := Aside0.mk hk
          have HB1 := Aside0.mk hb
          have HE := Aside0.mk hbe
          have HM1 := Aside0.mk hRR.2.1
          have HR1 : Aside0 (Qd w0 w1 g t) := ⟨hgg, hb, hbi, A1, k1, hbe, hck, hRR⟩
          clear hk hb hbe hRR hbi hck
          go_wp2
          obtain ⟨k1, rfl⟩ : ∃ k1, gk = k1 + 1 := ⟨gk - 1, by have := HL.out; simp at this; omega⟩
          go_roundg k1
          case measure => omega
          case rel => exact ⟨i + 1, n + S, t, rfl, by go_num, HI1, HA1, ⟨by have := HL.out; simp at this; omega⟩, HR1, ⟨KeepBut.trans HK.out HK1.out (.inl rfl)⟩⟩
      · rcases (show c = 0 ∨ c = 1 ∨ (1 < c ∧ c < 128) ∨ 128 ≤ c by omega) with ec | ec | ec | ec
        · obtain rfl : r = .error 3 := by rw [← HA.out]; unfold r_num; rw [if_pos (by omega)]
          have b9 : ((i : Int) == 9) = true := beq_iff_eq.mpr (by omega)
          have bi : decide (0 < (i : Int)) = true := decide_eq_true (by omega)
          have bj : decide (0 < i) = true := decide_eq_true (by omega)
          have bt : decide ((i : Int) < 10) = true := decide_eq_true (by have := HI.out.1; omega)
          have b0 : (c == 0) = true := beq_iff_eq.mpr (by omega)
          have b1 : decide (1 < c) = false := decide_eq_false (by omega)
          have b128 : decide (c < 128) = true := decide_eq_true (by omega)
          clear ei ec
          go_wp2_with fail
          refine (quarryref04_reader_one.calls (c :: t) g w0 _ HR.out).mono ?_
          rintro e w1 ⟨hk, hb, he, hrd⟩
          obtain rfl : e = .returned (.int .u8 c) := he
          obtain ⟨hgg, _, hbi, A1, k1, hbe, hck, hRR⟩ := hrd
          have hce : w1.cell? ⟨g, 1, none⟩ = some (.int .i64 0) := (blk_cell hbe 1).trans rfl
          have hfe := blk_frozen hbe 1
          have HK1 := Aside0.mk hk
          have HB1 := Aside0.mk hb
          have HE := Aside0.mk hbe
          have HM1 := Aside0.mk hRR.2.1
          have HR1 : Aside0 (Qd w0 w1 g t) := ⟨hgg, hb, hbi, A1, k1, hbe, hck, hRR⟩
          clear hk hb hbe hRR hbi hck
          go_wp2_with fail
          refine (quarryref04_reader_fail.first g 3 _ hce hfe).mono ?_
          rintro e w2 ⟨rfl, rfl⟩
          go_wp2
          go_ret
          exact ⟨KeepBut.trans HK.out (KeepBut.set_ HK1.out 1 _) (.inl rfl), Below.setCell HB1.out hgg _, ⟨0, rfl, rfl⟩, by decide, A1, _, k1, blk_set HE.out 1 _, HM1.out⟩
        · obtain ⟨S, hS, hw, hor, hS0, hS1⟩ := num_step i n c HI.out.1 HI.out.2.1 HI.out.2.2 hc0 hc1 (by omega)
          have h7 : IntKind.i64.wrap (7 * (i : Int)) = 7 * (i : Int) := by rw [IntKind.wrap_i64] <;> omega
          have hsum : IntKind.u64.wrap (n + S) = n + S := num_sum i n c S HI.out.1 (by omega) hS HI.out.2.1 HI.out.2.2 hc0 hS0 hS1
          obtain rfl : r = .ok (n + S, t) := by rw [← HA.out]; unfold r_num; rw [if_neg (by omega), if_pos (by omega), hS]
          have b9 : ((i : Int) == 9) = true := beq_iff_eq.mpr (by omega)
          have bi : decide (0 < (i : Int)) = true := decide_eq_true (by omega)
          have bj : decide (0 < i) = true := decide_eq_true (by omega)
          have bt : decide ((i : Int) < 10) = true := decide_eq_true (by have := HI.out.1; omega)
          have b0 : (c == 0) = false := beq_eq_false_iff_ne.mpr (by omega)
          have b1 : decide (1 < c) = false := decide_eq_false (by omega)
          have b128 : decide (c < 128) = true := decide_eq_true (by omega)
          clear ei ec hS hS0 hS1 hor
          go_wp2_with fail
          refine (quarryref04_reader_one.calls (c :: t) g w0 _ HR.out).mono ?_
          rintro e w1 ⟨hk, hb, he, hrd⟩
          obtain rfl : e = .returned (.int .u8 c) := he
          obtain ⟨hgg, _, hbi, A1, k1, hbe, hck, hRR⟩ := hrd
          have hce : w1.cell? ⟨g, 1, none⟩ = some (.int .i64 0) := (blk_cell hbe 1).trans rfl
          have hfe := blk_frozen hbe 1
          have HK1 := Aside0.mk hk
          have HB1 := Aside0.mk hb
          have HE := Aside0.mk hbe
          have HM1 := Aside0.mk hRR.2.1
          have HR1 : Aside0 (Qd w0 w1 g t) := ⟨hgg, hb, hbi, A1, k1, hbe, hck, hRR⟩
          clear hk hb hbe hRR hbi hck
          go_wp2
          go_ret
          exact ⟨KeepBut.trans HK.out HK1.out (.inl rfl), HB1.out, rfl, HR1.out⟩
        · obtain rfl : r = .error 3 := by rw [← HA.out]; unfold r_num; rw [if_pos (by omega)]
          have b9 : ((i : Int) == 9) = true := beq_iff_eq.mpr (by omega)
          have bi : decide (0 < (i : Int)) = true := decide_eq_true (by omega)
          have bj : decide (0 < i) = true := decide_eq_true (by omega)
          have bt : decide ((i : Int) < 10) = true := decide_eq_true (by have := HI.out.1; omega)
          have b0 : (c == 0) = false := beq_eq_false_iff_ne.mpr (by omega)
          have b1 : decide (1 < c) = true := decide_eq_true (by omega)
          have b128 : decide (c < 128) = true := decide_eq_true (by omega)
          clear ei ec
          go_wp2_with fail
          refine (quarryref04_reader_one.calls (c :: t) g w0 _ HR.out).mono ?_
          rintro e w1 ⟨hk, hb, he, hrd⟩
          obtain rfl : e = .returned (.int .u8 c) := he
          obtain ⟨hgg, _, hbi, A1, k1, hbe, hck, hRR⟩ := hrd
          have hce : w1.cell? ⟨g, 1, none⟩ = some (.int .i64 0) := (blk_cell hbe 1).trans rfl
          have hfe := blk_frozen hbe 1
          have HK1 := Aside0.mk hk
          have HB1 := Aside0.mk hb
          have HE := Aside0.mk hbe
          have HM1 := Aside0.mk hRR.2.1
          have HR1 : Aside0 (Qd w0 w1 g t) := ⟨hgg, hb, hbi, A1, k1, hbe, hck, hRR⟩
          clear hk hb hbe hRR hbi hck
          go_wp2_with fail
          refine (quarryref04_reader_fail.first g 3 _ hce hfe).mono ?_
          rintro e w2 ⟨rfl, rfl⟩
          go_wp2
          go_ret
          exact ⟨KeepBut.trans HK.out (KeepBut.set_ HK1.out 1 _) (.inl rfl), Below.setCell HB1.out hgg _, ⟨0, rfl, rfl⟩, by decide, A1, _, k1, blk_set HE.out 1 _, HM1.out⟩
        · obtain rfl : r = .error 3 := by rw [← HA.out]; unfold r_num; rw [if_pos (by omega)]
          have b9 : ((i : Int) == 9) = true := beq_iff_eq.mpr (by omega)
          have bi : decide (0 < (i : Int)) = true := decide_eq_true (by omega)
          have bj : decide (0 < i) = true := decide_eq_true (by omega)
          have bt : decide ((i : Int) < 10) = true := decide_eq_true (by have := HI.out.1; omega)
          have b0 : (c == 0) = false := beq_eq_false_iff_ne.mpr (by omega)
          have b1 : decide (1 < c) = true := decide_eq_true (by omega)
          have b128 : decide (c < 128) = false := decide_eq_false (by omega)
          clear ei ec
          go_wp2_with fail
          refine (quarryref04_reader_one.calls (c :: t) g w0 _ HR.out).mono ?_
          rintro e w1 ⟨hk, hb, he, hrd⟩
          obtain rfl : e = .returned (.int .u8 c) := he
          obtain ⟨hgg, _, hbi, A1, k1, hbe, hck, hRR⟩ := hrd
          have hce : w1.cell? ⟨g, 1, none⟩ = some (.int .i64 0) := (blk_cell hbe 1).trans rfl
          have hfe := blk_frozen hbe 1
          have HK1 := Aside0.mk hk
          have HB1 := Aside0.mk hb
          have HE := Aside0.mk hbe
          have HM1 := Aside0.mk hRR.2.1
          have HR1 : Aside0 (Qd w0 w1 g t) := ⟨hgg, hb, hbi, A1, k1, hbe, hck, hRR⟩
          clear hk hb hbe hRR hbi hck
          go_wp2_with fail
          refine (quarryref04_reader_fail.first g 3 _ hce hfe).mono ?_
          rintro e w2 ⟨rfl, rfl⟩
          go_wp2
          go_ret
          exact ⟨KeepBut.trans HK.out (KeepBut.set_ HK1.out 1 _) (.inl rfl), Below.setCell HB1.out hgg _, ⟨0, rfl, rfl⟩, by decide, A1, _, k1, blk_set HE.out 1 _, HM1.out⟩

end Go.Proofs.Ytlnpefcclhmokaa.P
