/- Written in this session: the readers of rows by hand. -/
import Derived.Test.YtlnpefcclhmokaaH6
import Derived.Defers
import Derived.Recover
import Derived.WideLaws
import Derived.WalkLawsBesides
import Derived.WalkSpells
import Derived.Outline
import Derived.RegionDies
namespace Go.Proofs.Ytlnpefcclhmokaa.P
open Go.RowKit Go.Proofs.YtlnpefcclhmokaaW.PrintWords Go.Proofs.YtlnpefcclhmokaaW.PrintLast Go.Proofs.YtlnpefcclhmokaaW.PrintMore
attribute [local go_sem] max2_int min2_int max_two min_two max_three min_three max_four min_four   -- for this text's walks alone
set_option linter.unusedVariables false
set_option linter.unusedSimpArgs false


def quarryref04_Decode.f (l : List Int) : Option (List (S38) × Int) := if bytesB l = true then some (r_dec l) else none
/-- What holds while the document decodes: its reader; the row so far. -/
def DR (w W : World) (l : List Int) (v : Value) (acc : List S38) : Prop := Qd w W w.heap.size l ∧ Kd.R k38 38 W w.heap.size (fun _ => True) v acc
/-- Or a thing was wrong. -/
def DF (w W : World) (c : Int) : Prop := Below w.heap.size w W ∧ Qe W w.heap.size c
theorem DR.call {α : Type} {enc : α → Value} {z : α → Prop} {x : α} {w W W1 : World} {l t : List Int} {v : Value} {acc : List S38} {e : Ending} (h : DR w W l v acc) (h1 : QPost enc z (.ok (x, t)) w W w.heap.size e W1) : e = .returned (enc x) ∧ DR w W1 t v acc := by
  obtain ⟨hr, h4⟩ := h
  obtain ⟨hk, hb, he, hrd⟩ := h1
  obtain ⟨A, c, hg, _⟩ := hr.2.2.2
  exact ⟨he, hrd, Kd.R_mono (Kd.R_keep (Kd.R_types h4 hg (by decide)) hk (fun k hk => hk.2)) (fun _ _ => trivial)⟩
theorem DR.fail {α : Type} {enc : α → Value} {z : α → Prop} {w W W1 : World} {l : List Int} {c : Int} {v : Value} {acc : List S38} {e : Ending} (h : DR w W l v acc) (h1 : QPost enc z (.error c) w W w.heap.size e W1) : (∃ x, z x ∧ e = .returned (enc x)) ∧ DF w W1 c ∧ Kd.R k38 38 W1 w.heap.size (fun _ => True) v acc := by
  obtain ⟨hr, h4⟩ := h
  obtain ⟨hk, hb, he, hrd⟩ := h1
  obtain ⟨A, c, hg, _⟩ := hr.2.2.2
  exact ⟨he, ⟨hb, hrd⟩, Kd.R_mono (Kd.R_keep (Kd.R_types h4 hg (by decide)) hk (fun k hk => hk.2)) (fun _ _ => trivial)⟩
theorem DR.start {w : World} {A0 : Option Addr} {c0 : Nat} {l0 : List Int} (hB : BytesIn l0) (hR : ReadsInt w .u8 A0 l0.length l0) (hc : l0.length ≤ c0) :
    DR w (w.alloc (.cells #[.slice A0 l0.length c0, .int .i64 0] 48)) l0 (.slice none 0 0) [] :=
  ⟨⟨Nat.le_refl _, below_alloc (Below.refl _ _) _, hB, A0, c0, Deep.blk_alloc_new w _, hc, hR⟩, Kd.R_nil _ _ _ _ _⟩
theorem DR.grown {w W W5 : World} {l : List Int} {v v3 : Value} {acc acc3 : List S38} (h : DR w W l v acc) (ho : Kd.R k38 38 W5 w.heap.size (fun _ => True) v3 acc3) (hb : Below w.heap.size w W5) (hg : W.grownBy W5 v.ownBlock) : DR w W5 l v3 acc3 := by
  obtain ⟨hr, h4⟩ := h
  obtain ⟨A, c, hg', _⟩ := hr.2.2.2
  exact ⟨hr.alive hb ((blk_grown hg' hg (Kd.R_ne h4 hg' (by decide))).trans hg'.symm), ho⟩
theorem DF.grown {w W W5 : World} {c : Int} {v : Value} {acc : List S38} (h : DF w W c) (h4 : Kd.R k38 38 W w.heap.size (fun _ => True) v acc) (hb : Below w.heap.size w W5) (hg : W.grownBy W5 v.ownBlock) : DF w W5 c := by
  obtain ⟨_, hc, A, n, k, hg', hn⟩ := h
  exact ⟨hb, hc, A, n, k, blk_grown hg' hg (Kd.R_ne h4 hg' (by decide)), hn⟩
/-- The rounds. -/
def LS (w W : World) (m i : Nat) (v : Value) (q : Except Int (List S38 × List Int)) (kq : Nat) : Prop :=
  i ≤ m ∧ ((∃ l' acc, DR w W l' v acc ∧ r_loop (m - i) acc l' = q ∧ acc.length + l'.length ≤ 2048 ∧ kq = m - i + 1) ∨ (∃ c, q = .error c ∧ DF w W c))
def r_all (l : List Int) : Except Int (List S38 × List Int) := match r_num 0 0 l with
    | .error c => .error c
    | .ok (n, t) => r_loop n.toNat [] t
theorem r_dec_all {l : List Int} (h : ¬ 2048 < l.length) : r_dec l = r_fin (r_all l) := by
  rw [r_dec, if_neg h, r_all]
  cases r_num 0 0 l with
  | error c => rfl
  | ok p => rfl
theorem LS.start {w W W1 : World} {l0 : List Int} {e : Ending} {v : Value} (h : DR w W l0 v []) (hB : BytesIn l0) (hl : l0.length ≤ 2048) (h1 : QPost (Value.int .u64) (· = 0) (r_num 0 0 l0) w W w.heap.size e W1) :
    ∃ m : Nat, e = .returned (.int .u64 (m : Int)) ∧ (m : Int) < 18446744073709551616 ∧ ∃ kq, LS w W1 m 0 v (r_all l0) kq := by
  cases hn : r_num 0 0 l0 with
  | error c =>
    rw [hn] at h1
    obtain ⟨⟨_, rfl, rfl⟩, h2, _⟩ := h.fail h1
    exact ⟨0, rfl, by decide, 0, Nat.le_refl _, .inr ⟨c, by rw [r_all, hn], h2⟩⟩
  | ok p =>
    obtain ⟨n, t⟩ := p
    rw [hn] at h1
    obtain ⟨rfl, h2⟩ := h.call h1
    obtain ⟨hn0, hn1⟩ := r_num_bound hB (by omega) (by omega) (by decide) hn
    obtain ⟨m, rfl⟩ := Int.eq_ofNat_of_zero_le hn0
    have := r_num_length hn
    exact ⟨m, rfl, hn1, _, Nat.zero_le _, .inl ⟨t, [], h2, by rw [r_all, hn]; rfl, by simp; omega, rfl⟩⟩

theorem quarryref04_Decode.long (A0 : Option Addr) (c0 : Nat) (l0 : List Int) (w : World) (hl : 2048 < l0.length) (hm : l0.length ≤ 9223372036854775807) :
    Calls Try.prog 16 #[.slice A0 l0.length c0] w fun e w' => ∃ v0_ : Value, e = .returned (.tuple #[v0_, .int .i64 8]) ∧ Kd.R k38 38 w' w.heap.size (fun _ => True) v0_ [] ∧ Below w.heap.size w w' := by
  have hb : decide (2048 < (l0.length : Int)) = true := decide_eq_true (by omega)
  have HM := Aside0.mk hm
  clear hl hm
  go_enter Try.func16, Try.ntmps16
  go_wp2
  refine bodyPost_ret (v := .tuple #[.slice none 0 0, .int .i64 8]) (by simp [results, Try.results16, go_sem]) rfl ⟨.slice none 0 0, rfl, Kd.R_nil _ _ _ _ _, Below.refl _ _⟩

set_option maxHeartbeats 2000000 in
set_option maxRecDepth 100000 in
theorem quarryref04_Decode.main (A0 : Option Addr) (c0 : Nat) (l0 : List Int) (w : World) (hl : ¬ 2048 < l0.length) (hB : BytesIn l0) (hr0 : Kd.C (Kd.int .u8) w A0 l0.length l0) (hc0 : l0.length ≤ c0) (r1 : List S38) (r2 : Int) (hr : r_dec l0 = (r1, r2)) :
    Calls Try.prog 16 #[.slice A0 l0.length c0] w fun e w' => ∃ v0_ : Value, e = .returned (.tuple #[v0_, .int .i64 r2]) ∧ Kd.R k38 38 w' w.heap.size (fun _ => True) v0_ r1 ∧ Below w.heap.size w w' := by
  have hb : decide (2048 < (l0.length : Int)) = false := decide_eq_false (by omega)
  have HI := Aside0.mk (DR.start hB (C_ints hr0) hc0)
  have HB := Aside0.mk hB
  have HL := Aside0.mk hl
  rw [r_dec_all hl] at hr
  obtain ⟨q, hq⟩ : ∃ q, r_all l0 = q := ⟨_, rfl⟩
  rw [hq] at hr
  have HE := Aside0.mk hr
  have HQ := Aside0.mk hq
  clear hB hc0 hr0 hl hr hq
  go_enter Try.func16, Try.ntmps16
  go_wp2_with fail
  refine (quarryref04_reader_number.calls l0 w.heap.size w _ HI.out.1).mono ?_
  rintro e w1 h1
  obtain ⟨m, rfl, hm, kq0, hs⟩ := LS.start HI.out HB.out (by have := HL.out; omega) h1
  rw [HQ.out] at hs
  have HS := Aside0.mk hs
  have HM := Aside0.mk hm
  clear hs hm h1 HI
  go_wp2_with fail
  go_loopg [6, 7] kq0 (fun kq v6 v7 w' => ∃ (i : Nat) (v : Value), v = v6 ∧ v7 = .int .u64 (i : Int) ∧ Aside0 (LS w w' m i v q kq))
  case atStart => exact ⟨0, _, rfl, rfl, HS⟩
  case round =>
    clear HS
    obtain ⟨i, v, rfl, rfl, HS⟩ := hrel
    rcases HS.out.2 with ⟨l', acc, hd, hq', ha, hk⟩ | ⟨c, hq', hf⟩
    · obtain ⟨A1, c1, rfl⟩ : ∃ A1 c1, v = .slice A1 acc.length c1 := Kd.R_slice hd.2
      obtain ⟨A, cc, hrc, hrf, hre, hrg, hcc, hR, hml⟩ := (show Jv w wr wr w.heap.size l' from ⟨KeepBut.refl _ _ _, hd.1⟩).cells
      clear hR hcc
      have HI := Aside0.mk hd
      have HA := Aside0.mk ha
      have HK := Aside0.mk hk
      clear hd ha hk
      by_cases ei : i < m
      · have bi : decide ((i : Int) < (m : Int)) = true := decide_eq_true (by omega)
        have bj : decide (i < m) = true := decide_eq_true ei
        have hiw : IntKind.u64.wrap ((i : Int) + 1) = ((i + 1 : Nat) : Int) := by rw [IntKind.wrap_u64]; have := HM.out; omega
        cases hv : r_val l' with
        | error c =>
          have HQ' : Aside0 (q = .error c) := ⟨by rw [← hq', show m - i = (m - i - 1) + 1 by omega, r_loop, hv]⟩
          have HV := Aside0.mk hv
          clear hv hq'
          go_wp2_with fail
          refine (quarryref04_reader_value.calls l' w.heap.size w _ HI.out.1).mono ?_
          rintro e w2 h2
          rw [HV.out] at h2
          obtain ⟨⟨x, _, rfl⟩, hdf, hrow⟩ := HI.out.fail h2
          have HX := Aside0.mk (And.intro hrow hdf.1)
          have HF := Aside0.mk hdf
          clear h2 hdf hrow hrc hrf hre hrg
          simp only [encV]
          go_wp2_with (first | ((with_reducible refine gate_builtin (b := .append) (xs := #[.tmp 28, .tmp 31]) rfl ?_); at_builtin; refine Kd.R_append k38 (w0 := w) w.heap.size rfl (.tmp 28) (.tmp 31) 22 38 (.agg #[.int .i64 0, .int .i64 0, .string (⟨#[]⟩ : ByteArray)]) 32 rfl Try.underlying22 info38d rfl (by decide) (by omega) (.slice A1 acc.length c1) acc x [.int .i64 x.f0, .int .i64 x.f1, .string x.f2] (fun _ => True) (fun _ => False) rfl rfl ?aP (fun _ hk => hk.elim) ?aF ?aO ?aB ?aS ?aL ?_; (case aP => exact k38_mkM _ _ _ x); (case aF => exact fun _ _ => trivial); (case aO => exact HX.out.1); (case aB => exact HX.out.2); (case aS => exact below_size HX.out.2); (case aL => have := HA.out; omega); intro v3 w5 ho hb hg hat; have HG := Aside0.mk (HF.out.grown HX.out.1 hb hg); clear HX HF; clear ho hb hg hat))
          go_roundg 0
          case measure => have := HK.out; omega
          case rel => exact ⟨i + 1, _, rfl, by go_num, ⟨by omega, .inr ⟨c, HQ'.out, HG.out⟩⟩⟩
        | ok p =>
          obtain ⟨x, t'⟩ := p
          have HQ' : Aside0 (r_loop (m - (i + 1)) (acc ++ [x]) t' = q) := ⟨by rw [← hq', show m - i = (m - (i + 1)) + 1 by omega, r_loop, hv]⟩
          have HT' := Aside0.mk (r_val_length hv)
          have HV := Aside0.mk hv
          clear hv hq'
          go_wp2_with fail
          refine (quarryref04_reader_value.calls l' w.heap.size w _ HI.out.1).mono ?_
          rintro e w2 h2
          rw [HV.out] at h2
          obtain ⟨rfl, hi⟩ := HI.out.call h2
          clear HI h2
          have HI := Aside0.mk hi
          have HX := Aside0.mk (And.intro hi.2 hi.1.2.1)
          clear hi hrc hrf hre hrg
          simp only [encV]
          go_wp2_with (first | ((with_reducible refine gate_builtin (b := .append) (xs := #[.tmp 28, .tmp 31]) rfl ?_); at_builtin; refine Kd.R_append k38 (w0 := w) w.heap.size rfl (.tmp 28) (.tmp 31) 22 38 (.agg #[.int .i64 0, .int .i64 0, .string (⟨#[]⟩ : ByteArray)]) 32 rfl Try.underlying22 info38d rfl (by decide) (by omega) (.slice A1 acc.length c1) acc x [.int .i64 x.f0, .int .i64 x.f1, .string x.f2] (fun _ => True) (fun _ => False) rfl rfl ?aP (fun _ hk => hk.elim) ?aF ?aO ?aB ?aS ?aL ?_; (case aP => exact k38_mkM _ _ _ x); (case aF => exact fun _ _ => trivial); (case aO => exact HX.out.1); (case aB => exact HX.out.2); (case aS => exact below_size HX.out.2); (case aL => have := HA.out; omega); intro v3 w5 ho hb hg hat; have HG := Aside0.mk (HI.out.grown ho hb hg); clear HX HI; clear ho hb hg hat))
          go_roundg (m - (i + 1) + 1)
          case measure => have := HK.out; omega
          case rel => exact ⟨i + 1, _, rfl, by go_num, ⟨by omega, .inl ⟨t', acc ++ [x], HG.out, HQ'.out, by have := HA.out; have := HT'.out; simp; omega, rfl⟩⟩⟩
      · have bi : decide ((i : Int) < (m : Int)) = false := decide_eq_false (by omega)
        have bj : decide (i < m) = false := decide_eq_false ei
        have eq : q = .ok (acc, l') := by rw [← hq', show m - i = 0 by omega]; rfl
        have hE := HE.out
        rw [eq, r_fin] at hE
        by_cases el : 0 < l'.length
        · have bl : decide (0 < (l'.length : Int)) = true := decide_eq_true (by omega)
          have bl' : decide (0 < l'.length) = true := decide_eq_true el
          rw [if_pos el] at hE
          obtain ⟨rfl, rfl⟩ : [] = r1 ∧ 6 = r2 := by simpa using hE
          clear hq' HE HQ hE eq
          go_wp2_with fail
          refine (quarryref04_reader_fail.first w.heap.size 6 _ hre hrg).mono ?_
          rintro e w2 ⟨rfl, rfl⟩
          go_wp2_with fail
          go_region
          go_wp2_with fail
          refine bodyPost_ret (v := .tuple #[.slice none 0 0, .int .i64 6]) (by simp [results, Try.results16, go_sem]) rfl ⟨.slice none 0 0, rfl, Kd.R_nil _ _ _ _ _, below_drew (Below.setCell HI.out.1.2.1 (Nat.le_refl _) _)⟩
        · have bl : decide (0 < (l'.length : Int)) = false := decide_eq_false (by omega)
          have bl' : decide (0 < l'.length) = false := decide_eq_false el
          rw [if_neg el] at hE
          obtain ⟨rfl, rfl⟩ : acc = r1 ∧ 0 = r2 := by simpa using hE
          clear hq' HE HQ hE eq
          go_wp2_with fail
          refine bodyPost_ret (v := .tuple #[.slice A1 acc.length c1, .int .i64 0]) (by simp [results, Try.results16, go_sem]) rfl ⟨.slice A1 acc.length c1, rfl, HI.out.2, HI.out.1.2.1⟩
    · have hE := HE.out
      rw [hq', r_fin] at hE
      obtain ⟨rfl, rfl⟩ : [] = r1 ∧ c = r2 := by simpa using hE
      obtain ⟨A, nn, kk, hrc, hrf, hre, hrg, hml⟩ := (show Je w wr wr w.heap.size c from ⟨KeepBut.refl _ _ _, Nat.le_refl _, hf.1, hf.2⟩).cells
      have hc : (c == 0) = false := beq_eq_false_iff_ne.mpr hf.2.1
      have HF := Aside0.mk hf
      clear hE hf hq' HQ HE
      by_cases ei : i < m
      · have bi : decide ((i : Int) < (m : Int)) = true := decide_eq_true (by omega)
        have bj : decide (i < m) = true := decide_eq_true ei
        by_cases el : 0 < nn
        · have bl : decide (0 < (nn : Int)) = true := decide_eq_true (by omega)
          have bl' : decide (0 < nn) = true := decide_eq_true el
          go_wp2_with fail
          refine (quarryref04_reader_fail.later w.heap.size 6 c _ hre (by simpa using hc)).mono ?_
          rintro e w2 ⟨rfl, rfl⟩
          go_wp2_with fail
          go_region
          go_wp2_with fail
          refine bodyPost_ret (v := .tuple #[.slice none 0 0, .int .i64 c]) (by simp [results, Try.results16, go_sem]) rfl ⟨.slice none 0 0, rfl, Kd.R_nil _ _ _ _ _, below_drew HF.out.1⟩
        · have bl : decide (0 < (nn : Int)) = false := decide_eq_false (by omega)
          have bl' : decide (0 < nn) = false := decide_eq_false el
          go_wp2_with fail
          go_region
          go_wp2_with fail
          refine bodyPost_ret (v := .tuple #[.slice none 0 0, .int .i64 c]) (by simp [results, Try.results16, go_sem]) rfl ⟨.slice none 0 0, rfl, Kd.R_nil _ _ _ _ _, below_drew HF.out.1⟩
      · have bi : decide ((i : Int) < (m : Int)) = false := decide_eq_false (by omega)
        have bj : decide (i < m) = false := decide_eq_false ei
        by_cases el : 0 < nn
        · have bl : decide (0 < (nn : Int)) = true := decide_eq_true (by omega)
          have bl' : decide (0 < nn) = true := decide_eq_true el
          go_wp2_with fail
          refine (quarryref04_reader_fail.later w.heap.size 6 c _ hre (by simpa using hc)).mono ?_
          rintro e w2 ⟨rfl, rfl⟩
          go_wp2_with fail
          go_region
          go_wp2_with fail
          refine bodyPost_ret (v := .tuple #[.slice none 0 0, .int .i64 c]) (by simp [results, Try.results16, go_sem]) rfl ⟨.slice none 0 0, rfl, Kd.R_nil _ _ _ _ _, below_drew HF.out.1⟩
        · have bl : decide (0 < (nn : Int)) = false := decide_eq_false (by omega)
          have bl' : decide (0 < nn) = false := decide_eq_false el
          go_wp2_with fail
          go_region
          go_wp2_with fail
          refine bodyPost_ret (v := .tuple #[.slice none 0 0, .int .i64 c]) (by simp [results, Try.results16, go_sem]) rfl ⟨.slice none 0 0, rfl, Kd.R_nil _ _ _ _ _, below_drew HF.out.1⟩

theorem quarryref04_Decode.calls (A0 : Option Addr) (c0 : Nat) (l0 : List Int) (r1 : List S38) (r2 : Int) (w : World) (hr0 : Kd.C (Kd.int .u8) w A0 l0.length l0) (hc0 : l0.length ≤ c0) (h : quarryref04_Decode.f l0 = some (r1, r2)) :
    Calls Try.prog 16 #[.slice A0 l0.length c0] w fun e w' => ∃ v0_ : Value, e = .returned (.tuple #[v0_, .int .i64 r2]) ∧ Kd.R k38 38 w' w.heap.size (fun _ => True) v0_ r1 ∧ Below w.heap.size w w' := by
  rw [quarryref04_Decode.f] at h
  by_cases hB : bytesB l0 = true
  · rw [if_pos hB, Option.some.injEq] at h
    by_cases hl : 2048 < l0.length
    · rw [r_dec, if_pos hl, Prod.mk.injEq] at h
      obtain ⟨rfl, rfl⟩ := h
      exact quarryref04_Decode.long A0 c0 l0 w hl (C_ints hr0).2.1
    · exact quarryref04_Decode.main A0 c0 l0 w hl (bytesB_in hB) hr0 hc0 r1 r2 h
  · rw [if_neg hB] at h
    cases h

end Go.Proofs.Ytlnpefcclhmokaa.P
