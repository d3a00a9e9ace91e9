/- Written in this session: the readers of rows by hand. -/
import Derived.Test.YtlnpefcclhmokaaH1
import Derived.Test.YtlnpefcclhmokaaP0
import Derived.WalkLawsBesides
import Derived.Outline
import Derived.Laws.Bits64
import Derived.Laws.BitsAllLaws
namespace Go.Proofs.Ytlnpefcclhmokaa.P
open Go.RowKit Go.Proofs.YtlnpefcclhmokaaW.PrintWords Go.Proofs.YtlnpefcclhmokaaW.PrintLast Go.Proofs.YtlnpefcclhmokaaW.PrintMore
attribute [local go_sem] max2_int min2_int max_two min_two max_three min_three max_four min_four   -- for this text's walks alone
set_option linter.unusedVariables false
set_option linter.unusedSimpArgs false


theorem cut_take {P : Program} (t e : TypeId) (kh : IntKind) {i : TypeInfo} (ht : P.underlying t = some (.slice e)) (hi : P.info? e = some i) (hsz : i.size = 1) (A : Option Addr) (n c m : Nat) (hm : m ≤ c) (W : World) :
    (Instr.slice t (.slice A n c) none (some (.int kh (m : Int))) none).run P W = .ok (.slice A m c) W := by
  have hel : P.elem t = e := by simp [Program.elem, ht]
  have hu : P.underlying t = some (.slice (P.elem t)) := by rw [hel]; exact ht
  rw [run_slice_h W t A n c hu kh (m : Int) (Int.natCast_nonneg _) (by omega), hel]
  simp [sizeOf, typeInfo, hi, hsz, sliced, Result.andThen]
  intro _
  cases A <;> simp [Addr.add]

set_option maxHeartbeats 2000000 in
set_option maxRecDepth 100000 in
theorem rows_reader_value.text3_none (k : Int) (t : List Int) (g : Nat) (w0 w : World) (h : Rd w0 w g (k :: t)) (e : k = 3) (c : Int) (et : r_num 0 0 t = .error c) :
    Calls Try.prog 22 #[.pointer (some ⟨g, 0, none⟩)] w (RPost encV (.error c) w0 w g) := by
  have hu38 := Try.underlying38
  have HG := Aside0.mk h.lt
  have HI : Aside0 (Iv w0 w w g (k :: t)) := ⟨KeepBut.refl w g none, h⟩
  obtain ⟨hk0, hk1⟩ := h.2.2.1 k (by simp)
  clear h
  have b0 : (k == 0) = false := beq_eq_false_iff_ne.mpr (by omega)
  have b1 : (k == 1) = false := beq_eq_false_iff_ne.mpr (by omega)
  have b2 : (k == 2) = false := beq_eq_false_iff_ne.mpr (by omega)
  have b3 : (k == 3) = true := beq_iff_eq.mpr e
  have ET := Aside0.mk et
  clear et
  go_enter Try.func22, Try.ntmps22
  go_wp2_with fail
  refine (rows_reader_one.calls (k :: _) g w0 _ (HI.out.alloc _).2).mono ?_
  rintro e w1 h1
  obtain ⟨hz, F2⟩ := v_new HG.out h1.1
  obtain ⟨he, hi⟩ := (HI.out.alloc _).then h1
  obtain rfl : e = .returned (.int .u8 k) := he
  clear h1 HI
  have HI := Aside0.mk hi
  clear hi
  have hca0 : World.cell? _ ⟨w.heap.size, 0, none⟩ = some (.int .i64 0) := (blk_cell F2 0).trans rfl
  have hfa0 := blk_frozen F2 0
  have hca1 : World.cell? _ ⟨w.heap.size, 1, none⟩ = some (.int .i64 0) := (blk_cell F2 1).trans rfl
  have hfa1 := blk_frozen F2 1
  have hca2 : World.cell? _ ⟨w.heap.size, 2, none⟩ = some (.string (⟨#[]⟩ : ByteArray)) := (blk_cell F2 2).trans rfl
  have hfa2 := blk_frozen F2 2
  have HF := Aside0.mk F2
  clear F2
  go_wp2_with fail
  refine (rows_reader_number.calls t g w0 _ (HI.out.alloc _).2).mono ?_
  rintro e w2 h2
  rw [ET.out] at h2
  obtain ⟨he, hi⟩ := (HI.out.alloc _).fail (enc' := encV) h2
  obtain rfl := he
  have HP := Aside0.mk hi
  clear hi h2
  go_wp2
  exact ⟨rfl, HP.out⟩
set_option maxHeartbeats 2000000 in
set_option maxRecDepth 100000 in
theorem rows_reader_value.text3_short (k : Int) (t : List Int) (g : Nat) (w0 w : World) (h : Rd w0 w g (k :: t)) (e : k = 3) (n : Int) (t2 : List Int) (et : r_num 0 0 t = .ok (n, t2)) (en : (t2.length : Int) < n) :
    Calls Try.prog 22 #[.pointer (some ⟨g, 0, none⟩)] w (RPost encV (.error 1) w0 w g) := by
  have hu38 := Try.underlying38
  have HG := Aside0.mk h.lt
  have HI : Aside0 (Iv w0 w w g (k :: t)) := ⟨KeepBut.refl w g none, h⟩
  obtain ⟨hk0, hk1⟩ := h.2.2.1 k (by simp)
  clear h
  have b0 : (k == 0) = false := beq_eq_false_iff_ne.mpr (by omega)
  have b1 : (k == 1) = false := beq_eq_false_iff_ne.mpr (by omega)
  have b2 : (k == 2) = false := beq_eq_false_iff_ne.mpr (by omega)
  have b3 : (k == 3) = true := beq_iff_eq.mpr e
  obtain ⟨hn0, hn1⟩ := r_num_bound (fun x hx => HI.out.2.2.2.1 x (List.mem_cons_of_mem _ hx)) (by omega) (by omega) (by decide) et
  have ET := Aside0.mk et
  clear et
  go_enter Try.func22, Try.ntmps22
  go_wp2_with fail
  refine (rows_reader_one.calls (k :: _) g w0 _ (HI.out.alloc _).2).mono ?_
  rintro e w1 h1
  obtain ⟨hz, F2⟩ := v_new HG.out h1.1
  obtain ⟨he, hi⟩ := (HI.out.alloc _).then h1
  obtain rfl : e = .returned (.int .u8 k) := he
  clear h1 HI
  have HI := Aside0.mk hi
  clear hi
  have hca0 : World.cell? _ ⟨w.heap.size, 0, none⟩ = some (.int .i64 0) := (blk_cell F2 0).trans rfl
  have hfa0 := blk_frozen F2 0
  have hca1 : World.cell? _ ⟨w.heap.size, 1, none⟩ = some (.int .i64 0) := (blk_cell F2 1).trans rfl
  have hfa1 := blk_frozen F2 1
  have hca2 : World.cell? _ ⟨w.heap.size, 2, none⟩ = some (.string (⟨#[]⟩ : ByteArray)) := (blk_cell F2 2).trans rfl
  have hfa2 := blk_frozen F2 2
  have HF := Aside0.mk F2
  clear F2
  go_wp2_with fail
  refine (rows_reader_number.calls t g w0 _ (HI.out.alloc _).2).mono ?_
  rintro e w2 h2
  rw [ET.out] at h2
  clear hca0 hfa0
  clear hca1 hfa1
  clear hca2 hfa2
  obtain ⟨hz2, F3⟩ := v_new HI.out.2.lt h2.1
  have F2 := v_old (by have := HG.out; omega) HF.out h2.1
  have hz3 : w.heap.size < w2.heap.size := by omega
  obtain ⟨he, hi⟩ := (HI.out.alloc _).then h2
  obtain rfl : e = .returned (.int .u64 n) := he
  clear h2 HI HF
  have HI := Aside0.mk hi
  clear hi
  have hca0 : World.cell? w2 ⟨w.heap.size, 0, none⟩ = some (.int .i64 0) := (blk_cell F2 0).trans rfl
  have hfa0 : w2.frozen? ⟨w.heap.size, 0, none⟩ = false := blk_frozen F2 0
  have hca1 : World.cell? w2 ⟨w.heap.size, 1, none⟩ = some (.int .i64 0) := (blk_cell F2 1).trans rfl
  have hfa1 : w2.frozen? ⟨w.heap.size, 1, none⟩ = false := blk_frozen F2 1
  have hca2 : World.cell? w2 ⟨w.heap.size, 2, none⟩ = some (.string (⟨#[]⟩ : ByteArray)) := (blk_cell F2 2).trans rfl
  have hfa2 : w2.frozen? ⟨w.heap.size, 2, none⟩ = false := blk_frozen F2 2
  have hcb0 : World.cell? w2 ⟨w1.heap.size, 0, none⟩ = some (.int .i64 3) := (blk_cell F3 0).trans rfl
  have hfb0 : w2.frozen? ⟨w1.heap.size, 0, none⟩ = false := blk_frozen F3 0
  have hcb1 : World.cell? w2 ⟨w1.heap.size, 1, none⟩ = some (.int .i64 0) := (blk_cell F3 1).trans rfl
  have hfb1 : w2.frozen? ⟨w1.heap.size, 1, none⟩ = false := blk_frozen F3 1
  have hcb2 : World.cell? w2 ⟨w1.heap.size, 2, none⟩ = some (.string (⟨#[]⟩ : ByteArray)) := (blk_cell F3 2).trans rfl
  have hfb2 : w2.frozen? ⟨w1.heap.size, 2, none⟩ = false := blk_frozen F3 2
  have GB := Aside0.mk (show w.heap.size ≤ w1.heap.size by omega)
  have hne : ¬ w.heap.size = w1.heap.size := by omega
  have hne' : ¬ w1.heap.size = w.heap.size := by omega
  clear F2 F3
  obtain ⟨A, c, hb, hc, hR⟩ := HI.out.2.2.2.2
  have hrc : w2.cell? ⟨g, 0, none⟩ = some (.slice A t2.length c) := (blk_cell hb 0).trans rfl
  have hrf := blk_frozen hb 0
  have hl : t2.length ≤ 9223372036854775807 := hR.2.1
  have hu : IntKind.u64.wrap (t2.length : Int) = (t2.length : Int) := by rw [IntKind.wrap_u64]; omega
  have b9 : decide ((t2.length : Int) < n) = true := decide_eq_true en
  have HB := Aside0.mk hb
  clear hb hR hc en
  go_wp2
  exact ⟨rfl, HI.out.err 1⟩
set_option maxHeartbeats 2000000 in
set_option maxRecDepth 100000 in
theorem rows_reader_value.text3 (k : Int) (t : List Int) (g : Nat) (w0 w : World) (h : Rd w0 w g (k :: t)) (e : k = 3) (n : Int) (t2 : List Int) (et : r_num 0 0 t = .ok (n, t2)) (en : ¬ (t2.length : Int) < n) :
    Calls Try.prog 22 #[.pointer (some ⟨g, 0, none⟩)] w (RPost encV (.ok (⟨3, 0, strOfNums (t2.take n.toNat)⟩, t2.drop n.toNat)) w0 w g) := by
  have hu38 := Try.underlying38
  have HG := Aside0.mk h.lt
  have HI : Aside0 (Iv w0 w w g (k :: t)) := ⟨KeepBut.refl w g none, h⟩
  obtain ⟨hk0, hk1⟩ := h.2.2.1 k (by simp)
  clear h
  have b0 : (k == 0) = false := beq_eq_false_iff_ne.mpr (by omega)
  have b1 : (k == 1) = false := beq_eq_false_iff_ne.mpr (by omega)
  have b2 : (k == 2) = false := beq_eq_false_iff_ne.mpr (by omega)
  have b3 : (k == 3) = true := beq_iff_eq.mpr e
  obtain ⟨hn0, hn1⟩ := r_num_bound (fun x hx => HI.out.2.2.2.1 x (List.mem_cons_of_mem _ hx)) (by omega) (by omega) (by decide) et
  have ET := Aside0.mk et
  clear et
  go_enter Try.func22, Try.ntmps22
  go_wp2_with fail
  refine (rows_reader_one.calls (k :: _) g w0 _ (HI.out.alloc _).2).mono ?_
  rintro e w1 h1
  obtain ⟨hz, F2⟩ := v_new HG.out h1.1
  obtain ⟨he, hi⟩ := (HI.out.alloc _).then h1
  obtain rfl : e = .returned (.int .u8 k) := he
  clear h1 HI
  have HI := Aside0.mk hi
  clear hi
  have hca0 : World.cell? _ ⟨w.heap.size, 0, none⟩ = some (.int .i64 0) := (blk_cell F2 0).trans rfl
  have hfa0 := blk_frozen F2 0
  have hca1 : World.cell? _ ⟨w.heap.size, 1, none⟩ = some (.int .i64 0) := (blk_cell F2 1).trans rfl
  have hfa1 := blk_frozen F2 1
  have hca2 : World.cell? _ ⟨w.heap.size, 2, none⟩ = some (.string (⟨#[]⟩ : ByteArray)) := (blk_cell F2 2).trans rfl
  have hfa2 := blk_frozen F2 2
  have HF := Aside0.mk F2
  clear F2
  go_wp2_with fail
  refine (rows_reader_number.calls t g w0 _ (HI.out.alloc _).2).mono ?_
  rintro e w2 h2
  rw [ET.out] at h2
  clear hca0 hfa0
  clear hca1 hfa1
  clear hca2 hfa2
  obtain ⟨hz2, F3⟩ := v_new HI.out.2.lt h2.1
  have F2 := v_old (by have := HG.out; omega) HF.out h2.1
  have hz3 : w.heap.size < w2.heap.size := by omega
  obtain ⟨he, hi⟩ := (HI.out.alloc _).then h2
  obtain rfl : e = .returned (.int .u64 n) := he
  clear h2 HI HF
  have HI := Aside0.mk hi
  clear hi
  have hca0 : World.cell? w2 ⟨w.heap.size, 0, none⟩ = some (.int .i64 0) := (blk_cell F2 0).trans rfl
  have hfa0 : w2.frozen? ⟨w.heap.size, 0, none⟩ = false := blk_frozen F2 0
  have hca1 : World.cell? w2 ⟨w.heap.size, 1, none⟩ = some (.int .i64 0) := (blk_cell F2 1).trans rfl
  have hfa1 : w2.frozen? ⟨w.heap.size, 1, none⟩ = false := blk_frozen F2 1
  have hca2 : World.cell? w2 ⟨w.heap.size, 2, none⟩ = some (.string (⟨#[]⟩ : ByteArray)) := (blk_cell F2 2).trans rfl
  have hfa2 : w2.frozen? ⟨w.heap.size, 2, none⟩ = false := blk_frozen F2 2
  have hcb0 : World.cell? w2 ⟨w1.heap.size, 0, none⟩ = some (.int .i64 3) := (blk_cell F3 0).trans rfl
  have hfb0 : w2.frozen? ⟨w1.heap.size, 0, none⟩ = false := blk_frozen F3 0
  have hcb1 : World.cell? w2 ⟨w1.heap.size, 1, none⟩ = some (.int .i64 0) := (blk_cell F3 1).trans rfl
  have hfb1 : w2.frozen? ⟨w1.heap.size, 1, none⟩ = false := blk_frozen F3 1
  have hcb2 : World.cell? w2 ⟨w1.heap.size, 2, none⟩ = some (.string (⟨#[]⟩ : ByteArray)) := (blk_cell F3 2).trans rfl
  have hfb2 : w2.frozen? ⟨w1.heap.size, 2, none⟩ = false := blk_frozen F3 2
  have GB := Aside0.mk (show w.heap.size ≤ w1.heap.size by omega)
  have hne : ¬ w.heap.size = w1.heap.size := by omega
  have hne' : ¬ w1.heap.size = w.heap.size := by omega
  clear F2 F3
  obtain ⟨A, c, hb, hc, hR⟩ := HI.out.2.2.2.2
  have hrc : w2.cell? ⟨g, 0, none⟩ = some (.slice A t2.length c) := (blk_cell hb 0).trans rfl
  have hrf := blk_frozen hb 0
  have hl : t2.length ≤ 9223372036854775807 := hR.2.1
  have hu : IntKind.u64.wrap (t2.length : Int) = (t2.length : Int) := by rw [IntKind.wrap_u64]; omega
  have b9 : decide ((t2.length : Int) < n) = false := decide_eq_false (by omega)
  obtain ⟨m, rfl⟩ := Int.eq_ofNat_of_zero_le hn0
  obtain ⟨i5, hi5, h55⟩ := Option.map_eq_some_iff.1 info5
  simp only [Prod.mk.injEq] at h55
  have hm : m ≤ t2.length := by omega
  obtain ⟨A', hcut, hcutR⟩ := print_cut (P := Try.prog) 24 5 .u64 Try.underlying24 hi5 h55.2.1 A t2.length c m hm
  have hR' : ReadsInt w0 .u8 A' (t2.length - m) (t2.drop m) := hcutR w0 .u8 t2 hc hR
  have htk : ∀ W : World, (Instr.slice 24 (.slice A t2.length c) none (some (.int .u64 (m : Int))) none).run Try.prog W = .ok (.slice A m c) W := fun W => cut_take 24 5 .u64 Try.underlying24 hi5 h55.2.1 A t2.length c m (by omega) W
  have hcv : (convert 24 9 (.slice A m c)).run Try.prog w2.drew = .ok (.string (strOfNums (t2.take m))) w2.drew := string_of_reads Try.underlying24 Try.underlying5 Try.underlying9 (((hR.take_ m hm).below HI.out.2.2.1).drewN 1)
  have HB := Aside0.mk hb
  have HR' := Aside0.mk hR'
  have HC := Aside0.mk hc
  clear hb hR hc en hi5 h55 hcutR hR'
  have b10 : decide (t2.length < m) = false := decide_eq_false (by omega)
  clear b9
  have HCV := Aside0.mk hcv
  have HCT := Aside0.mk hcut
  have HTK := Aside0.mk htk
  clear hcv hcut htk
  go_wp2_with fail
  have hcv := HCV.out
  have hcut := HCT.out
  have htk := HTK.out
  have hg1 : ¬ g = w.heap.size := by have := HG.out; omega
  have hg2 : ¬ w.heap.size = g := by have := HG.out; omega
  have hg3 : ¬ g = w1.heap.size := by have := HG.out; have := GB.out; omega
  have hg4 : ¬ w1.heap.size = g := by have := HG.out; have := GB.out; omega
  go_region
  clear hcv hcut htk hu hl hm hn0 hn1 hrc
  go_wp2_with fail
  rw [Int.toNat_natCast]
  subst e
  exact bodyPost_ret (v := .agg #[.int .i64 3, .int .i64 0, .string (strOfNums (t2.take m))]) (by simp [results, Try.results22, go_sem, hz3, hz2, hne, hne', hg1, hg2, hg3, hg4, hca0, hca1, hca2, hcb0, hcb1, hcb2]) rfl ((((((HI.out.set HG.out GB.out 2 _).turn (by have := HC.out; omega) HR'.out).set HG.out (Nat.le_refl _) 0 _).set HG.out (Nat.le_refl _) 1 _).set HG.out (Nat.le_refl _) 2 _).drew).post
set_option maxHeartbeats 2000000 in
set_option maxRecDepth 100000 in
theorem rows_reader_value.text4_none (k : Int) (t : List Int) (g : Nat) (w0 w : World) (h : Rd w0 w g (k :: t)) (e : k = 4) (c : Int) (et : r_num 0 0 t = .error c) :
    Calls Try.prog 22 #[.pointer (some ⟨g, 0, none⟩)] w (RPost encV (.error c) w0 w g) := by
  have hu38 := Try.underlying38
  have HG := Aside0.mk h.lt
  have HI : Aside0 (Iv w0 w w g (k :: t)) := ⟨KeepBut.refl w g none, h⟩
  obtain ⟨hk0, hk1⟩ := h.2.2.1 k (by simp)
  clear h
  have b0 : (k == 0) = false := beq_eq_false_iff_ne.mpr (by omega)
  have b1 : (k == 1) = false := beq_eq_false_iff_ne.mpr (by omega)
  have b2 : (k == 2) = false := beq_eq_false_iff_ne.mpr (by omega)
  have b3 : (k == 3) = false := beq_eq_false_iff_ne.mpr (by omega)
  have b4 : (k == 4) = true := beq_iff_eq.mpr e
  have ET := Aside0.mk et
  clear et
  go_enter Try.func22, Try.ntmps22
  go_wp2_with fail
  refine (rows_reader_one.calls (k :: _) g w0 _ (HI.out.alloc _).2).mono ?_
  rintro e w1 h1
  obtain ⟨hz, F2⟩ := v_new HG.out h1.1
  obtain ⟨he, hi⟩ := (HI.out.alloc _).then h1
  obtain rfl : e = .returned (.int .u8 k) := he
  clear h1 HI
  have HI := Aside0.mk hi
  clear hi
  have hca0 : World.cell? _ ⟨w.heap.size, 0, none⟩ = some (.int .i64 0) := (blk_cell F2 0).trans rfl
  have hfa0 := blk_frozen F2 0
  have hca1 : World.cell? _ ⟨w.heap.size, 1, none⟩ = some (.int .i64 0) := (blk_cell F2 1).trans rfl
  have hfa1 := blk_frozen F2 1
  have hca2 : World.cell? _ ⟨w.heap.size, 2, none⟩ = some (.string (⟨#[]⟩ : ByteArray)) := (blk_cell F2 2).trans rfl
  have hfa2 := blk_frozen F2 2
  have HF := Aside0.mk F2
  clear F2
  go_wp2_with fail
  refine (rows_reader_number.calls t g w0 _ (HI.out.alloc _).2).mono ?_
  rintro e w2 h2
  rw [ET.out] at h2
  obtain ⟨he, hi⟩ := (HI.out.alloc _).fail (enc' := encV) h2
  obtain rfl := he
  have HP := Aside0.mk hi
  clear hi h2
  go_wp2
  exact ⟨rfl, HP.out⟩
set_option maxHeartbeats 2000000 in
set_option maxRecDepth 100000 in
theorem rows_reader_value.text4_short (k : Int) (t : List Int) (g : Nat) (w0 w : World) (h : Rd w0 w g (k :: t)) (e : k = 4) (n : Int) (t2 : List Int) (et : r_num 0 0 t = .ok (n, t2)) (en : (t2.length : Int) < n) :
    Calls Try.prog 22 #[.pointer (some ⟨g, 0, none⟩)] w (RPost encV (.error 1) w0 w g) := by
  have hu38 := Try.underlying38
  have HG := Aside0.mk h.lt
  have HI : Aside0 (Iv w0 w w g (k :: t)) := ⟨KeepBut.refl w g none, h⟩
  obtain ⟨hk0, hk1⟩ := h.2.2.1 k (by simp)
  clear h
  have b0 : (k == 0) = false := beq_eq_false_iff_ne.mpr (by omega)
  have b1 : (k == 1) = false := beq_eq_false_iff_ne.mpr (by omega)
  have b2 : (k == 2) = false := beq_eq_false_iff_ne.mpr (by omega)
  have b3 : (k == 3) = false := beq_eq_false_iff_ne.mpr (by omega)
  have b4 : (k == 4) = true := beq_iff_eq.mpr e
  obtain ⟨hn0, hn1⟩ := r_num_bound (fun x hx => HI.out.2.2.2.1 x (List.mem_cons_of_mem _ hx)) (by omega) (by omega) (by decide) et
  have ET := Aside0.mk et
  clear et
  go_enter Try.func22, Try.ntmps22
  go_wp2_with fail
  refine (rows_reader_one.calls (k :: _) g w0 _ (HI.out.alloc _).2).mono ?_
  rintro e w1 h1
  obtain ⟨hz, F2⟩ := v_new HG.out h1.1
  obtain ⟨he, hi⟩ := (HI.out.alloc _).then h1
  obtain rfl : e = .returned (.int .u8 k) := he
  clear h1 HI
  have HI := Aside0.mk hi
  clear hi
  have hca0 : World.cell? _ ⟨w.heap.size, 0, none⟩ = some (.int .i64 0) := (blk_cell F2 0).trans rfl
  have hfa0 := blk_frozen F2 0
  have hca1 : World.cell? _ ⟨w.heap.size, 1, none⟩ = some (.int .i64 0) := (blk_cell F2 1).trans rfl
  have hfa1 := blk_frozen F2 1
  have hca2 : World.cell? _ ⟨w.heap.size, 2, none⟩ = some (.string (⟨#[]⟩ : ByteArray)) := (blk_cell F2 2).trans rfl
  have hfa2 := blk_frozen F2 2
  have HF := Aside0.mk F2
  clear F2
  go_wp2_with fail
  refine (rows_reader_number.calls t g w0 _ (HI.out.alloc _).2).mono ?_
  rintro e w2 h2
  rw [ET.out] at h2
  clear hca0 hfa0
  clear hca1 hfa1
  clear hca2 hfa2
  obtain ⟨hz2, F3⟩ := v_new HI.out.2.lt h2.1
  have F2 := v_old (by have := HG.out; omega) HF.out h2.1
  have hz3 : w.heap.size < w2.heap.size := by omega
  obtain ⟨he, hi⟩ := (HI.out.alloc _).then h2
  obtain rfl : e = .returned (.int .u64 n) := he
  clear h2 HI HF
  have HI := Aside0.mk hi
  clear hi
  have hca0 : World.cell? w2 ⟨w.heap.size, 0, none⟩ = some (.int .i64 0) := (blk_cell F2 0).trans rfl
  have hfa0 : w2.frozen? ⟨w.heap.size, 0, none⟩ = false := blk_frozen F2 0
  have hca1 : World.cell? w2 ⟨w.heap.size, 1, none⟩ = some (.int .i64 0) := (blk_cell F2 1).trans rfl
  have hfa1 : w2.frozen? ⟨w.heap.size, 1, none⟩ = false := blk_frozen F2 1
  have hca2 : World.cell? w2 ⟨w.heap.size, 2, none⟩ = some (.string (⟨#[]⟩ : ByteArray)) := (blk_cell F2 2).trans rfl
  have hfa2 : w2.frozen? ⟨w.heap.size, 2, none⟩ = false := blk_frozen F2 2
  have hcb0 : World.cell? w2 ⟨w1.heap.size, 0, none⟩ = some (.int .i64 4) := (blk_cell F3 0).trans rfl
  have hfb0 : w2.frozen? ⟨w1.heap.size, 0, none⟩ = false := blk_frozen F3 0
  have hcb1 : World.cell? w2 ⟨w1.heap.size, 1, none⟩ = some (.int .i64 0) := (blk_cell F3 1).trans rfl
  have hfb1 : w2.frozen? ⟨w1.heap.size, 1, none⟩ = false := blk_frozen F3 1
  have hcb2 : World.cell? w2 ⟨w1.heap.size, 2, none⟩ = some (.string (⟨#[]⟩ : ByteArray)) := (blk_cell F3 2).trans rfl
  have hfb2 : w2.frozen? ⟨w1.heap.size, 2, none⟩ = false := blk_frozen F3 2
  have GB := Aside0.mk (show w.heap.size ≤ w1.heap.size by omega)
  have hne : ¬ w.heap.size = w1.heap.size := by omega
  have hne' : ¬ w1.heap.size = w.heap.size := by omega
  clear F2 F3
  obtain ⟨A, c, hb, hc, hR⟩ := HI.out.2.2.2.2
  have hrc : w2.cell? ⟨g, 0, none⟩ = some (.slice A t2.length c) := (blk_cell hb 0).trans rfl
  have hrf := blk_frozen hb 0
  have hl : t2.length ≤ 9223372036854775807 := hR.2.1
  have hu : IntKind.u64.wrap (t2.length : Int) = (t2.length : Int) := by rw [IntKind.wrap_u64]; omega
  have b9 : decide ((t2.length : Int) < n) = true := decide_eq_true en
  have HB := Aside0.mk hb
  clear hb hR hc en
  go_wp2
  exact ⟨rfl, HI.out.err 1⟩
set_option maxHeartbeats 2000000 in
set_option maxRecDepth 100000 in
theorem rows_reader_value.text4 (k : Int) (t : List Int) (g : Nat) (w0 w : World) (h : Rd w0 w g (k :: t)) (e : k = 4) (n : Int) (t2 : List Int) (et : r_num 0 0 t = .ok (n, t2)) (en : ¬ (t2.length : Int) < n) :
    Calls Try.prog 22 #[.pointer (some ⟨g, 0, none⟩)] w (RPost encV (.ok (⟨4, 0, strOfNums (t2.take n.toNat)⟩, t2.drop n.toNat)) w0 w g) := by
  have hu38 := Try.underlying38
  have HG := Aside0.mk h.lt
  have HI : Aside0 (Iv w0 w w g (k :: t)) := ⟨KeepBut.refl w g none, h⟩
  obtain ⟨hk0, hk1⟩ := h.2.2.1 k (by simp)
  clear h
  have b0 : (k == 0) = false := beq_eq_false_iff_ne.mpr (by omega)
  have b1 : (k == 1) = false := beq_eq_false_iff_ne.mpr (by omega)
  have b2 : (k == 2) = false := beq_eq_false_iff_ne.mpr (by omega)
  have b3 : (k == 3) = false := beq_eq_false_iff_ne.mpr (by omega)
  have b4 : (k == 4) = true := beq_iff_eq.mpr e
  obtain ⟨hn0, hn1⟩ := r_num_bound (fun x hx => HI.out.2.2.2.1 x (List.mem_cons_of_mem _ hx)) (by omega) (by omega) (by decide) et
  have ET := Aside0.mk et
  clear et
  go_enter Try.func22, Try.ntmps22
  go_wp2_with fail
  refine (rows_reader_one.calls (k :: _) g w0 _ (HI.out.alloc _).2).mono ?_
  rintro e w1 h1
  obtain ⟨hz, F2⟩ := v_new HG.out h1.1
  obtain ⟨he, hi⟩ := (HI.out.alloc _).then h1
  obtain rfl : e = .returned (.int .u8 k) := he
  clear h1 HI
  have HI := Aside0.mk hi
  clear hi
  have hca0 : World.cell? _ ⟨w.heap.size, 0, none⟩ = some (.int .i64 0) := (blk_cell F2 0).trans rfl
  have hfa0 := blk_frozen F2 0
  have hca1 : World.cell? _ ⟨w.heap.size, 1, none⟩ = some (.int .i64 0) := (blk_cell F2 1).trans rfl
  have hfa1 := blk_frozen F2 1
  have hca2 : World.cell? _ ⟨w.heap.size, 2, none⟩ = some (.string (⟨#[]⟩ : ByteArray)) := (blk_cell F2 2).trans rfl
  have hfa2 := blk_frozen F2 2
  have HF := Aside0.mk F2
  clear F2
  go_wp2_with fail
  refine (rows_reader_number.calls t g w0 _ (HI.out.alloc _).2).mono ?_
  rintro e w2 h2
  rw [ET.out] at h2
  clear hca0 hfa0
  clear hca1 hfa1
  clear hca2 hfa2
  obtain ⟨hz2, F3⟩ := v_new HI.out.2.lt h2.1
  have F2 := v_old (by have := HG.out; omega) HF.out h2.1
  have hz3 : w.heap.size < w2.heap.size := by omega
  obtain ⟨he, hi⟩ := (HI.out.alloc _).then h2
  obtain rfl : e = .returned (.int .u64 n) := he
  clear h2 HI HF
  have HI := Aside0.mk hi
  clear hi
  have hca0 : World.cell? w2 ⟨w.heap.size, 0, none⟩ = some (.int .i64 0) := (blk_cell F2 0).trans rfl
  have hfa0 : w2.frozen? ⟨w.heap.size, 0, none⟩ = false := blk_frozen F2 0
  have hca1 : World.cell? w2 ⟨w.heap.size, 1, none⟩ = some (.int .i64 0) := (blk_cell F2 1).trans rfl
  have hfa1 : w2.frozen? ⟨w.heap.size, 1, none⟩ = false := blk_frozen F2 1
  have hca2 : World.cell? w2 ⟨w.heap.size, 2, none⟩ = some (.string (⟨#[]⟩ : ByteArray)) := (blk_cell F2 2).trans rfl
  have hfa2 : w2.frozen? ⟨w.heap.size, 2, none⟩ = false := blk_frozen F2 2
  have hcb0 : World.cell? w2 ⟨w1.heap.size, 0, none⟩ = some (.int .i64 4) := (blk_cell F3 0).trans rfl
  have hfb0 : w2.frozen? ⟨w1.heap.size, 0, none⟩ = false := blk_frozen F3 0
  have hcb1 : World.cell? w2 ⟨w1.heap.size, 1, none⟩ = some (.int .i64 0) := (blk_cell F3 1).trans rfl
  have hfb1 : w2.frozen? ⟨w1.heap.size, 1, none⟩ = false := blk_frozen F3 1
  have hcb2 : World.cell? w2 ⟨w1.heap.size, 2, none⟩ = some (.string (⟨#[]⟩ : ByteArray)) := (blk_cell F3 2).trans rfl
  have hfb2 : w2.frozen? ⟨w1.heap.size, 2, none⟩ = false := blk_frozen F3 2
  have GB := Aside0.mk (show w.heap.size ≤ w1.heap.size by omega)
  have hne : ¬ w.heap.size = w1.heap.size := by omega
  have hne' : ¬ w1.heap.size = w.heap.size := by omega
  clear F2 F3
  obtain ⟨A, c, hb, hc, hR⟩ := HI.out.2.2.2.2
  have hrc : w2.cell? ⟨g, 0, none⟩ = some (.slice A t2.length c) := (blk_cell hb 0).trans rfl
  have hrf := blk_frozen hb 0
  have hl : t2.length ≤ 9223372036854775807 := hR.2.1
  have hu : IntKind.u64.wrap (t2.length : Int) = (t2.length : Int) := by rw [IntKind.wrap_u64]; omega
  have b9 : decide ((t2.length : Int) < n) = false := decide_eq_false (by omega)
  obtain ⟨m, rfl⟩ := Int.eq_ofNat_of_zero_le hn0
  obtain ⟨i5, hi5, h55⟩ := Option.map_eq_some_iff.1 info5
  simp only [Prod.mk.injEq] at h55
  have hm : m ≤ t2.length := by omega
  obtain ⟨A', hcut, hcutR⟩ := print_cut (P := Try.prog) 24 5 .u64 Try.underlying24 hi5 h55.2.1 A t2.length c m hm
  have hR' : ReadsInt w0 .u8 A' (t2.length - m) (t2.drop m) := hcutR w0 .u8 t2 hc hR
  have htk : ∀ W : World, (Instr.slice 24 (.slice A t2.length c) none (some (.int .u64 (m : Int))) none).run Try.prog W = .ok (.slice A m c) W := fun W => cut_take 24 5 .u64 Try.underlying24 hi5 h55.2.1 A t2.length c m (by omega) W
  have hcv : (convert 24 9 (.slice A m c)).run Try.prog w2.drew = .ok (.string (strOfNums (t2.take m))) w2.drew := string_of_reads Try.underlying24 Try.underlying5 Try.underlying9 (((hR.take_ m hm).below HI.out.2.2.1).drewN 1)
  have HB := Aside0.mk hb
  have HR' := Aside0.mk hR'
  have HC := Aside0.mk hc
  clear hb hR hc en hi5 h55 hcutR hR'
  have b10 : decide (t2.length < m) = false := decide_eq_false (by omega)
  clear b9
  have HCV := Aside0.mk hcv
  have HCT := Aside0.mk hcut
  have HTK := Aside0.mk htk
  clear hcv hcut htk
  go_wp2_with fail
  have hcv := HCV.out
  have hcut := HCT.out
  have htk := HTK.out
  have hg1 : ¬ g = w.heap.size := by have := HG.out; omega
  have hg2 : ¬ w.heap.size = g := by have := HG.out; omega
  have hg3 : ¬ g = w1.heap.size := by have := HG.out; have := GB.out; omega
  have hg4 : ¬ w1.heap.size = g := by have := HG.out; have := GB.out; omega
  go_region
  clear hcv hcut htk hu hl hm hn0 hn1 hrc
  go_wp2_with fail
  rw [Int.toNat_natCast]
  subst e
  exact bodyPost_ret (v := .agg #[.int .i64 4, .int .i64 0, .string (strOfNums (t2.take m))]) (by simp [results, Try.results22, go_sem, hz3, hz2, hne, hne', hg1, hg2, hg3, hg4, hca0, hca1, hca2, hcb0, hcb1, hcb2]) rfl ((((((HI.out.set HG.out GB.out 2 _).turn (by have := HC.out; omega) HR'.out).set HG.out (Nat.le_refl _) 0 _).set HG.out (Nat.le_refl _) 1 _).set HG.out (Nat.le_refl _) 2 _).drew).post

end Go.Proofs.Ytlnpefcclhmokaa.P
