/- Written in this session: the readers of rows by hand. -/
import Derived.Test.YtlnpefcclhmokaaH5
import Derived.Test.YtlnpefcclhmokaaH3
import Derived.Defers
import Derived.Recover
import Derived.WideLaws
import Derived.WalkLawsBesides
import Derived.WalkSpells
import Derived.Outline
import Derived.RegionDies
namespace Go.Proofs.Ytlnpefcclhmokaa.P
open Go.RowKit Go.Proofs.YtlnpefcclhmokaaW.PrintWords Go.Proofs.YtlnpefcclhmokaaW.PrintLast Go.Proofs.YtlnpefcclhmokaaW.PrintMore
attribute [local go_sem] max2_int min2_int max_two min_two max_three min_three max_four min_four   -- for this text's walks alone
set_option linter.unusedVariables false
set_option linter.unusedSimpArgs false


set_option maxHeartbeats 600000 in
set_option maxRecDepth 100000 in
theorem quarryref04_reader_value.text3 (k : Int) (t : List Int) (g : Nat) (w0 w : World) (h : Qd w0 w g (k :: t)) (e : k = 3) (n : Int) (t2 : List Int) (et : r_num 0 0 t = .ok (n, t2)) (en : ¬ (t2.length : Int) < n) :
    Calls Try.prog 24 #[.pointer (some ⟨g, 0, none⟩)] w (QPost encV (fun _ => True) (.ok (⟨3, 0, strOfNums (t2.take n.toNat)⟩, t2.drop n.toNat)) w0 w g) := by
  have hu38 := Try.underlying38
  have HG := Aside0.mk h.lt
  have HI : Aside0 (Jv w0 w w g (k :: t)) := ⟨KeepBut.refl w g none, h⟩
  obtain ⟨hk0, hk1⟩ := h.2.2.1 k (by simp)
  clear h
  have b0 : (k == 0) = false := beq_eq_false_iff_ne.mpr (by omega)
  have b1 : (k == 1) = false := beq_eq_false_iff_ne.mpr (by omega)
  have b2 : (k == 2) = false := beq_eq_false_iff_ne.mpr (by omega)
  have b3 : (k == 3) = true := beq_iff_eq.mpr e
  obtain ⟨hn0, hn1⟩ := r_num_bound (fun x hx => HI.out.2.2.2.1 x (List.mem_cons_of_mem _ hx)) (by omega) (by omega) (by decide) et
  have ET := Aside0.mk et
  clear et
  go_enter Try.func24, Try.ntmps24
  go_wp2_with fail
  refine (quarryref04_reader_one.calls (k :: t) g w0 _ (HI.out.alloc _).2).mono ?_
  rintro e w1 h1
  obtain ⟨hz, F2⟩ := v_new HG.out h1.1
  obtain ⟨he, hi⟩ := (HI.out.alloc _).then h1
  obtain rfl : e = .returned (.int .u8 k) := he
  clear h1 HI
  have HI := Aside0.mk hi
  clear hi
  have hca0 : World.cell? _ ⟨w.heap.size, 0, none⟩ = some (.int .i64 0) := (blk_cell F2 0).trans rfl
  have hfa0 := blk_frozen F2 0
  have hca1 : World.cell? _ ⟨w.heap.size, 1, none⟩ = some (.int .i64 0) := (blk_cell F2 1).trans rfl
  have hfa1 := blk_frozen F2 1
  have hca2 : World.cell? _ ⟨w.heap.size, 2, none⟩ = some (.string (⟨#[]⟩ : ByteArray)) := (blk_cell F2 2).trans rfl
  have hfa2 := blk_frozen F2 2
  have HF := Aside0.mk F2
  clear F2
  go_wp2_with fail
  refine (quarryref04_reader_number.calls t g w0 _ (HI.out.alloc _).2).mono ?_
  rintro e w2 h2
  rw [ET.out] at h2
  clear hca0 hfa0
  clear hca1 hfa1
  clear hca2 hfa2
  obtain ⟨hz2, F3⟩ := v_new HI.out.2.lt h2.1
  have F2 := v_old (by have := HG.out; omega) HF.out h2.1
  have hz3 : w.heap.size < w2.heap.size := by omega
  obtain ⟨he, hi⟩ := (HI.out.alloc _).then h2
  obtain rfl : e = .returned (.int .u64 n) := he
  clear h2 HI HF
  have HI := Aside0.mk hi
  clear hi
  have hca0 : World.cell? w2 ⟨w.heap.size, 0, none⟩ = some (.int .i64 0) := (blk_cell F2 0).trans rfl
  have hfa0 : w2.frozen? ⟨w.heap.size, 0, none⟩ = false := blk_frozen F2 0
  have hca1 : World.cell? w2 ⟨w.heap.size, 1, none⟩ = some (.int .i64 0) := (blk_cell F2 1).trans rfl
  have hfa1 : w2.frozen? ⟨w.heap.size, 1, none⟩ = false := blk_frozen F2 1
  have hca2 : World.cell? w2 ⟨w.heap.size, 2, none⟩ = some (.string (⟨#[]⟩ : ByteArray)) := (blk_cell F2 2).trans rfl
  have hfa2 : w2.frozen? ⟨w.heap.size, 2, none⟩ = false := blk_frozen F2 2
  have hcb0 : World.cell? w2 ⟨w1.heap.size, 0, none⟩ = some (.int .i64 3) := (blk_cell F3 0).trans rfl
  have hfb0 : w2.frozen? ⟨w1.heap.size, 0, none⟩ = false := blk_frozen F3 0
  have hcb1 : World.cell? w2 ⟨w1.heap.size, 1, none⟩ = some (.int .i64 0) := (blk_cell F3 1).trans rfl
  have hfb1 : w2.frozen? ⟨w1.heap.size, 1, none⟩ = false := blk_frozen F3 1
  have hcb2 : World.cell? w2 ⟨w1.heap.size, 2, none⟩ = some (.string (⟨#[]⟩ : ByteArray)) := (blk_cell F3 2).trans rfl
  have hfb2 : w2.frozen? ⟨w1.heap.size, 2, none⟩ = false := blk_frozen F3 2
  have HF2 := Aside0.mk F2
  have HF3 := Aside0.mk F3
  have GB := Aside0.mk (show w.heap.size ≤ w1.heap.size by omega)
  have hne : ¬ w.heap.size = w1.heap.size := by omega
  have hne' : ¬ w1.heap.size = w.heap.size := by omega
  clear F2 F3
  obtain ⟨A, c, hrc, hrf, hre, hrg, hc, hR, hl⟩ := HI.out.cells
  have hu : IntKind.u64.wrap (t2.length : Int) = (t2.length : Int) := by rw [IntKind.wrap_u64]; omega
  have b9 : decide ((t2.length : Int) < n) = false := decide_eq_false (by omega)
  obtain ⟨m, rfl⟩ := Int.eq_ofNat_of_zero_le hn0
  obtain ⟨i5, hi5, h55⟩ := Option.map_eq_some_iff.1 info5
  simp only [Prod.mk.injEq] at h55
  have hm : m ≤ t2.length := by omega
  obtain ⟨A', hcut, hcutR⟩ := print_cut (P := Try.prog) 24 5 .u64 Try.underlying24 hi5 h55.2.1 A t2.length c m hm
  have hR' : ReadsInt w0 .u8 A' (t2.length - m) (t2.drop m) := hcutR w0 .u8 t2 hc hR
  have htk : ∀ W : World, (Instr.slice 24 (.slice A t2.length c) none (some (.int .u64 (m : Int))) none).run Try.prog W = .ok (.slice A m c) W := fun W => cut_take 24 5 .u64 Try.underlying24 hi5 h55.2.1 A t2.length c m (by omega) W
  have hcv : (convert 24 9 (.slice A m c)).run Try.prog w2 = .ok (.string (strOfNums (t2.take m))) w2 := string_of_reads Try.underlying24 Try.underlying5 Try.underlying9 ((hR.take_ m hm).below HI.out.2.2.1)
  have HR' := Aside0.mk hR'
  have HC := Aside0.mk hc
  clear hR hc en hi5 h55 hcutR hR'
  have b10 : decide (t2.length < m) = false := decide_eq_false (by omega)
  clear b9
  have hg2 : ¬ w.heap.size = g := by have := HG.out; omega
  have hg1 : ¬ g = w.heap.size := by omega
  have hg3 : ¬ w1.heap.size = g := by have := HG.out; omega
  have hg4 : ¬ g = w1.heap.size := by omega
  go_wp2
  clear hcv hcut htk hu hl hm hn0 hn1 hrc hrf hre hrg
  rw [Int.toNat_natCast]
  subst e
  refine bodyPost_ret (v := .agg #[.int .i64 3, .int .i64 0, .string (strOfNums (t2.take m))]) ?h1 rfl ?h2
  case h1 => simp [results, Try.results24, go_sem, hz3, hz2, hne, hne', hg1, hg2, hg3, hg4, hca0, hca1, hca2, hcb0, hcb1, hcb2]
  case h2 =>
    refine Jv.post ?_
    with_reducible refine Jv.set HG.out (Nat.le_refl _) ?_ _ _
    with_reducible refine Jv.set HG.out (Nat.le_refl _) ?_ _ _
    with_reducible refine Jv.set HG.out (Nat.le_refl _) ?_ _ _
    have HJ := (HI.out.set HG.out GB.out 2 (.string (strOfNums (t2.take m)))).turn (m := m) (c' := c - m) (by have := HC.out; omega) HR'.out
    exact HJ
set_option maxHeartbeats 600000 in
set_option maxRecDepth 100000 in
theorem quarryref04_reader_value.text4 (k : Int) (t : List Int) (g : Nat) (w0 w : World) (h : Qd w0 w g (k :: t)) (e : k = 4) (n : Int) (t2 : List Int) (et : r_num 0 0 t = .ok (n, t2)) (en : ¬ (t2.length : Int) < n) :
    Calls Try.prog 24 #[.pointer (some ⟨g, 0, none⟩)] w (QPost encV (fun _ => True) (.ok (⟨4, 0, strOfNums (t2.take n.toNat)⟩, t2.drop n.toNat)) w0 w g) := by
  have hu38 := Try.underlying38
  have HG := Aside0.mk h.lt
  have HI : Aside0 (Jv w0 w w g (k :: t)) := ⟨KeepBut.refl w g none, h⟩
  obtain ⟨hk0, hk1⟩ := h.2.2.1 k (by simp)
  clear h
  have b0 : (k == 0) = false := beq_eq_false_iff_ne.mpr (by omega)
  have b1 : (k == 1) = false := beq_eq_false_iff_ne.mpr (by omega)
  have b2 : (k == 2) = false := beq_eq_false_iff_ne.mpr (by omega)
  have b3 : (k == 3) = false := beq_eq_false_iff_ne.mpr (by omega)
  have b4 : (k == 4) = true := beq_iff_eq.mpr e
  obtain ⟨hn0, hn1⟩ := r_num_bound (fun x hx => HI.out.2.2.2.1 x (List.mem_cons_of_mem _ hx)) (by omega) (by omega) (by decide) et
  have ET := Aside0.mk et
  clear et
  go_enter Try.func24, Try.ntmps24
  go_wp2_with fail
  refine (quarryref04_reader_one.calls (k :: t) g w0 _ (HI.out.alloc _).2).mono ?_
  rintro e w1 h1
  obtain ⟨hz, F2⟩ := v_new HG.out h1.1
  obtain ⟨he, hi⟩ := (HI.out.alloc _).then h1
  obtain rfl : e = .returned (.int .u8 k) := he
  clear h1 HI
  have HI := Aside0.mk hi
  clear hi
  have hca0 : World.cell? _ ⟨w.heap.size, 0, none⟩ = some (.int .i64 0) := (blk_cell F2 0).trans rfl
  have hfa0 := blk_frozen F2 0
  have hca1 : World.cell? _ ⟨w.heap.size, 1, none⟩ = some (.int .i64 0) := (blk_cell F2 1).trans rfl
  have hfa1 := blk_frozen F2 1
  have hca2 : World.cell? _ ⟨w.heap.size, 2, none⟩ = some (.string (⟨#[]⟩ : ByteArray)) := (blk_cell F2 2).trans rfl
  have hfa2 := blk_frozen F2 2
  have HF := Aside0.mk F2
  clear F2
  go_wp2_with fail
  refine (quarryref04_reader_number.calls t g w0 _ (HI.out.alloc _).2).mono ?_
  rintro e w2 h2
  rw [ET.out] at h2
  clear hca0 hfa0
  clear hca1 hfa1
  clear hca2 hfa2
  obtain ⟨hz2, F3⟩ := v_new HI.out.2.lt h2.1
  have F2 := v_old (by have := HG.out; omega) HF.out h2.1
  have hz3 : w.heap.size < w2.heap.size := by omega
  obtain ⟨he, hi⟩ := (HI.out.alloc _).then h2
  obtain rfl : e = .returned (.int .u64 n) := he
  clear h2 HI HF
  have HI := Aside0.mk hi
  clear hi
  have hca0 : World.cell? w2 ⟨w.heap.size, 0, none⟩ = some (.int .i64 0) := (blk_cell F2 0).trans rfl
  have hfa0 : w2.frozen? ⟨w.heap.size, 0, none⟩ = false := blk_frozen F2 0
  have hca1 : World.cell? w2 ⟨w.heap.size, 1, none⟩ = some (.int .i64 0) := (blk_cell F2 1).trans rfl
  have hfa1 : w2.frozen? ⟨w.heap.size, 1, none⟩ = false := blk_frozen F2 1
  have hca2 : World.cell? w2 ⟨w.heap.size, 2, none⟩ = some (.string (⟨#[]⟩ : ByteArray)) := (blk_cell F2 2).trans rfl
  have hfa2 : w2.frozen? ⟨w.heap.size, 2, none⟩ = false := blk_frozen F2 2
  have hcb0 : World.cell? w2 ⟨w1.heap.size, 0, none⟩ = some (.int .i64 4) := (blk_cell F3 0).trans rfl
  have hfb0 : w2.frozen? ⟨w1.heap.size, 0, none⟩ = false := blk_frozen F3 0
  have hcb1 : World.cell? w2 ⟨w1.heap.size, 1, none⟩ = some (.int .i64 0) := (blk_cell F3 1).trans rfl
  have hfb1 : w2.frozen? ⟨w1.heap.size, 1, none⟩ = false := blk_frozen F3 1
  have hcb2 : World.cell? w2 ⟨w1.heap.size, 2, none⟩ = some (.string (⟨#[]⟩ : ByteArray)) := (blk_cell F3 2).trans rfl
  have hfb2 : w2.frozen? ⟨w1.heap.size, 2, none⟩ = false := blk_frozen F3 2
  have HF2 := Aside0.mk F2
  have HF3 := Aside0.mk F3
  have GB := Aside0.mk (show w.heap.size ≤ w1.heap.size by omega)
  have hne : ¬ w.heap.size = w1.heap.size := by omega
  have hne' : ¬ w1.heap.size = w.heap.size := by omega
  clear F2 F3
  obtain ⟨A, c, hrc, hrf, hre, hrg, hc, hR, hl⟩ := HI.out.cells
  have hu : IntKind.u64.wrap (t2.length : Int) = (t2.length : Int) := by rw [IntKind.wrap_u64]; omega
  have b9 : decide ((t2.length : Int) < n) = false := decide_eq_false (by omega)
  obtain ⟨m, rfl⟩ := Int.eq_ofNat_of_zero_le hn0
  obtain ⟨i5, hi5, h55⟩ := Option.map_eq_some_iff.1 info5
  simp only [Prod.mk.injEq] at h55
  have hm : m ≤ t2.length := by omega
  obtain ⟨A', hcut, hcutR⟩ := print_cut (P := Try.prog) 24 5 .u64 Try.underlying24 hi5 h55.2.1 A t2.length c m hm
  have hR' : ReadsInt w0 .u8 A' (t2.length - m) (t2.drop m) := hcutR w0 .u8 t2 hc hR
  have htk : ∀ W : World, (Instr.slice 24 (.slice A t2.length c) none (some (.int .u64 (m : Int))) none).run Try.prog W = .ok (.slice A m c) W := fun W => cut_take 24 5 .u64 Try.underlying24 hi5 h55.2.1 A t2.length c m (by omega) W
  have hcv : (convert 24 9 (.slice A m c)).run Try.prog w2 = .ok (.string (strOfNums (t2.take m))) w2 := string_of_reads Try.underlying24 Try.underlying5 Try.underlying9 ((hR.take_ m hm).below HI.out.2.2.1)
  have HR' := Aside0.mk hR'
  have HC := Aside0.mk hc
  clear hR hc en hi5 h55 hcutR hR'
  have b10 : decide (t2.length < m) = false := decide_eq_false (by omega)
  clear b9
  have hg2 : ¬ w.heap.size = g := by have := HG.out; omega
  have hg1 : ¬ g = w.heap.size := by omega
  have hg3 : ¬ w1.heap.size = g := by have := HG.out; omega
  have hg4 : ¬ g = w1.heap.size := by omega
  go_wp2
  clear hcv hcut htk hu hl hm hn0 hn1 hrc hrf hre hrg
  rw [Int.toNat_natCast]
  subst e
  refine bodyPost_ret (v := .agg #[.int .i64 4, .int .i64 0, .string (strOfNums (t2.take m))]) ?h1 rfl ?h2
  case h1 => simp [results, Try.results24, go_sem, hz3, hz2, hne, hne', hg1, hg2, hg3, hg4, hca0, hca1, hca2, hcb0, hcb1, hcb2]
  case h2 =>
    refine Jv.post ?_
    with_reducible refine Jv.set HG.out (Nat.le_refl _) ?_ _ _
    with_reducible refine Jv.set HG.out (Nat.le_refl _) ?_ _ _
    with_reducible refine Jv.set HG.out (Nat.le_refl _) ?_ _ _
    have HJ := (HI.out.set HG.out GB.out 2 (.string (strOfNums (t2.take m)))).turn (m := m) (c' := c - m) (by have := HC.out; omega) HR'.out
    exact HJ
theorem quarryref04_reader_value.calls (l : List Int) (g : Nat) (w0 w : World) (h : Qd w0 w g l) :
    Calls Try.prog 24 #[.pointer (some ⟨g, 0, none⟩)] w (QPost encV (fun _ => True) (r_val l) w0 w g) := by
  cases l with
  | nil => exact quarryref04_reader_value.nil g w0 w h
  | cons k t =>
    by_cases e0 : k = 0
    · rw [show r_val (k :: t) = .ok (⟨0, 0, V0⟩, t) by rw [r_val_cons, if_pos e0]]
      exact quarryref04_reader_value.zero k t g w0 w h e0
    by_cases e1 : k = 1
    · cases t with
      | nil =>
        rw [show r_val (k :: []) = .error 1 by rw [r_val_cons, if_neg e0, if_pos e1]]
        exact quarryref04_reader_value.bool_none k [] g w0 w h e1 rfl
      | cons c t2 =>
        by_cases e2 : 1 < c
        · rw [show r_val (k :: c :: t2) = .error 3 by rw [r_val_cons, if_neg e0, if_pos e1]; exact if_pos e2]
          exact quarryref04_reader_value.bool_bad k (c :: t2) g w0 w h e1 c t2 rfl e2
        · rw [show r_val (k :: c :: t2) = .ok (⟨1, c, V0⟩, t2) by rw [r_val_cons, if_neg e0, if_pos e1]; exact if_neg e2]
          exact quarryref04_reader_value.bool k (c :: t2) g w0 w h e1 c t2 rfl e2
    by_cases e2 : k = 2
    · cases hn : r_num 0 0 t with
      | error c =>
        rw [show r_val (k :: t) = .error c by rw [r_val_cons, if_neg e0, if_neg e1, if_pos e2, hn]]
        exact quarryref04_reader_value.num_none k t g w0 w h e2 c hn
      | ok p =>
        obtain ⟨n, t2⟩ := p
        rw [show r_val (k :: t) = .ok (⟨2, unzig n, V0⟩, t2) by rw [r_val_cons, if_neg e0, if_neg e1, if_pos e2, hn]]
        rcases (show n % 2 = 0 ∨ n % 2 = 1 by omega) with ep | ep
        · exact quarryref04_reader_value.num0 k t g w0 w h e2 n t2 hn ep
        · exact quarryref04_reader_value.num1 k t g w0 w h e2 n t2 hn ep
    by_cases e3 : k = 3 ∨ k = 4
    · cases hn : r_num 0 0 t with
      | error c =>
        rw [show r_val (k :: t) = .error c by rw [r_val_cons, if_neg e0, if_neg e1, if_neg e2, if_pos e3, hn]]
        rcases e3 with e3 | e3
        · exact quarryref04_reader_value.text3_none k t g w0 w h e3 c hn
        · exact quarryref04_reader_value.text4_none k t g w0 w h e3 c hn
      | ok p =>
        obtain ⟨n, t2⟩ := p
        by_cases en : (t2.length : Int) < n
        · rw [show r_val (k :: t) = .error 1 by rw [r_val_cons, if_neg e0, if_neg e1, if_neg e2, if_pos e3, hn]; exact if_pos en]
          rcases e3 with e3 | e3
          · exact quarryref04_reader_value.text3_short k t g w0 w h e3 n t2 hn en
          · exact quarryref04_reader_value.text4_short k t g w0 w h e3 n t2 hn en
        · rw [show r_val (k :: t) = .ok (⟨k, 0, strOfNums (t2.take n.toNat)⟩, t2.drop n.toNat) by rw [r_val_cons, if_neg e0, if_neg e1, if_neg e2, if_pos e3, hn]; exact if_neg en]
          rcases e3 with e3 | e3
          · have := quarryref04_reader_value.text3 k t g w0 w h e3 n t2 hn en
            rw [e3] at *
            exact this
          · have := quarryref04_reader_value.text4 k t g w0 w h e3 n t2 hn en
            rw [e3] at *
            exact this
    · rw [show r_val (k :: t) = .error 5 by rw [r_val_cons, if_neg e0, if_neg e1, if_neg e2, if_neg e3]]
      exact quarryref04_reader_value.other k t g w0 w h ⟨e0, e1, e2, by omega, by omega⟩


end Go.Proofs.Ytlnpefcclhmokaa.P
