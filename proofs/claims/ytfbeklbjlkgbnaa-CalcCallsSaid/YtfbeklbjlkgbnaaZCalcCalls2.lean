/- Laid by a program of this session out of its texts for the law CalcCalls, part 2. -/
import Derived.BigGuardPart
import Derived.RegionDies
import Derived.WalkLawsBesides
import Derived.WalkSpells
import Derived.Outline
import Derived.Test.YtfbeklbjlkgbnaaZCalcCalls1
section
namespace Go.Proofs.Ytfbeklbjlkgbnaa.P
open Go.RowKit Go.Proofs.YtfbeklbjlkgbnaaW.PrintWords Go.Proofs.YtfbeklbjlkgbnaaW.PrintLast Go.Proofs.YtfbeklbjlkgbnaaW.PrintMore
attribute [local go_sem] max2_int min2_int max_two min_two max_three min_three max_four min_four
set_option linter.unusedVariables false
set_option linter.unusedSimpArgs false
def calc_called.f (a0 : Int) (l1 : List (S25)) : Option (Int × Int × ByteArray) := if 0 < (l1.length : Int) then (if a0 = 1 then ((calc_number.f (((rd_T25 l1 0).f2).size : Int)).bind fun bt106 => (some (bt106.1, bt106.2.1, bt106.2.2))) else (if a0 = 2 then ((calc_check.f (((rd_T25 l1 0).f1) != (-9223372036854775808)) 40).bind fun _ => ((calc_number.f (mx ((rd_T25 l1 0).f1) (wrap64 (-((rd_T25 l1 0).f1))))).bind fun bt109 => (some (bt109.1, bt109.2.1, bt109.2.2)))) else (if a0 = 3 then ((calc_mapped.f ((rd_T25 l1 0).f2) 97 65).bind fun t112 => ((calc_text.f t112).bind fun bt113 => (some (bt113.1, bt113.2.1, bt113.2.2)))) else (if a0 = 4 then ((calc_mapped.f ((rd_T25 l1 0).f2) 65 97).bind fun t116 => ((calc_text.f t116).bind fun bt117 => (some (bt117.1, bt117.2.1, bt117.2.2)))) else (if 1 < (l1.length : Int) then (if 2 < (l1.length : Int) then ((calc_cut.f ((rd_T25 l1 0).f2) ((rd_T25 l1 1).f1) ((rd_T25 l1 2).f1)).bind fun t122 => ((calc_text.f t122).bind fun bt123 => (some (bt123.1, bt123.2.1, bt123.2.2)))) else (none)) else (none)))))) else (none)
def calc_called.T12 : Bool × List (List Nat × List Nat) := (true, [([], []), ([0], [0]), ([], []), ([2], [2]), ([3], [3]), ([4], [4]), ([], []), ([6], [6]), ([7], [7]), ([8], [8]), ([1, 5, 9], [1, 5, 9]), ([10, 10], [10]), ([11, 11, 0, 1, 2, 3, 4, 5, 6, 7, 8, 9, 10, 11], [11])])
def calc_called.B12 : List Nat := [0, 1, 0, 4, 12, 28, 0, 64, 192, 448, 1023, 2047, 4095]
theorem calc_called.tab12 : rtab .any (opsOf Try.f32 12) = calc_called.T12 := by kernel_rfl
theorem calc_called.bits12 : waitsOk calc_called.T12.2 calc_called.B12 = true := by kernel_rfl
set_option maxHeartbeats 8000000 in
set_option maxRecDepth 100000 in
theorem calc_called.calls (a0 : Int) (A1 : Option Addr) (c1 : Nat) (l1 : List (S25)) (r1 : Int) (r2 : Int) (r3 : ByteArray) (w : World) (hr1 : Kd.C k25 w A1 l1.length l1) (hc1 : l1.length ≤ c1) (h : calc_called.f a0 l1 = some (r1, r2, r3)) :
    Calls Try.prog 32 #[.int .i64 a0, .slice A1 l1.length c1] w fun e w' => e = .returned (.agg #[.int .i64 r1, .int .i64 r2, .string r3]) ∧ Below w.heap.size w w' := by
  have hu25 := Try.underlying25
  have HR1 := Aside0.mk hr1
  have HC1 := Aside0.mk hc1
  clear hr1 hc1
  have HB := Aside0.mk (Below.refl w.heap.size w)
  have H : (if 0 < (l1.length : Int) then (if a0 = 1 then ((calc_number.f (((rd_T25 l1 0).f2).size : Int)).bind fun bt106 => (some (bt106.1, bt106.2.1, bt106.2.2))) else (if a0 = 2 then ((calc_check.f (((rd_T25 l1 0).f1) != (-9223372036854775808)) 40).bind fun _ => ((calc_number.f (mx ((rd_T25 l1 0).f1) (wrap64 (-((rd_T25 l1 0).f1))))).bind fun bt109 => (some (bt109.1, bt109.2.1, bt109.2.2)))) else (if a0 = 3 then ((calc_mapped.f ((rd_T25 l1 0).f2) 97 65).bind fun t112 => ((calc_text.f t112).bind fun bt113 => (some (bt113.1, bt113.2.1, bt113.2.2)))) else (if a0 = 4 then ((calc_mapped.f ((rd_T25 l1 0).f2) 65 97).bind fun t116 => ((calc_text.f t116).bind fun bt117 => (some (bt117.1, bt117.2.1, bt117.2.2)))) else (if 1 < (l1.length : Int) then (if 2 < (l1.length : Int) then ((calc_cut.f ((rd_T25 l1 0).f2) ((rd_T25 l1 1).f1) ((rd_T25 l1 2).f1)).bind fun t122 => ((calc_text.f t122).bind fun bt123 => (some (bt123.1, bt123.2.1, bt123.2.2)))) else (none)) else (none)))))) else (none)) = some (r1, r2, r3) := h
  clear h
  by_cases c3 : 0 < (l1.length : Int)
  · rw [if_pos c3] at H
    have c3b0 : decide (0 < (l1.length : Int)) = true := decide_eq_true c3
    have c3b1 : decide (0 < l1.length) = true := decide_eq_true (by omega)
    clear c3
    by_cases c4 : a0 = 1
    · rw [if_pos c4] at H
      have c4b0 : (a0 == 1) = true := beq_iff_eq.mpr c4
      have c4b1 : (a0 != 1) = false := bne_eq_false_iff_eq.mpr c4
      clear c4
      replace H := Option.bind_eq_some_iff.mp H
      obtain ⟨⟨t106, t107, t108⟩, A50, H⟩ := H
      replace H : (some (t106, t107, t108)) = some (r1, r2, r3) := H
      have A5 := Aside0.mk A50
      clear A50
      simp only [Option.some.injEq, Prod.mk.injEq] at H
      obtain ⟨rfl, rfl, rfl⟩ := H
      go_enter Try.func32, Try.ntmps32
      go_wp2_with (first | ((with_reducible refine gate_dst (N := 4) rfl ?_); refine box_event ?hg (N := 4) ?hd (cs := #[.int .i64 0, .int .i64 0, .string (⟨#[]⟩ : ByteArray)]) (t := 25) ?hr ?_; (case hd => rfl); (case hg => rfl); (case hr => first | (go_simp; done) | (go_simp; rfl)); intro gb103 hg w6 hbox hb; have n0_ := Aside0.mk (below_step (by repeat (first | (with_reducible first | exact HB.out | apply below_alloc | apply pw_below_drewN | apply below_drew1) | exact HB.out)) hb); have n1_ := Aside0.mk (hbox); have n2_ := Aside0.mk ((by rw [hg]; exact (below_size (by repeat (first | (with_reducible first | exact HB.out | apply below_alloc | apply pw_below_drewN | apply below_drew1) | exact HB.out))) : w.heap.size ≤ gb103)); have n3_ := Aside0.mk ((by rw [hg]; exact (below_size (by repeat (first | (with_reducible first | exact HB.out | apply below_alloc | apply pw_below_drewN | apply below_drew1) | exact HB.out))) : w.heap.size ≤ gb103)); clear HB; have HB := n0_; have BK103 := n1_; have GW103 := n2_; have GE103 := n3_; clear n0_ n1_ n2_ n3_; clear hb hbox hg; have p104 : 0 ≤ (0 : Int) := (by omega); have q104 : 0 < (l1.length : Int) := of_decide_eq_true (by first | (with_reducible assumption) | assumption); obtain ⟨ad104, e104, hx104_0, hx104_1, hx104_2⟩ := at_T25 HR1.out 0 p104 q104; cases e104; have qi104 : (0 < l1.length) = True := eq_true (by omega); (try rw [show ((0 : Int)).toNat = 0 from rfl] at hx104_0); (try rw [show 0 * 3 = 0 from rfl] at hx104_0); (try rw [Addr.add_zero'] at hx104_0); (try rw [show ((0 : Int)).toNat = 0 from rfl] at hx104_1); (try rw [show 0 * 3 = 0 from rfl] at hx104_1); (try rw [Addr.add_zero'] at hx104_1); (try rw [show ((0 : Int)).toNat = 0 from rfl] at hx104_2); (try rw [show 0 * 3 = 0 from rfl] at hx104_2); (try rw [Addr.add_zero'] at hx104_2); replace hx104_0 := (HB.out.cell (World.block_lt_of_cell? w _ hx104_0)).trans hx104_0; replace hx104_1 := (HB.out.cell (World.block_lt_of_cell? w _ hx104_1)).trans hx104_1; replace hx104_2 := (HB.out.cell (World.block_lt_of_cell? w _ hx104_2)).trans hx104_2; replace p104 := eq_true p104; replace q104 := eq_true q104) | ((with_reducible refine gate_dst (N := 5) rfl ?_); refine box_event ?hg (N := 5) ?hd (cs := #[.int .i64 0, .int .i64 0, .string (⟨#[]⟩ : ByteArray)]) (t := 25) ?hr ?_; (case hd => rfl); (case hg => rfl); (case hr => first | (go_simp; done) | (go_simp; rfl)); intro gb105 hg w7 hbox hb; have n0_ := Aside0.mk (blk_below (g := gb103) (o := .cells #[.int .i64 0, .int .i64 0, .string (⟨#[]⟩ : ByteArray)] 25 (0, 0)) (by (with_reducible repeat (first | refine blk_drewN ?_ _ | refine blk_drew ?_ | refine blk_alloc ?_ _)); exact BK103.out) hb); have n1_ := Aside0.mk (below_step (by repeat (first | (with_reducible first | exact HB.out | apply below_alloc | apply pw_below_drewN | apply below_drew1 | refine below_set ?_ GE103.out) | exact HB.out)) hb); have n2_ := Aside0.mk (hbox); have n3_ := Aside0.mk ((by rw [hg]; exact (below_size (by repeat (first | (with_reducible first | exact HB.out | apply below_alloc | apply pw_below_drewN | apply below_drew1 | refine below_set ?_ GE103.out) | exact HB.out))) : w.heap.size ≤ gb105)); have n4_ := Aside0.mk ((by rw [hg]; exact (below_size (by repeat (first | (with_reducible first | exact HB.out | apply below_alloc | apply pw_below_drewN | apply below_drew1 | refine below_set ?_ GE103.out) | exact HB.out))) : w.heap.size ≤ gb105)); have n5_ := Aside0.mk ((by rw [hg]; exact Nat.ne_of_lt (blk_lt (g := gb103) (o := .cells #[.int .i64 0, .int .i64 0, .string (⟨#[]⟩ : ByteArray)] 25 (0, 0)) (by (with_reducible repeat (first | refine blk_drewN ?_ _ | refine blk_drew ?_ | refine blk_alloc ?_ _)); exact BK103.out)) : gb103 ≠ gb105)); have n6_ := Aside0.mk ((by rw [hg]; exact Nat.ne_of_gt (blk_lt (g := gb103) (o := .cells #[.int .i64 0, .int .i64 0, .string (⟨#[]⟩ : ByteArray)] 25 (0, 0)) (by (with_reducible repeat (first | refine blk_drewN ?_ _ | refine blk_drew ?_ | refine blk_alloc ?_ _)); exact BK103.out)) : gb105 ≠ gb103)); clear BK103; clear HB; have BK103 := n0_; have HB := n1_; have BK105 := n2_; have GW105 := n3_; have GE105 := n4_; have NB103_105 := n5_; have NB105_103 := n6_; clear n0_ n1_ n2_ n3_ n4_ n5_ n6_; clear hb hbox hg; have hnb8 := NB105_103.out; have hnc8 := NB103_105.out; have hcz9_0 : w7.cell? ⟨gb105, 0, none⟩ = some (.int .i64 0) := (blk_cell BK105.out 0).trans rfl; have hcz9_1 : w7.cell? ⟨gb105, 1, none⟩ = some (.int .i64 0) := (blk_cell BK105.out 1).trans rfl; have hcz9_2 : w7.cell? ⟨gb105, 2, none⟩ = some (.string (⟨#[]⟩ : ByteArray)) := (blk_cell BK105.out 2).trans rfl; have hfz9_0 := blk_frozen BK105.out 0; have hfz9_1 := blk_frozen BK105.out 1; have hfz9_2 := blk_frozen BK105.out 2) | ((with_reducible refine gate_callee (f := 45) rfl ?_); refine goesL_ (some 15) rfl rfl Try.func45 (by kernel_rfl) rfl #[.int .i64 (((rd_T25 l1 0).f2).size : Int)] rfl (by (try simp only [List.map_toArray, List.map_cons, List.map_nil]); first | done | rfl | (simp only [List.length_drop, List.length_take]; rfl)) ?_; (with_reducible refine (calc_number.calls (((rd_T25 l1 0).f2).size : Int) t106 t107 t108 _ A5.out).mono ?_); rintro e w10 ⟨rfl, hb⟩; refine ⟨_, rfl, ?_⟩; have n0_ := Aside0.mk (blk_below (g := gb103) (o := .cells #[.int .i64 0, .int .i64 0, .string (⟨#[]⟩ : ByteArray)] 25 (0, 0)) (by (with_reducible repeat (first | refine blk_drewN ?_ _ | refine blk_drew ?_ | refine blk_alloc ?_ _)); refine blk_far ?_ NB103_105.out _; (with_reducible repeat (first | refine blk_drewN ?_ _ | refine blk_drew ?_ | refine blk_alloc ?_ _)); refine blk_far ?_ NB103_105.out _; (with_reducible repeat (first | refine blk_drewN ?_ _ | refine blk_drew ?_ | refine blk_alloc ?_ _)); refine blk_far ?_ NB103_105.out _; (with_reducible repeat (first | refine blk_drewN ?_ _ | refine blk_drew ?_ | refine blk_alloc ?_ _)); exact BK103.out) hb); have n1_ := Aside0.mk (blk_below (g := gb105) (o := .cells #[.int .i64 ((rd_T25 l1 0).f0), .int .i64 ((rd_T25 l1 0).f1), .string ((rd_T25 l1 0).f2)] 25 (0, 0)) (by (with_reducible repeat (first | refine blk_drewN ?_ _ | refine blk_drew ?_ | refine blk_alloc ?_ _)); refine blk_put (cs := #[.int .i64 ((rd_T25 l1 0).f0), .int .i64 ((rd_T25 l1 0).f1), .string (⟨#[]⟩ : ByteArray)]) ?_ 2 _ rfl; (with_reducible repeat (first | refine blk_drewN ?_ _ | refine blk_drew ?_ | refine blk_alloc ?_ _)); refine blk_put (cs := #[.int .i64 ((rd_T25 l1 0).f0), .int .i64 0, .string (⟨#[]⟩ : ByteArray)]) ?_ 1 _ rfl; (with_reducible repeat (first | refine blk_drewN ?_ _ | refine blk_drew ?_ | refine blk_alloc ?_ _)); refine blk_put (cs := #[.int .i64 0, .int .i64 0, .string (⟨#[]⟩ : ByteArray)]) ?_ 0 _ rfl; (with_reducible repeat (first | refine blk_drewN ?_ _ | refine blk_drew ?_ | refine blk_alloc ?_ _)); exact BK105.out) hb); have n2_ := Aside0.mk (below_step (by repeat (first | (with_reducible first | exact HB.out | apply below_alloc | apply pw_below_drewN | apply below_drew1 | refine below_set ?_ GE103.out | refine below_set ?_ GE105.out) | exact HB.out)) hb); clear BK103; clear BK105; clear HB; have BK103 := n0_; have BK105 := n1_; have HB := n2_; clear n0_ n1_ n2_; (try clear hb); (try clear hb2); (try clear hk); (try clear hi); have hcz11_0 : w10.cell? ⟨gb103, 0, none⟩ = some (.int .i64 0) := (blk_cell BK103.out 0).trans rfl; have hcz11_1 : w10.cell? ⟨gb103, 1, none⟩ = some (.int .i64 0) := (blk_cell BK103.out 1).trans rfl; have hcz11_2 : w10.cell? ⟨gb103, 2, none⟩ = some (.string (⟨#[]⟩ : ByteArray)) := (blk_cell BK103.out 2).trans rfl; have hfz11_0 := blk_frozen BK103.out 0; have hfz11_1 := blk_frozen BK103.out 1; have hfz11_2 := blk_frozen BK103.out 2))
      refine bodyPost_ret (results_cell_row rfl _ _ gb103 25 #[.int .i64 t106, .int .i64 t107, .string t108] (0, 0) _ rfl (by (with_reducible repeat (first | refine blk_drewN ?_ _ | refine blk_drew ?_ | refine blk_alloc ?_ _)); refine blk_put (cs := #[.int .i64 t106, .int .i64 t107, .string (⟨#[]⟩ : ByteArray)]) ?_ 2 _ rfl; (with_reducible repeat (first | refine blk_drewN ?_ _ | refine blk_drew ?_ | refine blk_alloc ?_ _)); refine blk_put (cs := #[.int .i64 t106, .int .i64 0, .string (⟨#[]⟩ : ByteArray)]) ?_ 1 _ rfl; (with_reducible repeat (first | refine blk_drewN ?_ _ | refine blk_drew ?_ | refine blk_alloc ?_ _)); refine blk_put (cs := #[.int .i64 0, .int .i64 0, .string (⟨#[]⟩ : ByteArray)]) ?_ 0 _ rfl; (with_reducible repeat (first | refine blk_drewN ?_ _ | refine blk_drew ?_ | refine blk_alloc ?_ _)); exact BK103.out) Try.underlying25 rfl (by kernel_rfl)) rfl ?_
      exact ⟨by first | rfl | (simp [errW_none, errW_some] <;> rfl) | (simp [*, errW_none, errW_some] <;> rfl), by repeat (first | (with_reducible first | exact HB.out | apply below_alloc | apply pw_below_drewN | apply below_drew1 | refine below_set ?_ GE103.out | refine below_set ?_ GE105.out) | exact HB.out)⟩
    · rw [if_neg c4] at H
      have c4b0 : (a0 == 1) = false := beq_eq_false_iff_ne.mpr c4
      have c4b1 : (a0 != 1) = true := bne_iff_ne.mpr c4
      by_cases c12 : a0 = 2
      · rw [if_pos c12] at H
        have c12b0 : (a0 == 2) = true := beq_iff_eq.mpr c12
        have c12b1 : (a0 != 2) = false := bne_eq_false_iff_eq.mpr c12
        clear c12
        replace H := Option.bind_eq_some_iff.mp H
        obtain ⟨_, A130, H⟩ := H
        replace H : ((calc_number.f (mx ((rd_T25 l1 0).f1) (wrap64 (-((rd_T25 l1 0).f1))))).bind fun bt109 => (some (bt109.1, bt109.2.1, bt109.2.2))) = some (r1, r2, r3) := H
        have A13 := Aside0.mk A130
        clear A130
        obtain ⟨ji14, hji14⟩ : ∃ j_ : Int, (mx ((rd_T25 l1 0).f1) (wrap64 (-((rd_T25 l1 0).f1)))) = j_ := ⟨_, rfl⟩
        replace H : ((calc_number.f (ji14)).bind fun bt109 => (some (bt109.1, bt109.2.1, bt109.2.2))) = some (r1, r2, r3) := by first | (rw [hji14] at H; exact H) | (simp only [hji14] at H ⊢; exact H)
        (try rw [hji14] at A13)
        have hji14_ : (if ((rd_T25 l1 0).f1) < (wrap64 (-((rd_T25 l1 0).f1))) then (wrap64 (-((rd_T25 l1 0).f1))) else ((rd_T25 l1 0).f1)) = ji14 := hji14
        replace H := Option.bind_eq_some_iff.mp H
        obtain ⟨⟨t109, t110, t111⟩, A150, H⟩ := H
        replace H : (some (t109, t110, t111)) = some (r1, r2, r3) := H
        have A15 := Aside0.mk A150
        clear A150
        simp only [Option.some.injEq, Prod.mk.injEq] at H
        obtain ⟨rfl, rfl, rfl⟩ := H
        go_enter Try.func32, Try.ntmps32
        go_wp2_with (first | ((with_reducible refine gate_dst (N := 4) rfl ?_); refine box_event ?hg (N := 4) ?hd (cs := #[.int .i64 0, .int .i64 0, .string (⟨#[]⟩ : ByteArray)]) (t := 25) ?hr ?_; (case hd => rfl); (case hg => rfl); (case hr => first | (go_simp; done) | (go_simp; rfl)); intro gb103 hg w16 hbox hb; have n0_ := Aside0.mk (below_step (by repeat (first | (with_reducible first | exact HB.out | apply below_alloc | apply pw_below_drewN | apply below_drew1) | exact HB.out)) hb); have n1_ := Aside0.mk (hbox); have n2_ := Aside0.mk ((by rw [hg]; exact (below_size (by repeat (first | (with_reducible first | exact HB.out | apply below_alloc | apply pw_below_drewN | apply below_drew1) | exact HB.out))) : w.heap.size ≤ gb103)); have n3_ := Aside0.mk ((by rw [hg]; exact (below_size (by repeat (first | (with_reducible first | exact HB.out | apply below_alloc | apply pw_below_drewN | apply below_drew1) | exact HB.out))) : w.heap.size ≤ gb103)); clear HB; have HB := n0_; have BK103 := n1_; have GW103 := n2_; have GE103 := n3_; clear n0_ n1_ n2_ n3_; clear hb hbox hg; have p104 : 0 ≤ (0 : Int) := (by omega); have q104 : 0 < (l1.length : Int) := of_decide_eq_true (by first | (with_reducible assumption) | assumption); obtain ⟨ad104, e104, hx104_0, hx104_1, hx104_2⟩ := at_T25 HR1.out 0 p104 q104; cases e104; have qi104 : (0 < l1.length) = True := eq_true (by omega); (try rw [show ((0 : Int)).toNat = 0 from rfl] at hx104_0); (try rw [show 0 * 3 = 0 from rfl] at hx104_0); (try rw [Addr.add_zero'] at hx104_0); (try rw [show ((0 : Int)).toNat = 0 from rfl] at hx104_1); (try rw [show 0 * 3 = 0 from rfl] at hx104_1); (try rw [Addr.add_zero'] at hx104_1); (try rw [show ((0 : Int)).toNat = 0 from rfl] at hx104_2); (try rw [show 0 * 3 = 0 from rfl] at hx104_2); (try rw [Addr.add_zero'] at hx104_2); replace hx104_0 := (HB.out.cell (World.block_lt_of_cell? w _ hx104_0)).trans hx104_0; replace hx104_1 := (HB.out.cell (World.block_lt_of_cell? w _ hx104_1)).trans hx104_1; replace hx104_2 := (HB.out.cell (World.block_lt_of_cell? w _ hx104_2)).trans hx104_2; replace p104 := eq_true p104; replace q104 := eq_true q104) | ((with_reducible refine gate_dst (N := 5) rfl ?_); refine box_event ?hg (N := 5) ?hd (cs := #[.int .i64 0, .int .i64 0, .string (⟨#[]⟩ : ByteArray)]) (t := 25) ?hr ?_; (case hd => rfl); (case hg => rfl); (case hr => first | (go_simp; done) | (go_simp; rfl)); intro gb105 hg w17 hbox hb; have n0_ := Aside0.mk (blk_below (g := gb103) (o := .cells #[.int .i64 0, .int .i64 0, .string (⟨#[]⟩ : ByteArray)] 25 (0, 0)) (by (with_reducible repeat (first | refine blk_drewN ?_ _ | refine blk_drew ?_ | refine blk_alloc ?_ _)); exact BK103.out) hb); have n1_ := Aside0.mk (below_step (by repeat (first | (with_reducible first | exact HB.out | apply below_alloc | apply pw_below_drewN | apply below_drew1 | refine below_set ?_ GE103.out) | exact HB.out)) hb); have n2_ := Aside0.mk (hbox); have n3_ := Aside0.mk ((by rw [hg]; exact (below_size (by repeat (first | (with_reducible first | exact HB.out | apply below_alloc | apply pw_below_drewN | apply below_drew1 | refine below_set ?_ GE103.out) | exact HB.out))) : w.heap.size ≤ gb105)); have n4_ := Aside0.mk ((by rw [hg]; exact (below_size (by repeat (first | (with_reducible first | exact HB.out | apply below_alloc | apply pw_below_drewN | apply below_drew1 | refine below_set ?_ GE103.out) | exact HB.out))) : w.heap.size ≤ gb105)); have n5_ := Aside0.mk ((by rw [hg]; exact Nat.ne_of_lt (blk_lt (g := gb103) (o := .cells #[.int .i64 0, .int .i64 0, .string (⟨#[]⟩ : ByteArray)] 25 (0, 0)) (by (with_reducible repeat (first | refine blk_drewN ?_ _ | refine blk_drew ?_ | refine blk_alloc ?_ _)); exact BK103.out)) : gb103 ≠ gb105)); have n6_ := Aside0.mk ((by rw [hg]; exact Nat.ne_of_gt (blk_lt (g := gb103) (o := .cells #[.int .i64 0, .int .i64 0, .string (⟨#[]⟩ : ByteArray)] 25 (0, 0)) (by (with_reducible repeat (first | refine blk_drewN ?_ _ | refine blk_drew ?_ | refine blk_alloc ?_ _)); exact BK103.out)) : gb105 ≠ gb103)); clear BK103; clear HB; have BK103 := n0_; have HB := n1_; have BK105 := n2_; have GW105 := n3_; have GE105 := n4_; have NB103_105 := n5_; have NB105_103 := n6_; clear n0_ n1_ n2_ n3_ n4_ n5_ n6_; clear hb hbox hg; have hnb18 := NB105_103.out; have hnc18 := NB103_105.out; have hcz19_0 : w17.cell? ⟨gb105, 0, none⟩ = some (.int .i64 0) := (blk_cell BK105.out 0).trans rfl; have hcz19_1 : w17.cell? ⟨gb105, 1, none⟩ = some (.int .i64 0) := (blk_cell BK105.out 1).trans rfl; have hcz19_2 : w17.cell? ⟨gb105, 2, none⟩ = some (.string (⟨#[]⟩ : ByteArray)) := (blk_cell BK105.out 2).trans rfl; have hfz19_0 := blk_frozen BK105.out 0; have hfz19_1 := blk_frozen BK105.out 1; have hfz19_2 := blk_frozen BK105.out 2) | ((with_reducible refine gate_callee (f := 30) rfl ?_); refine goesL_ (some 21) rfl rfl Try.func30 (by kernel_rfl) rfl #[.bool (((rd_T25 l1 0).f1) != (-9223372036854775808)), .int .i64 40] rfl (by (try simp only [List.map_toArray, List.map_cons, List.map_nil]); first | done | rfl | (simp only [List.length_drop, List.length_take]; rfl)) ?_; (with_reducible refine (calc_check.calls (((rd_T25 l1 0).f1) != (-9223372036854775808)) 40  _ A13.out).mono ?_); rintro e w' ⟨rfl, ⟨nd, rfl⟩⟩; refine ⟨_, rfl, ?_⟩) | ((with_reducible refine gate_callee (f := 45) rfl ?_); refine goesL_ (some 28) rfl rfl Try.func45 (by kernel_rfl) rfl #[.int .i64 ji14] rfl (by (try simp only [List.map_toArray, List.map_cons, List.map_nil]); first | done | (simp only [hji14]; rfl) | rfl | (simp only [List.length_drop, List.length_take]; rfl)) ?_; (with_reducible refine (calc_number.calls ji14 t109 t110 t111 _ A15.out).mono ?_); rintro e w20 ⟨rfl, hb⟩; refine ⟨_, rfl, ?_⟩; have n0_ := Aside0.mk (blk_below (g := gb103) (o := .cells #[.int .i64 0, .int .i64 0, .string (⟨#[]⟩ : ByteArray)] 25 (0, 0)) (by (with_reducible repeat (first | refine blk_drewN ?_ _ | refine blk_drew ?_ | refine blk_alloc ?_ _)); refine blk_far ?_ NB103_105.out _; (with_reducible repeat (first | refine blk_drewN ?_ _ | refine blk_drew ?_ | refine blk_alloc ?_ _)); refine blk_far ?_ NB103_105.out _; (with_reducible repeat (first | refine blk_drewN ?_ _ | refine blk_drew ?_ | refine blk_alloc ?_ _)); refine blk_far ?_ NB103_105.out _; (with_reducible repeat (first | refine blk_drewN ?_ _ | refine blk_drew ?_ | refine blk_alloc ?_ _)); exact BK103.out) hb); have n1_ := Aside0.mk (blk_below (g := gb105) (o := .cells #[.int .i64 ((rd_T25 l1 0).f0), .int .i64 ((rd_T25 l1 0).f1), .string ((rd_T25 l1 0).f2)] 25 (0, 0)) (by (with_reducible repeat (first | refine blk_drewN ?_ _ | refine blk_drew ?_ | refine blk_alloc ?_ _)); refine blk_put (cs := #[.int .i64 ((rd_T25 l1 0).f0), .int .i64 ((rd_T25 l1 0).f1), .string (⟨#[]⟩ : ByteArray)]) ?_ 2 _ rfl; (with_reducible repeat (first | refine blk_drewN ?_ _ | refine blk_drew ?_ | refine blk_alloc ?_ _)); refine blk_put (cs := #[.int .i64 ((rd_T25 l1 0).f0), .int .i64 0, .string (⟨#[]⟩ : ByteArray)]) ?_ 1 _ rfl; (with_reducible repeat (first | refine blk_drewN ?_ _ | refine blk_drew ?_ | refine blk_alloc ?_ _)); refine blk_put (cs := #[.int .i64 0, .int .i64 0, .string (⟨#[]⟩ : ByteArray)]) ?_ 0 _ rfl; (with_reducible repeat (first | refine blk_drewN ?_ _ | refine blk_drew ?_ | refine blk_alloc ?_ _)); exact BK105.out) hb); have n2_ := Aside0.mk (below_step (by repeat (first | (with_reducible first | exact HB.out | apply below_alloc | apply pw_below_drewN | apply below_drew1 | refine below_set ?_ GE103.out | refine below_set ?_ GE105.out) | exact HB.out)) hb); clear BK103; clear BK105; clear HB; have BK103 := n0_; have BK105 := n1_; have HB := n2_; clear n0_ n1_ n2_; (try clear hb); (try clear hb2); (try clear hk); (try clear hi); have hcz21_0 : w20.cell? ⟨gb103, 0, none⟩ = some (.int .i64 0) := (blk_cell BK103.out 0).trans rfl; have hcz21_1 : w20.cell? ⟨gb103, 1, none⟩ = some (.int .i64 0) := (blk_cell BK103.out 1).trans rfl; have hcz21_2 : w20.cell? ⟨gb103, 2, none⟩ = some (.string (⟨#[]⟩ : ByteArray)) := (blk_cell BK103.out 2).trans rfl; have hfz21_0 := blk_frozen BK103.out 0; have hfz21_1 := blk_frozen BK103.out 1; have hfz21_2 := blk_frozen BK103.out 2))
        refine bodyPost_ret (results_cell_row rfl _ _ gb103 25 #[.int .i64 t109, .int .i64 t110, .string t111] (0, 0) _ rfl (by (with_reducible repeat (first | refine blk_drewN ?_ _ | refine blk_drew ?_ | refine blk_alloc ?_ _)); refine blk_put (cs := #[.int .i64 t109, .int .i64 t110, .string (⟨#[]⟩ : ByteArray)]) ?_ 2 _ rfl; (with_reducible repeat (first | refine blk_drewN ?_ _ | refine blk_drew ?_ | refine blk_alloc ?_ _)); refine blk_put (cs := #[.int .i64 t109, .int .i64 0, .string (⟨#[]⟩ : ByteArray)]) ?_ 1 _ rfl; (with_reducible repeat (first | refine blk_drewN ?_ _ | refine blk_drew ?_ | refine blk_alloc ?_ _)); refine blk_put (cs := #[.int .i64 0, .int .i64 0, .string (⟨#[]⟩ : ByteArray)]) ?_ 0 _ rfl; (with_reducible repeat (first | refine blk_drewN ?_ _ | refine blk_drew ?_ | refine blk_alloc ?_ _)); exact BK103.out) Try.underlying25 rfl (by kernel_rfl)) rfl ?_
        exact ⟨by first | rfl | (simp [errW_none, errW_some] <;> rfl) | (simp only [← hji14]; first | rfl | (simp [errW_none, errW_some] <;> rfl)) | (simp [*, errW_none, errW_some] <;> rfl), by repeat (first | (with_reducible first | exact HB.out | apply below_alloc | apply pw_below_drewN | apply below_drew1 | refine below_set ?_ GE103.out | refine below_set ?_ GE105.out) | exact HB.out)⟩
      · rw [if_neg c12] at H
        have c12b0 : (a0 == 2) = false := beq_eq_false_iff_ne.mpr c12
        have c12b1 : (a0 != 2) = true := bne_iff_ne.mpr c12
        by_cases c22 : a0 = 3
        · rw [if_pos c22] at H
          have c22b0 : (a0 == 3) = true := beq_iff_eq.mpr c22
          have c22b1 : (a0 != 3) = false := bne_eq_false_iff_eq.mpr c22
          clear c22
          replace H := Option.bind_eq_some_iff.mp H
          obtain ⟨t112, A230, H⟩ := H
          replace H : ((calc_text.f t112).bind fun bt113 => (some (bt113.1, bt113.2.1, bt113.2.2))) = some (r1, r2, r3) := H
          have A23 := Aside0.mk A230
          clear A230
          replace H := Option.bind_eq_some_iff.mp H
          obtain ⟨⟨t113, t114, t115⟩, A240, H⟩ := H
          replace H : (some (t113, t114, t115)) = some (r1, r2, r3) := H
          have A24 := Aside0.mk A240
          clear A240
          simp only [Option.some.injEq, Prod.mk.injEq] at H
          obtain ⟨rfl, rfl, rfl⟩ := H
          go_enter Try.func32, Try.ntmps32
          go_wp2_with (first | ((with_reducible refine gate_dst (N := 4) rfl ?_); refine box_event ?hg (N := 4) ?hd (cs := #[.int .i64 0, .int .i64 0, .string (⟨#[]⟩ : ByteArray)]) (t := 25) ?hr ?_; (case hd => rfl); (case hg => rfl); (case hr => first | (go_simp; done) | (go_simp; rfl)); intro gb103 hg w25 hbox hb; have n0_ := Aside0.mk (below_step (by repeat (first | (with_reducible first | exact HB.out | apply below_alloc | apply pw_below_drewN | apply below_drew1) | exact HB.out)) hb); have n1_ := Aside0.mk (hbox); have n2_ := Aside0.mk ((by rw [hg]; exact (below_size (by repeat (first | (with_reducible first | exact HB.out | apply below_alloc | apply pw_below_drewN | apply below_drew1) | exact HB.out))) : w.heap.size ≤ gb103)); have n3_ := Aside0.mk ((by rw [hg]; exact (below_size (by repeat (first | (with_reducible first | exact HB.out | apply below_alloc | apply pw_below_drewN | apply below_drew1) | exact HB.out))) : w.heap.size ≤ gb103)); clear HB; have HB := n0_; have BK103 := n1_; have GW103 := n2_; have GE103 := n3_; clear n0_ n1_ n2_ n3_; clear hb hbox hg; have p104 : 0 ≤ (0 : Int) := (by omega); have q104 : 0 < (l1.length : Int) := of_decide_eq_true (by first | (with_reducible assumption) | assumption); obtain ⟨ad104, e104, hx104_0, hx104_1, hx104_2⟩ := at_T25 HR1.out 0 p104 q104; cases e104; have qi104 : (0 < l1.length) = True := eq_true (by omega); (try rw [show ((0 : Int)).toNat = 0 from rfl] at hx104_0); (try rw [show 0 * 3 = 0 from rfl] at hx104_0); (try rw [Addr.add_zero'] at hx104_0); (try rw [show ((0 : Int)).toNat = 0 from rfl] at hx104_1); (try rw [show 0 * 3 = 0 from rfl] at hx104_1); (try rw [Addr.add_zero'] at hx104_1); (try rw [show ((0 : Int)).toNat = 0 from rfl] at hx104_2); (try rw [show 0 * 3 = 0 from rfl] at hx104_2); (try rw [Addr.add_zero'] at hx104_2); replace hx104_0 := (HB.out.cell (World.block_lt_of_cell? w _ hx104_0)).trans hx104_0; replace hx104_1 := (HB.out.cell (World.block_lt_of_cell? w _ hx104_1)).trans hx104_1; replace hx104_2 := (HB.out.cell (World.block_lt_of_cell? w _ hx104_2)).trans hx104_2; replace p104 := eq_true p104; replace q104 := eq_true q104) | ((with_reducible refine gate_dst (N := 5) rfl ?_); refine box_event ?hg (N := 5) ?hd (cs := #[.int .i64 0, .int .i64 0, .string (⟨#[]⟩ : ByteArray)]) (t := 25) ?hr ?_; (case hd => rfl); (case hg => rfl); (case hr => first | (go_simp; done) | (go_simp; rfl)); intro gb105 hg w26 hbox hb; have n0_ := Aside0.mk (blk_below (g := gb103) (o := .cells #[.int .i64 0, .int .i64 0, .string (⟨#[]⟩ : ByteArray)] 25 (0, 0)) (by (with_reducible repeat (first | refine blk_drewN ?_ _ | refine blk_drew ?_ | refine blk_alloc ?_ _)); exact BK103.out) hb); have n1_ := Aside0.mk (below_step (by repeat (first | (with_reducible first | exact HB.out | apply below_alloc | apply pw_below_drewN | apply below_drew1 | refine below_set ?_ GE103.out) | exact HB.out)) hb); have n2_ := Aside0.mk (hbox); have n3_ := Aside0.mk ((by rw [hg]; exact (below_size (by repeat (first | (with_reducible first | exact HB.out | apply below_alloc | apply pw_below_drewN | apply below_drew1 | refine below_set ?_ GE103.out) | exact HB.out))) : w.heap.size ≤ gb105)); have n4_ := Aside0.mk ((by rw [hg]; exact (below_size (by repeat (first | (with_reducible first | exact HB.out | apply below_alloc | apply pw_below_drewN | apply below_drew1 | refine below_set ?_ GE103.out) | exact HB.out))) : w.heap.size ≤ gb105)); have n5_ := Aside0.mk ((by rw [hg]; exact Nat.ne_of_lt (blk_lt (g := gb103) (o := .cells #[.int .i64 0, .int .i64 0, .string (⟨#[]⟩ : ByteArray)] 25 (0, 0)) (by (with_reducible repeat (first | refine blk_drewN ?_ _ | refine blk_drew ?_ | refine blk_alloc ?_ _)); exact BK103.out)) : gb103 ≠ gb105)); have n6_ := Aside0.mk ((by rw [hg]; exact Nat.ne_of_gt (blk_lt (g := gb103) (o := .cells #[.int .i64 0, .int .i64 0, .string (⟨#[]⟩ : ByteArray)] 25 (0, 0)) (by (with_reducible repeat (first | refine blk_drewN ?_ _ | refine blk_drew ?_ | refine blk_alloc ?_ _)); exact BK103.out)) : gb105 ≠ gb103)); clear BK103; clear HB; have BK103 := n0_; have HB := n1_; have BK105 := n2_; have GW105 := n3_; have GE105 := n4_; have NB103_105 := n5_; have NB105_103 := n6_; clear n0_ n1_ n2_ n3_ n4_ n5_ n6_; clear hb hbox hg; have hnb27 := NB105_103.out; have hnc27 := NB103_105.out; have hcz28_0 : w26.cell? ⟨gb105, 0, none⟩ = some (.int .i64 0) := (blk_cell BK105.out 0).trans rfl; have hcz28_1 : w26.cell? ⟨gb105, 1, none⟩ = some (.int .i64 0) := (blk_cell BK105.out 1).trans rfl; have hcz28_2 : w26.cell? ⟨gb105, 2, none⟩ = some (.string (⟨#[]⟩ : ByteArray)) := (blk_cell BK105.out 2).trans rfl; have hfz28_0 := blk_frozen BK105.out 0; have hfz28_1 := blk_frozen BK105.out 1; have hfz28_2 := blk_frozen BK105.out 2) | ((with_reducible refine gate_callee (f := 55) rfl ?_); refine goesL_ (some 33) rfl rfl Try.func55 (by kernel_rfl) rfl #[.string ((rd_T25 l1 0).f2), .int .u8 97, .int .u8 65] rfl (by (try simp only [List.map_toArray, List.map_cons, List.map_nil]); first | done | rfl | (simp only [List.length_drop, List.length_take]; rfl)) ?_; (with_reducible refine (calc_mapped.calls ((rd_T25 l1 0).f2) 97 65 t112 _ A23.out).mono ?_); rintro e w29 ⟨rfl, hb⟩; refine ⟨_, rfl, ?_⟩; have n0_ := Aside0.mk (blk_below (g := gb103) (o := .cells #[.int .i64 0, .int .i64 0, .string (⟨#[]⟩ : ByteArray)] 25 (0, 0)) (by (with_reducible repeat (first | refine blk_drewN ?_ _ | refine blk_drew ?_ | refine blk_alloc ?_ _)); refine blk_far ?_ NB103_105.out _; (with_reducible repeat (first | refine blk_drewN ?_ _ | refine blk_drew ?_ | refine blk_alloc ?_ _)); refine blk_far ?_ NB103_105.out _; (with_reducible repeat (first | refine blk_drewN ?_ _ | refine blk_drew ?_ | refine blk_alloc ?_ _)); refine blk_far ?_ NB103_105.out _; (with_reducible repeat (first | refine blk_drewN ?_ _ | refine blk_drew ?_ | refine blk_alloc ?_ _)); exact BK103.out) hb); have n1_ := Aside0.mk (blk_below (g := gb105) (o := .cells #[.int .i64 ((rd_T25 l1 0).f0), .int .i64 ((rd_T25 l1 0).f1), .string ((rd_T25 l1 0).f2)] 25 (0, 0)) (by (with_reducible repeat (first | refine blk_drewN ?_ _ | refine blk_drew ?_ | refine blk_alloc ?_ _)); refine blk_put (cs := #[.int .i64 ((rd_T25 l1 0).f0), .int .i64 ((rd_T25 l1 0).f1), .string (⟨#[]⟩ : ByteArray)]) ?_ 2 _ rfl; (with_reducible repeat (first | refine blk_drewN ?_ _ | refine blk_drew ?_ | refine blk_alloc ?_ _)); refine blk_put (cs := #[.int .i64 ((rd_T25 l1 0).f0), .int .i64 0, .string (⟨#[]⟩ : ByteArray)]) ?_ 1 _ rfl; (with_reducible repeat (first | refine blk_drewN ?_ _ | refine blk_drew ?_ | refine blk_alloc ?_ _)); refine blk_put (cs := #[.int .i64 0, .int .i64 0, .string (⟨#[]⟩ : ByteArray)]) ?_ 0 _ rfl; (with_reducible repeat (first | refine blk_drewN ?_ _ | refine blk_drew ?_ | refine blk_alloc ?_ _)); exact BK105.out) hb); have n2_ := Aside0.mk (below_step (by repeat (first | (with_reducible first | exact HB.out | apply below_alloc | apply pw_below_drewN | apply below_drew1 | refine below_set ?_ GE103.out | refine below_set ?_ GE105.out) | exact HB.out)) hb); clear BK103; clear BK105; clear HB; have BK103 := n0_; have BK105 := n1_; have HB := n2_; clear n0_ n1_ n2_; (try clear hb); (try clear hb2); (try clear hk); (try clear hi)) | ((with_reducible refine gate_callee (f := 44) rfl ?_); refine goesL_ (some 34) rfl rfl Try.func44 (by kernel_rfl) rfl #[.string t112] rfl (by (try simp only [List.map_toArray, List.map_cons, List.map_nil]); first | done | rfl | (simp only [List.length_drop, List.length_take]; rfl)) ?_; (with_reducible refine (calc_text.calls t112 t113 t114 t115 _ A24.out).mono ?_); rintro e w30 ⟨rfl, hb⟩; refine ⟨_, rfl, ?_⟩; have n0_ := Aside0.mk (blk_below (g := gb103) (o := .cells #[.int .i64 0, .int .i64 0, .string (⟨#[]⟩ : ByteArray)] 25 (0, 0)) (by (with_reducible repeat (first | refine blk_drewN ?_ _ | refine blk_drew ?_ | refine blk_alloc ?_ _)); exact BK103.out) hb); have n1_ := Aside0.mk (blk_below (g := gb105) (o := .cells #[.int .i64 ((rd_T25 l1 0).f0), .int .i64 ((rd_T25 l1 0).f1), .string ((rd_T25 l1 0).f2)] 25 (0, 0)) (by (with_reducible repeat (first | refine blk_drewN ?_ _ | refine blk_drew ?_ | refine blk_alloc ?_ _)); exact BK105.out) hb); have n2_ := Aside0.mk (below_step (by repeat (first | (with_reducible first | exact HB.out | apply below_alloc | apply pw_below_drewN | apply below_drew1 | refine below_set ?_ GE103.out | refine below_set ?_ GE105.out) | exact HB.out)) hb); clear BK103; clear BK105; clear HB; have BK103 := n0_; have BK105 := n1_; have HB := n2_; clear n0_ n1_ n2_; (try clear hb); (try clear hb2); (try clear hk); (try clear hi); have hcz31_0 : w30.cell? ⟨gb103, 0, none⟩ = some (.int .i64 0) := (blk_cell BK103.out 0).trans rfl; have hcz31_1 : w30.cell? ⟨gb103, 1, none⟩ = some (.int .i64 0) := (blk_cell BK103.out 1).trans rfl; have hcz31_2 : w30.cell? ⟨gb103, 2, none⟩ = some (.string (⟨#[]⟩ : ByteArray)) := (blk_cell BK103.out 2).trans rfl; have hfz31_0 := blk_frozen BK103.out 0; have hfz31_1 := blk_frozen BK103.out 1; have hfz31_2 := blk_frozen BK103.out 2))
          refine bodyPost_ret (results_cell_row rfl _ _ gb103 25 #[.int .i64 t113, .int .i64 t114, .string t115] (0, 0) _ rfl (by (with_reducible repeat (first | refine blk_drewN ?_ _ | refine blk_drew ?_ | refine blk_alloc ?_ _)); refine blk_put (cs := #[.int .i64 t113, .int .i64 t114, .string (⟨#[]⟩ : ByteArray)]) ?_ 2 _ rfl; (with_reducible repeat (first | refine blk_drewN ?_ _ | refine blk_drew ?_ | refine blk_alloc ?_ _)); refine blk_put (cs := #[.int .i64 t113, .int .i64 0, .string (⟨#[]⟩ : ByteArray)]) ?_ 1 _ rfl; (with_reducible repeat (first | refine blk_drewN ?_ _ | refine blk_drew ?_ | refine blk_alloc ?_ _)); refine blk_put (cs := #[.int .i64 0, .int .i64 0, .string (⟨#[]⟩ : ByteArray)]) ?_ 0 _ rfl; (with_reducible repeat (first | refine blk_drewN ?_ _ | refine blk_drew ?_ | refine blk_alloc ?_ _)); exact BK103.out) Try.underlying25 rfl (by kernel_rfl)) rfl ?_
          exact ⟨by first | rfl | (simp [errW_none, errW_some] <;> rfl) | (simp [*, errW_none, errW_some] <;> rfl), by repeat (first | (with_reducible first | exact HB.out | apply below_alloc | apply pw_below_drewN | apply below_drew1 | refine below_set ?_ GE103.out | refine below_set ?_ GE105.out) | exact HB.out)⟩
        · rw [if_neg c22] at H
          have c22b0 : (a0 == 3) = false := beq_eq_false_iff_ne.mpr c22
          have c22b1 : (a0 != 3) = true := bne_iff_ne.mpr c22
          by_cases c32 : a0 = 4
          · rw [if_pos c32] at H
            have c32b0 : (a0 == 4) = true := beq_iff_eq.mpr c32
            have c32b1 : (a0 != 4) = false := bne_eq_false_iff_eq.mpr c32
            clear c32
            replace H := Option.bind_eq_some_iff.mp H
            obtain ⟨t116, A330, H⟩ := H
            replace H : ((calc_text.f t116).bind fun bt117 => (some (bt117.1, bt117.2.1, bt117.2.2))) = some (r1, r2, r3) := H
            have A33 := Aside0.mk A330
            clear A330
            replace H := Option.bind_eq_some_iff.mp H
            obtain ⟨⟨t117, t118, t119⟩, A340, H⟩ := H
            replace H : (some (t117, t118, t119)) = some (r1, r2, r3) := H
            have A34 := Aside0.mk A340
            clear A340
            simp only [Option.some.injEq, Prod.mk.injEq] at H
            obtain ⟨rfl, rfl, rfl⟩ := H
            go_enter Try.func32, Try.ntmps32
            go_wp2_with (first | ((with_reducible refine gate_dst (N := 4) rfl ?_); refine box_event ?hg (N := 4) ?hd (cs := #[.int .i64 0, .int .i64 0, .string (⟨#[]⟩ : ByteArray)]) (t := 25) ?hr ?_; (case hd => rfl); (case hg => rfl); (case hr => first | (go_simp; done) | (go_simp; rfl)); intro gb103 hg w35 hbox hb; have n0_ := Aside0.mk (below_step (by repeat (first | (with_reducible first | exact HB.out | apply below_alloc | apply pw_below_drewN | apply below_drew1) | exact HB.out)) hb); have n1_ := Aside0.mk (hbox); have n2_ := Aside0.mk ((by rw [hg]; exact (below_size (by repeat (first | (with_reducible first | exact HB.out | apply below_alloc | apply pw_below_drewN | apply below_drew1) | exact HB.out))) : w.heap.size ≤ gb103)); have n3_ := Aside0.mk ((by rw [hg]; exact (below_size (by repeat (first | (with_reducible first | exact HB.out | apply below_alloc | apply pw_below_drewN | apply below_drew1) | exact HB.out))) : w.heap.size ≤ gb103)); clear HB; have HB := n0_; have BK103 := n1_; have GW103 := n2_; have GE103 := n3_; clear n0_ n1_ n2_ n3_; clear hb hbox hg; have p104 : 0 ≤ (0 : Int) := (by omega); have q104 : 0 < (l1.length : Int) := of_decide_eq_true (by first | (with_reducible assumption) | assumption); obtain ⟨ad104, e104, hx104_0, hx104_1, hx104_2⟩ := at_T25 HR1.out 0 p104 q104; cases e104; have qi104 : (0 < l1.length) = True := eq_true (by omega); (try rw [show ((0 : Int)).toNat = 0 from rfl] at hx104_0); (try rw [show 0 * 3 = 0 from rfl] at hx104_0); (try rw [Addr.add_zero'] at hx104_0); (try rw [show ((0 : Int)).toNat = 0 from rfl] at hx104_1); (try rw [show 0 * 3 = 0 from rfl] at hx104_1); (try rw [Addr.add_zero'] at hx104_1); (try rw [show ((0 : Int)).toNat = 0 from rfl] at hx104_2); (try rw [show 0 * 3 = 0 from rfl] at hx104_2); (try rw [Addr.add_zero'] at hx104_2); replace hx104_0 := (HB.out.cell (World.block_lt_of_cell? w _ hx104_0)).trans hx104_0; replace hx104_1 := (HB.out.cell (World.block_lt_of_cell? w _ hx104_1)).trans hx104_1; replace hx104_2 := (HB.out.cell (World.block_lt_of_cell? w _ hx104_2)).trans hx104_2; replace p104 := eq_true p104; replace q104 := eq_true q104) | ((with_reducible refine gate_dst (N := 5) rfl ?_); refine box_event ?hg (N := 5) ?hd (cs := #[.int .i64 0, .int .i64 0, .string (⟨#[]⟩ : ByteArray)]) (t := 25) ?hr ?_; (case hd => rfl); (case hg => rfl); (case hr => first | (go_simp; done) | (go_simp; rfl)); intro gb105 hg w36 hbox hb; have n0_ := Aside0.mk (blk_below (g := gb103) (o := .cells #[.int .i64 0, .int .i64 0, .string (⟨#[]⟩ : ByteArray)] 25 (0, 0)) (by (with_reducible repeat (first | refine blk_drewN ?_ _ | refine blk_drew ?_ | refine blk_alloc ?_ _)); exact BK103.out) hb); have n1_ := Aside0.mk (below_step (by repeat (first | (with_reducible first | exact HB.out | apply below_alloc | apply pw_below_drewN | apply below_drew1 | refine below_set ?_ GE103.out) | exact HB.out)) hb); have n2_ := Aside0.mk (hbox); have n3_ := Aside0.mk ((by rw [hg]; exact (below_size (by repeat (first | (with_reducible first | exact HB.out | apply below_alloc | apply pw_below_drewN | apply below_drew1 | refine below_set ?_ GE103.out) | exact HB.out))) : w.heap.size ≤ gb105)); have n4_ := Aside0.mk ((by rw [hg]; exact (below_size (by repeat (first | (with_reducible first | exact HB.out | apply below_alloc | apply pw_below_drewN | apply below_drew1 | refine below_set ?_ GE103.out) | exact HB.out))) : w.heap.size ≤ gb105)); have n5_ := Aside0.mk ((by rw [hg]; exact Nat.ne_of_lt (blk_lt (g := gb103) (o := .cells #[.int .i64 0, .int .i64 0, .string (⟨#[]⟩ : ByteArray)] 25 (0, 0)) (by (with_reducible repeat (first | refine blk_drewN ?_ _ | refine blk_drew ?_ | refine blk_alloc ?_ _)); exact BK103.out)) : gb103 ≠ gb105)); have n6_ := Aside0.mk ((by rw [hg]; exact Nat.ne_of_gt (blk_lt (g := gb103) (o := .cells #[.int .i64 0, .int .i64 0, .string (⟨#[]⟩ : ByteArray)] 25 (0, 0)) (by (with_reducible repeat (first | refine blk_drewN ?_ _ | refine blk_drew ?_ | refine blk_alloc ?_ _)); exact BK103.out)) : gb105 ≠ gb103)); clear BK103; clear HB; have BK103 := n0_; have HB := n1_; have BK105 := n2_; have GW105 := n3_; have GE105 := n4_; have NB103_105 := n5_; have NB105_103 := n6_; clear n0_ n1_ n2_ n3_ n4_ n5_ n6_; clear hb hbox hg; have hnb37 := NB105_103.out; have hnc37 := NB103_105.out; have hcz38_0 : w36.cell? ⟨gb105, 0, none⟩ = some (.int .i64 0) := (blk_cell BK105.out 0).trans rfl; have hcz38_1 : w36.cell? ⟨gb105, 1, none⟩ = some (.int .i64 0) := (blk_cell BK105.out 1).trans rfl; have hcz38_2 : w36.cell? ⟨gb105, 2, none⟩ = some (.string (⟨#[]⟩ : ByteArray)) := (blk_cell BK105.out 2).trans rfl; have hfz38_0 := blk_frozen BK105.out 0; have hfz38_1 := blk_frozen BK105.out 1; have hfz38_2 := blk_frozen BK105.out 2) | ((with_reducible refine gate_callee (f := 55) rfl ?_); refine goesL_ (some 39) rfl rfl Try.func55 (by kernel_rfl) rfl #[.string ((rd_T25 l1 0).f2), .int .u8 65, .int .u8 97] rfl (by (try simp only [List.map_toArray, List.map_cons, List.map_nil]); first | done | rfl | (simp only [List.length_drop, List.length_take]; rfl)) ?_; (with_reducible refine (calc_mapped.calls ((rd_T25 l1 0).f2) 65 97 t116 _ A33.out).mono ?_); rintro e w39 ⟨rfl, hb⟩; refine ⟨_, rfl, ?_⟩; have n0_ := Aside0.mk (blk_below (g := gb103) (o := .cells #[.int .i64 0, .int .i64 0, .string (⟨#[]⟩ : ByteArray)] 25 (0, 0)) (by (with_reducible repeat (first | refine blk_drewN ?_ _ | refine blk_drew ?_ | refine blk_alloc ?_ _)); refine blk_far ?_ NB103_105.out _; (with_reducible repeat (first | refine blk_drewN ?_ _ | refine blk_drew ?_ | refine blk_alloc ?_ _)); refine blk_far ?_ NB103_105.out _; (with_reducible repeat (first | refine blk_drewN ?_ _ | refine blk_drew ?_ | refine blk_alloc ?_ _)); refine blk_far ?_ NB103_105.out _; (with_reducible repeat (first | refine blk_drewN ?_ _ | refine blk_drew ?_ | refine blk_alloc ?_ _)); exact BK103.out) hb); have n1_ := Aside0.mk (blk_below (g := gb105) (o := .cells #[.int .i64 ((rd_T25 l1 0).f0), .int .i64 ((rd_T25 l1 0).f1), .string ((rd_T25 l1 0).f2)] 25 (0, 0)) (by (with_reducible repeat (first | refine blk_drewN ?_ _ | refine blk_drew ?_ | refine blk_alloc ?_ _)); refine blk_put (cs := #[.int .i64 ((rd_T25 l1 0).f0), .int .i64 ((rd_T25 l1 0).f1), .string (⟨#[]⟩ : ByteArray)]) ?_ 2 _ rfl; (with_reducible repeat (first | refine blk_drewN ?_ _ | refine blk_drew ?_ | refine blk_alloc ?_ _)); refine blk_put (cs := #[.int .i64 ((rd_T25 l1 0).f0), .int .i64 0, .string (⟨#[]⟩ : ByteArray)]) ?_ 1 _ rfl; (with_reducible repeat (first | refine blk_drewN ?_ _ | refine blk_drew ?_ | refine blk_alloc ?_ _)); refine blk_put (cs := #[.int .i64 0, .int .i64 0, .string (⟨#[]⟩ : ByteArray)]) ?_ 0 _ rfl; (with_reducible repeat (first | refine blk_drewN ?_ _ | refine blk_drew ?_ | refine blk_alloc ?_ _)); exact BK105.out) hb); have n2_ := Aside0.mk (below_step (by repeat (first | (with_reducible first | exact HB.out | apply below_alloc | apply pw_below_drewN | apply below_drew1 | refine below_set ?_ GE103.out | refine below_set ?_ GE105.out) | exact HB.out)) hb); clear BK103; clear BK105; clear HB; have BK103 := n0_; have BK105 := n1_; have HB := n2_; clear n0_ n1_ n2_; (try clear hb); (try clear hb2); (try clear hk); (try clear hi)) | ((with_reducible refine gate_callee (f := 44) rfl ?_); refine goesL_ (some 40) rfl rfl Try.func44 (by kernel_rfl) rfl #[.string t116] rfl (by (try simp only [List.map_toArray, List.map_cons, List.map_nil]); first | done | rfl | (simp only [List.length_drop, List.length_take]; rfl)) ?_; (with_reducible refine (calc_text.calls t116 t117 t118 t119 _ A34.out).mono ?_); rintro e w40 ⟨rfl, hb⟩; refine ⟨_, rfl, ?_⟩; have n0_ := Aside0.mk (blk_below (g := gb103) (o := .cells #[.int .i64 0, .int .i64 0, .string (⟨#[]⟩ : ByteArray)] 25 (0, 0)) (by (with_reducible repeat (first | refine blk_drewN ?_ _ | refine blk_drew ?_ | refine blk_alloc ?_ _)); exact BK103.out) hb); have n1_ := Aside0.mk (blk_below (g := gb105) (o := .cells #[.int .i64 ((rd_T25 l1 0).f0), .int .i64 ((rd_T25 l1 0).f1), .string ((rd_T25 l1 0).f2)] 25 (0, 0)) (by (with_reducible repeat (first | refine blk_drewN ?_ _ | refine blk_drew ?_ | refine blk_alloc ?_ _)); exact BK105.out) hb); have n2_ := Aside0.mk (below_step (by repeat (first | (with_reducible first | exact HB.out | apply below_alloc | apply pw_below_drewN | apply below_drew1 | refine below_set ?_ GE103.out | refine below_set ?_ GE105.out) | exact HB.out)) hb); clear BK103; clear BK105; clear HB; have BK103 := n0_; have BK105 := n1_; have HB := n2_; clear n0_ n1_ n2_; (try clear hb); (try clear hb2); (try clear hk); (try clear hi); have hcz41_0 : w40.cell? ⟨gb103, 0, none⟩ = some (.int .i64 0) := (blk_cell BK103.out 0).trans rfl; have hcz41_1 : w40.cell? ⟨gb103, 1, none⟩ = some (.int .i64 0) := (blk_cell BK103.out 1).trans rfl; have hcz41_2 : w40.cell? ⟨gb103, 2, none⟩ = some (.string (⟨#[]⟩ : ByteArray)) := (blk_cell BK103.out 2).trans rfl; have hfz41_0 := blk_frozen BK103.out 0; have hfz41_1 := blk_frozen BK103.out 1; have hfz41_2 := blk_frozen BK103.out 2))
            refine bodyPost_ret (results_cell_row rfl _ _ gb103 25 #[.int .i64 t117, .int .i64 t118, .string t119] (0, 0) _ rfl (by (with_reducible repeat (first | refine blk_drewN ?_ _ | refine blk_drew ?_ | refine blk_alloc ?_ _)); refine blk_put (cs := #[.int .i64 t117, .int .i64 t118, .string (⟨#[]⟩ : ByteArray)]) ?_ 2 _ rfl; (with_reducible repeat (first | refine blk_drewN ?_ _ | refine blk_drew ?_ | refine blk_alloc ?_ _)); refine blk_put (cs := #[.int .i64 t117, .int .i64 0, .string (⟨#[]⟩ : ByteArray)]) ?_ 1 _ rfl; (with_reducible repeat (first | refine blk_drewN ?_ _ | refine blk_drew ?_ | refine blk_alloc ?_ _)); refine blk_put (cs := #[.int .i64 0, .int .i64 0, .string (⟨#[]⟩ : ByteArray)]) ?_ 0 _ rfl; (with_reducible repeat (first | refine blk_drewN ?_ _ | refine blk_drew ?_ | refine blk_alloc ?_ _)); exact BK103.out) Try.underlying25 rfl (by kernel_rfl)) rfl ?_
            exact ⟨by first | rfl | (simp [errW_none, errW_some] <;> rfl) | (simp [*, errW_none, errW_some] <;> rfl), by repeat (first | (with_reducible first | exact HB.out | apply below_alloc | apply pw_below_drewN | apply below_drew1 | refine below_set ?_ GE103.out | refine below_set ?_ GE105.out) | exact HB.out)⟩
          · rw [if_neg c32] at H
            have c32b0 : (a0 == 4) = false := beq_eq_false_iff_ne.mpr c32
            have c32b1 : (a0 != 4) = true := bne_iff_ne.mpr c32
            by_cases c42 : 1 < (l1.length : Int)
            · rw [if_pos c42] at H
              have c42b0 : decide (1 < (l1.length : Int)) = true := decide_eq_true c42
              have c42b1 : decide (1 < l1.length) = true := decide_eq_true (by omega)
              clear c42
              by_cases c43 : 2 < (l1.length : Int)
              · rw [if_pos c43] at H
                have c43b0 : decide (2 < (l1.length : Int)) = true := decide_eq_true c43
                have c43b1 : decide (2 < l1.length) = true := decide_eq_true (by omega)
                clear c43
                replace H := Option.bind_eq_some_iff.mp H
                obtain ⟨t122, A440, H⟩ := H
                replace H : ((calc_text.f t122).bind fun bt123 => (some (bt123.1, bt123.2.1, bt123.2.2))) = some (r1, r2, r3) := H
                have A44 := Aside0.mk A440
                clear A440
                replace H := Option.bind_eq_some_iff.mp H
                obtain ⟨⟨t123, t124, t125⟩, A450, H⟩ := H
                replace H : (some (t123, t124, t125)) = some (r1, r2, r3) := H
                have A45 := Aside0.mk A450
                clear A450
                simp only [Option.some.injEq, Prod.mk.injEq] at H
                obtain ⟨rfl, rfl, rfl⟩ := H
                go_enter Try.func32, Try.ntmps32
                try go_wp2_with (first | ((with_reducible refine gate_dst (N := 4) rfl ?_); refine box_event ?hg (N := 4) ?hd (cs := #[.int .i64 0, .int .i64 0, .string (⟨#[]⟩ : ByteArray)]) (t := 25) ?hr ?_; (case hd => rfl); (case hg => rfl); (case hr => first | (go_simp; done) | (go_simp; rfl)); intro gb103 hg w46 hbox hb; have n0_ := Aside0.mk (below_step (by repeat (first | (with_reducible first | exact HB.out | apply below_alloc | apply pw_below_drewN | apply below_drew1) | exact HB.out)) hb); have n1_ := Aside0.mk (hbox); have n2_ := Aside0.mk ((by rw [hg]; exact (below_size (by repeat (first | (with_reducible first | exact HB.out | apply below_alloc | apply pw_below_drewN | apply below_drew1) | exact HB.out))) : w.heap.size ≤ gb103)); have n3_ := Aside0.mk ((by rw [hg]; exact (below_size (by repeat (first | (with_reducible first | exact HB.out | apply below_alloc | apply pw_below_drewN | apply below_drew1) | exact HB.out))) : w.heap.size ≤ gb103)); clear HB; have HB := n0_; have BK103 := n1_; have GW103 := n2_; have GE103 := n3_; clear n0_ n1_ n2_ n3_; clear hb hbox hg; have p104 : 0 ≤ (0 : Int) := (by omega); have q104 : 0 < (l1.length : Int) := of_decide_eq_true (by first | (with_reducible assumption) | assumption); obtain ⟨ad104, e104, hx104_0, hx104_1, hx104_2⟩ := at_T25 HR1.out 0 p104 q104; cases e104; have qi104 : (0 < l1.length) = True := eq_true (by omega); (try rw [show ((0 : Int)).toNat = 0 from rfl] at hx104_0); (try rw [show 0 * 3 = 0 from rfl] at hx104_0); (try rw [Addr.add_zero'] at hx104_0); (try rw [show ((0 : Int)).toNat = 0 from rfl] at hx104_1); (try rw [show 0 * 3 = 0 from rfl] at hx104_1); (try rw [Addr.add_zero'] at hx104_1); (try rw [show ((0 : Int)).toNat = 0 from rfl] at hx104_2); (try rw [show 0 * 3 = 0 from rfl] at hx104_2); (try rw [Addr.add_zero'] at hx104_2); replace hx104_0 := (HB.out.cell (World.block_lt_of_cell? w _ hx104_0)).trans hx104_0; replace hx104_1 := (HB.out.cell (World.block_lt_of_cell? w _ hx104_1)).trans hx104_1; replace hx104_2 := (HB.out.cell (World.block_lt_of_cell? w _ hx104_2)).trans hx104_2; replace p104 := eq_true p104; replace q104 := eq_true q104) | ((with_reducible refine gate_dst (N := 5) rfl ?_); refine box_event ?hg (N := 5) ?hd (cs := #[.int .i64 0, .int .i64 0, .string (⟨#[]⟩ : ByteArray)]) (t := 25) ?hr ?_; (case hd => rfl); (case hg => rfl); (case hr => first | (go_simp; done) | (go_simp; rfl)); intro gb105 hg w47 hbox hb; have n0_ := Aside0.mk (blk_below (g := gb103) (o := .cells #[.int .i64 0, .int .i64 0, .string (⟨#[]⟩ : ByteArray)] 25 (0, 0)) (by (with_reducible repeat (first | refine blk_drewN ?_ _ | refine blk_drew ?_ | refine blk_alloc ?_ _)); exact BK103.out) hb); have n1_ := Aside0.mk (below_step (by repeat (first | (with_reducible first | exact HB.out | apply below_alloc | apply pw_below_drewN | apply below_drew1 | refine below_set ?_ GE103.out) | exact HB.out)) hb); have n2_ := Aside0.mk (hbox); have n3_ := Aside0.mk ((by rw [hg]; exact (below_size (by repeat (first | (with_reducible first | exact HB.out | apply below_alloc | apply pw_below_drewN | apply below_drew1 | refine below_set ?_ GE103.out) | exact HB.out))) : w.heap.size ≤ gb105)); have n4_ := Aside0.mk ((by rw [hg]; exact (below_size (by repeat (first | (with_reducible first | exact HB.out | apply below_alloc | apply pw_below_drewN | apply below_drew1 | refine below_set ?_ GE103.out) | exact HB.out))) : w.heap.size ≤ gb105)); have n5_ := Aside0.mk ((by rw [hg]; exact Nat.ne_of_lt (blk_lt (g := gb103) (o := .cells #[.int .i64 0, .int .i64 0, .string (⟨#[]⟩ : ByteArray)] 25 (0, 0)) (by (with_reducible repeat (first | refine blk_drewN ?_ _ | refine blk_drew ?_ | refine blk_alloc ?_ _)); exact BK103.out)) : gb103 ≠ gb105)); have n6_ := Aside0.mk ((by rw [hg]; exact Nat.ne_of_gt (blk_lt (g := gb103) (o := .cells #[.int .i64 0, .int .i64 0, .string (⟨#[]⟩ : ByteArray)] 25 (0, 0)) (by (with_reducible repeat (first | refine blk_drewN ?_ _ | refine blk_drew ?_ | refine blk_alloc ?_ _)); exact BK103.out)) : gb105 ≠ gb103)); clear BK103; clear HB; have BK103 := n0_; have HB := n1_; have BK105 := n2_; have GW105 := n3_; have GE105 := n4_; have NB103_105 := n5_; have NB105_103 := n6_; clear n0_ n1_ n2_ n3_ n4_ n5_ n6_; clear hb hbox hg; have hnb48 := NB105_103.out; have hnc48 := NB103_105.out; have hcz49_0 : w47.cell? ⟨gb105, 0, none⟩ = some (.int .i64 0) := (blk_cell BK105.out 0).trans rfl; have hcz49_1 : w47.cell? ⟨gb105, 1, none⟩ = some (.int .i64 0) := (blk_cell BK105.out 1).trans rfl; have hcz49_2 : w47.cell? ⟨gb105, 2, none⟩ = some (.string (⟨#[]⟩ : ByteArray)) := (blk_cell BK105.out 2).trans rfl; have hfz49_0 := blk_frozen BK105.out 0; have hfz49_1 := blk_frozen BK105.out 1; have hfz49_2 := blk_frozen BK105.out 2))
                have n0_ : Aside0 ((((w47.setCell ⟨gb105, 0, none⟩ (.int .i64 ((rd_T25 l1 0).f0))).setCell ⟨gb105, 1, none⟩ (.int .i64 ((rd_T25 l1 0).f1))).setCell ⟨gb105, 2, none⟩ (.string ((rd_T25 l1 0).f2))).heap[gb103]? = some (.cells #[.int .i64 0, .int .i64 0, .string (⟨#[]⟩ : ByteArray)] 25 (0, 0))) := ⟨by (with_reducible repeat (first | refine blk_drewN ?_ _ | refine blk_drew ?_ | refine blk_alloc ?_ _)); refine blk_far ?_ NB103_105.out _; (with_reducible repeat (first | refine blk_drewN ?_ _ | refine blk_drew ?_ | refine blk_alloc ?_ _)); refine blk_far ?_ NB103_105.out _; (with_reducible repeat (first | refine blk_drewN ?_ _ | refine blk_drew ?_ | refine blk_alloc ?_ _)); refine blk_far ?_ NB103_105.out _; (with_reducible repeat (first | refine blk_drewN ?_ _ | refine blk_drew ?_ | refine blk_alloc ?_ _)); exact BK103.out⟩
                have n1_ : Aside0 ((((w47.setCell ⟨gb105, 0, none⟩ (.int .i64 ((rd_T25 l1 0).f0))).setCell ⟨gb105, 1, none⟩ (.int .i64 ((rd_T25 l1 0).f1))).setCell ⟨gb105, 2, none⟩ (.string ((rd_T25 l1 0).f2))).heap[gb105]? = some (.cells #[.int .i64 ((rd_T25 l1 0).f0), .int .i64 ((rd_T25 l1 0).f1), .string ((rd_T25 l1 0).f2)] 25 (0, 0))) := ⟨by (with_reducible repeat (first | refine blk_drewN ?_ _ | refine blk_drew ?_ | refine blk_alloc ?_ _)); refine blk_put (cs := #[.int .i64 ((rd_T25 l1 0).f0), .int .i64 ((rd_T25 l1 0).f1), .string (⟨#[]⟩ : ByteArray)]) ?_ 2 _ rfl; (with_reducible repeat (first | refine blk_drewN ?_ _ | refine blk_drew ?_ | refine blk_alloc ?_ _)); refine blk_put (cs := #[.int .i64 ((rd_T25 l1 0).f0), .int .i64 0, .string (⟨#[]⟩ : ByteArray)]) ?_ 1 _ rfl; (with_reducible repeat (first | refine blk_drewN ?_ _ | refine blk_drew ?_ | refine blk_alloc ?_ _)); refine blk_put (cs := #[.int .i64 0, .int .i64 0, .string (⟨#[]⟩ : ByteArray)]) ?_ 0 _ rfl; (with_reducible repeat (first | refine blk_drewN ?_ _ | refine blk_drew ?_ | refine blk_alloc ?_ _)); exact BK105.out⟩
                have n2_ : Aside0 (Below w.heap.size w (((w47.setCell ⟨gb105, 0, none⟩ (.int .i64 ((rd_T25 l1 0).f0))).setCell ⟨gb105, 1, none⟩ (.int .i64 ((rd_T25 l1 0).f1))).setCell ⟨gb105, 2, none⟩ (.string ((rd_T25 l1 0).f2)))) := ⟨by repeat (first | (with_reducible first | exact HB.out | apply below_alloc | apply pw_below_drewN | apply below_drew1 | refine below_set ?_ GE103.out | refine below_set ?_ GE105.out) | exact HB.out)⟩
                (try clear BK103)
                (try clear BK105)
                (try clear HB)
                generalize (((w47.setCell ⟨gb105, 0, none⟩ (.int .i64 ((rd_T25 l1 0).f0))).setCell ⟨gb105, 1, none⟩ (.int .i64 ((rd_T25 l1 0).f1))).setCell ⟨gb105, 2, none⟩ (.string ((rd_T25 l1 0).f2))) = w50 at n0_ n1_ n2_ ⊢
                have BK103 := n0_
                have BK105 := n1_
                have HB := n2_
                clear n0_ n1_ n2_
                have n0_ := Aside0.mk (blk_drew BK103.out)
                have n1_ := Aside0.mk (blk_drew BK105.out)
                have n2_ := Aside0.mk (below_drew1 HB.out)
                clear BK103
                clear BK105
                clear HB
                have BK103 := n0_
                have BK105 := n1_
                have HB := n2_
                clear n0_ n1_ n2_
                have p120 : 0 ≤ (1 : Int) := (by omega)
                have q120 : 1 < (l1.length : Int) := of_decide_eq_true (by first | (with_reducible assumption) | assumption)
                obtain ⟨ad120, e120, hx120_0, hx120_1, hx120_2⟩ := at_T25 HR1.out 1 p120 q120
                have hw120_2 := hx120_2
                (try rw [show ((1 : Int)).toNat = 1 from rfl] at hw120_2)
                (try rw [show 1 * 3 = 3 from rfl] at hw120_2)
                (try simp only [Nat.reduceMul, Nat.reduceEqDiff, Go.Addr.add, ↓reduceIte] at hw120_2)
                have hw120_1 := hx120_1
                (try rw [show ((1 : Int)).toNat = 1 from rfl] at hw120_1)
                (try rw [show 1 * 3 = 3 from rfl] at hw120_1)
                (try simp only [Nat.reduceMul, Nat.reduceEqDiff, Go.Addr.add, ↓reduceIte] at hw120_1)
                have hw120_0 := hx120_0
                (try rw [show ((1 : Int)).toNat = 1 from rfl] at hw120_0)
                (try rw [show 1 * 3 = 3 from rfl] at hw120_0)
                (try simp only [Nat.reduceMul, Nat.reduceEqDiff, Go.Addr.add, ↓reduceIte] at hw120_0)
                obtain rfl : ad104 = ad120 := (by injection e120)
                (try simp only [show (1 : Int).toNat = 1 from rfl, Nat.reduceMul, Nat.reduceEqDiff, Go.Addr.add, ↓reduceIte] at hx120_0)
                (try simp only [show (1 : Int).toNat = 1 from rfl, Nat.reduceMul, Nat.reduceEqDiff, Go.Addr.add, ↓reduceIte] at hx120_1)
                (try simp only [show (1 : Int).toNat = 1 from rfl, Nat.reduceMul, Nat.reduceEqDiff, Go.Addr.add, ↓reduceIte] at hx120_2)
                have qi120 : (1 < l1.length) = True := eq_true (by omega)
                (try rw [show ((1 : Int)).toNat = 1 from rfl] at hx120_0)
                (try rw [show 1 * 3 = 3 from rfl] at hx120_0)
                (try rw [show ((1 : Int)).toNat = 1 from rfl] at hx120_1)
                (try rw [show 1 * 3 = 3 from rfl] at hx120_1)
                (try rw [show ((1 : Int)).toNat = 1 from rfl] at hx120_2)
                (try rw [show 1 * 3 = 3 from rfl] at hx120_2)
                replace hx120_0 := (HB.out.cell (World.block_lt_of_cell? w _ hx120_0)).trans hx120_0
                replace hx120_1 := (HB.out.cell (World.block_lt_of_cell? w _ hx120_1)).trans hx120_1
                replace hx120_2 := (HB.out.cell (World.block_lt_of_cell? w _ hx120_2)).trans hx120_2
                replace p120 := eq_true p120
                replace q120 := eq_true q120
                have p121 : 0 ≤ (2 : Int) := (by omega)
                have q121 : 2 < (l1.length : Int) := of_decide_eq_true (by first | (with_reducible assumption) | assumption)
                obtain ⟨ad121, e121, hx121_0, hx121_1, hx121_2⟩ := at_T25 HR1.out 2 p121 q121
                have hw121_2 := hx121_2
                (try rw [show ((2 : Int)).toNat = 2 from rfl] at hw121_2)
                (try rw [show 2 * 3 = 6 from rfl] at hw121_2)
                (try simp only [Nat.reduceMul, Nat.reduceEqDiff, Go.Addr.add, ↓reduceIte] at hw121_2)
                have hw121_1 := hx121_1
                (try rw [show ((2 : Int)).toNat = 2 from rfl] at hw121_1)
                (try rw [show 2 * 3 = 6 from rfl] at hw121_1)
                (try simp only [Nat.reduceMul, Nat.reduceEqDiff, Go.Addr.add, ↓reduceIte] at hw121_1)
                have hw121_0 := hx121_0
                (try rw [show ((2 : Int)).toNat = 2 from rfl] at hw121_0)
                (try rw [show 2 * 3 = 6 from rfl] at hw121_0)
                (try simp only [Nat.reduceMul, Nat.reduceEqDiff, Go.Addr.add, ↓reduceIte] at hw121_0)
                obtain rfl : ad104 = ad121 := (by injection e121)
                (try simp only [show (2 : Int).toNat = 2 from rfl, Nat.reduceMul, Nat.reduceEqDiff, Go.Addr.add, ↓reduceIte] at hx121_0)
                (try simp only [show (2 : Int).toNat = 2 from rfl, Nat.reduceMul, Nat.reduceEqDiff, Go.Addr.add, ↓reduceIte] at hx121_1)
                (try simp only [show (2 : Int).toNat = 2 from rfl, Nat.reduceMul, Nat.reduceEqDiff, Go.Addr.add, ↓reduceIte] at hx121_2)
                have qi121 : (2 < l1.length) = True := eq_true (by omega)
                (try rw [show ((2 : Int)).toNat = 2 from rfl] at hx121_0)
                (try rw [show 2 * 3 = 6 from rfl] at hx121_0)
                (try rw [show ((2 : Int)).toNat = 2 from rfl] at hx121_1)
                (try rw [show 2 * 3 = 6 from rfl] at hx121_1)
                (try rw [show ((2 : Int)).toNat = 2 from rfl] at hx121_2)
                (try rw [show 2 * 3 = 6 from rfl] at hx121_2)
                replace hx121_0 := (HB.out.cell (World.block_lt_of_cell? w _ hx121_0)).trans hx121_0
                replace hx121_1 := (HB.out.cell (World.block_lt_of_cell? w _ hx121_1)).trans hx121_1
                replace hx121_2 := (HB.out.cell (World.block_lt_of_cell? w _ hx121_2)).trans hx121_2
                replace p121 := eq_true p121
                replace q121 := eq_true q121
                refine start_ (n := 13) (S := fun w' => w'.cell? ⟨gb105, 0, none⟩ = some (.int .i64 ((rd_T25 l1 0).f0)) ∧ w'.cell? ⟨gb105, 1, none⟩ = some (.int .i64 ((rd_T25 l1 0).f1)) ∧ w'.cell? ⟨gb105, 2, none⟩ = some (.string ((rd_T25 l1 0).f2)) ∧ w'.cell? ⟨ad104.block, ad104.off + 3, none⟩ = some (.int .i64 ((rd_T25 l1 1).f0)) ∧ w'.cell? ⟨ad104.block, ad104.off + 3 + 1, none⟩ = some (.int .i64 ((rd_T25 l1 1).f1)) ∧ w'.cell? ⟨ad104.block, ad104.off + 3 + 2, none⟩ = some (.string ((rd_T25 l1 1).f2)) ∧ w'.cell? ⟨ad104.block, ad104.off + 6, none⟩ = some (.int .i64 ((rd_T25 l1 2).f0)) ∧ w'.cell? ⟨ad104.block, ad104.off + 6 + 1, none⟩ = some (.int .i64 ((rd_T25 l1 2).f1)) ∧ w'.cell? ⟨ad104.block, ad104.off + 6 + 2, none⟩ = some (.string ((rd_T25 l1 2).f2))) (ds := []) #[false, false, false, false, false, false, false, false, false, false, false, false, false] (by kernel_rfl) rfl rfl ⟨(blk_cell BK105.out 0).trans rfl, (blk_cell BK105.out 1).trans rfl, (blk_cell BK105.out 2).trans rfl, ((HB.out.cell (World.block_lt_of_cell? w _ hw120_0)).trans hw120_0), ((HB.out.cell (World.block_lt_of_cell? w _ hw120_1)).trans hw120_1), ((HB.out.cell (World.block_lt_of_cell? w _ hw120_2)).trans hw120_2), ((HB.out.cell (World.block_lt_of_cell? w _ hw121_0)).trans hw121_0), ((HB.out.cell (World.block_lt_of_cell? w _ hw121_1)).trans hw121_1), ((HB.out.cell (World.block_lt_of_cell? w _ hw121_2)).trans hw121_2)⟩ (fun hHeld => ?_); refine with_tabW calc_called.tab12 calc_called.bits12 (fun HT_ HW_ => ?_)
                generalize w50.drew = w51 at BK103 BK105 HB hx120_0 hx120_1 hx120_2 hx121_0 hx121_1 hx121_2 hHeld ⊢
                refine pure_ (i := 0) (N := some 41) (v := ?_) (a' := ?_) #[true, false, false, false, false, false, false, false, false, false, false, false, false] rfl rfl (any_of HT_.out (by kernel_rfl)) (fun _ _ _ h => h) (Or.inl ⟨by rfl, ?_⟩) ?_ ?_
                rotate_left
                · intro w'
                  go_simp
                  with_reducible rfl
                rotate_left
                · simp only [Act.put, List.setIfInBounds_toArray, List.set_cons_zero, List.set_cons_succ, i64_w, i32_w]
                  rfl
                refine pure_ (i := 2) (N := some 43) (v := ?_) (a' := ?_) #[true, false, true, false, false, false, false, false, false, false, false, false, false] rfl rfl (any_of HT_.out (by kernel_rfl)) (fun _ _ _ h => h) (Or.inl ⟨by rfl, ?_⟩) ?_ ?_
                rotate_left
                · intro w'
                  go_simp
                  with_reducible rfl
                rotate_left
                · simp only [Act.put, List.setIfInBounds_toArray, List.set_cons_zero, List.set_cons_succ, i64_w, i32_w]
                  rfl
                refine pure_ (i := 3) (N := some 44) (v := ?_) (a' := ?_) #[true, false, true, true, false, false, false, false, false, false, false, false, false] rfl rfl (any_of HT_.out (by kernel_rfl)) (fun _ _ _ h => h) (Or.inl ⟨by rfl, ?_⟩) ?_ ?_
                rotate_left
                · intro w'
                  go_simp
                  with_reducible rfl
                rotate_left
                · simp only [Act.put, List.setIfInBounds_toArray, List.set_cons_zero, List.set_cons_succ, i64_w, i32_w]
                  rfl
                refine pure_ (i := 4) (N := some 45) (v := ?_) (a' := ?_) #[true, false, true, true, true, false, false, false, false, false, false, false, false] rfl rfl (any_of HT_.out (by kernel_rfl)) (fun _ _ _ h => h) (Or.inl ⟨by rfl, ?_⟩) ?_ ?_
                rotate_left
                · intro w'
                  go_simp
                  with_reducible rfl
                rotate_left
                · simp only [Act.put, List.setIfInBounds_toArray, List.set_cons_zero, List.set_cons_succ, i64_w, i32_w]
                  rfl
                refine pure_ (i := 6) (N := some 47) (v := ?_) (a' := ?_) #[true, false, true, true, true, false, true, false, false, false, false, false, false] rfl rfl (any_of HT_.out (by kernel_rfl)) (fun _ _ _ h => h) (Or.inl ⟨by rfl, ?_⟩) ?_ ?_
                rotate_left
                · intro w'
                  go_simp
                  with_reducible rfl
                rotate_left
                · simp only [Act.put, List.setIfInBounds_toArray, List.set_cons_zero, List.set_cons_succ, i64_w, i32_w]
                  rfl
                refine pure_ (i := 7) (N := some 48) (v := ?_) (a' := ?_) #[true, false, true, true, true, false, true, true, false, false, false, false, false] rfl rfl (any_of HT_.out (by kernel_rfl)) (fun _ _ _ h => h) (Or.inl ⟨by rfl, ?_⟩) ?_ ?_
                rotate_left
                · intro w'
                  go_simp
                  with_reducible rfl
                rotate_left
                · simp only [Act.put, List.setIfInBounds_toArray, List.set_cons_zero, List.set_cons_succ, i64_w, i32_w]
                  rfl
                refine pure_ (i := 8) (N := some 49) (v := ?_) (a' := ?_) #[true, false, true, true, true, false, true, true, true, false, false, false, false] rfl rfl (any_of HT_.out (by kernel_rfl)) (fun _ _ _ h => h) (Or.inl ⟨by rfl, ?_⟩) ?_ ?_
                rotate_left
                · intro w'
                  go_simp
                  with_reducible rfl
                rotate_left
                · simp only [Act.put, List.setIfInBounds_toArray, List.set_cons_zero, List.set_cons_succ, i64_w, i32_w]
                  rfl
                refine take_ (i := 1) (N := some 42) (v := ?_) (a' := ?_) #[true, true, true, true, true, false, true, true, true, false, false, false, false] rfl rfl (take_ofW HT_.out HW_.out (by kernel_rfl)) (fun _ _ _ h => h) (Or.inl ⟨by rfl, ?_⟩) hHeld ?_ ?_
                rotate_left
                · rintro w' ⟨s0, s1, s2, s3, s4, s5, s6, s7, s8⟩
                  go_simp
                  with_reducible rfl
                rotate_left
                · simp only [Act.put, List.setIfInBounds_toArray, List.set_cons_zero, List.set_cons_succ, i64_w, i32_w]
                  rfl
                refine take_ (i := 5) (N := some 46) (v := ?_) (a' := ?_) #[true, true, true, true, true, true, true, true, true, false, false, false, false] rfl rfl (take_ofW HT_.out HW_.out (by kernel_rfl)) (fun _ _ _ h => h) (Or.inl ⟨by rfl, ?_⟩) hHeld ?_ ?_
                rotate_left
                · rintro w' ⟨s0, s1, s2, s3, s4, s5, s6, s7, s8⟩
                  go_simp
                  with_reducible rfl
                rotate_left
                · simp only [Act.put, List.setIfInBounds_toArray, List.set_cons_zero, List.set_cons_succ, i64_w, i32_w]
                  rfl
                refine take_ (i := 9) (N := some 50) (v := ?_) (a' := ?_) #[true, true, true, true, true, true, true, true, true, true, false, false, false] rfl rfl (take_ofW HT_.out HW_.out (by kernel_rfl)) (fun _ _ _ h => h) (Or.inl ⟨by rfl, ?_⟩) hHeld ?_ ?_
                rotate_left
                · rintro w' ⟨s0, s1, s2, s3, s4, s5, s6, s7, s8⟩
                  go_simp
                  with_reducible rfl
                rotate_left
                · simp only [Act.put, List.setIfInBounds_toArray, List.set_cons_zero, List.set_cons_succ, i64_w, i32_w]
                  rfl
                refine one_ (i := 10) (N := some 51) #[true, true, true, true, true, true, true, true, true, true, true, false, false] rfl rfl (one_of HT_.out (by kernel_rfl)) (by decide) (fun K hK => ?_)
                refine goes_ Try.func56 (by kernel_rfl) rfl #[.string ((rd_T25 l1 0).f2), .int .i64 ((rd_T25 l1 1).f1), .int .i64 ((rd_T25 l1 2).f1)] (by rfl) rfl rfl (by (try simp only [List.map_toArray, List.map_cons, List.map_nil]); first | done | rfl | (simp only [List.length_drop, List.length_take]; rfl)) ?_
                with_reducible refine (calc_cut.print ((rd_T25 l1 0).f2) ((rd_T25 l1 1).f1) ((rd_T25 l1 2).f1) t122 _ A44.out).mono ?_
                rintro e w' ⟨rfl, ⟨nd, rfl⟩⟩
                refine ⟨_, rfl, ?_⟩
                refine hK.out _ _ ⟨(blk_cell BK105.out 0).trans rfl, (blk_cell BK105.out 1).trans rfl, (blk_cell BK105.out 2).trans rfl, ((HB.out.cell (World.block_lt_of_cell? w _ hw120_0)).trans hw120_0), ((HB.out.cell (World.block_lt_of_cell? w _ hw120_1)).trans hw120_1), ((HB.out.cell (World.block_lt_of_cell? w _ hw120_2)).trans hw120_2), ((HB.out.cell (World.block_lt_of_cell? w _ hw121_0)).trans hw121_0), ((HB.out.cell (World.block_lt_of_cell? w _ hw121_1)).trans hw121_1), ((HB.out.cell (World.block_lt_of_cell? w _ hw121_2)).trans hw121_2)⟩ (fun hHeld => ?_)
                clear hK K
                refine norm_ (a' := ?_) ?_ ?_
                rotate_left
                · show Act.put _ (some 51) _ = _
                  simp only [Act.put, List.setIfInBounds_toArray, List.set_cons_zero, List.set_cons_succ, i64_w, i32_w]
                  rfl
                refine one_ (i := 11) (N := some 52) #[true, true, true, true, true, true, true, true, true, true, true, true, false] rfl rfl (one_of HT_.out (by kernel_rfl)) (by decide) (fun K hK => ?_)
                refine goes_ Try.func44 (by kernel_rfl) rfl #[.string t122] (by rfl) rfl rfl (by (try simp only [List.map_toArray, List.map_cons, List.map_nil]); first | done | rfl | (simp only [List.length_drop, List.length_take]; rfl)) ?_
                with_reducible refine (calc_text.calls t122 t123 t124 t125 _ A45.out).mono ?_
                rintro e w52 ⟨rfl, hb⟩
                refine ⟨_, rfl, ?_⟩
                have n0_ := Aside0.mk (blk_below (g := gb103) (o := .cells #[.int .i64 0, .int .i64 0, .string (⟨#[]⟩ : ByteArray)] 25 (0, 0)) (by (with_reducible repeat (first | refine blk_drewN ?_ _ | refine blk_drew ?_ | refine blk_alloc ?_ _)); exact BK103.out) hb)
                have n1_ := Aside0.mk (blk_below (g := gb105) (o := .cells #[.int .i64 ((rd_T25 l1 0).f0), .int .i64 ((rd_T25 l1 0).f1), .string ((rd_T25 l1 0).f2)] 25 (0, 0)) (by (with_reducible repeat (first | refine blk_drewN ?_ _ | refine blk_drew ?_ | refine blk_alloc ?_ _)); exact BK105.out) hb)
                have n2_ := Aside0.mk (below_step (by repeat (first | (with_reducible first | exact HB.out | apply below_alloc | apply pw_below_drewN | apply below_drew1 | refine below_set ?_ GE103.out | refine below_set ?_ GE105.out) | exact HB.out)) hb)
                clear BK103
                clear BK105
                clear HB
                have BK103 := n0_
                have BK105 := n1_
                have HB := n2_
                clear n0_ n1_ n2_
                (try clear hb)
                (try clear hb2)
                (try clear hk)
                (try clear hi)
                refine hK.out _ _ ⟨(blk_cell BK105.out 0).trans rfl, (blk_cell BK105.out 1).trans rfl, (blk_cell BK105.out 2).trans rfl, ((HB.out.cell (World.block_lt_of_cell? w _ hw120_0)).trans hw120_0), ((HB.out.cell (World.block_lt_of_cell? w _ hw120_1)).trans hw120_1), ((HB.out.cell (World.block_lt_of_cell? w _ hw120_2)).trans hw120_2), ((HB.out.cell (World.block_lt_of_cell? w _ hw121_0)).trans hw121_0), ((HB.out.cell (World.block_lt_of_cell? w _ hw121_1)).trans hw121_1), ((HB.out.cell (World.block_lt_of_cell? w _ hw121_2)).trans hw121_2)⟩ (fun hHeld => ?_)
                clear hK K
                refine norm_ (a' := ?_) ?_ ?_
                rotate_left
                · show Act.put _ (some 52) _ = _
                  simp only [Act.put, List.setIfInBounds_toArray, List.set_cons_zero, List.set_cons_succ, i64_w, i32_w]
                  rfl
                refine one_ (i := 12) (N := none) #[true, true, true, true, true, true, true, true, true, true, true, true, true] rfl rfl (one_of HT_.out (by kernel_rfl)) (by decide) (fun K hK => ?_)
                have hs53 : w52.cell? ⟨gb103, 0, none⟩ = some (.int .i64 0) := (blk_cell BK103.out 0).trans rfl
                have hfs53 := blk_frozen BK103.out 0
                have hns53_1 := NB105_103.out
                have hms53_1 := NB103_105.out
                have hs54 : w52.cell? ⟨gb103, 1, none⟩ = some (.int .i64 0) := (blk_cell BK103.out 1).trans rfl
                have hfs54 := blk_frozen BK103.out 1
                have hns54_1 := NB105_103.out
                have hms54_1 := NB103_105.out
                have hs55 : w52.cell? ⟨gb103, 2, none⟩ = some (.string (⟨#[]⟩ : ByteArray)) := (blk_cell BK103.out 2).trans rfl
                have hfs55 := blk_frozen BK103.out 2
                have hns55_1 := NB105_103.out
                have hms55_1 := NB103_105.out
                refine skip_ (w1 := ?_) (by rfl) rfl ?_ ?_
                rotate_left
                · go_simp
                  rfl
                refine hK.out _ _ ⟨((cell_far (p := ⟨gb103, _, none⟩) NB105_103.out _).trans (((cell_far (p := ⟨gb103, _, none⟩) NB105_103.out _).trans (((cell_far (p := ⟨gb103, _, none⟩) NB105_103.out _).trans (hHeld.1)))))), ((cell_far (p := ⟨gb103, _, none⟩) NB105_103.out _).trans (((cell_far (p := ⟨gb103, _, none⟩) NB105_103.out _).trans (((cell_far (p := ⟨gb103, _, none⟩) NB105_103.out _).trans (hHeld.2.1)))))), ((cell_far (p := ⟨gb103, _, none⟩) NB105_103.out _).trans (((cell_far (p := ⟨gb103, _, none⟩) NB105_103.out _).trans (((cell_far (p := ⟨gb103, _, none⟩) NB105_103.out _).trans (hHeld.2.2.1)))))), ((cell_far (p := ⟨gb103, _, none⟩) (by first | exact Nat.ne_of_lt (Nat.lt_of_lt_of_le (by have := World.block_lt_of_cell? _ _ hw120_0; first | rwa [add_block] at this | exact this) GW103.out) | (rw [add_block]; exact Nat.ne_of_lt (Nat.lt_of_lt_of_le (by have := World.block_lt_of_cell? _ _ hw120_0; first | rwa [add_block] at this | exact this) GW103.out)) | (show (Addr.add _ _).block ≠ _; rw [add_block]; exact Nat.ne_of_lt (Nat.lt_of_lt_of_le (by have := World.block_lt_of_cell? _ _ hw120_0; first | rwa [add_block] at this | exact this) GW103.out)) | (dsimp only; exact Nat.ne_of_lt (Nat.lt_of_lt_of_le (by have := World.block_lt_of_cell? _ _ hw120_0; first | rwa [add_block] at this | exact this) GW103.out))) _).trans (((cell_far (p := ⟨gb103, _, none⟩) (by first | exact Nat.ne_of_lt (Nat.lt_of_lt_of_le (by have := World.block_lt_of_cell? _ _ hw120_0; first | rwa [add_block] at this | exact this) GW103.out) | (rw [add_block]; exact Nat.ne_of_lt (Nat.lt_of_lt_of_le (by have := World.block_lt_of_cell? _ _ hw120_0; first | rwa [add_block] at this | exact this) GW103.out)) | (show (Addr.add _ _).block ≠ _; rw [add_block]; exact Nat.ne_of_lt (Nat.lt_of_lt_of_le (by have := World.block_lt_of_cell? _ _ hw120_0; first | rwa [add_block] at this | exact this) GW103.out)) | (dsimp only; exact Nat.ne_of_lt (Nat.lt_of_lt_of_le (by have := World.block_lt_of_cell? _ _ hw120_0; first | rwa [add_block] at this | exact this) GW103.out))) _).trans (((cell_far (p := ⟨gb103, _, none⟩) (by first | exact Nat.ne_of_lt (Nat.lt_of_lt_of_le (by have := World.block_lt_of_cell? _ _ hw120_0; first | rwa [add_block] at this | exact this) GW103.out) | (rw [add_block]; exact Nat.ne_of_lt (Nat.lt_of_lt_of_le (by have := World.block_lt_of_cell? _ _ hw120_0; first | rwa [add_block] at this | exact this) GW103.out)) | (show (Addr.add _ _).block ≠ _; rw [add_block]; exact Nat.ne_of_lt (Nat.lt_of_lt_of_le (by have := World.block_lt_of_cell? _ _ hw120_0; first | rwa [add_block] at this | exact this) GW103.out)) | (dsimp only; exact Nat.ne_of_lt (Nat.lt_of_lt_of_le (by have := World.block_lt_of_cell? _ _ hw120_0; first | rwa [add_block] at this | exact this) GW103.out))) _).trans (hHeld.2.2.2.1)))))), ((cell_far (p := ⟨gb103, _, none⟩) (by first | exact Nat.ne_of_lt (Nat.lt_of_lt_of_le (by have := World.block_lt_of_cell? _ _ hw120_1; first | rwa [add_block] at this | exact this) GW103.out) | (rw [add_block]; exact Nat.ne_of_lt (Nat.lt_of_lt_of_le (by have := World.block_lt_of_cell? _ _ hw120_1; first | rwa [add_block] at this | exact this) GW103.out)) | (show (Addr.add _ _).block ≠ _; rw [add_block]; exact Nat.ne_of_lt (Nat.lt_of_lt_of_le (by have := World.block_lt_of_cell? _ _ hw120_1; first | rwa [add_block] at this | exact this) GW103.out)) | (dsimp only; exact Nat.ne_of_lt (Nat.lt_of_lt_of_le (by have := World.block_lt_of_cell? _ _ hw120_1; first | rwa [add_block] at this | exact this) GW103.out))) _).trans (((cell_far (p := ⟨gb103, _, none⟩) (by first | exact Nat.ne_of_lt (Nat.lt_of_lt_of_le (by have := World.block_lt_of_cell? _ _ hw120_1; first | rwa [add_block] at this | exact this) GW103.out) | (rw [add_block]; exact Nat.ne_of_lt (Nat.lt_of_lt_of_le (by have := World.block_lt_of_cell? _ _ hw120_1; first | rwa [add_block] at this | exact this) GW103.out)) | (show (Addr.add _ _).block ≠ _; rw [add_block]; exact Nat.ne_of_lt (Nat.lt_of_lt_of_le (by have := World.block_lt_of_cell? _ _ hw120_1; first | rwa [add_block] at this | exact this) GW103.out)) | (dsimp only; exact Nat.ne_of_lt (Nat.lt_of_lt_of_le (by have := World.block_lt_of_cell? _ _ hw120_1; first | rwa [add_block] at this | exact this) GW103.out))) _).trans (((cell_far (p := ⟨gb103, _, none⟩) (by first | exact Nat.ne_of_lt (Nat.lt_of_lt_of_le (by have := World.block_lt_of_cell? _ _ hw120_1; first | rwa [add_block] at this | exact this) GW103.out) | (rw [add_block]; exact Nat.ne_of_lt (Nat.lt_of_lt_of_le (by have := World.block_lt_of_cell? _ _ hw120_1; first | rwa [add_block] at this | exact this) GW103.out)) | (show (Addr.add _ _).block ≠ _; rw [add_block]; exact Nat.ne_of_lt (Nat.lt_of_lt_of_le (by have := World.block_lt_of_cell? _ _ hw120_1; first | rwa [add_block] at this | exact this) GW103.out)) | (dsimp only; exact Nat.ne_of_lt (Nat.lt_of_lt_of_le (by have := World.block_lt_of_cell? _ _ hw120_1; first | rwa [add_block] at this | exact this) GW103.out))) _).trans (hHeld.2.2.2.2.1)))))), ((cell_far (p := ⟨gb103, _, none⟩) (by first | exact Nat.ne_of_lt (Nat.lt_of_lt_of_le (by have := World.block_lt_of_cell? _ _ hw120_2; first | rwa [add_block] at this | exact this) GW103.out) | (rw [add_block]; exact Nat.ne_of_lt (Nat.lt_of_lt_of_le (by have := World.block_lt_of_cell? _ _ hw120_2; first | rwa [add_block] at this | exact this) GW103.out)) | (show (Addr.add _ _).block ≠ _; rw [add_block]; exact Nat.ne_of_lt (Nat.lt_of_lt_of_le (by have := World.block_lt_of_cell? _ _ hw120_2; first | rwa [add_block] at this | exact this) GW103.out)) | (dsimp only; exact Nat.ne_of_lt (Nat.lt_of_lt_of_le (by have := World.block_lt_of_cell? _ _ hw120_2; first | rwa [add_block] at this | exact this) GW103.out))) _).trans (((cell_far (p := ⟨gb103, _, none⟩) (by first | exact Nat.ne_of_lt (Nat.lt_of_lt_of_le (by have := World.block_lt_of_cell? _ _ hw120_2; first | rwa [add_block] at this | exact this) GW103.out) | (rw [add_block]; exact Nat.ne_of_lt (Nat.lt_of_lt_of_le (by have := World.block_lt_of_cell? _ _ hw120_2; first | rwa [add_block] at this | exact this) GW103.out)) | (show (Addr.add _ _).block ≠ _; rw [add_block]; exact Nat.ne_of_lt (Nat.lt_of_lt_of_le (by have := World.block_lt_of_cell? _ _ hw120_2; first | rwa [add_block] at this | exact this) GW103.out)) | (dsimp only; exact Nat.ne_of_lt (Nat.lt_of_lt_of_le (by have := World.block_lt_of_cell? _ _ hw120_2; first | rwa [add_block] at this | exact this) GW103.out))) _).trans (((cell_far (p := ⟨gb103, _, none⟩) (by first | exact Nat.ne_of_lt (Nat.lt_of_lt_of_le (by have := World.block_lt_of_cell? _ _ hw120_2; first | rwa [add_block] at this | exact this) GW103.out) | (rw [add_block]; exact Nat.ne_of_lt (Nat.lt_of_lt_of_le (by have := World.block_lt_of_cell? _ _ hw120_2; first | rwa [add_block] at this | exact this) GW103.out)) | (show (Addr.add _ _).block ≠ _; rw [add_block]; exact Nat.ne_of_lt (Nat.lt_of_lt_of_le (by have := World.block_lt_of_cell? _ _ hw120_2; first | rwa [add_block] at this | exact this) GW103.out)) | (dsimp only; exact Nat.ne_of_lt (Nat.lt_of_lt_of_le (by have := World.block_lt_of_cell? _ _ hw120_2; first | rwa [add_block] at this | exact this) GW103.out))) _).trans (hHeld.2.2.2.2.2.1)))))), ((cell_far (p := ⟨gb103, _, none⟩) (by first | exact Nat.ne_of_lt (Nat.lt_of_lt_of_le (by have := World.block_lt_of_cell? _ _ hw121_0; first | rwa [add_block] at this | exact this) GW103.out) | (rw [add_block]; exact Nat.ne_of_lt (Nat.lt_of_lt_of_le (by have := World.block_lt_of_cell? _ _ hw121_0; first | rwa [add_block] at this | exact this) GW103.out)) | (show (Addr.add _ _).block ≠ _; rw [add_block]; exact Nat.ne_of_lt (Nat.lt_of_lt_of_le (by have := World.block_lt_of_cell? _ _ hw121_0; first | rwa [add_block] at this | exact this) GW103.out)) | (dsimp only; exact Nat.ne_of_lt (Nat.lt_of_lt_of_le (by have := World.block_lt_of_cell? _ _ hw121_0; first | rwa [add_block] at this | exact this) GW103.out))) _).trans (((cell_far (p := ⟨gb103, _, none⟩) (by first | exact Nat.ne_of_lt (Nat.lt_of_lt_of_le (by have := World.block_lt_of_cell? _ _ hw121_0; first | rwa [add_block] at this | exact this) GW103.out) | (rw [add_block]; exact Nat.ne_of_lt (Nat.lt_of_lt_of_le (by have := World.block_lt_of_cell? _ _ hw121_0; first | rwa [add_block] at this | exact this) GW103.out)) | (show (Addr.add _ _).block ≠ _; rw [add_block]; exact Nat.ne_of_lt (Nat.lt_of_lt_of_le (by have := World.block_lt_of_cell? _ _ hw121_0; first | rwa [add_block] at this | exact this) GW103.out)) | (dsimp only; exact Nat.ne_of_lt (Nat.lt_of_lt_of_le (by have := World.block_lt_of_cell? _ _ hw121_0; first | rwa [add_block] at this | exact this) GW103.out))) _).trans (((cell_far (p := ⟨gb103, _, none⟩) (by first | exact Nat.ne_of_lt (Nat.lt_of_lt_of_le (by have := World.block_lt_of_cell? _ _ hw121_0; first | rwa [add_block] at this | exact this) GW103.out) | (rw [add_block]; exact Nat.ne_of_lt (Nat.lt_of_lt_of_le (by have := World.block_lt_of_cell? _ _ hw121_0; first | rwa [add_block] at this | exact this) GW103.out)) | (show (Addr.add _ _).block ≠ _; rw [add_block]; exact Nat.ne_of_lt (Nat.lt_of_lt_of_le (by have := World.block_lt_of_cell? _ _ hw121_0; first | rwa [add_block] at this | exact this) GW103.out)) | (dsimp only; exact Nat.ne_of_lt (Nat.lt_of_lt_of_le (by have := World.block_lt_of_cell? _ _ hw121_0; first | rwa [add_block] at this | exact this) GW103.out))) _).trans (hHeld.2.2.2.2.2.2.1)))))), ((cell_far (p := ⟨gb103, _, none⟩) (by first | exact Nat.ne_of_lt (Nat.lt_of_lt_of_le (by have := World.block_lt_of_cell? _ _ hw121_1; first | rwa [add_block] at this | exact this) GW103.out) | (rw [add_block]; exact Nat.ne_of_lt (Nat.lt_of_lt_of_le (by have := World.block_lt_of_cell? _ _ hw121_1; first | rwa [add_block] at this | exact this) GW103.out)) | (show (Addr.add _ _).block ≠ _; rw [add_block]; exact Nat.ne_of_lt (Nat.lt_of_lt_of_le (by have := World.block_lt_of_cell? _ _ hw121_1; first | rwa [add_block] at this | exact this) GW103.out)) | (dsimp only; exact Nat.ne_of_lt (Nat.lt_of_lt_of_le (by have := World.block_lt_of_cell? _ _ hw121_1; first | rwa [add_block] at this | exact this) GW103.out))) _).trans (((cell_far (p := ⟨gb103, _, none⟩) (by first | exact Nat.ne_of_lt (Nat.lt_of_lt_of_le (by have := World.block_lt_of_cell? _ _ hw121_1; first | rwa [add_block] at this | exact this) GW103.out) | (rw [add_block]; exact Nat.ne_of_lt (Nat.lt_of_lt_of_le (by have := World.block_lt_of_cell? _ _ hw121_1; first | rwa [add_block] at this | exact this) GW103.out)) | (show (Addr.add _ _).block ≠ _; rw [add_block]; exact Nat.ne_of_lt (Nat.lt_of_lt_of_le (by have := World.block_lt_of_cell? _ _ hw121_1; first | rwa [add_block] at this | exact this) GW103.out)) | (dsimp only; exact Nat.ne_of_lt (Nat.lt_of_lt_of_le (by have := World.block_lt_of_cell? _ _ hw121_1; first | rwa [add_block] at this | exact this) GW103.out))) _).trans (((cell_far (p := ⟨gb103, _, none⟩) (by first | exact Nat.ne_of_lt (Nat.lt_of_lt_of_le (by have := World.block_lt_of_cell? _ _ hw121_1; first | rwa [add_block] at this | exact this) GW103.out) | (rw [add_block]; exact Nat.ne_of_lt (Nat.lt_of_lt_of_le (by have := World.block_lt_of_cell? _ _ hw121_1; first | rwa [add_block] at this | exact this) GW103.out)) | (show (Addr.add _ _).block ≠ _; rw [add_block]; exact Nat.ne_of_lt (Nat.lt_of_lt_of_le (by have := World.block_lt_of_cell? _ _ hw121_1; first | rwa [add_block] at this | exact this) GW103.out)) | (dsimp only; exact Nat.ne_of_lt (Nat.lt_of_lt_of_le (by have := World.block_lt_of_cell? _ _ hw121_1; first | rwa [add_block] at this | exact this) GW103.out))) _).trans (hHeld.2.2.2.2.2.2.2.1)))))), ((cell_far (p := ⟨gb103, _, none⟩) (by first | exact Nat.ne_of_lt (Nat.lt_of_lt_of_le (by have := World.block_lt_of_cell? _ _ hw121_2; first | rwa [add_block] at this | exact this) GW103.out) | (rw [add_block]; exact Nat.ne_of_lt (Nat.lt_of_lt_of_le (by have := World.block_lt_of_cell? _ _ hw121_2; first | rwa [add_block] at this | exact this) GW103.out)) | (show (Addr.add _ _).block ≠ _; rw [add_block]; exact Nat.ne_of_lt (Nat.lt_of_lt_of_le (by have := World.block_lt_of_cell? _ _ hw121_2; first | rwa [add_block] at this | exact this) GW103.out)) | (dsimp only; exact Nat.ne_of_lt (Nat.lt_of_lt_of_le (by have := World.block_lt_of_cell? _ _ hw121_2; first | rwa [add_block] at this | exact this) GW103.out))) _).trans (((cell_far (p := ⟨gb103, _, none⟩) (by first | exact Nat.ne_of_lt (Nat.lt_of_lt_of_le (by have := World.block_lt_of_cell? _ _ hw121_2; first | rwa [add_block] at this | exact this) GW103.out) | (rw [add_block]; exact Nat.ne_of_lt (Nat.lt_of_lt_of_le (by have := World.block_lt_of_cell? _ _ hw121_2; first | rwa [add_block] at this | exact this) GW103.out)) | (show (Addr.add _ _).block ≠ _; rw [add_block]; exact Nat.ne_of_lt (Nat.lt_of_lt_of_le (by have := World.block_lt_of_cell? _ _ hw121_2; first | rwa [add_block] at this | exact this) GW103.out)) | (dsimp only; exact Nat.ne_of_lt (Nat.lt_of_lt_of_le (by have := World.block_lt_of_cell? _ _ hw121_2; first | rwa [add_block] at this | exact this) GW103.out))) _).trans (((cell_far (p := ⟨gb103, _, none⟩) (by first | exact Nat.ne_of_lt (Nat.lt_of_lt_of_le (by have := World.block_lt_of_cell? _ _ hw121_2; first | rwa [add_block] at this | exact this) GW103.out) | (rw [add_block]; exact Nat.ne_of_lt (Nat.lt_of_lt_of_le (by have := World.block_lt_of_cell? _ _ hw121_2; first | rwa [add_block] at this | exact this) GW103.out)) | (show (Addr.add _ _).block ≠ _; rw [add_block]; exact Nat.ne_of_lt (Nat.lt_of_lt_of_le (by have := World.block_lt_of_cell? _ _ hw121_2; first | rwa [add_block] at this | exact this) GW103.out)) | (dsimp only; exact Nat.ne_of_lt (Nat.lt_of_lt_of_le (by have := World.block_lt_of_cell? _ _ hw121_2; first | rwa [add_block] at this | exact this) GW103.out))) _).trans (hHeld.2.2.2.2.2.2.2.2))))))⟩ (fun hHeld => ?_)
                clear hK K
                refine done_ (done_of HT_.out (by kernel_rfl)) ?_
                try go_wp2
                refine bodyPost_ret (results_cell_row rfl _ _ gb103 25 #[.int .i64 t123, .int .i64 t124, .string t125] (0, 0) _ rfl (by (with_reducible repeat (first | refine blk_drewN ?_ _ | refine blk_drew ?_ | refine blk_alloc ?_ _)); refine blk_put (cs := #[.int .i64 t123, .int .i64 t124, .string (⟨#[]⟩ : ByteArray)]) ?_ 2 _ rfl; (with_reducible repeat (first | refine blk_drewN ?_ _ | refine blk_drew ?_ | refine blk_alloc ?_ _)); refine blk_put (cs := #[.int .i64 t123, .int .i64 0, .string (⟨#[]⟩ : ByteArray)]) ?_ 1 _ rfl; (with_reducible repeat (first | refine blk_drewN ?_ _ | refine blk_drew ?_ | refine blk_alloc ?_ _)); refine blk_put (cs := #[.int .i64 0, .int .i64 0, .string (⟨#[]⟩ : ByteArray)]) ?_ 0 _ rfl; (with_reducible repeat (first | refine blk_drewN ?_ _ | refine blk_drew ?_ | refine blk_alloc ?_ _)); exact BK103.out) Try.underlying25 rfl (by kernel_rfl)) rfl ?_
                exact ⟨by first | rfl | (simp [errW_none, errW_some] <;> rfl) | (simp [*, errW_none, errW_some] <;> rfl), by repeat (first | (with_reducible first | exact HB.out | apply below_alloc | apply pw_below_drewN | apply below_drew1 | refine below_set ?_ GE103.out | refine below_set ?_ GE105.out) | exact HB.out)⟩
              · rw [if_neg c43] at H
                exact absurd H (by simp)
            · rw [if_neg c42] at H
              exact absurd H (by simp)
  · rw [if_neg c3] at H
    exact absurd H (by simp)
end Go.Proofs.Ytfbeklbjlkgbnaa.P
end
section
namespace Go.Proofs.Ytfbeklbjlkgbnaa.P
open Go.RowKit Go.Proofs.YtfbeklbjlkgbnaaW.PrintWords Go.Proofs.YtfbeklbjlkgbnaaW.PrintLast Go.Proofs.YtfbeklbjlkgbnaaW.PrintMore
set_option linter.unusedVariables false
set_option linter.unusedSimpArgs false
set_option maxHeartbeats 2000000 in
set_option maxRecDepth 100000 in
theorem calc_called.over (f : Int) (A0 : Option Addr) (c0 : Nat) (l : List S25) (w : World) (hr : Kd.C k25 w A0 l.length l) (hl : 0 < l.length) (hf : f = 2) (hm : (rd_T25 l 0).f1 = -9223372036854775808) :
    Calls Try.prog 32 #[.int .i64 f, .slice A0 l.length c0] w fun e w' => e = PErr 40 ∧ Below w.heap.size w w' := by
  have hu25 := Try.underlying25
  obtain ⟨ad, rfl, h0, h1, h2⟩ := at_T25 hr 0 (by omega) (by omega)
  have HB := Aside0.mk (below_alloc (Below.refl w.heap.size w) (.cells #[.int .i64 0, .int .i64 0, .string (⟨#[]⟩ : ByteArray)] 25))
  replace h0 := (HB.out.cell (World.block_lt_of_cell? w _ h0)).trans h0
  replace h1 := (HB.out.cell (World.block_lt_of_cell? w _ h1)).trans h1
  replace h2 := (HB.out.cell (World.block_lt_of_cell? w _ h2)).trans h2
  have ha : ad.add (Int.toNat 0 * 3) = ad := rfl
  rw [ha] at h0 h1 h2
  rw [hm] at h1
  have b0 : decide (0 < (l.length : Int)) = true := decide_eq_true (by omega)
  have b1 : decide (0 < l.length) = true := decide_eq_true hl
  have p0 := eq_true (show 0 < (l.length : Int) by omega)
  have p1 := eq_true hl
  have p2 : l ≠ [] := by intro h; simp [h] at hl
  have q1 : (f == 1) = false := beq_eq_false_iff_ne.mpr (by omega)
  have q2 : (f == 2) = true := beq_iff_eq.mpr hf
  have HL := Aside0.mk hl
  clear hr hl hf hm
  go_enter Try.func32, Try.ntmps32
  go_wp2_with (first | (go_at_call 30; (with_reducible refine (calc_check.no _ _).mono ?_); rintro e w' ⟨rfl, rfl⟩))
  refine ⟨rfl, rfl, ?_⟩
  repeat (first | exact HB.out | refine Below.setCell ?_ (Nat.le_succ _) _ | apply below_alloc)
end Go.Proofs.Ytfbeklbjlkgbnaa.P
end
section
namespace Go.Proofs.Ytfbeklbjlkgbnaa.P
open Go.RowKit Go.Proofs.YtfbeklbjlkgbnaaW.PrintWords Go.Proofs.YtfbeklbjlkgbnaaW.PrintLast Go.Proofs.YtfbeklbjlkgbnaaW.PrintMore
attribute [local go_sem] max2_int min2_int max_two min_two max_three min_three max_four min_four
set_option linter.unusedVariables false
set_option linter.unusedSimpArgs false
theorem quo_in {a b : Int} (ha : In64 a) (hb : In64 b) (hz : ¬ b = 0) (h : ¬ (a = -9223372036854775808 ∧ b = -1)) : wrap64 (Int.tdiv a b) = Int.tdiv a b := by
  unfold In64 at ha hb
  have h1 : (Int.tdiv a b).natAbs = a.natAbs / b.natAbs := by rw [Int.natAbs_tdiv]; rfl
  have h2 : a.natAbs / b.natAbs ≤ a.natAbs := Nat.div_le_self _ _
  by_cases e : a = -9223372036854775808
  · by_cases e1 : b = 1
    · subst e1
      rw [Int.tdiv_one]
      unfold wrap64
      omega
    have h3 : 2 ≤ b.natAbs := by omega
    have h4 : a.natAbs / b.natAbs ≤ a.natAbs / 2 := Nat.div_le_div_left h3 (by decide)
    unfold wrap64
    omega
  · unfold wrap64
    omega
end Go.Proofs.Ytfbeklbjlkgbnaa.P
end
section
namespace Go.Proofs.Ytfbeklbjlkgbnaa.P
open Go.RowKit Go.Proofs.YtfbeklbjlkgbnaaW.PrintWords Go.Proofs.YtfbeklbjlkgbnaaW.PrintLast Go.Proofs.YtfbeklbjlkgbnaaW.PrintMore
attribute [local go_sem] max2_int min2_int max_two min_two max_three min_three max_four min_four
set_option linter.unusedVariables false
set_option linter.unusedSimpArgs false
set_option maxHeartbeats 2000000 in
set_option maxRecDepth 100000 in
theorem calc_caught.c (b0 b1 : Nat) (w : World) (res : Except Int S25) (H : ∀ W, Below w.heap.size w W → Calls Try.prog 29 #[.pointer (some ⟨b0, 0, none⟩), .pointer (some ⟨b1, 0, none⟩)] W (fun e w' => RE res e ∧ Below W.heap.size W w')) :
    Calls Try.prog 28 #[.func (.func 29) #[] #[.pointer (some ⟨b0, 0, none⟩), .pointer (some ⟨b1, 0, none⟩)]] w fun e w' => e = .returned (.tuple #[encV (outE res).1, .int .i64 (outE res).2]) ∧ Below w.heap.size w w' := by
  have hu25 := Try.underlying25
  have hmf : ∀ (fn : Fn) (first cap : Array Value) (w : World), (Instr.makeFunc fn first cap).run Try.prog w = .ok (.func fn first cap) w := fun _ _ _ _ => rfl
  have HH := Aside0.mk H
  clear H
  go_enter_defers Try.func28, Try.ntmps28
  go_wp2_with fail
  have hB0 : Below w.heap.size w ((w.alloc (.cells #[.int .i64 0, .int .i64 0, .string (⟨#[]⟩ : ByteArray)] 25)).alloc (.cells #[.int .i64 0] 26)) := below_alloc (below_alloc (Below.refl _ _) _) _
  have hF0 : ((w.alloc (.cells #[.int .i64 0, .int .i64 0, .string (⟨#[]⟩ : ByteArray)] 25)).alloc (.cells #[.int .i64 0] 26)).heap[w.heap.size]? = some (.cells #[.int .i64 0, .int .i64 0, .string (⟨#[]⟩ : ByteArray)] 25 (0, 0)) := blk_alloc (Deep.blk_alloc_new w _) _
  have hF1 : ((w.alloc (.cells #[.int .i64 0, .int .i64 0, .string (⟨#[]⟩ : ByteArray)] 25)).alloc (.cells #[.int .i64 0] 26)).heap[w.heap.size + 1]? = some (.cells #[.int .i64 0] 26 (0, 0)) := by
    have := Deep.blk_alloc_new (w.alloc (.cells #[.int .i64 0, .int .i64 0, .string (⟨#[]⟩ : ByteArray)] 25)) (.cells #[.int .i64 0] 26)
    simpa using this
  refine (HH.out _ hB0).mono ?_
  rintro e w1 ⟨he, hb⟩
  have F0 := (hb.block _ (blk_lt hF0)).trans hF0
  have F1 := (hb.block _ (blk_lt hF1)).trans hF1
  have FB : Below w.heap.size w w1 := below_step hB0 hb
  clear hB0 hF0 hF1 hb HH
  have hne : ¬ w.heap.size = w.heap.size + 1 := by omega
  have hne' : ¬ w.heap.size + 1 = w.heap.size := by omega
  cases res with
  | error c =>
    obtain rfl : e = .panicked [{ v := .iface 26 (.int .i64 c), recovered := false }] := he
    have G0 := Aside0.mk F0
    have G1 := Aside0.mk F1
    have GB := Aside0.mk FB
    clear F0 F1 FB
    go_wp2_with fail
    refine leaves_cons (f := 54) (args := #[.pointer (some ⟨w.heap.size, 0, none⟩), .pointer (some ⟨w.heap.size + 1, 0, none⟩)]) (by simp) (by simp [go_sem]) ?_
    refine (calc_caught.caught _ _ c _ _ _ _ _ hne G0.out G1.out).mono ?_
    rintro e u' w'' ⟨rfl, rfl, rfl⟩
    have hc0 : w1.cell? ⟨w.heap.size, 0, none⟩ = some (.int .i64 0) := (blk_cell G0.out 0).trans rfl
    have hc1 : w1.cell? ⟨w.heap.size, 1, none⟩ = some (.int .i64 0) := (blk_cell G0.out 1).trans rfl
    have hc2 : w1.cell? ⟨w.heap.size, 2, none⟩ = some (.string (⟨#[]⟩ : ByteArray)) := (blk_cell G0.out 2).trans rfl
    have hd0 : w1.cell? ⟨w.heap.size + 1, 0, none⟩ = some (.int .i64 0) := (blk_cell G1.out 0).trans rfl
    refine ⟨.tuple #[.agg #[.int .i64 0, .int .i64 0, .string V0], .int .i64 c], by simp [results, Try.results28, go_sem, hc0, hc1, hc2, hd0, hne, hne', V0], rfl, ?_⟩
    exact Below.setCell (Below.setCell (Below.setCell (Below.setCell GB.out (Nat.le_refl _) _) (Nat.le_refl _) _) (Nat.le_refl _) _) (by show w.heap.size ≤ w.heap.size + 1; omega) _
  | ok v =>
    obtain rfl : e = .returned (.agg #[.int .i64 v.f0, .int .i64 v.f1, .string v.f2]) := he
    have hc0 : w1.cell? ⟨w.heap.size, 0, none⟩ = some (.int .i64 0) := (blk_cell F0 0).trans rfl
    have hc1 : w1.cell? ⟨w.heap.size, 1, none⟩ = some (.int .i64 0) := (blk_cell F0 1).trans rfl
    have hc2 : w1.cell? ⟨w.heap.size, 2, none⟩ = some (.string (⟨#[]⟩ : ByteArray)) := (blk_cell F0 2).trans rfl
    have hd0 : w1.cell? ⟨w.heap.size + 1, 0, none⟩ = some (.int .i64 0) := (blk_cell F1 0).trans rfl
    have hf0 := blk_frozen F0 0
    have hf1 := blk_frozen F0 1
    have hf2 := blk_frozen F0 2
    have hg0 := blk_frozen F1 0
    have GB := Aside0.mk FB
    clear F0 F1 FB
    go_wp2_with fail
    refine leaves_cons (f := 54) (args := #[.pointer (some ⟨w.heap.size, 0, none⟩), .pointer (some ⟨w.heap.size + 1, 0, none⟩)]) (by simp) (by simp [go_sem]) ?_
    refine (calc_caught.idle _ _ _).mono ?_
    rintro e u' w'' ⟨rfl, rfl, rfl⟩
    refine ⟨.tuple #[.agg #[.int .i64 v.f0, .int .i64 v.f1, .string v.f2], .int .i64 0], by simp [results, Try.results28, go_sem, hc0, hc1, hc2, hd0, hne, hne'], rfl, ?_⟩
    exact Below.setCell (Below.setCell (Below.setCell (Below.setCell GB.out (Nat.le_refl _) _) (Nat.le_refl _) _) (Nat.le_refl _) _) (by show w.heap.size ≤ w.heap.size + 1; omega) _
end Go.Proofs.Ytfbeklbjlkgbnaa.P
end
section
namespace Go.Proofs.Ytfbeklbjlkgbnaa.P
open Go.RowKit Go.Proofs.YtfbeklbjlkgbnaaW.PrintWords Go.Proofs.YtfbeklbjlkgbnaaW.PrintLast Go.Proofs.YtfbeklbjlkgbnaaW.PrintMore
attribute [local go_sem] max2_int min2_int max_two min_two max_three min_three max_four min_four
set_option linter.unusedVariables false
set_option linter.unusedSimpArgs false
def truthV (b : Bool) : S25 := ⟨1, if b = true then 1 else 0, V0⟩
def zeroV : S25 := ⟨0, 0, V0⟩
def una (op : Int) (v : S25) : Except Int S25 :=
  if ¬ op = 1 ∧ ¬ op = 2 then .error 5
  else if v.f0 = 0 then .ok v
  else if op = 2 then (if v.f0 = 1 then .ok (truthV (decide (v.f1 = 0))) else .error 35)
  else if ¬ v.f0 = 2 then .error 35
  else if v.f1 = -9223372036854775808 then .error 40
  else .ok ⟨2, -v.f1, V0⟩
end Go.Proofs.Ytfbeklbjlkgbnaa.P
end
section
namespace Go.Proofs.Ytfbeklbjlkgbnaa.P
open Go.RowKit Go.Proofs.YtfbeklbjlkgbnaaW.PrintWords Go.Proofs.YtfbeklbjlkgbnaaW.PrintLast Go.Proofs.YtfbeklbjlkgbnaaW.PrintMore
attribute [local go_sem] max2_int min2_int max_two min_two max_three min_three max_four min_four
set_option linter.unusedVariables false
set_option linter.unusedSimpArgs false
end Go.Proofs.Ytfbeklbjlkgbnaa.P
end
section
namespace Go.Proofs.Ytfbeklbjlkgbnaa.Pure
set_option linter.unusedVariables false
set_option linter.unusedSimpArgs false
open Go.RowKit Go.Proofs.Ytfbeklbjlkgbnaa.P Go.Proofs.YtfbeklbjlkgbnaaW.PrintWords Go.Proofs.YtfbeklbjlkgbnaaW.PrintLast Go.Proofs.YtfbeklbjlkgbnaaW.PrintMore
instance decSV : DecidableEq S25 := fun a b =>
  if h : a.f0 = b.f0 ∧ a.f1 = b.f1 ∧ a.f2 = b.f2 then .isTrue (by cases a; cases b; simp_all) else .isFalse (by rintro rfl; exact h ⟨rfl, rfl, rfl⟩)
def wantsP (op : Int) : Int := if op ≤ 4 then 1 else if op ≤ 10 then 0 else if op = 16 then 3 else 2
def holdsP (op c : Int) : Bool := if op = 5 then c == 0 else if op = 6 then c != 0 else if op = 7 then decide (c < 0) else if op = 8 then decide (c ≤ 0) else if op = 9 then decide (0 < c) else decide (0 ≤ c)
def logicP (u v s : S25) : S25 := if u = s ∨ v = s then s else if u.f0 = 0 ∨ v.f0 = 0 then zeroV else truthV (!decide (s = truthV true))
def kindsP (op a b : Int) : Prop := if wantsP op ≠ 0 then (a = wantsP op ∨ a = 0) ∧ (b = wantsP op ∨ b = 0) else a = 0 ∨ b = 0 ∨ a = b
instance (op a b : Int) : Decidable (kindsP op a b) := by unfold kindsP; infer_instance
def numE : Except Int Int → Except Int S25 | .ok n => .ok ⟨2, n, V0⟩ | .error c => .error c
def bin (op : Int) (u v : S25) : Except Int S25 :=
  if ¬ (3 ≤ op ∧ op ≤ 16) then .error 5
  else if ¬ kindsP op u.f0 v.f0 then .error 35
  else if op ≤ 4 then .ok (logicP u v (truthV (op == 3)))
  else if u.f0 = 0 ∨ v.f0 = 0 then .ok zeroV
  else if op ≤ 10 then .ok (truthV (holdsP op (cmpV u v)))
  else if op = 16 then (if u.f2.size + v.f2.size ≤ 2048 then .ok ⟨3, 0, u.f2 ++ v.f2⟩ else .error 8)
  else numE (sumP op u.f1 v.f1)
theorem eqb (u s : S25) : (u.f0 == s.f0 && (u.f1 == s.f1 && (u.f2.toList == s.f2.toList))) = decide (u = s) := by
  by_cases h : u = s
  · subst h; simp
  · rw [decide_eq_false h]
    by_cases h0 : u.f0 = s.f0
    · by_cases h1 : u.f1 = s.f1
      · by_cases h2 : u.f2.toList = s.f2.toList
        · exact absurd (by cases u; cases s; simp only at h0 h1 h2; rw [h0, h1, toList_inj h2]) h
        · simp [h2]
      · simp [h1]
    · simp [h0]
end Go.Proofs.Ytfbeklbjlkgbnaa.Pure
end
section
namespace Go.Proofs.Ytfbeklbjlkgbnaa.P
open Go.RowKit Go.Proofs.Ytfbeklbjlkgbnaa.Pure Go.Proofs.YtfbeklbjlkgbnaaW.PrintWords Go.Proofs.YtfbeklbjlkgbnaaW.PrintLast Go.Proofs.YtfbeklbjlkgbnaaW.PrintMore
attribute [local go_sem] max2_int min2_int max_two min_two max_three min_three max_four min_four
set_option linter.unusedVariables false
set_option linter.unusedSimpArgs false
theorem at_world {P : Program} {c : Code} {Q : Exit → Act → World → Prop} {a : Act} {W : World} (R : World → Prop) (h : R W) (k : ∀ W', R W' → Code.wp P c Q a W') : Code.wp P c Q a W := k W h
def BI (op : Int) (u v : S25) (b0 b1 b2 : Nat) (W w : World) : Prop :=
  w.heap[b0]? = some (.cells #[.int .i64 op] 3 (0, 0)) ∧ w.heap[b1]? = some (.cells #[.int .i64 u.f0, .int .i64 u.f1, .string u.f2] 25 (0, 0)) ∧ w.heap[b2]? = some (.cells #[.int .i64 v.f0, .int .i64 v.f1, .string v.f2] 25 (0, 0)) ∧
  w.heap[W.heap.size]? = some (.cells #[.int .i64 0, .int .i64 0, .string (⟨#[]⟩ : ByteArray)] 25 (0, 0)) ∧ Below W.heap.size W w
section
variable {op : Int} {u v : S25} {b0 b1 b2 : Nat} {W w w' : World}
theorem below_set3 {B : Nat} {a w : World} (h : Below B a w) {b : Nat} (hb : B ≤ b) (o1 o2 o3 : Nat) (v1 v2 v3 : Value) : Below B a (((w.setCell ⟨b, o1, none⟩ v1).setCell ⟨b, o2, none⟩ v2).setCell ⟨b, o3, none⟩ v3) :=
  Below.setCell (Below.setCell (Below.setCell h (p := ⟨b, o1, none⟩) hb v1) (p := ⟨b, o2, none⟩) hb v2) (p := ⟨b, o3, none⟩) hb v3
theorem BI.start (h0 : W.heap[b0]? = some (.cells #[.int .i64 op] 3 (0, 0))) (h1 : W.heap[b1]? = some (.cells #[.int .i64 u.f0, .int .i64 u.f1, .string u.f2] 25 (0, 0))) (h2 : W.heap[b2]? = some (.cells #[.int .i64 v.f0, .int .i64 v.f1, .string v.f2] 25 (0, 0))) :
    BI op u v b0 b1 b2 W (W.alloc (.cells #[.int .i64 0, .int .i64 0, .string (⟨#[]⟩ : ByteArray)] 25)) :=
  ⟨blk_alloc h0 _, blk_alloc h1 _, blk_alloc h2 _, Deep.blk_alloc_new W _, below_alloc (Below.refl _ _) _⟩
theorem BI.drew (h : BI op u v b0 b1 b2 W w) : BI op u v b0 b1 b2 W w.drew := ⟨blk_drew h.1, blk_drew h.2.1, blk_drew h.2.2.1, blk_drew h.2.2.2.1, below_drew1 h.2.2.2.2⟩
theorem BI.drewN (h : BI op u v b0 b1 b2 W w) (n : Nat) : BI op u v b0 b1 b2 W (w.drewN n) := ⟨blk_drewN h.1 n, blk_drewN h.2.1 n, blk_drewN h.2.2.1 n, blk_drewN h.2.2.2.1 n, pw_below_drewN h.2.2.2.2 n⟩
theorem BI.below (h : BI op u v b0 b1 b2 W w) (hb : Below w.heap.size w w') : BI op u v b0 b1 b2 W w' :=
  ⟨(hb.block _ (blk_lt h.1)).trans h.1, (hb.block _ (blk_lt h.2.1)).trans h.2.1, (hb.block _ (blk_lt h.2.2.1)).trans h.2.2.1, (hb.block _ (blk_lt h.2.2.2.1)).trans h.2.2.2.1, below_step h.2.2.2.2 hb⟩
theorem BI.bel (h : BI op u v b0 b1 b2 W w) : Below W.heap.size W w := h.2.2.2.2
theorem BI.o (h : BI op u v b0 b1 b2 W w) : w.cell? ⟨b0, 0, none⟩ = some (.int .i64 op) := (blk_cell h.1 0).trans rfl
theorem BI.a0 (h : BI op u v b0 b1 b2 W w) : w.cell? ⟨b1, 0, none⟩ = some (.int .i64 u.f0) := (blk_cell h.2.1 0).trans rfl
theorem BI.a1 (h : BI op u v b0 b1 b2 W w) : w.cell? ⟨b1, 1, none⟩ = some (.int .i64 u.f1) := (blk_cell h.2.1 1).trans rfl
theorem BI.a2 (h : BI op u v b0 b1 b2 W w) : w.cell? ⟨b1, 2, none⟩ = some (.string u.f2) := (blk_cell h.2.1 2).trans rfl
theorem BI.v0 (h : BI op u v b0 b1 b2 W w) : w.cell? ⟨b2, 0, none⟩ = some (.int .i64 v.f0) := (blk_cell h.2.2.1 0).trans rfl
theorem BI.v1 (h : BI op u v b0 b1 b2 W w) : w.cell? ⟨b2, 1, none⟩ = some (.int .i64 v.f1) := (blk_cell h.2.2.1 1).trans rfl
theorem BI.v2 (h : BI op u v b0 b1 b2 W w) : w.cell? ⟨b2, 2, none⟩ = some (.string v.f2) := (blk_cell h.2.2.1 2).trans rfl
end
end Go.Proofs.Ytfbeklbjlkgbnaa.P
end
section
namespace Go.Proofs.Ytfbeklbjlkgbnaa.P
open Go.RowKit Go.Proofs.Ytfbeklbjlkgbnaa.Pure Go.Proofs.YtfbeklbjlkgbnaaW.PrintWords Go.Proofs.YtfbeklbjlkgbnaaW.PrintLast Go.Proofs.YtfbeklbjlkgbnaaW.PrintMore
set_option linter.unusedVariables false
set_option linter.unusedSimpArgs false
def argsN (f : Int) : Int := if f = 1 ∨ f = 2 ∨ f = 3 ∨ f = 4 then 1 else if f = 6 then 2 else if f = 5 then 3 else 0
theorem args_f (f : Int) : calc_Args.f 1 f = some (argsN f) := by
  unfold calc_Args.f argsN calc_Args.j0
  by_cases h1 : f = 1
  · simp [h1]
  by_cases h2 : f = 2
  · simp [h2]
  by_cases h3 : f = 3
  · simp [h3]
  by_cases h4 : f = 4
  · simp [h4]
  simp only [if_neg h1, if_neg h2, if_neg h3]
  rw [if_neg (c := (f == 4) = true) (by simpa using h4), if_neg (c := f = 1 ∨ f = 2 ∨ f = 3 ∨ f = 4) (by omega)]
  by_cases h6 : f = 6
  · simp [h6]
  by_cases h5 : f = 5
  · simp [h5]
  simp [h6, h5]
def takesP (f p k : Int) : Bool := (calc_takes.f f p k).getD false
theorem takes_f (f p k : Int) : calc_takes.f f p k = some (takesP f p k) := by
  unfold takesP calc_takes.f
  repeat (first | rfl | split)
def goArgs (f : Int) : Nat → List S25 → Bool → Except Int Bool
  | _, [], b => .ok b
  | i, v :: t, b => if takesP f i v.f0 = true then goArgs f (i + 1) t (b || v.f0 == 0) else .error 35
def calledP (f : Int) (l : List S25) : Except Int S25 :=
  if f = 1 then .ok ⟨2, ((rd_T25 l 0).f2.size : Int), V0⟩
  else if f = 2 then (if (rd_T25 l 0).f1 = -9223372036854775808 then .error 40 else .ok ⟨2, mx (rd_T25 l 0).f1 (-(rd_T25 l 0).f1), V0⟩)
  else if f = 3 then .ok ⟨3, 0, mapS upC (rd_T25 l 0).f2⟩
  else if f = 4 then .ok ⟨3, 0, mapS lowC (rd_T25 l 0).f2⟩
  else .ok ⟨3, 0, cutP (rd_T25 l 0).f2 (rd_T25 l 1).f1 (rd_T25 l 2).f1⟩
def restP (f : Int) (l : List S25) : Except Int S25 :=
  match goArgs f 0 l false with | .error c => .error c | .ok true => .ok zeroV | .ok false => calledP f l
def firstP (u v : S25) : Except Int S25 :=
  if u.f0 = v.f0 ∨ u.f0 = 0 ∨ v.f0 = 0 then (if u.f0 = 0 then .ok v else .ok u) else .error 35
def call (f : Int) (l : List S25) : Except Int S25 :=
  if argsN f ≤ 0 then .error 5 else if (l.length : Int) ≠ argsN f then .error 37
  else if f = 6 then firstP (rd_T25 l 0) (rd_T25 l 1) else restP f l
def FitsV (v : S25) : Prop := In64 v.f1 ∧ v.f2.size ≤ 140737488351232
theorem rd_fits {l : List S25} (h : ∀ v ∈ l, FitsV v) (i : Int) : FitsV (rd_T25 l i) := by
  unfold rd_T25
  by_cases hi : i.toNat < l.length
  · rw [List.getD_eq_getElem?_getD, List.getElem?_eq_getElem hi]; exact h _ (List.getElem_mem hi)
  · rw [List.getD_eq_getElem?_getD, List.getElem?_eq_none (by omega)]; exact ⟨by unfold In64; simp [z25], by show (0 : Nat) ≤ 140737488351232; omega⟩
theorem called_f {f : Int} {l : List S25} {r : S25} (h : calledP f l = .ok r) (hf : ∀ v ∈ l, FitsV v) (hl : (l.length : Int) = argsN f) (h0 : 0 < argsN f) (h6 : ¬ f = 6) : calc_called.f f l = some (r.f0, r.f1, r.f2) := by
  have F0 := rd_fits hf 0
  have F1 := rd_fits hf 1
  have F2 := rd_fits hf 2
  unfold calledP at h
  unfold calc_called.f
  rw [if_pos (show 0 < (l.length : Int) by omega)]
  by_cases h1 : f = 1
  · rw [if_pos h1] at h ⊢; cases h; rfl
  rw [if_neg h1] at h ⊢
  by_cases h2 : f = 2
  · rw [if_pos h2] at h ⊢
    by_cases hm : (rd_T25 l 0).f1 = -9223372036854775808
    · rw [if_pos hm] at h; cases h
    · rw [if_neg hm] at h
      cases h
      have hw : wrap64 (-(rd_T25 l 0).f1) = -(rd_T25 l 0).f1 := by have := F0.1; unfold In64 at this; unfold wrap64; omega
      rw [hw, show ((rd_T25 l 0).f1 != -9223372036854775808) = true from bne_iff_ne.mpr hm]
      rfl
  rw [if_neg h2] at h ⊢
  have hs : (rd_T25 l 0).f2.size ≤ 140737488351232 := F0.2
  by_cases h3 : f = 3
  · rw [if_pos h3] at h ⊢; cases h; unfold calc_mapped.f; rw [if_pos hs]; rfl
  rw [if_neg h3] at h ⊢
  by_cases h4 : f = 4
  · rw [if_pos h4] at h ⊢; cases h; unfold calc_mapped.f; rw [if_pos hs]; rfl
  rw [if_neg h4] at h ⊢
  have h5 : f = 5 := by unfold argsN at h0; split at h0 <;> (try split at h0) <;> (try split at h0) <;> omega
  have hl3 : (l.length : Int) = 3 := by rw [hl, h5]; rfl
  rw [if_pos (by omega), if_pos (by omega)]
  cases h
  unfold calc_cut.f
  rw [if_pos ⟨hs, F1.1, F2.1⟩]
  rfl
theorem called_E {f : Int} {l : List S25} {c : Int} (h : calledP f l = .error c) : f = 2 ∧ (rd_T25 l 0).f1 = -9223372036854775808 ∧ c = 40 := by
  unfold calledP at h
  by_cases h1 : f = 1
  · rw [if_pos h1] at h; cases h
  rw [if_neg h1] at h
  by_cases h2 : f = 2
  · rw [if_pos h2] at h
    by_cases hm : (rd_T25 l 0).f1 = -9223372036854775808
    · rw [if_pos hm] at h; cases h; exact ⟨h2, hm, rfl⟩
    · rw [if_neg hm] at h; cases h
  rw [if_neg h2] at h
  by_cases h3 : f = 3
  · rw [if_pos h3] at h; cases h
  rw [if_neg h3] at h
  by_cases h4 : f = 4
  · rw [if_pos h4] at h; cases h
  rw [if_neg h4] at h; cases h
theorem goArgs_step {f : Int} {l : List S25} {k : Nat} {b : Bool} (hk : k < l.length) : goArgs f k (l.drop k) b = if takesP f k (rd_T25 l k).f0 = true then goArgs f (k + 1) (l.drop (k + 1)) (b || (rd_T25 l k).f0 == 0) else .error 35 := by
  have : rd_T25 l k = l[k] := by unfold rd_T25; simp [hk]
  rw [List.drop_eq_getElem_cons hk, this]
  rfl
def AI (f : Int) (l : List S25) (A : Option Addr) (c : Nat) (b0 b1 : Nat) (W w : World) : Prop :=
  W.heap[b0]? = some (.cells #[.int .i64 f] 3 (0, 0)) ∧ W.heap[b1]? = some (.cells #[.slice A l.length c] 22 (0, 0)) ∧ Kd.C k25 W A l.length l ∧
  w.heap[W.heap.size]? = some (.cells #[.int .i64 0, .int .i64 0, .string (⟨#[]⟩ : ByteArray)] 25 (0, 0)) ∧ Below W.heap.size W w
section
variable {f : Int} {l : List S25} {A : Option Addr} {c b0 b1 : Nat} {W w w' : World}
theorem AI.start (h0 : W.heap[b0]? = some (.cells #[.int .i64 f] 3 (0, 0))) (h1 : W.heap[b1]? = some (.cells #[.slice A l.length c] 22 (0, 0))) (hr : Kd.C k25 W A l.length l) :
    AI f l A c b0 b1 W (W.alloc (.cells #[.int .i64 0, .int .i64 0, .string (⟨#[]⟩ : ByteArray)] 25)) :=
  ⟨h0, h1, hr, Deep.blk_alloc_new W _, below_alloc (Below.refl _ _) _⟩
theorem AI.below (h : AI f l A c b0 b1 W w) (hb : Below w.heap.size w w') : AI f l A c b0 b1 W w' :=
  ⟨h.1, h.2.1, h.2.2.1, (hb.block _ (blk_lt h.2.2.2.1)).trans h.2.2.2.1, below_step h.2.2.2.2 hb⟩
theorem AI.drew (h : AI f l A c b0 b1 W w) : AI f l A c b0 b1 W w.drew := h.below (below_drew1 (Below.refl _ _))
theorem AI.drewN (h : AI f l A c b0 b1 W w) (n : Nat) : AI f l A c b0 b1 W (w.drewN n) := h.below (pw_below_drewN (Below.refl _ _) n)
theorem AI.alloc (h : AI f l A c b0 b1 W w) (o : Obj) : AI f l A c b0 b1 W (w.alloc o) := h.below (below_alloc (Below.refl _ _) o)
theorem AI.set (h : AI f l A c b0 b1 W w) {b : Nat} (hb : W.heap.size < b) (i : Nat) (v : Value) : AI f l A c b0 b1 W (w.setCell ⟨b, i, none⟩ v) :=
  ⟨h.1, h.2.1, h.2.2.1, blk_far h.2.2.2.1 (p := ⟨b, i, none⟩) (by show W.heap.size ≠ b; omega) v, Below.setCell h.2.2.2.2 (p := ⟨b, i, none⟩) (Nat.le_of_lt hb) v⟩
theorem AI.set3 (h : AI f l A c b0 b1 W w) {b : Nat} (hb : W.heap.size < b) (v0 v1 v2 : Value) : AI f l A c b0 b1 W (((w.setCell ⟨b, 0, none⟩ v0).setCell ⟨b, 1, none⟩ v1).setCell ⟨b, 2, none⟩ v2) :=
  ((h.set hb _ _).set hb _ _).set hb _ _
theorem AI.bel (h : AI f l A c b0 b1 W w) : Below W.heap.size W w := h.2.2.2.2
theorem AI.z (h : AI f l A c b0 b1 W w) : w.heap[W.heap.size]? = some (.cells #[.int .i64 0, .int .i64 0, .string (⟨#[]⟩ : ByteArray)] 25 (0, 0)) := h.2.2.2.1
theorem AI.o (h : AI f l A c b0 b1 W w) : w.cell? ⟨b0, 0, none⟩ = some (.int .i64 f) := (blk_cell (blk_below h.1 h.bel) 0).trans rfl
theorem AI.s (h : AI f l A c b0 b1 W w) : w.cell? ⟨b1, 0, none⟩ = some (.slice A l.length c) := (blk_cell (blk_below h.2.1 h.bel) 0).trans rfl
theorem AI.C (h : AI f l A c b0 b1 W w) : Kd.C k25 w A l.length l := Kd.C_below h.2.2.1 h.bel
theorem AI.at (h : AI f l A c b0 b1 W w) (k : Nat) (hk : k < l.length) : ∃ ad, A = some ad ∧ w.cell? (ad.add (k * 3)) = some (.int .i64 (rd_T25 l k).f0) ∧ w.cell? ⟨(ad.add (k * 3)).block, (ad.add (k * 3)).off + 1, none⟩ = some (.int .i64 (rd_T25 l k).f1) ∧ w.cell? ⟨(ad.add (k * 3)).block, (ad.add (k * 3)).off + 2, none⟩ = some (.string (rd_T25 l k).f2) :=
  at_T25 h.C k (by omega) (by omega)
end
section
variable {f : Int} {l : List S25} {ad : Addr} {c b0 b1 : Nat} {W w w' : World}
theorem AI.atk (h : AI f l (some ad) c b0 b1 W w) (k : Nat) (hk : k < l.length) : w.cell? (ad.add (k * 3)) = some (.int .i64 (rd_T25 l k).f0) ∧ w.cell? ⟨(ad.add (k * 3)).block, (ad.add (k * 3)).off + 1, none⟩ = some (.int .i64 (rd_T25 l k).f1) ∧ w.cell? ⟨(ad.add (k * 3)).block, (ad.add (k * 3)).off + 2, none⟩ = some (.string (rd_T25 l k).f2) := by
  obtain ⟨ad', he, hh⟩ := h.at k hk
  cases he
  exact hh
theorem AI.at0 (h : AI f l (some ad) c b0 b1 W w) (hk : 0 < l.length) : w.cell? ad = some (.int .i64 (rd_T25 l 0).f0) ∧ w.cell? ⟨ad.block, ad.off + 1, none⟩ = some (.int .i64 (rd_T25 l 0).f1) ∧ w.cell? ⟨ad.block, ad.off + 2, none⟩ = some (.string (rd_T25 l 0).f2) := h.atk 0 hk
theorem AI.at1 (h : AI f l (some ad) c b0 b1 W w) (hk : 1 < l.length) : w.cell? ⟨ad.block, ad.off + 3, none⟩ = some (.int .i64 (rd_T25 l 1).f0) ∧ w.cell? ⟨ad.block, ad.off + 3 + 1, none⟩ = some (.int .i64 (rd_T25 l 1).f1) ∧ w.cell? ⟨ad.block, ad.off + 3 + 2, none⟩ = some (.string (rd_T25 l 1).f2) := h.atk 1 hk
end
def AJ (f : Int) (l : List S25) (A : Option Addr) (c : Nat) (b0 b1 : Nat) (W : World) (u v : S25) (b3 b4 : Nat) (w : World) : Prop :=
  AI f l A c b0 b1 W w ∧ W.heap.size < b3 ∧ W.heap.size < b4 ∧ b3 ≠ b4 ∧ w.heap[b3]? = some (.cells #[.int .i64 u.f0, .int .i64 u.f1, .string u.f2] 25 (0, 0)) ∧ w.heap[b4]? = some (.cells #[.int .i64 v.f0, .int .i64 v.f1, .string v.f2] 25 (0, 0))
section
variable {f : Int} {l : List S25} {A : Option Addr} {c b0 b1 b3 b4 : Nat} {W w w' : World} {u v u' v' : S25}
theorem AJ.swap (h : AJ f l A c b0 b1 W u v b3 b4 w) : AJ f l A c b0 b1 W v u b4 b3 w := ⟨h.1, h.2.2.1, h.2.1, fun e => h.2.2.2.1 e.symm, h.2.2.2.2.2, h.2.2.2.2.1⟩
theorem AJ.two (h : AI f l A c b0 b1 W w) : AJ f l A c b0 b1 W zeroV zeroV w.heap.size (w.heap.size + 1) ((w.alloc (.cells #[.int .i64 0, .int .i64 0, .string (⟨#[]⟩ : ByteArray)] 25)).alloc (.cells #[.int .i64 0, .int .i64 0, .string (⟨#[]⟩ : ByteArray)] 25)) :=
  ⟨(h.alloc _).alloc _, blk_lt h.z, Nat.lt_succ_of_lt (blk_lt h.z), by omega, blk_alloc (Deep.blk_alloc_new w _) _, by
    have := Deep.blk_alloc_new (w.alloc (.cells #[.int .i64 0, .int .i64 0, .string (⟨#[]⟩ : ByteArray)] 25)) (.cells #[.int .i64 0, .int .i64 0, .string (⟨#[]⟩ : ByteArray)] 25)
    simpa [zeroV, V0] using this⟩
theorem AJ.first (h : AJ f l A c b0 b1 W u v b3 b4 w) : AJ f l A c b0 b1 W u' v b3 b4 (((w.setCell ⟨b3, 0, none⟩ (.int .i64 u'.f0)).setCell ⟨b3, 1, none⟩ (.int .i64 u'.f1)).setCell ⟨b3, 2, none⟩ (.string u'.f2)) := by
  obtain ⟨h1, h2, h3, h4, h5, h6⟩ := h
  have k4 : b4 ≠ b3 := fun e => h4 e.symm
  exact ⟨h1.set3 h2 _ _ _, h2, h3, h4, blk_put (blk_put (blk_put h5 0 (.int .i64 u'.f0) rfl) 1 (.int .i64 u'.f1) rfl) 2 (.string u'.f2) rfl, blk_far (blk_far (blk_far h6 (p := ⟨b3, 0, none⟩) k4 _) (p := ⟨b3, 1, none⟩) k4 _) (p := ⟨b3, 2, none⟩) k4 _⟩
theorem AJ.second (h : AJ f l A c b0 b1 W u v b3 b4 w) : AJ f l A c b0 b1 W u v' b3 b4 (((w.setCell ⟨b4, 0, none⟩ (.int .i64 v'.f0)).setCell ⟨b4, 1, none⟩ (.int .i64 v'.f1)).setCell ⟨b4, 2, none⟩ (.string v'.f2)) := h.swap.first.swap
end
end Go.Proofs.Ytfbeklbjlkgbnaa.P
end
section
namespace Go.Proofs.Ytfbeklbjlkgbnaa.P
open Go.RowKit Go.Proofs.Ytfbeklbjlkgbnaa.Pure Go.Proofs.YtfbeklbjlkgbnaaW.PrintWords Go.Proofs.YtfbeklbjlkgbnaaW.PrintLast Go.Proofs.YtfbeklbjlkgbnaaW.PrintMore
attribute [local go_sem] max2_int min2_int max_two min_two max_three min_three max_four min_four
set_option linter.unusedVariables false
set_option linter.unusedSimpArgs false
theorem at_exit {T : Exit → Act → World → Prop} {e : Exit} {a : Act} {W : World} (R : World → Prop) (h : R W) (k : ∀ W', R W' → T e a W') : T e a W := k W h
theorem dies_ {P : Program} {ops : Array Oper} {Q : Exit → Act → World → Prop} {oi : Oper} {N : Option Tmp} {a : Act} {w : World} {K : Act → World → Prop} {f : FuncId} {fn : Func} {xs : Array Operand} {ts : Array TypeId} (hf : P.funcs[f]? = some fn) (hname : (fn.name == "runtime.NumGoroutine") = false) (hb : fn.body.isSome = true) (args : Array Value)
    (hw : Region.wanted oi (yielded ops a.tmps) = true) (hN : oi.dst = N) (hop : oi.op = .call { callee := .value (.func f), args := xs, argTypes := ts }) (hargs : xs.map a.eval = args)
    (h : Calls P f args w fun e w' => ∃ ch, e = .panicked ch ∧ Q (.panic ch) a w') : if Region.wanted oi (yielded ops a.tmps) = true then Oper.wp P oi a w K Q else K (a.put N undef) w := by
  rw [if_pos hw]
  have he := enters_ hf hname hb args w
  have hrun : (execOp a.eval oi).run P w = .ok (.enter f args) w := by
    unfold execOp
    simp [hop, resolve, Deferred.ofValue, invoke, Act.eval, hargs, he]
  unfold Oper.wp
  rw [hrun, Oper.upon_enter]
  refine h.mono fun e w'' hh => ?_
  obtain ⟨v, rfl, hk⟩ := hh
  exact hk
set_option maxHeartbeats 2000000 in
set_option maxRecDepth 100000 in
theorem calc_Call1.refused (f : Int) (l : List S25) (A : Option Addr) (c b0 b1 : Nat) (W : World) (h0 : W.heap[b0]? = some (.cells #[.int .i64 f] 3 (0, 0))) (h1 : W.heap[b1]? = some (.cells #[.slice A l.length c] 22 (0, 0))) (hr : Kd.C k25 W A l.length l) (l0 : ¬ 0 < argsN f) :
    Calls Try.prog 29 #[.pointer (some ⟨b0, 0, none⟩), .pointer (some ⟨b1, 0, none⟩)] W (fun e w' => RE (.error 5) e ∧ Below W.heap.size W w') := by
  have hu25 := Try.underlying25
  have n0 : ¬ b0 = W.heap.size := by have := blk_lt h0; omega
  have n1 : ¬ b1 = W.heap.size := by have := blk_lt h1; omega
  have HS := Aside0.mk (AI.start h0 h1 hr)
  clear h0 h1 hr
  have hcF := HS.out.o
  have hcA := HS.out.s
  have q0 : decide (0 < argsN f) = false := decide_eq_false l0
  have l0' := Aside0.mk l0
  clear l0
  go_enter Try.func29, Try.ntmps29
  go_wp2_with (first | (go_at_call 14; (with_reducible refine (calc_Args.calls 1 f _ _ (args_f f)).mono ?_); rintro e w' ⟨rfl, ⟨nd, rfl⟩⟩) | (go_at_call 30; (with_reducible refine (calc_check.yes _ _).mono ?_); rintro e w' ⟨rfl, rfl⟩) | (go_at_call 30; (with_reducible refine (calc_check.no _ _).mono ?_); rintro e w' ⟨rfl, rfl⟩))
  exact ⟨rfl, rfl, by repeat (first | exact HS.out.bel | apply pw_below_drewN | apply below_drew1)⟩
set_option maxHeartbeats 2000000 in
set_option maxRecDepth 100000 in
theorem calc_Call1.count (f : Int) (l : List S25) (A : Option Addr) (c b0 b1 : Nat) (W : World) (h0 : W.heap[b0]? = some (.cells #[.int .i64 f] 3 (0, 0))) (h1 : W.heap[b1]? = some (.cells #[.slice A l.length c] 22 (0, 0))) (hr : Kd.C k25 W A l.length l) (l0 : 0 < argsN f) (lc : ¬ (l.length : Int) = argsN f) :
    Calls Try.prog 29 #[.pointer (some ⟨b0, 0, none⟩), .pointer (some ⟨b1, 0, none⟩)] W (fun e w' => RE (.error 37) e ∧ Below W.heap.size W w') := by
  have hu25 := Try.underlying25
  have n0 : ¬ b0 = W.heap.size := by have := blk_lt h0; omega
  have n1 : ¬ b1 = W.heap.size := by have := blk_lt h1; omega
  have HS := Aside0.mk (AI.start h0 h1 hr)
  clear h0 h1 hr
  have hcF := HS.out.o
  have hcA := HS.out.s
  have q0 : decide (0 < argsN f) = true := decide_eq_true l0
  have q1 : ((l.length : Int) == argsN f) = false := beq_eq_false_iff_ne.mpr lc
  have l0' := Aside0.mk l0
  have lc' := Aside0.mk lc
  clear l0 lc
  go_enter Try.func29, Try.ntmps29
  go_wp2_with (first | (go_at_call 14; (with_reducible refine (calc_Args.calls 1 f _ _ (args_f f)).mono ?_); rintro e w' ⟨rfl, ⟨nd, rfl⟩⟩) | (go_at_call 30; (with_reducible refine (calc_check.yes _ _).mono ?_); rintro e w' ⟨rfl, rfl⟩) | (go_at_call 30; (with_reducible refine (calc_check.no _ _).mono ?_); rintro e w' ⟨rfl, rfl⟩))
  refine at_world (fun w' => AI f l A c b0 b1 W w') (by repeat (first | exact HS.out | refine AI.drewN ?_ _ | refine AI.drew ?_)) (fun w1 hI => ?_)
  have HI := Aside0.mk hI
  clear hI hcF hcA
  refine start_ (n := 6) (S := fun w' => w'.cell? ⟨b0, 0, none⟩ = some (.int .i64 f) ∧ w'.cell? ⟨b1, 0, none⟩ = some (.slice A l.length c)) (ds := []) #[false, false, false, false, false, false] (by kernel_rfl) rfl rfl ⟨HI.out.drew.o, HI.out.drew.s⟩ (fun hHeld => ?_)
  refine take_ (i := 0) (N := some 12) (v := ?_) (a' := ?_) #[true, false, false, false, false, false] rfl rfl (by kernel_rfl) (fun _ _ _ h => h) (Or.inl ⟨by rfl, ?_⟩) hHeld ?_ ?_
  rotate_left
  · rintro w' ⟨s0, s1⟩
    go_simp
    with_reducible rfl
  rotate_left
  · simp only [Act.put, List.setIfInBounds_toArray, List.set_cons_zero, List.set_cons_succ, i64_w, i32_w]
    rfl
  refine pure_ (i := 1) (N := some 13) (v := ?_) (a' := ?_) #[true, true, false, false, false, false] rfl rfl (by kernel_rfl) (fun _ _ _ h => h) (Or.inl ⟨by rfl, ?_⟩) ?_ ?_
  rotate_left
  · intro w'
    go_simp
    with_reducible rfl
  rotate_left
  · simp only [Act.put, List.setIfInBounds_toArray, List.set_cons_zero, List.set_cons_succ, i64_w, i32_w]
    rfl
  refine take_ (i := 2) (N := some 14) (v := ?_) (a' := ?_) #[true, true, true, false, false, false] rfl rfl (by kernel_rfl) (fun _ _ _ h => h) (Or.inl ⟨by rfl, ?_⟩) hHeld ?_ ?_
  rotate_left
  · rintro w' ⟨s0, s1⟩
    go_simp
    with_reducible rfl
  rotate_left
  · simp only [Act.put, List.setIfInBounds_toArray, List.set_cons_zero, List.set_cons_succ, i64_w, i32_w]
    rfl
  refine one_ (i := 3) (N := some 15) #[true, true, true, true, false, false] rfl rfl (by kernel_rfl) (by decide) (fun K hK => ?_)
  refine goes_ Try.func14 (by kernel_rfl) rfl #[.int .i64 f] (by rfl) rfl rfl (by simp only [List.map_toArray, List.map_cons, List.map_nil]; rfl) ?_
  with_reducible refine (calc_Args.calls 1 f _ _ (args_f f)).mono ?_
  rintro e w2 ⟨rfl, ⟨nd3, rfl⟩⟩
  refine ⟨_, rfl, ?_⟩
  have n0_ := Aside0.mk (AI.drewN HI.out.drew nd3)
  clear HI
  have HI := n0_
  clear n0_
  refine hK.out _ _ ⟨HI.out.o, HI.out.s⟩ (fun hHeld => ?_)
  clear hK K
  refine norm_ (a' := ?_) ?_ ?_
  rotate_left
  · show Act.put _ (some 15) _ = _
    simp only [Act.put, List.setIfInBounds_toArray, List.set_cons_zero, List.set_cons_succ, i64_w, i32_w]
    rfl
  refine pure_ (i := 4) (N := some 16) (v := ?_) (a' := ?_) #[true, true, true, true, true, false] rfl rfl (by kernel_rfl) (fun _ _ _ h => h) (Or.inl ⟨by rfl, ?_⟩) ?_ ?_
  rotate_left
  · intro w'
    go_simp
    with_reducible rfl
  rotate_left
  · simp only [Act.put, List.setIfInBounds_toArray, List.set_cons_zero, List.set_cons_succ, i64_w, i32_w]
    rfl
  refine one_ (i := 5) (N := some 17) #[true, true, true, true, true, true] rfl rfl (by kernel_rfl) (by decide) (fun K hK => ?_)
  refine dies_ Try.func30 (by kernel_rfl) rfl #[.bool false, .int .i64 37] (by rfl) rfl rfl (by simp only [List.map_toArray, List.map_cons, List.map_nil]; rfl) ?_
  with_reducible refine (calc_check.no _ _).mono ?_
  rintro e w2 ⟨rfl, rfl⟩
  exact ⟨_, rfl, rfl, rfl, HI.out.bel⟩
set_option maxHeartbeats 2000000 in
set_option maxRecDepth 100000 in
theorem calc_Call1.one1 (f : Int) (l : List S25) (ad : Addr) (c b0 b1 : Nat) (W : World) (h0 : W.heap[b0]? = some (.cells #[.int .i64 f] 3 (0, 0))) (h1 : W.heap[b1]? = some (.cells #[.slice (some ad) l.length c] 22 (0, 0))) (hr : Kd.C k25 W (some ad) l.length l) (l0 : 0 < argsN f) (lc : (l.length : Int) = argsN f) (l2 : l.length = 2) (f6 : f = 6) (eq : (rd_T25 l 0).f0 = (rd_T25 l 1).f0) (a0 : (rd_T25 l 0).f0 = 0) :
    Calls Try.prog 29 #[.pointer (some ⟨b0, 0, none⟩), .pointer (some ⟨b1, 0, none⟩)] W (fun e w' => RE (.ok (rd_T25 l 1)) e ∧ Below W.heap.size W w') := by
  have hu25 := Try.underlying25
  have n0 : ¬ b0 = W.heap.size := by have := blk_lt h0; omega
  have n1 : ¬ b1 = W.heap.size := by have := blk_lt h1; omega
  have HS := Aside0.mk (AI.start h0 h1 hr)
  clear h0 h1 hr
  have hcF := HS.out.o
  have hcA := HS.out.s
  have HL := Aside0.mk (show 0 < l.length ∧ 1 < l.length by omega)
  have hL0 : (0 < l.length) = True := eq_true HL.out.1
  have hL1 : (1 < l.length) = True := eq_true HL.out.2
  have hD0 : decide (0 < l.length) = true := decide_eq_true HL.out.1
  have hD1 : decide (1 < l.length) = true := decide_eq_true HL.out.2
  have hI0 : (0 < (l.length : Int)) = True := eq_true (by have := HL.out.1; omega)
  have hI1 : (1 < (l.length : Int)) = True := eq_true (by have := HL.out.2; omega)
  have hE0 : decide (0 < (l.length : Int)) = true := decide_eq_true (by have := HL.out.1; omega)
  have hE1 : decide (1 < (l.length : Int)) = true := decide_eq_true (by have := HL.out.2; omega)
  have q0 : decide (0 < argsN f) = true := decide_eq_true l0
  have q1 : ((l.length : Int) == argsN f) = true := beq_iff_eq.mpr lc
  have q2 : (f == 6) = true := beq_iff_eq.mpr f6
  have q3 : ((rd_T25 l 0).f0 == (rd_T25 l 1).f0) = true := beq_iff_eq.mpr eq
  have q4 : ((rd_T25 l 0).f0 == 0) = true := beq_iff_eq.mpr a0
  have l0' := Aside0.mk l0
  have lc' := Aside0.mk lc
  have l2' := Aside0.mk l2
  have f6' := Aside0.mk f6
  have eq' := Aside0.mk eq
  have a0' := Aside0.mk a0
  clear l0 lc l2 f6 eq a0
  go_enter Try.func29, Try.ntmps29
  go_wp2_with (first | (go_at_call 14; (with_reducible refine (calc_Args.calls 1 f _ _ (args_f f)).mono ?_); rintro e w' ⟨rfl, ⟨nd, rfl⟩⟩) | (go_at_call 30; (with_reducible refine (calc_check.yes _ _).mono ?_); rintro e w' ⟨rfl, rfl⟩) | (go_at_call 30; (with_reducible refine (calc_check.no _ _).mono ?_); rintro e w' ⟨rfl, rfl⟩))
  refine at_world (fun w' => AI f l (some ad) c b0 b1 W w') (by repeat (first | exact HS.out | refine AI.drewN ?_ _ | refine AI.drew ?_)) (fun w1 hI => ?_)
  have HI := Aside0.mk hI
  clear hI hcF hcA
  refine start_ (n := 6) (S := fun w' => w'.cell? ⟨b0, 0, none⟩ = some (.int .i64 f) ∧ w'.cell? ⟨b1, 0, none⟩ = some (.slice (some ad) l.length c)) (ds := []) #[false, false, false, false, false, false] (by kernel_rfl) rfl rfl ⟨HI.out.drew.o, HI.out.drew.s⟩ (fun hHeld => ?_)
  refine take_ (i := 0) (N := some 12) (v := ?_) (a' := ?_) #[true, false, false, false, false, false] rfl rfl (by kernel_rfl) (fun _ _ _ h => h) (Or.inl ⟨by rfl, ?_⟩) hHeld ?_ ?_
  rotate_left
  · rintro w' ⟨s0, s1⟩
    go_simp
    with_reducible rfl
  rotate_left
  · simp only [Act.put, List.setIfInBounds_toArray, List.set_cons_zero, List.set_cons_succ, i64_w, i32_w]
    rfl
  refine pure_ (i := 1) (N := some 13) (v := ?_) (a' := ?_) #[true, true, false, false, false, false] rfl rfl (by kernel_rfl) (fun _ _ _ h => h) (Or.inl ⟨by rfl, ?_⟩) ?_ ?_
  rotate_left
  · intro w'
    go_simp
    with_reducible rfl
  rotate_left
  · simp only [Act.put, List.setIfInBounds_toArray, List.set_cons_zero, List.set_cons_succ, i64_w, i32_w]
    rfl
  refine take_ (i := 2) (N := some 14) (v := ?_) (a' := ?_) #[true, true, true, false, false, false] rfl rfl (by kernel_rfl) (fun _ _ _ h => h) (Or.inl ⟨by rfl, ?_⟩) hHeld ?_ ?_
  rotate_left
  · rintro w' ⟨s0, s1⟩
    go_simp
    with_reducible rfl
  rotate_left
  · simp only [Act.put, List.setIfInBounds_toArray, List.set_cons_zero, List.set_cons_succ, i64_w, i32_w]
    rfl
  refine one_ (i := 3) (N := some 15) #[true, true, true, true, false, false] rfl rfl (by kernel_rfl) (by decide) (fun K hK => ?_)
  refine goes_ Try.func14 (by kernel_rfl) rfl #[.int .i64 f] (by rfl) rfl rfl (by simp only [List.map_toArray, List.map_cons, List.map_nil]; rfl) ?_
  with_reducible refine (calc_Args.calls 1 f _ _ (args_f f)).mono ?_
  rintro e w2 ⟨rfl, ⟨nd3, rfl⟩⟩
  refine ⟨_, rfl, ?_⟩
  have n0_ := Aside0.mk (AI.drewN HI.out.drew nd3)
  clear HI
  have HI := n0_
  clear n0_
  refine hK.out _ _ ⟨HI.out.o, HI.out.s⟩ (fun hHeld => ?_)
  clear hK K
  refine norm_ (a' := ?_) ?_ ?_
  rotate_left
  · show Act.put _ (some 15) _ = _
    simp only [Act.put, List.setIfInBounds_toArray, List.set_cons_zero, List.set_cons_succ, i64_w, i32_w]
    rfl
  refine pure_ (i := 4) (N := some 16) (v := ?_) (a' := ?_) #[true, true, true, true, true, false] rfl rfl (by kernel_rfl) (fun _ _ _ h => h) (Or.inl ⟨by rfl, ?_⟩) ?_ ?_
  rotate_left
  · intro w'
    go_simp
    with_reducible rfl
  rotate_left
  · simp only [Act.put, List.setIfInBounds_toArray, List.set_cons_zero, List.set_cons_succ, i64_w, i32_w]
    rfl
  refine one_ (i := 5) (N := some 17) #[true, true, true, true, true, true] rfl rfl (by kernel_rfl) (by decide) (fun K hK => ?_)
  refine goes_ Try.func30 (by kernel_rfl) rfl #[.bool true, .int .i64 37] (by rfl) rfl rfl (by simp only [List.map_toArray, List.map_cons, List.map_nil]; rfl) ?_
  with_reducible refine (calc_check.yes _ _).mono ?_
  rintro e w2 ⟨rfl, rfl⟩
  refine ⟨_, rfl, ?_⟩
  refine hK.out _ _ ⟨HI.out.o, HI.out.s⟩ (fun hHeld => ?_)
  clear hK K
  refine norm_ (a' := ?_) ?_ ?_
  rotate_left
  · show Act.put _ (some 17) _ = _
    simp only [Act.put, List.setIfInBounds_toArray, List.set_cons_zero, List.set_cons_succ, i64_w, i32_w]
    rfl
  refine done_ (by kernel_rfl) ?_
  refine at_exit (fun w' => AI f l (some ad) c b0 b1 W w') HI.out (fun w3 hI => ?_)
  clear HI
  have HI := Aside0.mk hI
  clear hI
  have hcF := HI.out.o
  go_wp2_with fail
  refine at_world (fun w' => AI f l (some ad) c b0 b1 W w') (by repeat (first | exact HI.out | refine AI.drewN ?_ _ | refine AI.drew ?_)) (fun w4 hI => ?_)
  clear HI hcF
  have HI := Aside0.mk hI
  clear hI
  have HB := Aside0.mk HI.out.drew
  clear HI
  have HI := HB
  refine start_ (n := 10) (S := fun w' => w'.cell? ⟨b1, 0, none⟩ = some (.slice (some ad) l.length c) ∧ w'.cell? ad = some (.int .i64 (rd_T25 l 0).f0) ∧ w'.cell? ⟨ad.block, ad.off + 1, none⟩ = some (.int .i64 (rd_T25 l 0).f1) ∧ w'.cell? ⟨ad.block, ad.off + 2, none⟩ = some (.string (rd_T25 l 0).f2) ∧ w'.cell? ⟨ad.block, ad.off + 3, none⟩ = some (.int .i64 (rd_T25 l 1).f0) ∧ w'.cell? ⟨ad.block, ad.off + 3 + 1, none⟩ = some (.int .i64 (rd_T25 l 1).f1) ∧ w'.cell? ⟨ad.block, ad.off + 3 + 2, none⟩ = some (.string (rd_T25 l 1).f2)) (ds := [9]) #[false, false, false, false, false, false, false, false, false, false] (by kernel_rfl) rfl rfl ⟨(HB.out).s, ((HB.out).at0 HL.out.1).1, ((HB.out).at0 HL.out.1).2.1, ((HB.out).at0 HL.out.1).2.2, ((HB.out).at1 HL.out.2).1, ((HB.out).at1 HL.out.2).2.1, ((HB.out).at1 HL.out.2).2.2⟩ (fun hHeld => ?_)
  refine take_ (i := 0) (N := some 20) (v := ?_) (a' := ?_) #[true, false, false, false, false, false, false, false, false, false] rfl rfl (by kernel_rfl) (fun _ _ _ h => h) (Or.inl ⟨by rfl, ?_⟩) hHeld ?_ ?_
  rotate_left
  · rintro w' ⟨s0, s1, s2, s3, s4, s5, s6⟩
    go_simp
    with_reducible rfl
  rotate_left
  · simp only [Act.put, List.setIfInBounds_toArray, List.set_cons_zero, List.set_cons_succ, i64_w, i32_w]
    rfl
  refine pure_ (i := 1) (N := some 21) (v := ?_) (a' := ?_) #[true, true, false, false, false, false, false, false, false, false] rfl rfl (by kernel_rfl) (fun _ _ _ h => h) (Or.inl ⟨by rfl, ?_⟩) ?_ ?_
  rotate_left
  · intro w'
    go_simp
    with_reducible rfl
  rotate_left
  · simp only [Act.put, List.setIfInBounds_toArray, List.set_cons_zero, List.set_cons_succ, i64_w, i32_w]
    rfl
  refine take_ (i := 2) (N := some 22) (v := ?_) (a' := ?_) #[true, true, true, false, false, false, false, false, false, false] rfl rfl (by kernel_rfl) (fun _ _ _ h => h) (Or.inl ⟨by rfl, ?_⟩) hHeld ?_ ?_
  rotate_left
  · rintro w' ⟨s0, s1, s2, s3, s4, s5, s6⟩
    go_simp
    with_reducible rfl
  rotate_left
  · simp only [Act.put, List.setIfInBounds_toArray, List.set_cons_zero, List.set_cons_succ, i64_w, i32_w]
    rfl
  refine take_ (i := 3) (N := some 23) (v := ?_) (a' := ?_) #[true, true, true, true, false, false, false, false, false, false] rfl rfl (by kernel_rfl) (fun _ _ _ h => h) (Or.inl ⟨by rfl, ?_⟩) hHeld ?_ ?_
  rotate_left
  · rintro w' ⟨s0, s1, s2, s3, s4, s5, s6⟩
    go_simp
    with_reducible rfl
  rotate_left
  · simp only [Act.put, List.setIfInBounds_toArray, List.set_cons_zero, List.set_cons_succ, i64_w, i32_w]
    rfl
  refine pure_ (i := 4) (N := some 24) (v := ?_) (a' := ?_) #[true, true, true, true, true, false, false, false, false, false] rfl rfl (by kernel_rfl) (fun _ _ _ h => h) (Or.inl ⟨by rfl, ?_⟩) ?_ ?_
  rotate_left
  · intro w'
    go_simp
    with_reducible rfl
  rotate_left
  · simp only [Act.put, List.setIfInBounds_toArray, List.set_cons_zero, List.set_cons_succ, i64_w, i32_w]
    rfl
  refine take_ (i := 5) (N := some 25) (v := ?_) (a' := ?_) #[true, true, true, true, true, true, false, false, false, false] rfl rfl (by kernel_rfl) (fun _ _ _ h => h) (Or.inl ⟨by rfl, ?_⟩) hHeld ?_ ?_
  rotate_left
  · rintro w' ⟨s0, s1, s2, s3, s4, s5, s6⟩
    go_simp
    with_reducible rfl
  rotate_left
  · simp only [Act.put, List.setIfInBounds_toArray, List.set_cons_zero, List.set_cons_succ, i64_w, i32_w]
    rfl
  refine join_ (σ := Nat × Nat) 2 #[true, true, true, true, true, true, true, true, false, false] (fun s => [(3, .pointer (some ⟨s.1, 0, none⟩)), (4, .pointer (some ⟨s.2, 0, none⟩))]) (fun s w' => AJ f l (some ad) c b0 b1 W zeroV zeroV s.1 s.2 w') ?_ ?_
  rotate_left
  · intro hCont
    refine two_ (i := 6) (j := 7) (Ni := some 3) (Nj := some 4) #[true, true, true, true, true, true, true, false, false, false] #[true, true, true, true, true, true, false, true, false, false] rfl rfl rfl rfl (by kernel_rfl) (by decide) (by decide) (fun K hK => ?_) (fun K hK => ?_)
    · skip
      refine value_ (w1 := ?_) (v := ?_) (by rfl) rfl ?_ ?_
      rotate_left 2
      · go_simp
        constructor
        · rfl
        · rfl
      have n0_ := Aside0.mk (AI.alloc HI.out (.cells #[.int .i64 0, .int .i64 0, .string (⟨#[]⟩ : ByteArray)] 25))
      clear HI
      have HI := n0_
      clear n0_
      refine hK.out _ _ ⟨(HI.out).s, ((HI.out).at0 HL.out.1).1, ((HI.out).at0 HL.out.1).2.1, ((HI.out).at0 HL.out.1).2.2, ((HI.out).at1 HL.out.2).1, ((HI.out).at1 HL.out.2).2.1, ((HI.out).at1 HL.out.2).2.2⟩ (fun hHeld => ?_)
      clear hK K
      refine norm_ (a' := ?_) ?_ ?_
      rotate_left
      · show Act.put _ (some 3) _ = _
        simp only [Act.put, List.setIfInBounds_toArray, List.set_cons_zero, List.set_cons_succ, i64_w, i32_w]
        rfl
      refine one_ (i := 7) (N := some 4) #[true, true, true, true, true, true, true, true, false, false] rfl rfl (by kernel_rfl) (by decide) (fun K hK => ?_)
      refine value_ (w1 := ?_) (v := ?_) (by rfl) rfl ?_ ?_
      rotate_left 2
      · go_simp
        constructor
        · rfl
        · rfl
      have n0_ := Aside0.mk (AI.alloc HI.out (.cells #[.int .i64 0, .int .i64 0, .string (⟨#[]⟩ : ByteArray)] 25))
      clear HI
      have HI := n0_
      clear n0_
      refine hK.out _ _ ⟨(HI.out).s, ((HI.out).at0 HL.out.1).1, ((HI.out).at0 HL.out.1).2.1, ((HI.out).at0 HL.out.1).2.2, ((HI.out).at1 HL.out.2).1, ((HI.out).at1 HL.out.2).2.1, ((HI.out).at1 HL.out.2).2.2⟩ (fun hHeld => ?_)
      clear hK K
      refine norm_ (a' := ?_) ?_ ?_
      rotate_left
      · show Act.put _ (some 4) _ = _
        simp only [Act.put, List.setIfInBounds_toArray, List.set_cons_zero, List.set_cons_succ, i64_w, i32_w]
        rfl
      exact norm_ (by first | (simp only [putAll, Act.put, List.setIfInBounds_toArray, List.set_cons_zero, List.set_cons_succ]; done) | (simp only [putAll, Act.put, List.setIfInBounds_toArray, List.set_cons_zero, List.set_cons_succ]; rfl)) (hCont (_, _) _ (AJ.two HB.out))
    · skip
      refine value_ (w1 := ?_) (v := ?_) (by rfl) rfl ?_ ?_
      rotate_left 2
      · go_simp
        constructor
        · rfl
        · rfl
      have n0_ := Aside0.mk (AI.alloc HI.out (.cells #[.int .i64 0, .int .i64 0, .string (⟨#[]⟩ : ByteArray)] 25))
      clear HI
      have HI := n0_
      clear n0_
      refine hK.out _ _ ⟨(HI.out).s, ((HI.out).at0 HL.out.1).1, ((HI.out).at0 HL.out.1).2.1, ((HI.out).at0 HL.out.1).2.2, ((HI.out).at1 HL.out.2).1, ((HI.out).at1 HL.out.2).2.1, ((HI.out).at1 HL.out.2).2.2⟩ (fun hHeld => ?_)
      clear hK K
      refine norm_ (a' := ?_) ?_ ?_
      rotate_left
      · show Act.put _ (some 4) _ = _
        simp only [Act.put, List.setIfInBounds_toArray, List.set_cons_zero, List.set_cons_succ, i64_w, i32_w]
        rfl
      refine one_ (i := 6) (N := some 3) #[true, true, true, true, true, true, true, true, false, false] rfl rfl (by kernel_rfl) (by decide) (fun K hK => ?_)
      refine value_ (w1 := ?_) (v := ?_) (by rfl) rfl ?_ ?_
      rotate_left 2
      · go_simp
        constructor
        · rfl
        · rfl
      have n0_ := Aside0.mk (AI.alloc HI.out (.cells #[.int .i64 0, .int .i64 0, .string (⟨#[]⟩ : ByteArray)] 25))
      clear HI
      have HI := n0_
      clear n0_
      refine hK.out _ _ ⟨(HI.out).s, ((HI.out).at0 HL.out.1).1, ((HI.out).at0 HL.out.1).2.1, ((HI.out).at0 HL.out.1).2.2, ((HI.out).at1 HL.out.2).1, ((HI.out).at1 HL.out.2).2.1, ((HI.out).at1 HL.out.2).2.2⟩ (fun hHeld => ?_)
      clear hK K
      refine norm_ (a' := ?_) ?_ ?_
      rotate_left
      · show Act.put _ (some 3) _ = _
        simp only [Act.put, List.setIfInBounds_toArray, List.set_cons_zero, List.set_cons_succ, i64_w, i32_w]
        rfl
      exact norm_ (by first | (simp only [putAll, Act.put, List.setIfInBounds_toArray, List.set_cons_zero, List.set_cons_succ]; done) | (simp only [putAll, Act.put, List.setIfInBounds_toArray, List.set_cons_zero, List.set_cons_succ]; rfl)) (hCont (_, _) _ (AJ.swap (AJ.two HB.out)))
  rintro ⟨b3, b4⟩ w5 hJ
  have HJ := Aside0.mk hJ
  clear hJ
  have HI := Aside0.mk HJ.out.1
  have hHeld := HI.out
  replace hHeld := (⟨(HI.out).s, ((HI.out).at0 HL.out.1).1, ((HI.out).at0 HL.out.1).2.1, ((HI.out).at0 HL.out.1).2.2, ((HI.out).at1 HL.out.2).1, ((HI.out).at1 HL.out.2).2.1, ((HI.out).at1 HL.out.2).2.2⟩ : (w5.cell? ⟨b1, 0, none⟩ = some (.slice (some ad) l.length c) ∧ w5.cell? ad = some (.int .i64 (rd_T25 l 0).f0) ∧ w5.cell? ⟨ad.block, ad.off + 1, none⟩ = some (.int .i64 (rd_T25 l 0).f1) ∧ w5.cell? ⟨ad.block, ad.off + 2, none⟩ = some (.string (rd_T25 l 0).f2) ∧ w5.cell? ⟨ad.block, ad.off + 3, none⟩ = some (.int .i64 (rd_T25 l 1).f0) ∧ w5.cell? ⟨ad.block, ad.off + 3 + 1, none⟩ = some (.int .i64 (rd_T25 l 1).f1) ∧ w5.cell? ⟨ad.block, ad.off + 3 + 2, none⟩ = some (.string (rd_T25 l 1).f2)))
  have hne : ¬ b3 = b4 := HJ.out.2.2.2.1
  have hne' : ¬ b4 = b3 := fun e => hne e.symm
  have ga0 : World.cell? _ ⟨b3, 0, none⟩ = some (.int .i64 0) := (blk_cell HJ.out.2.2.2.2.1 0).trans rfl
  have ga1 : World.cell? _ ⟨b3, 1, none⟩ = some (.int .i64 0) := (blk_cell HJ.out.2.2.2.2.1 1).trans rfl
  have ga2 : World.cell? _ ⟨b3, 2, none⟩ = some (.string (⟨#[]⟩ : ByteArray)) := (blk_cell HJ.out.2.2.2.2.1 2).trans rfl
  have gaf0 := blk_frozen HJ.out.2.2.2.2.1 0
  have gaf1 := blk_frozen HJ.out.2.2.2.2.1 1
  have gaf2 := blk_frozen HJ.out.2.2.2.2.1 2
  refine norm_ (a' := ?_) ?_ ?_
  rotate_left
  · simp only [putAll, Act.put, List.setIfInBounds_toArray, List.set_cons_zero, List.set_cons_succ]
    rfl
  refine one_ (i := 8) (N := none) #[true, true, true, true, true, true, true, true, true, false] rfl rfl (by kernel_rfl) (by decide) (fun K hK => ?_)
  refine skip_ (w1 := ?_) (by rfl) rfl ?_ ?_
  rotate_left
  · go_simp
    rfl
  have J2 := Aside0.mk (AJ.first (u' := (rd_T25 l 0)) HJ.out)
  clear HJ HI ga0 ga1 ga2 gaf0 gaf1 gaf2
  have HJ := J2
  clear J2
  have HI := Aside0.mk HJ.out.1
  have gb0 : World.cell? _ ⟨b4, 0, none⟩ = some (.int .i64 0) := (blk_cell HJ.out.2.2.2.2.2 0).trans rfl
  have gb1 : World.cell? _ ⟨b4, 1, none⟩ = some (.int .i64 0) := (blk_cell HJ.out.2.2.2.2.2 1).trans rfl
  have gb2 : World.cell? _ ⟨b4, 2, none⟩ = some (.string (⟨#[]⟩ : ByteArray)) := (blk_cell HJ.out.2.2.2.2.2 2).trans rfl
  have gbf0 := blk_frozen HJ.out.2.2.2.2.2 0
  have gbf1 := blk_frozen HJ.out.2.2.2.2.2 1
  have gbf2 := blk_frozen HJ.out.2.2.2.2.2 2
  refine hK.out _ _ ⟨(HI.out).s, ((HI.out).at0 HL.out.1).1, ((HI.out).at0 HL.out.1).2.1, ((HI.out).at0 HL.out.1).2.2, ((HI.out).at1 HL.out.2).1, ((HI.out).at1 HL.out.2).2.1, ((HI.out).at1 HL.out.2).2.2⟩ (fun hHeld => ?_)
  clear hK K
  refine last_ (i := 9) (N := none) #[true, true, true, true, true, true, true, true, true, true] rfl rfl (by kernel_rfl) (by decide) (fun K hK => ?_)
  refine skip_ (w1 := ?_) (by rfl) rfl ?_ ?_
  rotate_left
  · go_simp
    rfl
  have J2 := Aside0.mk (AJ.second (v' := (rd_T25 l 1)) HJ.out)
  clear HJ HI gb0 gb1 gb2 gbf0 gbf1 gbf2 hne hne'
  have HJ := J2
  clear J2
  refine hK.out _ _ ?_
  clear hK K
  refine done_ (by kernel_rfl) ?_
  refine at_exit (fun w' => AJ f l (some ad) c b0 b1 W (rd_T25 l 0) (rd_T25 l 1) b3 b4 w') HJ.out (fun w6 hJ => ?_)
  clear HJ
  have HJ := Aside0.mk hJ
  clear hJ
  have ga0 : World.cell? _ ⟨b3, 0, none⟩ = some (.int .i64 (rd_T25 l 0).f0) := (blk_cell HJ.out.2.2.2.2.1 0).trans rfl
  have ga1 : World.cell? _ ⟨b3, 1, none⟩ = some (.int .i64 (rd_T25 l 0).f1) := (blk_cell HJ.out.2.2.2.2.1 1).trans rfl
  have ga2 : World.cell? _ ⟨b3, 2, none⟩ = some (.string (rd_T25 l 0).f2) := (blk_cell HJ.out.2.2.2.2.1 2).trans rfl
  have gaf0 := blk_frozen HJ.out.2.2.2.2.1 0
  have gaf1 := blk_frozen HJ.out.2.2.2.2.1 1
  have gaf2 := blk_frozen HJ.out.2.2.2.2.1 2
  have gb0 : World.cell? _ ⟨b4, 0, none⟩ = some (.int .i64 (rd_T25 l 1).f0) := (blk_cell HJ.out.2.2.2.2.2 0).trans rfl
  have gb1 : World.cell? _ ⟨b4, 1, none⟩ = some (.int .i64 (rd_T25 l 1).f1) := (blk_cell HJ.out.2.2.2.2.2 1).trans rfl
  have gb2 : World.cell? _ ⟨b4, 2, none⟩ = some (.string (rd_T25 l 1).f2) := (blk_cell HJ.out.2.2.2.2.2 2).trans rfl
  have gbf0 := blk_frozen HJ.out.2.2.2.2.2 0
  have gbf1 := blk_frozen HJ.out.2.2.2.2.2 1
  have gbf2 := blk_frozen HJ.out.2.2.2.2.2 2
  have gz0 : World.cell? _ ⟨W.heap.size, 0, none⟩ = some (.int .i64 0) := (blk_cell HJ.out.1.z 0).trans rfl
  have gz1 : World.cell? _ ⟨W.heap.size, 1, none⟩ = some (.int .i64 0) := (blk_cell HJ.out.1.z 1).trans rfl
  have gz2 : World.cell? _ ⟨W.heap.size, 2, none⟩ = some (.string (⟨#[]⟩ : ByteArray)) := (blk_cell HJ.out.1.z 2).trans rfl
  have gzf0 := blk_frozen HJ.out.1.z 0
  have gzf1 := blk_frozen HJ.out.1.z 1
  have gzf2 := blk_frozen HJ.out.1.z 2
  go_wp2_with (first | (go_at_call 14; (with_reducible refine (calc_Args.calls 1 f _ _ (args_f f)).mono ?_); rintro e w' ⟨rfl, ⟨nd, rfl⟩⟩) | (go_at_call 30; (with_reducible refine (calc_check.yes _ _).mono ?_); rintro e w' ⟨rfl, rfl⟩) | (go_at_call 30; (with_reducible refine (calc_check.no _ _).mono ?_); rintro e w' ⟨rfl, rfl⟩))
  refine bodyPost_ret (v := encV (rd_T25 l 1)) (by simp [results, Try.results29, go_sem, encV, gz0, gz1, gz2]) rfl ⟨rfl, ?_⟩
  exact below_set3 HJ.out.1.bel (Nat.le_refl W.heap.size) _ _ _ _ _ _
set_option maxHeartbeats 2000000 in
set_option maxRecDepth 100000 in
theorem calc_Call1.one2 (f : Int) (l : List S25) (ad : Addr) (c b0 b1 : Nat) (W : World) (h0 : W.heap[b0]? = some (.cells #[.int .i64 f] 3 (0, 0))) (h1 : W.heap[b1]? = some (.cells #[.slice (some ad) l.length c] 22 (0, 0))) (hr : Kd.C k25 W (some ad) l.length l) (l0 : 0 < argsN f) (lc : (l.length : Int) = argsN f) (l2 : l.length = 2) (f6 : f = 6) (eq : (rd_T25 l 0).f0 = (rd_T25 l 1).f0) (a0 : ¬ (rd_T25 l 0).f0 = 0) :
    Calls Try.prog 29 #[.pointer (some ⟨b0, 0, none⟩), .pointer (some ⟨b1, 0, none⟩)] W (fun e w' => RE (.ok (rd_T25 l 0)) e ∧ Below W.heap.size W w') := by
  have hu25 := Try.underlying25
  have n0 : ¬ b0 = W.heap.size := by have := blk_lt h0; omega
  have n1 : ¬ b1 = W.heap.size := by have := blk_lt h1; omega
  have HS := Aside0.mk (AI.start h0 h1 hr)
  clear h0 h1 hr
  have hcF := HS.out.o
  have hcA := HS.out.s
  have HL := Aside0.mk (show 0 < l.length ∧ 1 < l.length by omega)
  have hL0 : (0 < l.length) = True := eq_true HL.out.1
  have hL1 : (1 < l.length) = True := eq_true HL.out.2
  have hD0 : decide (0 < l.length) = true := decide_eq_true HL.out.1
  have hD1 : decide (1 < l.length) = true := decide_eq_true HL.out.2
  have hI0 : (0 < (l.length : Int)) = True := eq_true (by have := HL.out.1; omega)
  have hI1 : (1 < (l.length : Int)) = True := eq_true (by have := HL.out.2; omega)
  have hE0 : decide (0 < (l.length : Int)) = true := decide_eq_true (by have := HL.out.1; omega)
  have hE1 : decide (1 < (l.length : Int)) = true := decide_eq_true (by have := HL.out.2; omega)
  have q0 : decide (0 < argsN f) = true := decide_eq_true l0
  have q1 : ((l.length : Int) == argsN f) = true := beq_iff_eq.mpr lc
  have q2 : (f == 6) = true := beq_iff_eq.mpr f6
  have q3 : ((rd_T25 l 0).f0 == (rd_T25 l 1).f0) = true := beq_iff_eq.mpr eq
  have q4 : ((rd_T25 l 0).f0 == 0) = false := beq_eq_false_iff_ne.mpr a0
  have l0' := Aside0.mk l0
  have lc' := Aside0.mk lc
  have l2' := Aside0.mk l2
  have f6' := Aside0.mk f6
  have eq' := Aside0.mk eq
  have a0' := Aside0.mk a0
  clear l0 lc l2 f6 eq a0
  go_enter Try.func29, Try.ntmps29
  go_wp2_with (first | (go_at_call 14; (with_reducible refine (calc_Args.calls 1 f _ _ (args_f f)).mono ?_); rintro e w' ⟨rfl, ⟨nd, rfl⟩⟩) | (go_at_call 30; (with_reducible refine (calc_check.yes _ _).mono ?_); rintro e w' ⟨rfl, rfl⟩) | (go_at_call 30; (with_reducible refine (calc_check.no _ _).mono ?_); rintro e w' ⟨rfl, rfl⟩))
  refine at_world (fun w' => AI f l (some ad) c b0 b1 W w') (by repeat (first | exact HS.out | refine AI.drewN ?_ _ | refine AI.drew ?_)) (fun w1 hI => ?_)
  have HI := Aside0.mk hI
  clear hI hcF hcA
  refine start_ (n := 6) (S := fun w' => w'.cell? ⟨b0, 0, none⟩ = some (.int .i64 f) ∧ w'.cell? ⟨b1, 0, none⟩ = some (.slice (some ad) l.length c)) (ds := []) #[false, false, false, false, false, false] (by kernel_rfl) rfl rfl ⟨HI.out.drew.o, HI.out.drew.s⟩ (fun hHeld => ?_)
  refine take_ (i := 0) (N := some 12) (v := ?_) (a' := ?_) #[true, false, false, false, false, false] rfl rfl (by kernel_rfl) (fun _ _ _ h => h) (Or.inl ⟨by rfl, ?_⟩) hHeld ?_ ?_
  rotate_left
  · rintro w' ⟨s0, s1⟩
    go_simp
    with_reducible rfl
  rotate_left
  · simp only [Act.put, List.setIfInBounds_toArray, List.set_cons_zero, List.set_cons_succ, i64_w, i32_w]
    rfl
  refine pure_ (i := 1) (N := some 13) (v := ?_) (a' := ?_) #[true, true, false, false, false, false] rfl rfl (by kernel_rfl) (fun _ _ _ h => h) (Or.inl ⟨by rfl, ?_⟩) ?_ ?_
  rotate_left
  · intro w'
    go_simp
    with_reducible rfl
  rotate_left
  · simp only [Act.put, List.setIfInBounds_toArray, List.set_cons_zero, List.set_cons_succ, i64_w, i32_w]
    rfl
  refine take_ (i := 2) (N := some 14) (v := ?_) (a' := ?_) #[true, true, true, false, false, false] rfl rfl (by kernel_rfl) (fun _ _ _ h => h) (Or.inl ⟨by rfl, ?_⟩) hHeld ?_ ?_
  rotate_left
  · rintro w' ⟨s0, s1⟩
    go_simp
    with_reducible rfl
  rotate_left
  · simp only [Act.put, List.setIfInBounds_toArray, List.set_cons_zero, List.set_cons_succ, i64_w, i32_w]
    rfl
  refine one_ (i := 3) (N := some 15) #[true, true, true, true, false, false] rfl rfl (by kernel_rfl) (by decide) (fun K hK => ?_)
  refine goes_ Try.func14 (by kernel_rfl) rfl #[.int .i64 f] (by rfl) rfl rfl (by simp only [List.map_toArray, List.map_cons, List.map_nil]; rfl) ?_
  with_reducible refine (calc_Args.calls 1 f _ _ (args_f f)).mono ?_
  rintro e w2 ⟨rfl, ⟨nd3, rfl⟩⟩
  refine ⟨_, rfl, ?_⟩
  have n0_ := Aside0.mk (AI.drewN HI.out.drew nd3)
  clear HI
  have HI := n0_
  clear n0_
  refine hK.out _ _ ⟨HI.out.o, HI.out.s⟩ (fun hHeld => ?_)
  clear hK K
  refine norm_ (a' := ?_) ?_ ?_
  rotate_left
  · show Act.put _ (some 15) _ = _
    simp only [Act.put, List.setIfInBounds_toArray, List.set_cons_zero, List.set_cons_succ, i64_w, i32_w]
    rfl
  refine pure_ (i := 4) (N := some 16) (v := ?_) (a' := ?_) #[true, true, true, true, true, false] rfl rfl (by kernel_rfl) (fun _ _ _ h => h) (Or.inl ⟨by rfl, ?_⟩) ?_ ?_
  rotate_left
  · intro w'
    go_simp
    with_reducible rfl
  rotate_left
  · simp only [Act.put, List.setIfInBounds_toArray, List.set_cons_zero, List.set_cons_succ, i64_w, i32_w]
    rfl
  refine one_ (i := 5) (N := some 17) #[true, true, true, true, true, true] rfl rfl (by kernel_rfl) (by decide) (fun K hK => ?_)
  refine goes_ Try.func30 (by kernel_rfl) rfl #[.bool true, .int .i64 37] (by rfl) rfl rfl (by simp only [List.map_toArray, List.map_cons, List.map_nil]; rfl) ?_
  with_reducible refine (calc_check.yes _ _).mono ?_
  rintro e w2 ⟨rfl, rfl⟩
  refine ⟨_, rfl, ?_⟩
  refine hK.out _ _ ⟨HI.out.o, HI.out.s⟩ (fun hHeld => ?_)
  clear hK K
  refine norm_ (a' := ?_) ?_ ?_
  rotate_left
  · show Act.put _ (some 17) _ = _
    simp only [Act.put, List.setIfInBounds_toArray, List.set_cons_zero, List.set_cons_succ, i64_w, i32_w]
    rfl
  refine done_ (by kernel_rfl) ?_
  refine at_exit (fun w' => AI f l (some ad) c b0 b1 W w') HI.out (fun w3 hI => ?_)
  clear HI
  have HI := Aside0.mk hI
  clear hI
  have hcF := HI.out.o
  go_wp2_with fail
  refine at_world (fun w' => AI f l (some ad) c b0 b1 W w') (by repeat (first | exact HI.out | refine AI.drewN ?_ _ | refine AI.drew ?_)) (fun w4 hI => ?_)
  clear HI hcF
  have HI := Aside0.mk hI
  clear hI
  have HB := Aside0.mk HI.out.drew
  clear HI
  have HI := HB
  refine start_ (n := 10) (S := fun w' => w'.cell? ⟨b1, 0, none⟩ = some (.slice (some ad) l.length c) ∧ w'.cell? ad = some (.int .i64 (rd_T25 l 0).f0) ∧ w'.cell? ⟨ad.block, ad.off + 1, none⟩ = some (.int .i64 (rd_T25 l 0).f1) ∧ w'.cell? ⟨ad.block, ad.off + 2, none⟩ = some (.string (rd_T25 l 0).f2) ∧ w'.cell? ⟨ad.block, ad.off + 3, none⟩ = some (.int .i64 (rd_T25 l 1).f0) ∧ w'.cell? ⟨ad.block, ad.off + 3 + 1, none⟩ = some (.int .i64 (rd_T25 l 1).f1) ∧ w'.cell? ⟨ad.block, ad.off + 3 + 2, none⟩ = some (.string (rd_T25 l 1).f2)) (ds := [9]) #[false, false, false, false, false, false, false, false, false, false] (by kernel_rfl) rfl rfl ⟨(HB.out).s, ((HB.out).at0 HL.out.1).1, ((HB.out).at0 HL.out.1).2.1, ((HB.out).at0 HL.out.1).2.2, ((HB.out).at1 HL.out.2).1, ((HB.out).at1 HL.out.2).2.1, ((HB.out).at1 HL.out.2).2.2⟩ (fun hHeld => ?_)
  refine take_ (i := 0) (N := some 20) (v := ?_) (a' := ?_) #[true, false, false, false, false, false, false, false, false, false] rfl rfl (by kernel_rfl) (fun _ _ _ h => h) (Or.inl ⟨by rfl, ?_⟩) hHeld ?_ ?_
  rotate_left
  · rintro w' ⟨s0, s1, s2, s3, s4, s5, s6⟩
    go_simp
    with_reducible rfl
  rotate_left
  · simp only [Act.put, List.setIfInBounds_toArray, List.set_cons_zero, List.set_cons_succ, i64_w, i32_w]
    rfl
  refine pure_ (i := 1) (N := some 21) (v := ?_) (a' := ?_) #[true, true, false, false, false, false, false, false, false, false] rfl rfl (by kernel_rfl) (fun _ _ _ h => h) (Or.inl ⟨by rfl, ?_⟩) ?_ ?_
  rotate_left
  · intro w'
    go_simp
    with_reducible rfl
  rotate_left
  · simp only [Act.put, List.setIfInBounds_toArray, List.set_cons_zero, List.set_cons_succ, i64_w, i32_w]
    rfl
  refine take_ (i := 2) (N := some 22) (v := ?_) (a' := ?_) #[true, true, true, false, false, false, false, false, false, false] rfl rfl (by kernel_rfl) (fun _ _ _ h => h) (Or.inl ⟨by rfl, ?_⟩) hHeld ?_ ?_
  rotate_left
  · rintro w' ⟨s0, s1, s2, s3, s4, s5, s6⟩
    go_simp
    with_reducible rfl
  rotate_left
  · simp only [Act.put, List.setIfInBounds_toArray, List.set_cons_zero, List.set_cons_succ, i64_w, i32_w]
    rfl
  refine take_ (i := 3) (N := some 23) (v := ?_) (a' := ?_) #[true, true, true, true, false, false, false, false, false, false] rfl rfl (by kernel_rfl) (fun _ _ _ h => h) (Or.inl ⟨by rfl, ?_⟩) hHeld ?_ ?_
  rotate_left
  · rintro w' ⟨s0, s1, s2, s3, s4, s5, s6⟩
    go_simp
    with_reducible rfl
  rotate_left
  · simp only [Act.put, List.setIfInBounds_toArray, List.set_cons_zero, List.set_cons_succ, i64_w, i32_w]
    rfl
  refine pure_ (i := 4) (N := some 24) (v := ?_) (a' := ?_) #[true, true, true, true, true, false, false, false, false, false] rfl rfl (by kernel_rfl) (fun _ _ _ h => h) (Or.inl ⟨by rfl, ?_⟩) ?_ ?_
  rotate_left
  · intro w'
    go_simp
    with_reducible rfl
  rotate_left
  · simp only [Act.put, List.setIfInBounds_toArray, List.set_cons_zero, List.set_cons_succ, i64_w, i32_w]
    rfl
  refine take_ (i := 5) (N := some 25) (v := ?_) (a' := ?_) #[true, true, true, true, true, true, false, false, false, false] rfl rfl (by kernel_rfl) (fun _ _ _ h => h) (Or.inl ⟨by rfl, ?_⟩) hHeld ?_ ?_
  rotate_left
  · rintro w' ⟨s0, s1, s2, s3, s4, s5, s6⟩
    go_simp
    with_reducible rfl
  rotate_left
  · simp only [Act.put, List.setIfInBounds_toArray, List.set_cons_zero, List.set_cons_succ, i64_w, i32_w]
    rfl
  refine join_ (σ := Nat × Nat) 2 #[true, true, true, true, true, true, true, true, false, false] (fun s => [(3, .pointer (some ⟨s.1, 0, none⟩)), (4, .pointer (some ⟨s.2, 0, none⟩))]) (fun s w' => AJ f l (some ad) c b0 b1 W zeroV zeroV s.1 s.2 w') ?_ ?_
  rotate_left
  · intro hCont
    refine two_ (i := 6) (j := 7) (Ni := some 3) (Nj := some 4) #[true, true, true, true, true, true, true, false, false, false] #[true, true, true, true, true, true, false, true, false, false] rfl rfl rfl rfl (by kernel_rfl) (by decide) (by decide) (fun K hK => ?_) (fun K hK => ?_)
    · skip
      refine value_ (w1 := ?_) (v := ?_) (by rfl) rfl ?_ ?_
      rotate_left 2
      · go_simp
        constructor
        · rfl
        · rfl
      have n0_ := Aside0.mk (AI.alloc HI.out (.cells #[.int .i64 0, .int .i64 0, .string (⟨#[]⟩ : ByteArray)] 25))
      clear HI
      have HI := n0_
      clear n0_
      refine hK.out _ _ ⟨(HI.out).s, ((HI.out).at0 HL.out.1).1, ((HI.out).at0 HL.out.1).2.1, ((HI.out).at0 HL.out.1).2.2, ((HI.out).at1 HL.out.2).1, ((HI.out).at1 HL.out.2).2.1, ((HI.out).at1 HL.out.2).2.2⟩ (fun hHeld => ?_)
      clear hK K
      refine norm_ (a' := ?_) ?_ ?_
      rotate_left
      · show Act.put _ (some 3) _ = _
        simp only [Act.put, List.setIfInBounds_toArray, List.set_cons_zero, List.set_cons_succ, i64_w, i32_w]
        rfl
      refine one_ (i := 7) (N := some 4) #[true, true, true, true, true, true, true, true, false, false] rfl rfl (by kernel_rfl) (by decide) (fun K hK => ?_)
      refine value_ (w1 := ?_) (v := ?_) (by rfl) rfl ?_ ?_
      rotate_left 2
      · go_simp
        constructor
        · rfl
        · rfl
      have n0_ := Aside0.mk (AI.alloc HI.out (.cells #[.int .i64 0, .int .i64 0, .string (⟨#[]⟩ : ByteArray)] 25))
      clear HI
      have HI := n0_
      clear n0_
      refine hK.out _ _ ⟨(HI.out).s, ((HI.out).at0 HL.out.1).1, ((HI.out).at0 HL.out.1).2.1, ((HI.out).at0 HL.out.1).2.2, ((HI.out).at1 HL.out.2).1, ((HI.out).at1 HL.out.2).2.1, ((HI.out).at1 HL.out.2).2.2⟩ (fun hHeld => ?_)
      clear hK K
      refine norm_ (a' := ?_) ?_ ?_
      rotate_left
      · show Act.put _ (some 4) _ = _
        simp only [Act.put, List.setIfInBounds_toArray, List.set_cons_zero, List.set_cons_succ, i64_w, i32_w]
        rfl
      exact norm_ (by first | (simp only [putAll, Act.put, List.setIfInBounds_toArray, List.set_cons_zero, List.set_cons_succ]; done) | (simp only [putAll, Act.put, List.setIfInBounds_toArray, List.set_cons_zero, List.set_cons_succ]; rfl)) (hCont (_, _) _ (AJ.two HB.out))
    · skip
      refine value_ (w1 := ?_) (v := ?_) (by rfl) rfl ?_ ?_
      rotate_left 2
      · go_simp
        constructor
        · rfl
        · rfl
      have n0_ := Aside0.mk (AI.alloc HI.out (.cells #[.int .i64 0, .int .i64 0, .string (⟨#[]⟩ : ByteArray)] 25))
      clear HI
      have HI := n0_
      clear n0_
      refine hK.out _ _ ⟨(HI.out).s, ((HI.out).at0 HL.out.1).1, ((HI.out).at0 HL.out.1).2.1, ((HI.out).at0 HL.out.1).2.2, ((HI.out).at1 HL.out.2).1, ((HI.out).at1 HL.out.2).2.1, ((HI.out).at1 HL.out.2).2.2⟩ (fun hHeld => ?_)
      clear hK K
      refine norm_ (a' := ?_) ?_ ?_
      rotate_left
      · show Act.put _ (some 4) _ = _
        simp only [Act.put, List.setIfInBounds_toArray, List.set_cons_zero, List.set_cons_succ, i64_w, i32_w]
        rfl
      refine one_ (i := 6) (N := some 3) #[true, true, true, true, true, true, true, true, false, false] rfl rfl (by kernel_rfl) (by decide) (fun K hK => ?_)
      refine value_ (w1 := ?_) (v := ?_) (by rfl) rfl ?_ ?_
      rotate_left 2
      · go_simp
        constructor
        · rfl
        · rfl
      have n0_ := Aside0.mk (AI.alloc HI.out (.cells #[.int .i64 0, .int .i64 0, .string (⟨#[]⟩ : ByteArray)] 25))
      clear HI
      have HI := n0_
      clear n0_
      refine hK.out _ _ ⟨(HI.out).s, ((HI.out).at0 HL.out.1).1, ((HI.out).at0 HL.out.1).2.1, ((HI.out).at0 HL.out.1).2.2, ((HI.out).at1 HL.out.2).1, ((HI.out).at1 HL.out.2).2.1, ((HI.out).at1 HL.out.2).2.2⟩ (fun hHeld => ?_)
      clear hK K
      refine norm_ (a' := ?_) ?_ ?_
      rotate_left
      · show Act.put _ (some 3) _ = _
        simp only [Act.put, List.setIfInBounds_toArray, List.set_cons_zero, List.set_cons_succ, i64_w, i32_w]
        rfl
      exact norm_ (by first | (simp only [putAll, Act.put, List.setIfInBounds_toArray, List.set_cons_zero, List.set_cons_succ]; done) | (simp only [putAll, Act.put, List.setIfInBounds_toArray, List.set_cons_zero, List.set_cons_succ]; rfl)) (hCont (_, _) _ (AJ.swap (AJ.two HB.out)))
  rintro ⟨b3, b4⟩ w5 hJ
  have HJ := Aside0.mk hJ
  clear hJ
  have HI := Aside0.mk HJ.out.1
  have hHeld := HI.out
  replace hHeld := (⟨(HI.out).s, ((HI.out).at0 HL.out.1).1, ((HI.out).at0 HL.out.1).2.1, ((HI.out).at0 HL.out.1).2.2, ((HI.out).at1 HL.out.2).1, ((HI.out).at1 HL.out.2).2.1, ((HI.out).at1 HL.out.2).2.2⟩ : (w5.cell? ⟨b1, 0, none⟩ = some (.slice (some ad) l.length c) ∧ w5.cell? ad = some (.int .i64 (rd_T25 l 0).f0) ∧ w5.cell? ⟨ad.block, ad.off + 1, none⟩ = some (.int .i64 (rd_T25 l 0).f1) ∧ w5.cell? ⟨ad.block, ad.off + 2, none⟩ = some (.string (rd_T25 l 0).f2) ∧ w5.cell? ⟨ad.block, ad.off + 3, none⟩ = some (.int .i64 (rd_T25 l 1).f0) ∧ w5.cell? ⟨ad.block, ad.off + 3 + 1, none⟩ = some (.int .i64 (rd_T25 l 1).f1) ∧ w5.cell? ⟨ad.block, ad.off + 3 + 2, none⟩ = some (.string (rd_T25 l 1).f2)))
  have hne : ¬ b3 = b4 := HJ.out.2.2.2.1
  have hne' : ¬ b4 = b3 := fun e => hne e.symm
  have ga0 : World.cell? _ ⟨b3, 0, none⟩ = some (.int .i64 0) := (blk_cell HJ.out.2.2.2.2.1 0).trans rfl
  have ga1 : World.cell? _ ⟨b3, 1, none⟩ = some (.int .i64 0) := (blk_cell HJ.out.2.2.2.2.1 1).trans rfl
  have ga2 : World.cell? _ ⟨b3, 2, none⟩ = some (.string (⟨#[]⟩ : ByteArray)) := (blk_cell HJ.out.2.2.2.2.1 2).trans rfl
  have gaf0 := blk_frozen HJ.out.2.2.2.2.1 0
  have gaf1 := blk_frozen HJ.out.2.2.2.2.1 1
  have gaf2 := blk_frozen HJ.out.2.2.2.2.1 2
  refine norm_ (a' := ?_) ?_ ?_
  rotate_left
  · simp only [putAll, Act.put, List.setIfInBounds_toArray, List.set_cons_zero, List.set_cons_succ]
    rfl
  refine one_ (i := 8) (N := none) #[true, true, true, true, true, true, true, true, true, false] rfl rfl (by kernel_rfl) (by decide) (fun K hK => ?_)
  refine skip_ (w1 := ?_) (by rfl) rfl ?_ ?_
  rotate_left
  · go_simp
    rfl
  have J2 := Aside0.mk (AJ.first (u' := (rd_T25 l 0)) HJ.out)
  clear HJ HI ga0 ga1 ga2 gaf0 gaf1 gaf2
  have HJ := J2
  clear J2
  have HI := Aside0.mk HJ.out.1
  have gb0 : World.cell? _ ⟨b4, 0, none⟩ = some (.int .i64 0) := (blk_cell HJ.out.2.2.2.2.2 0).trans rfl
  have gb1 : World.cell? _ ⟨b4, 1, none⟩ = some (.int .i64 0) := (blk_cell HJ.out.2.2.2.2.2 1).trans rfl
  have gb2 : World.cell? _ ⟨b4, 2, none⟩ = some (.string (⟨#[]⟩ : ByteArray)) := (blk_cell HJ.out.2.2.2.2.2 2).trans rfl
  have gbf0 := blk_frozen HJ.out.2.2.2.2.2 0
  have gbf1 := blk_frozen HJ.out.2.2.2.2.2 1
  have gbf2 := blk_frozen HJ.out.2.2.2.2.2 2
  refine hK.out _ _ ⟨(HI.out).s, ((HI.out).at0 HL.out.1).1, ((HI.out).at0 HL.out.1).2.1, ((HI.out).at0 HL.out.1).2.2, ((HI.out).at1 HL.out.2).1, ((HI.out).at1 HL.out.2).2.1, ((HI.out).at1 HL.out.2).2.2⟩ (fun hHeld => ?_)
  clear hK K
  refine last_ (i := 9) (N := none) #[true, true, true, true, true, true, true, true, true, true] rfl rfl (by kernel_rfl) (by decide) (fun K hK => ?_)
  refine skip_ (w1 := ?_) (by rfl) rfl ?_ ?_
  rotate_left
  · go_simp
    rfl
  have J2 := Aside0.mk (AJ.second (v' := (rd_T25 l 1)) HJ.out)
  clear HJ HI gb0 gb1 gb2 gbf0 gbf1 gbf2 hne hne'
  have HJ := J2
  clear J2
  refine hK.out _ _ ?_
  clear hK K
  refine done_ (by kernel_rfl) ?_
  refine at_exit (fun w' => AJ f l (some ad) c b0 b1 W (rd_T25 l 0) (rd_T25 l 1) b3 b4 w') HJ.out (fun w6 hJ => ?_)
  clear HJ
  have HJ := Aside0.mk hJ
  clear hJ
  have ga0 : World.cell? _ ⟨b3, 0, none⟩ = some (.int .i64 (rd_T25 l 0).f0) := (blk_cell HJ.out.2.2.2.2.1 0).trans rfl
  have ga1 : World.cell? _ ⟨b3, 1, none⟩ = some (.int .i64 (rd_T25 l 0).f1) := (blk_cell HJ.out.2.2.2.2.1 1).trans rfl
  have ga2 : World.cell? _ ⟨b3, 2, none⟩ = some (.string (rd_T25 l 0).f2) := (blk_cell HJ.out.2.2.2.2.1 2).trans rfl
  have gaf0 := blk_frozen HJ.out.2.2.2.2.1 0
  have gaf1 := blk_frozen HJ.out.2.2.2.2.1 1
  have gaf2 := blk_frozen HJ.out.2.2.2.2.1 2
  have gb0 : World.cell? _ ⟨b4, 0, none⟩ = some (.int .i64 (rd_T25 l 1).f0) := (blk_cell HJ.out.2.2.2.2.2 0).trans rfl
  have gb1 : World.cell? _ ⟨b4, 1, none⟩ = some (.int .i64 (rd_T25 l 1).f1) := (blk_cell HJ.out.2.2.2.2.2 1).trans rfl
  have gb2 : World.cell? _ ⟨b4, 2, none⟩ = some (.string (rd_T25 l 1).f2) := (blk_cell HJ.out.2.2.2.2.2 2).trans rfl
  have gbf0 := blk_frozen HJ.out.2.2.2.2.2 0
  have gbf1 := blk_frozen HJ.out.2.2.2.2.2 1
  have gbf2 := blk_frozen HJ.out.2.2.2.2.2 2
  have gz0 : World.cell? _ ⟨W.heap.size, 0, none⟩ = some (.int .i64 0) := (blk_cell HJ.out.1.z 0).trans rfl
  have gz1 : World.cell? _ ⟨W.heap.size, 1, none⟩ = some (.int .i64 0) := (blk_cell HJ.out.1.z 1).trans rfl
  have gz2 : World.cell? _ ⟨W.heap.size, 2, none⟩ = some (.string (⟨#[]⟩ : ByteArray)) := (blk_cell HJ.out.1.z 2).trans rfl
  have gzf0 := blk_frozen HJ.out.1.z 0
  have gzf1 := blk_frozen HJ.out.1.z 1
  have gzf2 := blk_frozen HJ.out.1.z 2
  go_wp2_with (first | (go_at_call 14; (with_reducible refine (calc_Args.calls 1 f _ _ (args_f f)).mono ?_); rintro e w' ⟨rfl, ⟨nd, rfl⟩⟩) | (go_at_call 30; (with_reducible refine (calc_check.yes _ _).mono ?_); rintro e w' ⟨rfl, rfl⟩) | (go_at_call 30; (with_reducible refine (calc_check.no _ _).mono ?_); rintro e w' ⟨rfl, rfl⟩))
  refine bodyPost_ret (v := encV (rd_T25 l 0)) (by simp [results, Try.results29, go_sem, encV, gz0, gz1, gz2]) rfl ⟨rfl, ?_⟩
  exact below_set3 HJ.out.1.bel (Nat.le_refl W.heap.size) _ _ _ _ _ _
set_option maxHeartbeats 2000000 in
set_option maxRecDepth 100000 in
theorem calc_Call1.one3 (f : Int) (l : List S25) (ad : Addr) (c b0 b1 : Nat) (W : World) (h0 : W.heap[b0]? = some (.cells #[.int .i64 f] 3 (0, 0))) (h1 : W.heap[b1]? = some (.cells #[.slice (some ad) l.length c] 22 (0, 0))) (hr : Kd.C k25 W (some ad) l.length l) (l0 : 0 < argsN f) (lc : (l.length : Int) = argsN f) (l2 : l.length = 2) (f6 : f = 6) (eq : ¬ (rd_T25 l 0).f0 = (rd_T25 l 1).f0) (a0 : (rd_T25 l 0).f0 = 0) :
    Calls Try.prog 29 #[.pointer (some ⟨b0, 0, none⟩), .pointer (some ⟨b1, 0, none⟩)] W (fun e w' => RE (.ok (rd_T25 l 1)) e ∧ Below W.heap.size W w') := by
  have hu25 := Try.underlying25
  have n0 : ¬ b0 = W.heap.size := by have := blk_lt h0; omega
  have n1 : ¬ b1 = W.heap.size := by have := blk_lt h1; omega
  have HS := Aside0.mk (AI.start h0 h1 hr)
  clear h0 h1 hr
  have hcF := HS.out.o
  have hcA := HS.out.s
  have HL := Aside0.mk (show 0 < l.length ∧ 1 < l.length by omega)
  have hL0 : (0 < l.length) = True := eq_true HL.out.1
  have hL1 : (1 < l.length) = True := eq_true HL.out.2
  have hD0 : decide (0 < l.length) = true := decide_eq_true HL.out.1
  have hD1 : decide (1 < l.length) = true := decide_eq_true HL.out.2
  have hI0 : (0 < (l.length : Int)) = True := eq_true (by have := HL.out.1; omega)
  have hI1 : (1 < (l.length : Int)) = True := eq_true (by have := HL.out.2; omega)
  have hE0 : decide (0 < (l.length : Int)) = true := decide_eq_true (by have := HL.out.1; omega)
  have hE1 : decide (1 < (l.length : Int)) = true := decide_eq_true (by have := HL.out.2; omega)
  have q0 : decide (0 < argsN f) = true := decide_eq_true l0
  have q1 : ((l.length : Int) == argsN f) = true := beq_iff_eq.mpr lc
  have q2 : (f == 6) = true := beq_iff_eq.mpr f6
  have q3 : ((rd_T25 l 0).f0 == (rd_T25 l 1).f0) = false := beq_eq_false_iff_ne.mpr eq
  have q4 : ((rd_T25 l 0).f0 == 0) = true := beq_iff_eq.mpr a0
  have l0' := Aside0.mk l0
  have lc' := Aside0.mk lc
  have l2' := Aside0.mk l2
  have f6' := Aside0.mk f6
  have eq' := Aside0.mk eq
  have a0' := Aside0.mk a0
  clear l0 lc l2 f6 eq a0
  go_enter Try.func29, Try.ntmps29
  go_wp2_with (first | (go_at_call 14; (with_reducible refine (calc_Args.calls 1 f _ _ (args_f f)).mono ?_); rintro e w' ⟨rfl, ⟨nd, rfl⟩⟩) | (go_at_call 30; (with_reducible refine (calc_check.yes _ _).mono ?_); rintro e w' ⟨rfl, rfl⟩) | (go_at_call 30; (with_reducible refine (calc_check.no _ _).mono ?_); rintro e w' ⟨rfl, rfl⟩))
  refine at_world (fun w' => AI f l (some ad) c b0 b1 W w') (by repeat (first | exact HS.out | refine AI.drewN ?_ _ | refine AI.drew ?_)) (fun w1 hI => ?_)
  have HI := Aside0.mk hI
  clear hI hcF hcA
  refine start_ (n := 6) (S := fun w' => w'.cell? ⟨b0, 0, none⟩ = some (.int .i64 f) ∧ w'.cell? ⟨b1, 0, none⟩ = some (.slice (some ad) l.length c)) (ds := []) #[false, false, false, false, false, false] (by kernel_rfl) rfl rfl ⟨HI.out.drew.o, HI.out.drew.s⟩ (fun hHeld => ?_)
  refine take_ (i := 0) (N := some 12) (v := ?_) (a' := ?_) #[true, false, false, false, false, false] rfl rfl (by kernel_rfl) (fun _ _ _ h => h) (Or.inl ⟨by rfl, ?_⟩) hHeld ?_ ?_
  rotate_left
  · rintro w' ⟨s0, s1⟩
    go_simp
    with_reducible rfl
  rotate_left
  · simp only [Act.put, List.setIfInBounds_toArray, List.set_cons_zero, List.set_cons_succ, i64_w, i32_w]
    rfl
  refine pure_ (i := 1) (N := some 13) (v := ?_) (a' := ?_) #[true, true, false, false, false, false] rfl rfl (by kernel_rfl) (fun _ _ _ h => h) (Or.inl ⟨by rfl, ?_⟩) ?_ ?_
  rotate_left
  · intro w'
    go_simp
    with_reducible rfl
  rotate_left
  · simp only [Act.put, List.setIfInBounds_toArray, List.set_cons_zero, List.set_cons_succ, i64_w, i32_w]
    rfl
  refine take_ (i := 2) (N := some 14) (v := ?_) (a' := ?_) #[true, true, true, false, false, false] rfl rfl (by kernel_rfl) (fun _ _ _ h => h) (Or.inl ⟨by rfl, ?_⟩) hHeld ?_ ?_
  rotate_left
  · rintro w' ⟨s0, s1⟩
    go_simp
    with_reducible rfl
  rotate_left
  · simp only [Act.put, List.setIfInBounds_toArray, List.set_cons_zero, List.set_cons_succ, i64_w, i32_w]
    rfl
  refine one_ (i := 3) (N := some 15) #[true, true, true, true, false, false] rfl rfl (by kernel_rfl) (by decide) (fun K hK => ?_)
  refine goes_ Try.func14 (by kernel_rfl) rfl #[.int .i64 f] (by rfl) rfl rfl (by simp only [List.map_toArray, List.map_cons, List.map_nil]; rfl) ?_
  with_reducible refine (calc_Args.calls 1 f _ _ (args_f f)).mono ?_
  rintro e w2 ⟨rfl, ⟨nd3, rfl⟩⟩
  refine ⟨_, rfl, ?_⟩
  have n0_ := Aside0.mk (AI.drewN HI.out.drew nd3)
  clear HI
  have HI := n0_
  clear n0_
  refine hK.out _ _ ⟨HI.out.o, HI.out.s⟩ (fun hHeld => ?_)
  clear hK K
  refine norm_ (a' := ?_) ?_ ?_
  rotate_left
  · show Act.put _ (some 15) _ = _
    simp only [Act.put, List.setIfInBounds_toArray, List.set_cons_zero, List.set_cons_succ, i64_w, i32_w]
    rfl
  refine pure_ (i := 4) (N := some 16) (v := ?_) (a' := ?_) #[true, true, true, true, true, false] rfl rfl (by kernel_rfl) (fun _ _ _ h => h) (Or.inl ⟨by rfl, ?_⟩) ?_ ?_
  rotate_left
  · intro w'
    go_simp
    with_reducible rfl
  rotate_left
  · simp only [Act.put, List.setIfInBounds_toArray, List.set_cons_zero, List.set_cons_succ, i64_w, i32_w]
    rfl
  refine one_ (i := 5) (N := some 17) #[true, true, true, true, true, true] rfl rfl (by kernel_rfl) (by decide) (fun K hK => ?_)
  refine goes_ Try.func30 (by kernel_rfl) rfl #[.bool true, .int .i64 37] (by rfl) rfl rfl (by simp only [List.map_toArray, List.map_cons, List.map_nil]; rfl) ?_
  with_reducible refine (calc_check.yes _ _).mono ?_
  rintro e w2 ⟨rfl, rfl⟩
  refine ⟨_, rfl, ?_⟩
  refine hK.out _ _ ⟨HI.out.o, HI.out.s⟩ (fun hHeld => ?_)
  clear hK K
  refine norm_ (a' := ?_) ?_ ?_
  rotate_left
  · show Act.put _ (some 17) _ = _
    simp only [Act.put, List.setIfInBounds_toArray, List.set_cons_zero, List.set_cons_succ, i64_w, i32_w]
    rfl
  refine done_ (by kernel_rfl) ?_
  refine at_exit (fun w' => AI f l (some ad) c b0 b1 W w') HI.out (fun w3 hI => ?_)
  clear HI
  have HI := Aside0.mk hI
  clear hI
  have hcF := HI.out.o
  go_wp2_with fail
  refine at_world (fun w' => AI f l (some ad) c b0 b1 W w') (by repeat (first | exact HI.out | refine AI.drewN ?_ _ | refine AI.drew ?_)) (fun w4 hI => ?_)
  clear HI hcF
  have HI := Aside0.mk hI
  clear hI
  have HB := Aside0.mk HI.out.drew
  clear HI
  have HI := HB
  refine start_ (n := 10) (S := fun w' => w'.cell? ⟨b1, 0, none⟩ = some (.slice (some ad) l.length c) ∧ w'.cell? ad = some (.int .i64 (rd_T25 l 0).f0) ∧ w'.cell? ⟨ad.block, ad.off + 1, none⟩ = some (.int .i64 (rd_T25 l 0).f1) ∧ w'.cell? ⟨ad.block, ad.off + 2, none⟩ = some (.string (rd_T25 l 0).f2) ∧ w'.cell? ⟨ad.block, ad.off + 3, none⟩ = some (.int .i64 (rd_T25 l 1).f0) ∧ w'.cell? ⟨ad.block, ad.off + 3 + 1, none⟩ = some (.int .i64 (rd_T25 l 1).f1) ∧ w'.cell? ⟨ad.block, ad.off + 3 + 2, none⟩ = some (.string (rd_T25 l 1).f2)) (ds := [9]) #[false, false, false, false, false, false, false, false, false, false] (by kernel_rfl) rfl rfl ⟨(HB.out).s, ((HB.out).at0 HL.out.1).1, ((HB.out).at0 HL.out.1).2.1, ((HB.out).at0 HL.out.1).2.2, ((HB.out).at1 HL.out.2).1, ((HB.out).at1 HL.out.2).2.1, ((HB.out).at1 HL.out.2).2.2⟩ (fun hHeld => ?_)
  refine take_ (i := 0) (N := some 20) (v := ?_) (a' := ?_) #[true, false, false, false, false, false, false, false, false, false] rfl rfl (by kernel_rfl) (fun _ _ _ h => h) (Or.inl ⟨by rfl, ?_⟩) hHeld ?_ ?_
  rotate_left
  · rintro w' ⟨s0, s1, s2, s3, s4, s5, s6⟩
    go_simp
    with_reducible rfl
  rotate_left
  · simp only [Act.put, List.setIfInBounds_toArray, List.set_cons_zero, List.set_cons_succ, i64_w, i32_w]
    rfl
  refine pure_ (i := 1) (N := some 21) (v := ?_) (a' := ?_) #[true, true, false, false, false, false, false, false, false, false] rfl rfl (by kernel_rfl) (fun _ _ _ h => h) (Or.inl ⟨by rfl, ?_⟩) ?_ ?_
  rotate_left
  · intro w'
    go_simp
    with_reducible rfl
  rotate_left
  · simp only [Act.put, List.setIfInBounds_toArray, List.set_cons_zero, List.set_cons_succ, i64_w, i32_w]
    rfl
  refine take_ (i := 2) (N := some 22) (v := ?_) (a' := ?_) #[true, true, true, false, false, false, false, false, false, false] rfl rfl (by kernel_rfl) (fun _ _ _ h => h) (Or.inl ⟨by rfl, ?_⟩) hHeld ?_ ?_
  rotate_left
  · rintro w' ⟨s0, s1, s2, s3, s4, s5, s6⟩
    go_simp
    with_reducible rfl
  rotate_left
  · simp only [Act.put, List.setIfInBounds_toArray, List.set_cons_zero, List.set_cons_succ, i64_w, i32_w]
    rfl
  refine take_ (i := 3) (N := some 23) (v := ?_) (a' := ?_) #[true, true, true, true, false, false, false, false, false, false] rfl rfl (by kernel_rfl) (fun _ _ _ h => h) (Or.inl ⟨by rfl, ?_⟩) hHeld ?_ ?_
  rotate_left
  · rintro w' ⟨s0, s1, s2, s3, s4, s5, s6⟩
    go_simp
    with_reducible rfl
  rotate_left
  · simp only [Act.put, List.setIfInBounds_toArray, List.set_cons_zero, List.set_cons_succ, i64_w, i32_w]
    rfl
  refine pure_ (i := 4) (N := some 24) (v := ?_) (a' := ?_) #[true, true, true, true, true, false, false, false, false, false] rfl rfl (by kernel_rfl) (fun _ _ _ h => h) (Or.inl ⟨by rfl, ?_⟩) ?_ ?_
  rotate_left
  · intro w'
    go_simp
    with_reducible rfl
  rotate_left
  · simp only [Act.put, List.setIfInBounds_toArray, List.set_cons_zero, List.set_cons_succ, i64_w, i32_w]
    rfl
  refine take_ (i := 5) (N := some 25) (v := ?_) (a' := ?_) #[true, true, true, true, true, true, false, false, false, false] rfl rfl (by kernel_rfl) (fun _ _ _ h => h) (Or.inl ⟨by rfl, ?_⟩) hHeld ?_ ?_
  rotate_left
  · rintro w' ⟨s0, s1, s2, s3, s4, s5, s6⟩
    go_simp
    with_reducible rfl
  rotate_left
  · simp only [Act.put, List.setIfInBounds_toArray, List.set_cons_zero, List.set_cons_succ, i64_w, i32_w]
    rfl
  refine join_ (σ := Nat × Nat) 2 #[true, true, true, true, true, true, true, true, false, false] (fun s => [(3, .pointer (some ⟨s.1, 0, none⟩)), (4, .pointer (some ⟨s.2, 0, none⟩))]) (fun s w' => AJ f l (some ad) c b0 b1 W zeroV zeroV s.1 s.2 w') ?_ ?_
  rotate_left
  · intro hCont
    refine two_ (i := 6) (j := 7) (Ni := some 3) (Nj := some 4) #[true, true, true, true, true, true, true, false, false, false] #[true, true, true, true, true, true, false, true, false, false] rfl rfl rfl rfl (by kernel_rfl) (by decide) (by decide) (fun K hK => ?_) (fun K hK => ?_)
    · skip
      refine value_ (w1 := ?_) (v := ?_) (by rfl) rfl ?_ ?_
      rotate_left 2
      · go_simp
        constructor
        · rfl
        · rfl
      have n0_ := Aside0.mk (AI.alloc HI.out (.cells #[.int .i64 0, .int .i64 0, .string (⟨#[]⟩ : ByteArray)] 25))
      clear HI
      have HI := n0_
      clear n0_
      refine hK.out _ _ ⟨(HI.out).s, ((HI.out).at0 HL.out.1).1, ((HI.out).at0 HL.out.1).2.1, ((HI.out).at0 HL.out.1).2.2, ((HI.out).at1 HL.out.2).1, ((HI.out).at1 HL.out.2).2.1, ((HI.out).at1 HL.out.2).2.2⟩ (fun hHeld => ?_)
      clear hK K
      refine norm_ (a' := ?_) ?_ ?_
      rotate_left
      · show Act.put _ (some 3) _ = _
        simp only [Act.put, List.setIfInBounds_toArray, List.set_cons_zero, List.set_cons_succ, i64_w, i32_w]
        rfl
      refine one_ (i := 7) (N := some 4) #[true, true, true, true, true, true, true, true, false, false] rfl rfl (by kernel_rfl) (by decide) (fun K hK => ?_)
      refine value_ (w1 := ?_) (v := ?_) (by rfl) rfl ?_ ?_
      rotate_left 2
      · go_simp
        constructor
        · rfl
        · rfl
      have n0_ := Aside0.mk (AI.alloc HI.out (.cells #[.int .i64 0, .int .i64 0, .string (⟨#[]⟩ : ByteArray)] 25))
      clear HI
      have HI := n0_
      clear n0_
      refine hK.out _ _ ⟨(HI.out).s, ((HI.out).at0 HL.out.1).1, ((HI.out).at0 HL.out.1).2.1, ((HI.out).at0 HL.out.1).2.2, ((HI.out).at1 HL.out.2).1, ((HI.out).at1 HL.out.2).2.1, ((HI.out).at1 HL.out.2).2.2⟩ (fun hHeld => ?_)
      clear hK K
      refine norm_ (a' := ?_) ?_ ?_
      rotate_left
      · show Act.put _ (some 4) _ = _
        simp only [Act.put, List.setIfInBounds_toArray, List.set_cons_zero, List.set_cons_succ, i64_w, i32_w]
        rfl
      exact norm_ (by first | (simp only [putAll, Act.put, List.setIfInBounds_toArray, List.set_cons_zero, List.set_cons_succ]; done) | (simp only [putAll, Act.put, List.setIfInBounds_toArray, List.set_cons_zero, List.set_cons_succ]; rfl)) (hCont (_, _) _ (AJ.two HB.out))
    · skip
      refine value_ (w1 := ?_) (v := ?_) (by rfl) rfl ?_ ?_
      rotate_left 2
      · go_simp
        constructor
        · rfl
        · rfl
      have n0_ := Aside0.mk (AI.alloc HI.out (.cells #[.int .i64 0, .int .i64 0, .string (⟨#[]⟩ : ByteArray)] 25))
      clear HI
      have HI := n0_
      clear n0_
      refine hK.out _ _ ⟨(HI.out).s, ((HI.out).at0 HL.out.1).1, ((HI.out).at0 HL.out.1).2.1, ((HI.out).at0 HL.out.1).2.2, ((HI.out).at1 HL.out.2).1, ((HI.out).at1 HL.out.2).2.1, ((HI.out).at1 HL.out.2).2.2⟩ (fun hHeld => ?_)
      clear hK K
      refine norm_ (a' := ?_) ?_ ?_
      rotate_left
      · show Act.put _ (some 4) _ = _
        simp only [Act.put, List.setIfInBounds_toArray, List.set_cons_zero, List.set_cons_succ, i64_w, i32_w]
        rfl
      refine one_ (i := 6) (N := some 3) #[true, true, true, true, true, true, true, true, false, false] rfl rfl (by kernel_rfl) (by decide) (fun K hK => ?_)
      refine value_ (w1 := ?_) (v := ?_) (by rfl) rfl ?_ ?_
      rotate_left 2
      · go_simp
        constructor
        · rfl
        · rfl
      have n0_ := Aside0.mk (AI.alloc HI.out (.cells #[.int .i64 0, .int .i64 0, .string (⟨#[]⟩ : ByteArray)] 25))
      clear HI
      have HI := n0_
      clear n0_
      refine hK.out _ _ ⟨(HI.out).s, ((HI.out).at0 HL.out.1).1, ((HI.out).at0 HL.out.1).2.1, ((HI.out).at0 HL.out.1).2.2, ((HI.out).at1 HL.out.2).1, ((HI.out).at1 HL.out.2).2.1, ((HI.out).at1 HL.out.2).2.2⟩ (fun hHeld => ?_)
      clear hK K
      refine norm_ (a' := ?_) ?_ ?_
      rotate_left
      · show Act.put _ (some 3) _ = _
        simp only [Act.put, List.setIfInBounds_toArray, List.set_cons_zero, List.set_cons_succ, i64_w, i32_w]
        rfl
      exact norm_ (by first | (simp only [putAll, Act.put, List.setIfInBounds_toArray, List.set_cons_zero, List.set_cons_succ]; done) | (simp only [putAll, Act.put, List.setIfInBounds_toArray, List.set_cons_zero, List.set_cons_succ]; rfl)) (hCont (_, _) _ (AJ.swap (AJ.two HB.out)))
  rintro ⟨b3, b4⟩ w5 hJ
  have HJ := Aside0.mk hJ
  clear hJ
  have HI := Aside0.mk HJ.out.1
  have hHeld := HI.out
  replace hHeld := (⟨(HI.out).s, ((HI.out).at0 HL.out.1).1, ((HI.out).at0 HL.out.1).2.1, ((HI.out).at0 HL.out.1).2.2, ((HI.out).at1 HL.out.2).1, ((HI.out).at1 HL.out.2).2.1, ((HI.out).at1 HL.out.2).2.2⟩ : (w5.cell? ⟨b1, 0, none⟩ = some (.slice (some ad) l.length c) ∧ w5.cell? ad = some (.int .i64 (rd_T25 l 0).f0) ∧ w5.cell? ⟨ad.block, ad.off + 1, none⟩ = some (.int .i64 (rd_T25 l 0).f1) ∧ w5.cell? ⟨ad.block, ad.off + 2, none⟩ = some (.string (rd_T25 l 0).f2) ∧ w5.cell? ⟨ad.block, ad.off + 3, none⟩ = some (.int .i64 (rd_T25 l 1).f0) ∧ w5.cell? ⟨ad.block, ad.off + 3 + 1, none⟩ = some (.int .i64 (rd_T25 l 1).f1) ∧ w5.cell? ⟨ad.block, ad.off + 3 + 2, none⟩ = some (.string (rd_T25 l 1).f2)))
  have hne : ¬ b3 = b4 := HJ.out.2.2.2.1
  have hne' : ¬ b4 = b3 := fun e => hne e.symm
  have ga0 : World.cell? _ ⟨b3, 0, none⟩ = some (.int .i64 0) := (blk_cell HJ.out.2.2.2.2.1 0).trans rfl
  have ga1 : World.cell? _ ⟨b3, 1, none⟩ = some (.int .i64 0) := (blk_cell HJ.out.2.2.2.2.1 1).trans rfl
  have ga2 : World.cell? _ ⟨b3, 2, none⟩ = some (.string (⟨#[]⟩ : ByteArray)) := (blk_cell HJ.out.2.2.2.2.1 2).trans rfl
  have gaf0 := blk_frozen HJ.out.2.2.2.2.1 0
  have gaf1 := blk_frozen HJ.out.2.2.2.2.1 1
  have gaf2 := blk_frozen HJ.out.2.2.2.2.1 2
  refine norm_ (a' := ?_) ?_ ?_
  rotate_left
  · simp only [putAll, Act.put, List.setIfInBounds_toArray, List.set_cons_zero, List.set_cons_succ]
    rfl
  refine one_ (i := 8) (N := none) #[true, true, true, true, true, true, true, true, true, false] rfl rfl (by kernel_rfl) (by decide) (fun K hK => ?_)
  refine skip_ (w1 := ?_) (by rfl) rfl ?_ ?_
  rotate_left
  · go_simp
    rfl
  have J2 := Aside0.mk (AJ.first (u' := (rd_T25 l 0)) HJ.out)
  clear HJ HI ga0 ga1 ga2 gaf0 gaf1 gaf2
  have HJ := J2
  clear J2
  have HI := Aside0.mk HJ.out.1
  have gb0 : World.cell? _ ⟨b4, 0, none⟩ = some (.int .i64 0) := (blk_cell HJ.out.2.2.2.2.2 0).trans rfl
  have gb1 : World.cell? _ ⟨b4, 1, none⟩ = some (.int .i64 0) := (blk_cell HJ.out.2.2.2.2.2 1).trans rfl
  have gb2 : World.cell? _ ⟨b4, 2, none⟩ = some (.string (⟨#[]⟩ : ByteArray)) := (blk_cell HJ.out.2.2.2.2.2 2).trans rfl
  have gbf0 := blk_frozen HJ.out.2.2.2.2.2 0
  have gbf1 := blk_frozen HJ.out.2.2.2.2.2 1
  have gbf2 := blk_frozen HJ.out.2.2.2.2.2 2
  refine hK.out _ _ ⟨(HI.out).s, ((HI.out).at0 HL.out.1).1, ((HI.out).at0 HL.out.1).2.1, ((HI.out).at0 HL.out.1).2.2, ((HI.out).at1 HL.out.2).1, ((HI.out).at1 HL.out.2).2.1, ((HI.out).at1 HL.out.2).2.2⟩ (fun hHeld => ?_)
  clear hK K
  refine last_ (i := 9) (N := none) #[true, true, true, true, true, true, true, true, true, true] rfl rfl (by kernel_rfl) (by decide) (fun K hK => ?_)
  refine skip_ (w1 := ?_) (by rfl) rfl ?_ ?_
  rotate_left
  · go_simp
    rfl
  have J2 := Aside0.mk (AJ.second (v' := (rd_T25 l 1)) HJ.out)
  clear HJ HI gb0 gb1 gb2 gbf0 gbf1 gbf2 hne hne'
  have HJ := J2
  clear J2
  refine hK.out _ _ ?_
  clear hK K
  refine done_ (by kernel_rfl) ?_
  refine at_exit (fun w' => AJ f l (some ad) c b0 b1 W (rd_T25 l 0) (rd_T25 l 1) b3 b4 w') HJ.out (fun w6 hJ => ?_)
  clear HJ
  have HJ := Aside0.mk hJ
  clear hJ
  have ga0 : World.cell? _ ⟨b3, 0, none⟩ = some (.int .i64 (rd_T25 l 0).f0) := (blk_cell HJ.out.2.2.2.2.1 0).trans rfl
  have ga1 : World.cell? _ ⟨b3, 1, none⟩ = some (.int .i64 (rd_T25 l 0).f1) := (blk_cell HJ.out.2.2.2.2.1 1).trans rfl
  have ga2 : World.cell? _ ⟨b3, 2, none⟩ = some (.string (rd_T25 l 0).f2) := (blk_cell HJ.out.2.2.2.2.1 2).trans rfl
  have gaf0 := blk_frozen HJ.out.2.2.2.2.1 0
  have gaf1 := blk_frozen HJ.out.2.2.2.2.1 1
  have gaf2 := blk_frozen HJ.out.2.2.2.2.1 2
  have gb0 : World.cell? _ ⟨b4, 0, none⟩ = some (.int .i64 (rd_T25 l 1).f0) := (blk_cell HJ.out.2.2.2.2.2 0).trans rfl
  have gb1 : World.cell? _ ⟨b4, 1, none⟩ = some (.int .i64 (rd_T25 l 1).f1) := (blk_cell HJ.out.2.2.2.2.2 1).trans rfl
  have gb2 : World.cell? _ ⟨b4, 2, none⟩ = some (.string (rd_T25 l 1).f2) := (blk_cell HJ.out.2.2.2.2.2 2).trans rfl
  have gbf0 := blk_frozen HJ.out.2.2.2.2.2 0
  have gbf1 := blk_frozen HJ.out.2.2.2.2.2 1
  have gbf2 := blk_frozen HJ.out.2.2.2.2.2 2
  have gz0 : World.cell? _ ⟨W.heap.size, 0, none⟩ = some (.int .i64 0) := (blk_cell HJ.out.1.z 0).trans rfl
  have gz1 : World.cell? _ ⟨W.heap.size, 1, none⟩ = some (.int .i64 0) := (blk_cell HJ.out.1.z 1).trans rfl
  have gz2 : World.cell? _ ⟨W.heap.size, 2, none⟩ = some (.string (⟨#[]⟩ : ByteArray)) := (blk_cell HJ.out.1.z 2).trans rfl
  have gzf0 := blk_frozen HJ.out.1.z 0
  have gzf1 := blk_frozen HJ.out.1.z 1
  have gzf2 := blk_frozen HJ.out.1.z 2
  go_wp2_with (first | (go_at_call 14; (with_reducible refine (calc_Args.calls 1 f _ _ (args_f f)).mono ?_); rintro e w' ⟨rfl, ⟨nd, rfl⟩⟩) | (go_at_call 30; (with_reducible refine (calc_check.yes _ _).mono ?_); rintro e w' ⟨rfl, rfl⟩) | (go_at_call 30; (with_reducible refine (calc_check.no _ _).mono ?_); rintro e w' ⟨rfl, rfl⟩))
  refine bodyPost_ret (v := encV (rd_T25 l 1)) (by simp [results, Try.results29, go_sem, encV, gz0, gz1, gz2]) rfl ⟨rfl, ?_⟩
  exact below_set3 HJ.out.1.bel (Nat.le_refl W.heap.size) _ _ _ _ _ _
set_option maxHeartbeats 2000000 in
set_option maxRecDepth 100000 in
theorem calc_Call1.one4 (f : Int) (l : List S25) (ad : Addr) (c b0 b1 : Nat) (W : World) (h0 : W.heap[b0]? = some (.cells #[.int .i64 f] 3 (0, 0))) (h1 : W.heap[b1]? = some (.cells #[.slice (some ad) l.length c] 22 (0, 0))) (hr : Kd.C k25 W (some ad) l.length l) (l0 : 0 < argsN f) (lc : (l.length : Int) = argsN f) (l2 : l.length = 2) (f6 : f = 6) (eq : ¬ (rd_T25 l 0).f0 = (rd_T25 l 1).f0) (a0 : ¬ (rd_T25 l 0).f0 = 0) (z0 : (rd_T25 l 1).f0 = 0) :
    Calls Try.prog 29 #[.pointer (some ⟨b0, 0, none⟩), .pointer (some ⟨b1, 0, none⟩)] W (fun e w' => RE (.ok (rd_T25 l 0)) e ∧ Below W.heap.size W w') := by
  have hu25 := Try.underlying25
  have n0 : ¬ b0 = W.heap.size := by have := blk_lt h0; omega
  have n1 : ¬ b1 = W.heap.size := by have := blk_lt h1; omega
  have HS := Aside0.mk (AI.start h0 h1 hr)
  clear h0 h1 hr
  have hcF := HS.out.o
  have hcA := HS.out.s
  have HL := Aside0.mk (show 0 < l.length ∧ 1 < l.length by omega)
  have hL0 : (0 < l.length) = True := eq_true HL.out.1
  have hL1 : (1 < l.length) = True := eq_true HL.out.2
  have hD0 : decide (0 < l.length) = true := decide_eq_true HL.out.1
  have hD1 : decide (1 < l.length) = true := decide_eq_true HL.out.2
  have hI0 : (0 < (l.length : Int)) = True := eq_true (by have := HL.out.1; omega)
  have hI1 : (1 < (l.length : Int)) = True := eq_true (by have := HL.out.2; omega)
  have hE0 : decide (0 < (l.length : Int)) = true := decide_eq_true (by have := HL.out.1; omega)
  have hE1 : decide (1 < (l.length : Int)) = true := decide_eq_true (by have := HL.out.2; omega)
  have q0 : decide (0 < argsN f) = true := decide_eq_true l0
  have q1 : ((l.length : Int) == argsN f) = true := beq_iff_eq.mpr lc
  have q2 : (f == 6) = true := beq_iff_eq.mpr f6
  have q3 : ((rd_T25 l 0).f0 == (rd_T25 l 1).f0) = false := beq_eq_false_iff_ne.mpr eq
  have q4 : ((rd_T25 l 0).f0 == 0) = false := beq_eq_false_iff_ne.mpr a0
  have q5 : ((rd_T25 l 1).f0 == 0) = true := beq_iff_eq.mpr z0
  have l0' := Aside0.mk l0
  have lc' := Aside0.mk lc
  have l2' := Aside0.mk l2
  have f6' := Aside0.mk f6
  have eq' := Aside0.mk eq
  have a0' := Aside0.mk a0
  have z0' := Aside0.mk z0
  clear l0 lc l2 f6 eq a0 z0
  go_enter Try.func29, Try.ntmps29
  go_wp2_with (first | (go_at_call 14; (with_reducible refine (calc_Args.calls 1 f _ _ (args_f f)).mono ?_); rintro e w' ⟨rfl, ⟨nd, rfl⟩⟩) | (go_at_call 30; (with_reducible refine (calc_check.yes _ _).mono ?_); rintro e w' ⟨rfl, rfl⟩) | (go_at_call 30; (with_reducible refine (calc_check.no _ _).mono ?_); rintro e w' ⟨rfl, rfl⟩))
  refine at_world (fun w' => AI f l (some ad) c b0 b1 W w') (by repeat (first | exact HS.out | refine AI.drewN ?_ _ | refine AI.drew ?_)) (fun w1 hI => ?_)
  have HI := Aside0.mk hI
  clear hI hcF hcA
  refine start_ (n := 6) (S := fun w' => w'.cell? ⟨b0, 0, none⟩ = some (.int .i64 f) ∧ w'.cell? ⟨b1, 0, none⟩ = some (.slice (some ad) l.length c)) (ds := []) #[false, false, false, false, false, false] (by kernel_rfl) rfl rfl ⟨HI.out.drew.o, HI.out.drew.s⟩ (fun hHeld => ?_)
  refine take_ (i := 0) (N := some 12) (v := ?_) (a' := ?_) #[true, false, false, false, false, false] rfl rfl (by kernel_rfl) (fun _ _ _ h => h) (Or.inl ⟨by rfl, ?_⟩) hHeld ?_ ?_
  rotate_left
  · rintro w' ⟨s0, s1⟩
    go_simp
    with_reducible rfl
  rotate_left
  · simp only [Act.put, List.setIfInBounds_toArray, List.set_cons_zero, List.set_cons_succ, i64_w, i32_w]
    rfl
  refine pure_ (i := 1) (N := some 13) (v := ?_) (a' := ?_) #[true, true, false, false, false, false] rfl rfl (by kernel_rfl) (fun _ _ _ h => h) (Or.inl ⟨by rfl, ?_⟩) ?_ ?_
  rotate_left
  · intro w'
    go_simp
    with_reducible rfl
  rotate_left
  · simp only [Act.put, List.setIfInBounds_toArray, List.set_cons_zero, List.set_cons_succ, i64_w, i32_w]
    rfl
  refine take_ (i := 2) (N := some 14) (v := ?_) (a' := ?_) #[true, true, true, false, false, false] rfl rfl (by kernel_rfl) (fun _ _ _ h => h) (Or.inl ⟨by rfl, ?_⟩) hHeld ?_ ?_
  rotate_left
  · rintro w' ⟨s0, s1⟩
    go_simp
    with_reducible rfl
  rotate_left
  · simp only [Act.put, List.setIfInBounds_toArray, List.set_cons_zero, List.set_cons_succ, i64_w, i32_w]
    rfl
  refine one_ (i := 3) (N := some 15) #[true, true, true, true, false, false] rfl rfl (by kernel_rfl) (by decide) (fun K hK => ?_)
  refine goes_ Try.func14 (by kernel_rfl) rfl #[.int .i64 f] (by rfl) rfl rfl (by simp only [List.map_toArray, List.map_cons, List.map_nil]; rfl) ?_
  with_reducible refine (calc_Args.calls 1 f _ _ (args_f f)).mono ?_
  rintro e w2 ⟨rfl, ⟨nd3, rfl⟩⟩
  refine ⟨_, rfl, ?_⟩
  have n0_ := Aside0.mk (AI.drewN HI.out.drew nd3)
  clear HI
  have HI := n0_
  clear n0_
  refine hK.out _ _ ⟨HI.out.o, HI.out.s⟩ (fun hHeld => ?_)
  clear hK K
  refine norm_ (a' := ?_) ?_ ?_
  rotate_left
  · show Act.put _ (some 15) _ = _
    simp only [Act.put, List.setIfInBounds_toArray, List.set_cons_zero, List.set_cons_succ, i64_w, i32_w]
    rfl
  refine pure_ (i := 4) (N := some 16) (v := ?_) (a' := ?_) #[true, true, true, true, true, false] rfl rfl (by kernel_rfl) (fun _ _ _ h => h) (Or.inl ⟨by rfl, ?_⟩) ?_ ?_
  rotate_left
  · intro w'
    go_simp
    with_reducible rfl
  rotate_left
  · simp only [Act.put, List.setIfInBounds_toArray, List.set_cons_zero, List.set_cons_succ, i64_w, i32_w]
    rfl
  refine one_ (i := 5) (N := some 17) #[true, true, true, true, true, true] rfl rfl (by kernel_rfl) (by decide) (fun K hK => ?_)
  refine goes_ Try.func30 (by kernel_rfl) rfl #[.bool true, .int .i64 37] (by rfl) rfl rfl (by simp only [List.map_toArray, List.map_cons, List.map_nil]; rfl) ?_
  with_reducible refine (calc_check.yes _ _).mono ?_
  rintro e w2 ⟨rfl, rfl⟩
  refine ⟨_, rfl, ?_⟩
  refine hK.out _ _ ⟨HI.out.o, HI.out.s⟩ (fun hHeld => ?_)
  clear hK K
  refine norm_ (a' := ?_) ?_ ?_
  rotate_left
  · show Act.put _ (some 17) _ = _
    simp only [Act.put, List.setIfInBounds_toArray, List.set_cons_zero, List.set_cons_succ, i64_w, i32_w]
    rfl
  refine done_ (by kernel_rfl) ?_
  refine at_exit (fun w' => AI f l (some ad) c b0 b1 W w') HI.out (fun w3 hI => ?_)
  clear HI
  have HI := Aside0.mk hI
  clear hI
  have hcF := HI.out.o
  go_wp2_with fail
  refine at_world (fun w' => AI f l (some ad) c b0 b1 W w') (by repeat (first | exact HI.out | refine AI.drewN ?_ _ | refine AI.drew ?_)) (fun w4 hI => ?_)
  clear HI hcF
  have HI := Aside0.mk hI
  clear hI
  have HB := Aside0.mk HI.out.drew
  clear HI
  have HI := HB
  refine start_ (n := 10) (S := fun w' => w'.cell? ⟨b1, 0, none⟩ = some (.slice (some ad) l.length c) ∧ w'.cell? ad = some (.int .i64 (rd_T25 l 0).f0) ∧ w'.cell? ⟨ad.block, ad.off + 1, none⟩ = some (.int .i64 (rd_T25 l 0).f1) ∧ w'.cell? ⟨ad.block, ad.off + 2, none⟩ = some (.string (rd_T25 l 0).f2) ∧ w'.cell? ⟨ad.block, ad.off + 3, none⟩ = some (.int .i64 (rd_T25 l 1).f0) ∧ w'.cell? ⟨ad.block, ad.off + 3 + 1, none⟩ = some (.int .i64 (rd_T25 l 1).f1) ∧ w'.cell? ⟨ad.block, ad.off + 3 + 2, none⟩ = some (.string (rd_T25 l 1).f2)) (ds := [9]) #[false, false, false, false, false, false, false, false, false, false] (by kernel_rfl) rfl rfl ⟨(HB.out).s, ((HB.out).at0 HL.out.1).1, ((HB.out).at0 HL.out.1).2.1, ((HB.out).at0 HL.out.1).2.2, ((HB.out).at1 HL.out.2).1, ((HB.out).at1 HL.out.2).2.1, ((HB.out).at1 HL.out.2).2.2⟩ (fun hHeld => ?_)
  refine take_ (i := 0) (N := some 20) (v := ?_) (a' := ?_) #[true, false, false, false, false, false, false, false, false, false] rfl rfl (by kernel_rfl) (fun _ _ _ h => h) (Or.inl ⟨by rfl, ?_⟩) hHeld ?_ ?_
  rotate_left
  · rintro w' ⟨s0, s1, s2, s3, s4, s5, s6⟩
    go_simp
    with_reducible rfl
  rotate_left
  · simp only [Act.put, List.setIfInBounds_toArray, List.set_cons_zero, List.set_cons_succ, i64_w, i32_w]
    rfl
  refine pure_ (i := 1) (N := some 21) (v := ?_) (a' := ?_) #[true, true, false, false, false, false, false, false, false, false] rfl rfl (by kernel_rfl) (fun _ _ _ h => h) (Or.inl ⟨by rfl, ?_⟩) ?_ ?_
  rotate_left
  · intro w'
    go_simp
    with_reducible rfl
  rotate_left
  · simp only [Act.put, List.setIfInBounds_toArray, List.set_cons_zero, List.set_cons_succ, i64_w, i32_w]
    rfl
  refine take_ (i := 2) (N := some 22) (v := ?_) (a' := ?_) #[true, true, true, false, false, false, false, false, false, false] rfl rfl (by kernel_rfl) (fun _ _ _ h => h) (Or.inl ⟨by rfl, ?_⟩) hHeld ?_ ?_
  rotate_left
  · rintro w' ⟨s0, s1, s2, s3, s4, s5, s6⟩
    go_simp
    with_reducible rfl
  rotate_left
  · simp only [Act.put, List.setIfInBounds_toArray, List.set_cons_zero, List.set_cons_succ, i64_w, i32_w]
    rfl
  refine take_ (i := 3) (N := some 23) (v := ?_) (a' := ?_) #[true, true, true, true, false, false, false, false, false, false] rfl rfl (by kernel_rfl) (fun _ _ _ h => h) (Or.inl ⟨by rfl, ?_⟩) hHeld ?_ ?_
  rotate_left
  · rintro w' ⟨s0, s1, s2, s3, s4, s5, s6⟩
    go_simp
    with_reducible rfl
  rotate_left
  · simp only [Act.put, List.setIfInBounds_toArray, List.set_cons_zero, List.set_cons_succ, i64_w, i32_w]
    rfl
  refine pure_ (i := 4) (N := some 24) (v := ?_) (a' := ?_) #[true, true, true, true, true, false, false, false, false, false] rfl rfl (by kernel_rfl) (fun _ _ _ h => h) (Or.inl ⟨by rfl, ?_⟩) ?_ ?_
  rotate_left
  · intro w'
    go_simp
    with_reducible rfl
  rotate_left
  · simp only [Act.put, List.setIfInBounds_toArray, List.set_cons_zero, List.set_cons_succ, i64_w, i32_w]
    rfl
  refine take_ (i := 5) (N := some 25) (v := ?_) (a' := ?_) #[true, true, true, true, true, true, false, false, false, false] rfl rfl (by kernel_rfl) (fun _ _ _ h => h) (Or.inl ⟨by rfl, ?_⟩) hHeld ?_ ?_
  rotate_left
  · rintro w' ⟨s0, s1, s2, s3, s4, s5, s6⟩
    go_simp
    with_reducible rfl
  rotate_left
  · simp only [Act.put, List.setIfInBounds_toArray, List.set_cons_zero, List.set_cons_succ, i64_w, i32_w]
    rfl
  refine join_ (σ := Nat × Nat) 2 #[true, true, true, true, true, true, true, true, false, false] (fun s => [(3, .pointer (some ⟨s.1, 0, none⟩)), (4, .pointer (some ⟨s.2, 0, none⟩))]) (fun s w' => AJ f l (some ad) c b0 b1 W zeroV zeroV s.1 s.2 w') ?_ ?_
  rotate_left
  · intro hCont
    refine two_ (i := 6) (j := 7) (Ni := some 3) (Nj := some 4) #[true, true, true, true, true, true, true, false, false, false] #[true, true, true, true, true, true, false, true, false, false] rfl rfl rfl rfl (by kernel_rfl) (by decide) (by decide) (fun K hK => ?_) (fun K hK => ?_)
    · skip
      refine value_ (w1 := ?_) (v := ?_) (by rfl) rfl ?_ ?_
      rotate_left 2
      · go_simp
        constructor
        · rfl
        · rfl
      have n0_ := Aside0.mk (AI.alloc HI.out (.cells #[.int .i64 0, .int .i64 0, .string (⟨#[]⟩ : ByteArray)] 25))
      clear HI
      have HI := n0_
      clear n0_
      refine hK.out _ _ ⟨(HI.out).s, ((HI.out).at0 HL.out.1).1, ((HI.out).at0 HL.out.1).2.1, ((HI.out).at0 HL.out.1).2.2, ((HI.out).at1 HL.out.2).1, ((HI.out).at1 HL.out.2).2.1, ((HI.out).at1 HL.out.2).2.2⟩ (fun hHeld => ?_)
      clear hK K
      refine norm_ (a' := ?_) ?_ ?_
      rotate_left
      · show Act.put _ (some 3) _ = _
        simp only [Act.put, List.setIfInBounds_toArray, List.set_cons_zero, List.set_cons_succ, i64_w, i32_w]
        rfl
      refine one_ (i := 7) (N := some 4) #[true, true, true, true, true, true, true, true, false, false] rfl rfl (by kernel_rfl) (by decide) (fun K hK => ?_)
      refine value_ (w1 := ?_) (v := ?_) (by rfl) rfl ?_ ?_
      rotate_left 2
      · go_simp
        constructor
        · rfl
        · rfl
      have n0_ := Aside0.mk (AI.alloc HI.out (.cells #[.int .i64 0, .int .i64 0, .string (⟨#[]⟩ : ByteArray)] 25))
      clear HI
      have HI := n0_
      clear n0_
      refine hK.out _ _ ⟨(HI.out).s, ((HI.out).at0 HL.out.1).1, ((HI.out).at0 HL.out.1).2.1, ((HI.out).at0 HL.out.1).2.2, ((HI.out).at1 HL.out.2).1, ((HI.out).at1 HL.out.2).2.1, ((HI.out).at1 HL.out.2).2.2⟩ (fun hHeld => ?_)
      clear hK K
      refine norm_ (a' := ?_) ?_ ?_
      rotate_left
      · show Act.put _ (some 4) _ = _
        simp only [Act.put, List.setIfInBounds_toArray, List.set_cons_zero, List.set_cons_succ, i64_w, i32_w]
        rfl
      exact norm_ (by first | (simp only [putAll, Act.put, List.setIfInBounds_toArray, List.set_cons_zero, List.set_cons_succ]; done) | (simp only [putAll, Act.put, List.setIfInBounds_toArray, List.set_cons_zero, List.set_cons_succ]; rfl)) (hCont (_, _) _ (AJ.two HB.out))
    · skip
      refine value_ (w1 := ?_) (v := ?_) (by rfl) rfl ?_ ?_
      rotate_left 2
      · go_simp
        constructor
        · rfl
        · rfl
      have n0_ := Aside0.mk (AI.alloc HI.out (.cells #[.int .i64 0, .int .i64 0, .string (⟨#[]⟩ : ByteArray)] 25))
      clear HI
      have HI := n0_
      clear n0_
      refine hK.out _ _ ⟨(HI.out).s, ((HI.out).at0 HL.out.1).1, ((HI.out).at0 HL.out.1).2.1, ((HI.out).at0 HL.out.1).2.2, ((HI.out).at1 HL.out.2).1, ((HI.out).at1 HL.out.2).2.1, ((HI.out).at1 HL.out.2).2.2⟩ (fun hHeld => ?_)
      clear hK K
      refine norm_ (a' := ?_) ?_ ?_
      rotate_left
      · show Act.put _ (some 4) _ = _
        simp only [Act.put, List.setIfInBounds_toArray, List.set_cons_zero, List.set_cons_succ, i64_w, i32_w]
        rfl
      refine one_ (i := 6) (N := some 3) #[true, true, true, true, true, true, true, true, false, false] rfl rfl (by kernel_rfl) (by decide) (fun K hK => ?_)
      refine value_ (w1 := ?_) (v := ?_) (by rfl) rfl ?_ ?_
      rotate_left 2
      · go_simp
        constructor
        · rfl
        · rfl
      have n0_ := Aside0.mk (AI.alloc HI.out (.cells #[.int .i64 0, .int .i64 0, .string (⟨#[]⟩ : ByteArray)] 25))
      clear HI
      have HI := n0_
      clear n0_
      refine hK.out _ _ ⟨(HI.out).s, ((HI.out).at0 HL.out.1).1, ((HI.out).at0 HL.out.1).2.1, ((HI.out).at0 HL.out.1).2.2, ((HI.out).at1 HL.out.2).1, ((HI.out).at1 HL.out.2).2.1, ((HI.out).at1 HL.out.2).2.2⟩ (fun hHeld => ?_)
      clear hK K
      refine norm_ (a' := ?_) ?_ ?_
      rotate_left
      · show Act.put _ (some 3) _ = _
        simp only [Act.put, List.setIfInBounds_toArray, List.set_cons_zero, List.set_cons_succ, i64_w, i32_w]
        rfl
      exact norm_ (by first | (simp only [putAll, Act.put, List.setIfInBounds_toArray, List.set_cons_zero, List.set_cons_succ]; done) | (simp only [putAll, Act.put, List.setIfInBounds_toArray, List.set_cons_zero, List.set_cons_succ]; rfl)) (hCont (_, _) _ (AJ.swap (AJ.two HB.out)))
  rintro ⟨b3, b4⟩ w5 hJ
  have HJ := Aside0.mk hJ
  clear hJ
  have HI := Aside0.mk HJ.out.1
  have hHeld := HI.out
  replace hHeld := (⟨(HI.out).s, ((HI.out).at0 HL.out.1).1, ((HI.out).at0 HL.out.1).2.1, ((HI.out).at0 HL.out.1).2.2, ((HI.out).at1 HL.out.2).1, ((HI.out).at1 HL.out.2).2.1, ((HI.out).at1 HL.out.2).2.2⟩ : (w5.cell? ⟨b1, 0, none⟩ = some (.slice (some ad) l.length c) ∧ w5.cell? ad = some (.int .i64 (rd_T25 l 0).f0) ∧ w5.cell? ⟨ad.block, ad.off + 1, none⟩ = some (.int .i64 (rd_T25 l 0).f1) ∧ w5.cell? ⟨ad.block, ad.off + 2, none⟩ = some (.string (rd_T25 l 0).f2) ∧ w5.cell? ⟨ad.block, ad.off + 3, none⟩ = some (.int .i64 (rd_T25 l 1).f0) ∧ w5.cell? ⟨ad.block, ad.off + 3 + 1, none⟩ = some (.int .i64 (rd_T25 l 1).f1) ∧ w5.cell? ⟨ad.block, ad.off + 3 + 2, none⟩ = some (.string (rd_T25 l 1).f2)))
  have hne : ¬ b3 = b4 := HJ.out.2.2.2.1
  have hne' : ¬ b4 = b3 := fun e => hne e.symm
  have ga0 : World.cell? _ ⟨b3, 0, none⟩ = some (.int .i64 0) := (blk_cell HJ.out.2.2.2.2.1 0).trans rfl
  have ga1 : World.cell? _ ⟨b3, 1, none⟩ = some (.int .i64 0) := (blk_cell HJ.out.2.2.2.2.1 1).trans rfl
  have ga2 : World.cell? _ ⟨b3, 2, none⟩ = some (.string (⟨#[]⟩ : ByteArray)) := (blk_cell HJ.out.2.2.2.2.1 2).trans rfl
  have gaf0 := blk_frozen HJ.out.2.2.2.2.1 0
  have gaf1 := blk_frozen HJ.out.2.2.2.2.1 1
  have gaf2 := blk_frozen HJ.out.2.2.2.2.1 2
  refine norm_ (a' := ?_) ?_ ?_
  rotate_left
  · simp only [putAll, Act.put, List.setIfInBounds_toArray, List.set_cons_zero, List.set_cons_succ]
    rfl
  refine one_ (i := 8) (N := none) #[true, true, true, true, true, true, true, true, true, false] rfl rfl (by kernel_rfl) (by decide) (fun K hK => ?_)
  refine skip_ (w1 := ?_) (by rfl) rfl ?_ ?_
  rotate_left
  · go_simp
    rfl
  have J2 := Aside0.mk (AJ.first (u' := (rd_T25 l 0)) HJ.out)
  clear HJ HI ga0 ga1 ga2 gaf0 gaf1 gaf2
  have HJ := J2
  clear J2
  have HI := Aside0.mk HJ.out.1
  have gb0 : World.cell? _ ⟨b4, 0, none⟩ = some (.int .i64 0) := (blk_cell HJ.out.2.2.2.2.2 0).trans rfl
  have gb1 : World.cell? _ ⟨b4, 1, none⟩ = some (.int .i64 0) := (blk_cell HJ.out.2.2.2.2.2 1).trans rfl
  have gb2 : World.cell? _ ⟨b4, 2, none⟩ = some (.string (⟨#[]⟩ : ByteArray)) := (blk_cell HJ.out.2.2.2.2.2 2).trans rfl
  have gbf0 := blk_frozen HJ.out.2.2.2.2.2 0
  have gbf1 := blk_frozen HJ.out.2.2.2.2.2 1
  have gbf2 := blk_frozen HJ.out.2.2.2.2.2 2
  refine hK.out _ _ ⟨(HI.out).s, ((HI.out).at0 HL.out.1).1, ((HI.out).at0 HL.out.1).2.1, ((HI.out).at0 HL.out.1).2.2, ((HI.out).at1 HL.out.2).1, ((HI.out).at1 HL.out.2).2.1, ((HI.out).at1 HL.out.2).2.2⟩ (fun hHeld => ?_)
  clear hK K
  refine last_ (i := 9) (N := none) #[true, true, true, true, true, true, true, true, true, true] rfl rfl (by kernel_rfl) (by decide) (fun K hK => ?_)
  refine skip_ (w1 := ?_) (by rfl) rfl ?_ ?_
  rotate_left
  · go_simp
    rfl
  have J2 := Aside0.mk (AJ.second (v' := (rd_T25 l 1)) HJ.out)
  clear HJ HI gb0 gb1 gb2 gbf0 gbf1 gbf2 hne hne'
  have HJ := J2
  clear J2
  refine hK.out _ _ ?_
  clear hK K
  refine done_ (by kernel_rfl) ?_
  refine at_exit (fun w' => AJ f l (some ad) c b0 b1 W (rd_T25 l 0) (rd_T25 l 1) b3 b4 w') HJ.out (fun w6 hJ => ?_)
  clear HJ
  have HJ := Aside0.mk hJ
  clear hJ
  have ga0 : World.cell? _ ⟨b3, 0, none⟩ = some (.int .i64 (rd_T25 l 0).f0) := (blk_cell HJ.out.2.2.2.2.1 0).trans rfl
  have ga1 : World.cell? _ ⟨b3, 1, none⟩ = some (.int .i64 (rd_T25 l 0).f1) := (blk_cell HJ.out.2.2.2.2.1 1).trans rfl
  have ga2 : World.cell? _ ⟨b3, 2, none⟩ = some (.string (rd_T25 l 0).f2) := (blk_cell HJ.out.2.2.2.2.1 2).trans rfl
  have gaf0 := blk_frozen HJ.out.2.2.2.2.1 0
  have gaf1 := blk_frozen HJ.out.2.2.2.2.1 1
  have gaf2 := blk_frozen HJ.out.2.2.2.2.1 2
  have gb0 : World.cell? _ ⟨b4, 0, none⟩ = some (.int .i64 (rd_T25 l 1).f0) := (blk_cell HJ.out.2.2.2.2.2 0).trans rfl
  have gb1 : World.cell? _ ⟨b4, 1, none⟩ = some (.int .i64 (rd_T25 l 1).f1) := (blk_cell HJ.out.2.2.2.2.2 1).trans rfl
  have gb2 : World.cell? _ ⟨b4, 2, none⟩ = some (.string (rd_T25 l 1).f2) := (blk_cell HJ.out.2.2.2.2.2 2).trans rfl
  have gbf0 := blk_frozen HJ.out.2.2.2.2.2 0
  have gbf1 := blk_frozen HJ.out.2.2.2.2.2 1
  have gbf2 := blk_frozen HJ.out.2.2.2.2.2 2
  have gz0 : World.cell? _ ⟨W.heap.size, 0, none⟩ = some (.int .i64 0) := (blk_cell HJ.out.1.z 0).trans rfl
  have gz1 : World.cell? _ ⟨W.heap.size, 1, none⟩ = some (.int .i64 0) := (blk_cell HJ.out.1.z 1).trans rfl
  have gz2 : World.cell? _ ⟨W.heap.size, 2, none⟩ = some (.string (⟨#[]⟩ : ByteArray)) := (blk_cell HJ.out.1.z 2).trans rfl
  have gzf0 := blk_frozen HJ.out.1.z 0
  have gzf1 := blk_frozen HJ.out.1.z 1
  have gzf2 := blk_frozen HJ.out.1.z 2
  go_wp2_with (first | (go_at_call 14; (with_reducible refine (calc_Args.calls 1 f _ _ (args_f f)).mono ?_); rintro e w' ⟨rfl, ⟨nd, rfl⟩⟩) | (go_at_call 30; (with_reducible refine (calc_check.yes _ _).mono ?_); rintro e w' ⟨rfl, rfl⟩) | (go_at_call 30; (with_reducible refine (calc_check.no _ _).mono ?_); rintro e w' ⟨rfl, rfl⟩))
  refine bodyPost_ret (v := encV (rd_T25 l 0)) (by simp [results, Try.results29, go_sem, encV, gz0, gz1, gz2]) rfl ⟨rfl, ?_⟩
  exact below_set3 HJ.out.1.bel (Nat.le_refl W.heap.size) _ _ _ _ _ _
set_option maxHeartbeats 2000000 in
set_option maxRecDepth 100000 in
theorem calc_Call1.one5 (f : Int) (l : List S25) (ad : Addr) (c b0 b1 : Nat) (W : World) (h0 : W.heap[b0]? = some (.cells #[.int .i64 f] 3 (0, 0))) (h1 : W.heap[b1]? = some (.cells #[.slice (some ad) l.length c] 22 (0, 0))) (hr : Kd.C k25 W (some ad) l.length l) (l0 : 0 < argsN f) (lc : (l.length : Int) = argsN f) (l2 : l.length = 2) (f6 : f = 6) (eq : ¬ (rd_T25 l 0).f0 = (rd_T25 l 1).f0) (a0 : ¬ (rd_T25 l 0).f0 = 0) (z0 : ¬ (rd_T25 l 1).f0 = 0) :
    Calls Try.prog 29 #[.pointer (some ⟨b0, 0, none⟩), .pointer (some ⟨b1, 0, none⟩)] W (fun e w' => RE (.error 35) e ∧ Below W.heap.size W w') := by
  have hu25 := Try.underlying25
  have n0 : ¬ b0 = W.heap.size := by have := blk_lt h0; omega
  have n1 : ¬ b1 = W.heap.size := by have := blk_lt h1; omega
  have HS := Aside0.mk (AI.start h0 h1 hr)
  clear h0 h1 hr
  have hcF := HS.out.o
  have hcA := HS.out.s
  have HL := Aside0.mk (show 0 < l.length ∧ 1 < l.length by omega)
  have hL0 : (0 < l.length) = True := eq_true HL.out.1
  have hL1 : (1 < l.length) = True := eq_true HL.out.2
  have hD0 : decide (0 < l.length) = true := decide_eq_true HL.out.1
  have hD1 : decide (1 < l.length) = true := decide_eq_true HL.out.2
  have hI0 : (0 < (l.length : Int)) = True := eq_true (by have := HL.out.1; omega)
  have hI1 : (1 < (l.length : Int)) = True := eq_true (by have := HL.out.2; omega)
  have hE0 : decide (0 < (l.length : Int)) = true := decide_eq_true (by have := HL.out.1; omega)
  have hE1 : decide (1 < (l.length : Int)) = true := decide_eq_true (by have := HL.out.2; omega)
  have q0 : decide (0 < argsN f) = true := decide_eq_true l0
  have q1 : ((l.length : Int) == argsN f) = true := beq_iff_eq.mpr lc
  have q2 : (f == 6) = true := beq_iff_eq.mpr f6
  have q3 : ((rd_T25 l 0).f0 == (rd_T25 l 1).f0) = false := beq_eq_false_iff_ne.mpr eq
  have q4 : ((rd_T25 l 0).f0 == 0) = false := beq_eq_false_iff_ne.mpr a0
  have q5 : ((rd_T25 l 1).f0 == 0) = false := beq_eq_false_iff_ne.mpr z0
  have l0' := Aside0.mk l0
  have lc' := Aside0.mk lc
  have l2' := Aside0.mk l2
  have f6' := Aside0.mk f6
  have eq' := Aside0.mk eq
  have a0' := Aside0.mk a0
  have z0' := Aside0.mk z0
  clear l0 lc l2 f6 eq a0 z0
  go_enter Try.func29, Try.ntmps29
  go_wp2_with (first | (go_at_call 14; (with_reducible refine (calc_Args.calls 1 f _ _ (args_f f)).mono ?_); rintro e w' ⟨rfl, ⟨nd, rfl⟩⟩) | (go_at_call 30; (with_reducible refine (calc_check.yes _ _).mono ?_); rintro e w' ⟨rfl, rfl⟩) | (go_at_call 30; (with_reducible refine (calc_check.no _ _).mono ?_); rintro e w' ⟨rfl, rfl⟩))
  refine at_world (fun w' => AI f l (some ad) c b0 b1 W w') (by repeat (first | exact HS.out | refine AI.drewN ?_ _ | refine AI.drew ?_)) (fun w1 hI => ?_)
  have HI := Aside0.mk hI
  clear hI hcF hcA
  refine start_ (n := 6) (S := fun w' => w'.cell? ⟨b0, 0, none⟩ = some (.int .i64 f) ∧ w'.cell? ⟨b1, 0, none⟩ = some (.slice (some ad) l.length c)) (ds := []) #[false, false, false, false, false, false] (by kernel_rfl) rfl rfl ⟨HI.out.drew.o, HI.out.drew.s⟩ (fun hHeld => ?_)
  refine take_ (i := 0) (N := some 12) (v := ?_) (a' := ?_) #[true, false, false, false, false, false] rfl rfl (by kernel_rfl) (fun _ _ _ h => h) (Or.inl ⟨by rfl, ?_⟩) hHeld ?_ ?_
  rotate_left
  · rintro w' ⟨s0, s1⟩
    go_simp
    with_reducible rfl
  rotate_left
  · simp only [Act.put, List.setIfInBounds_toArray, List.set_cons_zero, List.set_cons_succ, i64_w, i32_w]
    rfl
  refine pure_ (i := 1) (N := some 13) (v := ?_) (a' := ?_) #[true, true, false, false, false, false] rfl rfl (by kernel_rfl) (fun _ _ _ h => h) (Or.inl ⟨by rfl, ?_⟩) ?_ ?_
  rotate_left
  · intro w'
    go_simp
    with_reducible rfl
  rotate_left
  · simp only [Act.put, List.setIfInBounds_toArray, List.set_cons_zero, List.set_cons_succ, i64_w, i32_w]
    rfl
  refine take_ (i := 2) (N := some 14) (v := ?_) (a' := ?_) #[true, true, true, false, false, false] rfl rfl (by kernel_rfl) (fun _ _ _ h => h) (Or.inl ⟨by rfl, ?_⟩) hHeld ?_ ?_
  rotate_left
  · rintro w' ⟨s0, s1⟩
    go_simp
    with_reducible rfl
  rotate_left
  · simp only [Act.put, List.setIfInBounds_toArray, List.set_cons_zero, List.set_cons_succ, i64_w, i32_w]
    rfl
  refine one_ (i := 3) (N := some 15) #[true, true, true, true, false, false] rfl rfl (by kernel_rfl) (by decide) (fun K hK => ?_)
  refine goes_ Try.func14 (by kernel_rfl) rfl #[.int .i64 f] (by rfl) rfl rfl (by simp only [List.map_toArray, List.map_cons, List.map_nil]; rfl) ?_
  with_reducible refine (calc_Args.calls 1 f _ _ (args_f f)).mono ?_
  rintro e w2 ⟨rfl, ⟨nd3, rfl⟩⟩
  refine ⟨_, rfl, ?_⟩
  have n0_ := Aside0.mk (AI.drewN HI.out.drew nd3)
  clear HI
  have HI := n0_
  clear n0_
  refine hK.out _ _ ⟨HI.out.o, HI.out.s⟩ (fun hHeld => ?_)
  clear hK K
  refine norm_ (a' := ?_) ?_ ?_
  rotate_left
  · show Act.put _ (some 15) _ = _
    simp only [Act.put, List.setIfInBounds_toArray, List.set_cons_zero, List.set_cons_succ, i64_w, i32_w]
    rfl
  refine pure_ (i := 4) (N := some 16) (v := ?_) (a' := ?_) #[true, true, true, true, true, false] rfl rfl (by kernel_rfl) (fun _ _ _ h => h) (Or.inl ⟨by rfl, ?_⟩) ?_ ?_
  rotate_left
  · intro w'
    go_simp
    with_reducible rfl
  rotate_left
  · simp only [Act.put, List.setIfInBounds_toArray, List.set_cons_zero, List.set_cons_succ, i64_w, i32_w]
    rfl
  refine one_ (i := 5) (N := some 17) #[true, true, true, true, true, true] rfl rfl (by kernel_rfl) (by decide) (fun K hK => ?_)
  refine goes_ Try.func30 (by kernel_rfl) rfl #[.bool true, .int .i64 37] (by rfl) rfl rfl (by simp only [List.map_toArray, List.map_cons, List.map_nil]; rfl) ?_
  with_reducible refine (calc_check.yes _ _).mono ?_
  rintro e w2 ⟨rfl, rfl⟩
  refine ⟨_, rfl, ?_⟩
  refine hK.out _ _ ⟨HI.out.o, HI.out.s⟩ (fun hHeld => ?_)
  clear hK K
  refine norm_ (a' := ?_) ?_ ?_
  rotate_left
  · show Act.put _ (some 17) _ = _
    simp only [Act.put, List.setIfInBounds_toArray, List.set_cons_zero, List.set_cons_succ, i64_w, i32_w]
    rfl
  refine done_ (by kernel_rfl) ?_
  refine at_exit (fun w' => AI f l (some ad) c b0 b1 W w') HI.out (fun w3 hI => ?_)
  clear HI
  have HI := Aside0.mk hI
  clear hI
  have hcF := HI.out.o
  go_wp2_with fail
  refine at_world (fun w' => AI f l (some ad) c b0 b1 W w') (by repeat (first | exact HI.out | refine AI.drewN ?_ _ | refine AI.drew ?_)) (fun w4 hI => ?_)
  clear HI hcF
  have HI := Aside0.mk hI
  clear hI
  have HB := Aside0.mk HI.out.drew
  clear HI
  have HI := HB
  refine start_ (n := 10) (S := fun w' => w'.cell? ⟨b1, 0, none⟩ = some (.slice (some ad) l.length c) ∧ w'.cell? ad = some (.int .i64 (rd_T25 l 0).f0) ∧ w'.cell? ⟨ad.block, ad.off + 1, none⟩ = some (.int .i64 (rd_T25 l 0).f1) ∧ w'.cell? ⟨ad.block, ad.off + 2, none⟩ = some (.string (rd_T25 l 0).f2) ∧ w'.cell? ⟨ad.block, ad.off + 3, none⟩ = some (.int .i64 (rd_T25 l 1).f0) ∧ w'.cell? ⟨ad.block, ad.off + 3 + 1, none⟩ = some (.int .i64 (rd_T25 l 1).f1) ∧ w'.cell? ⟨ad.block, ad.off + 3 + 2, none⟩ = some (.string (rd_T25 l 1).f2)) (ds := [9]) #[false, false, false, false, false, false, false, false, false, false] (by kernel_rfl) rfl rfl ⟨(HB.out).s, ((HB.out).at0 HL.out.1).1, ((HB.out).at0 HL.out.1).2.1, ((HB.out).at0 HL.out.1).2.2, ((HB.out).at1 HL.out.2).1, ((HB.out).at1 HL.out.2).2.1, ((HB.out).at1 HL.out.2).2.2⟩ (fun hHeld => ?_)
  refine take_ (i := 0) (N := some 20) (v := ?_) (a' := ?_) #[true, false, false, false, false, false, false, false, false, false] rfl rfl (by kernel_rfl) (fun _ _ _ h => h) (Or.inl ⟨by rfl, ?_⟩) hHeld ?_ ?_
  rotate_left
  · rintro w' ⟨s0, s1, s2, s3, s4, s5, s6⟩
    go_simp
    with_reducible rfl
  rotate_left
  · simp only [Act.put, List.setIfInBounds_toArray, List.set_cons_zero, List.set_cons_succ, i64_w, i32_w]
    rfl
  refine pure_ (i := 1) (N := some 21) (v := ?_) (a' := ?_) #[true, true, false, false, false, false, false, false, false, false] rfl rfl (by kernel_rfl) (fun _ _ _ h => h) (Or.inl ⟨by rfl, ?_⟩) ?_ ?_
  rotate_left
  · intro w'
    go_simp
    with_reducible rfl
  rotate_left
  · simp only [Act.put, List.setIfInBounds_toArray, List.set_cons_zero, List.set_cons_succ, i64_w, i32_w]
    rfl
  refine take_ (i := 2) (N := some 22) (v := ?_) (a' := ?_) #[true, true, true, false, false, false, false, false, false, false] rfl rfl (by kernel_rfl) (fun _ _ _ h => h) (Or.inl ⟨by rfl, ?_⟩) hHeld ?_ ?_
  rotate_left
  · rintro w' ⟨s0, s1, s2, s3, s4, s5, s6⟩
    go_simp
    with_reducible rfl
  rotate_left
  · simp only [Act.put, List.setIfInBounds_toArray, List.set_cons_zero, List.set_cons_succ, i64_w, i32_w]
    rfl
  refine take_ (i := 3) (N := some 23) (v := ?_) (a' := ?_) #[true, true, true, true, false, false, false, false, false, false] rfl rfl (by kernel_rfl) (fun _ _ _ h => h) (Or.inl ⟨by rfl, ?_⟩) hHeld ?_ ?_
  rotate_left
  · rintro w' ⟨s0, s1, s2, s3, s4, s5, s6⟩
    go_simp
    with_reducible rfl
  rotate_left
  · simp only [Act.put, List.setIfInBounds_toArray, List.set_cons_zero, List.set_cons_succ, i64_w, i32_w]
    rfl
  refine pure_ (i := 4) (N := some 24) (v := ?_) (a' := ?_) #[true, true, true, true, true, false, false, false, false, false] rfl rfl (by kernel_rfl) (fun _ _ _ h => h) (Or.inl ⟨by rfl, ?_⟩) ?_ ?_
  rotate_left
  · intro w'
    go_simp
    with_reducible rfl
  rotate_left
  · simp only [Act.put, List.setIfInBounds_toArray, List.set_cons_zero, List.set_cons_succ, i64_w, i32_w]
    rfl
  refine take_ (i := 5) (N := some 25) (v := ?_) (a' := ?_) #[true, true, true, true, true, true, false, false, false, false] rfl rfl (by kernel_rfl) (fun _ _ _ h => h) (Or.inl ⟨by rfl, ?_⟩) hHeld ?_ ?_
  rotate_left
  · rintro w' ⟨s0, s1, s2, s3, s4, s5, s6⟩
    go_simp
    with_reducible rfl
  rotate_left
  · simp only [Act.put, List.setIfInBounds_toArray, List.set_cons_zero, List.set_cons_succ, i64_w, i32_w]
    rfl
  refine join_ (σ := Nat × Nat) 2 #[true, true, true, true, true, true, true, true, false, false] (fun s => [(3, .pointer (some ⟨s.1, 0, none⟩)), (4, .pointer (some ⟨s.2, 0, none⟩))]) (fun s w' => AJ f l (some ad) c b0 b1 W zeroV zeroV s.1 s.2 w') ?_ ?_
  rotate_left
  · intro hCont
    refine two_ (i := 6) (j := 7) (Ni := some 3) (Nj := some 4) #[true, true, true, true, true, true, true, false, false, false] #[true, true, true, true, true, true, false, true, false, false] rfl rfl rfl rfl (by kernel_rfl) (by decide) (by decide) (fun K hK => ?_) (fun K hK => ?_)
    · skip
      refine value_ (w1 := ?_) (v := ?_) (by rfl) rfl ?_ ?_
      rotate_left 2
      · go_simp
        constructor
        · rfl
        · rfl
      have n0_ := Aside0.mk (AI.alloc HI.out (.cells #[.int .i64 0, .int .i64 0, .string (⟨#[]⟩ : ByteArray)] 25))
      clear HI
      have HI := n0_
      clear n0_
      refine hK.out _ _ ⟨(HI.out).s, ((HI.out).at0 HL.out.1).1, ((HI.out).at0 HL.out.1).2.1, ((HI.out).at0 HL.out.1).2.2, ((HI.out).at1 HL.out.2).1, ((HI.out).at1 HL.out.2).2.1, ((HI.out).at1 HL.out.2).2.2⟩ (fun hHeld => ?_)
      clear hK K
      refine norm_ (a' := ?_) ?_ ?_
      rotate_left
      · show Act.put _ (some 3) _ = _
        simp only [Act.put, List.setIfInBounds_toArray, List.set_cons_zero, List.set_cons_succ, i64_w, i32_w]
        rfl
      refine one_ (i := 7) (N := some 4) #[true, true, true, true, true, true, true, true, false, false] rfl rfl (by kernel_rfl) (by decide) (fun K hK => ?_)
      refine value_ (w1 := ?_) (v := ?_) (by rfl) rfl ?_ ?_
      rotate_left 2
      · go_simp
        constructor
        · rfl
        · rfl
      have n0_ := Aside0.mk (AI.alloc HI.out (.cells #[.int .i64 0, .int .i64 0, .string (⟨#[]⟩ : ByteArray)] 25))
      clear HI
      have HI := n0_
      clear n0_
      refine hK.out _ _ ⟨(HI.out).s, ((HI.out).at0 HL.out.1).1, ((HI.out).at0 HL.out.1).2.1, ((HI.out).at0 HL.out.1).2.2, ((HI.out).at1 HL.out.2).1, ((HI.out).at1 HL.out.2).2.1, ((HI.out).at1 HL.out.2).2.2⟩ (fun hHeld => ?_)
      clear hK K
      refine norm_ (a' := ?_) ?_ ?_
      rotate_left
      · show Act.put _ (some 4) _ = _
        simp only [Act.put, List.setIfInBounds_toArray, List.set_cons_zero, List.set_cons_succ, i64_w, i32_w]
        rfl
      exact norm_ (by first | (simp only [putAll, Act.put, List.setIfInBounds_toArray, List.set_cons_zero, List.set_cons_succ]; done) | (simp only [putAll, Act.put, List.setIfInBounds_toArray, List.set_cons_zero, List.set_cons_succ]; rfl)) (hCont (_, _) _ (AJ.two HB.out))
    · skip
      refine value_ (w1 := ?_) (v := ?_) (by rfl) rfl ?_ ?_
      rotate_left 2
      · go_simp
        constructor
        · rfl
        · rfl
      have n0_ := Aside0.mk (AI.alloc HI.out (.cells #[.int .i64 0, .int .i64 0, .string (⟨#[]⟩ : ByteArray)] 25))
      clear HI
      have HI := n0_
      clear n0_
      refine hK.out _ _ ⟨(HI.out).s, ((HI.out).at0 HL.out.1).1, ((HI.out).at0 HL.out.1).2.1, ((HI.out).at0 HL.out.1).2.2, ((HI.out).at1 HL.out.2).1, ((HI.out).at1 HL.out.2).2.1, ((HI.out).at1 HL.out.2).2.2⟩ (fun hHeld => ?_)
      clear hK K
      refine norm_ (a' := ?_) ?_ ?_
      rotate_left
      · show Act.put _ (some 4) _ = _
        simp only [Act.put, List.setIfInBounds_toArray, List.set_cons_zero, List.set_cons_succ, i64_w, i32_w]
        rfl
      refine one_ (i := 6) (N := some 3) #[true, true, true, true, true, true, true, true, false, false] rfl rfl (by kernel_rfl) (by decide) (fun K hK => ?_)
      refine value_ (w1 := ?_) (v := ?_) (by rfl) rfl ?_ ?_
      rotate_left 2
      · go_simp
        constructor
        · rfl
        · rfl
      have n0_ := Aside0.mk (AI.alloc HI.out (.cells #[.int .i64 0, .int .i64 0, .string (⟨#[]⟩ : ByteArray)] 25))
      clear HI
      have HI := n0_
      clear n0_
      refine hK.out _ _ ⟨(HI.out).s, ((HI.out).at0 HL.out.1).1, ((HI.out).at0 HL.out.1).2.1, ((HI.out).at0 HL.out.1).2.2, ((HI.out).at1 HL.out.2).1, ((HI.out).at1 HL.out.2).2.1, ((HI.out).at1 HL.out.2).2.2⟩ (fun hHeld => ?_)
      clear hK K
      refine norm_ (a' := ?_) ?_ ?_
      rotate_left
      · show Act.put _ (some 3) _ = _
        simp only [Act.put, List.setIfInBounds_toArray, List.set_cons_zero, List.set_cons_succ, i64_w, i32_w]
        rfl
      exact norm_ (by first | (simp only [putAll, Act.put, List.setIfInBounds_toArray, List.set_cons_zero, List.set_cons_succ]; done) | (simp only [putAll, Act.put, List.setIfInBounds_toArray, List.set_cons_zero, List.set_cons_succ]; rfl)) (hCont (_, _) _ (AJ.swap (AJ.two HB.out)))
  rintro ⟨b3, b4⟩ w5 hJ
  have HJ := Aside0.mk hJ
  clear hJ
  have HI := Aside0.mk HJ.out.1
  have hHeld := HI.out
  replace hHeld := (⟨(HI.out).s, ((HI.out).at0 HL.out.1).1, ((HI.out).at0 HL.out.1).2.1, ((HI.out).at0 HL.out.1).2.2, ((HI.out).at1 HL.out.2).1, ((HI.out).at1 HL.out.2).2.1, ((HI.out).at1 HL.out.2).2.2⟩ : (w5.cell? ⟨b1, 0, none⟩ = some (.slice (some ad) l.length c) ∧ w5.cell? ad = some (.int .i64 (rd_T25 l 0).f0) ∧ w5.cell? ⟨ad.block, ad.off + 1, none⟩ = some (.int .i64 (rd_T25 l 0).f1) ∧ w5.cell? ⟨ad.block, ad.off + 2, none⟩ = some (.string (rd_T25 l 0).f2) ∧ w5.cell? ⟨ad.block, ad.off + 3, none⟩ = some (.int .i64 (rd_T25 l 1).f0) ∧ w5.cell? ⟨ad.block, ad.off + 3 + 1, none⟩ = some (.int .i64 (rd_T25 l 1).f1) ∧ w5.cell? ⟨ad.block, ad.off + 3 + 2, none⟩ = some (.string (rd_T25 l 1).f2)))
  have hne : ¬ b3 = b4 := HJ.out.2.2.2.1
  have hne' : ¬ b4 = b3 := fun e => hne e.symm
  have ga0 : World.cell? _ ⟨b3, 0, none⟩ = some (.int .i64 0) := (blk_cell HJ.out.2.2.2.2.1 0).trans rfl
  have ga1 : World.cell? _ ⟨b3, 1, none⟩ = some (.int .i64 0) := (blk_cell HJ.out.2.2.2.2.1 1).trans rfl
  have ga2 : World.cell? _ ⟨b3, 2, none⟩ = some (.string (⟨#[]⟩ : ByteArray)) := (blk_cell HJ.out.2.2.2.2.1 2).trans rfl
  have gaf0 := blk_frozen HJ.out.2.2.2.2.1 0
  have gaf1 := blk_frozen HJ.out.2.2.2.2.1 1
  have gaf2 := blk_frozen HJ.out.2.2.2.2.1 2
  refine norm_ (a' := ?_) ?_ ?_
  rotate_left
  · simp only [putAll, Act.put, List.setIfInBounds_toArray, List.set_cons_zero, List.set_cons_succ]
    rfl
  refine one_ (i := 8) (N := none) #[true, true, true, true, true, true, true, true, true, false] rfl rfl (by kernel_rfl) (by decide) (fun K hK => ?_)
  refine skip_ (w1 := ?_) (by rfl) rfl ?_ ?_
  rotate_left
  · go_simp
    rfl
  have J2 := Aside0.mk (AJ.first (u' := (rd_T25 l 0)) HJ.out)
  clear HJ HI ga0 ga1 ga2 gaf0 gaf1 gaf2
  have HJ := J2
  clear J2
  have HI := Aside0.mk HJ.out.1
  have gb0 : World.cell? _ ⟨b4, 0, none⟩ = some (.int .i64 0) := (blk_cell HJ.out.2.2.2.2.2 0).trans rfl
  have gb1 : World.cell? _ ⟨b4, 1, none⟩ = some (.int .i64 0) := (blk_cell HJ.out.2.2.2.2.2 1).trans rfl
  have gb2 : World.cell? _ ⟨b4, 2, none⟩ = some (.string (⟨#[]⟩ : ByteArray)) := (blk_cell HJ.out.2.2.2.2.2 2).trans rfl
  have gbf0 := blk_frozen HJ.out.2.2.2.2.2 0
  have gbf1 := blk_frozen HJ.out.2.2.2.2.2 1
  have gbf2 := blk_frozen HJ.out.2.2.2.2.2 2
  refine hK.out _ _ ⟨(HI.out).s, ((HI.out).at0 HL.out.1).1, ((HI.out).at0 HL.out.1).2.1, ((HI.out).at0 HL.out.1).2.2, ((HI.out).at1 HL.out.2).1, ((HI.out).at1 HL.out.2).2.1, ((HI.out).at1 HL.out.2).2.2⟩ (fun hHeld => ?_)
  clear hK K
  refine last_ (i := 9) (N := none) #[true, true, true, true, true, true, true, true, true, true] rfl rfl (by kernel_rfl) (by decide) (fun K hK => ?_)
  refine skip_ (w1 := ?_) (by rfl) rfl ?_ ?_
  rotate_left
  · go_simp
    rfl
  have J2 := Aside0.mk (AJ.second (v' := (rd_T25 l 1)) HJ.out)
  clear HJ HI gb0 gb1 gb2 gbf0 gbf1 gbf2 hne hne'
  have HJ := J2
  clear J2
  refine hK.out _ _ ?_
  clear hK K
  refine done_ (by kernel_rfl) ?_
  refine at_exit (fun w' => AJ f l (some ad) c b0 b1 W (rd_T25 l 0) (rd_T25 l 1) b3 b4 w') HJ.out (fun w6 hJ => ?_)
  clear HJ
  have HJ := Aside0.mk hJ
  clear hJ
  have ga0 : World.cell? _ ⟨b3, 0, none⟩ = some (.int .i64 (rd_T25 l 0).f0) := (blk_cell HJ.out.2.2.2.2.1 0).trans rfl
  have ga1 : World.cell? _ ⟨b3, 1, none⟩ = some (.int .i64 (rd_T25 l 0).f1) := (blk_cell HJ.out.2.2.2.2.1 1).trans rfl
  have ga2 : World.cell? _ ⟨b3, 2, none⟩ = some (.string (rd_T25 l 0).f2) := (blk_cell HJ.out.2.2.2.2.1 2).trans rfl
  have gaf0 := blk_frozen HJ.out.2.2.2.2.1 0
  have gaf1 := blk_frozen HJ.out.2.2.2.2.1 1
  have gaf2 := blk_frozen HJ.out.2.2.2.2.1 2
  have gb0 : World.cell? _ ⟨b4, 0, none⟩ = some (.int .i64 (rd_T25 l 1).f0) := (blk_cell HJ.out.2.2.2.2.2 0).trans rfl
  have gb1 : World.cell? _ ⟨b4, 1, none⟩ = some (.int .i64 (rd_T25 l 1).f1) := (blk_cell HJ.out.2.2.2.2.2 1).trans rfl
  have gb2 : World.cell? _ ⟨b4, 2, none⟩ = some (.string (rd_T25 l 1).f2) := (blk_cell HJ.out.2.2.2.2.2 2).trans rfl
  have gbf0 := blk_frozen HJ.out.2.2.2.2.2 0
  have gbf1 := blk_frozen HJ.out.2.2.2.2.2 1
  have gbf2 := blk_frozen HJ.out.2.2.2.2.2 2
  have gz0 : World.cell? _ ⟨W.heap.size, 0, none⟩ = some (.int .i64 0) := (blk_cell HJ.out.1.z 0).trans rfl
  have gz1 : World.cell? _ ⟨W.heap.size, 1, none⟩ = some (.int .i64 0) := (blk_cell HJ.out.1.z 1).trans rfl
  have gz2 : World.cell? _ ⟨W.heap.size, 2, none⟩ = some (.string (⟨#[]⟩ : ByteArray)) := (blk_cell HJ.out.1.z 2).trans rfl
  have gzf0 := blk_frozen HJ.out.1.z 0
  have gzf1 := blk_frozen HJ.out.1.z 1
  have gzf2 := blk_frozen HJ.out.1.z 2
  go_wp2_with (first | (go_at_call 14; (with_reducible refine (calc_Args.calls 1 f _ _ (args_f f)).mono ?_); rintro e w' ⟨rfl, ⟨nd, rfl⟩⟩) | (go_at_call 30; (with_reducible refine (calc_check.yes _ _).mono ?_); rintro e w' ⟨rfl, rfl⟩) | (go_at_call 30; (with_reducible refine (calc_check.no _ _).mono ?_); rintro e w' ⟨rfl, rfl⟩))
  exact ⟨rfl, rfl, HJ.out.1.bel⟩
end Go.Proofs.Ytfbeklbjlkgbnaa.P
end
section
namespace Go.Proofs.Ytfbeklbjlkgbnaa.P
open Go.RowKit Go.Proofs.Ytfbeklbjlkgbnaa.Pure Go.Proofs.YtfbeklbjlkgbnaaW.PrintWords Go.Proofs.YtfbeklbjlkgbnaaW.PrintLast Go.Proofs.YtfbeklbjlkgbnaaW.PrintMore
attribute [local go_sem] max2_int min2_int max_two min_two max_three min_three max_four min_four
set_option linter.unusedVariables false
set_option linter.unusedSimpArgs false
set_option maxHeartbeats 2000000 in
set_option maxRecDepth 100000 in
theorem calc_Call1.rest (f : Int) (l : List S25) (ad : Addr) (c b0 b1 : Nat) (W : World) (h0 : W.heap[b0]? = some (.cells #[.int .i64 f] 3 (0, 0))) (h1 : W.heap[b1]? = some (.cells #[.slice (some ad) l.length c] 22 (0, 0))) (hr : Kd.C k25 W (some ad) l.length l) (l0 : 0 < argsN f) (lc : (l.length : Int) = argsN f) (f6 : ¬ f = 6) (hf : ∀ v ∈ l, FitsV v) (hc : l.length ≤ c) :
    Calls Try.prog 29 #[.pointer (some ⟨b0, 0, none⟩), .pointer (some ⟨b1, 0, none⟩)] W (fun e w' => RE (restP f l) e ∧ Below W.heap.size W w') := by
  have hu25 := Try.underlying25
  have n0 : ¬ b0 = W.heap.size := by have := blk_lt h0; omega
  have n1 : ¬ b1 = W.heap.size := by have := blk_lt h1; omega
  have HS := Aside0.mk (AI.start h0 h1 hr)
  clear h0 h1 hr
  have hcF := HS.out.o
  have hcA := HS.out.s
  have HF := Aside0.mk hf
  have HC := Aside0.mk hc
  clear hf hc
  have q0 : decide (0 < argsN f) = true := decide_eq_true l0
  have q1 : ((l.length : Int) == argsN f) = true := beq_iff_eq.mpr lc
  have q2 : (f == 6) = false := beq_eq_false_iff_ne.mpr f6
  have l0' := Aside0.mk l0
  have lc' := Aside0.mk lc
  have f6' := Aside0.mk f6
  have hlen : 0 < l.length := by omega
  have HL := Aside0.mk hlen
  clear hlen
  clear l0 lc f6
  go_enter Try.func29, Try.ntmps29
  go_wp2_with (first | (go_at_call 14; (with_reducible refine (calc_Args.calls 1 f _ _ (args_f f)).mono ?_); rintro e w' ⟨rfl, ⟨nd, rfl⟩⟩) | (go_at_call 30; (with_reducible refine (calc_check.yes _ _).mono ?_); rintro e w' ⟨rfl, rfl⟩) | (go_at_call 30; (with_reducible refine (calc_check.no _ _).mono ?_); rintro e w' ⟨rfl, rfl⟩))
  refine at_world (fun w' => AI f l (some ad) c b0 b1 W w') (by repeat (first | exact HS.out | refine AI.drewN ?_ _ | refine AI.drew ?_)) (fun w1 hI => ?_)
  have HI := Aside0.mk hI
  clear hI hcF hcA
  refine start_ (n := 6) (S := fun w' => w'.cell? ⟨b0, 0, none⟩ = some (.int .i64 f) ∧ w'.cell? ⟨b1, 0, none⟩ = some (.slice (some ad) l.length c)) (ds := []) #[false, false, false, false, false, false] (by kernel_rfl) rfl rfl ⟨HI.out.drew.o, HI.out.drew.s⟩ (fun hHeld => ?_)
  refine take_ (i := 0) (N := some 12) (v := ?_) (a' := ?_) #[true, false, false, false, false, false] rfl rfl (by kernel_rfl) (fun _ _ _ h => h) (Or.inl ⟨by rfl, ?_⟩) hHeld ?_ ?_
  rotate_left
  · rintro w' ⟨s0, s1⟩
    go_simp
    with_reducible rfl
  rotate_left
  · simp only [Act.put, List.setIfInBounds_toArray, List.set_cons_zero, List.set_cons_succ, i64_w, i32_w]
    rfl
  refine pure_ (i := 1) (N := some 13) (v := ?_) (a' := ?_) #[true, true, false, false, false, false] rfl rfl (by kernel_rfl) (fun _ _ _ h => h) (Or.inl ⟨by rfl, ?_⟩) ?_ ?_
  rotate_left
  · intro w'
    go_simp
    with_reducible rfl
  rotate_left
  · simp only [Act.put, List.setIfInBounds_toArray, List.set_cons_zero, List.set_cons_succ, i64_w, i32_w]
    rfl
  refine take_ (i := 2) (N := some 14) (v := ?_) (a' := ?_) #[true, true, true, false, false, false] rfl rfl (by kernel_rfl) (fun _ _ _ h => h) (Or.inl ⟨by rfl, ?_⟩) hHeld ?_ ?_
  rotate_left
  · rintro w' ⟨s0, s1⟩
    go_simp
    with_reducible rfl
  rotate_left
  · simp only [Act.put, List.setIfInBounds_toArray, List.set_cons_zero, List.set_cons_succ, i64_w, i32_w]
    rfl
  refine one_ (i := 3) (N := some 15) #[true, true, true, true, false, false] rfl rfl (by kernel_rfl) (by decide) (fun K hK => ?_)
  refine goes_ Try.func14 (by kernel_rfl) rfl #[.int .i64 f] (by rfl) rfl rfl (by simp only [List.map_toArray, List.map_cons, List.map_nil]; rfl) ?_
  with_reducible refine (calc_Args.calls 1 f _ _ (args_f f)).mono ?_
  rintro e w2 ⟨rfl, ⟨nd3, rfl⟩⟩
  refine ⟨_, rfl, ?_⟩
  have n0_ := Aside0.mk (AI.drewN HI.out.drew nd3)
  clear HI
  have HI := n0_
  clear n0_
  refine hK.out _ _ ⟨HI.out.o, HI.out.s⟩ (fun hHeld => ?_)
  clear hK K
  refine norm_ (a' := ?_) ?_ ?_
  rotate_left
  · show Act.put _ (some 15) _ = _
    simp only [Act.put, List.setIfInBounds_toArray, List.set_cons_zero, List.set_cons_succ, i64_w, i32_w]
    rfl
  refine pure_ (i := 4) (N := some 16) (v := ?_) (a' := ?_) #[true, true, true, true, true, false] rfl rfl (by kernel_rfl) (fun _ _ _ h => h) (Or.inl ⟨by rfl, ?_⟩) ?_ ?_
  rotate_left
  · intro w'
    go_simp
    with_reducible rfl
  rotate_left
  · simp only [Act.put, List.setIfInBounds_toArray, List.set_cons_zero, List.set_cons_succ, i64_w, i32_w]
    rfl
  refine one_ (i := 5) (N := some 17) #[true, true, true, true, true, true] rfl rfl (by kernel_rfl) (by decide) (fun K hK => ?_)
  refine goes_ Try.func30 (by kernel_rfl) rfl #[.bool true, .int .i64 37] (by rfl) rfl rfl (by simp only [List.map_toArray, List.map_cons, List.map_nil]; rfl) ?_
  with_reducible refine (calc_check.yes _ _).mono ?_
  rintro e w2 ⟨rfl, rfl⟩
  refine ⟨_, rfl, ?_⟩
  refine hK.out _ _ ⟨HI.out.o, HI.out.s⟩ (fun hHeld => ?_)
  clear hK K
  refine norm_ (a' := ?_) ?_ ?_
  rotate_left
  · show Act.put _ (some 17) _ = _
    simp only [Act.put, List.setIfInBounds_toArray, List.set_cons_zero, List.set_cons_succ, i64_w, i32_w]
    rfl
  refine done_ (by kernel_rfl) ?_
  refine at_exit (fun w' => AI f l (some ad) c b0 b1 W w') HI.out (fun w3 hI => ?_)
  clear HI
  have HI := Aside0.mk hI
  clear hI
  have hcF := HI.out.o
  have hcA := HI.out.s
  go_wp2_with fail
  go_loopw [5, 49] (fun v5 v49 wr => ∃ (k : Nat) (b : Bool), v5 = .bool b ∧ v49 = .int .i64 k ∧ k ≤ l.length ∧ Aside0 (goArgs f k (l.drop k) b = goArgs f 0 l false) ∧ Aside0 (AI f l (some ad) c b0 b1 W wr)) (fun _ v49 _ => l.length - (intOf v49).toNat)
  case atStart => exact ⟨0, false, rfl, rfl, Nat.zero_le _, ⟨by simp⟩, HI⟩
  case round =>
    obtain ⟨k, b, rfl, rfl, hk, HG, HI⟩ := hrel
    have hcF := HI.out.o
    have hcA := HI.out.s
    by_cases hlt : k < l.length
    · skip
      have q_a : decide (k < l.length) = true := decide_eq_true hlt
      have q_b : decide ((k : Int) < (l.length : Int)) = true := decide_eq_true (by omega)
      have q_c : (k < l.length) = True := eq_true hlt
      have q_e : ((k : Int) < (l.length : Int)) = True := eq_true (by omega)
      have q_d : (0 ≤ (k : Int)) = True := eq_true (by omega)
      obtain ⟨hx0, hx1, hx2⟩ := HI.out.atk k hlt
      have HK : Aside0 (k < l.length) := ⟨hlt⟩
      have nr0 : ¬ b0 = wr.heap.size := by have := blk_lt (blk_below HI.out.1 HI.out.bel); omega
      have nr1 : ¬ b1 = wr.heap.size := by have := blk_lt (blk_below HI.out.2.1 HI.out.bel); omega
      have hcF2 : World.cell? (wr.alloc (.cells #[.int .i64 (rd_T25 l k).f0, .int .i64 (rd_T25 l k).f1, .string (rd_T25 l k).f2] 25)) ⟨b0, 0, none⟩ = some (.int .i64 f) := (AI.alloc HI.out _).o
      have hw : wrap64 ((k : Int) + 1) = ((k + 1 : Nat) : Int) := by have := Kd.C_max HI.out.C; unfold wrap64; omega
      have HS1 := Aside0.mk (goArgs_step (f := f) (b := b) hlt)
      have hkm : k < 9223372036854775807 := by have := Kd.C_max HI.out.C; omega
      cases ht : takesP f k (rd_T25 l k).f0 with
      | false =>
        have HT : Aside0 (calc_takes.f f (k : Int) (rd_T25 l k).f0 = some false) := ⟨by rw [takes_f, ht]⟩
        have HE : Aside0 (restP f l = .error 35) := ⟨by unfold restP; rw [← HG.out, HS1.out, ht]; rfl⟩
        clear ht hlt hk HS1 hw
        go_wp2_with (first | (go_at_call 31; (with_reducible refine (calc_takes.calls f (k : Int) (rd_T25 l k).f0 _ _ HT.out).mono ?_); rintro e w' ⟨rfl, ⟨nd, rfl⟩⟩) | (go_at_call 30; (with_reducible refine (calc_check.yes _ _).mono ?_); rintro e w' ⟨rfl, rfl⟩) | (go_at_call 30; (with_reducible refine (calc_check.no _ _).mono ?_); rintro e w' ⟨rfl, rfl⟩))
        refine ⟨rfl, ?_, ?_⟩
        · rw [HE.out]; rfl
        · exact AI.bel (f := f) (l := l) (A := some ad) (c := c) (b0 := b0) (b1 := b1) (by repeat (first | exact HI.out | refine AI.drewN ?_ _ | refine AI.drew ?_ | refine AI.alloc ?_ _ | refine AI.set ?_ (blk_lt HI.out.z) _ _))
      | true =>
        have HT : Aside0 (calc_takes.f f (k : Int) (rd_T25 l k).f0 = some true) := ⟨by rw [takes_f, ht]⟩
        cases b with
        | true =>
          have HN : Aside0 (goArgs f (k + 1) (l.drop (k + 1)) true = goArgs f 0 l false) := ⟨by have h1 := HS1.out; rw [if_pos ht, Bool.true_or] at h1; rw [← h1]; exact HG.out⟩
          clear ht hlt hk HS1 hw
          go_wp2_with (first | (go_at_call 31; (with_reducible refine (calc_takes.calls f (k : Int) (rd_T25 l k).f0 _ _ HT.out).mono ?_); rintro e w' ⟨rfl, ⟨nd, rfl⟩⟩) | (go_at_call 30; (with_reducible refine (calc_check.yes _ _).mono ?_); rintro e w' ⟨rfl, rfl⟩) | (go_at_call 30; (with_reducible refine (calc_check.no _ _).mono ?_); rintro e w' ⟨rfl, rfl⟩))
          go_roundw
          case rel => exact ⟨k + 1, true, rfl, by go_num, HK.out, HN, ⟨(by repeat (first | exact HI.out | refine AI.drewN ?_ _ | refine AI.drew ?_ | refine AI.alloc ?_ _ | refine AI.set ?_ (blk_lt HI.out.z) _ _))⟩⟩
          case measure => have := HK.out; simp [intOf]; omega
        | false =>
          by_cases hz : (rd_T25 l k).f0 = 0
          · have HN : Aside0 (goArgs f (k + 1) (l.drop (k + 1)) true = goArgs f 0 l false) := ⟨by have h1 := HS1.out; rw [if_pos ht, Bool.false_or, beq_iff_eq.mpr hz] at h1; rw [← h1]; exact HG.out⟩
            have q_z : ((rd_T25 l k).f0 == 0) = true := beq_iff_eq.mpr hz
            clear ht hlt hk HS1 hw hz
            go_wp2_with (first | (go_at_call 31; (with_reducible refine (calc_takes.calls f (k : Int) (rd_T25 l k).f0 _ _ HT.out).mono ?_); rintro e w' ⟨rfl, ⟨nd, rfl⟩⟩) | (go_at_call 30; (with_reducible refine (calc_check.yes _ _).mono ?_); rintro e w' ⟨rfl, rfl⟩) | (go_at_call 30; (with_reducible refine (calc_check.no _ _).mono ?_); rintro e w' ⟨rfl, rfl⟩))
            go_roundw
            case rel => exact ⟨k + 1, true, rfl, by go_num, HK.out, HN, ⟨(by repeat (first | exact HI.out | refine AI.drewN ?_ _ | refine AI.drew ?_ | refine AI.alloc ?_ _ | refine AI.set ?_ (blk_lt HI.out.z) _ _))⟩⟩
            case measure => have := HK.out; simp [intOf]; omega
          · have HN : Aside0 (goArgs f (k + 1) (l.drop (k + 1)) false = goArgs f 0 l false) := ⟨by have h1 := HS1.out; rw [if_pos ht, Bool.false_or, beq_eq_false_iff_ne.mpr hz] at h1; rw [← h1]; exact HG.out⟩
            have q_z : ((rd_T25 l k).f0 == 0) = false := beq_eq_false_iff_ne.mpr hz
            clear ht hlt hk HS1 hw hz
            go_wp2_with (first | (go_at_call 31; (with_reducible refine (calc_takes.calls f (k : Int) (rd_T25 l k).f0 _ _ HT.out).mono ?_); rintro e w' ⟨rfl, ⟨nd, rfl⟩⟩) | (go_at_call 30; (with_reducible refine (calc_check.yes _ _).mono ?_); rintro e w' ⟨rfl, rfl⟩) | (go_at_call 30; (with_reducible refine (calc_check.no _ _).mono ?_); rintro e w' ⟨rfl, rfl⟩))
            go_roundw
            case rel => exact ⟨k + 1, false, rfl, by go_num, HK.out, HN, ⟨(by repeat (first | exact HI.out | refine AI.drewN ?_ _ | refine AI.drew ?_ | refine AI.alloc ?_ _ | refine AI.set ?_ (blk_lt HI.out.z) _ _))⟩⟩
            case measure => have := HK.out; simp [intOf]; omega
    · have q_a : decide (k < l.length) = false := decide_eq_false hlt
      have q_b : decide ((k : Int) < (l.length : Int)) = false := decide_eq_false (by omega)
      have gz0 : World.cell? wr ⟨W.heap.size, 0, none⟩ = some (.int .i64 0) := (blk_cell HI.out.z 0).trans rfl
      have gz1 : World.cell? wr ⟨W.heap.size, 1, none⟩ = some (.int .i64 0) := (blk_cell HI.out.z 1).trans rfl
      have gz2 : World.cell? wr ⟨W.heap.size, 2, none⟩ = some (.string (⟨#[]⟩ : ByteArray)) := (blk_cell HI.out.z 2).trans rfl
      have HE : Aside0 (goArgs f 0 l false = .ok b) := ⟨by rw [← HG.out, List.drop_eq_nil_of_le (by omega)]; rfl⟩
      clear hlt hk
      cases b with
      | true =>
        have HR : Aside0 (restP f l = .ok zeroV) := ⟨by unfold restP; rw [HE.out]⟩
        have gf0 := blk_frozen HI.out.z 0
        have gf1 := blk_frozen HI.out.z 1
        have gf2 := blk_frozen HI.out.z 2
        go_wp2_with fail
        refine bodyPost_ret (v := .agg #[.int .i64 0, .int .i64 0, .string V0]) (by simp [results, Try.results29, go_sem, V0, gz0, gz1, gz2]) rfl ⟨?_, ?_⟩
        · rw [HR.out]; rfl
        · exact below_set3 HI.out.bel (Nat.le_refl W.heap.size) _ _ _ _ _ _
      | false =>
        have HR : Aside0 (restP f l = calledP f l) := ⟨by unfold restP; rw [HE.out]⟩
        clear gz0 gz1 gz2
        go_wp2_with fail
        cases hcp : calledP f l with
        | error e0 =>
          obtain ⟨hf2, hm, rfl⟩ := called_E hcp
          refine (calc_called.over f (some ad) c l wr HI.out.C HL.out hf2 hm).mono ?_
          rintro e w' ⟨rfl, hb⟩
          have HR' : Aside0 (restP f l = .error 40) := ⟨HR.out.trans hcp⟩
          have HB := Aside0.mk (below_step HI.out.bel hb)
          clear hcp hf2 hm hb
          unfold PErr
          go_wp2_with fail
          refine ⟨rfl, ?_, HB.out⟩
          rw [HR'.out]; rfl
        | ok r =>
          have HR' : Aside0 (restP f l = .ok r) := ⟨HR.out.trans hcp⟩
          refine (calc_called.calls f (some ad) c l r.f0 r.f1 r.f2 wr HI.out.C HC.out (called_f hcp HF.out lc'.out l0'.out f6'.out)).mono ?_
          rintro e w' ⟨rfl, hb⟩
          have HJ := Aside0.mk (HI.out.below hb)
          clear hcp hb hcF hcA
          have gz0 : World.cell? w' ⟨W.heap.size, 0, none⟩ = some (.int .i64 0) := (blk_cell HJ.out.z 0).trans rfl
          have gz1 : World.cell? w' ⟨W.heap.size, 1, none⟩ = some (.int .i64 0) := (blk_cell HJ.out.z 1).trans rfl
          have gz2 : World.cell? w' ⟨W.heap.size, 2, none⟩ = some (.string (⟨#[]⟩ : ByteArray)) := (blk_cell HJ.out.z 2).trans rfl
          have gf0 := blk_frozen HJ.out.z 0
          have gf1 := blk_frozen HJ.out.z 1
          have gf2 := blk_frozen HJ.out.z 2
          go_wp2_with fail
          refine bodyPost_ret (v := encV r) (by simp [results, Try.results29, go_sem, encV, gz0, gz1, gz2]) rfl ⟨?_, ?_⟩
          · rw [HR'.out]; rfl
          · exact below_set3 HJ.out.bel (Nat.le_refl W.heap.size) _ _ _ _ _ _
end Go.Proofs.Ytfbeklbjlkgbnaa.P
end
