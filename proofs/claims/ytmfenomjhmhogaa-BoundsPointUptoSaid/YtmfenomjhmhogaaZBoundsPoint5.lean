/- Laid by a program of this session out of its texts for the law BoundsPoint, part 5. -/
import Derived.Lib.Bytealg
import Derived.Test.YtmfenomjhmhogaaZBoundsPoint4
section
namespace Go.Proofs.Ytmfenomjhmhogaa.P
open Go.RowKit Go.Proofs.YtmfenomjhmhogaaW.PrintWords Go.Proofs.YtmfenomjhmhogaaW.PrintLast Go.Proofs.YtmfenomjhmhogaaW.PrintMore
attribute [local go_sem] max2_int min2_int max_two min_two max_three min_three max_four min_four
set_option linter.unusedVariables false
set_option linter.unusedSimpArgs false
attribute [local go_sem high] eqA25
mutual
def quarrylaw19_BoundsPoint.j0 : Nat → List (S25) → List (S25) → Bool → Int → ByteArray → ByteArray → List Int → List Bool → Bool → Option (Bool)
 | 0, _, _, _, _, _, _, _, _, _ => none
 | k + 1, x1, x2, x46, x414000, x414001, x414002, x414003, x414004, x414005 => if x46 = true then (some true) else (quarrylaw19_BoundsPoint.l0 k x1 x2 ([] : List (S58)) true 0 x414000 x414001 x414002 x414003 x414004 x414005)
def quarrylaw19_BoundsPoint.l0 : Nat → List (S25) → List (S25) → List (S58) → Bool → Int → Int → ByteArray → ByteArray → List Int → List Bool → Bool → Option (Bool)
 | 0, _, _, _, _, _, _, _, _, _, _, _ => none
 | k + 1, x1, x2, x7, x8, x9, x414000, x414001, x414002, x414003, x414004, x414005 => if x9 < (x414003.length : Int) then (quarrylaw19_BoundsPoint.l1 k x1 x2 x7 x8 x9 0 x414000 x414001 x414002 x414003 x414004 x414005) else ((quarrylaw19_its.f k x7).bind fun t415 => ((bounds_Range.f k x414000 x414001 x414002 x414003 x414004 x414005 t415).bind fun bt418 => (if 0 ≤ (x414003.length : Int) then (if (x414003.length : Int) ≤ (x2.length : Int) then ((quarrylaw19_key.f k (x2.take ((x414003.length : Int) : Int).toNat) x414004).bind fun t429 => (if ((Op.bytesLess ((strOfNums t429).toList) ((strOfNums bt418.1).toList)) = true) then (some (false == x8)) else (if bt418.2.2 = true then (some (true == x8)) else (some ((Op.bytesLess ((strOfNums t429).toList) ((strOfNums bt418.2.1).toList)) == x8))))) else (none)) else (none))))
def quarrylaw19_BoundsPoint.l1 : Nat → List (S25) → List (S25) → List (S58) → Bool → Int → Int → Int → ByteArray → ByteArray → List Int → List Bool → Bool → Option (Bool)
 | 0, _, _, _, _, _, _, _, _, _, _, _, _ => none
 | k + 1, x1, x2, x7, x8, x9, x10, x414000, x414001, x414002, x414003, x414004, x414005 => if x10 < x9 then (if 0 ≤ x10 then (if x10 < (x414003.length : Int) then (if 0 ≤ x9 then (if x9 < (x414003.length : Int) then (if (rd x414003 x10) = (rd x414003 x9) then (some true) else (quarrylaw19_BoundsPoint.l1 k x1 x2 x7 x8 x9 (wrap64 (x10 + 1)) x414000 x414001 x414002 x414003 x414004 x414005)) else (none)) else (none)) else (none)) else (none)) else (if 0 ≤ x9 then (if x9 < (x1.length : Int) then ((quarryref01_Check.f ((rd_T25 x1 x9).f0) ((rd_T25 x1 x9).f1) ((rd_T25 x1 x9).f2)).bind fun t435 => (if t435 = 0 then (if ((rd_T25 x1 x9).f0) = 0 then (some true) else (if x9 < (x2.length : Int) then ((quarryref01_Check.f ((rd_T25 x2 x9).f0) ((rd_T25 x2 x9).f1) ((rd_T25 x2 x9).f2)).bind fun t438 => (if t438 = 0 then (if x8 = true then (if x9 < (x414003.length : Int) then (if x7.length < 2932031007402 then (quarrylaw19_BoundsPoint.l0 k x1 x2 (x7 ++ [(⟨rd x414003 x9, 5, (⟨(rd_T25 x1 x9).f0, (rd_T25 x1 x9).f1, (rd_T25 x1 x9).f2⟩ : S25)⟩ : S58)]) (((rd_T25 x1 x9).f0) == ((rd_T25 x2 x9).f0) && (((rd_T25 x1 x9).f1) == ((rd_T25 x2 x9).f1) && ((((rd_T25 x1 x9).f2).toList) == (((rd_T25 x2 x9).f2).toList)))) (wrap64 (x9 + 1)) x414000 x414001 x414002 x414003 x414004 x414005) else (none)) else (none)) else (if x9 < (x414003.length : Int) then (if x7.length < 2932031007402 then (quarrylaw19_BoundsPoint.l0 k x1 x2 (x7 ++ [(⟨rd x414003 x9, 5, (⟨(rd_T25 x1 x9).f0, (rd_T25 x1 x9).f1, (rd_T25 x1 x9).f2⟩ : S25)⟩ : S58)]) false (wrap64 (x9 + 1)) x414000 x414001 x414002 x414003 x414004 x414005) else (none)) else (none))) else (some true))) else (none))) else (some true))) else (none)) else (none))
end
def quarrylaw19_BoundsPoint.f (k : Nat) (a0_0 : Int) (a0_1 : ByteArray) (a0_2 : ByteArray) (l0_3 : List Int) (l0_4 : List Bool) (a0_5 : Bool) (l1 : List (S25)) (l2 : List (S25)) : Option (Bool) := (quarrylaw19_works.f k).bind fun t414 => (if t414 = true then (if (l1.length : Int) < (l0_3.length : Int) then (quarrylaw19_BoundsPoint.j0 k l1 l2 true a0_0 a0_1 a0_2 l0_3 l0_4 a0_5) else (if (l0_4.length : Int) = (l0_3.length : Int) then (if (l0_3.length : Int) = 0 then (quarrylaw19_BoundsPoint.j0 k l1 l2 true a0_0 a0_1 a0_2 l0_3 l0_4 a0_5) else (quarrylaw19_BoundsPoint.j0 k l1 l2 (decide ((l2.length : Int) < (l0_3.length : Int))) a0_0 a0_1 a0_2 l0_3 l0_4 a0_5)) else (quarrylaw19_BoundsPoint.j0 k l1 l2 true a0_0 a0_1 a0_2 l0_3 l0_4 a0_5))) else (none))
def quarrylaw19_BoundsPoint.T13 : Bool × List (List Nat × List Nat) := (true, [([], []), ([0], [0]), ([], []), ([1, 2], [1, 2]), ([3], [3]), ([], []), ([5], [5]), ([], []), ([6, 7], [6, 7]), ([8], [8]), ([4, 9], [4, 9])])
def quarrylaw19_BoundsPoint.B13 : List Nat := [0, 1, 0, 7, 15, 0, 32, 0, 224, 480, 1023]
theorem quarrylaw19_BoundsPoint.tab13 : rtab .any (opsOf Try.f6 13) = quarrylaw19_BoundsPoint.T13 := by kernel_rfl
theorem quarrylaw19_BoundsPoint.bits13 : waitsOk quarrylaw19_BoundsPoint.T13.2 quarrylaw19_BoundsPoint.B13 = true := by kernel_rfl
def quarrylaw19_BoundsPoint.T17 : Bool × List (List Nat × List Nat) := (true, [([], []), ([0], [0]), ([1], [1]), ([1], [1]), ([2, 3, 1], [1, 2, 3]), ([4, 1], [1, 4]), ([1], [1]), ([1], [1]), ([6, 7, 1], [1, 6, 7]), ([8, 1], [1, 8]), ([5, 9, 1], [1, 5, 9]), ([1, 10], [1, 10]), ([11, 1, 0, 1, 2, 3, 4, 5, 6, 7, 8, 9, 10, 11], [0, 11])])
def quarrylaw19_BoundsPoint.B17 : List Nat := [0, 1, 3, 3, 15, 31, 3, 3, 195, 451, 1023, 2047, 4095]
theorem quarrylaw19_BoundsPoint.tab17 : rtab .any (opsOf Try.f6 17) = quarrylaw19_BoundsPoint.T17 := by kernel_rfl
theorem quarrylaw19_BoundsPoint.bits17 : waitsOk quarrylaw19_BoundsPoint.T17.2 quarrylaw19_BoundsPoint.B17 = true := by kernel_rfl
def quarrylaw19_BoundsPoint.T18 : Bool × List (List Nat × List Nat) := (true, [([], []), ([], []), ([1], [1]), ([], []), ([2, 3], [2, 3]), ([4], [4]), ([], []), ([], []), ([6, 7], [6, 7]), ([8], [8]), ([5, 9], [5, 9]), ([10], [10]), ([0, 11], [0, 11]), ([12, 12, 0, 1, 2, 3, 4, 5, 6, 7, 8, 9, 10, 11, 12], [0, 12])])
def quarrylaw19_BoundsPoint.B18 : List Nat := [0, 0, 2, 0, 14, 30, 0, 0, 192, 448, 1022, 2046, 4095, 8191]
theorem quarrylaw19_BoundsPoint.tab18 : rtab .any (opsOf Try.f6 18) = quarrylaw19_BoundsPoint.T18 := by kernel_rfl
theorem quarrylaw19_BoundsPoint.bits18 : waitsOk quarrylaw19_BoundsPoint.T18.2 quarrylaw19_BoundsPoint.B18 = true := by kernel_rfl
def quarrylaw19_BoundsPoint.T19 : Bool × List (List Nat × List Nat) := (true, [([], []), ([], []), ([1], [1]), ([0, 2, 2], [0, 2]), ([3], [3]), ([4], [4]), ([4], [4]), ([4], [4]), ([5, 3, 0, 1, 2, 3, 4, 5], [5]), ([6, 8, 0, 1, 2, 3, 4, 5, 6, 8], [6]), ([7, 9, 0, 1, 2, 3, 4, 5, 6, 7, 8, 9], [7])])
def quarrylaw19_BoundsPoint.B19 : List Nat := [0, 0, 2, 7, 15, 31, 31, 31, 63, 383, 1023]
theorem quarrylaw19_BoundsPoint.tab19 : rtab .any (opsOf Try.f6 19) = quarrylaw19_BoundsPoint.T19 := by kernel_rfl
theorem quarrylaw19_BoundsPoint.bits19 : waitsOk quarrylaw19_BoundsPoint.T19.2 quarrylaw19_BoundsPoint.B19 = true := by kernel_rfl
def quarrylaw19_BoundsPoint.T20 : Bool × List (List Nat × List Nat) := (true, [([], []), ([], []), ([1], [1]), ([2], [2]), ([0, 3], [0, 3]), ([], []), ([5], [5]), ([4, 6], [4, 6]), ([7], [7]), ([8, 7, 0, 1, 2, 3, 4, 5, 6, 7, 8], [8])])
def quarrylaw19_BoundsPoint.B20 : List Nat := [0, 0, 2, 6, 15, 0, 32, 127, 255, 511]
theorem quarrylaw19_BoundsPoint.tab20 : rtab .any (opsOf Try.f6 20) = quarrylaw19_BoundsPoint.T20 := by kernel_rfl
theorem quarrylaw19_BoundsPoint.bits20 : waitsOk quarrylaw19_BoundsPoint.T20.2 quarrylaw19_BoundsPoint.B20 = true := by kernel_rfl
set_option maxHeartbeats 8000000 in
set_option maxRecDepth 100000 in
theorem quarrylaw19_BoundsPoint.calls (k : Nat) (a0_0 : Int) (a0_1 : ByteArray) (a0_2 : ByteArray) (A0_3 : Option Addr) (c0_3 : Nat) (l0_3 : List Int) (A0_4 : Option Addr) (c0_4 : Nat) (l0_4 : List Bool) (a0_5 : Bool) (A1 : Option Addr) (c1 : Nat) (l1 : List (S25)) (A2 : Option Addr) (c2 : Nat) (l2 : List (S25)) (r : Bool) (w : World) (hr0_3 : Kd.C (Kd.int .i64) w A0_3 l0_3.length l0_3) (hc0_3 : l0_3.length ≤ c0_3) (hr0_4 : Kd.C Kd.bool w A0_4 l0_4.length l0_4) (hc0_4 : l0_4.length ≤ c0_4) (hr1 : Kd.C k25 w A1 l1.length l1) (hc1 : l1.length ≤ c1) (hr2 : Kd.C k25 w A2 l2.length l2) (hc2 : l2.length ≤ c2) (h : quarrylaw19_BoundsPoint.f k a0_0 a0_1 a0_2 l0_3 l0_4 a0_5 l1 l2 = some r) :
  Calls Try.prog 6 #[.agg #[.int .i64 a0_0, .string a0_1, .string a0_2, .slice A0_3 l0_3.length c0_3, .slice A0_4 l0_4.length c0_4, .bool a0_5], .slice A1 l1.length c1, .slice A2 l2.length c2] w fun e w' => e = .returned (.bool r) ∧ Below w.heap.size w w' := by
 have hu41 := Try.underlying41
 have hu25 := Try.underlying25
 have hu58 := Try.underlying58
 have HR0_3 := Aside0.mk hr0_3
 have HC0_3 := Aside0.mk hc0_3
 clear hr0_3 hc0_3
 have HR0_4 := Aside0.mk hr0_4
 have HC0_4 := Aside0.mk hc0_4
 clear hr0_4 hc0_4
 have HR1 := Aside0.mk hr1
 have HC1 := Aside0.mk hc1
 clear hr1 hc1
 have HR2 := Aside0.mk hr2
 have HC2 := Aside0.mk hc2
 clear hr2 hc2
 have HB := Aside0.mk (Below.refl w.heap.size w)
 have H : ((quarrylaw19_works.f k).bind fun t414 => (if t414 = true then (if (l1.length : Int) < (l0_3.length : Int) then (quarrylaw19_BoundsPoint.j0 k l1 l2 true a0_0 a0_1 a0_2 l0_3 l0_4 a0_5) else (if (l0_4.length : Int) = (l0_3.length : Int) then (if (l0_3.length : Int) = 0 then (quarrylaw19_BoundsPoint.j0 k l1 l2 true a0_0 a0_1 a0_2 l0_3 l0_4 a0_5) else (quarrylaw19_BoundsPoint.j0 k l1 l2 (decide ((l2.length : Int) < (l0_3.length : Int))) a0_0 a0_1 a0_2 l0_3 l0_4 a0_5)) else (quarrylaw19_BoundsPoint.j0 k l1 l2 true a0_0 a0_1 a0_2 l0_3 l0_4 a0_5))) else (none))) = some r := h
 clear h
 replace H := Option.bind_eq_some_iff.mp H
 obtain ⟨t414, A40, H⟩ := H
 replace H : (if t414 = true then (if (l1.length : Int) < (l0_3.length : Int) then (quarrylaw19_BoundsPoint.j0 k l1 l2 true a0_0 a0_1 a0_2 l0_3 l0_4 a0_5) else (if (l0_4.length : Int) = (l0_3.length : Int) then (if (l0_3.length : Int) = 0 then (quarrylaw19_BoundsPoint.j0 k l1 l2 true a0_0 a0_1 a0_2 l0_3 l0_4 a0_5) else (quarrylaw19_BoundsPoint.j0 k l1 l2 (decide ((l2.length : Int) < (l0_3.length : Int))) a0_0 a0_1 a0_2 l0_3 l0_4 a0_5)) else (quarrylaw19_BoundsPoint.j0 k l1 l2 true a0_0 a0_1 a0_2 l0_3 l0_4 a0_5))) else (none)) = some r := H
 have A4 := Aside0.mk A40
 clear A40
 by_cases c5 : t414 = true
 ·subst c5
  have H1 : (if (l1.length : Int) < (l0_3.length : Int) then (quarrylaw19_BoundsPoint.j0 k l1 l2 true a0_0 a0_1 a0_2 l0_3 l0_4 a0_5) else (if (l0_4.length : Int) = (l0_3.length : Int) then (if (l0_3.length : Int) = 0 then (quarrylaw19_BoundsPoint.j0 k l1 l2 true a0_0 a0_1 a0_2 l0_3 l0_4 a0_5) else (quarrylaw19_BoundsPoint.j0 k l1 l2 (decide ((l2.length : Int) < (l0_3.length : Int))) a0_0 a0_1 a0_2 l0_3 l0_4 a0_5)) else (quarrylaw19_BoundsPoint.j0 k l1 l2 true a0_0 a0_1 a0_2 l0_3 l0_4 a0_5))) = some r := by rw [if_pos rfl] at H; exact H
  clear H
  have H := H1
  clear H1
  have HC6 := Aside0.mk H
  clear H
  go_enter Try.func6, Try.ntmps6
  go_upto_region 3 with (first | ((with_reducible refine gate_dst (N := 3) rfl ?_); (try (refine gate_guard (by rfl) ?_; dsimp only)); refine box_event ?hg (N := 3) ?hd (cs := #[.int .i64 a0_0, .string a0_1, .string a0_2, .slice A0_3 l0_3.length c0_3, .slice A0_4 l0_4.length c0_4, .bool a0_5]) (t := 41) ?hr ?_; (case hd => rfl); (case hg => rfl); (case hr => first | (go_simp; done) | (go_simp; rfl)); intro gb413 hg w7 hbox hb; have n0_ := Aside0.mk (below_step (by repeat (first | (with_reducible first | exact HB.out | apply below_alloc | apply pw_below_drewN | apply below_drew1) | exact HB.out)) hb); have n1_ := Aside0.mk (hbox); have n2_ := Aside0.mk ((by rw [hg]; exact (below_size (by repeat (first | (with_reducible first | exact HB.out | apply below_alloc | apply pw_below_drewN | apply below_drew1) | exact HB.out))) : w.heap.size ≤ gb413)); have n3_ := Aside0.mk ((by rw [hg]; exact (below_size (by repeat (first | (with_reducible first | exact HB.out | apply below_alloc | apply pw_below_drewN | apply below_drew1) | exact HB.out))) : w.heap.size ≤ gb413)); clear HB; have HB := n0_; have BK413 := n1_; have GW413 := n2_; have GE413 := n3_; clear n0_ n1_ n2_ n3_; clear hb hbox hg) | ((with_reducible refine gate_callee (f := 20) rfl ?_); refine goesL_ (some 16) rfl rfl Try.func20 (by kernel_rfl) rfl #[] rfl (by (try simp only [List.map_toArray, List.map_cons, List.map_nil]); first | done | rfl | (simp only [List.length_drop, List.length_take]; rfl)) ?_; (with_reducible refine (quarrylaw19_works.calls k  true _ A4.out).mono ?_); rintro e w8 ⟨rfl, hb⟩; refine ⟨_, rfl, ?_⟩; have n0_ := Aside0.mk (blk_below (g := gb413) (o := .cells #[.int .i64 a0_0, .string a0_1, .string a0_2, .slice A0_3 l0_3.length c0_3, .slice A0_4 l0_4.length c0_4, .bool a0_5] 41 (0, 0)) (bk_ BK413) hb); have n1_ := Aside0.mk (below_step (by repeat (first | (with_reducible first | exact HB.out | apply below_alloc | apply pw_below_drewN | apply below_drew1 | refine below_set ?_ GE413.out) | exact HB.out)) hb); clear BK413; clear HB; have BK413 := n0_; have HB := n1_; clear n0_ n1_; (try clear hb); (try clear hb2); (try clear hk); (try clear hi)))
  (try simp only [Act.put, List.setIfInBounds_toArray, List.set_cons_zero, List.set_cons_succ])
  go_cut [46] (fun v46 wc => ∃ (kq : Nat) (x46_5 : Bool), v46 = .bool x46_5 ∧ Aside0 (quarrylaw19_BoundsPoint.j0 kq l1 l2 x46_5 a0_0 a0_1 a0_2 l0_3 l0_4 a0_5 = some r) ∧ Aside0 (kq ≤ k) ∧ Aside0 (wc.heap[gb413]? = some (.cells #[.int .i64 a0_0, .string a0_1, .string a0_2, (.slice A0_3 l0_3.length c0_3), (.slice A0_4 l0_4.length c0_4), .bool a0_5] 41 (0, 0))) ∧ Aside0 (Below w.heap.size w wc))
  case first =>
   have H := HC6.out
   clear HC6
   by_cases c9 : (l1.length : Int) < (l0_3.length : Int)
   ·rw [if_pos c9] at H
    have c9b0 : decide ((l1.length : Int) < (l0_3.length : Int)) = true := decide_eq_true c9
    have c9b1 : decide (l1.length < l0_3.length) = true := decide_eq_true (Int.ofNat_lt.mp c9)
    clear c9
    (first | rw [c9b0] | (simp only [i64_w, i32_w]; rw [c9b0]) | skip)
    have H' := Aside0.mk H
    clear H
    have hcz10_0 : w8.cell? ⟨gb413, 0, none⟩ = some (.int .i64 a0_0) := (blk_cell BK413.out 0).trans rfl
    have hcz10_1 : w8.cell? ⟨gb413, 1, none⟩ = some (.string a0_1) := (blk_cell BK413.out 1).trans rfl
    have hcz10_2 : w8.cell? ⟨gb413, 2, none⟩ = some (.string a0_2) := (blk_cell BK413.out 2).trans rfl
    have hcz10_3 : w8.cell? ⟨gb413, 3, none⟩ = some (.slice A0_3 l0_3.length c0_3) := (blk_cell BK413.out 3).trans rfl
    have hcz10_4 : w8.cell? ⟨gb413, 4, none⟩ = some (.slice A0_4 l0_4.length c0_4) := (blk_cell BK413.out 4).trans rfl
    have hcz10_5 : w8.cell? ⟨gb413, 5, none⟩ = some (.bool a0_5) := (blk_cell BK413.out 5).trans rfl
    have hfz10_0 := blk_frozen BK413.out 0
    have hfz10_1 := blk_frozen BK413.out 1
    have hfz10_2 := blk_frozen BK413.out 2
    have hfz10_3 := blk_frozen BK413.out 3
    have hfz10_4 := blk_frozen BK413.out 4
    have hfz10_5 := blk_frozen BK413.out 5
    go_wp2
    go_meet
    case rel => exact ⟨_, (true), (by first | rfl | (simp; done) | (simp [*]; done)), H', ⟨by first | omega | exact Nat.le_refl _⟩, ⟨by (with_reducible repeat (first | refine blk_drewN ?_ _ | refine blk_drew ?_ | refine blk_alloc ?_ _)); exact BK413.out⟩, ⟨by repeat (first | (with_reducible first | exact HB.out | apply below_alloc | apply pw_below_drewN | apply below_drew1 | refine below_set ?_ GE413.out) | exact HB.out)⟩⟩
   ·rw [if_neg c9] at H
    have c9b0 : decide ((l1.length : Int) < (l0_3.length : Int)) = false := decide_eq_false c9
    have c9b1 : decide (l1.length < l0_3.length) = false := decide_eq_false (fun h => c9 (Int.ofNat_lt.mpr h))
    clear c9
    (first | rw [c9b0] | (simp only [i64_w, i32_w]; rw [c9b0]) | skip)
    by_cases c11 : (l0_4.length : Int) = (l0_3.length : Int)
    ·rw [if_pos c11] at H
     have c11b0 : ((l0_4.length : Int) == (l0_3.length : Int)) = true := beq_iff_eq.mpr c11
     have c11b1 : ((l0_4.length : Int) != (l0_3.length : Int)) = false := bne_eq_false_iff_eq.mpr c11
     have c11b2 : (l0_4.length == l0_3.length) = true := by first | simpa using c11 | (simp at c11 ⊢; omega)
     clear c11
     by_cases c12 : (l0_3.length : Int) = 0
     ·rw [if_pos c12] at H
      have c12b0 : ((l0_3.length : Int) == 0) = true := beq_iff_eq.mpr c12
      have c12b1 : ((l0_3.length : Int) != 0) = false := bne_eq_false_iff_eq.mpr c12
      clear c12
      have H' := Aside0.mk H
      clear H
      have hcz13_0 : w8.cell? ⟨gb413, 0, none⟩ = some (.int .i64 a0_0) := (blk_cell BK413.out 0).trans rfl
      have hcz13_1 : w8.cell? ⟨gb413, 1, none⟩ = some (.string a0_1) := (blk_cell BK413.out 1).trans rfl
      have hcz13_2 : w8.cell? ⟨gb413, 2, none⟩ = some (.string a0_2) := (blk_cell BK413.out 2).trans rfl
      have hcz13_3 : w8.cell? ⟨gb413, 3, none⟩ = some (.slice A0_3 l0_3.length c0_3) := (blk_cell BK413.out 3).trans rfl
      have hcz13_4 : w8.cell? ⟨gb413, 4, none⟩ = some (.slice A0_4 l0_4.length c0_4) := (blk_cell BK413.out 4).trans rfl
      have hcz13_5 : w8.cell? ⟨gb413, 5, none⟩ = some (.bool a0_5) := (blk_cell BK413.out 5).trans rfl
      have hfz13_0 := blk_frozen BK413.out 0
      have hfz13_1 := blk_frozen BK413.out 1
      have hfz13_2 := blk_frozen BK413.out 2
      have hfz13_3 := blk_frozen BK413.out 3
      have hfz13_4 := blk_frozen BK413.out 4
      have hfz13_5 := blk_frozen BK413.out 5
      go_wp2
      go_meet
      case rel => exact ⟨_, (true), (by first | rfl | (simp; done) | (simp [*]; done)), H', ⟨by first | omega | exact Nat.le_refl _⟩, ⟨by (with_reducible repeat (first | refine blk_drewN ?_ _ | refine blk_drew ?_ | refine blk_alloc ?_ _)); exact BK413.out⟩, ⟨by repeat (first | (with_reducible first | exact HB.out | apply below_alloc | apply pw_below_drewN | apply below_drew1 | refine below_set ?_ GE413.out) | exact HB.out)⟩⟩
     ·rw [if_neg c12] at H
      have c12b0 : ((l0_3.length : Int) == 0) = false := beq_eq_false_iff_ne.mpr c12
      have c12b1 : ((l0_3.length : Int) != 0) = true := bne_iff_ne.mpr c12
      have c12b2 : ¬ (l0_3 = []) := fun h_ => c12 (by rw [h_]; rfl)
      have H' := Aside0.mk H
      clear H
      have hcz14_0 : w8.cell? ⟨gb413, 0, none⟩ = some (.int .i64 a0_0) := (blk_cell BK413.out 0).trans rfl
      have hcz14_1 : w8.cell? ⟨gb413, 1, none⟩ = some (.string a0_1) := (blk_cell BK413.out 1).trans rfl
      have hcz14_2 : w8.cell? ⟨gb413, 2, none⟩ = some (.string a0_2) := (blk_cell BK413.out 2).trans rfl
      have hcz14_3 : w8.cell? ⟨gb413, 3, none⟩ = some (.slice A0_3 l0_3.length c0_3) := (blk_cell BK413.out 3).trans rfl
      have hcz14_4 : w8.cell? ⟨gb413, 4, none⟩ = some (.slice A0_4 l0_4.length c0_4) := (blk_cell BK413.out 4).trans rfl
      have hcz14_5 : w8.cell? ⟨gb413, 5, none⟩ = some (.bool a0_5) := (blk_cell BK413.out 5).trans rfl
      have hfz14_0 := blk_frozen BK413.out 0
      have hfz14_1 := blk_frozen BK413.out 1
      have hfz14_2 := blk_frozen BK413.out 2
      have hfz14_3 := blk_frozen BK413.out 3
      have hfz14_4 := blk_frozen BK413.out 4
      have hfz14_5 := blk_frozen BK413.out 5
      go_wp2
      go_meet
      case rel => exact ⟨_, (decide ((l2.length : Int) < (l0_3.length : Int))), (by first | rfl | (simp; done) | (simp [*]; done)), H', ⟨by first | omega | exact Nat.le_refl _⟩, ⟨by (with_reducible repeat (first | refine blk_drewN ?_ _ | refine blk_drew ?_ | refine blk_alloc ?_ _)); exact BK413.out⟩, ⟨by repeat (first | (with_reducible first | exact HB.out | apply below_alloc | apply pw_below_drewN | apply below_drew1 | refine below_set ?_ GE413.out) | exact HB.out)⟩⟩
    ·rw [if_neg c11] at H
     have c11b0 : ((l0_4.length : Int) == (l0_3.length : Int)) = false := beq_eq_false_iff_ne.mpr c11
     have c11b1 : ((l0_4.length : Int) != (l0_3.length : Int)) = true := bne_iff_ne.mpr c11
     have c11b2 : (l0_4.length == l0_3.length) = false := by first | simpa using c11 | (simp at c11 ⊢; omega)
     have H' := Aside0.mk H
     clear H
     have hcz15_0 : w8.cell? ⟨gb413, 0, none⟩ = some (.int .i64 a0_0) := (blk_cell BK413.out 0).trans rfl
     have hcz15_1 : w8.cell? ⟨gb413, 1, none⟩ = some (.string a0_1) := (blk_cell BK413.out 1).trans rfl
     have hcz15_2 : w8.cell? ⟨gb413, 2, none⟩ = some (.string a0_2) := (blk_cell BK413.out 2).trans rfl
     have hcz15_3 : w8.cell? ⟨gb413, 3, none⟩ = some (.slice A0_3 l0_3.length c0_3) := (blk_cell BK413.out 3).trans rfl
     have hcz15_4 : w8.cell? ⟨gb413, 4, none⟩ = some (.slice A0_4 l0_4.length c0_4) := (blk_cell BK413.out 4).trans rfl
     have hcz15_5 : w8.cell? ⟨gb413, 5, none⟩ = some (.bool a0_5) := (blk_cell BK413.out 5).trans rfl
     have hfz15_0 := blk_frozen BK413.out 0
     have hfz15_1 := blk_frozen BK413.out 1
     have hfz15_2 := blk_frozen BK413.out 2
     have hfz15_3 := blk_frozen BK413.out 3
     have hfz15_4 := blk_frozen BK413.out 4
     have hfz15_5 := blk_frozen BK413.out 5
     go_wp2
     go_meet
     case rel => exact ⟨_, (true), (by first | rfl | (simp; done) | (simp [*]; done)), H', ⟨by first | omega | exact Nat.le_refl _⟩, ⟨by (with_reducible repeat (first | refine blk_drewN ?_ _ | refine blk_drew ?_ | refine blk_alloc ?_ _)); exact BK413.out⟩, ⟨by repeat (first | (with_reducible first | exact HB.out | apply below_alloc | apply pw_below_drewN | apply below_drew1 | refine below_set ?_ GE413.out) | exact HB.out)⟩⟩
  case rest =>
   clear HC6
   try clear c1
   try clear c2
   try clear p2
   try clear c5
   try clear c6
   try clear c9
   try clear c9b0
   try clear c9b1
   try clear c11
   try clear c11b0
   try clear c11b1
   try clear c11b2
   try clear c12
   try clear c12b0
   try clear c12b1
   try clear c12b2
   try clear hcz10_0
   try clear hcz10_1
   try clear hcz10_2
   try clear hcz10_3
   try clear hcz10_4
   try clear hcz10_5
   try clear hcz13_0
   try clear hcz13_1
   try clear hcz13_2
   try clear hcz13_3
   try clear hcz13_4
   try clear hcz13_5
   try clear hcz14_0
   try clear hcz14_1
   try clear hcz14_2
   try clear hcz14_3
   try clear hcz14_4
   try clear hcz14_5
   try clear hcz15_0
   try clear hcz15_1
   try clear hcz15_2
   try clear hcz15_3
   try clear hcz15_4
   try clear hcz15_5
   try clear hfz10_0
   try clear hfz10_1
   try clear hfz10_2
   try clear hfz10_3
   try clear hfz10_4
   try clear hfz10_5
   try clear hfz13_0
   try clear hfz13_1
   try clear hfz13_2
   try clear hfz13_3
   try clear hfz13_4
   try clear hfz13_5
   try clear hfz14_0
   try clear hfz14_1
   try clear hfz14_2
   try clear hfz14_3
   try clear hfz14_4
   try clear hfz14_5
   try clear hfz15_0
   try clear hfz15_1
   try clear hfz15_2
   try clear hfz15_3
   try clear hfz15_4
   try clear hfz15_5
   obtain ⟨kq, x46_5, rfl, HA, HJ5, BK413, HB⟩ := hcut
   cases kq with
   | zero => exact absurd HA.out (by simp [quarrylaw19_BoundsPoint.j0])
   | succ kj5 =>
    have H := HA.out
    clear HA
    simp only [quarrylaw19_BoundsPoint.j0] at H
    by_cases c16 : x46_5 = true
    ·subst c16
     have H1 : (some true) = some r := by rw [if_pos rfl] at H; exact H
     clear H
     have H := H1
     clear H1
     obtain rfl := Option.some.inj H
     go_wp2
     go_ret
     exact ⟨by first | rfl | (simp [errW_none, errW_some] <;> rfl) | (simp [*, errW_none, errW_some] <;> rfl), by repeat (first | (with_reducible first | exact HB.out | apply below_alloc | apply pw_below_drewN | apply below_drew1 | refine below_set ?_ GE413.out) | exact HB.out)⟩
    ·replace c16 := Bool.eq_false_iff.mpr c16
     subst c16
     have H1 : (quarrylaw19_BoundsPoint.l0 kj5 l1 l2 ([] : List (S58)) true 0 a0_0 a0_1 a0_2 l0_3 l0_4 a0_5) = some r := by rw [if_neg (show ¬ (false = true) by decide)] at H; exact H
     clear H
     have H := H1
     clear H1
     have H' := Aside0.mk H
     clear H
     go_wp2
     go_loopg [7, 8, 9] kj5 (fun kq v7 v8 v9 w' => ∃ (x7_2 : List (S58)) (x8_2 : Bool) (x9_2 : Int), v8 = .bool x8_2 ∧ v9 = .int .i64 x9_2 ∧ Aside0 (quarrylaw19_BoundsPoint.l0 kq l1 l2 x7_2 x8_2 x9_2 a0_0 a0_1 a0_2 l0_3 l0_4 a0_5 = some r) ∧ Aside0 (kq ≤ kj5) ∧ Aside0 (Kd.R k58 58 w' w.heap.size (fun _ => True) v7 x7_2) ∧ Aside0 (w'.heap[gb413]? = some (.cells #[.int .i64 a0_0, .string a0_1, .string a0_2, (.slice A0_3 l0_3.length c0_3), (.slice A0_4 l0_4.length c0_4), .bool a0_5] 41 (0, 0))) ∧ Aside0 (Below w.heap.size w w'))
     case atStart => exact ⟨(([] : List (S58))), (true), (0), (by first | rfl | (simp; done) | (simp [*]; done)), (by first | rfl | (simp; done) | (simp [*]; done)), H', ⟨Nat.le_refl _⟩, ⟨by first | exact Kd.R_nil _ _ _ _ _ | exact Kd.N_nil _ _ _ _ _ | exact Kd.V_nil _ _ _ _ _ | exact Kd.Q_nil _ _ _ _ _ | exact Kd.S_nil _ _ _ _ _⟩, ⟨by (with_reducible repeat (first | refine blk_drewN ?_ _ | refine blk_drew ?_ | refine blk_alloc ?_ _)); exact BK413.out⟩, ⟨by repeat (first | (with_reducible first | exact HB.out | apply below_alloc | apply pw_below_drewN | apply below_drew1 | refine below_set ?_ GE413.out) | exact HB.out)⟩⟩
     case round =>
      clear H'
      try clear c1
      try clear c2
      try clear p2
      try clear c5
      try clear c6
      try clear c9
      try clear c9b0
      try clear c9b1
      try clear c11
      try clear c11b0
      try clear c11b1
      try clear c11b2
      try clear c12
      try clear c12b0
      try clear c12b1
      try clear c12b2
      try clear c16
      try clear hcz10_0
      try clear hcz10_1
      try clear hcz10_2
      try clear hcz10_3
      try clear hcz10_4
      try clear hcz10_5
      try clear hcz13_0
      try clear hcz13_1
      try clear hcz13_2
      try clear hcz13_3
      try clear hcz13_4
      try clear hcz13_5
      try clear hcz14_0
      try clear hcz14_1
      try clear hcz14_2
      try clear hcz14_3
      try clear hcz14_4
      try clear hcz14_5
      try clear hcz15_0
      try clear hcz15_1
      try clear hcz15_2
      try clear hcz15_3
      try clear hcz15_4
      try clear hcz15_5
      try clear hfz10_0
      try clear hfz10_1
      try clear hfz10_2
      try clear hfz10_3
      try clear hfz10_4
      try clear hfz10_5
      try clear hfz13_0
      try clear hfz13_1
      try clear hfz13_2
      try clear hfz13_3
      try clear hfz13_4
      try clear hfz13_5
      try clear hfz14_0
      try clear hfz14_1
      try clear hfz14_2
      try clear hfz14_3
      try clear hfz14_4
      try clear hfz14_5
      try clear hfz15_0
      try clear hfz15_1
      try clear hfz15_2
      try clear hfz15_3
      try clear hfz15_4
      try clear hfz15_5
      try clear p2
      obtain ⟨x7_2, x8_2, x9_2, rfl, rfl, HA, HK2, HO_7, BK413, HB⟩ := hrel
      cases gk with
      | zero => exact absurd HA.out (by simp [quarrylaw19_BoundsPoint.l0])
      | succ k2 =>
       have H := HA.out
       clear HA
       simp only [quarrylaw19_BoundsPoint.l0] at H
       by_cases c17 : x9_2 < (l0_3.length : Int)
       ·rw [if_pos c17] at H
        have c17b0 : decide (x9_2 < (l0_3.length : Int)) = true := decide_eq_true c17
        clear c17
        have H' := Aside0.mk H
        clear H
        have hcz18_0 : wr.cell? ⟨gb413, 0, none⟩ = some (.int .i64 a0_0) := (blk_cell BK413.out 0).trans rfl
        have hcz18_1 : wr.cell? ⟨gb413, 1, none⟩ = some (.string a0_1) := (blk_cell BK413.out 1).trans rfl
        have hcz18_2 : wr.cell? ⟨gb413, 2, none⟩ = some (.string a0_2) := (blk_cell BK413.out 2).trans rfl
        have hcz18_3 : wr.cell? ⟨gb413, 3, none⟩ = some (.slice A0_3 l0_3.length c0_3) := (blk_cell BK413.out 3).trans rfl
        have hcz18_4 : wr.cell? ⟨gb413, 4, none⟩ = some (.slice A0_4 l0_4.length c0_4) := (blk_cell BK413.out 4).trans rfl
        have hcz18_5 : wr.cell? ⟨gb413, 5, none⟩ = some (.bool a0_5) := (blk_cell BK413.out 5).trans rfl
        have hfz18_0 := blk_frozen BK413.out 0
        have hfz18_1 := blk_frozen BK413.out 1
        have hfz18_2 := blk_frozen BK413.out 2
        have hfz18_3 := blk_frozen BK413.out 3
        have hfz18_4 := blk_frozen BK413.out 4
        have hfz18_5 := blk_frozen BK413.out 5
        go_wp2
        go_loopg [10] k2 (fun kq v10 w' => ∃ (x10_3 : Int), v10 = .int .i64 x10_3 ∧ Aside0 (quarrylaw19_BoundsPoint.l1 kq l1 l2 x7_2 x8_2 x9_2 x10_3 a0_0 a0_1 a0_2 l0_3 l0_4 a0_5 = some r) ∧ Aside0 (kq ≤ k2) ∧ Aside0 (Kd.R k58 58 w' w.heap.size (fun _ => True) u7 x7_2) ∧ Aside0 (w'.heap[gb413]? = some (.cells #[.int .i64 a0_0, .string a0_1, .string a0_2, (.slice A0_3 l0_3.length c0_3), (.slice A0_4 l0_4.length c0_4), .bool a0_5] 41 (0, 0))) ∧ Aside0 (Below w.heap.size w w'))
        case atStart => exact ⟨(0), (by first | rfl | (simp; done) | (simp [*]; done)), H', ⟨Nat.le_refl _⟩, ⟨by (with_reducible repeat (first | apply Kd.R_alloc | apply Kd.R_drewN | apply Kd.R_drew)); exact HO_7.out⟩, ⟨by (with_reducible repeat (first | refine blk_drewN ?_ _ | refine blk_drew ?_ | refine blk_alloc ?_ _)); exact BK413.out⟩, ⟨by repeat (first | (with_reducible first | exact HB.out | apply below_alloc | apply pw_below_drewN | apply below_drew1 | refine below_set ?_ GE413.out) | exact HB.out)⟩⟩
        case round =>
         clear H'
         try clear c1
         try clear c2
         try clear p2
         try clear c5
         try clear c6
         try clear c9
         try clear c9b0
         try clear c9b1
         try clear c11
         try clear c11b0
         try clear c11b1
         try clear c11b2
         try clear c12
         try clear c12b0
         try clear c12b1
         try clear c12b2
         try clear c16
         try clear c17
         try clear c17b0
         try clear hcz10_0
         try clear hcz10_1
         try clear hcz10_2
         try clear hcz10_3
         try clear hcz10_4
         try clear hcz10_5
         try clear hcz13_0
         try clear hcz13_1
         try clear hcz13_2
         try clear hcz13_3
         try clear hcz13_4
         try clear hcz13_5
         try clear hcz14_0
         try clear hcz14_1
         try clear hcz14_2
         try clear hcz14_3
         try clear hcz14_4
         try clear hcz14_5
         try clear hcz15_0
         try clear hcz15_1
         try clear hcz15_2
         try clear hcz15_3
         try clear hcz15_4
         try clear hcz15_5
         try clear hcz18_0
         try clear hcz18_1
         try clear hcz18_2
         try clear hcz18_3
         try clear hcz18_4
         try clear hcz18_5
         try clear hfz10_0
         try clear hfz10_1
         try clear hfz10_2
         try clear hfz10_3
         try clear hfz10_4
         try clear hfz10_5
         try clear hfz13_0
         try clear hfz13_1
         try clear hfz13_2
         try clear hfz13_3
         try clear hfz13_4
         try clear hfz13_5
         try clear hfz14_0
         try clear hfz14_1
         try clear hfz14_2
         try clear hfz14_3
         try clear hfz14_4
         try clear hfz14_5
         try clear hfz15_0
         try clear hfz15_1
         try clear hfz15_2
         try clear hfz15_3
         try clear hfz15_4
         try clear hfz15_5
         try clear hfz18_0
         try clear hfz18_1
         try clear hfz18_2
         try clear hfz18_3
         try clear hfz18_4
         try clear hfz18_5
         try clear p2
         obtain ⟨x10_3, rfl, HA, HK3, HO_7, BK413, HB⟩ := hrel
         cases gk with
         | zero => exact absurd HA.out (by simp [quarrylaw19_BoundsPoint.l1])
         | succ k3 =>
          have H := HA.out
          clear HA
          simp only [quarrylaw19_BoundsPoint.l1] at H
          by_cases c19 : x10_3 < x9_2
          ·rw [if_pos c19] at H
           have c19b0 : decide (x10_3 < x9_2) = true := decide_eq_true c19
           clear c19
           by_cases c20 : 0 ≤ x10_3
           ·rw [if_pos c20] at H
            have c20b0 : decide (0 ≤ x10_3) = true := decide_eq_true c20
            clear c20
            by_cases c21 : x10_3 < (l0_3.length : Int)
            ·rw [if_pos c21] at H
             have c21b0 : decide (x10_3 < (l0_3.length : Int)) = true := decide_eq_true c21
             clear c21
             by_cases c22 : 0 ≤ x9_2
             ·rw [if_pos c22] at H
              have c22b0 : decide (0 ≤ x9_2) = true := decide_eq_true c22
              clear c22
              by_cases c23 : x9_2 < (l0_3.length : Int)
              ·rw [if_pos c23] at H
               have c23b0 : decide (x9_2 < (l0_3.length : Int)) = true := decide_eq_true c23
               clear c23
               by_cases c24 : (rd l0_3 x10_3) = (rd l0_3 x9_2)
               ·rw [if_pos c24] at H
                have c24b0 : ((rd l0_3 x10_3) == (rd l0_3 x9_2)) = true := beq_iff_eq.mpr c24
                have c24b1 : ((rd l0_3 x10_3) != (rd l0_3 x9_2)) = false := bne_eq_false_iff_eq.mpr c24
                clear c24
                obtain rfl := Option.some.inj H
                try go_wp2
                have n0_ := Aside0.mk (Kd.R_drew HO_7.out)
                have n1_ := Aside0.mk (blk_drew BK413.out)
                have n2_ := Aside0.mk (below_drew1 HB.out)
                clear HO_7
                clear BK413
                clear HB
                have HO_7 := n0_
                have BK413 := n1_
                have HB := n2_
                clear n0_ n1_ n2_
                have p432 : 0 ≤ (x10_3 : Int) := of_decide_eq_true (by first | (with_reducible assumption) | assumption)
                have q432 : x10_3 < (l0_3.length : Int) := of_decide_eq_true (by first | (with_reducible assumption) | assumption)
                obtain ⟨ad432, e432, hx432_0⟩ := Kd.at_int HR0_3.out x10_3 p432 q432
                have hw432_0 := hx432_0
                cases e432
                replace hx432_0 := (HB.out.cell (World.block_lt_of_cell? w _ hx432_0)).trans hx432_0
                replace p432 := eq_true p432
                replace q432 := eq_true q432
                have p433 : 0 ≤ (x9_2 : Int) := of_decide_eq_true (by first | (with_reducible assumption) | assumption)
                have q433 : x9_2 < (l0_3.length : Int) := of_decide_eq_true (by first | (with_reducible assumption) | assumption)
                obtain ⟨ad433, e433, hx433_0⟩ := Kd.at_int HR0_3.out x9_2 p433 q433
                have hw433_0 := hx433_0
                obtain rfl : ad432 = ad433 := (by injection e433)
                replace hx433_0 := (HB.out.cell (World.block_lt_of_cell? w _ hx433_0)).trans hx433_0
                replace p433 := eq_true p433
                replace q433 := eq_true q433
                refine start_ (n := 11) (S := fun w' => w'.cell? ⟨gb413, 0, none⟩ = some (.int .i64 a0_0) ∧ w'.cell? ⟨gb413, 1, none⟩ = some (.string a0_1) ∧ w'.cell? ⟨gb413, 2, none⟩ = some (.string a0_2) ∧ w'.cell? ⟨gb413, 3, none⟩ = some (.slice (some ad432) l0_3.length c0_3) ∧ w'.cell? ⟨gb413, 4, none⟩ = some (.slice A0_4 l0_4.length c0_4) ∧ w'.cell? ⟨gb413, 5, none⟩ = some (.bool a0_5) ∧ w'.cell? (ad432.add (x10_3).toNat) = some (.int .i64 (rd l0_3 x10_3)) ∧ w'.cell? (ad432.add (x9_2).toNat) = some (.int .i64 (rd l0_3 x9_2))) (ds := []) #[false, false, false, false, false, false, false, false, false, false, false] (by kernel_rfl) rfl rfl ⟨(blk_cell BK413.out 0).trans rfl, (blk_cell BK413.out 1).trans rfl, (blk_cell BK413.out 2).trans rfl, (blk_cell BK413.out 3).trans rfl, (blk_cell BK413.out 4).trans rfl, (blk_cell BK413.out 5).trans rfl, ((HB.out.cell (World.block_lt_of_cell? w _ hw432_0)).trans hw432_0), ((HB.out.cell (World.block_lt_of_cell? w _ hw433_0)).trans hw433_0)⟩ (fun hHeld => ?_); refine with_tabW quarrylaw19_BoundsPoint.tab13 quarrylaw19_BoundsPoint.bits13 (fun HT_ HW_ => ?_)
                generalize wr.drew = w25 at HO_7 BK413 HB hx432_0 hx433_0 hHeld ⊢
                refine pure_ (i := 0) (N := some 59) (v := ?_) (a' := ?_) #[true, false, false, false, false, false, false, false, false, false, false] rfl rfl (any_of HT_.out (by kernel_rfl)) (fun _ _ _ h => h) (Or.inl ⟨by rfl, ?_⟩) ?_ ?_
                rotate_left
                ·intro w'
                 go_simp
                 with_reducible rfl
                rotate_left
                ·simp only [Act.put, List.setIfInBounds_toArray, List.set_cons_zero, List.set_cons_succ, i64_w, i32_w]
                 rfl
                refine pure_ (i := 2) (N := some 61) (v := ?_) (a' := ?_) #[true, false, true, false, false, false, false, false, false, false, false] rfl rfl (any_of HT_.out (by kernel_rfl)) (fun _ _ _ h => h) (Or.inl ⟨by rfl, ?_⟩) ?_ ?_
                rotate_left
                ·intro w'
                 go_simp
                 with_reducible rfl
                rotate_left
                ·simp only [Act.put, List.setIfInBounds_toArray, List.set_cons_zero, List.set_cons_succ, i64_w, i32_w]
                 rfl
                refine pure_ (i := 5) (N := some 64) (v := ?_) (a' := ?_) #[true, false, true, false, false, true, false, false, false, false, false] rfl rfl (any_of HT_.out (by kernel_rfl)) (fun _ _ _ h => h) (Or.inl ⟨by rfl, ?_⟩) ?_ ?_
                rotate_left
                ·intro w'
                 go_simp
                 with_reducible rfl
                rotate_left
                ·simp only [Act.put, List.setIfInBounds_toArray, List.set_cons_zero, List.set_cons_succ, i64_w, i32_w]
                 rfl
                refine pure_ (i := 7) (N := some 66) (v := ?_) (a' := ?_) #[true, false, true, false, false, true, false, true, false, false, false] rfl rfl (any_of HT_.out (by kernel_rfl)) (fun _ _ _ h => h) (Or.inl ⟨by rfl, ?_⟩) ?_ ?_
                rotate_left
                ·intro w'
                 go_simp
                 with_reducible rfl
                rotate_left
                ·simp only [Act.put, List.setIfInBounds_toArray, List.set_cons_zero, List.set_cons_succ, i64_w, i32_w]
                 rfl
                refine take_ (i := 1) (N := some 60) (v := ?_) (a' := ?_) #[true, true, true, false, false, true, false, true, false, false, false] rfl rfl (take_ofW HT_.out HW_.out (by kernel_rfl)) (fun _ _ _ h => h) (Or.inl ⟨by rfl, ?_⟩) hHeld ?_ ?_
                rotate_left
                ·rintro w' ⟨s0, s1, s2, s3, s4, s5, s6, s7⟩
                 go_simp
                 with_reducible rfl
                rotate_left
                ·simp only [Act.put, List.setIfInBounds_toArray, List.set_cons_zero, List.set_cons_succ, i64_w, i32_w]
                 rfl
                refine pure_ (i := 3) (N := some 62) (v := ?_) (a' := ?_) #[true, true, true, true, false, true, false, true, false, false, false] rfl rfl (any_of HT_.out (by kernel_rfl)) (fun _ _ _ h => h) (Or.inl ⟨by rfl, ?_⟩) ?_ ?_
                rotate_left
                ·intro w'
                 go_simp
                 with_reducible rfl
                rotate_left
                ·simp only [Act.put, List.setIfInBounds_toArray, List.set_cons_zero, List.set_cons_succ, i64_w, i32_w]
                 rfl
                refine take_ (i := 4) (N := some 63) (v := ?_) (a' := ?_) #[true, true, true, true, true, true, false, true, false, false, false] rfl rfl (take_ofW HT_.out HW_.out (by kernel_rfl)) (fun _ _ _ h => h) (Or.inl ⟨by rfl, ?_⟩) hHeld ?_ ?_
                rotate_left
                ·rintro w' ⟨s0, s1, s2, s3, s4, s5, s6, s7⟩
                 go_simp
                 with_reducible rfl
                rotate_left
                ·simp only [Act.put, List.setIfInBounds_toArray, List.set_cons_zero, List.set_cons_succ, i64_w, i32_w]
                 rfl
                refine take_ (i := 6) (N := some 65) (v := ?_) (a' := ?_) #[true, true, true, true, true, true, true, true, false, false, false] rfl rfl (take_ofW HT_.out HW_.out (by kernel_rfl)) (fun _ _ _ h => h) (Or.inl ⟨by rfl, ?_⟩) hHeld ?_ ?_
                rotate_left
                ·rintro w' ⟨s0, s1, s2, s3, s4, s5, s6, s7⟩
                 go_simp
                 with_reducible rfl
                rotate_left
                ·simp only [Act.put, List.setIfInBounds_toArray, List.set_cons_zero, List.set_cons_succ, i64_w, i32_w]
                 rfl
                refine pure_ (i := 8) (N := some 67) (v := ?_) (a' := ?_) #[true, true, true, true, true, true, true, true, true, false, false] rfl rfl (any_of HT_.out (by kernel_rfl)) (fun _ _ _ h => h) (Or.inl ⟨by rfl, ?_⟩) ?_ ?_
                rotate_left
                ·intro w'
                 go_simp
                 with_reducible rfl
                rotate_left
                ·simp only [Act.put, List.setIfInBounds_toArray, List.set_cons_zero, List.set_cons_succ, i64_w, i32_w]
                 rfl
                refine take_ (i := 9) (N := some 68) (v := ?_) (a' := ?_) #[true, true, true, true, true, true, true, true, true, true, false] rfl rfl (take_ofW HT_.out HW_.out (by kernel_rfl)) (fun _ _ _ h => h) (Or.inl ⟨by rfl, ?_⟩) hHeld ?_ ?_
                rotate_left
                ·rintro w' ⟨s0, s1, s2, s3, s4, s5, s6, s7⟩
                 go_simp
                 with_reducible rfl
                rotate_left
                ·simp only [Act.put, List.setIfInBounds_toArray, List.set_cons_zero, List.set_cons_succ, i64_w, i32_w]
                 rfl
                refine pure_ (i := 10) (N := some 69) (v := ?_) (a' := ?_) #[true, true, true, true, true, true, true, true, true, true, true] rfl rfl (any_of HT_.out (by kernel_rfl)) (fun _ _ _ h => h) (Or.inl ⟨by rfl, ?_⟩) ?_ ?_
                rotate_left
                ·intro w'
                 go_simp
                 with_reducible rfl
                rotate_left
                ·simp only [Act.put, List.setIfInBounds_toArray, List.set_cons_zero, List.set_cons_succ, i64_w, i32_w]
                 rfl
                refine done_ (done_of HT_.out (by kernel_rfl)) ?_
                try go_wp2
                go_ret
                exact ⟨by first | rfl | (simp [errW_none, errW_some] <;> rfl) | (simp [*, errW_none, errW_some] <;> rfl), by repeat (first | (with_reducible first | exact HB.out | apply below_alloc | apply pw_below_drewN | apply below_drew1 | refine below_set ?_ GE413.out) | exact HB.out)⟩
               ·rw [if_neg c24] at H
                have c24b0 : ((rd l0_3 x10_3) == (rd l0_3 x9_2)) = false := beq_eq_false_iff_ne.mpr c24
                have c24b1 : ((rd l0_3 x10_3) != (rd l0_3 x9_2)) = true := bne_iff_ne.mpr c24
                have H' := Aside0.mk H
                clear H
                try go_wp2
                have n0_ := Aside0.mk (Kd.R_drew HO_7.out)
                have n1_ := Aside0.mk (blk_drew BK413.out)
                have n2_ := Aside0.mk (below_drew1 HB.out)
                clear HO_7
                clear BK413
                clear HB
                have HO_7 := n0_
                have BK413 := n1_
                have HB := n2_
                clear n0_ n1_ n2_
                have p432 : 0 ≤ (x10_3 : Int) := of_decide_eq_true (by first | (with_reducible assumption) | assumption)
                have q432 : x10_3 < (l0_3.length : Int) := of_decide_eq_true (by first | (with_reducible assumption) | assumption)
                obtain ⟨ad432, e432, hx432_0⟩ := Kd.at_int HR0_3.out x10_3 p432 q432
                have hw432_0 := hx432_0
                cases e432
                replace hx432_0 := (HB.out.cell (World.block_lt_of_cell? w _ hx432_0)).trans hx432_0
                replace p432 := eq_true p432
                replace q432 := eq_true q432
                have p433 : 0 ≤ (x9_2 : Int) := of_decide_eq_true (by first | (with_reducible assumption) | assumption)
                have q433 : x9_2 < (l0_3.length : Int) := of_decide_eq_true (by first | (with_reducible assumption) | assumption)
                obtain ⟨ad433, e433, hx433_0⟩ := Kd.at_int HR0_3.out x9_2 p433 q433
                have hw433_0 := hx433_0
                obtain rfl : ad432 = ad433 := (by injection e433)
                replace hx433_0 := (HB.out.cell (World.block_lt_of_cell? w _ hx433_0)).trans hx433_0
                replace p433 := eq_true p433
                replace q433 := eq_true q433
                refine start_ (n := 11) (S := fun w' => w'.cell? ⟨gb413, 0, none⟩ = some (.int .i64 a0_0) ∧ w'.cell? ⟨gb413, 1, none⟩ = some (.string a0_1) ∧ w'.cell? ⟨gb413, 2, none⟩ = some (.string a0_2) ∧ w'.cell? ⟨gb413, 3, none⟩ = some (.slice (some ad432) l0_3.length c0_3) ∧ w'.cell? ⟨gb413, 4, none⟩ = some (.slice A0_4 l0_4.length c0_4) ∧ w'.cell? ⟨gb413, 5, none⟩ = some (.bool a0_5) ∧ w'.cell? (ad432.add (x10_3).toNat) = some (.int .i64 (rd l0_3 x10_3)) ∧ w'.cell? (ad432.add (x9_2).toNat) = some (.int .i64 (rd l0_3 x9_2))) (ds := []) #[false, false, false, false, false, false, false, false, false, false, false] (by kernel_rfl) rfl rfl ⟨(blk_cell BK413.out 0).trans rfl, (blk_cell BK413.out 1).trans rfl, (blk_cell BK413.out 2).trans rfl, (blk_cell BK413.out 3).trans rfl, (blk_cell BK413.out 4).trans rfl, (blk_cell BK413.out 5).trans rfl, ((HB.out.cell (World.block_lt_of_cell? w _ hw432_0)).trans hw432_0), ((HB.out.cell (World.block_lt_of_cell? w _ hw433_0)).trans hw433_0)⟩ (fun hHeld => ?_); refine with_tabW quarrylaw19_BoundsPoint.tab13 quarrylaw19_BoundsPoint.bits13 (fun HT_ HW_ => ?_)
                generalize wr.drew = w26 at HO_7 BK413 HB hx432_0 hx433_0 hHeld ⊢
                refine pure_ (i := 0) (N := some 59) (v := ?_) (a' := ?_) #[true, false, false, false, false, false, false, false, false, false, false] rfl rfl (any_of HT_.out (by kernel_rfl)) (fun _ _ _ h => h) (Or.inl ⟨by rfl, ?_⟩) ?_ ?_
                rotate_left
                ·intro w'
                 go_simp
                 with_reducible rfl
                rotate_left
                ·simp only [Act.put, List.setIfInBounds_toArray, List.set_cons_zero, List.set_cons_succ, i64_w, i32_w]
                 rfl
                refine pure_ (i := 2) (N := some 61) (v := ?_) (a' := ?_) #[true, false, true, false, false, false, false, false, false, false, false] rfl rfl (any_of HT_.out (by kernel_rfl)) (fun _ _ _ h => h) (Or.inl ⟨by rfl, ?_⟩) ?_ ?_
                rotate_left
                ·intro w'
                 go_simp
                 with_reducible rfl
                rotate_left
                ·simp only [Act.put, List.setIfInBounds_toArray, List.set_cons_zero, List.set_cons_succ, i64_w, i32_w]
                 rfl
                refine pure_ (i := 5) (N := some 64) (v := ?_) (a' := ?_) #[true, false, true, false, false, true, false, false, false, false, false] rfl rfl (any_of HT_.out (by kernel_rfl)) (fun _ _ _ h => h) (Or.inl ⟨by rfl, ?_⟩) ?_ ?_
                rotate_left
                ·intro w'
                 go_simp
                 with_reducible rfl
                rotate_left
                ·simp only [Act.put, List.setIfInBounds_toArray, List.set_cons_zero, List.set_cons_succ, i64_w, i32_w]
                 rfl
                refine pure_ (i := 7) (N := some 66) (v := ?_) (a' := ?_) #[true, false, true, false, false, true, false, true, false, false, false] rfl rfl (any_of HT_.out (by kernel_rfl)) (fun _ _ _ h => h) (Or.inl ⟨by rfl, ?_⟩) ?_ ?_
                rotate_left
                ·intro w'
                 go_simp
                 with_reducible rfl
                rotate_left
                ·simp only [Act.put, List.setIfInBounds_toArray, List.set_cons_zero, List.set_cons_succ, i64_w, i32_w]
                 rfl
                refine take_ (i := 1) (N := some 60) (v := ?_) (a' := ?_) #[true, true, true, false, false, true, false, true, false, false, false] rfl rfl (take_ofW HT_.out HW_.out (by kernel_rfl)) (fun _ _ _ h => h) (Or.inl ⟨by rfl, ?_⟩) hHeld ?_ ?_
                rotate_left
                ·rintro w' ⟨s0, s1, s2, s3, s4, s5, s6, s7⟩
                 go_simp
                 with_reducible rfl
                rotate_left
                ·simp only [Act.put, List.setIfInBounds_toArray, List.set_cons_zero, List.set_cons_succ, i64_w, i32_w]
                 rfl
                refine pure_ (i := 3) (N := some 62) (v := ?_) (a' := ?_) #[true, true, true, true, false, true, false, true, false, false, false] rfl rfl (any_of HT_.out (by kernel_rfl)) (fun _ _ _ h => h) (Or.inl ⟨by rfl, ?_⟩) ?_ ?_
                rotate_left
                ·intro w'
                 go_simp
                 with_reducible rfl
                rotate_left
                ·simp only [Act.put, List.setIfInBounds_toArray, List.set_cons_zero, List.set_cons_succ, i64_w, i32_w]
                 rfl
                refine take_ (i := 4) (N := some 63) (v := ?_) (a' := ?_) #[true, true, true, true, true, true, false, true, false, false, false] rfl rfl (take_ofW HT_.out HW_.out (by kernel_rfl)) (fun _ _ _ h => h) (Or.inl ⟨by rfl, ?_⟩) hHeld ?_ ?_
                rotate_left
                ·rintro w' ⟨s0, s1, s2, s3, s4, s5, s6, s7⟩
                 go_simp
                 with_reducible rfl
                rotate_left
                ·simp only [Act.put, List.setIfInBounds_toArray, List.set_cons_zero, List.set_cons_succ, i64_w, i32_w]
                 rfl
                refine take_ (i := 6) (N := some 65) (v := ?_) (a' := ?_) #[true, true, true, true, true, true, true, true, false, false, false] rfl rfl (take_ofW HT_.out HW_.out (by kernel_rfl)) (fun _ _ _ h => h) (Or.inl ⟨by rfl, ?_⟩) hHeld ?_ ?_
                rotate_left
                ·rintro w' ⟨s0, s1, s2, s3, s4, s5, s6, s7⟩
                 go_simp
                 with_reducible rfl
                rotate_left
                ·simp only [Act.put, List.setIfInBounds_toArray, List.set_cons_zero, List.set_cons_succ, i64_w, i32_w]
                 rfl
                refine pure_ (i := 8) (N := some 67) (v := ?_) (a' := ?_) #[true, true, true, true, true, true, true, true, true, false, false] rfl rfl (any_of HT_.out (by kernel_rfl)) (fun _ _ _ h => h) (Or.inl ⟨by rfl, ?_⟩) ?_ ?_
                rotate_left
                ·intro w'
                 go_simp
                 with_reducible rfl
                rotate_left
                ·simp only [Act.put, List.setIfInBounds_toArray, List.set_cons_zero, List.set_cons_succ, i64_w, i32_w]
                 rfl
                refine take_ (i := 9) (N := some 68) (v := ?_) (a' := ?_) #[true, true, true, true, true, true, true, true, true, true, false] rfl rfl (take_ofW HT_.out HW_.out (by kernel_rfl)) (fun _ _ _ h => h) (Or.inl ⟨by rfl, ?_⟩) hHeld ?_ ?_
                rotate_left
                ·rintro w' ⟨s0, s1, s2, s3, s4, s5, s6, s7⟩
                 go_simp
                 with_reducible rfl
                rotate_left
                ·simp only [Act.put, List.setIfInBounds_toArray, List.set_cons_zero, List.set_cons_succ, i64_w, i32_w]
                 rfl
                refine pure_ (i := 10) (N := some 69) (v := ?_) (a' := ?_) #[true, true, true, true, true, true, true, true, true, true, true] rfl rfl (any_of HT_.out (by kernel_rfl)) (fun _ _ _ h => h) (Or.inl ⟨by rfl, ?_⟩) ?_ ?_
                rotate_left
                ·intro w'
                 go_simp
                 with_reducible rfl
                rotate_left
                ·simp only [Act.put, List.setIfInBounds_toArray, List.set_cons_zero, List.set_cons_succ, i64_w, i32_w]
                 rfl
                refine done_ (done_of HT_.out (by kernel_rfl)) ?_
                try go_wp2
                go_roundg k3
                case measure => have := HJ5.out; have := HK2.out; have := HK3.out; omega
                case rel => exact ⟨(wrap64 (x10_3 + 1)), (by first | rfl | (simp; done) | (simp [*]; done)), H', ⟨by have := HJ5.out; have := HK2.out; have := HK3.out; omega⟩, ⟨by (with_reducible repeat (first | apply Kd.R_alloc | apply Kd.R_drewN | apply Kd.R_drew)); exact HO_7.out⟩, ⟨by (with_reducible repeat (first | refine blk_drewN ?_ _ | refine blk_drew ?_ | refine blk_alloc ?_ _)); exact BK413.out⟩, ⟨by repeat (first | (with_reducible first | exact HB.out | apply below_alloc | apply pw_below_drewN | apply below_drew1 | refine below_set ?_ GE413.out) | exact HB.out)⟩⟩
              ·rw [if_neg c23] at H
               exact absurd H (by simp)
             ·rw [if_neg c22] at H
              exact absurd H (by simp)
            ·rw [if_neg c21] at H
             exact absurd H (by simp)
           ·rw [if_neg c20] at H
            exact absurd H (by simp)
          ·rw [if_neg c19] at H
           have c19b0 : decide (x10_3 < x9_2) = false := decide_eq_false c19
           clear c19
           by_cases c27 : 0 ≤ x9_2
           ·rw [if_pos c27] at H
            have c27b0 : decide (0 ≤ x9_2) = true := decide_eq_true c27
            clear c27
            by_cases c28 : x9_2 < (l1.length : Int)
            ·rw [if_pos c28] at H
             have c28b0 : decide (x9_2 < (l1.length : Int)) = true := decide_eq_true c28
             clear c28
             replace H := Option.bind_eq_some_iff.mp H
             obtain ⟨t435, A290, H⟩ := H
             replace H : (if t435 = 0 then (if ((rd_T25 l1 x9_2).f0) = 0 then (some true) else (if x9_2 < (l2.length : Int) then ((quarryref01_Check.f ((rd_T25 l2 x9_2).f0) ((rd_T25 l2 x9_2).f1) ((rd_T25 l2 x9_2).f2)).bind fun t438 => (if t438 = 0 then (if x8_2 = true then (if x9_2 < (l0_3.length : Int) then (if x7_2.length < 2932031007402 then (quarrylaw19_BoundsPoint.l0 k3 l1 l2 (x7_2 ++ [(⟨rd l0_3 x9_2, 5, (⟨(rd_T25 l1 x9_2).f0, (rd_T25 l1 x9_2).f1, (rd_T25 l1 x9_2).f2⟩ : S25)⟩ : S58)]) (((rd_T25 l1 x9_2).f0) == ((rd_T25 l2 x9_2).f0) && (((rd_T25 l1 x9_2).f1) == ((rd_T25 l2 x9_2).f1) && ((((rd_T25 l1 x9_2).f2).toList) == (((rd_T25 l2 x9_2).f2).toList)))) (wrap64 (x9_2 + 1)) a0_0 a0_1 a0_2 l0_3 l0_4 a0_5) else (none)) else (none)) else (if x9_2 < (l0_3.length : Int) then (if x7_2.length < 2932031007402 then (quarrylaw19_BoundsPoint.l0 k3 l1 l2 (x7_2 ++ [(⟨rd l0_3 x9_2, 5, (⟨(rd_T25 l1 x9_2).f0, (rd_T25 l1 x9_2).f1, (rd_T25 l1 x9_2).f2⟩ : S25)⟩ : S58)]) false (wrap64 (x9_2 + 1)) a0_0 a0_1 a0_2 l0_3 l0_4 a0_5) else (none)) else (none))) else (some true))) else (none))) else (some true)) = some r := H
             have A29 := Aside0.mk A290
             clear A290
             by_cases c30 : t435 = 0
             ·rw [if_pos c30] at H
              have c30b0 : (t435 == 0) = true := beq_iff_eq.mpr c30
              have c30b1 : (t435 != 0) = false := bne_eq_false_iff_eq.mpr c30
              clear c30
              by_cases c31 : ((rd_T25 l1 x9_2).f0) = 0
              ·rw [if_pos c31] at H
               have c31b0 : (((rd_T25 l1 x9_2).f0) == 0) = true := beq_iff_eq.mpr c31
               have c31b1 : (((rd_T25 l1 x9_2).f0) != 0) = false := bne_eq_false_iff_eq.mpr c31
               clear c31
               obtain rfl := Option.some.inj H
               have p434 : 0 ≤ (x9_2 : Int) := of_decide_eq_true (by first | (with_reducible assumption) | assumption)
               have q434 : x9_2 < (l1.length : Int) := of_decide_eq_true (by first | (with_reducible assumption) | assumption)
               obtain ⟨ad434, e434, hx434_0, hx434_1, hx434_2⟩ := at_T25 HR1.out x9_2 p434 q434
               cases e434
               replace hx434_0 := (HB.out.cell (World.block_lt_of_cell? w _ hx434_0)).trans hx434_0
               replace hx434_1 := (HB.out.cell (World.block_lt_of_cell? w _ hx434_1)).trans hx434_1
               replace hx434_2 := (HB.out.cell (World.block_lt_of_cell? w _ hx434_2)).trans hx434_2
               replace p434 := eq_true p434
               replace q434 := eq_true q434
               go_wp2_with (first | ((with_reducible refine gate_callee (f := 21) rfl ?_); refine goesL_ (some 74) rfl rfl Try.func21 (by kernel_rfl) rfl #[.agg #[.int .i64 ((rd_T25 l1 x9_2).f0), .int .i64 ((rd_T25 l1 x9_2).f1), .string ((rd_T25 l1 x9_2).f2)]] rfl (by (try simp only [List.map_toArray, List.map_cons, List.map_nil]); first | done | rfl | (simp only [List.length_drop, List.length_take]; rfl)) ?_; (with_reducible refine (quarryref01_Check.calls ((rd_T25 l1 x9_2).f0) ((rd_T25 l1 x9_2).f1) ((rd_T25 l1 x9_2).f2) t435 _ A29.out).mono ?_); rintro e w32 ⟨rfl, hb⟩; refine ⟨_, rfl, ?_⟩; have n0_ := Aside0.mk (Kd.R_below (by (with_reducible repeat (first | apply Kd.R_alloc | apply Kd.R_drewN | apply Kd.R_drew)); exact HO_7.out) hb); have n1_ := Aside0.mk (blk_below (g := gb413) (o := .cells #[.int .i64 a0_0, .string a0_1, .string a0_2, .slice A0_3 l0_3.length c0_3, .slice A0_4 l0_4.length c0_4, .bool a0_5] 41 (0, 0)) (bk_ BK413) hb); have n2_ := Aside0.mk (below_step (by repeat (first | (with_reducible first | exact HB.out | apply below_alloc | apply pw_below_drewN | apply below_drew1 | refine below_set ?_ GE413.out) | exact HB.out)) hb); clear HO_7; clear BK413; clear HB; have HO_7 := n0_; have BK413 := n1_; have HB := n2_; clear n0_ n1_ n2_; (try clear hb); (try clear hb2); (try clear hk); (try clear hi); have p436 : 0 ≤ (x9_2 : Int) := of_decide_eq_true (by first | (with_reducible assumption) | assumption); have q436 : x9_2 < (l1.length : Int) := of_decide_eq_true (by first | (with_reducible assumption) | assumption); obtain ⟨ad436, e436, hx436_0, hx436_1, hx436_2⟩ := at_T25 HR1.out x9_2 p436 q436; obtain rfl : ad434 = ad436 := (by injection e436); replace hx436_0 := (HB.out.cell (World.block_lt_of_cell? w _ hx436_0)).trans hx436_0; replace hx436_1 := (HB.out.cell (World.block_lt_of_cell? w _ hx436_1)).trans hx436_1; replace hx436_2 := (HB.out.cell (World.block_lt_of_cell? w _ hx436_2)).trans hx436_2; replace p436 := eq_true p436; replace q436 := eq_true q436))
               go_ret
               exact ⟨by first | rfl | (simp [errW_none, errW_some] <;> rfl) | (simp [*, errW_none, errW_some] <;> rfl), by repeat (first | (with_reducible first | exact HB.out | apply below_alloc | apply pw_below_drewN | apply below_drew1 | refine below_set ?_ GE413.out) | exact HB.out)⟩
              ·rw [if_neg c31] at H
               have c31b0 : (((rd_T25 l1 x9_2).f0) == 0) = false := beq_eq_false_iff_ne.mpr c31
               have c31b1 : (((rd_T25 l1 x9_2).f0) != 0) = true := bne_iff_ne.mpr c31
               by_cases c33 : x9_2 < (l2.length : Int)
               ·rw [if_pos c33] at H
                have c33b0 : decide (x9_2 < (l2.length : Int)) = true := decide_eq_true c33
                clear c33
                replace H := Option.bind_eq_some_iff.mp H
                obtain ⟨t438, A340, H⟩ := H
                replace H : (if t438 = 0 then (if x8_2 = true then (if x9_2 < (l0_3.length : Int) then (if x7_2.length < 2932031007402 then (quarrylaw19_BoundsPoint.l0 k3 l1 l2 (x7_2 ++ [(⟨rd l0_3 x9_2, 5, (⟨(rd_T25 l1 x9_2).f0, (rd_T25 l1 x9_2).f1, (rd_T25 l1 x9_2).f2⟩ : S25)⟩ : S58)]) (((rd_T25 l1 x9_2).f0) == ((rd_T25 l2 x9_2).f0) && (((rd_T25 l1 x9_2).f1) == ((rd_T25 l2 x9_2).f1) && ((((rd_T25 l1 x9_2).f2).toList) == (((rd_T25 l2 x9_2).f2).toList)))) (wrap64 (x9_2 + 1)) a0_0 a0_1 a0_2 l0_3 l0_4 a0_5) else (none)) else (none)) else (if x9_2 < (l0_3.length : Int) then (if x7_2.length < 2932031007402 then (quarrylaw19_BoundsPoint.l0 k3 l1 l2 (x7_2 ++ [(⟨rd l0_3 x9_2, 5, (⟨(rd_T25 l1 x9_2).f0, (rd_T25 l1 x9_2).f1, (rd_T25 l1 x9_2).f2⟩ : S25)⟩ : S58)]) false (wrap64 (x9_2 + 1)) a0_0 a0_1 a0_2 l0_3 l0_4 a0_5) else (none)) else (none))) else (some true)) = some r := H
                have A34 := Aside0.mk A340
                clear A340
                by_cases c35 : t438 = 0
                ·rw [if_pos c35] at H
                 have c35b0 : (t438 == 0) = true := beq_iff_eq.mpr c35
                 have c35b1 : (t438 != 0) = false := bne_eq_false_iff_eq.mpr c35
                 clear c35
                 by_cases c36 : x8_2 = true
                 ·subst c36
                  have H1 : (if x9_2 < (l0_3.length : Int) then (if x7_2.length < 2932031007402 then (quarrylaw19_BoundsPoint.l0 k3 l1 l2 (x7_2 ++ [(⟨rd l0_3 x9_2, 5, (⟨(rd_T25 l1 x9_2).f0, (rd_T25 l1 x9_2).f1, (rd_T25 l1 x9_2).f2⟩ : S25)⟩ : S58)]) (((rd_T25 l1 x9_2).f0) == ((rd_T25 l2 x9_2).f0) && (((rd_T25 l1 x9_2).f1) == ((rd_T25 l2 x9_2).f1) && ((((rd_T25 l1 x9_2).f2).toList) == (((rd_T25 l2 x9_2).f2).toList)))) (wrap64 (x9_2 + 1)) a0_0 a0_1 a0_2 l0_3 l0_4 a0_5) else (none)) else (none)) = some r := by rw [if_pos rfl] at H; exact H
                  clear H
                  have H := H1
                  clear H1
                  by_cases c37 : x9_2 < (l0_3.length : Int)
                  ·rw [if_pos c37] at H
                   have c37b0 : decide (x9_2 < (l0_3.length : Int)) = true := decide_eq_true c37
                   clear c37
                   by_cases c38 : x7_2.length < 2932031007402
                   ·rw [if_pos c38] at H
                    have LMc38 := Aside0.mk c38
                    clear c38
                    obtain ⟨y443, hy443⟩ : ∃ y_ : List (S58), y_ = (x7_2 ++ [(⟨rd l0_3 x9_2, 5, (⟨(rd_T25 l1 x9_2).f0, (rd_T25 l1 x9_2).f1, (rd_T25 l1 x9_2).f2⟩ : S25)⟩ : S58)]) := ⟨_, rfl⟩
                    replace H : (quarrylaw19_BoundsPoint.l0 k3 l1 l2 y443 (((rd_T25 l1 x9_2).f0) == ((rd_T25 l2 x9_2).f0) && (((rd_T25 l1 x9_2).f1) == ((rd_T25 l2 x9_2).f1) && ((((rd_T25 l1 x9_2).f2).toList) == (((rd_T25 l2 x9_2).f2).toList)))) (wrap64 (x9_2 + 1)) a0_0 a0_1 a0_2 l0_3 l0_4 a0_5) = some r := by first | (rw [hy443]; with_reducible exact H) | (have H2_ := (Option.bind_some _ _).symm.trans H; rw [hy443]; with_reducible exact H2_) | (have H2_ := (Option.bind_some _ _).symm.trans H; with_reducible exact H2_) | with_reducible exact H | (rw [hy443]; exact H) | exact H
                    have Ny443 := Aside0.mk hy443
                    clear hy443
                    have H' := Aside0.mk H
                    clear H
                    have p434 : 0 ≤ (x9_2 : Int) := of_decide_eq_true (by first | (with_reducible assumption) | assumption)
                    have q434 : x9_2 < (l1.length : Int) := of_decide_eq_true (by first | (with_reducible assumption) | assumption)
                    obtain ⟨ad434, e434, hx434_0, hx434_1, hx434_2⟩ := at_T25 HR1.out x9_2 p434 q434
                    cases e434
                    replace hx434_0 := (HB.out.cell (World.block_lt_of_cell? w _ hx434_0)).trans hx434_0
                    replace hx434_1 := (HB.out.cell (World.block_lt_of_cell? w _ hx434_1)).trans hx434_1
                    replace hx434_2 := (HB.out.cell (World.block_lt_of_cell? w _ hx434_2)).trans hx434_2
                    replace p434 := eq_true p434
                    replace q434 := eq_true q434
                    try go_wp2_with (first | ((with_reducible refine gate_callee (f := 21) rfl ?_); refine goesL_ (some 74) rfl rfl Try.func21 (by kernel_rfl) rfl #[.agg #[.int .i64 ((rd_T25 l1 x9_2).f0), .int .i64 ((rd_T25 l1 x9_2).f1), .string ((rd_T25 l1 x9_2).f2)]] rfl (by (try simp only [List.map_toArray, List.map_cons, List.map_nil]); first | done | rfl | (simp only [List.length_drop, List.length_take]; rfl)) ?_; (with_reducible refine (quarryref01_Check.calls ((rd_T25 l1 x9_2).f0) ((rd_T25 l1 x9_2).f1) ((rd_T25 l1 x9_2).f2) t435 _ A29.out).mono ?_); rintro e w39 ⟨rfl, hb⟩; refine ⟨_, rfl, ?_⟩; have n0_ := Aside0.mk (Kd.R_below (by (with_reducible repeat (first | apply Kd.R_alloc | apply Kd.R_drewN | apply Kd.R_drew)); exact HO_7.out) hb); have n1_ := Aside0.mk (blk_below (g := gb413) (o := .cells #[.int .i64 a0_0, .string a0_1, .string a0_2, .slice A0_3 l0_3.length c0_3, .slice A0_4 l0_4.length c0_4, .bool a0_5] 41 (0, 0)) (bk_ BK413) hb); have n2_ := Aside0.mk (below_step (by repeat (first | (with_reducible first | exact HB.out | apply below_alloc | apply pw_below_drewN | apply below_drew1 | refine below_set ?_ GE413.out) | exact HB.out)) hb); clear HO_7; clear BK413; clear HB; have HO_7 := n0_; have BK413 := n1_; have HB := n2_; clear n0_ n1_ n2_; (try clear hb); (try clear hb2); (try clear hk); (try clear hi); have p436 : 0 ≤ (x9_2 : Int) := of_decide_eq_true (by first | (with_reducible assumption) | assumption); have q436 : x9_2 < (l1.length : Int) := of_decide_eq_true (by first | (with_reducible assumption) | assumption); obtain ⟨ad436, e436, hx436_0, hx436_1, hx436_2⟩ := at_T25 HR1.out x9_2 p436 q436; obtain rfl : ad434 = ad436 := (by injection e436); replace hx436_0 := (HB.out.cell (World.block_lt_of_cell? w _ hx436_0)).trans hx436_0; replace hx436_1 := (HB.out.cell (World.block_lt_of_cell? w _ hx436_1)).trans hx436_1; replace hx436_2 := (HB.out.cell (World.block_lt_of_cell? w _ hx436_2)).trans hx436_2; replace p436 := eq_true p436; replace q436 := eq_true q436; have p437 : 0 ≤ (x9_2 : Int) := of_decide_eq_true (by first | (with_reducible assumption) | assumption); have q437 : x9_2 < (l2.length : Int) := of_decide_eq_true (by first | (with_reducible assumption) | assumption); obtain ⟨ad437, e437, hx437_0, hx437_1, hx437_2⟩ := at_T25 HR2.out x9_2 p437 q437; cases e437; replace hx437_0 := (HB.out.cell (World.block_lt_of_cell? w _ hx437_0)).trans hx437_0; replace hx437_1 := (HB.out.cell (World.block_lt_of_cell? w _ hx437_1)).trans hx437_1; replace hx437_2 := (HB.out.cell (World.block_lt_of_cell? w _ hx437_2)).trans hx437_2; replace p437 := eq_true p437; replace q437 := eq_true q437) | (go_at_call 21; (with_reducible refine (quarryref01_Check.calls ((rd_T25 l2 x9_2).f0) ((rd_T25 l2 x9_2).f1) ((rd_T25 l2 x9_2).f2) t438 _ A34.out).mono ?_); rintro e w40 ⟨rfl, hb⟩; have n0_ := Aside0.mk (Kd.R_below (by (with_reducible repeat (first | apply Kd.R_alloc | apply Kd.R_drewN | apply Kd.R_drew)); exact HO_7.out) hb); have n1_ := Aside0.mk (blk_below (g := gb413) (o := .cells #[.int .i64 a0_0, .string a0_1, .string a0_2, .slice A0_3 l0_3.length c0_3, .slice A0_4 l0_4.length c0_4, .bool a0_5] 41 (0, 0)) (bk_ BK413) hb); have n2_ := Aside0.mk (below_step (by repeat (first | (with_reducible first | exact HB.out | apply below_alloc | apply pw_below_drewN | apply below_drew1 | refine below_set ?_ GE413.out) | exact HB.out)) hb); clear HO_7; clear BK413; clear HB; have HO_7 := n0_; have BK413 := n1_; have HB := n2_; clear n0_ n1_ n2_; (try clear hb); (try clear hb2); (try clear hk); (try clear hi)))
                    have n0_ := Aside0.mk (Kd.R_drew HO_7.out)
                    have n1_ := Aside0.mk (blk_drew BK413.out)
                    have n2_ := Aside0.mk (below_drew1 HB.out)
                    clear HO_7
                    clear BK413
                    clear HB
                    have HO_7 := n0_
                    have BK413 := n1_
                    have HB := n2_
                    clear n0_ n1_ n2_
                    have p439 : 0 ≤ (x9_2 : Int) := of_decide_eq_true (by first | (with_reducible assumption) | assumption)
                    have q439 : x9_2 < (l1.length : Int) := of_decide_eq_true (by first | (with_reducible assumption) | assumption)
                    obtain ⟨ad439, e439, hx439_0, hx439_1, hx439_2⟩ := at_T25 HR1.out x9_2 p439 q439
                    have hw439_2 := hx439_2
                    have hw439_1 := hx439_1
                    have hw439_0 := hx439_0
                    obtain rfl : ad434 = ad439 := (by injection e439)
                    replace hx439_0 := (HB.out.cell (World.block_lt_of_cell? w _ hx439_0)).trans hx439_0
                    replace hx439_1 := (HB.out.cell (World.block_lt_of_cell? w _ hx439_1)).trans hx439_1
                    replace hx439_2 := (HB.out.cell (World.block_lt_of_cell? w _ hx439_2)).trans hx439_2
                    replace p439 := eq_true p439
                    replace q439 := eq_true q439
                    have p440 : 0 ≤ (x9_2 : Int) := of_decide_eq_true (by first | (with_reducible assumption) | assumption)
                    have q440 : x9_2 < (l2.length : Int) := of_decide_eq_true (by first | (with_reducible assumption) | assumption)
                    obtain ⟨ad440, e440, hx440_0, hx440_1, hx440_2⟩ := at_T25 HR2.out x9_2 p440 q440
                    have hw440_2 := hx440_2
                    have hw440_1 := hx440_1
                    have hw440_0 := hx440_0
                    obtain rfl : ad437 = ad440 := (by injection e440)
                    replace hx440_0 := (HB.out.cell (World.block_lt_of_cell? w _ hx440_0)).trans hx440_0
                    replace hx440_1 := (HB.out.cell (World.block_lt_of_cell? w _ hx440_1)).trans hx440_1
                    replace hx440_2 := (HB.out.cell (World.block_lt_of_cell? w _ hx440_2)).trans hx440_2
                    replace p440 := eq_true p440
                    replace q440 := eq_true q440
                    refine start_ (n := 13) (S := fun w' => w'.cell? (ad434.add ((x9_2).toNat * 3)) = some (.int .i64 ((rd_T25 l1 x9_2).f0)) ∧ w'.cell? ⟨(ad434.add ((x9_2).toNat * 3)).block, (ad434.add ((x9_2).toNat * 3)).off + 1, none⟩ = some (.int .i64 ((rd_T25 l1 x9_2).f1)) ∧ w'.cell? ⟨(ad434.add ((x9_2).toNat * 3)).block, (ad434.add ((x9_2).toNat * 3)).off + 2, none⟩ = some (.string ((rd_T25 l1 x9_2).f2)) ∧ w'.cell? (ad437.add ((x9_2).toNat * 3)) = some (.int .i64 ((rd_T25 l2 x9_2).f0)) ∧ w'.cell? ⟨(ad437.add ((x9_2).toNat * 3)).block, (ad437.add ((x9_2).toNat * 3)).off + 1, none⟩ = some (.int .i64 ((rd_T25 l2 x9_2).f1)) ∧ w'.cell? ⟨(ad437.add ((x9_2).toNat * 3)).block, (ad437.add ((x9_2).toNat * 3)).off + 2, none⟩ = some (.string ((rd_T25 l2 x9_2).f2))) (ds := []) #[false, false, false, false, false, false, false, false, false, false, false, false, false] (by kernel_rfl) rfl rfl ⟨((HB.out.cell (World.block_lt_of_cell? w _ hw439_0)).trans hw439_0), ((HB.out.cell (World.block_lt_of_cell? w _ hw439_1)).trans hw439_1), ((HB.out.cell (World.block_lt_of_cell? w _ hw439_2)).trans hw439_2), ((HB.out.cell (World.block_lt_of_cell? w _ hw440_0)).trans hw440_0), ((HB.out.cell (World.block_lt_of_cell? w _ hw440_1)).trans hw440_1), ((HB.out.cell (World.block_lt_of_cell? w _ hw440_2)).trans hw440_2)⟩ (fun hHeld => ?_); refine with_tabW quarrylaw19_BoundsPoint.tab17 quarrylaw19_BoundsPoint.bits17 (fun HT_ HW_ => ?_)
                    generalize w40.drew = w41 at HO_7 BK413 HB hx439_0 hx439_1 hx439_2 hx440_0 hx440_1 hx440_2 hHeld ⊢
                    refine pure_ (i := 0) (N := some 92) (v := ?_) (a' := ?_) #[true, false, false, false, false, false, false, false, false, false, false, false, false] rfl rfl (any_of HT_.out (by kernel_rfl)) (fun _ _ _ h => h) (Or.inl ⟨by rfl, ?_⟩) ?_ ?_
                    rotate_left
                    ·intro w'
                     go_simp
                     with_reducible rfl
                    rotate_left
                    ·simp only [Act.put, List.setIfInBounds_toArray, List.set_cons_zero, List.set_cons_succ, i64_w, i32_w]
                     rfl
                    refine pure_ (i := 1) (N := some 93) (v := ?_) (a' := ?_) #[true, true, false, false, false, false, false, false, false, false, false, false, false] rfl rfl (any_of HT_.out (by kernel_rfl)) (fun _ _ _ h => h) (Or.inl ⟨by rfl, ?_⟩) ?_ ?_
                    rotate_left
                    ·intro w'
                     go_simp
                     with_reducible rfl
                    rotate_left
                    ·simp only [Act.put, List.setIfInBounds_toArray, List.set_cons_zero, List.set_cons_succ, i64_w, i32_w]
                     rfl
                    refine pure_ (i := 2) (N := some 94) (v := ?_) (a' := ?_) #[true, true, true, false, false, false, false, false, false, false, false, false, false] rfl rfl (any_of HT_.out (by kernel_rfl)) (fun _ _ _ h => h) (Or.inl ⟨by rfl, ?_⟩) ?_ ?_
                    rotate_left
                    ·intro w'
                     go_simp
                     with_reducible rfl
                    rotate_left
                    ·simp only [Act.put, List.setIfInBounds_toArray, List.set_cons_zero, List.set_cons_succ, i64_w, i32_w]
                     rfl
                    refine pure_ (i := 3) (N := some 95) (v := ?_) (a' := ?_) #[true, true, true, true, false, false, false, false, false, false, false, false, false] rfl rfl (any_of HT_.out (by kernel_rfl)) (fun _ _ _ h => h) (Or.inl ⟨by rfl, ?_⟩) ?_ ?_
                    rotate_left
                    ·intro w'
                     go_simp
                     with_reducible rfl
                    rotate_left
                    ·simp only [Act.put, List.setIfInBounds_toArray, List.set_cons_zero, List.set_cons_succ, i64_w, i32_w]
                     rfl
                    refine pure_ (i := 4) (N := some 96) (v := ?_) (a' := ?_) #[true, true, true, true, true, false, false, false, false, false, false, false, false] rfl rfl (any_of HT_.out (by kernel_rfl)) (fun _ _ _ h => h) (Or.inl ⟨by rfl, ?_⟩) ?_ ?_
                    rotate_left
                    ·intro w'
                     go_simp
                     with_reducible rfl
                    rotate_left
                    ·simp only [Act.put, List.setIfInBounds_toArray, List.set_cons_zero, List.set_cons_succ, i64_w, i32_w]
                     rfl
                    refine pure_ (i := 6) (N := some 98) (v := ?_) (a' := ?_) #[true, true, true, true, true, false, true, false, false, false, false, false, false] rfl rfl (any_of HT_.out (by kernel_rfl)) (fun _ _ _ h => h) (Or.inl ⟨by rfl, ?_⟩) ?_ ?_
                    rotate_left
                    ·intro w'
                     go_simp
                     with_reducible rfl
                    rotate_left
                    ·simp only [Act.put, List.setIfInBounds_toArray, List.set_cons_zero, List.set_cons_succ, i64_w, i32_w]
                     rfl
                    refine pure_ (i := 7) (N := some 99) (v := ?_) (a' := ?_) #[true, true, true, true, true, false, true, true, false, false, false, false, false] rfl rfl (any_of HT_.out (by kernel_rfl)) (fun _ _ _ h => h) (Or.inl ⟨by rfl, ?_⟩) ?_ ?_
                    rotate_left
                    ·intro w'
                     go_simp
                     with_reducible rfl
                    rotate_left
                    ·simp only [Act.put, List.setIfInBounds_toArray, List.set_cons_zero, List.set_cons_succ, i64_w, i32_w]
                     rfl
                    refine pure_ (i := 8) (N := some 100) (v := ?_) (a' := ?_) #[true, true, true, true, true, false, true, true, true, false, false, false, false] rfl rfl (any_of HT_.out (by kernel_rfl)) (fun _ _ _ h => h) (Or.inl ⟨by rfl, ?_⟩) ?_ ?_
                    rotate_left
                    ·intro w'
                     go_simp
                     with_reducible rfl
                    rotate_left
                    ·simp only [Act.put, List.setIfInBounds_toArray, List.set_cons_zero, List.set_cons_succ, i64_w, i32_w]
                     rfl
                    refine take_ (i := 5) (N := some 97) (v := ?_) (a' := ?_) #[true, true, true, true, true, true, true, true, true, false, false, false, false] rfl rfl (take_ofW HT_.out HW_.out (by kernel_rfl)) (fun _ _ _ h => h) (Or.inl ⟨by rfl, ?_⟩) hHeld ?_ ?_
                    rotate_left
                    ·rintro w' ⟨s0, s1, s2, s3, s4, s5⟩
                     go_simp
                     with_reducible rfl
                    rotate_left
                    ·simp only [Act.put, List.setIfInBounds_toArray, List.set_cons_zero, List.set_cons_succ, i64_w, i32_w]
                     rfl
                    refine take_ (i := 9) (N := some 101) (v := ?_) (a' := ?_) #[true, true, true, true, true, true, true, true, true, true, false, false, false] rfl rfl (take_ofW HT_.out HW_.out (by kernel_rfl)) (fun _ _ _ h => h) (Or.inl ⟨by rfl, ?_⟩) hHeld ?_ ?_
                    rotate_left
                    ·rintro w' ⟨s0, s1, s2, s3, s4, s5⟩
                     go_simp
                     with_reducible rfl
                    rotate_left
                    ·simp only [Act.put, List.setIfInBounds_toArray, List.set_cons_zero, List.set_cons_succ, i64_w, i32_w]
                     rfl
                    refine pure_ (i := 10) (N := some 102) (v := ?_) (a' := ?_) #[true, true, true, true, true, true, true, true, true, true, true, false, false] rfl rfl (any_of HT_.out (by kernel_rfl)) (fun _ _ _ h => h) (Or.inl ⟨by rfl, ?_⟩) ?_ ?_
                    rotate_left
                    ·intro w'
                     go_simp
                     with_reducible rfl
                    rotate_left
                    ·simp only [Act.put, List.setIfInBounds_toArray, List.set_cons_zero, List.set_cons_succ, i64_w, i32_w]
                     rfl
                    refine pure_ (i := 11) (N := some 103) (v := ?_) (a' := ?_) #[true, true, true, true, true, true, true, true, true, true, true, true, false] rfl rfl (any_of HT_.out (by kernel_rfl)) (fun _ _ _ h => h) (Or.inl ⟨by rfl, ?_⟩) ?_ ?_
                    rotate_left
                    ·intro w'
                     go_simp
                     with_reducible rfl
                    rotate_left
                    ·simp only [Act.put, List.setIfInBounds_toArray, List.set_cons_zero, List.set_cons_succ, i64_w, i32_w]
                     rfl
                    refine pure_ (i := 12) (N := some 8) (v := ?_) (a' := ?_) #[true, true, true, true, true, true, true, true, true, true, true, true, true] rfl rfl (any_of HT_.out (by kernel_rfl)) (fun _ _ _ h => h) (Or.inl ⟨by rfl, ?_⟩) ?_ ?_
                    rotate_left
                    ·intro w'
                     go_simp
                     with_reducible rfl
                    rotate_left
                    ·simp only [Act.put, List.setIfInBounds_toArray, List.set_cons_zero, List.set_cons_succ, i64_w, i32_w]
                     rfl
                    refine done_ (done_of HT_.out (by kernel_rfl)) ?_
                    try go_wp2
                    have n0_ := Aside0.mk (Kd.R_drew HO_7.out)
                    have n1_ := Aside0.mk (blk_drew BK413.out)
                    have n2_ := Aside0.mk (below_drew1 HB.out)
                    clear HO_7
                    clear BK413
                    clear HB
                    have HO_7 := n0_
                    have BK413 := n1_
                    have HB := n2_
                    clear n0_ n1_ n2_
                    have p441 : 0 ≤ (x9_2 : Int) := of_decide_eq_true (by first | (with_reducible assumption) | assumption)
                    have q441 : x9_2 < (l0_3.length : Int) := of_decide_eq_true (by first | (with_reducible assumption) | assumption)
                    obtain ⟨ad441, e441, hx441_0⟩ := Kd.at_int HR0_3.out x9_2 p441 q441
                    have hw441_0 := hx441_0
                    cases e441
                    replace hx441_0 := (HB.out.cell (World.block_lt_of_cell? w _ hx441_0)).trans hx441_0
                    replace p441 := eq_true p441
                    replace q441 := eq_true q441
                    have p442 : 0 ≤ (x9_2 : Int) := of_decide_eq_true (by first | (with_reducible assumption) | assumption)
                    have q442 : x9_2 < (l1.length : Int) := of_decide_eq_true (by first | (with_reducible assumption) | assumption)
                    obtain ⟨ad442, e442, hx442_0, hx442_1, hx442_2⟩ := at_T25 HR1.out x9_2 p442 q442
                    have hw442_2 := hx442_2
                    have hw442_1 := hx442_1
                    have hw442_0 := hx442_0
                    obtain rfl : ad434 = ad442 := (by injection e442)
                    replace hx442_0 := (HB.out.cell (World.block_lt_of_cell? w _ hx442_0)).trans hx442_0
                    replace hx442_1 := (HB.out.cell (World.block_lt_of_cell? w _ hx442_1)).trans hx442_1
                    replace hx442_2 := (HB.out.cell (World.block_lt_of_cell? w _ hx442_2)).trans hx442_2
                    replace p442 := eq_true p442
                    replace q442 := eq_true q442
                    refine start_ (n := 14) (S := fun w' => w'.cell? ⟨gb413, 0, none⟩ = some (.int .i64 a0_0) ∧ w'.cell? ⟨gb413, 1, none⟩ = some (.string a0_1) ∧ w'.cell? ⟨gb413, 2, none⟩ = some (.string a0_2) ∧ w'.cell? ⟨gb413, 3, none⟩ = some (.slice (some ad441) l0_3.length c0_3) ∧ w'.cell? ⟨gb413, 4, none⟩ = some (.slice A0_4 l0_4.length c0_4) ∧ w'.cell? ⟨gb413, 5, none⟩ = some (.bool a0_5) ∧ w'.cell? (ad441.add (x9_2).toNat) = some (.int .i64 (rd l0_3 x9_2)) ∧ w'.cell? (ad434.add ((x9_2).toNat * 3)) = some (.int .i64 ((rd_T25 l1 x9_2).f0)) ∧ w'.cell? ⟨(ad434.add ((x9_2).toNat * 3)).block, (ad434.add ((x9_2).toNat * 3)).off + 1, none⟩ = some (.int .i64 ((rd_T25 l1 x9_2).f1)) ∧ w'.cell? ⟨(ad434.add ((x9_2).toNat * 3)).block, (ad434.add ((x9_2).toNat * 3)).off + 2, none⟩ = some (.string ((rd_T25 l1 x9_2).f2))) (ds := []) #[false, false, false, false, false, false, false, false, false, false, false, false, false, false] (by kernel_rfl) rfl rfl ⟨(blk_cell BK413.out 0).trans rfl, (blk_cell BK413.out 1).trans rfl, (blk_cell BK413.out 2).trans rfl, (blk_cell BK413.out 3).trans rfl, (blk_cell BK413.out 4).trans rfl, (blk_cell BK413.out 5).trans rfl, ((HB.out.cell (World.block_lt_of_cell? w _ hw441_0)).trans hw441_0), ((HB.out.cell (World.block_lt_of_cell? w _ hw442_0)).trans hw442_0), ((HB.out.cell (World.block_lt_of_cell? w _ hw442_1)).trans hw442_1), ((HB.out.cell (World.block_lt_of_cell? w _ hw442_2)).trans hw442_2)⟩ (fun hHeld => ?_); refine with_tabW quarrylaw19_BoundsPoint.tab18 quarrylaw19_BoundsPoint.bits18 (fun HT_ HW_ => ?_)
                    generalize w41.drew = w42 at HO_7 BK413 HB hx441_0 hx442_0 hx442_1 hx442_2 hHeld ⊢
                    refine pure_ (i := 0) (N := some 104) (v := ?_) (a' := ?_) #[true, false, false, false, false, false, false, false, false, false, false, false, false, false] rfl rfl (any_of HT_.out (by kernel_rfl)) (fun _ _ _ h => h) (Or.inl ⟨by rfl, ?_⟩) ?_ ?_
                    rotate_left
                    ·intro w'
                     go_simp
                     with_reducible rfl
                    rotate_left
                    ·simp only [Act.put, List.setIfInBounds_toArray, List.set_cons_zero, List.set_cons_succ, i64_w, i32_w]
                     rfl
                    refine pure_ (i := 1) (N := some 105) (v := ?_) (a' := ?_) #[true, true, false, false, false, false, false, false, false, false, false, false, false, false] rfl rfl (any_of HT_.out (by kernel_rfl)) (fun _ _ _ h => h) (Or.inl ⟨by rfl, ?_⟩) ?_ ?_
                    rotate_left
                    ·intro w'
                     go_simp
                     with_reducible rfl
                    rotate_left
                    ·simp only [Act.put, List.setIfInBounds_toArray, List.set_cons_zero, List.set_cons_succ, i64_w, i32_w]
                     rfl
                    refine pure_ (i := 3) (N := some 107) (v := ?_) (a' := ?_) #[true, true, false, true, false, false, false, false, false, false, false, false, false, false] rfl rfl (any_of HT_.out (by kernel_rfl)) (fun _ _ _ h => h) (Or.inl ⟨by rfl, ?_⟩) ?_ ?_
                    rotate_left
                    ·intro w'
                     go_simp
                     with_reducible rfl
                    rotate_left
                    ·simp only [Act.put, List.setIfInBounds_toArray, List.set_cons_zero, List.set_cons_succ, i64_w, i32_w]
                     rfl
                    refine pure_ (i := 6) (N := some 110) (v := ?_) (a' := ?_) #[true, true, false, true, false, false, true, false, false, false, false, false, false, false] rfl rfl (any_of HT_.out (by kernel_rfl)) (fun _ _ _ h => h) (Or.inl ⟨by rfl, ?_⟩) ?_ ?_
                    rotate_left
                    ·intro w'
                     go_simp
                     with_reducible rfl
                    rotate_left
                    ·simp only [Act.put, List.setIfInBounds_toArray, List.set_cons_zero, List.set_cons_succ, i64_w, i32_w]
                     rfl
                    refine pure_ (i := 7) (N := some 111) (v := ?_) (a' := ?_) #[true, true, false, true, false, false, true, true, false, false, false, false, false, false] rfl rfl (any_of HT_.out (by kernel_rfl)) (fun _ _ _ h => h) (Or.inl ⟨by rfl, ?_⟩) ?_ ?_
                    rotate_left
                    ·intro w'
                     go_simp
                     with_reducible rfl
                    rotate_left
                    ·simp only [Act.put, List.setIfInBounds_toArray, List.set_cons_zero, List.set_cons_succ, i64_w, i32_w]
                     rfl
                    refine pure_ (i := 8) (N := some 112) (v := ?_) (a' := ?_) #[true, true, false, true, false, false, true, true, true, false, false, false, false, false] rfl rfl (any_of HT_.out (by kernel_rfl)) (fun _ _ _ h => h) (Or.inl ⟨by rfl, ?_⟩) ?_ ?_
                    rotate_left
                    ·intro w'
                     go_simp
                     with_reducible rfl
                    rotate_left
                    ·simp only [Act.put, List.setIfInBounds_toArray, List.set_cons_zero, List.set_cons_succ, i64_w, i32_w]
                     rfl
                    refine take_ (i := 2) (N := some 106) (v := ?_) (a' := ?_) #[true, true, true, true, false, false, true, true, true, false, false, false, false, false] rfl rfl (take_ofW HT_.out HW_.out (by kernel_rfl)) (fun _ _ _ h => h) (Or.inl ⟨by rfl, ?_⟩) hHeld ?_ ?_
                    rotate_left
                    ·rintro w' ⟨s0, s1, s2, s3, s4, s5, s6, s7, s8, s9⟩
                     go_simp
                     with_reducible rfl
                    rotate_left
                    ·simp only [Act.put, List.setIfInBounds_toArray, List.set_cons_zero, List.set_cons_succ, i64_w, i32_w]
                     rfl
                    refine pure_ (i := 4) (N := some 108) (v := ?_) (a' := ?_) #[true, true, true, true, true, false, true, true, true, false, false, false, false, false] rfl rfl (any_of HT_.out (by kernel_rfl)) (fun _ _ _ h => h) (Or.inl ⟨by rfl, ?_⟩) ?_ ?_
                    rotate_left
                    ·intro w'
                     go_simp
                     with_reducible rfl
                    rotate_left
                    ·simp only [Act.put, List.setIfInBounds_toArray, List.set_cons_zero, List.set_cons_succ, i64_w, i32_w]
                     rfl
                    refine take_ (i := 5) (N := some 109) (v := ?_) (a' := ?_) #[true, true, true, true, true, true, true, true, true, false, false, false, false, false] rfl rfl (take_ofW HT_.out HW_.out (by kernel_rfl)) (fun _ _ _ h => h) (Or.inl ⟨by rfl, ?_⟩) hHeld ?_ ?_
                    rotate_left
                    ·rintro w' ⟨s0, s1, s2, s3, s4, s5, s6, s7, s8, s9⟩
                     go_simp
                     with_reducible rfl
                    rotate_left
                    ·simp only [Act.put, List.setIfInBounds_toArray, List.set_cons_zero, List.set_cons_succ, i64_w, i32_w]
                     rfl
                    refine take_ (i := 9) (N := some 113) (v := ?_) (a' := ?_) #[true, true, true, true, true, true, true, true, true, true, false, false, false, false] rfl rfl (take_ofW HT_.out HW_.out (by kernel_rfl)) (fun _ _ _ h => h) (Or.inl ⟨by rfl, ?_⟩) hHeld ?_ ?_
                    rotate_left
                    ·rintro w' ⟨s0, s1, s2, s3, s4, s5, s6, s7, s8, s9⟩
                     go_simp
                     with_reducible rfl
                    rotate_left
                    ·simp only [Act.put, List.setIfInBounds_toArray, List.set_cons_zero, List.set_cons_succ, i64_w, i32_w]
                     rfl
                    refine pure_ (i := 10) (N := some 114) (v := ?_) (a' := ?_) #[true, true, true, true, true, true, true, true, true, true, true, false, false, false] rfl rfl (any_of HT_.out (by kernel_rfl)) (fun _ _ _ h => h) (Or.inl ⟨by rfl, ?_⟩) ?_ ?_
                    rotate_left
                    ·intro w'
                     go_simp
                     with_reducible rfl
                    rotate_left
                    ·simp only [Act.put, List.setIfInBounds_toArray, List.set_cons_zero, List.set_cons_succ, i64_w, i32_w]
                     rfl
                    refine one_ (i := 11) (N := some 115) #[true, true, true, true, true, true, true, true, true, true, true, true, false, false] rfl rfl (one_of HT_.out (by kernel_rfl)) (by decide) (fun K hK => ?_)
                    refine value_ (w1 := ?_) (v := ?_) (by rfl) rfl ?_ ?_
                    rotate_left 2
                    ·go_simp
                     constructor
                     ·rfl
                     ·rfl
                    refine hK.out _ _ ⟨(blk_cell (blk_alloc BK413.out _) 0).trans rfl, (blk_cell (blk_alloc BK413.out _) 1).trans rfl, (blk_cell (blk_alloc BK413.out _) 2).trans rfl, (blk_cell (blk_alloc BK413.out _) 3).trans rfl, (blk_cell (blk_alloc BK413.out _) 4).trans rfl, (blk_cell (blk_alloc BK413.out _) 5).trans rfl, (World.cell?_alloc_lt _ _ _ (World.block_lt_of_cell? _ _ (((HB.out.cell (World.block_lt_of_cell? w _ hw441_0)).trans hw441_0)))).trans (((HB.out.cell (World.block_lt_of_cell? w _ hw441_0)).trans hw441_0)), (World.cell?_alloc_lt _ _ _ (World.block_lt_of_cell? _ _ (((HB.out.cell (World.block_lt_of_cell? w _ hw442_0)).trans hw442_0)))).trans (((HB.out.cell (World.block_lt_of_cell? w _ hw442_0)).trans hw442_0)), (World.cell?_alloc_lt _ _ _ (World.block_lt_of_cell? _ _ (((HB.out.cell (World.block_lt_of_cell? w _ hw442_1)).trans hw442_1)))).trans (((HB.out.cell (World.block_lt_of_cell? w _ hw442_1)).trans hw442_1)), (World.cell?_alloc_lt _ _ _ (World.block_lt_of_cell? _ _ (((HB.out.cell (World.block_lt_of_cell? w _ hw442_2)).trans hw442_2)))).trans (((HB.out.cell (World.block_lt_of_cell? w _ hw442_2)).trans hw442_2))⟩ (fun hHeld => ?_)
                    clear hK K
                    refine norm_ (a' := ?_) ?_ ?_
                    rotate_left
                    ·show Act.put _ (some 115) _ = _
                     simp only [Act.put, List.setIfInBounds_toArray, List.set_cons_zero, List.set_cons_succ, i64_w, i32_w]
                     rfl
                    refine one_ (i := 12) (N := some 116) #[true, true, true, true, true, true, true, true, true, true, true, true, true, false] rfl rfl (one_of HT_.out (by kernel_rfl)) (by decide) (fun K hK => ?_)
                    refine Kd.R_append_step k58 (w0 := w) w.heap.size (by rfl) (.tmp 104) (.tmp 115) 32 58 (.agg #[(.int .i64 0), (.int .i64 0), (.int .i64 0), (.int .i64 0), (.string ⟨#[]⟩)]) 48 rfl Try.underlying32 info58 rfl (by decide) (by omega) u7 x7_2 (⟨rd l0_3 x9_2, 5, (⟨(rd_T25 l1 x9_2).f0, (rd_T25 l1 x9_2).f1, (rd_T25 l1 x9_2).f2⟩ : S25)⟩ : S58) [.int .i64 (rd l0_3 x9_2), .int .i64 5, .int .i64 ((rd_T25 l1 x9_2).f0), .int .i64 ((rd_T25 l1 x9_2).f1), .string ((rd_T25 l1 x9_2).f2)] (fun _ => True) (fun _ => False) rfl rfl ?aP (fun _ hk => hk.elim) ?aF ?aO ?aB ?aS ?aL ?_
                    (case aP => exact k58_mkM _ _ _ (⟨rd l0_3 x9_2, 5, (⟨(rd_T25 l1 x9_2).f0, (rd_T25 l1 x9_2).f1, (rd_T25 l1 x9_2).f2⟩ : S25)⟩ : S58))
                    (case aB => exact (by repeat (first | (with_reducible first | exact HB.out | apply below_alloc | apply pw_below_drewN | apply below_drew1 | refine below_set ?_ GE413.out) | exact HB.out)))
                    (case aF => exact (fun _ _ => trivial))
                    (case aO => exact (by (with_reducible repeat (first | apply Kd.R_alloc | apply Kd.R_drewN | apply Kd.R_drew)); exact HO_7.out))
                    (case aS => exact (below_size (by repeat (first | (with_reducible first | exact HB.out | apply below_alloc | apply pw_below_drewN | apply below_drew1 | refine below_set ?_ GE413.out) | exact HB.out))))
                    (case aL => have := LMc38.out; omega)
                    intro v444 w43 ho hb hg hat
                    rw [← Ny443.out] at ho
                    have n0_ := Aside0.mk (blk_grown (g := gb413) (o := .cells #[.int .i64 a0_0, .string a0_1, .string a0_2, .slice (some ad441) l0_3.length c0_3, .slice A0_4 l0_4.length c0_4, .bool a0_5] 41 (0, 0)) (bk_ BK413) hg (Kd.R_ne HO_7.out BK413.out (by decide)))
                    have n1_ := Aside0.mk (hb)
                    have n2_ := Aside0.mk (ho)
                    clear BK413
                    clear HB
                    clear HO_7
                    have BK413 := n0_
                    have HB := n1_
                    have HO445 := n2_
                    clear n0_ n1_ n2_
                    clear ho hb hg hat
                    refine hK.out _ _ ⟨(blk_cell BK413.out 0).trans rfl, (blk_cell BK413.out 1).trans rfl, (blk_cell BK413.out 2).trans rfl, (blk_cell BK413.out 3).trans rfl, (blk_cell BK413.out 4).trans rfl, (blk_cell BK413.out 5).trans rfl, ((HB.out.cell (World.block_lt_of_cell? w _ hw441_0)).trans hw441_0), ((HB.out.cell (World.block_lt_of_cell? w _ hw442_0)).trans hw442_0), ((HB.out.cell (World.block_lt_of_cell? w _ hw442_1)).trans hw442_1), ((HB.out.cell (World.block_lt_of_cell? w _ hw442_2)).trans hw442_2)⟩ (fun hHeld => ?_)
                    clear hK K
                    refine norm_ (a' := ?_) ?_ ?_
                    rotate_left
                    ·show Act.put _ (some 116) _ = _
                     simp only [Act.put, List.setIfInBounds_toArray, List.set_cons_zero, List.set_cons_succ, i64_w, i32_w]
                     rfl
                    refine pure_ (i := 13) (N := some 7) (v := ?_) (a' := ?_) #[true, true, true, true, true, true, true, true, true, true, true, true, true, true] rfl rfl (any_of HT_.out (by kernel_rfl)) (fun _ _ _ h => h) (Or.inl ⟨by rfl, ?_⟩) ?_ ?_
                    rotate_left
                    ·intro w'
                     go_simp
                     with_reducible rfl
                    rotate_left
                    ·simp only [Act.put, List.setIfInBounds_toArray, List.set_cons_zero, List.set_cons_succ, i64_w, i32_w]
                     rfl
                    refine done_ (done_of HT_.out (by kernel_rfl)) ?_
                    try go_wp2
                    go_roundg k3
                    case measure => have := HJ5.out; have := HK2.out; have := HK3.out; omega
                    case rel => exact ⟨(y443), ((((rd_T25 l1 x9_2).f0) == ((rd_T25 l2 x9_2).f0) && (((rd_T25 l1 x9_2).f1) == ((rd_T25 l2 x9_2).f1) && ((((rd_T25 l1 x9_2).f2).toList) == (((rd_T25 l2 x9_2).f2).toList))))), (wrap64 (x9_2 + 1)), (by first | rfl | (simp; done) | (simp [*]; done)), (by first | rfl | (simp; done) | (simp [*]; done)), H', ⟨by have := HJ5.out; have := HK2.out; have := HK3.out; omega⟩, ⟨by (with_reducible repeat (first | apply Kd.R_alloc | apply Kd.R_drewN | apply Kd.R_drew)); exact HO445.out⟩, ⟨by (with_reducible repeat (first | refine blk_drewN ?_ _ | refine blk_drew ?_ | refine blk_alloc ?_ _)); exact BK413.out⟩, ⟨by repeat (first | (with_reducible first | exact HB.out | apply below_alloc | apply pw_below_drewN | apply below_drew1 | refine below_set ?_ GE413.out) | exact HB.out)⟩⟩
                   ·rw [if_neg c38] at H
                    cases H
                  ·rw [if_neg c37] at H
                   cases H
                 ·replace c36 := Bool.eq_false_iff.mpr c36
                  subst c36
                  have H1 : (if x9_2 < (l0_3.length : Int) then (if x7_2.length < 2932031007402 then (quarrylaw19_BoundsPoint.l0 k3 l1 l2 (x7_2 ++ [(⟨rd l0_3 x9_2, 5, (⟨(rd_T25 l1 x9_2).f0, (rd_T25 l1 x9_2).f1, (rd_T25 l1 x9_2).f2⟩ : S25)⟩ : S58)]) false (wrap64 (x9_2 + 1)) a0_0 a0_1 a0_2 l0_3 l0_4 a0_5) else (none)) else (none)) = some r := by rw [if_neg (show ¬ (false = true) by decide)] at H; exact H
                  clear H
                  have H := H1
                  clear H1
                  by_cases c44 : x9_2 < (l0_3.length : Int)
                  ·rw [if_pos c44] at H
                   have c44b0 : decide (x9_2 < (l0_3.length : Int)) = true := decide_eq_true c44
                   clear c44
                   by_cases c45 : x7_2.length < 2932031007402
                   ·rw [if_pos c45] at H
                    have LMc45 := Aside0.mk c45
                    clear c45
                    obtain ⟨y448, hy448⟩ : ∃ y_ : List (S58), y_ = (x7_2 ++ [(⟨rd l0_3 x9_2, 5, (⟨(rd_T25 l1 x9_2).f0, (rd_T25 l1 x9_2).f1, (rd_T25 l1 x9_2).f2⟩ : S25)⟩ : S58)]) := ⟨_, rfl⟩
                    replace H : (quarrylaw19_BoundsPoint.l0 k3 l1 l2 y448 false (wrap64 (x9_2 + 1)) a0_0 a0_1 a0_2 l0_3 l0_4 a0_5) = some r := by first | (rw [hy448]; with_reducible exact H) | (have H2_ := (Option.bind_some _ _).symm.trans H; rw [hy448]; with_reducible exact H2_) | (have H2_ := (Option.bind_some _ _).symm.trans H; with_reducible exact H2_) | with_reducible exact H | (rw [hy448]; exact H) | exact H
                    have Ny448 := Aside0.mk hy448
                    clear hy448
                    have H' := Aside0.mk H
                    clear H
                    have p434 : 0 ≤ (x9_2 : Int) := of_decide_eq_true (by first | (with_reducible assumption) | assumption)
                    have q434 : x9_2 < (l1.length : Int) := of_decide_eq_true (by first | (with_reducible assumption) | assumption)
                    obtain ⟨ad434, e434, hx434_0, hx434_1, hx434_2⟩ := at_T25 HR1.out x9_2 p434 q434
                    cases e434
                    replace hx434_0 := (HB.out.cell (World.block_lt_of_cell? w _ hx434_0)).trans hx434_0
                    replace hx434_1 := (HB.out.cell (World.block_lt_of_cell? w _ hx434_1)).trans hx434_1
                    replace hx434_2 := (HB.out.cell (World.block_lt_of_cell? w _ hx434_2)).trans hx434_2
                    replace p434 := eq_true p434
                    replace q434 := eq_true q434
                    try go_wp2_with (first | ((with_reducible refine gate_callee (f := 21) rfl ?_); refine goesL_ (some 74) rfl rfl Try.func21 (by kernel_rfl) rfl #[.agg #[.int .i64 ((rd_T25 l1 x9_2).f0), .int .i64 ((rd_T25 l1 x9_2).f1), .string ((rd_T25 l1 x9_2).f2)]] rfl (by (try simp only [List.map_toArray, List.map_cons, List.map_nil]); first | done | rfl | (simp only [List.length_drop, List.length_take]; rfl)) ?_; (with_reducible refine (quarryref01_Check.calls ((rd_T25 l1 x9_2).f0) ((rd_T25 l1 x9_2).f1) ((rd_T25 l1 x9_2).f2) t435 _ A29.out).mono ?_); rintro e w46 ⟨rfl, hb⟩; refine ⟨_, rfl, ?_⟩; have n0_ := Aside0.mk (Kd.R_below (by (with_reducible repeat (first | apply Kd.R_alloc | apply Kd.R_drewN | apply Kd.R_drew)); exact HO_7.out) hb); have n1_ := Aside0.mk (blk_below (g := gb413) (o := .cells #[.int .i64 a0_0, .string a0_1, .string a0_2, .slice A0_3 l0_3.length c0_3, .slice A0_4 l0_4.length c0_4, .bool a0_5] 41 (0, 0)) (bk_ BK413) hb); have n2_ := Aside0.mk (below_step (by repeat (first | (with_reducible first | exact HB.out | apply below_alloc | apply pw_below_drewN | apply below_drew1 | refine below_set ?_ GE413.out) | exact HB.out)) hb); clear HO_7; clear BK413; clear HB; have HO_7 := n0_; have BK413 := n1_; have HB := n2_; clear n0_ n1_ n2_; (try clear hb); (try clear hb2); (try clear hk); (try clear hi); have p436 : 0 ≤ (x9_2 : Int) := of_decide_eq_true (by first | (with_reducible assumption) | assumption); have q436 : x9_2 < (l1.length : Int) := of_decide_eq_true (by first | (with_reducible assumption) | assumption); obtain ⟨ad436, e436, hx436_0, hx436_1, hx436_2⟩ := at_T25 HR1.out x9_2 p436 q436; obtain rfl : ad434 = ad436 := (by injection e436); replace hx436_0 := (HB.out.cell (World.block_lt_of_cell? w _ hx436_0)).trans hx436_0; replace hx436_1 := (HB.out.cell (World.block_lt_of_cell? w _ hx436_1)).trans hx436_1; replace hx436_2 := (HB.out.cell (World.block_lt_of_cell? w _ hx436_2)).trans hx436_2; replace p436 := eq_true p436; replace q436 := eq_true q436; have p437 : 0 ≤ (x9_2 : Int) := of_decide_eq_true (by first | (with_reducible assumption) | assumption); have q437 : x9_2 < (l2.length : Int) := of_decide_eq_true (by first | (with_reducible assumption) | assumption); obtain ⟨ad437, e437, hx437_0, hx437_1, hx437_2⟩ := at_T25 HR2.out x9_2 p437 q437; cases e437; replace hx437_0 := (HB.out.cell (World.block_lt_of_cell? w _ hx437_0)).trans hx437_0; replace hx437_1 := (HB.out.cell (World.block_lt_of_cell? w _ hx437_1)).trans hx437_1; replace hx437_2 := (HB.out.cell (World.block_lt_of_cell? w _ hx437_2)).trans hx437_2; replace p437 := eq_true p437; replace q437 := eq_true q437) | (go_at_call 21; (with_reducible refine (quarryref01_Check.calls ((rd_T25 l2 x9_2).f0) ((rd_T25 l2 x9_2).f1) ((rd_T25 l2 x9_2).f2) t438 _ A34.out).mono ?_); rintro e w47 ⟨rfl, hb⟩; have n0_ := Aside0.mk (Kd.R_below (by (with_reducible repeat (first | apply Kd.R_alloc | apply Kd.R_drewN | apply Kd.R_drew)); exact HO_7.out) hb); have n1_ := Aside0.mk (blk_below (g := gb413) (o := .cells #[.int .i64 a0_0, .string a0_1, .string a0_2, .slice A0_3 l0_3.length c0_3, .slice A0_4 l0_4.length c0_4, .bool a0_5] 41 (0, 0)) (bk_ BK413) hb); have n2_ := Aside0.mk (below_step (by repeat (first | (with_reducible first | exact HB.out | apply below_alloc | apply pw_below_drewN | apply below_drew1 | refine below_set ?_ GE413.out) | exact HB.out)) hb); clear HO_7; clear BK413; clear HB; have HO_7 := n0_; have BK413 := n1_; have HB := n2_; clear n0_ n1_ n2_; (try clear hb); (try clear hb2); (try clear hk); (try clear hi)))
                    have n0_ := Aside0.mk (Kd.R_drew HO_7.out)
                    have n1_ := Aside0.mk (blk_drew BK413.out)
                    have n2_ := Aside0.mk (below_drew1 HB.out)
                    clear HO_7
                    clear BK413
                    clear HB
                    have HO_7 := n0_
                    have BK413 := n1_
                    have HB := n2_
                    clear n0_ n1_ n2_
                    refine start_ (n := 13) (S := fun w' => True) (ds := []) #[false, false, false, false, false, false, false, false, false, false, false, false, false] (by kernel_rfl) rfl rfl trivial (fun hHeld => ?_); refine with_tabW quarrylaw19_BoundsPoint.tab17 quarrylaw19_BoundsPoint.bits17 (fun HT_ HW_ => ?_)
                    generalize w47.drew = w48 at HO_7 BK413 HB hHeld ⊢
                    refine pure_ (i := 0) (N := some 92) (v := ?_) (a' := ?_) #[true, false, false, false, false, false, false, false, false, false, false, false, false] rfl rfl (any_of HT_.out (by kernel_rfl)) (fun _ _ _ h => h) (Or.inl ⟨by rfl, ?_⟩) ?_ ?_
                    rotate_left
                    ·intro w'
                     go_simp
                     with_reducible rfl
                    rotate_left
                    ·simp only [Act.put, List.setIfInBounds_toArray, List.set_cons_zero, List.set_cons_succ, i64_w, i32_w]
                     rfl
                    refine pure_ (i := 1) (N := some 93) (v := ?_) (a' := ?_) #[true, true, false, false, false, false, false, false, false, false, false, false, false] rfl rfl (any_of HT_.out (by kernel_rfl)) (fun _ _ _ h => h) (Or.inl ⟨by rfl, ?_⟩) ?_ ?_
                    rotate_left
                    ·intro w'
                     go_simp
                     with_reducible rfl
                    rotate_left
                    ·simp only [Act.put, List.setIfInBounds_toArray, List.set_cons_zero, List.set_cons_succ, i64_w, i32_w]
                     rfl
                    refine pure_ (i := 2) (N := some 94) (v := undef) (a' := ?_) #[true, true, true, false, false, false, false, false, false, false, false, false, false] rfl rfl (any_of HT_.out (by kernel_rfl)) (fun _ _ _ h => h) (Or.inr ⟨by rfl, rfl⟩) ?_ ?_
                    rotate_left
                    ·simp only [Act.put, List.setIfInBounds_toArray, List.set_cons_zero, List.set_cons_succ, i64_w, i32_w]
                     rfl
                    refine pure_ (i := 3) (N := some 95) (v := undef) (a' := ?_) #[true, true, true, true, false, false, false, false, false, false, false, false, false] rfl rfl (any_of HT_.out (by kernel_rfl)) (fun _ _ _ h => h) (Or.inr ⟨by rfl, rfl⟩) ?_ ?_
                    rotate_left
                    ·simp only [Act.put, List.setIfInBounds_toArray, List.set_cons_zero, List.set_cons_succ, i64_w, i32_w]
                     rfl
                    refine pure_ (i := 4) (N := some 96) (v := undef) (a' := ?_) #[true, true, true, true, true, false, false, false, false, false, false, false, false] rfl rfl (any_of HT_.out (by kernel_rfl)) (fun _ _ _ h => h) (Or.inr ⟨by rfl, rfl⟩) ?_ ?_
                    rotate_left
                    ·simp only [Act.put, List.setIfInBounds_toArray, List.set_cons_zero, List.set_cons_succ, i64_w, i32_w]
                     rfl
                    refine pure_ (i := 5) (N := some 97) (v := undef) (a' := ?_) #[true, true, true, true, true, true, false, false, false, false, false, false, false] rfl rfl (any_of HT_.out (by kernel_rfl)) (fun _ _ _ h => h) (Or.inr ⟨by rfl, rfl⟩) ?_ ?_
                    rotate_left
                    ·simp only [Act.put, List.setIfInBounds_toArray, List.set_cons_zero, List.set_cons_succ, i64_w, i32_w]
                     rfl
                    refine pure_ (i := 6) (N := some 98) (v := undef) (a' := ?_) #[true, true, true, true, true, true, true, false, false, false, false, false, false] rfl rfl (any_of HT_.out (by kernel_rfl)) (fun _ _ _ h => h) (Or.inr ⟨by rfl, rfl⟩) ?_ ?_
                    rotate_left
                    ·simp only [Act.put, List.setIfInBounds_toArray, List.set_cons_zero, List.set_cons_succ, i64_w, i32_w]
                     rfl
                    refine pure_ (i := 7) (N := some 99) (v := undef) (a' := ?_) #[true, true, true, true, true, true, true, true, false, false, false, false, false] rfl rfl (any_of HT_.out (by kernel_rfl)) (fun _ _ _ h => h) (Or.inr ⟨by rfl, rfl⟩) ?_ ?_
                    rotate_left
                    ·simp only [Act.put, List.setIfInBounds_toArray, List.set_cons_zero, List.set_cons_succ, i64_w, i32_w]
                     rfl
                    refine pure_ (i := 8) (N := some 100) (v := undef) (a' := ?_) #[true, true, true, true, true, true, true, true, true, false, false, false, false] rfl rfl (any_of HT_.out (by kernel_rfl)) (fun _ _ _ h => h) (Or.inr ⟨by rfl, rfl⟩) ?_ ?_
                    rotate_left
                    ·simp only [Act.put, List.setIfInBounds_toArray, List.set_cons_zero, List.set_cons_succ, i64_w, i32_w]
                     rfl
                    refine pure_ (i := 9) (N := some 101) (v := undef) (a' := ?_) #[true, true, true, true, true, true, true, true, true, true, false, false, false] rfl rfl (any_of HT_.out (by kernel_rfl)) (fun _ _ _ h => h) (Or.inr ⟨by rfl, rfl⟩) ?_ ?_
                    rotate_left
                    ·simp only [Act.put, List.setIfInBounds_toArray, List.set_cons_zero, List.set_cons_succ, i64_w, i32_w]
                     rfl
                    refine pure_ (i := 10) (N := some 102) (v := undef) (a' := ?_) #[true, true, true, true, true, true, true, true, true, true, true, false, false] rfl rfl (any_of HT_.out (by kernel_rfl)) (fun _ _ _ h => h) (Or.inr ⟨by rfl, rfl⟩) ?_ ?_
                    rotate_left
                    ·simp only [Act.put, List.setIfInBounds_toArray, List.set_cons_zero, List.set_cons_succ, i64_w, i32_w]
                     rfl
                    refine pure_ (i := 11) (N := some 103) (v := ?_) (a' := ?_) #[true, true, true, true, true, true, true, true, true, true, true, true, false] rfl rfl (any_of HT_.out (by kernel_rfl)) (fun _ _ _ h => h) (Or.inl ⟨by rfl, ?_⟩) ?_ ?_
                    rotate_left
                    ·intro w'
                     go_simp
                     with_reducible rfl
                    rotate_left
                    ·simp only [Act.put, List.setIfInBounds_toArray, List.set_cons_zero, List.set_cons_succ, i64_w, i32_w]
                     rfl
                    refine pure_ (i := 12) (N := some 8) (v := ?_) (a' := ?_) #[true, true, true, true, true, true, true, true, true, true, true, true, true] rfl rfl (any_of HT_.out (by kernel_rfl)) (fun _ _ _ h => h) (Or.inl ⟨by rfl, ?_⟩) ?_ ?_
                    rotate_left
                    ·intro w'
                     go_simp
                     with_reducible rfl
                    rotate_left
                    ·simp only [Act.put, List.setIfInBounds_toArray, List.set_cons_zero, List.set_cons_succ, i64_w, i32_w]
                     rfl
                    refine done_ (done_of HT_.out (by kernel_rfl)) ?_
                    try go_wp2
                    have n0_ := Aside0.mk (Kd.R_drew HO_7.out)
                    have n1_ := Aside0.mk (blk_drew BK413.out)
                    have n2_ := Aside0.mk (below_drew1 HB.out)
                    clear HO_7
                    clear BK413
                    clear HB
                    have HO_7 := n0_
                    have BK413 := n1_
                    have HB := n2_
                    clear n0_ n1_ n2_
                    have p446 : 0 ≤ (x9_2 : Int) := of_decide_eq_true (by first | (with_reducible assumption) | assumption)
                    have q446 : x9_2 < (l0_3.length : Int) := of_decide_eq_true (by first | (with_reducible assumption) | assumption)
                    obtain ⟨ad446, e446, hx446_0⟩ := Kd.at_int HR0_3.out x9_2 p446 q446
                    have hw446_0 := hx446_0
                    cases e446
                    replace hx446_0 := (HB.out.cell (World.block_lt_of_cell? w _ hx446_0)).trans hx446_0
                    replace p446 := eq_true p446
                    replace q446 := eq_true q446
                    have p447 : 0 ≤ (x9_2 : Int) := of_decide_eq_true (by first | (with_reducible assumption) | assumption)
                    have q447 : x9_2 < (l1.length : Int) := of_decide_eq_true (by first | (with_reducible assumption) | assumption)
                    obtain ⟨ad447, e447, hx447_0, hx447_1, hx447_2⟩ := at_T25 HR1.out x9_2 p447 q447
                    have hw447_2 := hx447_2
                    have hw447_1 := hx447_1
                    have hw447_0 := hx447_0
                    obtain rfl : ad434 = ad447 := (by injection e447)
                    replace hx447_0 := (HB.out.cell (World.block_lt_of_cell? w _ hx447_0)).trans hx447_0
                    replace hx447_1 := (HB.out.cell (World.block_lt_of_cell? w _ hx447_1)).trans hx447_1
                    replace hx447_2 := (HB.out.cell (World.block_lt_of_cell? w _ hx447_2)).trans hx447_2
                    replace p447 := eq_true p447
                    replace q447 := eq_true q447
                    refine start_ (n := 14) (S := fun w' => w'.cell? ⟨gb413, 0, none⟩ = some (.int .i64 a0_0) ∧ w'.cell? ⟨gb413, 1, none⟩ = some (.string a0_1) ∧ w'.cell? ⟨gb413, 2, none⟩ = some (.string a0_2) ∧ w'.cell? ⟨gb413, 3, none⟩ = some (.slice (some ad446) l0_3.length c0_3) ∧ w'.cell? ⟨gb413, 4, none⟩ = some (.slice A0_4 l0_4.length c0_4) ∧ w'.cell? ⟨gb413, 5, none⟩ = some (.bool a0_5) ∧ w'.cell? (ad446.add (x9_2).toNat) = some (.int .i64 (rd l0_3 x9_2)) ∧ w'.cell? (ad434.add ((x9_2).toNat * 3)) = some (.int .i64 ((rd_T25 l1 x9_2).f0)) ∧ w'.cell? ⟨(ad434.add ((x9_2).toNat * 3)).block, (ad434.add ((x9_2).toNat * 3)).off + 1, none⟩ = some (.int .i64 ((rd_T25 l1 x9_2).f1)) ∧ w'.cell? ⟨(ad434.add ((x9_2).toNat * 3)).block, (ad434.add ((x9_2).toNat * 3)).off + 2, none⟩ = some (.string ((rd_T25 l1 x9_2).f2))) (ds := []) #[false, false, false, false, false, false, false, false, false, false, false, false, false, false] (by kernel_rfl) rfl rfl ⟨(blk_cell BK413.out 0).trans rfl, (blk_cell BK413.out 1).trans rfl, (blk_cell BK413.out 2).trans rfl, (blk_cell BK413.out 3).trans rfl, (blk_cell BK413.out 4).trans rfl, (blk_cell BK413.out 5).trans rfl, ((HB.out.cell (World.block_lt_of_cell? w _ hw446_0)).trans hw446_0), ((HB.out.cell (World.block_lt_of_cell? w _ hw447_0)).trans hw447_0), ((HB.out.cell (World.block_lt_of_cell? w _ hw447_1)).trans hw447_1), ((HB.out.cell (World.block_lt_of_cell? w _ hw447_2)).trans hw447_2)⟩ (fun hHeld => ?_); refine with_tabW quarrylaw19_BoundsPoint.tab18 quarrylaw19_BoundsPoint.bits18 (fun HT_ HW_ => ?_)
                    generalize w48.drew = w49 at HO_7 BK413 HB hx446_0 hx447_0 hx447_1 hx447_2 hHeld ⊢
                    refine pure_ (i := 0) (N := some 104) (v := ?_) (a' := ?_) #[true, false, false, false, false, false, false, false, false, false, false, false, false, false] rfl rfl (any_of HT_.out (by kernel_rfl)) (fun _ _ _ h => h) (Or.inl ⟨by rfl, ?_⟩) ?_ ?_
                    rotate_left
                    ·intro w'
                     go_simp
                     with_reducible rfl
                    rotate_left
                    ·simp only [Act.put, List.setIfInBounds_toArray, List.set_cons_zero, List.set_cons_succ, i64_w, i32_w]
                     rfl
                    refine pure_ (i := 1) (N := some 105) (v := ?_) (a' := ?_) #[true, true, false, false, false, false, false, false, false, false, false, false, false, false] rfl rfl (any_of HT_.out (by kernel_rfl)) (fun _ _ _ h => h) (Or.inl ⟨by rfl, ?_⟩) ?_ ?_
                    rotate_left
                    ·intro w'
                     go_simp
                     with_reducible rfl
                    rotate_left
                    ·simp only [Act.put, List.setIfInBounds_toArray, List.set_cons_zero, List.set_cons_succ, i64_w, i32_w]
                     rfl
                    refine pure_ (i := 3) (N := some 107) (v := ?_) (a' := ?_) #[true, true, false, true, false, false, false, false, false, false, false, false, false, false] rfl rfl (any_of HT_.out (by kernel_rfl)) (fun _ _ _ h => h) (Or.inl ⟨by rfl, ?_⟩) ?_ ?_
                    rotate_left
                    ·intro w'
                     go_simp
                     with_reducible rfl
                    rotate_left
                    ·simp only [Act.put, List.setIfInBounds_toArray, List.set_cons_zero, List.set_cons_succ, i64_w, i32_w]
                     rfl
                    refine pure_ (i := 6) (N := some 110) (v := ?_) (a' := ?_) #[true, true, false, true, false, false, true, false, false, false, false, false, false, false] rfl rfl (any_of HT_.out (by kernel_rfl)) (fun _ _ _ h => h) (Or.inl ⟨by rfl, ?_⟩) ?_ ?_
                    rotate_left
                    ·intro w'
                     go_simp
                     with_reducible rfl
                    rotate_left
                    ·simp only [Act.put, List.setIfInBounds_toArray, List.set_cons_zero, List.set_cons_succ, i64_w, i32_w]
                     rfl
                    refine pure_ (i := 7) (N := some 111) (v := ?_) (a' := ?_) #[true, true, false, true, false, false, true, true, false, false, false, false, false, false] rfl rfl (any_of HT_.out (by kernel_rfl)) (fun _ _ _ h => h) (Or.inl ⟨by rfl, ?_⟩) ?_ ?_
                    rotate_left
                    ·intro w'
                     go_simp
                     with_reducible rfl
                    rotate_left
                    ·simp only [Act.put, List.setIfInBounds_toArray, List.set_cons_zero, List.set_cons_succ, i64_w, i32_w]
                     rfl
                    refine pure_ (i := 8) (N := some 112) (v := ?_) (a' := ?_) #[true, true, false, true, false, false, true, true, true, false, false, false, false, false] rfl rfl (any_of HT_.out (by kernel_rfl)) (fun _ _ _ h => h) (Or.inl ⟨by rfl, ?_⟩) ?_ ?_
                    rotate_left
                    ·intro w'
                     go_simp
                     with_reducible rfl
                    rotate_left
                    ·simp only [Act.put, List.setIfInBounds_toArray, List.set_cons_zero, List.set_cons_succ, i64_w, i32_w]
                     rfl
                    refine take_ (i := 2) (N := some 106) (v := ?_) (a' := ?_) #[true, true, true, true, false, false, true, true, true, false, false, false, false, false] rfl rfl (take_ofW HT_.out HW_.out (by kernel_rfl)) (fun _ _ _ h => h) (Or.inl ⟨by rfl, ?_⟩) hHeld ?_ ?_
                    rotate_left
                    ·rintro w' ⟨s0, s1, s2, s3, s4, s5, s6, s7, s8, s9⟩
                     go_simp
                     with_reducible rfl
                    rotate_left
                    ·simp only [Act.put, List.setIfInBounds_toArray, List.set_cons_zero, List.set_cons_succ, i64_w, i32_w]
                     rfl
                    refine pure_ (i := 4) (N := some 108) (v := ?_) (a' := ?_) #[true, true, true, true, true, false, true, true, true, false, false, false, false, false] rfl rfl (any_of HT_.out (by kernel_rfl)) (fun _ _ _ h => h) (Or.inl ⟨by rfl, ?_⟩) ?_ ?_
                    rotate_left
                    ·intro w'
                     go_simp
                     with_reducible rfl
                    rotate_left
                    ·simp only [Act.put, List.setIfInBounds_toArray, List.set_cons_zero, List.set_cons_succ, i64_w, i32_w]
                     rfl
                    refine take_ (i := 5) (N := some 109) (v := ?_) (a' := ?_) #[true, true, true, true, true, true, true, true, true, false, false, false, false, false] rfl rfl (take_ofW HT_.out HW_.out (by kernel_rfl)) (fun _ _ _ h => h) (Or.inl ⟨by rfl, ?_⟩) hHeld ?_ ?_
                    rotate_left
                    ·rintro w' ⟨s0, s1, s2, s3, s4, s5, s6, s7, s8, s9⟩
                     go_simp
                     with_reducible rfl
                    rotate_left
                    ·simp only [Act.put, List.setIfInBounds_toArray, List.set_cons_zero, List.set_cons_succ, i64_w, i32_w]
                     rfl
                    refine take_ (i := 9) (N := some 113) (v := ?_) (a' := ?_) #[true, true, true, true, true, true, true, true, true, true, false, false, false, false] rfl rfl (take_ofW HT_.out HW_.out (by kernel_rfl)) (fun _ _ _ h => h) (Or.inl ⟨by rfl, ?_⟩) hHeld ?_ ?_
                    rotate_left
                    ·rintro w' ⟨s0, s1, s2, s3, s4, s5, s6, s7, s8, s9⟩
                     go_simp
                     with_reducible rfl
                    rotate_left
                    ·simp only [Act.put, List.setIfInBounds_toArray, List.set_cons_zero, List.set_cons_succ, i64_w, i32_w]
                     rfl
                    refine pure_ (i := 10) (N := some 114) (v := ?_) (a' := ?_) #[true, true, true, true, true, true, true, true, true, true, true, false, false, false] rfl rfl (any_of HT_.out (by kernel_rfl)) (fun _ _ _ h => h) (Or.inl ⟨by rfl, ?_⟩) ?_ ?_
                    rotate_left
                    ·intro w'
                     go_simp
                     with_reducible rfl
                    rotate_left
                    ·simp only [Act.put, List.setIfInBounds_toArray, List.set_cons_zero, List.set_cons_succ, i64_w, i32_w]
                     rfl
                    refine one_ (i := 11) (N := some 115) #[true, true, true, true, true, true, true, true, true, true, true, true, false, false] rfl rfl (one_of HT_.out (by kernel_rfl)) (by decide) (fun K hK => ?_)
                    refine value_ (w1 := ?_) (v := ?_) (by rfl) rfl ?_ ?_
                    rotate_left 2
                    ·go_simp
                     constructor
                     ·rfl
                     ·rfl
                    refine hK.out _ _ ⟨(blk_cell (blk_alloc BK413.out _) 0).trans rfl, (blk_cell (blk_alloc BK413.out _) 1).trans rfl, (blk_cell (blk_alloc BK413.out _) 2).trans rfl, (blk_cell (blk_alloc BK413.out _) 3).trans rfl, (blk_cell (blk_alloc BK413.out _) 4).trans rfl, (blk_cell (blk_alloc BK413.out _) 5).trans rfl, (World.cell?_alloc_lt _ _ _ (World.block_lt_of_cell? _ _ (((HB.out.cell (World.block_lt_of_cell? w _ hw446_0)).trans hw446_0)))).trans (((HB.out.cell (World.block_lt_of_cell? w _ hw446_0)).trans hw446_0)), (World.cell?_alloc_lt _ _ _ (World.block_lt_of_cell? _ _ (((HB.out.cell (World.block_lt_of_cell? w _ hw447_0)).trans hw447_0)))).trans (((HB.out.cell (World.block_lt_of_cell? w _ hw447_0)).trans hw447_0)), (World.cell?_alloc_lt _ _ _ (World.block_lt_of_cell? _ _ (((HB.out.cell (World.block_lt_of_cell? w _ hw447_1)).trans hw447_1)))).trans (((HB.out.cell (World.block_lt_of_cell? w _ hw447_1)).trans hw447_1)), (World.cell?_alloc_lt _ _ _ (World.block_lt_of_cell? _ _ (((HB.out.cell (World.block_lt_of_cell? w _ hw447_2)).trans hw447_2)))).trans (((HB.out.cell (World.block_lt_of_cell? w _ hw447_2)).trans hw447_2))⟩ (fun hHeld => ?_)
                    clear hK K
                    refine norm_ (a' := ?_) ?_ ?_
                    rotate_left
                    ·show Act.put _ (some 115) _ = _
                     simp only [Act.put, List.setIfInBounds_toArray, List.set_cons_zero, List.set_cons_succ, i64_w, i32_w]
                     rfl
                    refine one_ (i := 12) (N := some 116) #[true, true, true, true, true, true, true, true, true, true, true, true, true, false] rfl rfl (one_of HT_.out (by kernel_rfl)) (by decide) (fun K hK => ?_)
                    refine Kd.R_append_step k58 (w0 := w) w.heap.size (by rfl) (.tmp 104) (.tmp 115) 32 58 (.agg #[(.int .i64 0), (.int .i64 0), (.int .i64 0), (.int .i64 0), (.string ⟨#[]⟩)]) 48 rfl Try.underlying32 info58 rfl (by decide) (by omega) u7 x7_2 (⟨rd l0_3 x9_2, 5, (⟨(rd_T25 l1 x9_2).f0, (rd_T25 l1 x9_2).f1, (rd_T25 l1 x9_2).f2⟩ : S25)⟩ : S58) [.int .i64 (rd l0_3 x9_2), .int .i64 5, .int .i64 ((rd_T25 l1 x9_2).f0), .int .i64 ((rd_T25 l1 x9_2).f1), .string ((rd_T25 l1 x9_2).f2)] (fun _ => True) (fun _ => False) rfl rfl ?aP (fun _ hk => hk.elim) ?aF ?aO ?aB ?aS ?aL ?_
                    (case aP => exact k58_mkM _ _ _ (⟨rd l0_3 x9_2, 5, (⟨(rd_T25 l1 x9_2).f0, (rd_T25 l1 x9_2).f1, (rd_T25 l1 x9_2).f2⟩ : S25)⟩ : S58))
                    (case aB => exact (by repeat (first | (with_reducible first | exact HB.out | apply below_alloc | apply pw_below_drewN | apply below_drew1 | refine below_set ?_ GE413.out) | exact HB.out)))
                    (case aF => exact (fun _ _ => trivial))
                    (case aO => exact (by (with_reducible repeat (first | apply Kd.R_alloc | apply Kd.R_drewN | apply Kd.R_drew)); exact HO_7.out))
                    (case aS => exact (below_size (by repeat (first | (with_reducible first | exact HB.out | apply below_alloc | apply pw_below_drewN | apply below_drew1 | refine below_set ?_ GE413.out) | exact HB.out))))
                    (case aL => have := LMc45.out; omega)
                    intro v449 w50 ho hb hg hat
                    rw [← Ny448.out] at ho
                    have n0_ := Aside0.mk (blk_grown (g := gb413) (o := .cells #[.int .i64 a0_0, .string a0_1, .string a0_2, .slice (some ad446) l0_3.length c0_3, .slice A0_4 l0_4.length c0_4, .bool a0_5] 41 (0, 0)) (bk_ BK413) hg (Kd.R_ne HO_7.out BK413.out (by decide)))
                    have n1_ := Aside0.mk (hb)
                    have n2_ := Aside0.mk (ho)
                    clear BK413
                    clear HB
                    clear HO_7
                    have BK413 := n0_
                    have HB := n1_
                    have HO450 := n2_
                    clear n0_ n1_ n2_
                    clear ho hb hg hat
                    refine hK.out _ _ ⟨(blk_cell BK413.out 0).trans rfl, (blk_cell BK413.out 1).trans rfl, (blk_cell BK413.out 2).trans rfl, (blk_cell BK413.out 3).trans rfl, (blk_cell BK413.out 4).trans rfl, (blk_cell BK413.out 5).trans rfl, ((HB.out.cell (World.block_lt_of_cell? w _ hw446_0)).trans hw446_0), ((HB.out.cell (World.block_lt_of_cell? w _ hw447_0)).trans hw447_0), ((HB.out.cell (World.block_lt_of_cell? w _ hw447_1)).trans hw447_1), ((HB.out.cell (World.block_lt_of_cell? w _ hw447_2)).trans hw447_2)⟩ (fun hHeld => ?_)
                    clear hK K
                    refine norm_ (a' := ?_) ?_ ?_
                    rotate_left
                    ·show Act.put _ (some 116) _ = _
                     simp only [Act.put, List.setIfInBounds_toArray, List.set_cons_zero, List.set_cons_succ, i64_w, i32_w]
                     rfl
                    refine pure_ (i := 13) (N := some 7) (v := ?_) (a' := ?_) #[true, true, true, true, true, true, true, true, true, true, true, true, true, true] rfl rfl (any_of HT_.out (by kernel_rfl)) (fun _ _ _ h => h) (Or.inl ⟨by rfl, ?_⟩) ?_ ?_
                    rotate_left
                    ·intro w'
                     go_simp
                     with_reducible rfl
                    rotate_left
                    ·simp only [Act.put, List.setIfInBounds_toArray, List.set_cons_zero, List.set_cons_succ, i64_w, i32_w]
                     rfl
                    refine done_ (done_of HT_.out (by kernel_rfl)) ?_
                    try go_wp2
                    go_roundg k3
                    case measure => have := HJ5.out; have := HK2.out; have := HK3.out; omega
                    case rel => exact ⟨(y448), (false), (wrap64 (x9_2 + 1)), (by first | rfl | (simp; done) | (simp [*]; done)), (by first | rfl | (simp; done) | (simp [*]; done)), H', ⟨by have := HJ5.out; have := HK2.out; have := HK3.out; omega⟩, ⟨by (with_reducible repeat (first | apply Kd.R_alloc | apply Kd.R_drewN | apply Kd.R_drew)); exact HO450.out⟩, ⟨by (with_reducible repeat (first | refine blk_drewN ?_ _ | refine blk_drew ?_ | refine blk_alloc ?_ _)); exact BK413.out⟩, ⟨by repeat (first | (with_reducible first | exact HB.out | apply below_alloc | apply pw_below_drewN | apply below_drew1 | refine below_set ?_ GE413.out) | exact HB.out)⟩⟩
                   ·rw [if_neg c45] at H
                    cases H
                  ·rw [if_neg c44] at H
                   cases H
                ·rw [if_neg c35] at H
                 have c35b0 : (t438 == 0) = false := beq_eq_false_iff_ne.mpr c35
                 have c35b1 : (t438 != 0) = true := bne_iff_ne.mpr c35
                 obtain rfl := Option.some.inj H
                 have p434 : 0 ≤ (x9_2 : Int) := of_decide_eq_true (by first | (with_reducible assumption) | assumption)
                 have q434 : x9_2 < (l1.length : Int) := of_decide_eq_true (by first | (with_reducible assumption) | assumption)
                 obtain ⟨ad434, e434, hx434_0, hx434_1, hx434_2⟩ := at_T25 HR1.out x9_2 p434 q434
                 cases e434
                 replace hx434_0 := (HB.out.cell (World.block_lt_of_cell? w _ hx434_0)).trans hx434_0
                 replace hx434_1 := (HB.out.cell (World.block_lt_of_cell? w _ hx434_1)).trans hx434_1
                 replace hx434_2 := (HB.out.cell (World.block_lt_of_cell? w _ hx434_2)).trans hx434_2
                 replace p434 := eq_true p434
                 replace q434 := eq_true q434
                 go_wp2_with (first | ((with_reducible refine gate_callee (f := 21) rfl ?_); refine goesL_ (some 74) rfl rfl Try.func21 (by kernel_rfl) rfl #[.agg #[.int .i64 ((rd_T25 l1 x9_2).f0), .int .i64 ((rd_T25 l1 x9_2).f1), .string ((rd_T25 l1 x9_2).f2)]] rfl (by (try simp only [List.map_toArray, List.map_cons, List.map_nil]); first | done | rfl | (simp only [List.length_drop, List.length_take]; rfl)) ?_; (with_reducible refine (quarryref01_Check.calls ((rd_T25 l1 x9_2).f0) ((rd_T25 l1 x9_2).f1) ((rd_T25 l1 x9_2).f2) t435 _ A29.out).mono ?_); rintro e w51 ⟨rfl, hb⟩; refine ⟨_, rfl, ?_⟩; have n0_ := Aside0.mk (Kd.R_below (by (with_reducible repeat (first | apply Kd.R_alloc | apply Kd.R_drewN | apply Kd.R_drew)); exact HO_7.out) hb); have n1_ := Aside0.mk (blk_below (g := gb413) (o := .cells #[.int .i64 a0_0, .string a0_1, .string a0_2, .slice A0_3 l0_3.length c0_3, .slice A0_4 l0_4.length c0_4, .bool a0_5] 41 (0, 0)) (bk_ BK413) hb); have n2_ := Aside0.mk (below_step (by repeat (first | (with_reducible first | exact HB.out | apply below_alloc | apply pw_below_drewN | apply below_drew1 | refine below_set ?_ GE413.out) | exact HB.out)) hb); clear HO_7; clear BK413; clear HB; have HO_7 := n0_; have BK413 := n1_; have HB := n2_; clear n0_ n1_ n2_; (try clear hb); (try clear hb2); (try clear hk); (try clear hi); have p436 : 0 ≤ (x9_2 : Int) := of_decide_eq_true (by first | (with_reducible assumption) | assumption); have q436 : x9_2 < (l1.length : Int) := of_decide_eq_true (by first | (with_reducible assumption) | assumption); obtain ⟨ad436, e436, hx436_0, hx436_1, hx436_2⟩ := at_T25 HR1.out x9_2 p436 q436; obtain rfl : ad434 = ad436 := (by injection e436); replace hx436_0 := (HB.out.cell (World.block_lt_of_cell? w _ hx436_0)).trans hx436_0; replace hx436_1 := (HB.out.cell (World.block_lt_of_cell? w _ hx436_1)).trans hx436_1; replace hx436_2 := (HB.out.cell (World.block_lt_of_cell? w _ hx436_2)).trans hx436_2; replace p436 := eq_true p436; replace q436 := eq_true q436; have p437 : 0 ≤ (x9_2 : Int) := of_decide_eq_true (by first | (with_reducible assumption) | assumption); have q437 : x9_2 < (l2.length : Int) := of_decide_eq_true (by first | (with_reducible assumption) | assumption); obtain ⟨ad437, e437, hx437_0, hx437_1, hx437_2⟩ := at_T25 HR2.out x9_2 p437 q437; cases e437; replace hx437_0 := (HB.out.cell (World.block_lt_of_cell? w _ hx437_0)).trans hx437_0; replace hx437_1 := (HB.out.cell (World.block_lt_of_cell? w _ hx437_1)).trans hx437_1; replace hx437_2 := (HB.out.cell (World.block_lt_of_cell? w _ hx437_2)).trans hx437_2; replace p437 := eq_true p437; replace q437 := eq_true q437) | (go_at_call 21; (with_reducible refine (quarryref01_Check.calls ((rd_T25 l2 x9_2).f0) ((rd_T25 l2 x9_2).f1) ((rd_T25 l2 x9_2).f2) t438 _ A34.out).mono ?_); rintro e w52 ⟨rfl, hb⟩; have n0_ := Aside0.mk (Kd.R_below (by (with_reducible repeat (first | apply Kd.R_alloc | apply Kd.R_drewN | apply Kd.R_drew)); exact HO_7.out) hb); have n1_ := Aside0.mk (blk_below (g := gb413) (o := .cells #[.int .i64 a0_0, .string a0_1, .string a0_2, .slice A0_3 l0_3.length c0_3, .slice A0_4 l0_4.length c0_4, .bool a0_5] 41 (0, 0)) (bk_ BK413) hb); have n2_ := Aside0.mk (below_step (by repeat (first | (with_reducible first | exact HB.out | apply below_alloc | apply pw_below_drewN | apply below_drew1 | refine below_set ?_ GE413.out) | exact HB.out)) hb); clear HO_7; clear BK413; clear HB; have HO_7 := n0_; have BK413 := n1_; have HB := n2_; clear n0_ n1_ n2_; (try clear hb); (try clear hb2); (try clear hk); (try clear hi)))
                 go_ret
                 exact ⟨by first | rfl | (simp [errW_none, errW_some] <;> rfl) | (simp [*, errW_none, errW_some] <;> rfl), by repeat (first | (with_reducible first | exact HB.out | apply below_alloc | apply pw_below_drewN | apply below_drew1 | refine below_set ?_ GE413.out) | exact HB.out)⟩
               ·rw [if_neg c33] at H
                cases H
             ·rw [if_neg c30] at H
              have c30b0 : (t435 == 0) = false := beq_eq_false_iff_ne.mpr c30
              have c30b1 : (t435 != 0) = true := bne_iff_ne.mpr c30
              obtain rfl := Option.some.inj H
              have p434 : 0 ≤ (x9_2 : Int) := of_decide_eq_true (by first | (with_reducible assumption) | assumption)
              have q434 : x9_2 < (l1.length : Int) := of_decide_eq_true (by first | (with_reducible assumption) | assumption)
              obtain ⟨ad434, e434, hx434_0, hx434_1, hx434_2⟩ := at_T25 HR1.out x9_2 p434 q434
              cases e434
              replace hx434_0 := (HB.out.cell (World.block_lt_of_cell? w _ hx434_0)).trans hx434_0
              replace hx434_1 := (HB.out.cell (World.block_lt_of_cell? w _ hx434_1)).trans hx434_1
              replace hx434_2 := (HB.out.cell (World.block_lt_of_cell? w _ hx434_2)).trans hx434_2
              replace p434 := eq_true p434
              replace q434 := eq_true q434
              go_wp2_with (first | ((with_reducible refine gate_callee (f := 21) rfl ?_); refine goesL_ (some 74) rfl rfl Try.func21 (by kernel_rfl) rfl #[.agg #[.int .i64 ((rd_T25 l1 x9_2).f0), .int .i64 ((rd_T25 l1 x9_2).f1), .string ((rd_T25 l1 x9_2).f2)]] rfl (by (try simp only [List.map_toArray, List.map_cons, List.map_nil]); first | done | rfl | (simp only [List.length_drop, List.length_take]; rfl)) ?_; (with_reducible refine (quarryref01_Check.calls ((rd_T25 l1 x9_2).f0) ((rd_T25 l1 x9_2).f1) ((rd_T25 l1 x9_2).f2) t435 _ A29.out).mono ?_); rintro e w53 ⟨rfl, hb⟩; refine ⟨_, rfl, ?_⟩; have n0_ := Aside0.mk (Kd.R_below (by (with_reducible repeat (first | apply Kd.R_alloc | apply Kd.R_drewN | apply Kd.R_drew)); exact HO_7.out) hb); have n1_ := Aside0.mk (blk_below (g := gb413) (o := .cells #[.int .i64 a0_0, .string a0_1, .string a0_2, .slice A0_3 l0_3.length c0_3, .slice A0_4 l0_4.length c0_4, .bool a0_5] 41 (0, 0)) (bk_ BK413) hb); have n2_ := Aside0.mk (below_step (by repeat (first | (with_reducible first | exact HB.out | apply below_alloc | apply pw_below_drewN | apply below_drew1 | refine below_set ?_ GE413.out) | exact HB.out)) hb); clear HO_7; clear BK413; clear HB; have HO_7 := n0_; have BK413 := n1_; have HB := n2_; clear n0_ n1_ n2_; (try clear hb); (try clear hb2); (try clear hk); (try clear hi)))
              go_ret
              exact ⟨by first | rfl | (simp [errW_none, errW_some] <;> rfl) | (simp [*, errW_none, errW_some] <;> rfl), by repeat (first | (with_reducible first | exact HB.out | apply below_alloc | apply pw_below_drewN | apply below_drew1 | refine below_set ?_ GE413.out) | exact HB.out)⟩
            ·rw [if_neg c28] at H
             exact absurd H (by simp)
           ·rw [if_neg c27] at H
            exact absurd H (by simp)
       ·rw [if_neg c17] at H
        have c17b0 : decide (x9_2 < (l0_3.length : Int)) = false := decide_eq_false c17
        clear c17
        replace H := Option.bind_eq_some_iff.mp H
        obtain ⟨t415, A540, H⟩ := H
        replace H : ((bounds_Range.f k2 a0_0 a0_1 a0_2 l0_3 l0_4 a0_5 t415).bind fun bt418 => (if 0 ≤ (l0_3.length : Int) then (if (l0_3.length : Int) ≤ (l2.length : Int) then ((quarrylaw19_key.f k2 (l2.take ((l0_3.length : Int) : Int).toNat) l0_4).bind fun t429 => (if ((Op.bytesLess ((strOfNums t429).toList) ((strOfNums bt418.1).toList)) = true) then (some (false == x8_2)) else (if bt418.2.2 = true then (some (true == x8_2)) else (some ((Op.bytesLess ((strOfNums t429).toList) ((strOfNums bt418.2.1).toList)) == x8_2))))) else (none)) else (none))) = some r := H
        have A54 := Aside0.mk A540
        clear A540
        replace H := Option.bind_eq_some_iff.mp H
        obtain ⟨⟨t418, t421, t424⟩, A550, H⟩ := H
        replace H : (if 0 ≤ (l0_3.length : Int) then (if (l0_3.length : Int) ≤ (l2.length : Int) then ((quarrylaw19_key.f k2 (l2.take ((l0_3.length : Int) : Int).toNat) l0_4).bind fun t429 => (if ((Op.bytesLess ((strOfNums t429).toList) ((strOfNums t418).toList)) = true) then (some (false == x8_2)) else (if t424 = true then (some (true == x8_2)) else (some ((Op.bytesLess ((strOfNums t429).toList) ((strOfNums t421).toList)) == x8_2))))) else (none)) else (none)) = some r := H
        have A55 := Aside0.mk A550
        clear A550
        by_cases c56 : 0 ≤ (l0_3.length : Int)
        ·rw [if_pos c56] at H
         have c56b0 := eq_true c56
         have c56b1 : decide (0 ≤ (l0_3.length : Int)) = true := decide_eq_true c56
         clear c56
         by_cases c57 : (l0_3.length : Int) ≤ (l2.length : Int)
         ·rw [if_pos c57] at H
          have c57b0 := eq_true c57
          have c57b1 : decide ((l0_3.length : Int) ≤ (l2.length : Int)) = true := decide_eq_true c57
          clear c57
          obtain ⟨y425, hy425⟩ : ∃ y_ : List (S25), y_ = (l2.take ((l0_3.length : Int) : Int).toNat) := ⟨_, rfl⟩
          replace H : ((quarrylaw19_key.f k2 y425 l0_4).bind fun t429 => (if ((Op.bytesLess ((strOfNums t429).toList) ((strOfNums t418).toList)) = true) then (some (false == x8_2)) else (if t424 = true then (some (true == x8_2)) else (some ((Op.bytesLess ((strOfNums t429).toList) ((strOfNums t421).toList)) == x8_2))))) = some r := by first | (rw [hy425]; with_reducible exact H) | (have H2_ := (Option.bind_some _ _).symm.trans H; rw [hy425]; with_reducible exact H2_) | (have H2_ := (Option.bind_some _ _).symm.trans H; with_reducible exact H2_) | with_reducible exact H | (rw [hy425]; exact H) | exact H
          have Ny425 := Aside0.mk hy425
          clear hy425
          replace H := Option.bind_eq_some_iff.mp H
          obtain ⟨t429, A580, H⟩ := H
          replace H : (if ((Op.bytesLess ((strOfNums t429).toList) ((strOfNums t418).toList)) = true) then (some (false == x8_2)) else (if t424 = true then (some (true == x8_2)) else (some ((Op.bytesLess ((strOfNums t429).toList) ((strOfNums t421).toList)) == x8_2)))) = some r := H
          have A58 := Aside0.mk A580
          clear A580
          by_cases c59 : ((Op.bytesLess ((strOfNums t429).toList) ((strOfNums t418).toList)) = true)
          ·rw [if_pos c59] at H
           have c59b0 : (Op.bytesLess ((strOfNums t429).toList) ((strOfNums t418).toList)) = true := c59
           clear c59
           obtain rfl := Option.some.inj H
           have hcz60_0 : wr.cell? ⟨gb413, 0, none⟩ = some (.int .i64 a0_0) := (blk_cell BK413.out 0).trans rfl
           have hcz60_1 : wr.cell? ⟨gb413, 1, none⟩ = some (.string a0_1) := (blk_cell BK413.out 1).trans rfl
           have hcz60_2 : wr.cell? ⟨gb413, 2, none⟩ = some (.string a0_2) := (blk_cell BK413.out 2).trans rfl
           have hcz60_3 : wr.cell? ⟨gb413, 3, none⟩ = some (.slice A0_3 l0_3.length c0_3) := (blk_cell BK413.out 3).trans rfl
           have hcz60_4 : wr.cell? ⟨gb413, 4, none⟩ = some (.slice A0_4 l0_4.length c0_4) := (blk_cell BK413.out 4).trans rfl
           have hcz60_5 : wr.cell? ⟨gb413, 5, none⟩ = some (.bool a0_5) := (blk_cell BK413.out 5).trans rfl
           have hfz60_0 := blk_frozen BK413.out 0
           have hfz60_1 := blk_frozen BK413.out 1
           have hfz60_2 := blk_frozen BK413.out 2
           have hfz60_3 := blk_frozen BK413.out 3
           have hfz60_4 := blk_frozen BK413.out 4
           have hfz60_5 := blk_frozen BK413.out 5
           try go_wp2
           have n0_ := Aside0.mk (Kd.R_drew HO_7.out)
           have n1_ := Aside0.mk (blk_drew BK413.out)
           have n2_ := Aside0.mk (below_drew1 HB.out)
           clear HO_7
           clear BK413
           clear HB
           have HO_7 := n0_
           have BK413 := n1_
           have HB := n2_
           clear n0_ n1_ n2_
           obtain ⟨Ao62, co62, eo62⟩ := Kd.R_slice HO_7.out
           (first | subst eo62 | (injection eo62 with f1_ f2_ f3_; have f4_ := f1_.symm; have f5_ := f3_.symm; clear f1_ f2_ f3_; subst f4_; subst f5_))
           refine start_ (n := 11) (S := fun w' => w'.cell? ⟨gb413, 0, none⟩ = some (.int .i64 a0_0) ∧ w'.cell? ⟨gb413, 1, none⟩ = some (.string a0_1) ∧ w'.cell? ⟨gb413, 2, none⟩ = some (.string a0_2) ∧ w'.cell? ⟨gb413, 3, none⟩ = some (.slice A0_3 l0_3.length c0_3) ∧ w'.cell? ⟨gb413, 4, none⟩ = some (.slice A0_4 l0_4.length c0_4) ∧ w'.cell? ⟨gb413, 5, none⟩ = some (.bool a0_5)) (ds := []) #[false, false, false, false, false, false, false, false, false, false, false] (by kernel_rfl) rfl rfl ⟨(blk_cell BK413.out 0).trans rfl, (blk_cell BK413.out 1).trans rfl, (blk_cell BK413.out 2).trans rfl, (blk_cell BK413.out 3).trans rfl, (blk_cell BK413.out 4).trans rfl, (blk_cell BK413.out 5).trans rfl⟩ (fun hHeld => ?_); refine with_tabW quarrylaw19_BoundsPoint.tab19 quarrylaw19_BoundsPoint.bits19 (fun HT_ HW_ => ?_)
           generalize wr.drew = w61 at HO_7 BK413 HB hHeld ⊢
           refine pure_ (i := 1) (N := some 119) (v := ?_) (a' := ?_) #[false, true, false, false, false, false, false, false, false, false, false] rfl rfl (any_of HT_.out (by kernel_rfl)) (fun _ _ _ h => h) (Or.inl ⟨by rfl, ?_⟩) ?_ ?_
           rotate_left
           ·intro w'
            go_simp
            with_reducible rfl
           rotate_left
           ·simp only [Act.put, List.setIfInBounds_toArray, List.set_cons_zero, List.set_cons_succ, i64_w, i32_w]
            rfl
           refine take_ (i := 0) (N := some 118) (v := ?_) (a' := ?_) #[true, true, false, false, false, false, false, false, false, false, false] rfl rfl (take_ofW HT_.out HW_.out (by kernel_rfl)) (fun _ _ _ h => h) (Or.inl ⟨by rfl, ?_⟩) hHeld ?_ ?_
           rotate_left
           ·rintro w' ⟨s0, s1, s2, s3, s4, s5⟩
            go_simp
            with_reducible rfl
           rotate_left
           ·simp only [Act.put, List.setIfInBounds_toArray, List.set_cons_zero, List.set_cons_succ, i64_w, i32_w]
            rfl
           refine one_ (i := 2) (N := some 120) #[true, true, true, false, false, false, false, false, false, false, false] rfl rfl (one_of HT_.out (by kernel_rfl)) (by decide) (fun K hK => ?_)
           refine goes_ Try.func16 (by kernel_rfl) rfl #[.slice Ao62 x7_2.length co62] (by rfl) rfl rfl (by (try simp only [List.map_toArray, List.map_cons, List.map_nil]); first | done | rfl | (simp only [List.length_drop, List.length_take]; rfl)) ?_
           with_reducible refine (quarrylaw19_its.calls k2 _ _ x7_2 t415 _ ?side1 ?side2 A54.out).mono ?_
           (case side1 => repeat (first | exact (Kd.R_reads' HO_7.out).2.2 | (with_reducible refine Kd.C_alloc ?_ _) | (with_reducible refine Kd.C_drewN ?_ _) | (with_reducible refine Kd.C_drew ?_)))
           (case side2 => exact (Kd.R_reads' HO_7.out).2.1)
           rintro e w63 ⟨v416, rfl, ho0, hb⟩
           refine ⟨_, rfl, ?_⟩
           have n0_ := Aside0.mk (Kd.R_below (by (with_reducible repeat (first | apply Kd.R_alloc | apply Kd.R_drewN | apply Kd.R_drew)); exact HO_7.out) hb)
           have n1_ := Aside0.mk (Kd.R_lower ho0 (below_size (by repeat (first | (with_reducible first | exact HB.out | apply below_alloc | apply pw_below_drewN | apply below_drew1 | refine below_set ?_ GE413.out) | exact HB.out))))
           have n2_ := Aside0.mk (blk_below (g := gb413) (o := .cells #[.int .i64 a0_0, .string a0_1, .string a0_2, .slice A0_3 l0_3.length c0_3, .slice A0_4 l0_4.length c0_4, .bool a0_5] 41 (0, 0)) (bk_ BK413) hb)
           have n3_ := Aside0.mk (below_step (by repeat (first | (with_reducible first | exact HB.out | apply below_alloc | apply pw_below_drewN | apply below_drew1 | refine below_set ?_ GE413.out) | exact HB.out)) hb)
           clear HO_7
           clear BK413
           clear HB
           have HO_7 := n0_
           have HO417 := n1_
           have BK413 := n2_
           have HB := n3_
           clear n0_ n1_ n2_ n3_
           (try clear hb)
           (try clear hb2)
           (try clear hk)
           (try clear hi)
           (try clear ho0)
           obtain ⟨Ao64, co64, eo64⟩ := Kd.R_slice HO417.out
           (first | subst eo64 | (injection eo64 with f1_ f2_ f3_; have f4_ := f1_.symm; have f5_ := f3_.symm; clear f1_ f2_ f3_; subst f4_; subst f5_))
           refine hK.out _ _ ⟨(blk_cell BK413.out 0).trans rfl, (blk_cell BK413.out 1).trans rfl, (blk_cell BK413.out 2).trans rfl, (blk_cell BK413.out 3).trans rfl, (blk_cell BK413.out 4).trans rfl, (blk_cell BK413.out 5).trans rfl⟩ (fun hHeld => ?_)
           clear hK K
           refine norm_ (a' := ?_) ?_ ?_
           rotate_left
           ·show Act.put _ (some 120) _ = _
            simp only [Act.put, List.setIfInBounds_toArray, List.set_cons_zero, List.set_cons_succ, i64_w, i32_w]
            rfl
           refine one_ (i := 3) (N := some 121) #[true, true, true, true, false, false, false, false, false, false, false] rfl rfl (one_of HT_.out (by kernel_rfl)) (by decide) (fun K hK => ?_)
           refine goes_ Try.func15 (by kernel_rfl) rfl #[.agg #[.int .i64 a0_0, .string a0_1, .string a0_2, .slice A0_3 l0_3.length c0_3, .slice A0_4 l0_4.length c0_4, .bool a0_5], .slice Ao64 t415.length co64] (by rfl) rfl rfl (by (try simp only [List.map_toArray, List.map_cons, List.map_nil]); first | done | rfl | (simp only [List.length_drop, List.length_take]; rfl)) ?_
           with_reducible refine (bounds_Range.calls k2 a0_0 a0_1 a0_2 _ _ l0_3 _ _ l0_4 a0_5 _ _ t415 t418 t421 t424 _ ?side1 ?side2 ?side3 ?side4 ?side5 ?side6 A55.out).mono ?_
           (case side1 => repeat (first | exact (Kd.C_below HR0_3.out HB.out) | (with_reducible refine Kd.C_alloc ?_ _) | (with_reducible refine Kd.C_drewN ?_ _) | (with_reducible refine Kd.C_drew ?_)))
           (case side2 => exact HC0_3.out)
           (case side3 => repeat (first | exact (Kd.C_below HR0_4.out HB.out) | (with_reducible refine Kd.C_alloc ?_ _) | (with_reducible refine Kd.C_drewN ?_ _) | (with_reducible refine Kd.C_drew ?_)))
           (case side4 => exact HC0_4.out)
           (case side5 => repeat (first | exact (Kd.R_reads' HO417.out).2.2 | (with_reducible refine Kd.C_alloc ?_ _) | (with_reducible refine Kd.C_drewN ?_ _) | (with_reducible refine Kd.C_drew ?_)))
           (case side6 => exact (Kd.R_reads' HO417.out).2.1)
           rintro e w65 ⟨v419, v422, rfl, ho0, ho1, hb⟩
           refine ⟨_, rfl, ?_⟩
           have n0_ := Aside0.mk (Kd.R_below (by (with_reducible repeat (first | apply Kd.R_alloc | apply Kd.R_drewN | apply Kd.R_drew)); exact HO_7.out) hb)
           have n1_ := Aside0.mk (Kd.R_below (by (with_reducible repeat (first | apply Kd.R_alloc | apply Kd.R_drewN | apply Kd.R_drew)); exact HO417.out) hb)
           have n2_ := Aside0.mk (Kd.R_lower ho0 (below_size (by repeat (first | (with_reducible first | exact HB.out | apply below_alloc | apply pw_below_drewN | apply below_drew1 | refine below_set ?_ GE413.out) | exact HB.out))))
           have n3_ := Aside0.mk (Kd.R_lower ho1 (below_size (by repeat (first | (with_reducible first | exact HB.out | apply below_alloc | apply pw_below_drewN | apply below_drew1 | refine below_set ?_ GE413.out) | exact HB.out))))
           have n4_ := Aside0.mk (blk_below (g := gb413) (o := .cells #[.int .i64 a0_0, .string a0_1, .string a0_2, .slice A0_3 l0_3.length c0_3, .slice A0_4 l0_4.length c0_4, .bool a0_5] 41 (0, 0)) (bk_ BK413) hb)
           have n5_ := Aside0.mk (below_step (by repeat (first | (with_reducible first | exact HB.out | apply below_alloc | apply pw_below_drewN | apply below_drew1 | refine below_set ?_ GE413.out) | exact HB.out)) hb)
           clear HO_7
           clear HO417
           clear BK413
           clear HB
           have HO_7 := n0_
           have HO417 := n1_
           have HO420 := n2_
           have HO423 := n3_
           have BK413 := n4_
           have HB := n5_
           clear n0_ n1_ n2_ n3_ n4_ n5_
           (try clear hb)
           (try clear hb2)
           (try clear hk)
           (try clear hi)
           (try clear ho0)
           (try clear ho1)
           refine hK.out _ _ ⟨(blk_cell BK413.out 0).trans rfl, (blk_cell BK413.out 1).trans rfl, (blk_cell BK413.out 2).trans rfl, (blk_cell BK413.out 3).trans rfl, (blk_cell BK413.out 4).trans rfl, (blk_cell BK413.out 5).trans rfl⟩ (fun hHeld => ?_)
           clear hK K
           refine norm_ (a' := ?_) ?_ ?_
           rotate_left
           ·show Act.put _ (some 121) _ = _
            simp only [Act.put, List.setIfInBounds_toArray, List.set_cons_zero, List.set_cons_succ, i64_w, i32_w]
            rfl
           refine pure_ (i := 4) (N := some 117) (v := ?_) (a' := ?_) #[true, true, true, true, true, false, false, false, false, false, false] rfl rfl (any_of HT_.out (by kernel_rfl)) (fun _ _ _ h => h) (Or.inl ⟨by rfl, ?_⟩) ?_ ?_
           rotate_left
           ·intro w'
            go_simp
            with_reducible rfl
           rotate_left
           ·simp only [Act.put, List.setIfInBounds_toArray, List.set_cons_zero, List.set_cons_succ, i64_w, i32_w]
            rfl
           refine pure_ (i := 5) (N := some 122) (v := ?_) (a' := ?_) #[true, true, true, true, true, true, false, false, false, false, false] rfl rfl (any_of HT_.out (by kernel_rfl)) (fun _ _ _ h => h) (Or.inl ⟨by rfl, ?_⟩) ?_ ?_
           rotate_left
           ·intro w'
            go_simp
            with_reducible rfl
           rotate_left
           ·simp only [Act.put, List.setIfInBounds_toArray, List.set_cons_zero, List.set_cons_succ, i64_w, i32_w]
            rfl
           refine pure_ (i := 6) (N := some 123) (v := ?_) (a' := ?_) #[true, true, true, true, true, true, true, false, false, false, false] rfl rfl (any_of HT_.out (by kernel_rfl)) (fun _ _ _ h => h) (Or.inl ⟨by rfl, ?_⟩) ?_ ?_
           rotate_left
           ·intro w'
            go_simp
            with_reducible rfl
           rotate_left
           ·simp only [Act.put, List.setIfInBounds_toArray, List.set_cons_zero, List.set_cons_succ, i64_w, i32_w]
            rfl
           refine pure_ (i := 7) (N := some 124) (v := ?_) (a' := ?_) #[true, true, true, true, true, true, true, true, false, false, false] rfl rfl (any_of HT_.out (by kernel_rfl)) (fun _ _ _ h => h) (Or.inl ⟨by rfl, ?_⟩) ?_ ?_
           rotate_left
           ·intro w'
            go_simp
            with_reducible rfl
           rotate_left
           ·simp only [Act.put, List.setIfInBounds_toArray, List.set_cons_zero, List.set_cons_succ, i64_w, i32_w]
            rfl
           refine pure_ (i := 8) (N := some 11) (v := ?_) (a' := ?_) #[true, true, true, true, true, true, true, true, true, false, false] rfl rfl (any_of HT_.out (by kernel_rfl)) (fun _ _ _ h => h) (Or.inl ⟨by rfl, ?_⟩) ?_ ?_
           rotate_left
           ·intro w'
            go_simp
            with_reducible rfl
           rotate_left
           ·simp only [Act.put, List.setIfInBounds_toArray, List.set_cons_zero, List.set_cons_succ, i64_w, i32_w]
            rfl
           refine pure_ (i := 9) (N := some 12) (v := ?_) (a' := ?_) #[true, true, true, true, true, true, true, true, true, true, false] rfl rfl (any_of HT_.out (by kernel_rfl)) (fun _ _ _ h => h) (Or.inl ⟨by rfl, ?_⟩) ?_ ?_
           rotate_left
           ·intro w'
            go_simp
            with_reducible rfl
           rotate_left
           ·simp only [Act.put, List.setIfInBounds_toArray, List.set_cons_zero, List.set_cons_succ, i64_w, i32_w]
            rfl
           refine pure_ (i := 10) (N := some 13) (v := ?_) (a' := ?_) #[true, true, true, true, true, true, true, true, true, true, true] rfl rfl (any_of HT_.out (by kernel_rfl)) (fun _ _ _ h => h) (Or.inl ⟨by rfl, ?_⟩) ?_ ?_
           rotate_left
           ·intro w'
            go_simp
            with_reducible rfl
           rotate_left
           ·simp only [Act.put, List.setIfInBounds_toArray, List.set_cons_zero, List.set_cons_succ, i64_w, i32_w]
            rfl
           refine done_ (done_of HT_.out (by kernel_rfl)) ?_
           try go_wp2
           have n0_ := Aside0.mk (Kd.R_drew HO_7.out)
           have n1_ := Aside0.mk (Kd.R_drew HO417.out)
           have n2_ := Aside0.mk (Kd.R_drew HO420.out)
           have n3_ := Aside0.mk (Kd.R_drew HO423.out)
           have n4_ := Aside0.mk (blk_drew BK413.out)
           have n5_ := Aside0.mk (below_drew1 HB.out)
           clear HO_7
           clear HO417
           clear HO420
           clear HO423
           clear BK413
           clear HB
           have HO_7 := n0_
           have HO417 := n1_
           have HO420 := n2_
           have HO423 := n3_
           have BK413 := n4_
           have HB := n5_
           clear n0_ n1_ n2_ n3_ n4_ n5_
           have q67 : ((l0_3.length : Int) : Int) ≤ ((l2.length : Int) : Int) := of_decide_eq_true (by first | (with_reducible assumption) | assumption)
           obtain ⟨i067, hi067, _, hsz67, _⟩ := info_parts info25
           have hroom67 : l2.length ≤ c2 := HC2.out
           have hC67 : Kd.C k25 _ A2 l2.length l2 := HR2.out
           have hcut67 := cut_to (P := Try.prog) 52 25 .i64 Try.underlying52 hi067 A2 l2.length c2 (l0_3.length : Int) (of_decide_eq_true (by first | (with_reducible assumption) | assumption)) q67 hroom67
           have hr67 := Kd.C_take (m := ((l0_3.length : Int) : Int).toNat) hC67 (by omega)
           have hy67 : y425.length = ((l0_3.length : Int) : Int).toNat := (by rw [Ny425.out, List.length_take]; omega)
           rw [← Ny425.out] at hr67
           rw [← hy67] at hcut67
           have HR428 := Aside0.mk hr67
           have HC428 := Aside0.mk (show y425.length ≤ c2 from by omega)
           clear hr67 hC67 hroom67 hi067 hsz67
           have KY67 := Aside0.mk hy67
           clear hy67
           replace q67 := eq_true q67
           refine start_ (n := 10) (S := fun w' => w'.cell? ⟨gb413, 0, none⟩ = some (.int .i64 a0_0) ∧ w'.cell? ⟨gb413, 1, none⟩ = some (.string a0_1) ∧ w'.cell? ⟨gb413, 2, none⟩ = some (.string a0_2) ∧ w'.cell? ⟨gb413, 3, none⟩ = some (.slice A0_3 l0_3.length c0_3) ∧ w'.cell? ⟨gb413, 4, none⟩ = some (.slice A0_4 l0_4.length c0_4) ∧ w'.cell? ⟨gb413, 5, none⟩ = some (.bool a0_5)) (ds := []) #[false, false, false, false, false, false, false, false, false, false] (by kernel_rfl) rfl rfl ⟨(blk_cell BK413.out 0).trans rfl, (blk_cell BK413.out 1).trans rfl, (blk_cell BK413.out 2).trans rfl, (blk_cell BK413.out 3).trans rfl, (blk_cell BK413.out 4).trans rfl, (blk_cell BK413.out 5).trans rfl⟩ (fun hHeld => ?_); refine with_tabW quarrylaw19_BoundsPoint.tab20 quarrylaw19_BoundsPoint.bits20 (fun HT_ HW_ => ?_)
           generalize w65.drew = w66 at HO_7 HO417 HO420 HO423 BK413 HB HR428 hHeld ⊢
           refine pure_ (i := 0) (N := some 125) (v := ?_) (a' := ?_) #[true, false, false, false, false, false, false, false, false, false] rfl rfl (any_of HT_.out (by kernel_rfl)) (fun _ _ _ h => h) (Or.inl ⟨by rfl, ?_⟩) ?_ ?_
           rotate_left
           ·intro w'
            go_simp
            with_reducible rfl
           rotate_left
           ·simp only [Act.put, List.setIfInBounds_toArray, List.set_cons_zero, List.set_cons_succ, i64_w, i32_w]
            rfl
           refine pure_ (i := 1) (N := some 126) (v := ?_) (a' := ?_) #[true, true, false, false, false, false, false, false, false, false] rfl rfl (any_of HT_.out (by kernel_rfl)) (fun _ _ _ h => h) (Or.inl ⟨by rfl, ?_⟩) ?_ ?_
           rotate_left
           ·intro w'
            go_simp
            with_reducible rfl
           rotate_left
           ·simp only [Act.put, List.setIfInBounds_toArray, List.set_cons_zero, List.set_cons_succ, i64_w, i32_w]
            rfl
           refine pure_ (i := 5) (N := some 130) (v := ?_) (a' := ?_) #[true, true, false, false, false, true, false, false, false, false] rfl rfl (any_of HT_.out (by kernel_rfl)) (fun _ _ _ h => h) (Or.inl ⟨by rfl, ?_⟩) ?_ ?_
           rotate_left
           ·intro w'
            go_simp
            with_reducible rfl
           rotate_left
           ·simp only [Act.put, List.setIfInBounds_toArray, List.set_cons_zero, List.set_cons_succ, i64_w, i32_w]
            rfl
           refine take_ (i := 2) (N := some 127) (v := ?_) (a' := ?_) #[true, true, true, false, false, true, false, false, false, false] rfl rfl (take_ofW HT_.out HW_.out (by kernel_rfl)) (fun _ _ _ h => h) (Or.inl ⟨by rfl, ?_⟩) hHeld ?_ ?_
           rotate_left
           ·rintro w' ⟨s0, s1, s2, s3, s4, s5⟩
            go_simp
            with_reducible rfl
           rotate_left
           ·simp only [Act.put, List.setIfInBounds_toArray, List.set_cons_zero, List.set_cons_succ, i64_w, i32_w]
            rfl
           refine pure_ (i := 3) (N := some 128) (v := ?_) (a' := ?_) #[true, true, true, true, false, true, false, false, false, false] rfl rfl (any_of HT_.out (by kernel_rfl)) (fun _ _ _ h => h) (Or.inl ⟨by rfl, ?_⟩) ?_ ?_
           rotate_left
           ·intro w'
            go_simp
            with_reducible rfl
           rotate_left
           ·simp only [Act.put, List.setIfInBounds_toArray, List.set_cons_zero, List.set_cons_succ, i64_w, i32_w]
            rfl
           refine pure_ (i := 4) (N := some 129) (v := ?_) (a' := ?_) #[true, true, true, true, true, true, false, false, false, false] rfl rfl (any_of HT_.out (by kernel_rfl)) (fun _ _ _ h => h) (Or.inl ⟨by rfl, ?_⟩) ?_ ?_
           rotate_left
           ·intro w'
            go_simp
            with_reducible rfl
           rotate_left
           ·simp only [Act.put, List.setIfInBounds_toArray, List.set_cons_zero, List.set_cons_succ, i64_w, i32_w]
            rfl
           refine take_ (i := 6) (N := some 131) (v := ?_) (a' := ?_) #[true, true, true, true, true, true, true, false, false, false] rfl rfl (take_ofW HT_.out HW_.out (by kernel_rfl)) (fun _ _ _ h => h) (Or.inl ⟨by rfl, ?_⟩) hHeld ?_ ?_
           rotate_left
           ·rintro w' ⟨s0, s1, s2, s3, s4, s5⟩
            go_simp
            with_reducible rfl
           rotate_left
           ·simp only [Act.put, List.setIfInBounds_toArray, List.set_cons_zero, List.set_cons_succ, i64_w, i32_w]
            rfl
           refine one_ (i := 7) (N := some 132) #[true, true, true, true, true, true, true, true, false, false] rfl rfl (one_of HT_.out (by kernel_rfl)) (by decide) (fun K hK => ?_)
           refine goes_ Try.func24 (by kernel_rfl) rfl #[.slice A2 y425.length c2, .slice A0_4 l0_4.length c0_4] (by rfl) rfl rfl (by (try simp only [List.map_toArray, List.map_cons, List.map_nil]); first | done | rfl | (simp only [List.length_drop, List.length_take]; rfl)) ?_
           with_reducible refine (quarrylaw19_key.calls k2 _ _ y425 _ _ l0_4 t429 _ ?side1 ?side2 ?side3 ?side4 A58.out).mono ?_
           (case side1 => repeat (first | exact (Kd.C_below HR428.out HB.out) | (with_reducible refine Kd.C_alloc ?_ _) | (with_reducible refine Kd.C_drewN ?_ _) | (with_reducible refine Kd.C_drew ?_)))
           (case side2 => exact HC428.out)
           (case side3 => repeat (first | exact (Kd.C_below HR0_4.out HB.out) | (with_reducible refine Kd.C_alloc ?_ _) | (with_reducible refine Kd.C_drewN ?_ _) | (with_reducible refine Kd.C_drew ?_)))
           (case side4 => exact HC0_4.out)
           rintro e w68 ⟨v430, rfl, ho0, hb⟩
           refine ⟨_, rfl, ?_⟩
           have n0_ := Aside0.mk (Kd.R_below (by (with_reducible repeat (first | apply Kd.R_alloc | apply Kd.R_drewN | apply Kd.R_drew)); exact HO_7.out) hb)
           have n1_ := Aside0.mk (Kd.R_below (by (with_reducible repeat (first | apply Kd.R_alloc | apply Kd.R_drewN | apply Kd.R_drew)); exact HO417.out) hb)
           have n2_ := Aside0.mk (Kd.R_elder' (by (with_reducible repeat (first | apply Kd.R_alloc | apply Kd.R_drewN | apply Kd.R_drew)); exact HO420.out) (Kd.R_base ho0) hb)
           have n3_ := Aside0.mk (Kd.R_elder' (by (with_reducible repeat (first | apply Kd.R_alloc | apply Kd.R_drewN | apply Kd.R_drew)); exact HO423.out) (Kd.R_base ho0) hb)
           have n4_ := Aside0.mk (Kd.R_lower (Kd.R_new' (Kd.R_new' ho0 (Kd.R_lt (by (with_reducible repeat (first | apply Kd.R_alloc | apply Kd.R_drewN | apply Kd.R_drew)); exact HO420.out))) (Kd.R_lt (by (with_reducible repeat (first | apply Kd.R_alloc | apply Kd.R_drewN | apply Kd.R_drew)); exact HO423.out))) (below_size (by repeat (first | (with_reducible first | exact HB.out | apply below_alloc | apply pw_below_drewN | apply below_drew1 | refine below_set ?_ GE413.out) | exact HB.out))))
           have n5_ := Aside0.mk (blk_below (g := gb413) (o := .cells #[.int .i64 a0_0, .string a0_1, .string a0_2, .slice A0_3 l0_3.length c0_3, .slice A0_4 l0_4.length c0_4, .bool a0_5] 41 (0, 0)) (bk_ BK413) hb)
           have n6_ := Aside0.mk (below_step (by repeat (first | (with_reducible first | exact HB.out | apply below_alloc | apply pw_below_drewN | apply below_drew1 | refine below_set ?_ GE413.out) | exact HB.out)) hb)
           clear HO_7
           clear HO417
           clear HO420
           clear HO423
           clear BK413
           clear HB
           have HO_7 := n0_
           have HO417 := n1_
           have HO420 := n2_
           have HO423 := n3_
           have HO431 := n4_
           have BK413 := n5_
           have HB := n6_
           clear n0_ n1_ n2_ n3_ n4_ n5_ n6_
           (try clear hb)
           (try clear hb2)
           (try clear hk)
           (try clear hi)
           (try clear ho0)
           refine hK.out _ _ ⟨(blk_cell BK413.out 0).trans rfl, (blk_cell BK413.out 1).trans rfl, (blk_cell BK413.out 2).trans rfl, (blk_cell BK413.out 3).trans rfl, (blk_cell BK413.out 4).trans rfl, (blk_cell BK413.out 5).trans rfl⟩ (fun hHeld => ?_)
           clear hK K
           refine norm_ (a' := ?_) ?_ ?_
           rotate_left
           ·show Act.put _ (some 132) _ = _
            simp only [Act.put, List.setIfInBounds_toArray, List.set_cons_zero, List.set_cons_succ, i64_w, i32_w]
            rfl
           refine one_ (i := 8) (N := some 133) #[true, true, true, true, true, true, true, true, true, false] rfl rfl (one_of HT_.out (by kernel_rfl)) (by decide) (fun K hK => ?_)
           have hcv69 := own_string (P := Try.prog) Try.underlying44 Try.underlying5 Try.underlying9 (Kd.own_of_R HO431.out)
           refine value_ (w1 := ?_) (v := ?_) (by rfl) rfl ?_ ?_
           rotate_left 2
           ·go_simp
            constructor
            ·rfl
            ·rfl
           clear hcv69
           refine hK.out _ _ ⟨(blk_cell BK413.out 0).trans rfl, (blk_cell BK413.out 1).trans rfl, (blk_cell BK413.out 2).trans rfl, (blk_cell BK413.out 3).trans rfl, (blk_cell BK413.out 4).trans rfl, (blk_cell BK413.out 5).trans rfl⟩ (fun hHeld => ?_)
           clear hK K
           refine norm_ (a' := ?_) ?_ ?_
           rotate_left
           ·show Act.put _ (some 133) _ = _
            simp only [Act.put, List.setIfInBounds_toArray, List.set_cons_zero, List.set_cons_succ, i64_w, i32_w]
            rfl
           refine pure_ (i := 9) (N := some 14) (v := ?_) (a' := ?_) #[true, true, true, true, true, true, true, true, true, true] rfl rfl (any_of HT_.out (by kernel_rfl)) (fun _ _ _ h => h) (Or.inl ⟨by rfl, ?_⟩) ?_ ?_
           rotate_left
           ·intro w'
            go_simp
            with_reducible rfl
           rotate_left
           ·simp only [Act.put, List.setIfInBounds_toArray, List.set_cons_zero, List.set_cons_succ, i64_w, i32_w]
            rfl
           refine done_ (done_of HT_.out (by kernel_rfl)) ?_
           have hcv70 := own_string (P := Try.prog) Try.underlying44 Try.underlying5 Try.underlying9 (Kd.own_of_R HO420.out)
           try go_wp2
           go_ret
           exact ⟨by first | rfl | (simp [errW_none, errW_some] <;> rfl) | (simp [*, errW_none, errW_some] <;> rfl), by repeat (first | (with_reducible first | exact HB.out | apply below_alloc | apply pw_below_drewN | apply below_drew1 | refine below_set ?_ GE413.out) | exact HB.out)⟩
          ·rw [if_neg c59] at H
           have c59b0 : (Op.bytesLess ((strOfNums t429).toList) ((strOfNums t418).toList)) = false := by simpa using c59
           clear c59
           by_cases c71 : t424 = true
           ·subst c71
            have H1 : (some (true == x8_2)) = some r := by rw [if_pos rfl] at H; exact H
            clear H
            have H := H1
            clear H1
            obtain rfl := Option.some.inj H
            have hcz72_0 : wr.cell? ⟨gb413, 0, none⟩ = some (.int .i64 a0_0) := (blk_cell BK413.out 0).trans rfl
            have hcz72_1 : wr.cell? ⟨gb413, 1, none⟩ = some (.string a0_1) := (blk_cell BK413.out 1).trans rfl
            have hcz72_2 : wr.cell? ⟨gb413, 2, none⟩ = some (.string a0_2) := (blk_cell BK413.out 2).trans rfl
            have hcz72_3 : wr.cell? ⟨gb413, 3, none⟩ = some (.slice A0_3 l0_3.length c0_3) := (blk_cell BK413.out 3).trans rfl
            have hcz72_4 : wr.cell? ⟨gb413, 4, none⟩ = some (.slice A0_4 l0_4.length c0_4) := (blk_cell BK413.out 4).trans rfl
            have hcz72_5 : wr.cell? ⟨gb413, 5, none⟩ = some (.bool a0_5) := (blk_cell BK413.out 5).trans rfl
            have hfz72_0 := blk_frozen BK413.out 0
            have hfz72_1 := blk_frozen BK413.out 1
            have hfz72_2 := blk_frozen BK413.out 2
            have hfz72_3 := blk_frozen BK413.out 3
            have hfz72_4 := blk_frozen BK413.out 4
            have hfz72_5 := blk_frozen BK413.out 5
            try go_wp2
            have n0_ := Aside0.mk (Kd.R_drew HO_7.out)
            have n1_ := Aside0.mk (blk_drew BK413.out)
            have n2_ := Aside0.mk (below_drew1 HB.out)
            clear HO_7
            clear BK413
            clear HB
            have HO_7 := n0_
            have BK413 := n1_
            have HB := n2_
            clear n0_ n1_ n2_
            obtain ⟨Ao74, co74, eo74⟩ := Kd.R_slice HO_7.out
            (first | subst eo74 | (injection eo74 with f1_ f2_ f3_; have f4_ := f1_.symm; have f5_ := f3_.symm; clear f1_ f2_ f3_; subst f4_; subst f5_))
            refine start_ (n := 11) (S := fun w' => w'.cell? ⟨gb413, 0, none⟩ = some (.int .i64 a0_0) ∧ w'.cell? ⟨gb413, 1, none⟩ = some (.string a0_1) ∧ w'.cell? ⟨gb413, 2, none⟩ = some (.string a0_2) ∧ w'.cell? ⟨gb413, 3, none⟩ = some (.slice A0_3 l0_3.length c0_3) ∧ w'.cell? ⟨gb413, 4, none⟩ = some (.slice A0_4 l0_4.length c0_4) ∧ w'.cell? ⟨gb413, 5, none⟩ = some (.bool a0_5)) (ds := []) #[false, false, false, false, false, false, false, false, false, false, false] (by kernel_rfl) rfl rfl ⟨(blk_cell BK413.out 0).trans rfl, (blk_cell BK413.out 1).trans rfl, (blk_cell BK413.out 2).trans rfl, (blk_cell BK413.out 3).trans rfl, (blk_cell BK413.out 4).trans rfl, (blk_cell BK413.out 5).trans rfl⟩ (fun hHeld => ?_); refine with_tabW quarrylaw19_BoundsPoint.tab19 quarrylaw19_BoundsPoint.bits19 (fun HT_ HW_ => ?_)
            generalize wr.drew = w73 at HO_7 BK413 HB hHeld ⊢
            refine pure_ (i := 1) (N := some 119) (v := ?_) (a' := ?_) #[false, true, false, false, false, false, false, false, false, false, false] rfl rfl (any_of HT_.out (by kernel_rfl)) (fun _ _ _ h => h) (Or.inl ⟨by rfl, ?_⟩) ?_ ?_
            rotate_left
            ·intro w'
             go_simp
             with_reducible rfl
            rotate_left
            ·simp only [Act.put, List.setIfInBounds_toArray, List.set_cons_zero, List.set_cons_succ, i64_w, i32_w]
             rfl
            refine take_ (i := 0) (N := some 118) (v := ?_) (a' := ?_) #[true, true, false, false, false, false, false, false, false, false, false] rfl rfl (take_ofW HT_.out HW_.out (by kernel_rfl)) (fun _ _ _ h => h) (Or.inl ⟨by rfl, ?_⟩) hHeld ?_ ?_
            rotate_left
            ·rintro w' ⟨s0, s1, s2, s3, s4, s5⟩
             go_simp
             with_reducible rfl
            rotate_left
            ·simp only [Act.put, List.setIfInBounds_toArray, List.set_cons_zero, List.set_cons_succ, i64_w, i32_w]
             rfl
            refine one_ (i := 2) (N := some 120) #[true, true, true, false, false, false, false, false, false, false, false] rfl rfl (one_of HT_.out (by kernel_rfl)) (by decide) (fun K hK => ?_)
            refine goes_ Try.func16 (by kernel_rfl) rfl #[.slice Ao74 x7_2.length co74] (by rfl) rfl rfl (by (try simp only [List.map_toArray, List.map_cons, List.map_nil]); first | done | rfl | (simp only [List.length_drop, List.length_take]; rfl)) ?_
            with_reducible refine (quarrylaw19_its.calls k2 _ _ x7_2 t415 _ ?side1 ?side2 A54.out).mono ?_
            (case side1 => repeat (first | exact (Kd.R_reads' HO_7.out).2.2 | (with_reducible refine Kd.C_alloc ?_ _) | (with_reducible refine Kd.C_drewN ?_ _) | (with_reducible refine Kd.C_drew ?_)))
            (case side2 => exact (Kd.R_reads' HO_7.out).2.1)
            rintro e w75 ⟨v416, rfl, ho0, hb⟩
            refine ⟨_, rfl, ?_⟩
            have n0_ := Aside0.mk (Kd.R_below (by (with_reducible repeat (first | apply Kd.R_alloc | apply Kd.R_drewN | apply Kd.R_drew)); exact HO_7.out) hb)
            have n1_ := Aside0.mk (Kd.R_lower ho0 (below_size (by repeat (first | (with_reducible first | exact HB.out | apply below_alloc | apply pw_below_drewN | apply below_drew1 | refine below_set ?_ GE413.out) | exact HB.out))))
            have n2_ := Aside0.mk (blk_below (g := gb413) (o := .cells #[.int .i64 a0_0, .string a0_1, .string a0_2, .slice A0_3 l0_3.length c0_3, .slice A0_4 l0_4.length c0_4, .bool a0_5] 41 (0, 0)) (bk_ BK413) hb)
            have n3_ := Aside0.mk (below_step (by repeat (first | (with_reducible first | exact HB.out | apply below_alloc | apply pw_below_drewN | apply below_drew1 | refine below_set ?_ GE413.out) | exact HB.out)) hb)
            clear HO_7
            clear BK413
            clear HB
            have HO_7 := n0_
            have HO417 := n1_
            have BK413 := n2_
            have HB := n3_
            clear n0_ n1_ n2_ n3_
            (try clear hb)
            (try clear hb2)
            (try clear hk)
            (try clear hi)
            (try clear ho0)
            obtain ⟨Ao76, co76, eo76⟩ := Kd.R_slice HO417.out
            (first | subst eo76 | (injection eo76 with f1_ f2_ f3_; have f4_ := f1_.symm; have f5_ := f3_.symm; clear f1_ f2_ f3_; subst f4_; subst f5_))
            refine hK.out _ _ ⟨(blk_cell BK413.out 0).trans rfl, (blk_cell BK413.out 1).trans rfl, (blk_cell BK413.out 2).trans rfl, (blk_cell BK413.out 3).trans rfl, (blk_cell BK413.out 4).trans rfl, (blk_cell BK413.out 5).trans rfl⟩ (fun hHeld => ?_)
            clear hK K
            refine norm_ (a' := ?_) ?_ ?_
            rotate_left
            ·show Act.put _ (some 120) _ = _
             simp only [Act.put, List.setIfInBounds_toArray, List.set_cons_zero, List.set_cons_succ, i64_w, i32_w]
             rfl
            refine one_ (i := 3) (N := some 121) #[true, true, true, true, false, false, false, false, false, false, false] rfl rfl (one_of HT_.out (by kernel_rfl)) (by decide) (fun K hK => ?_)
            refine goes_ Try.func15 (by kernel_rfl) rfl #[.agg #[.int .i64 a0_0, .string a0_1, .string a0_2, .slice A0_3 l0_3.length c0_3, .slice A0_4 l0_4.length c0_4, .bool a0_5], .slice Ao76 t415.length co76] (by rfl) rfl rfl (by (try simp only [List.map_toArray, List.map_cons, List.map_nil]); first | done | rfl | (simp only [List.length_drop, List.length_take]; rfl)) ?_
            with_reducible refine (bounds_Range.calls k2 a0_0 a0_1 a0_2 _ _ l0_3 _ _ l0_4 a0_5 _ _ t415 t418 t421 true _ ?side1 ?side2 ?side3 ?side4 ?side5 ?side6 A55.out).mono ?_
            (case side1 => repeat (first | exact (Kd.C_below HR0_3.out HB.out) | (with_reducible refine Kd.C_alloc ?_ _) | (with_reducible refine Kd.C_drewN ?_ _) | (with_reducible refine Kd.C_drew ?_)))
            (case side2 => exact HC0_3.out)
            (case side3 => repeat (first | exact (Kd.C_below HR0_4.out HB.out) | (with_reducible refine Kd.C_alloc ?_ _) | (with_reducible refine Kd.C_drewN ?_ _) | (with_reducible refine Kd.C_drew ?_)))
            (case side4 => exact HC0_4.out)
            (case side5 => repeat (first | exact (Kd.R_reads' HO417.out).2.2 | (with_reducible refine Kd.C_alloc ?_ _) | (with_reducible refine Kd.C_drewN ?_ _) | (with_reducible refine Kd.C_drew ?_)))
            (case side6 => exact (Kd.R_reads' HO417.out).2.1)
            rintro e w77 ⟨v419, v422, rfl, ho0, ho1, hb⟩
            refine ⟨_, rfl, ?_⟩
            have n0_ := Aside0.mk (Kd.R_below (by (with_reducible repeat (first | apply Kd.R_alloc | apply Kd.R_drewN | apply Kd.R_drew)); exact HO_7.out) hb)
            have n1_ := Aside0.mk (Kd.R_below (by (with_reducible repeat (first | apply Kd.R_alloc | apply Kd.R_drewN | apply Kd.R_drew)); exact HO417.out) hb)
            have n2_ := Aside0.mk (Kd.R_lower ho0 (below_size (by repeat (first | (with_reducible first | exact HB.out | apply below_alloc | apply pw_below_drewN | apply below_drew1 | refine below_set ?_ GE413.out) | exact HB.out))))
            have n3_ := Aside0.mk (Kd.R_lower ho1 (below_size (by repeat (first | (with_reducible first | exact HB.out | apply below_alloc | apply pw_below_drewN | apply below_drew1 | refine below_set ?_ GE413.out) | exact HB.out))))
            have n4_ := Aside0.mk (blk_below (g := gb413) (o := .cells #[.int .i64 a0_0, .string a0_1, .string a0_2, .slice A0_3 l0_3.length c0_3, .slice A0_4 l0_4.length c0_4, .bool a0_5] 41 (0, 0)) (bk_ BK413) hb)
            have n5_ := Aside0.mk (below_step (by repeat (first | (with_reducible first | exact HB.out | apply below_alloc | apply pw_below_drewN | apply below_drew1 | refine below_set ?_ GE413.out) | exact HB.out)) hb)
            clear HO_7
            clear HO417
            clear BK413
            clear HB
            have HO_7 := n0_
            have HO417 := n1_
            have HO420 := n2_
            have HO423 := n3_
            have BK413 := n4_
            have HB := n5_
            clear n0_ n1_ n2_ n3_ n4_ n5_
            (try clear hb)
            (try clear hb2)
            (try clear hk)
            (try clear hi)
            (try clear ho0)
            (try clear ho1)
            refine hK.out _ _ ⟨(blk_cell BK413.out 0).trans rfl, (blk_cell BK413.out 1).trans rfl, (blk_cell BK413.out 2).trans rfl, (blk_cell BK413.out 3).trans rfl, (blk_cell BK413.out 4).trans rfl, (blk_cell BK413.out 5).trans rfl⟩ (fun hHeld => ?_)
            clear hK K
            refine norm_ (a' := ?_) ?_ ?_
            rotate_left
            ·show Act.put _ (some 121) _ = _
             simp only [Act.put, List.setIfInBounds_toArray, List.set_cons_zero, List.set_cons_succ, i64_w, i32_w]
             rfl
            refine pure_ (i := 4) (N := some 117) (v := ?_) (a' := ?_) #[true, true, true, true, true, false, false, false, false, false, false] rfl rfl (any_of HT_.out (by kernel_rfl)) (fun _ _ _ h => h) (Or.inl ⟨by rfl, ?_⟩) ?_ ?_
            rotate_left
            ·intro w'
             go_simp
             with_reducible rfl
            rotate_left
            ·simp only [Act.put, List.setIfInBounds_toArray, List.set_cons_zero, List.set_cons_succ, i64_w, i32_w]
             rfl
            refine pure_ (i := 5) (N := some 122) (v := ?_) (a' := ?_) #[true, true, true, true, true, true, false, false, false, false, false] rfl rfl (any_of HT_.out (by kernel_rfl)) (fun _ _ _ h => h) (Or.inl ⟨by rfl, ?_⟩) ?_ ?_
            rotate_left
            ·intro w'
             go_simp
             with_reducible rfl
            rotate_left
            ·simp only [Act.put, List.setIfInBounds_toArray, List.set_cons_zero, List.set_cons_succ, i64_w, i32_w]
             rfl
            refine pure_ (i := 6) (N := some 123) (v := ?_) (a' := ?_) #[true, true, true, true, true, true, true, false, false, false, false] rfl rfl (any_of HT_.out (by kernel_rfl)) (fun _ _ _ h => h) (Or.inl ⟨by rfl, ?_⟩) ?_ ?_
            rotate_left
            ·intro w'
             go_simp
             with_reducible rfl
            rotate_left
            ·simp only [Act.put, List.setIfInBounds_toArray, List.set_cons_zero, List.set_cons_succ, i64_w, i32_w]
             rfl
            refine pure_ (i := 7) (N := some 124) (v := ?_) (a' := ?_) #[true, true, true, true, true, true, true, true, false, false, false] rfl rfl (any_of HT_.out (by kernel_rfl)) (fun _ _ _ h => h) (Or.inl ⟨by rfl, ?_⟩) ?_ ?_
            rotate_left
            ·intro w'
             go_simp
             with_reducible rfl
            rotate_left
            ·simp only [Act.put, List.setIfInBounds_toArray, List.set_cons_zero, List.set_cons_succ, i64_w, i32_w]
             rfl
            refine pure_ (i := 8) (N := some 11) (v := ?_) (a' := ?_) #[true, true, true, true, true, true, true, true, true, false, false] rfl rfl (any_of HT_.out (by kernel_rfl)) (fun _ _ _ h => h) (Or.inl ⟨by rfl, ?_⟩) ?_ ?_
            rotate_left
            ·intro w'
             go_simp
             with_reducible rfl
            rotate_left
            ·simp only [Act.put, List.setIfInBounds_toArray, List.set_cons_zero, List.set_cons_succ, i64_w, i32_w]
             rfl
            refine pure_ (i := 9) (N := some 12) (v := ?_) (a' := ?_) #[true, true, true, true, true, true, true, true, true, true, false] rfl rfl (any_of HT_.out (by kernel_rfl)) (fun _ _ _ h => h) (Or.inl ⟨by rfl, ?_⟩) ?_ ?_
            rotate_left
            ·intro w'
             go_simp
             with_reducible rfl
            rotate_left
            ·simp only [Act.put, List.setIfInBounds_toArray, List.set_cons_zero, List.set_cons_succ, i64_w, i32_w]
             rfl
            refine pure_ (i := 10) (N := some 13) (v := ?_) (a' := ?_) #[true, true, true, true, true, true, true, true, true, true, true] rfl rfl (any_of HT_.out (by kernel_rfl)) (fun _ _ _ h => h) (Or.inl ⟨by rfl, ?_⟩) ?_ ?_
            rotate_left
            ·intro w'
             go_simp
             with_reducible rfl
            rotate_left
            ·simp only [Act.put, List.setIfInBounds_toArray, List.set_cons_zero, List.set_cons_succ, i64_w, i32_w]
             rfl
            refine done_ (done_of HT_.out (by kernel_rfl)) ?_
            try go_wp2
            have n0_ := Aside0.mk (Kd.R_drew HO_7.out)
            have n1_ := Aside0.mk (Kd.R_drew HO417.out)
            have n2_ := Aside0.mk (Kd.R_drew HO420.out)
            have n3_ := Aside0.mk (Kd.R_drew HO423.out)
            have n4_ := Aside0.mk (blk_drew BK413.out)
            have n5_ := Aside0.mk (below_drew1 HB.out)
            clear HO_7
            clear HO417
            clear HO420
            clear HO423
            clear BK413
            clear HB
            have HO_7 := n0_
            have HO417 := n1_
            have HO420 := n2_
            have HO423 := n3_
            have BK413 := n4_
            have HB := n5_
            clear n0_ n1_ n2_ n3_ n4_ n5_
            have q79 : ((l0_3.length : Int) : Int) ≤ ((l2.length : Int) : Int) := of_decide_eq_true (by first | (with_reducible assumption) | assumption)
            obtain ⟨i079, hi079, _, hsz79, _⟩ := info_parts info25
            have hroom79 : l2.length ≤ c2 := HC2.out
            have hC79 : Kd.C k25 _ A2 l2.length l2 := HR2.out
            have hcut79 := cut_to (P := Try.prog) 52 25 .i64 Try.underlying52 hi079 A2 l2.length c2 (l0_3.length : Int) (of_decide_eq_true (by first | (with_reducible assumption) | assumption)) q79 hroom79
            have hr79 := Kd.C_take (m := ((l0_3.length : Int) : Int).toNat) hC79 (by omega)
            have hy79 : y425.length = ((l0_3.length : Int) : Int).toNat := (by rw [Ny425.out, List.length_take]; omega)
            rw [← Ny425.out] at hr79
            rw [← hy79] at hcut79
            have HR428 := Aside0.mk hr79
            have HC428 := Aside0.mk (show y425.length ≤ c2 from by omega)
            clear hr79 hC79 hroom79 hi079 hsz79
            have KY79 := Aside0.mk hy79
            clear hy79
            replace q79 := eq_true q79
            refine start_ (n := 10) (S := fun w' => w'.cell? ⟨gb413, 0, none⟩ = some (.int .i64 a0_0) ∧ w'.cell? ⟨gb413, 1, none⟩ = some (.string a0_1) ∧ w'.cell? ⟨gb413, 2, none⟩ = some (.string a0_2) ∧ w'.cell? ⟨gb413, 3, none⟩ = some (.slice A0_3 l0_3.length c0_3) ∧ w'.cell? ⟨gb413, 4, none⟩ = some (.slice A0_4 l0_4.length c0_4) ∧ w'.cell? ⟨gb413, 5, none⟩ = some (.bool a0_5)) (ds := []) #[false, false, false, false, false, false, false, false, false, false] (by kernel_rfl) rfl rfl ⟨(blk_cell BK413.out 0).trans rfl, (blk_cell BK413.out 1).trans rfl, (blk_cell BK413.out 2).trans rfl, (blk_cell BK413.out 3).trans rfl, (blk_cell BK413.out 4).trans rfl, (blk_cell BK413.out 5).trans rfl⟩ (fun hHeld => ?_); refine with_tabW quarrylaw19_BoundsPoint.tab20 quarrylaw19_BoundsPoint.bits20 (fun HT_ HW_ => ?_)
            generalize w77.drew = w78 at HO_7 HO417 HO420 HO423 BK413 HB HR428 hHeld ⊢
            refine pure_ (i := 0) (N := some 125) (v := ?_) (a' := ?_) #[true, false, false, false, false, false, false, false, false, false] rfl rfl (any_of HT_.out (by kernel_rfl)) (fun _ _ _ h => h) (Or.inl ⟨by rfl, ?_⟩) ?_ ?_
            rotate_left
            ·intro w'
             go_simp
             with_reducible rfl
            rotate_left
            ·simp only [Act.put, List.setIfInBounds_toArray, List.set_cons_zero, List.set_cons_succ, i64_w, i32_w]
             rfl
            refine pure_ (i := 1) (N := some 126) (v := ?_) (a' := ?_) #[true, true, false, false, false, false, false, false, false, false] rfl rfl (any_of HT_.out (by kernel_rfl)) (fun _ _ _ h => h) (Or.inl ⟨by rfl, ?_⟩) ?_ ?_
            rotate_left
            ·intro w'
             go_simp
             with_reducible rfl
            rotate_left
            ·simp only [Act.put, List.setIfInBounds_toArray, List.set_cons_zero, List.set_cons_succ, i64_w, i32_w]
             rfl
            refine pure_ (i := 5) (N := some 130) (v := ?_) (a' := ?_) #[true, true, false, false, false, true, false, false, false, false] rfl rfl (any_of HT_.out (by kernel_rfl)) (fun _ _ _ h => h) (Or.inl ⟨by rfl, ?_⟩) ?_ ?_
            rotate_left
            ·intro w'
             go_simp
             with_reducible rfl
            rotate_left
            ·simp only [Act.put, List.setIfInBounds_toArray, List.set_cons_zero, List.set_cons_succ, i64_w, i32_w]
             rfl
            refine take_ (i := 2) (N := some 127) (v := ?_) (a' := ?_) #[true, true, true, false, false, true, false, false, false, false] rfl rfl (take_ofW HT_.out HW_.out (by kernel_rfl)) (fun _ _ _ h => h) (Or.inl ⟨by rfl, ?_⟩) hHeld ?_ ?_
            rotate_left
            ·rintro w' ⟨s0, s1, s2, s3, s4, s5⟩
             go_simp
             with_reducible rfl
            rotate_left
            ·simp only [Act.put, List.setIfInBounds_toArray, List.set_cons_zero, List.set_cons_succ, i64_w, i32_w]
             rfl
            refine pure_ (i := 3) (N := some 128) (v := ?_) (a' := ?_) #[true, true, true, true, false, true, false, false, false, false] rfl rfl (any_of HT_.out (by kernel_rfl)) (fun _ _ _ h => h) (Or.inl ⟨by rfl, ?_⟩) ?_ ?_
            rotate_left
            ·intro w'
             go_simp
             with_reducible rfl
            rotate_left
            ·simp only [Act.put, List.setIfInBounds_toArray, List.set_cons_zero, List.set_cons_succ, i64_w, i32_w]
             rfl
            refine pure_ (i := 4) (N := some 129) (v := ?_) (a' := ?_) #[true, true, true, true, true, true, false, false, false, false] rfl rfl (any_of HT_.out (by kernel_rfl)) (fun _ _ _ h => h) (Or.inl ⟨by rfl, ?_⟩) ?_ ?_
            rotate_left
            ·intro w'
             go_simp
             with_reducible rfl
            rotate_left
            ·simp only [Act.put, List.setIfInBounds_toArray, List.set_cons_zero, List.set_cons_succ, i64_w, i32_w]
             rfl
            refine take_ (i := 6) (N := some 131) (v := ?_) (a' := ?_) #[true, true, true, true, true, true, true, false, false, false] rfl rfl (take_ofW HT_.out HW_.out (by kernel_rfl)) (fun _ _ _ h => h) (Or.inl ⟨by rfl, ?_⟩) hHeld ?_ ?_
            rotate_left
            ·rintro w' ⟨s0, s1, s2, s3, s4, s5⟩
             go_simp
             with_reducible rfl
            rotate_left
            ·simp only [Act.put, List.setIfInBounds_toArray, List.set_cons_zero, List.set_cons_succ, i64_w, i32_w]
             rfl
            refine one_ (i := 7) (N := some 132) #[true, true, true, true, true, true, true, true, false, false] rfl rfl (one_of HT_.out (by kernel_rfl)) (by decide) (fun K hK => ?_)
            refine goes_ Try.func24 (by kernel_rfl) rfl #[.slice A2 y425.length c2, .slice A0_4 l0_4.length c0_4] (by rfl) rfl rfl (by (try simp only [List.map_toArray, List.map_cons, List.map_nil]); first | done | rfl | (simp only [List.length_drop, List.length_take]; rfl)) ?_
            with_reducible refine (quarrylaw19_key.calls k2 _ _ y425 _ _ l0_4 t429 _ ?side1 ?side2 ?side3 ?side4 A58.out).mono ?_
            (case side1 => repeat (first | exact (Kd.C_below HR428.out HB.out) | (with_reducible refine Kd.C_alloc ?_ _) | (with_reducible refine Kd.C_drewN ?_ _) | (with_reducible refine Kd.C_drew ?_)))
            (case side2 => exact HC428.out)
            (case side3 => repeat (first | exact (Kd.C_below HR0_4.out HB.out) | (with_reducible refine Kd.C_alloc ?_ _) | (with_reducible refine Kd.C_drewN ?_ _) | (with_reducible refine Kd.C_drew ?_)))
            (case side4 => exact HC0_4.out)
            rintro e w80 ⟨v430, rfl, ho0, hb⟩
            refine ⟨_, rfl, ?_⟩
            have n0_ := Aside0.mk (Kd.R_below (by (with_reducible repeat (first | apply Kd.R_alloc | apply Kd.R_drewN | apply Kd.R_drew)); exact HO_7.out) hb)
            have n1_ := Aside0.mk (Kd.R_below (by (with_reducible repeat (first | apply Kd.R_alloc | apply Kd.R_drewN | apply Kd.R_drew)); exact HO417.out) hb)
            have n2_ := Aside0.mk (Kd.R_elder' (by (with_reducible repeat (first | apply Kd.R_alloc | apply Kd.R_drewN | apply Kd.R_drew)); exact HO420.out) (Kd.R_base ho0) hb)
            have n3_ := Aside0.mk (Kd.R_elder' (by (with_reducible repeat (first | apply Kd.R_alloc | apply Kd.R_drewN | apply Kd.R_drew)); exact HO423.out) (Kd.R_base ho0) hb)
            have n4_ := Aside0.mk (Kd.R_lower (Kd.R_new' (Kd.R_new' ho0 (Kd.R_lt (by (with_reducible repeat (first | apply Kd.R_alloc | apply Kd.R_drewN | apply Kd.R_drew)); exact HO420.out))) (Kd.R_lt (by (with_reducible repeat (first | apply Kd.R_alloc | apply Kd.R_drewN | apply Kd.R_drew)); exact HO423.out))) (below_size (by repeat (first | (with_reducible first | exact HB.out | apply below_alloc | apply pw_below_drewN | apply below_drew1 | refine below_set ?_ GE413.out) | exact HB.out))))
            have n5_ := Aside0.mk (blk_below (g := gb413) (o := .cells #[.int .i64 a0_0, .string a0_1, .string a0_2, .slice A0_3 l0_3.length c0_3, .slice A0_4 l0_4.length c0_4, .bool a0_5] 41 (0, 0)) (bk_ BK413) hb)
            have n6_ := Aside0.mk (below_step (by repeat (first | (with_reducible first | exact HB.out | apply below_alloc | apply pw_below_drewN | apply below_drew1 | refine below_set ?_ GE413.out) | exact HB.out)) hb)
            clear HO_7
            clear HO417
            clear HO420
            clear HO423
            clear BK413
            clear HB
            have HO_7 := n0_
            have HO417 := n1_
            have HO420 := n2_
            have HO423 := n3_
            have HO431 := n4_
            have BK413 := n5_
            have HB := n6_
            clear n0_ n1_ n2_ n3_ n4_ n5_ n6_
            (try clear hb)
            (try clear hb2)
            (try clear hk)
            (try clear hi)
            (try clear ho0)
            refine hK.out _ _ ⟨(blk_cell BK413.out 0).trans rfl, (blk_cell BK413.out 1).trans rfl, (blk_cell BK413.out 2).trans rfl, (blk_cell BK413.out 3).trans rfl, (blk_cell BK413.out 4).trans rfl, (blk_cell BK413.out 5).trans rfl⟩ (fun hHeld => ?_)
            clear hK K
            refine norm_ (a' := ?_) ?_ ?_
            rotate_left
            ·show Act.put _ (some 132) _ = _
             simp only [Act.put, List.setIfInBounds_toArray, List.set_cons_zero, List.set_cons_succ, i64_w, i32_w]
             rfl
            refine one_ (i := 8) (N := some 133) #[true, true, true, true, true, true, true, true, true, false] rfl rfl (one_of HT_.out (by kernel_rfl)) (by decide) (fun K hK => ?_)
            have hcv81 := own_string (P := Try.prog) Try.underlying44 Try.underlying5 Try.underlying9 (Kd.own_of_R HO431.out)
            refine value_ (w1 := ?_) (v := ?_) (by rfl) rfl ?_ ?_
            rotate_left 2
            ·go_simp
             constructor
             ·rfl
             ·rfl
            clear hcv81
            refine hK.out _ _ ⟨(blk_cell BK413.out 0).trans rfl, (blk_cell BK413.out 1).trans rfl, (blk_cell BK413.out 2).trans rfl, (blk_cell BK413.out 3).trans rfl, (blk_cell BK413.out 4).trans rfl, (blk_cell BK413.out 5).trans rfl⟩ (fun hHeld => ?_)
            clear hK K
            refine norm_ (a' := ?_) ?_ ?_
            rotate_left
            ·show Act.put _ (some 133) _ = _
             simp only [Act.put, List.setIfInBounds_toArray, List.set_cons_zero, List.set_cons_succ, i64_w, i32_w]
             rfl
            refine pure_ (i := 9) (N := some 14) (v := ?_) (a' := ?_) #[true, true, true, true, true, true, true, true, true, true] rfl rfl (any_of HT_.out (by kernel_rfl)) (fun _ _ _ h => h) (Or.inl ⟨by rfl, ?_⟩) ?_ ?_
            rotate_left
            ·intro w'
             go_simp
             with_reducible rfl
            rotate_left
            ·simp only [Act.put, List.setIfInBounds_toArray, List.set_cons_zero, List.set_cons_succ, i64_w, i32_w]
             rfl
            refine done_ (done_of HT_.out (by kernel_rfl)) ?_
            have hcv82 := own_string (P := Try.prog) Try.underlying44 Try.underlying5 Try.underlying9 (Kd.own_of_R HO420.out)
            try go_wp2
            go_ret
            exact ⟨by first | rfl | (simp [errW_none, errW_some] <;> rfl) | (simp [*, errW_none, errW_some] <;> rfl), by repeat (first | (with_reducible first | exact HB.out | apply below_alloc | apply pw_below_drewN | apply below_drew1 | refine below_set ?_ GE413.out) | exact HB.out)⟩
           ·replace c71 := Bool.eq_false_iff.mpr c71
            subst c71
            have H1 : (some ((Op.bytesLess ((strOfNums t429).toList) ((strOfNums t421).toList)) == x8_2)) = some r := by rw [if_neg (show ¬ (false = true) by decide)] at H; exact H
            clear H
            have H := H1
            clear H1
            obtain rfl := Option.some.inj H
            have hcz83_0 : wr.cell? ⟨gb413, 0, none⟩ = some (.int .i64 a0_0) := (blk_cell BK413.out 0).trans rfl
            have hcz83_1 : wr.cell? ⟨gb413, 1, none⟩ = some (.string a0_1) := (blk_cell BK413.out 1).trans rfl
            have hcz83_2 : wr.cell? ⟨gb413, 2, none⟩ = some (.string a0_2) := (blk_cell BK413.out 2).trans rfl
            have hcz83_3 : wr.cell? ⟨gb413, 3, none⟩ = some (.slice A0_3 l0_3.length c0_3) := (blk_cell BK413.out 3).trans rfl
            have hcz83_4 : wr.cell? ⟨gb413, 4, none⟩ = some (.slice A0_4 l0_4.length c0_4) := (blk_cell BK413.out 4).trans rfl
            have hcz83_5 : wr.cell? ⟨gb413, 5, none⟩ = some (.bool a0_5) := (blk_cell BK413.out 5).trans rfl
            have hfz83_0 := blk_frozen BK413.out 0
            have hfz83_1 := blk_frozen BK413.out 1
            have hfz83_2 := blk_frozen BK413.out 2
            have hfz83_3 := blk_frozen BK413.out 3
            have hfz83_4 := blk_frozen BK413.out 4
            have hfz83_5 := blk_frozen BK413.out 5
            try go_wp2
            have n0_ := Aside0.mk (Kd.R_drew HO_7.out)
            have n1_ := Aside0.mk (blk_drew BK413.out)
            have n2_ := Aside0.mk (below_drew1 HB.out)
            clear HO_7
            clear BK413
            clear HB
            have HO_7 := n0_
            have BK413 := n1_
            have HB := n2_
            clear n0_ n1_ n2_
            obtain ⟨Ao85, co85, eo85⟩ := Kd.R_slice HO_7.out
            (first | subst eo85 | (injection eo85 with f1_ f2_ f3_; have f4_ := f1_.symm; have f5_ := f3_.symm; clear f1_ f2_ f3_; subst f4_; subst f5_))
            refine start_ (n := 11) (S := fun w' => w'.cell? ⟨gb413, 0, none⟩ = some (.int .i64 a0_0) ∧ w'.cell? ⟨gb413, 1, none⟩ = some (.string a0_1) ∧ w'.cell? ⟨gb413, 2, none⟩ = some (.string a0_2) ∧ w'.cell? ⟨gb413, 3, none⟩ = some (.slice A0_3 l0_3.length c0_3) ∧ w'.cell? ⟨gb413, 4, none⟩ = some (.slice A0_4 l0_4.length c0_4) ∧ w'.cell? ⟨gb413, 5, none⟩ = some (.bool a0_5)) (ds := []) #[false, false, false, false, false, false, false, false, false, false, false] (by kernel_rfl) rfl rfl ⟨(blk_cell BK413.out 0).trans rfl, (blk_cell BK413.out 1).trans rfl, (blk_cell BK413.out 2).trans rfl, (blk_cell BK413.out 3).trans rfl, (blk_cell BK413.out 4).trans rfl, (blk_cell BK413.out 5).trans rfl⟩ (fun hHeld => ?_); refine with_tabW quarrylaw19_BoundsPoint.tab19 quarrylaw19_BoundsPoint.bits19 (fun HT_ HW_ => ?_)
            generalize wr.drew = w84 at HO_7 BK413 HB hHeld ⊢
            refine pure_ (i := 1) (N := some 119) (v := ?_) (a' := ?_) #[false, true, false, false, false, false, false, false, false, false, false] rfl rfl (any_of HT_.out (by kernel_rfl)) (fun _ _ _ h => h) (Or.inl ⟨by rfl, ?_⟩) ?_ ?_
            rotate_left
            ·intro w'
             go_simp
             with_reducible rfl
            rotate_left
            ·simp only [Act.put, List.setIfInBounds_toArray, List.set_cons_zero, List.set_cons_succ, i64_w, i32_w]
             rfl
            refine take_ (i := 0) (N := some 118) (v := ?_) (a' := ?_) #[true, true, false, false, false, false, false, false, false, false, false] rfl rfl (take_ofW HT_.out HW_.out (by kernel_rfl)) (fun _ _ _ h => h) (Or.inl ⟨by rfl, ?_⟩) hHeld ?_ ?_
            rotate_left
            ·rintro w' ⟨s0, s1, s2, s3, s4, s5⟩
             go_simp
             with_reducible rfl
            rotate_left
            ·simp only [Act.put, List.setIfInBounds_toArray, List.set_cons_zero, List.set_cons_succ, i64_w, i32_w]
             rfl
            refine one_ (i := 2) (N := some 120) #[true, true, true, false, false, false, false, false, false, false, false] rfl rfl (one_of HT_.out (by kernel_rfl)) (by decide) (fun K hK => ?_)
            refine goes_ Try.func16 (by kernel_rfl) rfl #[.slice Ao85 x7_2.length co85] (by rfl) rfl rfl (by (try simp only [List.map_toArray, List.map_cons, List.map_nil]); first | done | rfl | (simp only [List.length_drop, List.length_take]; rfl)) ?_
            with_reducible refine (quarrylaw19_its.calls k2 _ _ x7_2 t415 _ ?side1 ?side2 A54.out).mono ?_
            (case side1 => repeat (first | exact (Kd.R_reads' HO_7.out).2.2 | (with_reducible refine Kd.C_alloc ?_ _) | (with_reducible refine Kd.C_drewN ?_ _) | (with_reducible refine Kd.C_drew ?_)))
            (case side2 => exact (Kd.R_reads' HO_7.out).2.1)
            rintro e w86 ⟨v416, rfl, ho0, hb⟩
            refine ⟨_, rfl, ?_⟩
            have n0_ := Aside0.mk (Kd.R_below (by (with_reducible repeat (first | apply Kd.R_alloc | apply Kd.R_drewN | apply Kd.R_drew)); exact HO_7.out) hb)
            have n1_ := Aside0.mk (Kd.R_lower ho0 (below_size (by repeat (first | (with_reducible first | exact HB.out | apply below_alloc | apply pw_below_drewN | apply below_drew1 | refine below_set ?_ GE413.out) | exact HB.out))))
            have n2_ := Aside0.mk (blk_below (g := gb413) (o := .cells #[.int .i64 a0_0, .string a0_1, .string a0_2, .slice A0_3 l0_3.length c0_3, .slice A0_4 l0_4.length c0_4, .bool a0_5] 41 (0, 0)) (bk_ BK413) hb)
            have n3_ := Aside0.mk (below_step (by repeat (first | (with_reducible first | exact HB.out | apply below_alloc | apply pw_below_drewN | apply below_drew1 | refine below_set ?_ GE413.out) | exact HB.out)) hb)
            clear HO_7
            clear BK413
            clear HB
            have HO_7 := n0_
            have HO417 := n1_
            have BK413 := n2_
            have HB := n3_
            clear n0_ n1_ n2_ n3_
            (try clear hb)
            (try clear hb2)
            (try clear hk)
            (try clear hi)
            (try clear ho0)
            obtain ⟨Ao87, co87, eo87⟩ := Kd.R_slice HO417.out
            (first | subst eo87 | (injection eo87 with f1_ f2_ f3_; have f4_ := f1_.symm; have f5_ := f3_.symm; clear f1_ f2_ f3_; subst f4_; subst f5_))
            refine hK.out _ _ ⟨(blk_cell BK413.out 0).trans rfl, (blk_cell BK413.out 1).trans rfl, (blk_cell BK413.out 2).trans rfl, (blk_cell BK413.out 3).trans rfl, (blk_cell BK413.out 4).trans rfl, (blk_cell BK413.out 5).trans rfl⟩ (fun hHeld => ?_)
            clear hK K
            refine norm_ (a' := ?_) ?_ ?_
            rotate_left
            ·show Act.put _ (some 120) _ = _
             simp only [Act.put, List.setIfInBounds_toArray, List.set_cons_zero, List.set_cons_succ, i64_w, i32_w]
             rfl
            refine one_ (i := 3) (N := some 121) #[true, true, true, true, false, false, false, false, false, false, false] rfl rfl (one_of HT_.out (by kernel_rfl)) (by decide) (fun K hK => ?_)
            refine goes_ Try.func15 (by kernel_rfl) rfl #[.agg #[.int .i64 a0_0, .string a0_1, .string a0_2, .slice A0_3 l0_3.length c0_3, .slice A0_4 l0_4.length c0_4, .bool a0_5], .slice Ao87 t415.length co87] (by rfl) rfl rfl (by (try simp only [List.map_toArray, List.map_cons, List.map_nil]); first | done | rfl | (simp only [List.length_drop, List.length_take]; rfl)) ?_
            with_reducible refine (bounds_Range.calls k2 a0_0 a0_1 a0_2 _ _ l0_3 _ _ l0_4 a0_5 _ _ t415 t418 t421 false _ ?side1 ?side2 ?side3 ?side4 ?side5 ?side6 A55.out).mono ?_
            (case side1 => repeat (first | exact (Kd.C_below HR0_3.out HB.out) | (with_reducible refine Kd.C_alloc ?_ _) | (with_reducible refine Kd.C_drewN ?_ _) | (with_reducible refine Kd.C_drew ?_)))
            (case side2 => exact HC0_3.out)
            (case side3 => repeat (first | exact (Kd.C_below HR0_4.out HB.out) | (with_reducible refine Kd.C_alloc ?_ _) | (with_reducible refine Kd.C_drewN ?_ _) | (with_reducible refine Kd.C_drew ?_)))
            (case side4 => exact HC0_4.out)
            (case side5 => repeat (first | exact (Kd.R_reads' HO417.out).2.2 | (with_reducible refine Kd.C_alloc ?_ _) | (with_reducible refine Kd.C_drewN ?_ _) | (with_reducible refine Kd.C_drew ?_)))
            (case side6 => exact (Kd.R_reads' HO417.out).2.1)
            rintro e w88 ⟨v419, v422, rfl, ho0, ho1, hb⟩
            refine ⟨_, rfl, ?_⟩
            have n0_ := Aside0.mk (Kd.R_below (by (with_reducible repeat (first | apply Kd.R_alloc | apply Kd.R_drewN | apply Kd.R_drew)); exact HO_7.out) hb)
            have n1_ := Aside0.mk (Kd.R_below (by (with_reducible repeat (first | apply Kd.R_alloc | apply Kd.R_drewN | apply Kd.R_drew)); exact HO417.out) hb)
            have n2_ := Aside0.mk (Kd.R_lower ho0 (below_size (by repeat (first | (with_reducible first | exact HB.out | apply below_alloc | apply pw_below_drewN | apply below_drew1 | refine below_set ?_ GE413.out) | exact HB.out))))
            have n3_ := Aside0.mk (Kd.R_lower ho1 (below_size (by repeat (first | (with_reducible first | exact HB.out | apply below_alloc | apply pw_below_drewN | apply below_drew1 | refine below_set ?_ GE413.out) | exact HB.out))))
            have n4_ := Aside0.mk (blk_below (g := gb413) (o := .cells #[.int .i64 a0_0, .string a0_1, .string a0_2, .slice A0_3 l0_3.length c0_3, .slice A0_4 l0_4.length c0_4, .bool a0_5] 41 (0, 0)) (bk_ BK413) hb)
            have n5_ := Aside0.mk (below_step (by repeat (first | (with_reducible first | exact HB.out | apply below_alloc | apply pw_below_drewN | apply below_drew1 | refine below_set ?_ GE413.out) | exact HB.out)) hb)
            clear HO_7
            clear HO417
            clear BK413
            clear HB
            have HO_7 := n0_
            have HO417 := n1_
            have HO420 := n2_
            have HO423 := n3_
            have BK413 := n4_
            have HB := n5_
            clear n0_ n1_ n2_ n3_ n4_ n5_
            (try clear hb)
            (try clear hb2)
            (try clear hk)
            (try clear hi)
            (try clear ho0)
            (try clear ho1)
            refine hK.out _ _ ⟨(blk_cell BK413.out 0).trans rfl, (blk_cell BK413.out 1).trans rfl, (blk_cell BK413.out 2).trans rfl, (blk_cell BK413.out 3).trans rfl, (blk_cell BK413.out 4).trans rfl, (blk_cell BK413.out 5).trans rfl⟩ (fun hHeld => ?_)
            clear hK K
            refine norm_ (a' := ?_) ?_ ?_
            rotate_left
            ·show Act.put _ (some 121) _ = _
             simp only [Act.put, List.setIfInBounds_toArray, List.set_cons_zero, List.set_cons_succ, i64_w, i32_w]
             rfl
            refine pure_ (i := 4) (N := some 117) (v := ?_) (a' := ?_) #[true, true, true, true, true, false, false, false, false, false, false] rfl rfl (any_of HT_.out (by kernel_rfl)) (fun _ _ _ h => h) (Or.inl ⟨by rfl, ?_⟩) ?_ ?_
            rotate_left
            ·intro w'
             go_simp
             with_reducible rfl
            rotate_left
            ·simp only [Act.put, List.setIfInBounds_toArray, List.set_cons_zero, List.set_cons_succ, i64_w, i32_w]
             rfl
            refine pure_ (i := 5) (N := some 122) (v := ?_) (a' := ?_) #[true, true, true, true, true, true, false, false, false, false, false] rfl rfl (any_of HT_.out (by kernel_rfl)) (fun _ _ _ h => h) (Or.inl ⟨by rfl, ?_⟩) ?_ ?_
            rotate_left
            ·intro w'
             go_simp
             with_reducible rfl
            rotate_left
            ·simp only [Act.put, List.setIfInBounds_toArray, List.set_cons_zero, List.set_cons_succ, i64_w, i32_w]
             rfl
            refine pure_ (i := 6) (N := some 123) (v := ?_) (a' := ?_) #[true, true, true, true, true, true, true, false, false, false, false] rfl rfl (any_of HT_.out (by kernel_rfl)) (fun _ _ _ h => h) (Or.inl ⟨by rfl, ?_⟩) ?_ ?_
            rotate_left
            ·intro w'
             go_simp
             with_reducible rfl
            rotate_left
            ·simp only [Act.put, List.setIfInBounds_toArray, List.set_cons_zero, List.set_cons_succ, i64_w, i32_w]
             rfl
            refine pure_ (i := 7) (N := some 124) (v := ?_) (a' := ?_) #[true, true, true, true, true, true, true, true, false, false, false] rfl rfl (any_of HT_.out (by kernel_rfl)) (fun _ _ _ h => h) (Or.inl ⟨by rfl, ?_⟩) ?_ ?_
            rotate_left
            ·intro w'
             go_simp
             with_reducible rfl
            rotate_left
            ·simp only [Act.put, List.setIfInBounds_toArray, List.set_cons_zero, List.set_cons_succ, i64_w, i32_w]
             rfl
            refine pure_ (i := 8) (N := some 11) (v := ?_) (a' := ?_) #[true, true, true, true, true, true, true, true, true, false, false] rfl rfl (any_of HT_.out (by kernel_rfl)) (fun _ _ _ h => h) (Or.inl ⟨by rfl, ?_⟩) ?_ ?_
            rotate_left
            ·intro w'
             go_simp
             with_reducible rfl
            rotate_left
            ·simp only [Act.put, List.setIfInBounds_toArray, List.set_cons_zero, List.set_cons_succ, i64_w, i32_w]
             rfl
            refine pure_ (i := 9) (N := some 12) (v := ?_) (a' := ?_) #[true, true, true, true, true, true, true, true, true, true, false] rfl rfl (any_of HT_.out (by kernel_rfl)) (fun _ _ _ h => h) (Or.inl ⟨by rfl, ?_⟩) ?_ ?_
            rotate_left
            ·intro w'
             go_simp
             with_reducible rfl
            rotate_left
            ·simp only [Act.put, List.setIfInBounds_toArray, List.set_cons_zero, List.set_cons_succ, i64_w, i32_w]
             rfl
            refine pure_ (i := 10) (N := some 13) (v := ?_) (a' := ?_) #[true, true, true, true, true, true, true, true, true, true, true] rfl rfl (any_of HT_.out (by kernel_rfl)) (fun _ _ _ h => h) (Or.inl ⟨by rfl, ?_⟩) ?_ ?_
            rotate_left
            ·intro w'
             go_simp
             with_reducible rfl
            rotate_left
            ·simp only [Act.put, List.setIfInBounds_toArray, List.set_cons_zero, List.set_cons_succ, i64_w, i32_w]
             rfl
            refine done_ (done_of HT_.out (by kernel_rfl)) ?_
            try go_wp2
            have n0_ := Aside0.mk (Kd.R_drew HO_7.out)
            have n1_ := Aside0.mk (Kd.R_drew HO417.out)
            have n2_ := Aside0.mk (Kd.R_drew HO420.out)
            have n3_ := Aside0.mk (Kd.R_drew HO423.out)
            have n4_ := Aside0.mk (blk_drew BK413.out)
            have n5_ := Aside0.mk (below_drew1 HB.out)
            clear HO_7
            clear HO417
            clear HO420
            clear HO423
            clear BK413
            clear HB
            have HO_7 := n0_
            have HO417 := n1_
            have HO420 := n2_
            have HO423 := n3_
            have BK413 := n4_
            have HB := n5_
            clear n0_ n1_ n2_ n3_ n4_ n5_
            have q90 : ((l0_3.length : Int) : Int) ≤ ((l2.length : Int) : Int) := of_decide_eq_true (by first | (with_reducible assumption) | assumption)
            obtain ⟨i090, hi090, _, hsz90, _⟩ := info_parts info25
            have hroom90 : l2.length ≤ c2 := HC2.out
            have hC90 : Kd.C k25 _ A2 l2.length l2 := HR2.out
            have hcut90 := cut_to (P := Try.prog) 52 25 .i64 Try.underlying52 hi090 A2 l2.length c2 (l0_3.length : Int) (of_decide_eq_true (by first | (with_reducible assumption) | assumption)) q90 hroom90
            have hr90 := Kd.C_take (m := ((l0_3.length : Int) : Int).toNat) hC90 (by omega)
            have hy90 : y425.length = ((l0_3.length : Int) : Int).toNat := (by rw [Ny425.out, List.length_take]; omega)
            rw [← Ny425.out] at hr90
            rw [← hy90] at hcut90
            have HR428 := Aside0.mk hr90
            have HC428 := Aside0.mk (show y425.length ≤ c2 from by omega)
            clear hr90 hC90 hroom90 hi090 hsz90
            have KY90 := Aside0.mk hy90
            clear hy90
            replace q90 := eq_true q90
            refine start_ (n := 10) (S := fun w' => w'.cell? ⟨gb413, 0, none⟩ = some (.int .i64 a0_0) ∧ w'.cell? ⟨gb413, 1, none⟩ = some (.string a0_1) ∧ w'.cell? ⟨gb413, 2, none⟩ = some (.string a0_2) ∧ w'.cell? ⟨gb413, 3, none⟩ = some (.slice A0_3 l0_3.length c0_3) ∧ w'.cell? ⟨gb413, 4, none⟩ = some (.slice A0_4 l0_4.length c0_4) ∧ w'.cell? ⟨gb413, 5, none⟩ = some (.bool a0_5)) (ds := []) #[false, false, false, false, false, false, false, false, false, false] (by kernel_rfl) rfl rfl ⟨(blk_cell BK413.out 0).trans rfl, (blk_cell BK413.out 1).trans rfl, (blk_cell BK413.out 2).trans rfl, (blk_cell BK413.out 3).trans rfl, (blk_cell BK413.out 4).trans rfl, (blk_cell BK413.out 5).trans rfl⟩ (fun hHeld => ?_); refine with_tabW quarrylaw19_BoundsPoint.tab20 quarrylaw19_BoundsPoint.bits20 (fun HT_ HW_ => ?_)
            generalize w88.drew = w89 at HO_7 HO417 HO420 HO423 BK413 HB HR428 hHeld ⊢
            refine pure_ (i := 0) (N := some 125) (v := ?_) (a' := ?_) #[true, false, false, false, false, false, false, false, false, false] rfl rfl (any_of HT_.out (by kernel_rfl)) (fun _ _ _ h => h) (Or.inl ⟨by rfl, ?_⟩) ?_ ?_
            rotate_left
            ·intro w'
             go_simp
             with_reducible rfl
            rotate_left
            ·simp only [Act.put, List.setIfInBounds_toArray, List.set_cons_zero, List.set_cons_succ, i64_w, i32_w]
             rfl
            refine pure_ (i := 1) (N := some 126) (v := ?_) (a' := ?_) #[true, true, false, false, false, false, false, false, false, false] rfl rfl (any_of HT_.out (by kernel_rfl)) (fun _ _ _ h => h) (Or.inl ⟨by rfl, ?_⟩) ?_ ?_
            rotate_left
            ·intro w'
             go_simp
             with_reducible rfl
            rotate_left
            ·simp only [Act.put, List.setIfInBounds_toArray, List.set_cons_zero, List.set_cons_succ, i64_w, i32_w]
             rfl
            refine pure_ (i := 5) (N := some 130) (v := ?_) (a' := ?_) #[true, true, false, false, false, true, false, false, false, false] rfl rfl (any_of HT_.out (by kernel_rfl)) (fun _ _ _ h => h) (Or.inl ⟨by rfl, ?_⟩) ?_ ?_
            rotate_left
            ·intro w'
             go_simp
             with_reducible rfl
            rotate_left
            ·simp only [Act.put, List.setIfInBounds_toArray, List.set_cons_zero, List.set_cons_succ, i64_w, i32_w]
             rfl
            refine take_ (i := 2) (N := some 127) (v := ?_) (a' := ?_) #[true, true, true, false, false, true, false, false, false, false] rfl rfl (take_ofW HT_.out HW_.out (by kernel_rfl)) (fun _ _ _ h => h) (Or.inl ⟨by rfl, ?_⟩) hHeld ?_ ?_
            rotate_left
            ·rintro w' ⟨s0, s1, s2, s3, s4, s5⟩
             go_simp
             with_reducible rfl
            rotate_left
            ·simp only [Act.put, List.setIfInBounds_toArray, List.set_cons_zero, List.set_cons_succ, i64_w, i32_w]
             rfl
            refine pure_ (i := 3) (N := some 128) (v := ?_) (a' := ?_) #[true, true, true, true, false, true, false, false, false, false] rfl rfl (any_of HT_.out (by kernel_rfl)) (fun _ _ _ h => h) (Or.inl ⟨by rfl, ?_⟩) ?_ ?_
            rotate_left
            ·intro w'
             go_simp
             with_reducible rfl
            rotate_left
            ·simp only [Act.put, List.setIfInBounds_toArray, List.set_cons_zero, List.set_cons_succ, i64_w, i32_w]
             rfl
            refine pure_ (i := 4) (N := some 129) (v := ?_) (a' := ?_) #[true, true, true, true, true, true, false, false, false, false] rfl rfl (any_of HT_.out (by kernel_rfl)) (fun _ _ _ h => h) (Or.inl ⟨by rfl, ?_⟩) ?_ ?_
            rotate_left
            ·intro w'
             go_simp
             with_reducible rfl
            rotate_left
            ·simp only [Act.put, List.setIfInBounds_toArray, List.set_cons_zero, List.set_cons_succ, i64_w, i32_w]
             rfl
            refine take_ (i := 6) (N := some 131) (v := ?_) (a' := ?_) #[true, true, true, true, true, true, true, false, false, false] rfl rfl (take_ofW HT_.out HW_.out (by kernel_rfl)) (fun _ _ _ h => h) (Or.inl ⟨by rfl, ?_⟩) hHeld ?_ ?_
            rotate_left
            ·rintro w' ⟨s0, s1, s2, s3, s4, s5⟩
             go_simp
             with_reducible rfl
            rotate_left
            ·simp only [Act.put, List.setIfInBounds_toArray, List.set_cons_zero, List.set_cons_succ, i64_w, i32_w]
             rfl
            refine one_ (i := 7) (N := some 132) #[true, true, true, true, true, true, true, true, false, false] rfl rfl (one_of HT_.out (by kernel_rfl)) (by decide) (fun K hK => ?_)
            refine goes_ Try.func24 (by kernel_rfl) rfl #[.slice A2 y425.length c2, .slice A0_4 l0_4.length c0_4] (by rfl) rfl rfl (by (try simp only [List.map_toArray, List.map_cons, List.map_nil]); first | done | rfl | (simp only [List.length_drop, List.length_take]; rfl)) ?_
            with_reducible refine (quarrylaw19_key.calls k2 _ _ y425 _ _ l0_4 t429 _ ?side1 ?side2 ?side3 ?side4 A58.out).mono ?_
            (case side1 => repeat (first | exact (Kd.C_below HR428.out HB.out) | (with_reducible refine Kd.C_alloc ?_ _) | (with_reducible refine Kd.C_drewN ?_ _) | (with_reducible refine Kd.C_drew ?_)))
            (case side2 => exact HC428.out)
            (case side3 => repeat (first | exact (Kd.C_below HR0_4.out HB.out) | (with_reducible refine Kd.C_alloc ?_ _) | (with_reducible refine Kd.C_drewN ?_ _) | (with_reducible refine Kd.C_drew ?_)))
            (case side4 => exact HC0_4.out)
            rintro e w91 ⟨v430, rfl, ho0, hb⟩
            refine ⟨_, rfl, ?_⟩
            have n0_ := Aside0.mk (Kd.R_below (by (with_reducible repeat (first | apply Kd.R_alloc | apply Kd.R_drewN | apply Kd.R_drew)); exact HO_7.out) hb)
            have n1_ := Aside0.mk (Kd.R_below (by (with_reducible repeat (first | apply Kd.R_alloc | apply Kd.R_drewN | apply Kd.R_drew)); exact HO417.out) hb)
            have n2_ := Aside0.mk (Kd.R_elder' (by (with_reducible repeat (first | apply Kd.R_alloc | apply Kd.R_drewN | apply Kd.R_drew)); exact HO420.out) (Kd.R_base ho0) hb)
            have n3_ := Aside0.mk (Kd.R_elder' (by (with_reducible repeat (first | apply Kd.R_alloc | apply Kd.R_drewN | apply Kd.R_drew)); exact HO423.out) (Kd.R_base ho0) hb)
            have n4_ := Aside0.mk (Kd.R_lower (Kd.R_new' (Kd.R_new' ho0 (Kd.R_lt (by (with_reducible repeat (first | apply Kd.R_alloc | apply Kd.R_drewN | apply Kd.R_drew)); exact HO420.out))) (Kd.R_lt (by (with_reducible repeat (first | apply Kd.R_alloc | apply Kd.R_drewN | apply Kd.R_drew)); exact HO423.out))) (below_size (by repeat (first | (with_reducible first | exact HB.out | apply below_alloc | apply pw_below_drewN | apply below_drew1 | refine below_set ?_ GE413.out) | exact HB.out))))
            have n5_ := Aside0.mk (blk_below (g := gb413) (o := .cells #[.int .i64 a0_0, .string a0_1, .string a0_2, .slice A0_3 l0_3.length c0_3, .slice A0_4 l0_4.length c0_4, .bool a0_5] 41 (0, 0)) (bk_ BK413) hb)
            have n6_ := Aside0.mk (below_step (by repeat (first | (with_reducible first | exact HB.out | apply below_alloc | apply pw_below_drewN | apply below_drew1 | refine below_set ?_ GE413.out) | exact HB.out)) hb)
            clear HO_7
            clear HO417
            clear HO420
            clear HO423
            clear BK413
            clear HB
            have HO_7 := n0_
            have HO417 := n1_
            have HO420 := n2_
            have HO423 := n3_
            have HO431 := n4_
            have BK413 := n5_
            have HB := n6_
            clear n0_ n1_ n2_ n3_ n4_ n5_ n6_
            (try clear hb)
            (try clear hb2)
            (try clear hk)
            (try clear hi)
            (try clear ho0)
            refine hK.out _ _ ⟨(blk_cell BK413.out 0).trans rfl, (blk_cell BK413.out 1).trans rfl, (blk_cell BK413.out 2).trans rfl, (blk_cell BK413.out 3).trans rfl, (blk_cell BK413.out 4).trans rfl, (blk_cell BK413.out 5).trans rfl⟩ (fun hHeld => ?_)
            clear hK K
            refine norm_ (a' := ?_) ?_ ?_
            rotate_left
            ·show Act.put _ (some 132) _ = _
             simp only [Act.put, List.setIfInBounds_toArray, List.set_cons_zero, List.set_cons_succ, i64_w, i32_w]
             rfl
            refine one_ (i := 8) (N := some 133) #[true, true, true, true, true, true, true, true, true, false] rfl rfl (one_of HT_.out (by kernel_rfl)) (by decide) (fun K hK => ?_)
            have hcv92 := own_string (P := Try.prog) Try.underlying44 Try.underlying5 Try.underlying9 (Kd.own_of_R HO431.out)
            refine value_ (w1 := ?_) (v := ?_) (by rfl) rfl ?_ ?_
            rotate_left 2
            ·go_simp
             constructor
             ·rfl
             ·rfl
            clear hcv92
            refine hK.out _ _ ⟨(blk_cell BK413.out 0).trans rfl, (blk_cell BK413.out 1).trans rfl, (blk_cell BK413.out 2).trans rfl, (blk_cell BK413.out 3).trans rfl, (blk_cell BK413.out 4).trans rfl, (blk_cell BK413.out 5).trans rfl⟩ (fun hHeld => ?_)
            clear hK K
            refine norm_ (a' := ?_) ?_ ?_
            rotate_left
            ·show Act.put _ (some 133) _ = _
             simp only [Act.put, List.setIfInBounds_toArray, List.set_cons_zero, List.set_cons_succ, i64_w, i32_w]
             rfl
            refine pure_ (i := 9) (N := some 14) (v := ?_) (a' := ?_) #[true, true, true, true, true, true, true, true, true, true] rfl rfl (any_of HT_.out (by kernel_rfl)) (fun _ _ _ h => h) (Or.inl ⟨by rfl, ?_⟩) ?_ ?_
            rotate_left
            ·intro w'
             go_simp
             with_reducible rfl
            rotate_left
            ·simp only [Act.put, List.setIfInBounds_toArray, List.set_cons_zero, List.set_cons_succ, i64_w, i32_w]
             rfl
            refine done_ (done_of HT_.out (by kernel_rfl)) ?_
            have hcv93 := own_string (P := Try.prog) Try.underlying44 Try.underlying5 Try.underlying9 (Kd.own_of_R HO420.out)
            have hcv94 := own_string (P := Try.prog) Try.underlying44 Try.underlying5 Try.underlying9 (Kd.own_of_R HO423.out)
            try go_wp2
            go_ret
            exact ⟨by first | rfl | (simp [errW_none, errW_some] <;> rfl) | (simp [*, errW_none, errW_some] <;> rfl), by repeat (first | (with_reducible first | exact HB.out | apply below_alloc | apply pw_below_drewN | apply below_drew1 | refine below_set ?_ GE413.out) | exact HB.out)⟩
         ·rw [if_neg c57] at H
          cases H
        ·rw [if_neg c56] at H
         cases H
 ·rw [if_neg c5] at H
  cases H
end Go.Proofs.Ytmfenomjhmhogaa.P
end
section
namespace Go.Proofs.Ytmfenomjhmhogaa.Pure
set_option linter.unusedVariables false
set_option linter.unusedSimpArgs false
open Go.RowKit Go.Proofs.Ytmfenomjhmhogaa.P Go.Proofs.YtmfenomjhmhogaaW.PrintWords Go.Proofs.YtmfenomjhmhogaaW.PrintLast Go.Proofs.YtmfenomjhmhogaaW.PrintMore
def cmpI (a b : Int) : Int := if a < b then -1 else if b < a then 1 else 0
def cmpT (a b : ByteArray) : Int := Lib.compareBytes a.data.toList b.data.toList
def cmpV (x y : S25) : Int := if x.f0 = y.f0 then (if x.f0 = 1 ∨ x.f0 = 2 then cmpI x.f1 y.f1 else if x.f0 = 3 ∨ x.f0 = 4 then cmpT x.f2 y.f2 else 0) else cmpI x.f0 y.f0
theorem rd_at (pre : List S25) (x : S25) (suf : List S25) : rd_T25 (pre ++ x :: suf) (pre.length : Int) = x := by
  unfold rd_T25
  simp
theorem bt_at' (s : ByteArray) (pre : List UInt8) (c : UInt8) (suf : List UInt8) (h : s.data.toList = pre ++ c :: suf) : bt s (pre.length : Int) = (c.toNat : Int) := by
  unfold bt
  have hl : s.size = pre.length + (suf.length + 1) := by
    have : s.size = s.data.toList.length := by rw [Array.length_toList]; rfl
    rw [this, h]; simp
  have hi : (pre.length : Int).toNat < s.size := by omega
  rw [dif_pos hi]
  have e : s[(pre.length : Int).toNat] = s.data.toList[(pre.length : Int).toNat]'(by rw [Array.length_toList]; exact hi) := by
    rw [Array.getElem_toList]; rfl
  rw [e]
  have : s.data.toList[(pre.length : Int).toNat]'(by rw [Array.length_toList]; exact hi) = c := by
    rw [List.getElem_of_eq h]
    simp
  rw [this]
end Go.Proofs.Ytmfenomjhmhogaa.Pure
end
section
namespace Go.Proofs.Ytmfenomjhmhogaa.P
def V0 : ByteArray := ⟨#[]⟩
end Go.Proofs.Ytmfenomjhmhogaa.P
end
section
namespace Go.Proofs.Ytmfenomjhmhogaa.Pure
set_option linter.unusedVariables false
set_option linter.unusedSimpArgs false
open Go.RowKit Go.Proofs.Ytmfenomjhmhogaa.P Go.Proofs.YtmfenomjhmhogaaW.PrintWords Go.Proofs.YtmfenomjhmhogaaW.PrintLast Go.Proofs.YtmfenomjhmhogaaW.PrintMore
def BytesIn (l : List Int) : Prop := ∀ x ∈ l, 0 ≤ x ∧ x ≤ 255
def cmpL : List Int → List Int → Int
  | [], [] => 0
  | [], _ :: _ => -1
  | _ :: _, [] => 1
  | a :: l, b :: m => if a < b then -1 else if b < a then 1 else cmpL l m
def Diff (p q : List Int) (c : Int) : Prop := (c = 0 ∧ p = q) ∨ (c ≠ 0 ∧ ∃ u a b p' q', p = u ++ a :: p' ∧ q = u ++ b :: q' ∧ c = cmpI a b)
theorem Diff.refl (p : List Int) : Diff p p 0 := .inl ⟨rfl, rfl⟩
theorem Diff.head {a b : Int} (h : a ≠ b) (p q : List Int) : Diff (a :: p) (b :: q) (cmpI a b) := .inr ⟨by unfold cmpI; split <;> (try split) <;> omega, [], a, b, p, q, rfl, rfl, rfl⟩
theorem Diff.cons (a : Int) {p q : List Int} {c : Int} (h : Diff p q c) : Diff (a :: p) (a :: q) c := by
  rcases h with ⟨rfl, rfl⟩ | ⟨hc, u, x, y, p', q', rfl, rfl, h⟩
  · exact .inl ⟨rfl, rfl⟩
  · exact .inr ⟨hc, a :: u, x, y, p', q', rfl, rfl, h⟩
theorem cmpL_same (u p q : List Int) : cmpL (u ++ p) (u ++ q) = cmpL p q := by
  induction u with
  | nil => rfl
  | cons a u ih => simp [cmpL, ih]
theorem cmpL_self (u : List Int) : cmpL u u = 0 := by
  induction u with
  | nil => rfl
  | cons a u ih => simp [cmpL, ih]
theorem Diff.cmp {p q : List Int} {c : Int} (h : Diff p q c) (s t : List Int) : cmpL (p ++ s) (q ++ t) = if c = 0 then cmpL s t else c := by
  rcases h with ⟨rfl, rfl⟩ | ⟨hc, u, x, y, p', q', rfl, rfl, h⟩
  · rw [if_pos rfl, cmpL_same]
  · rw [if_neg hc, List.append_assoc, List.append_assoc, cmpL_same]
    subst h
    unfold cmpI at hc ⊢
    simp only [List.cons_append, cmpL]
    by_cases h1 : x < y
    · simp [h1]
    · by_cases h2 : y < x
      · simp [h1, h2]
      · simp [h1, h2] at hc
def flipL (l : List Int) : List Int := l.map (255 - ·)
theorem Diff.flip {p q : List Int} {c : Int} (h : Diff p q c) : Diff (flipL p) (flipL q) (-c) := by
  rcases h with ⟨rfl, rfl⟩ | ⟨hc, u, x, y, p', q', rfl, rfl, h⟩
  · exact .inl ⟨by omega, rfl⟩
  · refine .inr ⟨by omega, flipL u, 255 - x, 255 - y, flipL p', flipL q', by simp [flipL], by simp [flipL], ?_⟩
    rw [h]
    unfold cmpI
    by_cases h1 : x < y
    · have h2 : ¬ y < x := by omega
      have h3 : ¬ (255 - x < 255 - y) := by omega
      have h4 : 255 - y < 255 - x := by omega
      simp only [h1, h2, h3, h4, if_true, if_false]; omega
    · by_cases h2 : y < x
      · have h3 : (255 - x < 255 - y) := by omega
        simp only [h1, h2, h3, if_true, if_false]
      · have h3 : ¬ (255 - x < 255 - y) := by omega
        have h4 : ¬ (255 - y < 255 - x) := by omega
        simp only [h1, h2, h3, h4, if_false]; omega
theorem flipL_length (l : List Int) : (flipL l).length = l.length := by simp [flipL]
def esc : List UInt8 → List Int
  | [] => []
  | c :: l => if c = 0 then 0 :: 255 :: esc l else (c.toNat : Int) :: esc l
def be : Nat → Int → List Int
  | 0, _ => []
  | k + 1, n => (n / 256 ^ k) % 256 :: be k n
def payload (x : S25) : List Int := if x.f0 = 1 then [x.f1 % 256] else if x.f0 = 2 then be 8 (x.f1 + 9223372036854775808) else if x.f0 = 3 ∨ x.f0 = 4 then esc x.f2.data.toList ++ [0, 1] else []
def encB (x : S25) : List Int := (x.f0 + 1) % 256 :: payload x
def turnB (b : Bool) (l : List Int) : List Int := if b = true then flipL l else l
def chk (x : S25) : Int := chkV x.f0 x.f1 x.f2
def encE : List Bool → List S25 → Option (List Int)
  | _, [] => some []
  | d, x :: l => if chk x = 0 then (encE d.tail l).map (turnB (d.headD false) (encB x) ++ ·) else none
def encR (d : List Bool) (l : List S25) : List Int × Int := match encE d l with | none => ([], 3) | some b => (b, 0)
def room (l : List S25) : Nat := (l.map fun x => 2 * x.f2.size + 12).sum
def okV (x : S25) : Prop := I64 x.f0 ∧ I64 x.f1 ∧ x.f2.size ≤ 140737488351232
theorem be_length (k : Nat) (n : Int) : (be k n).length = k := by
  induction k with
  | zero => rfl
  | succ k ih => simp [be, ih]
theorem esc_length (l : List UInt8) : (esc l).length ≤ 2 * l.length := by
  induction l with
  | nil => simp [esc]
  | cons c l ih => unfold esc; split <;> simp <;> omega
theorem size_toList (s : ByteArray) : s.size = s.data.toList.length := by rw [Array.length_toList]; rfl
theorem encB_length (x : S25) : (encB x).length ≤ 2 * x.f2.size + 11 := by
  unfold encB payload
  have h := esc_length x.f2.data.toList
  rw [← size_toList] at h
  split
  · simp
  split
  · simp [be_length]
  split
  · simp; omega
  · simp
theorem turnB_length (b : Bool) (l : List Int) : (turnB b l).length = l.length := by unfold turnB; split <;> simp [flipL]
theorem encE_length : ∀ (l : List S25) (d : List Bool) {b : List Int}, encE d l = some b → b.length ≤ room l
  | [], d, b, h => by simp only [encE, Option.some.injEq] at h; subst h; simp
  | x :: l, d, b, h => by
    unfold encE at h
    split at h
    · obtain ⟨b', hb, rfl⟩ := Option.map_eq_some_iff.1 h
      have := encE_length l _ hb
      have h2 := encB_length x
      simp [room, turnB_length] at this ⊢
      omega
    · cases h
theorem be_range (k : Nat) (n : Int) : ∀ x ∈ be k n, 0 ≤ x ∧ x ≤ 255 := by
  induction k with
  | zero => intro x hx; simp [be] at hx
  | succ k ih =>
    intro x hx
    simp only [be, List.mem_cons] at hx
    rcases hx with rfl | hx
    · omega
    · exact ih x hx
theorem esc_range (l : List UInt8) : ∀ x ∈ esc l, 0 ≤ x ∧ x ≤ 255 := by
  induction l with
  | nil => intro x hx; simp [esc] at hx
  | cons c l ih =>
    intro x hx
    unfold esc at hx
    have hc := c.toNat_lt
    split at hx
    · simp only [List.mem_cons] at hx
      rcases hx with rfl | rfl | hx
      · omega
      · omega
      · exact ih x hx
    · simp only [List.mem_cons] at hx
      rcases hx with rfl | hx
      · omega
      · exact ih x hx
theorem payload_range (x : S25) : BytesIn (payload x) := by
  unfold payload
  intro y hy
  split at hy
  · simp at hy; omega
  split at hy
  · exact be_range _ _ y hy
  split at hy
  · simp only [List.mem_append, List.mem_cons, List.not_mem_nil, or_false] at hy
    rcases hy with hy | rfl | rfl
    · exact esc_range _ y hy
    · omega
    · omega
  · simp at hy
theorem encB_range (x : S25) : BytesIn (encB x) := by
  intro y hy
  simp only [encB, List.mem_cons] at hy
  rcases hy with rfl | hy
  · omega
  · exact payload_range x y hy
theorem turnB_range (b : Bool) {l : List Int} (h : BytesIn l) : BytesIn (turnB b l) := by
  unfold turnB
  split
  · intro y hy
    simp only [flipL, List.mem_map] at hy
    obtain ⟨x, hx, rfl⟩ := hy
    have := h x hx
    omega
  · exact h
theorem chk_kind {x : S25} (h : chk x = 0) : 0 ≤ x.f0 ∧ x.f0 ≤ 4 := by
  unfold chk chkV at h
  by_cases h0 : x.f0 = 0
  · omega
  by_cases h1 : x.f0 = 1
  · omega
  by_cases h2 : x.f0 = 2
  · omega
  by_cases h3 : x.f0 = 3 ∨ x.f0 = 4
  · omega
  · simp [h0, h1, h2, h3] at h
theorem nil_of_toList {s : ByteArray} (h : s.toList = []) : s = V0 := by
  refine toList_inj ?_
  rw [h, Go.ByteArray.toList_eq]
  rfl
theorem chk_zero {x : S25} (h : chk x = 0) (h0 : x.f0 = 0) : x = ⟨0, 0, V0⟩ := by
  unfold chk chkV at h
  simp only [h0, if_true] at h
  by_cases e : x.f1 = 0 ∧ x.f2.toList = []
  · have e2 := nil_of_toList e.2
    cases x
    simp_all
  · simp [e] at h
theorem chk_one {x : S25} (h : chk x = 0) (h1 : x.f0 = 1) : (x.f1 = 0 ∨ x.f1 = 1) ∧ x.f2 = V0 := by
  unfold chk chkV at h
  have h0 : ¬ x.f0 = 0 := by omega
  simp only [h1] at h
  by_cases e : (x.f1 = 0 ∨ x.f1 = 1) ∧ x.f2.toList = []
  · exact ⟨e.1, nil_of_toList e.2⟩
  · simp [e] at h
theorem chk_two {x : S25} (h : chk x = 0) (h2 : x.f0 = 2) : x.f2 = V0 := by
  unfold chk chkV at h
  simp only [h2] at h
  by_cases e : x.f2.toList = []
  · exact nil_of_toList e
  · simp [e] at h
theorem chk_text {x : S25} (h : chk x = 0) (h3 : x.f0 = 3 ∨ x.f0 = 4) : x.f1 = 0 := by
  unfold chk chkV at h
  have h0 : ¬ x.f0 = 0 := by omega
  have h1 : ¬ x.f0 = 1 := by omega
  have h2 : ¬ x.f0 = 2 := by omega
  simp only [h0, h1, h2, h3, if_false, if_true] at h
  by_cases e : x.f1 = 0
  · exact e
  · simp [e] at h
end Go.Proofs.Ytmfenomjhmhogaa.Pure
end
section
namespace Go.Proofs.Ytmfenomjhmhogaa.Pure
set_option linter.unusedVariables false
set_option linter.unusedSimpArgs false
open Go.RowKit Go.Proofs.Ytmfenomjhmhogaa.P Go.Proofs.YtmfenomjhmhogaaW.PrintWords Go.Proofs.YtmfenomjhmhogaaW.PrintLast Go.Proofs.YtmfenomjhmhogaaW.PrintMore
theorem xor_top (m : Nat) (h : m < 18446744073709551616) : m ^^^ 9223372036854775808 = (9223372036854775808 + m) % 18446744073709551616 := by
  have e : (9223372036854775808 : Nat) = 2 ^ 63 := by decide
  have e2 : (18446744073709551616 : Nat) = 2 ^ 64 := by decide
  rw [e2] at h ⊢
  rw [e]
  refine Nat.eq_of_testBit_eq fun j => ?_
  rw [Nat.testBit_xor, Nat.testBit_mod_two_pow, Nat.testBit_two_pow]
  rcases Nat.lt_trichotomy j 63 with hj | hj | hj
  · rw [Nat.testBit_two_pow_add_gt hj]
    have : decide (j < 64) = true := decide_eq_true (by omega)
    have h2 : decide (63 = j) = false := decide_eq_false (by omega)
    rw [this, h2]; simp
  · subst hj
    rw [Nat.testBit_two_pow_add_eq]
    simp
  · have h1 : decide (j < 64) = false := decide_eq_false (by omega)
    have h2 : decide (63 = j) = false := decide_eq_false (by omega)
    have h3 : m.testBit j = false := Nat.testBit_lt_two_pow (Nat.lt_of_lt_of_le h (Nat.pow_le_pow_right (by decide) (by omega)))
    rw [h1, h2, h3]; rfl
theorem turned_is (d : List Bool) (n : Nat) : keys_turned.f d (n : Int) = some (d.getD n false) := by
  unfold keys_turned.f rdOf
  by_cases h : n < d.length
  · have h1 : (n : Int) < (d.length : Int) := by omega
    have h2 : (0 : Int) ≤ (n : Int) := by omega
    simp [h1, h2]
  · have h1 : ¬ (n : Int) < (d.length : Int) := by omega
    simp only [h1, if_false]
    rw [List.getD_eq_getElem?_getD, List.getElem?_eq_none (by omega)]
    rfl
theorem check_f (x : S25) : value_Check.f x.f0 x.f1 x.f2 = some (chk x) := rfl
theorem fx_is {c : Int} (h0 : 0 ≤ c) (h1 : c ≤ 255) : fx c = 255 - c := by
  obtain ⟨m, rfl⟩ := Int.eq_ofNat_of_zero_le h0
  have hm : m < 256 := by omega
  have h4 : ∀ m : Fin 256, fx ((m.val : Nat) : Int) = 255 - ((m.val : Nat) : Int) := by decide +kernel
  exact h4 ⟨m, hm⟩
theorem fx_map {l : List Int} (h : BytesIn l) : l.map fx = flipL l := by
  unfold flipL
  refine List.map_congr_left fun x hx => ?_
  have := h x hx
  exact fx_is this.1 this.2
theorem sign_xor {n : Int} (h : I64 n) : Go.bits .xor .u64 (IntKind.u64.wrap n) 9223372036854775808 = n + 9223372036854775808 := by
  obtain ⟨h0, h1⟩ := h
  obtain ⟨m, hm⟩ : ∃ m : Nat, IntKind.u64.wrap n = (m : Int) ∧ m < 18446744073709551616 := by
    rw [IntKind.wrap_u64]
    exact ⟨(n % 18446744073709551616).toNat, by omega, by omega⟩
  have hv : (BitVec.ofInt 64 ((m : Nat) : Int)) = BitVec.ofNat 64 m := BitVec.ofInt_natCast ..
  have hs : BitVec.ofInt 64 9223372036854775808 = BitVec.ofNat 64 9223372036854775808 := by decide
  rw [hm.1]
  show IntKind.u64.wrap ((BitVec.ofInt 64 ((m : Nat) : Int) ^^^ BitVec.ofInt 64 9223372036854775808).toNat : Int) = _
  rw [hv, hs, BitVec.toNat_xor, BitVec.toNat_ofNat, BitVec.toNat_ofNat, Nat.mod_eq_of_lt hm.2, Nat.mod_eq_of_lt (by decide), xor_top m hm.2]
  have h2 := hm.1
  rw [IntKind.wrap_u64] at h2 ⊢
  omega
theorem sign_add {n : Int} (h : I64 n) : IntKind.u64.wrap (IntKind.u64.wrap n + 9223372036854775808) = n + 9223372036854775808 := by
  obtain ⟨h0, h1⟩ := h
  rw [IntKind.wrap_u64, IntKind.wrap_u64]
  omega
theorem put_num (acc : List Int) (n : Int) (hl : acc.length + 8 < 140737488355328) : Ev (fun k => keys_put.l0 k acc n 0) (acc ++ be 8 n) := by
  have hw : ∀ i : Nat, i < 8 → wrap64 (56 - wrap64 (8 * (i : Int))) = 56 - 8 * (i : Int) := by intro i hi; unfold wrap64; omega
  have key : ∀ (j : Nat) (acc' : List Int), j ≤ 8 → acc'.length + j < 140737488355328 → Ev (fun k => keys_put.l0 k acc' n ((8 - j : Nat) : Int)) (acc' ++ be j n) := by
    intro j
    induction j with
    | zero =>
      intro acc' _ _
      refine Ev.succ ?_
      have e : ¬ (((8 - 0 : Nat) : Int) < 8) := by omega
      simp only [keys_put.l0, e, if_false, be, List.append_nil]
      exact Ev.pure _
    | succ j ih =>
      intro acc' hj hl'
      refine Ev.succ ?_
      have e : (((8 - (j + 1) : Nat) : Int) < 8) := by omega
      have e1 := hw (8 - (j + 1)) (by omega)
      have e2 : (0 : Int) ≤ 56 - 8 * ((8 - (j + 1) : Nat) : Int) := by omega
      have e3 : acc'.length < 140737488355328 := by omega
      have e4 : wrap64 (((8 - (j + 1) : Nat) : Int) + 1) = ((8 - j : Nat) : Int) := by unfold wrap64; omega
      simp only [keys_put.l0, e, e1, e2, e3, e4, if_true]
      have e5 : shr .u64 n (56 - 8 * ((8 - (j + 1) : Nat) : Int)) = n / 256 ^ j := by
        unfold shr
        have : min (56 - 8 * ((8 - (j + 1) : Nat) : Int)).toNat IntKind.u64.bits = 8 * j := by
          show min _ 64 = _
          omega
        rw [this, Int.pow_mul]
        rfl
      rw [e5]
      have := ih (acc' ++ [n / 256 ^ j % 256]) (by omega) (by simp; omega)
      simpa [be] using this
  exact key 8 acc (by omega) hl
theorem put_text (s : ByteArray) (a : Int) (b : Int) (hs : s.size ≤ 140737488351232) : ∀ (suf pre : List UInt8) (acc : List Int), s.data.toList = pre ++ suf → acc.length + 2 * suf.length + 2 < 140737488355328 →
    Ev (fun k => keys_put.l1 k acc (s.size : Int) (pre.length : Int) a b s) (acc ++ (esc suf ++ [0, 1])) := by
  intro suf
  induction suf with
  | nil =>
    intro pre acc he hl
    have hz := size_toList s
    rw [he] at hz
    simp only [List.append_nil] at hz
    refine Ev.succ ?_
    have e : ¬ ((pre.length : Int) < (s.size : Int)) := by omega
    have e2 : acc.length + [(0 : Int), 1].length < 140737488355328 := by simp at hl ⊢; omega
    simp only [keys_put.l1, e, if_false, Option.bind_some, e2, if_true, esc, List.nil_append]
    exact Ev.pure _
  | cons c suf ih =>
    intro pre acc he hl
    have hz := size_toList s
    rw [he] at hz
    simp only [List.length_append, List.length_cons] at hz hl
    refine Ev.succ ?_
    have e : ((pre.length : Int) < (s.size : Int)) := by omega
    have e1 : (0 : Int) ≤ (pre.length : Int) := by omega
    have e2 : acc.length < 140737488355328 := by omega
    have e3 : (acc ++ [(c.toNat : Int)]).length < 140737488355328 := by simp; omega
    have e4 : wrap64 ((pre.length : Int) + 1) = (pre.length : Int) + 1 := wrap64_in (by omega) (by omega)
    have e5 := bt_at' s pre c suf he
    simp only [keys_put.l1, e, e1, e2, if_true, Option.bind_some, e4, e5]
    by_cases h : (c.toNat : Int) = 0
    · have hc : c = 0 := UInt8.toNat_inj.1 (by show c.toNat = 0; omega)
      simp only [h, if_true]
      have e6 : (acc ++ [(0 : Int)]).length < 140737488355328 := by simp; omega
      simp only [e6, if_true]
      have := ih (pre ++ [c]) (acc ++ [0] ++ [255]) (by simpa using he) (by simp; omega)
      rw [show esc (c :: suf) = 0 :: 255 :: esc suf by rw [esc, if_pos hc]]
      simpa using this
    · have hc : ¬ c = 0 := fun e => h (by subst e; rfl)
      simp only [h, if_false]
      have := ih (pre ++ [c]) (acc ++ [(c.toNat : Int)]) (by simpa using he) (by simp; omega)
      rw [show esc (c :: suf) = (c.toNat : Int) :: esc suf by rw [esc, if_neg hc]]
      simpa using this
theorem put_ev (x : S25) (acc : List Int) (h : okV x) (hc : chk x = 0) (hl : acc.length + 2 * x.f2.size + 11 < 140737488355328) : Ev (fun k => keys_put.f k acc x.f0 x.f1 x.f2) (acc ++ payload x) := by
  have hk := chk_kind hc
  unfold keys_put.f payload
  by_cases h1 : x.f0 = 1
  · have e : acc.length < 140737488355328 := by omega
    simp only [h1, if_true, e]
    exact Ev.pure _
  by_cases h2 : x.f0 = 2
  · have h12 : ¬ (2 : Int) = 1 := by decide
    simp only [h2, h12, if_true, if_false, sign_xor h.2.1]
    exact put_num acc _ (by omega)
  have hz := size_toList x.f2
  by_cases h3 : x.f0 = 3
  · have e1 : ¬ (3 : Int) = 1 := by decide
    have e2 : ¬ (3 : Int) = 2 := by decide
    have e3 : ((3 : Int) = 3 ∨ (3 : Int) = 4) = True := by simp
    simp only [h3, e1, e2, e3, if_false, if_true]
    refine Ev.succ ?_
    simp only [keys_put.j1, beq_self_eq_true, if_true]
    have := put_text x.f2 3 x.f1 h.2.2 x.f2.data.toList [] acc rfl (by omega)
    simpa using this
  by_cases h4 : x.f0 = 4
  · have e1 : ¬ (4 : Int) = 1 := by decide
    have e2 : ¬ (4 : Int) = 2 := by decide
    have e3 : ¬ (4 : Int) = 3 := by decide
    have e4 : ((4 : Int) = 3 ∨ (4 : Int) = 4) = True := by simp
    simp only [h4, e1, e2, e3, e4, if_false, if_true]
    refine Ev.succ ?_
    simp only [keys_put.j1, beq_self_eq_true, if_true]
    have := put_text x.f2 4 x.f1 h.2.2 x.f2.data.toList [] acc rfl (by omega)
    simpa using this
  · have h0 : x.f0 = 0 := by omega
    have e1 : ¬ (0 : Int) = 1 := by decide
    have e2 : ¬ (0 : Int) = 2 := by decide
    have e3 : ¬ (0 : Int) = 3 := by decide
    have e4 : ((0 : Int) == 4) = false := by decide
    simp only [h0, e1, e2, e3, if_false]
    refine Ev.succ ?_
    simp only [keys_put.j1, e4, Bool.false_eq_true, if_false]
    simp
    exact Ev.pure _
theorem turned_at (d : List Bool) (pre suf : List Bool) (n : Nat) (hd : d = pre ++ suf) (hn : pre.length = n ∨ (pre.length < n ∧ suf = [])) : keys_turned.f d (n : Int) = some (suf.headD false) := by
  rw [turned_is]
  subst hd
  rcases hn with rfl | ⟨hn, rfl⟩
  · cases suf with
    | nil => simp
    | cons c suf => simp
  · rw [List.append_nil, List.getD_eq_getElem?_getD, List.getElem?_eq_none (by omega)]
    rfl
theorem desc_next (pre suf : List Bool) (n : Nat) (hn : pre.length = n ∨ (pre.length < n ∧ suf = [])) : ∃ pre', pre' ++ suf.tail = pre ++ suf ∧ (pre'.length = n + 1 ∨ (pre'.length < n + 1 ∧ suf.tail = [])) := by
  cases suf with
  | nil => exact ⟨pre, rfl, .inr ⟨by rcases hn with h | h <;> omega, rfl⟩⟩
  | cons c suf =>
    rcases hn with h | ⟨_, h⟩
    · exact ⟨pre ++ [c], by simp, .inl (by simp; omega)⟩
    · cases h
theorem wrap_kind {x : S25} (hc : chk x = 0) : wrap64 (x.f0 + 1) % 256 = (x.f0 + 1) % 256 := by
  have := chk_kind hc
  rw [wrap64_in (by omega) (by omega)]
theorem encode_loop : ∀ (suf pre : List S25) (pd d : List Bool) (acc : List Int), (∀ x ∈ suf, okV x) → (pre ++ suf).length < 140737488355328 → acc.length + room suf < 140737488355328 → (pd.length = pre.length ∨ (pd.length < pre.length ∧ d = [])) →
    Ev (fun k => keys_Encode.l0 k (pd ++ d) acc (pre ++ suf) ((pre ++ suf).length : Int) (pre.length : Int)) (match encE d suf with | none => ([], 3) | some b => (acc ++ b, 0)) := by
  intro suf
  induction suf with
  | nil =>
    intro pre pd d acc _ hl _ _
    refine Ev.succ ?_
    simp [keys_Encode.l0, encE]
    exact Ev.pure _
  | cons x suf ih =>
    intro pre pd d acc hx hl hr hd
    refine Ev.succ ?_
    have e1 : (pre.length : Int) < ((pre ++ x :: suf).length : Int) := by simp; omega
    have e2 : (0 : Int) ≤ (pre.length : Int) := by omega
    simp only [keys_Encode.l0, e1, e2, if_true, rd_at, check_f, Option.bind_some]
    by_cases hc : chk x = 0
    · rw [encE, if_pos hc]
      have hx0 := hx x (by simp)
      have hb := encB_length x
      simp only [room, List.map_cons, List.sum_cons] at hr
      have e3 : acc.length < 140737488355328 := by omega
      have e6 : wrap64 ((pre.length : Int) + 1) = (pre.length : Int) + 1 := wrap64_in (by omega) (by simp at hl; omega)
      simp only [hc, e3, if_true, wrap_kind hc, e6]
      refine Ev.bind (put_ev x (acc ++ [(x.f0 + 1) % 256]) hx0 hc (by rw [List.length_append]; simp; omega)) ?_
      rw [turned_at (pd ++ d) pd d pre.length rfl hd]
      simp only [Option.bind_some]
      have ea : acc ++ [(x.f0 + 1) % 256] ++ payload x = acc ++ encB x := by simp [encB]
      rw [ea]
      obtain ⟨pd', hpd, hn⟩ := desc_next pd d pre.length hd
      have hgo : ∀ b : Bool, d.headD false = b → Ev (fun k => keys_Encode.l0 k (pd ++ d) (acc ++ turnB b (encB x)) (pre ++ x :: suf) ((pre ++ x :: suf).length : Int) ((pre.length : Int) + 1)) (match (encE d.tail suf).map (turnB b (encB x) ++ ·) with | none => ([], 3) | some b => (acc ++ b, 0)) := by
        intro b _
        have := ih (pre ++ [x]) pd' d.tail (acc ++ turnB b (encB x)) (fun y hy => hx y (by simp [hy])) (by simpa using hl) (by rw [List.length_append, turnB_length]; unfold room; omega) (by simpa using hn)
        rw [hpd] at this
        cases he : encE d.tail suf with
        | none => rw [he] at this; simpa using this
        | some c => rw [he] at this; simpa using this
      cases hh : d.headD false with
      | false =>
        simp only [Bool.false_eq_true, if_false]
        exact hgo false hh
      | true =>
        simp only [if_true]
        have e8 : acc.length < (acc ++ encB x).length := by rw [List.length_append]; simp [encB]
        have e9 : (acc ++ encB x).take acc.length ++ ((acc ++ encB x).drop acc.length).map fx = acc ++ turnB true (encB x) := by
          rw [List.take_left' rfl, List.drop_left' rfl, fx_map (encB_range x)]
          rfl
        simp only [e8, if_true, e9]
        exact hgo true hh
    · rw [encE, if_neg hc]
      simp only [hc, if_false]
      exact Ev.pure _
theorem encode_ev (l : List S25) (d : List Bool) (hx : ∀ x ∈ l, okV x) (hl : l.length < 140737488355328) (hr : room l < 140737488355328) : Ev (fun k => keys_Encode.f k l d) (encR d l) := by
  unfold keys_Encode.f encR
  have := encode_loop l [] [] d [] hx (by simpa using hl) (by simpa using hr) (.inl rfl)
  cases he : encE d l with
  | none => rw [he] at this; simpa using this
  | some b => rw [he] at this; simpa using this
theorem rdI_at (pre : List Int) (x : Int) (suf : List Int) : rd (pre ++ x :: suf) (pre.length : Int) = x := by
  unfold rd
  simp
end Go.Proofs.Ytmfenomjhmhogaa.Pure
end
