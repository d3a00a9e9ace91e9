/- Laid by a program of this session out of its texts for the law CalcTexts, part 4. -/
import Derived.Test.YtfbeklbjlkgbnaaZCalcTexts3
section
namespace Go.Proofs.Ytfbeklbjlkgbnaa.P
open Go.RowKit Go.Proofs.YtfbeklbjlkgbnaaW.PrintWords Go.Proofs.YtfbeklbjlkgbnaaW.PrintLast Go.Proofs.YtfbeklbjlkgbnaaW.PrintMore
attribute [local go_sem] max2_int min2_int max_two min_two max_three min_three max_four min_four
set_option linter.unusedVariables false
set_option linter.unusedSimpArgs false
attribute [local go_sem high] eqA25
mutual
def quarryref02_goes.j0 : Nat → Int → Int → Bool → Option (Bool)
 | 0, _, _, _ => none
 | k + 1, x0, x1, x5 => if x5 = true then (some true) else (if x0 = 3 then (quarryref02_goes.j1 k x0 x1 (x0 == 3)) else (quarryref02_goes.j1 k x0 x1 (x0 == 4)))
def quarryref02_goes.j1 : Nat → Int → Int → Bool → Option (Bool)
 | 0, _, _, _ => none
 | k + 1, x0, x1, x14 => if x14 = true then (some (x1 == 1)) else (if x0 = 16 then (some (x1 == 3)) else (some (x1 == 2)))
end
def quarryref02_goes.f (k : Nat) (a0 : Int) (a1 : Int) : Option (Bool) := if a1 = 0 then (quarryref02_goes.j0 k a0 a1 (a1 == 0)) else (if a0 ≥ 5 then (quarryref02_goes.j0 k a0 a1 (decide (a0 ≤ 10))) else (quarryref02_goes.j0 k a0 a1 false))
set_option maxHeartbeats 8000000 in
set_option maxRecDepth 100000 in
theorem quarryref02_goes.calls (k : Nat) (a0 : Int) (a1 : Int) (r : Bool) (w : World) (h : quarryref02_goes.f k a0 a1 = some r) :
  Calls Try.prog 47 #[.int .i64 a0, .int .i64 a1] w fun e w' => e = .returned (.bool r) ∧ Drawn0 w w' := by
 have H : (if a1 = 0 then (quarryref02_goes.j0 k a0 a1 (a1 == 0)) else (if a0 ≥ 5 then (quarryref02_goes.j0 k a0 a1 (decide (a0 ≤ 10))) else (quarryref02_goes.j0 k a0 a1 false))) = some r := h
 clear h
 have HC3 := Aside0.mk H
 clear H
 go_enter Try.func47, Try.ntmps47
 go_upto_if 5 with (fail)
 go_cut [5] (fun v5 wc => ∃ (kq : Nat) (x5_2 : Bool), v5 = .bool x5_2 ∧ Aside0 (quarryref02_goes.j0 kq a0 a1 x5_2 = some r) ∧ Aside0 (kq ≤ k) ∧ Drawn0 w wc)
 case first =>
  have H := HC3.out
  clear HC3
  by_cases c4 : a1 = 0
  ·rw [if_pos c4] at H
   have c4b0 : (a1 == 0) = true := beq_iff_eq.mpr c4
   have c4b1 : (a1 != 0) = false := bne_eq_false_iff_eq.mpr c4
   clear c4
   (first | rw [c4b0] | (simp only [i64_w, i32_w]; rw [c4b0]) | skip)
   have H' := Aside0.mk H
   clear H
   go_wp2
   go_meet
   case rel => exact ⟨_, ((a1 == 0)), (by first | rfl | (simp; done) | (simp [*]; done)), H', ⟨by first | omega | exact Nat.le_refl _⟩, by repeat (first | exact Drawn0.refl _ | apply Drawn0.step)⟩
  ·rw [if_neg c4] at H
   have c4b0 : (a1 == 0) = false := beq_eq_false_iff_ne.mpr c4
   have c4b1 : (a1 != 0) = true := bne_iff_ne.mpr c4
   (first | rw [c4b0] | (simp only [i64_w, i32_w]; rw [c4b0]) | skip)
   by_cases c5 : a0 ≥ 5
   ·rw [if_pos c5] at H
    have c5b0 : decide (5 ≤ a0) = true := decide_eq_true c5
    clear c5
    have H' := Aside0.mk H
    clear H
    go_wp2
    go_meet
    case rel => exact ⟨_, (decide (a0 ≤ 10)), (by first | rfl | (simp; done) | (simp [*]; done)), H', ⟨by first | omega | exact Nat.le_refl _⟩, by repeat (first | exact Drawn0.refl _ | apply Drawn0.step)⟩
   ·rw [if_neg c5] at H
    have c5b0 : decide (5 ≤ a0) = false := decide_eq_false c5
    clear c5
    have H' := Aside0.mk H
    clear H
    go_wp2
    go_meet
    case rel => exact ⟨_, (false), (by first | rfl | (simp; done) | (simp [*]; done)), H', ⟨by first | omega | exact Nat.le_refl _⟩, by repeat (first | exact Drawn0.refl _ | apply Drawn0.step)⟩
 case rest =>
  clear HC3
  try clear p2
  try clear c4
  try clear c4b0
  try clear c4b1
  try clear c5
  try clear c5b0
  obtain ⟨kq, x5_2, rfl, HA, HJ2, ⟨mc2, rfl⟩⟩ := hcut
  cases kq with
  | zero => exact absurd HA.out (by simp [quarryref02_goes.j0])
  | succ kj2 =>
   have H := HA.out
   clear HA
   simp only [quarryref02_goes.j0] at H
   by_cases c6 : x5_2 = true
   ·subst c6
    have H1 : (some true) = some r := by rw [if_pos rfl] at H; exact H
    clear H
    have H := H1
    clear H1
    obtain rfl := Option.some.inj H
    go_wp2
    go_ret
    exact ⟨by first | rfl | (simp; done) | (simp [*]; done), by repeat (first | exact Drawn0.refl _ | apply Drawn0.step)⟩
   ·replace c6 := Bool.eq_false_iff.mpr c6
    subst c6
    have H1 : (if a0 = 3 then (quarryref02_goes.j1 kj2 a0 a1 (a0 == 3)) else (quarryref02_goes.j1 kj2 a0 a1 (a0 == 4))) = some r := by rw [if_neg (show ¬ (false = true) by decide)] at H; exact H
    clear H
    have H := H1
    clear H1
    have HC7 := Aside0.mk H
    clear H
    go_upto_if 14 with (fail)
    go_cut [14] (fun v14 wc => ∃ (kq : Nat) (x14_6 : Bool), v14 = .bool x14_6 ∧ Aside0 (quarryref02_goes.j1 kq a0 a1 x14_6 = some r) ∧ Aside0 (kq ≤ kj2) ∧ Drawn0 w wc)
    case first =>
     have H := HC7.out
     clear HC7
     by_cases c8 : a0 = 3
     ·rw [if_pos c8] at H
      have c8b0 : (a0 == 3) = true := beq_iff_eq.mpr c8
      have c8b1 : (a0 != 3) = false := bne_eq_false_iff_eq.mpr c8
      clear c8
      (first | rw [c8b0] | (simp only [i64_w, i32_w]; rw [c8b0]) | skip)
      have H' := Aside0.mk H
      clear H
      go_wp2
      go_meet
      case rel => exact ⟨_, ((a0 == 3)), (by first | rfl | (simp; done) | (simp [*]; done)), H', ⟨by have := HJ2.out; first | omega | exact Nat.le_refl _⟩, by repeat (first | exact Drawn0.refl _ | apply Drawn0.step)⟩
     ·rw [if_neg c8] at H
      have c8b0 : (a0 == 3) = false := beq_eq_false_iff_ne.mpr c8
      have c8b1 : (a0 != 3) = true := bne_iff_ne.mpr c8
      (first | rw [c8b0] | (simp only [i64_w, i32_w]; rw [c8b0]) | skip)
      have H' := Aside0.mk H
      clear H
      go_wp2
      go_meet
      case rel => exact ⟨_, ((a0 == 4)), (by first | rfl | (simp; done) | (simp [*]; done)), H', ⟨by have := HJ2.out; first | omega | exact Nat.le_refl _⟩, by repeat (first | exact Drawn0.refl _ | apply Drawn0.step)⟩
    case rest =>
     clear HC7
     try clear c2
     try clear p2
     try clear c4
     try clear c4b0
     try clear c4b1
     try clear c5
     try clear c5b0
     try clear c6
     try clear c8
     try clear c8b0
     try clear c8b1
     try clear p2
     obtain ⟨kq, x14_6, rfl, HA, HJ6, ⟨mc6, rfl⟩⟩ := hcut
     cases kq with
     | zero => exact absurd HA.out (by simp [quarryref02_goes.j1])
     | succ kj6 =>
      have H := HA.out
      clear HA
      simp only [quarryref02_goes.j1] at H
      by_cases c9 : x14_6 = true
      ·subst c9
       have H1 : (some (a1 == 1)) = some r := by rw [if_pos rfl] at H; exact H
       clear H
       have H := H1
       clear H1
       obtain rfl := Option.some.inj H
       go_wp2
       go_ret
       exact ⟨by first | rfl | (simp; done) | (simp [*]; done), by repeat (first | exact Drawn0.refl _ | apply Drawn0.step)⟩
      ·replace c9 := Bool.eq_false_iff.mpr c9
       subst c9
       have H1 : (if a0 = 16 then (some (a1 == 3)) else (some (a1 == 2))) = some r := by rw [if_neg (show ¬ (false = true) by decide)] at H; exact H
       clear H
       have H := H1
       clear H1
       by_cases c10 : a0 = 16
       ·rw [if_pos c10] at H
        have c10b0 : (a0 == 16) = true := beq_iff_eq.mpr c10
        have c10b1 : (a0 != 16) = false := bne_eq_false_iff_eq.mpr c10
        clear c10
        obtain rfl := Option.some.inj H
        go_wp2
        go_ret
        exact ⟨by first | rfl | (simp; done) | (simp [*]; done), by repeat (first | exact Drawn0.refl _ | apply Drawn0.step)⟩
       ·rw [if_neg c10] at H
        have c10b0 : (a0 == 16) = false := beq_eq_false_iff_ne.mpr c10
        have c10b1 : (a0 != 16) = true := bne_iff_ne.mpr c10
        obtain rfl := Option.some.inj H
        go_wp2
        go_ret
        exact ⟨by first | rfl | (simp; done) | (simp [*]; done), by repeat (first | exact Drawn0.refl _ | apply Drawn0.step)⟩
def quarryref02_logic.j0 : Nat → Int → Bool → Int → Int → ByteArray → Int → Int → ByteArray → Int → Int → ByteArray → Option (Int × Int × ByteArray)
 | 0, _, _, _, _, _, _, _, _, _, _, _ => none
 | k + 1, x0, x18, x137000, x137001, x137002, x138000, x138001, x138002, x143000, x143001, x143002 => if x18 = true then (some (x143000, x143001, x143002)) else (if x137000 = 0 then (some (0, 0, (⟨#[]⟩ : ByteArray))) else (if x138000 = 0 then (some (0, 0, (⟨#[]⟩ : ByteArray))) else ((quarryref02_Truth.f (x0 == 4)).bind fun bt143 => (some (bt143.1, bt143.2.1, bt143.2.2)))))
def quarryref02_logic.f (k : Nat) (a0 : Int) (a1_0 : Int) (a1_1 : Int) (a1_2 : ByteArray) (a2_0 : Int) (a2_1 : Int) (a2_2 : ByteArray) : Option (Int × Int × ByteArray) := (quarryref02_Truth.f (a0 == 3)).bind fun bt139 => (if (a1_0 == bt139.1 && (a1_1 == bt139.2.1 && (a1_2.toList == bt139.2.2.toList))) = true then (quarryref02_logic.j0 k a0 true a1_0 a1_1 a1_2 a2_0 a2_1 a2_2 bt139.1 bt139.2.1 bt139.2.2) else (quarryref02_logic.j0 k a0 (a2_0 == bt139.1 && (a2_1 == bt139.2.1 && (a2_2.toList == bt139.2.2.toList))) a1_0 a1_1 a1_2 a2_0 a2_1 a2_2 bt139.1 bt139.2.1 bt139.2.2))
set_option maxHeartbeats 8000000 in
set_option maxRecDepth 100000 in
theorem quarryref02_logic.calls (k : Nat) (a0 : Int) (a1_0 : Int) (a1_1 : Int) (a1_2 : ByteArray) (a2_0 : Int) (a2_1 : Int) (a2_2 : ByteArray) (r1 : Int) (r2 : Int) (r3 : ByteArray) (w : World) (h : quarryref02_logic.f k a0 a1_0 a1_1 a1_2 a2_0 a2_1 a2_2 = some (r1, r2, r3)) :
  Calls Try.prog 48 #[.int .i64 a0, .agg #[.int .i64 a1_0, .int .i64 a1_1, .string a1_2], .agg #[.int .i64 a2_0, .int .i64 a2_1, .string a2_2]] w fun e w' => e = .returned (.agg #[.int .i64 r1, .int .i64 r2, .string r3]) ∧ Below w.heap.size w w' := by
 have hu25 := Try.underlying25
 have HB := Aside0.mk (Below.refl w.heap.size w)
 have H : ((quarryref02_Truth.f (a0 == 3)).bind fun bt139 => (if (a1_0 == bt139.1 && (a1_1 == bt139.2.1 && (a1_2.toList == bt139.2.2.toList))) = true then (quarryref02_logic.j0 k a0 true a1_0 a1_1 a1_2 a2_0 a2_1 a2_2 bt139.1 bt139.2.1 bt139.2.2) else (quarryref02_logic.j0 k a0 (a2_0 == bt139.1 && (a2_1 == bt139.2.1 && (a2_2.toList == bt139.2.2.toList))) a1_0 a1_1 a1_2 a2_0 a2_1 a2_2 bt139.1 bt139.2.1 bt139.2.2))) = some (r1, r2, r3) := h
 clear h
 replace H := Option.bind_eq_some_iff.mp H
 obtain ⟨⟨t139, t140, t141⟩, A40, H⟩ := H
 replace H : (if (a1_0 == t139 && (a1_1 == t140 && (a1_2.toList == t141.toList))) = true then (quarryref02_logic.j0 k a0 true a1_0 a1_1 a1_2 a2_0 a2_1 a2_2 t139 t140 t141) else (quarryref02_logic.j0 k a0 (a2_0 == t139 && (a2_1 == t140 && (a2_2.toList == t141.toList))) a1_0 a1_1 a1_2 a2_0 a2_1 a2_2 t139 t140 t141)) = some (r1, r2, r3) := H
 have A4 := Aside0.mk A40
 clear A40
 have HC5 := Aside0.mk H
 clear H
 go_enter Try.func48, Try.ntmps48
 go_upto_region 2 with (first | ((with_reducible refine gate_dst (N := 4) rfl ?_); refine box_event ?hg (N := 4) ?hd (cs := #[.int .i64 a1_0, .int .i64 a1_1, .string a1_2]) (t := 25) ?hr ?_; (case hd => rfl); (case hg => rfl); (case hr => first | (go_simp; done) | (go_simp; rfl)); intro gb136 hg w6 hbox hb; have n0_ := Aside0.mk (below_step (by repeat (first | (with_reducible first | exact HB.out | apply below_alloc | apply pw_below_drewN | apply below_drew1) | exact HB.out)) hb); have n1_ := Aside0.mk (hbox); have n2_ := Aside0.mk ((by rw [hg]; exact (below_size (by repeat (first | (with_reducible first | exact HB.out | apply below_alloc | apply pw_below_drewN | apply below_drew1) | exact HB.out))) : w.heap.size ≤ gb136)); have n3_ := Aside0.mk ((by rw [hg]; exact (below_size (by repeat (first | (with_reducible first | exact HB.out | apply below_alloc | apply pw_below_drewN | apply below_drew1) | exact HB.out))) : w.heap.size ≤ gb136)); clear HB; have HB := n0_; have BK136 := n1_; have GW136 := n2_; have GE136 := n3_; clear n0_ n1_ n2_ n3_; clear hb hbox hg) | ((with_reducible refine gate_dst (N := 5) rfl ?_); refine box_event ?hg (N := 5) ?hd (cs := #[.int .i64 a2_0, .int .i64 a2_1, .string a2_2]) (t := 25) ?hr ?_; (case hd => rfl); (case hg => rfl); (case hr => first | (go_simp; done) | (go_simp; rfl)); intro gb137 hg w7 hbox hb; have n0_ := Aside0.mk (blk_below (g := gb136) (o := .cells #[.int .i64 a1_0, .int .i64 a1_1, .string a1_2] 25 (0, 0)) (bk_ BK136) hb); have n1_ := Aside0.mk (below_step (by repeat (first | (with_reducible first | exact HB.out | apply below_alloc | apply pw_below_drewN | apply below_drew1 | refine below_set ?_ GE136.out) | exact HB.out)) hb); have n2_ := Aside0.mk (hbox); have n3_ := Aside0.mk ((by rw [hg]; exact (below_size (by repeat (first | (with_reducible first | exact HB.out | apply below_alloc | apply pw_below_drewN | apply below_drew1 | refine below_set ?_ GE136.out) | exact HB.out))) : w.heap.size ≤ gb137)); have n4_ := Aside0.mk ((by rw [hg]; exact (below_size (by repeat (first | (with_reducible first | exact HB.out | apply below_alloc | apply pw_below_drewN | apply below_drew1 | refine below_set ?_ GE136.out) | exact HB.out))) : w.heap.size ≤ gb137)); have n5_ := Aside0.mk ((by rw [hg]; exact Nat.ne_of_lt (blk_lt (g := gb136) (o := .cells #[.int .i64 a1_0, .int .i64 a1_1, .string a1_2] 25 (0, 0)) (bk_ BK136)) : gb136 ≠ gb137)); have n6_ := Aside0.mk ((by rw [hg]; exact Nat.ne_of_gt (blk_lt (g := gb136) (o := .cells #[.int .i64 a1_0, .int .i64 a1_1, .string a1_2] 25 (0, 0)) (bk_ BK136)) : gb137 ≠ gb136)); clear BK136; clear HB; have BK136 := n0_; have HB := n1_; have BK137 := n2_; have GW137 := n3_; have GE137 := n4_; have NB136_137 := n5_; have NB137_136 := n6_; clear n0_ n1_ n2_ n3_ n4_ n5_ n6_; clear hb hbox hg) | ((with_reducible refine gate_dst (N := 6) rfl ?_); refine box_event ?hg (N := 6) ?hd (cs := #[.int .i64 0, .int .i64 0, .string (⟨#[]⟩ : ByteArray)]) (t := 25) ?hr ?_; (case hd => rfl); (case hg => rfl); (case hr => first | (go_simp; done) | (go_simp; rfl)); intro gb138 hg w8 hbox hb; have n0_ := Aside0.mk (blk_below (g := gb136) (o := .cells #[.int .i64 a1_0, .int .i64 a1_1, .string a1_2] 25 (0, 0)) (bk_ BK136) hb); have n1_ := Aside0.mk (blk_below (g := gb137) (o := .cells #[.int .i64 a2_0, .int .i64 a2_1, .string a2_2] 25 (0, 0)) (bk_ BK137) hb); have n2_ := Aside0.mk (below_step (by repeat (first | (with_reducible first | exact HB.out | apply below_alloc | apply pw_below_drewN | apply below_drew1 | refine below_set ?_ GE136.out | refine below_set ?_ GE137.out) | exact HB.out)) hb); have n3_ := Aside0.mk (hbox); have n4_ := Aside0.mk ((by rw [hg]; exact (below_size (by repeat (first | (with_reducible first | exact HB.out | apply below_alloc | apply pw_below_drewN | apply below_drew1 | refine below_set ?_ GE136.out | refine below_set ?_ GE137.out) | exact HB.out))) : w.heap.size ≤ gb138)); have n5_ := Aside0.mk ((by rw [hg]; exact (below_size (by repeat (first | (with_reducible first | exact HB.out | apply below_alloc | apply pw_below_drewN | apply below_drew1 | refine below_set ?_ GE136.out | refine below_set ?_ GE137.out) | exact HB.out))) : w.heap.size ≤ gb138)); have n6_ := Aside0.mk ((by rw [hg]; exact Nat.ne_of_lt (blk_lt (g := gb136) (o := .cells #[.int .i64 a1_0, .int .i64 a1_1, .string a1_2] 25 (0, 0)) (bk_ BK136)) : gb136 ≠ gb138)); have n7_ := Aside0.mk ((by rw [hg]; exact Nat.ne_of_gt (blk_lt (g := gb136) (o := .cells #[.int .i64 a1_0, .int .i64 a1_1, .string a1_2] 25 (0, 0)) (bk_ BK136)) : gb138 ≠ gb136)); have n8_ := Aside0.mk ((by rw [hg]; exact Nat.ne_of_lt (blk_lt (g := gb137) (o := .cells #[.int .i64 a2_0, .int .i64 a2_1, .string a2_2] 25 (0, 0)) (bk_ BK137)) : gb137 ≠ gb138)); have n9_ := Aside0.mk ((by rw [hg]; exact Nat.ne_of_gt (blk_lt (g := gb137) (o := .cells #[.int .i64 a2_0, .int .i64 a2_1, .string a2_2] 25 (0, 0)) (bk_ BK137)) : gb138 ≠ gb137)); clear BK136; clear BK137; clear HB; have BK136 := n0_; have BK137 := n1_; have HB := n2_; have BK138 := n3_; have GW138 := n4_; have GE138 := n5_; have NB136_138 := n6_; have NB138_136 := n7_; have NB137_138 := n8_; have NB138_137 := n9_; clear n0_ n1_ n2_ n3_ n4_ n5_ n6_ n7_ n8_ n9_; clear hb hbox hg) | ((with_reducible refine gate_callee (f := 49) rfl ?_); refine goesL_ (some 10) rfl rfl Try.func49 (by kernel_rfl) rfl #[.bool (a0 == 3)] rfl (by (try simp only [List.map_toArray, List.map_cons, List.map_nil]); first | done | rfl | (simp only [List.length_drop, List.length_take]; rfl)) ?_; (with_reducible refine (quarryref02_Truth.calls (a0 == 3) t139 t140 t141 _ A4.out).mono ?_); rintro e w9 ⟨rfl, hb⟩; refine ⟨_, rfl, ?_⟩; have n0_ := Aside0.mk (blk_below (g := gb136) (o := .cells #[.int .i64 a1_0, .int .i64 a1_1, .string a1_2] 25 (0, 0)) (bk_ BK136) hb); have n1_ := Aside0.mk (blk_below (g := gb137) (o := .cells #[.int .i64 a2_0, .int .i64 a2_1, .string a2_2] 25 (0, 0)) (bk_ BK137) hb); have n2_ := Aside0.mk (blk_below (g := gb138) (o := .cells #[.int .i64 0, .int .i64 0, .string (⟨#[]⟩ : ByteArray)] 25 (0, 0)) (bk_ BK138) hb); have n3_ := Aside0.mk (below_step (by repeat (first | (with_reducible first | exact HB.out | apply below_alloc | apply pw_below_drewN | apply below_drew1 | refine below_set ?_ GE136.out | refine below_set ?_ GE137.out | refine below_set ?_ GE138.out) | exact HB.out)) hb); clear BK136; clear BK137; clear BK138; clear HB; have BK136 := n0_; have BK137 := n1_; have BK138 := n2_; have HB := n3_; clear n0_ n1_ n2_ n3_; (try clear hb); (try clear hb2); (try clear hk); (try clear hi)) | ((with_reducible refine gate_dst (N := 7) rfl ?_); refine box_event ?hg (N := 7) ?hd (cs := #[.int .i64 0, .int .i64 0, .string (⟨#[]⟩ : ByteArray)]) (t := 25) ?hr ?_; (case hd => rfl); (case hg => rfl); (case hr => first | (go_simp; done) | (go_simp; rfl)); intro gb142 hg w10 hbox hb; have n0_ := Aside0.mk (blk_below (g := gb136) (o := .cells #[.int .i64 a1_0, .int .i64 a1_1, .string a1_2] 25 (0, 0)) (bk_ BK136) hb); have n1_ := Aside0.mk (blk_below (g := gb137) (o := .cells #[.int .i64 a2_0, .int .i64 a2_1, .string a2_2] 25 (0, 0)) (bk_ BK137) hb); have n2_ := Aside0.mk (blk_below (g := gb138) (o := .cells #[.int .i64 0, .int .i64 0, .string (⟨#[]⟩ : ByteArray)] 25 (0, 0)) (bk_ BK138) hb); have n3_ := Aside0.mk (below_step (by repeat (first | (with_reducible first | exact HB.out | apply below_alloc | apply pw_below_drewN | apply below_drew1 | refine below_set ?_ GE136.out | refine below_set ?_ GE137.out | refine below_set ?_ GE138.out) | exact HB.out)) hb); have n4_ := Aside0.mk (hbox); have n5_ := Aside0.mk ((by rw [hg]; exact (below_size (by repeat (first | (with_reducible first | exact HB.out | apply below_alloc | apply pw_below_drewN | apply below_drew1 | refine below_set ?_ GE136.out | refine below_set ?_ GE137.out | refine below_set ?_ GE138.out) | exact HB.out))) : w.heap.size ≤ gb142)); have n6_ := Aside0.mk ((by rw [hg]; exact (below_size (by repeat (first | (with_reducible first | exact HB.out | apply below_alloc | apply pw_below_drewN | apply below_drew1 | refine below_set ?_ GE136.out | refine below_set ?_ GE137.out | refine below_set ?_ GE138.out) | exact HB.out))) : w.heap.size ≤ gb142)); have n7_ := Aside0.mk ((by rw [hg]; exact Nat.ne_of_lt (blk_lt (g := gb136) (o := .cells #[.int .i64 a1_0, .int .i64 a1_1, .string a1_2] 25 (0, 0)) (bk_ BK136)) : gb136 ≠ gb142)); have n8_ := Aside0.mk ((by rw [hg]; exact Nat.ne_of_gt (blk_lt (g := gb136) (o := .cells #[.int .i64 a1_0, .int .i64 a1_1, .string a1_2] 25 (0, 0)) (bk_ BK136)) : gb142 ≠ gb136)); have n9_ := Aside0.mk ((by rw [hg]; exact Nat.ne_of_lt (blk_lt (g := gb137) (o := .cells #[.int .i64 a2_0, .int .i64 a2_1, .string a2_2] 25 (0, 0)) (bk_ BK137)) : gb137 ≠ gb142)); have n10_ := Aside0.mk ((by rw [hg]; exact Nat.ne_of_gt (blk_lt (g := gb137) (o := .cells #[.int .i64 a2_0, .int .i64 a2_1, .string a2_2] 25 (0, 0)) (bk_ BK137)) : gb142 ≠ gb137)); have n11_ := Aside0.mk ((by rw [hg]; exact Nat.ne_of_lt (blk_lt (g := gb138) (o := .cells #[.int .i64 0, .int .i64 0, .string (⟨#[]⟩ : ByteArray)] 25 (0, 0)) (bk_ BK138)) : gb138 ≠ gb142)); have n12_ := Aside0.mk ((by rw [hg]; exact Nat.ne_of_gt (blk_lt (g := gb138) (o := .cells #[.int .i64 0, .int .i64 0, .string (⟨#[]⟩ : ByteArray)] 25 (0, 0)) (bk_ BK138)) : gb142 ≠ gb138)); clear BK136; clear BK137; clear BK138; clear HB; have BK136 := n0_; have BK137 := n1_; have BK138 := n2_; have HB := n3_; have BK142 := n4_; have GW142 := n5_; have GE142 := n6_; have NB136_142 := n7_; have NB142_136 := n8_; have NB137_142 := n9_; have NB142_137 := n10_; have NB138_142 := n11_; have NB142_138 := n12_; clear n0_ n1_ n2_ n3_ n4_ n5_ n6_ n7_ n8_ n9_ n10_ n11_ n12_; clear hb hbox hg; have hnb11 := NB142_136.out; have hnc11 := NB136_142.out; have hnb12 := NB142_137.out; have hnc12 := NB137_142.out; have hnb13 := NB142_138.out; have hnc13 := NB138_142.out; have hcz14_0 : w10.cell? ⟨gb142, 0, none⟩ = some (.int .i64 0) := (blk_cell BK142.out 0).trans rfl; have hcz14_1 : w10.cell? ⟨gb142, 1, none⟩ = some (.int .i64 0) := (blk_cell BK142.out 1).trans rfl; have hcz14_2 : w10.cell? ⟨gb142, 2, none⟩ = some (.string (⟨#[]⟩ : ByteArray)) := (blk_cell BK142.out 2).trans rfl; have hfz14_0 := blk_frozen BK142.out 0; have hfz14_1 := blk_frozen BK142.out 1; have hfz14_2 := blk_frozen BK142.out 2))
 (try simp only [Act.put, List.setIfInBounds_toArray, List.set_cons_zero, List.set_cons_succ])
 go_cut [18] (fun v18 wc => ∃ (kq : Nat) (x18_4 : Bool), v18 = .bool x18_4 ∧ Aside0 (quarryref02_logic.j0 kq a0 x18_4 a1_0 a1_1 a1_2 a2_0 a2_1 a2_2 t139 t140 t141 = some (r1, r2, r3)) ∧ Aside0 (kq ≤ k) ∧ Aside0 (wc.heap[gb136]? = some (.cells #[.int .i64 a1_0, .int .i64 a1_1, .string a1_2] 25 (0, 0))) ∧ Aside0 (wc.heap[gb137]? = some (.cells #[.int .i64 a2_0, .int .i64 a2_1, .string a2_2] 25 (0, 0))) ∧ Aside0 (wc.heap[gb138]? = some (.cells #[.int .i64 0, .int .i64 0, .string (⟨#[]⟩ : ByteArray)] 25 (0, 0))) ∧ Aside0 (wc.heap[gb142]? = some (.cells #[.int .i64 t139, .int .i64 t140, .string t141] 25 (0, 0))) ∧ Aside0 (Below w.heap.size w wc))
 case first =>
  have H := HC5.out
  clear HC5
  by_cases c15 : (a1_0 == t139 && (a1_1 == t140 && (a1_2.toList == t141.toList))) = true
  ·rw [if_pos c15] at H
   have c15b0 : (a1_0 == t139 && (a1_1 == t140 && (a1_2.toList == t141.toList))) = true := c15
   (try (have c15b1 : decide (a1_0 = t139 && (a1_1 == t140 && (a1_2.toList == t141.toList))) = true := by simpa using c15))
   (try (have c15b2 : (a1_0 == t139 && (a1_1 == t140 && (a1_2.toList == t141.toList))) = true := by simpa using c15))
   clear c15
   (first | rw [c15b0] | (simp only [i64_w, i32_w]; rw [c15b0]) | skip)
   have H' := Aside0.mk H
   clear H
   have hnb16 := NB136_137.out
   have hnc16 := NB137_136.out
   have hnb17 := NB136_138.out
   have hnc17 := NB138_136.out
   have hnb18 := NB136_142.out
   have hnc18 := NB142_136.out
   have hcz19_0 : w10.cell? ⟨gb136, 0, none⟩ = some (.int .i64 a1_0) := (blk_cell BK136.out 0).trans rfl
   have hcz19_1 : w10.cell? ⟨gb136, 1, none⟩ = some (.int .i64 a1_1) := (blk_cell BK136.out 1).trans rfl
   have hcz19_2 : w10.cell? ⟨gb136, 2, none⟩ = some (.string a1_2) := (blk_cell BK136.out 2).trans rfl
   have hfz19_0 := blk_frozen BK136.out 0
   have hfz19_1 := blk_frozen BK136.out 1
   have hfz19_2 := blk_frozen BK136.out 2
   have hnb20 := NB142_137.out
   have hnc20 := NB137_142.out
   have hnb21 := NB142_138.out
   have hnc21 := NB138_142.out
   have hcz22_0 : w10.cell? ⟨gb142, 0, none⟩ = some (.int .i64 0) := (blk_cell BK142.out 0).trans rfl
   have hcz22_1 : w10.cell? ⟨gb142, 1, none⟩ = some (.int .i64 0) := (blk_cell BK142.out 1).trans rfl
   have hcz22_2 : w10.cell? ⟨gb142, 2, none⟩ = some (.string (⟨#[]⟩ : ByteArray)) := (blk_cell BK142.out 2).trans rfl
   have hfz22_0 := blk_frozen BK142.out 0
   have hfz22_1 := blk_frozen BK142.out 1
   have hfz22_2 := blk_frozen BK142.out 2
   go_wp2
   go_meet
   case rel => exact ⟨_, (true), (by first | rfl | (simp; done) | (simp [*]; done)), H', ⟨by first | omega | exact Nat.le_refl _⟩, ⟨by (with_reducible repeat (first | refine blk_drewN ?_ _ | refine blk_drew ?_ | refine blk_alloc ?_ _)); refine blk_far ?_ NB136_142.out _; (with_reducible repeat (first | refine blk_drewN ?_ _ | refine blk_drew ?_ | refine blk_alloc ?_ _)); refine blk_far ?_ NB136_142.out _; (with_reducible repeat (first | refine blk_drewN ?_ _ | refine blk_drew ?_ | refine blk_alloc ?_ _)); refine blk_far ?_ NB136_142.out _; (with_reducible repeat (first | refine blk_drewN ?_ _ | refine blk_drew ?_ | refine blk_alloc ?_ _)); exact BK136.out⟩, ⟨by (with_reducible repeat (first | refine blk_drewN ?_ _ | refine blk_drew ?_ | refine blk_alloc ?_ _)); refine blk_far ?_ NB137_142.out _; (with_reducible repeat (first | refine blk_drewN ?_ _ | refine blk_drew ?_ | refine blk_alloc ?_ _)); refine blk_far ?_ NB137_142.out _; (with_reducible repeat (first | refine blk_drewN ?_ _ | refine blk_drew ?_ | refine blk_alloc ?_ _)); refine blk_far ?_ NB137_142.out _; (with_reducible repeat (first | refine blk_drewN ?_ _ | refine blk_drew ?_ | refine blk_alloc ?_ _)); exact BK137.out⟩, ⟨by (with_reducible repeat (first | refine blk_drewN ?_ _ | refine blk_drew ?_ | refine blk_alloc ?_ _)); refine blk_far ?_ NB138_142.out _; (with_reducible repeat (first | refine blk_drewN ?_ _ | refine blk_drew ?_ | refine blk_alloc ?_ _)); refine blk_far ?_ NB138_142.out _; (with_reducible repeat (first | refine blk_drewN ?_ _ | refine blk_drew ?_ | refine blk_alloc ?_ _)); refine blk_far ?_ NB138_142.out _; (with_reducible repeat (first | refine blk_drewN ?_ _ | refine blk_drew ?_ | refine blk_alloc ?_ _)); exact BK138.out⟩, ⟨by (with_reducible repeat (first | refine blk_drewN ?_ _ | refine blk_drew ?_ | refine blk_alloc ?_ _)); refine blk_put (cs := #[.int .i64 t139, .int .i64 t140, .string (⟨#[]⟩ : ByteArray)]) ?_ 2 _ rfl; (with_reducible repeat (first | refine blk_drewN ?_ _ | refine blk_drew ?_ | refine blk_alloc ?_ _)); refine blk_put (cs := #[.int .i64 t139, .int .i64 0, .string (⟨#[]⟩ : ByteArray)]) ?_ 1 _ rfl; (with_reducible repeat (first | refine blk_drewN ?_ _ | refine blk_drew ?_ | refine blk_alloc ?_ _)); refine blk_put (cs := #[.int .i64 0, .int .i64 0, .string (⟨#[]⟩ : ByteArray)]) ?_ 0 _ rfl; (with_reducible repeat (first | refine blk_drewN ?_ _ | refine blk_drew ?_ | refine blk_alloc ?_ _)); exact BK142.out⟩, ⟨by repeat (first | (with_reducible first | exact HB.out | apply below_alloc | apply pw_below_drewN | apply below_drew1 | refine below_set ?_ GE136.out | refine below_set ?_ GE137.out | refine below_set ?_ GE138.out | refine below_set ?_ GE142.out) | exact HB.out)⟩⟩
  ·rw [if_neg c15] at H
   have c15b0 : (a1_0 == t139 && (a1_1 == t140 && (a1_2.toList == t141.toList))) = false := by simpa using c15
   (try (have c15b1 : decide (a1_0 = t139 && (a1_1 == t140 && (a1_2.toList == t141.toList))) = false := by simpa using c15))
   (try (have c15b2 : (a1_0 == t139 && (a1_1 == t140 && (a1_2.toList == t141.toList))) = false := by simpa using c15))
   (try (have c15b3 : ¬ (a1_0 = t139 && (a1_1 == t140 && (a1_2.toList == t141.toList))) := by simpa using c15))
   clear c15
   (first | rw [c15b0] | (simp only [i64_w, i32_w]; rw [c15b0]) | skip)
   have H' := Aside0.mk H
   clear H
   have hnb23 := NB136_137.out
   have hnc23 := NB137_136.out
   have hnb24 := NB136_138.out
   have hnc24 := NB138_136.out
   have hnb25 := NB136_142.out
   have hnc25 := NB142_136.out
   have hcz26_0 : w10.cell? ⟨gb136, 0, none⟩ = some (.int .i64 a1_0) := (blk_cell BK136.out 0).trans rfl
   have hcz26_1 : w10.cell? ⟨gb136, 1, none⟩ = some (.int .i64 a1_1) := (blk_cell BK136.out 1).trans rfl
   have hcz26_2 : w10.cell? ⟨gb136, 2, none⟩ = some (.string a1_2) := (blk_cell BK136.out 2).trans rfl
   have hfz26_0 := blk_frozen BK136.out 0
   have hfz26_1 := blk_frozen BK136.out 1
   have hfz26_2 := blk_frozen BK136.out 2
   have hnb27 := NB142_137.out
   have hnc27 := NB137_142.out
   have hnb28 := NB142_138.out
   have hnc28 := NB138_142.out
   have hcz29_0 : w10.cell? ⟨gb142, 0, none⟩ = some (.int .i64 0) := (blk_cell BK142.out 0).trans rfl
   have hcz29_1 : w10.cell? ⟨gb142, 1, none⟩ = some (.int .i64 0) := (blk_cell BK142.out 1).trans rfl
   have hcz29_2 : w10.cell? ⟨gb142, 2, none⟩ = some (.string (⟨#[]⟩ : ByteArray)) := (blk_cell BK142.out 2).trans rfl
   have hfz29_0 := blk_frozen BK142.out 0
   have hfz29_1 := blk_frozen BK142.out 1
   have hfz29_2 := blk_frozen BK142.out 2
   have hnb30 := NB137_138.out
   have hnc30 := NB138_137.out
   have hcz31_0 : w10.cell? ⟨gb137, 0, none⟩ = some (.int .i64 a2_0) := (blk_cell BK137.out 0).trans rfl
   have hcz31_1 : w10.cell? ⟨gb137, 1, none⟩ = some (.int .i64 a2_1) := (blk_cell BK137.out 1).trans rfl
   have hcz31_2 : w10.cell? ⟨gb137, 2, none⟩ = some (.string a2_2) := (blk_cell BK137.out 2).trans rfl
   have hfz31_0 := blk_frozen BK137.out 0
   have hfz31_1 := blk_frozen BK137.out 1
   have hfz31_2 := blk_frozen BK137.out 2
   go_wp2
   go_meet
   case rel => exact ⟨_, ((a2_0 == t139 && (a2_1 == t140 && (a2_2.toList == t141.toList)))), (by first | rfl | (simp; done) | (simp [*]; done)), H', ⟨by first | omega | exact Nat.le_refl _⟩, ⟨by (with_reducible repeat (first | refine blk_drewN ?_ _ | refine blk_drew ?_ | refine blk_alloc ?_ _)); refine blk_far ?_ NB136_142.out _; (with_reducible repeat (first | refine blk_drewN ?_ _ | refine blk_drew ?_ | refine blk_alloc ?_ _)); refine blk_far ?_ NB136_142.out _; (with_reducible repeat (first | refine blk_drewN ?_ _ | refine blk_drew ?_ | refine blk_alloc ?_ _)); refine blk_far ?_ NB136_142.out _; (with_reducible repeat (first | refine blk_drewN ?_ _ | refine blk_drew ?_ | refine blk_alloc ?_ _)); exact BK136.out⟩, ⟨by (with_reducible repeat (first | refine blk_drewN ?_ _ | refine blk_drew ?_ | refine blk_alloc ?_ _)); refine blk_far ?_ NB137_142.out _; (with_reducible repeat (first | refine blk_drewN ?_ _ | refine blk_drew ?_ | refine blk_alloc ?_ _)); refine blk_far ?_ NB137_142.out _; (with_reducible repeat (first | refine blk_drewN ?_ _ | refine blk_drew ?_ | refine blk_alloc ?_ _)); refine blk_far ?_ NB137_142.out _; (with_reducible repeat (first | refine blk_drewN ?_ _ | refine blk_drew ?_ | refine blk_alloc ?_ _)); exact BK137.out⟩, ⟨by (with_reducible repeat (first | refine blk_drewN ?_ _ | refine blk_drew ?_ | refine blk_alloc ?_ _)); refine blk_far ?_ NB138_142.out _; (with_reducible repeat (first | refine blk_drewN ?_ _ | refine blk_drew ?_ | refine blk_alloc ?_ _)); refine blk_far ?_ NB138_142.out _; (with_reducible repeat (first | refine blk_drewN ?_ _ | refine blk_drew ?_ | refine blk_alloc ?_ _)); refine blk_far ?_ NB138_142.out _; (with_reducible repeat (first | refine blk_drewN ?_ _ | refine blk_drew ?_ | refine blk_alloc ?_ _)); exact BK138.out⟩, ⟨by (with_reducible repeat (first | refine blk_drewN ?_ _ | refine blk_drew ?_ | refine blk_alloc ?_ _)); refine blk_put (cs := #[.int .i64 t139, .int .i64 t140, .string (⟨#[]⟩ : ByteArray)]) ?_ 2 _ rfl; (with_reducible repeat (first | refine blk_drewN ?_ _ | refine blk_drew ?_ | refine blk_alloc ?_ _)); refine blk_put (cs := #[.int .i64 t139, .int .i64 0, .string (⟨#[]⟩ : ByteArray)]) ?_ 1 _ rfl; (with_reducible repeat (first | refine blk_drewN ?_ _ | refine blk_drew ?_ | refine blk_alloc ?_ _)); refine blk_put (cs := #[.int .i64 0, .int .i64 0, .string (⟨#[]⟩ : ByteArray)]) ?_ 0 _ rfl; (with_reducible repeat (first | refine blk_drewN ?_ _ | refine blk_drew ?_ | refine blk_alloc ?_ _)); exact BK142.out⟩, ⟨by repeat (first | (with_reducible first | exact HB.out | apply below_alloc | apply pw_below_drewN | apply below_drew1 | refine below_set ?_ GE136.out | refine below_set ?_ GE137.out | refine below_set ?_ GE138.out | refine below_set ?_ GE142.out) | exact HB.out)⟩⟩
 case rest =>
  clear HC5
  try clear c1
  try clear c2
  try clear p2
  try clear c3
  try clear c4
  try clear c11
  try clear c12
  try clear c13
  try clear c15
  try clear c15b0
  try clear c15b1
  try clear c15b2
  try clear c16
  try clear c17
  try clear c18
  try clear c20
  try clear c21
  try clear c23
  try clear c24
  try clear c25
  try clear c27
  try clear c28
  try clear c30
  try clear hcz14_0
  try clear hcz14_1
  try clear hcz14_2
  try clear hcz19_0
  try clear hcz19_1
  try clear hcz19_2
  try clear hcz22_0
  try clear hcz22_1
  try clear hcz22_2
  try clear hcz26_0
  try clear hcz26_1
  try clear hcz26_2
  try clear hcz29_0
  try clear hcz29_1
  try clear hcz29_2
  try clear hcz31_0
  try clear hcz31_1
  try clear hcz31_2
  try clear hfz14_0
  try clear hfz14_1
  try clear hfz14_2
  try clear hfz19_0
  try clear hfz19_1
  try clear hfz19_2
  try clear hfz22_0
  try clear hfz22_1
  try clear hfz22_2
  try clear hfz26_0
  try clear hfz26_1
  try clear hfz26_2
  try clear hfz29_0
  try clear hfz29_1
  try clear hfz29_2
  try clear hfz31_0
  try clear hfz31_1
  try clear hfz31_2
  obtain ⟨kq, x18_4, rfl, HA, HJ4, BK136, BK137, BK138, BK142, HB⟩ := hcut
  cases kq with
  | zero => exact absurd HA.out (by simp [quarryref02_logic.j0])
  | succ kj4 =>
   have H := HA.out
   clear HA
   simp only [quarryref02_logic.j0] at H
   by_cases c32 : x18_4 = true
   ·subst c32
    have H1 : (some (t139, t140, t141)) = some (r1, r2, r3) := by rw [if_pos rfl] at H; exact H
    clear H
    have H := H1
    clear H1
    simp only [Option.some.injEq, Prod.mk.injEq] at H
    obtain ⟨rfl, rfl, rfl⟩ := H
    have hnb33 := NB142_136.out
    have hnc33 := NB136_142.out
    have hnb34 := NB142_137.out
    have hnc34 := NB137_142.out
    have hnb35 := NB142_138.out
    have hnc35 := NB138_142.out
    have hcz36_0 : wc.cell? ⟨gb142, 0, none⟩ = some (.int .i64 t139) := (blk_cell BK142.out 0).trans rfl
    have hcz36_1 : wc.cell? ⟨gb142, 1, none⟩ = some (.int .i64 t140) := (blk_cell BK142.out 1).trans rfl
    have hcz36_2 : wc.cell? ⟨gb142, 2, none⟩ = some (.string t141) := (blk_cell BK142.out 2).trans rfl
    have hfz36_0 := blk_frozen BK142.out 0
    have hfz36_1 := blk_frozen BK142.out 1
    have hfz36_2 := blk_frozen BK142.out 2
    have hnb37 := NB138_136.out
    have hnc37 := NB136_138.out
    have hnb38 := NB138_137.out
    have hnc38 := NB137_138.out
    have hcz39_0 : wc.cell? ⟨gb138, 0, none⟩ = some (.int .i64 0) := (blk_cell BK138.out 0).trans rfl
    have hcz39_1 : wc.cell? ⟨gb138, 1, none⟩ = some (.int .i64 0) := (blk_cell BK138.out 1).trans rfl
    have hcz39_2 : wc.cell? ⟨gb138, 2, none⟩ = some (.string (⟨#[]⟩ : ByteArray)) := (blk_cell BK138.out 2).trans rfl
    have hfz39_0 := blk_frozen BK138.out 0
    have hfz39_1 := blk_frozen BK138.out 1
    have hfz39_2 := blk_frozen BK138.out 2
    go_wp2
    refine bodyPost_ret (results_cell_row rfl _ _ gb138 25 #[.int .i64 t139, .int .i64 t140, .string t141] (0, 0) _ rfl (by (with_reducible repeat (first | refine blk_drewN ?_ _ | refine blk_drew ?_ | refine blk_alloc ?_ _)); refine blk_put (cs := #[.int .i64 t139, .int .i64 t140, .string (⟨#[]⟩ : ByteArray)]) ?_ 2 _ rfl; (with_reducible repeat (first | refine blk_drewN ?_ _ | refine blk_drew ?_ | refine blk_alloc ?_ _)); refine blk_put (cs := #[.int .i64 t139, .int .i64 0, .string (⟨#[]⟩ : ByteArray)]) ?_ 1 _ rfl; (with_reducible repeat (first | refine blk_drewN ?_ _ | refine blk_drew ?_ | refine blk_alloc ?_ _)); refine blk_put (cs := #[.int .i64 0, .int .i64 0, .string (⟨#[]⟩ : ByteArray)]) ?_ 0 _ rfl; (with_reducible repeat (first | refine blk_drewN ?_ _ | refine blk_drew ?_ | refine blk_alloc ?_ _)); exact BK138.out) Try.underlying25 rfl (by kernel_rfl)) rfl ?_
    exact ⟨by first | rfl | (simp [errW_none, errW_some] <;> rfl) | (simp [*, errW_none, errW_some] <;> rfl), by repeat (first | (with_reducible first | exact HB.out | apply below_alloc | apply pw_below_drewN | apply below_drew1 | refine below_set ?_ GE136.out | refine below_set ?_ GE137.out | refine below_set ?_ GE138.out | refine below_set ?_ GE142.out) | exact HB.out)⟩
   ·replace c32 := Bool.eq_false_iff.mpr c32
    subst c32
    have H1 : (if a1_0 = 0 then (some (0, 0, (⟨#[]⟩ : ByteArray))) else (if a2_0 = 0 then (some (0, 0, (⟨#[]⟩ : ByteArray))) else ((quarryref02_Truth.f (a0 == 4)).bind fun bt143 => (some (bt143.1, bt143.2.1, bt143.2.2))))) = some (r1, r2, r3) := by rw [if_neg (show ¬ (false = true) by decide)] at H; exact H
    clear H
    have H := H1
    clear H1
    by_cases c40 : a1_0 = 0
    ·rw [if_pos c40] at H
     have c40b0 : (a1_0 == 0) = true := beq_iff_eq.mpr c40
     have c40b1 : (a1_0 != 0) = false := bne_eq_false_iff_eq.mpr c40
     clear c40
     simp only [Option.some.injEq, Prod.mk.injEq] at H
     obtain ⟨rfl, rfl, rfl⟩ := H
     have hnb41 := NB136_137.out
     have hnc41 := NB137_136.out
     have hnb42 := NB136_138.out
     have hnc42 := NB138_136.out
     have hnb43 := NB136_142.out
     have hnc43 := NB142_136.out
     have hcz44_0 : wc.cell? ⟨gb136, 0, none⟩ = some (.int .i64 a1_0) := (blk_cell BK136.out 0).trans rfl
     have hcz44_1 : wc.cell? ⟨gb136, 1, none⟩ = some (.int .i64 a1_1) := (blk_cell BK136.out 1).trans rfl
     have hcz44_2 : wc.cell? ⟨gb136, 2, none⟩ = some (.string a1_2) := (blk_cell BK136.out 2).trans rfl
     have hfz44_0 := blk_frozen BK136.out 0
     have hfz44_1 := blk_frozen BK136.out 1
     have hfz44_2 := blk_frozen BK136.out 2
     have hnb45 := NB138_137.out
     have hnc45 := NB137_138.out
     have hnb46 := NB138_142.out
     have hnc46 := NB142_138.out
     have hcz47_0 : wc.cell? ⟨gb138, 0, none⟩ = some (.int .i64 0) := (blk_cell BK138.out 0).trans rfl
     have hcz47_1 : wc.cell? ⟨gb138, 1, none⟩ = some (.int .i64 0) := (blk_cell BK138.out 1).trans rfl
     have hcz47_2 : wc.cell? ⟨gb138, 2, none⟩ = some (.string (⟨#[]⟩ : ByteArray)) := (blk_cell BK138.out 2).trans rfl
     have hfz47_0 := blk_frozen BK138.out 0
     have hfz47_1 := blk_frozen BK138.out 1
     have hfz47_2 := blk_frozen BK138.out 2
     go_wp2
     refine bodyPost_ret (results_cell_row rfl _ _ gb138 25 #[.int .i64 0, .int .i64 0, .string (⟨#[]⟩ : ByteArray)] (0, 0) _ rfl (by (with_reducible repeat (first | refine blk_drewN ?_ _ | refine blk_drew ?_ | refine blk_alloc ?_ _)); refine blk_put (cs := #[.int .i64 0, .int .i64 0, .string (⟨#[]⟩ : ByteArray)]) ?_ 2 _ rfl; (with_reducible repeat (first | refine blk_drewN ?_ _ | refine blk_drew ?_ | refine blk_alloc ?_ _)); refine blk_put (cs := #[.int .i64 0, .int .i64 0, .string (⟨#[]⟩ : ByteArray)]) ?_ 1 _ rfl; (with_reducible repeat (first | refine blk_drewN ?_ _ | refine blk_drew ?_ | refine blk_alloc ?_ _)); refine blk_put (cs := #[.int .i64 0, .int .i64 0, .string (⟨#[]⟩ : ByteArray)]) ?_ 0 _ rfl; (with_reducible repeat (first | refine blk_drewN ?_ _ | refine blk_drew ?_ | refine blk_alloc ?_ _)); exact BK138.out) Try.underlying25 rfl (by kernel_rfl)) rfl ?_
     exact ⟨by first | rfl | (simp [errW_none, errW_some] <;> rfl) | (simp [*, errW_none, errW_some] <;> rfl), by repeat (first | (with_reducible first | exact HB.out | apply below_alloc | apply pw_below_drewN | apply below_drew1 | refine below_set ?_ GE136.out | refine below_set ?_ GE137.out | refine below_set ?_ GE138.out | refine below_set ?_ GE142.out) | exact HB.out)⟩
    ·rw [if_neg c40] at H
     have c40b0 : (a1_0 == 0) = false := beq_eq_false_iff_ne.mpr c40
     have c40b1 : (a1_0 != 0) = true := bne_iff_ne.mpr c40
     by_cases c48 : a2_0 = 0
     ·rw [if_pos c48] at H
      have c48b0 : (a2_0 == 0) = true := beq_iff_eq.mpr c48
      have c48b1 : (a2_0 != 0) = false := bne_eq_false_iff_eq.mpr c48
      clear c48
      simp only [Option.some.injEq, Prod.mk.injEq] at H
      obtain ⟨rfl, rfl, rfl⟩ := H
      have hnb49 := NB136_137.out
      have hnc49 := NB137_136.out
      have hnb50 := NB136_138.out
      have hnc50 := NB138_136.out
      have hnb51 := NB136_142.out
      have hnc51 := NB142_136.out
      have hcz52_0 : wc.cell? ⟨gb136, 0, none⟩ = some (.int .i64 a1_0) := (blk_cell BK136.out 0).trans rfl
      have hcz52_1 : wc.cell? ⟨gb136, 1, none⟩ = some (.int .i64 a1_1) := (blk_cell BK136.out 1).trans rfl
      have hcz52_2 : wc.cell? ⟨gb136, 2, none⟩ = some (.string a1_2) := (blk_cell BK136.out 2).trans rfl
      have hfz52_0 := blk_frozen BK136.out 0
      have hfz52_1 := blk_frozen BK136.out 1
      have hfz52_2 := blk_frozen BK136.out 2
      have hnb53 := NB137_138.out
      have hnc53 := NB138_137.out
      have hnb54 := NB137_142.out
      have hnc54 := NB142_137.out
      have hcz55_0 : wc.cell? ⟨gb137, 0, none⟩ = some (.int .i64 a2_0) := (blk_cell BK137.out 0).trans rfl
      have hcz55_1 : wc.cell? ⟨gb137, 1, none⟩ = some (.int .i64 a2_1) := (blk_cell BK137.out 1).trans rfl
      have hcz55_2 : wc.cell? ⟨gb137, 2, none⟩ = some (.string a2_2) := (blk_cell BK137.out 2).trans rfl
      have hfz55_0 := blk_frozen BK137.out 0
      have hfz55_1 := blk_frozen BK137.out 1
      have hfz55_2 := blk_frozen BK137.out 2
      have hnb56 := NB138_142.out
      have hnc56 := NB142_138.out
      have hcz57_0 : wc.cell? ⟨gb138, 0, none⟩ = some (.int .i64 0) := (blk_cell BK138.out 0).trans rfl
      have hcz57_1 : wc.cell? ⟨gb138, 1, none⟩ = some (.int .i64 0) := (blk_cell BK138.out 1).trans rfl
      have hcz57_2 : wc.cell? ⟨gb138, 2, none⟩ = some (.string (⟨#[]⟩ : ByteArray)) := (blk_cell BK138.out 2).trans rfl
      have hfz57_0 := blk_frozen BK138.out 0
      have hfz57_1 := blk_frozen BK138.out 1
      have hfz57_2 := blk_frozen BK138.out 2
      go_wp2
      refine bodyPost_ret (results_cell_row rfl _ _ gb138 25 #[.int .i64 0, .int .i64 0, .string (⟨#[]⟩ : ByteArray)] (0, 0) _ rfl (by (with_reducible repeat (first | refine blk_drewN ?_ _ | refine blk_drew ?_ | refine blk_alloc ?_ _)); refine blk_put (cs := #[.int .i64 0, .int .i64 0, .string (⟨#[]⟩ : ByteArray)]) ?_ 2 _ rfl; (with_reducible repeat (first | refine blk_drewN ?_ _ | refine blk_drew ?_ | refine blk_alloc ?_ _)); refine blk_put (cs := #[.int .i64 0, .int .i64 0, .string (⟨#[]⟩ : ByteArray)]) ?_ 1 _ rfl; (with_reducible repeat (first | refine blk_drewN ?_ _ | refine blk_drew ?_ | refine blk_alloc ?_ _)); refine blk_put (cs := #[.int .i64 0, .int .i64 0, .string (⟨#[]⟩ : ByteArray)]) ?_ 0 _ rfl; (with_reducible repeat (first | refine blk_drewN ?_ _ | refine blk_drew ?_ | refine blk_alloc ?_ _)); exact BK138.out) Try.underlying25 rfl (by kernel_rfl)) rfl ?_
      exact ⟨by first | rfl | (simp [errW_none, errW_some] <;> rfl) | (simp [*, errW_none, errW_some] <;> rfl), by repeat (first | (with_reducible first | exact HB.out | apply below_alloc | apply pw_below_drewN | apply below_drew1 | refine below_set ?_ GE136.out | refine below_set ?_ GE137.out | refine below_set ?_ GE138.out | refine below_set ?_ GE142.out) | exact HB.out)⟩
     ·rw [if_neg c48] at H
      have c48b0 : (a2_0 == 0) = false := beq_eq_false_iff_ne.mpr c48
      have c48b1 : (a2_0 != 0) = true := bne_iff_ne.mpr c48
      replace H := Option.bind_eq_some_iff.mp H
      obtain ⟨⟨t143, t144, t145⟩, A580, H⟩ := H
      replace H : (some (t143, t144, t145)) = some (r1, r2, r3) := H
      have A58 := Aside0.mk A580
      clear A580
      simp only [Option.some.injEq, Prod.mk.injEq] at H
      obtain ⟨rfl, rfl, rfl⟩ := H
      have hnb59 := NB136_137.out
      have hnc59 := NB137_136.out
      have hnb60 := NB136_138.out
      have hnc60 := NB138_136.out
      have hnb61 := NB136_142.out
      have hnc61 := NB142_136.out
      have hcz62_0 : wc.cell? ⟨gb136, 0, none⟩ = some (.int .i64 a1_0) := (blk_cell BK136.out 0).trans rfl
      have hcz62_1 : wc.cell? ⟨gb136, 1, none⟩ = some (.int .i64 a1_1) := (blk_cell BK136.out 1).trans rfl
      have hcz62_2 : wc.cell? ⟨gb136, 2, none⟩ = some (.string a1_2) := (blk_cell BK136.out 2).trans rfl
      have hfz62_0 := blk_frozen BK136.out 0
      have hfz62_1 := blk_frozen BK136.out 1
      have hfz62_2 := blk_frozen BK136.out 2
      have hnb63 := NB137_138.out
      have hnc63 := NB138_137.out
      have hnb64 := NB137_142.out
      have hnc64 := NB142_137.out
      have hcz65_0 : wc.cell? ⟨gb137, 0, none⟩ = some (.int .i64 a2_0) := (blk_cell BK137.out 0).trans rfl
      have hcz65_1 : wc.cell? ⟨gb137, 1, none⟩ = some (.int .i64 a2_1) := (blk_cell BK137.out 1).trans rfl
      have hcz65_2 : wc.cell? ⟨gb137, 2, none⟩ = some (.string a2_2) := (blk_cell BK137.out 2).trans rfl
      have hfz65_0 := blk_frozen BK137.out 0
      have hfz65_1 := blk_frozen BK137.out 1
      have hfz65_2 := blk_frozen BK137.out 2
      go_wp2_with (first | ((with_reducible refine gate_callee (f := 49) rfl ?_); refine goesL_ (some 31) rfl rfl Try.func49 (by kernel_rfl) rfl #[.bool (a0 == 4)] rfl (by (try simp only [List.map_toArray, List.map_cons, List.map_nil]); first | done | rfl | (simp only [List.length_drop, List.length_take]; rfl)) ?_; (with_reducible refine (quarryref02_Truth.calls (a0 == 4) t143 t144 t145 _ A58.out).mono ?_); rintro e w66 ⟨rfl, hb⟩; refine ⟨_, rfl, ?_⟩; have n0_ := Aside0.mk (blk_below (g := gb136) (o := .cells #[.int .i64 a1_0, .int .i64 a1_1, .string a1_2] 25 (0, 0)) (bk_ BK136) hb); have n1_ := Aside0.mk (blk_below (g := gb137) (o := .cells #[.int .i64 a2_0, .int .i64 a2_1, .string a2_2] 25 (0, 0)) (bk_ BK137) hb); have n2_ := Aside0.mk (blk_below (g := gb138) (o := .cells #[.int .i64 0, .int .i64 0, .string (⟨#[]⟩ : ByteArray)] 25 (0, 0)) (bk_ BK138) hb); have n3_ := Aside0.mk (blk_below (g := gb142) (o := .cells #[.int .i64 t139, .int .i64 t140, .string t141] 25 (0, 0)) (bk_ BK142) hb); have n4_ := Aside0.mk (below_step (by repeat (first | (with_reducible first | exact HB.out | apply below_alloc | apply pw_below_drewN | apply below_drew1 | refine below_set ?_ GE136.out | refine below_set ?_ GE137.out | refine below_set ?_ GE138.out | refine below_set ?_ GE142.out) | exact HB.out)) hb); clear BK136; clear BK137; clear BK138; clear BK142; clear HB; have BK136 := n0_; have BK137 := n1_; have BK138 := n2_; have BK142 := n3_; have HB := n4_; clear n0_ n1_ n2_ n3_ n4_; (try clear hb); (try clear hb2); (try clear hk); (try clear hi); have hnb67 := NB138_142.out; have hnc67 := NB142_138.out; have hcz68_0 : w66.cell? ⟨gb138, 0, none⟩ = some (.int .i64 0) := (blk_cell BK138.out 0).trans rfl; have hcz68_1 : w66.cell? ⟨gb138, 1, none⟩ = some (.int .i64 0) := (blk_cell BK138.out 1).trans rfl; have hcz68_2 : w66.cell? ⟨gb138, 2, none⟩ = some (.string (⟨#[]⟩ : ByteArray)) := (blk_cell BK138.out 2).trans rfl; have hfz68_0 := blk_frozen BK138.out 0; have hfz68_1 := blk_frozen BK138.out 1; have hfz68_2 := blk_frozen BK138.out 2))
      refine bodyPost_ret (results_cell_row rfl _ _ gb138 25 #[.int .i64 t143, .int .i64 t144, .string t145] (0, 0) _ rfl (by (with_reducible repeat (first | refine blk_drewN ?_ _ | refine blk_drew ?_ | refine blk_alloc ?_ _)); refine blk_put (cs := #[.int .i64 t143, .int .i64 t144, .string (⟨#[]⟩ : ByteArray)]) ?_ 2 _ rfl; (with_reducible repeat (first | refine blk_drewN ?_ _ | refine blk_drew ?_ | refine blk_alloc ?_ _)); refine blk_put (cs := #[.int .i64 t143, .int .i64 0, .string (⟨#[]⟩ : ByteArray)]) ?_ 1 _ rfl; (with_reducible repeat (first | refine blk_drewN ?_ _ | refine blk_drew ?_ | refine blk_alloc ?_ _)); refine blk_put (cs := #[.int .i64 0, .int .i64 0, .string (⟨#[]⟩ : ByteArray)]) ?_ 0 _ rfl; (with_reducible repeat (first | refine blk_drewN ?_ _ | refine blk_drew ?_ | refine blk_alloc ?_ _)); exact BK138.out) Try.underlying25 rfl (by kernel_rfl)) rfl ?_
      exact ⟨by first | rfl | (simp [errW_none, errW_some] <;> rfl) | (simp [*, errW_none, errW_some] <;> rfl), by repeat (first | (with_reducible first | exact HB.out | apply below_alloc | apply pw_below_drewN | apply below_drew1 | refine below_set ?_ GE136.out | refine below_set ?_ GE137.out | refine below_set ?_ GE138.out | refine below_set ?_ GE142.out) | exact HB.out)⟩
def quarryref02_holds.f (a0 : Int) (a1 : Int) : Option (Bool) := if a0 = 5 then (some (a1 == 0)) else (if a0 = 6 then (some (a1 != 0)) else (if a0 = 7 then (some (decide (a1 < 0))) else (if a0 = 8 then (some (decide (a1 ≤ 0))) else (if a0 = 9 then (some (decide (a1 > 0))) else (some (decide (a1 ≥ 0)))))))
set_option maxHeartbeats 8000000 in
set_option maxRecDepth 100000 in
theorem quarryref02_holds.calls (a0 : Int) (a1 : Int) (r : Bool) (w : World) (h : quarryref02_holds.f a0 a1 = some r) :
  Calls Try.prog 50 #[.int .i64 a0, .int .i64 a1] w fun e w' => e = .returned (.bool r) ∧ Drawn0 w w' := by
 have H : (if a0 = 5 then (some (a1 == 0)) else (if a0 = 6 then (some (a1 != 0)) else (if a0 = 7 then (some (decide (a1 < 0))) else (if a0 = 8 then (some (decide (a1 ≤ 0))) else (if a0 = 9 then (some (decide (a1 > 0))) else (some (decide (a1 ≥ 0)))))))) = some r := h
 clear h
 by_cases c3 : a0 = 5
 ·rw [if_pos c3] at H
  have c3b0 : (a0 == 5) = true := beq_iff_eq.mpr c3
  have c3b1 : (a0 != 5) = false := bne_eq_false_iff_eq.mpr c3
  clear c3
  obtain rfl := Option.some.inj H
  go_enter Try.func50, Try.ntmps50
  go_wp2
  go_ret
  exact ⟨by first | rfl | (simp; done) | (simp [*]; done), by repeat (first | exact Drawn0.refl _ | apply Drawn0.step)⟩
 ·rw [if_neg c3] at H
  have c3b0 : (a0 == 5) = false := beq_eq_false_iff_ne.mpr c3
  have c3b1 : (a0 != 5) = true := bne_iff_ne.mpr c3
  by_cases c4 : a0 = 6
  ·rw [if_pos c4] at H
   have c4b0 : (a0 == 6) = true := beq_iff_eq.mpr c4
   have c4b1 : (a0 != 6) = false := bne_eq_false_iff_eq.mpr c4
   clear c4
   obtain rfl := Option.some.inj H
   go_enter Try.func50, Try.ntmps50
   go_wp2
   go_ret
   exact ⟨by first | rfl | (simp; done) | (simp [*]; done), by repeat (first | exact Drawn0.refl _ | apply Drawn0.step)⟩
  ·rw [if_neg c4] at H
   have c4b0 : (a0 == 6) = false := beq_eq_false_iff_ne.mpr c4
   have c4b1 : (a0 != 6) = true := bne_iff_ne.mpr c4
   by_cases c5 : a0 = 7
   ·rw [if_pos c5] at H
    have c5b0 : (a0 == 7) = true := beq_iff_eq.mpr c5
    have c5b1 : (a0 != 7) = false := bne_eq_false_iff_eq.mpr c5
    clear c5
    obtain rfl := Option.some.inj H
    go_enter Try.func50, Try.ntmps50
    go_wp2
    go_ret
    exact ⟨by first | rfl | (simp; done) | (simp [*]; done), by repeat (first | exact Drawn0.refl _ | apply Drawn0.step)⟩
   ·rw [if_neg c5] at H
    have c5b0 : (a0 == 7) = false := beq_eq_false_iff_ne.mpr c5
    have c5b1 : (a0 != 7) = true := bne_iff_ne.mpr c5
    by_cases c6 : a0 = 8
    ·rw [if_pos c6] at H
     have c6b0 : (a0 == 8) = true := beq_iff_eq.mpr c6
     have c6b1 : (a0 != 8) = false := bne_eq_false_iff_eq.mpr c6
     clear c6
     obtain rfl := Option.some.inj H
     go_enter Try.func50, Try.ntmps50
     go_wp2
     go_ret
     exact ⟨by first | rfl | (simp; done) | (simp [*]; done), by repeat (first | exact Drawn0.refl _ | apply Drawn0.step)⟩
    ·rw [if_neg c6] at H
     have c6b0 : (a0 == 8) = false := beq_eq_false_iff_ne.mpr c6
     have c6b1 : (a0 != 8) = true := bne_iff_ne.mpr c6
     by_cases c7 : a0 = 9
     ·rw [if_pos c7] at H
      have c7b0 : (a0 == 9) = true := beq_iff_eq.mpr c7
      have c7b1 : (a0 != 9) = false := bne_eq_false_iff_eq.mpr c7
      clear c7
      obtain rfl := Option.some.inj H
      go_enter Try.func50, Try.ntmps50
      go_wp2
      go_ret
      exact ⟨by first | rfl | (simp; done) | (simp [*]; done), by repeat (first | exact Drawn0.refl _ | apply Drawn0.step)⟩
     ·rw [if_neg c7] at H
      have c7b0 : (a0 == 9) = false := beq_eq_false_iff_ne.mpr c7
      have c7b1 : (a0 != 9) = true := bne_iff_ne.mpr c7
      obtain rfl := Option.some.inj H
      go_enter Try.func50, Try.ntmps50
      go_wp2
      go_ret
      exact ⟨by first | rfl | (simp; done) | (simp [*]; done), by repeat (first | exact Drawn0.refl _ | apply Drawn0.step)⟩
def quarryref02_times.j0 : Nat → Int → Int → Bool → Option (Int × Bool)
 | 0, _, _, _ => none
 | k + 1, x0, x1, x12 => if x12 = true then (some (0, true)) else (if x0 = (-1) then (some (wrap64 (-x1), (x1 != (-9223372036854775808)))) else (if x1 = (-1) then (some (wrap64 (-x0), (x0 != (-9223372036854775808)))) else (if x1 = 0 then (none) else (some (wrap64 (x0 * x1), ((wrap64 (Int.tdiv (wrap64 (x0 * x1)) x1)) == x0))))))
def quarryref02_times.f (k : Nat) (a0 : Int) (a1 : Int) : Option (Int × Bool) := if a0 = 0 then (quarryref02_times.j0 k a0 a1 true) else (quarryref02_times.j0 k a0 a1 (a1 == 0))
set_option maxHeartbeats 8000000 in
set_option maxRecDepth 100000 in
theorem quarryref02_times.calls (k : Nat) (a0 : Int) (a1 : Int) (r1 : Int) (r2 : Bool) (w : World) (h : quarryref02_times.f k a0 a1 = some (r1, r2)) :
  Calls Try.prog 63 #[.int .i64 a0, .int .i64 a1] w fun e w' => e = .returned (.tuple #[.int .i64 r1, .bool r2]) ∧ Drawn0 w w' := by
 have H : (if a0 = 0 then (quarryref02_times.j0 k a0 a1 true) else (quarryref02_times.j0 k a0 a1 (a1 == 0))) = some (r1, r2) := h
 clear h
 have HC3 := Aside0.mk H
 clear H
 go_enter Try.func63, Try.ntmps63
 go_upto_region 1 with (fail)
 repeat (go_quiet (fail); go_upto_region 1 with (fail))
 go_cut [12] (fun v12 wc => ∃ (kq : Nat) (x12_2 : Bool), v12 = .bool x12_2 ∧ Aside0 (quarryref02_times.j0 kq a0 a1 x12_2 = some (r1, r2)) ∧ Aside0 (kq ≤ k) ∧ Drawn0 w wc)
 case first =>
  have H := HC3.out
  clear HC3
  by_cases c4 : a0 = 0
  ·rw [if_pos c4] at H
   have c4b0 : (a0 == 0) = true := beq_iff_eq.mpr c4
   have c4b1 : (a0 != 0) = false := bne_eq_false_iff_eq.mpr c4
   clear c4
   (first | rw [c4b0] | (simp only [i64_w, i32_w]; rw [c4b0]) | skip)
   have H' := Aside0.mk H
   clear H
   go_wp2
   repeat (go_quiet (fail); try go_wp2)
   go_meet
   case rel => exact ⟨_, (true), (by first | rfl | (simp; done) | (simp [*]; done)), H', ⟨by first | omega | exact Nat.le_refl _⟩, by repeat (first | exact Drawn0.refl _ | apply Drawn0.step)⟩
  ·rw [if_neg c4] at H
   have c4b0 : (a0 == 0) = false := beq_eq_false_iff_ne.mpr c4
   have c4b1 : (a0 != 0) = true := bne_iff_ne.mpr c4
   (first | rw [c4b0] | (simp only [i64_w, i32_w]; rw [c4b0]) | skip)
   have H' := Aside0.mk H
   clear H
   go_wp2
   repeat (go_quiet (fail); try go_wp2)
   go_meet
   case rel => exact ⟨_, ((a1 == 0)), (by first | rfl | (simp; done) | (simp [*]; done)), H', ⟨by first | omega | exact Nat.le_refl _⟩, by repeat (first | exact Drawn0.refl _ | apply Drawn0.step)⟩
 case rest =>
  clear HC3
  try clear p2
  try clear c4
  try clear c4b0
  try clear c4b1
  obtain ⟨kq, x12_2, rfl, HA, HJ2, ⟨mc2, rfl⟩⟩ := hcut
  cases kq with
  | zero => exact absurd HA.out (by simp [quarryref02_times.j0])
  | succ kj2 =>
   have H := HA.out
   clear HA
   simp only [quarryref02_times.j0] at H
   by_cases c5 : x12_2 = true
   ·subst c5
    have H1 : (some (0, true)) = some (r1, r2) := by rw [if_pos rfl] at H; exact H
    clear H
    have H := H1
    clear H1
    simp only [Option.some.injEq, Prod.mk.injEq] at H
    obtain ⟨rfl, rfl⟩ := H
    go_wp2
    repeat (go_quiet (fail); try go_wp2)
    go_ret2
    exact ⟨by first | rfl | (simp; done) | (simp [*]; done), by repeat (first | exact Drawn0.refl _ | apply Drawn0.step)⟩
   ·replace c5 := Bool.eq_false_iff.mpr c5
    subst c5
    have H1 : (if a0 = (-1) then (some (wrap64 (-a1), (a1 != (-9223372036854775808)))) else (if a1 = (-1) then (some (wrap64 (-a0), (a0 != (-9223372036854775808)))) else (if a1 = 0 then (none) else (some (wrap64 (a0 * a1), ((wrap64 (Int.tdiv (wrap64 (a0 * a1)) a1)) == a0)))))) = some (r1, r2) := by rw [if_neg (show ¬ (false = true) by decide)] at H; exact H
    clear H
    have H := H1
    clear H1
    by_cases c6 : a0 = (-1)
    ·rw [if_pos c6] at H
     have c6b0 : (a0 == (-1)) = true := beq_iff_eq.mpr c6
     have c6b1 : (a0 != (-1)) = false := bne_eq_false_iff_eq.mpr c6
     clear c6
     simp only [Option.some.injEq, Prod.mk.injEq] at H
     obtain ⟨rfl, rfl⟩ := H
     go_wp2
     repeat (go_quiet (fail); try go_wp2)
     go_ret2
     exact ⟨by first | rfl | (simp; done) | (simp [*]; done), by repeat (first | exact Drawn0.refl _ | apply Drawn0.step)⟩
    ·rw [if_neg c6] at H
     have c6b0 : (a0 == (-1)) = false := beq_eq_false_iff_ne.mpr c6
     have c6b1 : (a0 != (-1)) = true := bne_iff_ne.mpr c6
     by_cases c7 : a1 = (-1)
     ·rw [if_pos c7] at H
      have c7b0 : (a1 == (-1)) = true := beq_iff_eq.mpr c7
      have c7b1 : (a1 != (-1)) = false := bne_eq_false_iff_eq.mpr c7
      clear c7
      simp only [Option.some.injEq, Prod.mk.injEq] at H
      obtain ⟨rfl, rfl⟩ := H
      go_wp2
      repeat (go_quiet (fail); try go_wp2)
      go_ret2
      exact ⟨by first | rfl | (simp; done) | (simp [*]; done), by repeat (first | exact Drawn0.refl _ | apply Drawn0.step)⟩
     ·rw [if_neg c7] at H
      have c7b0 : (a1 == (-1)) = false := beq_eq_false_iff_ne.mpr c7
      have c7b1 : (a1 != (-1)) = true := bne_iff_ne.mpr c7
      by_cases c8 : a1 = 0
      ·rw [if_pos c8] at H
       exact absurd H (by simp)
      ·rw [if_neg c8] at H
       have c8b0 : (a1 == 0) = false := beq_eq_false_iff_ne.mpr c8
       have c8b1 : (a1 != 0) = true := bne_iff_ne.mpr c8
       simp only [Option.some.injEq, Prod.mk.injEq] at H
       obtain ⟨rfl, rfl⟩ := H
       go_wp2
       repeat (go_quiet (fail); try go_wp2)
       go_ret2
       exact ⟨by first | rfl | (simp; done) | (simp [*]; done), by repeat (first | exact Drawn0.refl _ | apply Drawn0.step)⟩
def quarryref02_sum.f (k : Nat) (a0 : Int) (a1 : Int) (a2 : Int) : Option (Int × Bool) := if a0 = 11 then (if ((decide ((wrap64 (a1 + a2)) > a1)) == (decide (a2 > 0))) = true then (some (wrap64 (a1 + a2), true)) else (some (wrap64 (a1 + a2), (a2 == 0)))) else (if a0 = 12 then (if ((decide ((wrap64 (a1 - a2)) < a1)) == (decide (a2 > 0))) = true then (some (wrap64 (a1 - a2), true)) else (some (wrap64 (a1 - a2), (a2 == 0)))) else (if a0 = 13 then ((quarryref02_times.f k a1 a2).bind fun bt149 => (some (bt149.1, bt149.2))) else (if a0 = 14 then (if a2 = (-1) then (some (wrap64 (-a1), (a1 != (-9223372036854775808)))) else (if a2 = 0 then (none) else (some (wrap64 (Int.tdiv a1 a2), true)))) else (if a2 = (-1) then (some (0, true)) else (if a2 = 0 then (none) else (some (Int.tmod a1 a2, true)))))))
set_option maxHeartbeats 8000000 in
set_option maxRecDepth 100000 in
theorem quarryref02_sum.calls (k : Nat) (a0 : Int) (a1 : Int) (a2 : Int) (r1 : Int) (r2 : Bool) (w : World) (h : quarryref02_sum.f k a0 a1 a2 = some (r1, r2)) :
  Calls Try.prog 52 #[.int .i64 a0, .int .i64 a1, .int .i64 a2] w fun e w' => e = .returned (.tuple #[.int .i64 r1, .bool r2]) ∧ Drawn0 w w' := by
 have H : (if a0 = 11 then (if ((decide ((wrap64 (a1 + a2)) > a1)) == (decide (a2 > 0))) = true then (some (wrap64 (a1 + a2), true)) else (some (wrap64 (a1 + a2), (a2 == 0)))) else (if a0 = 12 then (if ((decide ((wrap64 (a1 - a2)) < a1)) == (decide (a2 > 0))) = true then (some (wrap64 (a1 - a2), true)) else (some (wrap64 (a1 - a2), (a2 == 0)))) else (if a0 = 13 then ((quarryref02_times.f k a1 a2).bind fun bt149 => (some (bt149.1, bt149.2))) else (if a0 = 14 then (if a2 = (-1) then (some (wrap64 (-a1), (a1 != (-9223372036854775808)))) else (if a2 = 0 then (none) else (some (wrap64 (Int.tdiv a1 a2), true)))) else (if a2 = (-1) then (some (0, true)) else (if a2 = 0 then (none) else (some (Int.tmod a1 a2, true)))))))) = some (r1, r2) := h
 clear h
 by_cases c4 : a0 = 11
 ·rw [if_pos c4] at H
  have c4b0 : (a0 == 11) = true := beq_iff_eq.mpr c4
  have c4b1 : (a0 != 11) = false := bne_eq_false_iff_eq.mpr c4
  clear c4
  by_cases c5 : ((decide ((wrap64 (a1 + a2)) > a1)) == (decide (a2 > 0))) = true
  ·rw [if_pos c5] at H
   have c5b0 : ((decide ((wrap64 (a1 + a2)) > a1)) == (decide (a2 > 0))) = true := c5
   (try (have c5b1 : decide ((decide ((wrap64 (a1 + a2)) > a1)) = (decide (a2 > 0))) = true := by simpa using c5))
   (try (have c5b2 : ((decide ((wrap64 (a1 + a2)) > a1)) == (decide (a2 > 0))) = true := by simpa using c5))
   clear c5
   simp only [Option.some.injEq, Prod.mk.injEq] at H
   obtain ⟨rfl, rfl⟩ := H
   go_enter Try.func52, Try.ntmps52
   go_wp2
   go_ret2
   exact ⟨by first | rfl | (simp; done) | (simp [*]; done), by repeat (first | exact Drawn0.refl _ | apply Drawn0.step)⟩
  ·rw [if_neg c5] at H
   have c5b0 : ((decide ((wrap64 (a1 + a2)) > a1)) == (decide (a2 > 0))) = false := by simpa using c5
   (try (have c5b1 : decide ((decide ((wrap64 (a1 + a2)) > a1)) = (decide (a2 > 0))) = false := by simpa using c5))
   (try (have c5b2 : ((decide ((wrap64 (a1 + a2)) > a1)) == (decide (a2 > 0))) = false := by simpa using c5))
   (try (have c5b3 : ¬ ((decide ((wrap64 (a1 + a2)) > a1)) = (decide (a2 > 0))) := by simpa using c5))
   clear c5
   simp only [Option.some.injEq, Prod.mk.injEq] at H
   obtain ⟨rfl, rfl⟩ := H
   go_enter Try.func52, Try.ntmps52
   go_wp2
   go_ret2
   exact ⟨by first | rfl | (simp; done) | (simp [*]; done), by repeat (first | exact Drawn0.refl _ | apply Drawn0.step)⟩
 ·rw [if_neg c4] at H
  have c4b0 : (a0 == 11) = false := beq_eq_false_iff_ne.mpr c4
  have c4b1 : (a0 != 11) = true := bne_iff_ne.mpr c4
  by_cases c6 : a0 = 12
  ·rw [if_pos c6] at H
   have c6b0 : (a0 == 12) = true := beq_iff_eq.mpr c6
   have c6b1 : (a0 != 12) = false := bne_eq_false_iff_eq.mpr c6
   clear c6
   by_cases c7 : ((decide ((wrap64 (a1 - a2)) < a1)) == (decide (a2 > 0))) = true
   ·rw [if_pos c7] at H
    have c7b0 : ((decide ((wrap64 (a1 - a2)) < a1)) == (decide (a2 > 0))) = true := c7
    (try (have c7b1 : decide ((decide ((wrap64 (a1 - a2)) < a1)) = (decide (a2 > 0))) = true := by simpa using c7))
    (try (have c7b2 : ((decide ((wrap64 (a1 - a2)) < a1)) == (decide (a2 > 0))) = true := by simpa using c7))
    clear c7
    simp only [Option.some.injEq, Prod.mk.injEq] at H
    obtain ⟨rfl, rfl⟩ := H
    go_enter Try.func52, Try.ntmps52
    go_wp2
    go_ret2
    exact ⟨by first | rfl | (simp; done) | (simp [*]; done), by repeat (first | exact Drawn0.refl _ | apply Drawn0.step)⟩
   ·rw [if_neg c7] at H
    have c7b0 : ((decide ((wrap64 (a1 - a2)) < a1)) == (decide (a2 > 0))) = false := by simpa using c7
    (try (have c7b1 : decide ((decide ((wrap64 (a1 - a2)) < a1)) = (decide (a2 > 0))) = false := by simpa using c7))
    (try (have c7b2 : ((decide ((wrap64 (a1 - a2)) < a1)) == (decide (a2 > 0))) = false := by simpa using c7))
    (try (have c7b3 : ¬ ((decide ((wrap64 (a1 - a2)) < a1)) = (decide (a2 > 0))) := by simpa using c7))
    clear c7
    simp only [Option.some.injEq, Prod.mk.injEq] at H
    obtain ⟨rfl, rfl⟩ := H
    go_enter Try.func52, Try.ntmps52
    go_wp2
    go_ret2
    exact ⟨by first | rfl | (simp; done) | (simp [*]; done), by repeat (first | exact Drawn0.refl _ | apply Drawn0.step)⟩
  ·rw [if_neg c6] at H
   have c6b0 : (a0 == 12) = false := beq_eq_false_iff_ne.mpr c6
   have c6b1 : (a0 != 12) = true := bne_iff_ne.mpr c6
   by_cases c8 : a0 = 13
   ·rw [if_pos c8] at H
    have c8b0 : (a0 == 13) = true := beq_iff_eq.mpr c8
    have c8b1 : (a0 != 13) = false := bne_eq_false_iff_eq.mpr c8
    clear c8
    replace H := Option.bind_eq_some_iff.mp H
    obtain ⟨⟨t149, t150⟩, A90, H⟩ := H
    replace H : (some (t149, t150)) = some (r1, r2) := H
    have A9 := Aside0.mk A90
    clear A90
    simp only [Option.some.injEq, Prod.mk.injEq] at H
    obtain ⟨rfl, rfl⟩ := H
    go_enter Try.func52, Try.ntmps52
    go_wp2_with (first | ((with_reducible refine gate_callee (f := 63) rfl ?_); refine goesL_ (some 47) rfl rfl Try.func63 (by kernel_rfl) rfl #[.int .i64 a1, .int .i64 a2] rfl (by (try simp only [List.map_toArray, List.map_cons, List.map_nil]); first | done | rfl | (simp only [List.length_drop, List.length_take]; rfl)) ?_; (with_reducible refine (quarryref02_times.calls k a1 a2 t149 t150 _ A9.out).mono ?_); rintro e w' ⟨rfl, ⟨nd, rfl⟩⟩; refine ⟨_, rfl, ?_⟩))
    go_ret2
    exact ⟨by first | rfl | (simp; done) | (simp [*]; done), by repeat (first | exact Drawn0.refl _ | apply Drawn0.step)⟩
   ·rw [if_neg c8] at H
    have c8b0 : (a0 == 13) = false := beq_eq_false_iff_ne.mpr c8
    have c8b1 : (a0 != 13) = true := bne_iff_ne.mpr c8
    by_cases c10 : a0 = 14
    ·rw [if_pos c10] at H
     have c10b0 : (a0 == 14) = true := beq_iff_eq.mpr c10
     have c10b1 : (a0 != 14) = false := bne_eq_false_iff_eq.mpr c10
     clear c10
     by_cases c11 : a2 = (-1)
     ·rw [if_pos c11] at H
      have c11b0 : (a2 == (-1)) = true := beq_iff_eq.mpr c11
      have c11b1 : (a2 != (-1)) = false := bne_eq_false_iff_eq.mpr c11
      clear c11
      simp only [Option.some.injEq, Prod.mk.injEq] at H
      obtain ⟨rfl, rfl⟩ := H
      go_enter Try.func52, Try.ntmps52
      go_wp2
      go_ret2
      exact ⟨by first | rfl | (simp; done) | (simp [*]; done), by repeat (first | exact Drawn0.refl _ | apply Drawn0.step)⟩
     ·rw [if_neg c11] at H
      have c11b0 : (a2 == (-1)) = false := beq_eq_false_iff_ne.mpr c11
      have c11b1 : (a2 != (-1)) = true := bne_iff_ne.mpr c11
      by_cases c12 : a2 = 0
      ·rw [if_pos c12] at H
       exact absurd H (by simp)
      ·rw [if_neg c12] at H
       have c12b0 : (a2 == 0) = false := beq_eq_false_iff_ne.mpr c12
       have c12b1 : (a2 != 0) = true := bne_iff_ne.mpr c12
       simp only [Option.some.injEq, Prod.mk.injEq] at H
       obtain ⟨rfl, rfl⟩ := H
       go_enter Try.func52, Try.ntmps52
       go_wp2
       go_ret2
       exact ⟨by first | rfl | (simp; done) | (simp [*]; done), by repeat (first | exact Drawn0.refl _ | apply Drawn0.step)⟩
    ·rw [if_neg c10] at H
     have c10b0 : (a0 == 14) = false := beq_eq_false_iff_ne.mpr c10
     have c10b1 : (a0 != 14) = true := bne_iff_ne.mpr c10
     by_cases c13 : a2 = (-1)
     ·rw [if_pos c13] at H
      have c13b0 : (a2 == (-1)) = true := beq_iff_eq.mpr c13
      have c13b1 : (a2 != (-1)) = false := bne_eq_false_iff_eq.mpr c13
      clear c13
      simp only [Option.some.injEq, Prod.mk.injEq] at H
      obtain ⟨rfl, rfl⟩ := H
      go_enter Try.func52, Try.ntmps52
      go_wp2
      go_ret2
      exact ⟨by first | rfl | (simp; done) | (simp [*]; done), by repeat (first | exact Drawn0.refl _ | apply Drawn0.step)⟩
     ·rw [if_neg c13] at H
      have c13b0 : (a2 == (-1)) = false := beq_eq_false_iff_ne.mpr c13
      have c13b1 : (a2 != (-1)) = true := bne_iff_ne.mpr c13
      by_cases c14 : a2 = 0
      ·rw [if_pos c14] at H
       exact absurd H (by simp)
      ·rw [if_neg c14] at H
       have c14b0 : (a2 == 0) = false := beq_eq_false_iff_ne.mpr c14
       have c14b1 : (a2 != 0) = true := bne_iff_ne.mpr c14
       simp only [Option.some.injEq, Prod.mk.injEq] at H
       obtain ⟨rfl, rfl⟩ := H
       go_enter Try.func52, Try.ntmps52
       go_wp2
       go_ret2
       exact ⟨by first | rfl | (simp; done) | (simp [*]; done), by repeat (first | exact Drawn0.refl _ | apply Drawn0.step)⟩
end Go.Proofs.Ytfbeklbjlkgbnaa.P
end
section
namespace Go.Proofs.Ytfbeklbjlkgbnaa.P
open Go.RowKit Go.Proofs.YtfbeklbjlkgbnaaW.PrintWords Go.Proofs.YtfbeklbjlkgbnaaW.PrintLast Go.Proofs.YtfbeklbjlkgbnaaW.PrintMore
attribute [local go_sem] max2_int min2_int max_two min_two max_three min_three max_four min_four
set_option linter.unusedVariables false
set_option linter.unusedSimpArgs false
mutual
def quarryref01_texts.l0 : Nat → ByteArray → ByteArray → Int → Option (Int)
 | 0, _, _, _ => none
 | k + 1, x0, x1, x5 => if x5 < (x0.size : Int) then (quarryref01_texts.j1 k x0 x1 x5 (decide (x5 < (x1.size : Int)))) else (quarryref01_texts.j1 k x0 x1 x5 false)
def quarryref01_texts.j1 : Nat → ByteArray → ByteArray → Int → Bool → Option (Int)
 | 0, _, _, _, _ => none
 | k + 1, x0, x1, x5, x15 => if x15 = true then (if 0 ≤ x5 then (if x5 < (x0.size : Int) then (if x5 < (x1.size : Int) then (if (bt x0 x5) < (bt x1 x5) then (some (-1)) else (if (bt x0 x5) > (bt x1 x5) then (some 1) else (quarryref01_texts.l0 k x0 x1 (wrap64 (x5 + 1))))) else (none)) else (none)) else (none)) else (if (x0.size : Int) < (x1.size : Int) then (some (-1)) else (if (x0.size : Int) > (x1.size : Int) then (some 1) else (some 0)))
end
def quarryref01_texts.f (k : Nat) (a0 : ByteArray) (a1 : ByteArray) : Option (Int) := quarryref01_texts.l0 k a0 a1 0
set_option maxHeartbeats 8000000 in
set_option maxRecDepth 100000 in
theorem quarryref01_texts.calls (k : Nat) (a0 : ByteArray) (a1 : ByteArray) (r : Int) (w : World) (h : quarryref01_texts.f k a0 a1 = some r) :
  Calls Try.prog 62 #[.string a0, .string a1] w fun e w' => e = .returned (.int .i64 r) ∧ Drawn0 w w' := by
 have H : (quarryref01_texts.l0 k a0 a1 0) = some r := h
 clear h
 have H' := Aside0.mk H
 clear H
 go_enter Try.func62, Try.ntmps62
 go_wp2
 repeat (go_quiet (fail); try go_wp2)
 go_loopg [5] k (fun kq v5 w' => ∃ (x5_1 : Int), v5 = .int .i64 x5_1 ∧ Aside0 (quarryref01_texts.l0 kq a0 a1 x5_1 = some r) ∧ Aside0 (kq ≤ k) ∧ Drawn0 w w')
 case atStart => exact ⟨(0), (by first | rfl | (simp; done) | (simp [*]; done)), H', ⟨Nat.le_refl _⟩, by repeat (first | exact Drawn0.refl _ | apply Drawn0.step)⟩
 case round =>
  clear H'
  try clear p2
  obtain ⟨x5_1, rfl, HA, HK1, ⟨m1, rfl⟩⟩ := hrel
  cases gk with
  | zero => exact absurd HA.out (by simp [quarryref01_texts.l0])
  | succ k1 =>
   have H := HA.out
   clear HA
   simp only [quarryref01_texts.l0] at H
   have HC3 := Aside0.mk H
   clear H
   go_upto_region 2 with (fail)
   repeat (go_quiet (fail); go_upto_region 2 with (fail))
   go_cut [15] (fun v15 wc => ∃ (kq : Nat) (x15_2 : Bool), v15 = .bool x15_2 ∧ Aside0 (quarryref01_texts.j1 kq a0 a1 x5_1 x15_2 = some r) ∧ Aside0 (kq ≤ k1) ∧ Drawn0 w wc)
   case first =>
    have H := HC3.out
    clear HC3
    by_cases c4 : x5_1 < (a0.size : Int)
    ·rw [if_pos c4] at H
     have c4b0 : decide (x5_1 < (a0.size : Int)) = true := decide_eq_true c4
     clear c4
     (first | rw [c4b0] | (simp only [i64_w, i32_w]; rw [c4b0]) | skip)
     have H' := Aside0.mk H
     clear H
     go_wp2
     repeat (go_quiet (fail); try go_wp2)
     go_meet
     case rel => exact ⟨_, (decide (x5_1 < (a1.size : Int))), (by first | rfl | (simp; done) | (simp [*]; done)), H', ⟨by have := HK1.out; first | omega | exact Nat.le_refl _⟩, by repeat (first | exact Drawn0.refl _ | apply Drawn0.step)⟩
    ·rw [if_neg c4] at H
     have c4b0 : decide (x5_1 < (a0.size : Int)) = false := decide_eq_false c4
     clear c4
     (first | rw [c4b0] | (simp only [i64_w, i32_w]; rw [c4b0]) | skip)
     have H' := Aside0.mk H
     clear H
     go_wp2
     repeat (go_quiet (fail); try go_wp2)
     go_meet
     case rel => exact ⟨_, (false), (by first | rfl | (simp; done) | (simp [*]; done)), H', ⟨by have := HK1.out; first | omega | exact Nat.le_refl _⟩, by repeat (first | exact Drawn0.refl _ | apply Drawn0.step)⟩
   case rest =>
    clear HC3
    try clear p2
    try clear c4
    try clear c4b0
    try clear p2
    obtain ⟨kq, x15_2, rfl, HA, HJ2, ⟨mc2, rfl⟩⟩ := hcut
    cases kq with
    | zero => exact absurd HA.out (by simp [quarryref01_texts.j1])
    | succ kj2 =>
     have H := HA.out
     clear HA
     simp only [quarryref01_texts.j1] at H
     by_cases c5 : x15_2 = true
     ·subst c5
      have H1 : (if 0 ≤ x5_1 then (if x5_1 < (a0.size : Int) then (if x5_1 < (a1.size : Int) then (if (bt a0 x5_1) < (bt a1 x5_1) then (some (-1)) else (if (bt a0 x5_1) > (bt a1 x5_1) then (some 1) else (quarryref01_texts.l0 kj2 a0 a1 (wrap64 (x5_1 + 1))))) else (none)) else (none)) else (none)) = some r := by rw [if_pos rfl] at H; exact H
      clear H
      have H := H1
      clear H1
      by_cases c6 : 0 ≤ x5_1
      ·rw [if_pos c6] at H
       have c6b0 : decide (0 ≤ x5_1) = true := decide_eq_true c6
       clear c6
       by_cases c7 : x5_1 < (a0.size : Int)
       ·rw [if_pos c7] at H
        have c7b0 : decide (x5_1 < (a0.size : Int)) = true := decide_eq_true c7
        clear c7
        by_cases c9 : x5_1 < (a1.size : Int)
        ·rw [if_pos c9] at H
         have c9b0 : decide (x5_1 < (a1.size : Int)) = true := decide_eq_true c9
         clear c9
         by_cases c11 : (bt a0 x5_1) < (bt a1 x5_1)
         ·rw [if_pos c11] at H
          have c11b0 : decide ((bt a0 x5_1) < (bt a1 x5_1)) = true := decide_eq_true c11
          clear c11
          obtain rfl := Option.some.inj H
          have p8 : 0 ≤ (x5_1 : Int) := of_decide_eq_true (by first | (with_reducible assumption) | assumption)
          have q8 : x5_1 < (a0.size : Int) := of_decide_eq_true (by first | (with_reducible assumption) | assumption)
          have hx8 := bt_at a0 x5_1
          replace p8 := eq_true p8
          replace q8 := eq_true q8
          have p10 : 0 ≤ (x5_1 : Int) := of_decide_eq_true (by first | (with_reducible assumption) | assumption)
          have q10 : x5_1 < (a1.size : Int) := of_decide_eq_true (by first | (with_reducible assumption) | assumption)
          have hx10 := bt_at a1 x5_1
          replace p10 := eq_true p10
          replace q10 := eq_true q10
          go_wp2
          repeat (go_quiet (fail); try go_wp2)
          go_ret
          exact ⟨by first | rfl | (simp; done) | (simp [*]; done), by repeat (first | exact Drawn0.refl _ | apply Drawn0.step)⟩
         ·rw [if_neg c11] at H
          have c11b0 : decide ((bt a0 x5_1) < (bt a1 x5_1)) = false := decide_eq_false c11
          clear c11
          by_cases c14 : (bt a0 x5_1) > (bt a1 x5_1)
          ·rw [if_pos c14] at H
           have c14b0 : decide ((bt a1 x5_1) < (bt a0 x5_1)) = true := decide_eq_true c14
           clear c14
           obtain rfl := Option.some.inj H
           have p8 : 0 ≤ (x5_1 : Int) := of_decide_eq_true (by first | (with_reducible assumption) | assumption)
           have q8 : x5_1 < (a0.size : Int) := of_decide_eq_true (by first | (with_reducible assumption) | assumption)
           have hx8 := bt_at a0 x5_1
           replace p8 := eq_true p8
           replace q8 := eq_true q8
           have p10 : 0 ≤ (x5_1 : Int) := of_decide_eq_true (by first | (with_reducible assumption) | assumption)
           have q10 : x5_1 < (a1.size : Int) := of_decide_eq_true (by first | (with_reducible assumption) | assumption)
           have hx10 := bt_at a1 x5_1
           replace p10 := eq_true p10
           replace q10 := eq_true q10
           have p12 : 0 ≤ (x5_1 : Int) := of_decide_eq_true (by first | (with_reducible assumption) | assumption)
           have q12 : x5_1 < (a0.size : Int) := of_decide_eq_true (by first | (with_reducible assumption) | assumption)
           have hx12 := bt_at a0 x5_1
           replace p12 := eq_true p12
           replace q12 := eq_true q12
           have p13 : 0 ≤ (x5_1 : Int) := of_decide_eq_true (by first | (with_reducible assumption) | assumption)
           have q13 : x5_1 < (a1.size : Int) := of_decide_eq_true (by first | (with_reducible assumption) | assumption)
           have hx13 := bt_at a1 x5_1
           replace p13 := eq_true p13
           replace q13 := eq_true q13
           go_wp2
           repeat (go_quiet (fail); try go_wp2)
           go_ret
           exact ⟨by first | rfl | (simp; done) | (simp [*]; done), by repeat (first | exact Drawn0.refl _ | apply Drawn0.step)⟩
          ·rw [if_neg c14] at H
           have c14b0 : decide ((bt a1 x5_1) < (bt a0 x5_1)) = false := decide_eq_false c14
           clear c14
           have H' := Aside0.mk H
           clear H
           have p8 : 0 ≤ (x5_1 : Int) := of_decide_eq_true (by first | (with_reducible assumption) | assumption)
           have q8 : x5_1 < (a0.size : Int) := of_decide_eq_true (by first | (with_reducible assumption) | assumption)
           have hx8 := bt_at a0 x5_1
           replace p8 := eq_true p8
           replace q8 := eq_true q8
           have p10 : 0 ≤ (x5_1 : Int) := of_decide_eq_true (by first | (with_reducible assumption) | assumption)
           have q10 : x5_1 < (a1.size : Int) := of_decide_eq_true (by first | (with_reducible assumption) | assumption)
           have hx10 := bt_at a1 x5_1
           replace p10 := eq_true p10
           replace q10 := eq_true q10
           have p12 : 0 ≤ (x5_1 : Int) := of_decide_eq_true (by first | (with_reducible assumption) | assumption)
           have q12 : x5_1 < (a0.size : Int) := of_decide_eq_true (by first | (with_reducible assumption) | assumption)
           have hx12 := bt_at a0 x5_1
           replace p12 := eq_true p12
           replace q12 := eq_true q12
           have p13 : 0 ≤ (x5_1 : Int) := of_decide_eq_true (by first | (with_reducible assumption) | assumption)
           have q13 : x5_1 < (a1.size : Int) := of_decide_eq_true (by first | (with_reducible assumption) | assumption)
           have hx13 := bt_at a1 x5_1
           replace p13 := eq_true p13
           replace q13 := eq_true q13
           go_wp2
           repeat (go_quiet (fail); try go_wp2)
           go_roundg kj2
           case measure => have := HK1.out; have := HJ2.out; omega
           case rel => exact ⟨(wrap64 (x5_1 + 1)), (by first | rfl | (simp; done) | (simp [*]; done)), H', ⟨by have := HK1.out; have := HJ2.out; omega⟩, by repeat (first | exact Drawn0.refl _ | apply Drawn0.step)⟩
        ·rw [if_neg c9] at H
         exact absurd H (by simp)
       ·rw [if_neg c7] at H
        exact absurd H (by simp)
      ·rw [if_neg c6] at H
       exact absurd H (by simp)
     ·replace c5 := Bool.eq_false_iff.mpr c5
      subst c5
      have H1 : (if (a0.size : Int) < (a1.size : Int) then (some (-1)) else (if (a0.size : Int) > (a1.size : Int) then (some 1) else (some 0))) = some r := by rw [if_neg (show ¬ (false = true) by decide)] at H; exact H
      clear H
      have H := H1
      clear H1
      by_cases c15 : (a0.size : Int) < (a1.size : Int)
      ·rw [if_pos c15] at H
       have c15b0 : decide ((a0.size : Int) < (a1.size : Int)) = true := decide_eq_true c15
       have c15b1 : decide (a0.size < a1.size) = true := decide_eq_true (Int.ofNat_lt.mp c15)
       clear c15
       obtain rfl := Option.some.inj H
       go_wp2
       repeat (go_quiet (fail); try go_wp2)
       go_ret
       exact ⟨by first | rfl | (simp; done) | (simp [*]; done), by repeat (first | exact Drawn0.refl _ | apply Drawn0.step)⟩
      ·rw [if_neg c15] at H
       have c15b0 : decide ((a0.size : Int) < (a1.size : Int)) = false := decide_eq_false c15
       have c15b1 : decide (a0.size < a1.size) = false := decide_eq_false (fun h => c15 (Int.ofNat_lt.mpr h))
       clear c15
       by_cases c16 : (a0.size : Int) > (a1.size : Int)
       ·rw [if_pos c16] at H
        have c16b0 : decide ((a1.size : Int) < (a0.size : Int)) = true := decide_eq_true c16
        have c16b1 : decide (a1.size < a0.size) = true := decide_eq_true (Int.ofNat_lt.mp c16)
        clear c16
        obtain rfl := Option.some.inj H
        go_wp2
        repeat (go_quiet (fail); try go_wp2)
        go_ret
        exact ⟨by first | rfl | (simp; done) | (simp [*]; done), by repeat (first | exact Drawn0.refl _ | apply Drawn0.step)⟩
       ·rw [if_neg c16] at H
        have c16b0 : decide ((a1.size : Int) < (a0.size : Int)) = false := decide_eq_false c16
        have c16b1 : decide (a1.size < a0.size) = false := decide_eq_false (fun h => c16 (Int.ofNat_lt.mpr h))
        clear c16
        obtain rfl := Option.some.inj H
        go_wp2
        repeat (go_quiet (fail); try go_wp2)
        go_ret
        exact ⟨by first | rfl | (simp; done) | (simp [*]; done), by repeat (first | exact Drawn0.refl _ | apply Drawn0.step)⟩
mutual
def quarryref01_Compare.j0 : Nat → Bool → Int → Int → ByteArray → Int → Int → ByteArray → Option (Int)
 | 0, _, _, _, _, _, _, _ => none
 | k + 1, x17, x147000, x147001, x147002, x148000, x148001, x148002 => if x17 = true then ((quarryref01_texts.f k x147002 x148002).bind fun t148 => (some t148)) else (if x147000 = 1 then (quarryref01_Compare.j1 k (x147001 == x148001) x147000 x147001 x147002 x148000 x148001 x148002) else (if x147000 = 2 then (quarryref01_Compare.j1 k (x147001 == x148001) x147000 x147001 x147002 x148000 x148001 x148002) else (quarryref01_Compare.j1 k true x147000 x147001 x147002 x148000 x148001 x148002)))
def quarryref01_Compare.j1 : Nat → Bool → Int → Int → ByteArray → Int → Int → ByteArray → Option (Int)
 | 0, _, _, _, _, _, _, _ => none
 | k + 1, x31, x147000, x147001, x147002, x148000, x148001, x148002 => if x31 = true then (some 0) else (if x147001 < x148001 then (some (-1)) else (some 1))
end
def quarryref01_Compare.f (k : Nat) (a0_0 : Int) (a0_1 : Int) (a0_2 : ByteArray) (a1_0 : Int) (a1_1 : Int) (a1_2 : ByteArray) : Option (Int) := if a0_0 < a1_0 then (some (-1)) else (if a0_0 > a1_0 then (some 1) else (if a0_0 = 3 then (quarryref01_Compare.j0 k true a0_0 a0_1 a0_2 a1_0 a1_1 a1_2) else (quarryref01_Compare.j0 k (a0_0 == 4) a0_0 a0_1 a0_2 a1_0 a1_1 a1_2)))
set_option maxHeartbeats 8000000 in
set_option maxRecDepth 100000 in
theorem quarryref01_Compare.calls (k : Nat) (a0_0 : Int) (a0_1 : Int) (a0_2 : ByteArray) (a1_0 : Int) (a1_1 : Int) (a1_2 : ByteArray) (r : Int) (w : World) (h : quarryref01_Compare.f k a0_0 a0_1 a0_2 a1_0 a1_1 a1_2 = some r) :
  Calls Try.prog 51 #[.agg #[.int .i64 a0_0, .int .i64 a0_1, .string a0_2], .agg #[.int .i64 a1_0, .int .i64 a1_1, .string a1_2]] w fun e w' => e = .returned (.int .i64 r) ∧ Below w.heap.size w w' := by
 have hu25 := Try.underlying25
 have HB := Aside0.mk (Below.refl w.heap.size w)
 have H : (if a0_0 < a1_0 then (some (-1)) else (if a0_0 > a1_0 then (some 1) else (if a0_0 = 3 then (quarryref01_Compare.j0 k true a0_0 a0_1 a0_2 a1_0 a1_1 a1_2) else (quarryref01_Compare.j0 k (a0_0 == 4) a0_0 a0_1 a0_2 a1_0 a1_1 a1_2)))) = some r := h
 clear h
 by_cases c3 : a0_0 < a1_0
 ·rw [if_pos c3] at H
  have c3b0 : decide (a0_0 < a1_0) = true := decide_eq_true c3
  clear c3
  obtain rfl := Option.some.inj H
  go_enter Try.func51, Try.ntmps51
  go_wp2_with (first | ((with_reducible refine gate_dst (N := 2) rfl ?_); refine box_event ?hg (N := 2) ?hd (cs := #[.int .i64 a0_0, .int .i64 a0_1, .string a0_2]) (t := 25) ?hr ?_; (case hd => rfl); (case hg => rfl); (case hr => first | (go_simp; done) | (go_simp; rfl)); intro gb146 hg w4 hbox hb; have n0_ := Aside0.mk (below_step (by repeat (first | (with_reducible first | exact HB.out | apply below_alloc | apply pw_below_drewN | apply below_drew1) | exact HB.out)) hb); have n1_ := Aside0.mk (hbox); have n2_ := Aside0.mk ((by rw [hg]; exact (below_size (by repeat (first | (with_reducible first | exact HB.out | apply below_alloc | apply pw_below_drewN | apply below_drew1) | exact HB.out))) : w.heap.size ≤ gb146)); have n3_ := Aside0.mk ((by rw [hg]; exact (below_size (by repeat (first | (with_reducible first | exact HB.out | apply below_alloc | apply pw_below_drewN | apply below_drew1) | exact HB.out))) : w.heap.size ≤ gb146)); clear HB; have HB := n0_; have BK146 := n1_; have GW146 := n2_; have GE146 := n3_; clear n0_ n1_ n2_ n3_; clear hb hbox hg) | ((with_reducible refine gate_dst (N := 3) rfl ?_); refine box_event ?hg (N := 3) ?hd (cs := #[.int .i64 a1_0, .int .i64 a1_1, .string a1_2]) (t := 25) ?hr ?_; (case hd => rfl); (case hg => rfl); (case hr => first | (go_simp; done) | (go_simp; rfl)); intro gb147 hg w5 hbox hb; have n0_ := Aside0.mk (blk_below (g := gb146) (o := .cells #[.int .i64 a0_0, .int .i64 a0_1, .string a0_2] 25 (0, 0)) (bk_ BK146) hb); have n1_ := Aside0.mk (below_step (by repeat (first | (with_reducible first | exact HB.out | apply below_alloc | apply pw_below_drewN | apply below_drew1 | refine below_set ?_ GE146.out) | exact HB.out)) hb); have n2_ := Aside0.mk (hbox); have n3_ := Aside0.mk ((by rw [hg]; exact (below_size (by repeat (first | (with_reducible first | exact HB.out | apply below_alloc | apply pw_below_drewN | apply below_drew1 | refine below_set ?_ GE146.out) | exact HB.out))) : w.heap.size ≤ gb147)); have n4_ := Aside0.mk ((by rw [hg]; exact (below_size (by repeat (first | (with_reducible first | exact HB.out | apply below_alloc | apply pw_below_drewN | apply below_drew1 | refine below_set ?_ GE146.out) | exact HB.out))) : w.heap.size ≤ gb147)); have n5_ := Aside0.mk ((by rw [hg]; exact Nat.ne_of_lt (blk_lt (g := gb146) (o := .cells #[.int .i64 a0_0, .int .i64 a0_1, .string a0_2] 25 (0, 0)) (bk_ BK146)) : gb146 ≠ gb147)); have n6_ := Aside0.mk ((by rw [hg]; exact Nat.ne_of_gt (blk_lt (g := gb146) (o := .cells #[.int .i64 a0_0, .int .i64 a0_1, .string a0_2] 25 (0, 0)) (bk_ BK146)) : gb147 ≠ gb146)); clear BK146; clear HB; have BK146 := n0_; have HB := n1_; have BK147 := n2_; have GW147 := n3_; have GE147 := n4_; have NB146_147 := n5_; have NB147_146 := n6_; clear n0_ n1_ n2_ n3_ n4_ n5_ n6_; clear hb hbox hg; have hnb6 := NB146_147.out; have hnc6 := NB147_146.out; have hcz7_0 : w5.cell? ⟨gb146, 0, none⟩ = some (.int .i64 a0_0) := (blk_cell BK146.out 0).trans rfl; have hcz7_1 : w5.cell? ⟨gb146, 1, none⟩ = some (.int .i64 a0_1) := (blk_cell BK146.out 1).trans rfl; have hcz7_2 : w5.cell? ⟨gb146, 2, none⟩ = some (.string a0_2) := (blk_cell BK146.out 2).trans rfl; have hfz7_0 := blk_frozen BK146.out 0; have hfz7_1 := blk_frozen BK146.out 1; have hfz7_2 := blk_frozen BK146.out 2; have hcz8_0 : w5.cell? ⟨gb147, 0, none⟩ = some (.int .i64 a1_0) := (blk_cell BK147.out 0).trans rfl; have hcz8_1 : w5.cell? ⟨gb147, 1, none⟩ = some (.int .i64 a1_1) := (blk_cell BK147.out 1).trans rfl; have hcz8_2 : w5.cell? ⟨gb147, 2, none⟩ = some (.string a1_2) := (blk_cell BK147.out 2).trans rfl; have hfz8_0 := blk_frozen BK147.out 0; have hfz8_1 := blk_frozen BK147.out 1; have hfz8_2 := blk_frozen BK147.out 2))
  go_ret
  exact ⟨by first | rfl | (simp [errW_none, errW_some] <;> rfl) | (simp [*, errW_none, errW_some] <;> rfl), by repeat (first | (with_reducible first | exact HB.out | apply below_alloc | apply pw_below_drewN | apply below_drew1 | refine below_set ?_ GE146.out | refine below_set ?_ GE147.out) | exact HB.out)⟩
 ·rw [if_neg c3] at H
  have c3b0 : decide (a0_0 < a1_0) = false := decide_eq_false c3
  clear c3
  by_cases c9 : a0_0 > a1_0
  ·rw [if_pos c9] at H
   have c9b0 : decide (a1_0 < a0_0) = true := decide_eq_true c9
   clear c9
   obtain rfl := Option.some.inj H
   go_enter Try.func51, Try.ntmps51
   go_wp2_with (first | ((with_reducible refine gate_dst (N := 2) rfl ?_); refine box_event ?hg (N := 2) ?hd (cs := #[.int .i64 a0_0, .int .i64 a0_1, .string a0_2]) (t := 25) ?hr ?_; (case hd => rfl); (case hg => rfl); (case hr => first | (go_simp; done) | (go_simp; rfl)); intro gb146 hg w10 hbox hb; have n0_ := Aside0.mk (below_step (by repeat (first | (with_reducible first | exact HB.out | apply below_alloc | apply pw_below_drewN | apply below_drew1) | exact HB.out)) hb); have n1_ := Aside0.mk (hbox); have n2_ := Aside0.mk ((by rw [hg]; exact (below_size (by repeat (first | (with_reducible first | exact HB.out | apply below_alloc | apply pw_below_drewN | apply below_drew1) | exact HB.out))) : w.heap.size ≤ gb146)); have n3_ := Aside0.mk ((by rw [hg]; exact (below_size (by repeat (first | (with_reducible first | exact HB.out | apply below_alloc | apply pw_below_drewN | apply below_drew1) | exact HB.out))) : w.heap.size ≤ gb146)); clear HB; have HB := n0_; have BK146 := n1_; have GW146 := n2_; have GE146 := n3_; clear n0_ n1_ n2_ n3_; clear hb hbox hg) | ((with_reducible refine gate_dst (N := 3) rfl ?_); refine box_event ?hg (N := 3) ?hd (cs := #[.int .i64 a1_0, .int .i64 a1_1, .string a1_2]) (t := 25) ?hr ?_; (case hd => rfl); (case hg => rfl); (case hr => first | (go_simp; done) | (go_simp; rfl)); intro gb147 hg w11 hbox hb; have n0_ := Aside0.mk (blk_below (g := gb146) (o := .cells #[.int .i64 a0_0, .int .i64 a0_1, .string a0_2] 25 (0, 0)) (bk_ BK146) hb); have n1_ := Aside0.mk (below_step (by repeat (first | (with_reducible first | exact HB.out | apply below_alloc | apply pw_below_drewN | apply below_drew1 | refine below_set ?_ GE146.out) | exact HB.out)) hb); have n2_ := Aside0.mk (hbox); have n3_ := Aside0.mk ((by rw [hg]; exact (below_size (by repeat (first | (with_reducible first | exact HB.out | apply below_alloc | apply pw_below_drewN | apply below_drew1 | refine below_set ?_ GE146.out) | exact HB.out))) : w.heap.size ≤ gb147)); have n4_ := Aside0.mk ((by rw [hg]; exact (below_size (by repeat (first | (with_reducible first | exact HB.out | apply below_alloc | apply pw_below_drewN | apply below_drew1 | refine below_set ?_ GE146.out) | exact HB.out))) : w.heap.size ≤ gb147)); have n5_ := Aside0.mk ((by rw [hg]; exact Nat.ne_of_lt (blk_lt (g := gb146) (o := .cells #[.int .i64 a0_0, .int .i64 a0_1, .string a0_2] 25 (0, 0)) (bk_ BK146)) : gb146 ≠ gb147)); have n6_ := Aside0.mk ((by rw [hg]; exact Nat.ne_of_gt (blk_lt (g := gb146) (o := .cells #[.int .i64 a0_0, .int .i64 a0_1, .string a0_2] 25 (0, 0)) (bk_ BK146)) : gb147 ≠ gb146)); clear BK146; clear HB; have BK146 := n0_; have HB := n1_; have BK147 := n2_; have GW147 := n3_; have GE147 := n4_; have NB146_147 := n5_; have NB147_146 := n6_; clear n0_ n1_ n2_ n3_ n4_ n5_ n6_; clear hb hbox hg; have hnb12 := NB146_147.out; have hnc12 := NB147_146.out; have hcz13_0 : w11.cell? ⟨gb146, 0, none⟩ = some (.int .i64 a0_0) := (blk_cell BK146.out 0).trans rfl; have hcz13_1 : w11.cell? ⟨gb146, 1, none⟩ = some (.int .i64 a0_1) := (blk_cell BK146.out 1).trans rfl; have hcz13_2 : w11.cell? ⟨gb146, 2, none⟩ = some (.string a0_2) := (blk_cell BK146.out 2).trans rfl; have hfz13_0 := blk_frozen BK146.out 0; have hfz13_1 := blk_frozen BK146.out 1; have hfz13_2 := blk_frozen BK146.out 2; have hcz14_0 : w11.cell? ⟨gb147, 0, none⟩ = some (.int .i64 a1_0) := (blk_cell BK147.out 0).trans rfl; have hcz14_1 : w11.cell? ⟨gb147, 1, none⟩ = some (.int .i64 a1_1) := (blk_cell BK147.out 1).trans rfl; have hcz14_2 : w11.cell? ⟨gb147, 2, none⟩ = some (.string a1_2) := (blk_cell BK147.out 2).trans rfl; have hfz14_0 := blk_frozen BK147.out 0; have hfz14_1 := blk_frozen BK147.out 1; have hfz14_2 := blk_frozen BK147.out 2))
   go_ret
   exact ⟨by first | rfl | (simp [errW_none, errW_some] <;> rfl) | (simp [*, errW_none, errW_some] <;> rfl), by repeat (first | (with_reducible first | exact HB.out | apply below_alloc | apply pw_below_drewN | apply below_drew1 | refine below_set ?_ GE146.out | refine below_set ?_ GE147.out) | exact HB.out)⟩
  ·rw [if_neg c9] at H
   have c9b0 : decide (a1_0 < a0_0) = false := decide_eq_false c9
   clear c9
   have HC15 := Aside0.mk H
   clear H
   go_enter Try.func51, Try.ntmps51
   go_upto_region 5 with (first | ((with_reducible refine gate_dst (N := 2) rfl ?_); refine box_event ?hg (N := 2) ?hd (cs := #[.int .i64 a0_0, .int .i64 a0_1, .string a0_2]) (t := 25) ?hr ?_; (case hd => rfl); (case hg => rfl); (case hr => first | (go_simp; done) | (go_simp; rfl)); intro gb146 hg w16 hbox hb; have n0_ := Aside0.mk (below_step (by repeat (first | (with_reducible first | exact HB.out | apply below_alloc | apply pw_below_drewN | apply below_drew1) | exact HB.out)) hb); have n1_ := Aside0.mk (hbox); have n2_ := Aside0.mk ((by rw [hg]; exact (below_size (by repeat (first | (with_reducible first | exact HB.out | apply below_alloc | apply pw_below_drewN | apply below_drew1) | exact HB.out))) : w.heap.size ≤ gb146)); have n3_ := Aside0.mk ((by rw [hg]; exact (below_size (by repeat (first | (with_reducible first | exact HB.out | apply below_alloc | apply pw_below_drewN | apply below_drew1) | exact HB.out))) : w.heap.size ≤ gb146)); clear HB; have HB := n0_; have BK146 := n1_; have GW146 := n2_; have GE146 := n3_; clear n0_ n1_ n2_ n3_; clear hb hbox hg) | ((with_reducible refine gate_dst (N := 3) rfl ?_); refine box_event ?hg (N := 3) ?hd (cs := #[.int .i64 a1_0, .int .i64 a1_1, .string a1_2]) (t := 25) ?hr ?_; (case hd => rfl); (case hg => rfl); (case hr => first | (go_simp; done) | (go_simp; rfl)); intro gb147 hg w17 hbox hb; have n0_ := Aside0.mk (blk_below (g := gb146) (o := .cells #[.int .i64 a0_0, .int .i64 a0_1, .string a0_2] 25 (0, 0)) (bk_ BK146) hb); have n1_ := Aside0.mk (below_step (by repeat (first | (with_reducible first | exact HB.out | apply below_alloc | apply pw_below_drewN | apply below_drew1 | refine below_set ?_ GE146.out) | exact HB.out)) hb); have n2_ := Aside0.mk (hbox); have n3_ := Aside0.mk ((by rw [hg]; exact (below_size (by repeat (first | (with_reducible first | exact HB.out | apply below_alloc | apply pw_below_drewN | apply below_drew1 | refine below_set ?_ GE146.out) | exact HB.out))) : w.heap.size ≤ gb147)); have n4_ := Aside0.mk ((by rw [hg]; exact (below_size (by repeat (first | (with_reducible first | exact HB.out | apply below_alloc | apply pw_below_drewN | apply below_drew1 | refine below_set ?_ GE146.out) | exact HB.out))) : w.heap.size ≤ gb147)); have n5_ := Aside0.mk ((by rw [hg]; exact Nat.ne_of_lt (blk_lt (g := gb146) (o := .cells #[.int .i64 a0_0, .int .i64 a0_1, .string a0_2] 25 (0, 0)) (bk_ BK146)) : gb146 ≠ gb147)); have n6_ := Aside0.mk ((by rw [hg]; exact Nat.ne_of_gt (blk_lt (g := gb146) (o := .cells #[.int .i64 a0_0, .int .i64 a0_1, .string a0_2] 25 (0, 0)) (bk_ BK146)) : gb147 ≠ gb146)); clear BK146; clear HB; have BK146 := n0_; have HB := n1_; have BK147 := n2_; have GW147 := n3_; have GE147 := n4_; have NB146_147 := n5_; have NB147_146 := n6_; clear n0_ n1_ n2_ n3_ n4_ n5_ n6_; clear hb hbox hg; have hnb18 := NB146_147.out; have hnc18 := NB147_146.out; have hcz19_0 : w17.cell? ⟨gb146, 0, none⟩ = some (.int .i64 a0_0) := (blk_cell BK146.out 0).trans rfl; have hcz19_1 : w17.cell? ⟨gb146, 1, none⟩ = some (.int .i64 a0_1) := (blk_cell BK146.out 1).trans rfl; have hcz19_2 : w17.cell? ⟨gb146, 2, none⟩ = some (.string a0_2) := (blk_cell BK146.out 2).trans rfl; have hfz19_0 := blk_frozen BK146.out 0; have hfz19_1 := blk_frozen BK146.out 1; have hfz19_2 := blk_frozen BK146.out 2; have hcz20_0 : w17.cell? ⟨gb147, 0, none⟩ = some (.int .i64 a1_0) := (blk_cell BK147.out 0).trans rfl; have hcz20_1 : w17.cell? ⟨gb147, 1, none⟩ = some (.int .i64 a1_1) := (blk_cell BK147.out 1).trans rfl; have hcz20_2 : w17.cell? ⟨gb147, 2, none⟩ = some (.string a1_2) := (blk_cell BK147.out 2).trans rfl; have hfz20_0 := blk_frozen BK147.out 0; have hfz20_1 := blk_frozen BK147.out 1; have hfz20_2 := blk_frozen BK147.out 2))
   (try simp only [Act.put, List.setIfInBounds_toArray, List.set_cons_zero, List.set_cons_succ])
   go_cut [17] (fun v17 wc => ∃ (kq : Nat) (x17_14 : Bool), v17 = .bool x17_14 ∧ Aside0 (quarryref01_Compare.j0 kq x17_14 a0_0 a0_1 a0_2 a1_0 a1_1 a1_2 = some r) ∧ Aside0 (kq ≤ k) ∧ Aside0 (wc.heap[gb146]? = some (.cells #[.int .i64 a0_0, .int .i64 a0_1, .string a0_2] 25 (0, 0))) ∧ Aside0 (wc.heap[gb147]? = some (.cells #[.int .i64 a1_0, .int .i64 a1_1, .string a1_2] 25 (0, 0))) ∧ Aside0 (Below w.heap.size w wc))
   case first =>
    have H := HC15.out
    clear HC15
    by_cases c21 : a0_0 = 3
    ·rw [if_pos c21] at H
     have c21b0 : (a0_0 == 3) = true := beq_iff_eq.mpr c21
     have c21b1 : (a0_0 != 3) = false := bne_eq_false_iff_eq.mpr c21
     clear c21
     (first | rw [c21b0] | (simp only [i64_w, i32_w]; rw [c21b0]) | skip)
     have H' := Aside0.mk H
     clear H
     have hnb22 := NB146_147.out
     have hnc22 := NB147_146.out
     have hcz23_0 : w17.cell? ⟨gb146, 0, none⟩ = some (.int .i64 a0_0) := (blk_cell BK146.out 0).trans rfl
     have hcz23_1 : w17.cell? ⟨gb146, 1, none⟩ = some (.int .i64 a0_1) := (blk_cell BK146.out 1).trans rfl
     have hcz23_2 : w17.cell? ⟨gb146, 2, none⟩ = some (.string a0_2) := (blk_cell BK146.out 2).trans rfl
     have hfz23_0 := blk_frozen BK146.out 0
     have hfz23_1 := blk_frozen BK146.out 1
     have hfz23_2 := blk_frozen BK146.out 2
     go_wp2
     go_meet
     case rel => exact ⟨_, (true), (by first | rfl | (simp; done) | (simp [*]; done)), H', ⟨by first | omega | exact Nat.le_refl _⟩, ⟨by (with_reducible repeat (first | refine blk_drewN ?_ _ | refine blk_drew ?_ | refine blk_alloc ?_ _)); exact BK146.out⟩, ⟨by (with_reducible repeat (first | refine blk_drewN ?_ _ | refine blk_drew ?_ | refine blk_alloc ?_ _)); exact BK147.out⟩, ⟨by repeat (first | (with_reducible first | exact HB.out | apply below_alloc | apply pw_below_drewN | apply below_drew1 | refine below_set ?_ GE146.out | refine below_set ?_ GE147.out) | exact HB.out)⟩⟩
    ·rw [if_neg c21] at H
     have c21b0 : (a0_0 == 3) = false := beq_eq_false_iff_ne.mpr c21
     have c21b1 : (a0_0 != 3) = true := bne_iff_ne.mpr c21
     (first | rw [c21b0] | (simp only [i64_w, i32_w]; rw [c21b0]) | skip)
     have H' := Aside0.mk H
     clear H
     have hnb24 := NB146_147.out
     have hnc24 := NB147_146.out
     have hcz25_0 : w17.cell? ⟨gb146, 0, none⟩ = some (.int .i64 a0_0) := (blk_cell BK146.out 0).trans rfl
     have hcz25_1 : w17.cell? ⟨gb146, 1, none⟩ = some (.int .i64 a0_1) := (blk_cell BK146.out 1).trans rfl
     have hcz25_2 : w17.cell? ⟨gb146, 2, none⟩ = some (.string a0_2) := (blk_cell BK146.out 2).trans rfl
     have hfz25_0 := blk_frozen BK146.out 0
     have hfz25_1 := blk_frozen BK146.out 1
     have hfz25_2 := blk_frozen BK146.out 2
     go_wp2
     go_meet
     case rel => exact ⟨_, ((a0_0 == 4)), (by first | rfl | (simp; done) | (simp [*]; done)), H', ⟨by first | omega | exact Nat.le_refl _⟩, ⟨by (with_reducible repeat (first | refine blk_drewN ?_ _ | refine blk_drew ?_ | refine blk_alloc ?_ _)); exact BK146.out⟩, ⟨by (with_reducible repeat (first | refine blk_drewN ?_ _ | refine blk_drew ?_ | refine blk_alloc ?_ _)); exact BK147.out⟩, ⟨by repeat (first | (with_reducible first | exact HB.out | apply below_alloc | apply pw_below_drewN | apply below_drew1 | refine below_set ?_ GE146.out | refine below_set ?_ GE147.out) | exact HB.out)⟩⟩
   case rest =>
    clear HC15
    try clear c1
    try clear c2
    try clear p2
    try clear c3
    try clear c3b0
    try clear c5
    try clear c6
    try clear c9
    try clear c9b0
    try clear c12
    try clear c18
    try clear c21
    try clear c21b0
    try clear c21b1
    try clear c22
    try clear c24
    try clear hcz13_0
    try clear hcz13_1
    try clear hcz13_2
    try clear hcz14_0
    try clear hcz14_1
    try clear hcz14_2
    try clear hcz19_0
    try clear hcz19_1
    try clear hcz19_2
    try clear hcz20_0
    try clear hcz20_1
    try clear hcz20_2
    try clear hcz23_0
    try clear hcz23_1
    try clear hcz23_2
    try clear hcz25_0
    try clear hcz25_1
    try clear hcz25_2
    try clear hcz7_0
    try clear hcz7_1
    try clear hcz7_2
    try clear hcz8_0
    try clear hcz8_1
    try clear hcz8_2
    try clear hfz13_0
    try clear hfz13_1
    try clear hfz13_2
    try clear hfz14_0
    try clear hfz14_1
    try clear hfz14_2
    try clear hfz19_0
    try clear hfz19_1
    try clear hfz19_2
    try clear hfz20_0
    try clear hfz20_1
    try clear hfz20_2
    try clear hfz23_0
    try clear hfz23_1
    try clear hfz23_2
    try clear hfz25_0
    try clear hfz25_1
    try clear hfz25_2
    try clear hfz7_0
    try clear hfz7_1
    try clear hfz7_2
    try clear hfz8_0
    try clear hfz8_1
    try clear hfz8_2
    obtain ⟨kq, x17_14, rfl, HA, HJ14, BK146, BK147, HB⟩ := hcut
    cases kq with
    | zero => exact absurd HA.out (by simp [quarryref01_Compare.j0])
    | succ kj14 =>
     have H := HA.out
     clear HA
     simp only [quarryref01_Compare.j0] at H
     by_cases c26 : x17_14 = true
     ·subst c26
      have H1 : ((quarryref01_texts.f kj14 a0_2 a1_2).bind fun t148 => (some t148)) = some r := by rw [if_pos rfl] at H; exact H
      clear H
      have H := H1
      clear H1
      replace H := Option.bind_eq_some_iff.mp H
      obtain ⟨t148, A270, H⟩ := H
      replace H : (some t148) = some r := H
      have A27 := Aside0.mk A270
      clear A270
      obtain rfl := Option.some.inj H
      have hnb28 := NB146_147.out
      have hnc28 := NB147_146.out
      have hcz29_0 : wc.cell? ⟨gb146, 0, none⟩ = some (.int .i64 a0_0) := (blk_cell BK146.out 0).trans rfl
      have hcz29_1 : wc.cell? ⟨gb146, 1, none⟩ = some (.int .i64 a0_1) := (blk_cell BK146.out 1).trans rfl
      have hcz29_2 : wc.cell? ⟨gb146, 2, none⟩ = some (.string a0_2) := (blk_cell BK146.out 2).trans rfl
      have hfz29_0 := blk_frozen BK146.out 0
      have hfz29_1 := blk_frozen BK146.out 1
      have hfz29_2 := blk_frozen BK146.out 2
      have hcz30_0 : wc.cell? ⟨gb147, 0, none⟩ = some (.int .i64 a1_0) := (blk_cell BK147.out 0).trans rfl
      have hcz30_1 : wc.cell? ⟨gb147, 1, none⟩ = some (.int .i64 a1_1) := (blk_cell BK147.out 1).trans rfl
      have hcz30_2 : wc.cell? ⟨gb147, 2, none⟩ = some (.string a1_2) := (blk_cell BK147.out 2).trans rfl
      have hfz30_0 := blk_frozen BK147.out 0
      have hfz30_1 := blk_frozen BK147.out 1
      have hfz30_2 := blk_frozen BK147.out 2
      go_wp2_with (first | ((with_reducible refine gate_callee (f := 62) rfl ?_); refine goesL_ (some 30) rfl rfl Try.func62 (by kernel_rfl) rfl #[.string a0_2, .string a1_2] rfl (by (try simp only [List.map_toArray, List.map_cons, List.map_nil]); first | done | rfl | (simp only [List.length_drop, List.length_take]; rfl)) ?_; (with_reducible refine (quarryref01_texts.calls kj14 a0_2 a1_2 t148 _ A27.out).mono ?_); rintro e w' ⟨rfl, ⟨nd, rfl⟩⟩; refine ⟨_, rfl, ?_⟩))
      go_ret
      exact ⟨by first | rfl | (simp [errW_none, errW_some] <;> rfl) | (simp [*, errW_none, errW_some] <;> rfl), by repeat (first | (with_reducible first | exact HB.out | apply below_alloc | apply pw_below_drewN | apply below_drew1 | refine below_set ?_ GE146.out | refine below_set ?_ GE147.out) | exact HB.out)⟩
     ·replace c26 := Bool.eq_false_iff.mpr c26
      subst c26
      have H1 : (if a0_0 = 1 then (quarryref01_Compare.j1 kj14 (a0_1 == a1_1) a0_0 a0_1 a0_2 a1_0 a1_1 a1_2) else (if a0_0 = 2 then (quarryref01_Compare.j1 kj14 (a0_1 == a1_1) a0_0 a0_1 a0_2 a1_0 a1_1 a1_2) else (quarryref01_Compare.j1 kj14 true a0_0 a0_1 a0_2 a1_0 a1_1 a1_2))) = some r := by rw [if_neg (show ¬ (false = true) by decide)] at H; exact H
      clear H
      have H := H1
      clear H1
      have HC31 := Aside0.mk H
      clear H
      go_upto_region 7 with (fail)
      go_cut [31] (fun v31 wc => ∃ (kq : Nat) (x31_30 : Bool), v31 = .bool x31_30 ∧ Aside0 (quarryref01_Compare.j1 kq x31_30 a0_0 a0_1 a0_2 a1_0 a1_1 a1_2 = some r) ∧ Aside0 (kq ≤ kj14) ∧ Aside0 (wc.heap[gb146]? = some (.cells #[.int .i64 a0_0, .int .i64 a0_1, .string a0_2] 25 (0, 0))) ∧ Aside0 (wc.heap[gb147]? = some (.cells #[.int .i64 a1_0, .int .i64 a1_1, .string a1_2] 25 (0, 0))) ∧ Aside0 (Below w.heap.size w wc))
      case first =>
       have H := HC31.out
       clear HC31
       by_cases c32 : a0_0 = 1
       ·rw [if_pos c32] at H
        have c32b0 : (a0_0 == 1) = true := beq_iff_eq.mpr c32
        have c32b1 : (a0_0 != 1) = false := bne_eq_false_iff_eq.mpr c32
        clear c32
        (first | rw [c32b0] | (simp only [i64_w, i32_w]; rw [c32b0]) | skip)
        have H' := Aside0.mk H
        clear H
        have hnb33 := NB146_147.out
        have hnc33 := NB147_146.out
        have hcz34_0 : wc.cell? ⟨gb146, 0, none⟩ = some (.int .i64 a0_0) := (blk_cell BK146.out 0).trans rfl
        have hcz34_1 : wc.cell? ⟨gb146, 1, none⟩ = some (.int .i64 a0_1) := (blk_cell BK146.out 1).trans rfl
        have hcz34_2 : wc.cell? ⟨gb146, 2, none⟩ = some (.string a0_2) := (blk_cell BK146.out 2).trans rfl
        have hfz34_0 := blk_frozen BK146.out 0
        have hfz34_1 := blk_frozen BK146.out 1
        have hfz34_2 := blk_frozen BK146.out 2
        have hcz35_0 : wc.cell? ⟨gb147, 0, none⟩ = some (.int .i64 a1_0) := (blk_cell BK147.out 0).trans rfl
        have hcz35_1 : wc.cell? ⟨gb147, 1, none⟩ = some (.int .i64 a1_1) := (blk_cell BK147.out 1).trans rfl
        have hcz35_2 : wc.cell? ⟨gb147, 2, none⟩ = some (.string a1_2) := (blk_cell BK147.out 2).trans rfl
        have hfz35_0 := blk_frozen BK147.out 0
        have hfz35_1 := blk_frozen BK147.out 1
        have hfz35_2 := blk_frozen BK147.out 2
        go_wp2
        go_meet
        case rel => exact ⟨_, ((a0_1 == a1_1)), (by first | rfl | (simp; done) | (simp [*]; done)), H', ⟨by have := HJ14.out; first | omega | exact Nat.le_refl _⟩, ⟨by (with_reducible repeat (first | refine blk_drewN ?_ _ | refine blk_drew ?_ | refine blk_alloc ?_ _)); exact BK146.out⟩, ⟨by (with_reducible repeat (first | refine blk_drewN ?_ _ | refine blk_drew ?_ | refine blk_alloc ?_ _)); exact BK147.out⟩, ⟨by repeat (first | (with_reducible first | exact HB.out | apply below_alloc | apply pw_below_drewN | apply below_drew1 | refine below_set ?_ GE146.out | refine below_set ?_ GE147.out) | exact HB.out)⟩⟩
       ·rw [if_neg c32] at H
        have c32b0 : (a0_0 == 1) = false := beq_eq_false_iff_ne.mpr c32
        have c32b1 : (a0_0 != 1) = true := bne_iff_ne.mpr c32
        (first | rw [c32b0] | (simp only [i64_w, i32_w]; rw [c32b0]) | skip)
        by_cases c36 : a0_0 = 2
        ·rw [if_pos c36] at H
         have c36b0 : (a0_0 == 2) = true := beq_iff_eq.mpr c36
         have c36b1 : (a0_0 != 2) = false := bne_eq_false_iff_eq.mpr c36
         clear c36
         have H' := Aside0.mk H
         clear H
         have hnb37 := NB146_147.out
         have hnc37 := NB147_146.out
         have hcz38_0 : wc.cell? ⟨gb146, 0, none⟩ = some (.int .i64 a0_0) := (blk_cell BK146.out 0).trans rfl
         have hcz38_1 : wc.cell? ⟨gb146, 1, none⟩ = some (.int .i64 a0_1) := (blk_cell BK146.out 1).trans rfl
         have hcz38_2 : wc.cell? ⟨gb146, 2, none⟩ = some (.string a0_2) := (blk_cell BK146.out 2).trans rfl
         have hfz38_0 := blk_frozen BK146.out 0
         have hfz38_1 := blk_frozen BK146.out 1
         have hfz38_2 := blk_frozen BK146.out 2
         have hcz39_0 : wc.cell? ⟨gb147, 0, none⟩ = some (.int .i64 a1_0) := (blk_cell BK147.out 0).trans rfl
         have hcz39_1 : wc.cell? ⟨gb147, 1, none⟩ = some (.int .i64 a1_1) := (blk_cell BK147.out 1).trans rfl
         have hcz39_2 : wc.cell? ⟨gb147, 2, none⟩ = some (.string a1_2) := (blk_cell BK147.out 2).trans rfl
         have hfz39_0 := blk_frozen BK147.out 0
         have hfz39_1 := blk_frozen BK147.out 1
         have hfz39_2 := blk_frozen BK147.out 2
         go_wp2
         go_meet
         case rel => exact ⟨_, ((a0_1 == a1_1)), (by first | rfl | (simp; done) | (simp [*]; done)), H', ⟨by have := HJ14.out; first | omega | exact Nat.le_refl _⟩, ⟨by (with_reducible repeat (first | refine blk_drewN ?_ _ | refine blk_drew ?_ | refine blk_alloc ?_ _)); exact BK146.out⟩, ⟨by (with_reducible repeat (first | refine blk_drewN ?_ _ | refine blk_drew ?_ | refine blk_alloc ?_ _)); exact BK147.out⟩, ⟨by repeat (first | (with_reducible first | exact HB.out | apply below_alloc | apply pw_below_drewN | apply below_drew1 | refine below_set ?_ GE146.out | refine below_set ?_ GE147.out) | exact HB.out)⟩⟩
        ·rw [if_neg c36] at H
         have c36b0 : (a0_0 == 2) = false := beq_eq_false_iff_ne.mpr c36
         have c36b1 : (a0_0 != 2) = true := bne_iff_ne.mpr c36
         have H' := Aside0.mk H
         clear H
         have hnb40 := NB146_147.out
         have hnc40 := NB147_146.out
         have hcz41_0 : wc.cell? ⟨gb146, 0, none⟩ = some (.int .i64 a0_0) := (blk_cell BK146.out 0).trans rfl
         have hcz41_1 : wc.cell? ⟨gb146, 1, none⟩ = some (.int .i64 a0_1) := (blk_cell BK146.out 1).trans rfl
         have hcz41_2 : wc.cell? ⟨gb146, 2, none⟩ = some (.string a0_2) := (blk_cell BK146.out 2).trans rfl
         have hfz41_0 := blk_frozen BK146.out 0
         have hfz41_1 := blk_frozen BK146.out 1
         have hfz41_2 := blk_frozen BK146.out 2
         go_wp2
         go_meet
         case rel => exact ⟨_, (true), (by first | rfl | (simp; done) | (simp [*]; done)), H', ⟨by have := HJ14.out; first | omega | exact Nat.le_refl _⟩, ⟨by (with_reducible repeat (first | refine blk_drewN ?_ _ | refine blk_drew ?_ | refine blk_alloc ?_ _)); exact BK146.out⟩, ⟨by (with_reducible repeat (first | refine blk_drewN ?_ _ | refine blk_drew ?_ | refine blk_alloc ?_ _)); exact BK147.out⟩, ⟨by repeat (first | (with_reducible first | exact HB.out | apply below_alloc | apply pw_below_drewN | apply below_drew1 | refine below_set ?_ GE146.out | refine below_set ?_ GE147.out) | exact HB.out)⟩⟩
      case rest =>
       clear HC31
       try clear c1
       try clear c2
       try clear p2
       try clear c3
       try clear c3b0
       try clear c4
       try clear c5
       try clear c6
       try clear c9
       try clear c9b0
       try clear c12
       try clear c18
       try clear c21
       try clear c21b0
       try clear c21b1
       try clear c22
       try clear c24
       try clear c26
       try clear c28
       try clear c32
       try clear c32b0
       try clear c32b1
       try clear c33
       try clear c36
       try clear c36b0
       try clear c36b1
       try clear c37
       try clear c40
       try clear hcz13_0
       try clear hcz13_1
       try clear hcz13_2
       try clear hcz14_0
       try clear hcz14_1
       try clear hcz14_2
       try clear hcz19_0
       try clear hcz19_1
       try clear hcz19_2
       try clear hcz20_0
       try clear hcz20_1
       try clear hcz20_2
       try clear hcz23_0
       try clear hcz23_1
       try clear hcz23_2
       try clear hcz25_0
       try clear hcz25_1
       try clear hcz25_2
       try clear hcz29_0
       try clear hcz29_1
       try clear hcz29_2
       try clear hcz30_0
       try clear hcz30_1
       try clear hcz30_2
       try clear hcz34_0
       try clear hcz34_1
       try clear hcz34_2
       try clear hcz35_0
       try clear hcz35_1
       try clear hcz35_2
       try clear hcz38_0
       try clear hcz38_1
       try clear hcz38_2
       try clear hcz39_0
       try clear hcz39_1
       try clear hcz39_2
       try clear hcz41_0
       try clear hcz41_1
       try clear hcz41_2
       try clear hcz7_0
       try clear hcz7_1
       try clear hcz7_2
       try clear hcz8_0
       try clear hcz8_1
       try clear hcz8_2
       try clear hfz13_0
       try clear hfz13_1
       try clear hfz13_2
       try clear hfz14_0
       try clear hfz14_1
       try clear hfz14_2
       try clear hfz19_0
       try clear hfz19_1
       try clear hfz19_2
       try clear hfz20_0
       try clear hfz20_1
       try clear hfz20_2
       try clear hfz23_0
       try clear hfz23_1
       try clear hfz23_2
       try clear hfz25_0
       try clear hfz25_1
       try clear hfz25_2
       try clear hfz29_0
       try clear hfz29_1
       try clear hfz29_2
       try clear hfz30_0
       try clear hfz30_1
       try clear hfz30_2
       try clear hfz34_0
       try clear hfz34_1
       try clear hfz34_2
       try clear hfz35_0
       try clear hfz35_1
       try clear hfz35_2
       try clear hfz38_0
       try clear hfz38_1
       try clear hfz38_2
       try clear hfz39_0
       try clear hfz39_1
       try clear hfz39_2
       try clear hfz41_0
       try clear hfz41_1
       try clear hfz41_2
       try clear hfz7_0
       try clear hfz7_1
       try clear hfz7_2
       try clear hfz8_0
       try clear hfz8_1
       try clear hfz8_2
       try clear p2
       obtain ⟨kq, x31_30, rfl, HA, HJ30, BK146, BK147, HB⟩ := hcut
       cases kq with
       | zero => exact absurd HA.out (by simp [quarryref01_Compare.j1])
       | succ kj30 =>
        have H := HA.out
        clear HA
        simp only [quarryref01_Compare.j1] at H
        by_cases c42 : x31_30 = true
        ·subst c42
         have H1 : (some 0) = some r := by rw [if_pos rfl] at H; exact H
         clear H
         have H := H1
         clear H1
         obtain rfl := Option.some.inj H
         go_wp2
         go_ret
         exact ⟨by first | rfl | (simp [errW_none, errW_some] <;> rfl) | (simp [*, errW_none, errW_some] <;> rfl), by repeat (first | (with_reducible first | exact HB.out | apply below_alloc | apply pw_below_drewN | apply below_drew1 | refine below_set ?_ GE146.out | refine below_set ?_ GE147.out) | exact HB.out)⟩
        ·replace c42 := Bool.eq_false_iff.mpr c42
         subst c42
         have H1 : (if a0_1 < a1_1 then (some (-1)) else (some 1)) = some r := by rw [if_neg (show ¬ (false = true) by decide)] at H; exact H
         clear H
         have H := H1
         clear H1
         by_cases c43 : a0_1 < a1_1
         ·rw [if_pos c43] at H
          have c43b0 : decide (a0_1 < a1_1) = true := decide_eq_true c43
          clear c43
          obtain rfl := Option.some.inj H
          have hnb44 := NB146_147.out
          have hnc44 := NB147_146.out
          have hcz45_0 : wc.cell? ⟨gb146, 0, none⟩ = some (.int .i64 a0_0) := (blk_cell BK146.out 0).trans rfl
          have hcz45_1 : wc.cell? ⟨gb146, 1, none⟩ = some (.int .i64 a0_1) := (blk_cell BK146.out 1).trans rfl
          have hcz45_2 : wc.cell? ⟨gb146, 2, none⟩ = some (.string a0_2) := (blk_cell BK146.out 2).trans rfl
          have hfz45_0 := blk_frozen BK146.out 0
          have hfz45_1 := blk_frozen BK146.out 1
          have hfz45_2 := blk_frozen BK146.out 2
          have hcz46_0 : wc.cell? ⟨gb147, 0, none⟩ = some (.int .i64 a1_0) := (blk_cell BK147.out 0).trans rfl
          have hcz46_1 : wc.cell? ⟨gb147, 1, none⟩ = some (.int .i64 a1_1) := (blk_cell BK147.out 1).trans rfl
          have hcz46_2 : wc.cell? ⟨gb147, 2, none⟩ = some (.string a1_2) := (blk_cell BK147.out 2).trans rfl
          have hfz46_0 := blk_frozen BK147.out 0
          have hfz46_1 := blk_frozen BK147.out 1
          have hfz46_2 := blk_frozen BK147.out 2
          go_wp2
          go_ret
          exact ⟨by first | rfl | (simp [errW_none, errW_some] <;> rfl) | (simp [*, errW_none, errW_some] <;> rfl), by repeat (first | (with_reducible first | exact HB.out | apply below_alloc | apply pw_below_drewN | apply below_drew1 | refine below_set ?_ GE146.out | refine below_set ?_ GE147.out) | exact HB.out)⟩
         ·rw [if_neg c43] at H
          have c43b0 : decide (a0_1 < a1_1) = false := decide_eq_false c43
          clear c43
          obtain rfl := Option.some.inj H
          have hnb47 := NB146_147.out
          have hnc47 := NB147_146.out
          have hcz48_0 : wc.cell? ⟨gb146, 0, none⟩ = some (.int .i64 a0_0) := (blk_cell BK146.out 0).trans rfl
          have hcz48_1 : wc.cell? ⟨gb146, 1, none⟩ = some (.int .i64 a0_1) := (blk_cell BK146.out 1).trans rfl
          have hcz48_2 : wc.cell? ⟨gb146, 2, none⟩ = some (.string a0_2) := (blk_cell BK146.out 2).trans rfl
          have hfz48_0 := blk_frozen BK146.out 0
          have hfz48_1 := blk_frozen BK146.out 1
          have hfz48_2 := blk_frozen BK146.out 2
          have hcz49_0 : wc.cell? ⟨gb147, 0, none⟩ = some (.int .i64 a1_0) := (blk_cell BK147.out 0).trans rfl
          have hcz49_1 : wc.cell? ⟨gb147, 1, none⟩ = some (.int .i64 a1_1) := (blk_cell BK147.out 1).trans rfl
          have hcz49_2 : wc.cell? ⟨gb147, 2, none⟩ = some (.string a1_2) := (blk_cell BK147.out 2).trans rfl
          have hfz49_0 := blk_frozen BK147.out 0
          have hfz49_1 := blk_frozen BK147.out 1
          have hfz49_2 := blk_frozen BK147.out 2
          go_wp2
          go_ret
          exact ⟨by first | rfl | (simp [errW_none, errW_some] <;> rfl) | (simp [*, errW_none, errW_some] <;> rfl), by repeat (first | (with_reducible first | exact HB.out | apply below_alloc | apply pw_below_drewN | apply below_drew1 | refine below_set ?_ GE146.out | refine below_set ?_ GE147.out) | exact HB.out)⟩
end Go.Proofs.Ytfbeklbjlkgbnaa.P
end
section
namespace Go.Proofs.Ytfbeklbjlkgbnaa.Pure
set_option linter.unusedVariables false
set_option linter.unusedSimpArgs false
open Go.RowKit Go.Proofs.Ytfbeklbjlkgbnaa.P Go.Proofs.YtfbeklbjlkgbnaaW.PrintWords Go.Proofs.YtfbeklbjlkgbnaaW.PrintLast Go.Proofs.YtfbeklbjlkgbnaaW.PrintMore
theorem texts_loop (s t : ByteArray) (hs : s.size ≤ 140737488351232) : ∀ (a b pa pb : List UInt8), s.data.toList = pa ++ a → t.data.toList = pb ++ b → pa.length = pb.length →
    Ev (fun k => quarryref01_texts.l0 k s t (pa.length : Int)) (Lib.compareBytes a b) := by
  have hz : ∀ u : ByteArray, u.size = u.data.toList.length := fun u => by rw [Array.length_toList]; rfl
  intro a
  induction a with
  | nil =>
    intro b pa pb ha hb hp
    have h1 := hz s
    have h2 := hz t
    rw [ha] at h1
    rw [hb] at h2
    simp only [List.append_nil, List.length_append] at h1 h2
    have e1 : ¬ ((pa.length : Int) < (s.size : Int)) := by omega
    refine Ev.succ ?_
    simp only [quarryref01_texts.l0, e1, if_false]
    refine Ev.succ ?_
    simp only [quarryref01_texts.j1, Bool.false_eq_true, if_false]
    cases b with
    | nil =>
      simp only [List.length_nil] at h2
      have e2 : ¬ (s.size : Int) < (t.size : Int) := by omega
      have e3 : ¬ (s.size : Int) > (t.size : Int) := by omega
      simp only [e2, e3, if_false]
      exact Ev.pure _
    | cons y b =>
      simp only [List.length_cons] at h2
      have e2 : (s.size : Int) < (t.size : Int) := by omega
      simp only [e2, if_true]
      exact Ev.pure _
  | cons x a ih =>
    intro b pa pb ha hb hp
    have h1 := hz s
    have h2 := hz t
    rw [ha] at h1
    rw [hb] at h2
    simp only [List.length_append, List.length_cons] at h1 h2
    have e1 : ((pa.length : Int) < (s.size : Int)) := by omega
    have e0 : (0 : Int) ≤ (pa.length : Int) := by omega
    refine Ev.succ ?_
    simp only [quarryref01_texts.l0, e1, if_true]
    refine Ev.succ ?_
    cases b with
    | nil =>
      simp only [List.length_nil] at h2
      have e2 : ¬ ((pa.length : Int) < (t.size : Int)) := by omega
      have e3 : ¬ (s.size : Int) < (t.size : Int) := by omega
      have e4 : (s.size : Int) > (t.size : Int) := by omega
      simp only [quarryref01_texts.j1, e2, decide_false, Bool.false_eq_true, if_false, e3, e4, if_true]
      exact Ev.pure _
    | cons y b =>
      simp only [List.length_cons] at h2
      have e2 : ((pa.length : Int) < (t.size : Int)) := by omega
      have b1 := bt_at' s pa x a ha
      have b2 := bt_at' t pb y b hb
      rw [← hp] at b2
      simp only [quarryref01_texts.j1, e2, decide_true, if_true, e0, e1, b1, b2]
      unfold Lib.compareBytes
      by_cases c1 : x < y
      · have c1' : (x.toNat : Int) < (y.toNat : Int) := by have := UInt8.lt_iff_toNat_lt.1 c1; omega
        simp only [c1, c1', if_true]
        exact Ev.pure _
      · have c1' : ¬ (x.toNat : Int) < (y.toNat : Int) := fun h => c1 (UInt8.lt_iff_toNat_lt.2 (by omega))
        by_cases c2 : y < x
        · have c2' : (x.toNat : Int) > (y.toNat : Int) := by have := UInt8.lt_iff_toNat_lt.1 c2; omega
          simp only [c1, c1', c2, c2', if_true, if_false]
          exact Ev.pure _
        · have c2' : ¬ (x.toNat : Int) > (y.toNat : Int) := fun h => c2 (UInt8.lt_iff_toNat_lt.2 (by omega))
          have e6 : wrap64 ((pa.length : Int) + 1) = (pa.length : Int) + 1 := wrap64_in (by omega) (by omega)
          simp only [c1, c1', c2, c2', if_false, e6]
          have := ih b (pa ++ [x]) (pb ++ [y]) (by simpa using ha) (by simpa using hb) (by simpa using hp)
          simpa using this
theorem texts_ev (s t : ByteArray) (hs : s.size ≤ 140737488351232) : Ev (fun k => quarryref01_texts.f k s t) (cmpT s t) := by
  unfold quarryref01_texts.f cmpT
  have := texts_loop s t hs s.data.toList t.data.toList [] [] rfl rfl rfl
  simpa using this
theorem ref_cmp_ev (x y : S25) (hx : x.f2.size ≤ 140737488351232) : Ev (fun k => quarryref01_Compare.f k x.f0 x.f1 x.f2 y.f0 y.f1 y.f2) (cmpV x y) := by
  unfold quarryref01_Compare.f cmpV cmpI
  by_cases c1 : x.f0 < y.f0
  · have e : ¬ x.f0 = y.f0 := by omega
    simp only [c1, e, if_true, if_false]
    exact Ev.pure _
  by_cases c2 : y.f0 < x.f0
  · have e : ¬ x.f0 = y.f0 := by omega
    simp only [c1, c2, e, gt_iff_lt, if_true, if_false]
    exact Ev.pure _
  have e : x.f0 = y.f0 := by omega
  rw [if_pos e]
  simp only [c1, c2, gt_iff_lt, if_false]
  have hj : Ev (fun k => quarryref01_Compare.j0 k (x.f0 == 3 || x.f0 == 4) x.f0 x.f1 x.f2 y.f0 y.f1 y.f2) (if x.f0 = 1 ∨ x.f0 = 2 then (if x.f1 < y.f1 then -1 else if y.f1 < x.f1 then 1 else 0) else if x.f0 = 3 ∨ x.f0 = 4 then cmpT x.f2 y.f2 else 0) := by
    refine Ev.succ ?_
    simp only [quarryref01_Compare.j0]
    by_cases h34 : x.f0 = 3 ∨ x.f0 = 4
    · have q : (x.f0 == 3 || x.f0 == 4) = true := by simpa using h34
      rw [if_neg (by omega), if_pos h34]
      simp only [q, if_true]
      exact Ev.bind (texts_ev _ _ hx) (Ev.pure _)
    have q : (x.f0 == 3 || x.f0 == 4) = false := by simpa using h34
    simp only [q, Bool.false_eq_true, if_false]
    rw [if_neg h34]
    have hk : Ev (fun k => quarryref01_Compare.j1 k (x.f1 == y.f1) x.f0 x.f1 x.f2 y.f0 y.f1 y.f2) (if x.f1 < y.f1 then -1 else if y.f1 < x.f1 then 1 else 0) := by
      refine Ev.succ ?_
      simp only [quarryref01_Compare.j1]
      by_cases g : x.f1 = y.f1
      · simp only [g, beq_self_eq_true, if_true, Int.lt_irrefl, if_false]
        exact Ev.pure _
      · have : (x.f1 == y.f1) = false := by simpa using g
        simp only [this, Bool.false_eq_true, if_false]
        by_cases g1 : x.f1 < y.f1
        · simp only [g1, if_true]; exact Ev.pure _
        · have g2 : y.f1 < x.f1 := by omega
          simp only [g1, g2, if_true, if_false]; exact Ev.pure _
    by_cases h1 : x.f0 = 1
    · rw [if_pos (.inl h1)]
      simp only [h1, if_true] at hk ⊢
      exact hk
    by_cases h2 : x.f0 = 2
    · rw [if_pos (.inr h2)]
      simp only [h1, h2, if_true, if_false] at hk ⊢
      exact hk
    rw [if_neg (by omega)]
    simp only [h1, h2, if_false]
    refine Ev.succ ?_
    simp only [quarryref01_Compare.j1, if_true]
    exact Ev.pure _
  by_cases h3 : x.f0 = 3
  · have q : (x.f0 == 3 || x.f0 == 4) = true := by simp [h3]
    rw [q] at hj
    simp only [h3, if_true] at hj ⊢
    exact hj
  · have q : (x.f0 == 3 || x.f0 == 4) = (x.f0 == 4) := by simp [h3]
    rw [q] at hj
    simp only [h3, if_false] at hj ⊢
    exact hj
end Go.Proofs.Ytfbeklbjlkgbnaa.Pure
end
section
namespace Go.Proofs.Ytfbeklbjlkgbnaa.Pure
set_option linter.unusedVariables false
set_option linter.unusedSimpArgs false
open Go.RowKit Go.Proofs.Ytfbeklbjlkgbnaa.P Go.Proofs.YtfbeklbjlkgbnaaW.PrintWords Go.Proofs.YtfbeklbjlkgbnaaW.PrintLast Go.Proofs.YtfbeklbjlkgbnaaW.PrintMore
def goesP (op a : Int) : Bool := decide (wantsP op = 0 ∨ a = wantsP op ∨ a = 0)
theorem goes_ev {op : Int} (h3 : 3 ≤ op) (h16 : op ≤ 16) (a : Int) : Ev (fun k => quarryref02_goes.f k op a) (goesP op a) := by
  have hj1 : ∀ x : Bool, Ev (fun k => quarryref02_goes.j1 k op a x) (if x = true then a == 1 else if op = 16 then a == 3 else a == 2) := by
    intro x
    refine Ev.succ ?_
    simp only [quarryref02_goes.j1]
    cases x
    · by_cases h : op = 16
      · simp only [h, if_true]; exact Ev.pure _
      · simp only [h, if_false]; exact Ev.pure _
    · exact Ev.pure _
  have hj0 : ∀ x : Bool, Ev (fun k => quarryref02_goes.j0 k op a x) (if x = true then true else if op ≤ 4 then a == 1 else if op = 16 then a == 3 else a == 2) := by
    intro x
    refine Ev.succ ?_
    simp only [quarryref02_goes.j0]
    cases x
    · simp only [Bool.false_eq_true, if_false]
      by_cases e3 : op = 3
      · simp only [e3, if_true, beq_self_eq_true]
        have := hj1 true
        rw [e3] at this
        simpa using this
      · simp only [e3, if_false]
        by_cases e4 : op = 4
        · have := hj1 true
          rw [e4] at this ⊢
          simpa using this
        · have h4 : ¬ op ≤ 4 := by omega
          rw [if_neg h4, beq_eq_false_iff_ne.mpr e4]
          have := hj1 false
          simpa using this
    · exact Ev.pure _
  unfold quarryref02_goes.f goesP wantsP
  by_cases h0 : a = 0
  · have := hj0 true
    subst h0
    simpa using this
  · simp only [h0, if_false, or_false]
    by_cases h5 : op ≥ 5
    · have h4 : ¬ op ≤ 4 := by omega
      simp only [h5, if_true, h4, if_false]
      by_cases h10 : op ≤ 10
      · have := hj0 true
        simpa [h10] using this
      · have := hj0 false
        simp only [Bool.false_eq_true, if_false, h4] at this
        by_cases h16 : op = 16
        · simpa [h10, h16, BEq.beq, eq_comm] using this
        · simpa [h10, h16, BEq.beq, eq_comm] using this
    · have h4 : op ≤ 4 := by omega
      have := hj0 false
      simp only [Bool.false_eq_true, if_false, h4, if_true] at this
      simpa [h5, h4, BEq.beq, eq_comm] using this
theorem truthR_f (b : Bool) : quarryref02_Truth.f b = some ((truthV b).f0, (truthV b).f1, (truthV b).f2) := by cases b <;> rfl
theorem holdsR_f (op c : Int) : quarryref02_holds.f op c = some (holdsP op c) := by
  unfold quarryref02_holds.f holdsP
  repeat' split
  all_goals rfl
theorem logicR_ev {op : Int} (h3 : 3 ≤ op) (h4 : op ≤ 4) (u v : S25) : Ev (fun k => quarryref02_logic.f k op u.f0 u.f1 u.f2 v.f0 v.f1 v.f2) ((logicP u v (truthV (op == 3))).f0, (logicP u v (truthV (op == 3))).f1, (logicP u v (truthV (op == 3))).f2) := by
  have ho : truthV (!decide (truthV (op == 3) = truthV true)) = truthV (op == 4) := by
    rcases (by omega : op = 3 ∨ op = 4) with h | h <;> subst h <;> decide
  obtain ⟨s, hs⟩ : ∃ s, truthV (op == 3) = s := ⟨_, rfl⟩
  rw [hs] at ho ⊢
  have hj0 : ∀ b : Bool, Ev (fun k => quarryref02_logic.j0 k op b u.f0 u.f1 u.f2 v.f0 v.f1 v.f2 s.f0 s.f1 s.f2) (if b = true then (s.f0, s.f1, s.f2) else if u.f0 = 0 ∨ v.f0 = 0 then (0, 0, V0) else ((truthV (op == 4)).f0, (truthV (op == 4)).f1, (truthV (op == 4)).f2)) := by
    intro b
    refine Ev.succ ?_
    simp only [quarryref02_logic.j0, truthR_f, Option.bind_some]
    cases b
    · simp only [Bool.false_eq_true, if_false]
      by_cases h0 : u.f0 = 0
      · simp only [h0, if_true, true_or]; exact Ev.pure _
      · by_cases h1 : v.f0 = 0
        · simp only [h0, h1, if_true, if_false, or_true]; exact Ev.pure _
        · simp only [h0, h1, if_false, or_self]; exact Ev.pure _
    · exact Ev.pure _
  unfold quarryref02_logic.f logicP
  simp only [truthR_f, Option.bind_some, hs, eqb]
  by_cases h0 : u = s
  · have := hj0 true
    simpa [h0] using this
  · have := hj0 (decide (v = s))
    by_cases h1 : v = s
    · simpa [h0, h1] using this
    · simp only [h0, h1, decide_false, Bool.false_eq_true, if_false, or_self, ho] at this ⊢
      by_cases h2 : u.f0 = 0 ∨ v.f0 = 0
      · simp only [h2, if_true] at this ⊢; exact this
      · simp only [h2, if_false] at this ⊢; exact this
theorem wrap_at {n : Int} (h : In64 n) : wrap64 n = n := by unfold In64 at h; unfold wrap64; omega
theorem prod_back {a b : Int} (ha : In64 a) (hb : In64 b) (h0 : ¬ b = 0) (h1 : ¬ b = -1) : ((wrap64 (Int.tdiv (wrap64 (a * b)) b)) == a) = decide (In64 (a * b)) := by
  have hq : wrap64 (Int.tdiv (wrap64 (a * b)) b) = Int.tdiv (wrap64 (a * b)) b := P.quo_in (P.wrap_in _) hb h0 (fun h => h1 h.2)
  rw [hq]
  by_cases h : In64 (a * b)
  · rw [decide_eq_true h, wrap_at h, Int.mul_tdiv_cancel _ h0]
    exact beq_self_eq_true a
  · rw [decide_eq_false h]
    refine beq_eq_false_iff_ne.mpr fun e => h ?_
    have hd := Int.tmod_add_mul_tdiv (wrap64 (a * b)) b
    rw [e] at hd
    have hm : (Int.tmod (wrap64 (a * b)) b).natAbs < b.natAbs := by rw [Int.natAbs_tmod]; exact Nat.mod_lt _ (by omega)
    have hc : b * a = a * b := Int.mul_comm b a
    rw [hc] at hd
    obtain ⟨P, hP⟩ : ∃ P, a * b = P := ⟨_, rfl⟩
    rw [hP] at hd hm ⊢
    unfold In64 at hb ⊢
    unfold wrap64 at hd hm
    obtain ⟨t, ht⟩ : ∃ t, Int.tmod ((P + 9223372036854775808) % 18446744073709551616 - 9223372036854775808) b = t := ⟨_, rfl⟩
    rw [ht] at hd hm
    omega
theorem neg_bne {b : Int} (hb : In64 b) : (b != -9223372036854775808) = decide (In64 (-b)) := by
  by_cases q : b = -9223372036854775808
  · subst q; decide
  · rw [bne_iff_ne.mpr q]
    refine (decide_eq_true ?_).symm
    unfold In64 at hb ⊢
    omega
theorem times_ev {a b : Int} (ha : In64 a) (hb : In64 b) : Ev (fun k => quarryref02_times.f k a b) (wrap64 (a * b), decide (In64 (a * b))) := by
  have h00 : In64 0 := by unfold In64; omega
  have hj : ∀ x : Bool, x = decide (a = 0 ∨ b = 0) → Ev (fun k => quarryref02_times.j0 k a b x) (wrap64 (a * b), decide (In64 (a * b))) := by
    intro x hx
    refine Ev.succ ?_
    simp only [quarryref02_times.j0]
    by_cases h : a = 0 ∨ b = 0
    · have e : a * b = 0 := by rcases h with h | h <;> simp [h]
      rw [hx, decide_eq_true h, e]
      simp only [if_true, wrap_at h00, decide_eq_true h00]
      exact Ev.pure _
    · have na : ¬ a = 0 := fun q => h (.inl q)
      have nb : ¬ b = 0 := fun q => h (.inr q)
      rw [hx, decide_eq_false h]
      simp only [Bool.false_eq_true, if_false]
      by_cases ea : a = -1
      · have e : a * b = -b := by rw [ea]; omega
        simp only [ea, if_true]
        rw [ea] at e
        rw [e]
        rw [neg_bne hb]; exact Ev.pure _
      · simp only [ea, if_false]
        by_cases eb : b = -1
        · have e : a * b = -a := by rw [eb]; omega
          rw [e]
          simp only [eb, if_true, neg_bne ha]
          exact Ev.pure _
        · simp only [eb, nb, if_false, prod_back ha hb nb eb]
          exact Ev.pure _
  unfold quarryref02_times.f
  by_cases h0 : a = 0
  · simp only [if_pos h0]; exact hj true (by simp [h0])
  · simp only [if_neg h0]; exact hj (b == 0) (by by_cases q : b = 0 <;> simp [h0, q])
def sumR (op a b : Int) : Int × Bool :=
  if op = 11 then (wrap64 (a + b), decide (In64 (a + b))) else if op = 12 then (wrap64 (a - b), decide (In64 (a - b))) else if op = 13 then (wrap64 (a * b), decide (In64 (a * b)))
  else if op = 14 then (if b = -1 then (wrap64 (-a), a != -9223372036854775808) else (Int.tdiv a b, true)) else if b = -1 then (0, true) else (Int.tmod a b, true)
theorem sumR_ev {op a b : Int} (ha : In64 a) (hb : In64 b) (hz : 14 ≤ op → ¬ b = 0) (ho : 11 ≤ op) : Ev (fun k => quarryref02_sum.f k op a b) (sumR op a b) := by
  unfold quarryref02_sum.f sumR
  by_cases h11 : op = 11
  · simp only [if_pos h11]
    by_cases hb0 : b = 0
    · subst hb0
      rw [Int.add_zero, wrap_at ha, decide_eq_true ha]
      simp only [gt_iff_lt, Int.lt_irrefl, beq_self_eq_true, if_true]
      exact Ev.pure _
    have e : (decide (wrap64 (a + b) > a) == decide (b > 0)) = decide (In64 (a + b)) := by
      by_cases h : In64 (a + b)
      · rw [wrap_at h, decide_eq_true h]
        by_cases q : b > 0
        · rw [decide_eq_true q, decide_eq_true (by omega)]; rfl
        · rw [decide_eq_false q, decide_eq_false (by omega)]; rfl
      · rw [decide_eq_false h]
        unfold In64 at ha hb h
        by_cases q : b > 0
        · rw [decide_eq_true q, decide_eq_false (by unfold wrap64; omega)]; rfl
        · rw [decide_eq_false q, decide_eq_true (by unfold wrap64; omega)]; rfl
    rw [e]
    have : (b == 0) = false := beq_eq_false_iff_ne.mpr hb0
    by_cases h : In64 (a + b)
    · simp only [decide_eq_true h, if_true]; exact Ev.pure _
    · simp only [decide_eq_false h, Bool.false_eq_true, if_false, this]; exact Ev.pure _
  simp only [if_neg h11]
  by_cases h12 : op = 12
  · simp only [if_pos h12]
    by_cases hb0 : b = 0
    · subst hb0
      rw [Int.sub_zero, wrap_at ha, decide_eq_true ha]
      simp only [Int.lt_irrefl, beq_self_eq_true, if_true]
      exact Ev.pure _
    have e : (decide (wrap64 (a - b) < a) == decide (b > 0)) = decide (In64 (a - b)) := by
      by_cases h : In64 (a - b)
      · rw [wrap_at h, decide_eq_true h]
        by_cases q : b > 0
        · rw [decide_eq_true q, decide_eq_true (by omega)]; rfl
        · rw [decide_eq_false q, decide_eq_false (by omega)]; rfl
      · rw [decide_eq_false h]
        unfold In64 at ha hb h
        by_cases q : b > 0
        · rw [decide_eq_true q, decide_eq_false (by unfold wrap64; omega)]; rfl
        · rw [decide_eq_false q, decide_eq_true (by unfold wrap64; omega)]; rfl
    rw [e]
    have : (b == 0) = false := beq_eq_false_iff_ne.mpr hb0
    by_cases h : In64 (a - b)
    · simp only [decide_eq_true h, if_true]; exact Ev.pure _
    · simp only [decide_eq_false h, Bool.false_eq_true, if_false, this]; exact Ev.pure _
  simp only [if_neg h12]
  by_cases h13 : op = 13
  · simp only [if_pos h13]
    exact Ev.bind (times_ev ha hb) (Ev.pure _)
  simp only [if_neg h13]
  have nz := hz (by omega)
  by_cases h14 : op = 14
  · simp only [if_pos h14]
    by_cases hm : b = -1
    · simp only [if_pos hm]; exact Ev.pure _
    · simp only [if_neg hm, if_neg nz, P.quo_in ha hb nz (fun h => hm h.2)]; exact Ev.pure _
  · simp only [if_neg h14]
    by_cases hm : b = -1
    · simp only [if_pos hm]; exact Ev.pure _
    · simp only [if_neg hm, if_neg nz]; exact Ev.pure _
theorem sumP_R {op a b : Int} (ha : In64 a) (hb : In64 b) (hz : 14 ≤ op → ¬ b = 0) (h11 : 11 ≤ op) (h15 : op ≤ 15) : sumP op a b = if (sumR op a b).2 = true then .ok (sumR op a b).1 else .error 40 := by
  unfold sumP sumR prodP
  by_cases e11 : op = 11
  · simp only [if_pos e11]
    by_cases h : In64 (a + b)
    · simp [h, wrap_at h]
    · simp [h]
  simp only [if_neg e11]
  by_cases e12 : op = 12
  · simp only [if_pos e12]
    by_cases h : In64 (a - b)
    · simp [h, wrap_at h]
    · simp [h]
  simp only [if_neg e12]
  by_cases e13 : op = 13
  · simp only [if_pos e13]
    by_cases h : In64 (a * b)
    · simp [h, wrap_at h]
    · simp [h]
  simp only [if_neg e13, if_neg (hz (by omega))]
  by_cases e14 : op = 14
  · have e15 : ¬ op = 15 := by omega
    simp only [if_pos e14, if_neg e15]
    by_cases hm : b = -1
    · simp only [if_pos hm]
      by_cases q : a = -9223372036854775808
      · subst q; subst hm; simp
      · have hn : In64 (-a) := by unfold In64 at ha ⊢; omega
        simp [q, wrap_at hn, hm]
    · simp [hm]
  · have e15 : op = 15 := by omega
    simp only [if_neg e14, if_pos e15]
    by_cases hm : b = -1
    · simp [hm]
    · simp [hm]
end Go.Proofs.Ytfbeklbjlkgbnaa.Pure
end
section
namespace Go.Proofs.Ytfbeklbjlkgbnaa.P
open Go.RowKit Go.Proofs.Ytfbeklbjlkgbnaa.Pure Go.Proofs.YtfbeklbjlkgbnaaW.PrintWords Go.Proofs.YtfbeklbjlkgbnaaW.PrintLast Go.Proofs.YtfbeklbjlkgbnaaW.PrintMore
attribute [local go_sem] max2_int min2_int max_two min_two max_three min_three max_four min_four
set_option linter.unusedVariables false
set_option linter.unusedSimpArgs false
theorem logicR_calls {op : Int} (h3 : 3 ≤ op) (h4 : op ≤ 4) (u v : S25) (w : World) : Calls Try.prog 48 #[.int .i64 op, .agg #[.int .i64 u.f0, .int .i64 u.f1, .string u.f2], .agg #[.int .i64 v.f0, .int .i64 v.f1, .string v.f2]] w fun e w' => e = .returned (.agg #[.int .i64 (logicP u v (truthV (op == 3))).f0, .int .i64 (logicP u v (truthV (op == 3))).f1, .string (logicP u v (truthV (op == 3))).f2]) ∧ Below w.heap.size w w' := by
  obtain ⟨k, hk⟩ := (logicR_ev h3 h4 u v).get
  exact quarryref02_logic.calls k _ _ _ _ _ _ _ _ _ _ w hk
theorem compareR_calls (u v : S25) (hz : u.f2.size ≤ 140737488351232) (w : World) : Calls Try.prog 51 #[.agg #[.int .i64 u.f0, .int .i64 u.f1, .string u.f2], .agg #[.int .i64 v.f0, .int .i64 v.f1, .string v.f2]] w fun e w' => e = .returned (.int .i64 (cmpV u v)) ∧ Below w.heap.size w w' := by
  obtain ⟨k, hk⟩ := (ref_cmp_ev u v hz).get
  exact quarryref01_Compare.calls k _ _ _ _ _ _ _ w hk
def BR (u v : S25) (W w : World) : Prop :=
  w.heap[W.heap.size]? = some (.cells #[.int .i64 u.f0, .int .i64 u.f1, .string u.f2] 25 (0, 0)) ∧ w.heap[W.heap.size + 1]? = some (.cells #[.int .i64 v.f0, .int .i64 v.f1, .string v.f2] 25 (0, 0)) ∧
  w.heap[W.heap.size + 1 + 1]? = some (.cells #[.int .i64 0, .int .i64 0, .string (⟨#[]⟩ : ByteArray)] 25 (0, 0)) ∧ Below W.heap.size W w
section
variable {u v : S25} {W w w' : World}
theorem BR.start : BR u v W (((W.alloc (.cells #[.int .i64 u.f0, .int .i64 u.f1, .string u.f2] 25)).alloc (.cells #[.int .i64 v.f0, .int .i64 v.f1, .string v.f2] 25)).alloc (.cells #[.int .i64 0, .int .i64 0, .string (⟨#[]⟩ : ByteArray)] 25)) := by
  have t1 := Deep.blk_alloc_new W (.cells #[.int .i64 u.f0, .int .i64 u.f1, .string u.f2] 25)
  have t2 := Deep.blk_alloc_new (W.alloc (.cells #[.int .i64 u.f0, .int .i64 u.f1, .string u.f2] 25)) (.cells #[.int .i64 v.f0, .int .i64 v.f1, .string v.f2] 25)
  have t3 := Deep.blk_alloc_new ((W.alloc (.cells #[.int .i64 u.f0, .int .i64 u.f1, .string u.f2] 25)).alloc (.cells #[.int .i64 v.f0, .int .i64 v.f1, .string v.f2] 25)) (.cells #[.int .i64 0, .int .i64 0, .string (⟨#[]⟩ : ByteArray)] 25)
  exact ⟨blk_alloc (blk_alloc t1 _) _, blk_alloc (by simpa using t2) _, by simpa using t3, below_alloc (below_alloc (below_alloc (Below.refl _ _) _) _) _⟩
theorem BR.drewN (h : BR u v W w) (n : Nat) : BR u v W (w.drewN n) := ⟨blk_drewN h.1 n, blk_drewN h.2.1 n, blk_drewN h.2.2.1 n, pw_below_drewN h.2.2.2 n⟩
theorem BR.below (h : BR u v W w) (hb : Below w.heap.size w w') : BR u v W w' :=
  ⟨(hb.block _ (blk_lt h.1)).trans h.1, (hb.block _ (blk_lt h.2.1)).trans h.2.1, (hb.block _ (blk_lt h.2.2.1)).trans h.2.2.1, below_step h.2.2.2 hb⟩
theorem BR.bel (h : BR u v W w) : Below W.heap.size W w := h.2.2.2
theorem BR.a0 (h : BR u v W w) : w.cell? ⟨W.heap.size, 0, none⟩ = some (.int .i64 u.f0) := (blk_cell h.1 0).trans rfl
theorem BR.a1 (h : BR u v W w) : w.cell? ⟨W.heap.size, 1, none⟩ = some (.int .i64 u.f1) := (blk_cell h.1 1).trans rfl
theorem BR.a2 (h : BR u v W w) : w.cell? ⟨W.heap.size, 2, none⟩ = some (.string u.f2) := (blk_cell h.1 2).trans rfl
theorem BR.v0 (h : BR u v W w) : w.cell? ⟨W.heap.size + 1, 0, none⟩ = some (.int .i64 v.f0) := (blk_cell h.2.1 0).trans rfl
theorem BR.v1 (h : BR u v W w) : w.cell? ⟨W.heap.size + 1, 1, none⟩ = some (.int .i64 v.f1) := (blk_cell h.2.1 1).trans rfl
theorem BR.v2 (h : BR u v W w) : w.cell? ⟨W.heap.size + 1, 2, none⟩ = some (.string v.f2) := (blk_cell h.2.1 2).trans rfl
end
set_option maxHeartbeats 2000000 in
set_option maxRecDepth 100000 in
theorem refBinary.low (op : Int) (u v : S25) (w : World) (l3 : ¬ 3 ≤ op) :
    Calls Try.prog 18 #[.int .i64 op, .agg #[.int .i64 u.f0, .int .i64 u.f1, .string u.f2], .agg #[.int .i64 v.f0, .int .i64 v.f1, .string v.f2]] w (fun e w' => e = .returned (.tuple #[.agg #[.int .i64 (0), .int .i64 (0), .string (V0)], .int .i64 5]) ∧ Below w.heap.size w w') := by
  have hu25 := Try.underlying25
  have q0 : decide (op < 3) = true := decide_eq_true (by omega)
  have q1 : decide (3 ≤ op) = false := decide_eq_false l3
  have l3' := Aside0.mk l3
  clear l3
  go_enter Try.func18, Try.ntmps18
  go_upto_region 1 with fail
  refine at_world (fun w' => BR u v w w') BR.start (fun w1 hI => ?_)
  have HI := Aside0.mk hI
  clear hI
  have ca0 : World.cell? w1 _ = some _ := HI.out.a0
  have ca1 : World.cell? w1 _ = some _ := HI.out.a1
  have ca2 : World.cell? w1 _ = some _ := HI.out.a2
  have cv0 : World.cell? w1 _ = some _ := HI.out.v0
  have cv1 : World.cell? w1 _ = some _ := HI.out.v1
  have cv2 : World.cell? w1 _ = some _ := HI.out.v2
  have gc0 : World.cell? w1 ⟨w.heap.size + 1 + 1, 0, none⟩ = some (.int .i64 0) := (blk_cell HI.out.2.2.1 0).trans rfl
  have gf0 := blk_frozen HI.out.2.2.1 0
  have gc1 : World.cell? w1 ⟨w.heap.size + 1 + 1, 1, none⟩ = some (.int .i64 0) := (blk_cell HI.out.2.2.1 1).trans rfl
  have gf1 := blk_frozen HI.out.2.2.1 1
  have gc2 : World.cell? w1 ⟨w.heap.size + 1 + 1, 2, none⟩ = some (.string (⟨#[]⟩ : ByteArray)) := (blk_cell HI.out.2.2.1 2).trans rfl
  have gf2 := blk_frozen HI.out.2.2.1 2
  go_wp2_with fail
  refine bodyPost_ret (v := .tuple #[.agg #[.int .i64 (0), .int .i64 (0), .string (V0)], .int .i64 5]) (by simp [results, Try.results18, go_sem, gc0, gc1, gc2, V0]) rfl ⟨rfl, ?_⟩
  refine below_set3 ?_ (by omega) _ _ _ _ _ _
  repeat (first | (with_reducible exact HI.out.bel) | apply pw_below_drewN)
set_option maxHeartbeats 2000000 in
set_option maxRecDepth 100000 in
theorem refBinary.high (op : Int) (u v : S25) (w : World) (l3 : 3 ≤ op) (l16 : ¬ op ≤ 16) :
    Calls Try.prog 18 #[.int .i64 op, .agg #[.int .i64 u.f0, .int .i64 u.f1, .string u.f2], .agg #[.int .i64 v.f0, .int .i64 v.f1, .string v.f2]] w (fun e w' => e = .returned (.tuple #[.agg #[.int .i64 (0), .int .i64 (0), .string (V0)], .int .i64 5]) ∧ Below w.heap.size w w') := by
  have hu25 := Try.underlying25
  have q0 : decide (op < 3) = false := decide_eq_false (by omega)
  have q1 : decide (3 ≤ op) = true := decide_eq_true l3
  have q2 : decide (16 < op) = true := decide_eq_true (by omega)
  have q3 : decide (op ≤ 16) = false := decide_eq_false l16
  have l3' := Aside0.mk l3
  have l16' := Aside0.mk l16
  clear l3 l16
  go_enter Try.func18, Try.ntmps18
  go_upto_region 1 with fail
  refine at_world (fun w' => BR u v w w') BR.start (fun w1 hI => ?_)
  have HI := Aside0.mk hI
  clear hI
  have ca0 : World.cell? w1 _ = some _ := HI.out.a0
  have ca1 : World.cell? w1 _ = some _ := HI.out.a1
  have ca2 : World.cell? w1 _ = some _ := HI.out.a2
  have cv0 : World.cell? w1 _ = some _ := HI.out.v0
  have cv1 : World.cell? w1 _ = some _ := HI.out.v1
  have cv2 : World.cell? w1 _ = some _ := HI.out.v2
  have gc0 : World.cell? w1 ⟨w.heap.size + 1 + 1, 0, none⟩ = some (.int .i64 0) := (blk_cell HI.out.2.2.1 0).trans rfl
  have gf0 := blk_frozen HI.out.2.2.1 0
  have gc1 : World.cell? w1 ⟨w.heap.size + 1 + 1, 1, none⟩ = some (.int .i64 0) := (blk_cell HI.out.2.2.1 1).trans rfl
  have gf1 := blk_frozen HI.out.2.2.1 1
  have gc2 : World.cell? w1 ⟨w.heap.size + 1 + 1, 2, none⟩ = some (.string (⟨#[]⟩ : ByteArray)) := (blk_cell HI.out.2.2.1 2).trans rfl
  have gf2 := blk_frozen HI.out.2.2.1 2
  go_wp2_with fail
  refine bodyPost_ret (v := .tuple #[.agg #[.int .i64 (0), .int .i64 (0), .string (V0)], .int .i64 5]) (by simp [results, Try.results18, go_sem, gc0, gc1, gc2, V0]) rfl ⟨rfl, ?_⟩
  refine below_set3 ?_ (by omega) _ _ _ _ _ _
  repeat (first | (with_reducible exact HI.out.bel) | apply pw_below_drewN)
set_option maxHeartbeats 2000000 in
set_option maxRecDepth 100000 in
theorem refBinary.kindAB (op : Int) (u v : S25) (w : World) (kA : Nat) (HGA : Aside0 (quarryref02_goes.f kA op u.f0 = some false)) (l3 : 3 ≤ op) (l16 : op ≤ 16) (a0 : ¬ u.f0 = 0) (z0 : v.f0 = 0) :
    Calls Try.prog 18 #[.int .i64 op, .agg #[.int .i64 u.f0, .int .i64 u.f1, .string u.f2], .agg #[.int .i64 v.f0, .int .i64 v.f1, .string v.f2]] w (fun e w' => e = .returned (.tuple #[.agg #[.int .i64 (0), .int .i64 (0), .string (V0)], .int .i64 35]) ∧ Below w.heap.size w w') := by
  have hu25 := Try.underlying25
  have q0 : decide (op < 3) = false := decide_eq_false (by omega)
  have q1 : decide (3 ≤ op) = true := decide_eq_true l3
  have q2 : decide (16 < op) = false := decide_eq_false (by omega)
  have q3 : decide (op ≤ 16) = true := decide_eq_true l16
  have q4 : (u.f0 == 0) = false := beq_eq_false_iff_ne.mpr a0
  have q5 : (v.f0 == 0) = true := beq_iff_eq.mpr z0
  have l3' := Aside0.mk l3
  have l16' := Aside0.mk l16
  have a0' := Aside0.mk a0
  have z0' := Aside0.mk z0
  clear l3 l16 a0 z0
  go_enter Try.func18, Try.ntmps18
  go_upto_region 1 with fail
  refine at_world (fun w' => BR u v w w') BR.start (fun w1 hI => ?_)
  have HI := Aside0.mk hI
  clear hI
  have ca0 : World.cell? w1 _ = some _ := HI.out.a0
  have ca1 : World.cell? w1 _ = some _ := HI.out.a1
  have ca2 : World.cell? w1 _ = some _ := HI.out.a2
  have cv0 : World.cell? w1 _ = some _ := HI.out.v0
  have cv1 : World.cell? w1 _ = some _ := HI.out.v1
  have cv2 : World.cell? w1 _ = some _ := HI.out.v2
  have gc0 : World.cell? w1 ⟨w.heap.size + 1 + 1, 0, none⟩ = some (.int .i64 0) := (blk_cell HI.out.2.2.1 0).trans rfl
  have gf0 := blk_frozen HI.out.2.2.1 0
  have gc1 : World.cell? w1 ⟨w.heap.size + 1 + 1, 1, none⟩ = some (.int .i64 0) := (blk_cell HI.out.2.2.1 1).trans rfl
  have gf1 := blk_frozen HI.out.2.2.1 1
  have gc2 : World.cell? w1 ⟨w.heap.size + 1 + 1, 2, none⟩ = some (.string (⟨#[]⟩ : ByteArray)) := (blk_cell HI.out.2.2.1 2).trans rfl
  have gf2 := blk_frozen HI.out.2.2.1 2
  go_wp2_with (first | (go_at_call 47; (with_reducible refine (quarryref02_goes.calls kA op u.f0 false _ HGA.out).mono ?_); rintro e w' ⟨rfl, ⟨nd, rfl⟩⟩))
  refine bodyPost_ret (v := .tuple #[.agg #[.int .i64 (0), .int .i64 (0), .string (V0)], .int .i64 35]) (by simp [results, Try.results18, go_sem, gc0, gc1, gc2, V0]) rfl ⟨rfl, ?_⟩
  refine below_set3 ?_ (by omega) _ _ _ _ _ _
  repeat (first | (with_reducible exact HI.out.bel) | apply pw_below_drewN)
set_option maxHeartbeats 2000000 in
set_option maxRecDepth 100000 in
theorem refBinary.kindAC (op : Int) (u v : S25) (w : World) (kA : Nat) (HGA : Aside0 (quarryref02_goes.f kA op u.f0 = some false)) (l3 : 3 ≤ op) (l16 : op ≤ 16) (a0 : ¬ u.f0 = 0) (z0 : ¬ v.f0 = 0) :
    Calls Try.prog 18 #[.int .i64 op, .agg #[.int .i64 u.f0, .int .i64 u.f1, .string u.f2], .agg #[.int .i64 v.f0, .int .i64 v.f1, .string v.f2]] w (fun e w' => e = .returned (.tuple #[.agg #[.int .i64 (0), .int .i64 (0), .string (V0)], .int .i64 35]) ∧ Below w.heap.size w w') := by
  have hu25 := Try.underlying25
  have q0 : decide (op < 3) = false := decide_eq_false (by omega)
  have q1 : decide (3 ≤ op) = true := decide_eq_true l3
  have q2 : decide (16 < op) = false := decide_eq_false (by omega)
  have q3 : decide (op ≤ 16) = true := decide_eq_true l16
  have q4 : (u.f0 == 0) = false := beq_eq_false_iff_ne.mpr a0
  have q5 : (v.f0 == 0) = false := beq_eq_false_iff_ne.mpr z0
  have l3' := Aside0.mk l3
  have l16' := Aside0.mk l16
  have a0' := Aside0.mk a0
  have z0' := Aside0.mk z0
  clear l3 l16 a0 z0
  go_enter Try.func18, Try.ntmps18
  go_upto_region 1 with fail
  refine at_world (fun w' => BR u v w w') BR.start (fun w1 hI => ?_)
  have HI := Aside0.mk hI
  clear hI
  have ca0 : World.cell? w1 _ = some _ := HI.out.a0
  have ca1 : World.cell? w1 _ = some _ := HI.out.a1
  have ca2 : World.cell? w1 _ = some _ := HI.out.a2
  have cv0 : World.cell? w1 _ = some _ := HI.out.v0
  have cv1 : World.cell? w1 _ = some _ := HI.out.v1
  have cv2 : World.cell? w1 _ = some _ := HI.out.v2
  have gc0 : World.cell? w1 ⟨w.heap.size + 1 + 1, 0, none⟩ = some (.int .i64 0) := (blk_cell HI.out.2.2.1 0).trans rfl
  have gf0 := blk_frozen HI.out.2.2.1 0
  have gc1 : World.cell? w1 ⟨w.heap.size + 1 + 1, 1, none⟩ = some (.int .i64 0) := (blk_cell HI.out.2.2.1 1).trans rfl
  have gf1 := blk_frozen HI.out.2.2.1 1
  have gc2 : World.cell? w1 ⟨w.heap.size + 1 + 1, 2, none⟩ = some (.string (⟨#[]⟩ : ByteArray)) := (blk_cell HI.out.2.2.1 2).trans rfl
  have gf2 := blk_frozen HI.out.2.2.1 2
  go_wp2_with (first | (go_at_call 47; (with_reducible refine (quarryref02_goes.calls kA op u.f0 false _ HGA.out).mono ?_); rintro e w' ⟨rfl, ⟨nd, rfl⟩⟩))
  refine bodyPost_ret (v := .tuple #[.agg #[.int .i64 (0), .int .i64 (0), .string (V0)], .int .i64 35]) (by simp [results, Try.results18, go_sem, gc0, gc1, gc2, V0]) rfl ⟨rfl, ?_⟩
  refine below_set3 ?_ (by omega) _ _ _ _ _ _
  repeat (first | (with_reducible exact HI.out.bel) | apply pw_below_drewN)
set_option maxHeartbeats 2000000 in
set_option maxRecDepth 100000 in
theorem refBinary.kindBA (op : Int) (u v : S25) (w : World) (kA : Nat) (HGA : Aside0 (quarryref02_goes.f kA op u.f0 = some true)) (kB : Nat) (HGB : Aside0 (quarryref02_goes.f kB op v.f0 = some false)) (l3 : 3 ≤ op) (l16 : op ≤ 16) (a0 : u.f0 = 0) :
    Calls Try.prog 18 #[.int .i64 op, .agg #[.int .i64 u.f0, .int .i64 u.f1, .string u.f2], .agg #[.int .i64 v.f0, .int .i64 v.f1, .string v.f2]] w (fun e w' => e = .returned (.tuple #[.agg #[.int .i64 (0), .int .i64 (0), .string (V0)], .int .i64 35]) ∧ Below w.heap.size w w') := by
  have hu25 := Try.underlying25
  have q0 : decide (op < 3) = false := decide_eq_false (by omega)
  have q1 : decide (3 ≤ op) = true := decide_eq_true l3
  have q2 : decide (16 < op) = false := decide_eq_false (by omega)
  have q3 : decide (op ≤ 16) = true := decide_eq_true l16
  have q4 : (u.f0 == 0) = true := beq_iff_eq.mpr a0
  have l3' := Aside0.mk l3
  have l16' := Aside0.mk l16
  have a0' := Aside0.mk a0
  clear l3 l16 a0
  go_enter Try.func18, Try.ntmps18
  go_upto_region 1 with fail
  refine at_world (fun w' => BR u v w w') BR.start (fun w1 hI => ?_)
  have HI := Aside0.mk hI
  clear hI
  have ca0 : World.cell? w1 _ = some _ := HI.out.a0
  have ca1 : World.cell? w1 _ = some _ := HI.out.a1
  have ca2 : World.cell? w1 _ = some _ := HI.out.a2
  have cv0 : World.cell? w1 _ = some _ := HI.out.v0
  have cv1 : World.cell? w1 _ = some _ := HI.out.v1
  have cv2 : World.cell? w1 _ = some _ := HI.out.v2
  have gc0 : World.cell? w1 ⟨w.heap.size + 1 + 1, 0, none⟩ = some (.int .i64 0) := (blk_cell HI.out.2.2.1 0).trans rfl
  have gf0 := blk_frozen HI.out.2.2.1 0
  have gc1 : World.cell? w1 ⟨w.heap.size + 1 + 1, 1, none⟩ = some (.int .i64 0) := (blk_cell HI.out.2.2.1 1).trans rfl
  have gf1 := blk_frozen HI.out.2.2.1 1
  have gc2 : World.cell? w1 ⟨w.heap.size + 1 + 1, 2, none⟩ = some (.string (⟨#[]⟩ : ByteArray)) := (blk_cell HI.out.2.2.1 2).trans rfl
  have gf2 := blk_frozen HI.out.2.2.1 2
  go_wp2_with (first | (go_at_call 47; (with_reducible refine (quarryref02_goes.calls kA op u.f0 true _ HGA.out).mono ?_); rintro e w' ⟨rfl, ⟨nd, rfl⟩⟩) | (go_at_call 47; (with_reducible refine (quarryref02_goes.calls kB op v.f0 false _ HGB.out).mono ?_); rintro e w' ⟨rfl, ⟨nd, rfl⟩⟩))
  refine bodyPost_ret (v := .tuple #[.agg #[.int .i64 (0), .int .i64 (0), .string (V0)], .int .i64 35]) (by simp [results, Try.results18, go_sem, gc0, gc1, gc2, V0]) rfl ⟨rfl, ?_⟩
  refine below_set3 ?_ (by omega) _ _ _ _ _ _
  repeat (first | (with_reducible exact HI.out.bel) | apply pw_below_drewN)
set_option maxHeartbeats 2000000 in
set_option maxRecDepth 100000 in
theorem refBinary.kindBC (op : Int) (u v : S25) (w : World) (kA : Nat) (HGA : Aside0 (quarryref02_goes.f kA op u.f0 = some true)) (kB : Nat) (HGB : Aside0 (quarryref02_goes.f kB op v.f0 = some false)) (l3 : 3 ≤ op) (l16 : op ≤ 16) (a0 : ¬ u.f0 = 0) (z0 : ¬ v.f0 = 0) :
    Calls Try.prog 18 #[.int .i64 op, .agg #[.int .i64 u.f0, .int .i64 u.f1, .string u.f2], .agg #[.int .i64 v.f0, .int .i64 v.f1, .string v.f2]] w (fun e w' => e = .returned (.tuple #[.agg #[.int .i64 (0), .int .i64 (0), .string (V0)], .int .i64 35]) ∧ Below w.heap.size w w') := by
  have hu25 := Try.underlying25
  have q0 : decide (op < 3) = false := decide_eq_false (by omega)
  have q1 : decide (3 ≤ op) = true := decide_eq_true l3
  have q2 : decide (16 < op) = false := decide_eq_false (by omega)
  have q3 : decide (op ≤ 16) = true := decide_eq_true l16
  have q4 : (u.f0 == 0) = false := beq_eq_false_iff_ne.mpr a0
  have q5 : (v.f0 == 0) = false := beq_eq_false_iff_ne.mpr z0
  have l3' := Aside0.mk l3
  have l16' := Aside0.mk l16
  have a0' := Aside0.mk a0
  have z0' := Aside0.mk z0
  clear l3 l16 a0 z0
  go_enter Try.func18, Try.ntmps18
  go_upto_region 1 with fail
  refine at_world (fun w' => BR u v w w') BR.start (fun w1 hI => ?_)
  have HI := Aside0.mk hI
  clear hI
  have ca0 : World.cell? w1 _ = some _ := HI.out.a0
  have ca1 : World.cell? w1 _ = some _ := HI.out.a1
  have ca2 : World.cell? w1 _ = some _ := HI.out.a2
  have cv0 : World.cell? w1 _ = some _ := HI.out.v0
  have cv1 : World.cell? w1 _ = some _ := HI.out.v1
  have cv2 : World.cell? w1 _ = some _ := HI.out.v2
  have gc0 : World.cell? w1 ⟨w.heap.size + 1 + 1, 0, none⟩ = some (.int .i64 0) := (blk_cell HI.out.2.2.1 0).trans rfl
  have gf0 := blk_frozen HI.out.2.2.1 0
  have gc1 : World.cell? w1 ⟨w.heap.size + 1 + 1, 1, none⟩ = some (.int .i64 0) := (blk_cell HI.out.2.2.1 1).trans rfl
  have gf1 := blk_frozen HI.out.2.2.1 1
  have gc2 : World.cell? w1 ⟨w.heap.size + 1 + 1, 2, none⟩ = some (.string (⟨#[]⟩ : ByteArray)) := (blk_cell HI.out.2.2.1 2).trans rfl
  have gf2 := blk_frozen HI.out.2.2.1 2
  go_wp2_with (first | (go_at_call 47; (with_reducible refine (quarryref02_goes.calls kA op u.f0 true _ HGA.out).mono ?_); rintro e w' ⟨rfl, ⟨nd, rfl⟩⟩) | (go_at_call 47; (with_reducible refine (quarryref02_goes.calls kB op v.f0 false _ HGB.out).mono ?_); rintro e w' ⟨rfl, ⟨nd, rfl⟩⟩))
  refine bodyPost_ret (v := .tuple #[.agg #[.int .i64 (0), .int .i64 (0), .string (V0)], .int .i64 35]) (by simp [results, Try.results18, go_sem, gc0, gc1, gc2, V0]) rfl ⟨rfl, ?_⟩
  refine below_set3 ?_ (by omega) _ _ _ _ _ _
  repeat (first | (with_reducible exact HI.out.bel) | apply pw_below_drewN)
set_option maxHeartbeats 2000000 in
set_option maxRecDepth 100000 in
theorem refBinary.differ (op : Int) (u v : S25) (w : World) (kA : Nat) (HGA : Aside0 (quarryref02_goes.f kA op u.f0 = some true)) (kB : Nat) (HGB : Aside0 (quarryref02_goes.f kB op v.f0 = some true)) (l3 : 3 ≤ op) (l16 : op ≤ 16) (l5 : 5 ≤ op) (l10 : op ≤ 10) (a0 : ¬ u.f0 = 0) (z0 : ¬ v.f0 = 0) (uv : ¬ u.f0 = v.f0) :
    Calls Try.prog 18 #[.int .i64 op, .agg #[.int .i64 u.f0, .int .i64 u.f1, .string u.f2], .agg #[.int .i64 v.f0, .int .i64 v.f1, .string v.f2]] w (fun e w' => e = .returned (.tuple #[.agg #[.int .i64 (0), .int .i64 (0), .string (V0)], .int .i64 35]) ∧ Below w.heap.size w w') := by
  have hu25 := Try.underlying25
  have q0 : decide (op < 3) = false := decide_eq_false (by omega)
  have q1 : decide (3 ≤ op) = true := decide_eq_true l3
  have q2 : decide (16 < op) = false := decide_eq_false (by omega)
  have q3 : decide (op ≤ 16) = true := decide_eq_true l16
  have q4 : decide (5 ≤ op) = true := decide_eq_true l5
  have q5 : decide (op ≤ 10) = true := decide_eq_true l10
  have q6 : decide (op ≤ 4) = false := decide_eq_false (by omega)
  have q7 : (u.f0 == 0) = false := beq_eq_false_iff_ne.mpr a0
  have q8 : (v.f0 == 0) = false := beq_eq_false_iff_ne.mpr z0
  have q9 : (u.f0 != v.f0) = true := bne_iff_ne.mpr uv
  have q10 : (u.f0 == v.f0) = false := beq_eq_false_iff_ne.mpr uv
  have l3' := Aside0.mk l3
  have l16' := Aside0.mk l16
  have l5' := Aside0.mk l5
  have l10' := Aside0.mk l10
  have a0' := Aside0.mk a0
  have z0' := Aside0.mk z0
  have uv' := Aside0.mk uv
  clear l3 l16 l5 l10 a0 z0 uv
  go_enter Try.func18, Try.ntmps18
  go_upto_region 1 with fail
  refine at_world (fun w' => BR u v w w') BR.start (fun w1 hI => ?_)
  have HI := Aside0.mk hI
  clear hI
  have ca0 : World.cell? w1 _ = some _ := HI.out.a0
  have ca1 : World.cell? w1 _ = some _ := HI.out.a1
  have ca2 : World.cell? w1 _ = some _ := HI.out.a2
  have cv0 : World.cell? w1 _ = some _ := HI.out.v0
  have cv1 : World.cell? w1 _ = some _ := HI.out.v1
  have cv2 : World.cell? w1 _ = some _ := HI.out.v2
  have gc0 : World.cell? w1 ⟨w.heap.size + 1 + 1, 0, none⟩ = some (.int .i64 0) := (blk_cell HI.out.2.2.1 0).trans rfl
  have gf0 := blk_frozen HI.out.2.2.1 0
  have gc1 : World.cell? w1 ⟨w.heap.size + 1 + 1, 1, none⟩ = some (.int .i64 0) := (blk_cell HI.out.2.2.1 1).trans rfl
  have gf1 := blk_frozen HI.out.2.2.1 1
  have gc2 : World.cell? w1 ⟨w.heap.size + 1 + 1, 2, none⟩ = some (.string (⟨#[]⟩ : ByteArray)) := (blk_cell HI.out.2.2.1 2).trans rfl
  have gf2 := blk_frozen HI.out.2.2.1 2
  go_wp2_with (first | (go_at_call 47; (with_reducible refine (quarryref02_goes.calls kA op u.f0 true _ HGA.out).mono ?_); rintro e w' ⟨rfl, ⟨nd, rfl⟩⟩) | (go_at_call 47; (with_reducible refine (quarryref02_goes.calls kB op v.f0 true _ HGB.out).mono ?_); rintro e w' ⟨rfl, ⟨nd, rfl⟩⟩))
  refine bodyPost_ret (v := .tuple #[.agg #[.int .i64 (0), .int .i64 (0), .string (V0)], .int .i64 35]) (by simp [results, Try.results18, go_sem, gc0, gc1, gc2, V0]) rfl ⟨rfl, ?_⟩
  refine below_set3 ?_ (by omega) _ _ _ _ _ _
  repeat (first | (with_reducible exact HI.out.bel) | apply pw_below_drewN)
set_option maxHeartbeats 2000000 in
set_option maxRecDepth 100000 in
theorem refBinary.logicA (op : Int) (u v : S25) (w : World) (kA : Nat) (HGA : Aside0 (quarryref02_goes.f kA op u.f0 = some true)) (kB : Nat) (HGB : Aside0 (quarryref02_goes.f kB op v.f0 = some true)) (l3 : 3 ≤ op) (l16 : op ≤ 16) (l4 : op ≤ 4) (a0 : u.f0 = 0) :
    Calls Try.prog 18 #[.int .i64 op, .agg #[.int .i64 u.f0, .int .i64 u.f1, .string u.f2], .agg #[.int .i64 v.f0, .int .i64 v.f1, .string v.f2]] w (fun e w' => e = .returned (.tuple #[.agg #[.int .i64 ((logicP u v (truthV (op == 3))).f0), .int .i64 ((logicP u v (truthV (op == 3))).f1), .string ((logicP u v (truthV (op == 3))).f2)], .int .i64 0]) ∧ Below w.heap.size w w') := by
  have hu25 := Try.underlying25
  have q0 : decide (op < 3) = false := decide_eq_false (by omega)
  have q1 : decide (3 ≤ op) = true := decide_eq_true l3
  have q2 : decide (16 < op) = false := decide_eq_false (by omega)
  have q3 : decide (op ≤ 16) = true := decide_eq_true l16
  have q4 : decide (5 ≤ op) = false := decide_eq_false (by omega)
  have q5 : decide (op ≤ 4) = true := decide_eq_true l4
  have q6 : (u.f0 == 0) = true := beq_iff_eq.mpr a0
  have l3' := Aside0.mk l3
  have l16' := Aside0.mk l16
  have l4' := Aside0.mk l4
  have a0' := Aside0.mk a0
  clear l3 l16 l4 a0
  go_enter Try.func18, Try.ntmps18
  go_upto_region 1 with fail
  refine at_world (fun w' => BR u v w w') BR.start (fun w1 hI => ?_)
  have HI := Aside0.mk hI
  clear hI
  have ca0 : World.cell? w1 _ = some _ := HI.out.a0
  have ca1 : World.cell? w1 _ = some _ := HI.out.a1
  have ca2 : World.cell? w1 _ = some _ := HI.out.a2
  have cv0 : World.cell? w1 _ = some _ := HI.out.v0
  have cv1 : World.cell? w1 _ = some _ := HI.out.v1
  have cv2 : World.cell? w1 _ = some _ := HI.out.v2
  have gc0 : World.cell? w1 ⟨w.heap.size + 1 + 1, 0, none⟩ = some (.int .i64 0) := (blk_cell HI.out.2.2.1 0).trans rfl
  have gf0 := blk_frozen HI.out.2.2.1 0
  have gc1 : World.cell? w1 ⟨w.heap.size + 1 + 1, 1, none⟩ = some (.int .i64 0) := (blk_cell HI.out.2.2.1 1).trans rfl
  have gf1 := blk_frozen HI.out.2.2.1 1
  have gc2 : World.cell? w1 ⟨w.heap.size + 1 + 1, 2, none⟩ = some (.string (⟨#[]⟩ : ByteArray)) := (blk_cell HI.out.2.2.1 2).trans rfl
  have gf2 := blk_frozen HI.out.2.2.1 2
  go_wp2_with (first | (go_at_call 47; (with_reducible refine (quarryref02_goes.calls kA op u.f0 true _ HGA.out).mono ?_); rintro e w' ⟨rfl, ⟨nd, rfl⟩⟩) | (go_at_call 47; (with_reducible refine (quarryref02_goes.calls kB op v.f0 true _ HGB.out).mono ?_); rintro e w' ⟨rfl, ⟨nd, rfl⟩⟩))
  refine (logicR_calls l3'.out l4'.out u v _).mono ?_
  rintro e w2 ⟨rfl, hb⟩
  have HJ : Aside0 (BR u v w w2) := ⟨BR.below (by repeat (first | exact HI.out | refine BR.drewN ?_ _)) hb⟩
  clear hb HI ca0 ca1 ca2 cv0 cv1 cv2 gc0 gc1 gc2 gf0 gf1 gf2
  have HI := HJ
  clear HJ
  have ca0 : World.cell? w2 _ = some _ := HI.out.a0
  have ca1 : World.cell? w2 _ = some _ := HI.out.a1
  have ca2 : World.cell? w2 _ = some _ := HI.out.a2
  have cv0 : World.cell? w2 _ = some _ := HI.out.v0
  have cv1 : World.cell? w2 _ = some _ := HI.out.v1
  have cv2 : World.cell? w2 _ = some _ := HI.out.v2
  have gc0 : World.cell? w2 ⟨w.heap.size + 1 + 1, 0, none⟩ = some (.int .i64 0) := (blk_cell HI.out.2.2.1 0).trans rfl
  have gf0 := blk_frozen HI.out.2.2.1 0
  have gc1 : World.cell? w2 ⟨w.heap.size + 1 + 1, 1, none⟩ = some (.int .i64 0) := (blk_cell HI.out.2.2.1 1).trans rfl
  have gf1 := blk_frozen HI.out.2.2.1 1
  have gc2 : World.cell? w2 ⟨w.heap.size + 1 + 1, 2, none⟩ = some (.string (⟨#[]⟩ : ByteArray)) := (blk_cell HI.out.2.2.1 2).trans rfl
  have gf2 := blk_frozen HI.out.2.2.1 2
  go_wp2_with fail
  refine bodyPost_ret (v := .tuple #[.agg #[.int .i64 ((logicP u v (truthV (op == 3))).f0), .int .i64 ((logicP u v (truthV (op == 3))).f1), .string ((logicP u v (truthV (op == 3))).f2)], .int .i64 0]) (by simp [results, Try.results18, go_sem, gc0, gc1, gc2, V0]) rfl ⟨rfl, ?_⟩
  refine below_set3 ?_ (by omega) _ _ _ _ _ _
  repeat (first | (with_reducible exact HI.out.bel) | apply pw_below_drewN)
set_option maxHeartbeats 2000000 in
set_option maxRecDepth 100000 in
theorem refBinary.logicB (op : Int) (u v : S25) (w : World) (kA : Nat) (HGA : Aside0 (quarryref02_goes.f kA op u.f0 = some true)) (kB : Nat) (HGB : Aside0 (quarryref02_goes.f kB op v.f0 = some true)) (l3 : 3 ≤ op) (l16 : op ≤ 16) (l4 : op ≤ 4) (a0 : ¬ u.f0 = 0) (z0 : v.f0 = 0) :
    Calls Try.prog 18 #[.int .i64 op, .agg #[.int .i64 u.f0, .int .i64 u.f1, .string u.f2], .agg #[.int .i64 v.f0, .int .i64 v.f1, .string v.f2]] w (fun e w' => e = .returned (.tuple #[.agg #[.int .i64 ((logicP u v (truthV (op == 3))).f0), .int .i64 ((logicP u v (truthV (op == 3))).f1), .string ((logicP u v (truthV (op == 3))).f2)], .int .i64 0]) ∧ Below w.heap.size w w') := by
  have hu25 := Try.underlying25
  have q0 : decide (op < 3) = false := decide_eq_false (by omega)
  have q1 : decide (3 ≤ op) = true := decide_eq_true l3
  have q2 : decide (16 < op) = false := decide_eq_false (by omega)
  have q3 : decide (op ≤ 16) = true := decide_eq_true l16
  have q4 : decide (5 ≤ op) = false := decide_eq_false (by omega)
  have q5 : decide (op ≤ 4) = true := decide_eq_true l4
  have q6 : (u.f0 == 0) = false := beq_eq_false_iff_ne.mpr a0
  have q7 : (v.f0 == 0) = true := beq_iff_eq.mpr z0
  have l3' := Aside0.mk l3
  have l16' := Aside0.mk l16
  have l4' := Aside0.mk l4
  have a0' := Aside0.mk a0
  have z0' := Aside0.mk z0
  clear l3 l16 l4 a0 z0
  go_enter Try.func18, Try.ntmps18
  go_upto_region 1 with fail
  refine at_world (fun w' => BR u v w w') BR.start (fun w1 hI => ?_)
  have HI := Aside0.mk hI
  clear hI
  have ca0 : World.cell? w1 _ = some _ := HI.out.a0
  have ca1 : World.cell? w1 _ = some _ := HI.out.a1
  have ca2 : World.cell? w1 _ = some _ := HI.out.a2
  have cv0 : World.cell? w1 _ = some _ := HI.out.v0
  have cv1 : World.cell? w1 _ = some _ := HI.out.v1
  have cv2 : World.cell? w1 _ = some _ := HI.out.v2
  have gc0 : World.cell? w1 ⟨w.heap.size + 1 + 1, 0, none⟩ = some (.int .i64 0) := (blk_cell HI.out.2.2.1 0).trans rfl
  have gf0 := blk_frozen HI.out.2.2.1 0
  have gc1 : World.cell? w1 ⟨w.heap.size + 1 + 1, 1, none⟩ = some (.int .i64 0) := (blk_cell HI.out.2.2.1 1).trans rfl
  have gf1 := blk_frozen HI.out.2.2.1 1
  have gc2 : World.cell? w1 ⟨w.heap.size + 1 + 1, 2, none⟩ = some (.string (⟨#[]⟩ : ByteArray)) := (blk_cell HI.out.2.2.1 2).trans rfl
  have gf2 := blk_frozen HI.out.2.2.1 2
  go_wp2_with (first | (go_at_call 47; (with_reducible refine (quarryref02_goes.calls kA op u.f0 true _ HGA.out).mono ?_); rintro e w' ⟨rfl, ⟨nd, rfl⟩⟩) | (go_at_call 47; (with_reducible refine (quarryref02_goes.calls kB op v.f0 true _ HGB.out).mono ?_); rintro e w' ⟨rfl, ⟨nd, rfl⟩⟩))
  refine (logicR_calls l3'.out l4'.out u v _).mono ?_
  rintro e w2 ⟨rfl, hb⟩
  have HJ : Aside0 (BR u v w w2) := ⟨BR.below (by repeat (first | exact HI.out | refine BR.drewN ?_ _)) hb⟩
  clear hb HI ca0 ca1 ca2 cv0 cv1 cv2 gc0 gc1 gc2 gf0 gf1 gf2
  have HI := HJ
  clear HJ
  have ca0 : World.cell? w2 _ = some _ := HI.out.a0
  have ca1 : World.cell? w2 _ = some _ := HI.out.a1
  have ca2 : World.cell? w2 _ = some _ := HI.out.a2
  have cv0 : World.cell? w2 _ = some _ := HI.out.v0
  have cv1 : World.cell? w2 _ = some _ := HI.out.v1
  have cv2 : World.cell? w2 _ = some _ := HI.out.v2
  have gc0 : World.cell? w2 ⟨w.heap.size + 1 + 1, 0, none⟩ = some (.int .i64 0) := (blk_cell HI.out.2.2.1 0).trans rfl
  have gf0 := blk_frozen HI.out.2.2.1 0
  have gc1 : World.cell? w2 ⟨w.heap.size + 1 + 1, 1, none⟩ = some (.int .i64 0) := (blk_cell HI.out.2.2.1 1).trans rfl
  have gf1 := blk_frozen HI.out.2.2.1 1
  have gc2 : World.cell? w2 ⟨w.heap.size + 1 + 1, 2, none⟩ = some (.string (⟨#[]⟩ : ByteArray)) := (blk_cell HI.out.2.2.1 2).trans rfl
  have gf2 := blk_frozen HI.out.2.2.1 2
  go_wp2_with fail
  refine bodyPost_ret (v := .tuple #[.agg #[.int .i64 ((logicP u v (truthV (op == 3))).f0), .int .i64 ((logicP u v (truthV (op == 3))).f1), .string ((logicP u v (truthV (op == 3))).f2)], .int .i64 0]) (by simp [results, Try.results18, go_sem, gc0, gc1, gc2, V0]) rfl ⟨rfl, ?_⟩
  refine below_set3 ?_ (by omega) _ _ _ _ _ _
  repeat (first | (with_reducible exact HI.out.bel) | apply pw_below_drewN)
set_option maxHeartbeats 2000000 in
set_option maxRecDepth 100000 in
theorem refBinary.logicC (op : Int) (u v : S25) (w : World) (kA : Nat) (HGA : Aside0 (quarryref02_goes.f kA op u.f0 = some true)) (kB : Nat) (HGB : Aside0 (quarryref02_goes.f kB op v.f0 = some true)) (l3 : 3 ≤ op) (l16 : op ≤ 16) (l4 : op ≤ 4) (a0 : ¬ u.f0 = 0) (z0 : ¬ v.f0 = 0) :
    Calls Try.prog 18 #[.int .i64 op, .agg #[.int .i64 u.f0, .int .i64 u.f1, .string u.f2], .agg #[.int .i64 v.f0, .int .i64 v.f1, .string v.f2]] w (fun e w' => e = .returned (.tuple #[.agg #[.int .i64 ((logicP u v (truthV (op == 3))).f0), .int .i64 ((logicP u v (truthV (op == 3))).f1), .string ((logicP u v (truthV (op == 3))).f2)], .int .i64 0]) ∧ Below w.heap.size w w') := by
  have hu25 := Try.underlying25
  have q0 : decide (op < 3) = false := decide_eq_false (by omega)
  have q1 : decide (3 ≤ op) = true := decide_eq_true l3
  have q2 : decide (16 < op) = false := decide_eq_false (by omega)
  have q3 : decide (op ≤ 16) = true := decide_eq_true l16
  have q4 : decide (5 ≤ op) = false := decide_eq_false (by omega)
  have q5 : decide (op ≤ 4) = true := decide_eq_true l4
  have q6 : (u.f0 == 0) = false := beq_eq_false_iff_ne.mpr a0
  have q7 : (v.f0 == 0) = false := beq_eq_false_iff_ne.mpr z0
  have l3' := Aside0.mk l3
  have l16' := Aside0.mk l16
  have l4' := Aside0.mk l4
  have a0' := Aside0.mk a0
  have z0' := Aside0.mk z0
  clear l3 l16 l4 a0 z0
  go_enter Try.func18, Try.ntmps18
  go_upto_region 1 with fail
  refine at_world (fun w' => BR u v w w') BR.start (fun w1 hI => ?_)
  have HI := Aside0.mk hI
  clear hI
  have ca0 : World.cell? w1 _ = some _ := HI.out.a0
  have ca1 : World.cell? w1 _ = some _ := HI.out.a1
  have ca2 : World.cell? w1 _ = some _ := HI.out.a2
  have cv0 : World.cell? w1 _ = some _ := HI.out.v0
  have cv1 : World.cell? w1 _ = some _ := HI.out.v1
  have cv2 : World.cell? w1 _ = some _ := HI.out.v2
  have gc0 : World.cell? w1 ⟨w.heap.size + 1 + 1, 0, none⟩ = some (.int .i64 0) := (blk_cell HI.out.2.2.1 0).trans rfl
  have gf0 := blk_frozen HI.out.2.2.1 0
  have gc1 : World.cell? w1 ⟨w.heap.size + 1 + 1, 1, none⟩ = some (.int .i64 0) := (blk_cell HI.out.2.2.1 1).trans rfl
  have gf1 := blk_frozen HI.out.2.2.1 1
  have gc2 : World.cell? w1 ⟨w.heap.size + 1 + 1, 2, none⟩ = some (.string (⟨#[]⟩ : ByteArray)) := (blk_cell HI.out.2.2.1 2).trans rfl
  have gf2 := blk_frozen HI.out.2.2.1 2
  go_wp2_with (first | (go_at_call 47; (with_reducible refine (quarryref02_goes.calls kA op u.f0 true _ HGA.out).mono ?_); rintro e w' ⟨rfl, ⟨nd, rfl⟩⟩) | (go_at_call 47; (with_reducible refine (quarryref02_goes.calls kB op v.f0 true _ HGB.out).mono ?_); rintro e w' ⟨rfl, ⟨nd, rfl⟩⟩))
  refine (logicR_calls l3'.out l4'.out u v _).mono ?_
  rintro e w2 ⟨rfl, hb⟩
  have HJ : Aside0 (BR u v w w2) := ⟨BR.below (by repeat (first | exact HI.out | refine BR.drewN ?_ _)) hb⟩
  clear hb HI ca0 ca1 ca2 cv0 cv1 cv2 gc0 gc1 gc2 gf0 gf1 gf2
  have HI := HJ
  clear HJ
  have ca0 : World.cell? w2 _ = some _ := HI.out.a0
  have ca1 : World.cell? w2 _ = some _ := HI.out.a1
  have ca2 : World.cell? w2 _ = some _ := HI.out.a2
  have cv0 : World.cell? w2 _ = some _ := HI.out.v0
  have cv1 : World.cell? w2 _ = some _ := HI.out.v1
  have cv2 : World.cell? w2 _ = some _ := HI.out.v2
  have gc0 : World.cell? w2 ⟨w.heap.size + 1 + 1, 0, none⟩ = some (.int .i64 0) := (blk_cell HI.out.2.2.1 0).trans rfl
  have gf0 := blk_frozen HI.out.2.2.1 0
  have gc1 : World.cell? w2 ⟨w.heap.size + 1 + 1, 1, none⟩ = some (.int .i64 0) := (blk_cell HI.out.2.2.1 1).trans rfl
  have gf1 := blk_frozen HI.out.2.2.1 1
  have gc2 : World.cell? w2 ⟨w.heap.size + 1 + 1, 2, none⟩ = some (.string (⟨#[]⟩ : ByteArray)) := (blk_cell HI.out.2.2.1 2).trans rfl
  have gf2 := blk_frozen HI.out.2.2.1 2
  go_wp2_with fail
  refine bodyPost_ret (v := .tuple #[.agg #[.int .i64 ((logicP u v (truthV (op == 3))).f0), .int .i64 ((logicP u v (truthV (op == 3))).f1), .string ((logicP u v (truthV (op == 3))).f2)], .int .i64 0]) (by simp [results, Try.results18, go_sem, gc0, gc1, gc2, V0]) rfl ⟨rfl, ?_⟩
  refine below_set3 ?_ (by omega) _ _ _ _ _ _
  repeat (first | (with_reducible exact HI.out.bel) | apply pw_below_drewN)
set_option maxHeartbeats 2000000 in
set_option maxRecDepth 100000 in
theorem refBinary.nullMA (op : Int) (u v : S25) (w : World) (kA : Nat) (HGA : Aside0 (quarryref02_goes.f kA op u.f0 = some true)) (kB : Nat) (HGB : Aside0 (quarryref02_goes.f kB op v.f0 = some true)) (l3 : 3 ≤ op) (l16 : op ≤ 16) (l5 : 5 ≤ op) (l10 : op ≤ 10) (a0 : u.f0 = 0) :
    Calls Try.prog 18 #[.int .i64 op, .agg #[.int .i64 u.f0, .int .i64 u.f1, .string u.f2], .agg #[.int .i64 v.f0, .int .i64 v.f1, .string v.f2]] w (fun e w' => e = .returned (.tuple #[.agg #[.int .i64 (0), .int .i64 (0), .string (V0)], .int .i64 0]) ∧ Below w.heap.size w w') := by
  have hu25 := Try.underlying25
  have q0 : decide (op < 3) = false := decide_eq_false (by omega)
  have q1 : decide (3 ≤ op) = true := decide_eq_true l3
  have q2 : decide (16 < op) = false := decide_eq_false (by omega)
  have q3 : decide (op ≤ 16) = true := decide_eq_true l16
  have q4 : decide (5 ≤ op) = true := decide_eq_true l5
  have q5 : decide (op ≤ 10) = true := decide_eq_true l10
  have q6 : decide (op ≤ 4) = false := decide_eq_false (by omega)
  have q7 : (u.f0 == 0) = true := beq_iff_eq.mpr a0
  have l3' := Aside0.mk l3
  have l16' := Aside0.mk l16
  have l5' := Aside0.mk l5
  have l10' := Aside0.mk l10
  have a0' := Aside0.mk a0
  clear l3 l16 l5 l10 a0
  go_enter Try.func18, Try.ntmps18
  go_upto_region 1 with fail
  refine at_world (fun w' => BR u v w w') BR.start (fun w1 hI => ?_)
  have HI := Aside0.mk hI
  clear hI
  have ca0 : World.cell? w1 _ = some _ := HI.out.a0
  have ca1 : World.cell? w1 _ = some _ := HI.out.a1
  have ca2 : World.cell? w1 _ = some _ := HI.out.a2
  have cv0 : World.cell? w1 _ = some _ := HI.out.v0
  have cv1 : World.cell? w1 _ = some _ := HI.out.v1
  have cv2 : World.cell? w1 _ = some _ := HI.out.v2
  have gc0 : World.cell? w1 ⟨w.heap.size + 1 + 1, 0, none⟩ = some (.int .i64 0) := (blk_cell HI.out.2.2.1 0).trans rfl
  have gf0 := blk_frozen HI.out.2.2.1 0
  have gc1 : World.cell? w1 ⟨w.heap.size + 1 + 1, 1, none⟩ = some (.int .i64 0) := (blk_cell HI.out.2.2.1 1).trans rfl
  have gf1 := blk_frozen HI.out.2.2.1 1
  have gc2 : World.cell? w1 ⟨w.heap.size + 1 + 1, 2, none⟩ = some (.string (⟨#[]⟩ : ByteArray)) := (blk_cell HI.out.2.2.1 2).trans rfl
  have gf2 := blk_frozen HI.out.2.2.1 2
  go_wp2_with (first | (go_at_call 47; (with_reducible refine (quarryref02_goes.calls kA op u.f0 true _ HGA.out).mono ?_); rintro e w' ⟨rfl, ⟨nd, rfl⟩⟩) | (go_at_call 47; (with_reducible refine (quarryref02_goes.calls kB op v.f0 true _ HGB.out).mono ?_); rintro e w' ⟨rfl, ⟨nd, rfl⟩⟩))
  refine bodyPost_ret (v := .tuple #[.agg #[.int .i64 (0), .int .i64 (0), .string (V0)], .int .i64 0]) (by simp [results, Try.results18, go_sem, gc0, gc1, gc2, V0]) rfl ⟨rfl, ?_⟩
  refine below_set3 ?_ (by omega) _ _ _ _ _ _
  repeat (first | (with_reducible exact HI.out.bel) | apply pw_below_drewN)
set_option maxHeartbeats 2000000 in
set_option maxRecDepth 100000 in
theorem refBinary.nullHA (op : Int) (u v : S25) (w : World) (kA : Nat) (HGA : Aside0 (quarryref02_goes.f kA op u.f0 = some true)) (kB : Nat) (HGB : Aside0 (quarryref02_goes.f kB op v.f0 = some true)) (l3 : 3 ≤ op) (l16 : op ≤ 16) (l10 : ¬ op ≤ 10) (a0 : u.f0 = 0) :
    Calls Try.prog 18 #[.int .i64 op, .agg #[.int .i64 u.f0, .int .i64 u.f1, .string u.f2], .agg #[.int .i64 v.f0, .int .i64 v.f1, .string v.f2]] w (fun e w' => e = .returned (.tuple #[.agg #[.int .i64 (0), .int .i64 (0), .string (V0)], .int .i64 0]) ∧ Below w.heap.size w w') := by
  have hu25 := Try.underlying25
  have q0 : decide (op < 3) = false := decide_eq_false (by omega)
  have q1 : decide (3 ≤ op) = true := decide_eq_true l3
  have q2 : decide (16 < op) = false := decide_eq_false (by omega)
  have q3 : decide (op ≤ 16) = true := decide_eq_true l16
  have q4 : decide (5 ≤ op) = true := decide_eq_true (by omega)
  have q5 : decide (op ≤ 10) = false := decide_eq_false l10
  have q6 : decide (op ≤ 4) = false := decide_eq_false (by omega)
  have q7 : (u.f0 == 0) = true := beq_iff_eq.mpr a0
  have l3' := Aside0.mk l3
  have l16' := Aside0.mk l16
  have l10' := Aside0.mk l10
  have a0' := Aside0.mk a0
  clear l3 l16 l10 a0
  go_enter Try.func18, Try.ntmps18
  go_upto_region 1 with fail
  refine at_world (fun w' => BR u v w w') BR.start (fun w1 hI => ?_)
  have HI := Aside0.mk hI
  clear hI
  have ca0 : World.cell? w1 _ = some _ := HI.out.a0
  have ca1 : World.cell? w1 _ = some _ := HI.out.a1
  have ca2 : World.cell? w1 _ = some _ := HI.out.a2
  have cv0 : World.cell? w1 _ = some _ := HI.out.v0
  have cv1 : World.cell? w1 _ = some _ := HI.out.v1
  have cv2 : World.cell? w1 _ = some _ := HI.out.v2
  have gc0 : World.cell? w1 ⟨w.heap.size + 1 + 1, 0, none⟩ = some (.int .i64 0) := (blk_cell HI.out.2.2.1 0).trans rfl
  have gf0 := blk_frozen HI.out.2.2.1 0
  have gc1 : World.cell? w1 ⟨w.heap.size + 1 + 1, 1, none⟩ = some (.int .i64 0) := (blk_cell HI.out.2.2.1 1).trans rfl
  have gf1 := blk_frozen HI.out.2.2.1 1
  have gc2 : World.cell? w1 ⟨w.heap.size + 1 + 1, 2, none⟩ = some (.string (⟨#[]⟩ : ByteArray)) := (blk_cell HI.out.2.2.1 2).trans rfl
  have gf2 := blk_frozen HI.out.2.2.1 2
  go_wp2_with (first | (go_at_call 47; (with_reducible refine (quarryref02_goes.calls kA op u.f0 true _ HGA.out).mono ?_); rintro e w' ⟨rfl, ⟨nd, rfl⟩⟩) | (go_at_call 47; (with_reducible refine (quarryref02_goes.calls kB op v.f0 true _ HGB.out).mono ?_); rintro e w' ⟨rfl, ⟨nd, rfl⟩⟩))
  refine bodyPost_ret (v := .tuple #[.agg #[.int .i64 (0), .int .i64 (0), .string (V0)], .int .i64 0]) (by simp [results, Try.results18, go_sem, gc0, gc1, gc2, V0]) rfl ⟨rfl, ?_⟩
  refine below_set3 ?_ (by omega) _ _ _ _ _ _
  repeat (first | (with_reducible exact HI.out.bel) | apply pw_below_drewN)
set_option maxHeartbeats 2000000 in
set_option maxRecDepth 100000 in
theorem refBinary.nullMB (op : Int) (u v : S25) (w : World) (kA : Nat) (HGA : Aside0 (quarryref02_goes.f kA op u.f0 = some true)) (kB : Nat) (HGB : Aside0 (quarryref02_goes.f kB op v.f0 = some true)) (l3 : 3 ≤ op) (l16 : op ≤ 16) (l5 : 5 ≤ op) (l10 : op ≤ 10) (a0 : ¬ u.f0 = 0) (z0 : v.f0 = 0) :
    Calls Try.prog 18 #[.int .i64 op, .agg #[.int .i64 u.f0, .int .i64 u.f1, .string u.f2], .agg #[.int .i64 v.f0, .int .i64 v.f1, .string v.f2]] w (fun e w' => e = .returned (.tuple #[.agg #[.int .i64 (0), .int .i64 (0), .string (V0)], .int .i64 0]) ∧ Below w.heap.size w w') := by
  have hu25 := Try.underlying25
  have q0 : decide (op < 3) = false := decide_eq_false (by omega)
  have q1 : decide (3 ≤ op) = true := decide_eq_true l3
  have q2 : decide (16 < op) = false := decide_eq_false (by omega)
  have q3 : decide (op ≤ 16) = true := decide_eq_true l16
  have q4 : decide (5 ≤ op) = true := decide_eq_true l5
  have q5 : decide (op ≤ 10) = true := decide_eq_true l10
  have q6 : decide (op ≤ 4) = false := decide_eq_false (by omega)
  have q7 : (u.f0 == 0) = false := beq_eq_false_iff_ne.mpr a0
  have q8 : (v.f0 == 0) = true := beq_iff_eq.mpr z0
  have l3' := Aside0.mk l3
  have l16' := Aside0.mk l16
  have l5' := Aside0.mk l5
  have l10' := Aside0.mk l10
  have a0' := Aside0.mk a0
  have z0' := Aside0.mk z0
  clear l3 l16 l5 l10 a0 z0
  go_enter Try.func18, Try.ntmps18
  go_upto_region 1 with fail
  refine at_world (fun w' => BR u v w w') BR.start (fun w1 hI => ?_)
  have HI := Aside0.mk hI
  clear hI
  have ca0 : World.cell? w1 _ = some _ := HI.out.a0
  have ca1 : World.cell? w1 _ = some _ := HI.out.a1
  have ca2 : World.cell? w1 _ = some _ := HI.out.a2
  have cv0 : World.cell? w1 _ = some _ := HI.out.v0
  have cv1 : World.cell? w1 _ = some _ := HI.out.v1
  have cv2 : World.cell? w1 _ = some _ := HI.out.v2
  have gc0 : World.cell? w1 ⟨w.heap.size + 1 + 1, 0, none⟩ = some (.int .i64 0) := (blk_cell HI.out.2.2.1 0).trans rfl
  have gf0 := blk_frozen HI.out.2.2.1 0
  have gc1 : World.cell? w1 ⟨w.heap.size + 1 + 1, 1, none⟩ = some (.int .i64 0) := (blk_cell HI.out.2.2.1 1).trans rfl
  have gf1 := blk_frozen HI.out.2.2.1 1
  have gc2 : World.cell? w1 ⟨w.heap.size + 1 + 1, 2, none⟩ = some (.string (⟨#[]⟩ : ByteArray)) := (blk_cell HI.out.2.2.1 2).trans rfl
  have gf2 := blk_frozen HI.out.2.2.1 2
  go_wp2_with (first | (go_at_call 47; (with_reducible refine (quarryref02_goes.calls kA op u.f0 true _ HGA.out).mono ?_); rintro e w' ⟨rfl, ⟨nd, rfl⟩⟩) | (go_at_call 47; (with_reducible refine (quarryref02_goes.calls kB op v.f0 true _ HGB.out).mono ?_); rintro e w' ⟨rfl, ⟨nd, rfl⟩⟩))
  refine bodyPost_ret (v := .tuple #[.agg #[.int .i64 (0), .int .i64 (0), .string (V0)], .int .i64 0]) (by simp [results, Try.results18, go_sem, gc0, gc1, gc2, V0]) rfl ⟨rfl, ?_⟩
  refine below_set3 ?_ (by omega) _ _ _ _ _ _
  repeat (first | (with_reducible exact HI.out.bel) | apply pw_below_drewN)
set_option maxHeartbeats 2000000 in
set_option maxRecDepth 100000 in
theorem refBinary.nullHB (op : Int) (u v : S25) (w : World) (kA : Nat) (HGA : Aside0 (quarryref02_goes.f kA op u.f0 = some true)) (kB : Nat) (HGB : Aside0 (quarryref02_goes.f kB op v.f0 = some true)) (l3 : 3 ≤ op) (l16 : op ≤ 16) (l10 : ¬ op ≤ 10) (a0 : ¬ u.f0 = 0) (z0 : v.f0 = 0) :
    Calls Try.prog 18 #[.int .i64 op, .agg #[.int .i64 u.f0, .int .i64 u.f1, .string u.f2], .agg #[.int .i64 v.f0, .int .i64 v.f1, .string v.f2]] w (fun e w' => e = .returned (.tuple #[.agg #[.int .i64 (0), .int .i64 (0), .string (V0)], .int .i64 0]) ∧ Below w.heap.size w w') := by
  have hu25 := Try.underlying25
  have q0 : decide (op < 3) = false := decide_eq_false (by omega)
  have q1 : decide (3 ≤ op) = true := decide_eq_true l3
  have q2 : decide (16 < op) = false := decide_eq_false (by omega)
  have q3 : decide (op ≤ 16) = true := decide_eq_true l16
  have q4 : decide (5 ≤ op) = true := decide_eq_true (by omega)
  have q5 : decide (op ≤ 10) = false := decide_eq_false l10
  have q6 : decide (op ≤ 4) = false := decide_eq_false (by omega)
  have q7 : (u.f0 == 0) = false := beq_eq_false_iff_ne.mpr a0
  have q8 : (v.f0 == 0) = true := beq_iff_eq.mpr z0
  have l3' := Aside0.mk l3
  have l16' := Aside0.mk l16
  have l10' := Aside0.mk l10
  have a0' := Aside0.mk a0
  have z0' := Aside0.mk z0
  clear l3 l16 l10 a0 z0
  go_enter Try.func18, Try.ntmps18
  go_upto_region 1 with fail
  refine at_world (fun w' => BR u v w w') BR.start (fun w1 hI => ?_)
  have HI := Aside0.mk hI
  clear hI
  have ca0 : World.cell? w1 _ = some _ := HI.out.a0
  have ca1 : World.cell? w1 _ = some _ := HI.out.a1
  have ca2 : World.cell? w1 _ = some _ := HI.out.a2
  have cv0 : World.cell? w1 _ = some _ := HI.out.v0
  have cv1 : World.cell? w1 _ = some _ := HI.out.v1
  have cv2 : World.cell? w1 _ = some _ := HI.out.v2
  have gc0 : World.cell? w1 ⟨w.heap.size + 1 + 1, 0, none⟩ = some (.int .i64 0) := (blk_cell HI.out.2.2.1 0).trans rfl
  have gf0 := blk_frozen HI.out.2.2.1 0
  have gc1 : World.cell? w1 ⟨w.heap.size + 1 + 1, 1, none⟩ = some (.int .i64 0) := (blk_cell HI.out.2.2.1 1).trans rfl
  have gf1 := blk_frozen HI.out.2.2.1 1
  have gc2 : World.cell? w1 ⟨w.heap.size + 1 + 1, 2, none⟩ = some (.string (⟨#[]⟩ : ByteArray)) := (blk_cell HI.out.2.2.1 2).trans rfl
  have gf2 := blk_frozen HI.out.2.2.1 2
  go_wp2_with (first | (go_at_call 47; (with_reducible refine (quarryref02_goes.calls kA op u.f0 true _ HGA.out).mono ?_); rintro e w' ⟨rfl, ⟨nd, rfl⟩⟩) | (go_at_call 47; (with_reducible refine (quarryref02_goes.calls kB op v.f0 true _ HGB.out).mono ?_); rintro e w' ⟨rfl, ⟨nd, rfl⟩⟩))
  refine bodyPost_ret (v := .tuple #[.agg #[.int .i64 (0), .int .i64 (0), .string (V0)], .int .i64 0]) (by simp [results, Try.results18, go_sem, gc0, gc1, gc2, V0]) rfl ⟨rfl, ?_⟩
  refine below_set3 ?_ (by omega) _ _ _ _ _ _
  repeat (first | (with_reducible exact HI.out.bel) | apply pw_below_drewN)
set_option maxHeartbeats 2000000 in
set_option maxRecDepth 100000 in
theorem refBinary.cmp (op : Int) (u v : S25) (w : World) (kA : Nat) (HGA : Aside0 (quarryref02_goes.f kA op u.f0 = some true)) (kB : Nat) (HGB : Aside0 (quarryref02_goes.f kB op v.f0 = some true)) (l3 : 3 ≤ op) (l16 : op ≤ 16) (l5 : 5 ≤ op) (l10 : op ≤ 10) (a0 : ¬ u.f0 = 0) (z0 : ¬ v.f0 = 0) (uv : u.f0 = v.f0) (HZ : Aside0 (u.f2.size ≤ 140737488351232)) :
    Calls Try.prog 18 #[.int .i64 op, .agg #[.int .i64 u.f0, .int .i64 u.f1, .string u.f2], .agg #[.int .i64 v.f0, .int .i64 v.f1, .string v.f2]] w (fun e w' => e = .returned (.tuple #[.agg #[.int .i64 ((truthV (holdsP op (cmpV u v))).f0), .int .i64 ((truthV (holdsP op (cmpV u v))).f1), .string ((truthV (holdsP op (cmpV u v))).f2)], .int .i64 0]) ∧ Below w.heap.size w w') := by
  have hu25 := Try.underlying25
  have q0 : decide (op < 3) = false := decide_eq_false (by omega)
  have q1 : decide (3 ≤ op) = true := decide_eq_true l3
  have q2 : decide (16 < op) = false := decide_eq_false (by omega)
  have q3 : decide (op ≤ 16) = true := decide_eq_true l16
  have q4 : decide (5 ≤ op) = true := decide_eq_true l5
  have q5 : decide (op ≤ 10) = true := decide_eq_true l10
  have q6 : decide (op ≤ 4) = false := decide_eq_false (by omega)
  have q7 : (u.f0 == 0) = false := beq_eq_false_iff_ne.mpr a0
  have q8 : (v.f0 == 0) = false := beq_eq_false_iff_ne.mpr z0
  have q9 : (u.f0 != v.f0) = false := bne_eq_false_iff_eq.mpr uv
  have q10 : (u.f0 == v.f0) = true := beq_iff_eq.mpr uv
  have l3' := Aside0.mk l3
  have l16' := Aside0.mk l16
  have l5' := Aside0.mk l5
  have l10' := Aside0.mk l10
  have a0' := Aside0.mk a0
  have z0' := Aside0.mk z0
  have uv' := Aside0.mk uv
  clear l3 l16 l5 l10 a0 z0 uv
  go_enter Try.func18, Try.ntmps18
  go_upto_region 1 with fail
  refine at_world (fun w' => BR u v w w') BR.start (fun w1 hI => ?_)
  have HI := Aside0.mk hI
  clear hI
  have ca0 : World.cell? w1 _ = some _ := HI.out.a0
  have ca1 : World.cell? w1 _ = some _ := HI.out.a1
  have ca2 : World.cell? w1 _ = some _ := HI.out.a2
  have cv0 : World.cell? w1 _ = some _ := HI.out.v0
  have cv1 : World.cell? w1 _ = some _ := HI.out.v1
  have cv2 : World.cell? w1 _ = some _ := HI.out.v2
  have gc0 : World.cell? w1 ⟨w.heap.size + 1 + 1, 0, none⟩ = some (.int .i64 0) := (blk_cell HI.out.2.2.1 0).trans rfl
  have gf0 := blk_frozen HI.out.2.2.1 0
  have gc1 : World.cell? w1 ⟨w.heap.size + 1 + 1, 1, none⟩ = some (.int .i64 0) := (blk_cell HI.out.2.2.1 1).trans rfl
  have gf1 := blk_frozen HI.out.2.2.1 1
  have gc2 : World.cell? w1 ⟨w.heap.size + 1 + 1, 2, none⟩ = some (.string (⟨#[]⟩ : ByteArray)) := (blk_cell HI.out.2.2.1 2).trans rfl
  have gf2 := blk_frozen HI.out.2.2.1 2
  go_wp2_with (first | (go_at_call 47; (with_reducible refine (quarryref02_goes.calls kA op u.f0 true _ HGA.out).mono ?_); rintro e w' ⟨rfl, ⟨nd, rfl⟩⟩) | (go_at_call 47; (with_reducible refine (quarryref02_goes.calls kB op v.f0 true _ HGB.out).mono ?_); rintro e w' ⟨rfl, ⟨nd, rfl⟩⟩))
  refine (compareR_calls u v HZ.out _).mono ?_
  rintro e w2 ⟨rfl, hb⟩
  have HJ : Aside0 (BR u v w w2) := ⟨BR.below (by repeat (first | exact HI.out | refine BR.drewN ?_ _)) hb⟩
  clear hb HI ca0 ca1 ca2 cv0 cv1 cv2 gc0 gc1 gc2 gf0 gf1 gf2
  have HI := HJ
  clear HJ
  have ca0 : World.cell? w2 _ = some _ := HI.out.a0
  have ca1 : World.cell? w2 _ = some _ := HI.out.a1
  have ca2 : World.cell? w2 _ = some _ := HI.out.a2
  have cv0 : World.cell? w2 _ = some _ := HI.out.v0
  have cv1 : World.cell? w2 _ = some _ := HI.out.v1
  have cv2 : World.cell? w2 _ = some _ := HI.out.v2
  have gc0 : World.cell? w2 ⟨w.heap.size + 1 + 1, 0, none⟩ = some (.int .i64 0) := (blk_cell HI.out.2.2.1 0).trans rfl
  have gf0 := blk_frozen HI.out.2.2.1 0
  have gc1 : World.cell? w2 ⟨w.heap.size + 1 + 1, 1, none⟩ = some (.int .i64 0) := (blk_cell HI.out.2.2.1 1).trans rfl
  have gf1 := blk_frozen HI.out.2.2.1 1
  have gc2 : World.cell? w2 ⟨w.heap.size + 1 + 1, 2, none⟩ = some (.string (⟨#[]⟩ : ByteArray)) := (blk_cell HI.out.2.2.1 2).trans rfl
  have gf2 := blk_frozen HI.out.2.2.1 2
  go_wp2_with fail
  refine (quarryref02_holds.calls op (cmpV u v) _ _ (holdsR_f op (cmpV u v))).mono ?_
  rintro e w' ⟨rfl, ⟨nd, rfl⟩⟩
  go_wp2_with fail
  refine (quarryref02_Truth.calls (holdsP op (cmpV u v)) _ _ _ _ (truthR_f (holdsP op (cmpV u v)))).mono ?_
  rintro e w2 ⟨rfl, hb⟩
  have HJ : Aside0 (BR u v w w2) := ⟨BR.below (by repeat (first | exact HI.out | refine BR.drewN ?_ _)) hb⟩
  clear hb HI ca0 ca1 ca2 cv0 cv1 cv2 gc0 gc1 gc2 gf0 gf1 gf2
  have HI := HJ
  clear HJ
  have ca0 : World.cell? w2 _ = some _ := HI.out.a0
  have ca1 : World.cell? w2 _ = some _ := HI.out.a1
  have ca2 : World.cell? w2 _ = some _ := HI.out.a2
  have cv0 : World.cell? w2 _ = some _ := HI.out.v0
  have cv1 : World.cell? w2 _ = some _ := HI.out.v1
  have cv2 : World.cell? w2 _ = some _ := HI.out.v2
  have gc0 : World.cell? w2 ⟨w.heap.size + 1 + 1, 0, none⟩ = some (.int .i64 0) := (blk_cell HI.out.2.2.1 0).trans rfl
  have gf0 := blk_frozen HI.out.2.2.1 0
  have gc1 : World.cell? w2 ⟨w.heap.size + 1 + 1, 1, none⟩ = some (.int .i64 0) := (blk_cell HI.out.2.2.1 1).trans rfl
  have gf1 := blk_frozen HI.out.2.2.1 1
  have gc2 : World.cell? w2 ⟨w.heap.size + 1 + 1, 2, none⟩ = some (.string (⟨#[]⟩ : ByteArray)) := (blk_cell HI.out.2.2.1 2).trans rfl
  have gf2 := blk_frozen HI.out.2.2.1 2
  go_wp2_with fail
  refine bodyPost_ret (v := .tuple #[.agg #[.int .i64 ((truthV (holdsP op (cmpV u v))).f0), .int .i64 ((truthV (holdsP op (cmpV u v))).f1), .string ((truthV (holdsP op (cmpV u v))).f2)], .int .i64 0]) (by simp [results, Try.results18, go_sem, gc0, gc1, gc2, V0]) rfl ⟨rfl, ?_⟩
  refine below_set3 ?_ (by omega) _ _ _ _ _ _
  repeat (first | (with_reducible exact HI.out.bel) | apply pw_below_drewN)
set_option maxHeartbeats 2000000 in
set_option maxRecDepth 100000 in
theorem refBinary.catA (op : Int) (u v : S25) (w : World) (kA : Nat) (HGA : Aside0 (quarryref02_goes.f kA op u.f0 = some true)) (kB : Nat) (HGB : Aside0 (quarryref02_goes.f kB op v.f0 = some true)) (l3 : 3 ≤ op) (l16 : op ≤ 16) (l10 : ¬ op ≤ 10) (a0 : ¬ u.f0 = 0) (z0 : ¬ v.f0 = 0) (o16 : op = 16) (hz : u.f2.size + v.f2.size < 9223372036854775808) (ha : 2048 < u.f2.size) :
    Calls Try.prog 18 #[.int .i64 op, .agg #[.int .i64 u.f0, .int .i64 u.f1, .string u.f2], .agg #[.int .i64 v.f0, .int .i64 v.f1, .string v.f2]] w (fun e w' => e = .returned (.tuple #[.agg #[.int .i64 (0), .int .i64 (0), .string (V0)], .int .i64 8]) ∧ Below w.heap.size w w') := by
  have hu25 := Try.underlying25
  have q0 : decide (op < 3) = false := decide_eq_false (by omega)
  have q1 : decide (3 ≤ op) = true := decide_eq_true l3
  have q2 : decide (16 < op) = false := decide_eq_false (by omega)
  have q3 : decide (op ≤ 16) = true := decide_eq_true l16
  have q4 : decide (5 ≤ op) = true := decide_eq_true (by omega)
  have q5 : decide (op ≤ 10) = false := decide_eq_false l10
  have q6 : decide (op ≤ 4) = false := decide_eq_false (by omega)
  have q7 : (u.f0 == 0) = false := beq_eq_false_iff_ne.mpr a0
  have q8 : (v.f0 == 0) = false := beq_eq_false_iff_ne.mpr z0
  have q9 : (op == 16) = true := beq_iff_eq.mpr o16
  have q10 : decide (2048 < (u.f2.size : Int)) = true := decide_eq_true (by omega)
  have q11 : decide (2048 < u.f2.size) = true := decide_eq_true (by omega)
  have l3' := Aside0.mk l3
  have l16' := Aside0.mk l16
  have l10' := Aside0.mk l10
  have a0' := Aside0.mk a0
  have z0' := Aside0.mk z0
  have o16' := Aside0.mk o16
  have hz' := Aside0.mk hz
  have ha' := Aside0.mk ha
  clear l3 l16 l10 a0 z0 o16 hz ha
  go_enter Try.func18, Try.ntmps18
  go_upto_region 1 with fail
  refine at_world (fun w' => BR u v w w') BR.start (fun w1 hI => ?_)
  have HI := Aside0.mk hI
  clear hI
  have ca0 : World.cell? w1 _ = some _ := HI.out.a0
  have ca1 : World.cell? w1 _ = some _ := HI.out.a1
  have ca2 : World.cell? w1 _ = some _ := HI.out.a2
  have cv0 : World.cell? w1 _ = some _ := HI.out.v0
  have cv1 : World.cell? w1 _ = some _ := HI.out.v1
  have cv2 : World.cell? w1 _ = some _ := HI.out.v2
  have gc0 : World.cell? w1 ⟨w.heap.size + 1 + 1, 0, none⟩ = some (.int .i64 0) := (blk_cell HI.out.2.2.1 0).trans rfl
  have gf0 := blk_frozen HI.out.2.2.1 0
  have gc1 : World.cell? w1 ⟨w.heap.size + 1 + 1, 1, none⟩ = some (.int .i64 0) := (blk_cell HI.out.2.2.1 1).trans rfl
  have gf1 := blk_frozen HI.out.2.2.1 1
  have gc2 : World.cell? w1 ⟨w.heap.size + 1 + 1, 2, none⟩ = some (.string (⟨#[]⟩ : ByteArray)) := (blk_cell HI.out.2.2.1 2).trans rfl
  have gf2 := blk_frozen HI.out.2.2.1 2
  go_wp2_with (first | (go_at_call 47; (with_reducible refine (quarryref02_goes.calls kA op u.f0 true _ HGA.out).mono ?_); rintro e w' ⟨rfl, ⟨nd, rfl⟩⟩) | (go_at_call 47; (with_reducible refine (quarryref02_goes.calls kB op v.f0 true _ HGB.out).mono ?_); rintro e w' ⟨rfl, ⟨nd, rfl⟩⟩))
  refine bodyPost_ret (v := .tuple #[.agg #[.int .i64 (0), .int .i64 (0), .string (V0)], .int .i64 8]) (by simp [results, Try.results18, go_sem, gc0, gc1, gc2, V0]) rfl ⟨rfl, ?_⟩
  refine below_set3 ?_ (by omega) _ _ _ _ _ _
  repeat (first | (with_reducible exact HI.out.bel) | apply pw_below_drewN)
set_option maxHeartbeats 2000000 in
set_option maxRecDepth 100000 in
theorem refBinary.catB (op : Int) (u v : S25) (w : World) (kA : Nat) (HGA : Aside0 (quarryref02_goes.f kA op u.f0 = some true)) (kB : Nat) (HGB : Aside0 (quarryref02_goes.f kB op v.f0 = some true)) (l3 : 3 ≤ op) (l16 : op ≤ 16) (l10 : ¬ op ≤ 10) (a0 : ¬ u.f0 = 0) (z0 : ¬ v.f0 = 0) (o16 : op = 16) (hz : u.f2.size + v.f2.size < 9223372036854775808) (ha : ¬ 2048 < u.f2.size) (hs : ¬ u.f2.size + v.f2.size ≤ 2048) :
    Calls Try.prog 18 #[.int .i64 op, .agg #[.int .i64 u.f0, .int .i64 u.f1, .string u.f2], .agg #[.int .i64 v.f0, .int .i64 v.f1, .string v.f2]] w (fun e w' => e = .returned (.tuple #[.agg #[.int .i64 (0), .int .i64 (0), .string (V0)], .int .i64 8]) ∧ Below w.heap.size w w') := by
  have hu25 := Try.underlying25
  have q0 : decide (op < 3) = false := decide_eq_false (by omega)
  have q1 : decide (3 ≤ op) = true := decide_eq_true l3
  have q2 : decide (16 < op) = false := decide_eq_false (by omega)
  have q3 : decide (op ≤ 16) = true := decide_eq_true l16
  have q4 : decide (5 ≤ op) = true := decide_eq_true (by omega)
  have q5 : decide (op ≤ 10) = false := decide_eq_false l10
  have q6 : decide (op ≤ 4) = false := decide_eq_false (by omega)
  have q7 : (u.f0 == 0) = false := beq_eq_false_iff_ne.mpr a0
  have q8 : (v.f0 == 0) = false := beq_eq_false_iff_ne.mpr z0
  have q9 : (op == 16) = true := beq_iff_eq.mpr o16
  have q10 : decide (2048 < (u.f2.size : Int)) = false := decide_eq_false (by omega)
  have q11 : decide (2048 < u.f2.size) = false := decide_eq_false (by omega)
  have hw : wrap64 (2048 - (u.f2.size : Int)) = 2048 - (u.f2.size : Int) := by unfold wrap64; omega
  have q13 : decide (2048 - (u.f2.size : Int) < (v.f2.size : Int)) = true := decide_eq_true (by omega)
  have l3' := Aside0.mk l3
  have l16' := Aside0.mk l16
  have l10' := Aside0.mk l10
  have a0' := Aside0.mk a0
  have z0' := Aside0.mk z0
  have o16' := Aside0.mk o16
  have hz' := Aside0.mk hz
  have ha' := Aside0.mk ha
  have hs' := Aside0.mk hs
  clear l3 l16 l10 a0 z0 o16 hz ha hs
  go_enter Try.func18, Try.ntmps18
  go_upto_region 1 with fail
  refine at_world (fun w' => BR u v w w') BR.start (fun w1 hI => ?_)
  have HI := Aside0.mk hI
  clear hI
  have ca0 : World.cell? w1 _ = some _ := HI.out.a0
  have ca1 : World.cell? w1 _ = some _ := HI.out.a1
  have ca2 : World.cell? w1 _ = some _ := HI.out.a2
  have cv0 : World.cell? w1 _ = some _ := HI.out.v0
  have cv1 : World.cell? w1 _ = some _ := HI.out.v1
  have cv2 : World.cell? w1 _ = some _ := HI.out.v2
  have gc0 : World.cell? w1 ⟨w.heap.size + 1 + 1, 0, none⟩ = some (.int .i64 0) := (blk_cell HI.out.2.2.1 0).trans rfl
  have gf0 := blk_frozen HI.out.2.2.1 0
  have gc1 : World.cell? w1 ⟨w.heap.size + 1 + 1, 1, none⟩ = some (.int .i64 0) := (blk_cell HI.out.2.2.1 1).trans rfl
  have gf1 := blk_frozen HI.out.2.2.1 1
  have gc2 : World.cell? w1 ⟨w.heap.size + 1 + 1, 2, none⟩ = some (.string (⟨#[]⟩ : ByteArray)) := (blk_cell HI.out.2.2.1 2).trans rfl
  have gf2 := blk_frozen HI.out.2.2.1 2
  go_wp2_with (first | (go_at_call 47; (with_reducible refine (quarryref02_goes.calls kA op u.f0 true _ HGA.out).mono ?_); rintro e w' ⟨rfl, ⟨nd, rfl⟩⟩) | (go_at_call 47; (with_reducible refine (quarryref02_goes.calls kB op v.f0 true _ HGB.out).mono ?_); rintro e w' ⟨rfl, ⟨nd, rfl⟩⟩))
  refine bodyPost_ret (v := .tuple #[.agg #[.int .i64 (0), .int .i64 (0), .string (V0)], .int .i64 8]) (by simp [results, Try.results18, go_sem, gc0, gc1, gc2, V0]) rfl ⟨rfl, ?_⟩
  refine below_set3 ?_ (by omega) _ _ _ _ _ _
  repeat (first | (with_reducible exact HI.out.bel) | apply pw_below_drewN)
set_option maxHeartbeats 2000000 in
set_option maxRecDepth 100000 in
theorem refBinary.cat (op : Int) (u v : S25) (w : World) (kA : Nat) (HGA : Aside0 (quarryref02_goes.f kA op u.f0 = some true)) (kB : Nat) (HGB : Aside0 (quarryref02_goes.f kB op v.f0 = some true)) (l3 : 3 ≤ op) (l16 : op ≤ 16) (l10 : ¬ op ≤ 10) (a0 : ¬ u.f0 = 0) (z0 : ¬ v.f0 = 0) (o16 : op = 16) (hz : u.f2.size + v.f2.size < 9223372036854775808) (hs : u.f2.size + v.f2.size ≤ 2048) :
    Calls Try.prog 18 #[.int .i64 op, .agg #[.int .i64 u.f0, .int .i64 u.f1, .string u.f2], .agg #[.int .i64 v.f0, .int .i64 v.f1, .string v.f2]] w (fun e w' => e = .returned (.tuple #[.agg #[.int .i64 (3), .int .i64 (0), .string (u.f2 ++ v.f2)], .int .i64 0]) ∧ Below w.heap.size w w') := by
  have hu25 := Try.underlying25
  have q0 : decide (op < 3) = false := decide_eq_false (by omega)
  have q1 : decide (3 ≤ op) = true := decide_eq_true l3
  have q2 : decide (16 < op) = false := decide_eq_false (by omega)
  have q3 : decide (op ≤ 16) = true := decide_eq_true l16
  have q4 : decide (5 ≤ op) = true := decide_eq_true (by omega)
  have q5 : decide (op ≤ 10) = false := decide_eq_false l10
  have q6 : decide (op ≤ 4) = false := decide_eq_false (by omega)
  have q7 : (u.f0 == 0) = false := beq_eq_false_iff_ne.mpr a0
  have q8 : (v.f0 == 0) = false := beq_eq_false_iff_ne.mpr z0
  have q9 : (op == 16) = true := beq_iff_eq.mpr o16
  have q10 : decide (2048 < (u.f2.size : Int)) = false := decide_eq_false (by omega)
  have q11 : decide (2048 < u.f2.size) = false := decide_eq_false (by omega)
  have hw : wrap64 (2048 - (u.f2.size : Int)) = 2048 - (u.f2.size : Int) := by unfold wrap64; omega
  have q13 : decide (2048 - (u.f2.size : Int) < (v.f2.size : Int)) = false := decide_eq_false (by omega)
  have hcat : ¬ (9223372036854775807 < u.f2.size + v.f2.size) := by omega
  have l3' := Aside0.mk l3
  have l16' := Aside0.mk l16
  have l10' := Aside0.mk l10
  have a0' := Aside0.mk a0
  have z0' := Aside0.mk z0
  have o16' := Aside0.mk o16
  have hz' := Aside0.mk hz
  have hs' := Aside0.mk hs
  clear l3 l16 l10 a0 z0 o16 hz hs
  go_enter Try.func18, Try.ntmps18
  go_upto_region 1 with fail
  refine at_world (fun w' => BR u v w w') BR.start (fun w1 hI => ?_)
  have HI := Aside0.mk hI
  clear hI
  have ca0 : World.cell? w1 _ = some _ := HI.out.a0
  have ca1 : World.cell? w1 _ = some _ := HI.out.a1
  have ca2 : World.cell? w1 _ = some _ := HI.out.a2
  have cv0 : World.cell? w1 _ = some _ := HI.out.v0
  have cv1 : World.cell? w1 _ = some _ := HI.out.v1
  have cv2 : World.cell? w1 _ = some _ := HI.out.v2
  have gc0 : World.cell? w1 ⟨w.heap.size + 1 + 1, 0, none⟩ = some (.int .i64 0) := (blk_cell HI.out.2.2.1 0).trans rfl
  have gf0 := blk_frozen HI.out.2.2.1 0
  have gc1 : World.cell? w1 ⟨w.heap.size + 1 + 1, 1, none⟩ = some (.int .i64 0) := (blk_cell HI.out.2.2.1 1).trans rfl
  have gf1 := blk_frozen HI.out.2.2.1 1
  have gc2 : World.cell? w1 ⟨w.heap.size + 1 + 1, 2, none⟩ = some (.string (⟨#[]⟩ : ByteArray)) := (blk_cell HI.out.2.2.1 2).trans rfl
  have gf2 := blk_frozen HI.out.2.2.1 2
  go_wp2_with (first | (go_at_call 47; (with_reducible refine (quarryref02_goes.calls kA op u.f0 true _ HGA.out).mono ?_); rintro e w' ⟨rfl, ⟨nd, rfl⟩⟩) | (go_at_call 47; (with_reducible refine (quarryref02_goes.calls kB op v.f0 true _ HGB.out).mono ?_); rintro e w' ⟨rfl, ⟨nd, rfl⟩⟩))
  refine (quarryref02_text.calls (u.f2 ++ v.f2) _ _ _ _ (show quarryref02_text.f (u.f2 ++ v.f2) = some (3, 0, u.f2 ++ v.f2) from rfl)).mono ?_
  rintro e w2 ⟨rfl, hb⟩
  have HJ : Aside0 (BR u v w w2) := ⟨BR.below (by repeat (first | exact HI.out | refine BR.drewN ?_ _)) hb⟩
  clear hb HI ca0 ca1 ca2 cv0 cv1 cv2 gc0 gc1 gc2 gf0 gf1 gf2
  have HI := HJ
  clear HJ
  have ca0 : World.cell? w2 _ = some _ := HI.out.a0
  have ca1 : World.cell? w2 _ = some _ := HI.out.a1
  have ca2 : World.cell? w2 _ = some _ := HI.out.a2
  have cv0 : World.cell? w2 _ = some _ := HI.out.v0
  have cv1 : World.cell? w2 _ = some _ := HI.out.v1
  have cv2 : World.cell? w2 _ = some _ := HI.out.v2
  have gc0 : World.cell? w2 ⟨w.heap.size + 1 + 1, 0, none⟩ = some (.int .i64 0) := (blk_cell HI.out.2.2.1 0).trans rfl
  have gf0 := blk_frozen HI.out.2.2.1 0
  have gc1 : World.cell? w2 ⟨w.heap.size + 1 + 1, 1, none⟩ = some (.int .i64 0) := (blk_cell HI.out.2.2.1 1).trans rfl
  have gf1 := blk_frozen HI.out.2.2.1 1
  have gc2 : World.cell? w2 ⟨w.heap.size + 1 + 1, 2, none⟩ = some (.string (⟨#[]⟩ : ByteArray)) := (blk_cell HI.out.2.2.1 2).trans rfl
  have gf2 := blk_frozen HI.out.2.2.1 2
  go_wp2_with fail
  refine bodyPost_ret (v := .tuple #[.agg #[.int .i64 (3), .int .i64 (0), .string (u.f2 ++ v.f2)], .int .i64 0]) (by simp [results, Try.results18, go_sem, gc0, gc1, gc2, V0]) rfl ⟨rfl, ?_⟩
  refine below_set3 ?_ (by omega) _ _ _ _ _ _
  repeat (first | (with_reducible exact HI.out.bel) | apply pw_below_drewN)
set_option maxHeartbeats 2000000 in
set_option maxRecDepth 100000 in
theorem refBinary.zero (op : Int) (u v : S25) (w : World) (kA : Nat) (HGA : Aside0 (quarryref02_goes.f kA op u.f0 = some true)) (kB : Nat) (HGB : Aside0 (quarryref02_goes.f kB op v.f0 = some true)) (l3 : 3 ≤ op) (l16 : op ≤ 16) (l10 : ¬ op ≤ 10) (a0 : ¬ u.f0 = 0) (z0 : ¬ v.f0 = 0) (o16 : ¬ op = 16) (l14 : 14 ≤ op) (hb : v.f1 = 0) :
    Calls Try.prog 18 #[.int .i64 op, .agg #[.int .i64 u.f0, .int .i64 u.f1, .string u.f2], .agg #[.int .i64 v.f0, .int .i64 v.f1, .string v.f2]] w (fun e w' => e = .returned (.tuple #[.agg #[.int .i64 (0), .int .i64 (0), .string (V0)], .int .i64 41]) ∧ Below w.heap.size w w') := by
  have hu25 := Try.underlying25
  have q0 : decide (op < 3) = false := decide_eq_false (by omega)
  have q1 : decide (3 ≤ op) = true := decide_eq_true l3
  have q2 : decide (16 < op) = false := decide_eq_false (by omega)
  have q3 : decide (op ≤ 16) = true := decide_eq_true l16
  have q4 : decide (5 ≤ op) = true := decide_eq_true (by omega)
  have q5 : decide (op ≤ 10) = false := decide_eq_false l10
  have q6 : decide (op ≤ 4) = false := decide_eq_false (by omega)
  have q7 : (u.f0 == 0) = false := beq_eq_false_iff_ne.mpr a0
  have q8 : (v.f0 == 0) = false := beq_eq_false_iff_ne.mpr z0
  have q9 : (op == 16) = false := beq_eq_false_iff_ne.mpr o16
  have q10 : decide (14 ≤ op) = true := decide_eq_true l14
  have q11 : (v.f1 == 0) = true := beq_iff_eq.mpr hb
  have l3' := Aside0.mk l3
  have l16' := Aside0.mk l16
  have l10' := Aside0.mk l10
  have a0' := Aside0.mk a0
  have z0' := Aside0.mk z0
  have o16' := Aside0.mk o16
  have l14' := Aside0.mk l14
  have hb' := Aside0.mk hb
  clear l3 l16 l10 a0 z0 o16 l14 hb
  go_enter Try.func18, Try.ntmps18
  go_upto_region 1 with fail
  refine at_world (fun w' => BR u v w w') BR.start (fun w1 hI => ?_)
  have HI := Aside0.mk hI
  clear hI
  have ca0 : World.cell? w1 _ = some _ := HI.out.a0
  have ca1 : World.cell? w1 _ = some _ := HI.out.a1
  have ca2 : World.cell? w1 _ = some _ := HI.out.a2
  have cv0 : World.cell? w1 _ = some _ := HI.out.v0
  have cv1 : World.cell? w1 _ = some _ := HI.out.v1
  have cv2 : World.cell? w1 _ = some _ := HI.out.v2
  have gc0 : World.cell? w1 ⟨w.heap.size + 1 + 1, 0, none⟩ = some (.int .i64 0) := (blk_cell HI.out.2.2.1 0).trans rfl
  have gf0 := blk_frozen HI.out.2.2.1 0
  have gc1 : World.cell? w1 ⟨w.heap.size + 1 + 1, 1, none⟩ = some (.int .i64 0) := (blk_cell HI.out.2.2.1 1).trans rfl
  have gf1 := blk_frozen HI.out.2.2.1 1
  have gc2 : World.cell? w1 ⟨w.heap.size + 1 + 1, 2, none⟩ = some (.string (⟨#[]⟩ : ByteArray)) := (blk_cell HI.out.2.2.1 2).trans rfl
  have gf2 := blk_frozen HI.out.2.2.1 2
  go_wp2_with (first | (go_at_call 47; (with_reducible refine (quarryref02_goes.calls kA op u.f0 true _ HGA.out).mono ?_); rintro e w' ⟨rfl, ⟨nd, rfl⟩⟩) | (go_at_call 47; (with_reducible refine (quarryref02_goes.calls kB op v.f0 true _ HGB.out).mono ?_); rintro e w' ⟨rfl, ⟨nd, rfl⟩⟩))
  refine bodyPost_ret (v := .tuple #[.agg #[.int .i64 (0), .int .i64 (0), .string (V0)], .int .i64 41]) (by simp [results, Try.results18, go_sem, gc0, gc1, gc2, V0]) rfl ⟨rfl, ?_⟩
  refine below_set3 ?_ (by omega) _ _ _ _ _ _
  repeat (first | (with_reducible exact HI.out.bel) | apply pw_below_drewN)
set_option maxHeartbeats 2000000 in
set_option maxRecDepth 100000 in
theorem refBinary.num0 (op : Int) (u v : S25) (w : World) (kA : Nat) (HGA : Aside0 (quarryref02_goes.f kA op u.f0 = some true)) (kB : Nat) (HGB : Aside0 (quarryref02_goes.f kB op v.f0 = some true)) (l3 : 3 ≤ op) (l16 : op ≤ 16) (l10 : ¬ op ≤ 10) (a0 : ¬ u.f0 = 0) (z0 : ¬ v.f0 = 0) (o16 : ¬ op = 16) (l14 : ¬ 14 ≤ op) (k : Nat) (n : Int) (HN : Aside0 (quarryref02_sum.f k op u.f1 v.f1 = some (n, true))) :
    Calls Try.prog 18 #[.int .i64 op, .agg #[.int .i64 u.f0, .int .i64 u.f1, .string u.f2], .agg #[.int .i64 v.f0, .int .i64 v.f1, .string v.f2]] w (fun e w' => e = .returned (.tuple #[.agg #[.int .i64 (2), .int .i64 (n), .string (V0)], .int .i64 0]) ∧ Below w.heap.size w w') := by
  have hu25 := Try.underlying25
  have q0 : decide (op < 3) = false := decide_eq_false (by omega)
  have q1 : decide (3 ≤ op) = true := decide_eq_true l3
  have q2 : decide (16 < op) = false := decide_eq_false (by omega)
  have q3 : decide (op ≤ 16) = true := decide_eq_true l16
  have q4 : decide (5 ≤ op) = true := decide_eq_true (by omega)
  have q5 : decide (op ≤ 10) = false := decide_eq_false l10
  have q6 : decide (op ≤ 4) = false := decide_eq_false (by omega)
  have q7 : (u.f0 == 0) = false := beq_eq_false_iff_ne.mpr a0
  have q8 : (v.f0 == 0) = false := beq_eq_false_iff_ne.mpr z0
  have q9 : (op == 16) = false := beq_eq_false_iff_ne.mpr o16
  have q10 : decide (14 ≤ op) = false := decide_eq_false l14
  have l3' := Aside0.mk l3
  have l16' := Aside0.mk l16
  have l10' := Aside0.mk l10
  have a0' := Aside0.mk a0
  have z0' := Aside0.mk z0
  have o16' := Aside0.mk o16
  have l14' := Aside0.mk l14
  clear l3 l16 l10 a0 z0 o16 l14
  go_enter Try.func18, Try.ntmps18
  go_upto_region 1 with fail
  refine at_world (fun w' => BR u v w w') BR.start (fun w1 hI => ?_)
  have HI := Aside0.mk hI
  clear hI
  have ca0 : World.cell? w1 _ = some _ := HI.out.a0
  have ca1 : World.cell? w1 _ = some _ := HI.out.a1
  have ca2 : World.cell? w1 _ = some _ := HI.out.a2
  have cv0 : World.cell? w1 _ = some _ := HI.out.v0
  have cv1 : World.cell? w1 _ = some _ := HI.out.v1
  have cv2 : World.cell? w1 _ = some _ := HI.out.v2
  have gc0 : World.cell? w1 ⟨w.heap.size + 1 + 1, 0, none⟩ = some (.int .i64 0) := (blk_cell HI.out.2.2.1 0).trans rfl
  have gf0 := blk_frozen HI.out.2.2.1 0
  have gc1 : World.cell? w1 ⟨w.heap.size + 1 + 1, 1, none⟩ = some (.int .i64 0) := (blk_cell HI.out.2.2.1 1).trans rfl
  have gf1 := blk_frozen HI.out.2.2.1 1
  have gc2 : World.cell? w1 ⟨w.heap.size + 1 + 1, 2, none⟩ = some (.string (⟨#[]⟩ : ByteArray)) := (blk_cell HI.out.2.2.1 2).trans rfl
  have gf2 := blk_frozen HI.out.2.2.1 2
  go_wp2_with (first | (go_at_call 47; (with_reducible refine (quarryref02_goes.calls kA op u.f0 true _ HGA.out).mono ?_); rintro e w' ⟨rfl, ⟨nd, rfl⟩⟩) | (go_at_call 47; (with_reducible refine (quarryref02_goes.calls kB op v.f0 true _ HGB.out).mono ?_); rintro e w' ⟨rfl, ⟨nd, rfl⟩⟩))
  refine (quarryref02_sum.calls k op u.f1 v.f1 n true _ HN.out).mono ?_
  rintro e w' ⟨rfl, ⟨nd, rfl⟩⟩
  go_wp2_with fail
  refine (quarryref02_Number.calls n _ _ _ _ (show quarryref02_Number.f n = some (2, n, V0) from rfl)).mono ?_
  rintro e w2 ⟨rfl, hb⟩
  have HJ : Aside0 (BR u v w w2) := ⟨BR.below (by repeat (first | exact HI.out | refine BR.drewN ?_ _)) hb⟩
  clear hb HI ca0 ca1 ca2 cv0 cv1 cv2 gc0 gc1 gc2 gf0 gf1 gf2
  have HI := HJ
  clear HJ
  have ca0 : World.cell? w2 _ = some _ := HI.out.a0
  have ca1 : World.cell? w2 _ = some _ := HI.out.a1
  have ca2 : World.cell? w2 _ = some _ := HI.out.a2
  have cv0 : World.cell? w2 _ = some _ := HI.out.v0
  have cv1 : World.cell? w2 _ = some _ := HI.out.v1
  have cv2 : World.cell? w2 _ = some _ := HI.out.v2
  have gc0 : World.cell? w2 ⟨w.heap.size + 1 + 1, 0, none⟩ = some (.int .i64 0) := (blk_cell HI.out.2.2.1 0).trans rfl
  have gf0 := blk_frozen HI.out.2.2.1 0
  have gc1 : World.cell? w2 ⟨w.heap.size + 1 + 1, 1, none⟩ = some (.int .i64 0) := (blk_cell HI.out.2.2.1 1).trans rfl
  have gf1 := blk_frozen HI.out.2.2.1 1
  have gc2 : World.cell? w2 ⟨w.heap.size + 1 + 1, 2, none⟩ = some (.string (⟨#[]⟩ : ByteArray)) := (blk_cell HI.out.2.2.1 2).trans rfl
  have gf2 := blk_frozen HI.out.2.2.1 2
  go_wp2_with fail
  refine bodyPost_ret (v := .tuple #[.agg #[.int .i64 (2), .int .i64 (n), .string (V0)], .int .i64 0]) (by simp [results, Try.results18, go_sem, gc0, gc1, gc2, V0]) rfl ⟨rfl, ?_⟩
  refine below_set3 ?_ (by omega) _ _ _ _ _ _
  repeat (first | (with_reducible exact HI.out.bel) | apply pw_below_drewN)
set_option maxHeartbeats 2000000 in
set_option maxRecDepth 100000 in
theorem refBinary.over0 (op : Int) (u v : S25) (w : World) (kA : Nat) (HGA : Aside0 (quarryref02_goes.f kA op u.f0 = some true)) (kB : Nat) (HGB : Aside0 (quarryref02_goes.f kB op v.f0 = some true)) (l3 : 3 ≤ op) (l16 : op ≤ 16) (l10 : ¬ op ≤ 10) (a0 : ¬ u.f0 = 0) (z0 : ¬ v.f0 = 0) (o16 : ¬ op = 16) (l14 : ¬ 14 ≤ op) (k : Nat) (n : Int) (HN : Aside0 (quarryref02_sum.f k op u.f1 v.f1 = some (n, false))) :
    Calls Try.prog 18 #[.int .i64 op, .agg #[.int .i64 u.f0, .int .i64 u.f1, .string u.f2], .agg #[.int .i64 v.f0, .int .i64 v.f1, .string v.f2]] w (fun e w' => e = .returned (.tuple #[.agg #[.int .i64 (0), .int .i64 (0), .string (V0)], .int .i64 40]) ∧ Below w.heap.size w w') := by
  have hu25 := Try.underlying25
  have q0 : decide (op < 3) = false := decide_eq_false (by omega)
  have q1 : decide (3 ≤ op) = true := decide_eq_true l3
  have q2 : decide (16 < op) = false := decide_eq_false (by omega)
  have q3 : decide (op ≤ 16) = true := decide_eq_true l16
  have q4 : decide (5 ≤ op) = true := decide_eq_true (by omega)
  have q5 : decide (op ≤ 10) = false := decide_eq_false l10
  have q6 : decide (op ≤ 4) = false := decide_eq_false (by omega)
  have q7 : (u.f0 == 0) = false := beq_eq_false_iff_ne.mpr a0
  have q8 : (v.f0 == 0) = false := beq_eq_false_iff_ne.mpr z0
  have q9 : (op == 16) = false := beq_eq_false_iff_ne.mpr o16
  have q10 : decide (14 ≤ op) = false := decide_eq_false l14
  have l3' := Aside0.mk l3
  have l16' := Aside0.mk l16
  have l10' := Aside0.mk l10
  have a0' := Aside0.mk a0
  have z0' := Aside0.mk z0
  have o16' := Aside0.mk o16
  have l14' := Aside0.mk l14
  clear l3 l16 l10 a0 z0 o16 l14
  go_enter Try.func18, Try.ntmps18
  go_upto_region 1 with fail
  refine at_world (fun w' => BR u v w w') BR.start (fun w1 hI => ?_)
  have HI := Aside0.mk hI
  clear hI
  have ca0 : World.cell? w1 _ = some _ := HI.out.a0
  have ca1 : World.cell? w1 _ = some _ := HI.out.a1
  have ca2 : World.cell? w1 _ = some _ := HI.out.a2
  have cv0 : World.cell? w1 _ = some _ := HI.out.v0
  have cv1 : World.cell? w1 _ = some _ := HI.out.v1
  have cv2 : World.cell? w1 _ = some _ := HI.out.v2
  have gc0 : World.cell? w1 ⟨w.heap.size + 1 + 1, 0, none⟩ = some (.int .i64 0) := (blk_cell HI.out.2.2.1 0).trans rfl
  have gf0 := blk_frozen HI.out.2.2.1 0
  have gc1 : World.cell? w1 ⟨w.heap.size + 1 + 1, 1, none⟩ = some (.int .i64 0) := (blk_cell HI.out.2.2.1 1).trans rfl
  have gf1 := blk_frozen HI.out.2.2.1 1
  have gc2 : World.cell? w1 ⟨w.heap.size + 1 + 1, 2, none⟩ = some (.string (⟨#[]⟩ : ByteArray)) := (blk_cell HI.out.2.2.1 2).trans rfl
  have gf2 := blk_frozen HI.out.2.2.1 2
  go_wp2_with (first | (go_at_call 47; (with_reducible refine (quarryref02_goes.calls kA op u.f0 true _ HGA.out).mono ?_); rintro e w' ⟨rfl, ⟨nd, rfl⟩⟩) | (go_at_call 47; (with_reducible refine (quarryref02_goes.calls kB op v.f0 true _ HGB.out).mono ?_); rintro e w' ⟨rfl, ⟨nd, rfl⟩⟩))
  refine (quarryref02_sum.calls k op u.f1 v.f1 n false _ HN.out).mono ?_
  rintro e w' ⟨rfl, ⟨nd, rfl⟩⟩
  go_wp2_with fail
  refine bodyPost_ret (v := .tuple #[.agg #[.int .i64 (0), .int .i64 (0), .string (V0)], .int .i64 40]) (by simp [results, Try.results18, go_sem, gc0, gc1, gc2, V0]) rfl ⟨rfl, ?_⟩
  refine below_set3 ?_ (by omega) _ _ _ _ _ _
  repeat (first | (with_reducible exact HI.out.bel) | apply pw_below_drewN)
set_option maxHeartbeats 2000000 in
set_option maxRecDepth 100000 in
theorem refBinary.num1 (op : Int) (u v : S25) (w : World) (kA : Nat) (HGA : Aside0 (quarryref02_goes.f kA op u.f0 = some true)) (kB : Nat) (HGB : Aside0 (quarryref02_goes.f kB op v.f0 = some true)) (l3 : 3 ≤ op) (l16 : op ≤ 16) (l10 : ¬ op ≤ 10) (a0 : ¬ u.f0 = 0) (z0 : ¬ v.f0 = 0) (o16 : ¬ op = 16) (l14 : 14 ≤ op) (hb : ¬ v.f1 = 0) (k : Nat) (n : Int) (HN : Aside0 (quarryref02_sum.f k op u.f1 v.f1 = some (n, true))) :
    Calls Try.prog 18 #[.int .i64 op, .agg #[.int .i64 u.f0, .int .i64 u.f1, .string u.f2], .agg #[.int .i64 v.f0, .int .i64 v.f1, .string v.f2]] w (fun e w' => e = .returned (.tuple #[.agg #[.int .i64 (2), .int .i64 (n), .string (V0)], .int .i64 0]) ∧ Below w.heap.size w w') := by
  have hu25 := Try.underlying25
  have q0 : decide (op < 3) = false := decide_eq_false (by omega)
  have q1 : decide (3 ≤ op) = true := decide_eq_true l3
  have q2 : decide (16 < op) = false := decide_eq_false (by omega)
  have q3 : decide (op ≤ 16) = true := decide_eq_true l16
  have q4 : decide (5 ≤ op) = true := decide_eq_true (by omega)
  have q5 : decide (op ≤ 10) = false := decide_eq_false l10
  have q6 : decide (op ≤ 4) = false := decide_eq_false (by omega)
  have q7 : (u.f0 == 0) = false := beq_eq_false_iff_ne.mpr a0
  have q8 : (v.f0 == 0) = false := beq_eq_false_iff_ne.mpr z0
  have q9 : (op == 16) = false := beq_eq_false_iff_ne.mpr o16
  have q10 : decide (14 ≤ op) = true := decide_eq_true l14
  have q11 : (v.f1 == 0) = false := beq_eq_false_iff_ne.mpr hb
  have l3' := Aside0.mk l3
  have l16' := Aside0.mk l16
  have l10' := Aside0.mk l10
  have a0' := Aside0.mk a0
  have z0' := Aside0.mk z0
  have o16' := Aside0.mk o16
  have l14' := Aside0.mk l14
  have hb' := Aside0.mk hb
  clear l3 l16 l10 a0 z0 o16 l14 hb
  go_enter Try.func18, Try.ntmps18
  go_upto_region 1 with fail
  refine at_world (fun w' => BR u v w w') BR.start (fun w1 hI => ?_)
  have HI := Aside0.mk hI
  clear hI
  have ca0 : World.cell? w1 _ = some _ := HI.out.a0
  have ca1 : World.cell? w1 _ = some _ := HI.out.a1
  have ca2 : World.cell? w1 _ = some _ := HI.out.a2
  have cv0 : World.cell? w1 _ = some _ := HI.out.v0
  have cv1 : World.cell? w1 _ = some _ := HI.out.v1
  have cv2 : World.cell? w1 _ = some _ := HI.out.v2
  have gc0 : World.cell? w1 ⟨w.heap.size + 1 + 1, 0, none⟩ = some (.int .i64 0) := (blk_cell HI.out.2.2.1 0).trans rfl
  have gf0 := blk_frozen HI.out.2.2.1 0
  have gc1 : World.cell? w1 ⟨w.heap.size + 1 + 1, 1, none⟩ = some (.int .i64 0) := (blk_cell HI.out.2.2.1 1).trans rfl
  have gf1 := blk_frozen HI.out.2.2.1 1
  have gc2 : World.cell? w1 ⟨w.heap.size + 1 + 1, 2, none⟩ = some (.string (⟨#[]⟩ : ByteArray)) := (blk_cell HI.out.2.2.1 2).trans rfl
  have gf2 := blk_frozen HI.out.2.2.1 2
  go_wp2_with (first | (go_at_call 47; (with_reducible refine (quarryref02_goes.calls kA op u.f0 true _ HGA.out).mono ?_); rintro e w' ⟨rfl, ⟨nd, rfl⟩⟩) | (go_at_call 47; (with_reducible refine (quarryref02_goes.calls kB op v.f0 true _ HGB.out).mono ?_); rintro e w' ⟨rfl, ⟨nd, rfl⟩⟩))
  refine (quarryref02_sum.calls k op u.f1 v.f1 n true _ HN.out).mono ?_
  rintro e w' ⟨rfl, ⟨nd, rfl⟩⟩
  go_wp2_with fail
  refine (quarryref02_Number.calls n _ _ _ _ (show quarryref02_Number.f n = some (2, n, V0) from rfl)).mono ?_
  rintro e w2 ⟨rfl, hb⟩
  have HJ : Aside0 (BR u v w w2) := ⟨BR.below (by repeat (first | exact HI.out | refine BR.drewN ?_ _)) hb⟩
  clear hb HI ca0 ca1 ca2 cv0 cv1 cv2 gc0 gc1 gc2 gf0 gf1 gf2
  have HI := HJ
  clear HJ
  have ca0 : World.cell? w2 _ = some _ := HI.out.a0
  have ca1 : World.cell? w2 _ = some _ := HI.out.a1
  have ca2 : World.cell? w2 _ = some _ := HI.out.a2
  have cv0 : World.cell? w2 _ = some _ := HI.out.v0
  have cv1 : World.cell? w2 _ = some _ := HI.out.v1
  have cv2 : World.cell? w2 _ = some _ := HI.out.v2
  have gc0 : World.cell? w2 ⟨w.heap.size + 1 + 1, 0, none⟩ = some (.int .i64 0) := (blk_cell HI.out.2.2.1 0).trans rfl
  have gf0 := blk_frozen HI.out.2.2.1 0
  have gc1 : World.cell? w2 ⟨w.heap.size + 1 + 1, 1, none⟩ = some (.int .i64 0) := (blk_cell HI.out.2.2.1 1).trans rfl
  have gf1 := blk_frozen HI.out.2.2.1 1
  have gc2 : World.cell? w2 ⟨w.heap.size + 1 + 1, 2, none⟩ = some (.string (⟨#[]⟩ : ByteArray)) := (blk_cell HI.out.2.2.1 2).trans rfl
  have gf2 := blk_frozen HI.out.2.2.1 2
  go_wp2_with fail
  refine bodyPost_ret (v := .tuple #[.agg #[.int .i64 (2), .int .i64 (n), .string (V0)], .int .i64 0]) (by simp [results, Try.results18, go_sem, gc0, gc1, gc2, V0]) rfl ⟨rfl, ?_⟩
  refine below_set3 ?_ (by omega) _ _ _ _ _ _
  repeat (first | (with_reducible exact HI.out.bel) | apply pw_below_drewN)
set_option maxHeartbeats 2000000 in
set_option maxRecDepth 100000 in
theorem refBinary.over1 (op : Int) (u v : S25) (w : World) (kA : Nat) (HGA : Aside0 (quarryref02_goes.f kA op u.f0 = some true)) (kB : Nat) (HGB : Aside0 (quarryref02_goes.f kB op v.f0 = some true)) (l3 : 3 ≤ op) (l16 : op ≤ 16) (l10 : ¬ op ≤ 10) (a0 : ¬ u.f0 = 0) (z0 : ¬ v.f0 = 0) (o16 : ¬ op = 16) (l14 : 14 ≤ op) (hb : ¬ v.f1 = 0) (k : Nat) (n : Int) (HN : Aside0 (quarryref02_sum.f k op u.f1 v.f1 = some (n, false))) :
    Calls Try.prog 18 #[.int .i64 op, .agg #[.int .i64 u.f0, .int .i64 u.f1, .string u.f2], .agg #[.int .i64 v.f0, .int .i64 v.f1, .string v.f2]] w (fun e w' => e = .returned (.tuple #[.agg #[.int .i64 (0), .int .i64 (0), .string (V0)], .int .i64 40]) ∧ Below w.heap.size w w') := by
  have hu25 := Try.underlying25
  have q0 : decide (op < 3) = false := decide_eq_false (by omega)
  have q1 : decide (3 ≤ op) = true := decide_eq_true l3
  have q2 : decide (16 < op) = false := decide_eq_false (by omega)
  have q3 : decide (op ≤ 16) = true := decide_eq_true l16
  have q4 : decide (5 ≤ op) = true := decide_eq_true (by omega)
  have q5 : decide (op ≤ 10) = false := decide_eq_false l10
  have q6 : decide (op ≤ 4) = false := decide_eq_false (by omega)
  have q7 : (u.f0 == 0) = false := beq_eq_false_iff_ne.mpr a0
  have q8 : (v.f0 == 0) = false := beq_eq_false_iff_ne.mpr z0
  have q9 : (op == 16) = false := beq_eq_false_iff_ne.mpr o16
  have q10 : decide (14 ≤ op) = true := decide_eq_true l14
  have q11 : (v.f1 == 0) = false := beq_eq_false_iff_ne.mpr hb
  have l3' := Aside0.mk l3
  have l16' := Aside0.mk l16
  have l10' := Aside0.mk l10
  have a0' := Aside0.mk a0
  have z0' := Aside0.mk z0
  have o16' := Aside0.mk o16
  have l14' := Aside0.mk l14
  have hb' := Aside0.mk hb
  clear l3 l16 l10 a0 z0 o16 l14 hb
  go_enter Try.func18, Try.ntmps18
  go_upto_region 1 with fail
  refine at_world (fun w' => BR u v w w') BR.start (fun w1 hI => ?_)
  have HI := Aside0.mk hI
  clear hI
  have ca0 : World.cell? w1 _ = some _ := HI.out.a0
  have ca1 : World.cell? w1 _ = some _ := HI.out.a1
  have ca2 : World.cell? w1 _ = some _ := HI.out.a2
  have cv0 : World.cell? w1 _ = some _ := HI.out.v0
  have cv1 : World.cell? w1 _ = some _ := HI.out.v1
  have cv2 : World.cell? w1 _ = some _ := HI.out.v2
  have gc0 : World.cell? w1 ⟨w.heap.size + 1 + 1, 0, none⟩ = some (.int .i64 0) := (blk_cell HI.out.2.2.1 0).trans rfl
  have gf0 := blk_frozen HI.out.2.2.1 0
  have gc1 : World.cell? w1 ⟨w.heap.size + 1 + 1, 1, none⟩ = some (.int .i64 0) := (blk_cell HI.out.2.2.1 1).trans rfl
  have gf1 := blk_frozen HI.out.2.2.1 1
  have gc2 : World.cell? w1 ⟨w.heap.size + 1 + 1, 2, none⟩ = some (.string (⟨#[]⟩ : ByteArray)) := (blk_cell HI.out.2.2.1 2).trans rfl
  have gf2 := blk_frozen HI.out.2.2.1 2
  go_wp2_with (first | (go_at_call 47; (with_reducible refine (quarryref02_goes.calls kA op u.f0 true _ HGA.out).mono ?_); rintro e w' ⟨rfl, ⟨nd, rfl⟩⟩) | (go_at_call 47; (with_reducible refine (quarryref02_goes.calls kB op v.f0 true _ HGB.out).mono ?_); rintro e w' ⟨rfl, ⟨nd, rfl⟩⟩))
  refine (quarryref02_sum.calls k op u.f1 v.f1 n false _ HN.out).mono ?_
  rintro e w' ⟨rfl, ⟨nd, rfl⟩⟩
  go_wp2_with fail
  refine bodyPost_ret (v := .tuple #[.agg #[.int .i64 (0), .int .i64 (0), .string (V0)], .int .i64 40]) (by simp [results, Try.results18, go_sem, gc0, gc1, gc2, V0]) rfl ⟨rfl, ?_⟩
  refine below_set3 ?_ (by omega) _ _ _ _ _ _
  repeat (first | (with_reducible exact HI.out.bel) | apply pw_below_drewN)
end Go.Proofs.Ytfbeklbjlkgbnaa.P
end
