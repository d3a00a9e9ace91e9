/- Laid by a program of this session out of its texts for the law BoundsAll, part 5. -/
import Derived.Lib.Bytealg
import Derived.WalkLawsBesides
import Derived.Test.YtmfenomjhmhogaaZBoundsAll4
section
namespace Go.Proofs.Ytmfenomjhmhogaa.P
open Go.RowKit Go.Proofs.YtmfenomjhmhogaaW.PrintWords Go.Proofs.YtmfenomjhmhogaaW.PrintLast Go.Proofs.YtmfenomjhmhogaaW.PrintMore
attribute [local go_sem] max2_int min2_int max_two min_two max_three min_three max_four min_four
set_option linter.unusedVariables false
set_option linter.unusedSimpArgs false
mutual
def quarryref01_texts.l0 : Nat → ByteArray → ByteArray → Int → Option (Int)
 | 0, _, _, _ => none
 | k + 1, x0, x1, x5 => if x5 < (x0.size : Int) then (quarryref01_texts.j1 k x0 x1 x5 (decide (x5 < (x1.size : Int)))) else (quarryref01_texts.j1 k x0 x1 x5 false)
def quarryref01_texts.j1 : Nat → ByteArray → ByteArray → Int → Bool → Option (Int)
 | 0, _, _, _, _ => none
 | k + 1, x0, x1, x5, x15 => if x15 = true then (if 0 ≤ x5 then (if x5 < (x0.size : Int) then (if x5 < (x1.size : Int) then (if (bt x0 x5) < (bt x1 x5) then (some (-1)) else (if (bt x0 x5) > (bt x1 x5) then (some 1) else (quarryref01_texts.l0 k x0 x1 (wrap64 (x5 + 1))))) else (none)) else (none)) else (none)) else (if (x0.size : Int) < (x1.size : Int) then (some (-1)) else (if (x0.size : Int) > (x1.size : Int) then (some 1) else (some 0)))
end
def quarryref01_texts.f (k : Nat) (a0 : ByteArray) (a1 : ByteArray) : Option (Int) := quarryref01_texts.l0 k a0 a1 0
set_option maxHeartbeats 8000000 in
set_option maxRecDepth 100000 in
theorem quarryref01_texts.calls (k : Nat) (a0 : ByteArray) (a1 : ByteArray) (r : Int) (w : World) (h : quarryref01_texts.f k a0 a1 = some r) :
  Calls Try.prog 67 #[.string a0, .string a1] w fun e w' => e = .returned (.int .i64 r) ∧ Drawn0 w w' := by
 have H : (quarryref01_texts.l0 k a0 a1 0) = some r := h
 clear h
 have H' := Aside0.mk H
 clear H
 go_enter Try.func67, Try.ntmps67
 go_wp2
 repeat (go_quiet (fail); try go_wp2)
 go_loopg [5] k (fun kq v5 w' => ∃ (x5_1 : Int), v5 = .int .i64 x5_1 ∧ Aside0 (quarryref01_texts.l0 kq a0 a1 x5_1 = some r) ∧ Aside0 (kq ≤ k) ∧ Drawn0 w w')
 case atStart => exact ⟨(0), (by first | rfl | (simp; done) | (simp [*]; done)), H', ⟨Nat.le_refl _⟩, by repeat (first | exact Drawn0.refl _ | apply Drawn0.step)⟩
 case round =>
  clear H'
  try clear p2
  obtain ⟨x5_1, rfl, HA, HK1, ⟨m1, rfl⟩⟩ := hrel
  cases gk with
  | zero => exact absurd HA.out (by simp [quarryref01_texts.l0])
  | succ k1 =>
   have H := HA.out
   clear HA
   simp only [quarryref01_texts.l0] at H
   have HC3 := Aside0.mk H
   clear H
   go_upto_region 2 with (fail)
   repeat (go_quiet (fail); go_upto_region 2 with (fail))
   go_cut [15] (fun v15 wc => ∃ (kq : Nat) (x15_2 : Bool), v15 = .bool x15_2 ∧ Aside0 (quarryref01_texts.j1 kq a0 a1 x5_1 x15_2 = some r) ∧ Aside0 (kq ≤ k1) ∧ Drawn0 w wc)
   case first =>
    have H := HC3.out
    clear HC3
    by_cases c4 : x5_1 < (a0.size : Int)
    ·rw [if_pos c4] at H
     have c4b0 : decide (x5_1 < (a0.size : Int)) = true := decide_eq_true c4
     clear c4
     (first | rw [c4b0] | (simp only [i64_w, i32_w]; rw [c4b0]) | skip)
     have H' := Aside0.mk H
     clear H
     go_wp2
     repeat (go_quiet (fail); try go_wp2)
     go_meet
     case rel => exact ⟨_, (decide (x5_1 < (a1.size : Int))), (by first | rfl | (simp; done) | (simp [*]; done)), H', ⟨by have := HK1.out; first | omega | exact Nat.le_refl _⟩, by repeat (first | exact Drawn0.refl _ | apply Drawn0.step)⟩
    ·rw [if_neg c4] at H
     have c4b0 : decide (x5_1 < (a0.size : Int)) = false := decide_eq_false c4
     clear c4
     (first | rw [c4b0] | (simp only [i64_w, i32_w]; rw [c4b0]) | skip)
     have H' := Aside0.mk H
     clear H
     go_wp2
     repeat (go_quiet (fail); try go_wp2)
     go_meet
     case rel => exact ⟨_, (false), (by first | rfl | (simp; done) | (simp [*]; done)), H', ⟨by have := HK1.out; first | omega | exact Nat.le_refl _⟩, by repeat (first | exact Drawn0.refl _ | apply Drawn0.step)⟩
   case rest =>
    clear HC3
    try clear p2
    try clear c4
    try clear c4b0
    try clear p2
    obtain ⟨kq, x15_2, rfl, HA, HJ2, ⟨mc2, rfl⟩⟩ := hcut
    cases kq with
    | zero => exact absurd HA.out (by simp [quarryref01_texts.j1])
    | succ kj2 =>
     have H := HA.out
     clear HA
     simp only [quarryref01_texts.j1] at H
     by_cases c5 : x15_2 = true
     ·subst c5
      have H1 : (if 0 ≤ x5_1 then (if x5_1 < (a0.size : Int) then (if x5_1 < (a1.size : Int) then (if (bt a0 x5_1) < (bt a1 x5_1) then (some (-1)) else (if (bt a0 x5_1) > (bt a1 x5_1) then (some 1) else (quarryref01_texts.l0 kj2 a0 a1 (wrap64 (x5_1 + 1))))) else (none)) else (none)) else (none)) = some r := by rw [if_pos rfl] at H; exact H
      clear H
      have H := H1
      clear H1
      by_cases c6 : 0 ≤ x5_1
      ·rw [if_pos c6] at H
       have c6b0 : decide (0 ≤ x5_1) = true := decide_eq_true c6
       clear c6
       by_cases c7 : x5_1 < (a0.size : Int)
       ·rw [if_pos c7] at H
        have c7b0 : decide (x5_1 < (a0.size : Int)) = true := decide_eq_true c7
        clear c7
        by_cases c9 : x5_1 < (a1.size : Int)
        ·rw [if_pos c9] at H
         have c9b0 : decide (x5_1 < (a1.size : Int)) = true := decide_eq_true c9
         clear c9
         by_cases c11 : (bt a0 x5_1) < (bt a1 x5_1)
         ·rw [if_pos c11] at H
          have c11b0 : decide ((bt a0 x5_1) < (bt a1 x5_1)) = true := decide_eq_true c11
          clear c11
          obtain rfl := Option.some.inj H
          have p8 : 0 ≤ (x5_1 : Int) := of_decide_eq_true (by first | (with_reducible assumption) | assumption)
          have q8 : x5_1 < (a0.size : Int) := of_decide_eq_true (by first | (with_reducible assumption) | assumption)
          have hx8 := bt_at a0 x5_1
          replace p8 := eq_true p8
          replace q8 := eq_true q8
          have p10 : 0 ≤ (x5_1 : Int) := of_decide_eq_true (by first | (with_reducible assumption) | assumption)
          have q10 : x5_1 < (a1.size : Int) := of_decide_eq_true (by first | (with_reducible assumption) | assumption)
          have hx10 := bt_at a1 x5_1
          replace p10 := eq_true p10
          replace q10 := eq_true q10
          go_wp2
          repeat (go_quiet (fail); try go_wp2)
          go_ret
          exact ⟨by first | rfl | (simp; done) | (simp [*]; done), by repeat (first | exact Drawn0.refl _ | apply Drawn0.step)⟩
         ·rw [if_neg c11] at H
          have c11b0 : decide ((bt a0 x5_1) < (bt a1 x5_1)) = false := decide_eq_false c11
          clear c11
          by_cases c14 : (bt a0 x5_1) > (bt a1 x5_1)
          ·rw [if_pos c14] at H
           have c14b0 : decide ((bt a1 x5_1) < (bt a0 x5_1)) = true := decide_eq_true c14
           clear c14
           obtain rfl := Option.some.inj H
           have p8 : 0 ≤ (x5_1 : Int) := of_decide_eq_true (by first | (with_reducible assumption) | assumption)
           have q8 : x5_1 < (a0.size : Int) := of_decide_eq_true (by first | (with_reducible assumption) | assumption)
           have hx8 := bt_at a0 x5_1
           replace p8 := eq_true p8
           replace q8 := eq_true q8
           have p10 : 0 ≤ (x5_1 : Int) := of_decide_eq_true (by first | (with_reducible assumption) | assumption)
           have q10 : x5_1 < (a1.size : Int) := of_decide_eq_true (by first | (with_reducible assumption) | assumption)
           have hx10 := bt_at a1 x5_1
           replace p10 := eq_true p10
           replace q10 := eq_true q10
           have p12 : 0 ≤ (x5_1 : Int) := of_decide_eq_true (by first | (with_reducible assumption) | assumption)
           have q12 : x5_1 < (a0.size : Int) := of_decide_eq_true (by first | (with_reducible assumption) | assumption)
           have hx12 := bt_at a0 x5_1
           replace p12 := eq_true p12
           replace q12 := eq_true q12
           have p13 : 0 ≤ (x5_1 : Int) := of_decide_eq_true (by first | (with_reducible assumption) | assumption)
           have q13 : x5_1 < (a1.size : Int) := of_decide_eq_true (by first | (with_reducible assumption) | assumption)
           have hx13 := bt_at a1 x5_1
           replace p13 := eq_true p13
           replace q13 := eq_true q13
           go_wp2
           repeat (go_quiet (fail); try go_wp2)
           go_ret
           exact ⟨by first | rfl | (simp; done) | (simp [*]; done), by repeat (first | exact Drawn0.refl _ | apply Drawn0.step)⟩
          ·rw [if_neg c14] at H
           have c14b0 : decide ((bt a1 x5_1) < (bt a0 x5_1)) = false := decide_eq_false c14
           clear c14
           have H' := Aside0.mk H
           clear H
           have p8 : 0 ≤ (x5_1 : Int) := of_decide_eq_true (by first | (with_reducible assumption) | assumption)
           have q8 : x5_1 < (a0.size : Int) := of_decide_eq_true (by first | (with_reducible assumption) | assumption)
           have hx8 := bt_at a0 x5_1
           replace p8 := eq_true p8
           replace q8 := eq_true q8
           have p10 : 0 ≤ (x5_1 : Int) := of_decide_eq_true (by first | (with_reducible assumption) | assumption)
           have q10 : x5_1 < (a1.size : Int) := of_decide_eq_true (by first | (with_reducible assumption) | assumption)
           have hx10 := bt_at a1 x5_1
           replace p10 := eq_true p10
           replace q10 := eq_true q10
           have p12 : 0 ≤ (x5_1 : Int) := of_decide_eq_true (by first | (with_reducible assumption) | assumption)
           have q12 : x5_1 < (a0.size : Int) := of_decide_eq_true (by first | (with_reducible assumption) | assumption)
           have hx12 := bt_at a0 x5_1
           replace p12 := eq_true p12
           replace q12 := eq_true q12
           have p13 : 0 ≤ (x5_1 : Int) := of_decide_eq_true (by first | (with_reducible assumption) | assumption)
           have q13 : x5_1 < (a1.size : Int) := of_decide_eq_true (by first | (with_reducible assumption) | assumption)
           have hx13 := bt_at a1 x5_1
           replace p13 := eq_true p13
           replace q13 := eq_true q13
           go_wp2
           repeat (go_quiet (fail); try go_wp2)
           go_roundg kj2
           case measure => have := HK1.out; have := HJ2.out; omega
           case rel => exact ⟨(wrap64 (x5_1 + 1)), (by first | rfl | (simp; done) | (simp [*]; done)), H', ⟨by have := HK1.out; have := HJ2.out; omega⟩, by repeat (first | exact Drawn0.refl _ | apply Drawn0.step)⟩
        ·rw [if_neg c9] at H
         exact absurd H (by simp)
       ·rw [if_neg c7] at H
        exact absurd H (by simp)
      ·rw [if_neg c6] at H
       exact absurd H (by simp)
     ·replace c5 := Bool.eq_false_iff.mpr c5
      subst c5
      have H1 : (if (a0.size : Int) < (a1.size : Int) then (some (-1)) else (if (a0.size : Int) > (a1.size : Int) then (some 1) else (some 0))) = some r := by rw [if_neg (show ¬ (false = true) by decide)] at H; exact H
      clear H
      have H := H1
      clear H1
      by_cases c15 : (a0.size : Int) < (a1.size : Int)
      ·rw [if_pos c15] at H
       have c15b0 : decide ((a0.size : Int) < (a1.size : Int)) = true := decide_eq_true c15
       have c15b1 : decide (a0.size < a1.size) = true := decide_eq_true (Int.ofNat_lt.mp c15)
       clear c15
       obtain rfl := Option.some.inj H
       go_wp2
       repeat (go_quiet (fail); try go_wp2)
       go_ret
       exact ⟨by first | rfl | (simp; done) | (simp [*]; done), by repeat (first | exact Drawn0.refl _ | apply Drawn0.step)⟩
      ·rw [if_neg c15] at H
       have c15b0 : decide ((a0.size : Int) < (a1.size : Int)) = false := decide_eq_false c15
       have c15b1 : decide (a0.size < a1.size) = false := decide_eq_false (fun h => c15 (Int.ofNat_lt.mpr h))
       clear c15
       by_cases c16 : (a0.size : Int) > (a1.size : Int)
       ·rw [if_pos c16] at H
        have c16b0 : decide ((a1.size : Int) < (a0.size : Int)) = true := decide_eq_true c16
        have c16b1 : decide (a1.size < a0.size) = true := decide_eq_true (Int.ofNat_lt.mp c16)
        clear c16
        obtain rfl := Option.some.inj H
        go_wp2
        repeat (go_quiet (fail); try go_wp2)
        go_ret
        exact ⟨by first | rfl | (simp; done) | (simp [*]; done), by repeat (first | exact Drawn0.refl _ | apply Drawn0.step)⟩
       ·rw [if_neg c16] at H
        have c16b0 : decide ((a1.size : Int) < (a0.size : Int)) = false := decide_eq_false c16
        have c16b1 : decide (a1.size < a0.size) = false := decide_eq_false (fun h => c16 (Int.ofNat_lt.mpr h))
        clear c16
        obtain rfl := Option.some.inj H
        go_wp2
        repeat (go_quiet (fail); try go_wp2)
        go_ret
        exact ⟨by first | rfl | (simp; done) | (simp [*]; done), by repeat (first | exact Drawn0.refl _ | apply Drawn0.step)⟩
mutual
def quarryref01_Compare.j0 : Nat → Bool → Int → Int → ByteArray → Int → Int → ByteArray → Option (Int)
 | 0, _, _, _, _, _, _, _ => none
 | k + 1, x17, x363000, x363001, x363002, x364000, x364001, x364002 => if x17 = true then ((quarryref01_texts.f k x363002 x364002).bind fun t364 => (some t364)) else (if x363000 = 1 then (quarryref01_Compare.j1 k (x363001 == x364001) x363000 x363001 x363002 x364000 x364001 x364002) else (if x363000 = 2 then (quarryref01_Compare.j1 k (x363001 == x364001) x363000 x363001 x363002 x364000 x364001 x364002) else (quarryref01_Compare.j1 k true x363000 x363001 x363002 x364000 x364001 x364002)))
def quarryref01_Compare.j1 : Nat → Bool → Int → Int → ByteArray → Int → Int → ByteArray → Option (Int)
 | 0, _, _, _, _, _, _, _ => none
 | k + 1, x31, x363000, x363001, x363002, x364000, x364001, x364002 => if x31 = true then (some 0) else (if x363001 < x364001 then (some (-1)) else (some 1))
end
def quarryref01_Compare.f (k : Nat) (a0_0 : Int) (a0_1 : Int) (a0_2 : ByteArray) (a1_0 : Int) (a1_1 : Int) (a1_2 : ByteArray) : Option (Int) := if a0_0 < a1_0 then (some (-1)) else (if a0_0 > a1_0 then (some 1) else (if a0_0 = 3 then (quarryref01_Compare.j0 k true a0_0 a0_1 a0_2 a1_0 a1_1 a1_2) else (quarryref01_Compare.j0 k (a0_0 == 4) a0_0 a0_1 a0_2 a1_0 a1_1 a1_2)))
set_option maxHeartbeats 8000000 in
set_option maxRecDepth 100000 in
theorem quarryref01_Compare.calls (k : Nat) (a0_0 : Int) (a0_1 : Int) (a0_2 : ByteArray) (a1_0 : Int) (a1_1 : Int) (a1_2 : ByteArray) (r : Int) (w : World) (h : quarryref01_Compare.f k a0_0 a0_1 a0_2 a1_0 a1_1 a1_2 = some r) :
  Calls Try.prog 60 #[.agg #[.int .i64 a0_0, .int .i64 a0_1, .string a0_2], .agg #[.int .i64 a1_0, .int .i64 a1_1, .string a1_2]] w fun e w' => e = .returned (.int .i64 r) ∧ Below w.heap.size w w' := by
 have hu25 := Try.underlying25
 have HB := Aside0.mk (Below.refl w.heap.size w)
 have H : (if a0_0 < a1_0 then (some (-1)) else (if a0_0 > a1_0 then (some 1) else (if a0_0 = 3 then (quarryref01_Compare.j0 k true a0_0 a0_1 a0_2 a1_0 a1_1 a1_2) else (quarryref01_Compare.j0 k (a0_0 == 4) a0_0 a0_1 a0_2 a1_0 a1_1 a1_2)))) = some r := h
 clear h
 by_cases c3 : a0_0 < a1_0
 ·rw [if_pos c3] at H
  have c3b0 : decide (a0_0 < a1_0) = true := decide_eq_true c3
  clear c3
  obtain rfl := Option.some.inj H
  go_enter Try.func60, Try.ntmps60
  go_wp2_with (first | ((with_reducible refine gate_dst (N := 2) rfl ?_); refine box_event ?hg (N := 2) ?hd (cs := #[.int .i64 a0_0, .int .i64 a0_1, .string a0_2]) (t := 25) ?hr ?_; (case hd => rfl); (case hg => rfl); (case hr => first | (go_simp; done) | (go_simp; rfl)); intro gb362 hg w4 hbox hb; have n0_ := Aside0.mk (below_step (by repeat (first | (with_reducible first | exact HB.out | apply below_alloc | apply pw_below_drewN | apply below_drew1) | exact HB.out)) hb); have n1_ := Aside0.mk (hbox); have n2_ := Aside0.mk ((by rw [hg]; exact (below_size (by repeat (first | (with_reducible first | exact HB.out | apply below_alloc | apply pw_below_drewN | apply below_drew1) | exact HB.out))) : w.heap.size ≤ gb362)); have n3_ := Aside0.mk ((by rw [hg]; exact (below_size (by repeat (first | (with_reducible first | exact HB.out | apply below_alloc | apply pw_below_drewN | apply below_drew1) | exact HB.out))) : w.heap.size ≤ gb362)); clear HB; have HB := n0_; have BK362 := n1_; have GW362 := n2_; have GE362 := n3_; clear n0_ n1_ n2_ n3_; clear hb hbox hg) | ((with_reducible refine gate_dst (N := 3) rfl ?_); refine box_event ?hg (N := 3) ?hd (cs := #[.int .i64 a1_0, .int .i64 a1_1, .string a1_2]) (t := 25) ?hr ?_; (case hd => rfl); (case hg => rfl); (case hr => first | (go_simp; done) | (go_simp; rfl)); intro gb363 hg w5 hbox hb; have n0_ := Aside0.mk (blk_below (g := gb362) (o := .cells #[.int .i64 a0_0, .int .i64 a0_1, .string a0_2] 25 (0, 0)) (bk_ BK362) hb); have n1_ := Aside0.mk (below_step (by repeat (first | (with_reducible first | exact HB.out | apply below_alloc | apply pw_below_drewN | apply below_drew1 | refine below_set ?_ GE362.out) | exact HB.out)) hb); have n2_ := Aside0.mk (hbox); have n3_ := Aside0.mk ((by rw [hg]; exact (below_size (by repeat (first | (with_reducible first | exact HB.out | apply below_alloc | apply pw_below_drewN | apply below_drew1 | refine below_set ?_ GE362.out) | exact HB.out))) : w.heap.size ≤ gb363)); have n4_ := Aside0.mk ((by rw [hg]; exact (below_size (by repeat (first | (with_reducible first | exact HB.out | apply below_alloc | apply pw_below_drewN | apply below_drew1 | refine below_set ?_ GE362.out) | exact HB.out))) : w.heap.size ≤ gb363)); have n5_ := Aside0.mk ((by rw [hg]; exact Nat.ne_of_lt (blk_lt (g := gb362) (o := .cells #[.int .i64 a0_0, .int .i64 a0_1, .string a0_2] 25 (0, 0)) (bk_ BK362)) : gb362 ≠ gb363)); have n6_ := Aside0.mk ((by rw [hg]; exact Nat.ne_of_gt (blk_lt (g := gb362) (o := .cells #[.int .i64 a0_0, .int .i64 a0_1, .string a0_2] 25 (0, 0)) (bk_ BK362)) : gb363 ≠ gb362)); clear BK362; clear HB; have BK362 := n0_; have HB := n1_; have BK363 := n2_; have GW363 := n3_; have GE363 := n4_; have NB362_363 := n5_; have NB363_362 := n6_; clear n0_ n1_ n2_ n3_ n4_ n5_ n6_; clear hb hbox hg; have hnb6 := NB362_363.out; have hnc6 := NB363_362.out; have hcz7_0 : w5.cell? ⟨gb362, 0, none⟩ = some (.int .i64 a0_0) := (blk_cell BK362.out 0).trans rfl; have hcz7_1 : w5.cell? ⟨gb362, 1, none⟩ = some (.int .i64 a0_1) := (blk_cell BK362.out 1).trans rfl; have hcz7_2 : w5.cell? ⟨gb362, 2, none⟩ = some (.string a0_2) := (blk_cell BK362.out 2).trans rfl; have hfz7_0 := blk_frozen BK362.out 0; have hfz7_1 := blk_frozen BK362.out 1; have hfz7_2 := blk_frozen BK362.out 2; have hcz8_0 : w5.cell? ⟨gb363, 0, none⟩ = some (.int .i64 a1_0) := (blk_cell BK363.out 0).trans rfl; have hcz8_1 : w5.cell? ⟨gb363, 1, none⟩ = some (.int .i64 a1_1) := (blk_cell BK363.out 1).trans rfl; have hcz8_2 : w5.cell? ⟨gb363, 2, none⟩ = some (.string a1_2) := (blk_cell BK363.out 2).trans rfl; have hfz8_0 := blk_frozen BK363.out 0; have hfz8_1 := blk_frozen BK363.out 1; have hfz8_2 := blk_frozen BK363.out 2))
  go_ret
  exact ⟨by first | rfl | (simp [errW_none, errW_some] <;> rfl) | (simp [*, errW_none, errW_some] <;> rfl), by repeat (first | (with_reducible first | exact HB.out | apply below_alloc | apply pw_below_drewN | apply below_drew1 | refine below_set ?_ GE362.out | refine below_set ?_ GE363.out) | exact HB.out)⟩
 ·rw [if_neg c3] at H
  have c3b0 : decide (a0_0 < a1_0) = false := decide_eq_false c3
  clear c3
  by_cases c9 : a0_0 > a1_0
  ·rw [if_pos c9] at H
   have c9b0 : decide (a1_0 < a0_0) = true := decide_eq_true c9
   clear c9
   obtain rfl := Option.some.inj H
   go_enter Try.func60, Try.ntmps60
   go_wp2_with (first | ((with_reducible refine gate_dst (N := 2) rfl ?_); refine box_event ?hg (N := 2) ?hd (cs := #[.int .i64 a0_0, .int .i64 a0_1, .string a0_2]) (t := 25) ?hr ?_; (case hd => rfl); (case hg => rfl); (case hr => first | (go_simp; done) | (go_simp; rfl)); intro gb362 hg w10 hbox hb; have n0_ := Aside0.mk (below_step (by repeat (first | (with_reducible first | exact HB.out | apply below_alloc | apply pw_below_drewN | apply below_drew1) | exact HB.out)) hb); have n1_ := Aside0.mk (hbox); have n2_ := Aside0.mk ((by rw [hg]; exact (below_size (by repeat (first | (with_reducible first | exact HB.out | apply below_alloc | apply pw_below_drewN | apply below_drew1) | exact HB.out))) : w.heap.size ≤ gb362)); have n3_ := Aside0.mk ((by rw [hg]; exact (below_size (by repeat (first | (with_reducible first | exact HB.out | apply below_alloc | apply pw_below_drewN | apply below_drew1) | exact HB.out))) : w.heap.size ≤ gb362)); clear HB; have HB := n0_; have BK362 := n1_; have GW362 := n2_; have GE362 := n3_; clear n0_ n1_ n2_ n3_; clear hb hbox hg) | ((with_reducible refine gate_dst (N := 3) rfl ?_); refine box_event ?hg (N := 3) ?hd (cs := #[.int .i64 a1_0, .int .i64 a1_1, .string a1_2]) (t := 25) ?hr ?_; (case hd => rfl); (case hg => rfl); (case hr => first | (go_simp; done) | (go_simp; rfl)); intro gb363 hg w11 hbox hb; have n0_ := Aside0.mk (blk_below (g := gb362) (o := .cells #[.int .i64 a0_0, .int .i64 a0_1, .string a0_2] 25 (0, 0)) (bk_ BK362) hb); have n1_ := Aside0.mk (below_step (by repeat (first | (with_reducible first | exact HB.out | apply below_alloc | apply pw_below_drewN | apply below_drew1 | refine below_set ?_ GE362.out) | exact HB.out)) hb); have n2_ := Aside0.mk (hbox); have n3_ := Aside0.mk ((by rw [hg]; exact (below_size (by repeat (first | (with_reducible first | exact HB.out | apply below_alloc | apply pw_below_drewN | apply below_drew1 | refine below_set ?_ GE362.out) | exact HB.out))) : w.heap.size ≤ gb363)); have n4_ := Aside0.mk ((by rw [hg]; exact (below_size (by repeat (first | (with_reducible first | exact HB.out | apply below_alloc | apply pw_below_drewN | apply below_drew1 | refine below_set ?_ GE362.out) | exact HB.out))) : w.heap.size ≤ gb363)); have n5_ := Aside0.mk ((by rw [hg]; exact Nat.ne_of_lt (blk_lt (g := gb362) (o := .cells #[.int .i64 a0_0, .int .i64 a0_1, .string a0_2] 25 (0, 0)) (bk_ BK362)) : gb362 ≠ gb363)); have n6_ := Aside0.mk ((by rw [hg]; exact Nat.ne_of_gt (blk_lt (g := gb362) (o := .cells #[.int .i64 a0_0, .int .i64 a0_1, .string a0_2] 25 (0, 0)) (bk_ BK362)) : gb363 ≠ gb362)); clear BK362; clear HB; have BK362 := n0_; have HB := n1_; have BK363 := n2_; have GW363 := n3_; have GE363 := n4_; have NB362_363 := n5_; have NB363_362 := n6_; clear n0_ n1_ n2_ n3_ n4_ n5_ n6_; clear hb hbox hg; have hnb12 := NB362_363.out; have hnc12 := NB363_362.out; have hcz13_0 : w11.cell? ⟨gb362, 0, none⟩ = some (.int .i64 a0_0) := (blk_cell BK362.out 0).trans rfl; have hcz13_1 : w11.cell? ⟨gb362, 1, none⟩ = some (.int .i64 a0_1) := (blk_cell BK362.out 1).trans rfl; have hcz13_2 : w11.cell? ⟨gb362, 2, none⟩ = some (.string a0_2) := (blk_cell BK362.out 2).trans rfl; have hfz13_0 := blk_frozen BK362.out 0; have hfz13_1 := blk_frozen BK362.out 1; have hfz13_2 := blk_frozen BK362.out 2; have hcz14_0 : w11.cell? ⟨gb363, 0, none⟩ = some (.int .i64 a1_0) := (blk_cell BK363.out 0).trans rfl; have hcz14_1 : w11.cell? ⟨gb363, 1, none⟩ = some (.int .i64 a1_1) := (blk_cell BK363.out 1).trans rfl; have hcz14_2 : w11.cell? ⟨gb363, 2, none⟩ = some (.string a1_2) := (blk_cell BK363.out 2).trans rfl; have hfz14_0 := blk_frozen BK363.out 0; have hfz14_1 := blk_frozen BK363.out 1; have hfz14_2 := blk_frozen BK363.out 2))
   go_ret
   exact ⟨by first | rfl | (simp [errW_none, errW_some] <;> rfl) | (simp [*, errW_none, errW_some] <;> rfl), by repeat (first | (with_reducible first | exact HB.out | apply below_alloc | apply pw_below_drewN | apply below_drew1 | refine below_set ?_ GE362.out | refine below_set ?_ GE363.out) | exact HB.out)⟩
  ·rw [if_neg c9] at H
   have c9b0 : decide (a1_0 < a0_0) = false := decide_eq_false c9
   clear c9
   have HC15 := Aside0.mk H
   clear H
   go_enter Try.func60, Try.ntmps60
   go_upto_region 5 with (first | ((with_reducible refine gate_dst (N := 2) rfl ?_); refine box_event ?hg (N := 2) ?hd (cs := #[.int .i64 a0_0, .int .i64 a0_1, .string a0_2]) (t := 25) ?hr ?_; (case hd => rfl); (case hg => rfl); (case hr => first | (go_simp; done) | (go_simp; rfl)); intro gb362 hg w16 hbox hb; have n0_ := Aside0.mk (below_step (by repeat (first | (with_reducible first | exact HB.out | apply below_alloc | apply pw_below_drewN | apply below_drew1) | exact HB.out)) hb); have n1_ := Aside0.mk (hbox); have n2_ := Aside0.mk ((by rw [hg]; exact (below_size (by repeat (first | (with_reducible first | exact HB.out | apply below_alloc | apply pw_below_drewN | apply below_drew1) | exact HB.out))) : w.heap.size ≤ gb362)); have n3_ := Aside0.mk ((by rw [hg]; exact (below_size (by repeat (first | (with_reducible first | exact HB.out | apply below_alloc | apply pw_below_drewN | apply below_drew1) | exact HB.out))) : w.heap.size ≤ gb362)); clear HB; have HB := n0_; have BK362 := n1_; have GW362 := n2_; have GE362 := n3_; clear n0_ n1_ n2_ n3_; clear hb hbox hg) | ((with_reducible refine gate_dst (N := 3) rfl ?_); refine box_event ?hg (N := 3) ?hd (cs := #[.int .i64 a1_0, .int .i64 a1_1, .string a1_2]) (t := 25) ?hr ?_; (case hd => rfl); (case hg => rfl); (case hr => first | (go_simp; done) | (go_simp; rfl)); intro gb363 hg w17 hbox hb; have n0_ := Aside0.mk (blk_below (g := gb362) (o := .cells #[.int .i64 a0_0, .int .i64 a0_1, .string a0_2] 25 (0, 0)) (bk_ BK362) hb); have n1_ := Aside0.mk (below_step (by repeat (first | (with_reducible first | exact HB.out | apply below_alloc | apply pw_below_drewN | apply below_drew1 | refine below_set ?_ GE362.out) | exact HB.out)) hb); have n2_ := Aside0.mk (hbox); have n3_ := Aside0.mk ((by rw [hg]; exact (below_size (by repeat (first | (with_reducible first | exact HB.out | apply below_alloc | apply pw_below_drewN | apply below_drew1 | refine below_set ?_ GE362.out) | exact HB.out))) : w.heap.size ≤ gb363)); have n4_ := Aside0.mk ((by rw [hg]; exact (below_size (by repeat (first | (with_reducible first | exact HB.out | apply below_alloc | apply pw_below_drewN | apply below_drew1 | refine below_set ?_ GE362.out) | exact HB.out))) : w.heap.size ≤ gb363)); have n5_ := Aside0.mk ((by rw [hg]; exact Nat.ne_of_lt (blk_lt (g := gb362) (o := .cells #[.int .i64 a0_0, .int .i64 a0_1, .string a0_2] 25 (0, 0)) (bk_ BK362)) : gb362 ≠ gb363)); have n6_ := Aside0.mk ((by rw [hg]; exact Nat.ne_of_gt (blk_lt (g := gb362) (o := .cells #[.int .i64 a0_0, .int .i64 a0_1, .string a0_2] 25 (0, 0)) (bk_ BK362)) : gb363 ≠ gb362)); clear BK362; clear HB; have BK362 := n0_; have HB := n1_; have BK363 := n2_; have GW363 := n3_; have GE363 := n4_; have NB362_363 := n5_; have NB363_362 := n6_; clear n0_ n1_ n2_ n3_ n4_ n5_ n6_; clear hb hbox hg; have hnb18 := NB362_363.out; have hnc18 := NB363_362.out; have hcz19_0 : w17.cell? ⟨gb362, 0, none⟩ = some (.int .i64 a0_0) := (blk_cell BK362.out 0).trans rfl; have hcz19_1 : w17.cell? ⟨gb362, 1, none⟩ = some (.int .i64 a0_1) := (blk_cell BK362.out 1).trans rfl; have hcz19_2 : w17.cell? ⟨gb362, 2, none⟩ = some (.string a0_2) := (blk_cell BK362.out 2).trans rfl; have hfz19_0 := blk_frozen BK362.out 0; have hfz19_1 := blk_frozen BK362.out 1; have hfz19_2 := blk_frozen BK362.out 2; have hcz20_0 : w17.cell? ⟨gb363, 0, none⟩ = some (.int .i64 a1_0) := (blk_cell BK363.out 0).trans rfl; have hcz20_1 : w17.cell? ⟨gb363, 1, none⟩ = some (.int .i64 a1_1) := (blk_cell BK363.out 1).trans rfl; have hcz20_2 : w17.cell? ⟨gb363, 2, none⟩ = some (.string a1_2) := (blk_cell BK363.out 2).trans rfl; have hfz20_0 := blk_frozen BK363.out 0; have hfz20_1 := blk_frozen BK363.out 1; have hfz20_2 := blk_frozen BK363.out 2))
   (try simp only [Act.put, List.setIfInBounds_toArray, List.set_cons_zero, List.set_cons_succ])
   go_cut [17] (fun v17 wc => ∃ (kq : Nat) (x17_14 : Bool), v17 = .bool x17_14 ∧ Aside0 (quarryref01_Compare.j0 kq x17_14 a0_0 a0_1 a0_2 a1_0 a1_1 a1_2 = some r) ∧ Aside0 (kq ≤ k) ∧ Aside0 (wc.heap[gb362]? = some (.cells #[.int .i64 a0_0, .int .i64 a0_1, .string a0_2] 25 (0, 0))) ∧ Aside0 (wc.heap[gb363]? = some (.cells #[.int .i64 a1_0, .int .i64 a1_1, .string a1_2] 25 (0, 0))) ∧ Aside0 (Below w.heap.size w wc))
   case first =>
    have H := HC15.out
    clear HC15
    by_cases c21 : a0_0 = 3
    ·rw [if_pos c21] at H
     have c21b0 : (a0_0 == 3) = true := beq_iff_eq.mpr c21
     have c21b1 : (a0_0 != 3) = false := bne_eq_false_iff_eq.mpr c21
     clear c21
     (first | rw [c21b0] | (simp only [i64_w, i32_w]; rw [c21b0]) | skip)
     have H' := Aside0.mk H
     clear H
     have hnb22 := NB362_363.out
     have hnc22 := NB363_362.out
     have hcz23_0 : w17.cell? ⟨gb362, 0, none⟩ = some (.int .i64 a0_0) := (blk_cell BK362.out 0).trans rfl
     have hcz23_1 : w17.cell? ⟨gb362, 1, none⟩ = some (.int .i64 a0_1) := (blk_cell BK362.out 1).trans rfl
     have hcz23_2 : w17.cell? ⟨gb362, 2, none⟩ = some (.string a0_2) := (blk_cell BK362.out 2).trans rfl
     have hfz23_0 := blk_frozen BK362.out 0
     have hfz23_1 := blk_frozen BK362.out 1
     have hfz23_2 := blk_frozen BK362.out 2
     go_wp2
     go_meet
     case rel => exact ⟨_, (true), (by first | rfl | (simp; done) | (simp [*]; done)), H', ⟨by first | omega | exact Nat.le_refl _⟩, ⟨by (with_reducible repeat (first | refine blk_drewN ?_ _ | refine blk_drew ?_ | refine blk_alloc ?_ _)); exact BK362.out⟩, ⟨by (with_reducible repeat (first | refine blk_drewN ?_ _ | refine blk_drew ?_ | refine blk_alloc ?_ _)); exact BK363.out⟩, ⟨by repeat (first | (with_reducible first | exact HB.out | apply below_alloc | apply pw_below_drewN | apply below_drew1 | refine below_set ?_ GE362.out | refine below_set ?_ GE363.out) | exact HB.out)⟩⟩
    ·rw [if_neg c21] at H
     have c21b0 : (a0_0 == 3) = false := beq_eq_false_iff_ne.mpr c21
     have c21b1 : (a0_0 != 3) = true := bne_iff_ne.mpr c21
     (first | rw [c21b0] | (simp only [i64_w, i32_w]; rw [c21b0]) | skip)
     have H' := Aside0.mk H
     clear H
     have hnb24 := NB362_363.out
     have hnc24 := NB363_362.out
     have hcz25_0 : w17.cell? ⟨gb362, 0, none⟩ = some (.int .i64 a0_0) := (blk_cell BK362.out 0).trans rfl
     have hcz25_1 : w17.cell? ⟨gb362, 1, none⟩ = some (.int .i64 a0_1) := (blk_cell BK362.out 1).trans rfl
     have hcz25_2 : w17.cell? ⟨gb362, 2, none⟩ = some (.string a0_2) := (blk_cell BK362.out 2).trans rfl
     have hfz25_0 := blk_frozen BK362.out 0
     have hfz25_1 := blk_frozen BK362.out 1
     have hfz25_2 := blk_frozen BK362.out 2
     go_wp2
     go_meet
     case rel => exact ⟨_, ((a0_0 == 4)), (by first | rfl | (simp; done) | (simp [*]; done)), H', ⟨by first | omega | exact Nat.le_refl _⟩, ⟨by (with_reducible repeat (first | refine blk_drewN ?_ _ | refine blk_drew ?_ | refine blk_alloc ?_ _)); exact BK362.out⟩, ⟨by (with_reducible repeat (first | refine blk_drewN ?_ _ | refine blk_drew ?_ | refine blk_alloc ?_ _)); exact BK363.out⟩, ⟨by repeat (first | (with_reducible first | exact HB.out | apply below_alloc | apply pw_below_drewN | apply below_drew1 | refine below_set ?_ GE362.out | refine below_set ?_ GE363.out) | exact HB.out)⟩⟩
   case rest =>
    clear HC15
    try clear c1
    try clear c2
    try clear p2
    try clear c3
    try clear c3b0
    try clear c6
    try clear c9
    try clear c9b0
    try clear c12
    try clear c18
    try clear c21
    try clear c21b0
    try clear c21b1
    try clear c22
    try clear c24
    try clear hcz13_0
    try clear hcz13_1
    try clear hcz13_2
    try clear hcz14_0
    try clear hcz14_1
    try clear hcz14_2
    try clear hcz19_0
    try clear hcz19_1
    try clear hcz19_2
    try clear hcz20_0
    try clear hcz20_1
    try clear hcz20_2
    try clear hcz23_0
    try clear hcz23_1
    try clear hcz23_2
    try clear hcz25_0
    try clear hcz25_1
    try clear hcz25_2
    try clear hcz7_0
    try clear hcz7_1
    try clear hcz7_2
    try clear hcz8_0
    try clear hcz8_1
    try clear hcz8_2
    try clear hfz13_0
    try clear hfz13_1
    try clear hfz13_2
    try clear hfz14_0
    try clear hfz14_1
    try clear hfz14_2
    try clear hfz19_0
    try clear hfz19_1
    try clear hfz19_2
    try clear hfz20_0
    try clear hfz20_1
    try clear hfz20_2
    try clear hfz23_0
    try clear hfz23_1
    try clear hfz23_2
    try clear hfz25_0
    try clear hfz25_1
    try clear hfz25_2
    try clear hfz7_0
    try clear hfz7_1
    try clear hfz7_2
    try clear hfz8_0
    try clear hfz8_1
    try clear hfz8_2
    obtain ⟨kq, x17_14, rfl, HA, HJ14, BK362, BK363, HB⟩ := hcut
    cases kq with
    | zero => exact absurd HA.out (by simp [quarryref01_Compare.j0])
    | succ kj14 =>
     have H := HA.out
     clear HA
     simp only [quarryref01_Compare.j0] at H
     by_cases c26 : x17_14 = true
     ·subst c26
      have H1 : ((quarryref01_texts.f kj14 a0_2 a1_2).bind fun t364 => (some t364)) = some r := by rw [if_pos rfl] at H; exact H
      clear H
      have H := H1
      clear H1
      replace H := Option.bind_eq_some_iff.mp H
      obtain ⟨t364, A270, H⟩ := H
      replace H : (some t364) = some r := H
      have A27 := Aside0.mk A270
      clear A270
      obtain rfl := Option.some.inj H
      have hnb28 := NB362_363.out
      have hnc28 := NB363_362.out
      have hcz29_0 : wc.cell? ⟨gb362, 0, none⟩ = some (.int .i64 a0_0) := (blk_cell BK362.out 0).trans rfl
      have hcz29_1 : wc.cell? ⟨gb362, 1, none⟩ = some (.int .i64 a0_1) := (blk_cell BK362.out 1).trans rfl
      have hcz29_2 : wc.cell? ⟨gb362, 2, none⟩ = some (.string a0_2) := (blk_cell BK362.out 2).trans rfl
      have hfz29_0 := blk_frozen BK362.out 0
      have hfz29_1 := blk_frozen BK362.out 1
      have hfz29_2 := blk_frozen BK362.out 2
      have hcz30_0 : wc.cell? ⟨gb363, 0, none⟩ = some (.int .i64 a1_0) := (blk_cell BK363.out 0).trans rfl
      have hcz30_1 : wc.cell? ⟨gb363, 1, none⟩ = some (.int .i64 a1_1) := (blk_cell BK363.out 1).trans rfl
      have hcz30_2 : wc.cell? ⟨gb363, 2, none⟩ = some (.string a1_2) := (blk_cell BK363.out 2).trans rfl
      have hfz30_0 := blk_frozen BK363.out 0
      have hfz30_1 := blk_frozen BK363.out 1
      have hfz30_2 := blk_frozen BK363.out 2
      go_wp2_with (first | ((with_reducible refine gate_callee (f := 67) rfl ?_); refine goesL_ (some 30) rfl rfl Try.func67 (by kernel_rfl) rfl #[.string a0_2, .string a1_2] rfl (by (try simp only [List.map_toArray, List.map_cons, List.map_nil]); first | done | rfl | (simp only [List.length_drop, List.length_take]; rfl)) ?_; (with_reducible refine (quarryref01_texts.calls kj14 a0_2 a1_2 t364 _ A27.out).mono ?_); rintro e w' ⟨rfl, ⟨nd, rfl⟩⟩; refine ⟨_, rfl, ?_⟩))
      go_ret
      exact ⟨by first | rfl | (simp [errW_none, errW_some] <;> rfl) | (simp [*, errW_none, errW_some] <;> rfl), by repeat (first | (with_reducible first | exact HB.out | apply below_alloc | apply pw_below_drewN | apply below_drew1 | refine below_set ?_ GE362.out | refine below_set ?_ GE363.out) | exact HB.out)⟩
     ·replace c26 := Bool.eq_false_iff.mpr c26
      subst c26
      have H1 : (if a0_0 = 1 then (quarryref01_Compare.j1 kj14 (a0_1 == a1_1) a0_0 a0_1 a0_2 a1_0 a1_1 a1_2) else (if a0_0 = 2 then (quarryref01_Compare.j1 kj14 (a0_1 == a1_1) a0_0 a0_1 a0_2 a1_0 a1_1 a1_2) else (quarryref01_Compare.j1 kj14 true a0_0 a0_1 a0_2 a1_0 a1_1 a1_2))) = some r := by rw [if_neg (show ¬ (false = true) by decide)] at H; exact H
      clear H
      have H := H1
      clear H1
      have HC31 := Aside0.mk H
      clear H
      go_upto_region 7 with (fail)
      go_cut [31] (fun v31 wc => ∃ (kq : Nat) (x31_30 : Bool), v31 = .bool x31_30 ∧ Aside0 (quarryref01_Compare.j1 kq x31_30 a0_0 a0_1 a0_2 a1_0 a1_1 a1_2 = some r) ∧ Aside0 (kq ≤ kj14) ∧ Aside0 (wc.heap[gb362]? = some (.cells #[.int .i64 a0_0, .int .i64 a0_1, .string a0_2] 25 (0, 0))) ∧ Aside0 (wc.heap[gb363]? = some (.cells #[.int .i64 a1_0, .int .i64 a1_1, .string a1_2] 25 (0, 0))) ∧ Aside0 (Below w.heap.size w wc))
      case first =>
       have H := HC31.out
       clear HC31
       by_cases c32 : a0_0 = 1
       ·rw [if_pos c32] at H
        have c32b0 : (a0_0 == 1) = true := beq_iff_eq.mpr c32
        have c32b1 : (a0_0 != 1) = false := bne_eq_false_iff_eq.mpr c32
        clear c32
        (first | rw [c32b0] | (simp only [i64_w, i32_w]; rw [c32b0]) | skip)
        have H' := Aside0.mk H
        clear H
        have hnb33 := NB362_363.out
        have hnc33 := NB363_362.out
        have hcz34_0 : wc.cell? ⟨gb362, 0, none⟩ = some (.int .i64 a0_0) := (blk_cell BK362.out 0).trans rfl
        have hcz34_1 : wc.cell? ⟨gb362, 1, none⟩ = some (.int .i64 a0_1) := (blk_cell BK362.out 1).trans rfl
        have hcz34_2 : wc.cell? ⟨gb362, 2, none⟩ = some (.string a0_2) := (blk_cell BK362.out 2).trans rfl
        have hfz34_0 := blk_frozen BK362.out 0
        have hfz34_1 := blk_frozen BK362.out 1
        have hfz34_2 := blk_frozen BK362.out 2
        have hcz35_0 : wc.cell? ⟨gb363, 0, none⟩ = some (.int .i64 a1_0) := (blk_cell BK363.out 0).trans rfl
        have hcz35_1 : wc.cell? ⟨gb363, 1, none⟩ = some (.int .i64 a1_1) := (blk_cell BK363.out 1).trans rfl
        have hcz35_2 : wc.cell? ⟨gb363, 2, none⟩ = some (.string a1_2) := (blk_cell BK363.out 2).trans rfl
        have hfz35_0 := blk_frozen BK363.out 0
        have hfz35_1 := blk_frozen BK363.out 1
        have hfz35_2 := blk_frozen BK363.out 2
        go_wp2
        go_meet
        case rel => exact ⟨_, ((a0_1 == a1_1)), (by first | rfl | (simp; done) | (simp [*]; done)), H', ⟨by have := HJ14.out; first | omega | exact Nat.le_refl _⟩, ⟨by (with_reducible repeat (first | refine blk_drewN ?_ _ | refine blk_drew ?_ | refine blk_alloc ?_ _)); exact BK362.out⟩, ⟨by (with_reducible repeat (first | refine blk_drewN ?_ _ | refine blk_drew ?_ | refine blk_alloc ?_ _)); exact BK363.out⟩, ⟨by repeat (first | (with_reducible first | exact HB.out | apply below_alloc | apply pw_below_drewN | apply below_drew1 | refine below_set ?_ GE362.out | refine below_set ?_ GE363.out) | exact HB.out)⟩⟩
       ·rw [if_neg c32] at H
        have c32b0 : (a0_0 == 1) = false := beq_eq_false_iff_ne.mpr c32
        have c32b1 : (a0_0 != 1) = true := bne_iff_ne.mpr c32
        (first | rw [c32b0] | (simp only [i64_w, i32_w]; rw [c32b0]) | skip)
        by_cases c36 : a0_0 = 2
        ·rw [if_pos c36] at H
         have c36b0 : (a0_0 == 2) = true := beq_iff_eq.mpr c36
         have c36b1 : (a0_0 != 2) = false := bne_eq_false_iff_eq.mpr c36
         clear c36
         have H' := Aside0.mk H
         clear H
         have hnb37 := NB362_363.out
         have hnc37 := NB363_362.out
         have hcz38_0 : wc.cell? ⟨gb362, 0, none⟩ = some (.int .i64 a0_0) := (blk_cell BK362.out 0).trans rfl
         have hcz38_1 : wc.cell? ⟨gb362, 1, none⟩ = some (.int .i64 a0_1) := (blk_cell BK362.out 1).trans rfl
         have hcz38_2 : wc.cell? ⟨gb362, 2, none⟩ = some (.string a0_2) := (blk_cell BK362.out 2).trans rfl
         have hfz38_0 := blk_frozen BK362.out 0
         have hfz38_1 := blk_frozen BK362.out 1
         have hfz38_2 := blk_frozen BK362.out 2
         have hcz39_0 : wc.cell? ⟨gb363, 0, none⟩ = some (.int .i64 a1_0) := (blk_cell BK363.out 0).trans rfl
         have hcz39_1 : wc.cell? ⟨gb363, 1, none⟩ = some (.int .i64 a1_1) := (blk_cell BK363.out 1).trans rfl
         have hcz39_2 : wc.cell? ⟨gb363, 2, none⟩ = some (.string a1_2) := (blk_cell BK363.out 2).trans rfl
         have hfz39_0 := blk_frozen BK363.out 0
         have hfz39_1 := blk_frozen BK363.out 1
         have hfz39_2 := blk_frozen BK363.out 2
         go_wp2
         go_meet
         case rel => exact ⟨_, ((a0_1 == a1_1)), (by first | rfl | (simp; done) | (simp [*]; done)), H', ⟨by have := HJ14.out; first | omega | exact Nat.le_refl _⟩, ⟨by (with_reducible repeat (first | refine blk_drewN ?_ _ | refine blk_drew ?_ | refine blk_alloc ?_ _)); exact BK362.out⟩, ⟨by (with_reducible repeat (first | refine blk_drewN ?_ _ | refine blk_drew ?_ | refine blk_alloc ?_ _)); exact BK363.out⟩, ⟨by repeat (first | (with_reducible first | exact HB.out | apply below_alloc | apply pw_below_drewN | apply below_drew1 | refine below_set ?_ GE362.out | refine below_set ?_ GE363.out) | exact HB.out)⟩⟩
        ·rw [if_neg c36] at H
         have c36b0 : (a0_0 == 2) = false := beq_eq_false_iff_ne.mpr c36
         have c36b1 : (a0_0 != 2) = true := bne_iff_ne.mpr c36
         have H' := Aside0.mk H
         clear H
         have hnb40 := NB362_363.out
         have hnc40 := NB363_362.out
         have hcz41_0 : wc.cell? ⟨gb362, 0, none⟩ = some (.int .i64 a0_0) := (blk_cell BK362.out 0).trans rfl
         have hcz41_1 : wc.cell? ⟨gb362, 1, none⟩ = some (.int .i64 a0_1) := (blk_cell BK362.out 1).trans rfl
         have hcz41_2 : wc.cell? ⟨gb362, 2, none⟩ = some (.string a0_2) := (blk_cell BK362.out 2).trans rfl
         have hfz41_0 := blk_frozen BK362.out 0
         have hfz41_1 := blk_frozen BK362.out 1
         have hfz41_2 := blk_frozen BK362.out 2
         go_wp2
         go_meet
         case rel => exact ⟨_, (true), (by first | rfl | (simp; done) | (simp [*]; done)), H', ⟨by have := HJ14.out; first | omega | exact Nat.le_refl _⟩, ⟨by (with_reducible repeat (first | refine blk_drewN ?_ _ | refine blk_drew ?_ | refine blk_alloc ?_ _)); exact BK362.out⟩, ⟨by (with_reducible repeat (first | refine blk_drewN ?_ _ | refine blk_drew ?_ | refine blk_alloc ?_ _)); exact BK363.out⟩, ⟨by repeat (first | (with_reducible first | exact HB.out | apply below_alloc | apply pw_below_drewN | apply below_drew1 | refine below_set ?_ GE362.out | refine below_set ?_ GE363.out) | exact HB.out)⟩⟩
      case rest =>
       clear HC31
       try clear c1
       try clear c2
       try clear p2
       try clear c3
       try clear c3b0
       try clear c4
       try clear c6
       try clear c9
       try clear c9b0
       try clear c12
       try clear c18
       try clear c21
       try clear c21b0
       try clear c21b1
       try clear c22
       try clear c24
       try clear c26
       try clear c28
       try clear c32
       try clear c32b0
       try clear c32b1
       try clear c33
       try clear c36
       try clear c36b0
       try clear c36b1
       try clear c37
       try clear c40
       try clear hcz13_0
       try clear hcz13_1
       try clear hcz13_2
       try clear hcz14_0
       try clear hcz14_1
       try clear hcz14_2
       try clear hcz19_0
       try clear hcz19_1
       try clear hcz19_2
       try clear hcz20_0
       try clear hcz20_1
       try clear hcz20_2
       try clear hcz23_0
       try clear hcz23_1
       try clear hcz23_2
       try clear hcz25_0
       try clear hcz25_1
       try clear hcz25_2
       try clear hcz29_0
       try clear hcz29_1
       try clear hcz29_2
       try clear hcz30_0
       try clear hcz30_1
       try clear hcz30_2
       try clear hcz34_0
       try clear hcz34_1
       try clear hcz34_2
       try clear hcz35_0
       try clear hcz35_1
       try clear hcz35_2
       try clear hcz38_0
       try clear hcz38_1
       try clear hcz38_2
       try clear hcz39_0
       try clear hcz39_1
       try clear hcz39_2
       try clear hcz41_0
       try clear hcz41_1
       try clear hcz41_2
       try clear hcz7_0
       try clear hcz7_1
       try clear hcz7_2
       try clear hcz8_0
       try clear hcz8_1
       try clear hcz8_2
       try clear hfz13_0
       try clear hfz13_1
       try clear hfz13_2
       try clear hfz14_0
       try clear hfz14_1
       try clear hfz14_2
       try clear hfz19_0
       try clear hfz19_1
       try clear hfz19_2
       try clear hfz20_0
       try clear hfz20_1
       try clear hfz20_2
       try clear hfz23_0
       try clear hfz23_1
       try clear hfz23_2
       try clear hfz25_0
       try clear hfz25_1
       try clear hfz25_2
       try clear hfz29_0
       try clear hfz29_1
       try clear hfz29_2
       try clear hfz30_0
       try clear hfz30_1
       try clear hfz30_2
       try clear hfz34_0
       try clear hfz34_1
       try clear hfz34_2
       try clear hfz35_0
       try clear hfz35_1
       try clear hfz35_2
       try clear hfz38_0
       try clear hfz38_1
       try clear hfz38_2
       try clear hfz39_0
       try clear hfz39_1
       try clear hfz39_2
       try clear hfz41_0
       try clear hfz41_1
       try clear hfz41_2
       try clear hfz7_0
       try clear hfz7_1
       try clear hfz7_2
       try clear hfz8_0
       try clear hfz8_1
       try clear hfz8_2
       try clear p2
       obtain ⟨kq, x31_30, rfl, HA, HJ30, BK362, BK363, HB⟩ := hcut
       cases kq with
       | zero => exact absurd HA.out (by simp [quarryref01_Compare.j1])
       | succ kj30 =>
        have H := HA.out
        clear HA
        simp only [quarryref01_Compare.j1] at H
        by_cases c42 : x31_30 = true
        ·subst c42
         have H1 : (some 0) = some r := by rw [if_pos rfl] at H; exact H
         clear H
         have H := H1
         clear H1
         obtain rfl := Option.some.inj H
         go_wp2
         go_ret
         exact ⟨by first | rfl | (simp [errW_none, errW_some] <;> rfl) | (simp [*, errW_none, errW_some] <;> rfl), by repeat (first | (with_reducible first | exact HB.out | apply below_alloc | apply pw_below_drewN | apply below_drew1 | refine below_set ?_ GE362.out | refine below_set ?_ GE363.out) | exact HB.out)⟩
        ·replace c42 := Bool.eq_false_iff.mpr c42
         subst c42
         have H1 : (if a0_1 < a1_1 then (some (-1)) else (some 1)) = some r := by rw [if_neg (show ¬ (false = true) by decide)] at H; exact H
         clear H
         have H := H1
         clear H1
         by_cases c43 : a0_1 < a1_1
         ·rw [if_pos c43] at H
          have c43b0 : decide (a0_1 < a1_1) = true := decide_eq_true c43
          clear c43
          obtain rfl := Option.some.inj H
          have hnb44 := NB362_363.out
          have hnc44 := NB363_362.out
          have hcz45_0 : wc.cell? ⟨gb362, 0, none⟩ = some (.int .i64 a0_0) := (blk_cell BK362.out 0).trans rfl
          have hcz45_1 : wc.cell? ⟨gb362, 1, none⟩ = some (.int .i64 a0_1) := (blk_cell BK362.out 1).trans rfl
          have hcz45_2 : wc.cell? ⟨gb362, 2, none⟩ = some (.string a0_2) := (blk_cell BK362.out 2).trans rfl
          have hfz45_0 := blk_frozen BK362.out 0
          have hfz45_1 := blk_frozen BK362.out 1
          have hfz45_2 := blk_frozen BK362.out 2
          have hcz46_0 : wc.cell? ⟨gb363, 0, none⟩ = some (.int .i64 a1_0) := (blk_cell BK363.out 0).trans rfl
          have hcz46_1 : wc.cell? ⟨gb363, 1, none⟩ = some (.int .i64 a1_1) := (blk_cell BK363.out 1).trans rfl
          have hcz46_2 : wc.cell? ⟨gb363, 2, none⟩ = some (.string a1_2) := (blk_cell BK363.out 2).trans rfl
          have hfz46_0 := blk_frozen BK363.out 0
          have hfz46_1 := blk_frozen BK363.out 1
          have hfz46_2 := blk_frozen BK363.out 2
          go_wp2
          go_ret
          exact ⟨by first | rfl | (simp [errW_none, errW_some] <;> rfl) | (simp [*, errW_none, errW_some] <;> rfl), by repeat (first | (with_reducible first | exact HB.out | apply below_alloc | apply pw_below_drewN | apply below_drew1 | refine below_set ?_ GE362.out | refine below_set ?_ GE363.out) | exact HB.out)⟩
         ·rw [if_neg c43] at H
          have c43b0 : decide (a0_1 < a1_1) = false := decide_eq_false c43
          clear c43
          obtain rfl := Option.some.inj H
          have hnb47 := NB362_363.out
          have hnc47 := NB363_362.out
          have hcz48_0 : wc.cell? ⟨gb362, 0, none⟩ = some (.int .i64 a0_0) := (blk_cell BK362.out 0).trans rfl
          have hcz48_1 : wc.cell? ⟨gb362, 1, none⟩ = some (.int .i64 a0_1) := (blk_cell BK362.out 1).trans rfl
          have hcz48_2 : wc.cell? ⟨gb362, 2, none⟩ = some (.string a0_2) := (blk_cell BK362.out 2).trans rfl
          have hfz48_0 := blk_frozen BK362.out 0
          have hfz48_1 := blk_frozen BK362.out 1
          have hfz48_2 := blk_frozen BK362.out 2
          have hcz49_0 : wc.cell? ⟨gb363, 0, none⟩ = some (.int .i64 a1_0) := (blk_cell BK363.out 0).trans rfl
          have hcz49_1 : wc.cell? ⟨gb363, 1, none⟩ = some (.int .i64 a1_1) := (blk_cell BK363.out 1).trans rfl
          have hcz49_2 : wc.cell? ⟨gb363, 2, none⟩ = some (.string a1_2) := (blk_cell BK363.out 2).trans rfl
          have hfz49_0 := blk_frozen BK363.out 0
          have hfz49_1 := blk_frozen BK363.out 1
          have hfz49_2 := blk_frozen BK363.out 2
          go_wp2
          go_ret
          exact ⟨by first | rfl | (simp [errW_none, errW_some] <;> rfl) | (simp [*, errW_none, errW_some] <;> rfl), by repeat (first | (with_reducible first | exact HB.out | apply below_alloc | apply pw_below_drewN | apply below_drew1 | refine below_set ?_ GE362.out | refine below_set ?_ GE363.out) | exact HB.out)⟩
end Go.Proofs.Ytmfenomjhmhogaa.P
end
section
namespace Go.Proofs.Ytmfenomjhmhogaa.Pure
set_option linter.unusedVariables false
set_option linter.unusedSimpArgs false
open Go.RowKit Go.Proofs.Ytmfenomjhmhogaa.P Go.Proofs.YtmfenomjhmhogaaW.PrintWords Go.Proofs.YtmfenomjhmhogaaW.PrintLast Go.Proofs.YtmfenomjhmhogaaW.PrintMore
def cmpI (a b : Int) : Int := if a < b then -1 else if b < a then 1 else 0
def cmpT (a b : ByteArray) : Int := Lib.compareBytes a.data.toList b.data.toList
def cmpV (x y : S25) : Int := if x.f0 = y.f0 then (if x.f0 = 1 ∨ x.f0 = 2 then cmpI x.f1 y.f1 else if x.f0 = 3 ∨ x.f0 = 4 then cmpT x.f2 y.f2 else 0) else cmpI x.f0 y.f0
def S3 (c : Int) : Prop := c = -1 ∨ c = 0 ∨ c = 1
theorem cmpI_s3 (a b : Int) : S3 (cmpI a b) := by
  unfold cmpI S3; split
  · exact .inl rfl
  · split
    · exact .inr (.inr rfl)
    · exact .inr (.inl rfl)
theorem cmpB_s3 : ∀ a b : List UInt8, S3 (Lib.compareBytes a b)
  | [], [] => .inr (.inl rfl)
  | [], _ :: _ => .inl rfl
  | _ :: _, [] => .inr (.inr rfl)
  | a :: l, b :: m => by
    unfold Lib.compareBytes
    split
    · exact .inl rfl
    · split
      · exact .inr (.inr rfl)
      · exact cmpB_s3 l m
theorem cmpV_s3 (x y : S25) : S3 (cmpV x y) := by
  unfold cmpV
  split
  · split
    · exact cmpI_s3 _ _
    · split
      · exact cmpB_s3 _ _
      · exact .inr (.inl rfl)
  · exact cmpI_s3 _ _
theorem rd_at (pre : List S25) (x : S25) (suf : List S25) : rd_T25 (pre ++ x :: suf) (pre.length : Int) = x := by
  unfold rd_T25
  simp
theorem bt_at' (s : ByteArray) (pre : List UInt8) (c : UInt8) (suf : List UInt8) (h : s.data.toList = pre ++ c :: suf) : bt s (pre.length : Int) = (c.toNat : Int) := by
  unfold bt
  have hl : s.size = pre.length + (suf.length + 1) := by
    have : s.size = s.data.toList.length := by rw [Array.length_toList]; rfl
    rw [this, h]; simp
  have hi : (pre.length : Int).toNat < s.size := by omega
  rw [dif_pos hi]
  have e : s[(pre.length : Int).toNat] = s.data.toList[(pre.length : Int).toNat]'(by rw [Array.length_toList]; exact hi) := by
    rw [Array.getElem_toList]; rfl
  rw [e]
  have : s.data.toList[(pre.length : Int).toNat]'(by rw [Array.length_toList]; exact hi) = c := by
    rw [List.getElem_of_eq h]
    simp
  rw [this]
end Go.Proofs.Ytmfenomjhmhogaa.Pure
end
section
namespace Go.Proofs.Ytmfenomjhmhogaa.P
def V0 : ByteArray := ⟨#[]⟩
end Go.Proofs.Ytmfenomjhmhogaa.P
end
section
namespace Go.Proofs.Ytmfenomjhmhogaa.P
set_option linter.unusedVariables false
set_option linter.unusedSimpArgs false
open Go.RowKit Go.Proofs.Ytmfenomjhmhogaa.Pure Go.Proofs.YtmfenomjhmhogaaW.PrintWords Go.Proofs.YtmfenomjhmhogaaW.PrintLast Go.Proofs.YtmfenomjhmhogaaW.PrintMore
def encV (v : S25) : Value := .agg #[.int .i64 v.f0, .int .i64 v.f1, .string v.f2]
def outE (r : Except Int S25) : S25 × Int := match r with | .ok v => (v, 0) | .error c => (⟨0, 0, V0⟩, c)
def In64 (n : Int) : Prop := -9223372036854775808 ≤ n ∧ n ≤ 9223372036854775807
instance (n : Int) : Decidable (In64 n) := by unfold In64; infer_instance
def prodP (a b : Int) : Except Int Int := if In64 (a * b) then .ok (a * b) else .error 40
def sumP (op a b : Int) : Except Int Int :=
  if op = 11 then (if In64 (a + b) then .ok (a + b) else .error 40)
  else if op = 12 then (if In64 (a - b) then .ok (a - b) else .error 40)
  else if op = 13 then prodP a b
  else if b = 0 then .error 41
  else if op = 15 then (if b = -1 then .ok 0 else .ok (Int.tmod a b))
  else if a = -9223372036854775808 ∧ b = -1 then .error 40 else .ok (Int.tdiv a b)
theorem wrap_in (n : Int) : In64 (wrap64 n) := by unfold wrap64 In64; omega
theorem quo_in {a b : Int} (ha : In64 a) (hb : In64 b) (hz : ¬ b = 0) (h : ¬ (a = -9223372036854775808 ∧ b = -1)) : wrap64 (Int.tdiv a b) = Int.tdiv a b := by
  unfold In64 at ha hb
  have h1 : (Int.tdiv a b).natAbs = a.natAbs / b.natAbs := by rw [Int.natAbs_tdiv]; rfl
  have h2 : a.natAbs / b.natAbs ≤ a.natAbs := Nat.div_le_self _ _
  by_cases e : a = -9223372036854775808
  · by_cases e1 : b = 1
    · subst e1
      rw [Int.tdiv_one]
      unfold wrap64
      omega
    have h3 : 2 ≤ b.natAbs := by omega
    have h4 : a.natAbs / b.natAbs ≤ a.natAbs / 2 := Nat.div_le_div_left h3 (by decide)
    unfold wrap64
    omega
  · unfold wrap64
    omega
def truthV (b : Bool) : S25 := ⟨1, if b = true then 1 else 0, V0⟩
def zeroV : S25 := ⟨0, 0, V0⟩
def wantsP (op : Int) : Int := if op ≤ 4 then 1 else if op ≤ 10 then 0 else if op = 16 then 3 else 2
def holdsP (op c : Int) : Bool := if op = 5 then c == 0 else if op = 6 then c != 0 else if op = 7 then decide (c < 0) else if op = 8 then decide (c ≤ 0) else if op = 9 then decide (0 < c) else decide (0 ≤ c)
instance decSV : DecidableEq S25 := fun a b =>
  if h : a.f0 = b.f0 ∧ a.f1 = b.f1 ∧ a.f2 = b.f2 then .isTrue (by cases a; cases b; simp_all) else .isFalse (by rintro rfl; exact h ⟨rfl, rfl, rfl⟩)
def logicP (u v s : S25) : S25 := if u = s ∨ v = s then s else if u.f0 = 0 ∨ v.f0 = 0 then zeroV else truthV (!decide (s = truthV true))
def kindsP (op a b : Int) : Prop := if wantsP op ≠ 0 then (a = wantsP op ∨ a = 0) ∧ (b = wantsP op ∨ b = 0) else a = 0 ∨ b = 0 ∨ a = b
instance (op a b : Int) : Decidable (kindsP op a b) := by unfold kindsP; infer_instance
def numE : Except Int Int → Except Int S25 | .ok n => .ok ⟨2, n, V0⟩ | .error c => .error c
def bin (op : Int) (u v : S25) : Except Int S25 :=
  if ¬ (3 ≤ op ∧ op ≤ 16) then .error 5
  else if ¬ kindsP op u.f0 v.f0 then .error 35
  else if op ≤ 4 then .ok (logicP u v (truthV (op == 3)))
  else if u.f0 = 0 ∨ v.f0 = 0 then .ok zeroV
  else if op ≤ 10 then .ok (truthV (holdsP op (cmpV u v)))
  else if op = 16 then (if u.f2.size + v.f2.size ≤ 2048 then .ok ⟨3, 0, u.f2 ++ v.f2⟩ else .error 8)
  else numE (sumP op u.f1 v.f1)
theorem eqb (u s : S25) : (u.f0 == s.f0 && (u.f1 == s.f1 && (u.f2.toList == s.f2.toList))) = decide (u = s) := by
  by_cases h : u = s
  · subst h; simp
  · rw [decide_eq_false h]
    by_cases h0 : u.f0 = s.f0
    · by_cases h1 : u.f1 = s.f1
      · by_cases h2 : u.f2.toList = s.f2.toList
        · exact absurd (by cases u; cases s; simp only at h0 h1 h2; rw [h0, h1, toList_inj h2]) h
        · simp [h2]
      · simp [h1]
    · simp [h0]
theorem below_set3 {B : Nat} {a w : World} (h : Below B a w) {b : Nat} (hb : B ≤ b) (o1 o2 o3 : Nat) (v1 v2 v3 : Value) : Below B a (((w.setCell ⟨b, o1, none⟩ v1).setCell ⟨b, o2, none⟩ v2).setCell ⟨b, o3, none⟩ v3) :=
  Below.setCell (Below.setCell (Below.setCell h (p := ⟨b, o1, none⟩) hb v1) (p := ⟨b, o2, none⟩) hb v2) (p := ⟨b, o3, none⟩) hb v3
end Go.Proofs.Ytmfenomjhmhogaa.P
end
section
namespace Go.Proofs.Ytmfenomjhmhogaa.Pure
set_option linter.unusedVariables false
set_option linter.unusedSimpArgs false
open Go.RowKit Go.Proofs.Ytmfenomjhmhogaa.P Go.Proofs.YtmfenomjhmhogaaW.PrintWords Go.Proofs.YtmfenomjhmhogaaW.PrintLast Go.Proofs.YtmfenomjhmhogaaW.PrintMore
theorem texts_loop (s t : ByteArray) (hs : s.size ≤ 140737488351232) : ∀ (a b pa pb : List UInt8), s.data.toList = pa ++ a → t.data.toList = pb ++ b → pa.length = pb.length →
    Ev (fun k => quarryref01_texts.l0 k s t (pa.length : Int)) (Lib.compareBytes a b) := by
  have hz : ∀ u : ByteArray, u.size = u.data.toList.length := fun u => by rw [Array.length_toList]; rfl
  intro a
  induction a with
  | nil =>
    intro b pa pb ha hb hp
    have h1 := hz s
    have h2 := hz t
    rw [ha] at h1
    rw [hb] at h2
    simp only [List.append_nil, List.length_append] at h1 h2
    have e1 : ¬ ((pa.length : Int) < (s.size : Int)) := by omega
    refine Ev.succ ?_
    simp only [quarryref01_texts.l0, e1, if_false]
    refine Ev.succ ?_
    simp only [quarryref01_texts.j1, Bool.false_eq_true, if_false]
    cases b with
    | nil =>
      simp only [List.length_nil] at h2
      have e2 : ¬ (s.size : Int) < (t.size : Int) := by omega
      have e3 : ¬ (s.size : Int) > (t.size : Int) := by omega
      simp only [e2, e3, if_false]
      exact Ev.pure _
    | cons y b =>
      simp only [List.length_cons] at h2
      have e2 : (s.size : Int) < (t.size : Int) := by omega
      simp only [e2, if_true]
      exact Ev.pure _
  | cons x a ih =>
    intro b pa pb ha hb hp
    have h1 := hz s
    have h2 := hz t
    rw [ha] at h1
    rw [hb] at h2
    simp only [List.length_append, List.length_cons] at h1 h2
    have e1 : ((pa.length : Int) < (s.size : Int)) := by omega
    have e0 : (0 : Int) ≤ (pa.length : Int) := by omega
    refine Ev.succ ?_
    simp only [quarryref01_texts.l0, e1, if_true]
    refine Ev.succ ?_
    cases b with
    | nil =>
      simp only [List.length_nil] at h2
      have e2 : ¬ ((pa.length : Int) < (t.size : Int)) := by omega
      have e3 : ¬ (s.size : Int) < (t.size : Int) := by omega
      have e4 : (s.size : Int) > (t.size : Int) := by omega
      simp only [quarryref01_texts.j1, e2, decide_false, Bool.false_eq_true, if_false, e3, e4, if_true]
      exact Ev.pure _
    | cons y b =>
      simp only [List.length_cons] at h2
      have e2 : ((pa.length : Int) < (t.size : Int)) := by omega
      have b1 := bt_at' s pa x a ha
      have b2 := bt_at' t pb y b hb
      rw [← hp] at b2
      simp only [quarryref01_texts.j1, e2, decide_true, if_true, e0, e1, b1, b2]
      unfold Lib.compareBytes
      by_cases c1 : x < y
      · have c1' : (x.toNat : Int) < (y.toNat : Int) := by have := UInt8.lt_iff_toNat_lt.1 c1; omega
        simp only [c1, c1', if_true]
        exact Ev.pure _
      · have c1' : ¬ (x.toNat : Int) < (y.toNat : Int) := fun h => c1 (UInt8.lt_iff_toNat_lt.2 (by omega))
        by_cases c2 : y < x
        · have c2' : (x.toNat : Int) > (y.toNat : Int) := by have := UInt8.lt_iff_toNat_lt.1 c2; omega
          simp only [c1, c1', c2, c2', if_true, if_false]
          exact Ev.pure _
        · have c2' : ¬ (x.toNat : Int) > (y.toNat : Int) := fun h => c2 (UInt8.lt_iff_toNat_lt.2 (by omega))
          have e6 : wrap64 ((pa.length : Int) + 1) = (pa.length : Int) + 1 := wrap64_in (by omega) (by omega)
          simp only [c1, c1', c2, c2', if_false, e6]
          have := ih b (pa ++ [x]) (pb ++ [y]) (by simpa using ha) (by simpa using hb) (by simpa using hp)
          simpa using this
theorem texts_ev (s t : ByteArray) (hs : s.size ≤ 140737488351232) : Ev (fun k => quarryref01_texts.f k s t) (cmpT s t) := by
  unfold quarryref01_texts.f cmpT
  have := texts_loop s t hs s.data.toList t.data.toList [] [] rfl rfl rfl
  simpa using this
theorem ref_cmp_ev (x y : S25) (hx : x.f2.size ≤ 140737488351232) : Ev (fun k => quarryref01_Compare.f k x.f0 x.f1 x.f2 y.f0 y.f1 y.f2) (cmpV x y) := by
  unfold quarryref01_Compare.f cmpV cmpI
  by_cases c1 : x.f0 < y.f0
  · have e : ¬ x.f0 = y.f0 := by omega
    simp only [c1, e, if_true, if_false]
    exact Ev.pure _
  by_cases c2 : y.f0 < x.f0
  · have e : ¬ x.f0 = y.f0 := by omega
    simp only [c1, c2, e, gt_iff_lt, if_true, if_false]
    exact Ev.pure _
  have e : x.f0 = y.f0 := by omega
  rw [if_pos e]
  simp only [c1, c2, gt_iff_lt, if_false]
  have hj : Ev (fun k => quarryref01_Compare.j0 k (x.f0 == 3 || x.f0 == 4) x.f0 x.f1 x.f2 y.f0 y.f1 y.f2) (if x.f0 = 1 ∨ x.f0 = 2 then (if x.f1 < y.f1 then -1 else if y.f1 < x.f1 then 1 else 0) else if x.f0 = 3 ∨ x.f0 = 4 then cmpT x.f2 y.f2 else 0) := by
    refine Ev.succ ?_
    simp only [quarryref01_Compare.j0]
    by_cases h34 : x.f0 = 3 ∨ x.f0 = 4
    · have q : (x.f0 == 3 || x.f0 == 4) = true := by simpa using h34
      rw [if_neg (by omega), if_pos h34]
      simp only [q, if_true]
      exact Ev.bind (texts_ev _ _ hx) (Ev.pure _)
    have q : (x.f0 == 3 || x.f0 == 4) = false := by simpa using h34
    simp only [q, Bool.false_eq_true, if_false]
    rw [if_neg h34]
    have hk : Ev (fun k => quarryref01_Compare.j1 k (x.f1 == y.f1) x.f0 x.f1 x.f2 y.f0 y.f1 y.f2) (if x.f1 < y.f1 then -1 else if y.f1 < x.f1 then 1 else 0) := by
      refine Ev.succ ?_
      simp only [quarryref01_Compare.j1]
      by_cases g : x.f1 = y.f1
      · simp only [g, beq_self_eq_true, if_true, Int.lt_irrefl, if_false]
        exact Ev.pure _
      · have : (x.f1 == y.f1) = false := by simpa using g
        simp only [this, Bool.false_eq_true, if_false]
        by_cases g1 : x.f1 < y.f1
        · simp only [g1, if_true]; exact Ev.pure _
        · have g2 : y.f1 < x.f1 := by omega
          simp only [g1, g2, if_true, if_false]; exact Ev.pure _
    by_cases h1 : x.f0 = 1
    · rw [if_pos (.inl h1)]
      simp only [h1, if_true] at hk ⊢
      exact hk
    by_cases h2 : x.f0 = 2
    · rw [if_pos (.inr h2)]
      simp only [h1, h2, if_true, if_false] at hk ⊢
      exact hk
    rw [if_neg (by omega)]
    simp only [h1, h2, if_false]
    refine Ev.succ ?_
    simp only [quarryref01_Compare.j1, if_true]
    exact Ev.pure _
  by_cases h3 : x.f0 = 3
  · have q : (x.f0 == 3 || x.f0 == 4) = true := by simp [h3]
    rw [q] at hj
    simp only [h3, if_true] at hj ⊢
    exact hj
  · have q : (x.f0 == 3 || x.f0 == 4) = (x.f0 == 4) := by simp [h3]
    rw [q] at hj
    simp only [h3, if_false] at hj ⊢
    exact hj
end Go.Proofs.Ytmfenomjhmhogaa.Pure
end
section
namespace Go.Proofs.Ytmfenomjhmhogaa.Pure
set_option linter.unusedVariables false
set_option linter.unusedSimpArgs false
open Go.RowKit Go.Proofs.Ytmfenomjhmhogaa.P Go.Proofs.YtmfenomjhmhogaaW.PrintWords Go.Proofs.YtmfenomjhmhogaaW.PrintLast Go.Proofs.YtmfenomjhmhogaaW.PrintMore
def goesP (op a : Int) : Bool := decide (wantsP op = 0 ∨ a = wantsP op ∨ a = 0)
theorem goes_ev {op : Int} (h3 : 3 ≤ op) (h16 : op ≤ 16) (a : Int) : Ev (fun k => quarryref02_goes.f k op a) (goesP op a) := by
  have hj1 : ∀ x : Bool, Ev (fun k => quarryref02_goes.j1 k op a x) (if x = true then a == 1 else if op = 16 then a == 3 else a == 2) := by
    intro x
    refine Ev.succ ?_
    simp only [quarryref02_goes.j1]
    cases x
    · by_cases h : op = 16
      · simp only [h, if_true]; exact Ev.pure _
      · simp only [h, if_false]; exact Ev.pure _
    · exact Ev.pure _
  have hj0 : ∀ x : Bool, Ev (fun k => quarryref02_goes.j0 k op a x) (if x = true then true else if op ≤ 4 then a == 1 else if op = 16 then a == 3 else a == 2) := by
    intro x
    refine Ev.succ ?_
    simp only [quarryref02_goes.j0]
    cases x
    · simp only [Bool.false_eq_true, if_false]
      by_cases e3 : op = 3
      · simp only [e3, if_true, beq_self_eq_true]
        have := hj1 true
        rw [e3] at this
        simpa using this
      · simp only [e3, if_false]
        by_cases e4 : op = 4
        · have := hj1 true
          rw [e4] at this ⊢
          simpa using this
        · have h4 : ¬ op ≤ 4 := by omega
          rw [if_neg h4, beq_eq_false_iff_ne.mpr e4]
          have := hj1 false
          simpa using this
    · exact Ev.pure _
  unfold quarryref02_goes.f goesP wantsP
  by_cases h0 : a = 0
  · have := hj0 true
    subst h0
    simpa using this
  · simp only [h0, if_false, or_false]
    by_cases h5 : op ≥ 5
    · have h4 : ¬ op ≤ 4 := by omega
      simp only [h5, if_true, h4, if_false]
      by_cases h10 : op ≤ 10
      · have := hj0 true
        simpa [h10] using this
      · have := hj0 false
        simp only [Bool.false_eq_true, if_false, h4] at this
        by_cases h16 : op = 16
        · simpa [h10, h16, BEq.beq, eq_comm] using this
        · simpa [h10, h16, BEq.beq, eq_comm] using this
    · have h4 : op ≤ 4 := by omega
      have := hj0 false
      simp only [Bool.false_eq_true, if_false, h4, if_true] at this
      simpa [h5, h4, BEq.beq, eq_comm] using this
theorem truthR_f (b : Bool) : quarryref02_Truth.f b = some ((truthV b).f0, (truthV b).f1, (truthV b).f2) := by cases b <;> rfl
theorem holdsR_f (op c : Int) : quarryref02_holds.f op c = some (holdsP op c) := by
  unfold quarryref02_holds.f holdsP
  repeat' split
  all_goals rfl
theorem logicR_ev {op : Int} (h3 : 3 ≤ op) (h4 : op ≤ 4) (u v : S25) : Ev (fun k => quarryref02_logic.f k op u.f0 u.f1 u.f2 v.f0 v.f1 v.f2) ((logicP u v (truthV (op == 3))).f0, (logicP u v (truthV (op == 3))).f1, (logicP u v (truthV (op == 3))).f2) := by
  have ho : truthV (!decide (truthV (op == 3) = truthV true)) = truthV (op == 4) := by
    rcases (by omega : op = 3 ∨ op = 4) with h | h <;> subst h <;> decide
  obtain ⟨s, hs⟩ : ∃ s, truthV (op == 3) = s := ⟨_, rfl⟩
  rw [hs] at ho ⊢
  have hj0 : ∀ b : Bool, Ev (fun k => quarryref02_logic.j0 k op b u.f0 u.f1 u.f2 v.f0 v.f1 v.f2 s.f0 s.f1 s.f2) (if b = true then (s.f0, s.f1, s.f2) else if u.f0 = 0 ∨ v.f0 = 0 then (0, 0, V0) else ((truthV (op == 4)).f0, (truthV (op == 4)).f1, (truthV (op == 4)).f2)) := by
    intro b
    refine Ev.succ ?_
    simp only [quarryref02_logic.j0, truthR_f, Option.bind_some]
    cases b
    · simp only [Bool.false_eq_true, if_false]
      by_cases h0 : u.f0 = 0
      · simp only [h0, if_true, true_or]; exact Ev.pure _
      · by_cases h1 : v.f0 = 0
        · simp only [h0, h1, if_true, if_false, or_true]; exact Ev.pure _
        · simp only [h0, h1, if_false, or_self]; exact Ev.pure _
    · exact Ev.pure _
  unfold quarryref02_logic.f logicP
  simp only [truthR_f, Option.bind_some, hs, eqb]
  by_cases h0 : u = s
  · have := hj0 true
    simpa [h0] using this
  · have := hj0 (decide (v = s))
    by_cases h1 : v = s
    · simpa [h0, h1] using this
    · simp only [h0, h1, decide_false, Bool.false_eq_true, if_false, or_self, ho] at this ⊢
      by_cases h2 : u.f0 = 0 ∨ v.f0 = 0
      · simp only [h2, if_true] at this ⊢; exact this
      · simp only [h2, if_false] at this ⊢; exact this
theorem wrap_at {n : Int} (h : In64 n) : wrap64 n = n := by unfold In64 at h; unfold wrap64; omega
theorem prod_back {a b : Int} (ha : In64 a) (hb : In64 b) (h0 : ¬ b = 0) (h1 : ¬ b = -1) : ((wrap64 (Int.tdiv (wrap64 (a * b)) b)) == a) = decide (In64 (a * b)) := by
  have hq : wrap64 (Int.tdiv (wrap64 (a * b)) b) = Int.tdiv (wrap64 (a * b)) b := P.quo_in (P.wrap_in _) hb h0 (fun h => h1 h.2)
  rw [hq]
  by_cases h : In64 (a * b)
  · rw [decide_eq_true h, wrap_at h, Int.mul_tdiv_cancel _ h0]
    exact beq_self_eq_true a
  · rw [decide_eq_false h]
    refine beq_eq_false_iff_ne.mpr fun e => h ?_
    have hd := Int.tmod_add_mul_tdiv (wrap64 (a * b)) b
    rw [e] at hd
    have hm : (Int.tmod (wrap64 (a * b)) b).natAbs < b.natAbs := by rw [Int.natAbs_tmod]; exact Nat.mod_lt _ (by omega)
    have hc : b * a = a * b := Int.mul_comm b a
    rw [hc] at hd
    obtain ⟨P, hP⟩ : ∃ P, a * b = P := ⟨_, rfl⟩
    rw [hP] at hd hm ⊢
    unfold In64 at hb ⊢
    unfold wrap64 at hd hm
    obtain ⟨t, ht⟩ : ∃ t, Int.tmod ((P + 9223372036854775808) % 18446744073709551616 - 9223372036854775808) b = t := ⟨_, rfl⟩
    rw [ht] at hd hm
    omega
theorem neg_bne {b : Int} (hb : In64 b) : (b != -9223372036854775808) = decide (In64 (-b)) := by
  by_cases q : b = -9223372036854775808
  · subst q; decide
  · rw [bne_iff_ne.mpr q]
    refine (decide_eq_true ?_).symm
    unfold In64 at hb ⊢
    omega
theorem times_ev {a b : Int} (ha : In64 a) (hb : In64 b) : Ev (fun k => quarryref02_times.f k a b) (wrap64 (a * b), decide (In64 (a * b))) := by
  have h00 : In64 0 := by unfold In64; omega
  have hj : ∀ x : Bool, x = decide (a = 0 ∨ b = 0) → Ev (fun k => quarryref02_times.j0 k a b x) (wrap64 (a * b), decide (In64 (a * b))) := by
    intro x hx
    refine Ev.succ ?_
    simp only [quarryref02_times.j0]
    by_cases h : a = 0 ∨ b = 0
    · have e : a * b = 0 := by rcases h with h | h <;> simp [h]
      rw [hx, decide_eq_true h, e]
      simp only [if_true, wrap_at h00, decide_eq_true h00]
      exact Ev.pure _
    · have na : ¬ a = 0 := fun q => h (.inl q)
      have nb : ¬ b = 0 := fun q => h (.inr q)
      rw [hx, decide_eq_false h]
      simp only [Bool.false_eq_true, if_false]
      by_cases ea : a = -1
      · have e : a * b = -b := by rw [ea]; omega
        simp only [ea, if_true]
        rw [ea] at e
        rw [e]
        rw [neg_bne hb]; exact Ev.pure _
      · simp only [ea, if_false]
        by_cases eb : b = -1
        · have e : a * b = -a := by rw [eb]; omega
          rw [e]
          simp only [eb, if_true, neg_bne ha]
          exact Ev.pure _
        · simp only [eb, nb, if_false, prod_back ha hb nb eb]
          exact Ev.pure _
  unfold quarryref02_times.f
  by_cases h0 : a = 0
  · simp only [if_pos h0]; exact hj true (by simp [h0])
  · simp only [if_neg h0]; exact hj (b == 0) (by by_cases q : b = 0 <;> simp [h0, q])
def sumR (op a b : Int) : Int × Bool :=
  if op = 11 then (wrap64 (a + b), decide (In64 (a + b))) else if op = 12 then (wrap64 (a - b), decide (In64 (a - b))) else if op = 13 then (wrap64 (a * b), decide (In64 (a * b)))
  else if op = 14 then (if b = -1 then (wrap64 (-a), a != -9223372036854775808) else (Int.tdiv a b, true)) else if b = -1 then (0, true) else (Int.tmod a b, true)
theorem sumR_ev {op a b : Int} (ha : In64 a) (hb : In64 b) (hz : 14 ≤ op → ¬ b = 0) (ho : 11 ≤ op) : Ev (fun k => quarryref02_sum.f k op a b) (sumR op a b) := by
  unfold quarryref02_sum.f sumR
  by_cases h11 : op = 11
  · simp only [if_pos h11]
    by_cases hb0 : b = 0
    · subst hb0
      rw [Int.add_zero, wrap_at ha, decide_eq_true ha]
      simp only [gt_iff_lt, Int.lt_irrefl, beq_self_eq_true, if_true]
      exact Ev.pure _
    have e : (decide (wrap64 (a + b) > a) == decide (b > 0)) = decide (In64 (a + b)) := by
      by_cases h : In64 (a + b)
      · rw [wrap_at h, decide_eq_true h]
        by_cases q : b > 0
        · rw [decide_eq_true q, decide_eq_true (by omega)]; rfl
        · rw [decide_eq_false q, decide_eq_false (by omega)]; rfl
      · rw [decide_eq_false h]
        unfold In64 at ha hb h
        by_cases q : b > 0
        · rw [decide_eq_true q, decide_eq_false (by unfold wrap64; omega)]; rfl
        · rw [decide_eq_false q, decide_eq_true (by unfold wrap64; omega)]; rfl
    rw [e]
    have : (b == 0) = false := beq_eq_false_iff_ne.mpr hb0
    by_cases h : In64 (a + b)
    · simp only [decide_eq_true h, if_true]; exact Ev.pure _
    · simp only [decide_eq_false h, Bool.false_eq_true, if_false, this]; exact Ev.pure _
  simp only [if_neg h11]
  by_cases h12 : op = 12
  · simp only [if_pos h12]
    by_cases hb0 : b = 0
    · subst hb0
      rw [Int.sub_zero, wrap_at ha, decide_eq_true ha]
      simp only [Int.lt_irrefl, beq_self_eq_true, if_true]
      exact Ev.pure _
    have e : (decide (wrap64 (a - b) < a) == decide (b > 0)) = decide (In64 (a - b)) := by
      by_cases h : In64 (a - b)
      · rw [wrap_at h, decide_eq_true h]
        by_cases q : b > 0
        · rw [decide_eq_true q, decide_eq_true (by omega)]; rfl
        · rw [decide_eq_false q, decide_eq_false (by omega)]; rfl
      · rw [decide_eq_false h]
        unfold In64 at ha hb h
        by_cases q : b > 0
        · rw [decide_eq_true q, decide_eq_false (by unfold wrap64; omega)]; rfl
        · rw [decide_eq_false q, decide_eq_true (by unfold wrap64; omega)]; rfl
    rw [e]
    have : (b == 0) = false := beq_eq_false_iff_ne.mpr hb0
    by_cases h : In64 (a - b)
    · simp only [decide_eq_true h, if_true]; exact Ev.pure _
    · simp only [decide_eq_false h, Bool.false_eq_true, if_false, this]; exact Ev.pure _
  simp only [if_neg h12]
  by_cases h13 : op = 13
  · simp only [if_pos h13]
    exact Ev.bind (times_ev ha hb) (Ev.pure _)
  simp only [if_neg h13]
  have nz := hz (by omega)
  by_cases h14 : op = 14
  · simp only [if_pos h14]
    by_cases hm : b = -1
    · simp only [if_pos hm]; exact Ev.pure _
    · simp only [if_neg hm, if_neg nz, P.quo_in ha hb nz (fun h => hm h.2)]; exact Ev.pure _
  · simp only [if_neg h14]
    by_cases hm : b = -1
    · simp only [if_pos hm]; exact Ev.pure _
    · simp only [if_neg hm, if_neg nz]; exact Ev.pure _
theorem sumP_R {op a b : Int} (ha : In64 a) (hb : In64 b) (hz : 14 ≤ op → ¬ b = 0) (h11 : 11 ≤ op) (h15 : op ≤ 15) : sumP op a b = if (sumR op a b).2 = true then .ok (sumR op a b).1 else .error 40 := by
  unfold sumP sumR prodP
  by_cases e11 : op = 11
  · simp only [if_pos e11]
    by_cases h : In64 (a + b)
    · simp [h, wrap_at h]
    · simp [h]
  simp only [if_neg e11]
  by_cases e12 : op = 12
  · simp only [if_pos e12]
    by_cases h : In64 (a - b)
    · simp [h, wrap_at h]
    · simp [h]
  simp only [if_neg e12]
  by_cases e13 : op = 13
  · simp only [if_pos e13]
    by_cases h : In64 (a * b)
    · simp [h, wrap_at h]
    · simp [h]
  simp only [if_neg e13, if_neg (hz (by omega))]
  by_cases e14 : op = 14
  · have e15 : ¬ op = 15 := by omega
    simp only [if_pos e14, if_neg e15]
    by_cases hm : b = -1
    · simp only [if_pos hm]
      by_cases q : a = -9223372036854775808
      · subst q; subst hm; simp
      · have hn : In64 (-a) := by unfold In64 at ha ⊢; omega
        simp [q, wrap_at hn, hm]
    · simp [hm]
  · have e15 : op = 15 := by omega
    simp only [if_neg e14, if_pos e15]
    by_cases hm : b = -1
    · simp [hm]
    · simp [hm]
end Go.Proofs.Ytmfenomjhmhogaa.Pure
end
section
namespace Go.Proofs.Ytmfenomjhmhogaa.P
open Go.RowKit Go.Proofs.Ytmfenomjhmhogaa.Pure Go.Proofs.YtmfenomjhmhogaaW.PrintWords Go.Proofs.YtmfenomjhmhogaaW.PrintLast Go.Proofs.YtmfenomjhmhogaaW.PrintMore
attribute [local go_sem] max2_int min2_int max_two min_two max_three min_three max_four min_four
set_option linter.unusedVariables false
set_option linter.unusedSimpArgs false
theorem logicR_calls {op : Int} (h3 : 3 ≤ op) (h4 : op ≤ 4) (u v : S25) (w : World) : Calls Try.prog 57 #[.int .i64 op, .agg #[.int .i64 u.f0, .int .i64 u.f1, .string u.f2], .agg #[.int .i64 v.f0, .int .i64 v.f1, .string v.f2]] w fun e w' => e = .returned (.agg #[.int .i64 (logicP u v (truthV (op == 3))).f0, .int .i64 (logicP u v (truthV (op == 3))).f1, .string (logicP u v (truthV (op == 3))).f2]) ∧ Below w.heap.size w w' := by
  obtain ⟨k, hk⟩ := (logicR_ev h3 h4 u v).get
  exact quarryref02_logic.calls k _ _ _ _ _ _ _ _ _ _ w hk
theorem compareR_calls (u v : S25) (hz : u.f2.size ≤ 140737488351232) (w : World) : Calls Try.prog 60 #[.agg #[.int .i64 u.f0, .int .i64 u.f1, .string u.f2], .agg #[.int .i64 v.f0, .int .i64 v.f1, .string v.f2]] w fun e w' => e = .returned (.int .i64 (cmpV u v)) ∧ Below w.heap.size w w' := by
  obtain ⟨k, hk⟩ := (ref_cmp_ev u v hz).get
  exact quarryref01_Compare.calls k _ _ _ _ _ _ _ w hk
def BR (u v : S25) (W w : World) : Prop :=
  w.heap[W.heap.size]? = some (.cells #[.int .i64 u.f0, .int .i64 u.f1, .string u.f2] 25 (0, 0)) ∧ w.heap[W.heap.size + 1]? = some (.cells #[.int .i64 v.f0, .int .i64 v.f1, .string v.f2] 25 (0, 0)) ∧
  w.heap[W.heap.size + 1 + 1]? = some (.cells #[.int .i64 0, .int .i64 0, .string (⟨#[]⟩ : ByteArray)] 25 (0, 0)) ∧ Below W.heap.size W w
section
variable {u v : S25} {W w w' : World}
theorem BR.start : BR u v W (((W.alloc (.cells #[.int .i64 u.f0, .int .i64 u.f1, .string u.f2] 25)).alloc (.cells #[.int .i64 v.f0, .int .i64 v.f1, .string v.f2] 25)).alloc (.cells #[.int .i64 0, .int .i64 0, .string (⟨#[]⟩ : ByteArray)] 25)) := by
  have t1 := Deep.blk_alloc_new W (.cells #[.int .i64 u.f0, .int .i64 u.f1, .string u.f2] 25)
  have t2 := Deep.blk_alloc_new (W.alloc (.cells #[.int .i64 u.f0, .int .i64 u.f1, .string u.f2] 25)) (.cells #[.int .i64 v.f0, .int .i64 v.f1, .string v.f2] 25)
  have t3 := Deep.blk_alloc_new ((W.alloc (.cells #[.int .i64 u.f0, .int .i64 u.f1, .string u.f2] 25)).alloc (.cells #[.int .i64 v.f0, .int .i64 v.f1, .string v.f2] 25)) (.cells #[.int .i64 0, .int .i64 0, .string (⟨#[]⟩ : ByteArray)] 25)
  exact ⟨blk_alloc (blk_alloc t1 _) _, blk_alloc (by simpa using t2) _, by simpa using t3, below_alloc (below_alloc (below_alloc (Below.refl _ _) _) _) _⟩
theorem BR.drewN (h : BR u v W w) (n : Nat) : BR u v W (w.drewN n) := ⟨blk_drewN h.1 n, blk_drewN h.2.1 n, blk_drewN h.2.2.1 n, pw_below_drewN h.2.2.2 n⟩
theorem BR.below (h : BR u v W w) (hb : Below w.heap.size w w') : BR u v W w' :=
  ⟨(hb.block _ (blk_lt h.1)).trans h.1, (hb.block _ (blk_lt h.2.1)).trans h.2.1, (hb.block _ (blk_lt h.2.2.1)).trans h.2.2.1, below_step h.2.2.2 hb⟩
theorem BR.bel (h : BR u v W w) : Below W.heap.size W w := h.2.2.2
theorem BR.a0 (h : BR u v W w) : w.cell? ⟨W.heap.size, 0, none⟩ = some (.int .i64 u.f0) := (blk_cell h.1 0).trans rfl
theorem BR.a1 (h : BR u v W w) : w.cell? ⟨W.heap.size, 1, none⟩ = some (.int .i64 u.f1) := (blk_cell h.1 1).trans rfl
theorem BR.a2 (h : BR u v W w) : w.cell? ⟨W.heap.size, 2, none⟩ = some (.string u.f2) := (blk_cell h.1 2).trans rfl
theorem BR.v0 (h : BR u v W w) : w.cell? ⟨W.heap.size + 1, 0, none⟩ = some (.int .i64 v.f0) := (blk_cell h.2.1 0).trans rfl
theorem BR.v1 (h : BR u v W w) : w.cell? ⟨W.heap.size + 1, 1, none⟩ = some (.int .i64 v.f1) := (blk_cell h.2.1 1).trans rfl
theorem BR.v2 (h : BR u v W w) : w.cell? ⟨W.heap.size + 1, 2, none⟩ = some (.string v.f2) := (blk_cell h.2.1 2).trans rfl
end
set_option maxHeartbeats 2000000 in
set_option maxRecDepth 100000 in
theorem refBinary.low (op : Int) (u v : S25) (w : World) (l3 : ¬ 3 ≤ op) :
    Calls Try.prog 42 #[.int .i64 op, .agg #[.int .i64 u.f0, .int .i64 u.f1, .string u.f2], .agg #[.int .i64 v.f0, .int .i64 v.f1, .string v.f2]] w (fun e w' => e = .returned (.tuple #[.agg #[.int .i64 (0), .int .i64 (0), .string (V0)], .int .i64 5]) ∧ Below w.heap.size w w') := by
  have hu25 := Try.underlying25
  have q0 : decide (op < 3) = true := decide_eq_true (by omega)
  have q1 : decide (3 ≤ op) = false := decide_eq_false l3
  have l3' := Aside0.mk l3
  clear l3
  go_enter Try.func42, Try.ntmps42
  go_upto_region 1 with fail
  refine at_world (fun w' => BR u v w w') BR.start (fun w1 hI => ?_)
  have HI := Aside0.mk hI
  clear hI
  have ca0 : World.cell? w1 _ = some _ := HI.out.a0
  have ca1 : World.cell? w1 _ = some _ := HI.out.a1
  have ca2 : World.cell? w1 _ = some _ := HI.out.a2
  have cv0 : World.cell? w1 _ = some _ := HI.out.v0
  have cv1 : World.cell? w1 _ = some _ := HI.out.v1
  have cv2 : World.cell? w1 _ = some _ := HI.out.v2
  have gc0 : World.cell? w1 ⟨w.heap.size + 1 + 1, 0, none⟩ = some (.int .i64 0) := (blk_cell HI.out.2.2.1 0).trans rfl
  have gf0 := blk_frozen HI.out.2.2.1 0
  have gc1 : World.cell? w1 ⟨w.heap.size + 1 + 1, 1, none⟩ = some (.int .i64 0) := (blk_cell HI.out.2.2.1 1).trans rfl
  have gf1 := blk_frozen HI.out.2.2.1 1
  have gc2 : World.cell? w1 ⟨w.heap.size + 1 + 1, 2, none⟩ = some (.string (⟨#[]⟩ : ByteArray)) := (blk_cell HI.out.2.2.1 2).trans rfl
  have gf2 := blk_frozen HI.out.2.2.1 2
  go_wp2_with fail
  refine bodyPost_ret (v := .tuple #[.agg #[.int .i64 (0), .int .i64 (0), .string (V0)], .int .i64 5]) (by simp [results, Try.results42, go_sem, gc0, gc1, gc2, V0]) rfl ⟨rfl, ?_⟩
  refine below_set3 ?_ (by omega) _ _ _ _ _ _
  repeat (first | (with_reducible exact HI.out.bel) | apply pw_below_drewN)
set_option maxHeartbeats 2000000 in
set_option maxRecDepth 100000 in
theorem refBinary.high (op : Int) (u v : S25) (w : World) (l3 : 3 ≤ op) (l16 : ¬ op ≤ 16) :
    Calls Try.prog 42 #[.int .i64 op, .agg #[.int .i64 u.f0, .int .i64 u.f1, .string u.f2], .agg #[.int .i64 v.f0, .int .i64 v.f1, .string v.f2]] w (fun e w' => e = .returned (.tuple #[.agg #[.int .i64 (0), .int .i64 (0), .string (V0)], .int .i64 5]) ∧ Below w.heap.size w w') := by
  have hu25 := Try.underlying25
  have q0 : decide (op < 3) = false := decide_eq_false (by omega)
  have q1 : decide (3 ≤ op) = true := decide_eq_true l3
  have q2 : decide (16 < op) = true := decide_eq_true (by omega)
  have q3 : decide (op ≤ 16) = false := decide_eq_false l16
  have l3' := Aside0.mk l3
  have l16' := Aside0.mk l16
  clear l3 l16
  go_enter Try.func42, Try.ntmps42
  go_upto_region 1 with fail
  refine at_world (fun w' => BR u v w w') BR.start (fun w1 hI => ?_)
  have HI := Aside0.mk hI
  clear hI
  have ca0 : World.cell? w1 _ = some _ := HI.out.a0
  have ca1 : World.cell? w1 _ = some _ := HI.out.a1
  have ca2 : World.cell? w1 _ = some _ := HI.out.a2
  have cv0 : World.cell? w1 _ = some _ := HI.out.v0
  have cv1 : World.cell? w1 _ = some _ := HI.out.v1
  have cv2 : World.cell? w1 _ = some _ := HI.out.v2
  have gc0 : World.cell? w1 ⟨w.heap.size + 1 + 1, 0, none⟩ = some (.int .i64 0) := (blk_cell HI.out.2.2.1 0).trans rfl
  have gf0 := blk_frozen HI.out.2.2.1 0
  have gc1 : World.cell? w1 ⟨w.heap.size + 1 + 1, 1, none⟩ = some (.int .i64 0) := (blk_cell HI.out.2.2.1 1).trans rfl
  have gf1 := blk_frozen HI.out.2.2.1 1
  have gc2 : World.cell? w1 ⟨w.heap.size + 1 + 1, 2, none⟩ = some (.string (⟨#[]⟩ : ByteArray)) := (blk_cell HI.out.2.2.1 2).trans rfl
  have gf2 := blk_frozen HI.out.2.2.1 2
  go_wp2_with fail
  refine bodyPost_ret (v := .tuple #[.agg #[.int .i64 (0), .int .i64 (0), .string (V0)], .int .i64 5]) (by simp [results, Try.results42, go_sem, gc0, gc1, gc2, V0]) rfl ⟨rfl, ?_⟩
  refine below_set3 ?_ (by omega) _ _ _ _ _ _
  repeat (first | (with_reducible exact HI.out.bel) | apply pw_below_drewN)
set_option maxHeartbeats 2000000 in
set_option maxRecDepth 100000 in
theorem refBinary.kindAB (op : Int) (u v : S25) (w : World) (kA : Nat) (HGA : Aside0 (quarryref02_goes.f kA op u.f0 = some false)) (l3 : 3 ≤ op) (l16 : op ≤ 16) (a0 : ¬ u.f0 = 0) (z0 : v.f0 = 0) :
    Calls Try.prog 42 #[.int .i64 op, .agg #[.int .i64 u.f0, .int .i64 u.f1, .string u.f2], .agg #[.int .i64 v.f0, .int .i64 v.f1, .string v.f2]] w (fun e w' => e = .returned (.tuple #[.agg #[.int .i64 (0), .int .i64 (0), .string (V0)], .int .i64 35]) ∧ Below w.heap.size w w') := by
  have hu25 := Try.underlying25
  have q0 : decide (op < 3) = false := decide_eq_false (by omega)
  have q1 : decide (3 ≤ op) = true := decide_eq_true l3
  have q2 : decide (16 < op) = false := decide_eq_false (by omega)
  have q3 : decide (op ≤ 16) = true := decide_eq_true l16
  have q4 : (u.f0 == 0) = false := beq_eq_false_iff_ne.mpr a0
  have q5 : (v.f0 == 0) = true := beq_iff_eq.mpr z0
  have l3' := Aside0.mk l3
  have l16' := Aside0.mk l16
  have a0' := Aside0.mk a0
  have z0' := Aside0.mk z0
  clear l3 l16 a0 z0
  go_enter Try.func42, Try.ntmps42
  go_upto_region 1 with fail
  refine at_world (fun w' => BR u v w w') BR.start (fun w1 hI => ?_)
  have HI := Aside0.mk hI
  clear hI
  have ca0 : World.cell? w1 _ = some _ := HI.out.a0
  have ca1 : World.cell? w1 _ = some _ := HI.out.a1
  have ca2 : World.cell? w1 _ = some _ := HI.out.a2
  have cv0 : World.cell? w1 _ = some _ := HI.out.v0
  have cv1 : World.cell? w1 _ = some _ := HI.out.v1
  have cv2 : World.cell? w1 _ = some _ := HI.out.v2
  have gc0 : World.cell? w1 ⟨w.heap.size + 1 + 1, 0, none⟩ = some (.int .i64 0) := (blk_cell HI.out.2.2.1 0).trans rfl
  have gf0 := blk_frozen HI.out.2.2.1 0
  have gc1 : World.cell? w1 ⟨w.heap.size + 1 + 1, 1, none⟩ = some (.int .i64 0) := (blk_cell HI.out.2.2.1 1).trans rfl
  have gf1 := blk_frozen HI.out.2.2.1 1
  have gc2 : World.cell? w1 ⟨w.heap.size + 1 + 1, 2, none⟩ = some (.string (⟨#[]⟩ : ByteArray)) := (blk_cell HI.out.2.2.1 2).trans rfl
  have gf2 := blk_frozen HI.out.2.2.1 2
  go_wp2_with (first | (go_at_call 56; (with_reducible refine (quarryref02_goes.calls kA op u.f0 false _ HGA.out).mono ?_); rintro e w' ⟨rfl, ⟨nd, rfl⟩⟩))
  refine bodyPost_ret (v := .tuple #[.agg #[.int .i64 (0), .int .i64 (0), .string (V0)], .int .i64 35]) (by simp [results, Try.results42, go_sem, gc0, gc1, gc2, V0]) rfl ⟨rfl, ?_⟩
  refine below_set3 ?_ (by omega) _ _ _ _ _ _
  repeat (first | (with_reducible exact HI.out.bel) | apply pw_below_drewN)
set_option maxHeartbeats 2000000 in
set_option maxRecDepth 100000 in
theorem refBinary.kindAC (op : Int) (u v : S25) (w : World) (kA : Nat) (HGA : Aside0 (quarryref02_goes.f kA op u.f0 = some false)) (l3 : 3 ≤ op) (l16 : op ≤ 16) (a0 : ¬ u.f0 = 0) (z0 : ¬ v.f0 = 0) :
    Calls Try.prog 42 #[.int .i64 op, .agg #[.int .i64 u.f0, .int .i64 u.f1, .string u.f2], .agg #[.int .i64 v.f0, .int .i64 v.f1, .string v.f2]] w (fun e w' => e = .returned (.tuple #[.agg #[.int .i64 (0), .int .i64 (0), .string (V0)], .int .i64 35]) ∧ Below w.heap.size w w') := by
  have hu25 := Try.underlying25
  have q0 : decide (op < 3) = false := decide_eq_false (by omega)
  have q1 : decide (3 ≤ op) = true := decide_eq_true l3
  have q2 : decide (16 < op) = false := decide_eq_false (by omega)
  have q3 : decide (op ≤ 16) = true := decide_eq_true l16
  have q4 : (u.f0 == 0) = false := beq_eq_false_iff_ne.mpr a0
  have q5 : (v.f0 == 0) = false := beq_eq_false_iff_ne.mpr z0
  have l3' := Aside0.mk l3
  have l16' := Aside0.mk l16
  have a0' := Aside0.mk a0
  have z0' := Aside0.mk z0
  clear l3 l16 a0 z0
  go_enter Try.func42, Try.ntmps42
  go_upto_region 1 with fail
  refine at_world (fun w' => BR u v w w') BR.start (fun w1 hI => ?_)
  have HI := Aside0.mk hI
  clear hI
  have ca0 : World.cell? w1 _ = some _ := HI.out.a0
  have ca1 : World.cell? w1 _ = some _ := HI.out.a1
  have ca2 : World.cell? w1 _ = some _ := HI.out.a2
  have cv0 : World.cell? w1 _ = some _ := HI.out.v0
  have cv1 : World.cell? w1 _ = some _ := HI.out.v1
  have cv2 : World.cell? w1 _ = some _ := HI.out.v2
  have gc0 : World.cell? w1 ⟨w.heap.size + 1 + 1, 0, none⟩ = some (.int .i64 0) := (blk_cell HI.out.2.2.1 0).trans rfl
  have gf0 := blk_frozen HI.out.2.2.1 0
  have gc1 : World.cell? w1 ⟨w.heap.size + 1 + 1, 1, none⟩ = some (.int .i64 0) := (blk_cell HI.out.2.2.1 1).trans rfl
  have gf1 := blk_frozen HI.out.2.2.1 1
  have gc2 : World.cell? w1 ⟨w.heap.size + 1 + 1, 2, none⟩ = some (.string (⟨#[]⟩ : ByteArray)) := (blk_cell HI.out.2.2.1 2).trans rfl
  have gf2 := blk_frozen HI.out.2.2.1 2
  go_wp2_with (first | (go_at_call 56; (with_reducible refine (quarryref02_goes.calls kA op u.f0 false _ HGA.out).mono ?_); rintro e w' ⟨rfl, ⟨nd, rfl⟩⟩))
  refine bodyPost_ret (v := .tuple #[.agg #[.int .i64 (0), .int .i64 (0), .string (V0)], .int .i64 35]) (by simp [results, Try.results42, go_sem, gc0, gc1, gc2, V0]) rfl ⟨rfl, ?_⟩
  refine below_set3 ?_ (by omega) _ _ _ _ _ _
  repeat (first | (with_reducible exact HI.out.bel) | apply pw_below_drewN)
set_option maxHeartbeats 2000000 in
set_option maxRecDepth 100000 in
theorem refBinary.kindBA (op : Int) (u v : S25) (w : World) (kA : Nat) (HGA : Aside0 (quarryref02_goes.f kA op u.f0 = some true)) (kB : Nat) (HGB : Aside0 (quarryref02_goes.f kB op v.f0 = some false)) (l3 : 3 ≤ op) (l16 : op ≤ 16) (a0 : u.f0 = 0) :
    Calls Try.prog 42 #[.int .i64 op, .agg #[.int .i64 u.f0, .int .i64 u.f1, .string u.f2], .agg #[.int .i64 v.f0, .int .i64 v.f1, .string v.f2]] w (fun e w' => e = .returned (.tuple #[.agg #[.int .i64 (0), .int .i64 (0), .string (V0)], .int .i64 35]) ∧ Below w.heap.size w w') := by
  have hu25 := Try.underlying25
  have q0 : decide (op < 3) = false := decide_eq_false (by omega)
  have q1 : decide (3 ≤ op) = true := decide_eq_true l3
  have q2 : decide (16 < op) = false := decide_eq_false (by omega)
  have q3 : decide (op ≤ 16) = true := decide_eq_true l16
  have q4 : (u.f0 == 0) = true := beq_iff_eq.mpr a0
  have l3' := Aside0.mk l3
  have l16' := Aside0.mk l16
  have a0' := Aside0.mk a0
  clear l3 l16 a0
  go_enter Try.func42, Try.ntmps42
  go_upto_region 1 with fail
  refine at_world (fun w' => BR u v w w') BR.start (fun w1 hI => ?_)
  have HI := Aside0.mk hI
  clear hI
  have ca0 : World.cell? w1 _ = some _ := HI.out.a0
  have ca1 : World.cell? w1 _ = some _ := HI.out.a1
  have ca2 : World.cell? w1 _ = some _ := HI.out.a2
  have cv0 : World.cell? w1 _ = some _ := HI.out.v0
  have cv1 : World.cell? w1 _ = some _ := HI.out.v1
  have cv2 : World.cell? w1 _ = some _ := HI.out.v2
  have gc0 : World.cell? w1 ⟨w.heap.size + 1 + 1, 0, none⟩ = some (.int .i64 0) := (blk_cell HI.out.2.2.1 0).trans rfl
  have gf0 := blk_frozen HI.out.2.2.1 0
  have gc1 : World.cell? w1 ⟨w.heap.size + 1 + 1, 1, none⟩ = some (.int .i64 0) := (blk_cell HI.out.2.2.1 1).trans rfl
  have gf1 := blk_frozen HI.out.2.2.1 1
  have gc2 : World.cell? w1 ⟨w.heap.size + 1 + 1, 2, none⟩ = some (.string (⟨#[]⟩ : ByteArray)) := (blk_cell HI.out.2.2.1 2).trans rfl
  have gf2 := blk_frozen HI.out.2.2.1 2
  go_wp2_with (first | (go_at_call 56; (with_reducible refine (quarryref02_goes.calls kA op u.f0 true _ HGA.out).mono ?_); rintro e w' ⟨rfl, ⟨nd, rfl⟩⟩) | (go_at_call 56; (with_reducible refine (quarryref02_goes.calls kB op v.f0 false _ HGB.out).mono ?_); rintro e w' ⟨rfl, ⟨nd, rfl⟩⟩))
  refine bodyPost_ret (v := .tuple #[.agg #[.int .i64 (0), .int .i64 (0), .string (V0)], .int .i64 35]) (by simp [results, Try.results42, go_sem, gc0, gc1, gc2, V0]) rfl ⟨rfl, ?_⟩
  refine below_set3 ?_ (by omega) _ _ _ _ _ _
  repeat (first | (with_reducible exact HI.out.bel) | apply pw_below_drewN)
set_option maxHeartbeats 2000000 in
set_option maxRecDepth 100000 in
theorem refBinary.kindBC (op : Int) (u v : S25) (w : World) (kA : Nat) (HGA : Aside0 (quarryref02_goes.f kA op u.f0 = some true)) (kB : Nat) (HGB : Aside0 (quarryref02_goes.f kB op v.f0 = some false)) (l3 : 3 ≤ op) (l16 : op ≤ 16) (a0 : ¬ u.f0 = 0) (z0 : ¬ v.f0 = 0) :
    Calls Try.prog 42 #[.int .i64 op, .agg #[.int .i64 u.f0, .int .i64 u.f1, .string u.f2], .agg #[.int .i64 v.f0, .int .i64 v.f1, .string v.f2]] w (fun e w' => e = .returned (.tuple #[.agg #[.int .i64 (0), .int .i64 (0), .string (V0)], .int .i64 35]) ∧ Below w.heap.size w w') := by
  have hu25 := Try.underlying25
  have q0 : decide (op < 3) = false := decide_eq_false (by omega)
  have q1 : decide (3 ≤ op) = true := decide_eq_true l3
  have q2 : decide (16 < op) = false := decide_eq_false (by omega)
  have q3 : decide (op ≤ 16) = true := decide_eq_true l16
  have q4 : (u.f0 == 0) = false := beq_eq_false_iff_ne.mpr a0
  have q5 : (v.f0 == 0) = false := beq_eq_false_iff_ne.mpr z0
  have l3' := Aside0.mk l3
  have l16' := Aside0.mk l16
  have a0' := Aside0.mk a0
  have z0' := Aside0.mk z0
  clear l3 l16 a0 z0
  go_enter Try.func42, Try.ntmps42
  go_upto_region 1 with fail
  refine at_world (fun w' => BR u v w w') BR.start (fun w1 hI => ?_)
  have HI := Aside0.mk hI
  clear hI
  have ca0 : World.cell? w1 _ = some _ := HI.out.a0
  have ca1 : World.cell? w1 _ = some _ := HI.out.a1
  have ca2 : World.cell? w1 _ = some _ := HI.out.a2
  have cv0 : World.cell? w1 _ = some _ := HI.out.v0
  have cv1 : World.cell? w1 _ = some _ := HI.out.v1
  have cv2 : World.cell? w1 _ = some _ := HI.out.v2
  have gc0 : World.cell? w1 ⟨w.heap.size + 1 + 1, 0, none⟩ = some (.int .i64 0) := (blk_cell HI.out.2.2.1 0).trans rfl
  have gf0 := blk_frozen HI.out.2.2.1 0
  have gc1 : World.cell? w1 ⟨w.heap.size + 1 + 1, 1, none⟩ = some (.int .i64 0) := (blk_cell HI.out.2.2.1 1).trans rfl
  have gf1 := blk_frozen HI.out.2.2.1 1
  have gc2 : World.cell? w1 ⟨w.heap.size + 1 + 1, 2, none⟩ = some (.string (⟨#[]⟩ : ByteArray)) := (blk_cell HI.out.2.2.1 2).trans rfl
  have gf2 := blk_frozen HI.out.2.2.1 2
  go_wp2_with (first | (go_at_call 56; (with_reducible refine (quarryref02_goes.calls kA op u.f0 true _ HGA.out).mono ?_); rintro e w' ⟨rfl, ⟨nd, rfl⟩⟩) | (go_at_call 56; (with_reducible refine (quarryref02_goes.calls kB op v.f0 false _ HGB.out).mono ?_); rintro e w' ⟨rfl, ⟨nd, rfl⟩⟩))
  refine bodyPost_ret (v := .tuple #[.agg #[.int .i64 (0), .int .i64 (0), .string (V0)], .int .i64 35]) (by simp [results, Try.results42, go_sem, gc0, gc1, gc2, V0]) rfl ⟨rfl, ?_⟩
  refine below_set3 ?_ (by omega) _ _ _ _ _ _
  repeat (first | (with_reducible exact HI.out.bel) | apply pw_below_drewN)
set_option maxHeartbeats 2000000 in
set_option maxRecDepth 100000 in
theorem refBinary.differ (op : Int) (u v : S25) (w : World) (kA : Nat) (HGA : Aside0 (quarryref02_goes.f kA op u.f0 = some true)) (kB : Nat) (HGB : Aside0 (quarryref02_goes.f kB op v.f0 = some true)) (l3 : 3 ≤ op) (l16 : op ≤ 16) (l5 : 5 ≤ op) (l10 : op ≤ 10) (a0 : ¬ u.f0 = 0) (z0 : ¬ v.f0 = 0) (uv : ¬ u.f0 = v.f0) :
    Calls Try.prog 42 #[.int .i64 op, .agg #[.int .i64 u.f0, .int .i64 u.f1, .string u.f2], .agg #[.int .i64 v.f0, .int .i64 v.f1, .string v.f2]] w (fun e w' => e = .returned (.tuple #[.agg #[.int .i64 (0), .int .i64 (0), .string (V0)], .int .i64 35]) ∧ Below w.heap.size w w') := by
  have hu25 := Try.underlying25
  have q0 : decide (op < 3) = false := decide_eq_false (by omega)
  have q1 : decide (3 ≤ op) = true := decide_eq_true l3
  have q2 : decide (16 < op) = false := decide_eq_false (by omega)
  have q3 : decide (op ≤ 16) = true := decide_eq_true l16
  have q4 : decide (5 ≤ op) = true := decide_eq_true l5
  have q5 : decide (op ≤ 10) = true := decide_eq_true l10
  have q6 : decide (op ≤ 4) = false := decide_eq_false (by omega)
  have q7 : (u.f0 == 0) = false := beq_eq_false_iff_ne.mpr a0
  have q8 : (v.f0 == 0) = false := beq_eq_false_iff_ne.mpr z0
  have q9 : (u.f0 != v.f0) = true := bne_iff_ne.mpr uv
  have q10 : (u.f0 == v.f0) = false := beq_eq_false_iff_ne.mpr uv
  have l3' := Aside0.mk l3
  have l16' := Aside0.mk l16
  have l5' := Aside0.mk l5
  have l10' := Aside0.mk l10
  have a0' := Aside0.mk a0
  have z0' := Aside0.mk z0
  have uv' := Aside0.mk uv
  clear l3 l16 l5 l10 a0 z0 uv
  go_enter Try.func42, Try.ntmps42
  go_upto_region 1 with fail
  refine at_world (fun w' => BR u v w w') BR.start (fun w1 hI => ?_)
  have HI := Aside0.mk hI
  clear hI
  have ca0 : World.cell? w1 _ = some _ := HI.out.a0
  have ca1 : World.cell? w1 _ = some _ := HI.out.a1
  have ca2 : World.cell? w1 _ = some _ := HI.out.a2
  have cv0 : World.cell? w1 _ = some _ := HI.out.v0
  have cv1 : World.cell? w1 _ = some _ := HI.out.v1
  have cv2 : World.cell? w1 _ = some _ := HI.out.v2
  have gc0 : World.cell? w1 ⟨w.heap.size + 1 + 1, 0, none⟩ = some (.int .i64 0) := (blk_cell HI.out.2.2.1 0).trans rfl
  have gf0 := blk_frozen HI.out.2.2.1 0
  have gc1 : World.cell? w1 ⟨w.heap.size + 1 + 1, 1, none⟩ = some (.int .i64 0) := (blk_cell HI.out.2.2.1 1).trans rfl
  have gf1 := blk_frozen HI.out.2.2.1 1
  have gc2 : World.cell? w1 ⟨w.heap.size + 1 + 1, 2, none⟩ = some (.string (⟨#[]⟩ : ByteArray)) := (blk_cell HI.out.2.2.1 2).trans rfl
  have gf2 := blk_frozen HI.out.2.2.1 2
  go_wp2_with (first | (go_at_call 56; (with_reducible refine (quarryref02_goes.calls kA op u.f0 true _ HGA.out).mono ?_); rintro e w' ⟨rfl, ⟨nd, rfl⟩⟩) | (go_at_call 56; (with_reducible refine (quarryref02_goes.calls kB op v.f0 true _ HGB.out).mono ?_); rintro e w' ⟨rfl, ⟨nd, rfl⟩⟩))
  refine bodyPost_ret (v := .tuple #[.agg #[.int .i64 (0), .int .i64 (0), .string (V0)], .int .i64 35]) (by simp [results, Try.results42, go_sem, gc0, gc1, gc2, V0]) rfl ⟨rfl, ?_⟩
  refine below_set3 ?_ (by omega) _ _ _ _ _ _
  repeat (first | (with_reducible exact HI.out.bel) | apply pw_below_drewN)
set_option maxHeartbeats 2000000 in
set_option maxRecDepth 100000 in
theorem refBinary.logicA (op : Int) (u v : S25) (w : World) (kA : Nat) (HGA : Aside0 (quarryref02_goes.f kA op u.f0 = some true)) (kB : Nat) (HGB : Aside0 (quarryref02_goes.f kB op v.f0 = some true)) (l3 : 3 ≤ op) (l16 : op ≤ 16) (l4 : op ≤ 4) (a0 : u.f0 = 0) :
    Calls Try.prog 42 #[.int .i64 op, .agg #[.int .i64 u.f0, .int .i64 u.f1, .string u.f2], .agg #[.int .i64 v.f0, .int .i64 v.f1, .string v.f2]] w (fun e w' => e = .returned (.tuple #[.agg #[.int .i64 ((logicP u v (truthV (op == 3))).f0), .int .i64 ((logicP u v (truthV (op == 3))).f1), .string ((logicP u v (truthV (op == 3))).f2)], .int .i64 0]) ∧ Below w.heap.size w w') := by
  have hu25 := Try.underlying25
  have q0 : decide (op < 3) = false := decide_eq_false (by omega)
  have q1 : decide (3 ≤ op) = true := decide_eq_true l3
  have q2 : decide (16 < op) = false := decide_eq_false (by omega)
  have q3 : decide (op ≤ 16) = true := decide_eq_true l16
  have q4 : decide (5 ≤ op) = false := decide_eq_false (by omega)
  have q5 : decide (op ≤ 4) = true := decide_eq_true l4
  have q6 : (u.f0 == 0) = true := beq_iff_eq.mpr a0
  have l3' := Aside0.mk l3
  have l16' := Aside0.mk l16
  have l4' := Aside0.mk l4
  have a0' := Aside0.mk a0
  clear l3 l16 l4 a0
  go_enter Try.func42, Try.ntmps42
  go_upto_region 1 with fail
  refine at_world (fun w' => BR u v w w') BR.start (fun w1 hI => ?_)
  have HI := Aside0.mk hI
  clear hI
  have ca0 : World.cell? w1 _ = some _ := HI.out.a0
  have ca1 : World.cell? w1 _ = some _ := HI.out.a1
  have ca2 : World.cell? w1 _ = some _ := HI.out.a2
  have cv0 : World.cell? w1 _ = some _ := HI.out.v0
  have cv1 : World.cell? w1 _ = some _ := HI.out.v1
  have cv2 : World.cell? w1 _ = some _ := HI.out.v2
  have gc0 : World.cell? w1 ⟨w.heap.size + 1 + 1, 0, none⟩ = some (.int .i64 0) := (blk_cell HI.out.2.2.1 0).trans rfl
  have gf0 := blk_frozen HI.out.2.2.1 0
  have gc1 : World.cell? w1 ⟨w.heap.size + 1 + 1, 1, none⟩ = some (.int .i64 0) := (blk_cell HI.out.2.2.1 1).trans rfl
  have gf1 := blk_frozen HI.out.2.2.1 1
  have gc2 : World.cell? w1 ⟨w.heap.size + 1 + 1, 2, none⟩ = some (.string (⟨#[]⟩ : ByteArray)) := (blk_cell HI.out.2.2.1 2).trans rfl
  have gf2 := blk_frozen HI.out.2.2.1 2
  go_wp2_with (first | (go_at_call 56; (with_reducible refine (quarryref02_goes.calls kA op u.f0 true _ HGA.out).mono ?_); rintro e w' ⟨rfl, ⟨nd, rfl⟩⟩) | (go_at_call 56; (with_reducible refine (quarryref02_goes.calls kB op v.f0 true _ HGB.out).mono ?_); rintro e w' ⟨rfl, ⟨nd, rfl⟩⟩))
  refine (logicR_calls l3'.out l4'.out u v _).mono ?_
  rintro e w2 ⟨rfl, hb⟩
  have HJ : Aside0 (BR u v w w2) := ⟨BR.below (by repeat (first | exact HI.out | refine BR.drewN ?_ _)) hb⟩
  clear hb HI ca0 ca1 ca2 cv0 cv1 cv2 gc0 gc1 gc2 gf0 gf1 gf2
  have HI := HJ
  clear HJ
  have ca0 : World.cell? w2 _ = some _ := HI.out.a0
  have ca1 : World.cell? w2 _ = some _ := HI.out.a1
  have ca2 : World.cell? w2 _ = some _ := HI.out.a2
  have cv0 : World.cell? w2 _ = some _ := HI.out.v0
  have cv1 : World.cell? w2 _ = some _ := HI.out.v1
  have cv2 : World.cell? w2 _ = some _ := HI.out.v2
  have gc0 : World.cell? w2 ⟨w.heap.size + 1 + 1, 0, none⟩ = some (.int .i64 0) := (blk_cell HI.out.2.2.1 0).trans rfl
  have gf0 := blk_frozen HI.out.2.2.1 0
  have gc1 : World.cell? w2 ⟨w.heap.size + 1 + 1, 1, none⟩ = some (.int .i64 0) := (blk_cell HI.out.2.2.1 1).trans rfl
  have gf1 := blk_frozen HI.out.2.2.1 1
  have gc2 : World.cell? w2 ⟨w.heap.size + 1 + 1, 2, none⟩ = some (.string (⟨#[]⟩ : ByteArray)) := (blk_cell HI.out.2.2.1 2).trans rfl
  have gf2 := blk_frozen HI.out.2.2.1 2
  go_wp2_with fail
  refine bodyPost_ret (v := .tuple #[.agg #[.int .i64 ((logicP u v (truthV (op == 3))).f0), .int .i64 ((logicP u v (truthV (op == 3))).f1), .string ((logicP u v (truthV (op == 3))).f2)], .int .i64 0]) (by simp [results, Try.results42, go_sem, gc0, gc1, gc2, V0]) rfl ⟨rfl, ?_⟩
  refine below_set3 ?_ (by omega) _ _ _ _ _ _
  repeat (first | (with_reducible exact HI.out.bel) | apply pw_below_drewN)
set_option maxHeartbeats 2000000 in
set_option maxRecDepth 100000 in
theorem refBinary.logicB (op : Int) (u v : S25) (w : World) (kA : Nat) (HGA : Aside0 (quarryref02_goes.f kA op u.f0 = some true)) (kB : Nat) (HGB : Aside0 (quarryref02_goes.f kB op v.f0 = some true)) (l3 : 3 ≤ op) (l16 : op ≤ 16) (l4 : op ≤ 4) (a0 : ¬ u.f0 = 0) (z0 : v.f0 = 0) :
    Calls Try.prog 42 #[.int .i64 op, .agg #[.int .i64 u.f0, .int .i64 u.f1, .string u.f2], .agg #[.int .i64 v.f0, .int .i64 v.f1, .string v.f2]] w (fun e w' => e = .returned (.tuple #[.agg #[.int .i64 ((logicP u v (truthV (op == 3))).f0), .int .i64 ((logicP u v (truthV (op == 3))).f1), .string ((logicP u v (truthV (op == 3))).f2)], .int .i64 0]) ∧ Below w.heap.size w w') := by
  have hu25 := Try.underlying25
  have q0 : decide (op < 3) = false := decide_eq_false (by omega)
  have q1 : decide (3 ≤ op) = true := decide_eq_true l3
  have q2 : decide (16 < op) = false := decide_eq_false (by omega)
  have q3 : decide (op ≤ 16) = true := decide_eq_true l16
  have q4 : decide (5 ≤ op) = false := decide_eq_false (by omega)
  have q5 : decide (op ≤ 4) = true := decide_eq_true l4
  have q6 : (u.f0 == 0) = false := beq_eq_false_iff_ne.mpr a0
  have q7 : (v.f0 == 0) = true := beq_iff_eq.mpr z0
  have l3' := Aside0.mk l3
  have l16' := Aside0.mk l16
  have l4' := Aside0.mk l4
  have a0' := Aside0.mk a0
  have z0' := Aside0.mk z0
  clear l3 l16 l4 a0 z0
  go_enter Try.func42, Try.ntmps42
  go_upto_region 1 with fail
  refine at_world (fun w' => BR u v w w') BR.start (fun w1 hI => ?_)
  have HI := Aside0.mk hI
  clear hI
  have ca0 : World.cell? w1 _ = some _ := HI.out.a0
  have ca1 : World.cell? w1 _ = some _ := HI.out.a1
  have ca2 : World.cell? w1 _ = some _ := HI.out.a2
  have cv0 : World.cell? w1 _ = some _ := HI.out.v0
  have cv1 : World.cell? w1 _ = some _ := HI.out.v1
  have cv2 : World.cell? w1 _ = some _ := HI.out.v2
  have gc0 : World.cell? w1 ⟨w.heap.size + 1 + 1, 0, none⟩ = some (.int .i64 0) := (blk_cell HI.out.2.2.1 0).trans rfl
  have gf0 := blk_frozen HI.out.2.2.1 0
  have gc1 : World.cell? w1 ⟨w.heap.size + 1 + 1, 1, none⟩ = some (.int .i64 0) := (blk_cell HI.out.2.2.1 1).trans rfl
  have gf1 := blk_frozen HI.out.2.2.1 1
  have gc2 : World.cell? w1 ⟨w.heap.size + 1 + 1, 2, none⟩ = some (.string (⟨#[]⟩ : ByteArray)) := (blk_cell HI.out.2.2.1 2).trans rfl
  have gf2 := blk_frozen HI.out.2.2.1 2
  go_wp2_with (first | (go_at_call 56; (with_reducible refine (quarryref02_goes.calls kA op u.f0 true _ HGA.out).mono ?_); rintro e w' ⟨rfl, ⟨nd, rfl⟩⟩) | (go_at_call 56; (with_reducible refine (quarryref02_goes.calls kB op v.f0 true _ HGB.out).mono ?_); rintro e w' ⟨rfl, ⟨nd, rfl⟩⟩))
  refine (logicR_calls l3'.out l4'.out u v _).mono ?_
  rintro e w2 ⟨rfl, hb⟩
  have HJ : Aside0 (BR u v w w2) := ⟨BR.below (by repeat (first | exact HI.out | refine BR.drewN ?_ _)) hb⟩
  clear hb HI ca0 ca1 ca2 cv0 cv1 cv2 gc0 gc1 gc2 gf0 gf1 gf2
  have HI := HJ
  clear HJ
  have ca0 : World.cell? w2 _ = some _ := HI.out.a0
  have ca1 : World.cell? w2 _ = some _ := HI.out.a1
  have ca2 : World.cell? w2 _ = some _ := HI.out.a2
  have cv0 : World.cell? w2 _ = some _ := HI.out.v0
  have cv1 : World.cell? w2 _ = some _ := HI.out.v1
  have cv2 : World.cell? w2 _ = some _ := HI.out.v2
  have gc0 : World.cell? w2 ⟨w.heap.size + 1 + 1, 0, none⟩ = some (.int .i64 0) := (blk_cell HI.out.2.2.1 0).trans rfl
  have gf0 := blk_frozen HI.out.2.2.1 0
  have gc1 : World.cell? w2 ⟨w.heap.size + 1 + 1, 1, none⟩ = some (.int .i64 0) := (blk_cell HI.out.2.2.1 1).trans rfl
  have gf1 := blk_frozen HI.out.2.2.1 1
  have gc2 : World.cell? w2 ⟨w.heap.size + 1 + 1, 2, none⟩ = some (.string (⟨#[]⟩ : ByteArray)) := (blk_cell HI.out.2.2.1 2).trans rfl
  have gf2 := blk_frozen HI.out.2.2.1 2
  go_wp2_with fail
  refine bodyPost_ret (v := .tuple #[.agg #[.int .i64 ((logicP u v (truthV (op == 3))).f0), .int .i64 ((logicP u v (truthV (op == 3))).f1), .string ((logicP u v (truthV (op == 3))).f2)], .int .i64 0]) (by simp [results, Try.results42, go_sem, gc0, gc1, gc2, V0]) rfl ⟨rfl, ?_⟩
  refine below_set3 ?_ (by omega) _ _ _ _ _ _
  repeat (first | (with_reducible exact HI.out.bel) | apply pw_below_drewN)
set_option maxHeartbeats 2000000 in
set_option maxRecDepth 100000 in
theorem refBinary.logicC (op : Int) (u v : S25) (w : World) (kA : Nat) (HGA : Aside0 (quarryref02_goes.f kA op u.f0 = some true)) (kB : Nat) (HGB : Aside0 (quarryref02_goes.f kB op v.f0 = some true)) (l3 : 3 ≤ op) (l16 : op ≤ 16) (l4 : op ≤ 4) (a0 : ¬ u.f0 = 0) (z0 : ¬ v.f0 = 0) :
    Calls Try.prog 42 #[.int .i64 op, .agg #[.int .i64 u.f0, .int .i64 u.f1, .string u.f2], .agg #[.int .i64 v.f0, .int .i64 v.f1, .string v.f2]] w (fun e w' => e = .returned (.tuple #[.agg #[.int .i64 ((logicP u v (truthV (op == 3))).f0), .int .i64 ((logicP u v (truthV (op == 3))).f1), .string ((logicP u v (truthV (op == 3))).f2)], .int .i64 0]) ∧ Below w.heap.size w w') := by
  have hu25 := Try.underlying25
  have q0 : decide (op < 3) = false := decide_eq_false (by omega)
  have q1 : decide (3 ≤ op) = true := decide_eq_true l3
  have q2 : decide (16 < op) = false := decide_eq_false (by omega)
  have q3 : decide (op ≤ 16) = true := decide_eq_true l16
  have q4 : decide (5 ≤ op) = false := decide_eq_false (by omega)
  have q5 : decide (op ≤ 4) = true := decide_eq_true l4
  have q6 : (u.f0 == 0) = false := beq_eq_false_iff_ne.mpr a0
  have q7 : (v.f0 == 0) = false := beq_eq_false_iff_ne.mpr z0
  have l3' := Aside0.mk l3
  have l16' := Aside0.mk l16
  have l4' := Aside0.mk l4
  have a0' := Aside0.mk a0
  have z0' := Aside0.mk z0
  clear l3 l16 l4 a0 z0
  go_enter Try.func42, Try.ntmps42
  go_upto_region 1 with fail
  refine at_world (fun w' => BR u v w w') BR.start (fun w1 hI => ?_)
  have HI := Aside0.mk hI
  clear hI
  have ca0 : World.cell? w1 _ = some _ := HI.out.a0
  have ca1 : World.cell? w1 _ = some _ := HI.out.a1
  have ca2 : World.cell? w1 _ = some _ := HI.out.a2
  have cv0 : World.cell? w1 _ = some _ := HI.out.v0
  have cv1 : World.cell? w1 _ = some _ := HI.out.v1
  have cv2 : World.cell? w1 _ = some _ := HI.out.v2
  have gc0 : World.cell? w1 ⟨w.heap.size + 1 + 1, 0, none⟩ = some (.int .i64 0) := (blk_cell HI.out.2.2.1 0).trans rfl
  have gf0 := blk_frozen HI.out.2.2.1 0
  have gc1 : World.cell? w1 ⟨w.heap.size + 1 + 1, 1, none⟩ = some (.int .i64 0) := (blk_cell HI.out.2.2.1 1).trans rfl
  have gf1 := blk_frozen HI.out.2.2.1 1
  have gc2 : World.cell? w1 ⟨w.heap.size + 1 + 1, 2, none⟩ = some (.string (⟨#[]⟩ : ByteArray)) := (blk_cell HI.out.2.2.1 2).trans rfl
  have gf2 := blk_frozen HI.out.2.2.1 2
  go_wp2_with (first | (go_at_call 56; (with_reducible refine (quarryref02_goes.calls kA op u.f0 true _ HGA.out).mono ?_); rintro e w' ⟨rfl, ⟨nd, rfl⟩⟩) | (go_at_call 56; (with_reducible refine (quarryref02_goes.calls kB op v.f0 true _ HGB.out).mono ?_); rintro e w' ⟨rfl, ⟨nd, rfl⟩⟩))
  refine (logicR_calls l3'.out l4'.out u v _).mono ?_
  rintro e w2 ⟨rfl, hb⟩
  have HJ : Aside0 (BR u v w w2) := ⟨BR.below (by repeat (first | exact HI.out | refine BR.drewN ?_ _)) hb⟩
  clear hb HI ca0 ca1 ca2 cv0 cv1 cv2 gc0 gc1 gc2 gf0 gf1 gf2
  have HI := HJ
  clear HJ
  have ca0 : World.cell? w2 _ = some _ := HI.out.a0
  have ca1 : World.cell? w2 _ = some _ := HI.out.a1
  have ca2 : World.cell? w2 _ = some _ := HI.out.a2
  have cv0 : World.cell? w2 _ = some _ := HI.out.v0
  have cv1 : World.cell? w2 _ = some _ := HI.out.v1
  have cv2 : World.cell? w2 _ = some _ := HI.out.v2
  have gc0 : World.cell? w2 ⟨w.heap.size + 1 + 1, 0, none⟩ = some (.int .i64 0) := (blk_cell HI.out.2.2.1 0).trans rfl
  have gf0 := blk_frozen HI.out.2.2.1 0
  have gc1 : World.cell? w2 ⟨w.heap.size + 1 + 1, 1, none⟩ = some (.int .i64 0) := (blk_cell HI.out.2.2.1 1).trans rfl
  have gf1 := blk_frozen HI.out.2.2.1 1
  have gc2 : World.cell? w2 ⟨w.heap.size + 1 + 1, 2, none⟩ = some (.string (⟨#[]⟩ : ByteArray)) := (blk_cell HI.out.2.2.1 2).trans rfl
  have gf2 := blk_frozen HI.out.2.2.1 2
  go_wp2_with fail
  refine bodyPost_ret (v := .tuple #[.agg #[.int .i64 ((logicP u v (truthV (op == 3))).f0), .int .i64 ((logicP u v (truthV (op == 3))).f1), .string ((logicP u v (truthV (op == 3))).f2)], .int .i64 0]) (by simp [results, Try.results42, go_sem, gc0, gc1, gc2, V0]) rfl ⟨rfl, ?_⟩
  refine below_set3 ?_ (by omega) _ _ _ _ _ _
  repeat (first | (with_reducible exact HI.out.bel) | apply pw_below_drewN)
set_option maxHeartbeats 2000000 in
set_option maxRecDepth 100000 in
theorem refBinary.nullMA (op : Int) (u v : S25) (w : World) (kA : Nat) (HGA : Aside0 (quarryref02_goes.f kA op u.f0 = some true)) (kB : Nat) (HGB : Aside0 (quarryref02_goes.f kB op v.f0 = some true)) (l3 : 3 ≤ op) (l16 : op ≤ 16) (l5 : 5 ≤ op) (l10 : op ≤ 10) (a0 : u.f0 = 0) :
    Calls Try.prog 42 #[.int .i64 op, .agg #[.int .i64 u.f0, .int .i64 u.f1, .string u.f2], .agg #[.int .i64 v.f0, .int .i64 v.f1, .string v.f2]] w (fun e w' => e = .returned (.tuple #[.agg #[.int .i64 (0), .int .i64 (0), .string (V0)], .int .i64 0]) ∧ Below w.heap.size w w') := by
  have hu25 := Try.underlying25
  have q0 : decide (op < 3) = false := decide_eq_false (by omega)
  have q1 : decide (3 ≤ op) = true := decide_eq_true l3
  have q2 : decide (16 < op) = false := decide_eq_false (by omega)
  have q3 : decide (op ≤ 16) = true := decide_eq_true l16
  have q4 : decide (5 ≤ op) = true := decide_eq_true l5
  have q5 : decide (op ≤ 10) = true := decide_eq_true l10
  have q6 : decide (op ≤ 4) = false := decide_eq_false (by omega)
  have q7 : (u.f0 == 0) = true := beq_iff_eq.mpr a0
  have l3' := Aside0.mk l3
  have l16' := Aside0.mk l16
  have l5' := Aside0.mk l5
  have l10' := Aside0.mk l10
  have a0' := Aside0.mk a0
  clear l3 l16 l5 l10 a0
  go_enter Try.func42, Try.ntmps42
  go_upto_region 1 with fail
  refine at_world (fun w' => BR u v w w') BR.start (fun w1 hI => ?_)
  have HI := Aside0.mk hI
  clear hI
  have ca0 : World.cell? w1 _ = some _ := HI.out.a0
  have ca1 : World.cell? w1 _ = some _ := HI.out.a1
  have ca2 : World.cell? w1 _ = some _ := HI.out.a2
  have cv0 : World.cell? w1 _ = some _ := HI.out.v0
  have cv1 : World.cell? w1 _ = some _ := HI.out.v1
  have cv2 : World.cell? w1 _ = some _ := HI.out.v2
  have gc0 : World.cell? w1 ⟨w.heap.size + 1 + 1, 0, none⟩ = some (.int .i64 0) := (blk_cell HI.out.2.2.1 0).trans rfl
  have gf0 := blk_frozen HI.out.2.2.1 0
  have gc1 : World.cell? w1 ⟨w.heap.size + 1 + 1, 1, none⟩ = some (.int .i64 0) := (blk_cell HI.out.2.2.1 1).trans rfl
  have gf1 := blk_frozen HI.out.2.2.1 1
  have gc2 : World.cell? w1 ⟨w.heap.size + 1 + 1, 2, none⟩ = some (.string (⟨#[]⟩ : ByteArray)) := (blk_cell HI.out.2.2.1 2).trans rfl
  have gf2 := blk_frozen HI.out.2.2.1 2
  go_wp2_with (first | (go_at_call 56; (with_reducible refine (quarryref02_goes.calls kA op u.f0 true _ HGA.out).mono ?_); rintro e w' ⟨rfl, ⟨nd, rfl⟩⟩) | (go_at_call 56; (with_reducible refine (quarryref02_goes.calls kB op v.f0 true _ HGB.out).mono ?_); rintro e w' ⟨rfl, ⟨nd, rfl⟩⟩))
  refine bodyPost_ret (v := .tuple #[.agg #[.int .i64 (0), .int .i64 (0), .string (V0)], .int .i64 0]) (by simp [results, Try.results42, go_sem, gc0, gc1, gc2, V0]) rfl ⟨rfl, ?_⟩
  refine below_set3 ?_ (by omega) _ _ _ _ _ _
  repeat (first | (with_reducible exact HI.out.bel) | apply pw_below_drewN)
set_option maxHeartbeats 2000000 in
set_option maxRecDepth 100000 in
theorem refBinary.nullHA (op : Int) (u v : S25) (w : World) (kA : Nat) (HGA : Aside0 (quarryref02_goes.f kA op u.f0 = some true)) (kB : Nat) (HGB : Aside0 (quarryref02_goes.f kB op v.f0 = some true)) (l3 : 3 ≤ op) (l16 : op ≤ 16) (l10 : ¬ op ≤ 10) (a0 : u.f0 = 0) :
    Calls Try.prog 42 #[.int .i64 op, .agg #[.int .i64 u.f0, .int .i64 u.f1, .string u.f2], .agg #[.int .i64 v.f0, .int .i64 v.f1, .string v.f2]] w (fun e w' => e = .returned (.tuple #[.agg #[.int .i64 (0), .int .i64 (0), .string (V0)], .int .i64 0]) ∧ Below w.heap.size w w') := by
  have hu25 := Try.underlying25
  have q0 : decide (op < 3) = false := decide_eq_false (by omega)
  have q1 : decide (3 ≤ op) = true := decide_eq_true l3
  have q2 : decide (16 < op) = false := decide_eq_false (by omega)
  have q3 : decide (op ≤ 16) = true := decide_eq_true l16
  have q4 : decide (5 ≤ op) = true := decide_eq_true (by omega)
  have q5 : decide (op ≤ 10) = false := decide_eq_false l10
  have q6 : decide (op ≤ 4) = false := decide_eq_false (by omega)
  have q7 : (u.f0 == 0) = true := beq_iff_eq.mpr a0
  have l3' := Aside0.mk l3
  have l16' := Aside0.mk l16
  have l10' := Aside0.mk l10
  have a0' := Aside0.mk a0
  clear l3 l16 l10 a0
  go_enter Try.func42, Try.ntmps42
  go_upto_region 1 with fail
  refine at_world (fun w' => BR u v w w') BR.start (fun w1 hI => ?_)
  have HI := Aside0.mk hI
  clear hI
  have ca0 : World.cell? w1 _ = some _ := HI.out.a0
  have ca1 : World.cell? w1 _ = some _ := HI.out.a1
  have ca2 : World.cell? w1 _ = some _ := HI.out.a2
  have cv0 : World.cell? w1 _ = some _ := HI.out.v0
  have cv1 : World.cell? w1 _ = some _ := HI.out.v1
  have cv2 : World.cell? w1 _ = some _ := HI.out.v2
  have gc0 : World.cell? w1 ⟨w.heap.size + 1 + 1, 0, none⟩ = some (.int .i64 0) := (blk_cell HI.out.2.2.1 0).trans rfl
  have gf0 := blk_frozen HI.out.2.2.1 0
  have gc1 : World.cell? w1 ⟨w.heap.size + 1 + 1, 1, none⟩ = some (.int .i64 0) := (blk_cell HI.out.2.2.1 1).trans rfl
  have gf1 := blk_frozen HI.out.2.2.1 1
  have gc2 : World.cell? w1 ⟨w.heap.size + 1 + 1, 2, none⟩ = some (.string (⟨#[]⟩ : ByteArray)) := (blk_cell HI.out.2.2.1 2).trans rfl
  have gf2 := blk_frozen HI.out.2.2.1 2
  go_wp2_with (first | (go_at_call 56; (with_reducible refine (quarryref02_goes.calls kA op u.f0 true _ HGA.out).mono ?_); rintro e w' ⟨rfl, ⟨nd, rfl⟩⟩) | (go_at_call 56; (with_reducible refine (quarryref02_goes.calls kB op v.f0 true _ HGB.out).mono ?_); rintro e w' ⟨rfl, ⟨nd, rfl⟩⟩))
  refine bodyPost_ret (v := .tuple #[.agg #[.int .i64 (0), .int .i64 (0), .string (V0)], .int .i64 0]) (by simp [results, Try.results42, go_sem, gc0, gc1, gc2, V0]) rfl ⟨rfl, ?_⟩
  refine below_set3 ?_ (by omega) _ _ _ _ _ _
  repeat (first | (with_reducible exact HI.out.bel) | apply pw_below_drewN)
set_option maxHeartbeats 2000000 in
set_option maxRecDepth 100000 in
theorem refBinary.nullMB (op : Int) (u v : S25) (w : World) (kA : Nat) (HGA : Aside0 (quarryref02_goes.f kA op u.f0 = some true)) (kB : Nat) (HGB : Aside0 (quarryref02_goes.f kB op v.f0 = some true)) (l3 : 3 ≤ op) (l16 : op ≤ 16) (l5 : 5 ≤ op) (l10 : op ≤ 10) (a0 : ¬ u.f0 = 0) (z0 : v.f0 = 0) :
    Calls Try.prog 42 #[.int .i64 op, .agg #[.int .i64 u.f0, .int .i64 u.f1, .string u.f2], .agg #[.int .i64 v.f0, .int .i64 v.f1, .string v.f2]] w (fun e w' => e = .returned (.tuple #[.agg #[.int .i64 (0), .int .i64 (0), .string (V0)], .int .i64 0]) ∧ Below w.heap.size w w') := by
  have hu25 := Try.underlying25
  have q0 : decide (op < 3) = false := decide_eq_false (by omega)
  have q1 : decide (3 ≤ op) = true := decide_eq_true l3
  have q2 : decide (16 < op) = false := decide_eq_false (by omega)
  have q3 : decide (op ≤ 16) = true := decide_eq_true l16
  have q4 : decide (5 ≤ op) = true := decide_eq_true l5
  have q5 : decide (op ≤ 10) = true := decide_eq_true l10
  have q6 : decide (op ≤ 4) = false := decide_eq_false (by omega)
  have q7 : (u.f0 == 0) = false := beq_eq_false_iff_ne.mpr a0
  have q8 : (v.f0 == 0) = true := beq_iff_eq.mpr z0
  have l3' := Aside0.mk l3
  have l16' := Aside0.mk l16
  have l5' := Aside0.mk l5
  have l10' := Aside0.mk l10
  have a0' := Aside0.mk a0
  have z0' := Aside0.mk z0
  clear l3 l16 l5 l10 a0 z0
  go_enter Try.func42, Try.ntmps42
  go_upto_region 1 with fail
  refine at_world (fun w' => BR u v w w') BR.start (fun w1 hI => ?_)
  have HI := Aside0.mk hI
  clear hI
  have ca0 : World.cell? w1 _ = some _ := HI.out.a0
  have ca1 : World.cell? w1 _ = some _ := HI.out.a1
  have ca2 : World.cell? w1 _ = some _ := HI.out.a2
  have cv0 : World.cell? w1 _ = some _ := HI.out.v0
  have cv1 : World.cell? w1 _ = some _ := HI.out.v1
  have cv2 : World.cell? w1 _ = some _ := HI.out.v2
  have gc0 : World.cell? w1 ⟨w.heap.size + 1 + 1, 0, none⟩ = some (.int .i64 0) := (blk_cell HI.out.2.2.1 0).trans rfl
  have gf0 := blk_frozen HI.out.2.2.1 0
  have gc1 : World.cell? w1 ⟨w.heap.size + 1 + 1, 1, none⟩ = some (.int .i64 0) := (blk_cell HI.out.2.2.1 1).trans rfl
  have gf1 := blk_frozen HI.out.2.2.1 1
  have gc2 : World.cell? w1 ⟨w.heap.size + 1 + 1, 2, none⟩ = some (.string (⟨#[]⟩ : ByteArray)) := (blk_cell HI.out.2.2.1 2).trans rfl
  have gf2 := blk_frozen HI.out.2.2.1 2
  go_wp2_with (first | (go_at_call 56; (with_reducible refine (quarryref02_goes.calls kA op u.f0 true _ HGA.out).mono ?_); rintro e w' ⟨rfl, ⟨nd, rfl⟩⟩) | (go_at_call 56; (with_reducible refine (quarryref02_goes.calls kB op v.f0 true _ HGB.out).mono ?_); rintro e w' ⟨rfl, ⟨nd, rfl⟩⟩))
  refine bodyPost_ret (v := .tuple #[.agg #[.int .i64 (0), .int .i64 (0), .string (V0)], .int .i64 0]) (by simp [results, Try.results42, go_sem, gc0, gc1, gc2, V0]) rfl ⟨rfl, ?_⟩
  refine below_set3 ?_ (by omega) _ _ _ _ _ _
  repeat (first | (with_reducible exact HI.out.bel) | apply pw_below_drewN)
set_option maxHeartbeats 2000000 in
set_option maxRecDepth 100000 in
theorem refBinary.nullHB (op : Int) (u v : S25) (w : World) (kA : Nat) (HGA : Aside0 (quarryref02_goes.f kA op u.f0 = some true)) (kB : Nat) (HGB : Aside0 (quarryref02_goes.f kB op v.f0 = some true)) (l3 : 3 ≤ op) (l16 : op ≤ 16) (l10 : ¬ op ≤ 10) (a0 : ¬ u.f0 = 0) (z0 : v.f0 = 0) :
    Calls Try.prog 42 #[.int .i64 op, .agg #[.int .i64 u.f0, .int .i64 u.f1, .string u.f2], .agg #[.int .i64 v.f0, .int .i64 v.f1, .string v.f2]] w (fun e w' => e = .returned (.tuple #[.agg #[.int .i64 (0), .int .i64 (0), .string (V0)], .int .i64 0]) ∧ Below w.heap.size w w') := by
  have hu25 := Try.underlying25
  have q0 : decide (op < 3) = false := decide_eq_false (by omega)
  have q1 : decide (3 ≤ op) = true := decide_eq_true l3
  have q2 : decide (16 < op) = false := decide_eq_false (by omega)
  have q3 : decide (op ≤ 16) = true := decide_eq_true l16
  have q4 : decide (5 ≤ op) = true := decide_eq_true (by omega)
  have q5 : decide (op ≤ 10) = false := decide_eq_false l10
  have q6 : decide (op ≤ 4) = false := decide_eq_false (by omega)
  have q7 : (u.f0 == 0) = false := beq_eq_false_iff_ne.mpr a0
  have q8 : (v.f0 == 0) = true := beq_iff_eq.mpr z0
  have l3' := Aside0.mk l3
  have l16' := Aside0.mk l16
  have l10' := Aside0.mk l10
  have a0' := Aside0.mk a0
  have z0' := Aside0.mk z0
  clear l3 l16 l10 a0 z0
  go_enter Try.func42, Try.ntmps42
  go_upto_region 1 with fail
  refine at_world (fun w' => BR u v w w') BR.start (fun w1 hI => ?_)
  have HI := Aside0.mk hI
  clear hI
  have ca0 : World.cell? w1 _ = some _ := HI.out.a0
  have ca1 : World.cell? w1 _ = some _ := HI.out.a1
  have ca2 : World.cell? w1 _ = some _ := HI.out.a2
  have cv0 : World.cell? w1 _ = some _ := HI.out.v0
  have cv1 : World.cell? w1 _ = some _ := HI.out.v1
  have cv2 : World.cell? w1 _ = some _ := HI.out.v2
  have gc0 : World.cell? w1 ⟨w.heap.size + 1 + 1, 0, none⟩ = some (.int .i64 0) := (blk_cell HI.out.2.2.1 0).trans rfl
  have gf0 := blk_frozen HI.out.2.2.1 0
  have gc1 : World.cell? w1 ⟨w.heap.size + 1 + 1, 1, none⟩ = some (.int .i64 0) := (blk_cell HI.out.2.2.1 1).trans rfl
  have gf1 := blk_frozen HI.out.2.2.1 1
  have gc2 : World.cell? w1 ⟨w.heap.size + 1 + 1, 2, none⟩ = some (.string (⟨#[]⟩ : ByteArray)) := (blk_cell HI.out.2.2.1 2).trans rfl
  have gf2 := blk_frozen HI.out.2.2.1 2
  go_wp2_with (first | (go_at_call 56; (with_reducible refine (quarryref02_goes.calls kA op u.f0 true _ HGA.out).mono ?_); rintro e w' ⟨rfl, ⟨nd, rfl⟩⟩) | (go_at_call 56; (with_reducible refine (quarryref02_goes.calls kB op v.f0 true _ HGB.out).mono ?_); rintro e w' ⟨rfl, ⟨nd, rfl⟩⟩))
  refine bodyPost_ret (v := .tuple #[.agg #[.int .i64 (0), .int .i64 (0), .string (V0)], .int .i64 0]) (by simp [results, Try.results42, go_sem, gc0, gc1, gc2, V0]) rfl ⟨rfl, ?_⟩
  refine below_set3 ?_ (by omega) _ _ _ _ _ _
  repeat (first | (with_reducible exact HI.out.bel) | apply pw_below_drewN)
set_option maxHeartbeats 2000000 in
set_option maxRecDepth 100000 in
theorem refBinary.cmp (op : Int) (u v : S25) (w : World) (kA : Nat) (HGA : Aside0 (quarryref02_goes.f kA op u.f0 = some true)) (kB : Nat) (HGB : Aside0 (quarryref02_goes.f kB op v.f0 = some true)) (l3 : 3 ≤ op) (l16 : op ≤ 16) (l5 : 5 ≤ op) (l10 : op ≤ 10) (a0 : ¬ u.f0 = 0) (z0 : ¬ v.f0 = 0) (uv : u.f0 = v.f0) (HZ : Aside0 (u.f2.size ≤ 140737488351232)) :
    Calls Try.prog 42 #[.int .i64 op, .agg #[.int .i64 u.f0, .int .i64 u.f1, .string u.f2], .agg #[.int .i64 v.f0, .int .i64 v.f1, .string v.f2]] w (fun e w' => e = .returned (.tuple #[.agg #[.int .i64 ((truthV (holdsP op (cmpV u v))).f0), .int .i64 ((truthV (holdsP op (cmpV u v))).f1), .string ((truthV (holdsP op (cmpV u v))).f2)], .int .i64 0]) ∧ Below w.heap.size w w') := by
  have hu25 := Try.underlying25
  have q0 : decide (op < 3) = false := decide_eq_false (by omega)
  have q1 : decide (3 ≤ op) = true := decide_eq_true l3
  have q2 : decide (16 < op) = false := decide_eq_false (by omega)
  have q3 : decide (op ≤ 16) = true := decide_eq_true l16
  have q4 : decide (5 ≤ op) = true := decide_eq_true l5
  have q5 : decide (op ≤ 10) = true := decide_eq_true l10
  have q6 : decide (op ≤ 4) = false := decide_eq_false (by omega)
  have q7 : (u.f0 == 0) = false := beq_eq_false_iff_ne.mpr a0
  have q8 : (v.f0 == 0) = false := beq_eq_false_iff_ne.mpr z0
  have q9 : (u.f0 != v.f0) = false := bne_eq_false_iff_eq.mpr uv
  have q10 : (u.f0 == v.f0) = true := beq_iff_eq.mpr uv
  have l3' := Aside0.mk l3
  have l16' := Aside0.mk l16
  have l5' := Aside0.mk l5
  have l10' := Aside0.mk l10
  have a0' := Aside0.mk a0
  have z0' := Aside0.mk z0
  have uv' := Aside0.mk uv
  clear l3 l16 l5 l10 a0 z0 uv
  go_enter Try.func42, Try.ntmps42
  go_upto_region 1 with fail
  refine at_world (fun w' => BR u v w w') BR.start (fun w1 hI => ?_)
  have HI := Aside0.mk hI
  clear hI
  have ca0 : World.cell? w1 _ = some _ := HI.out.a0
  have ca1 : World.cell? w1 _ = some _ := HI.out.a1
  have ca2 : World.cell? w1 _ = some _ := HI.out.a2
  have cv0 : World.cell? w1 _ = some _ := HI.out.v0
  have cv1 : World.cell? w1 _ = some _ := HI.out.v1
  have cv2 : World.cell? w1 _ = some _ := HI.out.v2
  have gc0 : World.cell? w1 ⟨w.heap.size + 1 + 1, 0, none⟩ = some (.int .i64 0) := (blk_cell HI.out.2.2.1 0).trans rfl
  have gf0 := blk_frozen HI.out.2.2.1 0
  have gc1 : World.cell? w1 ⟨w.heap.size + 1 + 1, 1, none⟩ = some (.int .i64 0) := (blk_cell HI.out.2.2.1 1).trans rfl
  have gf1 := blk_frozen HI.out.2.2.1 1
  have gc2 : World.cell? w1 ⟨w.heap.size + 1 + 1, 2, none⟩ = some (.string (⟨#[]⟩ : ByteArray)) := (blk_cell HI.out.2.2.1 2).trans rfl
  have gf2 := blk_frozen HI.out.2.2.1 2
  go_wp2_with (first | (go_at_call 56; (with_reducible refine (quarryref02_goes.calls kA op u.f0 true _ HGA.out).mono ?_); rintro e w' ⟨rfl, ⟨nd, rfl⟩⟩) | (go_at_call 56; (with_reducible refine (quarryref02_goes.calls kB op v.f0 true _ HGB.out).mono ?_); rintro e w' ⟨rfl, ⟨nd, rfl⟩⟩))
  refine (compareR_calls u v HZ.out _).mono ?_
  rintro e w2 ⟨rfl, hb⟩
  have HJ : Aside0 (BR u v w w2) := ⟨BR.below (by repeat (first | exact HI.out | refine BR.drewN ?_ _)) hb⟩
  clear hb HI ca0 ca1 ca2 cv0 cv1 cv2 gc0 gc1 gc2 gf0 gf1 gf2
  have HI := HJ
  clear HJ
  have ca0 : World.cell? w2 _ = some _ := HI.out.a0
  have ca1 : World.cell? w2 _ = some _ := HI.out.a1
  have ca2 : World.cell? w2 _ = some _ := HI.out.a2
  have cv0 : World.cell? w2 _ = some _ := HI.out.v0
  have cv1 : World.cell? w2 _ = some _ := HI.out.v1
  have cv2 : World.cell? w2 _ = some _ := HI.out.v2
  have gc0 : World.cell? w2 ⟨w.heap.size + 1 + 1, 0, none⟩ = some (.int .i64 0) := (blk_cell HI.out.2.2.1 0).trans rfl
  have gf0 := blk_frozen HI.out.2.2.1 0
  have gc1 : World.cell? w2 ⟨w.heap.size + 1 + 1, 1, none⟩ = some (.int .i64 0) := (blk_cell HI.out.2.2.1 1).trans rfl
  have gf1 := blk_frozen HI.out.2.2.1 1
  have gc2 : World.cell? w2 ⟨w.heap.size + 1 + 1, 2, none⟩ = some (.string (⟨#[]⟩ : ByteArray)) := (blk_cell HI.out.2.2.1 2).trans rfl
  have gf2 := blk_frozen HI.out.2.2.1 2
  go_wp2_with fail
  refine (quarryref02_holds.calls op (cmpV u v) _ _ (holdsR_f op (cmpV u v))).mono ?_
  rintro e w' ⟨rfl, ⟨nd, rfl⟩⟩
  go_wp2_with fail
  refine (quarryref02_Truth.calls (holdsP op (cmpV u v)) _ _ _ _ (truthR_f (holdsP op (cmpV u v)))).mono ?_
  rintro e w2 ⟨rfl, hb⟩
  have HJ : Aside0 (BR u v w w2) := ⟨BR.below (by repeat (first | exact HI.out | refine BR.drewN ?_ _)) hb⟩
  clear hb HI ca0 ca1 ca2 cv0 cv1 cv2 gc0 gc1 gc2 gf0 gf1 gf2
  have HI := HJ
  clear HJ
  have ca0 : World.cell? w2 _ = some _ := HI.out.a0
  have ca1 : World.cell? w2 _ = some _ := HI.out.a1
  have ca2 : World.cell? w2 _ = some _ := HI.out.a2
  have cv0 : World.cell? w2 _ = some _ := HI.out.v0
  have cv1 : World.cell? w2 _ = some _ := HI.out.v1
  have cv2 : World.cell? w2 _ = some _ := HI.out.v2
  have gc0 : World.cell? w2 ⟨w.heap.size + 1 + 1, 0, none⟩ = some (.int .i64 0) := (blk_cell HI.out.2.2.1 0).trans rfl
  have gf0 := blk_frozen HI.out.2.2.1 0
  have gc1 : World.cell? w2 ⟨w.heap.size + 1 + 1, 1, none⟩ = some (.int .i64 0) := (blk_cell HI.out.2.2.1 1).trans rfl
  have gf1 := blk_frozen HI.out.2.2.1 1
  have gc2 : World.cell? w2 ⟨w.heap.size + 1 + 1, 2, none⟩ = some (.string (⟨#[]⟩ : ByteArray)) := (blk_cell HI.out.2.2.1 2).trans rfl
  have gf2 := blk_frozen HI.out.2.2.1 2
  go_wp2_with fail
  refine bodyPost_ret (v := .tuple #[.agg #[.int .i64 ((truthV (holdsP op (cmpV u v))).f0), .int .i64 ((truthV (holdsP op (cmpV u v))).f1), .string ((truthV (holdsP op (cmpV u v))).f2)], .int .i64 0]) (by simp [results, Try.results42, go_sem, gc0, gc1, gc2, V0]) rfl ⟨rfl, ?_⟩
  refine below_set3 ?_ (by omega) _ _ _ _ _ _
  repeat (first | (with_reducible exact HI.out.bel) | apply pw_below_drewN)
set_option maxHeartbeats 2000000 in
set_option maxRecDepth 100000 in
theorem refBinary.catA (op : Int) (u v : S25) (w : World) (kA : Nat) (HGA : Aside0 (quarryref02_goes.f kA op u.f0 = some true)) (kB : Nat) (HGB : Aside0 (quarryref02_goes.f kB op v.f0 = some true)) (l3 : 3 ≤ op) (l16 : op ≤ 16) (l10 : ¬ op ≤ 10) (a0 : ¬ u.f0 = 0) (z0 : ¬ v.f0 = 0) (o16 : op = 16) (hz : u.f2.size + v.f2.size < 9223372036854775808) (ha : 2048 < u.f2.size) :
    Calls Try.prog 42 #[.int .i64 op, .agg #[.int .i64 u.f0, .int .i64 u.f1, .string u.f2], .agg #[.int .i64 v.f0, .int .i64 v.f1, .string v.f2]] w (fun e w' => e = .returned (.tuple #[.agg #[.int .i64 (0), .int .i64 (0), .string (V0)], .int .i64 8]) ∧ Below w.heap.size w w') := by
  have hu25 := Try.underlying25
  have q0 : decide (op < 3) = false := decide_eq_false (by omega)
  have q1 : decide (3 ≤ op) = true := decide_eq_true l3
  have q2 : decide (16 < op) = false := decide_eq_false (by omega)
  have q3 : decide (op ≤ 16) = true := decide_eq_true l16
  have q4 : decide (5 ≤ op) = true := decide_eq_true (by omega)
  have q5 : decide (op ≤ 10) = false := decide_eq_false l10
  have q6 : decide (op ≤ 4) = false := decide_eq_false (by omega)
  have q7 : (u.f0 == 0) = false := beq_eq_false_iff_ne.mpr a0
  have q8 : (v.f0 == 0) = false := beq_eq_false_iff_ne.mpr z0
  have q9 : (op == 16) = true := beq_iff_eq.mpr o16
  have q10 : decide (2048 < (u.f2.size : Int)) = true := decide_eq_true (by omega)
  have q11 : decide (2048 < u.f2.size) = true := decide_eq_true (by omega)
  have l3' := Aside0.mk l3
  have l16' := Aside0.mk l16
  have l10' := Aside0.mk l10
  have a0' := Aside0.mk a0
  have z0' := Aside0.mk z0
  have o16' := Aside0.mk o16
  have hz' := Aside0.mk hz
  have ha' := Aside0.mk ha
  clear l3 l16 l10 a0 z0 o16 hz ha
  go_enter Try.func42, Try.ntmps42
  go_upto_region 1 with fail
  refine at_world (fun w' => BR u v w w') BR.start (fun w1 hI => ?_)
  have HI := Aside0.mk hI
  clear hI
  have ca0 : World.cell? w1 _ = some _ := HI.out.a0
  have ca1 : World.cell? w1 _ = some _ := HI.out.a1
  have ca2 : World.cell? w1 _ = some _ := HI.out.a2
  have cv0 : World.cell? w1 _ = some _ := HI.out.v0
  have cv1 : World.cell? w1 _ = some _ := HI.out.v1
  have cv2 : World.cell? w1 _ = some _ := HI.out.v2
  have gc0 : World.cell? w1 ⟨w.heap.size + 1 + 1, 0, none⟩ = some (.int .i64 0) := (blk_cell HI.out.2.2.1 0).trans rfl
  have gf0 := blk_frozen HI.out.2.2.1 0
  have gc1 : World.cell? w1 ⟨w.heap.size + 1 + 1, 1, none⟩ = some (.int .i64 0) := (blk_cell HI.out.2.2.1 1).trans rfl
  have gf1 := blk_frozen HI.out.2.2.1 1
  have gc2 : World.cell? w1 ⟨w.heap.size + 1 + 1, 2, none⟩ = some (.string (⟨#[]⟩ : ByteArray)) := (blk_cell HI.out.2.2.1 2).trans rfl
  have gf2 := blk_frozen HI.out.2.2.1 2
  go_wp2_with (first | (go_at_call 56; (with_reducible refine (quarryref02_goes.calls kA op u.f0 true _ HGA.out).mono ?_); rintro e w' ⟨rfl, ⟨nd, rfl⟩⟩) | (go_at_call 56; (with_reducible refine (quarryref02_goes.calls kB op v.f0 true _ HGB.out).mono ?_); rintro e w' ⟨rfl, ⟨nd, rfl⟩⟩))
  refine bodyPost_ret (v := .tuple #[.agg #[.int .i64 (0), .int .i64 (0), .string (V0)], .int .i64 8]) (by simp [results, Try.results42, go_sem, gc0, gc1, gc2, V0]) rfl ⟨rfl, ?_⟩
  refine below_set3 ?_ (by omega) _ _ _ _ _ _
  repeat (first | (with_reducible exact HI.out.bel) | apply pw_below_drewN)
set_option maxHeartbeats 2000000 in
set_option maxRecDepth 100000 in
theorem refBinary.catB (op : Int) (u v : S25) (w : World) (kA : Nat) (HGA : Aside0 (quarryref02_goes.f kA op u.f0 = some true)) (kB : Nat) (HGB : Aside0 (quarryref02_goes.f kB op v.f0 = some true)) (l3 : 3 ≤ op) (l16 : op ≤ 16) (l10 : ¬ op ≤ 10) (a0 : ¬ u.f0 = 0) (z0 : ¬ v.f0 = 0) (o16 : op = 16) (hz : u.f2.size + v.f2.size < 9223372036854775808) (ha : ¬ 2048 < u.f2.size) (hs : ¬ u.f2.size + v.f2.size ≤ 2048) :
    Calls Try.prog 42 #[.int .i64 op, .agg #[.int .i64 u.f0, .int .i64 u.f1, .string u.f2], .agg #[.int .i64 v.f0, .int .i64 v.f1, .string v.f2]] w (fun e w' => e = .returned (.tuple #[.agg #[.int .i64 (0), .int .i64 (0), .string (V0)], .int .i64 8]) ∧ Below w.heap.size w w') := by
  have hu25 := Try.underlying25
  have q0 : decide (op < 3) = false := decide_eq_false (by omega)
  have q1 : decide (3 ≤ op) = true := decide_eq_true l3
  have q2 : decide (16 < op) = false := decide_eq_false (by omega)
  have q3 : decide (op ≤ 16) = true := decide_eq_true l16
  have q4 : decide (5 ≤ op) = true := decide_eq_true (by omega)
  have q5 : decide (op ≤ 10) = false := decide_eq_false l10
  have q6 : decide (op ≤ 4) = false := decide_eq_false (by omega)
  have q7 : (u.f0 == 0) = false := beq_eq_false_iff_ne.mpr a0
  have q8 : (v.f0 == 0) = false := beq_eq_false_iff_ne.mpr z0
  have q9 : (op == 16) = true := beq_iff_eq.mpr o16
  have q10 : decide (2048 < (u.f2.size : Int)) = false := decide_eq_false (by omega)
  have q11 : decide (2048 < u.f2.size) = false := decide_eq_false (by omega)
  have hw : wrap64 (2048 - (u.f2.size : Int)) = 2048 - (u.f2.size : Int) := by unfold wrap64; omega
  have q13 : decide (2048 - (u.f2.size : Int) < (v.f2.size : Int)) = true := decide_eq_true (by omega)
  have l3' := Aside0.mk l3
  have l16' := Aside0.mk l16
  have l10' := Aside0.mk l10
  have a0' := Aside0.mk a0
  have z0' := Aside0.mk z0
  have o16' := Aside0.mk o16
  have hz' := Aside0.mk hz
  have ha' := Aside0.mk ha
  have hs' := Aside0.mk hs
  clear l3 l16 l10 a0 z0 o16 hz ha hs
  go_enter Try.func42, Try.ntmps42
  go_upto_region 1 with fail
  refine at_world (fun w' => BR u v w w') BR.start (fun w1 hI => ?_)
  have HI := Aside0.mk hI
  clear hI
  have ca0 : World.cell? w1 _ = some _ := HI.out.a0
  have ca1 : World.cell? w1 _ = some _ := HI.out.a1
  have ca2 : World.cell? w1 _ = some _ := HI.out.a2
  have cv0 : World.cell? w1 _ = some _ := HI.out.v0
  have cv1 : World.cell? w1 _ = some _ := HI.out.v1
  have cv2 : World.cell? w1 _ = some _ := HI.out.v2
  have gc0 : World.cell? w1 ⟨w.heap.size + 1 + 1, 0, none⟩ = some (.int .i64 0) := (blk_cell HI.out.2.2.1 0).trans rfl
  have gf0 := blk_frozen HI.out.2.2.1 0
  have gc1 : World.cell? w1 ⟨w.heap.size + 1 + 1, 1, none⟩ = some (.int .i64 0) := (blk_cell HI.out.2.2.1 1).trans rfl
  have gf1 := blk_frozen HI.out.2.2.1 1
  have gc2 : World.cell? w1 ⟨w.heap.size + 1 + 1, 2, none⟩ = some (.string (⟨#[]⟩ : ByteArray)) := (blk_cell HI.out.2.2.1 2).trans rfl
  have gf2 := blk_frozen HI.out.2.2.1 2
  go_wp2_with (first | (go_at_call 56; (with_reducible refine (quarryref02_goes.calls kA op u.f0 true _ HGA.out).mono ?_); rintro e w' ⟨rfl, ⟨nd, rfl⟩⟩) | (go_at_call 56; (with_reducible refine (quarryref02_goes.calls kB op v.f0 true _ HGB.out).mono ?_); rintro e w' ⟨rfl, ⟨nd, rfl⟩⟩))
  refine bodyPost_ret (v := .tuple #[.agg #[.int .i64 (0), .int .i64 (0), .string (V0)], .int .i64 8]) (by simp [results, Try.results42, go_sem, gc0, gc1, gc2, V0]) rfl ⟨rfl, ?_⟩
  refine below_set3 ?_ (by omega) _ _ _ _ _ _
  repeat (first | (with_reducible exact HI.out.bel) | apply pw_below_drewN)
set_option maxHeartbeats 2000000 in
set_option maxRecDepth 100000 in
theorem refBinary.cat (op : Int) (u v : S25) (w : World) (kA : Nat) (HGA : Aside0 (quarryref02_goes.f kA op u.f0 = some true)) (kB : Nat) (HGB : Aside0 (quarryref02_goes.f kB op v.f0 = some true)) (l3 : 3 ≤ op) (l16 : op ≤ 16) (l10 : ¬ op ≤ 10) (a0 : ¬ u.f0 = 0) (z0 : ¬ v.f0 = 0) (o16 : op = 16) (hz : u.f2.size + v.f2.size < 9223372036854775808) (hs : u.f2.size + v.f2.size ≤ 2048) :
    Calls Try.prog 42 #[.int .i64 op, .agg #[.int .i64 u.f0, .int .i64 u.f1, .string u.f2], .agg #[.int .i64 v.f0, .int .i64 v.f1, .string v.f2]] w (fun e w' => e = .returned (.tuple #[.agg #[.int .i64 (3), .int .i64 (0), .string (u.f2 ++ v.f2)], .int .i64 0]) ∧ Below w.heap.size w w') := by
  have hu25 := Try.underlying25
  have q0 : decide (op < 3) = false := decide_eq_false (by omega)
  have q1 : decide (3 ≤ op) = true := decide_eq_true l3
  have q2 : decide (16 < op) = false := decide_eq_false (by omega)
  have q3 : decide (op ≤ 16) = true := decide_eq_true l16
  have q4 : decide (5 ≤ op) = true := decide_eq_true (by omega)
  have q5 : decide (op ≤ 10) = false := decide_eq_false l10
  have q6 : decide (op ≤ 4) = false := decide_eq_false (by omega)
  have q7 : (u.f0 == 0) = false := beq_eq_false_iff_ne.mpr a0
  have q8 : (v.f0 == 0) = false := beq_eq_false_iff_ne.mpr z0
  have q9 : (op == 16) = true := beq_iff_eq.mpr o16
  have q10 : decide (2048 < (u.f2.size : Int)) = false := decide_eq_false (by omega)
  have q11 : decide (2048 < u.f2.size) = false := decide_eq_false (by omega)
  have hw : wrap64 (2048 - (u.f2.size : Int)) = 2048 - (u.f2.size : Int) := by unfold wrap64; omega
  have q13 : decide (2048 - (u.f2.size : Int) < (v.f2.size : Int)) = false := decide_eq_false (by omega)
  have hcat : ¬ (9223372036854775807 < u.f2.size + v.f2.size) := by omega
  have l3' := Aside0.mk l3
  have l16' := Aside0.mk l16
  have l10' := Aside0.mk l10
  have a0' := Aside0.mk a0
  have z0' := Aside0.mk z0
  have o16' := Aside0.mk o16
  have hz' := Aside0.mk hz
  have hs' := Aside0.mk hs
  clear l3 l16 l10 a0 z0 o16 hz hs
  go_enter Try.func42, Try.ntmps42
  go_upto_region 1 with fail
  refine at_world (fun w' => BR u v w w') BR.start (fun w1 hI => ?_)
  have HI := Aside0.mk hI
  clear hI
  have ca0 : World.cell? w1 _ = some _ := HI.out.a0
  have ca1 : World.cell? w1 _ = some _ := HI.out.a1
  have ca2 : World.cell? w1 _ = some _ := HI.out.a2
  have cv0 : World.cell? w1 _ = some _ := HI.out.v0
  have cv1 : World.cell? w1 _ = some _ := HI.out.v1
  have cv2 : World.cell? w1 _ = some _ := HI.out.v2
  have gc0 : World.cell? w1 ⟨w.heap.size + 1 + 1, 0, none⟩ = some (.int .i64 0) := (blk_cell HI.out.2.2.1 0).trans rfl
  have gf0 := blk_frozen HI.out.2.2.1 0
  have gc1 : World.cell? w1 ⟨w.heap.size + 1 + 1, 1, none⟩ = some (.int .i64 0) := (blk_cell HI.out.2.2.1 1).trans rfl
  have gf1 := blk_frozen HI.out.2.2.1 1
  have gc2 : World.cell? w1 ⟨w.heap.size + 1 + 1, 2, none⟩ = some (.string (⟨#[]⟩ : ByteArray)) := (blk_cell HI.out.2.2.1 2).trans rfl
  have gf2 := blk_frozen HI.out.2.2.1 2
  go_wp2_with (first | (go_at_call 56; (with_reducible refine (quarryref02_goes.calls kA op u.f0 true _ HGA.out).mono ?_); rintro e w' ⟨rfl, ⟨nd, rfl⟩⟩) | (go_at_call 56; (with_reducible refine (quarryref02_goes.calls kB op v.f0 true _ HGB.out).mono ?_); rintro e w' ⟨rfl, ⟨nd, rfl⟩⟩))
  refine (quarryref02_text.calls (u.f2 ++ v.f2) _ _ _ _ (show quarryref02_text.f (u.f2 ++ v.f2) = some (3, 0, u.f2 ++ v.f2) from rfl)).mono ?_
  rintro e w2 ⟨rfl, hb⟩
  have HJ : Aside0 (BR u v w w2) := ⟨BR.below (by repeat (first | exact HI.out | refine BR.drewN ?_ _)) hb⟩
  clear hb HI ca0 ca1 ca2 cv0 cv1 cv2 gc0 gc1 gc2 gf0 gf1 gf2
  have HI := HJ
  clear HJ
  have ca0 : World.cell? w2 _ = some _ := HI.out.a0
  have ca1 : World.cell? w2 _ = some _ := HI.out.a1
  have ca2 : World.cell? w2 _ = some _ := HI.out.a2
  have cv0 : World.cell? w2 _ = some _ := HI.out.v0
  have cv1 : World.cell? w2 _ = some _ := HI.out.v1
  have cv2 : World.cell? w2 _ = some _ := HI.out.v2
  have gc0 : World.cell? w2 ⟨w.heap.size + 1 + 1, 0, none⟩ = some (.int .i64 0) := (blk_cell HI.out.2.2.1 0).trans rfl
  have gf0 := blk_frozen HI.out.2.2.1 0
  have gc1 : World.cell? w2 ⟨w.heap.size + 1 + 1, 1, none⟩ = some (.int .i64 0) := (blk_cell HI.out.2.2.1 1).trans rfl
  have gf1 := blk_frozen HI.out.2.2.1 1
  have gc2 : World.cell? w2 ⟨w.heap.size + 1 + 1, 2, none⟩ = some (.string (⟨#[]⟩ : ByteArray)) := (blk_cell HI.out.2.2.1 2).trans rfl
  have gf2 := blk_frozen HI.out.2.2.1 2
  go_wp2_with fail
  refine bodyPost_ret (v := .tuple #[.agg #[.int .i64 (3), .int .i64 (0), .string (u.f2 ++ v.f2)], .int .i64 0]) (by simp [results, Try.results42, go_sem, gc0, gc1, gc2, V0]) rfl ⟨rfl, ?_⟩
  refine below_set3 ?_ (by omega) _ _ _ _ _ _
  repeat (first | (with_reducible exact HI.out.bel) | apply pw_below_drewN)
set_option maxHeartbeats 2000000 in
set_option maxRecDepth 100000 in
theorem refBinary.zero (op : Int) (u v : S25) (w : World) (kA : Nat) (HGA : Aside0 (quarryref02_goes.f kA op u.f0 = some true)) (kB : Nat) (HGB : Aside0 (quarryref02_goes.f kB op v.f0 = some true)) (l3 : 3 ≤ op) (l16 : op ≤ 16) (l10 : ¬ op ≤ 10) (a0 : ¬ u.f0 = 0) (z0 : ¬ v.f0 = 0) (o16 : ¬ op = 16) (l14 : 14 ≤ op) (hb : v.f1 = 0) :
    Calls Try.prog 42 #[.int .i64 op, .agg #[.int .i64 u.f0, .int .i64 u.f1, .string u.f2], .agg #[.int .i64 v.f0, .int .i64 v.f1, .string v.f2]] w (fun e w' => e = .returned (.tuple #[.agg #[.int .i64 (0), .int .i64 (0), .string (V0)], .int .i64 41]) ∧ Below w.heap.size w w') := by
  have hu25 := Try.underlying25
  have q0 : decide (op < 3) = false := decide_eq_false (by omega)
  have q1 : decide (3 ≤ op) = true := decide_eq_true l3
  have q2 : decide (16 < op) = false := decide_eq_false (by omega)
  have q3 : decide (op ≤ 16) = true := decide_eq_true l16
  have q4 : decide (5 ≤ op) = true := decide_eq_true (by omega)
  have q5 : decide (op ≤ 10) = false := decide_eq_false l10
  have q6 : decide (op ≤ 4) = false := decide_eq_false (by omega)
  have q7 : (u.f0 == 0) = false := beq_eq_false_iff_ne.mpr a0
  have q8 : (v.f0 == 0) = false := beq_eq_false_iff_ne.mpr z0
  have q9 : (op == 16) = false := beq_eq_false_iff_ne.mpr o16
  have q10 : decide (14 ≤ op) = true := decide_eq_true l14
  have q11 : (v.f1 == 0) = true := beq_iff_eq.mpr hb
  have l3' := Aside0.mk l3
  have l16' := Aside0.mk l16
  have l10' := Aside0.mk l10
  have a0' := Aside0.mk a0
  have z0' := Aside0.mk z0
  have o16' := Aside0.mk o16
  have l14' := Aside0.mk l14
  have hb' := Aside0.mk hb
  clear l3 l16 l10 a0 z0 o16 l14 hb
  go_enter Try.func42, Try.ntmps42
  go_upto_region 1 with fail
  refine at_world (fun w' => BR u v w w') BR.start (fun w1 hI => ?_)
  have HI := Aside0.mk hI
  clear hI
  have ca0 : World.cell? w1 _ = some _ := HI.out.a0
  have ca1 : World.cell? w1 _ = some _ := HI.out.a1
  have ca2 : World.cell? w1 _ = some _ := HI.out.a2
  have cv0 : World.cell? w1 _ = some _ := HI.out.v0
  have cv1 : World.cell? w1 _ = some _ := HI.out.v1
  have cv2 : World.cell? w1 _ = some _ := HI.out.v2
  have gc0 : World.cell? w1 ⟨w.heap.size + 1 + 1, 0, none⟩ = some (.int .i64 0) := (blk_cell HI.out.2.2.1 0).trans rfl
  have gf0 := blk_frozen HI.out.2.2.1 0
  have gc1 : World.cell? w1 ⟨w.heap.size + 1 + 1, 1, none⟩ = some (.int .i64 0) := (blk_cell HI.out.2.2.1 1).trans rfl
  have gf1 := blk_frozen HI.out.2.2.1 1
  have gc2 : World.cell? w1 ⟨w.heap.size + 1 + 1, 2, none⟩ = some (.string (⟨#[]⟩ : ByteArray)) := (blk_cell HI.out.2.2.1 2).trans rfl
  have gf2 := blk_frozen HI.out.2.2.1 2
  go_wp2_with (first | (go_at_call 56; (with_reducible refine (quarryref02_goes.calls kA op u.f0 true _ HGA.out).mono ?_); rintro e w' ⟨rfl, ⟨nd, rfl⟩⟩) | (go_at_call 56; (with_reducible refine (quarryref02_goes.calls kB op v.f0 true _ HGB.out).mono ?_); rintro e w' ⟨rfl, ⟨nd, rfl⟩⟩))
  refine bodyPost_ret (v := .tuple #[.agg #[.int .i64 (0), .int .i64 (0), .string (V0)], .int .i64 41]) (by simp [results, Try.results42, go_sem, gc0, gc1, gc2, V0]) rfl ⟨rfl, ?_⟩
  refine below_set3 ?_ (by omega) _ _ _ _ _ _
  repeat (first | (with_reducible exact HI.out.bel) | apply pw_below_drewN)
set_option maxHeartbeats 2000000 in
set_option maxRecDepth 100000 in
theorem refBinary.num0 (op : Int) (u v : S25) (w : World) (kA : Nat) (HGA : Aside0 (quarryref02_goes.f kA op u.f0 = some true)) (kB : Nat) (HGB : Aside0 (quarryref02_goes.f kB op v.f0 = some true)) (l3 : 3 ≤ op) (l16 : op ≤ 16) (l10 : ¬ op ≤ 10) (a0 : ¬ u.f0 = 0) (z0 : ¬ v.f0 = 0) (o16 : ¬ op = 16) (l14 : ¬ 14 ≤ op) (k : Nat) (n : Int) (HN : Aside0 (quarryref02_sum.f k op u.f1 v.f1 = some (n, true))) :
    Calls Try.prog 42 #[.int .i64 op, .agg #[.int .i64 u.f0, .int .i64 u.f1, .string u.f2], .agg #[.int .i64 v.f0, .int .i64 v.f1, .string v.f2]] w (fun e w' => e = .returned (.tuple #[.agg #[.int .i64 (2), .int .i64 (n), .string (V0)], .int .i64 0]) ∧ Below w.heap.size w w') := by
  have hu25 := Try.underlying25
  have q0 : decide (op < 3) = false := decide_eq_false (by omega)
  have q1 : decide (3 ≤ op) = true := decide_eq_true l3
  have q2 : decide (16 < op) = false := decide_eq_false (by omega)
  have q3 : decide (op ≤ 16) = true := decide_eq_true l16
  have q4 : decide (5 ≤ op) = true := decide_eq_true (by omega)
  have q5 : decide (op ≤ 10) = false := decide_eq_false l10
  have q6 : decide (op ≤ 4) = false := decide_eq_false (by omega)
  have q7 : (u.f0 == 0) = false := beq_eq_false_iff_ne.mpr a0
  have q8 : (v.f0 == 0) = false := beq_eq_false_iff_ne.mpr z0
  have q9 : (op == 16) = false := beq_eq_false_iff_ne.mpr o16
  have q10 : decide (14 ≤ op) = false := decide_eq_false l14
  have l3' := Aside0.mk l3
  have l16' := Aside0.mk l16
  have l10' := Aside0.mk l10
  have a0' := Aside0.mk a0
  have z0' := Aside0.mk z0
  have o16' := Aside0.mk o16
  have l14' := Aside0.mk l14
  clear l3 l16 l10 a0 z0 o16 l14
  go_enter Try.func42, Try.ntmps42
  go_upto_region 1 with fail
  refine at_world (fun w' => BR u v w w') BR.start (fun w1 hI => ?_)
  have HI := Aside0.mk hI
  clear hI
  have ca0 : World.cell? w1 _ = some _ := HI.out.a0
  have ca1 : World.cell? w1 _ = some _ := HI.out.a1
  have ca2 : World.cell? w1 _ = some _ := HI.out.a2
  have cv0 : World.cell? w1 _ = some _ := HI.out.v0
  have cv1 : World.cell? w1 _ = some _ := HI.out.v1
  have cv2 : World.cell? w1 _ = some _ := HI.out.v2
  have gc0 : World.cell? w1 ⟨w.heap.size + 1 + 1, 0, none⟩ = some (.int .i64 0) := (blk_cell HI.out.2.2.1 0).trans rfl
  have gf0 := blk_frozen HI.out.2.2.1 0
  have gc1 : World.cell? w1 ⟨w.heap.size + 1 + 1, 1, none⟩ = some (.int .i64 0) := (blk_cell HI.out.2.2.1 1).trans rfl
  have gf1 := blk_frozen HI.out.2.2.1 1
  have gc2 : World.cell? w1 ⟨w.heap.size + 1 + 1, 2, none⟩ = some (.string (⟨#[]⟩ : ByteArray)) := (blk_cell HI.out.2.2.1 2).trans rfl
  have gf2 := blk_frozen HI.out.2.2.1 2
  go_wp2_with (first | (go_at_call 56; (with_reducible refine (quarryref02_goes.calls kA op u.f0 true _ HGA.out).mono ?_); rintro e w' ⟨rfl, ⟨nd, rfl⟩⟩) | (go_at_call 56; (with_reducible refine (quarryref02_goes.calls kB op v.f0 true _ HGB.out).mono ?_); rintro e w' ⟨rfl, ⟨nd, rfl⟩⟩))
  refine (quarryref02_sum.calls k op u.f1 v.f1 n true _ HN.out).mono ?_
  rintro e w' ⟨rfl, ⟨nd, rfl⟩⟩
  go_wp2_with fail
  refine (quarryref02_Number.calls n _ _ _ _ (show quarryref02_Number.f n = some (2, n, V0) from rfl)).mono ?_
  rintro e w2 ⟨rfl, hb⟩
  have HJ : Aside0 (BR u v w w2) := ⟨BR.below (by repeat (first | exact HI.out | refine BR.drewN ?_ _)) hb⟩
  clear hb HI ca0 ca1 ca2 cv0 cv1 cv2 gc0 gc1 gc2 gf0 gf1 gf2
  have HI := HJ
  clear HJ
  have ca0 : World.cell? w2 _ = some _ := HI.out.a0
  have ca1 : World.cell? w2 _ = some _ := HI.out.a1
  have ca2 : World.cell? w2 _ = some _ := HI.out.a2
  have cv0 : World.cell? w2 _ = some _ := HI.out.v0
  have cv1 : World.cell? w2 _ = some _ := HI.out.v1
  have cv2 : World.cell? w2 _ = some _ := HI.out.v2
  have gc0 : World.cell? w2 ⟨w.heap.size + 1 + 1, 0, none⟩ = some (.int .i64 0) := (blk_cell HI.out.2.2.1 0).trans rfl
  have gf0 := blk_frozen HI.out.2.2.1 0
  have gc1 : World.cell? w2 ⟨w.heap.size + 1 + 1, 1, none⟩ = some (.int .i64 0) := (blk_cell HI.out.2.2.1 1).trans rfl
  have gf1 := blk_frozen HI.out.2.2.1 1
  have gc2 : World.cell? w2 ⟨w.heap.size + 1 + 1, 2, none⟩ = some (.string (⟨#[]⟩ : ByteArray)) := (blk_cell HI.out.2.2.1 2).trans rfl
  have gf2 := blk_frozen HI.out.2.2.1 2
  go_wp2_with fail
  refine bodyPost_ret (v := .tuple #[.agg #[.int .i64 (2), .int .i64 (n), .string (V0)], .int .i64 0]) (by simp [results, Try.results42, go_sem, gc0, gc1, gc2, V0]) rfl ⟨rfl, ?_⟩
  refine below_set3 ?_ (by omega) _ _ _ _ _ _
  repeat (first | (with_reducible exact HI.out.bel) | apply pw_below_drewN)
set_option maxHeartbeats 2000000 in
set_option maxRecDepth 100000 in
theorem refBinary.over0 (op : Int) (u v : S25) (w : World) (kA : Nat) (HGA : Aside0 (quarryref02_goes.f kA op u.f0 = some true)) (kB : Nat) (HGB : Aside0 (quarryref02_goes.f kB op v.f0 = some true)) (l3 : 3 ≤ op) (l16 : op ≤ 16) (l10 : ¬ op ≤ 10) (a0 : ¬ u.f0 = 0) (z0 : ¬ v.f0 = 0) (o16 : ¬ op = 16) (l14 : ¬ 14 ≤ op) (k : Nat) (n : Int) (HN : Aside0 (quarryref02_sum.f k op u.f1 v.f1 = some (n, false))) :
    Calls Try.prog 42 #[.int .i64 op, .agg #[.int .i64 u.f0, .int .i64 u.f1, .string u.f2], .agg #[.int .i64 v.f0, .int .i64 v.f1, .string v.f2]] w (fun e w' => e = .returned (.tuple #[.agg #[.int .i64 (0), .int .i64 (0), .string (V0)], .int .i64 40]) ∧ Below w.heap.size w w') := by
  have hu25 := Try.underlying25
  have q0 : decide (op < 3) = false := decide_eq_false (by omega)
  have q1 : decide (3 ≤ op) = true := decide_eq_true l3
  have q2 : decide (16 < op) = false := decide_eq_false (by omega)
  have q3 : decide (op ≤ 16) = true := decide_eq_true l16
  have q4 : decide (5 ≤ op) = true := decide_eq_true (by omega)
  have q5 : decide (op ≤ 10) = false := decide_eq_false l10
  have q6 : decide (op ≤ 4) = false := decide_eq_false (by omega)
  have q7 : (u.f0 == 0) = false := beq_eq_false_iff_ne.mpr a0
  have q8 : (v.f0 == 0) = false := beq_eq_false_iff_ne.mpr z0
  have q9 : (op == 16) = false := beq_eq_false_iff_ne.mpr o16
  have q10 : decide (14 ≤ op) = false := decide_eq_false l14
  have l3' := Aside0.mk l3
  have l16' := Aside0.mk l16
  have l10' := Aside0.mk l10
  have a0' := Aside0.mk a0
  have z0' := Aside0.mk z0
  have o16' := Aside0.mk o16
  have l14' := Aside0.mk l14
  clear l3 l16 l10 a0 z0 o16 l14
  go_enter Try.func42, Try.ntmps42
  go_upto_region 1 with fail
  refine at_world (fun w' => BR u v w w') BR.start (fun w1 hI => ?_)
  have HI := Aside0.mk hI
  clear hI
  have ca0 : World.cell? w1 _ = some _ := HI.out.a0
  have ca1 : World.cell? w1 _ = some _ := HI.out.a1
  have ca2 : World.cell? w1 _ = some _ := HI.out.a2
  have cv0 : World.cell? w1 _ = some _ := HI.out.v0
  have cv1 : World.cell? w1 _ = some _ := HI.out.v1
  have cv2 : World.cell? w1 _ = some _ := HI.out.v2
  have gc0 : World.cell? w1 ⟨w.heap.size + 1 + 1, 0, none⟩ = some (.int .i64 0) := (blk_cell HI.out.2.2.1 0).trans rfl
  have gf0 := blk_frozen HI.out.2.2.1 0
  have gc1 : World.cell? w1 ⟨w.heap.size + 1 + 1, 1, none⟩ = some (.int .i64 0) := (blk_cell HI.out.2.2.1 1).trans rfl
  have gf1 := blk_frozen HI.out.2.2.1 1
  have gc2 : World.cell? w1 ⟨w.heap.size + 1 + 1, 2, none⟩ = some (.string (⟨#[]⟩ : ByteArray)) := (blk_cell HI.out.2.2.1 2).trans rfl
  have gf2 := blk_frozen HI.out.2.2.1 2
  go_wp2_with (first | (go_at_call 56; (with_reducible refine (quarryref02_goes.calls kA op u.f0 true _ HGA.out).mono ?_); rintro e w' ⟨rfl, ⟨nd, rfl⟩⟩) | (go_at_call 56; (with_reducible refine (quarryref02_goes.calls kB op v.f0 true _ HGB.out).mono ?_); rintro e w' ⟨rfl, ⟨nd, rfl⟩⟩))
  refine (quarryref02_sum.calls k op u.f1 v.f1 n false _ HN.out).mono ?_
  rintro e w' ⟨rfl, ⟨nd, rfl⟩⟩
  go_wp2_with fail
  refine bodyPost_ret (v := .tuple #[.agg #[.int .i64 (0), .int .i64 (0), .string (V0)], .int .i64 40]) (by simp [results, Try.results42, go_sem, gc0, gc1, gc2, V0]) rfl ⟨rfl, ?_⟩
  refine below_set3 ?_ (by omega) _ _ _ _ _ _
  repeat (first | (with_reducible exact HI.out.bel) | apply pw_below_drewN)
set_option maxHeartbeats 2000000 in
set_option maxRecDepth 100000 in
theorem refBinary.num1 (op : Int) (u v : S25) (w : World) (kA : Nat) (HGA : Aside0 (quarryref02_goes.f kA op u.f0 = some true)) (kB : Nat) (HGB : Aside0 (quarryref02_goes.f kB op v.f0 = some true)) (l3 : 3 ≤ op) (l16 : op ≤ 16) (l10 : ¬ op ≤ 10) (a0 : ¬ u.f0 = 0) (z0 : ¬ v.f0 = 0) (o16 : ¬ op = 16) (l14 : 14 ≤ op) (hb : ¬ v.f1 = 0) (k : Nat) (n : Int) (HN : Aside0 (quarryref02_sum.f k op u.f1 v.f1 = some (n, true))) :
    Calls Try.prog 42 #[.int .i64 op, .agg #[.int .i64 u.f0, .int .i64 u.f1, .string u.f2], .agg #[.int .i64 v.f0, .int .i64 v.f1, .string v.f2]] w (fun e w' => e = .returned (.tuple #[.agg #[.int .i64 (2), .int .i64 (n), .string (V0)], .int .i64 0]) ∧ Below w.heap.size w w') := by
  have hu25 := Try.underlying25
  have q0 : decide (op < 3) = false := decide_eq_false (by omega)
  have q1 : decide (3 ≤ op) = true := decide_eq_true l3
  have q2 : decide (16 < op) = false := decide_eq_false (by omega)
  have q3 : decide (op ≤ 16) = true := decide_eq_true l16
  have q4 : decide (5 ≤ op) = true := decide_eq_true (by omega)
  have q5 : decide (op ≤ 10) = false := decide_eq_false l10
  have q6 : decide (op ≤ 4) = false := decide_eq_false (by omega)
  have q7 : (u.f0 == 0) = false := beq_eq_false_iff_ne.mpr a0
  have q8 : (v.f0 == 0) = false := beq_eq_false_iff_ne.mpr z0
  have q9 : (op == 16) = false := beq_eq_false_iff_ne.mpr o16
  have q10 : decide (14 ≤ op) = true := decide_eq_true l14
  have q11 : (v.f1 == 0) = false := beq_eq_false_iff_ne.mpr hb
  have l3' := Aside0.mk l3
  have l16' := Aside0.mk l16
  have l10' := Aside0.mk l10
  have a0' := Aside0.mk a0
  have z0' := Aside0.mk z0
  have o16' := Aside0.mk o16
  have l14' := Aside0.mk l14
  have hb' := Aside0.mk hb
  clear l3 l16 l10 a0 z0 o16 l14 hb
  go_enter Try.func42, Try.ntmps42
  go_upto_region 1 with fail
  refine at_world (fun w' => BR u v w w') BR.start (fun w1 hI => ?_)
  have HI := Aside0.mk hI
  clear hI
  have ca0 : World.cell? w1 _ = some _ := HI.out.a0
  have ca1 : World.cell? w1 _ = some _ := HI.out.a1
  have ca2 : World.cell? w1 _ = some _ := HI.out.a2
  have cv0 : World.cell? w1 _ = some _ := HI.out.v0
  have cv1 : World.cell? w1 _ = some _ := HI.out.v1
  have cv2 : World.cell? w1 _ = some _ := HI.out.v2
  have gc0 : World.cell? w1 ⟨w.heap.size + 1 + 1, 0, none⟩ = some (.int .i64 0) := (blk_cell HI.out.2.2.1 0).trans rfl
  have gf0 := blk_frozen HI.out.2.2.1 0
  have gc1 : World.cell? w1 ⟨w.heap.size + 1 + 1, 1, none⟩ = some (.int .i64 0) := (blk_cell HI.out.2.2.1 1).trans rfl
  have gf1 := blk_frozen HI.out.2.2.1 1
  have gc2 : World.cell? w1 ⟨w.heap.size + 1 + 1, 2, none⟩ = some (.string (⟨#[]⟩ : ByteArray)) := (blk_cell HI.out.2.2.1 2).trans rfl
  have gf2 := blk_frozen HI.out.2.2.1 2
  go_wp2_with (first | (go_at_call 56; (with_reducible refine (quarryref02_goes.calls kA op u.f0 true _ HGA.out).mono ?_); rintro e w' ⟨rfl, ⟨nd, rfl⟩⟩) | (go_at_call 56; (with_reducible refine (quarryref02_goes.calls kB op v.f0 true _ HGB.out).mono ?_); rintro e w' ⟨rfl, ⟨nd, rfl⟩⟩))
  refine (quarryref02_sum.calls k op u.f1 v.f1 n true _ HN.out).mono ?_
  rintro e w' ⟨rfl, ⟨nd, rfl⟩⟩
  go_wp2_with fail
  refine (quarryref02_Number.calls n _ _ _ _ (show quarryref02_Number.f n = some (2, n, V0) from rfl)).mono ?_
  rintro e w2 ⟨rfl, hb⟩
  have HJ : Aside0 (BR u v w w2) := ⟨BR.below (by repeat (first | exact HI.out | refine BR.drewN ?_ _)) hb⟩
  clear hb HI ca0 ca1 ca2 cv0 cv1 cv2 gc0 gc1 gc2 gf0 gf1 gf2
  have HI := HJ
  clear HJ
  have ca0 : World.cell? w2 _ = some _ := HI.out.a0
  have ca1 : World.cell? w2 _ = some _ := HI.out.a1
  have ca2 : World.cell? w2 _ = some _ := HI.out.a2
  have cv0 : World.cell? w2 _ = some _ := HI.out.v0
  have cv1 : World.cell? w2 _ = some _ := HI.out.v1
  have cv2 : World.cell? w2 _ = some _ := HI.out.v2
  have gc0 : World.cell? w2 ⟨w.heap.size + 1 + 1, 0, none⟩ = some (.int .i64 0) := (blk_cell HI.out.2.2.1 0).trans rfl
  have gf0 := blk_frozen HI.out.2.2.1 0
  have gc1 : World.cell? w2 ⟨w.heap.size + 1 + 1, 1, none⟩ = some (.int .i64 0) := (blk_cell HI.out.2.2.1 1).trans rfl
  have gf1 := blk_frozen HI.out.2.2.1 1
  have gc2 : World.cell? w2 ⟨w.heap.size + 1 + 1, 2, none⟩ = some (.string (⟨#[]⟩ : ByteArray)) := (blk_cell HI.out.2.2.1 2).trans rfl
  have gf2 := blk_frozen HI.out.2.2.1 2
  go_wp2_with fail
  refine bodyPost_ret (v := .tuple #[.agg #[.int .i64 (2), .int .i64 (n), .string (V0)], .int .i64 0]) (by simp [results, Try.results42, go_sem, gc0, gc1, gc2, V0]) rfl ⟨rfl, ?_⟩
  refine below_set3 ?_ (by omega) _ _ _ _ _ _
  repeat (first | (with_reducible exact HI.out.bel) | apply pw_below_drewN)
set_option maxHeartbeats 2000000 in
set_option maxRecDepth 100000 in
theorem refBinary.over1 (op : Int) (u v : S25) (w : World) (kA : Nat) (HGA : Aside0 (quarryref02_goes.f kA op u.f0 = some true)) (kB : Nat) (HGB : Aside0 (quarryref02_goes.f kB op v.f0 = some true)) (l3 : 3 ≤ op) (l16 : op ≤ 16) (l10 : ¬ op ≤ 10) (a0 : ¬ u.f0 = 0) (z0 : ¬ v.f0 = 0) (o16 : ¬ op = 16) (l14 : 14 ≤ op) (hb : ¬ v.f1 = 0) (k : Nat) (n : Int) (HN : Aside0 (quarryref02_sum.f k op u.f1 v.f1 = some (n, false))) :
    Calls Try.prog 42 #[.int .i64 op, .agg #[.int .i64 u.f0, .int .i64 u.f1, .string u.f2], .agg #[.int .i64 v.f0, .int .i64 v.f1, .string v.f2]] w (fun e w' => e = .returned (.tuple #[.agg #[.int .i64 (0), .int .i64 (0), .string (V0)], .int .i64 40]) ∧ Below w.heap.size w w') := by
  have hu25 := Try.underlying25
  have q0 : decide (op < 3) = false := decide_eq_false (by omega)
  have q1 : decide (3 ≤ op) = true := decide_eq_true l3
  have q2 : decide (16 < op) = false := decide_eq_false (by omega)
  have q3 : decide (op ≤ 16) = true := decide_eq_true l16
  have q4 : decide (5 ≤ op) = true := decide_eq_true (by omega)
  have q5 : decide (op ≤ 10) = false := decide_eq_false l10
  have q6 : decide (op ≤ 4) = false := decide_eq_false (by omega)
  have q7 : (u.f0 == 0) = false := beq_eq_false_iff_ne.mpr a0
  have q8 : (v.f0 == 0) = false := beq_eq_false_iff_ne.mpr z0
  have q9 : (op == 16) = false := beq_eq_false_iff_ne.mpr o16
  have q10 : decide (14 ≤ op) = true := decide_eq_true l14
  have q11 : (v.f1 == 0) = false := beq_eq_false_iff_ne.mpr hb
  have l3' := Aside0.mk l3
  have l16' := Aside0.mk l16
  have l10' := Aside0.mk l10
  have a0' := Aside0.mk a0
  have z0' := Aside0.mk z0
  have o16' := Aside0.mk o16
  have l14' := Aside0.mk l14
  have hb' := Aside0.mk hb
  clear l3 l16 l10 a0 z0 o16 l14 hb
  go_enter Try.func42, Try.ntmps42
  go_upto_region 1 with fail
  refine at_world (fun w' => BR u v w w') BR.start (fun w1 hI => ?_)
  have HI := Aside0.mk hI
  clear hI
  have ca0 : World.cell? w1 _ = some _ := HI.out.a0
  have ca1 : World.cell? w1 _ = some _ := HI.out.a1
  have ca2 : World.cell? w1 _ = some _ := HI.out.a2
  have cv0 : World.cell? w1 _ = some _ := HI.out.v0
  have cv1 : World.cell? w1 _ = some _ := HI.out.v1
  have cv2 : World.cell? w1 _ = some _ := HI.out.v2
  have gc0 : World.cell? w1 ⟨w.heap.size + 1 + 1, 0, none⟩ = some (.int .i64 0) := (blk_cell HI.out.2.2.1 0).trans rfl
  have gf0 := blk_frozen HI.out.2.2.1 0
  have gc1 : World.cell? w1 ⟨w.heap.size + 1 + 1, 1, none⟩ = some (.int .i64 0) := (blk_cell HI.out.2.2.1 1).trans rfl
  have gf1 := blk_frozen HI.out.2.2.1 1
  have gc2 : World.cell? w1 ⟨w.heap.size + 1 + 1, 2, none⟩ = some (.string (⟨#[]⟩ : ByteArray)) := (blk_cell HI.out.2.2.1 2).trans rfl
  have gf2 := blk_frozen HI.out.2.2.1 2
  go_wp2_with (first | (go_at_call 56; (with_reducible refine (quarryref02_goes.calls kA op u.f0 true _ HGA.out).mono ?_); rintro e w' ⟨rfl, ⟨nd, rfl⟩⟩) | (go_at_call 56; (with_reducible refine (quarryref02_goes.calls kB op v.f0 true _ HGB.out).mono ?_); rintro e w' ⟨rfl, ⟨nd, rfl⟩⟩))
  refine (quarryref02_sum.calls k op u.f1 v.f1 n false _ HN.out).mono ?_
  rintro e w' ⟨rfl, ⟨nd, rfl⟩⟩
  go_wp2_with fail
  refine bodyPost_ret (v := .tuple #[.agg #[.int .i64 (0), .int .i64 (0), .string (V0)], .int .i64 40]) (by simp [results, Try.results42, go_sem, gc0, gc1, gc2, V0]) rfl ⟨rfl, ?_⟩
  refine below_set3 ?_ (by omega) _ _ _ _ _ _
  repeat (first | (with_reducible exact HI.out.bel) | apply pw_below_drewN)
end Go.Proofs.Ytmfenomjhmhogaa.P
end
section
namespace Go.Proofs.Ytmfenomjhmhogaa.P
set_option linter.unusedVariables false
set_option linter.unusedSimpArgs false
open Go.RowKit Go.Proofs.Ytmfenomjhmhogaa.Pure Go.Proofs.YtmfenomjhmhogaaW.PrintWords Go.Proofs.YtmfenomjhmhogaaW.PrintLast Go.Proofs.YtmfenomjhmhogaaW.PrintMore
attribute [local go_sem] max2_int min2_int max_two min_two max_three min_three max_four min_four
theorem wants_zero {op : Int} (h : wantsP op = 0) : ¬ op ≤ 4 ∧ op ≤ 10 := by
  unfold wantsP at h
  by_cases h4 : op ≤ 4
  · rw [if_pos h4] at h; omega
  · rw [if_neg h4] at h
    by_cases h10 : op ≤ 10
    · exact ⟨h4, h10⟩
    · rw [if_neg h10] at h
      by_cases h16 : op = 16
      · rw [if_pos h16] at h; omega
      · rw [if_neg h16] at h; omega
theorem goes_of {op a : Int} (h3 : 3 ≤ op) (h16 : op ≤ 16) (b : Bool) (hb : goesP op a = b) : ∃ k, quarryref02_goes.f k op a = some b := by
  obtain ⟨k, hk⟩ := (goes_ev h3 h16 a).get
  exact ⟨k, by rw [hk, hb]⟩
theorem refBinary.calls (op : Int) (u v : S25) (hu : In64 u.f1) (hv : In64 v.f1) (hz : u.f2.size + v.f2.size < 9223372036854775808) (hx : u.f2.size ≤ 140737488351232) (w : World) :
    Calls Try.prog 42 #[.int .i64 op, .agg #[.int .i64 u.f0, .int .i64 u.f1, .string u.f2], .agg #[.int .i64 v.f0, .int .i64 v.f1, .string v.f2]] w fun e w' => e = .returned (.tuple #[encV (outE (bin op u v)).1, .int .i64 (outE (bin op u v)).2]) ∧ Below w.heap.size w w' := by
  unfold bin
  by_cases l3 : 3 ≤ op
  · by_cases l16 : op ≤ 16
    · rw [if_neg (fun h => h ⟨l3, l16⟩)]
      have hg : kindsP op u.f0 v.f0 ↔ (goesP op u.f0 = true ∧ goesP op v.f0 = true ∧ (wantsP op = 0 → u.f0 = 0 ∨ v.f0 = 0 ∨ u.f0 = v.f0)) := by
        unfold kindsP goesP
        by_cases kz : wantsP op = 0
        · simp [kz]
        · simp [kz]
      cases hA : goesP op u.f0 with
      | false =>
        obtain ⟨kA, HA⟩ := goes_of l3 l16 false hA
        rw [if_pos (fun h => by rw [hg, hA] at h; exact absurd h.1 (by decide))]
        have a0 : ¬ u.f0 = 0 := fun h => by simp [goesP, h] at hA
        by_cases z0 : v.f0 = 0
        · exact refBinary.kindAB op u v w kA ⟨HA⟩ l3 l16 a0 z0
        · exact refBinary.kindAC op u v w kA ⟨HA⟩ l3 l16 a0 z0
      | true =>
      obtain ⟨kA, HA⟩ := goes_of l3 l16 true hA
      cases hB : goesP op v.f0 with
      | false =>
        obtain ⟨kB, HB⟩ := goes_of l3 l16 false hB
        rw [if_pos (fun h => by rw [hg, hB] at h; exact absurd h.2.1 (by decide))]
        have z0 : ¬ v.f0 = 0 := fun h => by simp [goesP, h] at hB
        by_cases a0 : u.f0 = 0
        · exact refBinary.kindBA op u v w kA ⟨HA⟩ kB ⟨HB⟩ l3 l16 a0
        · exact refBinary.kindBC op u v w kA ⟨HA⟩ kB ⟨HB⟩ l3 l16 a0 z0
      | true =>
      obtain ⟨kB, HB⟩ := goes_of l3 l16 true hB
      by_cases l4 : op ≤ 4
      · have kn : ¬ wantsP op = 0 := fun h => (wants_zero h).1 l4
        rw [if_neg (fun h => h (hg.2 ⟨hA, hB, fun q => absurd q kn⟩)), if_pos l4]
        by_cases a0 : u.f0 = 0
        · exact refBinary.logicA op u v w kA ⟨HA⟩ kB ⟨HB⟩ l3 l16 l4 a0
        by_cases z0 : v.f0 = 0
        · exact refBinary.logicB op u v w kA ⟨HA⟩ kB ⟨HB⟩ l3 l16 l4 a0 z0
        · exact refBinary.logicC op u v w kA ⟨HA⟩ kB ⟨HB⟩ l3 l16 l4 a0 z0
      by_cases l10 : op ≤ 10
      · have kz : wantsP op = 0 := by unfold wantsP; rw [if_neg l4, if_pos l10]
        have l5 : 5 ≤ op := by omega
        by_cases a0 : u.f0 = 0
        · rw [if_neg (fun h => h (hg.2 ⟨hA, hB, fun _ => .inl a0⟩)), if_neg l4, if_pos (.inl a0)]
          exact refBinary.nullMA op u v w kA ⟨HA⟩ kB ⟨HB⟩ l3 l16 l5 l10 a0
        by_cases z0 : v.f0 = 0
        · rw [if_neg (fun h => h (hg.2 ⟨hA, hB, fun _ => .inr (.inl z0)⟩)), if_neg l4, if_pos (.inr z0)]
          exact refBinary.nullMB op u v w kA ⟨HA⟩ kB ⟨HB⟩ l3 l16 l5 l10 a0 z0
        by_cases uv : u.f0 = v.f0
        · rw [if_neg (fun h => h (hg.2 ⟨hA, hB, fun _ => .inr (.inr uv)⟩)), if_neg l4, if_neg (fun h => h.elim a0 z0), if_pos l10]
          exact refBinary.cmp op u v w kA ⟨HA⟩ kB ⟨HB⟩ l3 l16 l5 l10 a0 z0 uv ⟨hx⟩
        · rw [if_pos (fun h => (((hg.1 h).2.2 kz).elim a0 (fun h => h.elim z0 uv)))]
          exact refBinary.differ op u v w kA ⟨HA⟩ kB ⟨HB⟩ l3 l16 l5 l10 a0 z0 uv
      have kn : ¬ wantsP op = 0 := fun h => l10 (wants_zero h).2
      rw [if_neg (fun h => h (hg.2 ⟨hA, hB, fun q => absurd q kn⟩)), if_neg l4]
      by_cases a0 : u.f0 = 0
      · rw [if_pos (.inl a0)]; exact refBinary.nullHA op u v w kA ⟨HA⟩ kB ⟨HB⟩ l3 l16 l10 a0
      by_cases z0 : v.f0 = 0
      · rw [if_pos (.inr z0)]; exact refBinary.nullHB op u v w kA ⟨HA⟩ kB ⟨HB⟩ l3 l16 l10 a0 z0
      rw [if_neg (fun h => h.elim a0 z0), if_neg l10]
      by_cases o16 : op = 16
      · rw [if_pos o16]
        by_cases hs : u.f2.size + v.f2.size ≤ 2048
        · rw [if_pos hs]; exact refBinary.cat op u v w kA ⟨HA⟩ kB ⟨HB⟩ l3 l16 l10 a0 z0 o16 hz hs
        · rw [if_neg hs]
          by_cases ha : 2048 < u.f2.size
          · exact refBinary.catA op u v w kA ⟨HA⟩ kB ⟨HB⟩ l3 l16 l10 a0 z0 o16 hz ha
          · exact refBinary.catB op u v w kA ⟨HA⟩ kB ⟨HB⟩ l3 l16 l10 a0 z0 o16 hz ha hs
      rw [if_neg o16]
      by_cases hd : 14 ≤ op ∧ v.f1 = 0
      · have hs : sumP op u.f1 v.f1 = .error 41 := by
          unfold sumP
          rw [if_neg (by omega), if_neg (by omega), if_neg (by omega), if_pos hd.2]
        rw [hs]
        exact refBinary.zero op u v w kA ⟨HA⟩ kB ⟨HB⟩ l3 l16 l10 a0 z0 o16 hd.1 hd.2
      · have hnz : 14 ≤ op → ¬ v.f1 = 0 := fun h q => hd ⟨h, q⟩
        rw [sumP_R hu hv hnz (by omega) (by omega)]
        obtain ⟨k, hk⟩ := (sumR_ev hu hv hnz (by omega)).get
        obtain ⟨⟨n, b⟩, hr⟩ : ∃ p, sumR op u.f1 v.f1 = p := ⟨_, rfl⟩
        rw [hr] at hk ⊢
        cases b with
        | true =>
          by_cases l14 : 14 ≤ op
          · exact refBinary.num1 op u v w kA ⟨HA⟩ kB ⟨HB⟩ l3 l16 l10 a0 z0 o16 l14 (hnz l14) k n ⟨hk⟩
          · exact refBinary.num0 op u v w kA ⟨HA⟩ kB ⟨HB⟩ l3 l16 l10 a0 z0 o16 l14 k n ⟨hk⟩
        | false =>
          by_cases l14 : 14 ≤ op
          · exact refBinary.over1 op u v w kA ⟨HA⟩ kB ⟨HB⟩ l3 l16 l10 a0 z0 o16 l14 (hnz l14) k n ⟨hk⟩
          · exact refBinary.over0 op u v w kA ⟨HA⟩ kB ⟨HB⟩ l3 l16 l10 a0 z0 o16 l14 k n ⟨hk⟩
    · rw [if_pos (fun h => l16 h.2)]
      exact refBinary.high op u v w l3 l16
  · rw [if_pos (fun h => l3 h.1)]
    exact refBinary.low op u v w l3
def outT (r : Except Int S25) : Int × Int × ByteArray × Int := ((outE r).1.f0, (outE r).1.f1, (outE r).1.f2, (outE r).2)
def fits (u v : S25) : Prop := In64 u.f1 ∧ In64 v.f1 ∧ u.f2.size ≤ 140737488351232 ∧ v.f2.size ≤ 140737488351232
instance (u v : S25) : Decidable (fits u v) := by unfold fits; infer_instance
def quarryref02_Binary.f (op a0 a1 : Int) (a2 : ByteArray) (b0 b1 : Int) (b2 : ByteArray) : Option (Int × Int × ByteArray × Int) := if fits ⟨a0, a1, a2⟩ ⟨b0, b1, b2⟩ then some (outT (bin op ⟨a0, a1, a2⟩ ⟨b0, b1, b2⟩)) else none
theorem quarryref02_Binary.calls (op a0 a1 : Int) (a2 : ByteArray) (b0 b1 : Int) (b2 : ByteArray) (r1 r2 : Int) (r3 : ByteArray) (r4 : Int) (w : World) (h : quarryref02_Binary.f op a0 a1 a2 b0 b1 b2 = some (r1, r2, r3, r4)) :
    Calls Try.prog 42 #[.int .i64 op, .agg #[.int .i64 a0, .int .i64 a1, .string a2], .agg #[.int .i64 b0, .int .i64 b1, .string b2]] w fun e w' => e = .returned (.tuple #[.agg #[.int .i64 r1, .int .i64 r2, .string r3], .int .i64 r4]) ∧ Below w.heap.size w w' := by
  unfold quarryref02_Binary.f at h
  by_cases hf : fits ⟨a0, a1, a2⟩ ⟨b0, b1, b2⟩
  · rw [if_pos hf, Option.some.injEq] at h
    have := refBinary.calls op ⟨a0, a1, a2⟩ ⟨b0, b1, b2⟩ hf.1 hf.2.1 (by have := hf.2.2; simp only at this; simp only; omega) hf.2.2.1 w
    unfold outT at h
    obtain ⟨rfl, rfl, rfl, rfl⟩ : (outE (bin op ⟨a0, a1, a2⟩ ⟨b0, b1, b2⟩)).1.f0 = r1 ∧ (outE (bin op ⟨a0, a1, a2⟩ ⟨b0, b1, b2⟩)).1.f1 = r2 ∧ (outE (bin op ⟨a0, a1, a2⟩ ⟨b0, b1, b2⟩)).1.f2 = r3 ∧ (outE (bin op ⟨a0, a1, a2⟩ ⟨b0, b1, b2⟩)).2 = r4 := by simpa using h
    exact this
  · rw [if_neg hf] at h; cases h
end Go.Proofs.Ytmfenomjhmhogaa.P
end
