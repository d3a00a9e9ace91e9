/- Laid by a program of this session out of its texts for the law BoundsAll, part 6. -/
import Derived.Test.YtmfenomjhmhogaaZBoundsAll5
section
namespace Go.Proofs.Ytmfenomjhmhogaa.P
open Go.RowKit Go.Proofs.YtmfenomjhmhogaaW.PrintWords Go.Proofs.YtmfenomjhmhogaaW.PrintLast Go.Proofs.YtmfenomjhmhogaaW.PrintMore
attribute [local go_sem] max2_int min2_int max_two min_two max_three min_three max_four min_four
set_option linter.unusedVariables false
set_option linter.unusedSimpArgs false
attribute [local go_sem high] eqA25
def quarryref02_True.f (a0_0 : Int) (a0_1 : Int) (a0_2 : ByteArray) : Option (Bool) := (quarryref02_Truth.f true).bind fun bt370 => (some (a0_0 == bt370.1 && (a0_1 == bt370.2.1 && (a0_2.toList == bt370.2.2.toList))))
set_option maxHeartbeats 8000000 in
set_option maxRecDepth 100000 in
theorem quarryref02_True.calls (a0_0 : Int) (a0_1 : Int) (a0_2 : ByteArray) (r : Bool) (w : World) (h : quarryref02_True.f a0_0 a0_1 a0_2 = some r) :
  Calls Try.prog 43 #[.agg #[.int .i64 a0_0, .int .i64 a0_1, .string a0_2]] w fun e w' => e = .returned (.bool r) ∧ Below w.heap.size w w' := by
 have hu25 := Try.underlying25
 have HB := Aside0.mk (Below.refl w.heap.size w)
 have H : ((quarryref02_Truth.f true).bind fun bt370 => (some (a0_0 == bt370.1 && (a0_1 == bt370.2.1 && (a0_2.toList == bt370.2.2.toList))))) = some r := h
 clear h
 replace H := Option.bind_eq_some_iff.mp H
 obtain ⟨⟨t370, t371, t372⟩, A20, H⟩ := H
 replace H : (some (a0_0 == t370 && (a0_1 == t371 && (a0_2.toList == t372.toList)))) = some r := H
 have A2 := Aside0.mk A20
 clear A20
 obtain rfl := Option.some.inj H
 go_enter Try.func43, Try.ntmps43
 try go_wp2_with (first | ((with_reducible refine gate_dst (N := 1) rfl ?_); refine box_event ?hg (N := 1) ?hd (cs := #[.int .i64 a0_0, .int .i64 a0_1, .string a0_2]) (t := 25) ?hr ?_; (case hd => rfl); (case hg => rfl); (case hr => first | (go_simp; done) | (go_simp; rfl)); intro gb369 hg w3 hbox hb; have n0_ := Aside0.mk (below_step (by repeat (first | (with_reducible first | exact HB.out | apply below_alloc | apply pw_below_drewN | apply below_drew1) | exact HB.out)) hb); have n1_ := Aside0.mk (hbox); have n2_ := Aside0.mk ((by rw [hg]; exact (below_size (by repeat (first | (with_reducible first | exact HB.out | apply below_alloc | apply pw_below_drewN | apply below_drew1) | exact HB.out))) : w.heap.size ≤ gb369)); have n3_ := Aside0.mk ((by rw [hg]; exact (below_size (by repeat (first | (with_reducible first | exact HB.out | apply below_alloc | apply pw_below_drewN | apply below_drew1) | exact HB.out))) : w.heap.size ≤ gb369)); clear HB; have HB := n0_; have BK369 := n1_; have GW369 := n2_; have GE369 := n3_; clear n0_ n1_ n2_ n3_; clear hb hbox hg))
 have n0_ := Aside0.mk (blk_drew BK369.out)
 have n1_ := Aside0.mk (below_drew1 HB.out)
 clear BK369
 clear HB
 have BK369 := n0_
 have HB := n1_
 clear n0_ n1_
 refine start_ (n := 4) (S := fun w' => w'.cell? ⟨gb369, 0, none⟩ = some (.int .i64 a0_0) ∧ w'.cell? ⟨gb369, 1, none⟩ = some (.int .i64 a0_1) ∧ w'.cell? ⟨gb369, 2, none⟩ = some (.string a0_2)) (ds := []) #[false, false, false, false] (by kernel_rfl) rfl rfl ⟨(blk_cell BK369.out 0).trans rfl, (blk_cell BK369.out 1).trans rfl, (blk_cell BK369.out 2).trans rfl⟩ (fun hHeld => ?_)
 generalize w3.drew = w4 at BK369 HB hHeld ⊢
 refine take_ (i := 0) (N := some 3) (v := ?_) (a' := ?_) #[true, false, false, false] rfl rfl (by kernel_rfl) (fun _ _ _ h => h) (Or.inl ⟨by rfl, ?_⟩) hHeld ?_ ?_
 rotate_left
 ·rintro w' ⟨s0, s1, s2⟩
  go_simp
  with_reducible rfl
 rotate_left
 ·simp only [Act.put, List.setIfInBounds_toArray, List.set_cons_zero, List.set_cons_succ, i64_w, i32_w]
  rfl
 refine one_ (i := 1) (N := some 4) #[true, true, false, false] rfl rfl (by kernel_rfl) (by decide) (fun K hK => ?_)
 refine goes_ Try.func58 (by kernel_rfl) rfl #[.bool true] (by rfl) rfl rfl (by (try simp only [List.map_toArray, List.map_cons, List.map_nil]); first | done | rfl | (simp only [List.length_drop, List.length_take]; rfl)) ?_
 with_reducible refine (quarryref02_Truth.calls true t370 t371 t372 _ A2.out).mono ?_
 rintro e w5 ⟨rfl, hb⟩
 refine ⟨_, rfl, ?_⟩
 have n0_ := Aside0.mk (blk_below (g := gb369) (o := .cells #[.int .i64 a0_0, .int .i64 a0_1, .string a0_2] 25 (0, 0)) (bk_ BK369) hb)
 have n1_ := Aside0.mk (below_step (by repeat (first | (with_reducible first | exact HB.out | apply below_alloc | apply pw_below_drewN | apply below_drew1 | refine below_set ?_ GE369.out) | exact HB.out)) hb)
 clear BK369
 clear HB
 have BK369 := n0_
 have HB := n1_
 clear n0_ n1_
 (try clear hb)
 (try clear hb2)
 (try clear hk)
 (try clear hi)
 refine hK.out _ _ ⟨(blk_cell BK369.out 0).trans rfl, (blk_cell BK369.out 1).trans rfl, (blk_cell BK369.out 2).trans rfl⟩ (fun hHeld => ?_)
 clear hK K
 refine norm_ (a' := ?_) ?_ ?_
 rotate_left
 ·show Act.put _ (some 4) _ = _
  simp only [Act.put, List.setIfInBounds_toArray, List.set_cons_zero, List.set_cons_succ, i64_w, i32_w]
  rfl
 refine pure_ (i := 2) (N := some 5) (v := ?_) (a' := ?_) #[true, true, true, false] rfl rfl (by kernel_rfl) (fun _ _ _ h => h) (Or.inl ⟨by rfl, ?_⟩) ?_ ?_
 rotate_left
 ·intro w'
  go_simp
  with_reducible rfl
 rotate_left
 ·simp only [Act.put, List.setIfInBounds_toArray, List.set_cons_zero, List.set_cons_succ, i64_w, i32_w]
  rfl
 refine pure_ (i := 3) (N := some 2) (v := ?_) (a' := ?_) #[true, true, true, true] rfl rfl (by kernel_rfl) (fun _ _ _ h => h) (Or.inl ⟨by rfl, ?_⟩) ?_ ?_
 rotate_left
 ·intro w'
  go_simp
  with_reducible rfl
 rotate_left
 ·simp only [Act.put, List.setIfInBounds_toArray, List.set_cons_zero, List.set_cons_succ, i64_w, i32_w]
  rfl
 refine done_ (by kernel_rfl) ?_
 try go_wp2
 go_ret
 exact ⟨by first | rfl | (simp [errW_none, errW_some] <;> rfl) | (simp [*, errW_none, errW_some] <;> rfl), by repeat (first | (with_reducible first | exact HB.out | apply below_alloc | apply pw_below_drewN | apply below_drew1 | refine below_set ?_ GE369.out) | exact HB.out)⟩
def quarryref19_Passes.j0 : Nat → List (S25) → Bool → Int → Int → Int → Int → ByteArray → Option (Bool)
 | 0, _, _, _, _, _, _, _ => none
 | k + 1, x0, x16, x374000, x374001, x374002, x374003, x374004 => if x16 = true then (some false) else (if 0 ≤ x374000 then (if x374000 < (x0.length : Int) then ((quarryref02_Binary.f x374001 ((rd_T25 x0 x374000).f0) ((rd_T25 x0 x374000).f1) ((rd_T25 x0 x374000).f2) x374002 x374003 x374004).bind fun bt375 => (if bt375.2.2.2 = 0 then ((quarryref02_True.f bt375.1 bt375.2.1 bt375.2.2.1).bind fun t380 => (some t380)) else (some false))) else (none)) else (none))
def quarryref19_Passes.f (k : Nat) (l0 : List (S25)) (a1_0 : Int) (a1_1 : Int) (a1_2 : Int) (a1_3 : Int) (a1_4 : ByteArray) : Option (Bool) := if a1_0 < 0 then (quarryref19_Passes.j0 k l0 true a1_0 a1_1 a1_2 a1_3 a1_4) else (quarryref19_Passes.j0 k l0 (decide (a1_0 ≥ (l0.length : Int))) a1_0 a1_1 a1_2 a1_3 a1_4)
def quarryref19_Passes.T3 : Bool × List (List Nat × List Nat) := (true, [([], []), ([0], [0]), ([], []), ([], []), ([3], [3]), ([2, 4], [2, 4]), ([5], [5]), ([], []), ([7], [7]), ([1, 6, 8], [1, 6, 8]), ([9], [9]), ([10], [10]), ([10], [10]), ([], []), ([13, 11, 9, 0, 1, 2, 3, 4, 5, 6, 7, 8, 9, 10, 11, 13], [11, 13]), ([12, 14, 0, 1, 2, 3, 4, 5, 6, 7, 8, 9, 10, 11, 12, 13, 14], [12])])
def quarryref19_Passes.B3 : List Nat := [0, 1, 0, 0, 8, 28, 60, 0, 128, 511, 1023, 2047, 2047, 0, 12287, 32767]
theorem quarryref19_Passes.tab3 : rtab .any (opsOf Try.f22 3) = quarryref19_Passes.T3 := by kernel_rfl
theorem quarryref19_Passes.bits3 : waitsOk quarryref19_Passes.T3.2 quarryref19_Passes.B3 = true := by kernel_rfl
set_option maxHeartbeats 8000000 in
set_option maxRecDepth 100000 in
theorem quarryref19_Passes.calls (k : Nat) (A0 : Option Addr) (c0 : Nat) (l0 : List (S25)) (a1_0 : Int) (a1_1 : Int) (a1_2 : Int) (a1_3 : Int) (a1_4 : ByteArray) (r : Bool) (w : World) (hr0 : Kd.C k25 w A0 l0.length l0) (hc0 : l0.length ≤ c0) (h : quarryref19_Passes.f k l0 a1_0 a1_1 a1_2 a1_3 a1_4 = some r) :
  Calls Try.prog 22 #[.slice A0 l0.length c0, .agg #[.int .i64 a1_0, .int .i64 a1_1, .int .i64 a1_2, .int .i64 a1_3, .string a1_4]] w fun e w' => e = .returned (.bool r) ∧ Below w.heap.size w w' := by
 have hu58 := Try.underlying58
 have hu25 := Try.underlying25
 have HR0 := Aside0.mk hr0
 have HC0 := Aside0.mk hc0
 clear hr0 hc0
 have HB := Aside0.mk (Below.refl w.heap.size w)
 have H : (if a1_0 < 0 then (quarryref19_Passes.j0 k l0 true a1_0 a1_1 a1_2 a1_3 a1_4) else (quarryref19_Passes.j0 k l0 (decide (a1_0 ≥ (l0.length : Int))) a1_0 a1_1 a1_2 a1_3 a1_4)) = some r := h
 clear h
 have HC3 := Aside0.mk H
 clear H
 go_enter Try.func22, Try.ntmps22
 go_upto_region 1 with (first | ((with_reducible refine gate_dst (N := 3) rfl ?_); (try (refine gate_guard (by rfl) ?_; dsimp only)); refine box_event ?hg (N := 3) ?hd (cs := #[.int .i64 a1_0, .int .i64 a1_1, .int .i64 a1_2, .int .i64 a1_3, .string a1_4]) (t := 58) ?hr ?_; (case hd => rfl); (case hg => rfl); (case hr => first | (go_simp; done) | (go_simp; rfl)); intro gb373 hg w4 hbox hb; have n0_ := Aside0.mk (below_step (by repeat (first | (with_reducible first | exact HB.out | apply below_alloc | apply pw_below_drewN | apply below_drew1) | exact HB.out)) hb); have n1_ := Aside0.mk (hbox); have n2_ := Aside0.mk ((by rw [hg]; exact (below_size (by repeat (first | (with_reducible first | exact HB.out | apply below_alloc | apply pw_below_drewN | apply below_drew1) | exact HB.out))) : w.heap.size ≤ gb373)); have n3_ := Aside0.mk ((by rw [hg]; exact (below_size (by repeat (first | (with_reducible first | exact HB.out | apply below_alloc | apply pw_below_drewN | apply below_drew1) | exact HB.out))) : w.heap.size ≤ gb373)); clear HB; have HB := n0_; have BK373 := n1_; have GW373 := n2_; have GE373 := n3_; clear n0_ n1_ n2_ n3_; clear hb hbox hg))
 (try simp only [Act.put, List.setIfInBounds_toArray, List.set_cons_zero, List.set_cons_succ])
 go_cut [16] (fun v16 wc => ∃ (kq : Nat) (x16_2 : Bool), v16 = .bool x16_2 ∧ Aside0 (quarryref19_Passes.j0 kq l0 x16_2 a1_0 a1_1 a1_2 a1_3 a1_4 = some r) ∧ Aside0 (kq ≤ k) ∧ Aside0 (wc.heap[gb373]? = some (.cells #[.int .i64 a1_0, .int .i64 a1_1, .int .i64 a1_2, .int .i64 a1_3, .string a1_4] 58 (0, 0))) ∧ Aside0 (Below w.heap.size w wc))
 case first =>
  have H := HC3.out
  clear HC3
  by_cases c5 : a1_0 < 0
  ·rw [if_pos c5] at H
   have c5b0 : decide (a1_0 < 0) = true := decide_eq_true c5
   clear c5
   (first | rw [c5b0] | (simp only [i64_w, i32_w]; rw [c5b0]) | skip)
   have H' := Aside0.mk H
   clear H
   have hcz6_0 : w4.cell? ⟨gb373, 0, none⟩ = some (.int .i64 a1_0) := (blk_cell BK373.out 0).trans rfl
   have hcz6_1 : w4.cell? ⟨gb373, 1, none⟩ = some (.int .i64 a1_1) := (blk_cell BK373.out 1).trans rfl
   have hcz6_2 : w4.cell? ⟨gb373, 2, none⟩ = some (.int .i64 a1_2) := (blk_cell BK373.out 2).trans rfl
   have hcz6_3 : w4.cell? ⟨gb373, 3, none⟩ = some (.int .i64 a1_3) := (blk_cell BK373.out 3).trans rfl
   have hcz6_4 : w4.cell? ⟨gb373, 4, none⟩ = some (.string a1_4) := (blk_cell BK373.out 4).trans rfl
   have hfz6_0 := blk_frozen BK373.out 0
   have hfz6_1 := blk_frozen BK373.out 1
   have hfz6_2 := blk_frozen BK373.out 2
   have hfz6_3 := blk_frozen BK373.out 3
   have hfz6_4 := blk_frozen BK373.out 4
   go_wp2
   go_meet
   case rel => exact ⟨_, (true), (by first | rfl | (simp; done) | (simp [*]; done)), H', ⟨by first | omega | exact Nat.le_refl _⟩, ⟨by (with_reducible repeat (first | refine blk_drewN ?_ _ | refine blk_drew ?_ | refine blk_alloc ?_ _)); exact BK373.out⟩, ⟨by repeat (first | (with_reducible first | exact HB.out | apply below_alloc | apply pw_below_drewN | apply below_drew1 | refine below_set ?_ GE373.out) | exact HB.out)⟩⟩
  ·rw [if_neg c5] at H
   have c5b0 : decide (a1_0 < 0) = false := decide_eq_false c5
   clear c5
   (first | rw [c5b0] | (simp only [i64_w, i32_w]; rw [c5b0]) | skip)
   have H' := Aside0.mk H
   clear H
   have hcz7_0 : w4.cell? ⟨gb373, 0, none⟩ = some (.int .i64 a1_0) := (blk_cell BK373.out 0).trans rfl
   have hcz7_1 : w4.cell? ⟨gb373, 1, none⟩ = some (.int .i64 a1_1) := (blk_cell BK373.out 1).trans rfl
   have hcz7_2 : w4.cell? ⟨gb373, 2, none⟩ = some (.int .i64 a1_2) := (blk_cell BK373.out 2).trans rfl
   have hcz7_3 : w4.cell? ⟨gb373, 3, none⟩ = some (.int .i64 a1_3) := (blk_cell BK373.out 3).trans rfl
   have hcz7_4 : w4.cell? ⟨gb373, 4, none⟩ = some (.string a1_4) := (blk_cell BK373.out 4).trans rfl
   have hfz7_0 := blk_frozen BK373.out 0
   have hfz7_1 := blk_frozen BK373.out 1
   have hfz7_2 := blk_frozen BK373.out 2
   have hfz7_3 := blk_frozen BK373.out 3
   have hfz7_4 := blk_frozen BK373.out 4
   go_wp2
   go_meet
   case rel => exact ⟨_, (decide (a1_0 ≥ (l0.length : Int))), (by first | rfl | (simp; done) | (simp [*]; done)), H', ⟨by first | omega | exact Nat.le_refl _⟩, ⟨by (with_reducible repeat (first | refine blk_drewN ?_ _ | refine blk_drew ?_ | refine blk_alloc ?_ _)); exact BK373.out⟩, ⟨by repeat (first | (with_reducible first | exact HB.out | apply below_alloc | apply pw_below_drewN | apply below_drew1 | refine below_set ?_ GE373.out) | exact HB.out)⟩⟩
 case rest =>
  clear HC3
  try clear c2
  try clear p2
  try clear c5
  try clear c5b0
  try clear hcz6_0
  try clear hcz6_1
  try clear hcz6_2
  try clear hcz6_3
  try clear hcz6_4
  try clear hcz7_0
  try clear hcz7_1
  try clear hcz7_2
  try clear hcz7_3
  try clear hcz7_4
  try clear hfz6_0
  try clear hfz6_1
  try clear hfz6_2
  try clear hfz6_3
  try clear hfz6_4
  try clear hfz7_0
  try clear hfz7_1
  try clear hfz7_2
  try clear hfz7_3
  try clear hfz7_4
  obtain ⟨kq, x16_2, rfl, HA, HJ2, BK373, HB⟩ := hcut
  cases kq with
  | zero => exact absurd HA.out (by simp [quarryref19_Passes.j0])
  | succ kj2 =>
   have H := HA.out
   clear HA
   simp only [quarryref19_Passes.j0] at H
   by_cases c8 : x16_2 = true
   ·subst c8
    have H1 : (some false) = some r := by rw [if_pos rfl] at H; exact H
    clear H
    have H := H1
    clear H1
    obtain rfl := Option.some.inj H
    go_wp2
    go_ret
    exact ⟨by first | rfl | (simp [errW_none, errW_some] <;> rfl) | (simp [*, errW_none, errW_some] <;> rfl), by repeat (first | (with_reducible first | exact HB.out | apply below_alloc | apply pw_below_drewN | apply below_drew1 | refine below_set ?_ GE373.out) | exact HB.out)⟩
   ·replace c8 := Bool.eq_false_iff.mpr c8
    subst c8
    have H1 : (if 0 ≤ a1_0 then (if a1_0 < (l0.length : Int) then ((quarryref02_Binary.f a1_1 ((rd_T25 l0 a1_0).f0) ((rd_T25 l0 a1_0).f1) ((rd_T25 l0 a1_0).f2) a1_2 a1_3 a1_4).bind fun bt375 => (if bt375.2.2.2 = 0 then ((quarryref02_True.f bt375.1 bt375.2.1 bt375.2.2.1).bind fun t380 => (some t380)) else (some false))) else (none)) else (none)) = some r := by rw [if_neg (show ¬ (false = true) by decide)] at H; exact H
    clear H
    have H := H1
    clear H1
    by_cases c9 : 0 ≤ a1_0
    ·rw [if_pos c9] at H
     have c9b0 : decide (0 ≤ a1_0) = true := decide_eq_true c9
     clear c9
     by_cases c10 : a1_0 < (l0.length : Int)
     ·rw [if_pos c10] at H
      have c10b0 : decide (a1_0 < (l0.length : Int)) = true := decide_eq_true c10
      clear c10
      replace H := Option.bind_eq_some_iff.mp H
      obtain ⟨⟨t375, t376, t377, t378⟩, A110, H⟩ := H
      replace H : (if t378 = 0 then ((quarryref02_True.f t375 t376 t377).bind fun t380 => (some t380)) else (some false)) = some r := H
      have A11 := Aside0.mk A110
      clear A110
      by_cases c12 : t378 = 0
      ·rw [if_pos c12] at H
       have c12b0 : (t378 == 0) = true := beq_iff_eq.mpr c12
       have c12b1 : (t378 != 0) = false := bne_eq_false_iff_eq.mpr c12
       clear c12
       replace H := Option.bind_eq_some_iff.mp H
       obtain ⟨t380, A130, H⟩ := H
       replace H : (some t380) = some r := H
       have A13 := Aside0.mk A130
       clear A130
       obtain rfl := Option.some.inj H
       try go_wp2
       have n0_ := Aside0.mk (blk_drew BK373.out)
       have n1_ := Aside0.mk (below_drew1 HB.out)
       clear BK373
       clear HB
       have BK373 := n0_
       have HB := n1_
       clear n0_ n1_
       have p374 : 0 ≤ (a1_0 : Int) := of_decide_eq_true (by first | (with_reducible assumption) | assumption)
       have q374 : a1_0 < (l0.length : Int) := of_decide_eq_true (by first | (with_reducible assumption) | assumption)
       obtain ⟨ad374, e374, hx374_0, hx374_1, hx374_2⟩ := at_T25 HR0.out a1_0 p374 q374
       have hw374_2 := hx374_2
       have hw374_1 := hx374_1
       have hw374_0 := hx374_0
       cases e374
       replace hx374_0 := (HB.out.cell (World.block_lt_of_cell? w _ hx374_0)).trans hx374_0
       replace hx374_1 := (HB.out.cell (World.block_lt_of_cell? w _ hx374_1)).trans hx374_1
       replace hx374_2 := (HB.out.cell (World.block_lt_of_cell? w _ hx374_2)).trans hx374_2
       replace p374 := eq_true p374
       replace q374 := eq_true q374
       refine start_ (n := 16) (S := fun w' => w'.cell? ⟨gb373, 0, none⟩ = some (.int .i64 a1_0) ∧ w'.cell? ⟨gb373, 1, none⟩ = some (.int .i64 a1_1) ∧ w'.cell? ⟨gb373, 2, none⟩ = some (.int .i64 a1_2) ∧ w'.cell? ⟨gb373, 3, none⟩ = some (.int .i64 a1_3) ∧ w'.cell? ⟨gb373, 4, none⟩ = some (.string a1_4) ∧ w'.cell? (ad374.add ((a1_0).toNat * 3)) = some (.int .i64 ((rd_T25 l0 a1_0).f0)) ∧ w'.cell? ⟨(ad374.add ((a1_0).toNat * 3)).block, (ad374.add ((a1_0).toNat * 3)).off + 1, none⟩ = some (.int .i64 ((rd_T25 l0 a1_0).f1)) ∧ w'.cell? ⟨(ad374.add ((a1_0).toNat * 3)).block, (ad374.add ((a1_0).toNat * 3)).off + 2, none⟩ = some (.string ((rd_T25 l0 a1_0).f2))) (ds := []) #[false, false, false, false, false, false, false, false, false, false, false, false, false, false, false, false] (by kernel_rfl) rfl rfl ⟨(blk_cell BK373.out 0).trans rfl, (blk_cell BK373.out 1).trans rfl, (blk_cell BK373.out 2).trans rfl, (blk_cell BK373.out 3).trans rfl, (blk_cell BK373.out 4).trans rfl, ((HB.out.cell (World.block_lt_of_cell? w _ hw374_0)).trans hw374_0), ((HB.out.cell (World.block_lt_of_cell? w _ hw374_1)).trans hw374_1), ((HB.out.cell (World.block_lt_of_cell? w _ hw374_2)).trans hw374_2)⟩ (fun hHeld => ?_); refine with_tabW quarryref19_Passes.tab3 quarryref19_Passes.bits3 (fun HT_ HW_ => ?_)
       generalize wc.drew = w14 at BK373 HB hx374_0 hx374_1 hx374_2 hHeld ⊢
       refine pure_ (i := 0) (N := some 18) (v := ?_) (a' := ?_) #[true, false, false, false, false, false, false, false, false, false, false, false, false, false, false, false] rfl rfl (any_of HT_.out (by kernel_rfl)) (fun _ _ _ h => h) (Or.inl ⟨by rfl, ?_⟩) ?_ ?_
       rotate_left
       ·intro w'
        go_simp
        with_reducible rfl
       rotate_left
       ·simp only [Act.put, List.setIfInBounds_toArray, List.set_cons_zero, List.set_cons_succ, i64_w, i32_w]
        rfl
       refine pure_ (i := 2) (N := some 20) (v := ?_) (a' := ?_) #[true, false, true, false, false, false, false, false, false, false, false, false, false, false, false, false] rfl rfl (any_of HT_.out (by kernel_rfl)) (fun _ _ _ h => h) (Or.inl ⟨by rfl, ?_⟩) ?_ ?_
       rotate_left
       ·intro w'
        go_simp
        with_reducible rfl
       rotate_left
       ·simp only [Act.put, List.setIfInBounds_toArray, List.set_cons_zero, List.set_cons_succ, i64_w, i32_w]
        rfl
       refine pure_ (i := 3) (N := some 21) (v := ?_) (a' := ?_) #[true, false, true, true, false, false, false, false, false, false, false, false, false, false, false, false] rfl rfl (any_of HT_.out (by kernel_rfl)) (fun _ _ _ h => h) (Or.inl ⟨by rfl, ?_⟩) ?_ ?_
       rotate_left
       ·intro w'
        go_simp
        with_reducible rfl
       rotate_left
       ·simp only [Act.put, List.setIfInBounds_toArray, List.set_cons_zero, List.set_cons_succ, i64_w, i32_w]
        rfl
       refine pure_ (i := 7) (N := some 25) (v := ?_) (a' := ?_) #[true, false, true, true, false, false, false, true, false, false, false, false, false, false, false, false] rfl rfl (any_of HT_.out (by kernel_rfl)) (fun _ _ _ h => h) (Or.inl ⟨by rfl, ?_⟩) ?_ ?_
       rotate_left
       ·intro w'
        go_simp
        with_reducible rfl
       rotate_left
       ·simp only [Act.put, List.setIfInBounds_toArray, List.set_cons_zero, List.set_cons_succ, i64_w, i32_w]
        rfl
       refine take_ (i := 1) (N := some 19) (v := ?_) (a' := ?_) #[true, true, true, true, false, false, false, true, false, false, false, false, false, false, false, false] rfl rfl (take_ofW HT_.out HW_.out (by kernel_rfl)) (fun _ _ _ h => h) (Or.inl ⟨by rfl, ?_⟩) hHeld ?_ ?_
       rotate_left
       ·rintro w' ⟨s0, s1, s2, s3, s4, s5, s6, s7⟩
        go_simp
        with_reducible rfl
       rotate_left
       ·simp only [Act.put, List.setIfInBounds_toArray, List.set_cons_zero, List.set_cons_succ, i64_w, i32_w]
        rfl
       refine take_ (i := 4) (N := some 22) (v := ?_) (a' := ?_) #[true, true, true, true, true, false, false, true, false, false, false, false, false, false, false, false] rfl rfl (take_ofW HT_.out HW_.out (by kernel_rfl)) (fun _ _ _ h => h) (Or.inl ⟨by rfl, ?_⟩) hHeld ?_ ?_
       rotate_left
       ·rintro w' ⟨s0, s1, s2, s3, s4, s5, s6, s7⟩
        go_simp
        with_reducible rfl
       rotate_left
       ·simp only [Act.put, List.setIfInBounds_toArray, List.set_cons_zero, List.set_cons_succ, i64_w, i32_w]
        rfl
       refine pure_ (i := 5) (N := some 23) (v := ?_) (a' := ?_) #[true, true, true, true, true, true, false, true, false, false, false, false, false, false, false, false] rfl rfl (any_of HT_.out (by kernel_rfl)) (fun _ _ _ h => h) (Or.inl ⟨by rfl, ?_⟩) ?_ ?_
       rotate_left
       ·intro w'
        go_simp
        with_reducible rfl
       rotate_left
       ·simp only [Act.put, List.setIfInBounds_toArray, List.set_cons_zero, List.set_cons_succ, i64_w, i32_w]
        rfl
       refine take_ (i := 6) (N := some 24) (v := ?_) (a' := ?_) #[true, true, true, true, true, true, true, true, false, false, false, false, false, false, false, false] rfl rfl (take_ofW HT_.out HW_.out (by kernel_rfl)) (fun _ _ _ h => h) (Or.inl ⟨by rfl, ?_⟩) hHeld ?_ ?_
       rotate_left
       ·rintro w' ⟨s0, s1, s2, s3, s4, s5, s6, s7⟩
        go_simp
        with_reducible rfl
       rotate_left
       ·simp only [Act.put, List.setIfInBounds_toArray, List.set_cons_zero, List.set_cons_succ, i64_w, i32_w]
        rfl
       refine take_ (i := 8) (N := some 26) (v := ?_) (a' := ?_) #[true, true, true, true, true, true, true, true, true, false, false, false, false, false, false, false] rfl rfl (take_ofW HT_.out HW_.out (by kernel_rfl)) (fun _ _ _ h => h) (Or.inl ⟨by rfl, ?_⟩) hHeld ?_ ?_
       rotate_left
       ·rintro w' ⟨s0, s1, s2, s3, s4, s5, s6, s7⟩
        go_simp
        with_reducible rfl
       rotate_left
       ·simp only [Act.put, List.setIfInBounds_toArray, List.set_cons_zero, List.set_cons_succ, i64_w, i32_w]
        rfl
       refine join_ (σ := Nat) 2 #[true, true, true, true, true, true, true, true, true, true, true, true, true, true, false, false] (fun s_ => [(27, .tuple #[.agg #[.int .i64 t375, .int .i64 t376, .string t377], .int .i64 t378]), (5, .pointer (some ⟨s_, 0, none⟩)), (17, .tuple #[.agg #[.int .i64 t375, .int .i64 t376, .string t377], .int .i64 t378]), (28, .agg #[.int .i64 t375, .int .i64 t376, .string t377]), (29, .int .i64 t378)]) (fun s_ w' => (w'.cell? ⟨gb373, 0, none⟩ = some (.int .i64 a1_0) ∧ w'.cell? ⟨gb373, 1, none⟩ = some (.int .i64 a1_1) ∧ w'.cell? ⟨gb373, 2, none⟩ = some (.int .i64 a1_2) ∧ w'.cell? ⟨gb373, 3, none⟩ = some (.int .i64 a1_3) ∧ w'.cell? ⟨gb373, 4, none⟩ = some (.string a1_4) ∧ w'.cell? (ad374.add ((a1_0).toNat * 3)) = some (.int .i64 ((rd_T25 l0 a1_0).f0)) ∧ w'.cell? ⟨(ad374.add ((a1_0).toNat * 3)).block, (ad374.add ((a1_0).toNat * 3)).off + 1, none⟩ = some (.int .i64 ((rd_T25 l0 a1_0).f1)) ∧ w'.cell? ⟨(ad374.add ((a1_0).toNat * 3)).block, (ad374.add ((a1_0).toNat * 3)).off + 2, none⟩ = some (.string ((rd_T25 l0 a1_0).f2))) ∧ (w'.heap[gb373]? = some (.cells #[.int .i64 a1_0, .int .i64 a1_1, .int .i64 a1_2, .int .i64 a1_3, .string a1_4] 58 (0, 0))) ∧ (w'.heap[s_]? = some (.cells #[.int .i64 0, .int .i64 0, .string (⟨#[]⟩ : ByteArray)] 25 (0, 0))) ∧ (w.heap.size ≤ s_) ∧ (w.heap.size ≤ s_) ∧ (gb373 ≠ s_) ∧ (s_ ≠ gb373) ∧ (Below w.heap.size w w')) ?_ ?_
       rotate_left
       ·intro hCont
        refine two_ (i := 9) (j := 13) (Ni := some 27) (Nj := some 5) #[true, true, true, true, true, true, true, true, true, true, false, false, false, false, false, false] #[true, true, true, true, true, true, true, true, true, false, false, false, false, true, false, false] rfl rfl rfl rfl (two_of HT_.out (by kernel_rfl)) (by decide) (by decide) (fun K hK => ?_) (fun K hK => ?_)
        ·skip
         refine goes_ Try.func42 (by kernel_rfl) rfl #[.int .i64 a1_1, .agg #[.int .i64 ((rd_T25 l0 a1_0).f0), .int .i64 ((rd_T25 l0 a1_0).f1), .string ((rd_T25 l0 a1_0).f2)], .agg #[.int .i64 a1_2, .int .i64 a1_3, .string a1_4]] (by rfl) rfl rfl (by (try simp only [List.map_toArray, List.map_cons, List.map_nil]); first | done | rfl | (simp only [List.length_drop, List.length_take]; rfl)) ?_
         with_reducible refine (quarryref02_Binary.calls a1_1 ((rd_T25 l0 a1_0).f0) ((rd_T25 l0 a1_0).f1) ((rd_T25 l0 a1_0).f2) a1_2 a1_3 a1_4 t375 t376 t377 t378 _ A11.out).mono ?_
         rintro e w15 ⟨rfl, hb⟩
         refine ⟨_, rfl, ?_⟩
         have n0_ := Aside0.mk (blk_below (g := gb373) (o := .cells #[.int .i64 a1_0, .int .i64 a1_1, .int .i64 a1_2, .int .i64 a1_3, .string a1_4] 58 (0, 0)) (bk_ BK373) hb)
         have n1_ := Aside0.mk (below_step (by repeat (first | (with_reducible first | exact HB.out | apply below_alloc | apply pw_below_drewN | apply below_drew1 | refine below_set ?_ GE373.out) | exact HB.out)) hb)
         clear BK373
         clear HB
         have BK373 := n0_
         have HB := n1_
         clear n0_ n1_
         (try clear hb)
         (try clear hb2)
         (try clear hk)
         (try clear hi)
         refine hK.out _ _ ⟨(blk_cell BK373.out 0).trans rfl, (blk_cell BK373.out 1).trans rfl, (blk_cell BK373.out 2).trans rfl, (blk_cell BK373.out 3).trans rfl, (blk_cell BK373.out 4).trans rfl, ((HB.out.cell (World.block_lt_of_cell? w _ hw374_0)).trans hw374_0), ((HB.out.cell (World.block_lt_of_cell? w _ hw374_1)).trans hw374_1), ((HB.out.cell (World.block_lt_of_cell? w _ hw374_2)).trans hw374_2)⟩ (fun hHeld => ?_)
         clear hK K
         refine norm_ (a' := ?_) ?_ ?_
         rotate_left
         ·show Act.put _ (some 27) _ = _
          simp only [Act.put, List.setIfInBounds_toArray, List.set_cons_zero, List.set_cons_succ, i64_w, i32_w]
          rfl
         refine pure_ (i := 10) (N := some 17) (v := ?_) (a' := ?_) #[true, true, true, true, true, true, true, true, true, true, true, false, false, false, false, false] rfl rfl (any_of HT_.out (by kernel_rfl)) (fun _ _ _ h => h) (Or.inl ⟨by rfl, ?_⟩) ?_ ?_
         rotate_left
         ·intro w'
          go_simp
          with_reducible rfl
         rotate_left
         ·simp only [Act.put, List.setIfInBounds_toArray, List.set_cons_zero, List.set_cons_succ, i64_w, i32_w]
          rfl
         refine pure_ (i := 11) (N := some 28) (v := ?_) (a' := ?_) #[true, true, true, true, true, true, true, true, true, true, true, true, false, false, false, false] rfl rfl (any_of HT_.out (by kernel_rfl)) (fun _ _ _ h => h) (Or.inl ⟨by rfl, ?_⟩) ?_ ?_
         rotate_left
         ·intro w'
          go_simp
          with_reducible rfl
         rotate_left
         ·simp only [Act.put, List.setIfInBounds_toArray, List.set_cons_zero, List.set_cons_succ, i64_w, i32_w]
          rfl
         refine pure_ (i := 12) (N := some 29) (v := ?_) (a' := ?_) #[true, true, true, true, true, true, true, true, true, true, true, true, true, false, false, false] rfl rfl (any_of HT_.out (by kernel_rfl)) (fun _ _ _ h => h) (Or.inl ⟨by rfl, ?_⟩) ?_ ?_
         rotate_left
         ·intro w'
          go_simp
          with_reducible rfl
         rotate_left
         ·simp only [Act.put, List.setIfInBounds_toArray, List.set_cons_zero, List.set_cons_succ, i64_w, i32_w]
          rfl
         refine one_ (i := 13) (N := some 5) #[true, true, true, true, true, true, true, true, true, true, true, true, true, true, false, false] rfl rfl (one_of HT_.out (by kernel_rfl)) (by decide) (fun K hK => ?_)
         refine box_step ?hg (N := 5) ?hd (cs := #[.int .i64 0, .int .i64 0, .string (⟨#[]⟩ : ByteArray)]) (t := 25) ?hr ?_; (case hd => rfl); (case hg => rfl); (case hr => first | (go_simp; done) | (go_simp; rfl))
         intro gb379 hg w16 hbox hb
         have n0_ := Aside0.mk (blk_below (g := gb373) (o := .cells #[.int .i64 a1_0, .int .i64 a1_1, .int .i64 a1_2, .int .i64 a1_3, .string a1_4] 58 (0, 0)) (bk_ BK373) hb)
         have n1_ := Aside0.mk (below_step (by repeat (first | (with_reducible first | exact HB.out | apply below_alloc | apply pw_below_drewN | apply below_drew1 | refine below_set ?_ GE373.out) | exact HB.out)) hb)
         have n2_ := Aside0.mk (hbox)
         have n3_ := Aside0.mk ((by rw [hg]; exact (below_size (by repeat (first | (with_reducible first | exact HB.out | apply below_alloc | apply pw_below_drewN | apply below_drew1 | refine below_set ?_ GE373.out) | exact HB.out))) : w.heap.size ≤ gb379))
         have n4_ := Aside0.mk ((by rw [hg]; exact (below_size (by repeat (first | (with_reducible first | exact HB.out | apply below_alloc | apply pw_below_drewN | apply below_drew1 | refine below_set ?_ GE373.out) | exact HB.out))) : w.heap.size ≤ gb379))
         have n5_ := Aside0.mk ((by rw [hg]; exact Nat.ne_of_lt (blk_lt (g := gb373) (o := .cells #[.int .i64 a1_0, .int .i64 a1_1, .int .i64 a1_2, .int .i64 a1_3, .string a1_4] 58 (0, 0)) (bk_ BK373)) : gb373 ≠ gb379))
         have n6_ := Aside0.mk ((by rw [hg]; exact Nat.ne_of_gt (blk_lt (g := gb373) (o := .cells #[.int .i64 a1_0, .int .i64 a1_1, .int .i64 a1_2, .int .i64 a1_3, .string a1_4] 58 (0, 0)) (bk_ BK373)) : gb379 ≠ gb373))
         clear BK373
         clear HB
         have BK373 := n0_
         have HB := n1_
         have BK379 := n2_
         have GW379 := n3_
         have GE379 := n4_
         have NB373_379 := n5_
         have NB379_373 := n6_
         clear n0_ n1_ n2_ n3_ n4_ n5_ n6_
         clear hb hbox hg
         refine hK.out _ _ ⟨(blk_cell BK373.out 0).trans rfl, (blk_cell BK373.out 1).trans rfl, (blk_cell BK373.out 2).trans rfl, (blk_cell BK373.out 3).trans rfl, (blk_cell BK373.out 4).trans rfl, ((HB.out.cell (World.block_lt_of_cell? w _ hw374_0)).trans hw374_0), ((HB.out.cell (World.block_lt_of_cell? w _ hw374_1)).trans hw374_1), ((HB.out.cell (World.block_lt_of_cell? w _ hw374_2)).trans hw374_2)⟩ (fun hHeld => ?_)
         clear hK K
         refine norm_ (a' := ?_) ?_ ?_
         rotate_left
         ·show Act.put _ (some 5) _ = _
          simp only [Act.put, List.setIfInBounds_toArray, List.set_cons_zero, List.set_cons_succ, i64_w, i32_w]
          rfl
         exact norm_ (by simp only [putAll, Act.put, List.setIfInBounds_toArray, List.set_cons_zero, List.set_cons_succ]) (hCont (gb379) _ ⟨hHeld, (bk_ BK373), (bk_ BK379), GW379.out, GE379.out, NB373_379.out, NB379_373.out, (by repeat (first | (with_reducible first | exact HB.out | apply below_alloc | apply pw_below_drewN | apply below_drew1 | refine below_set ?_ GE373.out | refine below_set ?_ GE379.out) | exact HB.out))⟩)
        ·skip
         refine box_step ?hg (N := 5) ?hd (cs := #[.int .i64 0, .int .i64 0, .string (⟨#[]⟩ : ByteArray)]) (t := 25) ?hr ?_; (case hd => rfl); (case hg => rfl); (case hr => first | (go_simp; done) | (go_simp; rfl))
         intro gb379 hg w15 hbox hb
         have n0_ := Aside0.mk (blk_below (g := gb373) (o := .cells #[.int .i64 a1_0, .int .i64 a1_1, .int .i64 a1_2, .int .i64 a1_3, .string a1_4] 58 (0, 0)) (bk_ BK373) hb)
         have n1_ := Aside0.mk (below_step (by repeat (first | (with_reducible first | exact HB.out | apply below_alloc | apply pw_below_drewN | apply below_drew1 | refine below_set ?_ GE373.out) | exact HB.out)) hb)
         have n2_ := Aside0.mk (hbox)
         have n3_ := Aside0.mk ((by rw [hg]; exact (below_size (by repeat (first | (with_reducible first | exact HB.out | apply below_alloc | apply pw_below_drewN | apply below_drew1 | refine below_set ?_ GE373.out) | exact HB.out))) : w.heap.size ≤ gb379))
         have n4_ := Aside0.mk ((by rw [hg]; exact (below_size (by repeat (first | (with_reducible first | exact HB.out | apply below_alloc | apply pw_below_drewN | apply below_drew1 | refine below_set ?_ GE373.out) | exact HB.out))) : w.heap.size ≤ gb379))
         have n5_ := Aside0.mk ((by rw [hg]; exact Nat.ne_of_lt (blk_lt (g := gb373) (o := .cells #[.int .i64 a1_0, .int .i64 a1_1, .int .i64 a1_2, .int .i64 a1_3, .string a1_4] 58 (0, 0)) (bk_ BK373)) : gb373 ≠ gb379))
         have n6_ := Aside0.mk ((by rw [hg]; exact Nat.ne_of_gt (blk_lt (g := gb373) (o := .cells #[.int .i64 a1_0, .int .i64 a1_1, .int .i64 a1_2, .int .i64 a1_3, .string a1_4] 58 (0, 0)) (bk_ BK373)) : gb379 ≠ gb373))
         clear BK373
         clear HB
         have BK373 := n0_
         have HB := n1_
         have BK379 := n2_
         have GW379 := n3_
         have GE379 := n4_
         have NB373_379 := n5_
         have NB379_373 := n6_
         clear n0_ n1_ n2_ n3_ n4_ n5_ n6_
         clear hb hbox hg
         refine hK.out _ _ ⟨(blk_cell BK373.out 0).trans rfl, (blk_cell BK373.out 1).trans rfl, (blk_cell BK373.out 2).trans rfl, (blk_cell BK373.out 3).trans rfl, (blk_cell BK373.out 4).trans rfl, ((HB.out.cell (World.block_lt_of_cell? w _ hw374_0)).trans hw374_0), ((HB.out.cell (World.block_lt_of_cell? w _ hw374_1)).trans hw374_1), ((HB.out.cell (World.block_lt_of_cell? w _ hw374_2)).trans hw374_2)⟩ (fun hHeld => ?_)
         clear hK K
         refine norm_ (a' := ?_) ?_ ?_
         rotate_left
         ·show Act.put _ (some 5) _ = _
          simp only [Act.put, List.setIfInBounds_toArray, List.set_cons_zero, List.set_cons_succ, i64_w, i32_w]
          rfl
         refine one_ (i := 9) (N := some 27) #[true, true, true, true, true, true, true, true, true, true, false, false, false, true, false, false] rfl rfl (one_of HT_.out (by kernel_rfl)) (by decide) (fun K hK => ?_)
         refine goes_ Try.func42 (by kernel_rfl) rfl #[.int .i64 a1_1, .agg #[.int .i64 ((rd_T25 l0 a1_0).f0), .int .i64 ((rd_T25 l0 a1_0).f1), .string ((rd_T25 l0 a1_0).f2)], .agg #[.int .i64 a1_2, .int .i64 a1_3, .string a1_4]] (by rfl) rfl rfl (by (try simp only [List.map_toArray, List.map_cons, List.map_nil]); first | done | rfl | (simp only [List.length_drop, List.length_take]; rfl)) ?_
         with_reducible refine (quarryref02_Binary.calls a1_1 ((rd_T25 l0 a1_0).f0) ((rd_T25 l0 a1_0).f1) ((rd_T25 l0 a1_0).f2) a1_2 a1_3 a1_4 t375 t376 t377 t378 _ A11.out).mono ?_
         rintro e w16 ⟨rfl, hb⟩
         refine ⟨_, rfl, ?_⟩
         have n0_ := Aside0.mk (blk_below (g := gb373) (o := .cells #[.int .i64 a1_0, .int .i64 a1_1, .int .i64 a1_2, .int .i64 a1_3, .string a1_4] 58 (0, 0)) (bk_ BK373) hb)
         have n1_ := Aside0.mk (blk_below (g := gb379) (o := .cells #[.int .i64 0, .int .i64 0, .string (⟨#[]⟩ : ByteArray)] 25 (0, 0)) (bk_ BK379) hb)
         have n2_ := Aside0.mk (below_step (by repeat (first | (with_reducible first | exact HB.out | apply below_alloc | apply pw_below_drewN | apply below_drew1 | refine below_set ?_ GE373.out | refine below_set ?_ GE379.out) | exact HB.out)) hb)
         clear BK373
         clear BK379
         clear HB
         have BK373 := n0_
         have BK379 := n1_
         have HB := n2_
         clear n0_ n1_ n2_
         (try clear hb)
         (try clear hb2)
         (try clear hk)
         (try clear hi)
         refine hK.out _ _ ⟨(blk_cell BK373.out 0).trans rfl, (blk_cell BK373.out 1).trans rfl, (blk_cell BK373.out 2).trans rfl, (blk_cell BK373.out 3).trans rfl, (blk_cell BK373.out 4).trans rfl, ((HB.out.cell (World.block_lt_of_cell? w _ hw374_0)).trans hw374_0), ((HB.out.cell (World.block_lt_of_cell? w _ hw374_1)).trans hw374_1), ((HB.out.cell (World.block_lt_of_cell? w _ hw374_2)).trans hw374_2)⟩ (fun hHeld => ?_)
         clear hK K
         refine norm_ (a' := ?_) ?_ ?_
         rotate_left
         ·show Act.put _ (some 27) _ = _
          simp only [Act.put, List.setIfInBounds_toArray, List.set_cons_zero, List.set_cons_succ, i64_w, i32_w]
          rfl
         refine pure_ (i := 10) (N := some 17) (v := ?_) (a' := ?_) #[true, true, true, true, true, true, true, true, true, true, true, false, false, true, false, false] rfl rfl (any_of HT_.out (by kernel_rfl)) (fun _ _ _ h => h) (Or.inl ⟨by rfl, ?_⟩) ?_ ?_
         rotate_left
         ·intro w'
          go_simp
          with_reducible rfl
         rotate_left
         ·simp only [Act.put, List.setIfInBounds_toArray, List.set_cons_zero, List.set_cons_succ, i64_w, i32_w]
          rfl
         refine pure_ (i := 11) (N := some 28) (v := ?_) (a' := ?_) #[true, true, true, true, true, true, true, true, true, true, true, true, false, true, false, false] rfl rfl (any_of HT_.out (by kernel_rfl)) (fun _ _ _ h => h) (Or.inl ⟨by rfl, ?_⟩) ?_ ?_
         rotate_left
         ·intro w'
          go_simp
          with_reducible rfl
         rotate_left
         ·simp only [Act.put, List.setIfInBounds_toArray, List.set_cons_zero, List.set_cons_succ, i64_w, i32_w]
          rfl
         refine pure_ (i := 12) (N := some 29) (v := ?_) (a' := ?_) #[true, true, true, true, true, true, true, true, true, true, true, true, true, true, false, false] rfl rfl (any_of HT_.out (by kernel_rfl)) (fun _ _ _ h => h) (Or.inl ⟨by rfl, ?_⟩) ?_ ?_
         rotate_left
         ·intro w'
          go_simp
          with_reducible rfl
         rotate_left
         ·simp only [Act.put, List.setIfInBounds_toArray, List.set_cons_zero, List.set_cons_succ, i64_w, i32_w]
          rfl
         exact norm_ (by simp only [putAll, Act.put, List.setIfInBounds_toArray, List.set_cons_zero, List.set_cons_succ]) (hCont (gb379) _ ⟨hHeld, (bk_ BK373), (bk_ BK379), GW379.out, GE379.out, NB373_379.out, NB379_373.out, (by repeat (first | (with_reducible first | exact HB.out | apply below_alloc | apply pw_below_drewN | apply below_drew1 | refine below_set ?_ GE373.out | refine below_set ?_ GE379.out) | exact HB.out))⟩)
       rintro gb379 w17 ⟨hS_, h0_, h1_, h2_, h3_, h4_, h5_, h6_⟩
       have n0_ : Aside0 (w17.heap[gb373]? = some (.cells #[.int .i64 a1_0, .int .i64 a1_1, .int .i64 a1_2, .int .i64 a1_3, .string a1_4] 58 (0, 0))) := ⟨h0_⟩
       have n1_ : Aside0 (w17.heap[gb379]? = some (.cells #[.int .i64 0, .int .i64 0, .string (⟨#[]⟩ : ByteArray)] 25 (0, 0))) := ⟨h1_⟩
       have n2_ : Aside0 (w.heap.size ≤ gb379) := ⟨h2_⟩
       have n3_ : Aside0 (w.heap.size ≤ gb379) := ⟨h3_⟩
       have n4_ : Aside0 (gb373 ≠ gb379) := ⟨h4_⟩
       have n5_ : Aside0 (gb379 ≠ gb373) := ⟨h5_⟩
       have n6_ : Aside0 (Below w.heap.size w w17) := ⟨h6_⟩
       clear BK373
       clear HB
       clear h0_ h1_ h2_ h3_ h4_ h5_ h6_
       have BK373 := n0_
       have BK379 := n1_
       have GW379 := n2_
       have GE379 := n3_
       have NB373_379 := n4_
       have NB379_373 := n5_
       have HB := n6_
       clear n0_ n1_ n2_ n3_ n4_ n5_ n6_
       have hHeld : w17.cell? ⟨gb373, 0, none⟩ = some (.int .i64 a1_0) ∧ w17.cell? ⟨gb373, 1, none⟩ = some (.int .i64 a1_1) ∧ w17.cell? ⟨gb373, 2, none⟩ = some (.int .i64 a1_2) ∧ w17.cell? ⟨gb373, 3, none⟩ = some (.int .i64 a1_3) ∧ w17.cell? ⟨gb373, 4, none⟩ = some (.string a1_4) ∧ w17.cell? (ad374.add ((a1_0).toNat * 3)) = some (.int .i64 ((rd_T25 l0 a1_0).f0)) ∧ w17.cell? ⟨(ad374.add ((a1_0).toNat * 3)).block, (ad374.add ((a1_0).toNat * 3)).off + 1, none⟩ = some (.int .i64 ((rd_T25 l0 a1_0).f1)) ∧ w17.cell? ⟨(ad374.add ((a1_0).toNat * 3)).block, (ad374.add ((a1_0).toNat * 3)).off + 2, none⟩ = some (.string ((rd_T25 l0 a1_0).f2)) := hS_
       refine norm_ (a' := ?_) ?_ ?_
       rotate_left
       ·simp only [putAll, Act.put, List.setIfInBounds_toArray, List.set_cons_zero, List.set_cons_succ]
        rfl
       refine one_ (i := 14) (N := none) #[true, true, true, true, true, true, true, true, true, true, true, true, true, true, true, false] rfl rfl (one_of HT_.out (by kernel_rfl)) (by decide) (fun K hK => ?_)
       have hs18 : w17.cell? ⟨gb379, 0, none⟩ = some (.int .i64 0) := (blk_cell BK379.out 0).trans rfl
       have hfs18 := blk_frozen BK379.out 0
       have hns18_0 := NB373_379.out
       have hms18_0 := NB379_373.out
       have hs19 : w17.cell? ⟨gb379, 1, none⟩ = some (.int .i64 0) := (blk_cell BK379.out 1).trans rfl
       have hfs19 := blk_frozen BK379.out 1
       have hns19_0 := NB373_379.out
       have hms19_0 := NB379_373.out
       have hs20 : w17.cell? ⟨gb379, 2, none⟩ = some (.string (⟨#[]⟩ : ByteArray)) := (blk_cell BK379.out 2).trans rfl
       have hfs20 := blk_frozen BK379.out 2
       have hns20_0 := NB373_379.out
       have hms20_0 := NB379_373.out
       refine skip_ (w1 := ?_) (by rfl) rfl ?_ ?_
       rotate_left
       ·go_simp
        rfl
       refine hK.out _ _ ⟨((cell_far (p := ⟨gb379, _, none⟩) NB373_379.out _).trans (((cell_far (p := ⟨gb379, _, none⟩) NB373_379.out _).trans (((cell_far (p := ⟨gb379, _, none⟩) NB373_379.out _).trans (hHeld.1)))))), ((cell_far (p := ⟨gb379, _, none⟩) NB373_379.out _).trans (((cell_far (p := ⟨gb379, _, none⟩) NB373_379.out _).trans (((cell_far (p := ⟨gb379, _, none⟩) NB373_379.out _).trans (hHeld.2.1)))))), ((cell_far (p := ⟨gb379, _, none⟩) NB373_379.out _).trans (((cell_far (p := ⟨gb379, _, none⟩) NB373_379.out _).trans (((cell_far (p := ⟨gb379, _, none⟩) NB373_379.out _).trans (hHeld.2.2.1)))))), ((cell_far (p := ⟨gb379, _, none⟩) NB373_379.out _).trans (((cell_far (p := ⟨gb379, _, none⟩) NB373_379.out _).trans (((cell_far (p := ⟨gb379, _, none⟩) NB373_379.out _).trans (hHeld.2.2.2.1)))))), ((cell_far (p := ⟨gb379, _, none⟩) NB373_379.out _).trans (((cell_far (p := ⟨gb379, _, none⟩) NB373_379.out _).trans (((cell_far (p := ⟨gb379, _, none⟩) NB373_379.out _).trans (hHeld.2.2.2.2.1)))))), ((cell_far (p := ⟨gb379, _, none⟩) (by first | exact Nat.ne_of_lt (Nat.lt_of_lt_of_le (by have := World.block_lt_of_cell? _ _ hw374_0; first | rwa [add_block] at this | exact this) GW379.out) | (rw [add_block]; exact Nat.ne_of_lt (Nat.lt_of_lt_of_le (by have := World.block_lt_of_cell? _ _ hw374_0; first | rwa [add_block] at this | exact this) GW379.out)) | (show (Addr.add _ _).block ≠ _; rw [add_block]; exact Nat.ne_of_lt (Nat.lt_of_lt_of_le (by have := World.block_lt_of_cell? _ _ hw374_0; first | rwa [add_block] at this | exact this) GW379.out)) | (dsimp only; exact Nat.ne_of_lt (Nat.lt_of_lt_of_le (by have := World.block_lt_of_cell? _ _ hw374_0; first | rwa [add_block] at this | exact this) GW379.out))) _).trans (((cell_far (p := ⟨gb379, _, none⟩) (by first | exact Nat.ne_of_lt (Nat.lt_of_lt_of_le (by have := World.block_lt_of_cell? _ _ hw374_0; first | rwa [add_block] at this | exact this) GW379.out) | (rw [add_block]; exact Nat.ne_of_lt (Nat.lt_of_lt_of_le (by have := World.block_lt_of_cell? _ _ hw374_0; first | rwa [add_block] at this | exact this) GW379.out)) | (show (Addr.add _ _).block ≠ _; rw [add_block]; exact Nat.ne_of_lt (Nat.lt_of_lt_of_le (by have := World.block_lt_of_cell? _ _ hw374_0; first | rwa [add_block] at this | exact this) GW379.out)) | (dsimp only; exact Nat.ne_of_lt (Nat.lt_of_lt_of_le (by have := World.block_lt_of_cell? _ _ hw374_0; first | rwa [add_block] at this | exact this) GW379.out))) _).trans (((cell_far (p := ⟨gb379, _, none⟩) (by first | exact Nat.ne_of_lt (Nat.lt_of_lt_of_le (by have := World.block_lt_of_cell? _ _ hw374_0; first | rwa [add_block] at this | exact this) GW379.out) | (rw [add_block]; exact Nat.ne_of_lt (Nat.lt_of_lt_of_le (by have := World.block_lt_of_cell? _ _ hw374_0; first | rwa [add_block] at this | exact this) GW379.out)) | (show (Addr.add _ _).block ≠ _; rw [add_block]; exact Nat.ne_of_lt (Nat.lt_of_lt_of_le (by have := World.block_lt_of_cell? _ _ hw374_0; first | rwa [add_block] at this | exact this) GW379.out)) | (dsimp only; exact Nat.ne_of_lt (Nat.lt_of_lt_of_le (by have := World.block_lt_of_cell? _ _ hw374_0; first | rwa [add_block] at this | exact this) GW379.out))) _).trans (hHeld.2.2.2.2.2.1)))))), ((cell_far (p := ⟨gb379, _, none⟩) (by first | exact Nat.ne_of_lt (Nat.lt_of_lt_of_le (by have := World.block_lt_of_cell? _ _ hw374_1; first | rwa [add_block] at this | exact this) GW379.out) | (rw [add_block]; exact Nat.ne_of_lt (Nat.lt_of_lt_of_le (by have := World.block_lt_of_cell? _ _ hw374_1; first | rwa [add_block] at this | exact this) GW379.out)) | (show (Addr.add _ _).block ≠ _; rw [add_block]; exact Nat.ne_of_lt (Nat.lt_of_lt_of_le (by have := World.block_lt_of_cell? _ _ hw374_1; first | rwa [add_block] at this | exact this) GW379.out)) | (dsimp only; exact Nat.ne_of_lt (Nat.lt_of_lt_of_le (by have := World.block_lt_of_cell? _ _ hw374_1; first | rwa [add_block] at this | exact this) GW379.out))) _).trans (((cell_far (p := ⟨gb379, _, none⟩) (by first | exact Nat.ne_of_lt (Nat.lt_of_lt_of_le (by have := World.block_lt_of_cell? _ _ hw374_1; first | rwa [add_block] at this | exact this) GW379.out) | (rw [add_block]; exact Nat.ne_of_lt (Nat.lt_of_lt_of_le (by have := World.block_lt_of_cell? _ _ hw374_1; first | rwa [add_block] at this | exact this) GW379.out)) | (show (Addr.add _ _).block ≠ _; rw [add_block]; exact Nat.ne_of_lt (Nat.lt_of_lt_of_le (by have := World.block_lt_of_cell? _ _ hw374_1; first | rwa [add_block] at this | exact this) GW379.out)) | (dsimp only; exact Nat.ne_of_lt (Nat.lt_of_lt_of_le (by have := World.block_lt_of_cell? _ _ hw374_1; first | rwa [add_block] at this | exact this) GW379.out))) _).trans (((cell_far (p := ⟨gb379, _, none⟩) (by first | exact Nat.ne_of_lt (Nat.lt_of_lt_of_le (by have := World.block_lt_of_cell? _ _ hw374_1; first | rwa [add_block] at this | exact this) GW379.out) | (rw [add_block]; exact Nat.ne_of_lt (Nat.lt_of_lt_of_le (by have := World.block_lt_of_cell? _ _ hw374_1; first | rwa [add_block] at this | exact this) GW379.out)) | (show (Addr.add _ _).block ≠ _; rw [add_block]; exact Nat.ne_of_lt (Nat.lt_of_lt_of_le (by have := World.block_lt_of_cell? _ _ hw374_1; first | rwa [add_block] at this | exact this) GW379.out)) | (dsimp only; exact Nat.ne_of_lt (Nat.lt_of_lt_of_le (by have := World.block_lt_of_cell? _ _ hw374_1; first | rwa [add_block] at this | exact this) GW379.out))) _).trans (hHeld.2.2.2.2.2.2.1)))))), ((cell_far (p := ⟨gb379, _, none⟩) (by first | exact Nat.ne_of_lt (Nat.lt_of_lt_of_le (by have := World.block_lt_of_cell? _ _ hw374_2; first | rwa [add_block] at this | exact this) GW379.out) | (rw [add_block]; exact Nat.ne_of_lt (Nat.lt_of_lt_of_le (by have := World.block_lt_of_cell? _ _ hw374_2; first | rwa [add_block] at this | exact this) GW379.out)) | (show (Addr.add _ _).block ≠ _; rw [add_block]; exact Nat.ne_of_lt (Nat.lt_of_lt_of_le (by have := World.block_lt_of_cell? _ _ hw374_2; first | rwa [add_block] at this | exact this) GW379.out)) | (dsimp only; exact Nat.ne_of_lt (Nat.lt_of_lt_of_le (by have := World.block_lt_of_cell? _ _ hw374_2; first | rwa [add_block] at this | exact this) GW379.out))) _).trans (((cell_far (p := ⟨gb379, _, none⟩) (by first | exact Nat.ne_of_lt (Nat.lt_of_lt_of_le (by have := World.block_lt_of_cell? _ _ hw374_2; first | rwa [add_block] at this | exact this) GW379.out) | (rw [add_block]; exact Nat.ne_of_lt (Nat.lt_of_lt_of_le (by have := World.block_lt_of_cell? _ _ hw374_2; first | rwa [add_block] at this | exact this) GW379.out)) | (show (Addr.add _ _).block ≠ _; rw [add_block]; exact Nat.ne_of_lt (Nat.lt_of_lt_of_le (by have := World.block_lt_of_cell? _ _ hw374_2; first | rwa [add_block] at this | exact this) GW379.out)) | (dsimp only; exact Nat.ne_of_lt (Nat.lt_of_lt_of_le (by have := World.block_lt_of_cell? _ _ hw374_2; first | rwa [add_block] at this | exact this) GW379.out))) _).trans (((cell_far (p := ⟨gb379, _, none⟩) (by first | exact Nat.ne_of_lt (Nat.lt_of_lt_of_le (by have := World.block_lt_of_cell? _ _ hw374_2; first | rwa [add_block] at this | exact this) GW379.out) | (rw [add_block]; exact Nat.ne_of_lt (Nat.lt_of_lt_of_le (by have := World.block_lt_of_cell? _ _ hw374_2; first | rwa [add_block] at this | exact this) GW379.out)) | (show (Addr.add _ _).block ≠ _; rw [add_block]; exact Nat.ne_of_lt (Nat.lt_of_lt_of_le (by have := World.block_lt_of_cell? _ _ hw374_2; first | rwa [add_block] at this | exact this) GW379.out)) | (dsimp only; exact Nat.ne_of_lt (Nat.lt_of_lt_of_le (by have := World.block_lt_of_cell? _ _ hw374_2; first | rwa [add_block] at this | exact this) GW379.out))) _).trans (hHeld.2.2.2.2.2.2.2))))))⟩ (fun hHeld => ?_)
       clear hK K
       refine pure_ (i := 15) (N := some 6) (v := ?_) (a' := ?_) #[true, true, true, true, true, true, true, true, true, true, true, true, true, true, true, true] rfl rfl (any_of HT_.out (by kernel_rfl)) (fun _ _ _ h => h) (Or.inl ⟨by rfl, ?_⟩) ?_ ?_
       rotate_left
       ·intro w'
        go_simp
        with_reducible rfl
       rotate_left
       ·simp only [Act.put, List.setIfInBounds_toArray, List.set_cons_zero, List.set_cons_succ, i64_w, i32_w]
        rfl
       refine done_ (done_of HT_.out (by kernel_rfl)) ?_
       have hnb21 := NB379_373.out
       have hnc21 := NB373_379.out
       have hcz22_0 : w17.cell? ⟨gb379, 0, none⟩ = some (.int .i64 0) := (blk_cell BK379.out 0).trans rfl
       have hcz22_1 : w17.cell? ⟨gb379, 1, none⟩ = some (.int .i64 0) := (blk_cell BK379.out 1).trans rfl
       have hcz22_2 : w17.cell? ⟨gb379, 2, none⟩ = some (.string (⟨#[]⟩ : ByteArray)) := (blk_cell BK379.out 2).trans rfl
       have hfz22_0 := blk_frozen BK379.out 0
       have hfz22_1 := blk_frozen BK379.out 1
       have hfz22_2 := blk_frozen BK379.out 2
       try go_wp2_with (first | (go_at_call 43; (with_reducible refine (quarryref02_True.calls t375 t376 t377 t380 _ A13.out).mono ?_); rintro e w23 ⟨rfl, hb⟩; have n0_ := Aside0.mk (blk_below (g := gb373) (o := .cells #[.int .i64 a1_0, .int .i64 a1_1, .int .i64 a1_2, .int .i64 a1_3, .string a1_4] 58 (0, 0)) (by (with_reducible repeat (first | refine blk_drewN ?_ _ | refine blk_drew ?_ | refine blk_alloc ?_ _)); refine blk_far ?_ NB373_379.out _; (with_reducible repeat (first | refine blk_drewN ?_ _ | refine blk_drew ?_ | refine blk_alloc ?_ _)); refine blk_far ?_ NB373_379.out _; (with_reducible repeat (first | refine blk_drewN ?_ _ | refine blk_drew ?_ | refine blk_alloc ?_ _)); refine blk_far ?_ NB373_379.out _; (with_reducible repeat (first | refine blk_drewN ?_ _ | refine blk_drew ?_ | refine blk_alloc ?_ _)); exact BK373.out) hb); have n1_ := Aside0.mk (blk_below (g := gb379) (o := .cells #[.int .i64 t375, .int .i64 t376, .string t377] 25 (0, 0)) (by (with_reducible repeat (first | refine blk_drewN ?_ _ | refine blk_drew ?_ | refine blk_alloc ?_ _)); refine blk_put (cs := #[.int .i64 t375, .int .i64 t376, .string (⟨#[]⟩ : ByteArray)]) ?_ 2 _ rfl; (with_reducible repeat (first | refine blk_drewN ?_ _ | refine blk_drew ?_ | refine blk_alloc ?_ _)); refine blk_put (cs := #[.int .i64 t375, .int .i64 0, .string (⟨#[]⟩ : ByteArray)]) ?_ 1 _ rfl; (with_reducible repeat (first | refine blk_drewN ?_ _ | refine blk_drew ?_ | refine blk_alloc ?_ _)); refine blk_put (cs := #[.int .i64 0, .int .i64 0, .string (⟨#[]⟩ : ByteArray)]) ?_ 0 _ rfl; (with_reducible repeat (first | refine blk_drewN ?_ _ | refine blk_drew ?_ | refine blk_alloc ?_ _)); exact BK379.out) hb); have n2_ := Aside0.mk (below_step (by repeat (first | (with_reducible first | exact HB.out | apply below_alloc | apply pw_below_drewN | apply below_drew1 | refine below_set ?_ GE373.out | refine below_set ?_ GE379.out) | exact HB.out)) hb); clear BK373; clear BK379; clear HB; have BK373 := n0_; have BK379 := n1_; have HB := n2_; clear n0_ n1_ n2_; (try clear hb); (try clear hb2); (try clear hk); (try clear hi)))
       go_ret
       exact ⟨by first | rfl | (simp [errW_none, errW_some] <;> rfl) | (simp [*, errW_none, errW_some] <;> rfl), by repeat (first | (with_reducible first | exact HB.out | apply below_alloc | apply pw_below_drewN | apply below_drew1 | refine below_set ?_ GE373.out | refine below_set ?_ GE379.out) | exact HB.out)⟩
      ·rw [if_neg c12] at H
       have c12b0 : (t378 == 0) = false := beq_eq_false_iff_ne.mpr c12
       have c12b1 : (t378 != 0) = true := bne_iff_ne.mpr c12
       obtain rfl := Option.some.inj H
       try go_wp2
       have n0_ := Aside0.mk (blk_drew BK373.out)
       have n1_ := Aside0.mk (below_drew1 HB.out)
       clear BK373
       clear HB
       have BK373 := n0_
       have HB := n1_
       clear n0_ n1_
       have p374 : 0 ≤ (a1_0 : Int) := of_decide_eq_true (by first | (with_reducible assumption) | assumption)
       have q374 : a1_0 < (l0.length : Int) := of_decide_eq_true (by first | (with_reducible assumption) | assumption)
       obtain ⟨ad374, e374, hx374_0, hx374_1, hx374_2⟩ := at_T25 HR0.out a1_0 p374 q374
       have hw374_2 := hx374_2
       have hw374_1 := hx374_1
       have hw374_0 := hx374_0
       cases e374
       replace hx374_0 := (HB.out.cell (World.block_lt_of_cell? w _ hx374_0)).trans hx374_0
       replace hx374_1 := (HB.out.cell (World.block_lt_of_cell? w _ hx374_1)).trans hx374_1
       replace hx374_2 := (HB.out.cell (World.block_lt_of_cell? w _ hx374_2)).trans hx374_2
       replace p374 := eq_true p374
       replace q374 := eq_true q374
       refine start_ (n := 16) (S := fun w' => w'.cell? ⟨gb373, 0, none⟩ = some (.int .i64 a1_0) ∧ w'.cell? ⟨gb373, 1, none⟩ = some (.int .i64 a1_1) ∧ w'.cell? ⟨gb373, 2, none⟩ = some (.int .i64 a1_2) ∧ w'.cell? ⟨gb373, 3, none⟩ = some (.int .i64 a1_3) ∧ w'.cell? ⟨gb373, 4, none⟩ = some (.string a1_4) ∧ w'.cell? (ad374.add ((a1_0).toNat * 3)) = some (.int .i64 ((rd_T25 l0 a1_0).f0)) ∧ w'.cell? ⟨(ad374.add ((a1_0).toNat * 3)).block, (ad374.add ((a1_0).toNat * 3)).off + 1, none⟩ = some (.int .i64 ((rd_T25 l0 a1_0).f1)) ∧ w'.cell? ⟨(ad374.add ((a1_0).toNat * 3)).block, (ad374.add ((a1_0).toNat * 3)).off + 2, none⟩ = some (.string ((rd_T25 l0 a1_0).f2))) (ds := []) #[false, false, false, false, false, false, false, false, false, false, false, false, false, false, false, false] (by kernel_rfl) rfl rfl ⟨(blk_cell BK373.out 0).trans rfl, (blk_cell BK373.out 1).trans rfl, (blk_cell BK373.out 2).trans rfl, (blk_cell BK373.out 3).trans rfl, (blk_cell BK373.out 4).trans rfl, ((HB.out.cell (World.block_lt_of_cell? w _ hw374_0)).trans hw374_0), ((HB.out.cell (World.block_lt_of_cell? w _ hw374_1)).trans hw374_1), ((HB.out.cell (World.block_lt_of_cell? w _ hw374_2)).trans hw374_2)⟩ (fun hHeld => ?_); refine with_tabW quarryref19_Passes.tab3 quarryref19_Passes.bits3 (fun HT_ HW_ => ?_)
       generalize wc.drew = w24 at BK373 HB hx374_0 hx374_1 hx374_2 hHeld ⊢
       refine pure_ (i := 0) (N := some 18) (v := ?_) (a' := ?_) #[true, false, false, false, false, false, false, false, false, false, false, false, false, false, false, false] rfl rfl (any_of HT_.out (by kernel_rfl)) (fun _ _ _ h => h) (Or.inl ⟨by rfl, ?_⟩) ?_ ?_
       rotate_left
       ·intro w'
        go_simp
        with_reducible rfl
       rotate_left
       ·simp only [Act.put, List.setIfInBounds_toArray, List.set_cons_zero, List.set_cons_succ, i64_w, i32_w]
        rfl
       refine pure_ (i := 2) (N := some 20) (v := ?_) (a' := ?_) #[true, false, true, false, false, false, false, false, false, false, false, false, false, false, false, false] rfl rfl (any_of HT_.out (by kernel_rfl)) (fun _ _ _ h => h) (Or.inl ⟨by rfl, ?_⟩) ?_ ?_
       rotate_left
       ·intro w'
        go_simp
        with_reducible rfl
       rotate_left
       ·simp only [Act.put, List.setIfInBounds_toArray, List.set_cons_zero, List.set_cons_succ, i64_w, i32_w]
        rfl
       refine pure_ (i := 3) (N := some 21) (v := ?_) (a' := ?_) #[true, false, true, true, false, false, false, false, false, false, false, false, false, false, false, false] rfl rfl (any_of HT_.out (by kernel_rfl)) (fun _ _ _ h => h) (Or.inl ⟨by rfl, ?_⟩) ?_ ?_
       rotate_left
       ·intro w'
        go_simp
        with_reducible rfl
       rotate_left
       ·simp only [Act.put, List.setIfInBounds_toArray, List.set_cons_zero, List.set_cons_succ, i64_w, i32_w]
        rfl
       refine pure_ (i := 7) (N := some 25) (v := ?_) (a' := ?_) #[true, false, true, true, false, false, false, true, false, false, false, false, false, false, false, false] rfl rfl (any_of HT_.out (by kernel_rfl)) (fun _ _ _ h => h) (Or.inl ⟨by rfl, ?_⟩) ?_ ?_
       rotate_left
       ·intro w'
        go_simp
        with_reducible rfl
       rotate_left
       ·simp only [Act.put, List.setIfInBounds_toArray, List.set_cons_zero, List.set_cons_succ, i64_w, i32_w]
        rfl
       refine take_ (i := 1) (N := some 19) (v := ?_) (a' := ?_) #[true, true, true, true, false, false, false, true, false, false, false, false, false, false, false, false] rfl rfl (take_ofW HT_.out HW_.out (by kernel_rfl)) (fun _ _ _ h => h) (Or.inl ⟨by rfl, ?_⟩) hHeld ?_ ?_
       rotate_left
       ·rintro w' ⟨s0, s1, s2, s3, s4, s5, s6, s7⟩
        go_simp
        with_reducible rfl
       rotate_left
       ·simp only [Act.put, List.setIfInBounds_toArray, List.set_cons_zero, List.set_cons_succ, i64_w, i32_w]
        rfl
       refine take_ (i := 4) (N := some 22) (v := ?_) (a' := ?_) #[true, true, true, true, true, false, false, true, false, false, false, false, false, false, false, false] rfl rfl (take_ofW HT_.out HW_.out (by kernel_rfl)) (fun _ _ _ h => h) (Or.inl ⟨by rfl, ?_⟩) hHeld ?_ ?_
       rotate_left
       ·rintro w' ⟨s0, s1, s2, s3, s4, s5, s6, s7⟩
        go_simp
        with_reducible rfl
       rotate_left
       ·simp only [Act.put, List.setIfInBounds_toArray, List.set_cons_zero, List.set_cons_succ, i64_w, i32_w]
        rfl
       refine pure_ (i := 5) (N := some 23) (v := ?_) (a' := ?_) #[true, true, true, true, true, true, false, true, false, false, false, false, false, false, false, false] rfl rfl (any_of HT_.out (by kernel_rfl)) (fun _ _ _ h => h) (Or.inl ⟨by rfl, ?_⟩) ?_ ?_
       rotate_left
       ·intro w'
        go_simp
        with_reducible rfl
       rotate_left
       ·simp only [Act.put, List.setIfInBounds_toArray, List.set_cons_zero, List.set_cons_succ, i64_w, i32_w]
        rfl
       refine take_ (i := 6) (N := some 24) (v := ?_) (a' := ?_) #[true, true, true, true, true, true, true, true, false, false, false, false, false, false, false, false] rfl rfl (take_ofW HT_.out HW_.out (by kernel_rfl)) (fun _ _ _ h => h) (Or.inl ⟨by rfl, ?_⟩) hHeld ?_ ?_
       rotate_left
       ·rintro w' ⟨s0, s1, s2, s3, s4, s5, s6, s7⟩
        go_simp
        with_reducible rfl
       rotate_left
       ·simp only [Act.put, List.setIfInBounds_toArray, List.set_cons_zero, List.set_cons_succ, i64_w, i32_w]
        rfl
       refine take_ (i := 8) (N := some 26) (v := ?_) (a' := ?_) #[true, true, true, true, true, true, true, true, true, false, false, false, false, false, false, false] rfl rfl (take_ofW HT_.out HW_.out (by kernel_rfl)) (fun _ _ _ h => h) (Or.inl ⟨by rfl, ?_⟩) hHeld ?_ ?_
       rotate_left
       ·rintro w' ⟨s0, s1, s2, s3, s4, s5, s6, s7⟩
        go_simp
        with_reducible rfl
       rotate_left
       ·simp only [Act.put, List.setIfInBounds_toArray, List.set_cons_zero, List.set_cons_succ, i64_w, i32_w]
        rfl
       refine join_ (σ := Nat) 2 #[true, true, true, true, true, true, true, true, true, true, true, true, true, true, false, false] (fun s_ => [(27, .tuple #[.agg #[.int .i64 t375, .int .i64 t376, .string t377], .int .i64 t378]), (5, .pointer (some ⟨s_, 0, none⟩)), (17, .tuple #[.agg #[.int .i64 t375, .int .i64 t376, .string t377], .int .i64 t378]), (28, .agg #[.int .i64 t375, .int .i64 t376, .string t377]), (29, .int .i64 t378)]) (fun s_ w' => (w'.cell? ⟨gb373, 0, none⟩ = some (.int .i64 a1_0) ∧ w'.cell? ⟨gb373, 1, none⟩ = some (.int .i64 a1_1) ∧ w'.cell? ⟨gb373, 2, none⟩ = some (.int .i64 a1_2) ∧ w'.cell? ⟨gb373, 3, none⟩ = some (.int .i64 a1_3) ∧ w'.cell? ⟨gb373, 4, none⟩ = some (.string a1_4) ∧ w'.cell? (ad374.add ((a1_0).toNat * 3)) = some (.int .i64 ((rd_T25 l0 a1_0).f0)) ∧ w'.cell? ⟨(ad374.add ((a1_0).toNat * 3)).block, (ad374.add ((a1_0).toNat * 3)).off + 1, none⟩ = some (.int .i64 ((rd_T25 l0 a1_0).f1)) ∧ w'.cell? ⟨(ad374.add ((a1_0).toNat * 3)).block, (ad374.add ((a1_0).toNat * 3)).off + 2, none⟩ = some (.string ((rd_T25 l0 a1_0).f2))) ∧ (w'.heap[gb373]? = some (.cells #[.int .i64 a1_0, .int .i64 a1_1, .int .i64 a1_2, .int .i64 a1_3, .string a1_4] 58 (0, 0))) ∧ (w'.heap[s_]? = some (.cells #[.int .i64 0, .int .i64 0, .string (⟨#[]⟩ : ByteArray)] 25 (0, 0))) ∧ (w.heap.size ≤ s_) ∧ (w.heap.size ≤ s_) ∧ (gb373 ≠ s_) ∧ (s_ ≠ gb373) ∧ (Below w.heap.size w w')) ?_ ?_
       rotate_left
       ·intro hCont
        refine two_ (i := 9) (j := 13) (Ni := some 27) (Nj := some 5) #[true, true, true, true, true, true, true, true, true, true, false, false, false, false, false, false] #[true, true, true, true, true, true, true, true, true, false, false, false, false, true, false, false] rfl rfl rfl rfl (two_of HT_.out (by kernel_rfl)) (by decide) (by decide) (fun K hK => ?_) (fun K hK => ?_)
        ·skip
         refine goes_ Try.func42 (by kernel_rfl) rfl #[.int .i64 a1_1, .agg #[.int .i64 ((rd_T25 l0 a1_0).f0), .int .i64 ((rd_T25 l0 a1_0).f1), .string ((rd_T25 l0 a1_0).f2)], .agg #[.int .i64 a1_2, .int .i64 a1_3, .string a1_4]] (by rfl) rfl rfl (by (try simp only [List.map_toArray, List.map_cons, List.map_nil]); first | done | rfl | (simp only [List.length_drop, List.length_take]; rfl)) ?_
         with_reducible refine (quarryref02_Binary.calls a1_1 ((rd_T25 l0 a1_0).f0) ((rd_T25 l0 a1_0).f1) ((rd_T25 l0 a1_0).f2) a1_2 a1_3 a1_4 t375 t376 t377 t378 _ A11.out).mono ?_
         rintro e w25 ⟨rfl, hb⟩
         refine ⟨_, rfl, ?_⟩
         have n0_ := Aside0.mk (blk_below (g := gb373) (o := .cells #[.int .i64 a1_0, .int .i64 a1_1, .int .i64 a1_2, .int .i64 a1_3, .string a1_4] 58 (0, 0)) (bk_ BK373) hb)
         have n1_ := Aside0.mk (below_step (by repeat (first | (with_reducible first | exact HB.out | apply below_alloc | apply pw_below_drewN | apply below_drew1 | refine below_set ?_ GE373.out) | exact HB.out)) hb)
         clear BK373
         clear HB
         have BK373 := n0_
         have HB := n1_
         clear n0_ n1_
         (try clear hb)
         (try clear hb2)
         (try clear hk)
         (try clear hi)
         refine hK.out _ _ ⟨(blk_cell BK373.out 0).trans rfl, (blk_cell BK373.out 1).trans rfl, (blk_cell BK373.out 2).trans rfl, (blk_cell BK373.out 3).trans rfl, (blk_cell BK373.out 4).trans rfl, ((HB.out.cell (World.block_lt_of_cell? w _ hw374_0)).trans hw374_0), ((HB.out.cell (World.block_lt_of_cell? w _ hw374_1)).trans hw374_1), ((HB.out.cell (World.block_lt_of_cell? w _ hw374_2)).trans hw374_2)⟩ (fun hHeld => ?_)
         clear hK K
         refine norm_ (a' := ?_) ?_ ?_
         rotate_left
         ·show Act.put _ (some 27) _ = _
          simp only [Act.put, List.setIfInBounds_toArray, List.set_cons_zero, List.set_cons_succ, i64_w, i32_w]
          rfl
         refine pure_ (i := 10) (N := some 17) (v := ?_) (a' := ?_) #[true, true, true, true, true, true, true, true, true, true, true, false, false, false, false, false] rfl rfl (any_of HT_.out (by kernel_rfl)) (fun _ _ _ h => h) (Or.inl ⟨by rfl, ?_⟩) ?_ ?_
         rotate_left
         ·intro w'
          go_simp
          with_reducible rfl
         rotate_left
         ·simp only [Act.put, List.setIfInBounds_toArray, List.set_cons_zero, List.set_cons_succ, i64_w, i32_w]
          rfl
         refine pure_ (i := 11) (N := some 28) (v := ?_) (a' := ?_) #[true, true, true, true, true, true, true, true, true, true, true, true, false, false, false, false] rfl rfl (any_of HT_.out (by kernel_rfl)) (fun _ _ _ h => h) (Or.inl ⟨by rfl, ?_⟩) ?_ ?_
         rotate_left
         ·intro w'
          go_simp
          with_reducible rfl
         rotate_left
         ·simp only [Act.put, List.setIfInBounds_toArray, List.set_cons_zero, List.set_cons_succ, i64_w, i32_w]
          rfl
         refine pure_ (i := 12) (N := some 29) (v := ?_) (a' := ?_) #[true, true, true, true, true, true, true, true, true, true, true, true, true, false, false, false] rfl rfl (any_of HT_.out (by kernel_rfl)) (fun _ _ _ h => h) (Or.inl ⟨by rfl, ?_⟩) ?_ ?_
         rotate_left
         ·intro w'
          go_simp
          with_reducible rfl
         rotate_left
         ·simp only [Act.put, List.setIfInBounds_toArray, List.set_cons_zero, List.set_cons_succ, i64_w, i32_w]
          rfl
         refine one_ (i := 13) (N := some 5) #[true, true, true, true, true, true, true, true, true, true, true, true, true, true, false, false] rfl rfl (one_of HT_.out (by kernel_rfl)) (by decide) (fun K hK => ?_)
         refine box_step ?hg (N := 5) ?hd (cs := #[.int .i64 0, .int .i64 0, .string (⟨#[]⟩ : ByteArray)]) (t := 25) ?hr ?_; (case hd => rfl); (case hg => rfl); (case hr => first | (go_simp; done) | (go_simp; rfl))
         intro gb379 hg w26 hbox hb
         have n0_ := Aside0.mk (blk_below (g := gb373) (o := .cells #[.int .i64 a1_0, .int .i64 a1_1, .int .i64 a1_2, .int .i64 a1_3, .string a1_4] 58 (0, 0)) (bk_ BK373) hb)
         have n1_ := Aside0.mk (below_step (by repeat (first | (with_reducible first | exact HB.out | apply below_alloc | apply pw_below_drewN | apply below_drew1 | refine below_set ?_ GE373.out) | exact HB.out)) hb)
         have n2_ := Aside0.mk (hbox)
         have n3_ := Aside0.mk ((by rw [hg]; exact (below_size (by repeat (first | (with_reducible first | exact HB.out | apply below_alloc | apply pw_below_drewN | apply below_drew1 | refine below_set ?_ GE373.out) | exact HB.out))) : w.heap.size ≤ gb379))
         have n4_ := Aside0.mk ((by rw [hg]; exact (below_size (by repeat (first | (with_reducible first | exact HB.out | apply below_alloc | apply pw_below_drewN | apply below_drew1 | refine below_set ?_ GE373.out) | exact HB.out))) : w.heap.size ≤ gb379))
         have n5_ := Aside0.mk ((by rw [hg]; exact Nat.ne_of_lt (blk_lt (g := gb373) (o := .cells #[.int .i64 a1_0, .int .i64 a1_1, .int .i64 a1_2, .int .i64 a1_3, .string a1_4] 58 (0, 0)) (bk_ BK373)) : gb373 ≠ gb379))
         have n6_ := Aside0.mk ((by rw [hg]; exact Nat.ne_of_gt (blk_lt (g := gb373) (o := .cells #[.int .i64 a1_0, .int .i64 a1_1, .int .i64 a1_2, .int .i64 a1_3, .string a1_4] 58 (0, 0)) (bk_ BK373)) : gb379 ≠ gb373))
         clear BK373
         clear HB
         have BK373 := n0_
         have HB := n1_
         have BK379 := n2_
         have GW379 := n3_
         have GE379 := n4_
         have NB373_379 := n5_
         have NB379_373 := n6_
         clear n0_ n1_ n2_ n3_ n4_ n5_ n6_
         clear hb hbox hg
         refine hK.out _ _ ⟨(blk_cell BK373.out 0).trans rfl, (blk_cell BK373.out 1).trans rfl, (blk_cell BK373.out 2).trans rfl, (blk_cell BK373.out 3).trans rfl, (blk_cell BK373.out 4).trans rfl, ((HB.out.cell (World.block_lt_of_cell? w _ hw374_0)).trans hw374_0), ((HB.out.cell (World.block_lt_of_cell? w _ hw374_1)).trans hw374_1), ((HB.out.cell (World.block_lt_of_cell? w _ hw374_2)).trans hw374_2)⟩ (fun hHeld => ?_)
         clear hK K
         refine norm_ (a' := ?_) ?_ ?_
         rotate_left
         ·show Act.put _ (some 5) _ = _
          simp only [Act.put, List.setIfInBounds_toArray, List.set_cons_zero, List.set_cons_succ, i64_w, i32_w]
          rfl
         exact norm_ (by simp only [putAll, Act.put, List.setIfInBounds_toArray, List.set_cons_zero, List.set_cons_succ]) (hCont (gb379) _ ⟨hHeld, (bk_ BK373), (bk_ BK379), GW379.out, GE379.out, NB373_379.out, NB379_373.out, (by repeat (first | (with_reducible first | exact HB.out | apply below_alloc | apply pw_below_drewN | apply below_drew1 | refine below_set ?_ GE373.out | refine below_set ?_ GE379.out) | exact HB.out))⟩)
        ·skip
         refine box_step ?hg (N := 5) ?hd (cs := #[.int .i64 0, .int .i64 0, .string (⟨#[]⟩ : ByteArray)]) (t := 25) ?hr ?_; (case hd => rfl); (case hg => rfl); (case hr => first | (go_simp; done) | (go_simp; rfl))
         intro gb379 hg w25 hbox hb
         have n0_ := Aside0.mk (blk_below (g := gb373) (o := .cells #[.int .i64 a1_0, .int .i64 a1_1, .int .i64 a1_2, .int .i64 a1_3, .string a1_4] 58 (0, 0)) (bk_ BK373) hb)
         have n1_ := Aside0.mk (below_step (by repeat (first | (with_reducible first | exact HB.out | apply below_alloc | apply pw_below_drewN | apply below_drew1 | refine below_set ?_ GE373.out) | exact HB.out)) hb)
         have n2_ := Aside0.mk (hbox)
         have n3_ := Aside0.mk ((by rw [hg]; exact (below_size (by repeat (first | (with_reducible first | exact HB.out | apply below_alloc | apply pw_below_drewN | apply below_drew1 | refine below_set ?_ GE373.out) | exact HB.out))) : w.heap.size ≤ gb379))
         have n4_ := Aside0.mk ((by rw [hg]; exact (below_size (by repeat (first | (with_reducible first | exact HB.out | apply below_alloc | apply pw_below_drewN | apply below_drew1 | refine below_set ?_ GE373.out) | exact HB.out))) : w.heap.size ≤ gb379))
         have n5_ := Aside0.mk ((by rw [hg]; exact Nat.ne_of_lt (blk_lt (g := gb373) (o := .cells #[.int .i64 a1_0, .int .i64 a1_1, .int .i64 a1_2, .int .i64 a1_3, .string a1_4] 58 (0, 0)) (bk_ BK373)) : gb373 ≠ gb379))
         have n6_ := Aside0.mk ((by rw [hg]; exact Nat.ne_of_gt (blk_lt (g := gb373) (o := .cells #[.int .i64 a1_0, .int .i64 a1_1, .int .i64 a1_2, .int .i64 a1_3, .string a1_4] 58 (0, 0)) (bk_ BK373)) : gb379 ≠ gb373))
         clear BK373
         clear HB
         have BK373 := n0_
         have HB := n1_
         have BK379 := n2_
         have GW379 := n3_
         have GE379 := n4_
         have NB373_379 := n5_
         have NB379_373 := n6_
         clear n0_ n1_ n2_ n3_ n4_ n5_ n6_
         clear hb hbox hg
         refine hK.out _ _ ⟨(blk_cell BK373.out 0).trans rfl, (blk_cell BK373.out 1).trans rfl, (blk_cell BK373.out 2).trans rfl, (blk_cell BK373.out 3).trans rfl, (blk_cell BK373.out 4).trans rfl, ((HB.out.cell (World.block_lt_of_cell? w _ hw374_0)).trans hw374_0), ((HB.out.cell (World.block_lt_of_cell? w _ hw374_1)).trans hw374_1), ((HB.out.cell (World.block_lt_of_cell? w _ hw374_2)).trans hw374_2)⟩ (fun hHeld => ?_)
         clear hK K
         refine norm_ (a' := ?_) ?_ ?_
         rotate_left
         ·show Act.put _ (some 5) _ = _
          simp only [Act.put, List.setIfInBounds_toArray, List.set_cons_zero, List.set_cons_succ, i64_w, i32_w]
          rfl
         refine one_ (i := 9) (N := some 27) #[true, true, true, true, true, true, true, true, true, true, false, false, false, true, false, false] rfl rfl (one_of HT_.out (by kernel_rfl)) (by decide) (fun K hK => ?_)
         refine goes_ Try.func42 (by kernel_rfl) rfl #[.int .i64 a1_1, .agg #[.int .i64 ((rd_T25 l0 a1_0).f0), .int .i64 ((rd_T25 l0 a1_0).f1), .string ((rd_T25 l0 a1_0).f2)], .agg #[.int .i64 a1_2, .int .i64 a1_3, .string a1_4]] (by rfl) rfl rfl (by (try simp only [List.map_toArray, List.map_cons, List.map_nil]); first | done | rfl | (simp only [List.length_drop, List.length_take]; rfl)) ?_
         with_reducible refine (quarryref02_Binary.calls a1_1 ((rd_T25 l0 a1_0).f0) ((rd_T25 l0 a1_0).f1) ((rd_T25 l0 a1_0).f2) a1_2 a1_3 a1_4 t375 t376 t377 t378 _ A11.out).mono ?_
         rintro e w26 ⟨rfl, hb⟩
         refine ⟨_, rfl, ?_⟩
         have n0_ := Aside0.mk (blk_below (g := gb373) (o := .cells #[.int .i64 a1_0, .int .i64 a1_1, .int .i64 a1_2, .int .i64 a1_3, .string a1_4] 58 (0, 0)) (bk_ BK373) hb)
         have n1_ := Aside0.mk (blk_below (g := gb379) (o := .cells #[.int .i64 0, .int .i64 0, .string (⟨#[]⟩ : ByteArray)] 25 (0, 0)) (bk_ BK379) hb)
         have n2_ := Aside0.mk (below_step (by repeat (first | (with_reducible first | exact HB.out | apply below_alloc | apply pw_below_drewN | apply below_drew1 | refine below_set ?_ GE373.out | refine below_set ?_ GE379.out) | exact HB.out)) hb)
         clear BK373
         clear BK379
         clear HB
         have BK373 := n0_
         have BK379 := n1_
         have HB := n2_
         clear n0_ n1_ n2_
         (try clear hb)
         (try clear hb2)
         (try clear hk)
         (try clear hi)
         refine hK.out _ _ ⟨(blk_cell BK373.out 0).trans rfl, (blk_cell BK373.out 1).trans rfl, (blk_cell BK373.out 2).trans rfl, (blk_cell BK373.out 3).trans rfl, (blk_cell BK373.out 4).trans rfl, ((HB.out.cell (World.block_lt_of_cell? w _ hw374_0)).trans hw374_0), ((HB.out.cell (World.block_lt_of_cell? w _ hw374_1)).trans hw374_1), ((HB.out.cell (World.block_lt_of_cell? w _ hw374_2)).trans hw374_2)⟩ (fun hHeld => ?_)
         clear hK K
         refine norm_ (a' := ?_) ?_ ?_
         rotate_left
         ·show Act.put _ (some 27) _ = _
          simp only [Act.put, List.setIfInBounds_toArray, List.set_cons_zero, List.set_cons_succ, i64_w, i32_w]
          rfl
         refine pure_ (i := 10) (N := some 17) (v := ?_) (a' := ?_) #[true, true, true, true, true, true, true, true, true, true, true, false, false, true, false, false] rfl rfl (any_of HT_.out (by kernel_rfl)) (fun _ _ _ h => h) (Or.inl ⟨by rfl, ?_⟩) ?_ ?_
         rotate_left
         ·intro w'
          go_simp
          with_reducible rfl
         rotate_left
         ·simp only [Act.put, List.setIfInBounds_toArray, List.set_cons_zero, List.set_cons_succ, i64_w, i32_w]
          rfl
         refine pure_ (i := 11) (N := some 28) (v := ?_) (a' := ?_) #[true, true, true, true, true, true, true, true, true, true, true, true, false, true, false, false] rfl rfl (any_of HT_.out (by kernel_rfl)) (fun _ _ _ h => h) (Or.inl ⟨by rfl, ?_⟩) ?_ ?_
         rotate_left
         ·intro w'
          go_simp
          with_reducible rfl
         rotate_left
         ·simp only [Act.put, List.setIfInBounds_toArray, List.set_cons_zero, List.set_cons_succ, i64_w, i32_w]
          rfl
         refine pure_ (i := 12) (N := some 29) (v := ?_) (a' := ?_) #[true, true, true, true, true, true, true, true, true, true, true, true, true, true, false, false] rfl rfl (any_of HT_.out (by kernel_rfl)) (fun _ _ _ h => h) (Or.inl ⟨by rfl, ?_⟩) ?_ ?_
         rotate_left
         ·intro w'
          go_simp
          with_reducible rfl
         rotate_left
         ·simp only [Act.put, List.setIfInBounds_toArray, List.set_cons_zero, List.set_cons_succ, i64_w, i32_w]
          rfl
         exact norm_ (by simp only [putAll, Act.put, List.setIfInBounds_toArray, List.set_cons_zero, List.set_cons_succ]) (hCont (gb379) _ ⟨hHeld, (bk_ BK373), (bk_ BK379), GW379.out, GE379.out, NB373_379.out, NB379_373.out, (by repeat (first | (with_reducible first | exact HB.out | apply below_alloc | apply pw_below_drewN | apply below_drew1 | refine below_set ?_ GE373.out | refine below_set ?_ GE379.out) | exact HB.out))⟩)
       rintro gb379 w27 ⟨hS_, h0_, h1_, h2_, h3_, h4_, h5_, h6_⟩
       have n0_ : Aside0 (w27.heap[gb373]? = some (.cells #[.int .i64 a1_0, .int .i64 a1_1, .int .i64 a1_2, .int .i64 a1_3, .string a1_4] 58 (0, 0))) := ⟨h0_⟩
       have n1_ : Aside0 (w27.heap[gb379]? = some (.cells #[.int .i64 0, .int .i64 0, .string (⟨#[]⟩ : ByteArray)] 25 (0, 0))) := ⟨h1_⟩
       have n2_ : Aside0 (w.heap.size ≤ gb379) := ⟨h2_⟩
       have n3_ : Aside0 (w.heap.size ≤ gb379) := ⟨h3_⟩
       have n4_ : Aside0 (gb373 ≠ gb379) := ⟨h4_⟩
       have n5_ : Aside0 (gb379 ≠ gb373) := ⟨h5_⟩
       have n6_ : Aside0 (Below w.heap.size w w27) := ⟨h6_⟩
       clear BK373
       clear HB
       clear h0_ h1_ h2_ h3_ h4_ h5_ h6_
       have BK373 := n0_
       have BK379 := n1_
       have GW379 := n2_
       have GE379 := n3_
       have NB373_379 := n4_
       have NB379_373 := n5_
       have HB := n6_
       clear n0_ n1_ n2_ n3_ n4_ n5_ n6_
       have hHeld : w27.cell? ⟨gb373, 0, none⟩ = some (.int .i64 a1_0) ∧ w27.cell? ⟨gb373, 1, none⟩ = some (.int .i64 a1_1) ∧ w27.cell? ⟨gb373, 2, none⟩ = some (.int .i64 a1_2) ∧ w27.cell? ⟨gb373, 3, none⟩ = some (.int .i64 a1_3) ∧ w27.cell? ⟨gb373, 4, none⟩ = some (.string a1_4) ∧ w27.cell? (ad374.add ((a1_0).toNat * 3)) = some (.int .i64 ((rd_T25 l0 a1_0).f0)) ∧ w27.cell? ⟨(ad374.add ((a1_0).toNat * 3)).block, (ad374.add ((a1_0).toNat * 3)).off + 1, none⟩ = some (.int .i64 ((rd_T25 l0 a1_0).f1)) ∧ w27.cell? ⟨(ad374.add ((a1_0).toNat * 3)).block, (ad374.add ((a1_0).toNat * 3)).off + 2, none⟩ = some (.string ((rd_T25 l0 a1_0).f2)) := hS_
       refine norm_ (a' := ?_) ?_ ?_
       rotate_left
       ·simp only [putAll, Act.put, List.setIfInBounds_toArray, List.set_cons_zero, List.set_cons_succ]
        rfl
       refine one_ (i := 14) (N := none) #[true, true, true, true, true, true, true, true, true, true, true, true, true, true, true, false] rfl rfl (one_of HT_.out (by kernel_rfl)) (by decide) (fun K hK => ?_)
       have hs28 : w27.cell? ⟨gb379, 0, none⟩ = some (.int .i64 0) := (blk_cell BK379.out 0).trans rfl
       have hfs28 := blk_frozen BK379.out 0
       have hns28_0 := NB373_379.out
       have hms28_0 := NB379_373.out
       have hs29 : w27.cell? ⟨gb379, 1, none⟩ = some (.int .i64 0) := (blk_cell BK379.out 1).trans rfl
       have hfs29 := blk_frozen BK379.out 1
       have hns29_0 := NB373_379.out
       have hms29_0 := NB379_373.out
       have hs30 : w27.cell? ⟨gb379, 2, none⟩ = some (.string (⟨#[]⟩ : ByteArray)) := (blk_cell BK379.out 2).trans rfl
       have hfs30 := blk_frozen BK379.out 2
       have hns30_0 := NB373_379.out
       have hms30_0 := NB379_373.out
       refine skip_ (w1 := ?_) (by rfl) rfl ?_ ?_
       rotate_left
       ·go_simp
        rfl
       refine hK.out _ _ ⟨((cell_far (p := ⟨gb379, _, none⟩) NB373_379.out _).trans (((cell_far (p := ⟨gb379, _, none⟩) NB373_379.out _).trans (((cell_far (p := ⟨gb379, _, none⟩) NB373_379.out _).trans (hHeld.1)))))), ((cell_far (p := ⟨gb379, _, none⟩) NB373_379.out _).trans (((cell_far (p := ⟨gb379, _, none⟩) NB373_379.out _).trans (((cell_far (p := ⟨gb379, _, none⟩) NB373_379.out _).trans (hHeld.2.1)))))), ((cell_far (p := ⟨gb379, _, none⟩) NB373_379.out _).trans (((cell_far (p := ⟨gb379, _, none⟩) NB373_379.out _).trans (((cell_far (p := ⟨gb379, _, none⟩) NB373_379.out _).trans (hHeld.2.2.1)))))), ((cell_far (p := ⟨gb379, _, none⟩) NB373_379.out _).trans (((cell_far (p := ⟨gb379, _, none⟩) NB373_379.out _).trans (((cell_far (p := ⟨gb379, _, none⟩) NB373_379.out _).trans (hHeld.2.2.2.1)))))), ((cell_far (p := ⟨gb379, _, none⟩) NB373_379.out _).trans (((cell_far (p := ⟨gb379, _, none⟩) NB373_379.out _).trans (((cell_far (p := ⟨gb379, _, none⟩) NB373_379.out _).trans (hHeld.2.2.2.2.1)))))), ((cell_far (p := ⟨gb379, _, none⟩) (by first | exact Nat.ne_of_lt (Nat.lt_of_lt_of_le (by have := World.block_lt_of_cell? _ _ hw374_0; first | rwa [add_block] at this | exact this) GW379.out) | (rw [add_block]; exact Nat.ne_of_lt (Nat.lt_of_lt_of_le (by have := World.block_lt_of_cell? _ _ hw374_0; first | rwa [add_block] at this | exact this) GW379.out)) | (show (Addr.add _ _).block ≠ _; rw [add_block]; exact Nat.ne_of_lt (Nat.lt_of_lt_of_le (by have := World.block_lt_of_cell? _ _ hw374_0; first | rwa [add_block] at this | exact this) GW379.out)) | (dsimp only; exact Nat.ne_of_lt (Nat.lt_of_lt_of_le (by have := World.block_lt_of_cell? _ _ hw374_0; first | rwa [add_block] at this | exact this) GW379.out))) _).trans (((cell_far (p := ⟨gb379, _, none⟩) (by first | exact Nat.ne_of_lt (Nat.lt_of_lt_of_le (by have := World.block_lt_of_cell? _ _ hw374_0; first | rwa [add_block] at this | exact this) GW379.out) | (rw [add_block]; exact Nat.ne_of_lt (Nat.lt_of_lt_of_le (by have := World.block_lt_of_cell? _ _ hw374_0; first | rwa [add_block] at this | exact this) GW379.out)) | (show (Addr.add _ _).block ≠ _; rw [add_block]; exact Nat.ne_of_lt (Nat.lt_of_lt_of_le (by have := World.block_lt_of_cell? _ _ hw374_0; first | rwa [add_block] at this | exact this) GW379.out)) | (dsimp only; exact Nat.ne_of_lt (Nat.lt_of_lt_of_le (by have := World.block_lt_of_cell? _ _ hw374_0; first | rwa [add_block] at this | exact this) GW379.out))) _).trans (((cell_far (p := ⟨gb379, _, none⟩) (by first | exact Nat.ne_of_lt (Nat.lt_of_lt_of_le (by have := World.block_lt_of_cell? _ _ hw374_0; first | rwa [add_block] at this | exact this) GW379.out) | (rw [add_block]; exact Nat.ne_of_lt (Nat.lt_of_lt_of_le (by have := World.block_lt_of_cell? _ _ hw374_0; first | rwa [add_block] at this | exact this) GW379.out)) | (show (Addr.add _ _).block ≠ _; rw [add_block]; exact Nat.ne_of_lt (Nat.lt_of_lt_of_le (by have := World.block_lt_of_cell? _ _ hw374_0; first | rwa [add_block] at this | exact this) GW379.out)) | (dsimp only; exact Nat.ne_of_lt (Nat.lt_of_lt_of_le (by have := World.block_lt_of_cell? _ _ hw374_0; first | rwa [add_block] at this | exact this) GW379.out))) _).trans (hHeld.2.2.2.2.2.1)))))), ((cell_far (p := ⟨gb379, _, none⟩) (by first | exact Nat.ne_of_lt (Nat.lt_of_lt_of_le (by have := World.block_lt_of_cell? _ _ hw374_1; first | rwa [add_block] at this | exact this) GW379.out) | (rw [add_block]; exact Nat.ne_of_lt (Nat.lt_of_lt_of_le (by have := World.block_lt_of_cell? _ _ hw374_1; first | rwa [add_block] at this | exact this) GW379.out)) | (show (Addr.add _ _).block ≠ _; rw [add_block]; exact Nat.ne_of_lt (Nat.lt_of_lt_of_le (by have := World.block_lt_of_cell? _ _ hw374_1; first | rwa [add_block] at this | exact this) GW379.out)) | (dsimp only; exact Nat.ne_of_lt (Nat.lt_of_lt_of_le (by have := World.block_lt_of_cell? _ _ hw374_1; first | rwa [add_block] at this | exact this) GW379.out))) _).trans (((cell_far (p := ⟨gb379, _, none⟩) (by first | exact Nat.ne_of_lt (Nat.lt_of_lt_of_le (by have := World.block_lt_of_cell? _ _ hw374_1; first | rwa [add_block] at this | exact this) GW379.out) | (rw [add_block]; exact Nat.ne_of_lt (Nat.lt_of_lt_of_le (by have := World.block_lt_of_cell? _ _ hw374_1; first | rwa [add_block] at this | exact this) GW379.out)) | (show (Addr.add _ _).block ≠ _; rw [add_block]; exact Nat.ne_of_lt (Nat.lt_of_lt_of_le (by have := World.block_lt_of_cell? _ _ hw374_1; first | rwa [add_block] at this | exact this) GW379.out)) | (dsimp only; exact Nat.ne_of_lt (Nat.lt_of_lt_of_le (by have := World.block_lt_of_cell? _ _ hw374_1; first | rwa [add_block] at this | exact this) GW379.out))) _).trans (((cell_far (p := ⟨gb379, _, none⟩) (by first | exact Nat.ne_of_lt (Nat.lt_of_lt_of_le (by have := World.block_lt_of_cell? _ _ hw374_1; first | rwa [add_block] at this | exact this) GW379.out) | (rw [add_block]; exact Nat.ne_of_lt (Nat.lt_of_lt_of_le (by have := World.block_lt_of_cell? _ _ hw374_1; first | rwa [add_block] at this | exact this) GW379.out)) | (show (Addr.add _ _).block ≠ _; rw [add_block]; exact Nat.ne_of_lt (Nat.lt_of_lt_of_le (by have := World.block_lt_of_cell? _ _ hw374_1; first | rwa [add_block] at this | exact this) GW379.out)) | (dsimp only; exact Nat.ne_of_lt (Nat.lt_of_lt_of_le (by have := World.block_lt_of_cell? _ _ hw374_1; first | rwa [add_block] at this | exact this) GW379.out))) _).trans (hHeld.2.2.2.2.2.2.1)))))), ((cell_far (p := ⟨gb379, _, none⟩) (by first | exact Nat.ne_of_lt (Nat.lt_of_lt_of_le (by have := World.block_lt_of_cell? _ _ hw374_2; first | rwa [add_block] at this | exact this) GW379.out) | (rw [add_block]; exact Nat.ne_of_lt (Nat.lt_of_lt_of_le (by have := World.block_lt_of_cell? _ _ hw374_2; first | rwa [add_block] at this | exact this) GW379.out)) | (show (Addr.add _ _).block ≠ _; rw [add_block]; exact Nat.ne_of_lt (Nat.lt_of_lt_of_le (by have := World.block_lt_of_cell? _ _ hw374_2; first | rwa [add_block] at this | exact this) GW379.out)) | (dsimp only; exact Nat.ne_of_lt (Nat.lt_of_lt_of_le (by have := World.block_lt_of_cell? _ _ hw374_2; first | rwa [add_block] at this | exact this) GW379.out))) _).trans (((cell_far (p := ⟨gb379, _, none⟩) (by first | exact Nat.ne_of_lt (Nat.lt_of_lt_of_le (by have := World.block_lt_of_cell? _ _ hw374_2; first | rwa [add_block] at this | exact this) GW379.out) | (rw [add_block]; exact Nat.ne_of_lt (Nat.lt_of_lt_of_le (by have := World.block_lt_of_cell? _ _ hw374_2; first | rwa [add_block] at this | exact this) GW379.out)) | (show (Addr.add _ _).block ≠ _; rw [add_block]; exact Nat.ne_of_lt (Nat.lt_of_lt_of_le (by have := World.block_lt_of_cell? _ _ hw374_2; first | rwa [add_block] at this | exact this) GW379.out)) | (dsimp only; exact Nat.ne_of_lt (Nat.lt_of_lt_of_le (by have := World.block_lt_of_cell? _ _ hw374_2; first | rwa [add_block] at this | exact this) GW379.out))) _).trans (((cell_far (p := ⟨gb379, _, none⟩) (by first | exact Nat.ne_of_lt (Nat.lt_of_lt_of_le (by have := World.block_lt_of_cell? _ _ hw374_2; first | rwa [add_block] at this | exact this) GW379.out) | (rw [add_block]; exact Nat.ne_of_lt (Nat.lt_of_lt_of_le (by have := World.block_lt_of_cell? _ _ hw374_2; first | rwa [add_block] at this | exact this) GW379.out)) | (show (Addr.add _ _).block ≠ _; rw [add_block]; exact Nat.ne_of_lt (Nat.lt_of_lt_of_le (by have := World.block_lt_of_cell? _ _ hw374_2; first | rwa [add_block] at this | exact this) GW379.out)) | (dsimp only; exact Nat.ne_of_lt (Nat.lt_of_lt_of_le (by have := World.block_lt_of_cell? _ _ hw374_2; first | rwa [add_block] at this | exact this) GW379.out))) _).trans (hHeld.2.2.2.2.2.2.2))))))⟩ (fun hHeld => ?_)
       clear hK K
       refine pure_ (i := 15) (N := some 6) (v := ?_) (a' := ?_) #[true, true, true, true, true, true, true, true, true, true, true, true, true, true, true, true] rfl rfl (any_of HT_.out (by kernel_rfl)) (fun _ _ _ h => h) (Or.inl ⟨by rfl, ?_⟩) ?_ ?_
       rotate_left
       ·intro w'
        go_simp
        with_reducible rfl
       rotate_left
       ·simp only [Act.put, List.setIfInBounds_toArray, List.set_cons_zero, List.set_cons_succ, i64_w, i32_w]
        rfl
       refine done_ (done_of HT_.out (by kernel_rfl)) ?_
       try go_wp2
       go_ret
       exact ⟨by first | rfl | (simp [errW_none, errW_some] <;> rfl) | (simp [*, errW_none, errW_some] <;> rfl), by repeat (first | (with_reducible first | exact HB.out | apply below_alloc | apply pw_below_drewN | apply below_drew1 | refine below_set ?_ GE373.out | refine below_set ?_ GE379.out) | exact HB.out)⟩
     ·rw [if_neg c10] at H
      exact absurd H (by simp)
    ·rw [if_neg c9] at H
     exact absurd H (by simp)
end Go.Proofs.Ytmfenomjhmhogaa.P
end
section
namespace Go.Proofs.Ytmfenomjhmhogaa.P
open Go.RowKit Go.Proofs.YtmfenomjhmhogaaW.PrintWords Go.Proofs.YtmfenomjhmhogaaW.PrintLast Go.Proofs.YtmfenomjhmhogaaW.PrintMore
attribute [local go_sem] max2_int min2_int max_two min_two max_three min_three max_four min_four
set_option linter.unusedVariables false
set_option linter.unusedSimpArgs false
mutual
def quarrylaw19_BoundsAll.j0 : Nat → List (S58) → List (S25) → List Int → Bool → Int → ByteArray → ByteArray → List Int → List Bool → Bool → Option (Bool)
 | 0, _, _, _, _, _, _, _, _, _, _ => none
 | k + 1, x1, x2, x3, x32, x382000, x382001, x382002, x382003, x382004, x382005 => if x32 = true then (some true) else (quarrylaw19_BoundsAll.l0 k x1 x2 x3 ([] : List (S25)) 0 x382000 x382001 x382002 x382003 x382004 x382005)
def quarrylaw19_BoundsAll.l0 : Nat → List (S58) → List (S25) → List Int → List (S25) → Int → Int → ByteArray → ByteArray → List Int → List Bool → Bool → Option (Bool)
 | 0, _, _, _, _, _, _, _, _, _, _, _ => none
 | k + 1, x1, x2, x3, x9, x10, x382000, x382001, x382002, x382003, x382004, x382005 => if x10 < (x382003.length : Int) then (if 0 ≤ x10 then (if (rd x382003 x10) < 0 then (some true) else (if (rd x382003 x10) ≥ (x2.length : Int) then (some true) else (if 0 ≤ (rd x382003 x10) then (if (rd x382003 x10) < (x2.length : Int) then (if x9.length < 4398046511104 then (quarrylaw19_BoundsAll.l0 k x1 x2 x3 (x9 ++ [(⟨(rd_T25 x2 (rd x382003 x10)).f0, (rd_T25 x2 (rd x382003 x10)).f1, (rd_T25 x2 (rd x382003 x10)).f2⟩ : S25)]) (wrap64 (x10 + 1)) x382000 x382001 x382002 x382003 x382004 x382005) else (none)) else (none)) else (none)))) else (none)) else (quarrylaw19_BoundsAll.l1 k x1 x2 x3 x9 0 x382000 x382001 x382002 x382003 x382004 x382005)
def quarrylaw19_BoundsAll.l1 : Nat → List (S58) → List (S25) → List Int → List (S25) → Int → Int → ByteArray → ByteArray → List Int → List Bool → Bool → Option (Bool)
 | 0, _, _, _, _, _, _, _, _, _, _, _ => none
 | k + 1, x1, x2, x3, x9, x11, x382000, x382001, x382002, x382003, x382004, x382005 => if x11 < (x2.length : Int) then (if 0 ≤ x11 then ((quarryref01_Check.f ((rd_T25 x2 x11).f0) ((rd_T25 x2 x11).f1) ((rd_T25 x2 x11).f2)).bind fun t392 => (if t392 = 0 then (quarrylaw19_BoundsAll.l1 k x1 x2 x3 x9 (wrap64 (x11 + 1)) x382000 x382001 x382002 x382003 x382004 x382005) else (some true))) else (none)) else (quarrylaw19_BoundsAll.l2 k x1 x2 x3 x9 0 x382000 x382001 x382002 x382003 x382004 x382005)
def quarrylaw19_BoundsAll.l2 : Nat → List (S58) → List (S25) → List Int → List (S25) → Int → Int → ByteArray → ByteArray → List Int → List Bool → Bool → Option (Bool)
 | 0, _, _, _, _, _, _, _, _, _, _, _ => none
 | k + 1, x1, x2, x3, x9, x12, x382000, x382001, x382002, x382003, x382004, x382005 => if x12 < (x1.length : Int) then (if 0 ≤ x12 then ((quarryref19_Passes.f k x2 ((rd_T58 x1 x12).f0) ((rd_T58 x1 x12).f1) ((rd_T58 x1 x12).f2.f0) ((rd_T58 x1 x12).f2.f1) ((rd_T58 x1 x12).f2.f2)).bind fun t394 => (if t394 = true then (quarrylaw19_BoundsAll.l2 k x1 x2 x3 x9 (wrap64 (x12 + 1)) x382000 x382001 x382002 x382003 x382004 x382005) else (some true))) else (none)) else ((quarrylaw19_its.f k x1).bind fun t395 => ((bounds_Range.f k x382000 x382001 x382002 x382003 x382004 x382005 t395).bind fun bt398 => ((quarryref03_Encode.f k x9 x382004).bind fun bt405 => (if (strOfNums bt405.1).size + (strOfNums x3).size ≤ 9223372036854775807 then (if ((Op.bytesLess (((strOfNums bt405.1) ++ (strOfNums x3)).toList) ((strOfNums bt398.1).toList)) = true) then (none) else (if bt398.2.2 = true then (some true) else (some (Op.bytesLess (((strOfNums bt405.1) ++ (strOfNums x3)).toList) ((strOfNums bt398.2.1).toList))))) else (none)))))
end
def quarrylaw19_BoundsAll.f (k : Nat) (a0_0 : Int) (a0_1 : ByteArray) (a0_2 : ByteArray) (l0_3 : List Int) (l0_4 : List Bool) (a0_5 : Bool) (l1 : List (S58)) (l2 : List (S25)) (l3 : List Int) : Option (Bool) := (quarrylaw19_works.f k).bind fun t382 => (if t382 = true then ((quarrylaw19_right.f k l1).bind fun t383 => (if t383 = true then (quarrylaw19_BoundsAll.j0 k l1 l2 l3 ((l0_4.length : Int) != (l0_3.length : Int)) a0_0 a0_1 a0_2 l0_3 l0_4 a0_5) else (quarrylaw19_BoundsAll.j0 k l1 l2 l3 true a0_0 a0_1 a0_2 l0_3 l0_4 a0_5))) else (none))
def quarrylaw19_BoundsAll.T22 : Bool × List (List Nat × List Nat) := (true, [([], []), ([], []), ([1], [1]), ([0, 2, 2], [0, 2]), ([3], [3]), ([4], [4]), ([4], [4]), ([4], [4]), ([5, 3, 0, 1, 2, 3, 4, 5], [5]), ([6, 8, 0, 1, 2, 3, 4, 5, 6, 8], [6]), ([7, 9, 0, 1, 2, 3, 4, 5, 6, 7, 8, 9], [7])])
def quarrylaw19_BoundsAll.B22 : List Nat := [0, 0, 2, 7, 15, 31, 31, 31, 63, 383, 1023]
theorem quarrylaw19_BoundsAll.tab22 : rtab .any (opsOf Try.f5 22) = quarrylaw19_BoundsAll.T22 := by kernel_rfl
theorem quarrylaw19_BoundsAll.bits22 : waitsOk quarrylaw19_BoundsAll.T22.2 quarrylaw19_BoundsAll.B22 = true := by kernel_rfl
set_option maxHeartbeats 8000000 in
set_option maxRecDepth 100000 in
theorem quarrylaw19_BoundsAll.calls (k : Nat) (a0_0 : Int) (a0_1 : ByteArray) (a0_2 : ByteArray) (A0_3 : Option Addr) (c0_3 : Nat) (l0_3 : List Int) (A0_4 : Option Addr) (c0_4 : Nat) (l0_4 : List Bool) (a0_5 : Bool) (A1 : Option Addr) (c1 : Nat) (l1 : List (S58)) (A2 : Option Addr) (c2 : Nat) (l2 : List (S25)) (A3 : Option Addr) (c3 : Nat) (l3 : List Int) (r : Bool) (w : World) (hr0_3 : Kd.C (Kd.int .i64) w A0_3 l0_3.length l0_3) (hc0_3 : l0_3.length ≤ c0_3) (hr0_4 : Kd.C Kd.bool w A0_4 l0_4.length l0_4) (hc0_4 : l0_4.length ≤ c0_4) (hr1 : Kd.C k58 w A1 l1.length l1) (hc1 : l1.length ≤ c1) (hr2 : Kd.C k25 w A2 l2.length l2) (hc2 : l2.length ≤ c2) (hr3 : Kd.C (Kd.int .u8) w A3 l3.length l3) (hc3 : l3.length ≤ c3) (h : quarrylaw19_BoundsAll.f k a0_0 a0_1 a0_2 l0_3 l0_4 a0_5 l1 l2 l3 = some r) :
  Calls Try.prog 5 #[.agg #[.int .i64 a0_0, .string a0_1, .string a0_2, .slice A0_3 l0_3.length c0_3, .slice A0_4 l0_4.length c0_4, .bool a0_5], .slice A1 l1.length c1, .slice A2 l2.length c2, .slice A3 l3.length c3] w fun e w' => e = .returned (.bool r) ∧ Below w.heap.size w w' := by
 have hu41 := Try.underlying41
 have hu25 := Try.underlying25
 have hu58 := Try.underlying58
 have HR0_3 := Aside0.mk hr0_3
 have HC0_3 := Aside0.mk hc0_3
 clear hr0_3 hc0_3
 have HR0_4 := Aside0.mk hr0_4
 have HC0_4 := Aside0.mk hc0_4
 clear hr0_4 hc0_4
 have HR1 := Aside0.mk hr1
 have HC1 := Aside0.mk hc1
 clear hr1 hc1
 have HR2 := Aside0.mk hr2
 have HC2 := Aside0.mk hc2
 clear hr2 hc2
 have HR3 := Aside0.mk hr3
 have HC3 := Aside0.mk hc3
 clear hr3 hc3
 have HB := Aside0.mk (Below.refl w.heap.size w)
 have H : ((quarrylaw19_works.f k).bind fun t382 => (if t382 = true then ((quarrylaw19_right.f k l1).bind fun t383 => (if t383 = true then (quarrylaw19_BoundsAll.j0 k l1 l2 l3 ((l0_4.length : Int) != (l0_3.length : Int)) a0_0 a0_1 a0_2 l0_3 l0_4 a0_5) else (quarrylaw19_BoundsAll.j0 k l1 l2 l3 true a0_0 a0_1 a0_2 l0_3 l0_4 a0_5))) else (none))) = some r := h
 clear h
 replace H := Option.bind_eq_some_iff.mp H
 obtain ⟨t382, A50, H⟩ := H
 replace H : (if t382 = true then ((quarrylaw19_right.f k l1).bind fun t383 => (if t383 = true then (quarrylaw19_BoundsAll.j0 k l1 l2 l3 ((l0_4.length : Int) != (l0_3.length : Int)) a0_0 a0_1 a0_2 l0_3 l0_4 a0_5) else (quarrylaw19_BoundsAll.j0 k l1 l2 l3 true a0_0 a0_1 a0_2 l0_3 l0_4 a0_5))) else (none)) = some r := H
 have A5 := Aside0.mk A50
 clear A50
 by_cases c6 : t382 = true
 ·subst c6
  have H1 : ((quarrylaw19_right.f k l1).bind fun t383 => (if t383 = true then (quarrylaw19_BoundsAll.j0 k l1 l2 l3 ((l0_4.length : Int) != (l0_3.length : Int)) a0_0 a0_1 a0_2 l0_3 l0_4 a0_5) else (quarrylaw19_BoundsAll.j0 k l1 l2 l3 true a0_0 a0_1 a0_2 l0_3 l0_4 a0_5))) = some r := by rw [if_pos rfl] at H; exact H
  clear H
  have H := H1
  clear H1
  have HC7 := Aside0.mk H
  clear H
  go_enter Try.func5, Try.ntmps5
  go_upto_region 3 with (first | ((with_reducible refine gate_dst (N := 4) rfl ?_); (try (refine gate_guard (by rfl) ?_; dsimp only)); refine box_event ?hg (N := 4) ?hd (cs := #[.int .i64 a0_0, .string a0_1, .string a0_2, .slice A0_3 l0_3.length c0_3, .slice A0_4 l0_4.length c0_4, .bool a0_5]) (t := 41) ?hr ?_; (case hd => rfl); (case hg => rfl); (case hr => first | (go_simp; done) | (go_simp; rfl)); intro gb381 hg w8 hbox hb; have n0_ := Aside0.mk (below_step (by repeat (first | (with_reducible first | exact HB.out | apply below_alloc | apply pw_below_drewN | apply below_drew1) | exact HB.out)) hb); have n1_ := Aside0.mk (hbox); have n2_ := Aside0.mk ((by rw [hg]; exact (below_size (by repeat (first | (with_reducible first | exact HB.out | apply below_alloc | apply pw_below_drewN | apply below_drew1) | exact HB.out))) : w.heap.size ≤ gb381)); have n3_ := Aside0.mk ((by rw [hg]; exact (below_size (by repeat (first | (with_reducible first | exact HB.out | apply below_alloc | apply pw_below_drewN | apply below_drew1) | exact HB.out))) : w.heap.size ≤ gb381)); clear HB; have HB := n0_; have BK381 := n1_; have GW381 := n2_; have GE381 := n3_; clear n0_ n1_ n2_ n3_; clear hb hbox hg) | ((with_reducible refine gate_callee (f := 20) rfl ?_); refine goesL_ (some 19) rfl rfl Try.func20 (by kernel_rfl) rfl #[] rfl (by (try simp only [List.map_toArray, List.map_cons, List.map_nil]); first | done | rfl | (simp only [List.length_drop, List.length_take]; rfl)) ?_; (with_reducible refine (quarrylaw19_works.calls k  true _ A5.out).mono ?_); rintro e w9 ⟨rfl, hb⟩; refine ⟨_, rfl, ?_⟩; have n0_ := Aside0.mk (blk_below (g := gb381) (o := .cells #[.int .i64 a0_0, .string a0_1, .string a0_2, .slice A0_3 l0_3.length c0_3, .slice A0_4 l0_4.length c0_4, .bool a0_5] 41 (0, 0)) (bk_ BK381) hb); have n1_ := Aside0.mk (below_step (by repeat (first | (with_reducible first | exact HB.out | apply below_alloc | apply pw_below_drewN | apply below_drew1 | refine below_set ?_ GE381.out) | exact HB.out)) hb); clear BK381; clear HB; have BK381 := n0_; have HB := n1_; clear n0_ n1_; (try clear hb); (try clear hb2); (try clear hk); (try clear hi)))
  (try simp only [Act.put, List.setIfInBounds_toArray, List.set_cons_zero, List.set_cons_succ])
  go_cut [32] (fun v32 wc => ∃ (kq : Nat) (x32_6 : Bool), v32 = .bool x32_6 ∧ Aside0 (quarrylaw19_BoundsAll.j0 kq l1 l2 l3 x32_6 a0_0 a0_1 a0_2 l0_3 l0_4 a0_5 = some r) ∧ Aside0 (kq ≤ k) ∧ Aside0 (wc.heap[gb381]? = some (.cells #[.int .i64 a0_0, .string a0_1, .string a0_2, (.slice A0_3 l0_3.length c0_3), (.slice A0_4 l0_4.length c0_4), .bool a0_5] 41 (0, 0))) ∧ Aside0 (Below w.heap.size w wc))
  case first =>
   have H := HC7.out
   clear HC7
   replace H := Option.bind_eq_some_iff.mp H
   obtain ⟨t383, A100, H⟩ := H
   replace H : (if t383 = true then (quarrylaw19_BoundsAll.j0 k l1 l2 l3 ((l0_4.length : Int) != (l0_3.length : Int)) a0_0 a0_1 a0_2 l0_3 l0_4 a0_5) else (quarrylaw19_BoundsAll.j0 k l1 l2 l3 true a0_0 a0_1 a0_2 l0_3 l0_4 a0_5)) = some r := H
   have A10 := Aside0.mk A100
   clear A100
   by_cases c11 : t383 = true
   ·subst c11
    have H1 : (quarrylaw19_BoundsAll.j0 k l1 l2 l3 ((l0_4.length : Int) != (l0_3.length : Int)) a0_0 a0_1 a0_2 l0_3 l0_4 a0_5) = some r := by rw [if_pos rfl] at H; exact H
    clear H
    have H := H1
    clear H1
    have H' := Aside0.mk H
    clear H
    go_wp2_with (first | ((with_reducible refine gate_callee (f := 14) rfl ?_); refine goesL_ (some 22) rfl rfl Try.func14 (by kernel_rfl) rfl #[.slice A1 l1.length c1] rfl (by (try simp only [List.map_toArray, List.map_cons, List.map_nil]); first | done | rfl | (simp only [List.length_drop, List.length_take]; rfl)) ?_; (with_reducible refine (quarrylaw19_right.calls k _ _ l1 true _ ?side1 ?side2 A10.out).mono ?_); (case side1 => repeat (first | exact (Kd.C_below HR1.out HB.out) | (with_reducible refine Kd.C_alloc ?_ _) | (with_reducible refine Kd.C_drewN ?_ _) | (with_reducible refine Kd.C_drew ?_))); (case side2 => exact HC1.out); rintro e w12 ⟨rfl, hb⟩; refine ⟨_, rfl, ?_⟩; have n0_ := Aside0.mk (blk_below (g := gb381) (o := .cells #[.int .i64 a0_0, .string a0_1, .string a0_2, .slice A0_3 l0_3.length c0_3, .slice A0_4 l0_4.length c0_4, .bool a0_5] 41 (0, 0)) (bk_ BK381) hb); have n1_ := Aside0.mk (below_step (by repeat (first | (with_reducible first | exact HB.out | apply below_alloc | apply pw_below_drewN | apply below_drew1 | refine below_set ?_ GE381.out) | exact HB.out)) hb); clear BK381; clear HB; have BK381 := n0_; have HB := n1_; clear n0_ n1_; (try clear hb); (try clear hb2); (try clear hk); (try clear hi); have hcz13_0 : w12.cell? ⟨gb381, 0, none⟩ = some (.int .i64 a0_0) := (blk_cell BK381.out 0).trans rfl; have hcz13_1 : w12.cell? ⟨gb381, 1, none⟩ = some (.string a0_1) := (blk_cell BK381.out 1).trans rfl; have hcz13_2 : w12.cell? ⟨gb381, 2, none⟩ = some (.string a0_2) := (blk_cell BK381.out 2).trans rfl; have hcz13_3 : w12.cell? ⟨gb381, 3, none⟩ = some (.slice A0_3 l0_3.length c0_3) := (blk_cell BK381.out 3).trans rfl; have hcz13_4 : w12.cell? ⟨gb381, 4, none⟩ = some (.slice A0_4 l0_4.length c0_4) := (blk_cell BK381.out 4).trans rfl; have hcz13_5 : w12.cell? ⟨gb381, 5, none⟩ = some (.bool a0_5) := (blk_cell BK381.out 5).trans rfl; have hfz13_0 := blk_frozen BK381.out 0; have hfz13_1 := blk_frozen BK381.out 1; have hfz13_2 := blk_frozen BK381.out 2; have hfz13_3 := blk_frozen BK381.out 3; have hfz13_4 := blk_frozen BK381.out 4; have hfz13_5 := blk_frozen BK381.out 5))
    go_meet
    case rel => exact ⟨_, (((l0_4.length : Int) != (l0_3.length : Int))), (by first | rfl | (simp; done) | (simp [*]; done)), H', ⟨by first | omega | exact Nat.le_refl _⟩, ⟨by (with_reducible repeat (first | refine blk_drewN ?_ _ | refine blk_drew ?_ | refine blk_alloc ?_ _)); exact BK381.out⟩, ⟨by repeat (first | (with_reducible first | exact HB.out | apply below_alloc | apply pw_below_drewN | apply below_drew1 | refine below_set ?_ GE381.out) | exact HB.out)⟩⟩
   ·replace c11 := Bool.eq_false_iff.mpr c11
    subst c11
    have H1 : (quarrylaw19_BoundsAll.j0 k l1 l2 l3 true a0_0 a0_1 a0_2 l0_3 l0_4 a0_5) = some r := by rw [if_neg (show ¬ (false = true) by decide)] at H; exact H
    clear H
    have H := H1
    clear H1
    have H' := Aside0.mk H
    clear H
    go_wp2_with (first | ((with_reducible refine gate_callee (f := 14) rfl ?_); refine goesL_ (some 22) rfl rfl Try.func14 (by kernel_rfl) rfl #[.slice A1 l1.length c1] rfl (by (try simp only [List.map_toArray, List.map_cons, List.map_nil]); first | done | rfl | (simp only [List.length_drop, List.length_take]; rfl)) ?_; (with_reducible refine (quarrylaw19_right.calls k _ _ l1 false _ ?side1 ?side2 A10.out).mono ?_); (case side1 => repeat (first | exact (Kd.C_below HR1.out HB.out) | (with_reducible refine Kd.C_alloc ?_ _) | (with_reducible refine Kd.C_drewN ?_ _) | (with_reducible refine Kd.C_drew ?_))); (case side2 => exact HC1.out); rintro e w14 ⟨rfl, hb⟩; refine ⟨_, rfl, ?_⟩; have n0_ := Aside0.mk (blk_below (g := gb381) (o := .cells #[.int .i64 a0_0, .string a0_1, .string a0_2, .slice A0_3 l0_3.length c0_3, .slice A0_4 l0_4.length c0_4, .bool a0_5] 41 (0, 0)) (bk_ BK381) hb); have n1_ := Aside0.mk (below_step (by repeat (first | (with_reducible first | exact HB.out | apply below_alloc | apply pw_below_drewN | apply below_drew1 | refine below_set ?_ GE381.out) | exact HB.out)) hb); clear BK381; clear HB; have BK381 := n0_; have HB := n1_; clear n0_ n1_; (try clear hb); (try clear hb2); (try clear hk); (try clear hi)))
    go_meet
    case rel => exact ⟨_, (true), (by first | rfl | (simp; done) | (simp [*]; done)), H', ⟨by first | omega | exact Nat.le_refl _⟩, ⟨by (with_reducible repeat (first | refine blk_drewN ?_ _ | refine blk_drew ?_ | refine blk_alloc ?_ _)); exact BK381.out⟩, ⟨by repeat (first | (with_reducible first | exact HB.out | apply below_alloc | apply pw_below_drewN | apply below_drew1 | refine below_set ?_ GE381.out) | exact HB.out)⟩⟩
  case rest =>
   clear HC7
   try clear c1
   try clear c2
   try clear p2
   try clear c3
   try clear c5
   try clear c6
   try clear c11
   try clear c14
   try clear hcz13_0
   try clear hcz13_1
   try clear hcz13_2
   try clear hcz13_3
   try clear hcz13_4
   try clear hcz13_5
   try clear hfz13_0
   try clear hfz13_1
   try clear hfz13_2
   try clear hfz13_3
   try clear hfz13_4
   try clear hfz13_5
   obtain ⟨kq, x32_6, rfl, HA, HJ6, BK381, HB⟩ := hcut
   cases kq with
   | zero => exact absurd HA.out (by simp [quarrylaw19_BoundsAll.j0])
   | succ kj6 =>
    have H := HA.out
    clear HA
    simp only [quarrylaw19_BoundsAll.j0] at H
    by_cases c15 : x32_6 = true
    ·subst c15
     have H1 : (some true) = some r := by rw [if_pos rfl] at H; exact H
     clear H
     have H := H1
     clear H1
     obtain rfl := Option.some.inj H
     go_wp2
     go_ret
     exact ⟨by first | rfl | (simp [errW_none, errW_some] <;> rfl) | (simp [*, errW_none, errW_some] <;> rfl), by repeat (first | (with_reducible first | exact HB.out | apply below_alloc | apply pw_below_drewN | apply below_drew1 | refine below_set ?_ GE381.out) | exact HB.out)⟩
    ·replace c15 := Bool.eq_false_iff.mpr c15
     subst c15
     have H1 : (quarrylaw19_BoundsAll.l0 kj6 l1 l2 l3 ([] : List (S25)) 0 a0_0 a0_1 a0_2 l0_3 l0_4 a0_5) = some r := by rw [if_neg (show ¬ (false = true) by decide)] at H; exact H
     clear H
     have H := H1
     clear H1
     have H' := Aside0.mk H
     clear H
     go_wp2
     go_loopg [9, 10] kj6 (fun kq v9 v10 w' => ∃ (x9_2 : List (S25)) (x10_2 : Int), v10 = .int .i64 x10_2 ∧ Aside0 (quarrylaw19_BoundsAll.l0 kq l1 l2 l3 x9_2 x10_2 a0_0 a0_1 a0_2 l0_3 l0_4 a0_5 = some r) ∧ Aside0 (kq ≤ kj6) ∧ Aside0 (Kd.R k25 25 w' w.heap.size (fun _ => True) v9 x9_2) ∧ Aside0 (w'.heap[gb381]? = some (.cells #[.int .i64 a0_0, .string a0_1, .string a0_2, (.slice A0_3 l0_3.length c0_3), (.slice A0_4 l0_4.length c0_4), .bool a0_5] 41 (0, 0))) ∧ Aside0 (Below w.heap.size w w'))
     case atStart => exact ⟨(([] : List (S25))), (0), (by first | rfl | (simp; done) | (simp [*]; done)), H', ⟨Nat.le_refl _⟩, ⟨by first | exact Kd.R_nil _ _ _ _ _ | exact Kd.N_nil _ _ _ _ _ | exact Kd.V_nil _ _ _ _ _ | exact Kd.Q_nil _ _ _ _ _ | exact Kd.S_nil _ _ _ _ _⟩, ⟨by (with_reducible repeat (first | refine blk_drewN ?_ _ | refine blk_drew ?_ | refine blk_alloc ?_ _)); exact BK381.out⟩, ⟨by repeat (first | (with_reducible first | exact HB.out | apply below_alloc | apply pw_below_drewN | apply below_drew1 | refine below_set ?_ GE381.out) | exact HB.out)⟩⟩
     case round =>
      clear H'
      try clear c1
      try clear c2
      try clear p2
      try clear c3
      try clear c5
      try clear c6
      try clear c11
      try clear c14
      try clear c15
      try clear hcz13_0
      try clear hcz13_1
      try clear hcz13_2
      try clear hcz13_3
      try clear hcz13_4
      try clear hcz13_5
      try clear hfz13_0
      try clear hfz13_1
      try clear hfz13_2
      try clear hfz13_3
      try clear hfz13_4
      try clear hfz13_5
      try clear p2
      obtain ⟨x9_2, x10_2, rfl, HA, HK2, HO_9, BK381, HB⟩ := hrel
      cases gk with
      | zero => exact absurd HA.out (by simp [quarrylaw19_BoundsAll.l0])
      | succ k2 =>
       have H := HA.out
       clear HA
       simp only [quarrylaw19_BoundsAll.l0] at H
       by_cases c16 : x10_2 < (l0_3.length : Int)
       ·rw [if_pos c16] at H
        have c16b0 : decide (x10_2 < (l0_3.length : Int)) = true := decide_eq_true c16
        clear c16
        by_cases c17 : 0 ≤ x10_2
        ·rw [if_pos c17] at H
         have c17b0 : decide (0 ≤ x10_2) = true := decide_eq_true c17
         clear c17
         by_cases c18 : (rd l0_3 x10_2) < 0
         ·rw [if_pos c18] at H
          have c18b0 : decide ((rd l0_3 x10_2) < 0) = true := decide_eq_true c18
          clear c18
          obtain rfl := Option.some.inj H
          have hcz19_0 : wr.cell? ⟨gb381, 0, none⟩ = some (.int .i64 a0_0) := (blk_cell BK381.out 0).trans rfl
          have hcz19_1 : wr.cell? ⟨gb381, 1, none⟩ = some (.string a0_1) := (blk_cell BK381.out 1).trans rfl
          have hcz19_2 : wr.cell? ⟨gb381, 2, none⟩ = some (.string a0_2) := (blk_cell BK381.out 2).trans rfl
          have hcz19_3 : wr.cell? ⟨gb381, 3, none⟩ = some (.slice A0_3 l0_3.length c0_3) := (blk_cell BK381.out 3).trans rfl
          have hcz19_4 : wr.cell? ⟨gb381, 4, none⟩ = some (.slice A0_4 l0_4.length c0_4) := (blk_cell BK381.out 4).trans rfl
          have hcz19_5 : wr.cell? ⟨gb381, 5, none⟩ = some (.bool a0_5) := (blk_cell BK381.out 5).trans rfl
          have hfz19_0 := blk_frozen BK381.out 0
          have hfz19_1 := blk_frozen BK381.out 1
          have hfz19_2 := blk_frozen BK381.out 2
          have hfz19_3 := blk_frozen BK381.out 3
          have hfz19_4 := blk_frozen BK381.out 4
          have hfz19_5 := blk_frozen BK381.out 5
          have p384 : 0 ≤ (x10_2 : Int) := of_decide_eq_true (by first | (with_reducible assumption) | assumption)
          have q384 : x10_2 < (l0_3.length : Int) := of_decide_eq_true (by first | (with_reducible assumption) | assumption)
          obtain ⟨ad384, e384, hx384_0⟩ := Kd.at_int HR0_3.out x10_2 p384 q384
          cases e384
          replace hx384_0 := (HB.out.cell (World.block_lt_of_cell? w _ hx384_0)).trans hx384_0
          replace p384 := eq_true p384
          replace q384 := eq_true q384
          go_wp2
          go_ret
          exact ⟨by first | rfl | (simp [errW_none, errW_some] <;> rfl) | (simp [*, errW_none, errW_some] <;> rfl), by repeat (first | (with_reducible first | exact HB.out | apply below_alloc | apply pw_below_drewN | apply below_drew1 | refine below_set ?_ GE381.out) | exact HB.out)⟩
         ·rw [if_neg c18] at H
          have c18b0 : decide ((rd l0_3 x10_2) < 0) = false := decide_eq_false c18
          clear c18
          by_cases c20 : (rd l0_3 x10_2) ≥ (l2.length : Int)
          ·rw [if_pos c20] at H
           have c20b0 : decide ((l2.length : Int) ≤ (rd l0_3 x10_2)) = true := decide_eq_true c20
           clear c20
           obtain rfl := Option.some.inj H
           have hcz21_0 : wr.cell? ⟨gb381, 0, none⟩ = some (.int .i64 a0_0) := (blk_cell BK381.out 0).trans rfl
           have hcz21_1 : wr.cell? ⟨gb381, 1, none⟩ = some (.string a0_1) := (blk_cell BK381.out 1).trans rfl
           have hcz21_2 : wr.cell? ⟨gb381, 2, none⟩ = some (.string a0_2) := (blk_cell BK381.out 2).trans rfl
           have hcz21_3 : wr.cell? ⟨gb381, 3, none⟩ = some (.slice A0_3 l0_3.length c0_3) := (blk_cell BK381.out 3).trans rfl
           have hcz21_4 : wr.cell? ⟨gb381, 4, none⟩ = some (.slice A0_4 l0_4.length c0_4) := (blk_cell BK381.out 4).trans rfl
           have hcz21_5 : wr.cell? ⟨gb381, 5, none⟩ = some (.bool a0_5) := (blk_cell BK381.out 5).trans rfl
           have hfz21_0 := blk_frozen BK381.out 0
           have hfz21_1 := blk_frozen BK381.out 1
           have hfz21_2 := blk_frozen BK381.out 2
           have hfz21_3 := blk_frozen BK381.out 3
           have hfz21_4 := blk_frozen BK381.out 4
           have hfz21_5 := blk_frozen BK381.out 5
           have p384 : 0 ≤ (x10_2 : Int) := of_decide_eq_true (by first | (with_reducible assumption) | assumption)
           have q384 : x10_2 < (l0_3.length : Int) := of_decide_eq_true (by first | (with_reducible assumption) | assumption)
           obtain ⟨ad384, e384, hx384_0⟩ := Kd.at_int HR0_3.out x10_2 p384 q384
           cases e384
           replace hx384_0 := (HB.out.cell (World.block_lt_of_cell? w _ hx384_0)).trans hx384_0
           replace p384 := eq_true p384
           replace q384 := eq_true q384
           have p385 : 0 ≤ (x10_2 : Int) := of_decide_eq_true (by first | (with_reducible assumption) | assumption)
           have q385 : x10_2 < (l0_3.length : Int) := of_decide_eq_true (by first | (with_reducible assumption) | assumption)
           obtain ⟨ad385, e385, hx385_0⟩ := Kd.at_int HR0_3.out x10_2 p385 q385
           obtain rfl : ad384 = ad385 := (by injection e385)
           replace hx385_0 := (HB.out.cell (World.block_lt_of_cell? w _ hx385_0)).trans hx385_0
           replace p385 := eq_true p385
           replace q385 := eq_true q385
           go_wp2
           go_ret
           exact ⟨by first | rfl | (simp [errW_none, errW_some] <;> rfl) | (simp [*, errW_none, errW_some] <;> rfl), by repeat (first | (with_reducible first | exact HB.out | apply below_alloc | apply pw_below_drewN | apply below_drew1 | refine below_set ?_ GE381.out) | exact HB.out)⟩
          ·rw [if_neg c20] at H
           have c20b0 : decide ((l2.length : Int) ≤ (rd l0_3 x10_2)) = false := decide_eq_false c20
           clear c20
           by_cases c22 : 0 ≤ (rd l0_3 x10_2)
           ·rw [if_pos c22] at H
            have c22b0 : decide (0 ≤ (rd l0_3 x10_2)) = true := decide_eq_true c22
            clear c22
            by_cases c23 : (rd l0_3 x10_2) < (l2.length : Int)
            ·rw [if_pos c23] at H
             have c23b0 : decide ((rd l0_3 x10_2) < (l2.length : Int)) = true := decide_eq_true c23
             clear c23
             by_cases c24 : x9_2.length < 4398046511104
             ·rw [if_pos c24] at H
              have LMc24 := Aside0.mk c24
              clear c24
              obtain ⟨y388, hy388⟩ : ∃ y_ : List (S25), y_ = (x9_2 ++ [(⟨(rd_T25 l2 (rd l0_3 x10_2)).f0, (rd_T25 l2 (rd l0_3 x10_2)).f1, (rd_T25 l2 (rd l0_3 x10_2)).f2⟩ : S25)]) := ⟨_, rfl⟩
              replace H : (quarrylaw19_BoundsAll.l0 k2 l1 l2 l3 y388 (wrap64 (x10_2 + 1)) a0_0 a0_1 a0_2 l0_3 l0_4 a0_5) = some r := by first | (rw [hy388]; with_reducible exact H) | (have H2_ := (Option.bind_some _ _).symm.trans H; rw [hy388]; with_reducible exact H2_) | (have H2_ := (Option.bind_some _ _).symm.trans H; with_reducible exact H2_) | with_reducible exact H | (rw [hy388]; exact H) | exact H
              have Ny388 := Aside0.mk hy388
              clear hy388
              have H' := Aside0.mk H
              clear H
              have hcz25_0 : wr.cell? ⟨gb381, 0, none⟩ = some (.int .i64 a0_0) := (blk_cell BK381.out 0).trans rfl
              have hcz25_1 : wr.cell? ⟨gb381, 1, none⟩ = some (.string a0_1) := (blk_cell BK381.out 1).trans rfl
              have hcz25_2 : wr.cell? ⟨gb381, 2, none⟩ = some (.string a0_2) := (blk_cell BK381.out 2).trans rfl
              have hcz25_3 : wr.cell? ⟨gb381, 3, none⟩ = some (.slice A0_3 l0_3.length c0_3) := (blk_cell BK381.out 3).trans rfl
              have hcz25_4 : wr.cell? ⟨gb381, 4, none⟩ = some (.slice A0_4 l0_4.length c0_4) := (blk_cell BK381.out 4).trans rfl
              have hcz25_5 : wr.cell? ⟨gb381, 5, none⟩ = some (.bool a0_5) := (blk_cell BK381.out 5).trans rfl
              have hfz25_0 := blk_frozen BK381.out 0
              have hfz25_1 := blk_frozen BK381.out 1
              have hfz25_2 := blk_frozen BK381.out 2
              have hfz25_3 := blk_frozen BK381.out 3
              have hfz25_4 := blk_frozen BK381.out 4
              have hfz25_5 := blk_frozen BK381.out 5
              have p384 : 0 ≤ (x10_2 : Int) := of_decide_eq_true (by first | (with_reducible assumption) | assumption)
              have q384 : x10_2 < (l0_3.length : Int) := of_decide_eq_true (by first | (with_reducible assumption) | assumption)
              obtain ⟨ad384, e384, hx384_0⟩ := Kd.at_int HR0_3.out x10_2 p384 q384
              cases e384
              replace hx384_0 := (HB.out.cell (World.block_lt_of_cell? w _ hx384_0)).trans hx384_0
              replace p384 := eq_true p384
              replace q384 := eq_true q384
              have p385 : 0 ≤ (x10_2 : Int) := of_decide_eq_true (by first | (with_reducible assumption) | assumption)
              have q385 : x10_2 < (l0_3.length : Int) := of_decide_eq_true (by first | (with_reducible assumption) | assumption)
              obtain ⟨ad385, e385, hx385_0⟩ := Kd.at_int HR0_3.out x10_2 p385 q385
              obtain rfl : ad384 = ad385 := (by injection e385)
              replace hx385_0 := (HB.out.cell (World.block_lt_of_cell? w _ hx385_0)).trans hx385_0
              replace p385 := eq_true p385
              replace q385 := eq_true q385
              have p386 : 0 ≤ (x10_2 : Int) := of_decide_eq_true (by first | (with_reducible assumption) | assumption)
              have q386 : x10_2 < (l0_3.length : Int) := of_decide_eq_true (by first | (with_reducible assumption) | assumption)
              obtain ⟨ad386, e386, hx386_0⟩ := Kd.at_int HR0_3.out x10_2 p386 q386
              obtain rfl : ad384 = ad386 := (by injection e386)
              replace hx386_0 := (HB.out.cell (World.block_lt_of_cell? w _ hx386_0)).trans hx386_0
              replace p386 := eq_true p386
              replace q386 := eq_true q386
              have p387 : 0 ≤ ((rd l0_3 x10_2) : Int) := of_decide_eq_true (by first | (with_reducible assumption) | assumption)
              have q387 : (rd l0_3 x10_2) < (l2.length : Int) := of_decide_eq_true (by first | (with_reducible assumption) | assumption)
              obtain ⟨ad387, e387, hx387_0, hx387_1, hx387_2⟩ := at_T25 HR2.out (rd l0_3 x10_2) p387 q387
              cases e387
              replace hx387_0 := (HB.out.cell (World.block_lt_of_cell? w _ hx387_0)).trans hx387_0
              replace hx387_1 := (HB.out.cell (World.block_lt_of_cell? w _ hx387_1)).trans hx387_1
              replace hx387_2 := (HB.out.cell (World.block_lt_of_cell? w _ hx387_2)).trans hx387_2
              replace p387 := eq_true p387
              replace q387 := eq_true q387
              go_wp2_with (first | ((with_reducible refine gate_builtin (b := .append) (xs := #[.tmp 56, .tmp 65]) rfl ?_); (try (refine gate_guard (by rfl) ?_; dsimp only)); at_builtin; refine Kd.R_append k25 (w0 := w) w.heap.size rfl (.tmp 56) (.tmp 65) 52 25 (.agg #[(.int .i64 0), (.int .i64 0), (.string ⟨#[]⟩)]) 32 rfl Try.underlying52 info25 rfl (by decide) (by omega) u9 x9_2 (⟨(rd_T25 l2 (rd l0_3 x10_2)).f0, (rd_T25 l2 (rd l0_3 x10_2)).f1, (rd_T25 l2 (rd l0_3 x10_2)).f2⟩ : S25) [.int .i64 ((rd_T25 l2 (rd l0_3 x10_2)).f0), .int .i64 ((rd_T25 l2 (rd l0_3 x10_2)).f1), .string ((rd_T25 l2 (rd l0_3 x10_2)).f2)] (fun _ => True) (fun _ => False) rfl rfl ?aP (fun _ hk => hk.elim) ?aF ?aO ?aB ?aS ?aL ?_; (case aP => exact k25_mkM _ _ _ (⟨(rd_T25 l2 (rd l0_3 x10_2)).f0, (rd_T25 l2 (rd l0_3 x10_2)).f1, (rd_T25 l2 (rd l0_3 x10_2)).f2⟩ : S25)); (case aB => exact (by repeat (first | (with_reducible first | exact HB.out | apply below_alloc | apply pw_below_drewN | apply below_drew1 | refine below_set ?_ GE381.out) | exact HB.out))); (case aF => exact (fun _ _ => trivial)); (case aO => exact (by (with_reducible repeat (first | apply Kd.R_alloc | apply Kd.R_drewN | apply Kd.R_drew)); exact HO_9.out)); (case aS => exact (below_size (by repeat (first | (with_reducible first | exact HB.out | apply below_alloc | apply pw_below_drewN | apply below_drew1 | refine below_set ?_ GE381.out) | exact HB.out)))); (case aL => have := LMc24.out; omega); intro v389 w26 ho hb hg hat; rw [← Ny388.out] at ho; have n0_ := Aside0.mk (blk_grown (g := gb381) (o := .cells #[.int .i64 a0_0, .string a0_1, .string a0_2, .slice (some ad384) l0_3.length c0_3, .slice A0_4 l0_4.length c0_4, .bool a0_5] 41 (0, 0)) (bk_ BK381) hg (Kd.R_ne HO_9.out BK381.out (by decide))); have n1_ := Aside0.mk (hb); have n2_ := Aside0.mk (ho); clear BK381; clear HB; clear HO_9; have BK381 := n0_; have HB := n1_; have HO390 := n2_; clear n0_ n1_ n2_; clear ho hb hg hat))
              go_roundg k2
              case measure => have := HJ6.out; have := HK2.out; omega
              case rel => exact ⟨(y388), (wrap64 (x10_2 + 1)), (by first | rfl | (simp; done) | (simp [*]; done)), H', ⟨by have := HJ6.out; have := HK2.out; omega⟩, ⟨by (with_reducible repeat (first | apply Kd.R_alloc | apply Kd.R_drewN | apply Kd.R_drew)); exact HO390.out⟩, ⟨by (with_reducible repeat (first | refine blk_drewN ?_ _ | refine blk_drew ?_ | refine blk_alloc ?_ _)); exact BK381.out⟩, ⟨by repeat (first | (with_reducible first | exact HB.out | apply below_alloc | apply pw_below_drewN | apply below_drew1 | refine below_set ?_ GE381.out) | exact HB.out)⟩⟩
             ·rw [if_neg c24] at H
              exact absurd H (by simp)
            ·rw [if_neg c23] at H
             exact absurd H (by simp)
           ·rw [if_neg c22] at H
            exact absurd H (by simp)
        ·rw [if_neg c17] at H
         exact absurd H (by simp)
       ·rw [if_neg c16] at H
        have c16b0 : decide (x10_2 < (l0_3.length : Int)) = false := decide_eq_false c16
        clear c16
        have H' := Aside0.mk H
        clear H
        have hcz27_0 : wr.cell? ⟨gb381, 0, none⟩ = some (.int .i64 a0_0) := (blk_cell BK381.out 0).trans rfl
        have hcz27_1 : wr.cell? ⟨gb381, 1, none⟩ = some (.string a0_1) := (blk_cell BK381.out 1).trans rfl
        have hcz27_2 : wr.cell? ⟨gb381, 2, none⟩ = some (.string a0_2) := (blk_cell BK381.out 2).trans rfl
        have hcz27_3 : wr.cell? ⟨gb381, 3, none⟩ = some (.slice A0_3 l0_3.length c0_3) := (blk_cell BK381.out 3).trans rfl
        have hcz27_4 : wr.cell? ⟨gb381, 4, none⟩ = some (.slice A0_4 l0_4.length c0_4) := (blk_cell BK381.out 4).trans rfl
        have hcz27_5 : wr.cell? ⟨gb381, 5, none⟩ = some (.bool a0_5) := (blk_cell BK381.out 5).trans rfl
        have hfz27_0 := blk_frozen BK381.out 0
        have hfz27_1 := blk_frozen BK381.out 1
        have hfz27_2 := blk_frozen BK381.out 2
        have hfz27_3 := blk_frozen BK381.out 3
        have hfz27_4 := blk_frozen BK381.out 4
        have hfz27_5 := blk_frozen BK381.out 5
        go_wp2
        go_loopg [11] k2 (fun kq v11 w' => ∃ (x11_3 : Int), v11 = .int .i64 x11_3 ∧ Aside0 (quarrylaw19_BoundsAll.l1 kq l1 l2 l3 x9_2 x11_3 a0_0 a0_1 a0_2 l0_3 l0_4 a0_5 = some r) ∧ Aside0 (kq ≤ k2) ∧ Aside0 (Kd.R k25 25 w' w.heap.size (fun _ => True) u9 x9_2) ∧ Aside0 (w'.heap[gb381]? = some (.cells #[.int .i64 a0_0, .string a0_1, .string a0_2, (.slice A0_3 l0_3.length c0_3), (.slice A0_4 l0_4.length c0_4), .bool a0_5] 41 (0, 0))) ∧ Aside0 (Below w.heap.size w w'))
        case atStart => exact ⟨(0), (by first | rfl | (simp; done) | (simp [*]; done)), H', ⟨Nat.le_refl _⟩, ⟨by (with_reducible repeat (first | apply Kd.R_alloc | apply Kd.R_drewN | apply Kd.R_drew)); exact HO_9.out⟩, ⟨by (with_reducible repeat (first | refine blk_drewN ?_ _ | refine blk_drew ?_ | refine blk_alloc ?_ _)); exact BK381.out⟩, ⟨by repeat (first | (with_reducible first | exact HB.out | apply below_alloc | apply pw_below_drewN | apply below_drew1 | refine below_set ?_ GE381.out) | exact HB.out)⟩⟩
        case round =>
         clear H'
         try clear c1
         try clear c2
         try clear p2
         try clear c3
         try clear p3
         try clear q3
         try clear hx3
         try clear c5
         try clear c6
         try clear p6
         try clear c11
         try clear c14
         try clear c15
         try clear c16
         try clear c16b0
         try clear c17
         try clear c17b0
         try clear c18
         try clear c18b0
         try clear c20
         try clear c20b0
         try clear c22
         try clear c22b0
         try clear c23
         try clear c23b0
         try clear c24
         try clear hcz13_0
         try clear hcz13_1
         try clear hcz13_2
         try clear hcz13_3
         try clear hcz13_4
         try clear hcz13_5
         try clear hcz19_0
         try clear hcz19_1
         try clear hcz19_2
         try clear hcz19_3
         try clear hcz19_4
         try clear hcz19_5
         try clear hcz21_0
         try clear hcz21_1
         try clear hcz21_2
         try clear hcz21_3
         try clear hcz21_4
         try clear hcz21_5
         try clear hcz25_0
         try clear hcz25_1
         try clear hcz25_2
         try clear hcz25_3
         try clear hcz25_4
         try clear hcz25_5
         try clear hcz27_0
         try clear hcz27_1
         try clear hcz27_2
         try clear hcz27_3
         try clear hcz27_4
         try clear hcz27_5
         try clear hfz13_0
         try clear hfz13_1
         try clear hfz13_2
         try clear hfz13_3
         try clear hfz13_4
         try clear hfz13_5
         try clear hfz19_0
         try clear hfz19_1
         try clear hfz19_2
         try clear hfz19_3
         try clear hfz19_4
         try clear hfz19_5
         try clear hfz21_0
         try clear hfz21_1
         try clear hfz21_2
         try clear hfz21_3
         try clear hfz21_4
         try clear hfz21_5
         try clear hfz25_0
         try clear hfz25_1
         try clear hfz25_2
         try clear hfz25_3
         try clear hfz25_4
         try clear hfz25_5
         try clear hfz27_0
         try clear hfz27_1
         try clear hfz27_2
         try clear hfz27_3
         try clear hfz27_4
         try clear hfz27_5
         try clear hx384_0
         try clear hx385_0
         try clear hx386_0
         try clear hx387_0
         try clear hx387_1
         try clear hx387_2
         try clear p2
         try clear p384
         try clear p385
         try clear p386
         try clear p387
         try clear q384
         try clear q385
         try clear q386
         try clear q387
         obtain ⟨x11_3, rfl, HA, HK3, HO_9, BK381, HB⟩ := hrel
         cases gk with
         | zero => exact absurd HA.out (by simp [quarrylaw19_BoundsAll.l1])
         | succ k3 =>
          have H := HA.out
          clear HA
          simp only [quarrylaw19_BoundsAll.l1] at H
          by_cases c28 : x11_3 < (l2.length : Int)
          ·rw [if_pos c28] at H
           have c28b0 : decide (x11_3 < (l2.length : Int)) = true := decide_eq_true c28
           clear c28
           by_cases c29 : 0 ≤ x11_3
           ·rw [if_pos c29] at H
            have c29b0 : decide (0 ≤ x11_3) = true := decide_eq_true c29
            clear c29
            replace H := Option.bind_eq_some_iff.mp H
            obtain ⟨t392, A300, H⟩ := H
            replace H : (if t392 = 0 then (quarrylaw19_BoundsAll.l1 k3 l1 l2 l3 x9_2 (wrap64 (x11_3 + 1)) a0_0 a0_1 a0_2 l0_3 l0_4 a0_5) else (some true)) = some r := H
            have A30 := Aside0.mk A300
            clear A300
            by_cases c31 : t392 = 0
            ·rw [if_pos c31] at H
             have c31b0 : (t392 == 0) = true := beq_iff_eq.mpr c31
             have c31b1 : (t392 != 0) = false := bne_eq_false_iff_eq.mpr c31
             clear c31
             have H' := Aside0.mk H
             clear H
             have p391 : 0 ≤ (x11_3 : Int) := of_decide_eq_true (by first | (with_reducible assumption) | assumption)
             have q391 : x11_3 < (l2.length : Int) := of_decide_eq_true (by first | (with_reducible assumption) | assumption)
             obtain ⟨ad391, e391, hx391_0, hx391_1, hx391_2⟩ := at_T25 HR2.out x11_3 p391 q391
             cases e391
             replace hx391_0 := (HB.out.cell (World.block_lt_of_cell? w _ hx391_0)).trans hx391_0
             replace hx391_1 := (HB.out.cell (World.block_lt_of_cell? w _ hx391_1)).trans hx391_1
             replace hx391_2 := (HB.out.cell (World.block_lt_of_cell? w _ hx391_2)).trans hx391_2
             replace p391 := eq_true p391
             replace q391 := eq_true q391
             go_wp2_with (first | ((with_reducible refine gate_callee (f := 21) rfl ?_); refine goesL_ (some 77) rfl rfl Try.func21 (by kernel_rfl) rfl #[.agg #[.int .i64 ((rd_T25 l2 x11_3).f0), .int .i64 ((rd_T25 l2 x11_3).f1), .string ((rd_T25 l2 x11_3).f2)]] rfl (by (try simp only [List.map_toArray, List.map_cons, List.map_nil]); first | done | rfl | (simp only [List.length_drop, List.length_take]; rfl)) ?_; (with_reducible refine (quarryref01_Check.calls ((rd_T25 l2 x11_3).f0) ((rd_T25 l2 x11_3).f1) ((rd_T25 l2 x11_3).f2) t392 _ A30.out).mono ?_); rintro e w32 ⟨rfl, hb⟩; refine ⟨_, rfl, ?_⟩; have n0_ := Aside0.mk (Kd.R_below (by (with_reducible repeat (first | apply Kd.R_alloc | apply Kd.R_drewN | apply Kd.R_drew)); exact HO_9.out) hb); have n1_ := Aside0.mk (blk_below (g := gb381) (o := .cells #[.int .i64 a0_0, .string a0_1, .string a0_2, .slice A0_3 l0_3.length c0_3, .slice A0_4 l0_4.length c0_4, .bool a0_5] 41 (0, 0)) (bk_ BK381) hb); have n2_ := Aside0.mk (below_step (by repeat (first | (with_reducible first | exact HB.out | apply below_alloc | apply pw_below_drewN | apply below_drew1 | refine below_set ?_ GE381.out) | exact HB.out)) hb); clear HO_9; clear BK381; clear HB; have HO_9 := n0_; have BK381 := n1_; have HB := n2_; clear n0_ n1_ n2_; (try clear hb); (try clear hb2); (try clear hk); (try clear hi)))
             go_roundg k3
             case measure => have := HJ6.out; have := HK2.out; have := HK3.out; omega
             case rel => exact ⟨(wrap64 (x11_3 + 1)), (by first | rfl | (simp; done) | (simp [*]; done)), H', ⟨by have := HJ6.out; have := HK2.out; have := HK3.out; omega⟩, ⟨by (with_reducible repeat (first | apply Kd.R_alloc | apply Kd.R_drewN | apply Kd.R_drew)); exact HO_9.out⟩, ⟨by (with_reducible repeat (first | refine blk_drewN ?_ _ | refine blk_drew ?_ | refine blk_alloc ?_ _)); exact BK381.out⟩, ⟨by repeat (first | (with_reducible first | exact HB.out | apply below_alloc | apply pw_below_drewN | apply below_drew1 | refine below_set ?_ GE381.out) | exact HB.out)⟩⟩
            ·rw [if_neg c31] at H
             have c31b0 : (t392 == 0) = false := beq_eq_false_iff_ne.mpr c31
             have c31b1 : (t392 != 0) = true := bne_iff_ne.mpr c31
             obtain rfl := Option.some.inj H
             have p391 : 0 ≤ (x11_3 : Int) := of_decide_eq_true (by first | (with_reducible assumption) | assumption)
             have q391 : x11_3 < (l2.length : Int) := of_decide_eq_true (by first | (with_reducible assumption) | assumption)
             obtain ⟨ad391, e391, hx391_0, hx391_1, hx391_2⟩ := at_T25 HR2.out x11_3 p391 q391
             cases e391
             replace hx391_0 := (HB.out.cell (World.block_lt_of_cell? w _ hx391_0)).trans hx391_0
             replace hx391_1 := (HB.out.cell (World.block_lt_of_cell? w _ hx391_1)).trans hx391_1
             replace hx391_2 := (HB.out.cell (World.block_lt_of_cell? w _ hx391_2)).trans hx391_2
             replace p391 := eq_true p391
             replace q391 := eq_true q391
             go_wp2_with (first | ((with_reducible refine gate_callee (f := 21) rfl ?_); refine goesL_ (some 77) rfl rfl Try.func21 (by kernel_rfl) rfl #[.agg #[.int .i64 ((rd_T25 l2 x11_3).f0), .int .i64 ((rd_T25 l2 x11_3).f1), .string ((rd_T25 l2 x11_3).f2)]] rfl (by (try simp only [List.map_toArray, List.map_cons, List.map_nil]); first | done | rfl | (simp only [List.length_drop, List.length_take]; rfl)) ?_; (with_reducible refine (quarryref01_Check.calls ((rd_T25 l2 x11_3).f0) ((rd_T25 l2 x11_3).f1) ((rd_T25 l2 x11_3).f2) t392 _ A30.out).mono ?_); rintro e w33 ⟨rfl, hb⟩; refine ⟨_, rfl, ?_⟩; have n0_ := Aside0.mk (Kd.R_below (by (with_reducible repeat (first | apply Kd.R_alloc | apply Kd.R_drewN | apply Kd.R_drew)); exact HO_9.out) hb); have n1_ := Aside0.mk (blk_below (g := gb381) (o := .cells #[.int .i64 a0_0, .string a0_1, .string a0_2, .slice A0_3 l0_3.length c0_3, .slice A0_4 l0_4.length c0_4, .bool a0_5] 41 (0, 0)) (bk_ BK381) hb); have n2_ := Aside0.mk (below_step (by repeat (first | (with_reducible first | exact HB.out | apply below_alloc | apply pw_below_drewN | apply below_drew1 | refine below_set ?_ GE381.out) | exact HB.out)) hb); clear HO_9; clear BK381; clear HB; have HO_9 := n0_; have BK381 := n1_; have HB := n2_; clear n0_ n1_ n2_; (try clear hb); (try clear hb2); (try clear hk); (try clear hi)))
             go_ret
             exact ⟨by first | rfl | (simp [errW_none, errW_some] <;> rfl) | (simp [*, errW_none, errW_some] <;> rfl), by repeat (first | (with_reducible first | exact HB.out | apply below_alloc | apply pw_below_drewN | apply below_drew1 | refine below_set ?_ GE381.out) | exact HB.out)⟩
           ·rw [if_neg c29] at H
            exact absurd H (by simp)
          ·rw [if_neg c28] at H
           have c28b0 : decide (x11_3 < (l2.length : Int)) = false := decide_eq_false c28
           clear c28
           have H' := Aside0.mk H
           clear H
           go_wp2
           go_loopg [12] k3 (fun kq v12 w' => ∃ (x12_4 : Int), v12 = .int .i64 x12_4 ∧ Aside0 (quarrylaw19_BoundsAll.l2 kq l1 l2 l3 x9_2 x12_4 a0_0 a0_1 a0_2 l0_3 l0_4 a0_5 = some r) ∧ Aside0 (kq ≤ k3) ∧ Aside0 (Kd.R k25 25 w' w.heap.size (fun _ => True) u9 x9_2) ∧ Aside0 (w'.heap[gb381]? = some (.cells #[.int .i64 a0_0, .string a0_1, .string a0_2, (.slice A0_3 l0_3.length c0_3), (.slice A0_4 l0_4.length c0_4), .bool a0_5] 41 (0, 0))) ∧ Aside0 (Below w.heap.size w w'))
           case atStart => exact ⟨(0), (by first | rfl | (simp; done) | (simp [*]; done)), H', ⟨Nat.le_refl _⟩, ⟨by (with_reducible repeat (first | apply Kd.R_alloc | apply Kd.R_drewN | apply Kd.R_drew)); exact HO_9.out⟩, ⟨by (with_reducible repeat (first | refine blk_drewN ?_ _ | refine blk_drew ?_ | refine blk_alloc ?_ _)); exact BK381.out⟩, ⟨by repeat (first | (with_reducible first | exact HB.out | apply below_alloc | apply pw_below_drewN | apply below_drew1 | refine below_set ?_ GE381.out) | exact HB.out)⟩⟩
           case round =>
            clear H'
            try clear c1
            try clear c2
            try clear p2
            try clear c3
            try clear p3
            try clear q3
            try clear hx3
            try clear c5
            try clear c6
            try clear p6
            try clear c11
            try clear c14
            try clear c15
            try clear c16
            try clear c16b0
            try clear c17
            try clear c17b0
            try clear c18
            try clear c18b0
            try clear c20
            try clear c20b0
            try clear c21
            try clear c22
            try clear c22b0
            try clear c23
            try clear c23b0
            try clear c24
            try clear c28
            try clear c28b0
            try clear c29
            try clear c29b0
            try clear c31
            try clear c31b0
            try clear c31b1
            try clear hcz13_0
            try clear hcz13_1
            try clear hcz13_2
            try clear hcz13_3
            try clear hcz13_4
            try clear hcz13_5
            try clear hcz19_0
            try clear hcz19_1
            try clear hcz19_2
            try clear hcz19_3
            try clear hcz19_4
            try clear hcz19_5
            try clear hcz21_0
            try clear hcz21_1
            try clear hcz21_2
            try clear hcz21_3
            try clear hcz21_4
            try clear hcz21_5
            try clear hcz25_0
            try clear hcz25_1
            try clear hcz25_2
            try clear hcz25_3
            try clear hcz25_4
            try clear hcz25_5
            try clear hcz27_0
            try clear hcz27_1
            try clear hcz27_2
            try clear hcz27_3
            try clear hcz27_4
            try clear hcz27_5
            try clear hfz13_0
            try clear hfz13_1
            try clear hfz13_2
            try clear hfz13_3
            try clear hfz13_4
            try clear hfz13_5
            try clear hfz19_0
            try clear hfz19_1
            try clear hfz19_2
            try clear hfz19_3
            try clear hfz19_4
            try clear hfz19_5
            try clear hfz21_0
            try clear hfz21_1
            try clear hfz21_2
            try clear hfz21_3
            try clear hfz21_4
            try clear hfz21_5
            try clear hfz25_0
            try clear hfz25_1
            try clear hfz25_2
            try clear hfz25_3
            try clear hfz25_4
            try clear hfz25_5
            try clear hfz27_0
            try clear hfz27_1
            try clear hfz27_2
            try clear hfz27_3
            try clear hfz27_4
            try clear hfz27_5
            try clear hx384_0
            try clear hx385_0
            try clear hx386_0
            try clear hx387_0
            try clear hx387_1
            try clear hx387_2
            try clear hx391_0
            try clear hx391_1
            try clear hx391_2
            try clear p2
            try clear p3
            try clear p384
            try clear p385
            try clear p386
            try clear p387
            try clear p391
            try clear p6
            try clear q3
            try clear q384
            try clear q385
            try clear q386
            try clear q387
            try clear q391
            obtain ⟨x12_4, rfl, HA, HK4, HO_9, BK381, HB⟩ := hrel
            cases gk with
            | zero => exact absurd HA.out (by simp [quarrylaw19_BoundsAll.l2])
            | succ k4 =>
             have H := HA.out
             clear HA
             simp only [quarrylaw19_BoundsAll.l2] at H
             by_cases c34 : x12_4 < (l1.length : Int)
             ·rw [if_pos c34] at H
              have c34b0 : decide (x12_4 < (l1.length : Int)) = true := decide_eq_true c34
              clear c34
              by_cases c35 : 0 ≤ x12_4
              ·rw [if_pos c35] at H
               have c35b0 : decide (0 ≤ x12_4) = true := decide_eq_true c35
               clear c35
               replace H := Option.bind_eq_some_iff.mp H
               obtain ⟨t394, A360, H⟩ := H
               replace H : (if t394 = true then (quarrylaw19_BoundsAll.l2 k4 l1 l2 l3 x9_2 (wrap64 (x12_4 + 1)) a0_0 a0_1 a0_2 l0_3 l0_4 a0_5) else (some true)) = some r := H
               have A36 := Aside0.mk A360
               clear A360
               by_cases c37 : t394 = true
               ·subst c37
                have H1 : (quarrylaw19_BoundsAll.l2 k4 l1 l2 l3 x9_2 (wrap64 (x12_4 + 1)) a0_0 a0_1 a0_2 l0_3 l0_4 a0_5) = some r := by rw [if_pos rfl] at H; exact H
                clear H
                have H := H1
                clear H1
                have H' := Aside0.mk H
                clear H
                have p393 : 0 ≤ (x12_4 : Int) := of_decide_eq_true (by first | (with_reducible assumption) | assumption)
                have q393 : x12_4 < (l1.length : Int) := of_decide_eq_true (by first | (with_reducible assumption) | assumption)
                obtain ⟨ad393, e393, hx393_0, hx393_1, hx393_2, hx393_3, hx393_4⟩ := at_T58 HR1.out x12_4 p393 q393
                cases e393
                replace hx393_0 := (HB.out.cell (World.block_lt_of_cell? w _ hx393_0)).trans hx393_0
                replace hx393_1 := (HB.out.cell (World.block_lt_of_cell? w _ hx393_1)).trans hx393_1
                replace hx393_2 := (HB.out.cell (World.block_lt_of_cell? w _ hx393_2)).trans hx393_2
                replace hx393_3 := (HB.out.cell (World.block_lt_of_cell? w _ hx393_3)).trans hx393_3
                replace hx393_4 := (HB.out.cell (World.block_lt_of_cell? w _ hx393_4)).trans hx393_4
                replace p393 := eq_true p393
                replace q393 := eq_true q393
                go_wp2_with (first | ((with_reducible refine gate_callee (f := 22) rfl ?_); refine goesL_ (some 90) rfl rfl Try.func22 (by kernel_rfl) rfl #[.slice A2 l2.length c2, .agg #[.int .i64 ((rd_T58 l1 x12_4).f0), .int .i64 ((rd_T58 l1 x12_4).f1), .int .i64 ((rd_T58 l1 x12_4).f2.f0), .int .i64 ((rd_T58 l1 x12_4).f2.f1), .string ((rd_T58 l1 x12_4).f2.f2)]] rfl (by (try simp only [List.map_toArray, List.map_cons, List.map_nil]); first | done | rfl | (simp only [List.length_drop, List.length_take]; rfl)) ?_; (with_reducible refine (quarryref19_Passes.calls k4 _ _ l2 ((rd_T58 l1 x12_4).f0) ((rd_T58 l1 x12_4).f1) ((rd_T58 l1 x12_4).f2.f0) ((rd_T58 l1 x12_4).f2.f1) ((rd_T58 l1 x12_4).f2.f2) true _ ?side1 ?side2 A36.out).mono ?_); (case side1 => repeat (first | exact (Kd.C_below HR2.out HB.out) | (with_reducible refine Kd.C_alloc ?_ _) | (with_reducible refine Kd.C_drewN ?_ _) | (with_reducible refine Kd.C_drew ?_))); (case side2 => exact HC2.out); rintro e w38 ⟨rfl, hb⟩; refine ⟨_, rfl, ?_⟩; have n0_ := Aside0.mk (Kd.R_below (by (with_reducible repeat (first | apply Kd.R_alloc | apply Kd.R_drewN | apply Kd.R_drew)); exact HO_9.out) hb); have n1_ := Aside0.mk (blk_below (g := gb381) (o := .cells #[.int .i64 a0_0, .string a0_1, .string a0_2, .slice A0_3 l0_3.length c0_3, .slice A0_4 l0_4.length c0_4, .bool a0_5] 41 (0, 0)) (bk_ BK381) hb); have n2_ := Aside0.mk (below_step (by repeat (first | (with_reducible first | exact HB.out | apply below_alloc | apply pw_below_drewN | apply below_drew1 | refine below_set ?_ GE381.out) | exact HB.out)) hb); clear HO_9; clear BK381; clear HB; have HO_9 := n0_; have BK381 := n1_; have HB := n2_; clear n0_ n1_ n2_; (try clear hb); (try clear hb2); (try clear hk); (try clear hi)))
                go_roundg k4
                case measure => have := HJ6.out; have := HK2.out; have := HK3.out; have := HK4.out; omega
                case rel => exact ⟨(wrap64 (x12_4 + 1)), (by first | rfl | (simp; done) | (simp [*]; done)), H', ⟨by have := HJ6.out; have := HK2.out; have := HK3.out; have := HK4.out; omega⟩, ⟨by (with_reducible repeat (first | apply Kd.R_alloc | apply Kd.R_drewN | apply Kd.R_drew)); exact HO_9.out⟩, ⟨by (with_reducible repeat (first | refine blk_drewN ?_ _ | refine blk_drew ?_ | refine blk_alloc ?_ _)); exact BK381.out⟩, ⟨by repeat (first | (with_reducible first | exact HB.out | apply below_alloc | apply pw_below_drewN | apply below_drew1 | refine below_set ?_ GE381.out) | exact HB.out)⟩⟩
               ·replace c37 := Bool.eq_false_iff.mpr c37
                subst c37
                have H1 : (some true) = some r := by rw [if_neg (show ¬ (false = true) by decide)] at H; exact H
                clear H
                have H := H1
                clear H1
                obtain rfl := Option.some.inj H
                have p393 : 0 ≤ (x12_4 : Int) := of_decide_eq_true (by first | (with_reducible assumption) | assumption)
                have q393 : x12_4 < (l1.length : Int) := of_decide_eq_true (by first | (with_reducible assumption) | assumption)
                obtain ⟨ad393, e393, hx393_0, hx393_1, hx393_2, hx393_3, hx393_4⟩ := at_T58 HR1.out x12_4 p393 q393
                cases e393
                replace hx393_0 := (HB.out.cell (World.block_lt_of_cell? w _ hx393_0)).trans hx393_0
                replace hx393_1 := (HB.out.cell (World.block_lt_of_cell? w _ hx393_1)).trans hx393_1
                replace hx393_2 := (HB.out.cell (World.block_lt_of_cell? w _ hx393_2)).trans hx393_2
                replace hx393_3 := (HB.out.cell (World.block_lt_of_cell? w _ hx393_3)).trans hx393_3
                replace hx393_4 := (HB.out.cell (World.block_lt_of_cell? w _ hx393_4)).trans hx393_4
                replace p393 := eq_true p393
                replace q393 := eq_true q393
                go_wp2_with (first | ((with_reducible refine gate_callee (f := 22) rfl ?_); refine goesL_ (some 90) rfl rfl Try.func22 (by kernel_rfl) rfl #[.slice A2 l2.length c2, .agg #[.int .i64 ((rd_T58 l1 x12_4).f0), .int .i64 ((rd_T58 l1 x12_4).f1), .int .i64 ((rd_T58 l1 x12_4).f2.f0), .int .i64 ((rd_T58 l1 x12_4).f2.f1), .string ((rd_T58 l1 x12_4).f2.f2)]] rfl (by (try simp only [List.map_toArray, List.map_cons, List.map_nil]); first | done | rfl | (simp only [List.length_drop, List.length_take]; rfl)) ?_; (with_reducible refine (quarryref19_Passes.calls k4 _ _ l2 ((rd_T58 l1 x12_4).f0) ((rd_T58 l1 x12_4).f1) ((rd_T58 l1 x12_4).f2.f0) ((rd_T58 l1 x12_4).f2.f1) ((rd_T58 l1 x12_4).f2.f2) false _ ?side1 ?side2 A36.out).mono ?_); (case side1 => repeat (first | exact (Kd.C_below HR2.out HB.out) | (with_reducible refine Kd.C_alloc ?_ _) | (with_reducible refine Kd.C_drewN ?_ _) | (with_reducible refine Kd.C_drew ?_))); (case side2 => exact HC2.out); rintro e w39 ⟨rfl, hb⟩; refine ⟨_, rfl, ?_⟩; have n0_ := Aside0.mk (Kd.R_below (by (with_reducible repeat (first | apply Kd.R_alloc | apply Kd.R_drewN | apply Kd.R_drew)); exact HO_9.out) hb); have n1_ := Aside0.mk (blk_below (g := gb381) (o := .cells #[.int .i64 a0_0, .string a0_1, .string a0_2, .slice A0_3 l0_3.length c0_3, .slice A0_4 l0_4.length c0_4, .bool a0_5] 41 (0, 0)) (bk_ BK381) hb); have n2_ := Aside0.mk (below_step (by repeat (first | (with_reducible first | exact HB.out | apply below_alloc | apply pw_below_drewN | apply below_drew1 | refine below_set ?_ GE381.out) | exact HB.out)) hb); clear HO_9; clear BK381; clear HB; have HO_9 := n0_; have BK381 := n1_; have HB := n2_; clear n0_ n1_ n2_; (try clear hb); (try clear hb2); (try clear hk); (try clear hi)))
                go_ret
                exact ⟨by first | rfl | (simp [errW_none, errW_some] <;> rfl) | (simp [*, errW_none, errW_some] <;> rfl), by repeat (first | (with_reducible first | exact HB.out | apply below_alloc | apply pw_below_drewN | apply below_drew1 | refine below_set ?_ GE381.out) | exact HB.out)⟩
              ·rw [if_neg c35] at H
               exact absurd H (by simp)
             ·rw [if_neg c34] at H
              have c34b0 : decide (x12_4 < (l1.length : Int)) = false := decide_eq_false c34
              clear c34
              replace H := Option.bind_eq_some_iff.mp H
              obtain ⟨t395, A400, H⟩ := H
              replace H : ((bounds_Range.f k4 a0_0 a0_1 a0_2 l0_3 l0_4 a0_5 t395).bind fun bt398 => ((quarryref03_Encode.f k4 x9_2 l0_4).bind fun bt405 => (if (strOfNums bt405.1).size + (strOfNums l3).size ≤ 9223372036854775807 then (if ((Op.bytesLess (((strOfNums bt405.1) ++ (strOfNums l3)).toList) ((strOfNums bt398.1).toList)) = true) then (none) else (if bt398.2.2 = true then (some true) else (some (Op.bytesLess (((strOfNums bt405.1) ++ (strOfNums l3)).toList) ((strOfNums bt398.2.1).toList))))) else (none)))) = some r := H
              have A40 := Aside0.mk A400
              clear A400
              replace H := Option.bind_eq_some_iff.mp H
              obtain ⟨⟨t398, t401, t404⟩, A410, H⟩ := H
              replace H : ((quarryref03_Encode.f k4 x9_2 l0_4).bind fun bt405 => (if (strOfNums bt405.1).size + (strOfNums l3).size ≤ 9223372036854775807 then (if ((Op.bytesLess (((strOfNums bt405.1) ++ (strOfNums l3)).toList) ((strOfNums t398).toList)) = true) then (none) else (if t404 = true then (some true) else (some (Op.bytesLess (((strOfNums bt405.1) ++ (strOfNums l3)).toList) ((strOfNums t401).toList))))) else (none))) = some r := H
              have A41 := Aside0.mk A410
              clear A410
              replace H := Option.bind_eq_some_iff.mp H
              obtain ⟨⟨t405, t406⟩, A420, H⟩ := H
              replace H : (if (strOfNums t405).size + (strOfNums l3).size ≤ 9223372036854775807 then (if ((Op.bytesLess (((strOfNums t405) ++ (strOfNums l3)).toList) ((strOfNums t398).toList)) = true) then (none) else (if t404 = true then (some true) else (some (Op.bytesLess (((strOfNums t405) ++ (strOfNums l3)).toList) ((strOfNums t401).toList))))) else (none)) = some r := H
              have A42 := Aside0.mk A420
              clear A420
              by_cases c43 : (strOfNums t405).size + (strOfNums l3).size ≤ 9223372036854775807
              ·rw [if_pos c43] at H
               have c43b0 := eq_true c43
               have c43b1 : decide ((strOfNums t405).size + (strOfNums l3).size ≤ 9223372036854775807) = true := decide_eq_true c43
               try have c43b2 : (9223372036854775807 < (strOfNums t405).size + (strOfNums l3).size) = False := eq_false (Nat.not_lt.2 c43)
               by_cases c44 : ((Op.bytesLess (((strOfNums t405) ++ (strOfNums l3)).toList) ((strOfNums t398).toList)) = true)
               ·rw [if_pos c44] at H
                cases H
               ·rw [if_neg c44] at H
                have c44b0 : (Op.bytesLess (((strOfNums t405) ++ (strOfNums l3)).toList) ((strOfNums t398).toList)) = false := by simpa using c44
                clear c44
                by_cases c55 : t404 = true
                ·subst c55
                 have H1 : (some true) = some r := by rw [if_pos rfl] at H; exact H
                 clear H
                 have H := H1
                 clear H1
                 obtain rfl := Option.some.inj H
                 try go_wp2
                 have n0_ := Aside0.mk (Kd.R_drew HO_9.out)
                 have n1_ := Aside0.mk (blk_drew BK381.out)
                 have n2_ := Aside0.mk (below_drew1 HB.out)
                 clear HO_9
                 clear BK381
                 clear HB
                 have HO_9 := n0_
                 have BK381 := n1_
                 have HB := n2_
                 clear n0_ n1_ n2_
                 refine start_ (n := 11) (S := fun w' => w'.cell? ⟨gb381, 0, none⟩ = some (.int .i64 a0_0) ∧ w'.cell? ⟨gb381, 1, none⟩ = some (.string a0_1) ∧ w'.cell? ⟨gb381, 2, none⟩ = some (.string a0_2) ∧ w'.cell? ⟨gb381, 3, none⟩ = some (.slice A0_3 l0_3.length c0_3) ∧ w'.cell? ⟨gb381, 4, none⟩ = some (.slice A0_4 l0_4.length c0_4) ∧ w'.cell? ⟨gb381, 5, none⟩ = some (.bool a0_5)) (ds := []) #[false, false, false, false, false, false, false, false, false, false, false] (by kernel_rfl) rfl rfl ⟨(blk_cell BK381.out 0).trans rfl, (blk_cell BK381.out 1).trans rfl, (blk_cell BK381.out 2).trans rfl, (blk_cell BK381.out 3).trans rfl, (blk_cell BK381.out 4).trans rfl, (blk_cell BK381.out 5).trans rfl⟩ (fun hHeld => ?_); refine with_tabW quarrylaw19_BoundsAll.tab22 quarrylaw19_BoundsAll.bits22 (fun HT_ HW_ => ?_)
                 generalize wr.drew = w56 at HO_9 BK381 HB hHeld ⊢
                 refine pure_ (i := 1) (N := some 94) (v := ?_) (a' := ?_) #[false, true, false, false, false, false, false, false, false, false, false] rfl rfl (any_of HT_.out (by kernel_rfl)) (fun _ _ _ h => h) (Or.inl ⟨by rfl, ?_⟩) ?_ ?_
                 rotate_left
                 ·intro w'
                  go_simp
                  with_reducible rfl
                 rotate_left
                 ·simp only [Act.put, List.setIfInBounds_toArray, List.set_cons_zero, List.set_cons_succ, i64_w, i32_w]
                  rfl
                 refine take_ (i := 0) (N := some 93) (v := ?_) (a' := ?_) #[true, true, false, false, false, false, false, false, false, false, false] rfl rfl (take_ofW HT_.out HW_.out (by kernel_rfl)) (fun _ _ _ h => h) (Or.inl ⟨by rfl, ?_⟩) hHeld ?_ ?_
                 rotate_left
                 ·rintro w' ⟨s0, s1, s2, s3, s4, s5⟩
                  go_simp
                  with_reducible rfl
                 rotate_left
                 ·simp only [Act.put, List.setIfInBounds_toArray, List.set_cons_zero, List.set_cons_succ, i64_w, i32_w]
                  rfl
                 refine one_ (i := 2) (N := some 95) #[true, true, true, false, false, false, false, false, false, false, false] rfl rfl (one_of HT_.out (by kernel_rfl)) (by decide) (fun K hK => ?_)
                 refine goes_ Try.func16 (by kernel_rfl) rfl #[.slice A1 l1.length c1] (by rfl) rfl rfl (by (try simp only [List.map_toArray, List.map_cons, List.map_nil]); first | done | rfl | (simp only [List.length_drop, List.length_take]; rfl)) ?_
                 with_reducible refine (quarrylaw19_its.calls k4 _ _ l1 t395 _ ?side1 ?side2 A40.out).mono ?_
                 (case side1 => repeat (first | exact (Kd.C_below HR1.out HB.out) | (with_reducible refine Kd.C_alloc ?_ _) | (with_reducible refine Kd.C_drewN ?_ _) | (with_reducible refine Kd.C_drew ?_)))
                 (case side2 => exact HC1.out)
                 rintro e w57 ⟨v396, rfl, ho0, hb⟩
                 refine ⟨_, rfl, ?_⟩
                 have n0_ := Aside0.mk (Kd.R_below (by (with_reducible repeat (first | apply Kd.R_alloc | apply Kd.R_drewN | apply Kd.R_drew)); exact HO_9.out) hb)
                 have n1_ := Aside0.mk (Kd.R_lower ho0 (below_size (by repeat (first | (with_reducible first | exact HB.out | apply below_alloc | apply pw_below_drewN | apply below_drew1 | refine below_set ?_ GE381.out) | exact HB.out))))
                 have n2_ := Aside0.mk (blk_below (g := gb381) (o := .cells #[.int .i64 a0_0, .string a0_1, .string a0_2, .slice A0_3 l0_3.length c0_3, .slice A0_4 l0_4.length c0_4, .bool a0_5] 41 (0, 0)) (bk_ BK381) hb)
                 have n3_ := Aside0.mk (below_step (by repeat (first | (with_reducible first | exact HB.out | apply below_alloc | apply pw_below_drewN | apply below_drew1 | refine below_set ?_ GE381.out) | exact HB.out)) hb)
                 clear HO_9
                 clear BK381
                 clear HB
                 have HO_9 := n0_
                 have HO397 := n1_
                 have BK381 := n2_
                 have HB := n3_
                 clear n0_ n1_ n2_ n3_
                 (try clear hb)
                 (try clear hb2)
                 (try clear hk)
                 (try clear hi)
                 (try clear ho0)
                 obtain ⟨Ao58, co58, eo58⟩ := Kd.R_slice HO397.out
                 (first | subst eo58 | (injection eo58 with f1_ f2_ f3_; have f4_ := f1_.symm; have f5_ := f3_.symm; clear f1_ f2_ f3_; subst f4_; subst f5_))
                 refine hK.out _ _ ⟨(blk_cell BK381.out 0).trans rfl, (blk_cell BK381.out 1).trans rfl, (blk_cell BK381.out 2).trans rfl, (blk_cell BK381.out 3).trans rfl, (blk_cell BK381.out 4).trans rfl, (blk_cell BK381.out 5).trans rfl⟩ (fun hHeld => ?_)
                 clear hK K
                 refine norm_ (a' := ?_) ?_ ?_
                 rotate_left
                 ·show Act.put _ (some 95) _ = _
                  simp only [Act.put, List.setIfInBounds_toArray, List.set_cons_zero, List.set_cons_succ, i64_w, i32_w]
                  rfl
                 refine one_ (i := 3) (N := some 96) #[true, true, true, true, false, false, false, false, false, false, false] rfl rfl (one_of HT_.out (by kernel_rfl)) (by decide) (fun K hK => ?_)
                 refine goes_ Try.func15 (by kernel_rfl) rfl #[.agg #[.int .i64 a0_0, .string a0_1, .string a0_2, .slice A0_3 l0_3.length c0_3, .slice A0_4 l0_4.length c0_4, .bool a0_5], .slice Ao58 t395.length co58] (by rfl) rfl rfl (by (try simp only [List.map_toArray, List.map_cons, List.map_nil]); first | done | rfl | (simp only [List.length_drop, List.length_take]; rfl)) ?_
                 with_reducible refine (bounds_Range.calls k4 a0_0 a0_1 a0_2 _ _ l0_3 _ _ l0_4 a0_5 _ _ t395 t398 t401 true _ ?side1 ?side2 ?side3 ?side4 ?side5 ?side6 A41.out).mono ?_
                 (case side1 => repeat (first | exact (Kd.C_below HR0_3.out HB.out) | (with_reducible refine Kd.C_alloc ?_ _) | (with_reducible refine Kd.C_drewN ?_ _) | (with_reducible refine Kd.C_drew ?_)))
                 (case side2 => exact HC0_3.out)
                 (case side3 => repeat (first | exact (Kd.C_below HR0_4.out HB.out) | (with_reducible refine Kd.C_alloc ?_ _) | (with_reducible refine Kd.C_drewN ?_ _) | (with_reducible refine Kd.C_drew ?_)))
                 (case side4 => exact HC0_4.out)
                 (case side5 => repeat (first | exact (Kd.R_reads' HO397.out).2.2 | (with_reducible refine Kd.C_alloc ?_ _) | (with_reducible refine Kd.C_drewN ?_ _) | (with_reducible refine Kd.C_drew ?_)))
                 (case side6 => exact (Kd.R_reads' HO397.out).2.1)
                 rintro e w59 ⟨v399, v402, rfl, ho0, ho1, hb⟩
                 refine ⟨_, rfl, ?_⟩
                 have n0_ := Aside0.mk (Kd.R_below (by (with_reducible repeat (first | apply Kd.R_alloc | apply Kd.R_drewN | apply Kd.R_drew)); exact HO_9.out) hb)
                 have n1_ := Aside0.mk (Kd.R_below (by (with_reducible repeat (first | apply Kd.R_alloc | apply Kd.R_drewN | apply Kd.R_drew)); exact HO397.out) hb)
                 have n2_ := Aside0.mk (Kd.R_lower ho0 (below_size (by repeat (first | (with_reducible first | exact HB.out | apply below_alloc | apply pw_below_drewN | apply below_drew1 | refine below_set ?_ GE381.out) | exact HB.out))))
                 have n3_ := Aside0.mk (Kd.R_lower ho1 (below_size (by repeat (first | (with_reducible first | exact HB.out | apply below_alloc | apply pw_below_drewN | apply below_drew1 | refine below_set ?_ GE381.out) | exact HB.out))))
                 have n4_ := Aside0.mk (blk_below (g := gb381) (o := .cells #[.int .i64 a0_0, .string a0_1, .string a0_2, .slice A0_3 l0_3.length c0_3, .slice A0_4 l0_4.length c0_4, .bool a0_5] 41 (0, 0)) (bk_ BK381) hb)
                 have n5_ := Aside0.mk (below_step (by repeat (first | (with_reducible first | exact HB.out | apply below_alloc | apply pw_below_drewN | apply below_drew1 | refine below_set ?_ GE381.out) | exact HB.out)) hb)
                 clear HO_9
                 clear HO397
                 clear BK381
                 clear HB
                 have HO_9 := n0_
                 have HO397 := n1_
                 have HO400 := n2_
                 have HO403 := n3_
                 have BK381 := n4_
                 have HB := n5_
                 clear n0_ n1_ n2_ n3_ n4_ n5_
                 (try clear hb)
                 (try clear hb2)
                 (try clear hk)
                 (try clear hi)
                 (try clear ho0)
                 (try clear ho1)
                 refine hK.out _ _ ⟨(blk_cell BK381.out 0).trans rfl, (blk_cell BK381.out 1).trans rfl, (blk_cell BK381.out 2).trans rfl, (blk_cell BK381.out 3).trans rfl, (blk_cell BK381.out 4).trans rfl, (blk_cell BK381.out 5).trans rfl⟩ (fun hHeld => ?_)
                 clear hK K
                 refine norm_ (a' := ?_) ?_ ?_
                 rotate_left
                 ·show Act.put _ (some 96) _ = _
                  simp only [Act.put, List.setIfInBounds_toArray, List.set_cons_zero, List.set_cons_succ, i64_w, i32_w]
                  rfl
                 refine pure_ (i := 4) (N := some 92) (v := ?_) (a' := ?_) #[true, true, true, true, true, false, false, false, false, false, false] rfl rfl (any_of HT_.out (by kernel_rfl)) (fun _ _ _ h => h) (Or.inl ⟨by rfl, ?_⟩) ?_ ?_
                 rotate_left
                 ·intro w'
                  go_simp
                  with_reducible rfl
                 rotate_left
                 ·simp only [Act.put, List.setIfInBounds_toArray, List.set_cons_zero, List.set_cons_succ, i64_w, i32_w]
                  rfl
                 refine pure_ (i := 5) (N := some 97) (v := ?_) (a' := ?_) #[true, true, true, true, true, true, false, false, false, false, false] rfl rfl (any_of HT_.out (by kernel_rfl)) (fun _ _ _ h => h) (Or.inl ⟨by rfl, ?_⟩) ?_ ?_
                 rotate_left
                 ·intro w'
                  go_simp
                  with_reducible rfl
                 rotate_left
                 ·simp only [Act.put, List.setIfInBounds_toArray, List.set_cons_zero, List.set_cons_succ, i64_w, i32_w]
                  rfl
                 refine pure_ (i := 6) (N := some 98) (v := ?_) (a' := ?_) #[true, true, true, true, true, true, true, false, false, false, false] rfl rfl (any_of HT_.out (by kernel_rfl)) (fun _ _ _ h => h) (Or.inl ⟨by rfl, ?_⟩) ?_ ?_
                 rotate_left
                 ·intro w'
                  go_simp
                  with_reducible rfl
                 rotate_left
                 ·simp only [Act.put, List.setIfInBounds_toArray, List.set_cons_zero, List.set_cons_succ, i64_w, i32_w]
                  rfl
                 refine pure_ (i := 7) (N := some 99) (v := ?_) (a' := ?_) #[true, true, true, true, true, true, true, true, false, false, false] rfl rfl (any_of HT_.out (by kernel_rfl)) (fun _ _ _ h => h) (Or.inl ⟨by rfl, ?_⟩) ?_ ?_
                 rotate_left
                 ·intro w'
                  go_simp
                  with_reducible rfl
                 rotate_left
                 ·simp only [Act.put, List.setIfInBounds_toArray, List.set_cons_zero, List.set_cons_succ, i64_w, i32_w]
                  rfl
                 refine pure_ (i := 8) (N := some 13) (v := ?_) (a' := ?_) #[true, true, true, true, true, true, true, true, true, false, false] rfl rfl (any_of HT_.out (by kernel_rfl)) (fun _ _ _ h => h) (Or.inl ⟨by rfl, ?_⟩) ?_ ?_
                 rotate_left
                 ·intro w'
                  go_simp
                  with_reducible rfl
                 rotate_left
                 ·simp only [Act.put, List.setIfInBounds_toArray, List.set_cons_zero, List.set_cons_succ, i64_w, i32_w]
                  rfl
                 refine pure_ (i := 9) (N := some 14) (v := ?_) (a' := ?_) #[true, true, true, true, true, true, true, true, true, true, false] rfl rfl (any_of HT_.out (by kernel_rfl)) (fun _ _ _ h => h) (Or.inl ⟨by rfl, ?_⟩) ?_ ?_
                 rotate_left
                 ·intro w'
                  go_simp
                  with_reducible rfl
                 rotate_left
                 ·simp only [Act.put, List.setIfInBounds_toArray, List.set_cons_zero, List.set_cons_succ, i64_w, i32_w]
                  rfl
                 refine pure_ (i := 10) (N := some 15) (v := ?_) (a' := ?_) #[true, true, true, true, true, true, true, true, true, true, true] rfl rfl (any_of HT_.out (by kernel_rfl)) (fun _ _ _ h => h) (Or.inl ⟨by rfl, ?_⟩) ?_ ?_
                 rotate_left
                 ·intro w'
                  go_simp
                  with_reducible rfl
                 rotate_left
                 ·simp only [Act.put, List.setIfInBounds_toArray, List.set_cons_zero, List.set_cons_succ, i64_w, i32_w]
                  rfl
                 refine done_ (done_of HT_.out (by kernel_rfl)) ?_
                 have hcz60_0 : w59.cell? ⟨gb381, 0, none⟩ = some (.int .i64 a0_0) := (blk_cell BK381.out 0).trans rfl
                 have hcz60_1 : w59.cell? ⟨gb381, 1, none⟩ = some (.string a0_1) := (blk_cell BK381.out 1).trans rfl
                 have hcz60_2 : w59.cell? ⟨gb381, 2, none⟩ = some (.string a0_2) := (blk_cell BK381.out 2).trans rfl
                 have hcz60_3 : w59.cell? ⟨gb381, 3, none⟩ = some (.slice A0_3 l0_3.length c0_3) := (blk_cell BK381.out 3).trans rfl
                 have hcz60_4 : w59.cell? ⟨gb381, 4, none⟩ = some (.slice A0_4 l0_4.length c0_4) := (blk_cell BK381.out 4).trans rfl
                 have hcz60_5 : w59.cell? ⟨gb381, 5, none⟩ = some (.bool a0_5) := (blk_cell BK381.out 5).trans rfl
                 have hfz60_0 := blk_frozen BK381.out 0
                 have hfz60_1 := blk_frozen BK381.out 1
                 have hfz60_2 := blk_frozen BK381.out 2
                 have hfz60_3 := blk_frozen BK381.out 3
                 have hfz60_4 := blk_frozen BK381.out 4
                 have hfz60_5 := blk_frozen BK381.out 5
                 obtain ⟨Ao61, co61, eo61⟩ := Kd.R_slice HO_9.out
                 subst eo61
                 try go_wp2_with (first | ((with_reducible refine gate_callee (f := 23) rfl ?_); refine goesL_ (some 104) rfl rfl Try.func23 (by kernel_rfl) rfl #[.slice Ao61 x9_2.length co61, .slice A0_4 l0_4.length c0_4] rfl (by (try simp only [List.map_toArray, List.map_cons, List.map_nil]); first | done | rfl | (simp only [List.length_drop, List.length_take]; rfl)) ?_; (with_reducible refine (quarryref03_Encode.calls k4 _ _ x9_2 _ _ l0_4 t405 t406 _ ?side1 ?side2 ?side3 ?side4 A42.out).mono ?_); (case side1 => repeat (first | exact (Kd.R_reads' HO_9.out).2.2 | (with_reducible refine Kd.C_alloc ?_ _) | (with_reducible refine Kd.C_drewN ?_ _) | (with_reducible refine Kd.C_drew ?_))); (case side2 => exact (Kd.R_reads' HO_9.out).2.1); (case side3 => repeat (first | exact (Kd.C_below HR0_4.out HB.out) | (with_reducible refine Kd.C_alloc ?_ _) | (with_reducible refine Kd.C_drewN ?_ _) | (with_reducible refine Kd.C_drew ?_))); (case side4 => exact HC0_4.out); rintro e w62 ⟨v407, rfl, ho0, hb⟩; refine ⟨_, rfl, ?_⟩; have n0_ := Aside0.mk (Kd.R_below (by (with_reducible repeat (first | apply Kd.R_alloc | apply Kd.R_drewN | apply Kd.R_drew)); exact HO_9.out) hb); have n1_ := Aside0.mk (Kd.R_below (by (with_reducible repeat (first | apply Kd.R_alloc | apply Kd.R_drewN | apply Kd.R_drew)); exact HO397.out) hb); have n2_ := Aside0.mk (Kd.R_elder' (by (with_reducible repeat (first | apply Kd.R_alloc | apply Kd.R_drewN | apply Kd.R_drew)); exact HO400.out) (Kd.R_base ho0) hb); have n3_ := Aside0.mk (Kd.R_elder' (by (with_reducible repeat (first | apply Kd.R_alloc | apply Kd.R_drewN | apply Kd.R_drew)); exact HO403.out) (Kd.R_base ho0) hb); have n4_ := Aside0.mk (Kd.R_lower (Kd.R_new' (Kd.R_new' ho0 (Kd.R_lt (by (with_reducible repeat (first | apply Kd.R_alloc | apply Kd.R_drewN | apply Kd.R_drew)); exact HO400.out))) (Kd.R_lt (by (with_reducible repeat (first | apply Kd.R_alloc | apply Kd.R_drewN | apply Kd.R_drew)); exact HO403.out))) (below_size (by repeat (first | (with_reducible first | exact HB.out | apply below_alloc | apply pw_below_drewN | apply below_drew1 | refine below_set ?_ GE381.out) | exact HB.out)))); have n5_ := Aside0.mk (blk_below (g := gb381) (o := .cells #[.int .i64 a0_0, .string a0_1, .string a0_2, .slice A0_3 l0_3.length c0_3, .slice A0_4 l0_4.length c0_4, .bool a0_5] 41 (0, 0)) (bk_ BK381) hb); have n6_ := Aside0.mk (below_step (by repeat (first | (with_reducible first | exact HB.out | apply below_alloc | apply pw_below_drewN | apply below_drew1 | refine below_set ?_ GE381.out) | exact HB.out)) hb); clear HO_9; clear HO397; clear HO400; clear HO403; clear BK381; clear HB; have HO_9 := n0_; have HO397 := n1_; have HO400 := n2_; have HO403 := n3_; have HO408 := n4_; have BK381 := n5_; have HB := n6_; clear n0_ n1_ n2_ n3_ n4_ n5_ n6_; (try clear hb); (try clear hb2); (try clear hk); (try clear hi); (try clear ho0); have hcv63 := own_string (P := Try.prog) Try.underlying44 Try.underlying5 Try.underlying9 (Kd.own_of_R HO408.out); have hcv64 := Kd.C_string (P := Try.prog) (A := A3) (c := c3) Try.underlying44 Try.underlying5 Try.underlying9 (Kd.C_below HR3.out HB.out); have hcv65 := own_string (P := Try.prog) Try.underlying44 Try.underlying5 Try.underlying9 (Kd.own_of_R HO400.out)))
                 go_ret
                 exact ⟨by first | rfl | (simp [errW_none, errW_some] <;> rfl) | (simp [*, errW_none, errW_some] <;> rfl), by repeat (first | (with_reducible first | exact HB.out | apply below_alloc | apply pw_below_drewN | apply below_drew1 | refine below_set ?_ GE381.out) | exact HB.out)⟩
                ·replace c55 := Bool.eq_false_iff.mpr c55
                 subst c55
                 have H1 : (some (Op.bytesLess (((strOfNums t405) ++ (strOfNums l3)).toList) ((strOfNums t401).toList))) = some r := by rw [if_neg (show ¬ (false = true) by decide)] at H; exact H
                 clear H
                 have H := H1
                 clear H1
                 obtain rfl := Option.some.inj H
                 try go_wp2
                 have n0_ := Aside0.mk (Kd.R_drew HO_9.out)
                 have n1_ := Aside0.mk (blk_drew BK381.out)
                 have n2_ := Aside0.mk (below_drew1 HB.out)
                 clear HO_9
                 clear BK381
                 clear HB
                 have HO_9 := n0_
                 have BK381 := n1_
                 have HB := n2_
                 clear n0_ n1_ n2_
                 refine start_ (n := 11) (S := fun w' => w'.cell? ⟨gb381, 0, none⟩ = some (.int .i64 a0_0) ∧ w'.cell? ⟨gb381, 1, none⟩ = some (.string a0_1) ∧ w'.cell? ⟨gb381, 2, none⟩ = some (.string a0_2) ∧ w'.cell? ⟨gb381, 3, none⟩ = some (.slice A0_3 l0_3.length c0_3) ∧ w'.cell? ⟨gb381, 4, none⟩ = some (.slice A0_4 l0_4.length c0_4) ∧ w'.cell? ⟨gb381, 5, none⟩ = some (.bool a0_5)) (ds := []) #[false, false, false, false, false, false, false, false, false, false, false] (by kernel_rfl) rfl rfl ⟨(blk_cell BK381.out 0).trans rfl, (blk_cell BK381.out 1).trans rfl, (blk_cell BK381.out 2).trans rfl, (blk_cell BK381.out 3).trans rfl, (blk_cell BK381.out 4).trans rfl, (blk_cell BK381.out 5).trans rfl⟩ (fun hHeld => ?_); refine with_tabW quarrylaw19_BoundsAll.tab22 quarrylaw19_BoundsAll.bits22 (fun HT_ HW_ => ?_)
                 generalize wr.drew = w66 at HO_9 BK381 HB hHeld ⊢
                 refine pure_ (i := 1) (N := some 94) (v := ?_) (a' := ?_) #[false, true, false, false, false, false, false, false, false, false, false] rfl rfl (any_of HT_.out (by kernel_rfl)) (fun _ _ _ h => h) (Or.inl ⟨by rfl, ?_⟩) ?_ ?_
                 rotate_left
                 ·intro w'
                  go_simp
                  with_reducible rfl
                 rotate_left
                 ·simp only [Act.put, List.setIfInBounds_toArray, List.set_cons_zero, List.set_cons_succ, i64_w, i32_w]
                  rfl
                 refine take_ (i := 0) (N := some 93) (v := ?_) (a' := ?_) #[true, true, false, false, false, false, false, false, false, false, false] rfl rfl (take_ofW HT_.out HW_.out (by kernel_rfl)) (fun _ _ _ h => h) (Or.inl ⟨by rfl, ?_⟩) hHeld ?_ ?_
                 rotate_left
                 ·rintro w' ⟨s0, s1, s2, s3, s4, s5⟩
                  go_simp
                  with_reducible rfl
                 rotate_left
                 ·simp only [Act.put, List.setIfInBounds_toArray, List.set_cons_zero, List.set_cons_succ, i64_w, i32_w]
                  rfl
                 refine one_ (i := 2) (N := some 95) #[true, true, true, false, false, false, false, false, false, false, false] rfl rfl (one_of HT_.out (by kernel_rfl)) (by decide) (fun K hK => ?_)
                 refine goes_ Try.func16 (by kernel_rfl) rfl #[.slice A1 l1.length c1] (by rfl) rfl rfl (by (try simp only [List.map_toArray, List.map_cons, List.map_nil]); first | done | rfl | (simp only [List.length_drop, List.length_take]; rfl)) ?_
                 with_reducible refine (quarrylaw19_its.calls k4 _ _ l1 t395 _ ?side1 ?side2 A40.out).mono ?_
                 (case side1 => repeat (first | exact (Kd.C_below HR1.out HB.out) | (with_reducible refine Kd.C_alloc ?_ _) | (with_reducible refine Kd.C_drewN ?_ _) | (with_reducible refine Kd.C_drew ?_)))
                 (case side2 => exact HC1.out)
                 rintro e w67 ⟨v396, rfl, ho0, hb⟩
                 refine ⟨_, rfl, ?_⟩
                 have n0_ := Aside0.mk (Kd.R_below (by (with_reducible repeat (first | apply Kd.R_alloc | apply Kd.R_drewN | apply Kd.R_drew)); exact HO_9.out) hb)
                 have n1_ := Aside0.mk (Kd.R_lower ho0 (below_size (by repeat (first | (with_reducible first | exact HB.out | apply below_alloc | apply pw_below_drewN | apply below_drew1 | refine below_set ?_ GE381.out) | exact HB.out))))
                 have n2_ := Aside0.mk (blk_below (g := gb381) (o := .cells #[.int .i64 a0_0, .string a0_1, .string a0_2, .slice A0_3 l0_3.length c0_3, .slice A0_4 l0_4.length c0_4, .bool a0_5] 41 (0, 0)) (bk_ BK381) hb)
                 have n3_ := Aside0.mk (below_step (by repeat (first | (with_reducible first | exact HB.out | apply below_alloc | apply pw_below_drewN | apply below_drew1 | refine below_set ?_ GE381.out) | exact HB.out)) hb)
                 clear HO_9
                 clear BK381
                 clear HB
                 have HO_9 := n0_
                 have HO397 := n1_
                 have BK381 := n2_
                 have HB := n3_
                 clear n0_ n1_ n2_ n3_
                 (try clear hb)
                 (try clear hb2)
                 (try clear hk)
                 (try clear hi)
                 (try clear ho0)
                 obtain ⟨Ao68, co68, eo68⟩ := Kd.R_slice HO397.out
                 (first | subst eo68 | (injection eo68 with f1_ f2_ f3_; have f4_ := f1_.symm; have f5_ := f3_.symm; clear f1_ f2_ f3_; subst f4_; subst f5_))
                 refine hK.out _ _ ⟨(blk_cell BK381.out 0).trans rfl, (blk_cell BK381.out 1).trans rfl, (blk_cell BK381.out 2).trans rfl, (blk_cell BK381.out 3).trans rfl, (blk_cell BK381.out 4).trans rfl, (blk_cell BK381.out 5).trans rfl⟩ (fun hHeld => ?_)
                 clear hK K
                 refine norm_ (a' := ?_) ?_ ?_
                 rotate_left
                 ·show Act.put _ (some 95) _ = _
                  simp only [Act.put, List.setIfInBounds_toArray, List.set_cons_zero, List.set_cons_succ, i64_w, i32_w]
                  rfl
                 refine one_ (i := 3) (N := some 96) #[true, true, true, true, false, false, false, false, false, false, false] rfl rfl (one_of HT_.out (by kernel_rfl)) (by decide) (fun K hK => ?_)
                 refine goes_ Try.func15 (by kernel_rfl) rfl #[.agg #[.int .i64 a0_0, .string a0_1, .string a0_2, .slice A0_3 l0_3.length c0_3, .slice A0_4 l0_4.length c0_4, .bool a0_5], .slice Ao68 t395.length co68] (by rfl) rfl rfl (by (try simp only [List.map_toArray, List.map_cons, List.map_nil]); first | done | rfl | (simp only [List.length_drop, List.length_take]; rfl)) ?_
                 with_reducible refine (bounds_Range.calls k4 a0_0 a0_1 a0_2 _ _ l0_3 _ _ l0_4 a0_5 _ _ t395 t398 t401 false _ ?side1 ?side2 ?side3 ?side4 ?side5 ?side6 A41.out).mono ?_
                 (case side1 => repeat (first | exact (Kd.C_below HR0_3.out HB.out) | (with_reducible refine Kd.C_alloc ?_ _) | (with_reducible refine Kd.C_drewN ?_ _) | (with_reducible refine Kd.C_drew ?_)))
                 (case side2 => exact HC0_3.out)
                 (case side3 => repeat (first | exact (Kd.C_below HR0_4.out HB.out) | (with_reducible refine Kd.C_alloc ?_ _) | (with_reducible refine Kd.C_drewN ?_ _) | (with_reducible refine Kd.C_drew ?_)))
                 (case side4 => exact HC0_4.out)
                 (case side5 => repeat (first | exact (Kd.R_reads' HO397.out).2.2 | (with_reducible refine Kd.C_alloc ?_ _) | (with_reducible refine Kd.C_drewN ?_ _) | (with_reducible refine Kd.C_drew ?_)))
                 (case side6 => exact (Kd.R_reads' HO397.out).2.1)
                 rintro e w69 ⟨v399, v402, rfl, ho0, ho1, hb⟩
                 refine ⟨_, rfl, ?_⟩
                 have n0_ := Aside0.mk (Kd.R_below (by (with_reducible repeat (first | apply Kd.R_alloc | apply Kd.R_drewN | apply Kd.R_drew)); exact HO_9.out) hb)
                 have n1_ := Aside0.mk (Kd.R_below (by (with_reducible repeat (first | apply Kd.R_alloc | apply Kd.R_drewN | apply Kd.R_drew)); exact HO397.out) hb)
                 have n2_ := Aside0.mk (Kd.R_lower ho0 (below_size (by repeat (first | (with_reducible first | exact HB.out | apply below_alloc | apply pw_below_drewN | apply below_drew1 | refine below_set ?_ GE381.out) | exact HB.out))))
                 have n3_ := Aside0.mk (Kd.R_lower ho1 (below_size (by repeat (first | (with_reducible first | exact HB.out | apply below_alloc | apply pw_below_drewN | apply below_drew1 | refine below_set ?_ GE381.out) | exact HB.out))))
                 have n4_ := Aside0.mk (blk_below (g := gb381) (o := .cells #[.int .i64 a0_0, .string a0_1, .string a0_2, .slice A0_3 l0_3.length c0_3, .slice A0_4 l0_4.length c0_4, .bool a0_5] 41 (0, 0)) (bk_ BK381) hb)
                 have n5_ := Aside0.mk (below_step (by repeat (first | (with_reducible first | exact HB.out | apply below_alloc | apply pw_below_drewN | apply below_drew1 | refine below_set ?_ GE381.out) | exact HB.out)) hb)
                 clear HO_9
                 clear HO397
                 clear BK381
                 clear HB
                 have HO_9 := n0_
                 have HO397 := n1_
                 have HO400 := n2_
                 have HO403 := n3_
                 have BK381 := n4_
                 have HB := n5_
                 clear n0_ n1_ n2_ n3_ n4_ n5_
                 (try clear hb)
                 (try clear hb2)
                 (try clear hk)
                 (try clear hi)
                 (try clear ho0)
                 (try clear ho1)
                 refine hK.out _ _ ⟨(blk_cell BK381.out 0).trans rfl, (blk_cell BK381.out 1).trans rfl, (blk_cell BK381.out 2).trans rfl, (blk_cell BK381.out 3).trans rfl, (blk_cell BK381.out 4).trans rfl, (blk_cell BK381.out 5).trans rfl⟩ (fun hHeld => ?_)
                 clear hK K
                 refine norm_ (a' := ?_) ?_ ?_
                 rotate_left
                 ·show Act.put _ (some 96) _ = _
                  simp only [Act.put, List.setIfInBounds_toArray, List.set_cons_zero, List.set_cons_succ, i64_w, i32_w]
                  rfl
                 refine pure_ (i := 4) (N := some 92) (v := ?_) (a' := ?_) #[true, true, true, true, true, false, false, false, false, false, false] rfl rfl (any_of HT_.out (by kernel_rfl)) (fun _ _ _ h => h) (Or.inl ⟨by rfl, ?_⟩) ?_ ?_
                 rotate_left
                 ·intro w'
                  go_simp
                  with_reducible rfl
                 rotate_left
                 ·simp only [Act.put, List.setIfInBounds_toArray, List.set_cons_zero, List.set_cons_succ, i64_w, i32_w]
                  rfl
                 refine pure_ (i := 5) (N := some 97) (v := ?_) (a' := ?_) #[true, true, true, true, true, true, false, false, false, false, false] rfl rfl (any_of HT_.out (by kernel_rfl)) (fun _ _ _ h => h) (Or.inl ⟨by rfl, ?_⟩) ?_ ?_
                 rotate_left
                 ·intro w'
                  go_simp
                  with_reducible rfl
                 rotate_left
                 ·simp only [Act.put, List.setIfInBounds_toArray, List.set_cons_zero, List.set_cons_succ, i64_w, i32_w]
                  rfl
                 refine pure_ (i := 6) (N := some 98) (v := ?_) (a' := ?_) #[true, true, true, true, true, true, true, false, false, false, false] rfl rfl (any_of HT_.out (by kernel_rfl)) (fun _ _ _ h => h) (Or.inl ⟨by rfl, ?_⟩) ?_ ?_
                 rotate_left
                 ·intro w'
                  go_simp
                  with_reducible rfl
                 rotate_left
                 ·simp only [Act.put, List.setIfInBounds_toArray, List.set_cons_zero, List.set_cons_succ, i64_w, i32_w]
                  rfl
                 refine pure_ (i := 7) (N := some 99) (v := ?_) (a' := ?_) #[true, true, true, true, true, true, true, true, false, false, false] rfl rfl (any_of HT_.out (by kernel_rfl)) (fun _ _ _ h => h) (Or.inl ⟨by rfl, ?_⟩) ?_ ?_
                 rotate_left
                 ·intro w'
                  go_simp
                  with_reducible rfl
                 rotate_left
                 ·simp only [Act.put, List.setIfInBounds_toArray, List.set_cons_zero, List.set_cons_succ, i64_w, i32_w]
                  rfl
                 refine pure_ (i := 8) (N := some 13) (v := ?_) (a' := ?_) #[true, true, true, true, true, true, true, true, true, false, false] rfl rfl (any_of HT_.out (by kernel_rfl)) (fun _ _ _ h => h) (Or.inl ⟨by rfl, ?_⟩) ?_ ?_
                 rotate_left
                 ·intro w'
                  go_simp
                  with_reducible rfl
                 rotate_left
                 ·simp only [Act.put, List.setIfInBounds_toArray, List.set_cons_zero, List.set_cons_succ, i64_w, i32_w]
                  rfl
                 refine pure_ (i := 9) (N := some 14) (v := ?_) (a' := ?_) #[true, true, true, true, true, true, true, true, true, true, false] rfl rfl (any_of HT_.out (by kernel_rfl)) (fun _ _ _ h => h) (Or.inl ⟨by rfl, ?_⟩) ?_ ?_
                 rotate_left
                 ·intro w'
                  go_simp
                  with_reducible rfl
                 rotate_left
                 ·simp only [Act.put, List.setIfInBounds_toArray, List.set_cons_zero, List.set_cons_succ, i64_w, i32_w]
                  rfl
                 refine pure_ (i := 10) (N := some 15) (v := ?_) (a' := ?_) #[true, true, true, true, true, true, true, true, true, true, true] rfl rfl (any_of HT_.out (by kernel_rfl)) (fun _ _ _ h => h) (Or.inl ⟨by rfl, ?_⟩) ?_ ?_
                 rotate_left
                 ·intro w'
                  go_simp
                  with_reducible rfl
                 rotate_left
                 ·simp only [Act.put, List.setIfInBounds_toArray, List.set_cons_zero, List.set_cons_succ, i64_w, i32_w]
                  rfl
                 refine done_ (done_of HT_.out (by kernel_rfl)) ?_
                 have hcz70_0 : w69.cell? ⟨gb381, 0, none⟩ = some (.int .i64 a0_0) := (blk_cell BK381.out 0).trans rfl
                 have hcz70_1 : w69.cell? ⟨gb381, 1, none⟩ = some (.string a0_1) := (blk_cell BK381.out 1).trans rfl
                 have hcz70_2 : w69.cell? ⟨gb381, 2, none⟩ = some (.string a0_2) := (blk_cell BK381.out 2).trans rfl
                 have hcz70_3 : w69.cell? ⟨gb381, 3, none⟩ = some (.slice A0_3 l0_3.length c0_3) := (blk_cell BK381.out 3).trans rfl
                 have hcz70_4 : w69.cell? ⟨gb381, 4, none⟩ = some (.slice A0_4 l0_4.length c0_4) := (blk_cell BK381.out 4).trans rfl
                 have hcz70_5 : w69.cell? ⟨gb381, 5, none⟩ = some (.bool a0_5) := (blk_cell BK381.out 5).trans rfl
                 have hfz70_0 := blk_frozen BK381.out 0
                 have hfz70_1 := blk_frozen BK381.out 1
                 have hfz70_2 := blk_frozen BK381.out 2
                 have hfz70_3 := blk_frozen BK381.out 3
                 have hfz70_4 := blk_frozen BK381.out 4
                 have hfz70_5 := blk_frozen BK381.out 5
                 obtain ⟨Ao71, co71, eo71⟩ := Kd.R_slice HO_9.out
                 subst eo71
                 try go_wp2_with (first | ((with_reducible refine gate_callee (f := 23) rfl ?_); refine goesL_ (some 104) rfl rfl Try.func23 (by kernel_rfl) rfl #[.slice Ao71 x9_2.length co71, .slice A0_4 l0_4.length c0_4] rfl (by (try simp only [List.map_toArray, List.map_cons, List.map_nil]); first | done | rfl | (simp only [List.length_drop, List.length_take]; rfl)) ?_; (with_reducible refine (quarryref03_Encode.calls k4 _ _ x9_2 _ _ l0_4 t405 t406 _ ?side1 ?side2 ?side3 ?side4 A42.out).mono ?_); (case side1 => repeat (first | exact (Kd.R_reads' HO_9.out).2.2 | (with_reducible refine Kd.C_alloc ?_ _) | (with_reducible refine Kd.C_drewN ?_ _) | (with_reducible refine Kd.C_drew ?_))); (case side2 => exact (Kd.R_reads' HO_9.out).2.1); (case side3 => repeat (first | exact (Kd.C_below HR0_4.out HB.out) | (with_reducible refine Kd.C_alloc ?_ _) | (with_reducible refine Kd.C_drewN ?_ _) | (with_reducible refine Kd.C_drew ?_))); (case side4 => exact HC0_4.out); rintro e w72 ⟨v407, rfl, ho0, hb⟩; refine ⟨_, rfl, ?_⟩; have n0_ := Aside0.mk (Kd.R_below (by (with_reducible repeat (first | apply Kd.R_alloc | apply Kd.R_drewN | apply Kd.R_drew)); exact HO_9.out) hb); have n1_ := Aside0.mk (Kd.R_below (by (with_reducible repeat (first | apply Kd.R_alloc | apply Kd.R_drewN | apply Kd.R_drew)); exact HO397.out) hb); have n2_ := Aside0.mk (Kd.R_elder' (by (with_reducible repeat (first | apply Kd.R_alloc | apply Kd.R_drewN | apply Kd.R_drew)); exact HO400.out) (Kd.R_base ho0) hb); have n3_ := Aside0.mk (Kd.R_elder' (by (with_reducible repeat (first | apply Kd.R_alloc | apply Kd.R_drewN | apply Kd.R_drew)); exact HO403.out) (Kd.R_base ho0) hb); have n4_ := Aside0.mk (Kd.R_lower (Kd.R_new' (Kd.R_new' ho0 (Kd.R_lt (by (with_reducible repeat (first | apply Kd.R_alloc | apply Kd.R_drewN | apply Kd.R_drew)); exact HO400.out))) (Kd.R_lt (by (with_reducible repeat (first | apply Kd.R_alloc | apply Kd.R_drewN | apply Kd.R_drew)); exact HO403.out))) (below_size (by repeat (first | (with_reducible first | exact HB.out | apply below_alloc | apply pw_below_drewN | apply below_drew1 | refine below_set ?_ GE381.out) | exact HB.out)))); have n5_ := Aside0.mk (blk_below (g := gb381) (o := .cells #[.int .i64 a0_0, .string a0_1, .string a0_2, .slice A0_3 l0_3.length c0_3, .slice A0_4 l0_4.length c0_4, .bool a0_5] 41 (0, 0)) (bk_ BK381) hb); have n6_ := Aside0.mk (below_step (by repeat (first | (with_reducible first | exact HB.out | apply below_alloc | apply pw_below_drewN | apply below_drew1 | refine below_set ?_ GE381.out) | exact HB.out)) hb); clear HO_9; clear HO397; clear HO400; clear HO403; clear BK381; clear HB; have HO_9 := n0_; have HO397 := n1_; have HO400 := n2_; have HO403 := n3_; have HO408 := n4_; have BK381 := n5_; have HB := n6_; clear n0_ n1_ n2_ n3_ n4_ n5_ n6_; (try clear hb); (try clear hb2); (try clear hk); (try clear hi); (try clear ho0); have hcv73 := own_string (P := Try.prog) Try.underlying44 Try.underlying5 Try.underlying9 (Kd.own_of_R HO408.out); have hcv74 := Kd.C_string (P := Try.prog) (A := A3) (c := c3) Try.underlying44 Try.underlying5 Try.underlying9 (Kd.C_below HR3.out HB.out); have hcv75 := own_string (P := Try.prog) Try.underlying44 Try.underlying5 Try.underlying9 (Kd.own_of_R HO400.out); have hcv76 := own_string (P := Try.prog) Try.underlying44 Try.underlying5 Try.underlying9 (Kd.own_of_R HO403.out)))
                 go_ret
                 exact ⟨by first | rfl | (simp [errW_none, errW_some] <;> rfl) | (simp [*, errW_none, errW_some] <;> rfl), by repeat (first | (with_reducible first | exact HB.out | apply below_alloc | apply pw_below_drewN | apply below_drew1 | refine below_set ?_ GE381.out) | exact HB.out)⟩
              ·rw [if_neg c43] at H
               cases H
 ·rw [if_neg c6] at H
  cases H
end Go.Proofs.Ytmfenomjhmhogaa.P
end
section
namespace Go.Proofs.Ytmfenomjhmhogaa.Pure
set_option linter.unusedVariables false
set_option linter.unusedSimpArgs false
open Go.RowKit Go.Proofs.Ytmfenomjhmhogaa.P Go.Proofs.YtmfenomjhmhogaaW.PrintWords Go.Proofs.YtmfenomjhmhogaaW.PrintLast Go.Proofs.YtmfenomjhmhogaaW.PrintMore
def BytesIn (l : List Int) : Prop := ∀ x ∈ l, 0 ≤ x ∧ x ≤ 255
def cmpL : List Int → List Int → Int
  | [], [] => 0
  | [], _ :: _ => -1
  | _ :: _, [] => 1
  | a :: l, b :: m => if a < b then -1 else if b < a then 1 else cmpL l m
def Diff (p q : List Int) (c : Int) : Prop := (c = 0 ∧ p = q) ∨ (c ≠ 0 ∧ ∃ u a b p' q', p = u ++ a :: p' ∧ q = u ++ b :: q' ∧ c = cmpI a b)
theorem Diff.refl (p : List Int) : Diff p p 0 := .inl ⟨rfl, rfl⟩
theorem Diff.head {a b : Int} (h : a ≠ b) (p q : List Int) : Diff (a :: p) (b :: q) (cmpI a b) := .inr ⟨by unfold cmpI; split <;> (try split) <;> omega, [], a, b, p, q, rfl, rfl, rfl⟩
theorem Diff.cons (a : Int) {p q : List Int} {c : Int} (h : Diff p q c) : Diff (a :: p) (a :: q) c := by
  rcases h with ⟨rfl, rfl⟩ | ⟨hc, u, x, y, p', q', rfl, rfl, h⟩
  · exact .inl ⟨rfl, rfl⟩
  · exact .inr ⟨hc, a :: u, x, y, p', q', rfl, rfl, h⟩
theorem cmpL_same (u p q : List Int) : cmpL (u ++ p) (u ++ q) = cmpL p q := by
  induction u with
  | nil => rfl
  | cons a u ih => simp [cmpL, ih]
theorem cmpL_self (u : List Int) : cmpL u u = 0 := by
  induction u with
  | nil => rfl
  | cons a u ih => simp [cmpL, ih]
theorem Diff.cmp {p q : List Int} {c : Int} (h : Diff p q c) (s t : List Int) : cmpL (p ++ s) (q ++ t) = if c = 0 then cmpL s t else c := by
  rcases h with ⟨rfl, rfl⟩ | ⟨hc, u, x, y, p', q', rfl, rfl, h⟩
  · rw [if_pos rfl, cmpL_same]
  · rw [if_neg hc, List.append_assoc, List.append_assoc, cmpL_same]
    subst h
    unfold cmpI at hc ⊢
    simp only [List.cons_append, cmpL]
    by_cases h1 : x < y
    · simp [h1]
    · by_cases h2 : y < x
      · simp [h1, h2]
      · simp [h1, h2] at hc
def flipL (l : List Int) : List Int := l.map (255 - ·)
theorem Diff.flip {p q : List Int} {c : Int} (h : Diff p q c) : Diff (flipL p) (flipL q) (-c) := by
  rcases h with ⟨rfl, rfl⟩ | ⟨hc, u, x, y, p', q', rfl, rfl, h⟩
  · exact .inl ⟨by omega, rfl⟩
  · refine .inr ⟨by omega, flipL u, 255 - x, 255 - y, flipL p', flipL q', by simp [flipL], by simp [flipL], ?_⟩
    rw [h]
    unfold cmpI
    by_cases h1 : x < y
    · have h2 : ¬ y < x := by omega
      have h3 : ¬ (255 - x < 255 - y) := by omega
      have h4 : 255 - y < 255 - x := by omega
      simp only [h1, h2, h3, h4, if_true, if_false]; omega
    · by_cases h2 : y < x
      · have h3 : (255 - x < 255 - y) := by omega
        simp only [h1, h2, h3, if_true, if_false]
      · have h3 : ¬ (255 - x < 255 - y) := by omega
        have h4 : ¬ (255 - y < 255 - x) := by omega
        simp only [h1, h2, h3, h4, if_false]; omega
theorem flipL_length (l : List Int) : (flipL l).length = l.length := by simp [flipL]
def esc : List UInt8 → List Int
  | [] => []
  | c :: l => if c = 0 then 0 :: 255 :: esc l else (c.toNat : Int) :: esc l
def be : Nat → Int → List Int
  | 0, _ => []
  | k + 1, n => (n / 256 ^ k) % 256 :: be k n
def payload (x : S25) : List Int := if x.f0 = 1 then [x.f1 % 256] else if x.f0 = 2 then be 8 (x.f1 + 9223372036854775808) else if x.f0 = 3 ∨ x.f0 = 4 then esc x.f2.data.toList ++ [0, 1] else []
def encB (x : S25) : List Int := (x.f0 + 1) % 256 :: payload x
def turnB (b : Bool) (l : List Int) : List Int := if b = true then flipL l else l
def chk (x : S25) : Int := chkV x.f0 x.f1 x.f2
def encE : List Bool → List S25 → Option (List Int)
  | _, [] => some []
  | d, x :: l => if chk x = 0 then (encE d.tail l).map (turnB (d.headD false) (encB x) ++ ·) else none
def encR (d : List Bool) (l : List S25) : List Int × Int := match encE d l with | none => ([], 3) | some b => (b, 0)
def room (l : List S25) : Nat := (l.map fun x => 2 * x.f2.size + 12).sum
def okV (x : S25) : Prop := I64 x.f0 ∧ I64 x.f1 ∧ x.f2.size ≤ 140737488351232
theorem be_length (k : Nat) (n : Int) : (be k n).length = k := by
  induction k with
  | zero => rfl
  | succ k ih => simp [be, ih]
theorem esc_length (l : List UInt8) : (esc l).length ≤ 2 * l.length := by
  induction l with
  | nil => simp [esc]
  | cons c l ih => unfold esc; split <;> simp <;> omega
theorem size_toList (s : ByteArray) : s.size = s.data.toList.length := by rw [Array.length_toList]; rfl
theorem encB_length (x : S25) : (encB x).length ≤ 2 * x.f2.size + 11 := by
  unfold encB payload
  have h := esc_length x.f2.data.toList
  rw [← size_toList] at h
  split
  · simp
  split
  · simp [be_length]
  split
  · simp; omega
  · simp
theorem turnB_length (b : Bool) (l : List Int) : (turnB b l).length = l.length := by unfold turnB; split <;> simp [flipL]
theorem encE_length : ∀ (l : List S25) (d : List Bool) {b : List Int}, encE d l = some b → b.length ≤ room l
  | [], d, b, h => by simp only [encE, Option.some.injEq] at h; subst h; simp
  | x :: l, d, b, h => by
    unfold encE at h
    split at h
    · obtain ⟨b', hb, rfl⟩ := Option.map_eq_some_iff.1 h
      have := encE_length l _ hb
      have h2 := encB_length x
      simp [room, turnB_length] at this ⊢
      omega
    · cases h
theorem be_range (k : Nat) (n : Int) : ∀ x ∈ be k n, 0 ≤ x ∧ x ≤ 255 := by
  induction k with
  | zero => intro x hx; simp [be] at hx
  | succ k ih =>
    intro x hx
    simp only [be, List.mem_cons] at hx
    rcases hx with rfl | hx
    · omega
    · exact ih x hx
theorem esc_range (l : List UInt8) : ∀ x ∈ esc l, 0 ≤ x ∧ x ≤ 255 := by
  induction l with
  | nil => intro x hx; simp [esc] at hx
  | cons c l ih =>
    intro x hx
    unfold esc at hx
    have hc := c.toNat_lt
    split at hx
    · simp only [List.mem_cons] at hx
      rcases hx with rfl | rfl | hx
      · omega
      · omega
      · exact ih x hx
    · simp only [List.mem_cons] at hx
      rcases hx with rfl | hx
      · omega
      · exact ih x hx
theorem payload_range (x : S25) : BytesIn (payload x) := by
  unfold payload
  intro y hy
  split at hy
  · simp at hy; omega
  split at hy
  · exact be_range _ _ y hy
  split at hy
  · simp only [List.mem_append, List.mem_cons, List.not_mem_nil, or_false] at hy
    rcases hy with hy | rfl | rfl
    · exact esc_range _ y hy
    · omega
    · omega
  · simp at hy
theorem encB_range (x : S25) : BytesIn (encB x) := by
  intro y hy
  simp only [encB, List.mem_cons] at hy
  rcases hy with rfl | hy
  · omega
  · exact payload_range x y hy
theorem turnB_range (b : Bool) {l : List Int} (h : BytesIn l) : BytesIn (turnB b l) := by
  unfold turnB
  split
  · intro y hy
    simp only [flipL, List.mem_map] at hy
    obtain ⟨x, hx, rfl⟩ := hy
    have := h x hx
    omega
  · exact h
theorem encE_range : ∀ (l : List S25) (d : List Bool) {b : List Int}, encE d l = some b → BytesIn b
  | [], d, b, h => by simp only [encE, Option.some.injEq] at h; subst h; intro x hx; simp at hx
  | x :: l, d, b, h => by
    unfold encE at h
    split at h
    · obtain ⟨b', hb, rfl⟩ := Option.map_eq_some_iff.1 h
      intro y hy
      rcases List.mem_append.1 hy with hy | hy
      · exact turnB_range _ (encB_range x) y hy
      · exact encE_range l _ hb y hy
    · cases h
theorem chk_kind {x : S25} (h : chk x = 0) : 0 ≤ x.f0 ∧ x.f0 ≤ 4 := by
  unfold chk chkV at h
  by_cases h0 : x.f0 = 0
  · omega
  by_cases h1 : x.f0 = 1
  · omega
  by_cases h2 : x.f0 = 2
  · omega
  by_cases h3 : x.f0 = 3 ∨ x.f0 = 4
  · omega
  · simp [h0, h1, h2, h3] at h
theorem nil_of_toList {s : ByteArray} (h : s.toList = []) : s = V0 := by
  refine toList_inj ?_
  rw [h, Go.ByteArray.toList_eq]
  rfl
theorem chk_one {x : S25} (h : chk x = 0) (h1 : x.f0 = 1) : (x.f1 = 0 ∨ x.f1 = 1) ∧ x.f2 = V0 := by
  unfold chk chkV at h
  have h0 : ¬ x.f0 = 0 := by omega
  simp only [h1] at h
  by_cases e : (x.f1 = 0 ∨ x.f1 = 1) ∧ x.f2.toList = []
  · exact ⟨e.1, nil_of_toList e.2⟩
  · simp [e] at h
end Go.Proofs.Ytmfenomjhmhogaa.Pure
end
section
namespace Go.Proofs.Ytmfenomjhmhogaa.Pure
set_option linter.unusedVariables false
set_option linter.unusedSimpArgs false
open Go.RowKit Go.Proofs.Ytmfenomjhmhogaa.P Go.Proofs.YtmfenomjhmhogaaW.PrintWords Go.Proofs.YtmfenomjhmhogaaW.PrintLast Go.Proofs.YtmfenomjhmhogaaW.PrintMore
theorem xor_top (m : Nat) (h : m < 18446744073709551616) : m ^^^ 9223372036854775808 = (9223372036854775808 + m) % 18446744073709551616 := by
  have e : (9223372036854775808 : Nat) = 2 ^ 63 := by decide
  have e2 : (18446744073709551616 : Nat) = 2 ^ 64 := by decide
  rw [e2] at h ⊢
  rw [e]
  refine Nat.eq_of_testBit_eq fun j => ?_
  rw [Nat.testBit_xor, Nat.testBit_mod_two_pow, Nat.testBit_two_pow]
  rcases Nat.lt_trichotomy j 63 with hj | hj | hj
  · rw [Nat.testBit_two_pow_add_gt hj]
    have : decide (j < 64) = true := decide_eq_true (by omega)
    have h2 : decide (63 = j) = false := decide_eq_false (by omega)
    rw [this, h2]; simp
  · subst hj
    rw [Nat.testBit_two_pow_add_eq]
    simp
  · have h1 : decide (j < 64) = false := decide_eq_false (by omega)
    have h2 : decide (63 = j) = false := decide_eq_false (by omega)
    have h3 : m.testBit j = false := Nat.testBit_lt_two_pow (Nat.lt_of_lt_of_le h (Nat.pow_le_pow_right (by decide) (by omega)))
    rw [h1, h2, h3]; rfl
theorem turned_is (d : List Bool) (n : Nat) : keys_turned.f d (n : Int) = some (d.getD n false) := by
  unfold keys_turned.f rdOf
  by_cases h : n < d.length
  · have h1 : (n : Int) < (d.length : Int) := by omega
    have h2 : (0 : Int) ≤ (n : Int) := by omega
    simp [h1, h2]
  · have h1 : ¬ (n : Int) < (d.length : Int) := by omega
    simp only [h1, if_false]
    rw [List.getD_eq_getElem?_getD, List.getElem?_eq_none (by omega)]
    rfl
theorem check_f (x : S25) : value_Check.f x.f0 x.f1 x.f2 = some (chk x) := rfl
theorem fx_is {c : Int} (h0 : 0 ≤ c) (h1 : c ≤ 255) : fx c = 255 - c := by
  obtain ⟨m, rfl⟩ := Int.eq_ofNat_of_zero_le h0
  have hm : m < 256 := by omega
  have h4 : ∀ m : Fin 256, fx ((m.val : Nat) : Int) = 255 - ((m.val : Nat) : Int) := by decide +kernel
  exact h4 ⟨m, hm⟩
theorem fx_map {l : List Int} (h : BytesIn l) : l.map fx = flipL l := by
  unfold flipL
  refine List.map_congr_left fun x hx => ?_
  have := h x hx
  exact fx_is this.1 this.2
theorem sign_xor {n : Int} (h : I64 n) : Go.bits .xor .u64 (IntKind.u64.wrap n) 9223372036854775808 = n + 9223372036854775808 := by
  obtain ⟨h0, h1⟩ := h
  obtain ⟨m, hm⟩ : ∃ m : Nat, IntKind.u64.wrap n = (m : Int) ∧ m < 18446744073709551616 := by
    rw [IntKind.wrap_u64]
    exact ⟨(n % 18446744073709551616).toNat, by omega, by omega⟩
  have hv : (BitVec.ofInt 64 ((m : Nat) : Int)) = BitVec.ofNat 64 m := BitVec.ofInt_natCast ..
  have hs : BitVec.ofInt 64 9223372036854775808 = BitVec.ofNat 64 9223372036854775808 := by decide
  rw [hm.1]
  show IntKind.u64.wrap ((BitVec.ofInt 64 ((m : Nat) : Int) ^^^ BitVec.ofInt 64 9223372036854775808).toNat : Int) = _
  rw [hv, hs, BitVec.toNat_xor, BitVec.toNat_ofNat, BitVec.toNat_ofNat, Nat.mod_eq_of_lt hm.2, Nat.mod_eq_of_lt (by decide), xor_top m hm.2]
  have h2 := hm.1
  rw [IntKind.wrap_u64] at h2 ⊢
  omega
theorem sign_add {n : Int} (h : I64 n) : IntKind.u64.wrap (IntKind.u64.wrap n + 9223372036854775808) = n + 9223372036854775808 := by
  obtain ⟨h0, h1⟩ := h
  rw [IntKind.wrap_u64, IntKind.wrap_u64]
  omega
theorem put_num (acc : List Int) (n : Int) (hl : acc.length + 8 < 140737488355328) : Ev (fun k => keys_put.l0 k acc n 0) (acc ++ be 8 n) := by
  have hw : ∀ i : Nat, i < 8 → wrap64 (56 - wrap64 (8 * (i : Int))) = 56 - 8 * (i : Int) := by intro i hi; unfold wrap64; omega
  have key : ∀ (j : Nat) (acc' : List Int), j ≤ 8 → acc'.length + j < 140737488355328 → Ev (fun k => keys_put.l0 k acc' n ((8 - j : Nat) : Int)) (acc' ++ be j n) := by
    intro j
    induction j with
    | zero =>
      intro acc' _ _
      refine Ev.succ ?_
      have e : ¬ (((8 - 0 : Nat) : Int) < 8) := by omega
      simp only [keys_put.l0, e, if_false, be, List.append_nil]
      exact Ev.pure _
    | succ j ih =>
      intro acc' hj hl'
      refine Ev.succ ?_
      have e : (((8 - (j + 1) : Nat) : Int) < 8) := by omega
      have e1 := hw (8 - (j + 1)) (by omega)
      have e2 : (0 : Int) ≤ 56 - 8 * ((8 - (j + 1) : Nat) : Int) := by omega
      have e3 : acc'.length < 140737488355328 := by omega
      have e4 : wrap64 (((8 - (j + 1) : Nat) : Int) + 1) = ((8 - j : Nat) : Int) := by unfold wrap64; omega
      simp only [keys_put.l0, e, e1, e2, e3, e4, if_true]
      have e5 : shr .u64 n (56 - 8 * ((8 - (j + 1) : Nat) : Int)) = n / 256 ^ j := by
        unfold shr
        have : min (56 - 8 * ((8 - (j + 1) : Nat) : Int)).toNat IntKind.u64.bits = 8 * j := by
          show min _ 64 = _
          omega
        rw [this, Int.pow_mul]
        rfl
      rw [e5]
      have := ih (acc' ++ [n / 256 ^ j % 256]) (by omega) (by simp; omega)
      simpa [be] using this
  exact key 8 acc (by omega) hl
theorem put_text (s : ByteArray) (a : Int) (b : Int) (hs : s.size ≤ 140737488351232) : ∀ (suf pre : List UInt8) (acc : List Int), s.data.toList = pre ++ suf → acc.length + 2 * suf.length + 2 < 140737488355328 →
    Ev (fun k => keys_put.l1 k acc (s.size : Int) (pre.length : Int) a b s) (acc ++ (esc suf ++ [0, 1])) := by
  intro suf
  induction suf with
  | nil =>
    intro pre acc he hl
    have hz := size_toList s
    rw [he] at hz
    simp only [List.append_nil] at hz
    refine Ev.succ ?_
    have e : ¬ ((pre.length : Int) < (s.size : Int)) := by omega
    have e2 : acc.length + [(0 : Int), 1].length < 140737488355328 := by simp at hl ⊢; omega
    simp only [keys_put.l1, e, if_false, Option.bind_some, e2, if_true, esc, List.nil_append]
    exact Ev.pure _
  | cons c suf ih =>
    intro pre acc he hl
    have hz := size_toList s
    rw [he] at hz
    simp only [List.length_append, List.length_cons] at hz hl
    refine Ev.succ ?_
    have e : ((pre.length : Int) < (s.size : Int)) := by omega
    have e1 : (0 : Int) ≤ (pre.length : Int) := by omega
    have e2 : acc.length < 140737488355328 := by omega
    have e3 : (acc ++ [(c.toNat : Int)]).length < 140737488355328 := by simp; omega
    have e4 : wrap64 ((pre.length : Int) + 1) = (pre.length : Int) + 1 := wrap64_in (by omega) (by omega)
    have e5 := bt_at' s pre c suf he
    simp only [keys_put.l1, e, e1, e2, if_true, Option.bind_some, e4, e5]
    by_cases h : (c.toNat : Int) = 0
    · have hc : c = 0 := UInt8.toNat_inj.1 (by show c.toNat = 0; omega)
      simp only [h, if_true]
      have e6 : (acc ++ [(0 : Int)]).length < 140737488355328 := by simp; omega
      simp only [e6, if_true]
      have := ih (pre ++ [c]) (acc ++ [0] ++ [255]) (by simpa using he) (by simp; omega)
      rw [show esc (c :: suf) = 0 :: 255 :: esc suf by rw [esc, if_pos hc]]
      simpa using this
    · have hc : ¬ c = 0 := fun e => h (by subst e; rfl)
      simp only [h, if_false]
      have := ih (pre ++ [c]) (acc ++ [(c.toNat : Int)]) (by simpa using he) (by simp; omega)
      rw [show esc (c :: suf) = (c.toNat : Int) :: esc suf by rw [esc, if_neg hc]]
      simpa using this
theorem put_ev (x : S25) (acc : List Int) (h : okV x) (hc : chk x = 0) (hl : acc.length + 2 * x.f2.size + 11 < 140737488355328) : Ev (fun k => keys_put.f k acc x.f0 x.f1 x.f2) (acc ++ payload x) := by
  have hk := chk_kind hc
  unfold keys_put.f payload
  by_cases h1 : x.f0 = 1
  · have e : acc.length < 140737488355328 := by omega
    simp only [h1, if_true, e]
    exact Ev.pure _
  by_cases h2 : x.f0 = 2
  · have h12 : ¬ (2 : Int) = 1 := by decide
    simp only [h2, h12, if_true, if_false, sign_xor h.2.1]
    exact put_num acc _ (by omega)
  have hz := size_toList x.f2
  by_cases h3 : x.f0 = 3
  · have e1 : ¬ (3 : Int) = 1 := by decide
    have e2 : ¬ (3 : Int) = 2 := by decide
    have e3 : ((3 : Int) = 3 ∨ (3 : Int) = 4) = True := by simp
    simp only [h3, e1, e2, e3, if_false, if_true]
    refine Ev.succ ?_
    simp only [keys_put.j1, beq_self_eq_true, if_true]
    have := put_text x.f2 3 x.f1 h.2.2 x.f2.data.toList [] acc rfl (by omega)
    simpa using this
  by_cases h4 : x.f0 = 4
  · have e1 : ¬ (4 : Int) = 1 := by decide
    have e2 : ¬ (4 : Int) = 2 := by decide
    have e3 : ¬ (4 : Int) = 3 := by decide
    have e4 : ((4 : Int) = 3 ∨ (4 : Int) = 4) = True := by simp
    simp only [h4, e1, e2, e3, e4, if_false, if_true]
    refine Ev.succ ?_
    simp only [keys_put.j1, beq_self_eq_true, if_true]
    have := put_text x.f2 4 x.f1 h.2.2 x.f2.data.toList [] acc rfl (by omega)
    simpa using this
  · have h0 : x.f0 = 0 := by omega
    have e1 : ¬ (0 : Int) = 1 := by decide
    have e2 : ¬ (0 : Int) = 2 := by decide
    have e3 : ¬ (0 : Int) = 3 := by decide
    have e4 : ((0 : Int) == 4) = false := by decide
    simp only [h0, e1, e2, e3, if_false]
    refine Ev.succ ?_
    simp only [keys_put.j1, e4, Bool.false_eq_true, if_false]
    simp
    exact Ev.pure _
theorem turned_at (d : List Bool) (pre suf : List Bool) (n : Nat) (hd : d = pre ++ suf) (hn : pre.length = n ∨ (pre.length < n ∧ suf = [])) : keys_turned.f d (n : Int) = some (suf.headD false) := by
  rw [turned_is]
  subst hd
  rcases hn with rfl | ⟨hn, rfl⟩
  · cases suf with
    | nil => simp
    | cons c suf => simp
  · rw [List.append_nil, List.getD_eq_getElem?_getD, List.getElem?_eq_none (by omega)]
    rfl
theorem desc_next (pre suf : List Bool) (n : Nat) (hn : pre.length = n ∨ (pre.length < n ∧ suf = [])) : ∃ pre', pre' ++ suf.tail = pre ++ suf ∧ (pre'.length = n + 1 ∨ (pre'.length < n + 1 ∧ suf.tail = [])) := by
  cases suf with
  | nil => exact ⟨pre, rfl, .inr ⟨by rcases hn with h | h <;> omega, rfl⟩⟩
  | cons c suf =>
    rcases hn with h | ⟨_, h⟩
    · exact ⟨pre ++ [c], by simp, .inl (by simp; omega)⟩
    · cases h
theorem wrap_kind {x : S25} (hc : chk x = 0) : wrap64 (x.f0 + 1) % 256 = (x.f0 + 1) % 256 := by
  have := chk_kind hc
  rw [wrap64_in (by omega) (by omega)]
theorem encode_loop : ∀ (suf pre : List S25) (pd d : List Bool) (acc : List Int), (∀ x ∈ suf, okV x) → (pre ++ suf).length < 140737488355328 → acc.length + room suf < 140737488355328 → (pd.length = pre.length ∨ (pd.length < pre.length ∧ d = [])) →
    Ev (fun k => keys_Encode.l0 k (pd ++ d) acc (pre ++ suf) ((pre ++ suf).length : Int) (pre.length : Int)) (match encE d suf with | none => ([], 3) | some b => (acc ++ b, 0)) := by
  intro suf
  induction suf with
  | nil =>
    intro pre pd d acc _ hl _ _
    refine Ev.succ ?_
    simp [keys_Encode.l0, encE]
    exact Ev.pure _
  | cons x suf ih =>
    intro pre pd d acc hx hl hr hd
    refine Ev.succ ?_
    have e1 : (pre.length : Int) < ((pre ++ x :: suf).length : Int) := by simp; omega
    have e2 : (0 : Int) ≤ (pre.length : Int) := by omega
    simp only [keys_Encode.l0, e1, e2, if_true, rd_at, check_f, Option.bind_some]
    by_cases hc : chk x = 0
    · rw [encE, if_pos hc]
      have hx0 := hx x (by simp)
      have hb := encB_length x
      simp only [room, List.map_cons, List.sum_cons] at hr
      have e3 : acc.length < 140737488355328 := by omega
      have e6 : wrap64 ((pre.length : Int) + 1) = (pre.length : Int) + 1 := wrap64_in (by omega) (by simp at hl; omega)
      simp only [hc, e3, if_true, wrap_kind hc, e6]
      refine Ev.bind (put_ev x (acc ++ [(x.f0 + 1) % 256]) hx0 hc (by rw [List.length_append]; simp; omega)) ?_
      rw [turned_at (pd ++ d) pd d pre.length rfl hd]
      simp only [Option.bind_some]
      have ea : acc ++ [(x.f0 + 1) % 256] ++ payload x = acc ++ encB x := by simp [encB]
      rw [ea]
      obtain ⟨pd', hpd, hn⟩ := desc_next pd d pre.length hd
      have hgo : ∀ b : Bool, d.headD false = b → Ev (fun k => keys_Encode.l0 k (pd ++ d) (acc ++ turnB b (encB x)) (pre ++ x :: suf) ((pre ++ x :: suf).length : Int) ((pre.length : Int) + 1)) (match (encE d.tail suf).map (turnB b (encB x) ++ ·) with | none => ([], 3) | some b => (acc ++ b, 0)) := by
        intro b _
        have := ih (pre ++ [x]) pd' d.tail (acc ++ turnB b (encB x)) (fun y hy => hx y (by simp [hy])) (by simpa using hl) (by rw [List.length_append, turnB_length]; unfold room; omega) (by simpa using hn)
        rw [hpd] at this
        cases he : encE d.tail suf with
        | none => rw [he] at this; simpa using this
        | some c => rw [he] at this; simpa using this
      cases hh : d.headD false with
      | false =>
        simp only [Bool.false_eq_true, if_false]
        exact hgo false hh
      | true =>
        simp only [if_true]
        have e8 : acc.length < (acc ++ encB x).length := by rw [List.length_append]; simp [encB]
        have e9 : (acc ++ encB x).take acc.length ++ ((acc ++ encB x).drop acc.length).map fx = acc ++ turnB true (encB x) := by
          rw [List.take_left' rfl, List.drop_left' rfl, fx_map (encB_range x)]
          rfl
        simp only [e8, if_true, e9]
        exact hgo true hh
    · rw [encE, if_neg hc]
      simp only [hc, if_false]
      exact Ev.pure _
theorem encode_ev (l : List S25) (d : List Bool) (hx : ∀ x ∈ l, okV x) (hl : l.length < 140737488355328) (hr : room l < 140737488355328) : Ev (fun k => keys_Encode.f k l d) (encR d l) := by
  unfold keys_Encode.f encR
  have := encode_loop l [] [] d [] hx (by simpa using hl) (by simpa using hr) (.inl rfl)
  cases he : encE d l with
  | none => rw [he] at this; simpa using this
  | some b => rw [he] at this; simpa using this
theorem rdI_at (pre : List Int) (x : Int) (suf : List Int) : rd (pre ++ x :: suf) (pre.length : Int) = x := by
  unfold rd
  simp
end Go.Proofs.Ytmfenomjhmhogaa.Pure
end
section
namespace Go.Proofs.Ytmfenomjhmhogaa.Pure
set_option linter.unusedVariables false
set_option linter.unusedSimpArgs false
open Go.RowKit Go.Proofs.Ytmfenomjhmhogaa.P Go.Proofs.YtmfenomjhmhogaaW.PrintWords Go.Proofs.YtmfenomjhmhogaaW.PrintLast Go.Proofs.YtmfenomjhmhogaaW.PrintMore
def trim : List Int → List Int
  | [] => []
  | c :: l => if trim l = [] ∧ c = 255 then [] else c :: trim l
def bump : List Int → List Int
  | [] => []
  | [c] => [(c + 1) % 256]
  | c :: d :: l => c :: bump (d :: l)
def nextB (l : List Int) : List Int × Bool := if trim l = [] then ([], false) else (bump (trim l), true)
theorem trim_snoc_255 (l : List Int) : trim (l ++ [255]) = trim l := by
  induction l with
  | nil => simp [trim]
  | cons c l ih => simp only [List.cons_append, trim, ih]
theorem trim_snoc (l : List Int) (c : Int) (h : c ≠ 255) : trim (l ++ [c]) = l ++ [c] := by
  induction l with
  | nil => simp [trim, h]
  | cons d l ih => simp [List.cons_append, trim, ih]
theorem bump_snoc (l : List Int) (c : Int) : bump (l ++ [c]) = l ++ [(c + 1) % 256] := by
  induction l with
  | nil => rfl
  | cons d l ih =>
    cases l with
    | nil => rfl
    | cons e l => simp only [List.cons_append, bump] at ih ⊢; rw [ih]
theorem clone_f (l : List Int) (hl : l.length < 140737488355328) : slices_Clone_byte_byte.f l = some l := by unfold slices_Clone_byte_byte.f; rw [if_pos hl]
theorem next_loop (b : List Int) (hl : b.length < 140737488355328) : ∀ (n : Nat), n ≤ b.length → trim b = trim (b.take n) → Ev (fun k => keys_Next.l0 k b (n : Int)) (nextB b) := by
  intro n
  induction n with
  | zero =>
    intro _ ht
    refine Ev.succ ?_
    have e : ¬ (((0 : Nat) : Int) > 0) := by omega
    have e2 : ((0 : Nat) : Int) = 0 := rfl
    have h0 : trim b = [] := by rw [ht]; rfl
    unfold nextB
    simp only [keys_Next.l0, e, if_false, e2, if_true, h0]
    exact Ev.pure _
  | succ n ih =>
    intro hn ht
    refine Ev.succ ?_
    have e : (((n + 1 : Nat) : Int) > 0) := by omega
    have e1 : wrap64 (((n + 1 : Nat) : Int) - 1) = (n : Int) := by unfold wrap64; omega
    have e2 : (0 : Int) ≤ (n : Int) := by omega
    have e3 : (n : Int) < (b.length : Int) := by omega
    have hlt : n < b.length := by omega
    have htk : b.take (n + 1) = b.take n ++ [b[n]] := by rw [List.take_succ_eq_append_getElem hlt]
    have hbn : rd b (n : Int) = b[n] := by
      unfold rd
      rw [Int.toNat_natCast, List.getD_eq_getElem?_getD, List.getElem?_eq_getElem hlt]
      rfl
    simp only [keys_Next.l0, e, e1, e2, e3, if_true, hbn]
    by_cases h : b[n] = 255
    · simp only [h, if_true]
      rw [htk, h, trim_snoc_255] at ht
      exact ih (by omega) ht
    · have hne : ¬ ((n + 1 : Nat) : Int) = 0 := by omega
      have e4 : (0 : Int) ≤ ((n + 1 : Nat) : Int) := by omega
      have e5 : ((n + 1 : Nat) : Int) ≤ (b.length : Int) := by omega
      have e6 : (n : Int) < ((b.take (n + 1)).length : Int) := by rw [List.length_take]; omega
      rw [htk, trim_snoc _ _ h] at ht
      have hnb : nextB b = (b.take n ++ [(b[n] + 1) % 256], true) := by
        unfold nextB
        rw [ht, if_neg (by intro h0; have h1 := congrArg List.length h0; rw [List.length_append, List.length_cons, List.length_nil] at h1; omega), bump_snoc]
      have hset : (b.take (n + 1)).set n ((rd (b.take (n + 1)) (n : Int) + 1) % 256) = b.take n ++ [(b[n] + 1) % 256] := by
        have hr : rd (b.take (n + 1)) (n : Int) = b[n] := by
          rw [htk]
          have := rdI_at (b.take n) b[n] []
          rw [List.length_take, Nat.min_eq_left (by omega)] at this
          exact this
        rw [hr, htk, List.set_append_right _ _ (by rw [List.length_take]; omega)]
        rw [List.length_take, Nat.min_eq_left (by omega), Nat.sub_self]
        rfl
      simp only [h, if_false, hne, e4, e5, if_true, Int.toNat_natCast, clone_f (b.take (n + 1)) (by rw [List.length_take]; omega), Option.bind_some, e6, hset]
      rw [hnb]
      exact Ev.pure _
theorem next_ev (b : List Int) (hl : b.length < 140737488355328) : Ev (fun k => keys_Next.f k b) (nextB b) := by
  unfold keys_Next.f
  exact next_loop b hl b.length (Nat.le_refl _) (by rw [List.take_length])
end Go.Proofs.Ytmfenomjhmhogaa.Pure
end
section
namespace Go.Proofs.Ytmfenomjhmhogaa.Pure
set_option linter.unusedVariables false
set_option linter.unusedSimpArgs false
open Go.RowKit Go.Proofs.Ytmfenomjhmhogaa.P Go.Proofs.YtmfenomjhmhogaaW.PrintWords Go.Proofs.YtmfenomjhmhogaaW.PrintLast Go.Proofs.YtmfenomjhmhogaaW.PrintMore
theorem cmpI_self (a : Int) : cmpI a a = 0 := by unfold cmpI; simp
theorem cmpI_shift (a b c : Int) : cmpI (a + c) (b + c) = cmpI a b := by
  unfold cmpI
  by_cases h1 : a < b
  · have : a + c < b + c := by omega
    simp [h1, this]
  · have : ¬ a + c < b + c := by omega
    by_cases h2 : b < a
    · have h3 : b + c < a + c := by omega
      simp [h1, h2, h3, this]
    · have h3 : ¬ b + c < a + c := by omega
      simp [h1, h2, h3, this]
theorem be_mod (k : Nat) : ∀ (j : Nat) (n : Int), j ≤ k → be j (n % 256 ^ k) = be j n := by
  intro j
  induction j with
  | zero => intro n _; rfl
  | succ j ih =>
    intro n hj
    simp only [be]
    rw [ih n (by omega)]
    congr 1
    obtain ⟨i, rfl⟩ : ∃ i, k = j + 1 + i := ⟨k - (j + 1), by omega⟩
    have hp : (0 : Int) < 256 ^ j := Int.pow_pos (by decide)
    have e : (256 : Int) ^ (j + 1 + i) = 256 ^ j * (256 * 256 ^ i) := by rw [Int.pow_add, Int.pow_add, Int.pow_one, Int.mul_assoc]
    have h1 : n % 256 ^ (j + 1 + i) = n - 256 ^ j * (256 * 256 ^ i * (n / (256 ^ (j + 1 + i)))) := by
      rw [Int.emod_def]
      generalize n / 256 ^ (j + 1 + i) = q
      rw [e, Int.mul_assoc]
    rw [h1]
    have h2 : n - 256 ^ j * (256 * 256 ^ i * (n / (256 ^ (j + 1 + i)))) = n + 256 ^ j * (-(256 * 256 ^ i * (n / (256 ^ (j + 1 + i))))) := by rw [Int.mul_neg]; omega
    rw [h2, Int.add_mul_ediv_left _ _ (by omega)]
    have h3 : -(256 * 256 ^ i * (n / (256 ^ (j + 1 + i)))) = 256 * (-(256 ^ i * (n / (256 ^ (j + 1 + i))))) := by rw [Int.mul_neg, Int.mul_assoc]
    rw [h3, Int.add_mul_emod_self_left]
theorem be_diff : ∀ (k : Nat) (m n : Int), 0 ≤ m → m < 256 ^ k → 0 ≤ n → n < 256 ^ k → Diff (be k m) (be k n) (cmpI m n) := by
  intro k
  induction k with
  | zero =>
    intro m n h0 h1 h2 h3
    simp only [Int.pow_zero] at h1 h3
    have : m = n := by omega
    subst this
    rw [cmpI_self]
    exact Diff.refl _
  | succ k ih =>
    intro m n h0 h1 h2 h3
    have hp : (0 : Int) < 256 ^ k := Int.pow_pos (by decide)
    rw [Int.pow_succ] at h1 h3
    have hm : m / 256 ^ k < 256 := Int.ediv_lt_of_lt_mul hp (by omega)
    have hn : n / 256 ^ k < 256 := Int.ediv_lt_of_lt_mul hp (by omega)
    have hm0 : 0 ≤ m / 256 ^ k := Int.ediv_nonneg h0 (by omega)
    have hn0 : 0 ≤ n / 256 ^ k := Int.ediv_nonneg h2 (by omega)
    simp only [be]
    rw [Int.emod_eq_of_lt hm0 hm, Int.emod_eq_of_lt hn0 hn]
    have em := Int.mul_ediv_add_emod m (256 ^ k)
    have en := Int.mul_ediv_add_emod n (256 ^ k)
    have rm0 := Int.emod_nonneg m (show (256 : Int) ^ k ≠ 0 by omega)
    have rn0 := Int.emod_nonneg n (show (256 : Int) ^ k ≠ 0 by omega)
    have rm1 := Int.emod_lt_of_pos m hp
    have rn1 := Int.emod_lt_of_pos n hp
    generalize m / 256 ^ k = q at *
    generalize n / 256 ^ k = r at *
    by_cases e : q = r
    · subst e
      have := ih (m % 256 ^ k) (n % 256 ^ k) rm0 rm1 rn0 rn1
      rw [be_mod k k m (Nat.le_refl _), be_mod k k n (Nat.le_refl _)] at this
      have hc : cmpI (m % 256 ^ k) (n % 256 ^ k) = cmpI m n := by
        have := cmpI_shift (m % 256 ^ k) (n % 256 ^ k) (256 ^ k * q)
        rw [← this]
        congr 1 <;> omega
      rw [← hc]
      exact Diff.cons _ this
    · have hc : cmpI m n = cmpI q r := by
        generalize hP : (256 : Int) ^ k = P at *
        unfold cmpI
        rcases Int.lt_or_gt_of_ne e with h | h
        · have : P * q + P ≤ P * r := by
            have : P * (q + 1) ≤ P * r := Int.mul_le_mul_of_nonneg_left (by omega) (by omega)
            rw [Int.mul_add, Int.mul_one] at this
            exact this
          have h4 : m < n := by omega
          simp [h, h4]
        · have : P * r + P ≤ P * q := by
            have : P * (r + 1) ≤ P * q := Int.mul_le_mul_of_nonneg_left (by omega) (by omega)
            rw [Int.mul_add, Int.mul_one] at this
            exact this
          have h4 : n < m := by omega
          have h5 : ¬ m < n := by omega
          have h6 : ¬ q < r := by omega
          simp [h, h4, h5, h6]
      rw [hc]
      exact Diff.head e _ _
theorem u8_lt {x y : UInt8} : x < y ↔ (x.toNat : Int) < (y.toNat : Int) := by rw [UInt8.lt_iff_toNat_lt]; omega
theorem u8_zero {x : UInt8} : x = 0 ↔ (x.toNat : Int) = 0 := by
  constructor
  · rintro rfl; rfl
  · intro h
    exact UInt8.toNat_inj.1 (by show x.toNat = 0; omega)
theorem esc_diff : ∀ a b : List UInt8, Diff (esc a ++ [0, 1]) (esc b ++ [0, 1]) (Lib.compareBytes a b)
  | [], [] => Diff.refl _
  | [], y :: b => by
    show Diff [0, 1] (esc (y :: b) ++ [0, 1]) (-1)
    unfold esc
    by_cases h : y = 0
    · rw [if_pos h]
      exact Diff.cons 0 (Diff.head (a := 1) (b := 255) (by decide) _ _)
    · rw [if_neg h]
      have hz : ¬ (y.toNat : Int) = 0 := fun e => h (u8_zero.2 e)
      have := Diff.head (a := 0) (b := (y.toNat : Int)) (by omega) [1] (esc b ++ [0, 1])
      have e : cmpI 0 (y.toNat : Int) = -1 := by unfold cmpI; rw [if_pos (by omega)]
      rw [e] at this
      exact this
  | x :: a, [] => by
    show Diff (esc (x :: a) ++ [0, 1]) [0, 1] 1
    unfold esc
    by_cases h : x = 0
    · rw [if_pos h]
      exact Diff.cons 0 (Diff.head (a := 255) (b := 1) (by decide) _ _)
    · rw [if_neg h]
      have hz : ¬ (x.toNat : Int) = 0 := fun e => h (u8_zero.2 e)
      have := Diff.head (a := (x.toNat : Int)) (b := 0) (by omega) (esc a ++ [0, 1]) [1]
      have e : cmpI (x.toNat : Int) 0 = 1 := by unfold cmpI; rw [if_neg (by omega), if_pos (by omega)]
      rw [e] at this
      exact this
  | x :: a, y :: b => by
    unfold Lib.compareBytes
    by_cases e : x = y
    · subst e
      have hn : ¬ x < x := UInt8.lt_irrefl x
      rw [if_neg hn, if_neg hn]
      unfold esc
      split
      · exact Diff.cons _ (Diff.cons _ (esc_diff a b))
      · exact Diff.cons _ (esc_diff a b)
    · have hne : ¬ (x.toNat : Int) = (y.toNat : Int) := fun h => e (UInt8.toNat_inj.1 (by omega))
      have hc : (if x < y then (-1 : Int) else if y < x then 1 else Lib.compareBytes a b) = cmpI (x.toNat : Int) (y.toNat : Int) := by
        unfold cmpI
        by_cases h1 : x < y
        · have := u8_lt.1 h1; simp [h1, this]
        · have h1' : ¬ (x.toNat : Int) < (y.toNat : Int) := fun h => h1 (u8_lt.2 h)
          have h2' : (y.toNat : Int) < (x.toNat : Int) := by omega
          have h2 := u8_lt.2 h2'
          simp [h1, h1', h2, h2']
      rw [hc]
      have hd : ∀ (p q : List Int), Diff ((x.toNat : Int) :: p) ((y.toNat : Int) :: q) (cmpI (x.toNat : Int) (y.toNat : Int)) := fun p q => Diff.head hne p q
      unfold esc
      by_cases hx : x = 0
      · by_cases hy : y = 0
        · exact absurd (hx.trans hy.symm) e
        · rw [if_pos hx, if_neg hy]
          have := u8_zero.1 hx
          rw [this] at hd ⊢
          exact hd _ _
      · by_cases hy : y = 0
        · rw [if_neg hx, if_pos hy]
          have := u8_zero.1 hy
          rw [this] at hd ⊢
          exact hd _ _
        · rw [if_neg hx, if_neg hy]
          exact hd _ _
theorem encB_diff {x y : S25} (hx : chk x = 0) (hy : chk y = 0) (ix : I64 x.f1) (iy : I64 y.f1) : Diff (encB x) (encB y) (cmpV x y) := by
  have kx := chk_kind hx
  have ky := chk_kind hy
  unfold encB cmpV
  by_cases e : x.f0 = y.f0
  · rw [if_pos e]
    have e1 : (x.f0 + 1) % 256 = (y.f0 + 1) % 256 := by rw [e]
    rw [e1]
    refine Diff.cons _ ?_
    unfold payload
    by_cases h1 : x.f0 = 1
    · have h1' : y.f0 = 1 := by omega
      have a := (chk_one hx h1).1
      have b := (chk_one hy h1').1
      rw [if_pos h1, if_pos h1', if_pos (.inl h1)]
      have ea : x.f1 % 256 = x.f1 := by omega
      have eb : y.f1 % 256 = y.f1 := by omega
      rw [ea, eb]
      by_cases h : x.f1 = y.f1
      · rw [h, cmpI_self]; exact Diff.refl _
      · exact Diff.head h _ _
    have h1' : ¬ y.f0 = 1 := by omega
    by_cases h2 : x.f0 = 2
    · have h2' : y.f0 = 2 := by omega
      rw [if_neg h1, if_neg h1', if_pos h2, if_pos h2', if_pos (.inr h2), ← cmpI_shift x.f1 y.f1 9223372036854775808]
      obtain ⟨x0, x1⟩ := ix
      obtain ⟨y0, y1⟩ := iy
      have e8 : (256 : Int) ^ 8 = 18446744073709551616 := by decide
      exact be_diff 8 _ _ (by omega) (by rw [e8]; omega) (by omega) (by rw [e8]; omega)
    have h2' : ¬ y.f0 = 2 := by omega
    by_cases h3 : x.f0 = 3 ∨ x.f0 = 4
    · have h3' : y.f0 = 3 ∨ y.f0 = 4 := by omega
      rw [if_neg h1, if_neg h1', if_neg h2, if_neg h2', if_pos h3, if_pos h3', if_neg (by omega), if_pos h3]
      exact esc_diff _ _
    · have h3' : ¬ (y.f0 = 3 ∨ y.f0 = 4) := by omega
      rw [if_neg h1, if_neg h1', if_neg h2, if_neg h2', if_neg h3, if_neg h3', if_neg (by omega), if_neg h3]
      exact Diff.refl _
  · rw [if_neg e]
    have a : (x.f0 + 1) % 256 = x.f0 + 1 := by omega
    have b : (y.f0 + 1) % 256 = y.f0 + 1 := by omega
    rw [a, b, ← cmpI_shift x.f0 y.f0 1]
    exact Diff.head (by omega) _ _
end Go.Proofs.Ytmfenomjhmhogaa.Pure
end
section
namespace Go.Proofs.Ytmfenomjhmhogaa.Pure
set_option linter.unusedVariables false
set_option linter.unusedSimpArgs false
open Go.RowKit Go.Proofs.Ytmfenomjhmhogaa.P Go.Proofs.YtmfenomjhmhogaaW.PrintWords Go.Proofs.YtmfenomjhmhogaaW.PrintLast Go.Proofs.YtmfenomjhmhogaaW.PrintMore
theorem str_list (a : List Int) : (strOfNums a).toList = a.map fun n => UInt8.ofNat n.toNat := by rw [Go.ByteArray.toList_eq]; rfl
theorem u8_back {c : Int} (h0 : 0 ≤ c) (h1 : c ≤ 255) : ((UInt8.ofNat c.toNat).toNat : Int) = c := by
  have : (UInt8.ofNat c.toNat).toNat = c.toNat % 256 := by simp
  rw [this]
  omega
theorem less_is : ∀ {a b : List Int}, BytesIn a → BytesIn b → Op.bytesLess (strOfNums a).toList (strOfNums b).toList = decide (cmpL a b = -1) := by
  have key : ∀ (a b : List Int), BytesIn a → BytesIn b → Op.bytesLess (a.map fun n => UInt8.ofNat n.toNat) (b.map fun n => UInt8.ofNat n.toNat) = decide (cmpL a b = -1) := by
    intro a
    induction a with
    | nil =>
      intro b _ _
      cases b with
      | nil => simp [Op.bytesLess, cmpL]
      | cons y b => simp [Op.bytesLess, cmpL]
    | cons x a ih =>
      intro b ha hb
      cases b with
      | nil => simp [Op.bytesLess, cmpL]
      | cons y b =>
        have hx := ha x (by simp)
        have hy := hb y (by simp)
        have ex := u8_back hx.1 hx.2
        have ey := u8_back hy.1 hy.2
        simp only [List.map_cons, Op.bytesLess, cmpL]
        rw [ih b (fun z hz => ha z (by simp [hz])) (fun z hz => hb z (by simp [hz]))]
        by_cases h1 : x < y
        · have : UInt8.ofNat x.toNat < UInt8.ofNat y.toNat := u8_lt.2 (by omega)
          simp [h1, this]
        · have n1 : ¬ UInt8.ofNat x.toNat < UInt8.ofNat y.toNat := fun h => h1 (by have := u8_lt.1 h; omega)
          by_cases h2 : y < x
          · have n2 : ¬ (UInt8.ofNat x.toNat = UInt8.ofNat y.toNat) := fun h => by rw [h] at ex; omega
            simp [h1, h2, n1, n2]
          · have e : x = y := by omega
            subst e
            simp
  intro a b ha hb
  rw [str_list, str_list]
  exact key a b ha hb
theorem encR_range (d : List Bool) (l : List S25) : BytesIn (encR d l).1 := by
  unfold encR
  cases h : encE d l with
  | none => intro x hx; simp at hx
  | some b => exact encE_range l d h
theorem trim_nil : ∀ {b : List Int}, trim b = [] → ∀ x ∈ b, x = 255
  | [], _, x, hx => by simp at hx
  | c :: l, h, x, hx => by
    unfold trim at h
    split at h
    · rename_i hc
      rcases List.mem_cons.1 hx with rfl | hx
      · exact hc.2
      · exact trim_nil hc.1 x hx
    · cases h
theorem begins_ge : ∀ (b c : List Int), b.isPrefixOf c = true → cmpL c b ≠ -1
  | [], c, _ => by cases c <;> simp [cmpL]
  | x :: b, [], h => by simp at h
  | x :: b, y :: c, h => by
    simp only [List.isPrefixOf, Bool.and_eq_true, beq_iff_eq] at h
    obtain ⟨rfl, h⟩ := h
    simp only [cmpL, Int.lt_irrefl, if_false]
    exact begins_ge b c h
theorem all_255 : ∀ (b c : List Int), (∀ x ∈ b, x = 255) → BytesIn c → (b.isPrefixOf c = true ↔ cmpL c b ≠ -1)
  | [], c, _, _ => by cases c <;> simp [cmpL, List.isPrefixOf]
  | x :: b, [], h, _ => by simp [cmpL, List.isPrefixOf]
  | x :: b, y :: c, h, hc => by
    have hx := h x (by simp)
    subst hx
    have hy := hc y (by simp)
    have ih := all_255 b c (fun z hz => h z (by simp [hz])) (fun z hz => hc z (by simp [hz]))
    simp only [List.isPrefixOf, cmpL]
    by_cases e : y = 255
    · subst e
      simp only [beq_self_eq_true, Bool.true_and, Int.lt_irrefl, if_false]
      exact ih
    · have h1 : y < 255 := by omega
      have h2 : ((255 : Int) == y) = false := beq_eq_false_iff_ne.2 (fun q => e q.symm)
      simp [h1, h2]
theorem trim_cons_nil {c : Int} {l : List Int} (h : trim (c :: l) ≠ []) (hl : trim l = []) : c ≠ 255 ∧ trim (c :: l) = [c] := by
  unfold trim at h ⊢
  by_cases e : c = 255
  · rw [if_pos ⟨hl, e⟩] at h; exact absurd rfl h
  · rw [if_neg (fun q => e q.2), hl]; exact ⟨e, rfl⟩
theorem begins_iff : ∀ (b c : List Int), BytesIn b → BytesIn c → trim b ≠ [] → (b.isPrefixOf c = true ↔ (cmpL c b ≠ -1 ∧ cmpL c (bump (trim b)) = -1))
  | [], c, _, _, h => absurd rfl h
  | x :: b, [], _, _, h => by simp [cmpL, List.isPrefixOf]
  | x :: b, y :: c, hb, hc, h => by
    have hx := hb x (by simp)
    have hy := hc y (by simp)
    have hbb : BytesIn b := fun z hz => hb z (by simp [hz])
    have hcc : BytesIn c := fun z hz => hc z (by simp [hz])
    by_cases hl : trim b = []
    · obtain ⟨hx255, ht⟩ := trim_cons_nil h hl
      rw [ht]
      have hm : (x + 1) % 256 = x + 1 := by omega
      simp only [bump, hm, List.isPrefixOf, cmpL]
      have key := all_255 b c (trim_nil hl) hcc
      by_cases e : x = y
      · subst e
        have h2 : x < x + 1 := by omega
        simp only [beq_self_eq_true, Bool.true_and, Int.lt_irrefl, if_false, h2, if_true, and_true]
        exact key
      · have hne : (x == y) = false := beq_eq_false_iff_ne.2 e
        simp only [hne, Bool.false_and, Bool.false_eq_true, false_iff]
        intro q
        by_cases h1 : y < x
        · simp [h1] at q
        · have h2 : ¬ y < x + 1 := by omega
          simp only [h2, if_false] at q
          by_cases h3 : x + 1 < y
          · simp [h3] at q
          · have h4 : y = x + 1 := by omega
            subst h4
            simp only [Int.lt_irrefl, if_false] at q
            cases c <;> simp [cmpL] at q
    · have ht : trim (x :: b) = x :: trim b := by rw [trim, if_neg (fun q => hl q.1)]
      rw [ht]
      obtain ⟨d, l, hdl⟩ : ∃ d l, trim b = d :: l := by
        cases q : trim b with
        | nil => exact absurd q hl
        | cons d l => exact ⟨d, l, rfl⟩
      have ih := begins_iff b c hbb hcc hl
      rw [hdl] at ih ⊢
      simp only [bump, List.isPrefixOf, cmpL]
      by_cases e : x = y
      · subst e
        simp only [beq_self_eq_true, Bool.true_and, Int.lt_irrefl, if_false]
        exact ih
      · have hne : (x == y) = false := beq_eq_false_iff_ne.2 e
        simp only [hne, Bool.false_and, Bool.false_eq_true, false_iff]
        intro q
        by_cases h1 : y < x
        · simp [h1] at q
        · have h3 : x < y := by omega
          simp [h1, h3] at q
theorem bump_range : ∀ l : List Int, BytesIn l → BytesIn (bump l)
  | [], _ => by intro x hx; simp [bump] at hx
  | [c], _ => by intro x hx; simp [bump] at hx; omega
  | c :: d :: l, h => by
    intro x hx
    simp only [bump, List.mem_cons] at hx
    rcases hx with rfl | hx
    · exact h x (by simp)
    · exact bump_range (d :: l) (fun z hz => h z (List.mem_cons_of_mem _ hz)) x hx
theorem trim_range : ∀ l : List Int, BytesIn l → BytesIn (trim l)
  | [], h => h
  | c :: l, h => by
    have ih := trim_range l (fun z hz => h z (List.mem_cons_of_mem _ hz))
    unfold trim
    split
    · intro x hx; simp at hx
    · intro x hx
      rcases List.mem_cons.1 hx with rfl | hx
      · exact h x (by simp)
      · exact ih x hx
end Go.Proofs.Ytmfenomjhmhogaa.Pure
end
section
namespace Go.Proofs.Ytmfenomjhmhogaa.Pure
set_option linter.unusedVariables false
set_option linter.unusedSimpArgs false
open Go.RowKit Go.Proofs.Ytmfenomjhmhogaa.P Go.Proofs.YtmfenomjhmhogaaW.PrintWords Go.Proofs.YtmfenomjhmhogaaW.PrintLast Go.Proofs.YtmfenomjhmhogaaW.PrintMore
def toT (x : S58) : S69 := ⟨x.f0, x.f1, x.f2⟩
theorem rd_at58 (pre : List S58) (x : S58) (suf : List S58) : rd_T58 (pre ++ x :: suf) (pre.length : Int) = x := by
  simp [rd_T58, List.getD_eq_getElem?_getD]
theorem its_loop : ∀ (suf pre : List S58) (acc : List S69), (pre ++ suf).length < 2932031007402 → acc.length = pre.length →
    Ev (fun k => quarrylaw19_its.l0 k (pre ++ suf) acc (pre.length : Int)) (acc ++ suf.map toT) := by
  intro suf
  induction suf with
  | nil =>
    intro pre acc hl ha
    refine Ev.succ ?_
    simp [quarrylaw19_its.l0]
    exact Ev.pure _
  | cons x suf ih =>
    intro pre acc hl ha
    refine Ev.succ ?_
    have e1 : (pre.length : Int) < ((pre ++ x :: suf).length : Int) := by simp; omega
    have e2 : (0 : Int) ≤ (pre.length : Int) := by omega
    have e3 : acc.length < 2932031007402 := by simp at hl; omega
    have e6 : wrap64 ((pre.length : Int) + 1) = (pre.length : Int) + 1 := wrap64_in (by omega) (by simp at hl; omega)
    simp only [quarrylaw19_its.l0, e1, e2, e3, if_true, rd_at58, e6]
    have := ih (pre ++ [x]) (acc ++ [toT x]) (by simpa using hl) (by simp [ha])
    simpa [toT] using this
theorem its_ev (l : List S58) (hl : l.length < 2932031007402) : Ev (fun k => quarrylaw19_its.f k l) (l.map toT) := by
  unfold quarrylaw19_its.f
  have := its_loop l [] [] (by simpa using hl) rfl
  simpa using this
theorem idxP_find (p : S69 → Bool) : ∀ l : List S69, (∃ x, l.find? p = some x ∧ 0 ≤ idxP p l ∧ rd_T69 l (idxP p l) = x) ∨ (l.find? p = none ∧ idxP p l = -1)
  | [] => .inr ⟨rfl, rfl⟩
  | x :: l => by
    by_cases hp : p x = true
    · left
      refine ⟨x, by simp [List.find?, hp], ?_, ?_⟩
      · unfold idxP; rw [if_pos hp]; decide
      · unfold idxP; rw [if_pos hp]; rfl
    · have hp' : p x = false := by simpa using hp
      rcases idxP_find p l with ⟨y, h1, h2, h3⟩ | ⟨h1, h2⟩
      · left
        refine ⟨y, by simp [List.find?, hp', h1], ?_, ?_⟩
        · unfold idxP; rw [if_neg hp, if_neg (by omega)]; omega
        · unfold idxP
          rw [if_neg hp, if_neg (by omega)]
          obtain ⟨n, hn⟩ := Int.eq_ofNat_of_zero_le h2
          rw [hn] at h3 ⊢
          rw [← h3]
          have e : ((n : Int) + 1).toNat = n + 1 := by omega
          simp only [rd_T69, Int.toNat_natCast, e, List.getD_cons_succ]
      · right
        refine ⟨by simp [List.find?, hp', h1], ?_⟩
        unfold idxP
        rw [if_neg hp, if_pos (by omega)]
theorem firstT_is (col : Int) (ops : List Int) (l : List S69) : firstT col ops l = match l.find? (isT col ops) with | some x => (x, true) | none => (z69, false) := by
  unfold firstT
  rcases idxP_find (isT col ops) l with ⟨x, h1, h2, h3⟩ | ⟨h1, h2⟩
  · rw [if_neg (by omega), h1, h3]
  · rw [if_pos (by omega), h1]
theorem firstT_some {col : Int} {ops : List Int} {l : List S69} (h : (firstT col ops l).2 = true) : (firstT col ops l).1 ∈ l ∧ (firstT col ops l).1.f0 = col ∧ (firstT col ops l).1.f1 ∈ ops := by
  rw [firstT_is] at h ⊢
  cases hf : l.find? (isT col ops) with
  | none => rw [hf] at h; cases h
  | some x =>
    have h1 := List.mem_of_find?_eq_some hf
    have h2 := List.find?_some hf
    simp only [isT, Bool.and_eq_true, beq_iff_eq] at h2
    exact ⟨h1, h2.1, by simpa using h2.2⟩
def optT (p : S69 × Bool) : List S69 := if p.2 = true then [p.1] else []
theorem optT_mem {col : Int} {ops : List Int} {l : List S69} {t : S69} (h : t ∈ optT (firstT col ops l)) : t ∈ l ∧ t.f0 = col ∧ t.f1 ∈ ops := by
  unfold optT at h
  split at h
  · rename_i h2
    simp only [List.mem_singleton] at h
    subst h
    exact firstT_some h2
  · cases h
theorem useG_form (L : List S69) : ∀ (cols : List Int) (acc : List S25), ∃ (pf cs : List Int) (pv : List S25), cols = pf ++ cs ∧ (useG L cols acc).1 = acc ++ pv ∧ pv.length = pf.length ∧
    (∀ (i : Nat) c v, pf[i]? = some c → pv[i]? = some v → ∃ t ∈ L, t.f0 = c ∧ t.f1 = 5 ∧ v = t.f2) ∧
    ((cs = [] ∧ (useG L cols acc).2 = ([], [])) ∨ ∃ c cs', cs = c :: cs' ∧ (useG L cols acc).2 = (optT (firstT c [9, 10] L), optT (firstT c [7, 8] L)))
  | [], acc => ⟨[], [], [], rfl, by simp [useG], rfl, fun i c v h => by simp at h, .inl ⟨rfl, rfl⟩⟩
  | c :: cols, acc => by
    by_cases h : (firstT c [5] L).2 = true
    · obtain ⟨pf, cs, pv, h1, h2, h3, h4, h5⟩ := useG_form L cols (acc ++ [(firstT c [5] L).1.f2])
      have e : useG L (c :: cols) acc = useG L cols (acc ++ [(firstT c [5] L).1.f2]) := by rw [useG, if_pos h]
      obtain ⟨m1, m2, m3⟩ := firstT_some h
      refine ⟨c :: pf, cs, (firstT c [5] L).1.f2 :: pv, by rw [h1]; rfl, by rw [e, h2, List.append_assoc]; rfl, by simp [h3], ?_, by rw [e]; exact h5⟩
      intro i c' v hc hv
      cases i with
      | zero =>
        simp at hc hv
        subst hc
        exact ⟨_, m1, m2, by simpa using m3, hv.symm⟩
      | succ i => exact h4 i c' v (by simpa using hc) (by simpa using hv)
    · have e : useG L (c :: cols) acc = (acc, optT (firstT c [9, 10] L), optT (firstT c [7, 8] L)) := by rw [useG, if_neg h]; rfl
      exact ⟨[], c :: cols, [], rfl, by rw [e]; simp, rfl, fun i c v h => by simp at h, .inr ⟨c, cols, rfl, by rw [e]⟩⟩
def Small (x : S25) : Prop := okV x ∧ x.f2.size ≤ 1048576
theorem room_small : ∀ (l : List S25), (∀ x ∈ l, Small x) → room l ≤ l.length * 2097164
  | [], _ => by simp [room]
  | x :: l, h => by
    have h1 := (h x (by simp)).2
    have h2 := room_small l (fun y hy => h y (by simp [hy]))
    simp only [room, List.map_cons, List.sum_cons, List.length_cons, Nat.add_mul] at h2 ⊢
    omega
theorem encR_len (d : List Bool) (l : List S25) : (encR d l).1.length ≤ room l := by
  unfold encR
  cases h : encE d l with
  | none => simp
  | some b => exact encE_length l d h
def keyP (vs : List S25) (d : List Bool) (t : S69) : List Int := (encR d (vs ++ [t.f2])).1
def lowP (vs : List S25) (d : List Bool) (base : List Int) : List S69 → List Int → List Int
  | [], cur => cur
  | t :: r, _ => lowP vs d base r (if t.f1 = 9 ∨ t.f1 = 7 then (if (nextB (keyP vs d t)).2 = true then (nextB (keyP vs d t)).1 else base) else keyP vs d t)
def highP (vs : List S25) (d : List Bool) : List S69 → List Int × Bool → List Int × Bool
  | [], cur => cur
  | t :: r, _ => highP vs d r (if t.f1 = 8 ∨ t.f1 = 10 then nextB (keyP vs d t) else (keyP vs d t, true))
theorem small_append {vs : List S25} {x : S25} (hv : ∀ x ∈ vs, Small x) (hx : Small x) : ∀ y ∈ vs ++ [x], Small y := fun y hy => by
  rcases List.mem_append.1 hy with h | h
  · exact hv y h
  · simp at h; subst h; exact hx
theorem enc_ev {vs : List S25} (d : List Bool) (hv : ∀ x ∈ vs, Small x) (hl : vs.length ≤ 1048577) : Ev (fun k => keys_Encode.f k vs d) (encR d vs) :=
  encode_ev vs d (fun x hx => (hv x hx).1) (by omega) (by have := room_small vs hv; omega)
theorem enc_small {vs : List S25} (d : List Bool) (hv : ∀ x ∈ vs, Small x) (hl : vs.length ≤ 1048577) : (encR d vs).1.length < 140737488355328 := by
  have h1 := encR_len d vs
  have h2 := room_small vs hv
  omega
theorem key_ev {vs : List S25} (d : List Bool) {t : S69} (hv : ∀ x ∈ vs, Small x) (ht : Small t.f2) (hl : vs.length ≤ 1048576) : Ev (fun k => keyF k vs d t) (keyP vs d t) := by
  unfold keyF
  refine Ev.pos (by omega) ?_
  refine Ev.bind (enc_ev d (small_append hv ht) (by simp; omega)) ?_
  exact Ev.pure _
theorem key_small {vs : List S25} (d : List Bool) {t : S69} (hv : ∀ x ∈ vs, Small x) (ht : Small t.f2) (hl : vs.length ≤ 1048576) : (keyP vs d t).length < 140737488355328 := enc_small d (small_append hv ht) (by simp; omega)
theorem low_ev {vs : List S25} (d : List Bool) (base : List Int) (hv : ∀ x ∈ vs, Small x) (hl : vs.length ≤ 1048576) : ∀ (lo : List S69) (cur : List Int), (∀ t ∈ lo, Small t.f2) → Ev (fun k => lowF k vs d base lo cur) (lowP vs d base lo cur)
  | [], cur, _ => Ev.pure _
  | t :: r, cur, h => by
    have ht := h t (by simp)
    have hr := fun c => low_ev d base hv hl r c (fun y hy => h y (by simp [hy]))
    simp only [lowF, lowP]
    refine Ev.bind (key_ev d hv ht hl) ?_
    by_cases hs : t.f1 = 9 ∨ t.f1 = 7
    · rw [if_pos hs]
      refine Ev.pos hs ?_
      refine Ev.bind (next_ev _ (key_small d hv ht hl)) ?_
      exact hr _
    · rw [if_neg hs]
      exact Ev.neg hs (hr _)
theorem high_ev {vs : List S25} (d : List Bool) (hv : ∀ x ∈ vs, Small x) (hl : vs.length ≤ 1048576) : ∀ (up : List S69) (cur : List Int × Bool), (∀ t ∈ up, Small t.f2) → Ev (fun k => highF k vs d up cur.1 cur.2) (highP vs d up cur)
  | [], cur, _ => Ev.pure _
  | t :: r, cur, h => by
    have ht := h t (by simp)
    have hr := fun c => high_ev d hv hl r c (fun y hy => h y (by simp [hy]))
    simp only [highF, highP]
    refine Ev.bind (key_ev d hv ht hl) ?_
    by_cases hs : t.f1 = 8 ∨ t.f1 = 10
    · rw [if_pos hs]
      refine Ev.pos hs ?_
      refine Ev.bind (next_ev _ (key_small d hv ht hl)) ?_
      exact hr _
    · rw [if_neg hs]
      exact Ev.neg hs (hr (_, true))
def rangeG (vs : List S25) (lo up : List S69) (d : List Bool) : List Int × List Int × Bool :=
  (lowP vs d (encR d vs).1 lo (encR d vs).1, (highP vs d up (nextB (encR d vs).1)).1, !(highP vs d up (nextB (encR d vs).1)).2)
def rangeP (cols : List Int) (d : List Bool) (L : List S69) : List Int × List Int × Bool :=
  if swapB (useG L cols []).1 d = true then rangeG (useG L cols []).1 (useG L cols []).2.2 (useG L cols []).2.1 d else rangeG (useG L cols []).1 (useG L cols []).2.1 (useG L cols []).2.2 d
theorem g_ev {vs : List S25} {lo up : List S69} (d : List Bool) (hv : ∀ x ∈ vs, Small x) (hlo : ∀ t ∈ lo, Small t.f2) (hup : ∀ t ∈ up, Small t.f2) (hl : vs.length ≤ 1048576) : Ev (fun k => bounds_Range.g k vs lo up d) (rangeG vs lo up d) := by
  unfold bounds_Range.g
  refine Ev.bind (enc_ev d hv (by omega)) ?_
  refine Ev.bind (low_ev d _ hv hl lo _ hlo) ?_
  refine Ev.bind (next_ev _ (enc_small d hv (by omega))) ?_
  refine Ev.bind (high_ev d hv hl up _ hup) ?_
  exact Ev.pure _
theorem useG_small {L : List S69} (hL : ∀ t ∈ L, Small t.f2) (cols : List Int) (hl : cols.length ≤ 1048576) :
    (∀ x ∈ (useG L cols []).1, Small x) ∧ (∀ t ∈ (useG L cols []).2.1, t ∈ L) ∧ (∀ t ∈ (useG L cols []).2.2, t ∈ L) ∧ (useG L cols []).1.length ≤ cols.length := by
  obtain ⟨pf, cs, pv, h1, h2, h3, h4, h5⟩ := useG_form L cols []
  rw [List.nil_append] at h2
  have hlen : pv.length ≤ cols.length := by rw [h3, h1]; simp
  refine ⟨?_, ?_, ?_, by rw [h2]; exact hlen⟩
  · intro x hx
    rw [h2] at hx
    obtain ⟨i, hi, rfl⟩ := List.getElem_of_mem hx
    obtain ⟨t, ht, _, _, hv⟩ := h4 i pf[i] pv[i] (List.getElem?_eq_getElem (by omega)) (List.getElem?_eq_getElem hi)
    rw [hv]
    exact hL t ht
  · intro t ht
    rcases h5 with ⟨_, e⟩ | ⟨c, cs', _, e⟩
    · rw [e] at ht; cases ht
    · rw [e] at ht; exact (optT_mem ht).1
  · intro t ht
    rcases h5 with ⟨_, e⟩ | ⟨c, cs', _, e⟩
    · rw [e] at ht; cases ht
    · rw [e] at ht; exact (optT_mem ht).1
theorem range_ev (a0 : Int) (a1 a2 : ByteArray) (cols : List Int) (d : List Bool) (a5 : Bool) {L : List S69} (hL : ∀ t ∈ L, Small t.f2) (hl : cols.length ≤ 1048576) : Ev (fun k => bounds_Range.f k a0 a1 a2 cols d a5 L) (rangeP cols d L) := by
  obtain ⟨s1, s2, s3, s4⟩ := useG_small hL cols hl
  unfold bounds_Range.f
  have hu : bounds_useOf.f a0 a1 a2 cols d a5 L = some (useG L cols []) := by unfold bounds_useOf.f; rw [if_pos (by omega)]
  simp only [hu, Option.bind_some]
  unfold rangeP
  by_cases hs : swapB (useG L cols []).1 d = true
  · rw [if_pos hs]
    exact Ev.pos hs (g_ev d s1 (fun t ht => hL t (s3 t ht)) (fun t ht => hL t (s2 t ht)) (by omega))
  · rw [if_neg hs]
    exact Ev.neg hs (g_ev d s1 (fun t ht => hL t (s2 t ht)) (fun t ht => hL t (s3 t ht)) (by omega))
end Go.Proofs.Ytmfenomjhmhogaa.Pure
end
