/- Laid by a program of this session out of its texts for the law CalcSums, part 7. -/
import Derived.Test.YtfbeklbjlkgbnaaZCalcSums6
section
namespace Go.Proofs.Ytfbeklbjlkgbnaa.P
open Go.RowKit Go.Proofs.YtfbeklbjlkgbnaaW.PrintWords Go.Proofs.YtfbeklbjlkgbnaaW.PrintLast Go.Proofs.YtfbeklbjlkgbnaaW.PrintMore
attribute [local go_sem] max2_int min2_int max_two min_two max_three min_three max_four min_four
set_option linter.unusedVariables false
set_option linter.unusedSimpArgs false
attribute [local go_sem high] eqA25
set_option maxHeartbeats 8000000 in
set_option maxRecDepth 100000 in
theorem quarrylaw02_CalcSums.partB (k : Nat) (a0 a1 : Int) (r : Bool) (w : World) (hu25 :  Try.prog.underlying 25 = some (TypeDesc.struct #[{ name := "Kind", type := 3, offset := 0, embedded := false, tag := "", pkgPath := "", byteOffset := 0 }, { name := "Int", type := 2, offset := 1, embedded := false, tag := "", pkgPath := "", byteOffset := 8 }, { name := "Text", type := 9, offset := 2, embedded := false, tag := "", pkgPath := "", byteOffset := 16 }])) (A3 : Aside0 (quarrylaw02_works.f = some true)) (t282 t283 : Int) (t284 : ByteArray) (A5 : Aside0 (quarrylaw02_num.f a0 = some (t282, t283, t284))) (t285 t286 : Int) (t287 : ByteArray) (A6 : Aside0 (quarrylaw02_num.f a1 = some (t285, t286, t287))) (t288 t289 : Int) (t290 : ByteArray) (t291 : Int) (A7 : Aside0 (calc_Binary.f 11 t282 t283 t284 t285 t286 t287 = some (t288, t289, t290, t291))) (gb292 : Nat) (GW292 GE292 : Aside0 (w.heap.size ≤ gb292)) (u64 :  Value) (x7_7 : Bool) (kj7 : Nat) (HJ7 : Aside0 (kj7 + 1 ≤ k)) (wc : World) (u17 u18 u19 u20 u21 u22 u23 u24 u25 u26 u27 u28 u29 u30 u31 u32 u33 u34 u35 u36 u37 u38 u39 u40 u41 u42 u43 u44 u45 u46 u47 u48 u49 u50 u51 u52 u53 u54 u55 u56 u57 u58 u59 u60 u61 u62 u63 u65 u66 u67 u68 u69 u70 u71 u72 u73 u74 u75 u76 u77 u78 u79 u80 u81 u82 u83 u84 u85 u86 u87 u88 u89 u90 u91 u92 u93 u94 u95 u96 u97 u98 u99 u100 u101 u102 u103 u104 u105 u106 u107 u108 u109 u110 u111 u112 u113 u114 u115 u116 u117 u118 u119 u120 u121 u122 u123 u124 u125 u126 u127 u128 u129 u130 u131 u132 u133 u134 u135 u136 u137 u138 u139 u140 u141 u142 u143 u144 u145 u146 u147 u148 u149 u150 u151 u152 u153 u154 u155 u156 u157 u158 u159 u160 u161 u162 u163 u164 u165 u166 u167 u168 u169 u170 u171 u172 u173 u174 u175 u176 u177 u178 u179 :  Value) (BK292 :  Aside0 (wc.heap[gb292]? = some (Obj.cells #[Value.int IntKind.i64 t288, Value.int IntKind.i64 t289, Value.string t290] 25))) (HB : Aside0 (Below w.heap.size w wc)) (kj18 : Nat) (HJ18 : Aside0 (kj18 + 1 ≤ kj7)) (H :  (if false = true then none else (quarrylaw02_num.f a0).bind fun bt293 => (quarrylaw02_num.f a1).bind fun bt296 => (calc_Binary.f 12 bt293.fst bt293.snd.fst bt293.snd.snd bt296.fst bt296.snd.fst bt296.snd.snd).bind fun bt299 => if a1 < 0 then if a0 > wrap64 (9223372036854775807 + a1) then j2 kj18 a0 a1 bt299.snd.snd.snd true bt299.fst bt299.snd.fst bt299.snd.snd.fst else if a1 > 0 then j2 kj18 a0 a1 bt299.snd.snd.snd (decide (a0 < wrap64 (-9223372036854775808 + a1))) bt299.fst bt299.snd.fst bt299.snd.snd.fst else j2 kj18 a0 a1 bt299.snd.snd.snd false bt299.fst bt299.snd.fst bt299.snd.snd.fst else if a1 > 0 then j2 kj18 a0 a1 bt299.snd.snd.snd (decide (a0 < wrap64 (-9223372036854775808 + a1))) bt299.fst bt299.snd.fst bt299.snd.snd.fst else j2 kj18 a0 a1 bt299.snd.snd.snd false bt299.fst bt299.snd.fst bt299.snd.snd.fst) = some r) (K : Act → World → Prop) (hK : ∀ (a : Act) (w_ : World), Code.wp Try.prog quarrylaw02_CalcSums.partB.rest (bodyPost Try.prog Try.f6 fun e w' => e = .returned (.bool r) ∧ Below w.heap.size w w') a w_ → K a w_) :
    Code.wp Try.prog quarrylaw02_CalcSums.partB.code (Exit.then K (bodyPost Try.prog Try.f6 fun e w' => e = .returned (.bool r) ∧ Below w.heap.size w w')) ⟨#[Value.int IntKind.i64 a0, Value.int IntKind.i64 a1, undef, undef, Value.bool false, Value.pointer (some { block := gb292, off := 0 }), Value.int IntKind.i64 t291, Value.bool x7_7, undef, undef, undef, undef, undef, undef, undef, undef, undef, u17, u18, u19, u20, u21, u22, u23, u24, u25, u26, u27, u28, u29, u30, u31, u32, u33, u34, u35, u36, u37, u38, u39, u40, u41, u42, u43, u44, u45, u46, u47, u48, u49, u50, u51, u52, u53, u54, u55, u56, u57, u58, u59, u60, u61, u62, u63, Value.bool false, u65, u66, u67, u68, u69, u70, u71, u72, u73, u74, u75, u76, u77, u78, u79, u80, u81, u82, u83, u84, u85, u86, u87, u88, u89, u90, u91, u92, u93, u94, u95, u96, u97, u98, u99, u100, u101, u102, u103, u104, u105, u106, u107, u108, u109, u110, u111, u112, u113, u114, u115, u116, u117, u118, u119, u120, u121, u122, u123, u124, u125, u126, u127, u128, u129, u130, u131, u132, u133, u134, u135, u136, u137, u138, u139, u140, u141, u142, u143, u144, u145, u146, u147, u148, u149, u150, u151, u152, u153, u154, u155, u156, u157, u158, u159, u160, u161, u162, u163, u164, u165, u166, u167, u168, u169, u170, u171, u172, u173, u174, u175, u176, u177, u178, u179], []⟩ wc := by
  conv => arg 2; whnf
  conv at hK => enter [a, w_, 1, 2]; whnf
  have H1 : ((quarrylaw02_num.f a0).bind fun bt293 => ((quarrylaw02_num.f a1).bind fun bt296 => ((calc_Binary.f 12 bt293.1 bt293.2.1 bt293.2.2 bt296.1 bt296.2.1 bt296.2.2).bind fun bt299 => (if a1 < 0 then (if a0 > (wrap64 (9223372036854775807 + a1)) then (quarrylaw02_CalcSums.j2 kj18 a0 a1 bt299.2.2.2 true bt299.1 bt299.2.1 bt299.2.2.1) else (if a1 > 0 then (quarrylaw02_CalcSums.j2 kj18 a0 a1 bt299.2.2.2 (decide (a0 < (wrap64 ((-9223372036854775808) + a1)))) bt299.1 bt299.2.1 bt299.2.2.1) else (quarrylaw02_CalcSums.j2 kj18 a0 a1 bt299.2.2.2 false bt299.1 bt299.2.1 bt299.2.2.1))) else (if a1 > 0 then (quarrylaw02_CalcSums.j2 kj18 a0 a1 bt299.2.2.2 (decide (a0 < (wrap64 ((-9223372036854775808) + a1)))) bt299.1 bt299.2.1 bt299.2.2.1) else (quarrylaw02_CalcSums.j2 kj18 a0 a1 bt299.2.2.2 false bt299.1 bt299.2.1 bt299.2.2.1)))))) = some r := by rw [if_neg (show ¬ (false = true) by decide)] at H; exact H
  clear H
  have H := H1
  clear H1
  replace H := Option.bind_eq_some_iff.mp H
  obtain ⟨⟨t293, t294, t295⟩, A250, H⟩ := H
  replace H : ((quarrylaw02_num.f a1).bind fun bt296 => ((calc_Binary.f 12 t293 t294 t295 bt296.1 bt296.2.1 bt296.2.2).bind fun bt299 => (if a1 < 0 then (if a0 > (wrap64 (9223372036854775807 + a1)) then (quarrylaw02_CalcSums.j2 kj18 a0 a1 bt299.2.2.2 true bt299.1 bt299.2.1 bt299.2.2.1) else (if a1 > 0 then (quarrylaw02_CalcSums.j2 kj18 a0 a1 bt299.2.2.2 (decide (a0 < (wrap64 ((-9223372036854775808) + a1)))) bt299.1 bt299.2.1 bt299.2.2.1) else (quarrylaw02_CalcSums.j2 kj18 a0 a1 bt299.2.2.2 false bt299.1 bt299.2.1 bt299.2.2.1))) else (if a1 > 0 then (quarrylaw02_CalcSums.j2 kj18 a0 a1 bt299.2.2.2 (decide (a0 < (wrap64 ((-9223372036854775808) + a1)))) bt299.1 bt299.2.1 bt299.2.2.1) else (quarrylaw02_CalcSums.j2 kj18 a0 a1 bt299.2.2.2 false bt299.1 bt299.2.1 bt299.2.2.1))))) = some r := H
  have A25 := Aside0.mk A250
  clear A250
  replace H := Option.bind_eq_some_iff.mp H
  obtain ⟨⟨t296, t297, t298⟩, A260, H⟩ := H
  replace H : ((calc_Binary.f 12 t293 t294 t295 t296 t297 t298).bind fun bt299 => (if a1 < 0 then (if a0 > (wrap64 (9223372036854775807 + a1)) then (quarrylaw02_CalcSums.j2 kj18 a0 a1 bt299.2.2.2 true bt299.1 bt299.2.1 bt299.2.2.1) else (if a1 > 0 then (quarrylaw02_CalcSums.j2 kj18 a0 a1 bt299.2.2.2 (decide (a0 < (wrap64 ((-9223372036854775808) + a1)))) bt299.1 bt299.2.1 bt299.2.2.1) else (quarrylaw02_CalcSums.j2 kj18 a0 a1 bt299.2.2.2 false bt299.1 bt299.2.1 bt299.2.2.1))) else (if a1 > 0 then (quarrylaw02_CalcSums.j2 kj18 a0 a1 bt299.2.2.2 (decide (a0 < (wrap64 ((-9223372036854775808) + a1)))) bt299.1 bt299.2.1 bt299.2.2.1) else (quarrylaw02_CalcSums.j2 kj18 a0 a1 bt299.2.2.2 false bt299.1 bt299.2.1 bt299.2.2.1)))) = some r := H
  have A26 := Aside0.mk A260
  clear A260
  replace H := Option.bind_eq_some_iff.mp H
  obtain ⟨⟨t299, t300, t301, t302⟩, A270, H⟩ := H
  replace H : (if a1 < 0 then (if a0 > (wrap64 (9223372036854775807 + a1)) then (quarrylaw02_CalcSums.j2 kj18 a0 a1 t302 true t299 t300 t301) else (if a1 > 0 then (quarrylaw02_CalcSums.j2 kj18 a0 a1 t302 (decide (a0 < (wrap64 ((-9223372036854775808) + a1)))) t299 t300 t301) else (quarrylaw02_CalcSums.j2 kj18 a0 a1 t302 false t299 t300 t301))) else (if a1 > 0 then (quarrylaw02_CalcSums.j2 kj18 a0 a1 t302 (decide (a0 < (wrap64 ((-9223372036854775808) + a1)))) t299 t300 t301) else (quarrylaw02_CalcSums.j2 kj18 a0 a1 t302 false t299 t300 t301))) = some r := H
  have A27 := Aside0.mk A270
  clear A270
  have HC28 := Aside0.mk H
  clear H
  go_upto_region 8 with (first | ((with_reducible refine gate_callee (f := 24) rfl ?_); refine goesL_ (some 67) rfl rfl Try.func24 (by kernel_rfl) rfl #[.int .i64 a0] rfl (by (try simp only [List.map_toArray, List.map_cons, List.map_nil]); first | done | rfl | (simp only [List.length_drop, List.length_take]; rfl)) ?_; (with_reducible refine (quarrylaw02_num.calls a0 t293 t294 t295 _ A25.out).mono ?_); rintro e w29 ⟨rfl, hb⟩; refine ⟨_, rfl, ?_⟩; have n0_ := Aside0.mk (blk_below (g := gb292) (o := .cells #[.int .i64 t288, .int .i64 t289, .string t290] 25 (0, 0)) (by (with_reducible repeat (first | refine blk_drewN ?_ _ | refine blk_drew ?_ | refine blk_alloc ?_ _)); exact BK292.out) hb); have n1_ := Aside0.mk (below_step (by repeat (first | (with_reducible first | exact HB.out | apply below_alloc | apply pw_below_drewN | apply below_drew1 | refine below_set ?_ GE292.out) | exact HB.out)) hb); clear BK292; clear HB; have BK292 := n0_; have HB := n1_; clear n0_ n1_; (try clear hb); (try clear hb2); (try clear hk); (try clear hi)) | ((with_reducible refine gate_callee (f := 24) rfl ?_); refine goesL_ (some 69) rfl rfl Try.func24 (by kernel_rfl) rfl #[.int .i64 a1] rfl (by (try simp only [List.map_toArray, List.map_cons, List.map_nil]); first | done | rfl | (simp only [List.length_drop, List.length_take]; rfl)) ?_; (with_reducible refine (quarrylaw02_num.calls a1 t296 t297 t298 _ A26.out).mono ?_); rintro e w30 ⟨rfl, hb⟩; refine ⟨_, rfl, ?_⟩; have n0_ := Aside0.mk (blk_below (g := gb292) (o := .cells #[.int .i64 t288, .int .i64 t289, .string t290] 25 (0, 0)) (by (with_reducible repeat (first | refine blk_drewN ?_ _ | refine blk_drew ?_ | refine blk_alloc ?_ _)); exact BK292.out) hb); have n1_ := Aside0.mk (below_step (by repeat (first | (with_reducible first | exact HB.out | apply below_alloc | apply pw_below_drewN | apply below_drew1 | refine below_set ?_ GE292.out) | exact HB.out)) hb); clear BK292; clear HB; have BK292 := n0_; have HB := n1_; clear n0_ n1_; (try clear hb); (try clear hb2); (try clear hk); (try clear hi)) | ((with_reducible refine gate_callee (f := 17) rfl ?_); refine goesL_ (some 70) rfl rfl Try.func17 (by kernel_rfl) rfl #[.int .i64 12, .agg #[.int .i64 t293, .int .i64 t294, .string t295], .agg #[.int .i64 t296, .int .i64 t297, .string t298]] rfl (by (try simp only [List.map_toArray, List.map_cons, List.map_nil]); first | done | rfl | (simp only [List.length_drop, List.length_take]; rfl)) ?_; (with_reducible refine (calc_Binary.print 12 t293 t294 t295 t296 t297 t298 t299 t300 t301 t302 _ A27.out).mono ?_); rintro e w31 ⟨rfl, hb⟩; refine ⟨_, rfl, ?_⟩; have n0_ := Aside0.mk (blk_below (g := gb292) (o := .cells #[.int .i64 t288, .int .i64 t289, .string t290] 25 (0, 0)) (by (with_reducible repeat (first | refine blk_drewN ?_ _ | refine blk_drew ?_ | refine blk_alloc ?_ _)); exact BK292.out) hb); have n1_ := Aside0.mk (below_step (by repeat (first | (with_reducible first | exact HB.out | apply below_alloc | apply pw_below_drewN | apply below_drew1 | refine below_set ?_ GE292.out) | exact HB.out)) hb); clear BK292; clear HB; have BK292 := n0_; have HB := n1_; clear n0_ n1_; (try clear hb); (try clear hb2); (try clear hk); (try clear hi)) | ((with_reducible refine gate_dst (N := 8) rfl ?_); refine box_event ?hg (N := 8) ?hd (cs := #[.int .i64 0, .int .i64 0, .string (⟨#[]⟩ : ByteArray)]) (t := 25) ?hr ?_; (case hd => rfl); (case hg => rfl); (case hr => first | (go_simp; done) | (go_simp; rfl)); intro gb303 hg w32 hbox hb; have n0_ := Aside0.mk (blk_below (g := gb292) (o := .cells #[.int .i64 t288, .int .i64 t289, .string t290] 25 (0, 0)) (by (with_reducible repeat (first | refine blk_drewN ?_ _ | refine blk_drew ?_ | refine blk_alloc ?_ _)); exact BK292.out) hb); have n1_ := Aside0.mk (below_step (by repeat (first | (with_reducible first | exact HB.out | apply below_alloc | apply pw_below_drewN | apply below_drew1 | refine below_set ?_ GE292.out) | exact HB.out)) hb); have n2_ := Aside0.mk (hbox); have n3_ := Aside0.mk ((by rw [hg]; exact (below_size (by repeat (first | (with_reducible first | exact HB.out | apply below_alloc | apply pw_below_drewN | apply below_drew1 | refine below_set ?_ GE292.out) | exact HB.out))) : w.heap.size ≤ gb303)); have n4_ := Aside0.mk ((by rw [hg]; exact (below_size (by repeat (first | (with_reducible first | exact HB.out | apply below_alloc | apply pw_below_drewN | apply below_drew1 | refine below_set ?_ GE292.out) | exact HB.out))) : w.heap.size ≤ gb303)); have n5_ := Aside0.mk ((by rw [hg]; exact Nat.ne_of_lt (blk_lt (g := gb292) (o := .cells #[.int .i64 t288, .int .i64 t289, .string t290] 25 (0, 0)) (by (with_reducible repeat (first | refine blk_drewN ?_ _ | refine blk_drew ?_ | refine blk_alloc ?_ _)); exact BK292.out)) : gb292 ≠ gb303)); have n6_ := Aside0.mk ((by rw [hg]; exact Nat.ne_of_gt (blk_lt (g := gb292) (o := .cells #[.int .i64 t288, .int .i64 t289, .string t290] 25 (0, 0)) (by (with_reducible repeat (first | refine blk_drewN ?_ _ | refine blk_drew ?_ | refine blk_alloc ?_ _)); exact BK292.out)) : gb303 ≠ gb292)); clear BK292; clear HB; have BK292 := n0_; have HB := n1_; have BK303 := n2_; have GW303 := n3_; have GE303 := n4_; have NB292_303 := n5_; have NB303_292 := n6_; clear n0_ n1_ n2_ n3_ n4_ n5_ n6_; clear hb hbox hg; have hnb33 := NB303_292.out; have hnc33 := NB292_303.out; have hcz34_0 : w32.cell? ⟨gb303, 0, none⟩ = some (.int .i64 0) := (blk_cell BK303.out 0).trans rfl; have hcz34_1 : w32.cell? ⟨gb303, 1, none⟩ = some (.int .i64 0) := (blk_cell BK303.out 1).trans rfl; have hcz34_2 : w32.cell? ⟨gb303, 2, none⟩ = some (.string (⟨#[]⟩ : ByteArray)) := (blk_cell BK303.out 2).trans rfl; have hfz34_0 := blk_frozen BK303.out 0; have hfz34_1 := blk_frozen BK303.out 1; have hfz34_2 := blk_frozen BK303.out 2))
  (try simp only [Act.put, List.setIfInBounds_toArray, List.set_cons_zero, List.set_cons_succ])
  go_cut [10] (fun v10 wc => ∃ (kq : Nat) (x10_27 : Bool), v10 = .bool x10_27 ∧ Aside0 (quarrylaw02_CalcSums.j2 kq a0 a1 t302 x10_27 t299 t300 t301 = some r) ∧ Aside0 (kq ≤ kj18) ∧ Aside0 (wc.heap[gb292]? = some (.cells #[.int .i64 t288, .int .i64 t289, .string t290] 25 (0, 0))) ∧ Aside0 (wc.heap[gb303]? = some (.cells #[.int .i64 t299, .int .i64 t300, .string t301] 25 (0, 0))) ∧ Aside0 (Below w.heap.size w wc))
  case first =>
    have H := HC28.out
    clear HC28
    by_cases c35 : a1 < 0
    · rw [if_pos c35] at H
      have c35b0 : decide (a1 < 0) = true := decide_eq_true c35
      clear c35
      (first | rw [c35b0] | (simp only [i64_w, i32_w]; rw [c35b0]) | skip)
      by_cases c36 : a0 > (wrap64 (9223372036854775807 + a1))
      · rw [if_pos c36] at H
        have c36b0 : decide ((wrap64 (9223372036854775807 + a1)) < a0) = true := decide_eq_true c36
        clear c36
        have H' := Aside0.mk H
        clear H
        go_wp2
        go_meet
        case rel => exact ⟨_, (true), (by first | rfl | (simp; done) | (simp [*]; done)), H', ⟨by have := HJ7.out; have := HJ18.out; first | omega | exact Nat.le_refl _⟩, ⟨by (with_reducible repeat (first | refine blk_drewN ?_ _ | refine blk_drew ?_ | refine blk_alloc ?_ _)); refine blk_far ?_ NB292_303.out _; (with_reducible repeat (first | refine blk_drewN ?_ _ | refine blk_drew ?_ | refine blk_alloc ?_ _)); refine blk_far ?_ NB292_303.out _; (with_reducible repeat (first | refine blk_drewN ?_ _ | refine blk_drew ?_ | refine blk_alloc ?_ _)); refine blk_far ?_ NB292_303.out _; (with_reducible repeat (first | refine blk_drewN ?_ _ | refine blk_drew ?_ | refine blk_alloc ?_ _)); exact BK292.out⟩, ⟨by (with_reducible repeat (first | refine blk_drewN ?_ _ | refine blk_drew ?_ | refine blk_alloc ?_ _)); refine blk_put (cs := #[.int .i64 t299, .int .i64 t300, .string (⟨#[]⟩ : ByteArray)]) ?_ 2 _ rfl; (with_reducible repeat (first | refine blk_drewN ?_ _ | refine blk_drew ?_ | refine blk_alloc ?_ _)); refine blk_put (cs := #[.int .i64 t299, .int .i64 0, .string (⟨#[]⟩ : ByteArray)]) ?_ 1 _ rfl; (with_reducible repeat (first | refine blk_drewN ?_ _ | refine blk_drew ?_ | refine blk_alloc ?_ _)); refine blk_put (cs := #[.int .i64 0, .int .i64 0, .string (⟨#[]⟩ : ByteArray)]) ?_ 0 _ rfl; (with_reducible repeat (first | refine blk_drewN ?_ _ | refine blk_drew ?_ | refine blk_alloc ?_ _)); exact BK303.out⟩, ⟨by repeat (first | (with_reducible first | exact HB.out | apply below_alloc | apply pw_below_drewN | apply below_drew1 | refine below_set ?_ GE292.out | refine below_set ?_ GE303.out) | exact HB.out)⟩⟩
      · rw [if_neg c36] at H
        have c36b0 : decide ((wrap64 (9223372036854775807 + a1)) < a0) = false := decide_eq_false c36
        clear c36
        by_cases c37 : a1 > 0
        · rw [if_pos c37] at H
          have c37b0 : decide (0 < a1) = true := decide_eq_true c37
          clear c37
          have H' := Aside0.mk H
          clear H
          go_wp2
          go_meet
          case rel => exact ⟨_, (decide (a0 < (wrap64 ((-9223372036854775808) + a1)))), (by first | rfl | (simp; done) | (simp [*]; done)), H', ⟨by have := HJ7.out; have := HJ18.out; first | omega | exact Nat.le_refl _⟩, ⟨by (with_reducible repeat (first | refine blk_drewN ?_ _ | refine blk_drew ?_ | refine blk_alloc ?_ _)); refine blk_far ?_ NB292_303.out _; (with_reducible repeat (first | refine blk_drewN ?_ _ | refine blk_drew ?_ | refine blk_alloc ?_ _)); refine blk_far ?_ NB292_303.out _; (with_reducible repeat (first | refine blk_drewN ?_ _ | refine blk_drew ?_ | refine blk_alloc ?_ _)); refine blk_far ?_ NB292_303.out _; (with_reducible repeat (first | refine blk_drewN ?_ _ | refine blk_drew ?_ | refine blk_alloc ?_ _)); exact BK292.out⟩, ⟨by (with_reducible repeat (first | refine blk_drewN ?_ _ | refine blk_drew ?_ | refine blk_alloc ?_ _)); refine blk_put (cs := #[.int .i64 t299, .int .i64 t300, .string (⟨#[]⟩ : ByteArray)]) ?_ 2 _ rfl; (with_reducible repeat (first | refine blk_drewN ?_ _ | refine blk_drew ?_ | refine blk_alloc ?_ _)); refine blk_put (cs := #[.int .i64 t299, .int .i64 0, .string (⟨#[]⟩ : ByteArray)]) ?_ 1 _ rfl; (with_reducible repeat (first | refine blk_drewN ?_ _ | refine blk_drew ?_ | refine blk_alloc ?_ _)); refine blk_put (cs := #[.int .i64 0, .int .i64 0, .string (⟨#[]⟩ : ByteArray)]) ?_ 0 _ rfl; (with_reducible repeat (first | refine blk_drewN ?_ _ | refine blk_drew ?_ | refine blk_alloc ?_ _)); exact BK303.out⟩, ⟨by repeat (first | (with_reducible first | exact HB.out | apply below_alloc | apply pw_below_drewN | apply below_drew1 | refine below_set ?_ GE292.out | refine below_set ?_ GE303.out) | exact HB.out)⟩⟩
        · rw [if_neg c37] at H
          have c37b0 : decide (0 < a1) = false := decide_eq_false c37
          clear c37
          have H' := Aside0.mk H
          clear H
          go_wp2
          go_meet
          case rel => exact ⟨_, (false), (by first | rfl | (simp; done) | (simp [*]; done)), H', ⟨by have := HJ7.out; have := HJ18.out; first | omega | exact Nat.le_refl _⟩, ⟨by (with_reducible repeat (first | refine blk_drewN ?_ _ | refine blk_drew ?_ | refine blk_alloc ?_ _)); refine blk_far ?_ NB292_303.out _; (with_reducible repeat (first | refine blk_drewN ?_ _ | refine blk_drew ?_ | refine blk_alloc ?_ _)); refine blk_far ?_ NB292_303.out _; (with_reducible repeat (first | refine blk_drewN ?_ _ | refine blk_drew ?_ | refine blk_alloc ?_ _)); refine blk_far ?_ NB292_303.out _; (with_reducible repeat (first | refine blk_drewN ?_ _ | refine blk_drew ?_ | refine blk_alloc ?_ _)); exact BK292.out⟩, ⟨by (with_reducible repeat (first | refine blk_drewN ?_ _ | refine blk_drew ?_ | refine blk_alloc ?_ _)); refine blk_put (cs := #[.int .i64 t299, .int .i64 t300, .string (⟨#[]⟩ : ByteArray)]) ?_ 2 _ rfl; (with_reducible repeat (first | refine blk_drewN ?_ _ | refine blk_drew ?_ | refine blk_alloc ?_ _)); refine blk_put (cs := #[.int .i64 t299, .int .i64 0, .string (⟨#[]⟩ : ByteArray)]) ?_ 1 _ rfl; (with_reducible repeat (first | refine blk_drewN ?_ _ | refine blk_drew ?_ | refine blk_alloc ?_ _)); refine blk_put (cs := #[.int .i64 0, .int .i64 0, .string (⟨#[]⟩ : ByteArray)]) ?_ 0 _ rfl; (with_reducible repeat (first | refine blk_drewN ?_ _ | refine blk_drew ?_ | refine blk_alloc ?_ _)); exact BK303.out⟩, ⟨by repeat (first | (with_reducible first | exact HB.out | apply below_alloc | apply pw_below_drewN | apply below_drew1 | refine below_set ?_ GE292.out | refine below_set ?_ GE303.out) | exact HB.out)⟩⟩
    · rw [if_neg c35] at H
      have c35b0 : decide (a1 < 0) = false := decide_eq_false c35
      clear c35
      (first | rw [c35b0] | (simp only [i64_w, i32_w]; rw [c35b0]) | skip)
      by_cases c38 : a1 > 0
      · rw [if_pos c38] at H
        have c38b0 : decide (0 < a1) = true := decide_eq_true c38
        clear c38
        have H' := Aside0.mk H
        clear H
        go_wp2
        go_meet
        case rel => exact ⟨_, (decide (a0 < (wrap64 ((-9223372036854775808) + a1)))), (by first | rfl | (simp; done) | (simp [*]; done)), H', ⟨by have := HJ7.out; have := HJ18.out; first | omega | exact Nat.le_refl _⟩, ⟨by (with_reducible repeat (first | refine blk_drewN ?_ _ | refine blk_drew ?_ | refine blk_alloc ?_ _)); refine blk_far ?_ NB292_303.out _; (with_reducible repeat (first | refine blk_drewN ?_ _ | refine blk_drew ?_ | refine blk_alloc ?_ _)); refine blk_far ?_ NB292_303.out _; (with_reducible repeat (first | refine blk_drewN ?_ _ | refine blk_drew ?_ | refine blk_alloc ?_ _)); refine blk_far ?_ NB292_303.out _; (with_reducible repeat (first | refine blk_drewN ?_ _ | refine blk_drew ?_ | refine blk_alloc ?_ _)); exact BK292.out⟩, ⟨by (with_reducible repeat (first | refine blk_drewN ?_ _ | refine blk_drew ?_ | refine blk_alloc ?_ _)); refine blk_put (cs := #[.int .i64 t299, .int .i64 t300, .string (⟨#[]⟩ : ByteArray)]) ?_ 2 _ rfl; (with_reducible repeat (first | refine blk_drewN ?_ _ | refine blk_drew ?_ | refine blk_alloc ?_ _)); refine blk_put (cs := #[.int .i64 t299, .int .i64 0, .string (⟨#[]⟩ : ByteArray)]) ?_ 1 _ rfl; (with_reducible repeat (first | refine blk_drewN ?_ _ | refine blk_drew ?_ | refine blk_alloc ?_ _)); refine blk_put (cs := #[.int .i64 0, .int .i64 0, .string (⟨#[]⟩ : ByteArray)]) ?_ 0 _ rfl; (with_reducible repeat (first | refine blk_drewN ?_ _ | refine blk_drew ?_ | refine blk_alloc ?_ _)); exact BK303.out⟩, ⟨by repeat (first | (with_reducible first | exact HB.out | apply below_alloc | apply pw_below_drewN | apply below_drew1 | refine below_set ?_ GE292.out | refine below_set ?_ GE303.out) | exact HB.out)⟩⟩
      · rw [if_neg c38] at H
        have c38b0 : decide (0 < a1) = false := decide_eq_false c38
        clear c38
        have H' := Aside0.mk H
        clear H
        go_wp2
        go_meet
        case rel => exact ⟨_, (false), (by first | rfl | (simp; done) | (simp [*]; done)), H', ⟨by have := HJ7.out; have := HJ18.out; first | omega | exact Nat.le_refl _⟩, ⟨by (with_reducible repeat (first | refine blk_drewN ?_ _ | refine blk_drew ?_ | refine blk_alloc ?_ _)); refine blk_far ?_ NB292_303.out _; (with_reducible repeat (first | refine blk_drewN ?_ _ | refine blk_drew ?_ | refine blk_alloc ?_ _)); refine blk_far ?_ NB292_303.out _; (with_reducible repeat (first | refine blk_drewN ?_ _ | refine blk_drew ?_ | refine blk_alloc ?_ _)); refine blk_far ?_ NB292_303.out _; (with_reducible repeat (first | refine blk_drewN ?_ _ | refine blk_drew ?_ | refine blk_alloc ?_ _)); exact BK292.out⟩, ⟨by (with_reducible repeat (first | refine blk_drewN ?_ _ | refine blk_drew ?_ | refine blk_alloc ?_ _)); refine blk_put (cs := #[.int .i64 t299, .int .i64 t300, .string (⟨#[]⟩ : ByteArray)]) ?_ 2 _ rfl; (with_reducible repeat (first | refine blk_drewN ?_ _ | refine blk_drew ?_ | refine blk_alloc ?_ _)); refine blk_put (cs := #[.int .i64 t299, .int .i64 0, .string (⟨#[]⟩ : ByteArray)]) ?_ 1 _ rfl; (with_reducible repeat (first | refine blk_drewN ?_ _ | refine blk_drew ?_ | refine blk_alloc ?_ _)); refine blk_put (cs := #[.int .i64 0, .int .i64 0, .string (⟨#[]⟩ : ByteArray)]) ?_ 0 _ rfl; (with_reducible repeat (first | refine blk_drewN ?_ _ | refine blk_drew ?_ | refine blk_alloc ?_ _)); exact BK303.out⟩, ⟨by repeat (first | (with_reducible first | exact HB.out | apply below_alloc | apply pw_below_drewN | apply below_drew1 | refine below_set ?_ GE292.out | refine below_set ?_ GE303.out) | exact HB.out)⟩⟩
  case rest =>
    clear HC28
    try clear c1
    try clear c2
    try clear p2
    try clear c3
    try clear c4
    try clear c6
    try clear p6
    try clear c15
    try clear c15b0
    try clear c16
    try clear c16b0
    try clear c17
    try clear c17b0
    try clear c18
    try clear c18b0
    try clear c20
    try clear c20b0
    try clear c20b1
    try clear c20b2
    try clear c21
    try clear c22
    try clear c22b0
    try clear c22b1
    try clear c23
    try clear c24
    try clear c33
    try clear c35
    try clear c35b0
    try clear c36
    try clear c36b0
    try clear c37
    try clear c37b0
    try clear c38
    try clear c38b0
    try clear hcz14_0
    try clear hcz14_1
    try clear hcz14_2
    try clear hcz23_0
    try clear hcz23_1
    try clear hcz23_2
    try clear hcz34_0
    try clear hcz34_1
    try clear hcz34_2
    try clear hfz14_0
    try clear hfz14_1
    try clear hfz14_2
    try clear hfz23_0
    try clear hfz23_1
    try clear hfz23_2
    try clear hfz34_0
    try clear hfz34_1
    try clear hfz34_2
    try clear p2
    try clear p6
    obtain ⟨kq, x10_27, rfl, HA, HJ27, BK292, BK303, HB⟩ := hcut
    cases kq with
    | zero => exact absurd HA.out (by simp [quarrylaw02_CalcSums.j2])
    | succ kj27 =>
      have H := HA.out
      clear HA
      simp only [quarrylaw02_CalcSums.j2] at H
      have HC39 := Aside0.mk H
      clear H
      go_upto_region 9 with (fail)
      go_cut [110] (fun v110 wc => ∃ (kq : Nat) (x110_38 : Bool), v110 = .bool x110_38 ∧ Aside0 (quarrylaw02_CalcSums.j3 kq a0 a1 x110_38 = some r) ∧ Aside0 (kq ≤ kj27) ∧ Aside0 (wc.heap[gb292]? = some (.cells #[.int .i64 t288, .int .i64 t289, .string t290] 25 (0, 0))) ∧ Aside0 (wc.heap[gb303]? = some (.cells #[.int .i64 t299, .int .i64 t300, .string t301] 25 (0, 0))) ∧ Aside0 (Below w.heap.size w wc))
      case first =>
        have H := HC39.out
        clear HC39
        by_cases c40 : (x10_27 != (t302 == 40)) = true
        · rw [if_pos c40] at H
          have c40b0 : (x10_27 != (t302 == 40)) = true := c40
          (try (have c40b1 : decide (x10_27 = (t302 == 40)) = false := by simpa using c40))
          (try (have c40b2 : (x10_27 == (t302 == 40)) = false := by simpa using c40))
          (try (have c40b3 : ¬ (x10_27 = (t302 == 40)) := by simpa using c40))
          clear c40
          (first | rw [c40b0] | (simp only [i64_w, i32_w]; rw [c40b0]) | skip)
          have H' := Aside0.mk H
          clear H
          go_wp2
          go_meet
          case rel => exact ⟨_, (true), (by first | rfl | (simp; done) | (simp [*]; done)), H', ⟨by have := HJ7.out; have := HJ18.out; have := HJ27.out; first | omega | exact Nat.le_refl _⟩, ⟨by (with_reducible repeat (first | refine blk_drewN ?_ _ | refine blk_drew ?_ | refine blk_alloc ?_ _)); exact BK292.out⟩, ⟨by (with_reducible repeat (first | refine blk_drewN ?_ _ | refine blk_drew ?_ | refine blk_alloc ?_ _)); exact BK303.out⟩, ⟨by repeat (first | (with_reducible first | exact HB.out | apply below_alloc | apply pw_below_drewN | apply below_drew1 | refine below_set ?_ GE292.out | refine below_set ?_ GE303.out) | exact HB.out)⟩⟩
        · rw [if_neg c40] at H
          have c40b0 : (x10_27 != (t302 == 40)) = false := by simpa using c40
          (try (have c40b1 : decide (x10_27 = (t302 == 40)) = true := by simpa using c40))
          (try (have c40b2 : (x10_27 == (t302 == 40)) = true := by simpa using c40))
          clear c40
          (first | rw [c40b0] | (simp only [i64_w, i32_w]; rw [c40b0]) | skip)
          by_cases c41 : x10_27 = true
          · subst c41
            have H1 : (quarrylaw02_CalcSums.j3 kj27 a0 a1 false) = some r := by rw [if_pos rfl] at H; exact H
            clear H
            have H := H1
            clear H1
            have H' := Aside0.mk H
            clear H
            go_wp2
            go_meet
            case rel => exact ⟨_, (false), (by first | rfl | (simp; done) | (simp [*]; done)), H', ⟨by have := HJ7.out; have := HJ18.out; have := HJ27.out; first | omega | exact Nat.le_refl _⟩, ⟨by (with_reducible repeat (first | refine blk_drewN ?_ _ | refine blk_drew ?_ | refine blk_alloc ?_ _)); exact BK292.out⟩, ⟨by (with_reducible repeat (first | refine blk_drewN ?_ _ | refine blk_drew ?_ | refine blk_alloc ?_ _)); exact BK303.out⟩, ⟨by repeat (first | (with_reducible first | exact HB.out | apply below_alloc | apply pw_below_drewN | apply below_drew1 | refine below_set ?_ GE292.out | refine below_set ?_ GE303.out) | exact HB.out)⟩⟩
          · replace c41 := Bool.eq_false_iff.mpr c41
            subst c41
            have H1 : (if t302 = 0 then (quarrylaw02_CalcSums.j3 kj27 a0 a1 (t300 != (wrap64 (a0 - a1)))) else (quarrylaw02_CalcSums.j3 kj27 a0 a1 true)) = some r := by rw [if_neg (show ¬ (false = true) by decide)] at H; exact H
            clear H
            have H := H1
            clear H1
            by_cases c42 : t302 = 0
            · rw [if_pos c42] at H
              have c42b0 : (t302 == 0) = true := beq_iff_eq.mpr c42
              have c42b1 : (t302 != 0) = false := bne_eq_false_iff_eq.mpr c42
              clear c42
              have H' := Aside0.mk H
              clear H
              have hnb43 := NB303_292.out
              have hnc43 := NB292_303.out
              have hcz44_0 : wc.cell? ⟨gb303, 0, none⟩ = some (.int .i64 t299) := (blk_cell BK303.out 0).trans rfl
              have hcz44_1 : wc.cell? ⟨gb303, 1, none⟩ = some (.int .i64 t300) := (blk_cell BK303.out 1).trans rfl
              have hcz44_2 : wc.cell? ⟨gb303, 2, none⟩ = some (.string t301) := (blk_cell BK303.out 2).trans rfl
              have hfz44_0 := blk_frozen BK303.out 0
              have hfz44_1 := blk_frozen BK303.out 1
              have hfz44_2 := blk_frozen BK303.out 2
              go_wp2
              go_meet
              case rel => exact ⟨_, ((t300 != (wrap64 (a0 - a1)))), (by first | rfl | (simp; done) | (simp [*]; done)), H', ⟨by have := HJ7.out; have := HJ18.out; have := HJ27.out; first | omega | exact Nat.le_refl _⟩, ⟨by (with_reducible repeat (first | refine blk_drewN ?_ _ | refine blk_drew ?_ | refine blk_alloc ?_ _)); exact BK292.out⟩, ⟨by (with_reducible repeat (first | refine blk_drewN ?_ _ | refine blk_drew ?_ | refine blk_alloc ?_ _)); exact BK303.out⟩, ⟨by repeat (first | (with_reducible first | exact HB.out | apply below_alloc | apply pw_below_drewN | apply below_drew1 | refine below_set ?_ GE292.out | refine below_set ?_ GE303.out) | exact HB.out)⟩⟩
            · rw [if_neg c42] at H
              have c42b0 : (t302 == 0) = false := beq_eq_false_iff_ne.mpr c42
              have c42b1 : (t302 != 0) = true := bne_iff_ne.mpr c42
              have H' := Aside0.mk H
              clear H
              go_wp2
              go_meet
              case rel => exact ⟨_, (true), (by first | rfl | (simp; done) | (simp [*]; done)), H', ⟨by have := HJ7.out; have := HJ18.out; have := HJ27.out; first | omega | exact Nat.le_refl _⟩, ⟨by (with_reducible repeat (first | refine blk_drewN ?_ _ | refine blk_drew ?_ | refine blk_alloc ?_ _)); exact BK292.out⟩, ⟨by (with_reducible repeat (first | refine blk_drewN ?_ _ | refine blk_drew ?_ | refine blk_alloc ?_ _)); exact BK303.out⟩, ⟨by repeat (first | (with_reducible first | exact HB.out | apply below_alloc | apply pw_below_drewN | apply below_drew1 | refine below_set ?_ GE292.out | refine below_set ?_ GE303.out) | exact HB.out)⟩⟩
      case rest =>
        clear HC39
        try clear c1
        try clear c2
        try clear p2
        try clear c3
        try clear c4
        try clear c6
        try clear p6
        try clear c15
        try clear c15b0
        try clear c16
        try clear c16b0
        try clear c17
        try clear c17b0
        try clear c18
        try clear c18b0
        try clear c20
        try clear c20b0
        try clear c20b1
        try clear c20b2
        try clear c21
        try clear c22
        try clear c22b0
        try clear c22b1
        try clear c23
        try clear c24
        try clear c33
        try clear c35
        try clear c35b0
        try clear c36
        try clear c36b0
        try clear c37
        try clear c37b0
        try clear c38
        try clear c38b0
        try clear c40
        try clear c40b0
        try clear c40b1
        try clear c40b2
        try clear c41
        try clear c42
        try clear c42b0
        try clear c42b1
        try clear c43
        try clear hcz14_0
        try clear hcz14_1
        try clear hcz14_2
        try clear hcz23_0
        try clear hcz23_1
        try clear hcz23_2
        try clear hcz34_0
        try clear hcz34_1
        try clear hcz34_2
        try clear hcz44_0
        try clear hcz44_1
        try clear hcz44_2
        try clear hfz14_0
        try clear hfz14_1
        try clear hfz14_2
        try clear hfz23_0
        try clear hfz23_1
        try clear hfz23_2
        try clear hfz34_0
        try clear hfz34_1
        try clear hfz34_2
        try clear hfz44_0
        try clear hfz44_1
        try clear hfz44_2
        try clear p2
        try clear p6
        obtain ⟨kq, x110_38, rfl, HA, HJ38, BK292, BK303, HB⟩ := hcut
        cases kq with
        | zero => exact absurd HA.out (by simp [quarrylaw02_CalcSums.j3])
        | succ kj38 =>
          have H := HA.out
          clear HA
          simp only [quarrylaw02_CalcSums.j3] at H
          by_cases c45 : x110_38 = true
          · subst c45
            have H1 : (none) = some r := by rw [if_pos rfl] at H; exact H
            cases H1
          · replace c45 := Bool.eq_false_iff.mpr c45
            subst c45
            go_upto_region 11 with (fail)
            exact quarrylaw02_CalcSums.partC k a0 a1 r w hu25 A3 t282 t283 t284 A5 t285 t286 t287 A6 t288 t289 t290 t291 A7 gb292 GW292 GE292 x7_7 kj7 HJ7 kj18 HJ18 t293 t294 t295 A25 t296 t297 t298 A26 t299 t300 t301 t302 A27 gb303 GW303 GE303 NB292_303 NB303_292 hnb33 hnc33 u110 x10_27 kj27 HJ27 wc u17 u18 u19 u20 u21 u22 u23 u24 u25 u26 u27 u28 u29 u30 u31 u32 u33 u34 u35 u36 u37 u38 u39 u40 u41 u42 u43 u44 u45 u46 u47 u48 u49 u50 u51 u52 u53 u54 u55 u56 u57 u58 u59 u60 u61 u62 u63 u64 u65 u66 u67 u68 u69 u70 u71 u72 u73 u74 u75 u76 u77 u78 u79 u80 u81 u82 u83 u84 u85 u86 u87 u88 u89 u90 u91 u92 u93 u94 u95 u96 u97 u98 u99 u100 u101 u102 u103 u104 u105 u106 u107 u108 u109 u111 u112 u113 u114 u115 u116 u117 u118 u119 u120 u121 u122 u123 u124 u125 u126 u127 u128 u129 u130 u131 u132 u133 u134 u135 u136 u137 u138 u139 u140 u141 u142 u143 u144 u145 u146 u147 u148 u149 u150 u151 u152 u153 u154 u155 u156 u157 u158 u159 u160 u161 u162 u163 u164 u165 u166 u167 u168 u169 u170 u171 u172 u173 u174 u175 u176 u177 u178 u179 BK292 BK303 HB kj38 HJ38 H _ (by assumption)
end Go.Proofs.Ytfbeklbjlkgbnaa.P
end
section
namespace Go.Proofs.Ytfbeklbjlkgbnaa.P
open Go.RowKit Go.Proofs.YtfbeklbjlkgbnaaW.PrintWords Go.Proofs.YtfbeklbjlkgbnaaW.PrintLast Go.Proofs.YtfbeklbjlkgbnaaW.PrintMore
attribute [local go_sem] max2_int min2_int max_two min_two max_three min_three max_four min_four
set_option linter.unusedVariables false
set_option linter.unusedSimpArgs false
attribute [local go_sem high] eqA25
set_option maxHeartbeats 8000000 in
set_option maxRecDepth 100000 in
theorem quarrylaw02_CalcSums.calls (k : Nat) (a0 : Int) (a1 : Int) (r : Bool) (w : World) (h : quarrylaw02_CalcSums.f k a0 a1 = some r) :
    Calls Try.prog 6 #[.int .i64 a0, .int .i64 a1] w fun e w' => e = .returned (.bool r) ∧ Below w.heap.size w w' := by
  have hu25 := Try.underlying25
  have HB := Aside0.mk (Below.refl w.heap.size w)
  have H : ((quarrylaw02_works.f).bind fun t281 => (if t281 = true then ((quarrylaw02_num.f a0).bind fun bt282 => ((quarrylaw02_num.f a1).bind fun bt285 => ((calc_Binary.f 11 bt282.1 bt282.2.1 bt282.2.2 bt285.1 bt285.2.1 bt285.2.2).bind fun bt288 => (if a1 > 0 then (if a0 > (wrap64 (9223372036854775807 - a1)) then (quarrylaw02_CalcSums.j0 k a0 a1 bt288.2.2.2 true bt288.1 bt288.2.1 bt288.2.2.1) else (if a1 < 0 then (quarrylaw02_CalcSums.j0 k a0 a1 bt288.2.2.2 (decide (a0 < (wrap64 ((-9223372036854775808) - a1)))) bt288.1 bt288.2.1 bt288.2.2.1) else (quarrylaw02_CalcSums.j0 k a0 a1 bt288.2.2.2 false bt288.1 bt288.2.1 bt288.2.2.1))) else (if a1 < 0 then (quarrylaw02_CalcSums.j0 k a0 a1 bt288.2.2.2 (decide (a0 < (wrap64 ((-9223372036854775808) - a1)))) bt288.1 bt288.2.1 bt288.2.2.1) else (quarrylaw02_CalcSums.j0 k a0 a1 bt288.2.2.2 false bt288.1 bt288.2.1 bt288.2.2.1)))))) else (none))) = some r := h
  clear h
  replace H := Option.bind_eq_some_iff.mp H
  obtain ⟨t281, A30, H⟩ := H
  replace H : (if t281 = true then ((quarrylaw02_num.f a0).bind fun bt282 => ((quarrylaw02_num.f a1).bind fun bt285 => ((calc_Binary.f 11 bt282.1 bt282.2.1 bt282.2.2 bt285.1 bt285.2.1 bt285.2.2).bind fun bt288 => (if a1 > 0 then (if a0 > (wrap64 (9223372036854775807 - a1)) then (quarrylaw02_CalcSums.j0 k a0 a1 bt288.2.2.2 true bt288.1 bt288.2.1 bt288.2.2.1) else (if a1 < 0 then (quarrylaw02_CalcSums.j0 k a0 a1 bt288.2.2.2 (decide (a0 < (wrap64 ((-9223372036854775808) - a1)))) bt288.1 bt288.2.1 bt288.2.2.1) else (quarrylaw02_CalcSums.j0 k a0 a1 bt288.2.2.2 false bt288.1 bt288.2.1 bt288.2.2.1))) else (if a1 < 0 then (quarrylaw02_CalcSums.j0 k a0 a1 bt288.2.2.2 (decide (a0 < (wrap64 ((-9223372036854775808) - a1)))) bt288.1 bt288.2.1 bt288.2.2.1) else (quarrylaw02_CalcSums.j0 k a0 a1 bt288.2.2.2 false bt288.1 bt288.2.1 bt288.2.2.1)))))) else (none)) = some r := H
  have A3 := Aside0.mk A30
  clear A30
  by_cases c4 : t281 = true
  · subst c4
    have H1 : ((quarrylaw02_num.f a0).bind fun bt282 => ((quarrylaw02_num.f a1).bind fun bt285 => ((calc_Binary.f 11 bt282.1 bt282.2.1 bt282.2.2 bt285.1 bt285.2.1 bt285.2.2).bind fun bt288 => (if a1 > 0 then (if a0 > (wrap64 (9223372036854775807 - a1)) then (quarrylaw02_CalcSums.j0 k a0 a1 bt288.2.2.2 true bt288.1 bt288.2.1 bt288.2.2.1) else (if a1 < 0 then (quarrylaw02_CalcSums.j0 k a0 a1 bt288.2.2.2 (decide (a0 < (wrap64 ((-9223372036854775808) - a1)))) bt288.1 bt288.2.1 bt288.2.2.1) else (quarrylaw02_CalcSums.j0 k a0 a1 bt288.2.2.2 false bt288.1 bt288.2.1 bt288.2.2.1))) else (if a1 < 0 then (quarrylaw02_CalcSums.j0 k a0 a1 bt288.2.2.2 (decide (a0 < (wrap64 ((-9223372036854775808) - a1)))) bt288.1 bt288.2.1 bt288.2.2.1) else (quarrylaw02_CalcSums.j0 k a0 a1 bt288.2.2.2 false bt288.1 bt288.2.1 bt288.2.2.1)))))) = some r := by rw [if_pos rfl] at H; exact H
    clear H
    have H := H1
    clear H1
    replace H := Option.bind_eq_some_iff.mp H
    obtain ⟨⟨t282, t283, t284⟩, A50, H⟩ := H
    replace H : ((quarrylaw02_num.f a1).bind fun bt285 => ((calc_Binary.f 11 t282 t283 t284 bt285.1 bt285.2.1 bt285.2.2).bind fun bt288 => (if a1 > 0 then (if a0 > (wrap64 (9223372036854775807 - a1)) then (quarrylaw02_CalcSums.j0 k a0 a1 bt288.2.2.2 true bt288.1 bt288.2.1 bt288.2.2.1) else (if a1 < 0 then (quarrylaw02_CalcSums.j0 k a0 a1 bt288.2.2.2 (decide (a0 < (wrap64 ((-9223372036854775808) - a1)))) bt288.1 bt288.2.1 bt288.2.2.1) else (quarrylaw02_CalcSums.j0 k a0 a1 bt288.2.2.2 false bt288.1 bt288.2.1 bt288.2.2.1))) else (if a1 < 0 then (quarrylaw02_CalcSums.j0 k a0 a1 bt288.2.2.2 (decide (a0 < (wrap64 ((-9223372036854775808) - a1)))) bt288.1 bt288.2.1 bt288.2.2.1) else (quarrylaw02_CalcSums.j0 k a0 a1 bt288.2.2.2 false bt288.1 bt288.2.1 bt288.2.2.1))))) = some r := H
    have A5 := Aside0.mk A50
    clear A50
    replace H := Option.bind_eq_some_iff.mp H
    obtain ⟨⟨t285, t286, t287⟩, A60, H⟩ := H
    replace H : ((calc_Binary.f 11 t282 t283 t284 t285 t286 t287).bind fun bt288 => (if a1 > 0 then (if a0 > (wrap64 (9223372036854775807 - a1)) then (quarrylaw02_CalcSums.j0 k a0 a1 bt288.2.2.2 true bt288.1 bt288.2.1 bt288.2.2.1) else (if a1 < 0 then (quarrylaw02_CalcSums.j0 k a0 a1 bt288.2.2.2 (decide (a0 < (wrap64 ((-9223372036854775808) - a1)))) bt288.1 bt288.2.1 bt288.2.2.1) else (quarrylaw02_CalcSums.j0 k a0 a1 bt288.2.2.2 false bt288.1 bt288.2.1 bt288.2.2.1))) else (if a1 < 0 then (quarrylaw02_CalcSums.j0 k a0 a1 bt288.2.2.2 (decide (a0 < (wrap64 ((-9223372036854775808) - a1)))) bt288.1 bt288.2.1 bt288.2.2.1) else (quarrylaw02_CalcSums.j0 k a0 a1 bt288.2.2.2 false bt288.1 bt288.2.1 bt288.2.2.1)))) = some r := H
    have A6 := Aside0.mk A60
    clear A60
    replace H := Option.bind_eq_some_iff.mp H
    obtain ⟨⟨t288, t289, t290, t291⟩, A70, H⟩ := H
    replace H : (if a1 > 0 then (if a0 > (wrap64 (9223372036854775807 - a1)) then (quarrylaw02_CalcSums.j0 k a0 a1 t291 true t288 t289 t290) else (if a1 < 0 then (quarrylaw02_CalcSums.j0 k a0 a1 t291 (decide (a0 < (wrap64 ((-9223372036854775808) - a1)))) t288 t289 t290) else (quarrylaw02_CalcSums.j0 k a0 a1 t291 false t288 t289 t290))) else (if a1 < 0 then (quarrylaw02_CalcSums.j0 k a0 a1 t291 (decide (a0 < (wrap64 ((-9223372036854775808) - a1)))) t288 t289 t290) else (quarrylaw02_CalcSums.j0 k a0 a1 t291 false t288 t289 t290))) = some r := H
    have A7 := Aside0.mk A70
    clear A70
    have HC8 := Aside0.mk H
    clear H
    go_enter Try.func6, Try.ntmps6
    go_upto_region 4 with (first | ((with_reducible refine gate_callee (f := 23) rfl ?_); refine goesL_ (some 17) rfl rfl Try.func23 (by kernel_rfl) rfl #[] rfl (by (try simp only [List.map_toArray, List.map_cons, List.map_nil]); first | done | rfl | (simp only [List.length_drop, List.length_take]; rfl)) ?_; (with_reducible refine (quarrylaw02_works.calls  true _ A3.out).mono ?_); rintro e w9 ⟨rfl, hb⟩; refine ⟨_, rfl, ?_⟩; have n0_ := Aside0.mk (below_step (by repeat (first | (with_reducible first | exact HB.out | apply below_alloc | apply pw_below_drewN | apply below_drew1) | exact HB.out)) hb); clear HB; have HB := n0_; clear n0_; (try clear hb); (try clear hb2); (try clear hk); (try clear hi)) | ((with_reducible refine gate_callee (f := 24) rfl ?_); refine goesL_ (some 21) rfl rfl Try.func24 (by kernel_rfl) rfl #[.int .i64 a0] rfl (by (try simp only [List.map_toArray, List.map_cons, List.map_nil]); first | done | rfl | (simp only [List.length_drop, List.length_take]; rfl)) ?_; (with_reducible refine (quarrylaw02_num.calls a0 t282 t283 t284 _ A5.out).mono ?_); rintro e w10 ⟨rfl, hb⟩; refine ⟨_, rfl, ?_⟩; have n0_ := Aside0.mk (below_step (by repeat (first | (with_reducible first | exact HB.out | apply below_alloc | apply pw_below_drewN | apply below_drew1) | exact HB.out)) hb); clear HB; have HB := n0_; clear n0_; (try clear hb); (try clear hb2); (try clear hk); (try clear hi)) | ((with_reducible refine gate_callee (f := 24) rfl ?_); refine goesL_ (some 23) rfl rfl Try.func24 (by kernel_rfl) rfl #[.int .i64 a1] rfl (by (try simp only [List.map_toArray, List.map_cons, List.map_nil]); first | done | rfl | (simp only [List.length_drop, List.length_take]; rfl)) ?_; (with_reducible refine (quarrylaw02_num.calls a1 t285 t286 t287 _ A6.out).mono ?_); rintro e w11 ⟨rfl, hb⟩; refine ⟨_, rfl, ?_⟩; have n0_ := Aside0.mk (below_step (by repeat (first | (with_reducible first | exact HB.out | apply below_alloc | apply pw_below_drewN | apply below_drew1) | exact HB.out)) hb); clear HB; have HB := n0_; clear n0_; (try clear hb); (try clear hb2); (try clear hk); (try clear hi)) | ((with_reducible refine gate_callee (f := 17) rfl ?_); refine goesL_ (some 24) rfl rfl Try.func17 (by kernel_rfl) rfl #[.int .i64 11, .agg #[.int .i64 t282, .int .i64 t283, .string t284], .agg #[.int .i64 t285, .int .i64 t286, .string t287]] rfl (by (try simp only [List.map_toArray, List.map_cons, List.map_nil]); first | done | rfl | (simp only [List.length_drop, List.length_take]; rfl)) ?_; (with_reducible refine (calc_Binary.print 11 t282 t283 t284 t285 t286 t287 t288 t289 t290 t291 _ A7.out).mono ?_); rintro e w12 ⟨rfl, hb⟩; refine ⟨_, rfl, ?_⟩; have n0_ := Aside0.mk (below_step (by repeat (first | (with_reducible first | exact HB.out | apply below_alloc | apply pw_below_drewN | apply below_drew1) | exact HB.out)) hb); clear HB; have HB := n0_; clear n0_; (try clear hb); (try clear hb2); (try clear hk); (try clear hi)) | ((with_reducible refine gate_dst (N := 5) rfl ?_); refine box_event ?hg (N := 5) ?hd (cs := #[.int .i64 0, .int .i64 0, .string (⟨#[]⟩ : ByteArray)]) (t := 25) ?hr ?_; (case hd => rfl); (case hg => rfl); (case hr => first | (go_simp; done) | (go_simp; rfl)); intro gb292 hg w13 hbox hb; have n0_ := Aside0.mk (below_step (by repeat (first | (with_reducible first | exact HB.out | apply below_alloc | apply pw_below_drewN | apply below_drew1) | exact HB.out)) hb); have n1_ := Aside0.mk (hbox); have n2_ := Aside0.mk ((by rw [hg]; exact (below_size (by repeat (first | (with_reducible first | exact HB.out | apply below_alloc | apply pw_below_drewN | apply below_drew1) | exact HB.out))) : w.heap.size ≤ gb292)); have n3_ := Aside0.mk ((by rw [hg]; exact (below_size (by repeat (first | (with_reducible first | exact HB.out | apply below_alloc | apply pw_below_drewN | apply below_drew1) | exact HB.out))) : w.heap.size ≤ gb292)); clear HB; have HB := n0_; have BK292 := n1_; have GW292 := n2_; have GE292 := n3_; clear n0_ n1_ n2_ n3_; clear hb hbox hg; have hcz14_0 : w13.cell? ⟨gb292, 0, none⟩ = some (.int .i64 0) := (blk_cell BK292.out 0).trans rfl; have hcz14_1 : w13.cell? ⟨gb292, 1, none⟩ = some (.int .i64 0) := (blk_cell BK292.out 1).trans rfl; have hcz14_2 : w13.cell? ⟨gb292, 2, none⟩ = some (.string (⟨#[]⟩ : ByteArray)) := (blk_cell BK292.out 2).trans rfl; have hfz14_0 := blk_frozen BK292.out 0; have hfz14_1 := blk_frozen BK292.out 1; have hfz14_2 := blk_frozen BK292.out 2))
    (try simp only [Act.put, List.setIfInBounds_toArray, List.set_cons_zero, List.set_cons_succ])
    go_cut [7] (fun v7 wc => ∃ (kq : Nat) (x7_7 : Bool), v7 = .bool x7_7 ∧ Aside0 (quarrylaw02_CalcSums.j0 kq a0 a1 t291 x7_7 t288 t289 t290 = some r) ∧ Aside0 (kq ≤ k) ∧ Aside0 (wc.heap[gb292]? = some (.cells #[.int .i64 t288, .int .i64 t289, .string t290] 25 (0, 0))) ∧ Aside0 (Below w.heap.size w wc))
    case first =>
      have H := HC8.out
      clear HC8
      by_cases c15 : a1 > 0
      · rw [if_pos c15] at H
        have c15b0 : decide (0 < a1) = true := decide_eq_true c15
        clear c15
        (first | rw [c15b0] | (simp only [i64_w, i32_w]; rw [c15b0]) | skip)
        by_cases c16 : a0 > (wrap64 (9223372036854775807 - a1))
        · rw [if_pos c16] at H
          have c16b0 : decide ((wrap64 (9223372036854775807 - a1)) < a0) = true := decide_eq_true c16
          clear c16
          have H' := Aside0.mk H
          clear H
          go_wp2
          go_meet
          case rel => exact ⟨_, (true), (by first | rfl | (simp; done) | (simp [*]; done)), H', ⟨by first | omega | exact Nat.le_refl _⟩, ⟨by (with_reducible repeat (first | refine blk_drewN ?_ _ | refine blk_drew ?_ | refine blk_alloc ?_ _)); refine blk_put (cs := #[.int .i64 t288, .int .i64 t289, .string (⟨#[]⟩ : ByteArray)]) ?_ 2 _ rfl; (with_reducible repeat (first | refine blk_drewN ?_ _ | refine blk_drew ?_ | refine blk_alloc ?_ _)); refine blk_put (cs := #[.int .i64 t288, .int .i64 0, .string (⟨#[]⟩ : ByteArray)]) ?_ 1 _ rfl; (with_reducible repeat (first | refine blk_drewN ?_ _ | refine blk_drew ?_ | refine blk_alloc ?_ _)); refine blk_put (cs := #[.int .i64 0, .int .i64 0, .string (⟨#[]⟩ : ByteArray)]) ?_ 0 _ rfl; (with_reducible repeat (first | refine blk_drewN ?_ _ | refine blk_drew ?_ | refine blk_alloc ?_ _)); exact BK292.out⟩, ⟨by repeat (first | (with_reducible first | exact HB.out | apply below_alloc | apply pw_below_drewN | apply below_drew1 | refine below_set ?_ GE292.out) | exact HB.out)⟩⟩
        · rw [if_neg c16] at H
          have c16b0 : decide ((wrap64 (9223372036854775807 - a1)) < a0) = false := decide_eq_false c16
          clear c16
          by_cases c17 : a1 < 0
          · rw [if_pos c17] at H
            have c17b0 : decide (a1 < 0) = true := decide_eq_true c17
            clear c17
            have H' := Aside0.mk H
            clear H
            go_wp2
            go_meet
            case rel => exact ⟨_, (decide (a0 < (wrap64 ((-9223372036854775808) - a1)))), (by first | rfl | (simp; done) | (simp [*]; done)), H', ⟨by first | omega | exact Nat.le_refl _⟩, ⟨by (with_reducible repeat (first | refine blk_drewN ?_ _ | refine blk_drew ?_ | refine blk_alloc ?_ _)); refine blk_put (cs := #[.int .i64 t288, .int .i64 t289, .string (⟨#[]⟩ : ByteArray)]) ?_ 2 _ rfl; (with_reducible repeat (first | refine blk_drewN ?_ _ | refine blk_drew ?_ | refine blk_alloc ?_ _)); refine blk_put (cs := #[.int .i64 t288, .int .i64 0, .string (⟨#[]⟩ : ByteArray)]) ?_ 1 _ rfl; (with_reducible repeat (first | refine blk_drewN ?_ _ | refine blk_drew ?_ | refine blk_alloc ?_ _)); refine blk_put (cs := #[.int .i64 0, .int .i64 0, .string (⟨#[]⟩ : ByteArray)]) ?_ 0 _ rfl; (with_reducible repeat (first | refine blk_drewN ?_ _ | refine blk_drew ?_ | refine blk_alloc ?_ _)); exact BK292.out⟩, ⟨by repeat (first | (with_reducible first | exact HB.out | apply below_alloc | apply pw_below_drewN | apply below_drew1 | refine below_set ?_ GE292.out) | exact HB.out)⟩⟩
          · rw [if_neg c17] at H
            have c17b0 : decide (a1 < 0) = false := decide_eq_false c17
            clear c17
            have H' := Aside0.mk H
            clear H
            go_wp2
            go_meet
            case rel => exact ⟨_, (false), (by first | rfl | (simp; done) | (simp [*]; done)), H', ⟨by first | omega | exact Nat.le_refl _⟩, ⟨by (with_reducible repeat (first | refine blk_drewN ?_ _ | refine blk_drew ?_ | refine blk_alloc ?_ _)); refine blk_put (cs := #[.int .i64 t288, .int .i64 t289, .string (⟨#[]⟩ : ByteArray)]) ?_ 2 _ rfl; (with_reducible repeat (first | refine blk_drewN ?_ _ | refine blk_drew ?_ | refine blk_alloc ?_ _)); refine blk_put (cs := #[.int .i64 t288, .int .i64 0, .string (⟨#[]⟩ : ByteArray)]) ?_ 1 _ rfl; (with_reducible repeat (first | refine blk_drewN ?_ _ | refine blk_drew ?_ | refine blk_alloc ?_ _)); refine blk_put (cs := #[.int .i64 0, .int .i64 0, .string (⟨#[]⟩ : ByteArray)]) ?_ 0 _ rfl; (with_reducible repeat (first | refine blk_drewN ?_ _ | refine blk_drew ?_ | refine blk_alloc ?_ _)); exact BK292.out⟩, ⟨by repeat (first | (with_reducible first | exact HB.out | apply below_alloc | apply pw_below_drewN | apply below_drew1 | refine below_set ?_ GE292.out) | exact HB.out)⟩⟩
      · rw [if_neg c15] at H
        have c15b0 : decide (0 < a1) = false := decide_eq_false c15
        clear c15
        (first | rw [c15b0] | (simp only [i64_w, i32_w]; rw [c15b0]) | skip)
        by_cases c18 : a1 < 0
        · rw [if_pos c18] at H
          have c18b0 : decide (a1 < 0) = true := decide_eq_true c18
          clear c18
          have H' := Aside0.mk H
          clear H
          go_wp2
          go_meet
          case rel => exact ⟨_, (decide (a0 < (wrap64 ((-9223372036854775808) - a1)))), (by first | rfl | (simp; done) | (simp [*]; done)), H', ⟨by first | omega | exact Nat.le_refl _⟩, ⟨by (with_reducible repeat (first | refine blk_drewN ?_ _ | refine blk_drew ?_ | refine blk_alloc ?_ _)); refine blk_put (cs := #[.int .i64 t288, .int .i64 t289, .string (⟨#[]⟩ : ByteArray)]) ?_ 2 _ rfl; (with_reducible repeat (first | refine blk_drewN ?_ _ | refine blk_drew ?_ | refine blk_alloc ?_ _)); refine blk_put (cs := #[.int .i64 t288, .int .i64 0, .string (⟨#[]⟩ : ByteArray)]) ?_ 1 _ rfl; (with_reducible repeat (first | refine blk_drewN ?_ _ | refine blk_drew ?_ | refine blk_alloc ?_ _)); refine blk_put (cs := #[.int .i64 0, .int .i64 0, .string (⟨#[]⟩ : ByteArray)]) ?_ 0 _ rfl; (with_reducible repeat (first | refine blk_drewN ?_ _ | refine blk_drew ?_ | refine blk_alloc ?_ _)); exact BK292.out⟩, ⟨by repeat (first | (with_reducible first | exact HB.out | apply below_alloc | apply pw_below_drewN | apply below_drew1 | refine below_set ?_ GE292.out) | exact HB.out)⟩⟩
        · rw [if_neg c18] at H
          have c18b0 : decide (a1 < 0) = false := decide_eq_false c18
          clear c18
          have H' := Aside0.mk H
          clear H
          go_wp2
          go_meet
          case rel => exact ⟨_, (false), (by first | rfl | (simp; done) | (simp [*]; done)), H', ⟨by first | omega | exact Nat.le_refl _⟩, ⟨by (with_reducible repeat (first | refine blk_drewN ?_ _ | refine blk_drew ?_ | refine blk_alloc ?_ _)); refine blk_put (cs := #[.int .i64 t288, .int .i64 t289, .string (⟨#[]⟩ : ByteArray)]) ?_ 2 _ rfl; (with_reducible repeat (first | refine blk_drewN ?_ _ | refine blk_drew ?_ | refine blk_alloc ?_ _)); refine blk_put (cs := #[.int .i64 t288, .int .i64 0, .string (⟨#[]⟩ : ByteArray)]) ?_ 1 _ rfl; (with_reducible repeat (first | refine blk_drewN ?_ _ | refine blk_drew ?_ | refine blk_alloc ?_ _)); refine blk_put (cs := #[.int .i64 0, .int .i64 0, .string (⟨#[]⟩ : ByteArray)]) ?_ 0 _ rfl; (with_reducible repeat (first | refine blk_drewN ?_ _ | refine blk_drew ?_ | refine blk_alloc ?_ _)); exact BK292.out⟩, ⟨by repeat (first | (with_reducible first | exact HB.out | apply below_alloc | apply pw_below_drewN | apply below_drew1 | refine below_set ?_ GE292.out) | exact HB.out)⟩⟩
    case rest =>
      clear HC8
      try clear c1
      try clear c2
      try clear p2
      try clear c4
      try clear c6
      try clear p6
      try clear c15
      try clear c15b0
      try clear c16
      try clear c16b0
      try clear c17
      try clear c17b0
      try clear c18
      try clear c18b0
      try clear hcz14_0
      try clear hcz14_1
      try clear hcz14_2
      try clear hfz14_0
      try clear hfz14_1
      try clear hfz14_2
      obtain ⟨kq, x7_7, rfl, HA, HJ7, BK292, HB⟩ := hcut
      cases kq with
      | zero => exact absurd HA.out (by simp [quarrylaw02_CalcSums.j0])
      | succ kj7 =>
        have H := HA.out
        clear HA
        simp only [quarrylaw02_CalcSums.j0] at H
        have HC19 := Aside0.mk H
        clear H
        go_upto_region 5 with (fail)
        go_cut [64] (fun v64 wc => ∃ (kq : Nat) (x64_18 : Bool), v64 = .bool x64_18 ∧ Aside0 (quarrylaw02_CalcSums.j1 kq a0 a1 x64_18 = some r) ∧ Aside0 (kq ≤ kj7) ∧ Aside0 (wc.heap[gb292]? = some (.cells #[.int .i64 t288, .int .i64 t289, .string t290] 25 (0, 0))) ∧ Aside0 (Below w.heap.size w wc))
        case first =>
          have H := HC19.out
          clear HC19
          by_cases c20 : (x7_7 != (t291 == 40)) = true
          · rw [if_pos c20] at H
            have c20b0 : (x7_7 != (t291 == 40)) = true := c20
            (try (have c20b1 : decide (x7_7 = (t291 == 40)) = false := by simpa using c20))
            (try (have c20b2 : (x7_7 == (t291 == 40)) = false := by simpa using c20))
            (try (have c20b3 : ¬ (x7_7 = (t291 == 40)) := by simpa using c20))
            clear c20
            (first | rw [c20b0] | (simp only [i64_w, i32_w]; rw [c20b0]) | skip)
            have H' := Aside0.mk H
            clear H
            go_wp2
            go_meet
            case rel => exact ⟨_, (true), (by first | rfl | (simp; done) | (simp [*]; done)), H', ⟨by have := HJ7.out; first | omega | exact Nat.le_refl _⟩, ⟨by (with_reducible repeat (first | refine blk_drewN ?_ _ | refine blk_drew ?_ | refine blk_alloc ?_ _)); exact BK292.out⟩, ⟨by repeat (first | (with_reducible first | exact HB.out | apply below_alloc | apply pw_below_drewN | apply below_drew1 | refine below_set ?_ GE292.out) | exact HB.out)⟩⟩
          · rw [if_neg c20] at H
            have c20b0 : (x7_7 != (t291 == 40)) = false := by simpa using c20
            (try (have c20b1 : decide (x7_7 = (t291 == 40)) = true := by simpa using c20))
            (try (have c20b2 : (x7_7 == (t291 == 40)) = true := by simpa using c20))
            clear c20
            (first | rw [c20b0] | (simp only [i64_w, i32_w]; rw [c20b0]) | skip)
            by_cases c21 : x7_7 = true
            · subst c21
              have H1 : (quarrylaw02_CalcSums.j1 kj7 a0 a1 false) = some r := by rw [if_pos rfl] at H; exact H
              clear H
              have H := H1
              clear H1
              have H' := Aside0.mk H
              clear H
              go_wp2
              go_meet
              case rel => exact ⟨_, (false), (by first | rfl | (simp; done) | (simp [*]; done)), H', ⟨by have := HJ7.out; first | omega | exact Nat.le_refl _⟩, ⟨by (with_reducible repeat (first | refine blk_drewN ?_ _ | refine blk_drew ?_ | refine blk_alloc ?_ _)); exact BK292.out⟩, ⟨by repeat (first | (with_reducible first | exact HB.out | apply below_alloc | apply pw_below_drewN | apply below_drew1 | refine below_set ?_ GE292.out) | exact HB.out)⟩⟩
            · replace c21 := Bool.eq_false_iff.mpr c21
              subst c21
              have H1 : (if t291 = 0 then (quarrylaw02_CalcSums.j1 kj7 a0 a1 (t289 != (wrap64 (a0 + a1)))) else (quarrylaw02_CalcSums.j1 kj7 a0 a1 true)) = some r := by rw [if_neg (show ¬ (false = true) by decide)] at H; exact H
              clear H
              have H := H1
              clear H1
              by_cases c22 : t291 = 0
              · rw [if_pos c22] at H
                have c22b0 : (t291 == 0) = true := beq_iff_eq.mpr c22
                have c22b1 : (t291 != 0) = false := bne_eq_false_iff_eq.mpr c22
                clear c22
                have H' := Aside0.mk H
                clear H
                have hcz23_0 : wc.cell? ⟨gb292, 0, none⟩ = some (.int .i64 t288) := (blk_cell BK292.out 0).trans rfl
                have hcz23_1 : wc.cell? ⟨gb292, 1, none⟩ = some (.int .i64 t289) := (blk_cell BK292.out 1).trans rfl
                have hcz23_2 : wc.cell? ⟨gb292, 2, none⟩ = some (.string t290) := (blk_cell BK292.out 2).trans rfl
                have hfz23_0 := blk_frozen BK292.out 0
                have hfz23_1 := blk_frozen BK292.out 1
                have hfz23_2 := blk_frozen BK292.out 2
                go_wp2
                go_meet
                case rel => exact ⟨_, ((t289 != (wrap64 (a0 + a1)))), (by first | rfl | (simp; done) | (simp [*]; done)), H', ⟨by have := HJ7.out; first | omega | exact Nat.le_refl _⟩, ⟨by (with_reducible repeat (first | refine blk_drewN ?_ _ | refine blk_drew ?_ | refine blk_alloc ?_ _)); exact BK292.out⟩, ⟨by repeat (first | (with_reducible first | exact HB.out | apply below_alloc | apply pw_below_drewN | apply below_drew1 | refine below_set ?_ GE292.out) | exact HB.out)⟩⟩
              · rw [if_neg c22] at H
                have c22b0 : (t291 == 0) = false := beq_eq_false_iff_ne.mpr c22
                have c22b1 : (t291 != 0) = true := bne_iff_ne.mpr c22
                have H' := Aside0.mk H
                clear H
                go_wp2
                go_meet
                case rel => exact ⟨_, (true), (by first | rfl | (simp; done) | (simp [*]; done)), H', ⟨by have := HJ7.out; first | omega | exact Nat.le_refl _⟩, ⟨by (with_reducible repeat (first | refine blk_drewN ?_ _ | refine blk_drew ?_ | refine blk_alloc ?_ _)); exact BK292.out⟩, ⟨by repeat (first | (with_reducible first | exact HB.out | apply below_alloc | apply pw_below_drewN | apply below_drew1 | refine below_set ?_ GE292.out) | exact HB.out)⟩⟩
        case rest =>
          clear HC19
          try clear c1
          try clear c2
          try clear p2
          try clear c4
          try clear c6
          try clear p6
          try clear c15
          try clear c15b0
          try clear c16
          try clear c16b0
          try clear c17
          try clear c17b0
          try clear c18
          try clear c18b0
          try clear c20
          try clear c20b0
          try clear c20b1
          try clear c20b2
          try clear c21
          try clear c22
          try clear c22b0
          try clear c22b1
          try clear c23
          try clear hcz14_0
          try clear hcz14_1
          try clear hcz14_2
          try clear hcz23_0
          try clear hcz23_1
          try clear hcz23_2
          try clear hfz14_0
          try clear hfz14_1
          try clear hfz14_2
          try clear hfz23_0
          try clear hfz23_1
          try clear hfz23_2
          try clear p2
          try clear p6
          obtain ⟨kq, x64_18, rfl, HA, HJ18, BK292, HB⟩ := hcut
          cases kq with
          | zero => exact absurd HA.out (by simp [quarrylaw02_CalcSums.j1])
          | succ kj18 =>
            have H := HA.out
            clear HA
            simp only [quarrylaw02_CalcSums.j1] at H
            by_cases c24 : x64_18 = true
            · subst c24
              have H1 : (none) = some r := by rw [if_pos rfl] at H; exact H
              cases H1
            · replace c24 := Bool.eq_false_iff.mpr c24
              subst c24
              go_upto_region 7 with (fail)
              exact quarrylaw02_CalcSums.partB k a0 a1 r w hu25 A3 t282 t283 t284 A5 t285 t286 t287 A6 t288 t289 t290 t291 A7 gb292 GW292 GE292 u64 x7_7 kj7 HJ7 wc u17 u18 u19 u20 u21 u22 u23 u24 u25 u26 u27 u28 u29 u30 u31 u32 u33 u34 u35 u36 u37 u38 u39 u40 u41 u42 u43 u44 u45 u46 u47 u48 u49 u50 u51 u52 u53 u54 u55 u56 u57 u58 u59 u60 u61 u62 u63 u65 u66 u67 u68 u69 u70 u71 u72 u73 u74 u75 u76 u77 u78 u79 u80 u81 u82 u83 u84 u85 u86 u87 u88 u89 u90 u91 u92 u93 u94 u95 u96 u97 u98 u99 u100 u101 u102 u103 u104 u105 u106 u107 u108 u109 u110 u111 u112 u113 u114 u115 u116 u117 u118 u119 u120 u121 u122 u123 u124 u125 u126 u127 u128 u129 u130 u131 u132 u133 u134 u135 u136 u137 u138 u139 u140 u141 u142 u143 u144 u145 u146 u147 u148 u149 u150 u151 u152 u153 u154 u155 u156 u157 u158 u159 u160 u161 u162 u163 u164 u165 u166 u167 u168 u169 u170 u171 u172 u173 u174 u175 u176 u177 u178 u179 BK292 HB kj18 HJ18 H _ (by assumption)
  · rw [if_neg c4] at H
    cases H
end Go.Proofs.Ytfbeklbjlkgbnaa.P
end
section
namespace Go.Proofs.Ytfbeklbjlkgbnaa.P
open Go.RowKit Go.Proofs.YtfbeklbjlkgbnaaW.PrintWords Go.Proofs.YtfbeklbjlkgbnaaW.PrintLast Go.Proofs.YtfbeklbjlkgbnaaW.PrintMore
attribute [local go_sem] max2_int min2_int max_two min_two max_three min_three max_four min_four
set_option linter.unusedVariables false
set_option linter.unusedSimpArgs false
attribute [local go_sem high] eqA25
theorem eqR (d : Nat) (w : World) (x0 y0 : Int) (x1 y1 : Int) (x2 y2 : ByteArray) :
    (Op.equalIn (d + 2) 25 (.agg #[.int .i64 x0, .int .i64 x1, .string x2]) (.agg #[.int .i64 y0, .int .i64 y1, .string y2])).run Try.prog w = .ok (x0 == y0 && (x1 == y1 && (x2.toList == y2.toList))) w := by
  refine eqA_of Try.underlying25 (by kernel_rfl) ?_
  refine eqf_cons (by rfl) (by go_simp; rfl) (by go_simp; rfl) (by go_simp) ?_
  refine eqf_cons (by rfl) (by go_simp; rfl) (by go_simp; rfl) (by go_simp) ?_
  exact eqf_last (by rfl) (by go_simp; rfl) (by go_simp; rfl) (by go_simp)
attribute [local go_sem high] eqR
end Go.Proofs.Ytfbeklbjlkgbnaa.P
end
section
namespace Go.Proofs.Ytfbeklbjlkgbnaa.Pure
set_option linter.unusedVariables false
set_option linter.unusedSimpArgs false
open Go.RowKit Go.Proofs.Ytfbeklbjlkgbnaa.P Go.Proofs.YtfbeklbjlkgbnaaW.PrintWords Go.Proofs.YtfbeklbjlkgbnaaW.PrintLast Go.Proofs.YtfbeklbjlkgbnaaW.PrintMore
theorem bin_f (op : Int) (x y : S25) (h : fits x y) : calc_Binary.f op x.f0 x.f1 x.f2 y.f0 y.f1 y.f2 = some (outT (bin op x y)) := if_pos h
theorem num_f (n : Int) : quarrylaw02_num.f n = some (2, n, V0) := rfl
def numV (n : Int) : S25 := ⟨2, n, V0⟩
theorem V0_list : V0.toList = [] := by rw [Go.ByteArray.toList_eq]; rfl
theorem works_f : quarrylaw02_works.f = some true := by
  have b1 : calc_Binary.f 11 2 2 V0 2 3 V0 = some (2, 5, V0, 0) := by kernel_rfl
  have b2 : calc_Binary.f 4 0 0 V0 1 0 V0 = some (1, 0, V0, 0) := by kernel_rfl
  have b3 : calc_Binary.f 14 2 1 V0 2 0 V0 = some (0, 0, V0, 41) := by kernel_rfl
  have b4 : calc_Call.f 5 [⟨3, 0, ⟨#[104, 101, 108, 108, 111]⟩⟩, ⟨2, 2, V0⟩, ⟨2, 3, V0⟩] = some (3, 0, ⟨#[101, 108, 108]⟩, 0) := by kernel_rfl
  have e : (⟨#[101, 108, 108]⟩ : ByteArray).toList = [101, 108, 108] := by rw [Go.ByteArray.toList_eq]
  unfold quarrylaw02_works.f
  have e0 : (⟨#[]⟩ : ByteArray) = V0 := rfl
  simp only [num_f, Option.bind_some, e0, b1, b2, b3, b4, e, V0_list]
  rfl
end Go.Proofs.Ytfbeklbjlkgbnaa.Pure
end
section
namespace Go.Proofs.Ytfbeklbjlkgbnaa.Pure
set_option linter.unusedVariables false
set_option linter.unusedSimpArgs false
open Go.RowKit Go.Proofs.Ytfbeklbjlkgbnaa.P Go.Proofs.YtfbeklbjlkgbnaaW.PrintWords Go.Proofs.YtfbeklbjlkgbnaaW.PrintLast
theorem bin_num {op : Int} (a b : Int) (h11 : 11 ≤ op) (h15 : op ≤ 15) : bin op (numV a) (numV b) = numE (sumP op a b) := by
  have hw : wantsP op = 2 := by unfold wantsP; rw [if_neg (show ¬ op ≤ 4 by omega), if_neg (show ¬ op ≤ 10 by omega), if_neg (show ¬ op = 16 by omega)]
  have hk : kindsP op (numV a).f0 (numV b).f0 := by unfold kindsP; rw [hw, if_pos (by decide)]; exact ⟨.inl rfl, .inl rfl⟩
  have hz : ¬ ((numV a).f0 = 0 ∨ (numV b).f0 = 0) := by rintro (h | h) <;> exact absurd (show (2 : Int) = 0 from h) (by decide)
  unfold bin
  rw [if_neg (show ¬ ¬ (3 ≤ op ∧ op ≤ 16) by omega), if_neg (show ¬ ¬ kindsP op (numV a).f0 (numV b).f0 from fun h => h hk), if_neg (show ¬ op ≤ 4 by omega), if_neg hz, if_neg (show ¬ op ≤ 10 by omega), if_neg (show ¬ op = 16 by omega)]
  rfl
theorem fitsN {a b : Int} (ha : In64 a) (hb : In64 b) : fits (numV a) (numV b) := ⟨ha, hb, by show V0.size ≤ _; decide, by show V0.size ≤ _; decide⟩
def outN (r : Except Int Int) : Int × Int × ByteArray × Int := outT (numE r)
theorem num_bin {op a b : Int} (h11 : 11 ≤ op) (h15 : op ≤ 15) (ha : In64 a) (hb : In64 b) : calc_Binary.f op 2 a V0 2 b V0 = some (outN (sumP op a b)) :=
  (bin_f op (numV a) (numV b) (fitsN ha hb)).trans (by rw [bin_num a b h11 h15]; rfl)
theorem outN_ok (n : Int) : outN (.ok n) = (2, n, V0, 0) := rfl
theorem outN_error (c : Int) : outN (.error c) = (0, 0, V0, c) := rfl
end Go.Proofs.Ytfbeklbjlkgbnaa.Pure
end
section
namespace Go.Proofs.Ytfbeklbjlkgbnaa.Pure
open Go.RowKit Go.Proofs.Ytfbeklbjlkgbnaa.P Go.Proofs.YtfbeklbjlkgbnaaW.PrintWords Go.Proofs.YtfbeklbjlkgbnaaW.PrintLast
theorem wrap_64 {n : Int} (h : In64 n) : wrap64 n = n := by unfold In64 at h; unfold wrap64; omega
theorem CalcSums : ∀ (a0 : Int) (a1 : Int), (Lit.int .i64 a0).wf = true → (Lit.int .i64 a1).wf = true → ∃ k, quarrylaw02_CalcSums.f k a0 a1 = some true := by
  intro a b ha' hb'
  have ha : In64 a := wf64 ha'
  have hb : In64 b := wf64 hb'
  refine Ev.get ?_
  have e3 : Ev (fun k => quarrylaw02_CalcSums.j3 k a b false) true := by
    refine Ev.succ ?_
    simp only [quarrylaw02_CalcSums.j3, Bool.false_eq_true, if_false, num_f, Option.bind_some, num_bin (op := 13) (by omega) (by omega) ha hb]
    have q0 : sumP 13 a b = if In64 (a * b) then .ok (a * b) else .error 40 := by unfold sumP prodP; rw [if_neg (by decide), if_neg (by decide), if_pos rfl]
    rw [q0]
    by_cases hp : In64 (a * b)
    · rw [if_pos hp]
      simp only [outN_ok, if_true]
      by_cases h0 : b = 0
      · have hz : a * b = 0 := by rw [h0, Int.mul_zero]
        simp only [if_pos h0, hz, beq_self_eq_true, Bool.and_self]
        exact Ev.pure _
      · have q1 : sumP 14 (a * b) b = if a * b = -9223372036854775808 ∧ b = -1 then .error 40 else .ok (Int.tdiv (a * b) b) := by
          unfold sumP; rw [if_neg (by decide), if_neg (by decide), if_neg (by decide), if_neg h0, if_neg (by decide)]
        have q2 : sumP 15 (a * b) b = .ok 0 := by
          unfold sumP; rw [if_neg (by decide), if_neg (by decide), if_neg (by decide), if_neg h0, if_pos rfl]
          by_cases h1 : b = -1
          · rw [if_pos h1]
          · rw [if_neg h1, Int.mul_tmod_left]
        have q3 : Int.tdiv (a * b) b = a := Int.mul_tdiv_cancel a h0
        simp only [if_neg h0, num_bin (op := 14) (by omega) (by omega) hp hb, num_bin (op := 15) (by omega) (by omega) hp hb, q1, q2, q3, outN_ok, Option.bind_some, if_true, beq_self_eq_true, Bool.and_self]
        by_cases hov : a * b = -9223372036854775808 ∧ b = -1
        · have n0 : ¬ (40 : Int) = 0 := by decide
          have b1 : (b == -1) = true := beq_iff_eq.mpr hov.2
          simp only [if_pos hov, outN_error, if_neg n0, if_true, if_pos hov.1, b1]
          exact Ev.pure _
        · simp only [if_neg hov, outN_ok, if_true, beq_self_eq_true, Bool.and_self]
          exact Ev.pure _
    · rw [if_neg hp]
      have n0 : ¬ (40 : Int) = 0 := by decide
      have a0 : ¬ a = 0 := by rintro rfl; apply hp; rw [Int.zero_mul]; decide
      have b0 : (b != 0) = true := bne_iff_ne.mpr (by rintro rfl; apply hp; rw [Int.mul_zero]; decide)
      simp only [outN_error, if_neg n0, if_true, if_neg a0, b0]
      exact Ev.pure _
  have e2 : ∀ x : Bool, (x = decide (¬ In64 (a - b))) → Ev (fun k => quarrylaw02_CalcSums.j2 k a b (outN (sumP 12 a b)).2.2.2 x (outN (sumP 12 a b)).1 (outN (sumP 12 a b)).2.1 (outN (sumP 12 a b)).2.2.1) true := by
    intro x hx
    refine Ev.succ ?_
    have q0 : sumP 12 a b = if In64 (a - b) then .ok (a - b) else .error 40 := by unfold sumP; rw [if_neg (by decide), if_pos rfl]
    rw [q0]
    by_cases hs : In64 (a - b)
    · have hxf : x = false := by rw [hx, decide_eq_false (fun h => h hs)]
      have z40 : ((0 : Int) == 40) = false := rfl
      simp only [if_pos hs, hxf, quarrylaw02_CalcSums.j2, outN_ok, z40, bne_self_eq_false, Bool.false_eq_true, if_false, if_true, wrap_64 hs]
      exact e3
    · have hxt : x = true := by rw [hx, decide_eq_true hs]
      simp only [if_neg hs, hxt, quarrylaw02_CalcSums.j2, outN_error, beq_self_eq_true, bne_self_eq_false, Bool.false_eq_true, if_false, if_true]
      exact e3
  have e1 : Ev (fun k => quarrylaw02_CalcSums.j1 k a b false) true := by
    refine Ev.succ ?_
    unfold In64 at ha hb
    simp only [quarrylaw02_CalcSums.j1, Bool.false_eq_true, if_false, num_f, Option.bind_some, num_bin (op := 12) (by omega) (by omega) (show In64 a from ha) (show In64 b from hb)]
    have w1 : b < 0 → wrap64 (9223372036854775807 + b) = 9223372036854775807 + b := fun h => by unfold wrap64; omega
    have w2 : b > 0 → wrap64 (-9223372036854775808 + b) = -9223372036854775808 + b := fun h => by unfold wrap64; omega
    by_cases h1 : b < 0
    · have h2 : ¬ b > 0 := by omega
      simp only [if_pos h1, w1 h1, if_neg h2]
      by_cases h3 : a > 9223372036854775807 + b
      · simp only [if_pos h3]
        exact e2 true (by rw [decide_eq_true]; unfold In64; omega)
      · simp only [if_neg h3]
        exact e2 false (by rw [decide_eq_false]; unfold In64; omega)
    · by_cases h2 : b > 0
      · simp only [if_neg h1, if_pos h2, w2 h2]
        refine e2 _ (decide_eq_decide.2 ?_)
        unfold In64; omega
      · simp only [if_neg h1, if_neg h2]
        exact e2 false (by rw [decide_eq_false]; unfold In64; omega)
  have e0 : ∀ x : Bool, (x = decide (¬ In64 (a + b))) → Ev (fun k => quarrylaw02_CalcSums.j0 k a b (outN (sumP 11 a b)).2.2.2 x (outN (sumP 11 a b)).1 (outN (sumP 11 a b)).2.1 (outN (sumP 11 a b)).2.2.1) true := by
    intro x hx
    refine Ev.succ ?_
    have q0 : sumP 11 a b = if In64 (a + b) then .ok (a + b) else .error 40 := by unfold sumP; rw [if_pos rfl]
    rw [q0]
    by_cases hs : In64 (a + b)
    · have hxf : x = false := by rw [hx, decide_eq_false (fun h => h hs)]
      have z40 : ((0 : Int) == 40) = false := rfl
      simp only [if_pos hs, hxf, quarrylaw02_CalcSums.j0, outN_ok, z40, bne_self_eq_false, Bool.false_eq_true, if_false, if_true, wrap_64 hs]
      exact e1
    · have hxt : x = true := by rw [hx, decide_eq_true hs]
      simp only [if_neg hs, hxt, quarrylaw02_CalcSums.j0, outN_error, beq_self_eq_true, bne_self_eq_false, Bool.false_eq_true, if_false, if_true]
      exact e1
  unfold quarrylaw02_CalcSums.f
  simp only [works_f, Option.bind_some, if_true, num_f, num_bin (op := 11) (by omega) (by omega) ha hb]
  unfold In64 at ha hb
  have w1 : b > 0 → wrap64 (9223372036854775807 - b) = 9223372036854775807 - b := fun h => by unfold wrap64; omega
  have w2 : b < 0 → wrap64 (-9223372036854775808 - b) = -9223372036854775808 - b := fun h => by unfold wrap64; omega
  by_cases h1 : b > 0
  · have h2 : ¬ b < 0 := by omega
    simp only [if_pos h1, w1 h1, if_neg h2]
    by_cases h3 : a > 9223372036854775807 - b
    · simp only [if_pos h3]
      exact e0 true (by rw [decide_eq_true]; unfold In64; omega)
    · simp only [if_neg h3]
      exact e0 false (by rw [decide_eq_false]; unfold In64; omega)
  · by_cases h2 : b < 0
    · simp only [if_neg h1, if_pos h2, w2 h2]
      refine e0 _ (decide_eq_decide.2 ?_)
      unfold In64; omega
    · simp only [if_neg h1, if_neg h2]
      exact e0 false (by rw [decide_eq_false]; unfold In64; omega)
end Go.Proofs.Ytfbeklbjlkgbnaa.Pure
end
