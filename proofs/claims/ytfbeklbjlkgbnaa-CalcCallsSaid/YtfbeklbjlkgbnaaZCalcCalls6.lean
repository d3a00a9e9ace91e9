/- Laid by a program of this session out of its texts for the law CalcCalls, part 6. -/
import Derived.Test.YtfbeklbjlkgbnaaZCalcCalls5
section
namespace Go.Proofs.Ytfbeklbjlkgbnaa.P
open Go.RowKit Go.Proofs.YtfbeklbjlkgbnaaW.PrintWords Go.Proofs.YtfbeklbjlkgbnaaW.PrintLast Go.Proofs.YtfbeklbjlkgbnaaW.PrintMore
attribute [local go_sem] max2_int min2_int max_two min_two max_three min_three max_four min_four
set_option linter.unusedVariables false
set_option linter.unusedSimpArgs false
attribute [local go_sem high] eqA25
def quarrylaw02_CalcCalls.f (k : Nat) (a0 : Int) (l1 : List (S25)) : Option (Bool) := (quarrylaw02_right.f k l1).bind fun t174 => (if t174 = true then ((some (([] : List (S25)) : List (S25))).bind fun y175 => (if y175.length + l1.length < 4398046511104 then ((some (y175 ++ l1 : List (S25))).bind fun y178 => ((calc_Call.f a0 y178).bind fun bt181 => ((quarryref02_Call.f k a0 l1).bind fun bt186 => (if (bt181.1 == bt186.1 && (bt181.2.1 == bt186.2.1 && (bt181.2.2.1.toList == bt186.2.2.1.toList))) = true then (if bt181.2.2.2 = bt186.2.2.2 then ((calc_Args.f k a0).bind fun t191 => ((quarryref02_Args.f k a0).bind fun t192 => (if t191 = t192 then ((quarryref01_SameRow.f k y178 l1).bind fun t193 => (some t193)) else (none)))) else (none)) else (none))))) else (none))) else (some true))
set_option maxHeartbeats 8000000 in
set_option maxRecDepth 100000 in
theorem quarrylaw02_CalcCalls.calls (k : Nat) (a0 : Int) (A1 : Option Addr) (c1 : Nat) (l1 : List (S25)) (r : Bool) (w : World) (hr1 : Kd.C k25 w A1 l1.length l1) (hc1 : l1.length ≤ c1) (h : quarrylaw02_CalcCalls.f k a0 l1 = some r) :
    Calls Try.prog 3 #[.int .i64 a0, .slice A1 l1.length c1] w fun e w' => e = .returned (.bool r) ∧ Below w.heap.size w w' := by
  have hu25 := Try.underlying25
  have HR1 := Aside0.mk hr1
  have HC1 := Aside0.mk hc1
  clear hr1 hc1
  have HB := Aside0.mk (Below.refl w.heap.size w)
  have H : ((quarrylaw02_right.f k l1).bind fun t174 => (if t174 = true then ((some (([] : List (S25)) : List (S25))).bind fun y175 => (if y175.length + l1.length < 4398046511104 then ((some (y175 ++ l1 : List (S25))).bind fun y178 => ((calc_Call.f a0 y178).bind fun bt181 => ((quarryref02_Call.f k a0 l1).bind fun bt186 => (if (bt181.1 == bt186.1 && (bt181.2.1 == bt186.2.1 && (bt181.2.2.1.toList == bt186.2.2.1.toList))) = true then (if bt181.2.2.2 = bt186.2.2.2 then ((calc_Args.f k a0).bind fun t191 => ((quarryref02_Args.f k a0).bind fun t192 => (if t191 = t192 then ((quarryref01_SameRow.f k y178 l1).bind fun t193 => (some t193)) else (none)))) else (none)) else (none))))) else (none))) else (some true))) = some r := h
  clear h
  replace H := Option.bind_eq_some_iff.mp H
  obtain ⟨t174, A30, H⟩ := H
  replace H : (if t174 = true then ((some (([] : List (S25)) : List (S25))).bind fun y175 => (if y175.length + l1.length < 4398046511104 then ((some (y175 ++ l1 : List (S25))).bind fun y178 => ((calc_Call.f a0 y178).bind fun bt181 => ((quarryref02_Call.f k a0 l1).bind fun bt186 => (if (bt181.1 == bt186.1 && (bt181.2.1 == bt186.2.1 && (bt181.2.2.1.toList == bt186.2.2.1.toList))) = true then (if bt181.2.2.2 = bt186.2.2.2 then ((calc_Args.f k a0).bind fun t191 => ((quarryref02_Args.f k a0).bind fun t192 => (if t191 = t192 then ((quarryref01_SameRow.f k y178 l1).bind fun t193 => (some t193)) else (none)))) else (none)) else (none))))) else (none))) else (some true)) = some r := H
  have A3 := Aside0.mk A30
  clear A30
  by_cases c4 : t174 = true
  · subst c4
    have H1 : ((some (([] : List (S25)) : List (S25))).bind fun y175 => (if y175.length + l1.length < 4398046511104 then ((some (y175 ++ l1 : List (S25))).bind fun y178 => ((calc_Call.f a0 y178).bind fun bt181 => ((quarryref02_Call.f k a0 l1).bind fun bt186 => (if (bt181.1 == bt186.1 && (bt181.2.1 == bt186.2.1 && (bt181.2.2.1.toList == bt186.2.2.1.toList))) = true then (if bt181.2.2.2 = bt186.2.2.2 then ((calc_Args.f k a0).bind fun t191 => ((quarryref02_Args.f k a0).bind fun t192 => (if t191 = t192 then ((quarryref01_SameRow.f k y178 l1).bind fun t193 => (some t193)) else (none)))) else (none)) else (none))))) else (none))) = some r := by rw [if_pos rfl] at H; exact H
    clear H
    have H := H1
    clear H1
    obtain ⟨y175, hy175⟩ : ∃ y_ : List (S25), y_ = (([] : List (S25))) := ⟨_, rfl⟩
    replace H : (if y175.length + l1.length < 4398046511104 then ((some (y175 ++ l1 : List (S25))).bind fun y178 => ((calc_Call.f a0 y178).bind fun bt181 => ((quarryref02_Call.f k a0 l1).bind fun bt186 => (if (bt181.1 == bt186.1 && (bt181.2.1 == bt186.2.1 && (bt181.2.2.1.toList == bt186.2.2.1.toList))) = true then (if bt181.2.2.2 = bt186.2.2.2 then ((calc_Args.f k a0).bind fun t191 => ((quarryref02_Args.f k a0).bind fun t192 => (if t191 = t192 then ((quarryref01_SameRow.f k y178 l1).bind fun t193 => (some t193)) else (none)))) else (none)) else (none))))) else (none)) = some r := by first | (rw [hy175]; with_reducible exact H) | (have H2_ := (Option.bind_some _ _).symm.trans H; rw [hy175]; with_reducible exact H2_) | (have H2_ := (Option.bind_some _ _).symm.trans H; with_reducible exact H2_) | with_reducible exact H | (rw [hy175]; exact H) | exact H
    have Ny175 := Aside0.mk hy175
    clear hy175
    by_cases c5 : y175.length + l1.length < 4398046511104
    · rw [if_pos c5] at H
      have LMc5 := Aside0.mk c5
      clear c5
      obtain ⟨y178, hy178⟩ : ∃ y_ : List (S25), y_ = (y175 ++ l1) := ⟨_, rfl⟩
      replace H : ((calc_Call.f a0 y178).bind fun bt181 => ((quarryref02_Call.f k a0 l1).bind fun bt186 => (if (bt181.1 == bt186.1 && (bt181.2.1 == bt186.2.1 && (bt181.2.2.1.toList == bt186.2.2.1.toList))) = true then (if bt181.2.2.2 = bt186.2.2.2 then ((calc_Args.f k a0).bind fun t191 => ((quarryref02_Args.f k a0).bind fun t192 => (if t191 = t192 then ((quarryref01_SameRow.f k y178 l1).bind fun t193 => (some t193)) else (none)))) else (none)) else (none)))) = some r := by first | (rw [hy178]; with_reducible exact H) | (have H2_ := (Option.bind_some _ _).symm.trans H; rw [hy178]; with_reducible exact H2_) | (have H2_ := (Option.bind_some _ _).symm.trans H; with_reducible exact H2_) | with_reducible exact H | (rw [hy178]; exact H) | exact H
      have Ny178 := Aside0.mk hy178
      clear hy178
      replace H := Option.bind_eq_some_iff.mp H
      obtain ⟨⟨t181, t182, t183, t184⟩, A60, H⟩ := H
      replace H : ((quarryref02_Call.f k a0 l1).bind fun bt186 => (if (t181 == bt186.1 && (t182 == bt186.2.1 && (t183.toList == bt186.2.2.1.toList))) = true then (if t184 = bt186.2.2.2 then ((calc_Args.f k a0).bind fun t191 => ((quarryref02_Args.f k a0).bind fun t192 => (if t191 = t192 then ((quarryref01_SameRow.f k y178 l1).bind fun t193 => (some t193)) else (none)))) else (none)) else (none))) = some r := H
      have A6 := Aside0.mk A60
      clear A60
      replace H := Option.bind_eq_some_iff.mp H
      obtain ⟨⟨t186, t187, t188, t189⟩, A70, H⟩ := H
      replace H : (if (t181 == t186 && (t182 == t187 && (t183.toList == t188.toList))) = true then (if t184 = t189 then ((calc_Args.f k a0).bind fun t191 => ((quarryref02_Args.f k a0).bind fun t192 => (if t191 = t192 then ((quarryref01_SameRow.f k y178 l1).bind fun t193 => (some t193)) else (none)))) else (none)) else (none)) = some r := H
      have A7 := Aside0.mk A70
      clear A70
      by_cases c8 : (t181 == t186 && (t182 == t187 && (t183.toList == t188.toList))) = true
      · rw [if_pos c8] at H
        have c8b0 : (t181 == t186 && (t182 == t187 && (t183.toList == t188.toList))) = true := c8
        (try (have c8b1 : decide (t181 = t186 && (t182 == t187 && (t183.toList == t188.toList))) = true := by simpa using c8))
        (try (have c8b2 : (t181 == t186 && (t182 == t187 && (t183.toList == t188.toList))) = true := by simpa using c8))
        clear c8
        by_cases c9 : t184 = t189
        · rw [if_pos c9] at H
          have c9b0 : (t184 == t189) = true := beq_iff_eq.mpr c9
          have c9b1 : (t184 != t189) = false := bne_eq_false_iff_eq.mpr c9
          clear c9
          replace H := Option.bind_eq_some_iff.mp H
          obtain ⟨t191, A100, H⟩ := H
          replace H : ((quarryref02_Args.f k a0).bind fun t192 => (if t191 = t192 then ((quarryref01_SameRow.f k y178 l1).bind fun t193 => (some t193)) else (none))) = some r := H
          have A10 := Aside0.mk A100
          clear A100
          replace H := Option.bind_eq_some_iff.mp H
          obtain ⟨t192, A110, H⟩ := H
          replace H : (if t191 = t192 then ((quarryref01_SameRow.f k y178 l1).bind fun t193 => (some t193)) else (none)) = some r := H
          have A11 := Aside0.mk A110
          clear A110
          by_cases c12 : t191 = t192
          · rw [if_pos c12] at H
            have c12b0 : (t191 == t192) = true := beq_iff_eq.mpr c12
            have c12b1 : (t191 != t192) = false := bne_eq_false_iff_eq.mpr c12
            clear c12
            replace H := Option.bind_eq_some_iff.mp H
            obtain ⟨t193, A130, H⟩ := H
            replace H : (some t193) = some r := H
            have A13 := Aside0.mk A130
            clear A130
            obtain rfl := Option.some.inj H
            go_enter Try.func3, Try.ntmps3
            go_wp2_with (first | ((with_reducible refine gate_callee (f := 11) rfl ?_); refine goesL_ (some 11) rfl rfl Try.func11 (by kernel_rfl) rfl #[.slice A1 l1.length c1] rfl (by (try simp only [List.map_toArray, List.map_cons, List.map_nil]); first | done | rfl | (simp only [List.length_drop, List.length_take]; rfl)) ?_; (with_reducible refine (quarrylaw02_right.calls k _ _ l1 true _ ?side1 ?side2 A3.out).mono ?_); (case side1 => repeat (first | exact HR1.out | (with_reducible refine Kd.C_alloc ?_ _) | (with_reducible refine Kd.C_drewN ?_ _) | (with_reducible refine Kd.C_drew ?_))); (case side2 => exact HC1.out); rintro e w14 ⟨rfl, hb⟩; refine ⟨_, rfl, ?_⟩; have n0_ := Aside0.mk (below_step (by repeat (first | (with_reducible first | exact HB.out | apply below_alloc | apply pw_below_drewN | apply below_drew1) | exact HB.out)) hb); clear HB; have HB := n0_; clear n0_; (try clear hb); (try clear hb2); (try clear hk); (try clear hi)) | ((with_reducible refine gate_dst (N := 13) rfl ?_); refine Kd.R_lit k25 _ 25 ?hg (N := 13) ?hd (xs := ([] : List (S25))) (inner := []) (ok := fun _ => True) (okp := fun _ => True) ?hr ?hp (fun _ hk => hk) trivial (Below.refl _ _) (Nat.le_refl _) (by simp) ?_; (case hd => rfl); (case hg => rfl); (case hr => first | (go_simp; done) | (go_simp; rfl)); (case hp => exact (Reps.none _ _)); intro v176 w15 ho16 hb hg_ hnew_; clear hg_ hnew_; (first | rw [← Ny175.out] at ho16 | (simp only [Int.reduceToNat] at ho16; rw [← Ny175.out] at ho16)); have n0_ := Aside0.mk (Kd.R_lower ho16 (below_size (by repeat (first | (with_reducible first | exact HB.out | apply below_alloc | apply pw_below_drewN | apply below_drew1) | exact HB.out)))); have n1_ := Aside0.mk (below_step (by repeat (first | (with_reducible first | exact HB.out | apply below_alloc | apply pw_below_drewN | apply below_drew1) | exact HB.out)) hb); clear HB; have HO177 := n0_; have HB := n1_; clear n0_ n1_; clear hb ho16) | ((with_reducible refine gate_builtin (b := .append) (xs := #[.tmp 13, .tmp 14]) rfl ?_); at_builtin; refine Kd.R_append_rows k25 (w0 := w) w.heap.size rfl (.tmp 13) (.tmp 14) 22 25 (.agg #[(.int .i64 0), (.int .i64 0), (.string ⟨#[]⟩)]) 32 rfl Try.underlying22 info25 rfl (by decide) (by omega) v176 y175 l1 _ _ _ (fun _ => True) (fun _ => False) rfl rfl ?aO ?aR (fun _ _ h => h) (fun _ h => h.elim) ?aF ?aB ?aS ?aL ?_; (case aR => repeat (first | exact (Kd.C_below HR1.out HB.out) | (with_reducible refine Kd.C_alloc ?_ _) | (with_reducible refine Kd.C_drewN ?_ _) | (with_reducible refine Kd.C_drew ?_))); (case aB => exact (by repeat (first | (with_reducible first | exact HB.out | apply below_alloc | apply pw_below_drewN | apply below_drew1) | exact HB.out))); (case aF => exact (fun _ _ => trivial)); (case aO => exact (by (with_reducible repeat (first | apply Kd.R_alloc | apply Kd.R_drewN | apply Kd.R_drew)); exact HO177.out)); (case aS => exact (below_size (by repeat (first | (with_reducible first | exact HB.out | apply below_alloc | apply pw_below_drewN | apply below_drew1) | exact HB.out)))); (case aL => have := LMc5.out; omega); intro v179 w17 ho hb hg hat; rw [← Ny178.out] at ho; have n0_ := Aside0.mk (hb); have n1_ := Aside0.mk (ho); clear HB; clear HO177; have HB := n0_; have HO180 := n1_; clear n0_ n1_; clear ho hb hg hat; obtain ⟨Ao18, co18, eo18⟩ := Kd.R_slice HO180.out; subst eo18) | ((with_reducible refine gate_callee (f := 12) rfl ?_); refine goesL_ (some 19) rfl rfl Try.func12 (by kernel_rfl) rfl #[.int .i64 a0, .slice Ao18 y178.length co18] rfl (by (try simp only [List.map_toArray, List.map_cons, List.map_nil]); first | done | rfl | (simp only [List.length_drop, List.length_take]; rfl)) ?_; (with_reducible refine (calc_Call.print a0 _ _ y178 t181 t182 t183 t184 _ ?side1 ?side2 A6.out).mono ?_); (case side1 => repeat (first | exact (Kd.R_reads' HO180.out).2.2 | (with_reducible refine Kd.C_alloc ?_ _) | (with_reducible refine Kd.C_drewN ?_ _) | (with_reducible refine Kd.C_drew ?_))); (case side2 => exact (Kd.R_reads' HO180.out).2.1); rintro e w19 ⟨rfl, hb⟩; refine ⟨_, rfl, ?_⟩; have n0_ := Aside0.mk (Kd.R_below (by (with_reducible repeat (first | apply Kd.R_alloc | apply Kd.R_drewN | apply Kd.R_drew)); exact HO180.out) hb); have n1_ := Aside0.mk (below_step (by repeat (first | (with_reducible first | exact HB.out | apply below_alloc | apply pw_below_drewN | apply below_drew1) | exact HB.out)) hb); clear HO180; clear HB; have HO180 := n0_; have HB := n1_; clear n0_ n1_; (try clear hb); (try clear hb2); (try clear hk); (try clear hi)) | ((with_reducible refine gate_dst (N := 6) rfl ?_); refine box_event ?hg (N := 6) ?hd (cs := #[.int .i64 0, .int .i64 0, .string (⟨#[]⟩ : ByteArray)]) (t := 25) ?hr ?_; (case hd => rfl); (case hg => rfl); (case hr => first | (go_simp; done) | (go_simp; rfl)); intro gb185 hg w20 hbox hb; have n0_ := Aside0.mk (Kd.R_below (Kd.R_elderB (by (with_reducible repeat (first | apply Kd.R_alloc | apply Kd.R_drewN | apply Kd.R_drew)); exact HO180.out) gb185 (Nat.le_of_eq hg.symm)) hb); have n1_ := Aside0.mk (below_step (by repeat (first | (with_reducible first | exact HB.out | apply below_alloc | apply pw_below_drewN | apply below_drew1) | exact HB.out)) hb); have n2_ := Aside0.mk (hbox); have n3_ := Aside0.mk ((by rw [hg]; exact (below_size (by repeat (first | (with_reducible first | exact HB.out | apply below_alloc | apply pw_below_drewN | apply below_drew1) | exact HB.out))) : w.heap.size ≤ gb185)); have n4_ := Aside0.mk ((by rw [hg]; exact (below_size (by repeat (first | (with_reducible first | exact HB.out | apply below_alloc | apply pw_below_drewN | apply below_drew1) | exact HB.out))) : w.heap.size ≤ gb185)); clear HO180; clear HB; have HO180 := n0_; have HB := n1_; have BK185 := n2_; have GW185 := n3_; have GE185 := n4_; clear n0_ n1_ n2_ n3_ n4_; clear hb hbox hg; have hcz21_0 : w20.cell? ⟨gb185, 0, none⟩ = some (.int .i64 0) := (blk_cell BK185.out 0).trans rfl; have hcz21_1 : w20.cell? ⟨gb185, 1, none⟩ = some (.int .i64 0) := (blk_cell BK185.out 1).trans rfl; have hcz21_2 : w20.cell? ⟨gb185, 2, none⟩ = some (.string (⟨#[]⟩ : ByteArray)) := (blk_cell BK185.out 2).trans rfl; have hfz21_0 := blk_frozen BK185.out 0; have hfz21_1 := blk_frozen BK185.out 1; have hfz21_2 := blk_frozen BK185.out 2) | ((with_reducible refine gate_callee (f := 13) rfl ?_); refine goesL_ (some 25) rfl rfl Try.func13 (by kernel_rfl) rfl #[.int .i64 a0, .slice A1 l1.length c1] rfl (by (try simp only [List.map_toArray, List.map_cons, List.map_nil]); first | done | rfl | (simp only [List.length_drop, List.length_take]; rfl)) ?_; (with_reducible refine (quarryref02_Call.calls k a0 _ _ l1 t186 t187 t188 t189 _ ?side1 ?side2 A7.out).mono ?_); (case side1 => exact Kd.C_below HR1.out (by repeat (first | (with_reducible first | exact HB.out | apply below_alloc | apply pw_below_drewN | apply below_drew1 | refine below_set ?_ GE185.out) | exact HB.out))); (case side2 => exact HC1.out); rintro e w22 ⟨rfl, hb⟩; refine ⟨_, rfl, ?_⟩; have n0_ := Aside0.mk (Kd.R_below (by (with_reducible repeat (first | apply Kd.R_alloc | apply Kd.R_drewN | apply Kd.R_drew)); exact (Kd.R_mono (Kd.R_far (p := ⟨gb185, 2, none⟩) (Kd.R_far (p := ⟨gb185, 1, none⟩) (Kd.R_far (p := ⟨gb185, 0, none⟩) (Kd.R_mono HO180.out (fun k_ hk => (⟨hk, hk.2⟩ : _ ∧ k_ ≠ gb185))) (fun _ hk => hk.2) (.int .i64 t181)) (fun _ hk => hk.2) (.int .i64 t182)) (fun _ hk => hk.2) (.string t183)) (fun _ h_ => h_.1))) hb); have n1_ := Aside0.mk (blk_below (g := gb185) (o := .cells #[.int .i64 t181, .int .i64 t182, .string t183] 25 (0, 0)) (by (with_reducible repeat (first | refine blk_drewN ?_ _ | refine blk_drew ?_ | refine blk_alloc ?_ _)); refine blk_put (cs := #[.int .i64 t181, .int .i64 t182, .string (⟨#[]⟩ : ByteArray)]) ?_ 2 _ rfl; (with_reducible repeat (first | refine blk_drewN ?_ _ | refine blk_drew ?_ | refine blk_alloc ?_ _)); refine blk_put (cs := #[.int .i64 t181, .int .i64 0, .string (⟨#[]⟩ : ByteArray)]) ?_ 1 _ rfl; (with_reducible repeat (first | refine blk_drewN ?_ _ | refine blk_drew ?_ | refine blk_alloc ?_ _)); refine blk_put (cs := #[.int .i64 0, .int .i64 0, .string (⟨#[]⟩ : ByteArray)]) ?_ 0 _ rfl; (with_reducible repeat (first | refine blk_drewN ?_ _ | refine blk_drew ?_ | refine blk_alloc ?_ _)); exact BK185.out) hb); have n2_ := Aside0.mk (below_step (by repeat (first | (with_reducible first | exact HB.out | apply below_alloc | apply pw_below_drewN | apply below_drew1 | refine below_set ?_ GE185.out) | exact HB.out)) hb); clear HO180; clear BK185; clear HB; have HO180 := n0_; have BK185 := n1_; have HB := n2_; clear n0_ n1_ n2_; (try clear hb); (try clear hb2); (try clear hk); (try clear hi)) | ((with_reducible refine gate_dst (N := 8) rfl ?_); refine box_event ?hg (N := 8) ?hd (cs := #[.int .i64 0, .int .i64 0, .string (⟨#[]⟩ : ByteArray)]) (t := 25) ?hr ?_; (case hd => rfl); (case hg => rfl); (case hr => first | (go_simp; done) | (go_simp; rfl)); intro gb190 hg w23 hbox hb; have n0_ := Aside0.mk (Kd.R_below (Kd.R_elderB (by (with_reducible repeat (first | apply Kd.R_alloc | apply Kd.R_drewN | apply Kd.R_drew)); exact HO180.out) gb190 (Nat.le_of_eq hg.symm)) hb); have n1_ := Aside0.mk (blk_below (g := gb185) (o := .cells #[.int .i64 t181, .int .i64 t182, .string t183] 25 (0, 0)) (by (with_reducible repeat (first | refine blk_drewN ?_ _ | refine blk_drew ?_ | refine blk_alloc ?_ _)); exact BK185.out) hb); have n2_ := Aside0.mk (below_step (by repeat (first | (with_reducible first | exact HB.out | apply below_alloc | apply pw_below_drewN | apply below_drew1 | refine below_set ?_ GE185.out) | exact HB.out)) hb); have n3_ := Aside0.mk (hbox); have n4_ := Aside0.mk ((by rw [hg]; exact (below_size (by repeat (first | (with_reducible first | exact HB.out | apply below_alloc | apply pw_below_drewN | apply below_drew1 | refine below_set ?_ GE185.out) | exact HB.out))) : w.heap.size ≤ gb190)); have n5_ := Aside0.mk ((by rw [hg]; exact (below_size (by repeat (first | (with_reducible first | exact HB.out | apply below_alloc | apply pw_below_drewN | apply below_drew1 | refine below_set ?_ GE185.out) | exact HB.out))) : w.heap.size ≤ gb190)); have n6_ := Aside0.mk ((by rw [hg]; exact Nat.ne_of_lt (blk_lt (g := gb185) (o := .cells #[.int .i64 t181, .int .i64 t182, .string t183] 25 (0, 0)) (by (with_reducible repeat (first | refine blk_drewN ?_ _ | refine blk_drew ?_ | refine blk_alloc ?_ _)); exact BK185.out)) : gb185 ≠ gb190)); have n7_ := Aside0.mk ((by rw [hg]; exact Nat.ne_of_gt (blk_lt (g := gb185) (o := .cells #[.int .i64 t181, .int .i64 t182, .string t183] 25 (0, 0)) (by (with_reducible repeat (first | refine blk_drewN ?_ _ | refine blk_drew ?_ | refine blk_alloc ?_ _)); exact BK185.out)) : gb190 ≠ gb185)); clear HO180; clear BK185; clear HB; have HO180 := n0_; have BK185 := n1_; have HB := n2_; have BK190 := n3_; have GW190 := n4_; have GE190 := n5_; have NB185_190 := n6_; have NB190_185 := n7_; clear n0_ n1_ n2_ n3_ n4_ n5_ n6_ n7_; clear hb hbox hg; have hnb24 := NB190_185.out; have hnc24 := NB185_190.out; have hcz25_0 : w23.cell? ⟨gb190, 0, none⟩ = some (.int .i64 0) := (blk_cell BK190.out 0).trans rfl; have hcz25_1 : w23.cell? ⟨gb190, 1, none⟩ = some (.int .i64 0) := (blk_cell BK190.out 1).trans rfl; have hcz25_2 : w23.cell? ⟨gb190, 2, none⟩ = some (.string (⟨#[]⟩ : ByteArray)) := (blk_cell BK190.out 2).trans rfl; have hfz25_0 := blk_frozen BK190.out 0; have hfz25_1 := blk_frozen BK190.out 1; have hfz25_2 := blk_frozen BK190.out 2; have hcz26_0 : w23.cell? ⟨gb185, 0, none⟩ = some (.int .i64 t181) := (blk_cell BK185.out 0).trans rfl; have hcz26_1 : w23.cell? ⟨gb185, 1, none⟩ = some (.int .i64 t182) := (blk_cell BK185.out 1).trans rfl; have hcz26_2 : w23.cell? ⟨gb185, 2, none⟩ = some (.string t183) := (blk_cell BK185.out 2).trans rfl; have hfz26_0 := blk_frozen BK185.out 0; have hfz26_1 := blk_frozen BK185.out 1; have hfz26_2 := blk_frozen BK185.out 2) | (go_at_call 14; (with_reducible refine (calc_Args.calls k a0 t191 _ A10.out).mono ?_); rintro e w' ⟨rfl, ⟨nd, rfl⟩⟩) | (go_at_call 15; (with_reducible refine (quarryref02_Args.calls k a0 t192 _ A11.out).mono ?_); rintro e w' ⟨rfl, ⟨nd, rfl⟩⟩) | (go_at_call 16; (with_reducible refine (quarryref01_SameRow.calls k _ _ y178 _ _ l1 t193 _ ?side1 ?side2 ?side3 ?side4 A13.out).mono ?_); (case side1 => refine (Kd.R_reads' (e := 25) (base := w.heap.size) (ok := fun k_ => ((True ∧ k_ ≠ gb185) ∧ k_ ≠ gb190)) (n := y178.length) (c := co18) ?_).2.2; exact (by (with_reducible repeat (first | apply Kd.R_alloc | apply Kd.R_drewN | apply Kd.R_drew)); exact (Kd.R_mono (Kd.R_far (p := ⟨gb190, 2, none⟩) (Kd.R_far (p := ⟨gb190, 1, none⟩) (Kd.R_far (p := ⟨gb190, 0, none⟩) (Kd.R_mono HO180.out (fun k_ hk => (⟨hk, hk.2⟩ : _ ∧ k_ ≠ gb190))) (fun _ hk => hk.2) (.int .i64 t186)) (fun _ hk => hk.2) (.int .i64 t187)) (fun _ hk => hk.2) (.string t188)) (fun _ h_ => h_.1)))); (case side2 => exact (Kd.R_reads' HO180.out).2.1); (case side3 => exact Kd.C_below HR1.out (by repeat (first | (with_reducible first | exact HB.out | apply below_alloc | apply pw_below_drewN | apply below_drew1 | refine below_set ?_ GE185.out | refine below_set ?_ GE190.out) | exact HB.out))); (case side4 => exact HC1.out); rintro e w' ⟨rfl, ⟨nd, rfl⟩⟩))
            go_ret
            exact ⟨by first | rfl | (simp [errW_none, errW_some] <;> rfl) | (simp [*, errW_none, errW_some] <;> rfl), by repeat (first | (with_reducible first | exact HB.out | apply below_alloc | apply pw_below_drewN | apply below_drew1 | refine below_set ?_ GE185.out | refine below_set ?_ GE190.out) | exact HB.out)⟩
          · rw [if_neg c12] at H
            cases H
        · rw [if_neg c9] at H
          cases H
      · rw [if_neg c8] at H
        cases H
    · rw [if_neg c5] at H
      cases H
  · replace c4 := Bool.eq_false_iff.mpr c4
    subst c4
    have H1 : (some true) = some r := by rw [if_neg (show ¬ (false = true) by decide)] at H; exact H
    clear H
    have H := H1
    clear H1
    obtain rfl := Option.some.inj H
    go_enter Try.func3, Try.ntmps3
    go_wp2_with (first | ((with_reducible refine gate_callee (f := 11) rfl ?_); refine goesL_ (some 11) rfl rfl Try.func11 (by kernel_rfl) rfl #[.slice A1 l1.length c1] rfl (by (try simp only [List.map_toArray, List.map_cons, List.map_nil]); first | done | rfl | (simp only [List.length_drop, List.length_take]; rfl)) ?_; (with_reducible refine (quarrylaw02_right.calls k _ _ l1 false _ ?side1 ?side2 A3.out).mono ?_); (case side1 => repeat (first | exact HR1.out | (with_reducible refine Kd.C_alloc ?_ _) | (with_reducible refine Kd.C_drewN ?_ _) | (with_reducible refine Kd.C_drew ?_))); (case side2 => exact HC1.out); rintro e w66 ⟨rfl, hb⟩; refine ⟨_, rfl, ?_⟩; have n0_ := Aside0.mk (below_step (by repeat (first | (with_reducible first | exact HB.out | apply below_alloc | apply pw_below_drewN | apply below_drew1) | exact HB.out)) hb); clear HB; have HB := n0_; clear n0_; (try clear hb); (try clear hb2); (try clear hk); (try clear hi)))
    go_ret
    exact ⟨by first | rfl | (simp [errW_none, errW_some] <;> rfl) | (simp [*, errW_none, errW_some] <;> rfl), by repeat (first | (with_reducible first | exact HB.out | apply below_alloc | apply pw_below_drewN | apply below_drew1) | exact HB.out)⟩
end Go.Proofs.Ytfbeklbjlkgbnaa.P
end
section
namespace Go.Proofs.Ytfbeklbjlkgbnaa.Pure
set_option linter.unusedVariables false
set_option linter.unusedSimpArgs false
open Go.RowKit Go.Proofs.Ytfbeklbjlkgbnaa.P Go.Proofs.YtfbeklbjlkgbnaaW.PrintWords Go.Proofs.YtfbeklbjlkgbnaaW.PrintLast Go.Proofs.YtfbeklbjlkgbnaaW.PrintMore
def okV (x : S25) : Bool := chkR x.f0 x.f1 x.f2 == 0
theorem right_loop : ∀ (s p : List S25), (p ++ s).length < 140737488355328 → Ev (fun k => quarrylaw02_right.l0 k (p ++ s) (p.length : Int)) (s.all okV)
  | [], p, hl => by
    refine Ev.succ ?_
    simp only [quarrylaw02_right.l0, List.append_nil, Int.lt_irrefl, if_false]
    exact Ev.pure _
  | x :: s, p, hl => by
    refine Ev.succ ?_
    have h1 : (p.length : Int) < ((p ++ x :: s).length : Int) := by simp; omega
    have h2 : (0 : Int) ≤ (p.length : Int) := by omega
    simp only [quarrylaw02_right.l0, if_pos h1, if_pos h2, rd_at, quarryref01_Check.f, Option.bind_some]
    by_cases h : chkR x.f0 x.f1 x.f2 = 0
    · simp only [if_pos h]
      have ih := right_loop s (p ++ [x]) (by simpa using hl)
      have hw : wrap64 ((p.length : Int) + 1) = ((p ++ [x]).length : Int) := by
        simp at hl
        unfold wrap64
        simp
        omega
      rw [hw]
      have hb : (x :: s).all okV = s.all okV := by simp [okV, h]
      rw [hb]
      simpa using ih
    · simp only [if_neg h]
      have hb : (x :: s).all okV = false := by simp [okV, h]
      rw [hb]
      exact Ev.pure _
theorem right_ev (l : List S25) (hl : l.length < 140737488355328) : Ev (fun k => quarrylaw02_right.f k l) (l.all okV) := by
  have := right_loop l [] (by simpa using hl)
  simpa [quarrylaw02_right.f] using this
theorem okV_null {x : S25} (h : okV x = true) (h0 : x.f0 = 0) : x = ⟨0, 0, ⟨#[]⟩⟩ := by
  have h' : chkR x.f0 x.f1 x.f2 = 0 := beq_iff_eq.1 h
  unfold chkR at h'
  rw [if_pos h0] at h'
  by_cases hc : x.f1 = 0 ∧ x.f2.toList = []
  · cases x
    simp only at h0 hc
    have he : (⟨#[]⟩ : ByteArray).toList = [] := by rw [Go.ByteArray.toList_eq]
    rw [h0, hc.1, toList_inj (hc.2.trans he.symm)]
  · rw [if_neg hc] at h'
    omega
end Go.Proofs.Ytfbeklbjlkgbnaa.Pure
end
section
namespace Go.Proofs.Ytfbeklbjlkgbnaa.Pure
set_option linter.unusedVariables false
set_option linter.unusedSimpArgs false
open Go.RowKit Go.Proofs.Ytfbeklbjlkgbnaa.P Go.Proofs.YtfbeklbjlkgbnaaW.PrintWords Go.Proofs.YtfbeklbjlkgbnaaW.PrintLast Go.Proofs.YtfbeklbjlkgbnaaW.PrintMore
def nb (l : List UInt8) : List Int := l.map fun b => (b.toNat : Int)
theorem nb_snoc (l : List UInt8) (c : UInt8) : nb (l ++ [c]) = nb l ++ [(c.toNat : Int)] := by simp [nb]
theorem nb_length (l : List UInt8) : (nb l).length = l.length := by simp [nb]
theorem str_nb (l : List UInt8) : strOfNums (nb l) = ⟨l.toArray⟩ := by unfold nb; apply congrArg ByteArray.mk; rw [List.map_map]; congr 1; exact (List.map_congr_left (fun c _ => by simp)).trans (List.map_id l)
theorem size_of (s : ByteArray) : s.size = s.data.toList.length := by rw [Array.length_toList]; rfl
theorem wrap_succ {n : Nat} (h : n < 140737488355328) : wrap64 ((n : Int) + 1) = ((n + 1 : Nat) : Int) := by unfold wrap64; omega
theorem up_num (c : UInt8) (h : 97 ≤ c.toNat ∧ c.toNat ≤ 122) : (((c.toNat : Int) - 97) + 65) % 256 = ((upC c).toNat : Int) := by
  unfold upC; rw [if_pos h, UInt8.toNat_ofNat']; omega
theorem low_num (c : UInt8) (h : 65 ≤ c.toNat ∧ c.toNat ≤ 90) : (((c.toNat : Int) - 65) + 97) % 256 = ((lowC c).toNat : Int) := by
  unfold lowC; rw [if_pos h, UInt8.toNat_ofNat']; omega
theorem letters_loop (s : ByteArray) (hs : s.size ≤ 140737488351232) (a b : Int) (g : UInt8 → UInt8)
    (hg : ∀ c : UInt8, ((c.toNat : Int) ≥ a ∧ (c.toNat : Int) < (a + 26) % 256 → (((c.toNat : Int) - a) + b) % 256 = ((g c).toNat : Int)) ∧ (¬ ((c.toNat : Int) ≥ a ∧ (c.toNat : Int) < (a + 26) % 256) → g c = c)) :
    ∀ (suf pre : List UInt8), s.data.toList = pre ++ suf → Ev (fun k => quarryref02_letters.l0 k s a b (nb (pre.map g)) (pre.length : Int)) (mapS g s)
  | [], pre, h => by
    refine Ev.succ ?_
    have hl : s.size = pre.length := by rw [size_of, h]; simp
    simp only [quarryref02_letters.l0, if_neg (show ¬ (pre.length : Int) < (s.size : Int) by omega), str_nb]
    have : mapS g s = ⟨(pre.map g).toArray⟩ := by unfold mapS; rw [h, List.append_nil]
    rw [this]
    exact Ev.pure _
  | c :: suf, pre, h => by
    refine Ev.succ ?_
    have hl : s.size = pre.length + (suf.length + 1) := by rw [size_of, h]; simp
    have hb := bt_at' s pre c suf h
    have ih := letters_loop s hs a b g hg suf (pre ++ [c]) (by simpa using h)
    have hw : wrap64 ((pre.length : Int) + 1) = ((pre ++ [c]).length : Int) := by rw [wrap_succ (by omega)]; simp
    have hn : (nb (pre.map g)).length < 140737488355328 := by rw [nb_length, List.length_map]; omega
    have h1 : (pre.length : Int) < (s.size : Int) := by omega
    have h2 : (0 : Int) ≤ (pre.length : Int) := by omega
    rw [← hw] at ih
    simp only [quarryref02_letters.l0, if_pos h1, if_pos h2, hb, if_pos hn]
    by_cases ha : (c.toNat : Int) ≥ a ∧ (c.toNat : Int) < (a + 26) % 256
    · simp only [if_pos ha.1, if_pos ha.2]
      rw [(hg c).1 ha]
      rw [List.map_append, List.map_cons, List.map_nil, nb_snoc] at ih
      exact ih
    · have hc := (hg c).2 ha
      rw [List.map_append, List.map_cons, List.map_nil, nb_snoc, hc] at ih
      by_cases h3 : (c.toNat : Int) ≥ a
      · simp only [if_pos h3, if_neg (fun h4 => ha ⟨h3, h4⟩)]; exact ih
      · simp only [if_neg h3]; exact ih
theorem up_ev (s : ByteArray) (hs : s.size ≤ 140737488351232) : Ev (fun k => quarryref02_letters.f k s 97 65) (mapS upC s) := by
  refine letters_loop s hs 97 65 upC (fun c => ⟨fun h => up_num c (by omega), fun h => ?_⟩) s.data.toList [] rfl
  unfold upC; rw [if_neg (by omega)]
theorem low_ev (s : ByteArray) (hs : s.size ≤ 140737488351232) : Ev (fun k => quarryref02_letters.f k s 65 97) (mapS lowC s) := by
  refine letters_loop s hs 65 97 lowC (fun c => ⟨fun h => low_num c (by omega), fun h => ?_⟩) s.data.toList [] rfl
  unfold lowC; rw [if_neg (by omega)]
def ins (p n : Int) (i : Nat) : Bool := decide (0 < n) && decide (p ≤ (i : Int) + 1) && decide ((i : Int) + 1 - p < n)
theorem near_f (i : Nat) (p n : Int) (hi : i < 140737488355328) (hp : In64 p) (hn : In64 n) (h0 : p < 0) (h1 : 0 < n) : quarryref02_near.f ((i + 1 : Nat) : Int) p n = some (decide ((i : Int) + 1 - p < n)) := by
  unfold In64 at hp hn
  unfold quarryref02_near.f
  congr 1
  have e1 : wrap64 (p + 1) = p + 1 := by unfold wrap64; omega
  have e2 : wrap64 (-(p + 1)) = -(p + 1) := by unfold wrap64; omega
  have w : ∀ x : Int, 0 ≤ x → x < 18446744073709551616 → IntKind.u64.wrap x = x := by
    intro x a b
    simp only [IntKind.wrap, IntKind.bits, IntKind.signed, Bool.false_and, Bool.false_eq_true, if_false]
    omega
  have a1 := w ((i + 1 : Nat) : Int) (by omega) (by omega)
  have a2 := w (-(p + 1)) (by omega) (by omega)
  have a3 := w (((i + 1 : Nat) : Int) + -(p + 1)) (by omega) (by omega)
  have a4 := w (((i + 1 : Nat) : Int) + -(p + 1) + 1) (by omega) (by omega)
  have a5 := w n (by omega) (by omega)
  rw [e1, e2, a1, a2, a3, a4, a5]
  exact decide_eq_decide.2 (by omega)
theorem part_loop (s : ByteArray) (hs : s.size ≤ 140737488351232) (p n : Int) (hp : In64 p) (hn : In64 n) (r : List UInt8) :
    ∀ (suf pre acc : List UInt8), s.data.toList = pre ++ suf → (acc.length ≤ pre.length) → r = acc ++ (suf.zipIdx pre.length).filterMap (fun x : UInt8 × Nat => if ins p n x.2 = true then some x.1 else none) → Ev (fun k => quarryref02_part.l0 k s p n (nb acc) (pre.length : Int)) ⟨r.toArray⟩
  | [], pre, acc, h, _, hr => by
    refine Ev.succ ?_
    have hl : s.size = pre.length := by rw [size_of, h]; simp
    simp only [quarryref02_part.l0, if_neg (show ¬ (pre.length : Int) < (s.size : Int) by omega), str_nb]
    rw [hr]
    simp only [List.zipIdx_nil, List.filterMap_nil, List.append_nil]
    exact Ev.pure _
  | c :: suf, pre, acc, h, hk, hr => by
    refine Ev.succ ?_
    have hl : s.size = pre.length + (suf.length + 1) := by rw [size_of, h]; simp
    have hb := bt_at' s pre c suf h
    have hw : wrap64 ((pre.length : Int) + 1) = ((pre.length + 1 : Nat) : Int) := wrap_succ (by omega)
    have hnl : (nb acc).length < 140737488355328 := by rw [nb_length]; omega
    have h1 : (pre.length : Int) < (s.size : Int) := by omega
    have h2 : (0 : Int) ≤ (pre.length : Int) := by omega
    have hpl : (pre ++ [c]).length = pre.length + 1 := by simp
    simp only [quarryref02_part.l0, if_pos h1, if_pos h2, hb, if_pos hnl, hw]
    have hI : In64 p := hp
    unfold In64 at hp hn
    have yes : ins p n pre.length = true → Ev (fun k => quarryref02_part.l0 k s p n (nb acc ++ [(c.toNat : Int)]) ((pre.length + 1 : Nat) : Int)) ⟨r.toArray⟩ := by
      intro hi
      have := part_loop s hs p n hI hn r suf (pre ++ [c]) (acc ++ [c]) (by simpa using h) (by simp; omega) (by rw [hr, List.zipIdx_cons, List.filterMap_cons, if_pos hi, hpl]; simp)
      rw [nb_snoc, hpl] at this
      exact this
    have no : ins p n pre.length = false → Ev (fun k => quarryref02_part.l0 k s p n (nb acc) ((pre.length + 1 : Nat) : Int)) ⟨r.toArray⟩ := by
      intro hi
      have := part_loop s hs p n hI hn r suf (pre ++ [c]) acc (by simpa using h) (by simp; omega) (by rw [hr, List.zipIdx_cons, List.filterMap_cons, if_neg (by rw [hi]; decide), hpl])
      rw [hpl] at this
      exact this
    by_cases c1 : p ≤ ((pre.length + 1 : Nat) : Int)
    · simp only [if_pos c1]
      by_cases c2 : n > 0
      · simp only [if_pos c2]
        by_cases c3 : p < 0
        · simp only [if_pos c3, near_f pre.length p n (by omega) hI hn c3 c2, Option.bind_some, if_neg (show ¬ p ≥ 0 by omega)]
          cases hd : decide ((pre.length : Int) + 1 - p < n) with
          | true => simp only [if_true]; exact yes (by unfold ins; rw [hd]; simp; omega)
          | false => simp only [Bool.false_eq_true, if_false]; exact no (by unfold ins; rw [hd]; simp)
        · have hww : wrap64 (((pre.length + 1 : Nat) : Int) - p) = (pre.length : Int) + 1 - p := by unfold wrap64; omega
          simp only [if_neg c3, if_pos (show p ≥ 0 by omega), hww]
          by_cases c4 : (pre.length : Int) + 1 - p < n
          · simp only [if_pos c4]; exact yes (by unfold ins; simp; omega)
          · simp only [if_neg c4]; exact no (by unfold ins; simp; omega)
      · simp only [if_neg c2]; exact no (by unfold ins; simp; omega)
    · simp only [if_neg c1]; exact no (by unfold ins; simp; omega)
theorem filter_mid (lo hi : Nat) : ∀ (l : List UInt8) (i : Nat), (l.zipIdx i).filterMap (fun x : UInt8 × Nat => if (decide (lo ≤ x.2) && decide (x.2 < hi)) = true then some x.1 else none) = (l.take (hi - i)).drop (lo - i)
  | [], i => by simp
  | c :: l, i => by
    rw [List.zipIdx_cons, List.filterMap_cons, filter_mid lo hi l (i + 1)]
    by_cases h1 : lo ≤ i
    · by_cases h2 : i < hi
      · rw [if_pos (by simp; omega)]
        have e1 : lo - i = 0 := by omega
        have e2 : lo - (i + 1) = 0 := by omega
        obtain ⟨d, hd⟩ : ∃ d, hi - i = d + 1 := ⟨hi - i - 1, by omega⟩
        have e3 : hi - (i + 1) = d := by omega
        rw [e1, e2, hd, e3]
        simp
      · rw [if_neg (by simp; omega)]
        have e1 : hi - i = 0 := by omega
        have e2 : hi - (i + 1) = 0 := by omega
        rw [e1, e2]
        simp
    · rw [if_neg (by simp; omega)]
      obtain ⟨e, he⟩ : ∃ e, lo - i = e + 1 := ⟨lo - i - 1, by omega⟩
      have e2 : lo - (i + 1) = e := by omega
      rw [he, e2]
      cases hd : hi - i with
      | zero =>
        have e4 : hi - (i + 1) = 0 := by omega
        rw [e4]; simp
      | succ d =>
        have e4 : hi - (i + 1) = d := by omega
        rw [e4]; simp
theorem part_ev (s : ByteArray) (hs : s.size ≤ 140737488351232) (p n : Int) (hp : In64 p) (hn : In64 n) : Ev (fun k => quarryref02_part.f k s p n) (cutP s p n) := by
  have h := part_loop s hs p n hp hn _ s.data.toList [] [] rfl (Nat.le_refl _) rfl
  have e : cutP s p n = ⟨([] ++ (s.data.toList.zipIdx ([] : List UInt8).length).filterMap (fun x : UInt8 × Nat => if ins p n x.2 = true then some x.1 else none)).toArray⟩ := by
    have hl := size_of s
    rw [List.nil_append, List.length_nil]
    unfold cutP
    by_cases h0 : n ≤ 0
    · rw [if_pos (.inl h0)]
      have : ∀ l : List UInt8, ∀ i, (l.zipIdx i).filterMap (fun x : UInt8 × Nat => if ins p n x.2 = true then some x.1 else none) = [] := by
        intro l
        induction l with
        | nil => intro i; rfl
        | cons c l ih =>
          intro i
          rw [List.zipIdx_cons, List.filterMap_cons, ih, if_neg (by unfold ins; simp; omega)]
      rw [this]
      rfl
    · have hf : (fun x : UInt8 × Nat => if ins p n x.2 = true then some x.1 else none) = (fun x : UInt8 × Nat => if (decide ((p - 1).toNat ≤ x.2) && decide (x.2 < (p - 1 + n).toNat)) = true then some x.1 else none) := by
        funext x
        have : ins p n x.2 = (decide ((p - 1).toNat ≤ x.2) && decide (x.2 < (p - 1 + n).toNat)) := by
          unfold ins
          rw [Bool.eq_iff_iff]
          simp
          omega
        rw [this]
      rw [hf, filter_mid, Nat.sub_zero, Nat.sub_zero]
      have ext : ∀ lo hi : Nat, s.extract lo hi = ⟨((s.data.toList.take hi).drop lo).toArray⟩ := by
        intro lo hi
        apply congrArg ByteArray.mk
        show (s.extract lo hi).data = _
        rw [ByteArray.data_extract, List.drop_take]
        apply Array.toList_inj.1
        rw [Array.toList_extract]
      have nil : ∀ lo hi : Nat, hi ≤ lo ∨ s.size ≤ lo → (⟨((s.data.toList.take hi).drop lo).toArray⟩ : ByteArray) = V0 := by
        intro lo hi hh
        apply congrArg ByteArray.mk
        rw [List.drop_eq_nil_of_le (by rw [List.length_take]; omega)]
      by_cases h1 : (s.size : Int) < p
      · rw [if_pos (.inr h1), nil _ _ (by omega)]
      · rw [if_neg (fun h => h.elim h0 h1)]
        by_cases h2 : p < 1
        · rw [if_pos h2]
          have z : (p - 1).toNat = 0 := by omega
          by_cases h3 : n ≤ 1 - p
          · rw [if_pos h3, nil _ _ (by omega)]
          · rw [if_neg h3, ext, z]
            congr 3
            by_cases h4 : (s.size : Int) ≤ n - (1 - p)
            · rw [Int.min_eq_right h4, List.take_of_length_le (by omega), List.take_of_length_le (by omega)]
            · rw [Int.min_eq_left (by omega)]; congr 1; omega
        · rw [if_neg h2, ext]
          congr 3
          by_cases h4 : (s.size : Int) - p + 1 ≤ n
          · rw [Int.min_eq_right h4, List.take_of_length_le (by omega), List.take_of_length_le (by omega)]
          · rw [Int.min_eq_left (by omega)]
  rw [e]
  exact h
end Go.Proofs.Ytfbeklbjlkgbnaa.Pure
end
section
namespace Go.Proofs.Ytfbeklbjlkgbnaa.Pure
set_option linter.unusedVariables false
set_option linter.unusedSimpArgs false
open Go.RowKit Go.Proofs.Ytfbeklbjlkgbnaa.P Go.Proofs.YtfbeklbjlkgbnaaW.PrintWords Go.Proofs.YtfbeklbjlkgbnaaW.PrintLast Go.Proofs.YtfbeklbjlkgbnaaW.PrintMore
theorem args_ev (f : Int) : Ev (fun k => calc_Args.f k f) (argsN f) := by
  refine Ev.succ ?_
  have : ∀ k, calc_Args.f (k + 1) f = some (argsN f) := fun k => by
    rw [← args_f f]
    unfold calc_Args.f
    simp only [calc_Args.j0]
  simp only [this]
  exact Ev.pure _
theorem refArgs_ev (f : Int) : Ev (fun k => quarryref02_Args.f k f) (argsN f) := by
  refine Ev.succ ?_
  have : ∀ k, quarryref02_Args.f (k + 1) f = some (argsN f) := fun k => by
    rw [← args_f f]
    unfold quarryref02_Args.f calc_Args.f
    simp only [quarryref02_Args.j0, calc_Args.j0]
  simp only [this]
  exact Ev.pure _
def takR (f p kd : Int) : Bool :=
  if kd = 0 ∨ f = 6 then true else if f = 1 then kd == 3 || kd == 4 else if f = 2 then kd == 2 else if f = 5 then (if p > 0 then kd == 2 else kd == 3) else kd == 3
theorem takR_ev (f p kd : Int) : Ev (fun k => quarryref02_takes.f k f p kd) (takR f p kd) := by
  refine Ev.succ ?_
  have : ∀ k, quarryref02_takes.f (k + 1) f p kd = some (takR f p kd) := fun k => by
    unfold quarryref02_takes.f takR
    simp only [quarryref02_takes.j0]
    by_cases h0 : kd = 0
    · simp [h0]
    · by_cases h6 : f = 6
      · simp [h0, h6]
      · rw [if_neg h0, if_neg (by simpa using h6), if_neg (show ¬ (kd = 0 ∨ f = 6) by omega)]
        by_cases h1 : f = 1
        · rw [if_pos h1, if_pos h1]
          by_cases h3 : kd = 3
          · simp [h3]
          · rw [if_neg h3, beq_eq_false_iff_ne.mpr h3]; rfl
        · rw [if_neg h1, if_neg h1]
          by_cases h2 : f = 2
          · rw [if_pos h2, if_pos h2]
          · rw [if_neg h2, if_neg h2]
            by_cases h5 : f = 5
            · rw [if_pos h5, if_pos h5]
              by_cases hp : p > 0
              · rw [if_pos hp, if_pos hp]
              · rw [if_neg hp, if_neg hp]
            · rw [if_neg h5, if_neg h5]
  simp only [this]
  exact Ev.pure _
def goR (f : Int) : Nat → List S25 → Bool → Except Int Bool
  | _, [], b => .ok b
  | i, v :: t, b => if takR f i v.f0 = true then goR f (i + 1) t (b || v.f0 == 0) else .error 35
def calledR (f : Int) (l : List S25) : Except Int S25 :=
  if f = 1 then .ok ⟨2, ((rd_T25 l 0).f2.size : Int), V0⟩
  else if f = 2 then (if (rd_T25 l 0).f1 < 0 then una 1 (rd_T25 l 0) else .ok (rd_T25 l 0))
  else if f = 3 then .ok ⟨3, 0, mapS upC (rd_T25 l 0).f2⟩
  else if f = 4 then .ok ⟨3, 0, mapS lowC (rd_T25 l 0).f2⟩
  else .ok ⟨3, 0, cutP (rd_T25 l 0).f2 (rd_T25 l 1).f1 (rd_T25 l 2).f1⟩
def finX (f : Int) (l : List S25) (b : Bool) : Except Int S25 :=
  if f = 6 then (if b = false ∧ ¬ (rd_T25 l 0).f0 = (rd_T25 l 1).f0 then .error 35 else if (rd_T25 l 0).f0 = 0 then .ok (rd_T25 l 1) else .ok (rd_T25 l 0))
  else if b = true then .ok zeroV else calledR f l
def loopX (f : Int) (l suf : List S25) (i : Nat) (b : Bool) : Except Int S25 := match goR f i suf b with | .error c => .error c | .ok b' => finX f l b'
theorem j1_ev (l : List S25) (x : Bool) (hl : 1 < (l.length : Int)) : Ev (fun k => quarryref02_Call.j1 k l x) (outT (if x = true then .error 35 else if (rd_T25 l 0).f0 = 0 then .ok (rd_T25 l 1) else .ok (rd_T25 l 0))) := by
  refine Ev.succ ?_
  simp only [quarryref02_Call.j1]
  cases x with
  | true => simp only [if_true]; exact Ev.pure _
  | false =>
    simp only [Bool.false_eq_true, if_false, if_pos hl, if_pos (show 0 < (l.length : Int) by omega)]
    by_cases h : (rd_T25 l 0).f0 = 0
    · simp only [if_pos h]; exact Ev.pure _
    · simp only [if_neg h]; exact Ev.pure _
theorem fin_ev (f : Int) (l : List S25) (b : Bool) (hf : ∀ v ∈ l, FitsV v) (hn : ∀ v ∈ l, v.f0 = 0 → v = zeroV) (hl : (l.length : Int) = argsN f) (h0 : 0 < argsN f) (hb : b = false → ¬ f = 6 → ¬ (rd_T25 l 0).f0 = 0) :
    Ev (fun k => if f = 6 then (if b = true then (quarryref02_Call.j1 k l false) else (if 0 < (l.length : Int) then (if 1 < (l.length : Int) then (quarryref02_Call.j1 k l (((rd_T25 l 0).f0) != ((rd_T25 l 1).f0))) else (none)) else (none))) else (if b = true then (some (0, 0, (⟨#[]⟩ : ByteArray), 0)) else (if f = 1 then (if 0 < (l.length : Int) then ((quarryref02_Number.f (((rd_T25 l 0).f2).size : Int)).bind fun bt203 => (some (bt203.1, bt203.2.1, bt203.2.2, 0))) else (none)) else (if f = 2 then (if 0 < (l.length : Int) then (if ((rd_T25 l 0).f1) < 0 then ((quarryref02_Unary.f k 1 ((rd_T25 l 0).f0) ((rd_T25 l 0).f1) ((rd_T25 l 0).f2)).bind fun bt208 => (some (bt208.1, bt208.2.1, bt208.2.2.1, bt208.2.2.2))) else (some ((rd_T25 l 0).f0, (rd_T25 l 0).f1, (rd_T25 l 0).f2, 0))) else (none)) else (if f = 3 then (if 0 < (l.length : Int) then ((quarryref02_letters.f k ((rd_T25 l 0).f2) 97 65).bind fun t214 => ((quarryref02_text.f t214).bind fun bt215 => (some (bt215.1, bt215.2.1, bt215.2.2, 0)))) else (none)) else (if f = 4 then (if 0 < (l.length : Int) then ((quarryref02_letters.f k ((rd_T25 l 0).f2) 65 97).bind fun t219 => ((quarryref02_text.f t219).bind fun bt220 => (some (bt220.1, bt220.2.1, bt220.2.2, 0)))) else (none)) else (if 0 < (l.length : Int) then (if 1 < (l.length : Int) then (if 2 < (l.length : Int) then ((quarryref02_part.f k ((rd_T25 l 0).f2) ((rd_T25 l 1).f1) ((rd_T25 l 2).f1)).bind fun t226 => ((quarryref02_text.f t226).bind fun bt227 => (some (bt227.1, bt227.2.1, bt227.2.2, 0)))) else (none)) else (none)) else (none))))))))
      (outT (finX f l b)) := by
  have hp : 0 < (l.length : Int) := by omega
  have F0 := rd_fits hf 0
  have F1 := rd_fits hf 1
  have F2 := rd_fits hf 2
  by_cases h6 : f = 6
  · have h2 : 1 < (l.length : Int) := by rw [hl, h6]; decide
    have e : finX f l b = if b = false ∧ ¬ (rd_T25 l 0).f0 = (rd_T25 l 1).f0 then .error 35 else if (rd_T25 l 0).f0 = 0 then .ok (rd_T25 l 1) else .ok (rd_T25 l 0) := by unfold finX; rw [if_pos h6]
    rw [e]
    simp only [if_pos h6, if_pos hp, if_pos h2]
    cases b with
    | true =>
      rw [if_neg (show ¬ (true = false ∧ ¬ (rd_T25 l 0).f0 = (rd_T25 l 1).f0) by simp)]
      simp only [if_true]
      exact j1_ev l false h2
    | false =>
      have hj := j1_ev l ((rd_T25 l 0).f0 != (rd_T25 l 1).f0) h2
      by_cases he : (rd_T25 l 0).f0 = (rd_T25 l 1).f0
      · rw [if_neg (fun h => h.2 he)]
        rw [if_neg (by simp [he])] at hj
        simp only [Bool.false_eq_true, if_false]
        exact hj
      · rw [if_pos ⟨rfl, he⟩]
        rw [if_pos (by simp [he])] at hj
        simp only [Bool.false_eq_true, if_false]
        exact hj
  · cases b with
    | true =>
      have e : finX f l true = .ok zeroV := by unfold finX; rw [if_neg h6, if_pos rfl]
      rw [e]
      simp only [if_neg h6, if_true]
      exact Ev.pure _
    | false =>
      have e : finX f l false = calledR f l := by unfold finX; rw [if_neg h6, if_neg (by decide)]
      rw [e]
      unfold calledR
      simp only [if_neg h6, Bool.false_eq_true, if_false, if_pos hp]
      by_cases h1 : f = 1
      · rw [if_pos h1]; simp only [if_pos h1]; exact Ev.pure _
      rw [if_neg h1]
      simp only [if_neg h1]
      by_cases h2 : f = 2
      · rw [if_pos h2]; simp only [if_pos h2]
        by_cases hneg : (rd_T25 l 0).f1 < 0
        · rw [if_pos hneg]; simp only [if_pos hneg]
          refine Ev.bind (refUnary_ev 1 (rd_T25 l 0) F0.1 (fun h => absurd h (hb rfl h6))) ?_
          exact Ev.pure _
        · rw [if_neg hneg]; simp only [if_neg hneg]; exact Ev.pure _
      rw [if_neg h2]
      simp only [if_neg h2]
      by_cases h3 : f = 3
      · rw [if_pos h3]; simp only [if_pos h3]
        refine Ev.bind (up_ev _ F0.2) ?_
        exact Ev.pure _
      rw [if_neg h3]
      simp only [if_neg h3]
      by_cases h4 : f = 4
      · rw [if_pos h4]; simp only [if_pos h4]
        refine Ev.bind (low_ev _ F0.2) ?_
        exact Ev.pure _
      rw [if_neg h4]
      have h5 : f = 5 := by unfold argsN at h0; split at h0 <;> (try split at h0) <;> (try split at h0) <;> omega
      have hl3 : (l.length : Int) = 3 := by rw [hl, h5]; rfl
      simp only [if_neg h4, if_pos (show 1 < (l.length : Int) by omega), if_pos (show 2 < (l.length : Int) by omega)]
      refine Ev.bind (part_ev _ F0.2 _ _ F1.1 F2.1) ?_
      exact Ev.pure _
theorem call_loop (f : Int) (l : List S25) (hf : ∀ v ∈ l, FitsV v) (hn : ∀ v ∈ l, v.f0 = 0 → v = zeroV) (hl : (l.length : Int) = argsN f) (h0 : 0 < argsN f) (hm : l.length < 140737488355328) :
    ∀ (suf pre : List S25) (b : Bool), l = pre ++ suf → (b = false → ∀ v ∈ pre, ¬ v.f0 = 0) → Ev (fun k => quarryref02_Call.l0 k f l b (pre.length : Int)) (outT (loopX f l suf pre.length b))
  | [], pre, b, h, hb => by
    refine Ev.succ ?_
    have hl' : l.length = pre.length := by rw [h]; simp
    have e : loopX f l [] pre.length b = finX f l b := rfl
    rw [e]
    simp only [quarryref02_Call.l0, if_neg (show ¬ (pre.length : Int) < (l.length : Int) by omega)]
    refine fin_ev f l b hf hn hl h0 (fun h1 h2 => hb h1 _ ?_)
    rw [h, List.append_nil]
    unfold rd_T25
    rw [List.getD_eq_getElem?_getD, List.getElem?_eq_getElem (show (0 : Int).toNat < pre.length by simp; omega)]
    exact List.getElem_mem _
  | v :: suf, pre, b, h, hb => by
    refine Ev.succ ?_
    have hl' : l.length = pre.length + (suf.length + 1) := by rw [h]; simp
    have hr : rd_T25 l (pre.length : Int) = v := by rw [h]; exact rd_at pre v suf
    have ih := fun b' => call_loop f l hf hn hl h0 hm suf (pre ++ [v]) b' (by rw [h]; simp)
    have hw : wrap64 ((pre.length : Int) + 1) = ((pre ++ [v]).length : Int) := by rw [wrap_succ (by omega)]; simp
    have hpl : (pre ++ [v]).length = pre.length + 1 := by simp
    simp only [quarryref02_Call.l0, if_pos (show (pre.length : Int) < (l.length : Int) by omega), if_pos (show (0 : Int) ≤ (pre.length : Int) by omega), hr]
    refine Ev.bind (takR_ev f (pre.length : Int) v.f0) ?_
    have e : loopX f l (v :: suf) pre.length b = if takR f (pre.length : Int) v.f0 = true then loopX f l suf (pre.length + 1) (b || v.f0 == 0) else .error 35 := by
      unfold loopX
      rw [goR]
      by_cases ht : takR f (pre.length : Int) v.f0 = true
      · rw [if_pos ht, if_pos ht]
      · rw [if_neg ht, if_neg ht]
    rw [e]
    cases ht : takR f (pre.length : Int) v.f0 with
    | false => simp only [Bool.false_eq_true, if_false]; exact Ev.pure _
    | true =>
      simp only [if_true, hw]
      rw [← hpl]
      cases b with
      | true => simp only [if_true, Bool.true_or]; exact ih true (by simp)
      | false =>
        simp only [Bool.false_eq_true, if_false, Bool.false_or]
        refine ih _ (fun h1 u hu => ?_)
        rcases List.mem_append.1 hu with h2 | h2
        · exact hb rfl u h2
        · rw [List.mem_singleton.1 h2]; exact beq_eq_false_iff_ne.1 h1
def refCall (f : Int) (l : List S25) : Except Int S25 := if argsN f = 0 then .error 5 else if (l.length : Int) = argsN f then loopX f l l 0 false else .error 37
theorem argsN_pos (f : Int) : 0 ≤ argsN f := by unfold argsN; split; · omega
                                                split; · omega
                                                split <;> omega
theorem refCall_ev (f : Int) (l : List S25) (hf : ∀ v ∈ l, FitsV v) (hn : ∀ v ∈ l, v.f0 = 0 → v = zeroV) (hm : l.length < 140737488355328) : Ev (fun k => quarryref02_Call.f k f l) (outT (refCall f l)) := by
  unfold quarryref02_Call.f refCall
  refine Ev.bind (refArgs_ev f) ?_
  by_cases h0 : argsN f = 0
  · rw [if_pos h0]; simp only [if_pos h0]; exact Ev.pure _
  · rw [if_neg h0]; simp only [if_neg h0]
    refine Ev.bind (refArgs_ev f) ?_
    by_cases hl : (l.length : Int) = argsN f
    · rw [if_pos hl]; simp only [if_pos hl]
      have := argsN_pos f
      exact call_loop f l hf hn hl (by omega) hm l [] false rfl (by simp)
    · rw [if_neg hl]; simp only [if_neg hl]; exact Ev.pure _
theorem takes_same (f : Int) (i : Nat) (kd : Int) (hi : (i : Int) < argsN f) (h6 : ¬ f = 6) : takesP f i kd = takR f i kd := by
  have h := takes_f f i kd
  have hp : takesP f i kd = takesP f i kd := rfl
  unfold takesP calc_takes.f takR
  by_cases k0 : kd = 0
  · simp [k0]
    repeat (first | rfl | split)
  rw [if_neg (c := kd = 0 ∨ f = 6) (by omega)]
  unfold argsN at hi
  by_cases h2 : f = 2
  · simp [h2, k0]
    by_cases k2 : kd = 2 <;> simp [k2]
  by_cases h1 : f = 1
  · rw [if_pos (show f = 1 ∨ f = 2 ∨ f = 3 ∨ f = 4 by omega)] at hi
    have : ¬ (i : Int) > 0 := by omega
    simp [h1, k0]
    rw [if_neg (by omega)]
    by_cases k3 : kd = 3 <;> simp [k3]
  by_cases h5 : f = 5
  · simp [h5, k0]
    by_cases hp : 0 < i
    · rw [if_pos hp, if_pos hp]; by_cases k2 : kd = 2 <;> simp [k2]
    · rw [if_neg hp, if_neg hp]; by_cases k3 : kd = 3 <;> simp [k3]
  · have hi' : ¬ (i : Int) > 0 := by split at hi <;> omega
    have : ¬ 0 < i := by omega
    simp [h1, h2, h5, k0, this]
    by_cases k3 : kd = 3 <;> simp [k3]
theorem go_same (f : Int) (h6 : ¬ f = 6) : ∀ (suf : List S25) (i : Nat) (b : Bool), (i : Int) + (suf.length : Int) ≤ argsN f → goArgs f i suf b = goR f i suf b
  | [], i, b, h => rfl
  | v :: suf, i, b, h => by
    rw [List.length_cons] at h
    unfold goArgs goR
    rw [takes_same f i v.f0 (by omega) h6, go_same f h6 suf (i + 1) _ (by omega)]
theorem go_six : ∀ (suf : List S25) (i : Nat) (b : Bool), goR 6 i suf b = .ok (b || suf.any fun v => v.f0 == 0)
  | [], i, b => by simp [goR]
  | v :: suf, i, b => by
    unfold goR
    rw [if_pos (by simp [takR]), go_six suf]
    simp [Bool.or_assoc]
theorem go_abs {l : List S25} (hl : l.length = 1) (h : goR 2 0 l false = .ok false) : (rd_T25 l 0).f0 = 2 := by
  match l, hl with
  | [v], _ =>
    have hr : rd_T25 [v] 0 = v := rfl
    rw [hr]
    unfold goR goR at h
    by_cases ht : takR 2 0 v.f0 = true
    · rw [if_pos (by exact ht)] at h
      have hz : (v.f0 == 0) = false := by simpa using h
      have hz' : ¬ v.f0 = 0 := beq_eq_false_iff_ne.1 hz
      unfold takR at ht
      rw [if_neg (by omega)] at ht
      simpa using ht
    · rw [if_neg (by exact ht)] at h; cases h
theorem call_same (f : Int) (l : List S25) (hf : ∀ v ∈ l, FitsV v) (hk : ∀ v ∈ l, v.f0 = 2 → v.f2 = V0) : call f l = refCall f l := by
  unfold call refCall
  have hp := argsN_pos f
  by_cases h0 : argsN f = 0
  · rw [if_pos (show argsN f ≤ 0 by omega), if_pos h0]
  rw [if_neg (show ¬ argsN f ≤ 0 by omega), if_neg h0]
  by_cases hl : (l.length : Int) = argsN f
  · rw [if_neg (fun h => h hl), if_pos hl]
    by_cases h6 : f = 6
    · rw [if_pos h6]
      subst h6
      have hl2 : l.length = 2 := by have : argsN 6 = 2 := rfl; omega
      match l, hl2 with
      | [u, v], _ =>
        have hu : rd_T25 [u, v] 0 = u := rfl
        have hv : rd_T25 [u, v] 1 = v := rfl
        unfold loopX
        rw [go_six]
        have e2 : ∀ b, finX 6 [u, v] b = if b = false ∧ ¬ u.f0 = v.f0 then .error 35 else if u.f0 = 0 then .ok v else .ok u := fun b => by unfold finX; rw [if_pos rfl]; rfl
        show firstP (rd_T25 [u, v] 0) (rd_T25 [u, v] 1) = finX 6 [u, v] _
        rw [e2, hu, hv]
        unfold firstP
        by_cases u0 : u.f0 = 0
        · simp [u0]
        · by_cases v0 : v.f0 = 0
          · simp [u0, v0]
          · by_cases he : u.f0 = v.f0
            · simp [u0, v0, he]
            · simp [u0, v0, he]
    · rw [if_neg h6]
      unfold restP loopX
      rw [go_same f h6 l 0 false (by omega)]
      cases hg : goR f 0 l false with
      | error c => rfl
      | ok b =>
        cases b with
        | true => simp [finX, h6]
        | false =>
          show calledP f l = finX f l false
          have e : finX f l false = calledR f l := by unfold finX; rw [if_neg h6, if_neg (by decide)]
          rw [e]
          unfold calledP calledR
          by_cases h1 : f = 1
          · rw [if_pos h1, if_pos h1]
          rw [if_neg h1, if_neg h1]
          by_cases h2 : f = 2
          · rw [if_pos h2, if_pos h2]
            subst h2
            have hl1 : l.length = 1 := by have : argsN 2 = 1 := rfl; omega
            have hkd := go_abs hl1 hg
            match l, hl1 with
            | [v], _ =>
              have hr : rd_T25 [v] 0 = v := rfl
              rw [hr] at hkd ⊢
              have ht := hk v (by simp) hkd
              have hI := (hf v (by simp)).1
              unfold In64 at hI
              by_cases hneg : v.f1 < 0
              · rw [if_pos hneg]
                have hu : una 1 v = if v.f1 = -9223372036854775808 then .error 40 else .ok ⟨2, -v.f1, V0⟩ := by unfold una; simp [hkd]
                rw [hu]
                by_cases hm : v.f1 = -9223372036854775808
                · rw [if_pos hm, if_pos hm]
                · rw [if_neg hm, if_neg hm]
                  have : mx v.f1 (-v.f1) = -v.f1 := by unfold mx; rw [if_pos (by omega)]
                  rw [this]
              · rw [if_neg hneg, if_neg (by omega)]
                have : mx v.f1 (-v.f1) = v.f1 := by
                  unfold mx
                  by_cases hz : v.f1 < -v.f1
                  · omega
                  · rw [if_neg hz]
                rw [this]
                cases v
                simp only at hkd ht
                rw [hkd, ht]
          rw [if_neg h2, if_neg h2]
  · rw [if_pos hl, if_neg hl]
theorem sameRow_loop (l : List S25) (hm : l.length < 140737488355328) : ∀ (suf pre : List S25), l = pre ++ suf → Ev (fun k => quarryref01_SameRow.l0 k l l (pre.length : Int)) true
  | [], pre, h => by
    refine Ev.succ ?_
    have hl' : l.length = pre.length := by rw [h]; simp
    simp only [quarryref01_SameRow.l0, if_neg (show ¬ (pre.length : Int) < (l.length : Int) by omega)]
    exact Ev.pure _
  | v :: suf, pre, h => by
    refine Ev.succ ?_
    have hl' : l.length = pre.length + (suf.length + 1) := by rw [h]; simp
    have ih := sameRow_loop l hm suf (pre ++ [v]) (by rw [h]; simp)
    have hw : wrap64 ((pre.length : Int) + 1) = ((pre ++ [v]).length : Int) := by rw [wrap_succ (by omega)]; simp
    simp only [quarryref01_SameRow.l0, if_pos (show (pre.length : Int) < (l.length : Int) by omega), if_pos (show (0 : Int) ≤ (pre.length : Int) by omega), beq_self_eq_true, Bool.not_true, Bool.or_self, Bool.false_eq_true, if_false, hw]
    exact ih
theorem sameRow_ev (l : List S25) (hm : l.length < 140737488355328) : Ev (fun k => quarryref01_SameRow.f k l l) true := by
  unfold quarryref01_SameRow.f
  simp only [if_true]
  exact sameRow_loop l hm l [] rfl
end Go.Proofs.Ytfbeklbjlkgbnaa.Pure
end
section
namespace Go.Proofs.Ytfbeklbjlkgbnaa.Pure
open Go.RowKit Go.Proofs.Ytfbeklbjlkgbnaa.P Go.Proofs.YtfbeklbjlkgbnaaW.PrintWords Go.Proofs.YtfbeklbjlkgbnaaW.PrintLast
theorem okV_num {x : S25} (h : okV x = true) (h2 : x.f0 = 2) : x.f2 = V0 := by
  have h' : chkR x.f0 x.f1 x.f2 = 0 := beq_iff_eq.1 h
  unfold chkR at h'
  rw [if_neg (by omega), if_neg (by omega), if_pos h2] at h'
  by_cases hc : x.f2.toList = []
  · have he : (⟨#[]⟩ : ByteArray).toList = [] := by rw [Go.ByteArray.toList_eq]
    exact toList_inj (hc.trans he.symm)
  · rw [if_neg hc] at h'; omega
theorem CalcCalls : ∀ (a0 : Int) (x1 : List (S25)), (Lit.int .i64 a0).wf = true → G22 x1 → ∃ k, quarrylaw02_CalcCalls.f k a0 x1 = some true := by
  intro f l _ hl
  refine Ev.get ?_
  have hf : ∀ v ∈ l, FitsV v := fun v hv => ⟨wf64 (hl.1 v hv).2.1, (hl.1 v hv).2.2⟩
  have hm : l.length < 140737488355328 := by have := hl.2; omega
  have hm2 : ([] : List S25).length + l.length < 4398046511104 := by have := hl.2; simp; omega
  unfold quarrylaw02_CalcCalls.f
  refine Ev.bind (right_ev l hm) ?_
  cases h : l.all okV with
  | false =>
    simp only [Bool.false_eq_true, if_false]
    exact Ev.pure _
  | true =>
    have hall := List.all_eq_true.1 h
    have hn : ∀ v ∈ l, v.f0 = 0 → v = zeroV := fun v hv h0 => okV_null (hall v hv) h0
    have hk : ∀ v ∈ l, v.f0 = 2 → v.f2 = V0 := fun v hv h2 => okV_num (hall v hv) h2
    have hc : calc_Call.f f l = some (outT (call f l)) := if_pos (of_fits hf)
    simp only [if_true, Option.bind_some, if_pos hm2, List.nil_append, hc]
    refine Ev.bind (refCall_ev f l hf hn hm) ?_
    rw [← call_same f l hf hk]
    simp only [outT, beq_self_eq_true, Bool.and_self, if_true]
    refine Ev.bind (args_ev f) ?_
    refine Ev.bind (refArgs_ev f) ?_
    simp only [if_true]
    refine Ev.bind (sameRow_ev l hm) ?_
    exact Ev.pure _
end Go.Proofs.Ytfbeklbjlkgbnaa.Pure
end
