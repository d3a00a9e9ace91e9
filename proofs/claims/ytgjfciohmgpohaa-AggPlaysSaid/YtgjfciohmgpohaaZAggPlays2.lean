/- Laid by a program of this session out of its texts for the law AggPlays, part 2. -/
import Derived.BigGuardPart
import Derived.RegionDies
import Derived.WalkLawsBesides
import Derived.WalkSpells
import Derived.Outline
import Derived.Test.YtgjfciohmgpohaaZAggPlays1
section
namespace Go.Proofs.Ytgjfciohmgpohaa.P
open Go.RowKit Go.Proofs.YtgjfciohmgpohaaW.PrintWords Go.Proofs.YtgjfciohmgpohaaW.PrintLast Go.Proofs.YtgjfciohmgpohaaW.PrintMore
attribute [local go_sem] max2_int min2_int max_two min_two max_three min_three max_four min_four
set_option linter.unusedVariables false
set_option linter.unusedSimpArgs false
attribute [local go_sem high] eqA32
def cmp_isNaN_int.f (a0 : Int) : Option (Bool) := some (a0 != a0)
set_option maxHeartbeats 8000000 in
set_option maxRecDepth 100000 in
theorem cmp_isNaN_int.calls (a0 : Int) (r : Bool) (w : World) (h : cmp_isNaN_int.f a0 = some r) :
  Calls Try.prog 70 #[.int .i64 a0] w fun e w' => e = .returned (.bool r) ∧ Drawn0 w w' := by
 have H : (some (a0 != a0)) = some r := h
 clear h
 obtain rfl := Option.some.inj H
 go_enter Try.func70, Try.ntmps70
 go_wp2
 go_ret
 exact ⟨by first | rfl | (simp; done) | (simp [*]; done), by repeat (first | exact Drawn0.refl _ | apply Drawn0.step)⟩
def cmp_Compare_int.f (a0 : Int) (a1 : Int) : Option (Int) := (cmp_isNaN_int.f a0).bind fun t115 => ((cmp_isNaN_int.f a1).bind fun t116 => (if t115 = true then (if t116 = true then (some 0) else (some (-1))) else (if t116 = true then (some 1) else (if a0 < a1 then (some (-1)) else (if a0 > a1 then (some 1) else (some 0))))))
set_option maxHeartbeats 8000000 in
set_option maxRecDepth 100000 in
theorem cmp_Compare_int.calls (a0 : Int) (a1 : Int) (r : Int) (w : World) (h : cmp_Compare_int.f a0 a1 = some r) :
  Calls Try.prog 66 #[.int .i64 a0, .int .i64 a1] w fun e w' => e = .returned (.int .i64 r) ∧ Drawn0 w w' := by
 have H : ((cmp_isNaN_int.f a0).bind fun t115 => ((cmp_isNaN_int.f a1).bind fun t116 => (if t115 = true then (if t116 = true then (some 0) else (some (-1))) else (if t116 = true then (some 1) else (if a0 < a1 then (some (-1)) else (if a0 > a1 then (some 1) else (some 0))))))) = some r := h
 clear h
 replace H := Option.bind_eq_some_iff.mp H
 obtain ⟨t115, A30, H⟩ := H
 replace H : ((cmp_isNaN_int.f a1).bind fun t116 => (if t115 = true then (if t116 = true then (some 0) else (some (-1))) else (if t116 = true then (some 1) else (if a0 < a1 then (some (-1)) else (if a0 > a1 then (some 1) else (some 0)))))) = some r := H
 have A3 := Aside0.mk A30
 clear A30
 replace H := Option.bind_eq_some_iff.mp H
 obtain ⟨t116, A40, H⟩ := H
 replace H : (if t115 = true then (if t116 = true then (some 0) else (some (-1))) else (if t116 = true then (some 1) else (if a0 < a1 then (some (-1)) else (if a0 > a1 then (some 1) else (some 0))))) = some r := H
 have A4 := Aside0.mk A40
 clear A40
 by_cases c5 : t115 = true
 ·subst c5
  have H1 : (if t116 = true then (some 0) else (some (-1))) = some r := by rw [if_pos rfl] at H; exact H
  clear H
  have H := H1
  clear H1
  by_cases c6 : t116 = true
  ·subst c6
   have H1 : (some 0) = some r := by rw [if_pos rfl] at H; exact H
   clear H
   have H := H1
   clear H1
   obtain rfl := Option.some.inj H
   go_enter Try.func66, Try.ntmps66
   go_wp2_with (first | ((with_reducible refine gate_callee (f := 70) rfl ?_); refine goesL_ (some 8) rfl rfl Try.func70 (by kernel_rfl) rfl #[.int .i64 a0] rfl (by (try simp only [List.map_toArray, List.map_cons, List.map_nil]); first | done | rfl | (simp only [List.length_drop, List.length_take]; rfl)) ?_; (with_reducible refine (cmp_isNaN_int.calls a0 true _ A3.out).mono ?_); rintro e w' ⟨rfl, ⟨nd, rfl⟩⟩; refine ⟨_, rfl, ?_⟩) | ((with_reducible refine gate_callee (f := 70) rfl ?_); refine goesL_ (some 10) rfl rfl Try.func70 (by kernel_rfl) rfl #[.int .i64 a1] rfl (by (try simp only [List.map_toArray, List.map_cons, List.map_nil]); first | done | rfl | (simp only [List.length_drop, List.length_take]; rfl)) ?_; (with_reducible refine (cmp_isNaN_int.calls a1 true _ A4.out).mono ?_); rintro e w' ⟨rfl, ⟨nd, rfl⟩⟩; refine ⟨_, rfl, ?_⟩))
   go_ret
   exact ⟨by first | rfl | (simp; done) | (simp [*]; done), by repeat (first | exact Drawn0.refl _ | apply Drawn0.step)⟩
  ·replace c6 := Bool.eq_false_iff.mpr c6
   subst c6
   have H1 : (some (-1)) = some r := by rw [if_neg (show ¬ (false = true) by decide)] at H; exact H
   clear H
   have H := H1
   clear H1
   obtain rfl := Option.some.inj H
   go_enter Try.func66, Try.ntmps66
   go_wp2_with (first | ((with_reducible refine gate_callee (f := 70) rfl ?_); refine goesL_ (some 8) rfl rfl Try.func70 (by kernel_rfl) rfl #[.int .i64 a0] rfl (by (try simp only [List.map_toArray, List.map_cons, List.map_nil]); first | done | rfl | (simp only [List.length_drop, List.length_take]; rfl)) ?_; (with_reducible refine (cmp_isNaN_int.calls a0 true _ A3.out).mono ?_); rintro e w' ⟨rfl, ⟨nd, rfl⟩⟩; refine ⟨_, rfl, ?_⟩) | ((with_reducible refine gate_callee (f := 70) rfl ?_); refine goesL_ (some 10) rfl rfl Try.func70 (by kernel_rfl) rfl #[.int .i64 a1] rfl (by (try simp only [List.map_toArray, List.map_cons, List.map_nil]); first | done | rfl | (simp only [List.length_drop, List.length_take]; rfl)) ?_; (with_reducible refine (cmp_isNaN_int.calls a1 false _ A4.out).mono ?_); rintro e w' ⟨rfl, ⟨nd, rfl⟩⟩; refine ⟨_, rfl, ?_⟩))
   go_ret
   exact ⟨by first | rfl | (simp; done) | (simp [*]; done), by repeat (first | exact Drawn0.refl _ | apply Drawn0.step)⟩
 ·replace c5 := Bool.eq_false_iff.mpr c5
  subst c5
  have H1 : (if t116 = true then (some 1) else (if a0 < a1 then (some (-1)) else (if a0 > a1 then (some 1) else (some 0)))) = some r := by rw [if_neg (show ¬ (false = true) by decide)] at H; exact H
  clear H
  have H := H1
  clear H1
  by_cases c7 : t116 = true
  ·subst c7
   have H1 : (some 1) = some r := by rw [if_pos rfl] at H; exact H
   clear H
   have H := H1
   clear H1
   obtain rfl := Option.some.inj H
   go_enter Try.func66, Try.ntmps66
   go_wp2_with (first | ((with_reducible refine gate_callee (f := 70) rfl ?_); refine goesL_ (some 8) rfl rfl Try.func70 (by kernel_rfl) rfl #[.int .i64 a0] rfl (by (try simp only [List.map_toArray, List.map_cons, List.map_nil]); first | done | rfl | (simp only [List.length_drop, List.length_take]; rfl)) ?_; (with_reducible refine (cmp_isNaN_int.calls a0 false _ A3.out).mono ?_); rintro e w' ⟨rfl, ⟨nd, rfl⟩⟩; refine ⟨_, rfl, ?_⟩) | ((with_reducible refine gate_callee (f := 70) rfl ?_); refine goesL_ (some 10) rfl rfl Try.func70 (by kernel_rfl) rfl #[.int .i64 a1] rfl (by (try simp only [List.map_toArray, List.map_cons, List.map_nil]); first | done | rfl | (simp only [List.length_drop, List.length_take]; rfl)) ?_; (with_reducible refine (cmp_isNaN_int.calls a1 true _ A4.out).mono ?_); rintro e w' ⟨rfl, ⟨nd, rfl⟩⟩; refine ⟨_, rfl, ?_⟩))
   go_ret
   exact ⟨by first | rfl | (simp; done) | (simp [*]; done), by repeat (first | exact Drawn0.refl _ | apply Drawn0.step)⟩
  ·replace c7 := Bool.eq_false_iff.mpr c7
   subst c7
   have H1 : (if a0 < a1 then (some (-1)) else (if a0 > a1 then (some 1) else (some 0))) = some r := by rw [if_neg (show ¬ (false = true) by decide)] at H; exact H
   clear H
   have H := H1
   clear H1
   by_cases c8 : a0 < a1
   ·rw [if_pos c8] at H
    have c8b0 : decide (a0 < a1) = true := decide_eq_true c8
    clear c8
    obtain rfl := Option.some.inj H
    go_enter Try.func66, Try.ntmps66
    go_wp2_with (first | ((with_reducible refine gate_callee (f := 70) rfl ?_); refine goesL_ (some 8) rfl rfl Try.func70 (by kernel_rfl) rfl #[.int .i64 a0] rfl (by (try simp only [List.map_toArray, List.map_cons, List.map_nil]); first | done | rfl | (simp only [List.length_drop, List.length_take]; rfl)) ?_; (with_reducible refine (cmp_isNaN_int.calls a0 false _ A3.out).mono ?_); rintro e w' ⟨rfl, ⟨nd, rfl⟩⟩; refine ⟨_, rfl, ?_⟩) | ((with_reducible refine gate_callee (f := 70) rfl ?_); refine goesL_ (some 10) rfl rfl Try.func70 (by kernel_rfl) rfl #[.int .i64 a1] rfl (by (try simp only [List.map_toArray, List.map_cons, List.map_nil]); first | done | rfl | (simp only [List.length_drop, List.length_take]; rfl)) ?_; (with_reducible refine (cmp_isNaN_int.calls a1 false _ A4.out).mono ?_); rintro e w' ⟨rfl, ⟨nd, rfl⟩⟩; refine ⟨_, rfl, ?_⟩))
    go_ret
    exact ⟨by first | rfl | (simp; done) | (simp [*]; done), by repeat (first | exact Drawn0.refl _ | apply Drawn0.step)⟩
   ·rw [if_neg c8] at H
    have c8b0 : decide (a0 < a1) = false := decide_eq_false c8
    clear c8
    by_cases c9 : a0 > a1
    ·rw [if_pos c9] at H
     have c9b0 : decide (a1 < a0) = true := decide_eq_true c9
     clear c9
     obtain rfl := Option.some.inj H
     go_enter Try.func66, Try.ntmps66
     go_wp2_with (first | ((with_reducible refine gate_callee (f := 70) rfl ?_); refine goesL_ (some 8) rfl rfl Try.func70 (by kernel_rfl) rfl #[.int .i64 a0] rfl (by (try simp only [List.map_toArray, List.map_cons, List.map_nil]); first | done | rfl | (simp only [List.length_drop, List.length_take]; rfl)) ?_; (with_reducible refine (cmp_isNaN_int.calls a0 false _ A3.out).mono ?_); rintro e w' ⟨rfl, ⟨nd, rfl⟩⟩; refine ⟨_, rfl, ?_⟩) | ((with_reducible refine gate_callee (f := 70) rfl ?_); refine goesL_ (some 10) rfl rfl Try.func70 (by kernel_rfl) rfl #[.int .i64 a1] rfl (by (try simp only [List.map_toArray, List.map_cons, List.map_nil]); first | done | rfl | (simp only [List.length_drop, List.length_take]; rfl)) ?_; (with_reducible refine (cmp_isNaN_int.calls a1 false _ A4.out).mono ?_); rintro e w' ⟨rfl, ⟨nd, rfl⟩⟩; refine ⟨_, rfl, ?_⟩))
     go_ret
     exact ⟨by first | rfl | (simp; done) | (simp [*]; done), by repeat (first | exact Drawn0.refl _ | apply Drawn0.step)⟩
    ·rw [if_neg c9] at H
     have c9b0 : decide (a1 < a0) = false := decide_eq_false c9
     clear c9
     obtain rfl := Option.some.inj H
     go_enter Try.func66, Try.ntmps66
     go_wp2_with (first | ((with_reducible refine gate_callee (f := 70) rfl ?_); refine goesL_ (some 8) rfl rfl Try.func70 (by kernel_rfl) rfl #[.int .i64 a0] rfl (by (try simp only [List.map_toArray, List.map_cons, List.map_nil]); first | done | rfl | (simp only [List.length_drop, List.length_take]; rfl)) ?_; (with_reducible refine (cmp_isNaN_int.calls a0 false _ A3.out).mono ?_); rintro e w' ⟨rfl, ⟨nd, rfl⟩⟩; refine ⟨_, rfl, ?_⟩) | ((with_reducible refine gate_callee (f := 70) rfl ?_); refine goesL_ (some 10) rfl rfl Try.func70 (by kernel_rfl) rfl #[.int .i64 a1] rfl (by (try simp only [List.map_toArray, List.map_cons, List.map_nil]); first | done | rfl | (simp only [List.length_drop, List.length_take]; rfl)) ?_; (with_reducible refine (cmp_isNaN_int.calls a1 false _ A4.out).mono ?_); rintro e w' ⟨rfl, ⟨nd, rfl⟩⟩; refine ⟨_, rfl, ?_⟩))
     go_ret
     exact ⟨by first | rfl | (simp; done) | (simp [*]; done), by repeat (first | exact Drawn0.refl _ | apply Drawn0.step)⟩
def cmp_isNaN_int64.f (a0 : Int) : Option (Bool) := some (a0 != a0)
set_option maxHeartbeats 8000000 in
set_option maxRecDepth 100000 in
theorem cmp_isNaN_int64.calls (a0 : Int) (r : Bool) (w : World) (h : cmp_isNaN_int64.f a0 = some r) :
  Calls Try.prog 71 #[.int .i64 a0] w fun e w' => e = .returned (.bool r) ∧ Drawn0 w w' := by
 have H : (some (a0 != a0)) = some r := h
 clear h
 obtain rfl := Option.some.inj H
 go_enter Try.func71, Try.ntmps71
 go_wp2
 go_ret
 exact ⟨by first | rfl | (simp; done) | (simp [*]; done), by repeat (first | exact Drawn0.refl _ | apply Drawn0.step)⟩
def cmp_Compare_int64.f (a0 : Int) (a1 : Int) : Option (Int) := (cmp_isNaN_int64.f a0).bind fun t117 => ((cmp_isNaN_int64.f a1).bind fun t118 => (if t117 = true then (if t118 = true then (some 0) else (some (-1))) else (if t118 = true then (some 1) else (if a0 < a1 then (some (-1)) else (if a0 > a1 then (some 1) else (some 0))))))
set_option maxHeartbeats 8000000 in
set_option maxRecDepth 100000 in
theorem cmp_Compare_int64.calls (a0 : Int) (a1 : Int) (r : Int) (w : World) (h : cmp_Compare_int64.f a0 a1 = some r) :
  Calls Try.prog 67 #[.int .i64 a0, .int .i64 a1] w fun e w' => e = .returned (.int .i64 r) ∧ Drawn0 w w' := by
 have H : ((cmp_isNaN_int64.f a0).bind fun t117 => ((cmp_isNaN_int64.f a1).bind fun t118 => (if t117 = true then (if t118 = true then (some 0) else (some (-1))) else (if t118 = true then (some 1) else (if a0 < a1 then (some (-1)) else (if a0 > a1 then (some 1) else (some 0))))))) = some r := h
 clear h
 replace H := Option.bind_eq_some_iff.mp H
 obtain ⟨t117, A30, H⟩ := H
 replace H : ((cmp_isNaN_int64.f a1).bind fun t118 => (if t117 = true then (if t118 = true then (some 0) else (some (-1))) else (if t118 = true then (some 1) else (if a0 < a1 then (some (-1)) else (if a0 > a1 then (some 1) else (some 0)))))) = some r := H
 have A3 := Aside0.mk A30
 clear A30
 replace H := Option.bind_eq_some_iff.mp H
 obtain ⟨t118, A40, H⟩ := H
 replace H : (if t117 = true then (if t118 = true then (some 0) else (some (-1))) else (if t118 = true then (some 1) else (if a0 < a1 then (some (-1)) else (if a0 > a1 then (some 1) else (some 0))))) = some r := H
 have A4 := Aside0.mk A40
 clear A40
 by_cases c5 : t117 = true
 ·subst c5
  have H1 : (if t118 = true then (some 0) else (some (-1))) = some r := by rw [if_pos rfl] at H; exact H
  clear H
  have H := H1
  clear H1
  by_cases c6 : t118 = true
  ·subst c6
   have H1 : (some 0) = some r := by rw [if_pos rfl] at H; exact H
   clear H
   have H := H1
   clear H1
   obtain rfl := Option.some.inj H
   go_enter Try.func67, Try.ntmps67
   go_wp2_with (first | ((with_reducible refine gate_callee (f := 71) rfl ?_); refine goesL_ (some 8) rfl rfl Try.func71 (by kernel_rfl) rfl #[.int .i64 a0] rfl (by (try simp only [List.map_toArray, List.map_cons, List.map_nil]); first | done | rfl | (simp only [List.length_drop, List.length_take]; rfl)) ?_; (with_reducible refine (cmp_isNaN_int64.calls a0 true _ A3.out).mono ?_); rintro e w' ⟨rfl, ⟨nd, rfl⟩⟩; refine ⟨_, rfl, ?_⟩) | ((with_reducible refine gate_callee (f := 71) rfl ?_); refine goesL_ (some 10) rfl rfl Try.func71 (by kernel_rfl) rfl #[.int .i64 a1] rfl (by (try simp only [List.map_toArray, List.map_cons, List.map_nil]); first | done | rfl | (simp only [List.length_drop, List.length_take]; rfl)) ?_; (with_reducible refine (cmp_isNaN_int64.calls a1 true _ A4.out).mono ?_); rintro e w' ⟨rfl, ⟨nd, rfl⟩⟩; refine ⟨_, rfl, ?_⟩))
   go_ret
   exact ⟨by first | rfl | (simp; done) | (simp [*]; done), by repeat (first | exact Drawn0.refl _ | apply Drawn0.step)⟩
  ·replace c6 := Bool.eq_false_iff.mpr c6
   subst c6
   have H1 : (some (-1)) = some r := by rw [if_neg (show ¬ (false = true) by decide)] at H; exact H
   clear H
   have H := H1
   clear H1
   obtain rfl := Option.some.inj H
   go_enter Try.func67, Try.ntmps67
   go_wp2_with (first | ((with_reducible refine gate_callee (f := 71) rfl ?_); refine goesL_ (some 8) rfl rfl Try.func71 (by kernel_rfl) rfl #[.int .i64 a0] rfl (by (try simp only [List.map_toArray, List.map_cons, List.map_nil]); first | done | rfl | (simp only [List.length_drop, List.length_take]; rfl)) ?_; (with_reducible refine (cmp_isNaN_int64.calls a0 true _ A3.out).mono ?_); rintro e w' ⟨rfl, ⟨nd, rfl⟩⟩; refine ⟨_, rfl, ?_⟩) | ((with_reducible refine gate_callee (f := 71) rfl ?_); refine goesL_ (some 10) rfl rfl Try.func71 (by kernel_rfl) rfl #[.int .i64 a1] rfl (by (try simp only [List.map_toArray, List.map_cons, List.map_nil]); first | done | rfl | (simp only [List.length_drop, List.length_take]; rfl)) ?_; (with_reducible refine (cmp_isNaN_int64.calls a1 false _ A4.out).mono ?_); rintro e w' ⟨rfl, ⟨nd, rfl⟩⟩; refine ⟨_, rfl, ?_⟩))
   go_ret
   exact ⟨by first | rfl | (simp; done) | (simp [*]; done), by repeat (first | exact Drawn0.refl _ | apply Drawn0.step)⟩
 ·replace c5 := Bool.eq_false_iff.mpr c5
  subst c5
  have H1 : (if t118 = true then (some 1) else (if a0 < a1 then (some (-1)) else (if a0 > a1 then (some 1) else (some 0)))) = some r := by rw [if_neg (show ¬ (false = true) by decide)] at H; exact H
  clear H
  have H := H1
  clear H1
  by_cases c7 : t118 = true
  ·subst c7
   have H1 : (some 1) = some r := by rw [if_pos rfl] at H; exact H
   clear H
   have H := H1
   clear H1
   obtain rfl := Option.some.inj H
   go_enter Try.func67, Try.ntmps67
   go_wp2_with (first | ((with_reducible refine gate_callee (f := 71) rfl ?_); refine goesL_ (some 8) rfl rfl Try.func71 (by kernel_rfl) rfl #[.int .i64 a0] rfl (by (try simp only [List.map_toArray, List.map_cons, List.map_nil]); first | done | rfl | (simp only [List.length_drop, List.length_take]; rfl)) ?_; (with_reducible refine (cmp_isNaN_int64.calls a0 false _ A3.out).mono ?_); rintro e w' ⟨rfl, ⟨nd, rfl⟩⟩; refine ⟨_, rfl, ?_⟩) | ((with_reducible refine gate_callee (f := 71) rfl ?_); refine goesL_ (some 10) rfl rfl Try.func71 (by kernel_rfl) rfl #[.int .i64 a1] rfl (by (try simp only [List.map_toArray, List.map_cons, List.map_nil]); first | done | rfl | (simp only [List.length_drop, List.length_take]; rfl)) ?_; (with_reducible refine (cmp_isNaN_int64.calls a1 true _ A4.out).mono ?_); rintro e w' ⟨rfl, ⟨nd, rfl⟩⟩; refine ⟨_, rfl, ?_⟩))
   go_ret
   exact ⟨by first | rfl | (simp; done) | (simp [*]; done), by repeat (first | exact Drawn0.refl _ | apply Drawn0.step)⟩
  ·replace c7 := Bool.eq_false_iff.mpr c7
   subst c7
   have H1 : (if a0 < a1 then (some (-1)) else (if a0 > a1 then (some 1) else (some 0))) = some r := by rw [if_neg (show ¬ (false = true) by decide)] at H; exact H
   clear H
   have H := H1
   clear H1
   by_cases c8 : a0 < a1
   ·rw [if_pos c8] at H
    have c8b0 : decide (a0 < a1) = true := decide_eq_true c8
    clear c8
    obtain rfl := Option.some.inj H
    go_enter Try.func67, Try.ntmps67
    go_wp2_with (first | ((with_reducible refine gate_callee (f := 71) rfl ?_); refine goesL_ (some 8) rfl rfl Try.func71 (by kernel_rfl) rfl #[.int .i64 a0] rfl (by (try simp only [List.map_toArray, List.map_cons, List.map_nil]); first | done | rfl | (simp only [List.length_drop, List.length_take]; rfl)) ?_; (with_reducible refine (cmp_isNaN_int64.calls a0 false _ A3.out).mono ?_); rintro e w' ⟨rfl, ⟨nd, rfl⟩⟩; refine ⟨_, rfl, ?_⟩) | ((with_reducible refine gate_callee (f := 71) rfl ?_); refine goesL_ (some 10) rfl rfl Try.func71 (by kernel_rfl) rfl #[.int .i64 a1] rfl (by (try simp only [List.map_toArray, List.map_cons, List.map_nil]); first | done | rfl | (simp only [List.length_drop, List.length_take]; rfl)) ?_; (with_reducible refine (cmp_isNaN_int64.calls a1 false _ A4.out).mono ?_); rintro e w' ⟨rfl, ⟨nd, rfl⟩⟩; refine ⟨_, rfl, ?_⟩))
    go_ret
    exact ⟨by first | rfl | (simp; done) | (simp [*]; done), by repeat (first | exact Drawn0.refl _ | apply Drawn0.step)⟩
   ·rw [if_neg c8] at H
    have c8b0 : decide (a0 < a1) = false := decide_eq_false c8
    clear c8
    by_cases c9 : a0 > a1
    ·rw [if_pos c9] at H
     have c9b0 : decide (a1 < a0) = true := decide_eq_true c9
     clear c9
     obtain rfl := Option.some.inj H
     go_enter Try.func67, Try.ntmps67
     go_wp2_with (first | ((with_reducible refine gate_callee (f := 71) rfl ?_); refine goesL_ (some 8) rfl rfl Try.func71 (by kernel_rfl) rfl #[.int .i64 a0] rfl (by (try simp only [List.map_toArray, List.map_cons, List.map_nil]); first | done | rfl | (simp only [List.length_drop, List.length_take]; rfl)) ?_; (with_reducible refine (cmp_isNaN_int64.calls a0 false _ A3.out).mono ?_); rintro e w' ⟨rfl, ⟨nd, rfl⟩⟩; refine ⟨_, rfl, ?_⟩) | ((with_reducible refine gate_callee (f := 71) rfl ?_); refine goesL_ (some 10) rfl rfl Try.func71 (by kernel_rfl) rfl #[.int .i64 a1] rfl (by (try simp only [List.map_toArray, List.map_cons, List.map_nil]); first | done | rfl | (simp only [List.length_drop, List.length_take]; rfl)) ?_; (with_reducible refine (cmp_isNaN_int64.calls a1 false _ A4.out).mono ?_); rintro e w' ⟨rfl, ⟨nd, rfl⟩⟩; refine ⟨_, rfl, ?_⟩))
     go_ret
     exact ⟨by first | rfl | (simp; done) | (simp [*]; done), by repeat (first | exact Drawn0.refl _ | apply Drawn0.step)⟩
    ·rw [if_neg c9] at H
     have c9b0 : decide (a1 < a0) = false := decide_eq_false c9
     clear c9
     obtain rfl := Option.some.inj H
     go_enter Try.func67, Try.ntmps67
     go_wp2_with (first | ((with_reducible refine gate_callee (f := 71) rfl ?_); refine goesL_ (some 8) rfl rfl Try.func71 (by kernel_rfl) rfl #[.int .i64 a0] rfl (by (try simp only [List.map_toArray, List.map_cons, List.map_nil]); first | done | rfl | (simp only [List.length_drop, List.length_take]; rfl)) ?_; (with_reducible refine (cmp_isNaN_int64.calls a0 false _ A3.out).mono ?_); rintro e w' ⟨rfl, ⟨nd, rfl⟩⟩; refine ⟨_, rfl, ?_⟩) | ((with_reducible refine gate_callee (f := 71) rfl ?_); refine goesL_ (some 10) rfl rfl Try.func71 (by kernel_rfl) rfl #[.int .i64 a1] rfl (by (try simp only [List.map_toArray, List.map_cons, List.map_nil]); first | done | rfl | (simp only [List.length_drop, List.length_take]; rfl)) ?_; (with_reducible refine (cmp_isNaN_int64.calls a1 false _ A4.out).mono ?_); rintro e w' ⟨rfl, ⟨nd, rfl⟩⟩; refine ⟨_, rfl, ?_⟩))
     go_ret
     exact ⟨by first | rfl | (simp; done) | (simp [*]; done), by repeat (first | exact Drawn0.refl _ | apply Drawn0.step)⟩
def strings_Compare.f (a0 : ByteArray) (a1 : ByteArray) : Option (Int) := some (Lib.compareBytes a0.data.toList a1.data.toList)
set_option maxHeartbeats 1000000 in
set_option maxRecDepth 100000 in
theorem bytealg_CompareString.calls (a b : ByteArray) (w : World) :
  Calls Try.prog 72 #[.string a, .string b] w fun e w' => e = .returned (.int .i64 (Lib.compareBytes a.data.toList b.data.toList)) ∧ w' = w := by
 go_enter Try.func72, Try.ntmps72
 go_wp2
 rw [run_callFunc_extern Try.func75 (by kernel_rfl) (by kernel_rfl) (by kernel_rfl) (e := Extern.BytealgCompare.compare) (by kernel_rfl), Lib.run_compareString]
 simp only [Result.andThen]
 rw [Oper.upon_value]
 go_wp2
 go_ret
 exact ⟨rfl, rfl⟩
set_option maxHeartbeats 1000000 in
theorem strings_Compare.calls (a0 : ByteArray) (a1 : ByteArray) (r : Int) (w : World) (h : strings_Compare.f a0 a1 = some r) :
  Calls Try.prog 68 #[.string a0, .string a1] w fun e w' => e = .returned (.int .i64 r) ∧ Drawn0 w w' := by
 obtain rfl : Lib.compareBytes a0.data.toList a1.data.toList = r := Option.some.inj h
 clear h
 go_enter Try.func68, Try.ntmps68
 go_wp2_with (go_at_call 72; refine (bytealg_CompareString.calls _ _ _).mono ?_; rintro e w' ⟨rfl, rfl⟩)
 go_ret
 exact ⟨rfl, Drawn0.refl _⟩
def value_Compare.j0 : Nat → Int → Bool → Int → Int → ByteArray → Int → Int → ByteArray → Option (Int)
 | 0, _, _, _, _, _, _, _, _ => none
 | k + 1, x16, x17, x120000, x120001, x120002, x121000, x121001, x121002 => if x17 = true then ((cmp_Compare_int64.f x120001 x121001).bind fun t122 => (some t122)) else (if x16 = 3 then ((strings_Compare.f x120002 x121002).bind fun t123 => (some t123)) else (if x16 = 4 then ((strings_Compare.f x120002 x121002).bind fun t124 => (some t124)) else (some 0)))
def value_Compare.f (k : Nat) (a0_0 : Int) (a0_1 : Int) (a0_2 : ByteArray) (a1_0 : Int) (a1_1 : Int) (a1_2 : ByteArray) : Option (Int) := if a0_0 = a1_0 then (if a0_0 = 1 then (value_Compare.j0 k a0_0 (a0_0 == 1) a0_0 a0_1 a0_2 a1_0 a1_1 a1_2) else (value_Compare.j0 k a0_0 (a0_0 == 2) a0_0 a0_1 a0_2 a1_0 a1_1 a1_2)) else ((cmp_Compare_int.f a0_0 a1_0).bind fun t121 => (some t121))
set_option maxHeartbeats 8000000 in
set_option maxRecDepth 100000 in
theorem value_Compare.calls (k : Nat) (a0_0 : Int) (a0_1 : Int) (a0_2 : ByteArray) (a1_0 : Int) (a1_1 : Int) (a1_2 : ByteArray) (r : Int) (w : World) (h : value_Compare.f k a0_0 a0_1 a0_2 a1_0 a1_1 a1_2 = some r) :
  Calls Try.prog 60 #[.agg #[.int .i64 a0_0, .int .i64 a0_1, .string a0_2], .agg #[.int .i64 a1_0, .int .i64 a1_1, .string a1_2]] w fun e w' => e = .returned (.int .i64 r) ∧ Below w.heap.size w w' := by
 have hu32 := Try.underlying32
 have HB := Aside0.mk (Below.refl w.heap.size w)
 have H : (if a0_0 = a1_0 then (if a0_0 = 1 then (value_Compare.j0 k a0_0 (a0_0 == 1) a0_0 a0_1 a0_2 a1_0 a1_1 a1_2) else (value_Compare.j0 k a0_0 (a0_0 == 2) a0_0 a0_1 a0_2 a1_0 a1_1 a1_2)) else ((cmp_Compare_int.f a0_0 a1_0).bind fun t121 => (some t121))) = some r := h
 clear h
 by_cases c3 : a0_0 = a1_0
 ·rw [if_pos c3] at H
  have c3b0 : (a0_0 == a1_0) = true := beq_iff_eq.mpr c3
  have c3b1 : (a0_0 != a1_0) = false := bne_eq_false_iff_eq.mpr c3
  clear c3
  have HC4 := Aside0.mk H
  clear H
  go_enter Try.func60, Try.ntmps60
  go_upto_if 17 with (first | ((with_reducible refine gate_dst (N := 2) rfl ?_); refine box_event ?hg (N := 2) ?hd (cs := #[.int .i64 a0_0, .int .i64 a0_1, .string a0_2]) (t := 32) ?hr ?_; (case hd => rfl); (case hg => rfl); (case hr => first | (go_simp; done) | (go_simp; rfl)); intro gb119 hg w5 hbox hb; have n0_ := Aside0.mk (below_step (by repeat (first | (with_reducible first | exact HB.out | apply below_alloc | apply pw_below_drewN | apply below_drew1) | exact HB.out)) hb); have n1_ := Aside0.mk (hbox); have n2_ := Aside0.mk ((by rw [hg]; exact (below_size (by repeat (first | (with_reducible first | exact HB.out | apply below_alloc | apply pw_below_drewN | apply below_drew1) | exact HB.out))) : w.heap.size ≤ gb119)); have n3_ := Aside0.mk ((by rw [hg]; exact (below_size (by repeat (first | (with_reducible first | exact HB.out | apply below_alloc | apply pw_below_drewN | apply below_drew1) | exact HB.out))) : w.heap.size ≤ gb119)); clear HB; have HB := n0_; have BK119 := n1_; have GW119 := n2_; have GE119 := n3_; clear n0_ n1_ n2_ n3_; clear hb hbox hg) | ((with_reducible refine gate_dst (N := 3) rfl ?_); refine box_event ?hg (N := 3) ?hd (cs := #[.int .i64 a1_0, .int .i64 a1_1, .string a1_2]) (t := 32) ?hr ?_; (case hd => rfl); (case hg => rfl); (case hr => first | (go_simp; done) | (go_simp; rfl)); intro gb120 hg w6 hbox hb; have n0_ := Aside0.mk (blk_below (g := gb119) (o := .cells #[.int .i64 a0_0, .int .i64 a0_1, .string a0_2] 32 (0, 0)) (bk_ BK119) hb); have n1_ := Aside0.mk (below_step (by repeat (first | (with_reducible first | exact HB.out | apply below_alloc | apply pw_below_drewN | apply below_drew1 | refine below_set ?_ GE119.out) | exact HB.out)) hb); have n2_ := Aside0.mk (hbox); have n3_ := Aside0.mk ((by rw [hg]; exact (below_size (by repeat (first | (with_reducible first | exact HB.out | apply below_alloc | apply pw_below_drewN | apply below_drew1 | refine below_set ?_ GE119.out) | exact HB.out))) : w.heap.size ≤ gb120)); have n4_ := Aside0.mk ((by rw [hg]; exact (below_size (by repeat (first | (with_reducible first | exact HB.out | apply below_alloc | apply pw_below_drewN | apply below_drew1 | refine below_set ?_ GE119.out) | exact HB.out))) : w.heap.size ≤ gb120)); have n5_ := Aside0.mk ((by rw [hg]; exact Nat.ne_of_lt (blk_lt (g := gb119) (o := .cells #[.int .i64 a0_0, .int .i64 a0_1, .string a0_2] 32 (0, 0)) (bk_ BK119)) : gb119 ≠ gb120)); have n6_ := Aside0.mk ((by rw [hg]; exact Nat.ne_of_gt (blk_lt (g := gb119) (o := .cells #[.int .i64 a0_0, .int .i64 a0_1, .string a0_2] 32 (0, 0)) (bk_ BK119)) : gb120 ≠ gb119)); clear BK119; clear HB; have BK119 := n0_; have HB := n1_; have BK120 := n2_; have GW120 := n3_; have GE120 := n4_; have NB119_120 := n5_; have NB120_119 := n6_; clear n0_ n1_ n2_ n3_ n4_ n5_ n6_; clear hb hbox hg; have hnb7 := NB119_120.out; have hnc7 := NB120_119.out; have hcz8_0 : w6.cell? ⟨gb119, 0, none⟩ = some (.int .i64 a0_0) := (blk_cell BK119.out 0).trans rfl; have hcz8_1 : w6.cell? ⟨gb119, 1, none⟩ = some (.int .i64 a0_1) := (blk_cell BK119.out 1).trans rfl; have hcz8_2 : w6.cell? ⟨gb119, 2, none⟩ = some (.string a0_2) := (blk_cell BK119.out 2).trans rfl; have hfz8_0 := blk_frozen BK119.out 0; have hfz8_1 := blk_frozen BK119.out 1; have hfz8_2 := blk_frozen BK119.out 2; have hcz9_0 : w6.cell? ⟨gb120, 0, none⟩ = some (.int .i64 a1_0) := (blk_cell BK120.out 0).trans rfl; have hcz9_1 : w6.cell? ⟨gb120, 1, none⟩ = some (.int .i64 a1_1) := (blk_cell BK120.out 1).trans rfl; have hcz9_2 : w6.cell? ⟨gb120, 2, none⟩ = some (.string a1_2) := (blk_cell BK120.out 2).trans rfl; have hfz9_0 := blk_frozen BK120.out 0; have hfz9_1 := blk_frozen BK120.out 1; have hfz9_2 := blk_frozen BK120.out 2))
  (try simp only [Act.put, List.setIfInBounds_toArray, List.set_cons_zero, List.set_cons_succ])
  go_cut [17] (fun v17 wc => ∃ (kq : Nat) (x17_3 : Bool), v17 = .bool x17_3 ∧ Aside0 (value_Compare.j0 kq a0_0 x17_3 a0_0 a0_1 a0_2 a1_0 a1_1 a1_2 = some r) ∧ Aside0 (kq ≤ k) ∧ Aside0 (wc.heap[gb119]? = some (.cells #[.int .i64 a0_0, .int .i64 a0_1, .string a0_2] 32 (0, 0))) ∧ Aside0 (wc.heap[gb120]? = some (.cells #[.int .i64 a1_0, .int .i64 a1_1, .string a1_2] 32 (0, 0))) ∧ Aside0 (Below w.heap.size w wc))
  case first =>
   have H := HC4.out
   clear HC4
   by_cases c10 : a0_0 = 1
   ·rw [if_pos c10] at H
    have c10b0 : (a0_0 == 1) = true := beq_iff_eq.mpr c10
    have c10b1 : (a0_0 != 1) = false := bne_eq_false_iff_eq.mpr c10
    clear c10
    (first | rw [c10b0] | (simp only [i64_w, i32_w]; rw [c10b0]) | skip)
    have H' := Aside0.mk H
    clear H
    go_wp2
    go_meet
    case rel => exact ⟨_, ((a0_0 == 1)), (by first | rfl | (simp; done) | (simp [*]; done)), H', ⟨by first | omega | exact Nat.le_refl _⟩, ⟨by (with_reducible repeat (first | refine blk_drewN ?_ _ | refine blk_drew ?_ | refine blk_alloc ?_ _)); exact BK119.out⟩, ⟨by (with_reducible repeat (first | refine blk_drewN ?_ _ | refine blk_drew ?_ | refine blk_alloc ?_ _)); exact BK120.out⟩, ⟨by repeat (first | (with_reducible first | exact HB.out | apply below_alloc | apply pw_below_drewN | apply below_drew1 | refine below_set ?_ GE119.out | refine below_set ?_ GE120.out) | exact HB.out)⟩⟩
   ·rw [if_neg c10] at H
    have c10b0 : (a0_0 == 1) = false := beq_eq_false_iff_ne.mpr c10
    have c10b1 : (a0_0 != 1) = true := bne_iff_ne.mpr c10
    (first | rw [c10b0] | (simp only [i64_w, i32_w]; rw [c10b0]) | skip)
    have H' := Aside0.mk H
    clear H
    go_wp2
    go_meet
    case rel => exact ⟨_, ((a0_0 == 2)), (by first | rfl | (simp; done) | (simp [*]; done)), H', ⟨by first | omega | exact Nat.le_refl _⟩, ⟨by (with_reducible repeat (first | refine blk_drewN ?_ _ | refine blk_drew ?_ | refine blk_alloc ?_ _)); exact BK119.out⟩, ⟨by (with_reducible repeat (first | refine blk_drewN ?_ _ | refine blk_drew ?_ | refine blk_alloc ?_ _)); exact BK120.out⟩, ⟨by repeat (first | (with_reducible first | exact HB.out | apply below_alloc | apply pw_below_drewN | apply below_drew1 | refine below_set ?_ GE119.out | refine below_set ?_ GE120.out) | exact HB.out)⟩⟩
  case rest =>
   clear HC4
   try clear c1
   try clear p2
   try clear c3
   try clear c3b0
   try clear c3b1
   try clear c6
   try clear c7
   try clear c10
   try clear c10b0
   try clear c10b1
   try clear hcz8_0
   try clear hcz8_1
   try clear hcz8_2
   try clear hcz9_0
   try clear hcz9_1
   try clear hcz9_2
   try clear hfz8_0
   try clear hfz8_1
   try clear hfz8_2
   try clear hfz9_0
   try clear hfz9_1
   try clear hfz9_2
   obtain ⟨kq, x17_3, rfl, HA, HJ3, BK119, BK120, HB⟩ := hcut
   cases kq with
   | zero => exact absurd HA.out (by simp [value_Compare.j0])
   | succ kj3 =>
    have H := HA.out
    clear HA
    simp only [value_Compare.j0] at H
    by_cases c11 : x17_3 = true
    ·subst c11
     have H1 : ((cmp_Compare_int64.f a0_1 a1_1).bind fun t122 => (some t122)) = some r := by rw [if_pos rfl] at H; exact H
     clear H
     have H := H1
     clear H1
     replace H := Option.bind_eq_some_iff.mp H
     obtain ⟨t122, A120, H⟩ := H
     replace H : (some t122) = some r := H
     have A12 := Aside0.mk A120
     clear A120
     obtain rfl := Option.some.inj H
     have hnb13 := NB119_120.out
     have hnc13 := NB120_119.out
     have hcz14_0 : wc.cell? ⟨gb119, 0, none⟩ = some (.int .i64 a0_0) := (blk_cell BK119.out 0).trans rfl
     have hcz14_1 : wc.cell? ⟨gb119, 1, none⟩ = some (.int .i64 a0_1) := (blk_cell BK119.out 1).trans rfl
     have hcz14_2 : wc.cell? ⟨gb119, 2, none⟩ = some (.string a0_2) := (blk_cell BK119.out 2).trans rfl
     have hfz14_0 := blk_frozen BK119.out 0
     have hfz14_1 := blk_frozen BK119.out 1
     have hfz14_2 := blk_frozen BK119.out 2
     have hcz15_0 : wc.cell? ⟨gb120, 0, none⟩ = some (.int .i64 a1_0) := (blk_cell BK120.out 0).trans rfl
     have hcz15_1 : wc.cell? ⟨gb120, 1, none⟩ = some (.int .i64 a1_1) := (blk_cell BK120.out 1).trans rfl
     have hcz15_2 : wc.cell? ⟨gb120, 2, none⟩ = some (.string a1_2) := (blk_cell BK120.out 2).trans rfl
     have hfz15_0 := blk_frozen BK120.out 0
     have hfz15_1 := blk_frozen BK120.out 1
     have hfz15_2 := blk_frozen BK120.out 2
     go_wp2_with (first | ((with_reducible refine gate_callee (f := 67) rfl ?_); refine goesL_ (some 24) rfl rfl Try.func67 (by kernel_rfl) rfl #[.int .i64 a0_1, .int .i64 a1_1] rfl (by (try simp only [List.map_toArray, List.map_cons, List.map_nil]); first | done | rfl | (simp only [List.length_drop, List.length_take]; rfl)) ?_; (with_reducible refine (cmp_Compare_int64.calls a0_1 a1_1 t122 _ A12.out).mono ?_); rintro e w' ⟨rfl, ⟨nd, rfl⟩⟩; refine ⟨_, rfl, ?_⟩))
     go_ret
     exact ⟨by first | rfl | (simp [errW_none, errW_some] <;> rfl) | (simp [*, errW_none, errW_some] <;> rfl), by repeat (first | (with_reducible first | exact HB.out | apply below_alloc | apply pw_below_drewN | apply below_drew1 | refine below_set ?_ GE119.out | refine below_set ?_ GE120.out) | exact HB.out)⟩
    ·replace c11 := Bool.eq_false_iff.mpr c11
     subst c11
     have H1 : (if a0_0 = 3 then ((strings_Compare.f a0_2 a1_2).bind fun t123 => (some t123)) else (if a0_0 = 4 then ((strings_Compare.f a0_2 a1_2).bind fun t124 => (some t124)) else (some 0))) = some r := by rw [if_neg (show ¬ (false = true) by decide)] at H; exact H
     clear H
     have H := H1
     clear H1
     by_cases c16 : a0_0 = 3
     ·rw [if_pos c16] at H
      have c16b0 : (a0_0 == 3) = true := beq_iff_eq.mpr c16
      have c16b1 : (a0_0 != 3) = false := bne_eq_false_iff_eq.mpr c16
      clear c16
      replace H := Option.bind_eq_some_iff.mp H
      obtain ⟨t123, A170, H⟩ := H
      replace H : (some t123) = some r := H
      have A17 := Aside0.mk A170
      clear A170
      obtain rfl := Option.some.inj H
      have hnb18 := NB119_120.out
      have hnc18 := NB120_119.out
      have hcz19_0 : wc.cell? ⟨gb119, 0, none⟩ = some (.int .i64 a0_0) := (blk_cell BK119.out 0).trans rfl
      have hcz19_1 : wc.cell? ⟨gb119, 1, none⟩ = some (.int .i64 a0_1) := (blk_cell BK119.out 1).trans rfl
      have hcz19_2 : wc.cell? ⟨gb119, 2, none⟩ = some (.string a0_2) := (blk_cell BK119.out 2).trans rfl
      have hfz19_0 := blk_frozen BK119.out 0
      have hfz19_1 := blk_frozen BK119.out 1
      have hfz19_2 := blk_frozen BK119.out 2
      have hcz20_0 : wc.cell? ⟨gb120, 0, none⟩ = some (.int .i64 a1_0) := (blk_cell BK120.out 0).trans rfl
      have hcz20_1 : wc.cell? ⟨gb120, 1, none⟩ = some (.int .i64 a1_1) := (blk_cell BK120.out 1).trans rfl
      have hcz20_2 : wc.cell? ⟨gb120, 2, none⟩ = some (.string a1_2) := (blk_cell BK120.out 2).trans rfl
      have hfz20_0 := blk_frozen BK120.out 0
      have hfz20_1 := blk_frozen BK120.out 1
      have hfz20_2 := blk_frozen BK120.out 2
      go_wp2_with (first | ((with_reducible refine gate_callee (f := 68) rfl ?_); refine goesL_ (some 32) rfl rfl Try.func68 (by kernel_rfl) rfl #[.string a0_2, .string a1_2] rfl (by (try simp only [List.map_toArray, List.map_cons, List.map_nil]); first | done | rfl | (simp only [List.length_drop, List.length_take]; rfl)) ?_; (with_reducible refine (strings_Compare.calls a0_2 a1_2 t123 _ A17.out).mono ?_); rintro e w' ⟨rfl, ⟨nd, rfl⟩⟩; refine ⟨_, rfl, ?_⟩))
      go_ret
      exact ⟨by first | rfl | (simp [errW_none, errW_some] <;> rfl) | (simp [*, errW_none, errW_some] <;> rfl), by repeat (first | (with_reducible first | exact HB.out | apply below_alloc | apply pw_below_drewN | apply below_drew1 | refine below_set ?_ GE119.out | refine below_set ?_ GE120.out) | exact HB.out)⟩
     ·rw [if_neg c16] at H
      have c16b0 : (a0_0 == 3) = false := beq_eq_false_iff_ne.mpr c16
      have c16b1 : (a0_0 != 3) = true := bne_iff_ne.mpr c16
      by_cases c21 : a0_0 = 4
      ·rw [if_pos c21] at H
       have c21b0 : (a0_0 == 4) = true := beq_iff_eq.mpr c21
       have c21b1 : (a0_0 != 4) = false := bne_eq_false_iff_eq.mpr c21
       clear c21
       replace H := Option.bind_eq_some_iff.mp H
       obtain ⟨t124, A220, H⟩ := H
       replace H : (some t124) = some r := H
       have A22 := Aside0.mk A220
       clear A220
       obtain rfl := Option.some.inj H
       have hnb23 := NB119_120.out
       have hnc23 := NB120_119.out
       have hcz24_0 : wc.cell? ⟨gb119, 0, none⟩ = some (.int .i64 a0_0) := (blk_cell BK119.out 0).trans rfl
       have hcz24_1 : wc.cell? ⟨gb119, 1, none⟩ = some (.int .i64 a0_1) := (blk_cell BK119.out 1).trans rfl
       have hcz24_2 : wc.cell? ⟨gb119, 2, none⟩ = some (.string a0_2) := (blk_cell BK119.out 2).trans rfl
       have hfz24_0 := blk_frozen BK119.out 0
       have hfz24_1 := blk_frozen BK119.out 1
       have hfz24_2 := blk_frozen BK119.out 2
       have hcz25_0 : wc.cell? ⟨gb120, 0, none⟩ = some (.int .i64 a1_0) := (blk_cell BK120.out 0).trans rfl
       have hcz25_1 : wc.cell? ⟨gb120, 1, none⟩ = some (.int .i64 a1_1) := (blk_cell BK120.out 1).trans rfl
       have hcz25_2 : wc.cell? ⟨gb120, 2, none⟩ = some (.string a1_2) := (blk_cell BK120.out 2).trans rfl
       have hfz25_0 := blk_frozen BK120.out 0
       have hfz25_1 := blk_frozen BK120.out 1
       have hfz25_2 := blk_frozen BK120.out 2
       go_wp2_with (first | ((with_reducible refine gate_callee (f := 68) rfl ?_); refine goesL_ (some 32) rfl rfl Try.func68 (by kernel_rfl) rfl #[.string a0_2, .string a1_2] rfl (by (try simp only [List.map_toArray, List.map_cons, List.map_nil]); first | done | rfl | (simp only [List.length_drop, List.length_take]; rfl)) ?_; (with_reducible refine (strings_Compare.calls a0_2 a1_2 t124 _ A22.out).mono ?_); rintro e w' ⟨rfl, ⟨nd, rfl⟩⟩; refine ⟨_, rfl, ?_⟩))
       go_ret
       exact ⟨by first | rfl | (simp [errW_none, errW_some] <;> rfl) | (simp [*, errW_none, errW_some] <;> rfl), by repeat (first | (with_reducible first | exact HB.out | apply below_alloc | apply pw_below_drewN | apply below_drew1 | refine below_set ?_ GE119.out | refine below_set ?_ GE120.out) | exact HB.out)⟩
      ·rw [if_neg c21] at H
       have c21b0 : (a0_0 == 4) = false := beq_eq_false_iff_ne.mpr c21
       have c21b1 : (a0_0 != 4) = true := bne_iff_ne.mpr c21
       obtain rfl := Option.some.inj H
       go_wp2
       go_ret
       exact ⟨by first | rfl | (simp [errW_none, errW_some] <;> rfl) | (simp [*, errW_none, errW_some] <;> rfl), by repeat (first | (with_reducible first | exact HB.out | apply below_alloc | apply pw_below_drewN | apply below_drew1 | refine below_set ?_ GE119.out | refine below_set ?_ GE120.out) | exact HB.out)⟩
 ·rw [if_neg c3] at H
  have c3b0 : (a0_0 == a1_0) = false := beq_eq_false_iff_ne.mpr c3
  have c3b1 : (a0_0 != a1_0) = true := bne_iff_ne.mpr c3
  replace H := Option.bind_eq_some_iff.mp H
  obtain ⟨t121, A260, H⟩ := H
  replace H : (some t121) = some r := H
  have A26 := Aside0.mk A260
  clear A260
  obtain rfl := Option.some.inj H
  go_enter Try.func60, Try.ntmps60
  go_wp2_with (first | ((with_reducible refine gate_dst (N := 2) rfl ?_); refine box_event ?hg (N := 2) ?hd (cs := #[.int .i64 a0_0, .int .i64 a0_1, .string a0_2]) (t := 32) ?hr ?_; (case hd => rfl); (case hg => rfl); (case hr => first | (go_simp; done) | (go_simp; rfl)); intro gb119 hg w27 hbox hb; have n0_ := Aside0.mk (below_step (by repeat (first | (with_reducible first | exact HB.out | apply below_alloc | apply pw_below_drewN | apply below_drew1) | exact HB.out)) hb); have n1_ := Aside0.mk (hbox); have n2_ := Aside0.mk ((by rw [hg]; exact (below_size (by repeat (first | (with_reducible first | exact HB.out | apply below_alloc | apply pw_below_drewN | apply below_drew1) | exact HB.out))) : w.heap.size ≤ gb119)); have n3_ := Aside0.mk ((by rw [hg]; exact (below_size (by repeat (first | (with_reducible first | exact HB.out | apply below_alloc | apply pw_below_drewN | apply below_drew1) | exact HB.out))) : w.heap.size ≤ gb119)); clear HB; have HB := n0_; have BK119 := n1_; have GW119 := n2_; have GE119 := n3_; clear n0_ n1_ n2_ n3_; clear hb hbox hg) | ((with_reducible refine gate_dst (N := 3) rfl ?_); refine box_event ?hg (N := 3) ?hd (cs := #[.int .i64 a1_0, .int .i64 a1_1, .string a1_2]) (t := 32) ?hr ?_; (case hd => rfl); (case hg => rfl); (case hr => first | (go_simp; done) | (go_simp; rfl)); intro gb120 hg w28 hbox hb; have n0_ := Aside0.mk (blk_below (g := gb119) (o := .cells #[.int .i64 a0_0, .int .i64 a0_1, .string a0_2] 32 (0, 0)) (bk_ BK119) hb); have n1_ := Aside0.mk (below_step (by repeat (first | (with_reducible first | exact HB.out | apply below_alloc | apply pw_below_drewN | apply below_drew1 | refine below_set ?_ GE119.out) | exact HB.out)) hb); have n2_ := Aside0.mk (hbox); have n3_ := Aside0.mk ((by rw [hg]; exact (below_size (by repeat (first | (with_reducible first | exact HB.out | apply below_alloc | apply pw_below_drewN | apply below_drew1 | refine below_set ?_ GE119.out) | exact HB.out))) : w.heap.size ≤ gb120)); have n4_ := Aside0.mk ((by rw [hg]; exact (below_size (by repeat (first | (with_reducible first | exact HB.out | apply below_alloc | apply pw_below_drewN | apply below_drew1 | refine below_set ?_ GE119.out) | exact HB.out))) : w.heap.size ≤ gb120)); have n5_ := Aside0.mk ((by rw [hg]; exact Nat.ne_of_lt (blk_lt (g := gb119) (o := .cells #[.int .i64 a0_0, .int .i64 a0_1, .string a0_2] 32 (0, 0)) (bk_ BK119)) : gb119 ≠ gb120)); have n6_ := Aside0.mk ((by rw [hg]; exact Nat.ne_of_gt (blk_lt (g := gb119) (o := .cells #[.int .i64 a0_0, .int .i64 a0_1, .string a0_2] 32 (0, 0)) (bk_ BK119)) : gb120 ≠ gb119)); clear BK119; clear HB; have BK119 := n0_; have HB := n1_; have BK120 := n2_; have GW120 := n3_; have GE120 := n4_; have NB119_120 := n5_; have NB120_119 := n6_; clear n0_ n1_ n2_ n3_ n4_ n5_ n6_; clear hb hbox hg; have hnb29 := NB119_120.out; have hnc29 := NB120_119.out; have hcz30_0 : w28.cell? ⟨gb119, 0, none⟩ = some (.int .i64 a0_0) := (blk_cell BK119.out 0).trans rfl; have hcz30_1 : w28.cell? ⟨gb119, 1, none⟩ = some (.int .i64 a0_1) := (blk_cell BK119.out 1).trans rfl; have hcz30_2 : w28.cell? ⟨gb119, 2, none⟩ = some (.string a0_2) := (blk_cell BK119.out 2).trans rfl; have hfz30_0 := blk_frozen BK119.out 0; have hfz30_1 := blk_frozen BK119.out 1; have hfz30_2 := blk_frozen BK119.out 2; have hcz31_0 : w28.cell? ⟨gb120, 0, none⟩ = some (.int .i64 a1_0) := (blk_cell BK120.out 0).trans rfl; have hcz31_1 : w28.cell? ⟨gb120, 1, none⟩ = some (.int .i64 a1_1) := (blk_cell BK120.out 1).trans rfl; have hcz31_2 : w28.cell? ⟨gb120, 2, none⟩ = some (.string a1_2) := (blk_cell BK120.out 2).trans rfl; have hfz31_0 := blk_frozen BK120.out 0; have hfz31_1 := blk_frozen BK120.out 1; have hfz31_2 := blk_frozen BK120.out 2) | ((with_reducible refine gate_callee (f := 66) rfl ?_); refine goesL_ (some 14) rfl rfl Try.func66 (by kernel_rfl) rfl #[.int .i64 a0_0, .int .i64 a1_0] rfl (by (try simp only [List.map_toArray, List.map_cons, List.map_nil]); first | done | rfl | (simp only [List.length_drop, List.length_take]; rfl)) ?_; (with_reducible refine (cmp_Compare_int.calls a0_0 a1_0 t121 _ A26.out).mono ?_); rintro e w' ⟨rfl, ⟨nd, rfl⟩⟩; refine ⟨_, rfl, ?_⟩))
  go_ret
  exact ⟨by first | rfl | (simp [errW_none, errW_some] <;> rfl) | (simp [*, errW_none, errW_some] <;> rfl), by repeat (first | (with_reducible first | exact HB.out | apply below_alloc | apply pw_below_drewN | apply below_drew1 | refine below_set ?_ GE119.out | refine below_set ?_ GE120.out) | exact HB.out)⟩
end Go.Proofs.Ytgjfciohmgpohaa.P
end
section
namespace Go.Proofs.Ytgjfciohmgpohaa.Pure
set_option linter.unusedVariables false
set_option linter.unusedSimpArgs false
open Go.RowKit Go.Proofs.Ytgjfciohmgpohaa.P Go.Proofs.YtgjfciohmgpohaaW.PrintWords Go.Proofs.YtgjfciohmgpohaaW.PrintLast Go.Proofs.YtgjfciohmgpohaaW.PrintMore
theorem cmp_int (a b : Int) : cmp_Compare_int.f a b = some (cmpI a b) := by
  unfold cmp_Compare_int.f cmp_isNaN_int.f cmpI
  simp only [Option.bind_some, bne_self_eq_false, Bool.false_eq_true, if_false, gt_iff_lt]
  split
  · rfl
  · split <;> rfl
theorem cmp_int64 (a b : Int) : cmp_Compare_int64.f a b = some (cmpI a b) := by
  unfold cmp_Compare_int64.f cmp_isNaN_int64.f cmpI
  simp only [Option.bind_some, bne_self_eq_false, Bool.false_eq_true, if_false, gt_iff_lt]
  split
  · rfl
  · split <;> rfl
theorem cmp_ev (x y : S32) : Ev (fun k => value_Compare.f k x.f0 x.f1 x.f2 y.f0 y.f1 y.f2) (cmpV x y) := by
  unfold value_Compare.f cmpV
  by_cases e : x.f0 = y.f0
  · rw [if_pos e]
    have hj : Ev (fun k => value_Compare.j0 k x.f0 (x.f0 == 1 || x.f0 == 2) x.f0 x.f1 x.f2 y.f0 y.f1 y.f2) (if x.f0 = 1 ∨ x.f0 = 2 then cmpI x.f1 y.f1 else if x.f0 = 3 ∨ x.f0 = 4 then cmpT x.f2 y.f2 else 0) := by
      refine Ev.succ ?_
      simp only [value_Compare.j0, cmp_int64, strings_Compare.f, Option.bind_some]
      by_cases h12 : x.f0 = 1 ∨ x.f0 = 2
      · have : (x.f0 == 1 || x.f0 == 2) = true := by simpa using h12
        rw [if_pos h12]
        simp only [this, if_true]
        exact Ev.pure _
      · have : (x.f0 == 1 || x.f0 == 2) = false := by simpa using h12
        rw [if_neg h12]
        simp only [this, Bool.false_eq_true, if_false]
        by_cases h3 : x.f0 = 3
        · rw [if_pos (show x.f0 = 3 ∨ x.f0 = 4 from .inl h3)]
          simp only [h3, if_true]
          exact Ev.pure _
        · by_cases h4 : x.f0 = 4
          · rw [if_pos (show x.f0 = 3 ∨ x.f0 = 4 from .inr h4)]
            simp only [h3, h4, if_true, if_false]
            exact Ev.pure _
          · rw [if_neg (show ¬ (x.f0 = 3 ∨ x.f0 = 4) by omega)]
            simp only [h3, h4, if_false]
            exact Ev.pure _
    by_cases h1 : x.f0 = 1
    · have q : (x.f0 == 1 || x.f0 == 2) = (x.f0 == 1) := by simp [h1]
      rw [q] at hj
      simp only [e, if_true] at hj ⊢
      simp only [← e, h1, if_true] at hj ⊢
      exact hj
    · have q : (x.f0 == 1 || x.f0 == 2) = (x.f0 == 2) := by simp [h1]
      rw [q] at hj
      have h1' : ¬ y.f0 = 1 := by omega
      simp only [e, if_true] at hj ⊢
      simp only [h1', if_false] at hj ⊢
      exact hj
  · rw [if_neg e]
    simp only [e, if_false, cmp_int, Option.bind_some]
    exact Ev.pure _
end Go.Proofs.Ytgjfciohmgpohaa.Pure
end
section
namespace Go.Proofs.Ytgjfciohmgpohaa.Pure
set_option linter.unusedVariables false
set_option linter.unusedSimpArgs false
open Go.RowKit Go.Proofs.Ytgjfciohmgpohaa.P Go.Proofs.YtgjfciohmgpohaaW.PrintWords Go.Proofs.YtgjfciohmgpohaaW.PrintLast Go.Proofs.YtgjfciohmgpohaaW.PrintMore
instance decSV : DecidableEq S32 := fun a b =>
  if h : a.f0 = b.f0 ∧ a.f1 = b.f1 ∧ a.f2 = b.f2 then .isTrue (by cases a; cases b; simp_all) else .isFalse (by rintro rfl; exact h ⟨rfl, rfl, rfl⟩)
def wantsP (op : Int) : Int := if op ≤ 4 then 1 else if op ≤ 10 then 0 else if op = 16 then 3 else 2
def holdsP (op c : Int) : Bool := if op = 5 then c == 0 else if op = 6 then c != 0 else if op = 7 then decide (c < 0) else if op = 8 then decide (c ≤ 0) else if op = 9 then decide (0 < c) else decide (0 ≤ c)
def logicP (u v s : S32) : S32 := if u = s ∨ v = s then s else if u.f0 = 0 ∨ v.f0 = 0 then zeroV else truthV (!decide (s = truthV true))
def kindsP (op a b : Int) : Prop := if wantsP op ≠ 0 then (a = wantsP op ∨ a = 0) ∧ (b = wantsP op ∨ b = 0) else a = 0 ∨ b = 0 ∨ a = b
instance (op a b : Int) : Decidable (kindsP op a b) := by unfold kindsP; infer_instance
def numE : Except Int Int → Except Int S32 | .ok n => .ok ⟨2, n, V0⟩ | .error c => .error c
def bin (op : Int) (u v : S32) : Except Int S32 :=
  if ¬ (3 ≤ op ∧ op ≤ 16) then .error 5
  else if ¬ kindsP op u.f0 v.f0 then .error 35
  else if op ≤ 4 then .ok (logicP u v (truthV (op == 3)))
  else if u.f0 = 0 ∨ v.f0 = 0 then .ok zeroV
  else if op ≤ 10 then .ok (truthV (holdsP op (cmpV u v)))
  else if op = 16 then (if u.f2.size + v.f2.size ≤ 2048 then .ok ⟨3, 0, u.f2 ++ v.f2⟩ else .error 8)
  else numE (sumP op u.f1 v.f1)
theorem wants_f (op : Int) : calc_wants.f op = some (wantsP op) := by
  unfold calc_wants.f wantsP
  repeat' split
  all_goals rfl
theorem holds_f (op c : Int) : calc_compared.f op c = some (holdsP op c) := by
  unfold calc_compared.f holdsP
  repeat' split
  all_goals rfl
theorem eqb (u s : S32) : (u.f0 == s.f0 && (u.f1 == s.f1 && (u.f2.toList == s.f2.toList))) = decide (u = s) := by
  by_cases h : u = s
  · subst h; simp
  · rw [decide_eq_false h]
    by_cases h0 : u.f0 = s.f0
    · by_cases h1 : u.f1 = s.f1
      · by_cases h2 : u.f2.toList = s.f2.toList
        · exact absurd (by cases u; cases s; simp only at h0 h1 h2; rw [h0, h1, toList_inj h2]) h
        · simp [h2]
      · simp [h1]
    · simp [h0]
theorem True_f (s : S32) : calc_True.f s.f0 s.f1 s.f2 = some (decide (s = truthV true)) := by
  unfold calc_True.f
  rw [truth_f]
  exact congrArg some (eqb s (truthV true))
theorem logic_ev (u v s : S32) : Ev (fun k => calc_logic.f k u.f0 u.f1 u.f2 v.f0 v.f1 v.f2 s.f0 s.f1 s.f2) ((logicP u v s).f0, (logicP u v s).f1, (logicP u v s).f2) := by
  unfold calc_logic.f
  simp only [eqb]
  have hj1 : ∀ b : Bool, Ev (fun k => calc_logic.j1 k b s.f0 s.f1 s.f2) (if b = true then (0, 0, V0) else ((truthV (!decide (s = truthV true))).f0, (truthV (!decide (s = truthV true))).f1, (truthV (!decide (s = truthV true))).f2)) := by
    intro b
    refine Ev.succ ?_
    simp only [calc_logic.j1, True_f, truth_f, Option.bind_some]
    cases b
    · exact Ev.pure _
    · exact Ev.pure _
  have hj0 : ∀ b : Bool, Ev (fun k => calc_logic.j0 k b u.f0 u.f1 u.f2 v.f0 v.f1 v.f2 s.f0 s.f1 s.f2) (if b = true then (s.f0, s.f1, s.f2) else if u.f0 = 0 ∨ v.f0 = 0 then (0, 0, V0) else ((truthV (!decide (s = truthV true))).f0, (truthV (!decide (s = truthV true))).f1, (truthV (!decide (s = truthV true))).f2)) := by
    intro b
    refine Ev.succ ?_
    simp only [calc_logic.j0]
    cases b
    · simp only [Bool.false_eq_true, if_false]
      by_cases h0 : u.f0 = 0
      · simp only [h0, if_true, true_or]
        exact hj1 true
      · simp only [h0, if_false, false_or]
        have := hj1 (v.f0 == 0)
        by_cases h1 : v.f0 = 0
        · simpa [h1] using this
        · simpa [h1, beq_eq_false_iff_ne.mpr h1] using this
    · exact Ev.pure _
  unfold logicP
  by_cases h0 : u = s
  · rw [decide_eq_true h0]
    have := hj0 true
    simpa [h0] using this
  · rw [decide_eq_false h0]
    have := hj0 (decide (v = s))
    by_cases h1 : v = s
    · simpa [h0, h1] using this
    · simp only [Bool.false_eq_true, if_false, h0, h1, or_self, decide_false] at this ⊢
      by_cases h2 : u.f0 = 0 ∨ v.f0 = 0
      · simp only [h2, if_true] at this ⊢; exact this
      · simp only [h2, if_false] at this ⊢; exact this
theorem logic_calls (u v s : S32) (w : World) : Calls Try.prog 57 #[.agg #[.int .i64 u.f0, .int .i64 u.f1, .string u.f2], .agg #[.int .i64 v.f0, .int .i64 v.f1, .string v.f2], .agg #[.int .i64 s.f0, .int .i64 s.f1, .string s.f2]] w fun e w' => e = .returned (.agg #[.int .i64 (logicP u v s).f0, .int .i64 (logicP u v s).f1, .string (logicP u v s).f2]) ∧ Below w.heap.size w w' := by
  obtain ⟨k, hk⟩ := (logic_ev u v s).get
  exact calc_logic.calls k _ _ _ _ _ _ _ _ _ _ _ _ w hk
theorem compare_calls (u v : S32) (w : World) : Calls Try.prog 60 #[.agg #[.int .i64 u.f0, .int .i64 u.f1, .string u.f2], .agg #[.int .i64 v.f0, .int .i64 v.f1, .string v.f2]] w fun e w' => e = .returned (.int .i64 (cmpV u v)) ∧ Below w.heap.size w w' := by
  obtain ⟨k, hk⟩ := (cmp_ev u v).get
  exact value_Compare.calls k _ _ _ _ _ _ _ w hk
end Go.Proofs.Ytgjfciohmgpohaa.Pure
end
section
namespace Go.Proofs.Ytgjfciohmgpohaa.P
open Go.RowKit Go.Proofs.Ytgjfciohmgpohaa.Pure Go.Proofs.YtgjfciohmgpohaaW.PrintWords Go.Proofs.YtgjfciohmgpohaaW.PrintLast Go.Proofs.YtgjfciohmgpohaaW.PrintMore
attribute [local go_sem] max2_int min2_int max_two min_two max_three min_three max_four min_four
set_option linter.unusedVariables false
set_option linter.unusedSimpArgs false
theorem at_world {P : Program} {c : Code} {Q : Exit → Act → World → Prop} {a : Act} {W : World} (R : World → Prop) (h : R W) (k : ∀ W', R W' → Code.wp P c Q a W') : Code.wp P c Q a W := k W h
def BI (op : Int) (u v : S32) (b0 b1 b2 : Nat) (W w : World) : Prop :=
  w.heap[b0]? = some (.cells #[.int .i64 op] 3 (0, 0)) ∧ w.heap[b1]? = some (.cells #[.int .i64 u.f0, .int .i64 u.f1, .string u.f2] 32 (0, 0)) ∧ w.heap[b2]? = some (.cells #[.int .i64 v.f0, .int .i64 v.f1, .string v.f2] 32 (0, 0)) ∧
  w.heap[W.heap.size]? = some (.cells #[.int .i64 0, .int .i64 0, .string (⟨#[]⟩ : ByteArray)] 32 (0, 0)) ∧ Below W.heap.size W w
section
variable {op : Int} {u v : S32} {b0 b1 b2 : Nat} {W w w' : World}
theorem below_set3 {B : Nat} {a w : World} (h : Below B a w) {b : Nat} (hb : B ≤ b) (o1 o2 o3 : Nat) (v1 v2 v3 : Value) : Below B a (((w.setCell ⟨b, o1, none⟩ v1).setCell ⟨b, o2, none⟩ v2).setCell ⟨b, o3, none⟩ v3) :=
  Below.setCell (Below.setCell (Below.setCell h (p := ⟨b, o1, none⟩) hb v1) (p := ⟨b, o2, none⟩) hb v2) (p := ⟨b, o3, none⟩) hb v3
theorem BI.start (h0 : W.heap[b0]? = some (.cells #[.int .i64 op] 3 (0, 0))) (h1 : W.heap[b1]? = some (.cells #[.int .i64 u.f0, .int .i64 u.f1, .string u.f2] 32 (0, 0))) (h2 : W.heap[b2]? = some (.cells #[.int .i64 v.f0, .int .i64 v.f1, .string v.f2] 32 (0, 0))) :
    BI op u v b0 b1 b2 W (W.alloc (.cells #[.int .i64 0, .int .i64 0, .string (⟨#[]⟩ : ByteArray)] 32)) :=
  ⟨blk_alloc h0 _, blk_alloc h1 _, blk_alloc h2 _, Deep.blk_alloc_new W _, below_alloc (Below.refl _ _) _⟩
theorem BI.drew (h : BI op u v b0 b1 b2 W w) : BI op u v b0 b1 b2 W w.drew := ⟨blk_drew h.1, blk_drew h.2.1, blk_drew h.2.2.1, blk_drew h.2.2.2.1, below_drew1 h.2.2.2.2⟩
theorem BI.drewN (h : BI op u v b0 b1 b2 W w) (n : Nat) : BI op u v b0 b1 b2 W (w.drewN n) := ⟨blk_drewN h.1 n, blk_drewN h.2.1 n, blk_drewN h.2.2.1 n, blk_drewN h.2.2.2.1 n, pw_below_drewN h.2.2.2.2 n⟩
theorem BI.below (h : BI op u v b0 b1 b2 W w) (hb : Below w.heap.size w w') : BI op u v b0 b1 b2 W w' :=
  ⟨(hb.block _ (blk_lt h.1)).trans h.1, (hb.block _ (blk_lt h.2.1)).trans h.2.1, (hb.block _ (blk_lt h.2.2.1)).trans h.2.2.1, (hb.block _ (blk_lt h.2.2.2.1)).trans h.2.2.2.1, below_step h.2.2.2.2 hb⟩
theorem BI.bel (h : BI op u v b0 b1 b2 W w) : Below W.heap.size W w := h.2.2.2.2
theorem BI.o (h : BI op u v b0 b1 b2 W w) : w.cell? ⟨b0, 0, none⟩ = some (.int .i64 op) := (blk_cell h.1 0).trans rfl
theorem BI.a0 (h : BI op u v b0 b1 b2 W w) : w.cell? ⟨b1, 0, none⟩ = some (.int .i64 u.f0) := (blk_cell h.2.1 0).trans rfl
theorem BI.a1 (h : BI op u v b0 b1 b2 W w) : w.cell? ⟨b1, 1, none⟩ = some (.int .i64 u.f1) := (blk_cell h.2.1 1).trans rfl
theorem BI.a2 (h : BI op u v b0 b1 b2 W w) : w.cell? ⟨b1, 2, none⟩ = some (.string u.f2) := (blk_cell h.2.1 2).trans rfl
theorem BI.v0 (h : BI op u v b0 b1 b2 W w) : w.cell? ⟨b2, 0, none⟩ = some (.int .i64 v.f0) := (blk_cell h.2.2.1 0).trans rfl
theorem BI.v1 (h : BI op u v b0 b1 b2 W w) : w.cell? ⟨b2, 1, none⟩ = some (.int .i64 v.f1) := (blk_cell h.2.2.1 1).trans rfl
theorem BI.v2 (h : BI op u v b0 b1 b2 W w) : w.cell? ⟨b2, 2, none⟩ = some (.string v.f2) := (blk_cell h.2.2.1 2).trans rfl
end
set_option maxHeartbeats 2000000 in
set_option maxRecDepth 100000 in
theorem calc_Binary1.low (op : Int) (u v : S32) (k : Int) (HK : Aside0 (calc_wants.f op = some k)) (b0 b1 b2 : Nat) (W : World) (h0 : W.heap[b0]? = some (.cells #[.int .i64 op] 3 (0, 0))) (h1 : W.heap[b1]? = some (.cells #[.int .i64 u.f0, .int .i64 u.f1, .string u.f2] 32 (0, 0))) (h2 : W.heap[b2]? = some (.cells #[.int .i64 v.f0, .int .i64 v.f1, .string v.f2] 32 (0, 0))) (l3 : ¬ 3 ≤ op) :
    Calls Try.prog 54 #[.pointer (some ⟨b0, 0, none⟩), .pointer (some ⟨b1, 0, none⟩), .pointer (some ⟨b2, 0, none⟩)] W (fun e w' => RE (.error 5) e ∧ Below W.heap.size W w') := by
  have hu32 := Try.underlying32
  have n0 : ¬ b0 = W.heap.size := by have := blk_lt h0; omega
  have n1 : ¬ b1 = W.heap.size := by have := blk_lt h1; omega
  have n2 : ¬ b2 = W.heap.size := by have := blk_lt h2; omega
  have HS := Aside0.mk (BI.start h0 h1 h2)
  clear h0 h1 h2
  have hc0 := HS.out.o
  have ha0 := HS.out.a0
  have ha1 := HS.out.a1
  have ha2 := HS.out.a2
  have hb0 := HS.out.v0
  have hb1 := HS.out.v1
  have hb2 := HS.out.v2
  have q0 : decide (3 ≤ op) = false := decide_eq_false l3
  have l3' := Aside0.mk l3
  clear l3
  go_enter Try.func54, Try.ntmps54
  go_wp2_with (first | (go_at_call 56; (with_reducible refine (calc_wants.calls op k _ HK.out).mono ?_); rintro e w' ⟨rfl, ⟨nd, rfl⟩⟩) | (go_at_call 55; (with_reducible refine (calc_check.yes _ _).mono ?_); rintro e w' ⟨rfl, rfl⟩) | (go_at_call 55; (with_reducible refine (calc_check.no _ _).mono ?_); rintro e w' ⟨rfl, rfl⟩))
  exact ⟨rfl, rfl, by repeat (first | exact HS.out.bel | apply pw_below_drewN | apply below_drew1)⟩
set_option maxHeartbeats 2000000 in
set_option maxRecDepth 100000 in
theorem calc_Binary1.high (op : Int) (u v : S32) (k : Int) (HK : Aside0 (calc_wants.f op = some k)) (b0 b1 b2 : Nat) (W : World) (h0 : W.heap[b0]? = some (.cells #[.int .i64 op] 3 (0, 0))) (h1 : W.heap[b1]? = some (.cells #[.int .i64 u.f0, .int .i64 u.f1, .string u.f2] 32 (0, 0))) (h2 : W.heap[b2]? = some (.cells #[.int .i64 v.f0, .int .i64 v.f1, .string v.f2] 32 (0, 0))) (l3 : 3 ≤ op) (l16 : ¬ op ≤ 16) :
    Calls Try.prog 54 #[.pointer (some ⟨b0, 0, none⟩), .pointer (some ⟨b1, 0, none⟩), .pointer (some ⟨b2, 0, none⟩)] W (fun e w' => RE (.error 5) e ∧ Below W.heap.size W w') := by
  have hu32 := Try.underlying32
  have n0 : ¬ b0 = W.heap.size := by have := blk_lt h0; omega
  have n1 : ¬ b1 = W.heap.size := by have := blk_lt h1; omega
  have n2 : ¬ b2 = W.heap.size := by have := blk_lt h2; omega
  have HS := Aside0.mk (BI.start h0 h1 h2)
  clear h0 h1 h2
  have hc0 := HS.out.o
  have ha0 := HS.out.a0
  have ha1 := HS.out.a1
  have ha2 := HS.out.a2
  have hb0 := HS.out.v0
  have hb1 := HS.out.v1
  have hb2 := HS.out.v2
  have q0 : decide (3 ≤ op) = true := decide_eq_true l3
  have q1 : decide (op ≤ 16) = false := decide_eq_false l16
  have l3' := Aside0.mk l3
  have l16' := Aside0.mk l16
  clear l3 l16
  go_enter Try.func54, Try.ntmps54
  go_wp2_with (first | (go_at_call 56; (with_reducible refine (calc_wants.calls op k _ HK.out).mono ?_); rintro e w' ⟨rfl, ⟨nd, rfl⟩⟩) | (go_at_call 55; (with_reducible refine (calc_check.yes _ _).mono ?_); rintro e w' ⟨rfl, rfl⟩) | (go_at_call 55; (with_reducible refine (calc_check.no _ _).mono ?_); rintro e w' ⟨rfl, rfl⟩))
  exact ⟨rfl, rfl, by repeat (first | exact HS.out.bel | apply pw_below_drewN | apply below_drew1)⟩
set_option maxHeartbeats 2000000 in
set_option maxRecDepth 100000 in
theorem calc_Binary1.kindA1 (op : Int) (u v : S32) (k : Int) (HK : Aside0 (calc_wants.f op = some k)) (b0 b1 b2 : Nat) (W : World) (h0 : W.heap[b0]? = some (.cells #[.int .i64 op] 3 (0, 0))) (h1 : W.heap[b1]? = some (.cells #[.int .i64 u.f0, .int .i64 u.f1, .string u.f2] 32 (0, 0))) (h2 : W.heap[b2]? = some (.cells #[.int .i64 v.f0, .int .i64 v.f1, .string v.f2] 32 (0, 0))) (l3 : 3 ≤ op) (l16 : op ≤ 16) (kn : ¬ k = 0) (a0 : ¬ u.f0 = 0) (ak : ¬ u.f0 = k) (z0 : v.f0 = 0) :
    Calls Try.prog 54 #[.pointer (some ⟨b0, 0, none⟩), .pointer (some ⟨b1, 0, none⟩), .pointer (some ⟨b2, 0, none⟩)] W (fun e w' => RE (.error 35) e ∧ Below W.heap.size W w') := by
  have hu32 := Try.underlying32
  have n0 : ¬ b0 = W.heap.size := by have := blk_lt h0; omega
  have n1 : ¬ b1 = W.heap.size := by have := blk_lt h1; omega
  have n2 : ¬ b2 = W.heap.size := by have := blk_lt h2; omega
  have HS := Aside0.mk (BI.start h0 h1 h2)
  clear h0 h1 h2
  have hc0 := HS.out.o
  have ha0 := HS.out.a0
  have ha1 := HS.out.a1
  have ha2 := HS.out.a2
  have hb0 := HS.out.v0
  have hb1 := HS.out.v1
  have hb2 := HS.out.v2
  have q0 : decide (3 ≤ op) = true := decide_eq_true l3
  have q1 : decide (op ≤ 16) = true := decide_eq_true l16
  have q2 : (k != 0) = true := bne_iff_ne.mpr kn
  have q3 : (u.f0 == 0) = false := beq_eq_false_iff_ne.mpr a0
  have q4 : (v.f0 == 0) = true := beq_iff_eq.mpr z0
  have q5 : (u.f0 == k) = false := beq_eq_false_iff_ne.mpr ak
  have l3' := Aside0.mk l3
  have l16' := Aside0.mk l16
  have kn' := Aside0.mk kn
  have a0' := Aside0.mk a0
  have ak' := Aside0.mk ak
  have z0' := Aside0.mk z0
  clear l3 l16 kn a0 ak z0
  go_enter Try.func54, Try.ntmps54
  go_wp2_with (first | (go_at_call 56; (with_reducible refine (calc_wants.calls op k _ HK.out).mono ?_); rintro e w' ⟨rfl, ⟨nd, rfl⟩⟩) | (go_at_call 55; (with_reducible refine (calc_check.yes _ _).mono ?_); rintro e w' ⟨rfl, rfl⟩) | (go_at_call 55; (with_reducible refine (calc_check.no _ _).mono ?_); rintro e w' ⟨rfl, rfl⟩))
  exact ⟨rfl, rfl, by repeat (first | exact HS.out.bel | apply pw_below_drewN | apply below_drew1)⟩
set_option maxHeartbeats 2000000 in
set_option maxRecDepth 100000 in
theorem calc_Binary1.kindA0 (op : Int) (u v : S32) (k : Int) (HK : Aside0 (calc_wants.f op = some k)) (b0 b1 b2 : Nat) (W : World) (h0 : W.heap[b0]? = some (.cells #[.int .i64 op] 3 (0, 0))) (h1 : W.heap[b1]? = some (.cells #[.int .i64 u.f0, .int .i64 u.f1, .string u.f2] 32 (0, 0))) (h2 : W.heap[b2]? = some (.cells #[.int .i64 v.f0, .int .i64 v.f1, .string v.f2] 32 (0, 0))) (l3 : 3 ≤ op) (l16 : op ≤ 16) (kn : ¬ k = 0) (a0 : ¬ u.f0 = 0) (ak : ¬ u.f0 = k) (z0 : ¬ v.f0 = 0) :
    Calls Try.prog 54 #[.pointer (some ⟨b0, 0, none⟩), .pointer (some ⟨b1, 0, none⟩), .pointer (some ⟨b2, 0, none⟩)] W (fun e w' => RE (.error 35) e ∧ Below W.heap.size W w') := by
  have hu32 := Try.underlying32
  have n0 : ¬ b0 = W.heap.size := by have := blk_lt h0; omega
  have n1 : ¬ b1 = W.heap.size := by have := blk_lt h1; omega
  have n2 : ¬ b2 = W.heap.size := by have := blk_lt h2; omega
  have HS := Aside0.mk (BI.start h0 h1 h2)
  clear h0 h1 h2
  have hc0 := HS.out.o
  have ha0 := HS.out.a0
  have ha1 := HS.out.a1
  have ha2 := HS.out.a2
  have hb0 := HS.out.v0
  have hb1 := HS.out.v1
  have hb2 := HS.out.v2
  have q0 : decide (3 ≤ op) = true := decide_eq_true l3
  have q1 : decide (op ≤ 16) = true := decide_eq_true l16
  have q2 : (k != 0) = true := bne_iff_ne.mpr kn
  have q3 : (u.f0 == 0) = false := beq_eq_false_iff_ne.mpr a0
  have q4 : (v.f0 == 0) = false := beq_eq_false_iff_ne.mpr z0
  have q5 : (u.f0 == k) = false := beq_eq_false_iff_ne.mpr ak
  have l3' := Aside0.mk l3
  have l16' := Aside0.mk l16
  have kn' := Aside0.mk kn
  have a0' := Aside0.mk a0
  have ak' := Aside0.mk ak
  have z0' := Aside0.mk z0
  clear l3 l16 kn a0 ak z0
  go_enter Try.func54, Try.ntmps54
  go_wp2_with (first | (go_at_call 56; (with_reducible refine (calc_wants.calls op k _ HK.out).mono ?_); rintro e w' ⟨rfl, ⟨nd, rfl⟩⟩) | (go_at_call 55; (with_reducible refine (calc_check.yes _ _).mono ?_); rintro e w' ⟨rfl, rfl⟩) | (go_at_call 55; (with_reducible refine (calc_check.no _ _).mono ?_); rintro e w' ⟨rfl, rfl⟩))
  exact ⟨rfl, rfl, by repeat (first | exact HS.out.bel | apply pw_below_drewN | apply below_drew1)⟩
set_option maxHeartbeats 2000000 in
set_option maxRecDepth 100000 in
theorem calc_Binary1.kindB1 (op : Int) (u v : S32) (k : Int) (HK : Aside0 (calc_wants.f op = some k)) (b0 b1 b2 : Nat) (W : World) (h0 : W.heap[b0]? = some (.cells #[.int .i64 op] 3 (0, 0))) (h1 : W.heap[b1]? = some (.cells #[.int .i64 u.f0, .int .i64 u.f1, .string u.f2] 32 (0, 0))) (h2 : W.heap[b2]? = some (.cells #[.int .i64 v.f0, .int .i64 v.f1, .string v.f2] 32 (0, 0))) (l3 : 3 ≤ op) (l16 : op ≤ 16) (kn : ¬ k = 0) (a0 : u.f0 = 0) (z0 : ¬ v.f0 = 0) (zk : ¬ v.f0 = k) :
    Calls Try.prog 54 #[.pointer (some ⟨b0, 0, none⟩), .pointer (some ⟨b1, 0, none⟩), .pointer (some ⟨b2, 0, none⟩)] W (fun e w' => RE (.error 35) e ∧ Below W.heap.size W w') := by
  have hu32 := Try.underlying32
  have n0 : ¬ b0 = W.heap.size := by have := blk_lt h0; omega
  have n1 : ¬ b1 = W.heap.size := by have := blk_lt h1; omega
  have n2 : ¬ b2 = W.heap.size := by have := blk_lt h2; omega
  have HS := Aside0.mk (BI.start h0 h1 h2)
  clear h0 h1 h2
  have hc0 := HS.out.o
  have ha0 := HS.out.a0
  have ha1 := HS.out.a1
  have ha2 := HS.out.a2
  have hb0 := HS.out.v0
  have hb1 := HS.out.v1
  have hb2 := HS.out.v2
  have q0 : decide (3 ≤ op) = true := decide_eq_true l3
  have q1 : decide (op ≤ 16) = true := decide_eq_true l16
  have q2 : (k != 0) = true := bne_iff_ne.mpr kn
  have q3 : (u.f0 == 0) = true := beq_iff_eq.mpr a0
  have q4 : (v.f0 == 0) = false := beq_eq_false_iff_ne.mpr z0
  have q5 : (u.f0 == k) = false := beq_eq_false_iff_ne.mpr (fun h => kn (h.symm.trans a0))
  have q6 : (v.f0 == k) = false := beq_eq_false_iff_ne.mpr zk
  have l3' := Aside0.mk l3
  have l16' := Aside0.mk l16
  have kn' := Aside0.mk kn
  have a0' := Aside0.mk a0
  have z0' := Aside0.mk z0
  have zk' := Aside0.mk zk
  clear l3 l16 kn a0 z0 zk
  go_enter Try.func54, Try.ntmps54
  go_wp2_with (first | (go_at_call 56; (with_reducible refine (calc_wants.calls op k _ HK.out).mono ?_); rintro e w' ⟨rfl, ⟨nd, rfl⟩⟩) | (go_at_call 55; (with_reducible refine (calc_check.yes _ _).mono ?_); rintro e w' ⟨rfl, rfl⟩) | (go_at_call 55; (with_reducible refine (calc_check.no _ _).mono ?_); rintro e w' ⟨rfl, rfl⟩))
  exact ⟨rfl, rfl, by repeat (first | exact HS.out.bel | apply pw_below_drewN | apply below_drew1)⟩
set_option maxHeartbeats 2000000 in
set_option maxRecDepth 100000 in
theorem calc_Binary1.kindB0 (op : Int) (u v : S32) (k : Int) (HK : Aside0 (calc_wants.f op = some k)) (b0 b1 b2 : Nat) (W : World) (h0 : W.heap[b0]? = some (.cells #[.int .i64 op] 3 (0, 0))) (h1 : W.heap[b1]? = some (.cells #[.int .i64 u.f0, .int .i64 u.f1, .string u.f2] 32 (0, 0))) (h2 : W.heap[b2]? = some (.cells #[.int .i64 v.f0, .int .i64 v.f1, .string v.f2] 32 (0, 0))) (l3 : 3 ≤ op) (l16 : op ≤ 16) (kn : ¬ k = 0) (a0 : ¬ u.f0 = 0) (z0 : ¬ v.f0 = 0) (ak : u.f0 = k) (zk : ¬ v.f0 = k) :
    Calls Try.prog 54 #[.pointer (some ⟨b0, 0, none⟩), .pointer (some ⟨b1, 0, none⟩), .pointer (some ⟨b2, 0, none⟩)] W (fun e w' => RE (.error 35) e ∧ Below W.heap.size W w') := by
  have hu32 := Try.underlying32
  have n0 : ¬ b0 = W.heap.size := by have := blk_lt h0; omega
  have n1 : ¬ b1 = W.heap.size := by have := blk_lt h1; omega
  have n2 : ¬ b2 = W.heap.size := by have := blk_lt h2; omega
  have HS := Aside0.mk (BI.start h0 h1 h2)
  clear h0 h1 h2
  have hc0 := HS.out.o
  have ha0 := HS.out.a0
  have ha1 := HS.out.a1
  have ha2 := HS.out.a2
  have hb0 := HS.out.v0
  have hb1 := HS.out.v1
  have hb2 := HS.out.v2
  have q0 : decide (3 ≤ op) = true := decide_eq_true l3
  have q1 : decide (op ≤ 16) = true := decide_eq_true l16
  have q2 : (k != 0) = true := bne_iff_ne.mpr kn
  have q3 : (u.f0 == 0) = false := beq_eq_false_iff_ne.mpr a0
  have q4 : (v.f0 == 0) = false := beq_eq_false_iff_ne.mpr z0
  have q5 : (u.f0 == k) = true := beq_iff_eq.mpr ak
  have q6 : (v.f0 == k) = false := beq_eq_false_iff_ne.mpr zk
  have l3' := Aside0.mk l3
  have l16' := Aside0.mk l16
  have kn' := Aside0.mk kn
  have a0' := Aside0.mk a0
  have z0' := Aside0.mk z0
  have ak' := Aside0.mk ak
  have zk' := Aside0.mk zk
  clear l3 l16 kn a0 z0 ak zk
  go_enter Try.func54, Try.ntmps54
  go_wp2_with (first | (go_at_call 56; (with_reducible refine (calc_wants.calls op k _ HK.out).mono ?_); rintro e w' ⟨rfl, ⟨nd, rfl⟩⟩) | (go_at_call 55; (with_reducible refine (calc_check.yes _ _).mono ?_); rintro e w' ⟨rfl, rfl⟩) | (go_at_call 55; (with_reducible refine (calc_check.no _ _).mono ?_); rintro e w' ⟨rfl, rfl⟩))
  exact ⟨rfl, rfl, by repeat (first | exact HS.out.bel | apply pw_below_drewN | apply below_drew1)⟩
set_option maxHeartbeats 2000000 in
set_option maxRecDepth 100000 in
theorem calc_Binary1.kindC (op : Int) (u v : S32) (k : Int) (HK : Aside0 (calc_wants.f op = some k)) (b0 b1 b2 : Nat) (W : World) (h0 : W.heap[b0]? = some (.cells #[.int .i64 op] 3 (0, 0))) (h1 : W.heap[b1]? = some (.cells #[.int .i64 u.f0, .int .i64 u.f1, .string u.f2] 32 (0, 0))) (h2 : W.heap[b2]? = some (.cells #[.int .i64 v.f0, .int .i64 v.f1, .string v.f2] 32 (0, 0))) (l3 : 3 ≤ op) (l16 : op ≤ 16) (kz : k = 0) (a0 : ¬ u.f0 = 0) (z0 : ¬ v.f0 = 0) (uv : ¬ u.f0 = v.f0) :
    Calls Try.prog 54 #[.pointer (some ⟨b0, 0, none⟩), .pointer (some ⟨b1, 0, none⟩), .pointer (some ⟨b2, 0, none⟩)] W (fun e w' => RE (.error 35) e ∧ Below W.heap.size W w') := by
  have hu32 := Try.underlying32
  have n0 : ¬ b0 = W.heap.size := by have := blk_lt h0; omega
  have n1 : ¬ b1 = W.heap.size := by have := blk_lt h1; omega
  have n2 : ¬ b2 = W.heap.size := by have := blk_lt h2; omega
  have HS := Aside0.mk (BI.start h0 h1 h2)
  clear h0 h1 h2
  have hc0 := HS.out.o
  have ha0 := HS.out.a0
  have ha1 := HS.out.a1
  have ha2 := HS.out.a2
  have hb0 := HS.out.v0
  have hb1 := HS.out.v1
  have hb2 := HS.out.v2
  have q0 : decide (3 ≤ op) = true := decide_eq_true l3
  have q1 : decide (op ≤ 16) = true := decide_eq_true l16
  have q2 : (k != 0) = false := bne_eq_false_iff_eq.mpr kz
  have q3 : (u.f0 == 0) = false := beq_eq_false_iff_ne.mpr a0
  have q4 : (v.f0 == 0) = false := beq_eq_false_iff_ne.mpr z0
  have q5 : (u.f0 == v.f0) = false := beq_eq_false_iff_ne.mpr uv
  have l3' := Aside0.mk l3
  have l16' := Aside0.mk l16
  have kz' := Aside0.mk kz
  have a0' := Aside0.mk a0
  have z0' := Aside0.mk z0
  have uv' := Aside0.mk uv
  clear l3 l16 kz a0 z0 uv
  go_enter Try.func54, Try.ntmps54
  go_wp2_with (first | (go_at_call 56; (with_reducible refine (calc_wants.calls op k _ HK.out).mono ?_); rintro e w' ⟨rfl, ⟨nd, rfl⟩⟩) | (go_at_call 55; (with_reducible refine (calc_check.yes _ _).mono ?_); rintro e w' ⟨rfl, rfl⟩) | (go_at_call 55; (with_reducible refine (calc_check.no _ _).mono ?_); rintro e w' ⟨rfl, rfl⟩))
  exact ⟨rfl, rfl, by repeat (first | exact HS.out.bel | apply pw_below_drewN | apply below_drew1)⟩
set_option maxHeartbeats 2000000 in
set_option maxRecDepth 100000 in
theorem calc_Binary1.nullK11 (op : Int) (u v : S32) (k : Int) (HK : Aside0 (calc_wants.f op = some k)) (b0 b1 b2 : Nat) (W : World) (h0 : W.heap[b0]? = some (.cells #[.int .i64 op] 3 (0, 0))) (h1 : W.heap[b1]? = some (.cells #[.int .i64 u.f0, .int .i64 u.f1, .string u.f2] 32 (0, 0))) (h2 : W.heap[b2]? = some (.cells #[.int .i64 v.f0, .int .i64 v.f1, .string v.f2] 32 (0, 0))) (l3 : 3 ≤ op) (l16 : op ≤ 16) (kn : ¬ k = 0) (l4 : ¬ op ≤ 4) (a0 : u.f0 = 0) (z0 : v.f0 = 0) :
    Calls Try.prog 54 #[.pointer (some ⟨b0, 0, none⟩), .pointer (some ⟨b1, 0, none⟩), .pointer (some ⟨b2, 0, none⟩)] W (fun e w' => RE (.ok zeroV) e ∧ Below W.heap.size W w') := by
  have hu32 := Try.underlying32
  have n0 : ¬ b0 = W.heap.size := by have := blk_lt h0; omega
  have n1 : ¬ b1 = W.heap.size := by have := blk_lt h1; omega
  have n2 : ¬ b2 = W.heap.size := by have := blk_lt h2; omega
  have HS := Aside0.mk (BI.start h0 h1 h2)
  clear h0 h1 h2
  have hc0 := HS.out.o
  have ha0 := HS.out.a0
  have ha1 := HS.out.a1
  have ha2 := HS.out.a2
  have hb0 := HS.out.v0
  have hb1 := HS.out.v1
  have hb2 := HS.out.v2
  have q0 : decide (3 ≤ op) = true := decide_eq_true l3
  have q1 : decide (op ≤ 16) = true := decide_eq_true l16
  have q2 : (k != 0) = true := bne_iff_ne.mpr kn
  have q3 : decide (op ≤ 4) = false := decide_eq_false l4
  have q4 : (u.f0 == 0) = true := beq_iff_eq.mpr a0
  have q5 : (v.f0 == 0) = true := beq_iff_eq.mpr z0
  have q6 : (u.f0 == k) = false := beq_eq_false_iff_ne.mpr (fun h => kn (h.symm.trans a0))
  have q7 : (v.f0 == k) = false := beq_eq_false_iff_ne.mpr (fun h => kn (h.symm.trans z0))
  have l3' := Aside0.mk l3
  have l16' := Aside0.mk l16
  have kn' := Aside0.mk kn
  have l4' := Aside0.mk l4
  have a0' := Aside0.mk a0
  have z0' := Aside0.mk z0
  clear l3 l16 kn l4 a0 z0
  go_enter Try.func54, Try.ntmps54
  go_wp2_with (first | (go_at_call 56; (with_reducible refine (calc_wants.calls op k _ HK.out).mono ?_); rintro e w' ⟨rfl, ⟨nd, rfl⟩⟩) | (go_at_call 55; (with_reducible refine (calc_check.yes _ _).mono ?_); rintro e w' ⟨rfl, rfl⟩) | (go_at_call 55; (with_reducible refine (calc_check.no _ _).mono ?_); rintro e w' ⟨rfl, rfl⟩))
  refine bodyPost_ret (v := .agg #[.int .i64 0, .int .i64 0, .string V0]) (by simp [results, Try.results54, go_sem, V0]) rfl ⟨rfl, ?_⟩
  refine below_set3 ?_ (Nat.le_refl W.heap.size) _ _ _ _ _ _
  repeat (first | (with_reducible exact HS.out.bel) | apply pw_below_drewN | apply below_drew1)
set_option maxHeartbeats 2000000 in
set_option maxRecDepth 100000 in
theorem calc_Binary1.nullK10 (op : Int) (u v : S32) (k : Int) (HK : Aside0 (calc_wants.f op = some k)) (b0 b1 b2 : Nat) (W : World) (h0 : W.heap[b0]? = some (.cells #[.int .i64 op] 3 (0, 0))) (h1 : W.heap[b1]? = some (.cells #[.int .i64 u.f0, .int .i64 u.f1, .string u.f2] 32 (0, 0))) (h2 : W.heap[b2]? = some (.cells #[.int .i64 v.f0, .int .i64 v.f1, .string v.f2] 32 (0, 0))) (l3 : 3 ≤ op) (l16 : op ≤ 16) (kn : ¬ k = 0) (l4 : ¬ op ≤ 4) (a0 : u.f0 = 0) (z0 : ¬ v.f0 = 0) (zk : v.f0 = k) :
    Calls Try.prog 54 #[.pointer (some ⟨b0, 0, none⟩), .pointer (some ⟨b1, 0, none⟩), .pointer (some ⟨b2, 0, none⟩)] W (fun e w' => RE (.ok zeroV) e ∧ Below W.heap.size W w') := by
  have hu32 := Try.underlying32
  have n0 : ¬ b0 = W.heap.size := by have := blk_lt h0; omega
  have n1 : ¬ b1 = W.heap.size := by have := blk_lt h1; omega
  have n2 : ¬ b2 = W.heap.size := by have := blk_lt h2; omega
  have HS := Aside0.mk (BI.start h0 h1 h2)
  clear h0 h1 h2
  have hc0 := HS.out.o
  have ha0 := HS.out.a0
  have ha1 := HS.out.a1
  have ha2 := HS.out.a2
  have hb0 := HS.out.v0
  have hb1 := HS.out.v1
  have hb2 := HS.out.v2
  have q0 : decide (3 ≤ op) = true := decide_eq_true l3
  have q1 : decide (op ≤ 16) = true := decide_eq_true l16
  have q2 : (k != 0) = true := bne_iff_ne.mpr kn
  have q3 : decide (op ≤ 4) = false := decide_eq_false l4
  have q4 : (u.f0 == 0) = true := beq_iff_eq.mpr a0
  have q5 : (v.f0 == 0) = false := beq_eq_false_iff_ne.mpr z0
  have q6 : (u.f0 == k) = false := beq_eq_false_iff_ne.mpr (fun h => kn (h.symm.trans a0))
  have q7 : (v.f0 == k) = true := beq_iff_eq.mpr zk
  have l3' := Aside0.mk l3
  have l16' := Aside0.mk l16
  have kn' := Aside0.mk kn
  have l4' := Aside0.mk l4
  have a0' := Aside0.mk a0
  have z0' := Aside0.mk z0
  have zk' := Aside0.mk zk
  clear l3 l16 kn l4 a0 z0 zk
  go_enter Try.func54, Try.ntmps54
  go_wp2_with (first | (go_at_call 56; (with_reducible refine (calc_wants.calls op k _ HK.out).mono ?_); rintro e w' ⟨rfl, ⟨nd, rfl⟩⟩) | (go_at_call 55; (with_reducible refine (calc_check.yes _ _).mono ?_); rintro e w' ⟨rfl, rfl⟩) | (go_at_call 55; (with_reducible refine (calc_check.no _ _).mono ?_); rintro e w' ⟨rfl, rfl⟩))
  refine bodyPost_ret (v := .agg #[.int .i64 0, .int .i64 0, .string V0]) (by simp [results, Try.results54, go_sem, V0]) rfl ⟨rfl, ?_⟩
  refine below_set3 ?_ (Nat.le_refl W.heap.size) _ _ _ _ _ _
  repeat (first | (with_reducible exact HS.out.bel) | apply pw_below_drewN | apply below_drew1)
set_option maxHeartbeats 2000000 in
set_option maxRecDepth 100000 in
theorem calc_Binary1.nullK01 (op : Int) (u v : S32) (k : Int) (HK : Aside0 (calc_wants.f op = some k)) (b0 b1 b2 : Nat) (W : World) (h0 : W.heap[b0]? = some (.cells #[.int .i64 op] 3 (0, 0))) (h1 : W.heap[b1]? = some (.cells #[.int .i64 u.f0, .int .i64 u.f1, .string u.f2] 32 (0, 0))) (h2 : W.heap[b2]? = some (.cells #[.int .i64 v.f0, .int .i64 v.f1, .string v.f2] 32 (0, 0))) (l3 : 3 ≤ op) (l16 : op ≤ 16) (kn : ¬ k = 0) (l4 : ¬ op ≤ 4) (a0 : ¬ u.f0 = 0) (z0 : v.f0 = 0) (ak : u.f0 = k) :
    Calls Try.prog 54 #[.pointer (some ⟨b0, 0, none⟩), .pointer (some ⟨b1, 0, none⟩), .pointer (some ⟨b2, 0, none⟩)] W (fun e w' => RE (.ok zeroV) e ∧ Below W.heap.size W w') := by
  have hu32 := Try.underlying32
  have n0 : ¬ b0 = W.heap.size := by have := blk_lt h0; omega
  have n1 : ¬ b1 = W.heap.size := by have := blk_lt h1; omega
  have n2 : ¬ b2 = W.heap.size := by have := blk_lt h2; omega
  have HS := Aside0.mk (BI.start h0 h1 h2)
  clear h0 h1 h2
  have hc0 := HS.out.o
  have ha0 := HS.out.a0
  have ha1 := HS.out.a1
  have ha2 := HS.out.a2
  have hb0 := HS.out.v0
  have hb1 := HS.out.v1
  have hb2 := HS.out.v2
  have q0 : decide (3 ≤ op) = true := decide_eq_true l3
  have q1 : decide (op ≤ 16) = true := decide_eq_true l16
  have q2 : (k != 0) = true := bne_iff_ne.mpr kn
  have q3 : decide (op ≤ 4) = false := decide_eq_false l4
  have q4 : (u.f0 == 0) = false := beq_eq_false_iff_ne.mpr a0
  have q5 : (v.f0 == 0) = true := beq_iff_eq.mpr z0
  have q6 : (u.f0 == k) = true := beq_iff_eq.mpr ak
  have q7 : (v.f0 == k) = false := beq_eq_false_iff_ne.mpr (fun h => kn (h.symm.trans z0))
  have l3' := Aside0.mk l3
  have l16' := Aside0.mk l16
  have kn' := Aside0.mk kn
  have l4' := Aside0.mk l4
  have a0' := Aside0.mk a0
  have z0' := Aside0.mk z0
  have ak' := Aside0.mk ak
  clear l3 l16 kn l4 a0 z0 ak
  go_enter Try.func54, Try.ntmps54
  go_wp2_with (first | (go_at_call 56; (with_reducible refine (calc_wants.calls op k _ HK.out).mono ?_); rintro e w' ⟨rfl, ⟨nd, rfl⟩⟩) | (go_at_call 55; (with_reducible refine (calc_check.yes _ _).mono ?_); rintro e w' ⟨rfl, rfl⟩) | (go_at_call 55; (with_reducible refine (calc_check.no _ _).mono ?_); rintro e w' ⟨rfl, rfl⟩))
  refine bodyPost_ret (v := .agg #[.int .i64 0, .int .i64 0, .string V0]) (by simp [results, Try.results54, go_sem, V0]) rfl ⟨rfl, ?_⟩
  refine below_set3 ?_ (Nat.le_refl W.heap.size) _ _ _ _ _ _
  repeat (first | (with_reducible exact HS.out.bel) | apply pw_below_drewN | apply below_drew1)
set_option maxHeartbeats 2000000 in
set_option maxRecDepth 100000 in
theorem calc_Binary1.nullA (op : Int) (u v : S32) (k : Int) (HK : Aside0 (calc_wants.f op = some k)) (b0 b1 b2 : Nat) (W : World) (h0 : W.heap[b0]? = some (.cells #[.int .i64 op] 3 (0, 0))) (h1 : W.heap[b1]? = some (.cells #[.int .i64 u.f0, .int .i64 u.f1, .string u.f2] 32 (0, 0))) (h2 : W.heap[b2]? = some (.cells #[.int .i64 v.f0, .int .i64 v.f1, .string v.f2] 32 (0, 0))) (l3 : 3 ≤ op) (l16 : op ≤ 16) (kz : k = 0) (l4 : ¬ op ≤ 4) (a0 : u.f0 = 0) :
    Calls Try.prog 54 #[.pointer (some ⟨b0, 0, none⟩), .pointer (some ⟨b1, 0, none⟩), .pointer (some ⟨b2, 0, none⟩)] W (fun e w' => RE (.ok zeroV) e ∧ Below W.heap.size W w') := by
  have hu32 := Try.underlying32
  have n0 : ¬ b0 = W.heap.size := by have := blk_lt h0; omega
  have n1 : ¬ b1 = W.heap.size := by have := blk_lt h1; omega
  have n2 : ¬ b2 = W.heap.size := by have := blk_lt h2; omega
  have HS := Aside0.mk (BI.start h0 h1 h2)
  clear h0 h1 h2
  have hc0 := HS.out.o
  have ha0 := HS.out.a0
  have ha1 := HS.out.a1
  have ha2 := HS.out.a2
  have hb0 := HS.out.v0
  have hb1 := HS.out.v1
  have hb2 := HS.out.v2
  have q0 : decide (3 ≤ op) = true := decide_eq_true l3
  have q1 : decide (op ≤ 16) = true := decide_eq_true l16
  have q2 : (k != 0) = false := bne_eq_false_iff_eq.mpr kz
  have q3 : decide (op ≤ 4) = false := decide_eq_false l4
  have q4 : (u.f0 == 0) = true := beq_iff_eq.mpr a0
  have l3' := Aside0.mk l3
  have l16' := Aside0.mk l16
  have kz' := Aside0.mk kz
  have l4' := Aside0.mk l4
  have a0' := Aside0.mk a0
  clear l3 l16 kz l4 a0
  go_enter Try.func54, Try.ntmps54
  go_wp2_with (first | (go_at_call 56; (with_reducible refine (calc_wants.calls op k _ HK.out).mono ?_); rintro e w' ⟨rfl, ⟨nd, rfl⟩⟩) | (go_at_call 55; (with_reducible refine (calc_check.yes _ _).mono ?_); rintro e w' ⟨rfl, rfl⟩) | (go_at_call 55; (with_reducible refine (calc_check.no _ _).mono ?_); rintro e w' ⟨rfl, rfl⟩))
  refine bodyPost_ret (v := .agg #[.int .i64 0, .int .i64 0, .string V0]) (by simp [results, Try.results54, go_sem, V0]) rfl ⟨rfl, ?_⟩
  refine below_set3 ?_ (Nat.le_refl W.heap.size) _ _ _ _ _ _
  repeat (first | (with_reducible exact HS.out.bel) | apply pw_below_drewN | apply below_drew1)
set_option maxHeartbeats 2000000 in
set_option maxRecDepth 100000 in
theorem calc_Binary1.nullB (op : Int) (u v : S32) (k : Int) (HK : Aside0 (calc_wants.f op = some k)) (b0 b1 b2 : Nat) (W : World) (h0 : W.heap[b0]? = some (.cells #[.int .i64 op] 3 (0, 0))) (h1 : W.heap[b1]? = some (.cells #[.int .i64 u.f0, .int .i64 u.f1, .string u.f2] 32 (0, 0))) (h2 : W.heap[b2]? = some (.cells #[.int .i64 v.f0, .int .i64 v.f1, .string v.f2] 32 (0, 0))) (l3 : 3 ≤ op) (l16 : op ≤ 16) (kz : k = 0) (l4 : ¬ op ≤ 4) (a0 : ¬ u.f0 = 0) (z0 : v.f0 = 0) :
    Calls Try.prog 54 #[.pointer (some ⟨b0, 0, none⟩), .pointer (some ⟨b1, 0, none⟩), .pointer (some ⟨b2, 0, none⟩)] W (fun e w' => RE (.ok zeroV) e ∧ Below W.heap.size W w') := by
  have hu32 := Try.underlying32
  have n0 : ¬ b0 = W.heap.size := by have := blk_lt h0; omega
  have n1 : ¬ b1 = W.heap.size := by have := blk_lt h1; omega
  have n2 : ¬ b2 = W.heap.size := by have := blk_lt h2; omega
  have HS := Aside0.mk (BI.start h0 h1 h2)
  clear h0 h1 h2
  have hc0 := HS.out.o
  have ha0 := HS.out.a0
  have ha1 := HS.out.a1
  have ha2 := HS.out.a2
  have hb0 := HS.out.v0
  have hb1 := HS.out.v1
  have hb2 := HS.out.v2
  have q0 : decide (3 ≤ op) = true := decide_eq_true l3
  have q1 : decide (op ≤ 16) = true := decide_eq_true l16
  have q2 : (k != 0) = false := bne_eq_false_iff_eq.mpr kz
  have q3 : decide (op ≤ 4) = false := decide_eq_false l4
  have q4 : (u.f0 == 0) = false := beq_eq_false_iff_ne.mpr a0
  have q5 : (v.f0 == 0) = true := beq_iff_eq.mpr z0
  have l3' := Aside0.mk l3
  have l16' := Aside0.mk l16
  have kz' := Aside0.mk kz
  have l4' := Aside0.mk l4
  have a0' := Aside0.mk a0
  have z0' := Aside0.mk z0
  clear l3 l16 kz l4 a0 z0
  go_enter Try.func54, Try.ntmps54
  go_wp2_with (first | (go_at_call 56; (with_reducible refine (calc_wants.calls op k _ HK.out).mono ?_); rintro e w' ⟨rfl, ⟨nd, rfl⟩⟩) | (go_at_call 55; (with_reducible refine (calc_check.yes _ _).mono ?_); rintro e w' ⟨rfl, rfl⟩) | (go_at_call 55; (with_reducible refine (calc_check.no _ _).mono ?_); rintro e w' ⟨rfl, rfl⟩))
  refine bodyPost_ret (v := .agg #[.int .i64 0, .int .i64 0, .string V0]) (by simp [results, Try.results54, go_sem, V0]) rfl ⟨rfl, ?_⟩
  refine below_set3 ?_ (Nat.le_refl W.heap.size) _ _ _ _ _ _
  repeat (first | (with_reducible exact HS.out.bel) | apply pw_below_drewN | apply below_drew1)
set_option maxHeartbeats 2000000 in
set_option maxRecDepth 100000 in
theorem calc_Binary1.catLong (op : Int) (u v : S32) (k : Int) (HK : Aside0 (calc_wants.f op = some k)) (b0 b1 b2 : Nat) (W : World) (h0 : W.heap[b0]? = some (.cells #[.int .i64 op] 3 (0, 0))) (h1 : W.heap[b1]? = some (.cells #[.int .i64 u.f0, .int .i64 u.f1, .string u.f2] 32 (0, 0))) (h2 : W.heap[b2]? = some (.cells #[.int .i64 v.f0, .int .i64 v.f1, .string v.f2] 32 (0, 0))) (l3 : 3 ≤ op) (l16 : op ≤ 16) (kn : ¬ k = 0) (l4 : ¬ op ≤ 4) (l10 : ¬ op ≤ 10) (o16 : op = 16) (a0 : ¬ u.f0 = 0) (z0 : ¬ v.f0 = 0) (ak : u.f0 = k) (zk : v.f0 = k) (hz : u.f2.size + v.f2.size < 9223372036854775808) (hl : ¬ u.f2.size + v.f2.size ≤ 2048) :
    Calls Try.prog 54 #[.pointer (some ⟨b0, 0, none⟩), .pointer (some ⟨b1, 0, none⟩), .pointer (some ⟨b2, 0, none⟩)] W (fun e w' => RE (.error 8) e ∧ Below W.heap.size W w') := by
  have hu32 := Try.underlying32
  have n0 : ¬ b0 = W.heap.size := by have := blk_lt h0; omega
  have n1 : ¬ b1 = W.heap.size := by have := blk_lt h1; omega
  have n2 : ¬ b2 = W.heap.size := by have := blk_lt h2; omega
  have HS := Aside0.mk (BI.start h0 h1 h2)
  clear h0 h1 h2
  have hc0 := HS.out.o
  have ha0 := HS.out.a0
  have ha1 := HS.out.a1
  have ha2 := HS.out.a2
  have hb0 := HS.out.v0
  have hb1 := HS.out.v1
  have hb2 := HS.out.v2
  have q0 : decide (3 ≤ op) = true := decide_eq_true l3
  have q1 : decide (op ≤ 16) = true := decide_eq_true l16
  have q2 : (k != 0) = true := bne_iff_ne.mpr kn
  have q3 : decide (op ≤ 4) = false := decide_eq_false l4
  have q4 : decide (op ≤ 10) = false := decide_eq_false l10
  have q5 : (op == 16) = true := beq_iff_eq.mpr o16
  have q6 : (u.f0 == 0) = false := beq_eq_false_iff_ne.mpr a0
  have q7 : (v.f0 == 0) = false := beq_eq_false_iff_ne.mpr z0
  have q8 : (u.f0 == k) = true := beq_iff_eq.mpr ak
  have q9 : (v.f0 == k) = true := beq_iff_eq.mpr zk
  have q10 : decide ((u.f2.size : Int) + (v.f2.size : Int) ≤ 2048) = false := decide_eq_false (by omega)
  have q11 : decide (wrap64 ((u.f2.size : Int) + (v.f2.size : Int)) ≤ 2048) = false := decide_eq_false (by unfold wrap64; omega)
  have l3' := Aside0.mk l3
  have l16' := Aside0.mk l16
  have kn' := Aside0.mk kn
  have l4' := Aside0.mk l4
  have l10' := Aside0.mk l10
  have o16' := Aside0.mk o16
  have a0' := Aside0.mk a0
  have z0' := Aside0.mk z0
  have ak' := Aside0.mk ak
  have zk' := Aside0.mk zk
  have hz' := Aside0.mk hz
  have hl' := Aside0.mk hl
  clear l3 l16 kn l4 l10 o16 a0 z0 ak zk hz hl
  go_enter Try.func54, Try.ntmps54
  go_wp2_with (first | (go_at_call 56; (with_reducible refine (calc_wants.calls op k _ HK.out).mono ?_); rintro e w' ⟨rfl, ⟨nd, rfl⟩⟩) | (go_at_call 55; (with_reducible refine (calc_check.yes _ _).mono ?_); rintro e w' ⟨rfl, rfl⟩) | (go_at_call 55; (with_reducible refine (calc_check.no _ _).mono ?_); rintro e w' ⟨rfl, rfl⟩))
  exact ⟨rfl, rfl, by repeat (first | exact HS.out.bel | apply pw_below_drewN | apply below_drew1)⟩
set_option maxHeartbeats 2000000 in
set_option maxRecDepth 100000 in
theorem calc_Binary1.cat (op : Int) (u v : S32) (k : Int) (HK : Aside0 (calc_wants.f op = some k)) (b0 b1 b2 : Nat) (W : World) (h0 : W.heap[b0]? = some (.cells #[.int .i64 op] 3 (0, 0))) (h1 : W.heap[b1]? = some (.cells #[.int .i64 u.f0, .int .i64 u.f1, .string u.f2] 32 (0, 0))) (h2 : W.heap[b2]? = some (.cells #[.int .i64 v.f0, .int .i64 v.f1, .string v.f2] 32 (0, 0))) (l3 : 3 ≤ op) (l16 : op ≤ 16) (kn : ¬ k = 0) (l4 : ¬ op ≤ 4) (l10 : ¬ op ≤ 10) (o16 : op = 16) (a0 : ¬ u.f0 = 0) (z0 : ¬ v.f0 = 0) (ak : u.f0 = k) (zk : v.f0 = k) (hz : u.f2.size + v.f2.size < 9223372036854775808) (hl : u.f2.size + v.f2.size ≤ 2048) :
    Calls Try.prog 54 #[.pointer (some ⟨b0, 0, none⟩), .pointer (some ⟨b1, 0, none⟩), .pointer (some ⟨b2, 0, none⟩)] W (fun e w' => RE (.ok ⟨3, 0, u.f2 ++ v.f2⟩) e ∧ Below W.heap.size W w') := by
  have hu32 := Try.underlying32
  have n0 : ¬ b0 = W.heap.size := by have := blk_lt h0; omega
  have n1 : ¬ b1 = W.heap.size := by have := blk_lt h1; omega
  have n2 : ¬ b2 = W.heap.size := by have := blk_lt h2; omega
  have HS := Aside0.mk (BI.start h0 h1 h2)
  clear h0 h1 h2
  have hc0 := HS.out.o
  have ha0 := HS.out.a0
  have ha1 := HS.out.a1
  have ha2 := HS.out.a2
  have hb0 := HS.out.v0
  have hb1 := HS.out.v1
  have hb2 := HS.out.v2
  have q0 : decide (3 ≤ op) = true := decide_eq_true l3
  have q1 : decide (op ≤ 16) = true := decide_eq_true l16
  have q2 : (k != 0) = true := bne_iff_ne.mpr kn
  have q3 : decide (op ≤ 4) = false := decide_eq_false l4
  have q4 : decide (op ≤ 10) = false := decide_eq_false l10
  have q5 : (op == 16) = true := beq_iff_eq.mpr o16
  have q6 : (u.f0 == 0) = false := beq_eq_false_iff_ne.mpr a0
  have q7 : (v.f0 == 0) = false := beq_eq_false_iff_ne.mpr z0
  have q8 : (u.f0 == k) = true := beq_iff_eq.mpr ak
  have q9 : (v.f0 == k) = true := beq_iff_eq.mpr zk
  have q10 : decide ((u.f2.size : Int) + (v.f2.size : Int) ≤ 2048) = true := decide_eq_true (by omega)
  have q11 : decide (wrap64 ((u.f2.size : Int) + (v.f2.size : Int)) ≤ 2048) = true := decide_eq_true (by unfold wrap64; omega)
  have hcat : ¬ (9223372036854775807 < u.f2.size + v.f2.size) := by omega
  have l3' := Aside0.mk l3
  have l16' := Aside0.mk l16
  have kn' := Aside0.mk kn
  have l4' := Aside0.mk l4
  have l10' := Aside0.mk l10
  have o16' := Aside0.mk o16
  have a0' := Aside0.mk a0
  have z0' := Aside0.mk z0
  have ak' := Aside0.mk ak
  have zk' := Aside0.mk zk
  have hz' := Aside0.mk hz
  have hl' := Aside0.mk hl
  clear l3 l16 kn l4 l10 o16 a0 z0 ak zk hz hl
  go_enter Try.func54, Try.ntmps54
  go_wp2_with (first | (go_at_call 56; (with_reducible refine (calc_wants.calls op k _ HK.out).mono ?_); rintro e w' ⟨rfl, ⟨nd, rfl⟩⟩) | (go_at_call 55; (with_reducible refine (calc_check.yes _ _).mono ?_); rintro e w' ⟨rfl, rfl⟩) | (go_at_call 55; (with_reducible refine (calc_check.no _ _).mono ?_); rintro e w' ⟨rfl, rfl⟩))
  refine (calc_text.calls (u.f2 ++ v.f2) _ _ _ _ (show calc_text.f (u.f2 ++ v.f2) = some (3, 0, u.f2 ++ v.f2) from rfl)).mono ?_
  rintro e w1 ⟨rfl, hb⟩
  have HI : Aside0 (BI op u v b0 b1 b2 W w1) := ⟨BI.below (by repeat (first | exact HS.out | refine BI.drewN ?_ _ | refine BI.drew ?_)) hb⟩
  clear hb hc0 ha0 ha1 ha2 hb0 hb1 hb2
  have gc0 : w1.cell? ⟨W.heap.size, 0, none⟩ = some (.int .i64 0) := (blk_cell HI.out.2.2.2.1 0).trans rfl
  have gc1 : w1.cell? ⟨W.heap.size, 1, none⟩ = some (.int .i64 0) := (blk_cell HI.out.2.2.2.1 1).trans rfl
  have gc2 : w1.cell? ⟨W.heap.size, 2, none⟩ = some (.string (⟨#[]⟩ : ByteArray)) := (blk_cell HI.out.2.2.2.1 2).trans rfl
  have gf0 := blk_frozen HI.out.2.2.2.1 0
  have gf1 := blk_frozen HI.out.2.2.2.1 1
  have gf2 := blk_frozen HI.out.2.2.2.1 2
  go_wp2_with fail
  exact bodyPost_ret (v := .agg #[.int .i64 3, .int .i64 0, .string (u.f2 ++ v.f2)]) (by simp [results, Try.results54, go_sem, gc0, gc1, gc2]) rfl ⟨rfl, below_set3 HI.out.bel (Nat.le_refl W.heap.size) _ _ _ _ _ _⟩
set_option maxHeartbeats 2000000 in
set_option maxRecDepth 100000 in
theorem calc_Binary1.num (op : Int) (u v : S32) (k : Int) (HK : Aside0 (calc_wants.f op = some k)) (b0 b1 b2 : Nat) (W : World) (h0 : W.heap[b0]? = some (.cells #[.int .i64 op] 3 (0, 0))) (h1 : W.heap[b1]? = some (.cells #[.int .i64 u.f0, .int .i64 u.f1, .string u.f2] 32 (0, 0))) (h2 : W.heap[b2]? = some (.cells #[.int .i64 v.f0, .int .i64 v.f1, .string v.f2] 32 (0, 0))) (l3 : 3 ≤ op) (l16 : op ≤ 16) (kn : ¬ k = 0) (l4 : ¬ op ≤ 4) (l10 : ¬ op ≤ 10) (o16 : ¬ op = 16) (a0 : ¬ u.f0 = 0) (z0 : ¬ v.f0 = 0) (ak : u.f0 = k) (zk : v.f0 = k) (n : Int) (HN : Aside0 (sumP op u.f1 v.f1 = .ok n)) (HU : Aside0 (In64 u.f1)) (HV : Aside0 (In64 v.f1)) :
    Calls Try.prog 54 #[.pointer (some ⟨b0, 0, none⟩), .pointer (some ⟨b1, 0, none⟩), .pointer (some ⟨b2, 0, none⟩)] W (fun e w' => RE (.ok ⟨2, n, V0⟩) e ∧ Below W.heap.size W w') := by
  have hu32 := Try.underlying32
  have n0 : ¬ b0 = W.heap.size := by have := blk_lt h0; omega
  have n1 : ¬ b1 = W.heap.size := by have := blk_lt h1; omega
  have n2 : ¬ b2 = W.heap.size := by have := blk_lt h2; omega
  have HS := Aside0.mk (BI.start h0 h1 h2)
  clear h0 h1 h2
  have hc0 := HS.out.o
  have ha0 := HS.out.a0
  have ha1 := HS.out.a1
  have ha2 := HS.out.a2
  have hb0 := HS.out.v0
  have hb1 := HS.out.v1
  have hb2 := HS.out.v2
  have q0 : decide (3 ≤ op) = true := decide_eq_true l3
  have q1 : decide (op ≤ 16) = true := decide_eq_true l16
  have q2 : (k != 0) = true := bne_iff_ne.mpr kn
  have q3 : decide (op ≤ 4) = false := decide_eq_false l4
  have q4 : decide (op ≤ 10) = false := decide_eq_false l10
  have q5 : (op == 16) = false := beq_eq_false_iff_ne.mpr o16
  have q6 : (u.f0 == 0) = false := beq_eq_false_iff_ne.mpr a0
  have q7 : (v.f0 == 0) = false := beq_eq_false_iff_ne.mpr z0
  have q8 : (u.f0 == k) = true := beq_iff_eq.mpr ak
  have q9 : (v.f0 == k) = true := beq_iff_eq.mpr zk
  have l3' := Aside0.mk l3
  have l16' := Aside0.mk l16
  have kn' := Aside0.mk kn
  have l4' := Aside0.mk l4
  have l10' := Aside0.mk l10
  have o16' := Aside0.mk o16
  have a0' := Aside0.mk a0
  have z0' := Aside0.mk z0
  have ak' := Aside0.mk ak
  have zk' := Aside0.mk zk
  clear l3 l16 kn l4 l10 o16 a0 z0 ak zk
  go_enter Try.func54, Try.ntmps54
  go_wp2_with (first | (go_at_call 56; (with_reducible refine (calc_wants.calls op k _ HK.out).mono ?_); rintro e w' ⟨rfl, ⟨nd, rfl⟩⟩) | (go_at_call 55; (with_reducible refine (calc_check.yes _ _).mono ?_); rintro e w' ⟨rfl, rfl⟩) | (go_at_call 55; (with_reducible refine (calc_check.no _ _).mono ?_); rintro e w' ⟨rfl, rfl⟩))
  refine (calc_sum.calls op u.f1 v.f1 HU.out HV.out _).mono ?_
  rintro e w' ⟨he, ⟨nd2, rfl⟩⟩
  rw [HN.out] at he
  obtain rfl : e = .returned (.int .i64 n) := he
  go_wp2_with fail
  refine (calc_number.calls n _ _ _ _ (show calc_number.f n = some (2, n, V0) from rfl)).mono ?_
  rintro e w1 ⟨rfl, hb⟩
  have HI : Aside0 (BI op u v b0 b1 b2 W w1) := ⟨BI.below (by repeat (first | exact HS.out | refine BI.drewN ?_ _ | refine BI.drew ?_)) hb⟩
  clear hb hc0 ha0 ha1 ha2 hb0 hb1 hb2
  have gc0 : w1.cell? ⟨W.heap.size, 0, none⟩ = some (.int .i64 0) := (blk_cell HI.out.2.2.2.1 0).trans rfl
  have gc1 : w1.cell? ⟨W.heap.size, 1, none⟩ = some (.int .i64 0) := (blk_cell HI.out.2.2.2.1 1).trans rfl
  have gc2 : w1.cell? ⟨W.heap.size, 2, none⟩ = some (.string (⟨#[]⟩ : ByteArray)) := (blk_cell HI.out.2.2.2.1 2).trans rfl
  have gf0 := blk_frozen HI.out.2.2.2.1 0
  have gf1 := blk_frozen HI.out.2.2.2.1 1
  have gf2 := blk_frozen HI.out.2.2.2.1 2
  go_wp2_with fail
  exact bodyPost_ret (v := .agg #[.int .i64 2, .int .i64 n, .string V0]) (by simp [results, Try.results54, go_sem, gc0, gc1, gc2]) rfl ⟨rfl, below_set3 HI.out.bel (Nat.le_refl W.heap.size) _ _ _ _ _ _⟩
set_option maxHeartbeats 2000000 in
set_option maxRecDepth 100000 in
theorem calc_Binary1.numE (op : Int) (u v : S32) (k : Int) (HK : Aside0 (calc_wants.f op = some k)) (b0 b1 b2 : Nat) (W : World) (h0 : W.heap[b0]? = some (.cells #[.int .i64 op] 3 (0, 0))) (h1 : W.heap[b1]? = some (.cells #[.int .i64 u.f0, .int .i64 u.f1, .string u.f2] 32 (0, 0))) (h2 : W.heap[b2]? = some (.cells #[.int .i64 v.f0, .int .i64 v.f1, .string v.f2] 32 (0, 0))) (l3 : 3 ≤ op) (l16 : op ≤ 16) (kn : ¬ k = 0) (l4 : ¬ op ≤ 4) (l10 : ¬ op ≤ 10) (o16 : ¬ op = 16) (a0 : ¬ u.f0 = 0) (z0 : ¬ v.f0 = 0) (ak : u.f0 = k) (zk : v.f0 = k) (c : Int) (HN : Aside0 (sumP op u.f1 v.f1 = .error c)) (HU : Aside0 (In64 u.f1)) (HV : Aside0 (In64 v.f1)) :
    Calls Try.prog 54 #[.pointer (some ⟨b0, 0, none⟩), .pointer (some ⟨b1, 0, none⟩), .pointer (some ⟨b2, 0, none⟩)] W (fun e w' => RE (.error c) e ∧ Below W.heap.size W w') := by
  have hu32 := Try.underlying32
  have n0 : ¬ b0 = W.heap.size := by have := blk_lt h0; omega
  have n1 : ¬ b1 = W.heap.size := by have := blk_lt h1; omega
  have n2 : ¬ b2 = W.heap.size := by have := blk_lt h2; omega
  have HS := Aside0.mk (BI.start h0 h1 h2)
  clear h0 h1 h2
  have hc0 := HS.out.o
  have ha0 := HS.out.a0
  have ha1 := HS.out.a1
  have ha2 := HS.out.a2
  have hb0 := HS.out.v0
  have hb1 := HS.out.v1
  have hb2 := HS.out.v2
  have q0 : decide (3 ≤ op) = true := decide_eq_true l3
  have q1 : decide (op ≤ 16) = true := decide_eq_true l16
  have q2 : (k != 0) = true := bne_iff_ne.mpr kn
  have q3 : decide (op ≤ 4) = false := decide_eq_false l4
  have q4 : decide (op ≤ 10) = false := decide_eq_false l10
  have q5 : (op == 16) = false := beq_eq_false_iff_ne.mpr o16
  have q6 : (u.f0 == 0) = false := beq_eq_false_iff_ne.mpr a0
  have q7 : (v.f0 == 0) = false := beq_eq_false_iff_ne.mpr z0
  have q8 : (u.f0 == k) = true := beq_iff_eq.mpr ak
  have q9 : (v.f0 == k) = true := beq_iff_eq.mpr zk
  have l3' := Aside0.mk l3
  have l16' := Aside0.mk l16
  have kn' := Aside0.mk kn
  have l4' := Aside0.mk l4
  have l10' := Aside0.mk l10
  have o16' := Aside0.mk o16
  have a0' := Aside0.mk a0
  have z0' := Aside0.mk z0
  have ak' := Aside0.mk ak
  have zk' := Aside0.mk zk
  clear l3 l16 kn l4 l10 o16 a0 z0 ak zk
  go_enter Try.func54, Try.ntmps54
  go_wp2_with (first | (go_at_call 56; (with_reducible refine (calc_wants.calls op k _ HK.out).mono ?_); rintro e w' ⟨rfl, ⟨nd, rfl⟩⟩) | (go_at_call 55; (with_reducible refine (calc_check.yes _ _).mono ?_); rintro e w' ⟨rfl, rfl⟩) | (go_at_call 55; (with_reducible refine (calc_check.no _ _).mono ?_); rintro e w' ⟨rfl, rfl⟩))
  refine (calc_sum.calls op u.f1 v.f1 HU.out HV.out _).mono ?_
  rintro e w' ⟨he, ⟨nd2, rfl⟩⟩
  rw [HN.out] at he
  obtain rfl : e = .panicked [{ v := .iface 24 (.int .i64 c), recovered := false }] := he
  go_wp2_with fail
  exact ⟨rfl, rfl, by repeat (first | exact HS.out.bel | apply pw_below_drewN | apply below_drew1)⟩
end Go.Proofs.Ytgjfciohmgpohaa.P
end
section
namespace Go.Proofs.Ytgjfciohmgpohaa.P
open Go.RowKit Go.Proofs.YtgjfciohmgpohaaW.PrintWords Go.Proofs.YtgjfciohmgpohaaW.PrintLast Go.Proofs.YtgjfciohmgpohaaW.PrintMore
attribute [local go_sem] max2_int min2_int max_two min_two max_three min_three max_four min_four
set_option linter.unusedVariables false
set_option linter.unusedSimpArgs false
attribute [local go_sem high] eqA32
def quarryref02_Number.f (a0 : Int) : Option (Int × Int × ByteArray) := some (2, a0, (⟨#[]⟩ : ByteArray))
set_option maxHeartbeats 8000000 in
set_option maxRecDepth 100000 in
theorem quarryref02_Number.calls (a0 : Int) (r1 : Int) (r2 : Int) (r3 : ByteArray) (w : World) (h : quarryref02_Number.f a0 = some (r1, r2, r3)) :
  Calls Try.prog 20 #[.int .i64 a0] w fun e w' => e = .returned (.agg #[.int .i64 r1, .int .i64 r2, .string r3]) ∧ Below w.heap.size w w' := by
 have hu32 := Try.underlying32
 have HB := Aside0.mk (Below.refl w.heap.size w)
 have H : (some (2, a0, (⟨#[]⟩ : ByteArray))) = some (r1, r2, r3) := h
 clear h
 simp only [Option.some.injEq, Prod.mk.injEq] at H
 obtain ⟨rfl, rfl, rfl⟩ := H
 go_enter Try.func20, Try.ntmps20
 go_wp2_with (first | ((with_reducible refine gate_dst (N := 2) rfl ?_); refine box_event ?hg (N := 2) ?hd (cs := #[.int .i64 0, .int .i64 0, .string (⟨#[]⟩ : ByteArray)]) (t := 32) ?hr ?_; (case hd => rfl); (case hg => rfl); (case hr => first | (go_simp; done) | (go_simp; rfl)); intro gb132 hg w2 hbox hb; have n0_ := Aside0.mk (below_step (by repeat (first | (with_reducible first | exact HB.out | apply below_alloc | apply pw_below_drewN | apply below_drew1) | exact HB.out)) hb); have n1_ := Aside0.mk (hbox); have n2_ := Aside0.mk ((by rw [hg]; exact (below_size (by repeat (first | (with_reducible first | exact HB.out | apply below_alloc | apply pw_below_drewN | apply below_drew1) | exact HB.out))) : w.heap.size ≤ gb132)); have n3_ := Aside0.mk ((by rw [hg]; exact (below_size (by repeat (first | (with_reducible first | exact HB.out | apply below_alloc | apply pw_below_drewN | apply below_drew1) | exact HB.out))) : w.heap.size ≤ gb132)); clear HB; have HB := n0_; have BK132 := n1_; have GW132 := n2_; have GE132 := n3_; clear n0_ n1_ n2_ n3_; clear hb hbox hg; have hcz3_0 : w2.cell? ⟨gb132, 0, none⟩ = some (.int .i64 0) := (blk_cell BK132.out 0).trans rfl; have hcz3_1 : w2.cell? ⟨gb132, 1, none⟩ = some (.int .i64 0) := (blk_cell BK132.out 1).trans rfl; have hcz3_2 : w2.cell? ⟨gb132, 2, none⟩ = some (.string (⟨#[]⟩ : ByteArray)) := (blk_cell BK132.out 2).trans rfl; have hfz3_0 := blk_frozen BK132.out 0; have hfz3_1 := blk_frozen BK132.out 1; have hfz3_2 := blk_frozen BK132.out 2))
 refine bodyPost_ret (results_cell_row rfl _ _ gb132 32 #[.int .i64 2, .int .i64 a0, .string (⟨#[]⟩ : ByteArray)] (0, 0) _ rfl (by (with_reducible repeat (first | refine blk_drewN ?_ _ | refine blk_drew ?_ | refine blk_alloc ?_ _)); refine blk_put (cs := #[.int .i64 2, .int .i64 a0, .string (⟨#[]⟩ : ByteArray)]) ?_ 2 _ rfl; (with_reducible repeat (first | refine blk_drewN ?_ _ | refine blk_drew ?_ | refine blk_alloc ?_ _)); refine blk_put (cs := #[.int .i64 2, .int .i64 0, .string (⟨#[]⟩ : ByteArray)]) ?_ 1 _ rfl; (with_reducible repeat (first | refine blk_drewN ?_ _ | refine blk_drew ?_ | refine blk_alloc ?_ _)); refine blk_put (cs := #[.int .i64 0, .int .i64 0, .string (⟨#[]⟩ : ByteArray)]) ?_ 0 _ rfl; (with_reducible repeat (first | refine blk_drewN ?_ _ | refine blk_drew ?_ | refine blk_alloc ?_ _)); exact BK132.out) Try.underlying32 rfl (by kernel_rfl)) rfl ?_
 exact ⟨by first | rfl | (simp [errW_none, errW_some] <;> rfl) | (simp [*, errW_none, errW_some] <;> rfl), by repeat (first | (with_reducible first | exact HB.out | apply below_alloc | apply pw_below_drewN | apply below_drew1 | refine below_set ?_ GE132.out) | exact HB.out)⟩
def quarryref02_Truth.f (a0 : Bool) : Option (Int × Int × ByteArray) := if a0 = true then (some (1, 1, (⟨#[]⟩ : ByteArray))) else (some (1, 0, (⟨#[]⟩ : ByteArray)))
set_option maxHeartbeats 8000000 in
set_option maxRecDepth 100000 in
theorem quarryref02_Truth.calls (a0 : Bool) (r1 : Int) (r2 : Int) (r3 : ByteArray) (w : World) (h : quarryref02_Truth.f a0 = some (r1, r2, r3)) :
  Calls Try.prog 26 #[.bool a0] w fun e w' => e = .returned (.agg #[.int .i64 r1, .int .i64 r2, .string r3]) ∧ Below w.heap.size w w' := by
 have hu32 := Try.underlying32
 have HB := Aside0.mk (Below.refl w.heap.size w)
 have H : (if a0 = true then (some (1, 1, (⟨#[]⟩ : ByteArray))) else (some (1, 0, (⟨#[]⟩ : ByteArray)))) = some (r1, r2, r3) := h
 clear h
 by_cases c2 : a0 = true
 ·subst c2
  have H1 : (some (1, 1, (⟨#[]⟩ : ByteArray))) = some (r1, r2, r3) := by rw [if_pos rfl] at H; exact H
  clear H
  have H := H1
  clear H1
  simp only [Option.some.injEq, Prod.mk.injEq] at H
  obtain ⟨rfl, rfl, rfl⟩ := H
  go_enter Try.func26, Try.ntmps26
  go_wp2_with (first | ((with_reducible refine gate_dst (N := 2) rfl ?_); refine box_event ?hg (N := 2) ?hd (cs := #[.int .i64 0, .int .i64 0, .string (⟨#[]⟩ : ByteArray)]) (t := 32) ?hr ?_; (case hd => rfl); (case hg => rfl); (case hr => first | (go_simp; done) | (go_simp; rfl)); intro gb133 hg w3 hbox hb; have n0_ := Aside0.mk (below_step (by repeat (first | (with_reducible first | exact HB.out | apply below_alloc | apply pw_below_drewN | apply below_drew1) | exact HB.out)) hb); have n1_ := Aside0.mk (hbox); have n2_ := Aside0.mk ((by rw [hg]; exact (below_size (by repeat (first | (with_reducible first | exact HB.out | apply below_alloc | apply pw_below_drewN | apply below_drew1) | exact HB.out))) : w.heap.size ≤ gb133)); have n3_ := Aside0.mk ((by rw [hg]; exact (below_size (by repeat (first | (with_reducible first | exact HB.out | apply below_alloc | apply pw_below_drewN | apply below_drew1) | exact HB.out))) : w.heap.size ≤ gb133)); clear HB; have HB := n0_; have BK133 := n1_; have GW133 := n2_; have GE133 := n3_; clear n0_ n1_ n2_ n3_; clear hb hbox hg; have hcz4_0 : w3.cell? ⟨gb133, 0, none⟩ = some (.int .i64 0) := (blk_cell BK133.out 0).trans rfl; have hcz4_1 : w3.cell? ⟨gb133, 1, none⟩ = some (.int .i64 0) := (blk_cell BK133.out 1).trans rfl; have hcz4_2 : w3.cell? ⟨gb133, 2, none⟩ = some (.string (⟨#[]⟩ : ByteArray)) := (blk_cell BK133.out 2).trans rfl; have hfz4_0 := blk_frozen BK133.out 0; have hfz4_1 := blk_frozen BK133.out 1; have hfz4_2 := blk_frozen BK133.out 2))
  refine bodyPost_ret (results_cell_row rfl _ _ gb133 32 #[.int .i64 1, .int .i64 1, .string (⟨#[]⟩ : ByteArray)] (0, 0) _ rfl (by (with_reducible repeat (first | refine blk_drewN ?_ _ | refine blk_drew ?_ | refine blk_alloc ?_ _)); refine blk_put (cs := #[.int .i64 1, .int .i64 1, .string (⟨#[]⟩ : ByteArray)]) ?_ 2 _ rfl; (with_reducible repeat (first | refine blk_drewN ?_ _ | refine blk_drew ?_ | refine blk_alloc ?_ _)); refine blk_put (cs := #[.int .i64 1, .int .i64 0, .string (⟨#[]⟩ : ByteArray)]) ?_ 1 _ rfl; (with_reducible repeat (first | refine blk_drewN ?_ _ | refine blk_drew ?_ | refine blk_alloc ?_ _)); refine blk_put (cs := #[.int .i64 0, .int .i64 0, .string (⟨#[]⟩ : ByteArray)]) ?_ 0 _ rfl; (with_reducible repeat (first | refine blk_drewN ?_ _ | refine blk_drew ?_ | refine blk_alloc ?_ _)); exact BK133.out) Try.underlying32 rfl (by kernel_rfl)) rfl ?_
  exact ⟨by first | rfl | (simp [errW_none, errW_some] <;> rfl) | (simp [*, errW_none, errW_some] <;> rfl), by repeat (first | (with_reducible first | exact HB.out | apply below_alloc | apply pw_below_drewN | apply below_drew1 | refine below_set ?_ GE133.out) | exact HB.out)⟩
 ·replace c2 := Bool.eq_false_iff.mpr c2
  subst c2
  have H1 : (some (1, 0, (⟨#[]⟩ : ByteArray))) = some (r1, r2, r3) := by rw [if_neg (show ¬ (false = true) by decide)] at H; exact H
  clear H
  have H := H1
  clear H1
  simp only [Option.some.injEq, Prod.mk.injEq] at H
  obtain ⟨rfl, rfl, rfl⟩ := H
  go_enter Try.func26, Try.ntmps26
  go_wp2_with (first | ((with_reducible refine gate_dst (N := 2) rfl ?_); refine box_event ?hg (N := 2) ?hd (cs := #[.int .i64 0, .int .i64 0, .string (⟨#[]⟩ : ByteArray)]) (t := 32) ?hr ?_; (case hd => rfl); (case hg => rfl); (case hr => first | (go_simp; done) | (go_simp; rfl)); intro gb133 hg w5 hbox hb; have n0_ := Aside0.mk (below_step (by repeat (first | (with_reducible first | exact HB.out | apply below_alloc | apply pw_below_drewN | apply below_drew1) | exact HB.out)) hb); have n1_ := Aside0.mk (hbox); have n2_ := Aside0.mk ((by rw [hg]; exact (below_size (by repeat (first | (with_reducible first | exact HB.out | apply below_alloc | apply pw_below_drewN | apply below_drew1) | exact HB.out))) : w.heap.size ≤ gb133)); have n3_ := Aside0.mk ((by rw [hg]; exact (below_size (by repeat (first | (with_reducible first | exact HB.out | apply below_alloc | apply pw_below_drewN | apply below_drew1) | exact HB.out))) : w.heap.size ≤ gb133)); clear HB; have HB := n0_; have BK133 := n1_; have GW133 := n2_; have GE133 := n3_; clear n0_ n1_ n2_ n3_; clear hb hbox hg; have hcz6_0 : w5.cell? ⟨gb133, 0, none⟩ = some (.int .i64 0) := (blk_cell BK133.out 0).trans rfl; have hcz6_1 : w5.cell? ⟨gb133, 1, none⟩ = some (.int .i64 0) := (blk_cell BK133.out 1).trans rfl; have hcz6_2 : w5.cell? ⟨gb133, 2, none⟩ = some (.string (⟨#[]⟩ : ByteArray)) := (blk_cell BK133.out 2).trans rfl; have hfz6_0 := blk_frozen BK133.out 0; have hfz6_1 := blk_frozen BK133.out 1; have hfz6_2 := blk_frozen BK133.out 2))
  refine bodyPost_ret (results_cell_row rfl _ _ gb133 32 #[.int .i64 1, .int .i64 0, .string (⟨#[]⟩ : ByteArray)] (0, 0) _ rfl (by (with_reducible repeat (first | refine blk_drewN ?_ _ | refine blk_drew ?_ | refine blk_alloc ?_ _)); refine blk_put (cs := #[.int .i64 1, .int .i64 0, .string (⟨#[]⟩ : ByteArray)]) ?_ 2 _ rfl; (with_reducible repeat (first | refine blk_drewN ?_ _ | refine blk_drew ?_ | refine blk_alloc ?_ _)); refine blk_put (cs := #[.int .i64 1, .int .i64 0, .string (⟨#[]⟩ : ByteArray)]) ?_ 1 _ rfl; (with_reducible repeat (first | refine blk_drewN ?_ _ | refine blk_drew ?_ | refine blk_alloc ?_ _)); refine blk_put (cs := #[.int .i64 0, .int .i64 0, .string (⟨#[]⟩ : ByteArray)]) ?_ 0 _ rfl; (with_reducible repeat (first | refine blk_drewN ?_ _ | refine blk_drew ?_ | refine blk_alloc ?_ _)); exact BK133.out) Try.underlying32 rfl (by kernel_rfl)) rfl ?_
  exact ⟨by first | rfl | (simp [errW_none, errW_some] <;> rfl) | (simp [*, errW_none, errW_some] <;> rfl), by repeat (first | (with_reducible first | exact HB.out | apply below_alloc | apply pw_below_drewN | apply below_drew1 | refine below_set ?_ GE133.out) | exact HB.out)⟩
def quarryref02_text.f (a0 : ByteArray) : Option (Int × Int × ByteArray) := some (3, 0, a0)
set_option maxHeartbeats 8000000 in
set_option maxRecDepth 100000 in
theorem quarryref02_text.calls (a0 : ByteArray) (r1 : Int) (r2 : Int) (r3 : ByteArray) (w : World) (h : quarryref02_text.f a0 = some (r1, r2, r3)) :
  Calls Try.prog 28 #[.string a0] w fun e w' => e = .returned (.agg #[.int .i64 r1, .int .i64 r2, .string r3]) ∧ Below w.heap.size w w' := by
 have hu32 := Try.underlying32
 have HB := Aside0.mk (Below.refl w.heap.size w)
 have H : (some (3, 0, a0)) = some (r1, r2, r3) := h
 clear h
 simp only [Option.some.injEq, Prod.mk.injEq] at H
 obtain ⟨rfl, rfl, rfl⟩ := H
 go_enter Try.func28, Try.ntmps28
 go_wp2_with (first | ((with_reducible refine gate_dst (N := 2) rfl ?_); refine box_event ?hg (N := 2) ?hd (cs := #[.int .i64 0, .int .i64 0, .string (⟨#[]⟩ : ByteArray)]) (t := 32) ?hr ?_; (case hd => rfl); (case hg => rfl); (case hr => first | (go_simp; done) | (go_simp; rfl)); intro gb146 hg w2 hbox hb; have n0_ := Aside0.mk (below_step (by repeat (first | (with_reducible first | exact HB.out | apply below_alloc | apply pw_below_drewN | apply below_drew1) | exact HB.out)) hb); have n1_ := Aside0.mk (hbox); have n2_ := Aside0.mk ((by rw [hg]; exact (below_size (by repeat (first | (with_reducible first | exact HB.out | apply below_alloc | apply pw_below_drewN | apply below_drew1) | exact HB.out))) : w.heap.size ≤ gb146)); have n3_ := Aside0.mk ((by rw [hg]; exact (below_size (by repeat (first | (with_reducible first | exact HB.out | apply below_alloc | apply pw_below_drewN | apply below_drew1) | exact HB.out))) : w.heap.size ≤ gb146)); clear HB; have HB := n0_; have BK146 := n1_; have GW146 := n2_; have GE146 := n3_; clear n0_ n1_ n2_ n3_; clear hb hbox hg; have hcz3_0 : w2.cell? ⟨gb146, 0, none⟩ = some (.int .i64 0) := (blk_cell BK146.out 0).trans rfl; have hcz3_1 : w2.cell? ⟨gb146, 1, none⟩ = some (.int .i64 0) := (blk_cell BK146.out 1).trans rfl; have hcz3_2 : w2.cell? ⟨gb146, 2, none⟩ = some (.string (⟨#[]⟩ : ByteArray)) := (blk_cell BK146.out 2).trans rfl; have hfz3_0 := blk_frozen BK146.out 0; have hfz3_1 := blk_frozen BK146.out 1; have hfz3_2 := blk_frozen BK146.out 2))
 refine bodyPost_ret (results_cell_row rfl _ _ gb146 32 #[.int .i64 3, .int .i64 0, .string a0] (0, 0) _ rfl (by (with_reducible repeat (first | refine blk_drewN ?_ _ | refine blk_drew ?_ | refine blk_alloc ?_ _)); refine blk_put (cs := #[.int .i64 3, .int .i64 0, .string (⟨#[]⟩ : ByteArray)]) ?_ 2 _ rfl; (with_reducible repeat (first | refine blk_drewN ?_ _ | refine blk_drew ?_ | refine blk_alloc ?_ _)); refine blk_put (cs := #[.int .i64 3, .int .i64 0, .string (⟨#[]⟩ : ByteArray)]) ?_ 1 _ rfl; (with_reducible repeat (first | refine blk_drewN ?_ _ | refine blk_drew ?_ | refine blk_alloc ?_ _)); refine blk_put (cs := #[.int .i64 0, .int .i64 0, .string (⟨#[]⟩ : ByteArray)]) ?_ 0 _ rfl; (with_reducible repeat (first | refine blk_drewN ?_ _ | refine blk_drew ?_ | refine blk_alloc ?_ _)); exact BK146.out) Try.underlying32 rfl (by kernel_rfl)) rfl ?_
 exact ⟨by first | rfl | (simp [errW_none, errW_some] <;> rfl) | (simp [*, errW_none, errW_some] <;> rfl), by repeat (first | (with_reducible first | exact HB.out | apply below_alloc | apply pw_below_drewN | apply below_drew1 | refine below_set ?_ GE146.out) | exact HB.out)⟩
end Go.Proofs.Ytgjfciohmgpohaa.P
end
section
namespace Go.Proofs.Ytgjfciohmgpohaa.P
open Go.RowKit Go.Proofs.YtgjfciohmgpohaaW.PrintWords Go.Proofs.YtgjfciohmgpohaaW.PrintLast Go.Proofs.YtgjfciohmgpohaaW.PrintMore
attribute [local go_sem] max2_int min2_int max_two min_two max_three min_three max_four min_four
set_option linter.unusedVariables false
set_option linter.unusedSimpArgs false
attribute [local go_sem high] eqA32
mutual
def quarryref02_goes.j0 : Nat → Int → Int → Bool → Option (Bool)
 | 0, _, _, _ => none
 | k + 1, x0, x1, x5 => if x5 = true then (some true) else (if x0 = 3 then (quarryref02_goes.j1 k x0 x1 (x0 == 3)) else (quarryref02_goes.j1 k x0 x1 (x0 == 4)))
def quarryref02_goes.j1 : Nat → Int → Int → Bool → Option (Bool)
 | 0, _, _, _ => none
 | k + 1, x0, x1, x14 => if x14 = true then (some (x1 == 1)) else (if x0 = 16 then (some (x1 == 3)) else (some (x1 == 2)))
end
def quarryref02_goes.f (k : Nat) (a0 : Int) (a1 : Int) : Option (Bool) := if a1 = 0 then (quarryref02_goes.j0 k a0 a1 (a1 == 0)) else (if a0 ≥ 5 then (quarryref02_goes.j0 k a0 a1 (decide (a0 ≤ 10))) else (quarryref02_goes.j0 k a0 a1 false))
set_option maxHeartbeats 8000000 in
set_option maxRecDepth 100000 in
theorem quarryref02_goes.calls (k : Nat) (a0 : Int) (a1 : Int) (r : Bool) (w : World) (h : quarryref02_goes.f k a0 a1 = some r) :
  Calls Try.prog 24 #[.int .i64 a0, .int .i64 a1] w fun e w' => e = .returned (.bool r) ∧ Drawn0 w w' := by
 have H : (if a1 = 0 then (quarryref02_goes.j0 k a0 a1 (a1 == 0)) else (if a0 ≥ 5 then (quarryref02_goes.j0 k a0 a1 (decide (a0 ≤ 10))) else (quarryref02_goes.j0 k a0 a1 false))) = some r := h
 clear h
 have HC3 := Aside0.mk H
 clear H
 go_enter Try.func24, Try.ntmps24
 go_upto_if 5 with (fail)
 go_cut [5] (fun v5 wc => ∃ (kq : Nat) (x5_2 : Bool), v5 = .bool x5_2 ∧ Aside0 (quarryref02_goes.j0 kq a0 a1 x5_2 = some r) ∧ Aside0 (kq ≤ k) ∧ Drawn0 w wc)
 case first =>
  have H := HC3.out
  clear HC3
  by_cases c4 : a1 = 0
  ·rw [if_pos c4] at H
   have c4b0 : (a1 == 0) = true := beq_iff_eq.mpr c4
   have c4b1 : (a1 != 0) = false := bne_eq_false_iff_eq.mpr c4
   clear c4
   (first | rw [c4b0] | (simp only [i64_w, i32_w]; rw [c4b0]) | skip)
   have H' := Aside0.mk H
   clear H
   go_wp2
   go_meet
   case rel => exact ⟨_, ((a1 == 0)), (by first | rfl | (simp; done) | (simp [*]; done)), H', ⟨by first | omega | exact Nat.le_refl _⟩, by repeat (first | exact Drawn0.refl _ | apply Drawn0.step)⟩
  ·rw [if_neg c4] at H
   have c4b0 : (a1 == 0) = false := beq_eq_false_iff_ne.mpr c4
   have c4b1 : (a1 != 0) = true := bne_iff_ne.mpr c4
   (first | rw [c4b0] | (simp only [i64_w, i32_w]; rw [c4b0]) | skip)
   by_cases c5 : a0 ≥ 5
   ·rw [if_pos c5] at H
    have c5b0 : decide (5 ≤ a0) = true := decide_eq_true c5
    clear c5
    have H' := Aside0.mk H
    clear H
    go_wp2
    go_meet
    case rel => exact ⟨_, (decide (a0 ≤ 10)), (by first | rfl | (simp; done) | (simp [*]; done)), H', ⟨by first | omega | exact Nat.le_refl _⟩, by repeat (first | exact Drawn0.refl _ | apply Drawn0.step)⟩
   ·rw [if_neg c5] at H
    have c5b0 : decide (5 ≤ a0) = false := decide_eq_false c5
    clear c5
    have H' := Aside0.mk H
    clear H
    go_wp2
    go_meet
    case rel => exact ⟨_, (false), (by first | rfl | (simp; done) | (simp [*]; done)), H', ⟨by first | omega | exact Nat.le_refl _⟩, by repeat (first | exact Drawn0.refl _ | apply Drawn0.step)⟩
 case rest =>
  clear HC3
  try clear c2
  try clear p2
  try clear c4
  try clear c4b0
  try clear c4b1
  try clear c5
  try clear c5b0
  obtain ⟨kq, x5_2, rfl, HA, HJ2, ⟨mc2, rfl⟩⟩ := hcut
  cases kq with
  | zero => exact absurd HA.out (by simp [quarryref02_goes.j0])
  | succ kj2 =>
   have H := HA.out
   clear HA
   simp only [quarryref02_goes.j0] at H
   by_cases c6 : x5_2 = true
   ·subst c6
    have H1 : (some true) = some r := by rw [if_pos rfl] at H; exact H
    clear H
    have H := H1
    clear H1
    obtain rfl := Option.some.inj H
    go_wp2
    go_ret
    exact ⟨by first | rfl | (simp; done) | (simp [*]; done), by repeat (first | exact Drawn0.refl _ | apply Drawn0.step)⟩
   ·replace c6 := Bool.eq_false_iff.mpr c6
    subst c6
    have H1 : (if a0 = 3 then (quarryref02_goes.j1 kj2 a0 a1 (a0 == 3)) else (quarryref02_goes.j1 kj2 a0 a1 (a0 == 4))) = some r := by rw [if_neg (show ¬ (false = true) by decide)] at H; exact H
    clear H
    have H := H1
    clear H1
    have HC7 := Aside0.mk H
    clear H
    go_upto_if 14 with (fail)
    go_cut [14] (fun v14 wc => ∃ (kq : Nat) (x14_6 : Bool), v14 = .bool x14_6 ∧ Aside0 (quarryref02_goes.j1 kq a0 a1 x14_6 = some r) ∧ Aside0 (kq ≤ kj2) ∧ Drawn0 w wc)
    case first =>
     have H := HC7.out
     clear HC7
     by_cases c8 : a0 = 3
     ·rw [if_pos c8] at H
      have c8b0 : (a0 == 3) = true := beq_iff_eq.mpr c8
      have c8b1 : (a0 != 3) = false := bne_eq_false_iff_eq.mpr c8
      clear c8
      (first | rw [c8b0] | (simp only [i64_w, i32_w]; rw [c8b0]) | skip)
      have H' := Aside0.mk H
      clear H
      go_wp2
      go_meet
      case rel => exact ⟨_, ((a0 == 3)), (by first | rfl | (simp; done) | (simp [*]; done)), H', ⟨by have := HJ2.out; first | omega | exact Nat.le_refl _⟩, by repeat (first | exact Drawn0.refl _ | apply Drawn0.step)⟩
     ·rw [if_neg c8] at H
      have c8b0 : (a0 == 3) = false := beq_eq_false_iff_ne.mpr c8
      have c8b1 : (a0 != 3) = true := bne_iff_ne.mpr c8
      (first | rw [c8b0] | (simp only [i64_w, i32_w]; rw [c8b0]) | skip)
      have H' := Aside0.mk H
      clear H
      go_wp2
      go_meet
      case rel => exact ⟨_, ((a0 == 4)), (by first | rfl | (simp; done) | (simp [*]; done)), H', ⟨by have := HJ2.out; first | omega | exact Nat.le_refl _⟩, by repeat (first | exact Drawn0.refl _ | apply Drawn0.step)⟩
    case rest =>
     clear HC7
     try clear c2
     try clear p2
     try clear c4
     try clear c4b0
     try clear c4b1
     try clear c5
     try clear c5b0
     try clear c6
     try clear c8
     try clear c8b0
     try clear c8b1
     try clear p2
     obtain ⟨kq, x14_6, rfl, HA, HJ6, ⟨mc6, rfl⟩⟩ := hcut
     cases kq with
     | zero => exact absurd HA.out (by simp [quarryref02_goes.j1])
     | succ kj6 =>
      have H := HA.out
      clear HA
      simp only [quarryref02_goes.j1] at H
      by_cases c9 : x14_6 = true
      ·subst c9
       have H1 : (some (a1 == 1)) = some r := by rw [if_pos rfl] at H; exact H
       clear H
       have H := H1
       clear H1
       obtain rfl := Option.some.inj H
       go_wp2
       go_ret
       exact ⟨by first | rfl | (simp; done) | (simp [*]; done), by repeat (first | exact Drawn0.refl _ | apply Drawn0.step)⟩
      ·replace c9 := Bool.eq_false_iff.mpr c9
       subst c9
       have H1 : (if a0 = 16 then (some (a1 == 3)) else (some (a1 == 2))) = some r := by rw [if_neg (show ¬ (false = true) by decide)] at H; exact H
       clear H
       have H := H1
       clear H1
       by_cases c10 : a0 = 16
       ·rw [if_pos c10] at H
        have c10b0 : (a0 == 16) = true := beq_iff_eq.mpr c10
        have c10b1 : (a0 != 16) = false := bne_eq_false_iff_eq.mpr c10
        clear c10
        obtain rfl := Option.some.inj H
        go_wp2
        go_ret
        exact ⟨by first | rfl | (simp; done) | (simp [*]; done), by repeat (first | exact Drawn0.refl _ | apply Drawn0.step)⟩
       ·rw [if_neg c10] at H
        have c10b0 : (a0 == 16) = false := beq_eq_false_iff_ne.mpr c10
        have c10b1 : (a0 != 16) = true := bne_iff_ne.mpr c10
        obtain rfl := Option.some.inj H
        go_wp2
        go_ret
        exact ⟨by first | rfl | (simp; done) | (simp [*]; done), by repeat (first | exact Drawn0.refl _ | apply Drawn0.step)⟩
def quarryref02_logic.j0 : Nat → Int → Bool → Int → Int → ByteArray → Int → Int → ByteArray → Int → Int → ByteArray → Option (Int × Int × ByteArray)
 | 0, _, _, _, _, _, _, _, _, _, _, _ => none
 | k + 1, x0, x18, x135000, x135001, x135002, x136000, x136001, x136002, x141000, x141001, x141002 => if x18 = true then (some (x141000, x141001, x141002)) else (if x135000 = 0 then (some (0, 0, (⟨#[]⟩ : ByteArray))) else (if x136000 = 0 then (some (0, 0, (⟨#[]⟩ : ByteArray))) else ((quarryref02_Truth.f (x0 == 4)).bind fun bt141 => (some (bt141.1, bt141.2.1, bt141.2.2)))))
def quarryref02_logic.f (k : Nat) (a0 : Int) (a1_0 : Int) (a1_1 : Int) (a1_2 : ByteArray) (a2_0 : Int) (a2_1 : Int) (a2_2 : ByteArray) : Option (Int × Int × ByteArray) := (quarryref02_Truth.f (a0 == 3)).bind fun bt137 => (if (a1_0 == bt137.1 && (a1_1 == bt137.2.1 && (a1_2.toList == bt137.2.2.toList))) = true then (quarryref02_logic.j0 k a0 true a1_0 a1_1 a1_2 a2_0 a2_1 a2_2 bt137.1 bt137.2.1 bt137.2.2) else (quarryref02_logic.j0 k a0 (a2_0 == bt137.1 && (a2_1 == bt137.2.1 && (a2_2.toList == bt137.2.2.toList))) a1_0 a1_1 a1_2 a2_0 a2_1 a2_2 bt137.1 bt137.2.1 bt137.2.2))
set_option maxHeartbeats 8000000 in
set_option maxRecDepth 100000 in
theorem quarryref02_logic.calls (k : Nat) (a0 : Int) (a1_0 : Int) (a1_1 : Int) (a1_2 : ByteArray) (a2_0 : Int) (a2_1 : Int) (a2_2 : ByteArray) (r1 : Int) (r2 : Int) (r3 : ByteArray) (w : World) (h : quarryref02_logic.f k a0 a1_0 a1_1 a1_2 a2_0 a2_1 a2_2 = some (r1, r2, r3)) :
  Calls Try.prog 25 #[.int .i64 a0, .agg #[.int .i64 a1_0, .int .i64 a1_1, .string a1_2], .agg #[.int .i64 a2_0, .int .i64 a2_1, .string a2_2]] w fun e w' => e = .returned (.agg #[.int .i64 r1, .int .i64 r2, .string r3]) ∧ Below w.heap.size w w' := by
 have hu32 := Try.underlying32
 have HB := Aside0.mk (Below.refl w.heap.size w)
 have H : ((quarryref02_Truth.f (a0 == 3)).bind fun bt137 => (if (a1_0 == bt137.1 && (a1_1 == bt137.2.1 && (a1_2.toList == bt137.2.2.toList))) = true then (quarryref02_logic.j0 k a0 true a1_0 a1_1 a1_2 a2_0 a2_1 a2_2 bt137.1 bt137.2.1 bt137.2.2) else (quarryref02_logic.j0 k a0 (a2_0 == bt137.1 && (a2_1 == bt137.2.1 && (a2_2.toList == bt137.2.2.toList))) a1_0 a1_1 a1_2 a2_0 a2_1 a2_2 bt137.1 bt137.2.1 bt137.2.2))) = some (r1, r2, r3) := h
 clear h
 replace H := Option.bind_eq_some_iff.mp H
 obtain ⟨⟨t137, t138, t139⟩, A40, H⟩ := H
 replace H : (if (a1_0 == t137 && (a1_1 == t138 && (a1_2.toList == t139.toList))) = true then (quarryref02_logic.j0 k a0 true a1_0 a1_1 a1_2 a2_0 a2_1 a2_2 t137 t138 t139) else (quarryref02_logic.j0 k a0 (a2_0 == t137 && (a2_1 == t138 && (a2_2.toList == t139.toList))) a1_0 a1_1 a1_2 a2_0 a2_1 a2_2 t137 t138 t139)) = some (r1, r2, r3) := H
 have A4 := Aside0.mk A40
 clear A40
 have HC5 := Aside0.mk H
 clear H
 go_enter Try.func25, Try.ntmps25
 go_upto_region 2 with (first | ((with_reducible refine gate_dst (N := 4) rfl ?_); refine box_event ?hg (N := 4) ?hd (cs := #[.int .i64 a1_0, .int .i64 a1_1, .string a1_2]) (t := 32) ?hr ?_; (case hd => rfl); (case hg => rfl); (case hr => first | (go_simp; done) | (go_simp; rfl)); intro gb134 hg w6 hbox hb; have n0_ := Aside0.mk (below_step (by repeat (first | (with_reducible first | exact HB.out | apply below_alloc | apply pw_below_drewN | apply below_drew1) | exact HB.out)) hb); have n1_ := Aside0.mk (hbox); have n2_ := Aside0.mk ((by rw [hg]; exact (below_size (by repeat (first | (with_reducible first | exact HB.out | apply below_alloc | apply pw_below_drewN | apply below_drew1) | exact HB.out))) : w.heap.size ≤ gb134)); have n3_ := Aside0.mk ((by rw [hg]; exact (below_size (by repeat (first | (with_reducible first | exact HB.out | apply below_alloc | apply pw_below_drewN | apply below_drew1) | exact HB.out))) : w.heap.size ≤ gb134)); clear HB; have HB := n0_; have BK134 := n1_; have GW134 := n2_; have GE134 := n3_; clear n0_ n1_ n2_ n3_; clear hb hbox hg) | ((with_reducible refine gate_dst (N := 5) rfl ?_); refine box_event ?hg (N := 5) ?hd (cs := #[.int .i64 a2_0, .int .i64 a2_1, .string a2_2]) (t := 32) ?hr ?_; (case hd => rfl); (case hg => rfl); (case hr => first | (go_simp; done) | (go_simp; rfl)); intro gb135 hg w7 hbox hb; have n0_ := Aside0.mk (blk_below (g := gb134) (o := .cells #[.int .i64 a1_0, .int .i64 a1_1, .string a1_2] 32 (0, 0)) (bk_ BK134) hb); have n1_ := Aside0.mk (below_step (by repeat (first | (with_reducible first | exact HB.out | apply below_alloc | apply pw_below_drewN | apply below_drew1 | refine below_set ?_ GE134.out) | exact HB.out)) hb); have n2_ := Aside0.mk (hbox); have n3_ := Aside0.mk ((by rw [hg]; exact (below_size (by repeat (first | (with_reducible first | exact HB.out | apply below_alloc | apply pw_below_drewN | apply below_drew1 | refine below_set ?_ GE134.out) | exact HB.out))) : w.heap.size ≤ gb135)); have n4_ := Aside0.mk ((by rw [hg]; exact (below_size (by repeat (first | (with_reducible first | exact HB.out | apply below_alloc | apply pw_below_drewN | apply below_drew1 | refine below_set ?_ GE134.out) | exact HB.out))) : w.heap.size ≤ gb135)); have n5_ := Aside0.mk ((by rw [hg]; exact Nat.ne_of_lt (blk_lt (g := gb134) (o := .cells #[.int .i64 a1_0, .int .i64 a1_1, .string a1_2] 32 (0, 0)) (bk_ BK134)) : gb134 ≠ gb135)); have n6_ := Aside0.mk ((by rw [hg]; exact Nat.ne_of_gt (blk_lt (g := gb134) (o := .cells #[.int .i64 a1_0, .int .i64 a1_1, .string a1_2] 32 (0, 0)) (bk_ BK134)) : gb135 ≠ gb134)); clear BK134; clear HB; have BK134 := n0_; have HB := n1_; have BK135 := n2_; have GW135 := n3_; have GE135 := n4_; have NB134_135 := n5_; have NB135_134 := n6_; clear n0_ n1_ n2_ n3_ n4_ n5_ n6_; clear hb hbox hg) | ((with_reducible refine gate_dst (N := 6) rfl ?_); refine box_event ?hg (N := 6) ?hd (cs := #[.int .i64 0, .int .i64 0, .string (⟨#[]⟩ : ByteArray)]) (t := 32) ?hr ?_; (case hd => rfl); (case hg => rfl); (case hr => first | (go_simp; done) | (go_simp; rfl)); intro gb136 hg w8 hbox hb; have n0_ := Aside0.mk (blk_below (g := gb134) (o := .cells #[.int .i64 a1_0, .int .i64 a1_1, .string a1_2] 32 (0, 0)) (bk_ BK134) hb); have n1_ := Aside0.mk (blk_below (g := gb135) (o := .cells #[.int .i64 a2_0, .int .i64 a2_1, .string a2_2] 32 (0, 0)) (bk_ BK135) hb); have n2_ := Aside0.mk (below_step (by repeat (first | (with_reducible first | exact HB.out | apply below_alloc | apply pw_below_drewN | apply below_drew1 | refine below_set ?_ GE134.out | refine below_set ?_ GE135.out) | exact HB.out)) hb); have n3_ := Aside0.mk (hbox); have n4_ := Aside0.mk ((by rw [hg]; exact (below_size (by repeat (first | (with_reducible first | exact HB.out | apply below_alloc | apply pw_below_drewN | apply below_drew1 | refine below_set ?_ GE134.out | refine below_set ?_ GE135.out) | exact HB.out))) : w.heap.size ≤ gb136)); have n5_ := Aside0.mk ((by rw [hg]; exact (below_size (by repeat (first | (with_reducible first | exact HB.out | apply below_alloc | apply pw_below_drewN | apply below_drew1 | refine below_set ?_ GE134.out | refine below_set ?_ GE135.out) | exact HB.out))) : w.heap.size ≤ gb136)); have n6_ := Aside0.mk ((by rw [hg]; exact Nat.ne_of_lt (blk_lt (g := gb134) (o := .cells #[.int .i64 a1_0, .int .i64 a1_1, .string a1_2] 32 (0, 0)) (bk_ BK134)) : gb134 ≠ gb136)); have n7_ := Aside0.mk ((by rw [hg]; exact Nat.ne_of_gt (blk_lt (g := gb134) (o := .cells #[.int .i64 a1_0, .int .i64 a1_1, .string a1_2] 32 (0, 0)) (bk_ BK134)) : gb136 ≠ gb134)); have n8_ := Aside0.mk ((by rw [hg]; exact Nat.ne_of_lt (blk_lt (g := gb135) (o := .cells #[.int .i64 a2_0, .int .i64 a2_1, .string a2_2] 32 (0, 0)) (bk_ BK135)) : gb135 ≠ gb136)); have n9_ := Aside0.mk ((by rw [hg]; exact Nat.ne_of_gt (blk_lt (g := gb135) (o := .cells #[.int .i64 a2_0, .int .i64 a2_1, .string a2_2] 32 (0, 0)) (bk_ BK135)) : gb136 ≠ gb135)); clear BK134; clear BK135; clear HB; have BK134 := n0_; have BK135 := n1_; have HB := n2_; have BK136 := n3_; have GW136 := n4_; have GE136 := n5_; have NB134_136 := n6_; have NB136_134 := n7_; have NB135_136 := n8_; have NB136_135 := n9_; clear n0_ n1_ n2_ n3_ n4_ n5_ n6_ n7_ n8_ n9_; clear hb hbox hg) | ((with_reducible refine gate_callee (f := 26) rfl ?_); refine goesL_ (some 10) rfl rfl Try.func26 (by kernel_rfl) rfl #[.bool (a0 == 3)] rfl (by (try simp only [List.map_toArray, List.map_cons, List.map_nil]); first | done | rfl | (simp only [List.length_drop, List.length_take]; rfl)) ?_; (with_reducible refine (quarryref02_Truth.calls (a0 == 3) t137 t138 t139 _ A4.out).mono ?_); rintro e w9 ⟨rfl, hb⟩; refine ⟨_, rfl, ?_⟩; have n0_ := Aside0.mk (blk_below (g := gb134) (o := .cells #[.int .i64 a1_0, .int .i64 a1_1, .string a1_2] 32 (0, 0)) (bk_ BK134) hb); have n1_ := Aside0.mk (blk_below (g := gb135) (o := .cells #[.int .i64 a2_0, .int .i64 a2_1, .string a2_2] 32 (0, 0)) (bk_ BK135) hb); have n2_ := Aside0.mk (blk_below (g := gb136) (o := .cells #[.int .i64 0, .int .i64 0, .string (⟨#[]⟩ : ByteArray)] 32 (0, 0)) (bk_ BK136) hb); have n3_ := Aside0.mk (below_step (by repeat (first | (with_reducible first | exact HB.out | apply below_alloc | apply pw_below_drewN | apply below_drew1 | refine below_set ?_ GE134.out | refine below_set ?_ GE135.out | refine below_set ?_ GE136.out) | exact HB.out)) hb); clear BK134; clear BK135; clear BK136; clear HB; have BK134 := n0_; have BK135 := n1_; have BK136 := n2_; have HB := n3_; clear n0_ n1_ n2_ n3_; (try clear hb); (try clear hb2); (try clear hk); (try clear hi)) | ((with_reducible refine gate_dst (N := 7) rfl ?_); refine box_event ?hg (N := 7) ?hd (cs := #[.int .i64 0, .int .i64 0, .string (⟨#[]⟩ : ByteArray)]) (t := 32) ?hr ?_; (case hd => rfl); (case hg => rfl); (case hr => first | (go_simp; done) | (go_simp; rfl)); intro gb140 hg w10 hbox hb; have n0_ := Aside0.mk (blk_below (g := gb134) (o := .cells #[.int .i64 a1_0, .int .i64 a1_1, .string a1_2] 32 (0, 0)) (bk_ BK134) hb); have n1_ := Aside0.mk (blk_below (g := gb135) (o := .cells #[.int .i64 a2_0, .int .i64 a2_1, .string a2_2] 32 (0, 0)) (bk_ BK135) hb); have n2_ := Aside0.mk (blk_below (g := gb136) (o := .cells #[.int .i64 0, .int .i64 0, .string (⟨#[]⟩ : ByteArray)] 32 (0, 0)) (bk_ BK136) hb); have n3_ := Aside0.mk (below_step (by repeat (first | (with_reducible first | exact HB.out | apply below_alloc | apply pw_below_drewN | apply below_drew1 | refine below_set ?_ GE134.out | refine below_set ?_ GE135.out | refine below_set ?_ GE136.out) | exact HB.out)) hb); have n4_ := Aside0.mk (hbox); have n5_ := Aside0.mk ((by rw [hg]; exact (below_size (by repeat (first | (with_reducible first | exact HB.out | apply below_alloc | apply pw_below_drewN | apply below_drew1 | refine below_set ?_ GE134.out | refine below_set ?_ GE135.out | refine below_set ?_ GE136.out) | exact HB.out))) : w.heap.size ≤ gb140)); have n6_ := Aside0.mk ((by rw [hg]; exact (below_size (by repeat (first | (with_reducible first | exact HB.out | apply below_alloc | apply pw_below_drewN | apply below_drew1 | refine below_set ?_ GE134.out | refine below_set ?_ GE135.out | refine below_set ?_ GE136.out) | exact HB.out))) : w.heap.size ≤ gb140)); have n7_ := Aside0.mk ((by rw [hg]; exact Nat.ne_of_lt (blk_lt (g := gb134) (o := .cells #[.int .i64 a1_0, .int .i64 a1_1, .string a1_2] 32 (0, 0)) (bk_ BK134)) : gb134 ≠ gb140)); have n8_ := Aside0.mk ((by rw [hg]; exact Nat.ne_of_gt (blk_lt (g := gb134) (o := .cells #[.int .i64 a1_0, .int .i64 a1_1, .string a1_2] 32 (0, 0)) (bk_ BK134)) : gb140 ≠ gb134)); have n9_ := Aside0.mk ((by rw [hg]; exact Nat.ne_of_lt (blk_lt (g := gb135) (o := .cells #[.int .i64 a2_0, .int .i64 a2_1, .string a2_2] 32 (0, 0)) (bk_ BK135)) : gb135 ≠ gb140)); have n10_ := Aside0.mk ((by rw [hg]; exact Nat.ne_of_gt (blk_lt (g := gb135) (o := .cells #[.int .i64 a2_0, .int .i64 a2_1, .string a2_2] 32 (0, 0)) (bk_ BK135)) : gb140 ≠ gb135)); have n11_ := Aside0.mk ((by rw [hg]; exact Nat.ne_of_lt (blk_lt (g := gb136) (o := .cells #[.int .i64 0, .int .i64 0, .string (⟨#[]⟩ : ByteArray)] 32 (0, 0)) (bk_ BK136)) : gb136 ≠ gb140)); have n12_ := Aside0.mk ((by rw [hg]; exact Nat.ne_of_gt (blk_lt (g := gb136) (o := .cells #[.int .i64 0, .int .i64 0, .string (⟨#[]⟩ : ByteArray)] 32 (0, 0)) (bk_ BK136)) : gb140 ≠ gb136)); clear BK134; clear BK135; clear BK136; clear HB; have BK134 := n0_; have BK135 := n1_; have BK136 := n2_; have HB := n3_; have BK140 := n4_; have GW140 := n5_; have GE140 := n6_; have NB134_140 := n7_; have NB140_134 := n8_; have NB135_140 := n9_; have NB140_135 := n10_; have NB136_140 := n11_; have NB140_136 := n12_; clear n0_ n1_ n2_ n3_ n4_ n5_ n6_ n7_ n8_ n9_ n10_ n11_ n12_; clear hb hbox hg; have hnb11 := NB140_134.out; have hnc11 := NB134_140.out; have hnb12 := NB140_135.out; have hnc12 := NB135_140.out; have hnb13 := NB140_136.out; have hnc13 := NB136_140.out; have hcz14_0 : w10.cell? ⟨gb140, 0, none⟩ = some (.int .i64 0) := (blk_cell BK140.out 0).trans rfl; have hcz14_1 : w10.cell? ⟨gb140, 1, none⟩ = some (.int .i64 0) := (blk_cell BK140.out 1).trans rfl; have hcz14_2 : w10.cell? ⟨gb140, 2, none⟩ = some (.string (⟨#[]⟩ : ByteArray)) := (blk_cell BK140.out 2).trans rfl; have hfz14_0 := blk_frozen BK140.out 0; have hfz14_1 := blk_frozen BK140.out 1; have hfz14_2 := blk_frozen BK140.out 2))
 (try simp only [Act.put, List.setIfInBounds_toArray, List.set_cons_zero, List.set_cons_succ])
 go_cut [18] (fun v18 wc => ∃ (kq : Nat) (x18_4 : Bool), v18 = .bool x18_4 ∧ Aside0 (quarryref02_logic.j0 kq a0 x18_4 a1_0 a1_1 a1_2 a2_0 a2_1 a2_2 t137 t138 t139 = some (r1, r2, r3)) ∧ Aside0 (kq ≤ k) ∧ Aside0 (wc.heap[gb134]? = some (.cells #[.int .i64 a1_0, .int .i64 a1_1, .string a1_2] 32 (0, 0))) ∧ Aside0 (wc.heap[gb135]? = some (.cells #[.int .i64 a2_0, .int .i64 a2_1, .string a2_2] 32 (0, 0))) ∧ Aside0 (wc.heap[gb136]? = some (.cells #[.int .i64 0, .int .i64 0, .string (⟨#[]⟩ : ByteArray)] 32 (0, 0))) ∧ Aside0 (wc.heap[gb140]? = some (.cells #[.int .i64 t137, .int .i64 t138, .string t139] 32 (0, 0))) ∧ Aside0 (Below w.heap.size w wc))
 case first =>
  have H := HC5.out
  clear HC5
  by_cases c15 : (a1_0 == t137 && (a1_1 == t138 && (a1_2.toList == t139.toList))) = true
  ·rw [if_pos c15] at H
   have c15b0 : (a1_0 == t137 && (a1_1 == t138 && (a1_2.toList == t139.toList))) = true := c15
   (try (have c15b1 : decide (a1_0 = t137 && (a1_1 == t138 && (a1_2.toList == t139.toList))) = true := by simpa using c15))
   (try (have c15b2 : (a1_0 == t137 && (a1_1 == t138 && (a1_2.toList == t139.toList))) = true := by simpa using c15))
   clear c15
   (first | rw [c15b0] | (simp only [i64_w, i32_w]; rw [c15b0]) | skip)
   have H' := Aside0.mk H
   clear H
   have hnb16 := NB134_135.out
   have hnc16 := NB135_134.out
   have hnb17 := NB134_136.out
   have hnc17 := NB136_134.out
   have hnb18 := NB134_140.out
   have hnc18 := NB140_134.out
   have hcz19_0 : w10.cell? ⟨gb134, 0, none⟩ = some (.int .i64 a1_0) := (blk_cell BK134.out 0).trans rfl
   have hcz19_1 : w10.cell? ⟨gb134, 1, none⟩ = some (.int .i64 a1_1) := (blk_cell BK134.out 1).trans rfl
   have hcz19_2 : w10.cell? ⟨gb134, 2, none⟩ = some (.string a1_2) := (blk_cell BK134.out 2).trans rfl
   have hfz19_0 := blk_frozen BK134.out 0
   have hfz19_1 := blk_frozen BK134.out 1
   have hfz19_2 := blk_frozen BK134.out 2
   have hnb20 := NB140_135.out
   have hnc20 := NB135_140.out
   have hnb21 := NB140_136.out
   have hnc21 := NB136_140.out
   have hcz22_0 : w10.cell? ⟨gb140, 0, none⟩ = some (.int .i64 0) := (blk_cell BK140.out 0).trans rfl
   have hcz22_1 : w10.cell? ⟨gb140, 1, none⟩ = some (.int .i64 0) := (blk_cell BK140.out 1).trans rfl
   have hcz22_2 : w10.cell? ⟨gb140, 2, none⟩ = some (.string (⟨#[]⟩ : ByteArray)) := (blk_cell BK140.out 2).trans rfl
   have hfz22_0 := blk_frozen BK140.out 0
   have hfz22_1 := blk_frozen BK140.out 1
   have hfz22_2 := blk_frozen BK140.out 2
   go_wp2
   go_meet
   case rel => exact ⟨_, (true), (by first | rfl | (simp; done) | (simp [*]; done)), H', ⟨by first | omega | exact Nat.le_refl _⟩, ⟨by (with_reducible repeat (first | refine blk_drewN ?_ _ | refine blk_drew ?_ | refine blk_alloc ?_ _)); refine blk_far ?_ NB134_140.out _; (with_reducible repeat (first | refine blk_drewN ?_ _ | refine blk_drew ?_ | refine blk_alloc ?_ _)); refine blk_far ?_ NB134_140.out _; (with_reducible repeat (first | refine blk_drewN ?_ _ | refine blk_drew ?_ | refine blk_alloc ?_ _)); refine blk_far ?_ NB134_140.out _; (with_reducible repeat (first | refine blk_drewN ?_ _ | refine blk_drew ?_ | refine blk_alloc ?_ _)); exact BK134.out⟩, ⟨by (with_reducible repeat (first | refine blk_drewN ?_ _ | refine blk_drew ?_ | refine blk_alloc ?_ _)); refine blk_far ?_ NB135_140.out _; (with_reducible repeat (first | refine blk_drewN ?_ _ | refine blk_drew ?_ | refine blk_alloc ?_ _)); refine blk_far ?_ NB135_140.out _; (with_reducible repeat (first | refine blk_drewN ?_ _ | refine blk_drew ?_ | refine blk_alloc ?_ _)); refine blk_far ?_ NB135_140.out _; (with_reducible repeat (first | refine blk_drewN ?_ _ | refine blk_drew ?_ | refine blk_alloc ?_ _)); exact BK135.out⟩, ⟨by (with_reducible repeat (first | refine blk_drewN ?_ _ | refine blk_drew ?_ | refine blk_alloc ?_ _)); refine blk_far ?_ NB136_140.out _; (with_reducible repeat (first | refine blk_drewN ?_ _ | refine blk_drew ?_ | refine blk_alloc ?_ _)); refine blk_far ?_ NB136_140.out _; (with_reducible repeat (first | refine blk_drewN ?_ _ | refine blk_drew ?_ | refine blk_alloc ?_ _)); refine blk_far ?_ NB136_140.out _; (with_reducible repeat (first | refine blk_drewN ?_ _ | refine blk_drew ?_ | refine blk_alloc ?_ _)); exact BK136.out⟩, ⟨by (with_reducible repeat (first | refine blk_drewN ?_ _ | refine blk_drew ?_ | refine blk_alloc ?_ _)); refine blk_put (cs := #[.int .i64 t137, .int .i64 t138, .string (⟨#[]⟩ : ByteArray)]) ?_ 2 _ rfl; (with_reducible repeat (first | refine blk_drewN ?_ _ | refine blk_drew ?_ | refine blk_alloc ?_ _)); refine blk_put (cs := #[.int .i64 t137, .int .i64 0, .string (⟨#[]⟩ : ByteArray)]) ?_ 1 _ rfl; (with_reducible repeat (first | refine blk_drewN ?_ _ | refine blk_drew ?_ | refine blk_alloc ?_ _)); refine blk_put (cs := #[.int .i64 0, .int .i64 0, .string (⟨#[]⟩ : ByteArray)]) ?_ 0 _ rfl; (with_reducible repeat (first | refine blk_drewN ?_ _ | refine blk_drew ?_ | refine blk_alloc ?_ _)); exact BK140.out⟩, ⟨by repeat (first | (with_reducible first | exact HB.out | apply below_alloc | apply pw_below_drewN | apply below_drew1 | refine below_set ?_ GE134.out | refine below_set ?_ GE135.out | refine below_set ?_ GE136.out | refine below_set ?_ GE140.out) | exact HB.out)⟩⟩
  ·rw [if_neg c15] at H
   have c15b0 : (a1_0 == t137 && (a1_1 == t138 && (a1_2.toList == t139.toList))) = false := by simpa using c15
   (try (have c15b1 : decide (a1_0 = t137 && (a1_1 == t138 && (a1_2.toList == t139.toList))) = false := by simpa using c15))
   (try (have c15b2 : (a1_0 == t137 && (a1_1 == t138 && (a1_2.toList == t139.toList))) = false := by simpa using c15))
   (try (have c15b3 : ¬ (a1_0 = t137 && (a1_1 == t138 && (a1_2.toList == t139.toList))) := by simpa using c15))
   clear c15
   (first | rw [c15b0] | (simp only [i64_w, i32_w]; rw [c15b0]) | skip)
   have H' := Aside0.mk H
   clear H
   have hnb23 := NB134_135.out
   have hnc23 := NB135_134.out
   have hnb24 := NB134_136.out
   have hnc24 := NB136_134.out
   have hnb25 := NB134_140.out
   have hnc25 := NB140_134.out
   have hcz26_0 : w10.cell? ⟨gb134, 0, none⟩ = some (.int .i64 a1_0) := (blk_cell BK134.out 0).trans rfl
   have hcz26_1 : w10.cell? ⟨gb134, 1, none⟩ = some (.int .i64 a1_1) := (blk_cell BK134.out 1).trans rfl
   have hcz26_2 : w10.cell? ⟨gb134, 2, none⟩ = some (.string a1_2) := (blk_cell BK134.out 2).trans rfl
   have hfz26_0 := blk_frozen BK134.out 0
   have hfz26_1 := blk_frozen BK134.out 1
   have hfz26_2 := blk_frozen BK134.out 2
   have hnb27 := NB140_135.out
   have hnc27 := NB135_140.out
   have hnb28 := NB140_136.out
   have hnc28 := NB136_140.out
   have hcz29_0 : w10.cell? ⟨gb140, 0, none⟩ = some (.int .i64 0) := (blk_cell BK140.out 0).trans rfl
   have hcz29_1 : w10.cell? ⟨gb140, 1, none⟩ = some (.int .i64 0) := (blk_cell BK140.out 1).trans rfl
   have hcz29_2 : w10.cell? ⟨gb140, 2, none⟩ = some (.string (⟨#[]⟩ : ByteArray)) := (blk_cell BK140.out 2).trans rfl
   have hfz29_0 := blk_frozen BK140.out 0
   have hfz29_1 := blk_frozen BK140.out 1
   have hfz29_2 := blk_frozen BK140.out 2
   have hnb30 := NB135_136.out
   have hnc30 := NB136_135.out
   have hcz31_0 : w10.cell? ⟨gb135, 0, none⟩ = some (.int .i64 a2_0) := (blk_cell BK135.out 0).trans rfl
   have hcz31_1 : w10.cell? ⟨gb135, 1, none⟩ = some (.int .i64 a2_1) := (blk_cell BK135.out 1).trans rfl
   have hcz31_2 : w10.cell? ⟨gb135, 2, none⟩ = some (.string a2_2) := (blk_cell BK135.out 2).trans rfl
   have hfz31_0 := blk_frozen BK135.out 0
   have hfz31_1 := blk_frozen BK135.out 1
   have hfz31_2 := blk_frozen BK135.out 2
   go_wp2
   go_meet
   case rel => exact ⟨_, ((a2_0 == t137 && (a2_1 == t138 && (a2_2.toList == t139.toList)))), (by first | rfl | (simp; done) | (simp [*]; done)), H', ⟨by first | omega | exact Nat.le_refl _⟩, ⟨by (with_reducible repeat (first | refine blk_drewN ?_ _ | refine blk_drew ?_ | refine blk_alloc ?_ _)); refine blk_far ?_ NB134_140.out _; (with_reducible repeat (first | refine blk_drewN ?_ _ | refine blk_drew ?_ | refine blk_alloc ?_ _)); refine blk_far ?_ NB134_140.out _; (with_reducible repeat (first | refine blk_drewN ?_ _ | refine blk_drew ?_ | refine blk_alloc ?_ _)); refine blk_far ?_ NB134_140.out _; (with_reducible repeat (first | refine blk_drewN ?_ _ | refine blk_drew ?_ | refine blk_alloc ?_ _)); exact BK134.out⟩, ⟨by (with_reducible repeat (first | refine blk_drewN ?_ _ | refine blk_drew ?_ | refine blk_alloc ?_ _)); refine blk_far ?_ NB135_140.out _; (with_reducible repeat (first | refine blk_drewN ?_ _ | refine blk_drew ?_ | refine blk_alloc ?_ _)); refine blk_far ?_ NB135_140.out _; (with_reducible repeat (first | refine blk_drewN ?_ _ | refine blk_drew ?_ | refine blk_alloc ?_ _)); refine blk_far ?_ NB135_140.out _; (with_reducible repeat (first | refine blk_drewN ?_ _ | refine blk_drew ?_ | refine blk_alloc ?_ _)); exact BK135.out⟩, ⟨by (with_reducible repeat (first | refine blk_drewN ?_ _ | refine blk_drew ?_ | refine blk_alloc ?_ _)); refine blk_far ?_ NB136_140.out _; (with_reducible repeat (first | refine blk_drewN ?_ _ | refine blk_drew ?_ | refine blk_alloc ?_ _)); refine blk_far ?_ NB136_140.out _; (with_reducible repeat (first | refine blk_drewN ?_ _ | refine blk_drew ?_ | refine blk_alloc ?_ _)); refine blk_far ?_ NB136_140.out _; (with_reducible repeat (first | refine blk_drewN ?_ _ | refine blk_drew ?_ | refine blk_alloc ?_ _)); exact BK136.out⟩, ⟨by (with_reducible repeat (first | refine blk_drewN ?_ _ | refine blk_drew ?_ | refine blk_alloc ?_ _)); refine blk_put (cs := #[.int .i64 t137, .int .i64 t138, .string (⟨#[]⟩ : ByteArray)]) ?_ 2 _ rfl; (with_reducible repeat (first | refine blk_drewN ?_ _ | refine blk_drew ?_ | refine blk_alloc ?_ _)); refine blk_put (cs := #[.int .i64 t137, .int .i64 0, .string (⟨#[]⟩ : ByteArray)]) ?_ 1 _ rfl; (with_reducible repeat (first | refine blk_drewN ?_ _ | refine blk_drew ?_ | refine blk_alloc ?_ _)); refine blk_put (cs := #[.int .i64 0, .int .i64 0, .string (⟨#[]⟩ : ByteArray)]) ?_ 0 _ rfl; (with_reducible repeat (first | refine blk_drewN ?_ _ | refine blk_drew ?_ | refine blk_alloc ?_ _)); exact BK140.out⟩, ⟨by repeat (first | (with_reducible first | exact HB.out | apply below_alloc | apply pw_below_drewN | apply below_drew1 | refine below_set ?_ GE134.out | refine below_set ?_ GE135.out | refine below_set ?_ GE136.out | refine below_set ?_ GE140.out) | exact HB.out)⟩⟩
 case rest =>
  clear HC5
  try clear c1
  try clear c2
  try clear p2
  try clear c3
  try clear c11
  try clear c12
  try clear c13
  try clear c15
  try clear c15b0
  try clear c15b1
  try clear c15b2
  try clear c16
  try clear c17
  try clear c18
  try clear c20
  try clear c21
  try clear c23
  try clear c24
  try clear c25
  try clear c26
  try clear c27
  try clear c28
  try clear c30
  try clear hcz14_0
  try clear hcz14_1
  try clear hcz14_2
  try clear hcz19_0
  try clear hcz19_1
  try clear hcz19_2
  try clear hcz22_0
  try clear hcz22_1
  try clear hcz22_2
  try clear hcz26_0
  try clear hcz26_1
  try clear hcz26_2
  try clear hcz29_0
  try clear hcz29_1
  try clear hcz29_2
  try clear hcz31_0
  try clear hcz31_1
  try clear hcz31_2
  try clear hfz14_0
  try clear hfz14_1
  try clear hfz14_2
  try clear hfz19_0
  try clear hfz19_1
  try clear hfz19_2
  try clear hfz22_0
  try clear hfz22_1
  try clear hfz22_2
  try clear hfz26_0
  try clear hfz26_1
  try clear hfz26_2
  try clear hfz29_0
  try clear hfz29_1
  try clear hfz29_2
  try clear hfz31_0
  try clear hfz31_1
  try clear hfz31_2
  obtain ⟨kq, x18_4, rfl, HA, HJ4, BK134, BK135, BK136, BK140, HB⟩ := hcut
  cases kq with
  | zero => exact absurd HA.out (by simp [quarryref02_logic.j0])
  | succ kj4 =>
   have H := HA.out
   clear HA
   simp only [quarryref02_logic.j0] at H
   by_cases c32 : x18_4 = true
   ·subst c32
    have H1 : (some (t137, t138, t139)) = some (r1, r2, r3) := by rw [if_pos rfl] at H; exact H
    clear H
    have H := H1
    clear H1
    simp only [Option.some.injEq, Prod.mk.injEq] at H
    obtain ⟨rfl, rfl, rfl⟩ := H
    have hnb33 := NB140_134.out
    have hnc33 := NB134_140.out
    have hnb34 := NB140_135.out
    have hnc34 := NB135_140.out
    have hnb35 := NB140_136.out
    have hnc35 := NB136_140.out
    have hcz36_0 : wc.cell? ⟨gb140, 0, none⟩ = some (.int .i64 t137) := (blk_cell BK140.out 0).trans rfl
    have hcz36_1 : wc.cell? ⟨gb140, 1, none⟩ = some (.int .i64 t138) := (blk_cell BK140.out 1).trans rfl
    have hcz36_2 : wc.cell? ⟨gb140, 2, none⟩ = some (.string t139) := (blk_cell BK140.out 2).trans rfl
    have hfz36_0 := blk_frozen BK140.out 0
    have hfz36_1 := blk_frozen BK140.out 1
    have hfz36_2 := blk_frozen BK140.out 2
    have hnb37 := NB136_134.out
    have hnc37 := NB134_136.out
    have hnb38 := NB136_135.out
    have hnc38 := NB135_136.out
    have hcz39_0 : wc.cell? ⟨gb136, 0, none⟩ = some (.int .i64 0) := (blk_cell BK136.out 0).trans rfl
    have hcz39_1 : wc.cell? ⟨gb136, 1, none⟩ = some (.int .i64 0) := (blk_cell BK136.out 1).trans rfl
    have hcz39_2 : wc.cell? ⟨gb136, 2, none⟩ = some (.string (⟨#[]⟩ : ByteArray)) := (blk_cell BK136.out 2).trans rfl
    have hfz39_0 := blk_frozen BK136.out 0
    have hfz39_1 := blk_frozen BK136.out 1
    have hfz39_2 := blk_frozen BK136.out 2
    go_wp2
    refine bodyPost_ret (results_cell_row rfl _ _ gb136 32 #[.int .i64 t137, .int .i64 t138, .string t139] (0, 0) _ rfl (by (with_reducible repeat (first | refine blk_drewN ?_ _ | refine blk_drew ?_ | refine blk_alloc ?_ _)); refine blk_put (cs := #[.int .i64 t137, .int .i64 t138, .string (⟨#[]⟩ : ByteArray)]) ?_ 2 _ rfl; (with_reducible repeat (first | refine blk_drewN ?_ _ | refine blk_drew ?_ | refine blk_alloc ?_ _)); refine blk_put (cs := #[.int .i64 t137, .int .i64 0, .string (⟨#[]⟩ : ByteArray)]) ?_ 1 _ rfl; (with_reducible repeat (first | refine blk_drewN ?_ _ | refine blk_drew ?_ | refine blk_alloc ?_ _)); refine blk_put (cs := #[.int .i64 0, .int .i64 0, .string (⟨#[]⟩ : ByteArray)]) ?_ 0 _ rfl; (with_reducible repeat (first | refine blk_drewN ?_ _ | refine blk_drew ?_ | refine blk_alloc ?_ _)); exact BK136.out) Try.underlying32 rfl (by kernel_rfl)) rfl ?_
    exact ⟨by first | rfl | (simp [errW_none, errW_some] <;> rfl) | (simp [*, errW_none, errW_some] <;> rfl), by repeat (first | (with_reducible first | exact HB.out | apply below_alloc | apply pw_below_drewN | apply below_drew1 | refine below_set ?_ GE134.out | refine below_set ?_ GE135.out | refine below_set ?_ GE136.out | refine below_set ?_ GE140.out) | exact HB.out)⟩
   ·replace c32 := Bool.eq_false_iff.mpr c32
    subst c32
    have H1 : (if a1_0 = 0 then (some (0, 0, (⟨#[]⟩ : ByteArray))) else (if a2_0 = 0 then (some (0, 0, (⟨#[]⟩ : ByteArray))) else ((quarryref02_Truth.f (a0 == 4)).bind fun bt141 => (some (bt141.1, bt141.2.1, bt141.2.2))))) = some (r1, r2, r3) := by rw [if_neg (show ¬ (false = true) by decide)] at H; exact H
    clear H
    have H := H1
    clear H1
    by_cases c40 : a1_0 = 0
    ·rw [if_pos c40] at H
     have c40b0 : (a1_0 == 0) = true := beq_iff_eq.mpr c40
     have c40b1 : (a1_0 != 0) = false := bne_eq_false_iff_eq.mpr c40
     clear c40
     simp only [Option.some.injEq, Prod.mk.injEq] at H
     obtain ⟨rfl, rfl, rfl⟩ := H
     have hnb41 := NB134_135.out
     have hnc41 := NB135_134.out
     have hnb42 := NB134_136.out
     have hnc42 := NB136_134.out
     have hnb43 := NB134_140.out
     have hnc43 := NB140_134.out
     have hcz44_0 : wc.cell? ⟨gb134, 0, none⟩ = some (.int .i64 a1_0) := (blk_cell BK134.out 0).trans rfl
     have hcz44_1 : wc.cell? ⟨gb134, 1, none⟩ = some (.int .i64 a1_1) := (blk_cell BK134.out 1).trans rfl
     have hcz44_2 : wc.cell? ⟨gb134, 2, none⟩ = some (.string a1_2) := (blk_cell BK134.out 2).trans rfl
     have hfz44_0 := blk_frozen BK134.out 0
     have hfz44_1 := blk_frozen BK134.out 1
     have hfz44_2 := blk_frozen BK134.out 2
     have hnb45 := NB136_135.out
     have hnc45 := NB135_136.out
     have hnb46 := NB136_140.out
     have hnc46 := NB140_136.out
     have hcz47_0 : wc.cell? ⟨gb136, 0, none⟩ = some (.int .i64 0) := (blk_cell BK136.out 0).trans rfl
     have hcz47_1 : wc.cell? ⟨gb136, 1, none⟩ = some (.int .i64 0) := (blk_cell BK136.out 1).trans rfl
     have hcz47_2 : wc.cell? ⟨gb136, 2, none⟩ = some (.string (⟨#[]⟩ : ByteArray)) := (blk_cell BK136.out 2).trans rfl
     have hfz47_0 := blk_frozen BK136.out 0
     have hfz47_1 := blk_frozen BK136.out 1
     have hfz47_2 := blk_frozen BK136.out 2
     go_wp2
     refine bodyPost_ret (results_cell_row rfl _ _ gb136 32 #[.int .i64 0, .int .i64 0, .string (⟨#[]⟩ : ByteArray)] (0, 0) _ rfl (by (with_reducible repeat (first | refine blk_drewN ?_ _ | refine blk_drew ?_ | refine blk_alloc ?_ _)); refine blk_put (cs := #[.int .i64 0, .int .i64 0, .string (⟨#[]⟩ : ByteArray)]) ?_ 2 _ rfl; (with_reducible repeat (first | refine blk_drewN ?_ _ | refine blk_drew ?_ | refine blk_alloc ?_ _)); refine blk_put (cs := #[.int .i64 0, .int .i64 0, .string (⟨#[]⟩ : ByteArray)]) ?_ 1 _ rfl; (with_reducible repeat (first | refine blk_drewN ?_ _ | refine blk_drew ?_ | refine blk_alloc ?_ _)); refine blk_put (cs := #[.int .i64 0, .int .i64 0, .string (⟨#[]⟩ : ByteArray)]) ?_ 0 _ rfl; (with_reducible repeat (first | refine blk_drewN ?_ _ | refine blk_drew ?_ | refine blk_alloc ?_ _)); exact BK136.out) Try.underlying32 rfl (by kernel_rfl)) rfl ?_
     exact ⟨by first | rfl | (simp [errW_none, errW_some] <;> rfl) | (simp [*, errW_none, errW_some] <;> rfl), by repeat (first | (with_reducible first | exact HB.out | apply below_alloc | apply pw_below_drewN | apply below_drew1 | refine below_set ?_ GE134.out | refine below_set ?_ GE135.out | refine below_set ?_ GE136.out | refine below_set ?_ GE140.out) | exact HB.out)⟩
    ·rw [if_neg c40] at H
     have c40b0 : (a1_0 == 0) = false := beq_eq_false_iff_ne.mpr c40
     have c40b1 : (a1_0 != 0) = true := bne_iff_ne.mpr c40
     by_cases c48 : a2_0 = 0
     ·rw [if_pos c48] at H
      have c48b0 : (a2_0 == 0) = true := beq_iff_eq.mpr c48
      have c48b1 : (a2_0 != 0) = false := bne_eq_false_iff_eq.mpr c48
      clear c48
      simp only [Option.some.injEq, Prod.mk.injEq] at H
      obtain ⟨rfl, rfl, rfl⟩ := H
      have hnb49 := NB134_135.out
      have hnc49 := NB135_134.out
      have hnb50 := NB134_136.out
      have hnc50 := NB136_134.out
      have hnb51 := NB134_140.out
      have hnc51 := NB140_134.out
      have hcz52_0 : wc.cell? ⟨gb134, 0, none⟩ = some (.int .i64 a1_0) := (blk_cell BK134.out 0).trans rfl
      have hcz52_1 : wc.cell? ⟨gb134, 1, none⟩ = some (.int .i64 a1_1) := (blk_cell BK134.out 1).trans rfl
      have hcz52_2 : wc.cell? ⟨gb134, 2, none⟩ = some (.string a1_2) := (blk_cell BK134.out 2).trans rfl
      have hfz52_0 := blk_frozen BK134.out 0
      have hfz52_1 := blk_frozen BK134.out 1
      have hfz52_2 := blk_frozen BK134.out 2
      have hnb53 := NB135_136.out
      have hnc53 := NB136_135.out
      have hnb54 := NB135_140.out
      have hnc54 := NB140_135.out
      have hcz55_0 : wc.cell? ⟨gb135, 0, none⟩ = some (.int .i64 a2_0) := (blk_cell BK135.out 0).trans rfl
      have hcz55_1 : wc.cell? ⟨gb135, 1, none⟩ = some (.int .i64 a2_1) := (blk_cell BK135.out 1).trans rfl
      have hcz55_2 : wc.cell? ⟨gb135, 2, none⟩ = some (.string a2_2) := (blk_cell BK135.out 2).trans rfl
      have hfz55_0 := blk_frozen BK135.out 0
      have hfz55_1 := blk_frozen BK135.out 1
      have hfz55_2 := blk_frozen BK135.out 2
      have hnb56 := NB136_140.out
      have hnc56 := NB140_136.out
      have hcz57_0 : wc.cell? ⟨gb136, 0, none⟩ = some (.int .i64 0) := (blk_cell BK136.out 0).trans rfl
      have hcz57_1 : wc.cell? ⟨gb136, 1, none⟩ = some (.int .i64 0) := (blk_cell BK136.out 1).trans rfl
      have hcz57_2 : wc.cell? ⟨gb136, 2, none⟩ = some (.string (⟨#[]⟩ : ByteArray)) := (blk_cell BK136.out 2).trans rfl
      have hfz57_0 := blk_frozen BK136.out 0
      have hfz57_1 := blk_frozen BK136.out 1
      have hfz57_2 := blk_frozen BK136.out 2
      go_wp2
      refine bodyPost_ret (results_cell_row rfl _ _ gb136 32 #[.int .i64 0, .int .i64 0, .string (⟨#[]⟩ : ByteArray)] (0, 0) _ rfl (by (with_reducible repeat (first | refine blk_drewN ?_ _ | refine blk_drew ?_ | refine blk_alloc ?_ _)); refine blk_put (cs := #[.int .i64 0, .int .i64 0, .string (⟨#[]⟩ : ByteArray)]) ?_ 2 _ rfl; (with_reducible repeat (first | refine blk_drewN ?_ _ | refine blk_drew ?_ | refine blk_alloc ?_ _)); refine blk_put (cs := #[.int .i64 0, .int .i64 0, .string (⟨#[]⟩ : ByteArray)]) ?_ 1 _ rfl; (with_reducible repeat (first | refine blk_drewN ?_ _ | refine blk_drew ?_ | refine blk_alloc ?_ _)); refine blk_put (cs := #[.int .i64 0, .int .i64 0, .string (⟨#[]⟩ : ByteArray)]) ?_ 0 _ rfl; (with_reducible repeat (first | refine blk_drewN ?_ _ | refine blk_drew ?_ | refine blk_alloc ?_ _)); exact BK136.out) Try.underlying32 rfl (by kernel_rfl)) rfl ?_
      exact ⟨by first | rfl | (simp [errW_none, errW_some] <;> rfl) | (simp [*, errW_none, errW_some] <;> rfl), by repeat (first | (with_reducible first | exact HB.out | apply below_alloc | apply pw_below_drewN | apply below_drew1 | refine below_set ?_ GE134.out | refine below_set ?_ GE135.out | refine below_set ?_ GE136.out | refine below_set ?_ GE140.out) | exact HB.out)⟩
     ·rw [if_neg c48] at H
      have c48b0 : (a2_0 == 0) = false := beq_eq_false_iff_ne.mpr c48
      have c48b1 : (a2_0 != 0) = true := bne_iff_ne.mpr c48
      replace H := Option.bind_eq_some_iff.mp H
      obtain ⟨⟨t141, t142, t143⟩, A580, H⟩ := H
      replace H : (some (t141, t142, t143)) = some (r1, r2, r3) := H
      have A58 := Aside0.mk A580
      clear A580
      simp only [Option.some.injEq, Prod.mk.injEq] at H
      obtain ⟨rfl, rfl, rfl⟩ := H
      have hnb59 := NB134_135.out
      have hnc59 := NB135_134.out
      have hnb60 := NB134_136.out
      have hnc60 := NB136_134.out
      have hnb61 := NB134_140.out
      have hnc61 := NB140_134.out
      have hcz62_0 : wc.cell? ⟨gb134, 0, none⟩ = some (.int .i64 a1_0) := (blk_cell BK134.out 0).trans rfl
      have hcz62_1 : wc.cell? ⟨gb134, 1, none⟩ = some (.int .i64 a1_1) := (blk_cell BK134.out 1).trans rfl
      have hcz62_2 : wc.cell? ⟨gb134, 2, none⟩ = some (.string a1_2) := (blk_cell BK134.out 2).trans rfl
      have hfz62_0 := blk_frozen BK134.out 0
      have hfz62_1 := blk_frozen BK134.out 1
      have hfz62_2 := blk_frozen BK134.out 2
      have hnb63 := NB135_136.out
      have hnc63 := NB136_135.out
      have hnb64 := NB135_140.out
      have hnc64 := NB140_135.out
      have hcz65_0 : wc.cell? ⟨gb135, 0, none⟩ = some (.int .i64 a2_0) := (blk_cell BK135.out 0).trans rfl
      have hcz65_1 : wc.cell? ⟨gb135, 1, none⟩ = some (.int .i64 a2_1) := (blk_cell BK135.out 1).trans rfl
      have hcz65_2 : wc.cell? ⟨gb135, 2, none⟩ = some (.string a2_2) := (blk_cell BK135.out 2).trans rfl
      have hfz65_0 := blk_frozen BK135.out 0
      have hfz65_1 := blk_frozen BK135.out 1
      have hfz65_2 := blk_frozen BK135.out 2
      go_wp2_with (first | ((with_reducible refine gate_callee (f := 26) rfl ?_); refine goesL_ (some 31) rfl rfl Try.func26 (by kernel_rfl) rfl #[.bool (a0 == 4)] rfl (by (try simp only [List.map_toArray, List.map_cons, List.map_nil]); first | done | rfl | (simp only [List.length_drop, List.length_take]; rfl)) ?_; (with_reducible refine (quarryref02_Truth.calls (a0 == 4) t141 t142 t143 _ A58.out).mono ?_); rintro e w66 ⟨rfl, hb⟩; refine ⟨_, rfl, ?_⟩; have n0_ := Aside0.mk (blk_below (g := gb134) (o := .cells #[.int .i64 a1_0, .int .i64 a1_1, .string a1_2] 32 (0, 0)) (bk_ BK134) hb); have n1_ := Aside0.mk (blk_below (g := gb135) (o := .cells #[.int .i64 a2_0, .int .i64 a2_1, .string a2_2] 32 (0, 0)) (bk_ BK135) hb); have n2_ := Aside0.mk (blk_below (g := gb136) (o := .cells #[.int .i64 0, .int .i64 0, .string (⟨#[]⟩ : ByteArray)] 32 (0, 0)) (bk_ BK136) hb); have n3_ := Aside0.mk (blk_below (g := gb140) (o := .cells #[.int .i64 t137, .int .i64 t138, .string t139] 32 (0, 0)) (bk_ BK140) hb); have n4_ := Aside0.mk (below_step (by repeat (first | (with_reducible first | exact HB.out | apply below_alloc | apply pw_below_drewN | apply below_drew1 | refine below_set ?_ GE134.out | refine below_set ?_ GE135.out | refine below_set ?_ GE136.out | refine below_set ?_ GE140.out) | exact HB.out)) hb); clear BK134; clear BK135; clear BK136; clear BK140; clear HB; have BK134 := n0_; have BK135 := n1_; have BK136 := n2_; have BK140 := n3_; have HB := n4_; clear n0_ n1_ n2_ n3_ n4_; (try clear hb); (try clear hb2); (try clear hk); (try clear hi); have hnb67 := NB136_140.out; have hnc67 := NB140_136.out; have hcz68_0 : w66.cell? ⟨gb136, 0, none⟩ = some (.int .i64 0) := (blk_cell BK136.out 0).trans rfl; have hcz68_1 : w66.cell? ⟨gb136, 1, none⟩ = some (.int .i64 0) := (blk_cell BK136.out 1).trans rfl; have hcz68_2 : w66.cell? ⟨gb136, 2, none⟩ = some (.string (⟨#[]⟩ : ByteArray)) := (blk_cell BK136.out 2).trans rfl; have hfz68_0 := blk_frozen BK136.out 0; have hfz68_1 := blk_frozen BK136.out 1; have hfz68_2 := blk_frozen BK136.out 2))
      refine bodyPost_ret (results_cell_row rfl _ _ gb136 32 #[.int .i64 t141, .int .i64 t142, .string t143] (0, 0) _ rfl (by (with_reducible repeat (first | refine blk_drewN ?_ _ | refine blk_drew ?_ | refine blk_alloc ?_ _)); refine blk_put (cs := #[.int .i64 t141, .int .i64 t142, .string (⟨#[]⟩ : ByteArray)]) ?_ 2 _ rfl; (with_reducible repeat (first | refine blk_drewN ?_ _ | refine blk_drew ?_ | refine blk_alloc ?_ _)); refine blk_put (cs := #[.int .i64 t141, .int .i64 0, .string (⟨#[]⟩ : ByteArray)]) ?_ 1 _ rfl; (with_reducible repeat (first | refine blk_drewN ?_ _ | refine blk_drew ?_ | refine blk_alloc ?_ _)); refine blk_put (cs := #[.int .i64 0, .int .i64 0, .string (⟨#[]⟩ : ByteArray)]) ?_ 0 _ rfl; (with_reducible repeat (first | refine blk_drewN ?_ _ | refine blk_drew ?_ | refine blk_alloc ?_ _)); exact BK136.out) Try.underlying32 rfl (by kernel_rfl)) rfl ?_
      exact ⟨by first | rfl | (simp [errW_none, errW_some] <;> rfl) | (simp [*, errW_none, errW_some] <;> rfl), by repeat (first | (with_reducible first | exact HB.out | apply below_alloc | apply pw_below_drewN | apply below_drew1 | refine below_set ?_ GE134.out | refine below_set ?_ GE135.out | refine below_set ?_ GE136.out | refine below_set ?_ GE140.out) | exact HB.out)⟩
def quarryref02_holds.f (a0 : Int) (a1 : Int) : Option (Bool) := if a0 = 5 then (some (a1 == 0)) else (if a0 = 6 then (some (a1 != 0)) else (if a0 = 7 then (some (decide (a1 < 0))) else (if a0 = 8 then (some (decide (a1 ≤ 0))) else (if a0 = 9 then (some (decide (a1 > 0))) else (some (decide (a1 ≥ 0)))))))
set_option maxHeartbeats 8000000 in
set_option maxRecDepth 100000 in
theorem quarryref02_holds.calls (a0 : Int) (a1 : Int) (r : Bool) (w : World) (h : quarryref02_holds.f a0 a1 = some r) :
  Calls Try.prog 27 #[.int .i64 a0, .int .i64 a1] w fun e w' => e = .returned (.bool r) ∧ Drawn0 w w' := by
 have H : (if a0 = 5 then (some (a1 == 0)) else (if a0 = 6 then (some (a1 != 0)) else (if a0 = 7 then (some (decide (a1 < 0))) else (if a0 = 8 then (some (decide (a1 ≤ 0))) else (if a0 = 9 then (some (decide (a1 > 0))) else (some (decide (a1 ≥ 0)))))))) = some r := h
 clear h
 by_cases c3 : a0 = 5
 ·rw [if_pos c3] at H
  have c3b0 : (a0 == 5) = true := beq_iff_eq.mpr c3
  have c3b1 : (a0 != 5) = false := bne_eq_false_iff_eq.mpr c3
  clear c3
  obtain rfl := Option.some.inj H
  go_enter Try.func27, Try.ntmps27
  go_wp2
  go_ret
  exact ⟨by first | rfl | (simp; done) | (simp [*]; done), by repeat (first | exact Drawn0.refl _ | apply Drawn0.step)⟩
 ·rw [if_neg c3] at H
  have c3b0 : (a0 == 5) = false := beq_eq_false_iff_ne.mpr c3
  have c3b1 : (a0 != 5) = true := bne_iff_ne.mpr c3
  by_cases c4 : a0 = 6
  ·rw [if_pos c4] at H
   have c4b0 : (a0 == 6) = true := beq_iff_eq.mpr c4
   have c4b1 : (a0 != 6) = false := bne_eq_false_iff_eq.mpr c4
   clear c4
   obtain rfl := Option.some.inj H
   go_enter Try.func27, Try.ntmps27
   go_wp2
   go_ret
   exact ⟨by first | rfl | (simp; done) | (simp [*]; done), by repeat (first | exact Drawn0.refl _ | apply Drawn0.step)⟩
  ·rw [if_neg c4] at H
   have c4b0 : (a0 == 6) = false := beq_eq_false_iff_ne.mpr c4
   have c4b1 : (a0 != 6) = true := bne_iff_ne.mpr c4
   by_cases c5 : a0 = 7
   ·rw [if_pos c5] at H
    have c5b0 : (a0 == 7) = true := beq_iff_eq.mpr c5
    have c5b1 : (a0 != 7) = false := bne_eq_false_iff_eq.mpr c5
    clear c5
    obtain rfl := Option.some.inj H
    go_enter Try.func27, Try.ntmps27
    go_wp2
    go_ret
    exact ⟨by first | rfl | (simp; done) | (simp [*]; done), by repeat (first | exact Drawn0.refl _ | apply Drawn0.step)⟩
   ·rw [if_neg c5] at H
    have c5b0 : (a0 == 7) = false := beq_eq_false_iff_ne.mpr c5
    have c5b1 : (a0 != 7) = true := bne_iff_ne.mpr c5
    by_cases c6 : a0 = 8
    ·rw [if_pos c6] at H
     have c6b0 : (a0 == 8) = true := beq_iff_eq.mpr c6
     have c6b1 : (a0 != 8) = false := bne_eq_false_iff_eq.mpr c6
     clear c6
     obtain rfl := Option.some.inj H
     go_enter Try.func27, Try.ntmps27
     go_wp2
     go_ret
     exact ⟨by first | rfl | (simp; done) | (simp [*]; done), by repeat (first | exact Drawn0.refl _ | apply Drawn0.step)⟩
    ·rw [if_neg c6] at H
     have c6b0 : (a0 == 8) = false := beq_eq_false_iff_ne.mpr c6
     have c6b1 : (a0 != 8) = true := bne_iff_ne.mpr c6
     by_cases c7 : a0 = 9
     ·rw [if_pos c7] at H
      have c7b0 : (a0 == 9) = true := beq_iff_eq.mpr c7
      have c7b1 : (a0 != 9) = false := bne_eq_false_iff_eq.mpr c7
      clear c7
      obtain rfl := Option.some.inj H
      go_enter Try.func27, Try.ntmps27
      go_wp2
      go_ret
      exact ⟨by first | rfl | (simp; done) | (simp [*]; done), by repeat (first | exact Drawn0.refl _ | apply Drawn0.step)⟩
     ·rw [if_neg c7] at H
      have c7b0 : (a0 == 9) = false := beq_eq_false_iff_ne.mpr c7
      have c7b1 : (a0 != 9) = true := bne_iff_ne.mpr c7
      obtain rfl := Option.some.inj H
      go_enter Try.func27, Try.ntmps27
      go_wp2
      go_ret
      exact ⟨by first | rfl | (simp; done) | (simp [*]; done), by repeat (first | exact Drawn0.refl _ | apply Drawn0.step)⟩
def quarryref02_times.j0 : Nat → Int → Int → Bool → Option (Int × Bool)
 | 0, _, _, _ => none
 | k + 1, x0, x1, x12 => if x12 = true then (some (0, true)) else (if x0 = (-1) then (some (wrap64 (-x1), (x1 != (-9223372036854775808)))) else (if x1 = (-1) then (some (wrap64 (-x0), (x0 != (-9223372036854775808)))) else (if x1 = 0 then (none) else (some (wrap64 (x0 * x1), ((wrap64 (Int.tdiv (wrap64 (x0 * x1)) x1)) == x0))))))
def quarryref02_times.f (k : Nat) (a0 : Int) (a1 : Int) : Option (Int × Bool) := if a0 = 0 then (quarryref02_times.j0 k a0 a1 true) else (quarryref02_times.j0 k a0 a1 (a1 == 0))
set_option maxHeartbeats 8000000 in
set_option maxRecDepth 100000 in
theorem quarryref02_times.calls (k : Nat) (a0 : Int) (a1 : Int) (r1 : Int) (r2 : Bool) (w : World) (h : quarryref02_times.f k a0 a1 = some (r1, r2)) :
  Calls Try.prog 30 #[.int .i64 a0, .int .i64 a1] w fun e w' => e = .returned (.tuple #[.int .i64 r1, .bool r2]) ∧ Drawn0 w w' := by
 have H : (if a0 = 0 then (quarryref02_times.j0 k a0 a1 true) else (quarryref02_times.j0 k a0 a1 (a1 == 0))) = some (r1, r2) := h
 clear h
 have HC3 := Aside0.mk H
 clear H
 go_enter Try.func30, Try.ntmps30
 go_upto_region 1 with (fail)
 repeat (go_quiet (fail); go_upto_region 1 with (fail))
 go_cut [12] (fun v12 wc => ∃ (kq : Nat) (x12_2 : Bool), v12 = .bool x12_2 ∧ Aside0 (quarryref02_times.j0 kq a0 a1 x12_2 = some (r1, r2)) ∧ Aside0 (kq ≤ k) ∧ Drawn0 w wc)
 case first =>
  have H := HC3.out
  clear HC3
  by_cases c4 : a0 = 0
  ·rw [if_pos c4] at H
   have c4b0 : (a0 == 0) = true := beq_iff_eq.mpr c4
   have c4b1 : (a0 != 0) = false := bne_eq_false_iff_eq.mpr c4
   clear c4
   (first | rw [c4b0] | (simp only [i64_w, i32_w]; rw [c4b0]) | skip)
   have H' := Aside0.mk H
   clear H
   go_wp2
   repeat (go_quiet (fail); try go_wp2)
   go_meet
   case rel => exact ⟨_, (true), (by first | rfl | (simp; done) | (simp [*]; done)), H', ⟨by first | omega | exact Nat.le_refl _⟩, by repeat (first | exact Drawn0.refl _ | apply Drawn0.step)⟩
  ·rw [if_neg c4] at H
   have c4b0 : (a0 == 0) = false := beq_eq_false_iff_ne.mpr c4
   have c4b1 : (a0 != 0) = true := bne_iff_ne.mpr c4
   (first | rw [c4b0] | (simp only [i64_w, i32_w]; rw [c4b0]) | skip)
   have H' := Aside0.mk H
   clear H
   go_wp2
   repeat (go_quiet (fail); try go_wp2)
   go_meet
   case rel => exact ⟨_, ((a1 == 0)), (by first | rfl | (simp; done) | (simp [*]; done)), H', ⟨by first | omega | exact Nat.le_refl _⟩, by repeat (first | exact Drawn0.refl _ | apply Drawn0.step)⟩
 case rest =>
  clear HC3
  try clear p2
  try clear c3
  try clear c4
  try clear c4b0
  try clear c4b1
  obtain ⟨kq, x12_2, rfl, HA, HJ2, ⟨mc2, rfl⟩⟩ := hcut
  cases kq with
  | zero => exact absurd HA.out (by simp [quarryref02_times.j0])
  | succ kj2 =>
   have H := HA.out
   clear HA
   simp only [quarryref02_times.j0] at H
   by_cases c5 : x12_2 = true
   ·subst c5
    have H1 : (some (0, true)) = some (r1, r2) := by rw [if_pos rfl] at H; exact H
    clear H
    have H := H1
    clear H1
    simp only [Option.some.injEq, Prod.mk.injEq] at H
    obtain ⟨rfl, rfl⟩ := H
    go_wp2
    repeat (go_quiet (fail); try go_wp2)
    go_ret2
    exact ⟨by first | rfl | (simp; done) | (simp [*]; done), by repeat (first | exact Drawn0.refl _ | apply Drawn0.step)⟩
   ·replace c5 := Bool.eq_false_iff.mpr c5
    subst c5
    have H1 : (if a0 = (-1) then (some (wrap64 (-a1), (a1 != (-9223372036854775808)))) else (if a1 = (-1) then (some (wrap64 (-a0), (a0 != (-9223372036854775808)))) else (if a1 = 0 then (none) else (some (wrap64 (a0 * a1), ((wrap64 (Int.tdiv (wrap64 (a0 * a1)) a1)) == a0)))))) = some (r1, r2) := by rw [if_neg (show ¬ (false = true) by decide)] at H; exact H
    clear H
    have H := H1
    clear H1
    by_cases c6 : a0 = (-1)
    ·rw [if_pos c6] at H
     have c6b0 : (a0 == (-1)) = true := beq_iff_eq.mpr c6
     have c6b1 : (a0 != (-1)) = false := bne_eq_false_iff_eq.mpr c6
     clear c6
     simp only [Option.some.injEq, Prod.mk.injEq] at H
     obtain ⟨rfl, rfl⟩ := H
     go_wp2
     repeat (go_quiet (fail); try go_wp2)
     go_ret2
     exact ⟨by first | rfl | (simp; done) | (simp [*]; done), by repeat (first | exact Drawn0.refl _ | apply Drawn0.step)⟩
    ·rw [if_neg c6] at H
     have c6b0 : (a0 == (-1)) = false := beq_eq_false_iff_ne.mpr c6
     have c6b1 : (a0 != (-1)) = true := bne_iff_ne.mpr c6
     by_cases c7 : a1 = (-1)
     ·rw [if_pos c7] at H
      have c7b0 : (a1 == (-1)) = true := beq_iff_eq.mpr c7
      have c7b1 : (a1 != (-1)) = false := bne_eq_false_iff_eq.mpr c7
      clear c7
      simp only [Option.some.injEq, Prod.mk.injEq] at H
      obtain ⟨rfl, rfl⟩ := H
      go_wp2
      repeat (go_quiet (fail); try go_wp2)
      go_ret2
      exact ⟨by first | rfl | (simp; done) | (simp [*]; done), by repeat (first | exact Drawn0.refl _ | apply Drawn0.step)⟩
     ·rw [if_neg c7] at H
      have c7b0 : (a1 == (-1)) = false := beq_eq_false_iff_ne.mpr c7
      have c7b1 : (a1 != (-1)) = true := bne_iff_ne.mpr c7
      by_cases c8 : a1 = 0
      ·rw [if_pos c8] at H
       exact absurd H (by simp)
      ·rw [if_neg c8] at H
       have c8b0 : (a1 == 0) = false := beq_eq_false_iff_ne.mpr c8
       have c8b1 : (a1 != 0) = true := bne_iff_ne.mpr c8
       simp only [Option.some.injEq, Prod.mk.injEq] at H
       obtain ⟨rfl, rfl⟩ := H
       go_wp2
       repeat (go_quiet (fail); try go_wp2)
       go_ret2
       exact ⟨by first | rfl | (simp; done) | (simp [*]; done), by repeat (first | exact Drawn0.refl _ | apply Drawn0.step)⟩
def quarryref02_sum.f (k : Nat) (a0 : Int) (a1 : Int) (a2 : Int) : Option (Int × Bool) := if a0 = 11 then (if ((decide ((wrap64 (a1 + a2)) > a1)) == (decide (a2 > 0))) = true then (some (wrap64 (a1 + a2), true)) else (some (wrap64 (a1 + a2), (a2 == 0)))) else (if a0 = 12 then (if ((decide ((wrap64 (a1 - a2)) < a1)) == (decide (a2 > 0))) = true then (some (wrap64 (a1 - a2), true)) else (some (wrap64 (a1 - a2), (a2 == 0)))) else (if a0 = 13 then ((quarryref02_times.f k a1 a2).bind fun bt144 => (some (bt144.1, bt144.2))) else (if a0 = 14 then (if a2 = (-1) then (some (wrap64 (-a1), (a1 != (-9223372036854775808)))) else (if a2 = 0 then (none) else (some (wrap64 (Int.tdiv a1 a2), true)))) else (if a2 = (-1) then (some (0, true)) else (if a2 = 0 then (none) else (some (Int.tmod a1 a2, true)))))))
set_option maxHeartbeats 8000000 in
set_option maxRecDepth 100000 in
theorem quarryref02_sum.calls (k : Nat) (a0 : Int) (a1 : Int) (a2 : Int) (r1 : Int) (r2 : Bool) (w : World) (h : quarryref02_sum.f k a0 a1 a2 = some (r1, r2)) :
  Calls Try.prog 29 #[.int .i64 a0, .int .i64 a1, .int .i64 a2] w fun e w' => e = .returned (.tuple #[.int .i64 r1, .bool r2]) ∧ Drawn0 w w' := by
 have H : (if a0 = 11 then (if ((decide ((wrap64 (a1 + a2)) > a1)) == (decide (a2 > 0))) = true then (some (wrap64 (a1 + a2), true)) else (some (wrap64 (a1 + a2), (a2 == 0)))) else (if a0 = 12 then (if ((decide ((wrap64 (a1 - a2)) < a1)) == (decide (a2 > 0))) = true then (some (wrap64 (a1 - a2), true)) else (some (wrap64 (a1 - a2), (a2 == 0)))) else (if a0 = 13 then ((quarryref02_times.f k a1 a2).bind fun bt144 => (some (bt144.1, bt144.2))) else (if a0 = 14 then (if a2 = (-1) then (some (wrap64 (-a1), (a1 != (-9223372036854775808)))) else (if a2 = 0 then (none) else (some (wrap64 (Int.tdiv a1 a2), true)))) else (if a2 = (-1) then (some (0, true)) else (if a2 = 0 then (none) else (some (Int.tmod a1 a2, true)))))))) = some (r1, r2) := h
 clear h
 by_cases c4 : a0 = 11
 ·rw [if_pos c4] at H
  have c4b0 : (a0 == 11) = true := beq_iff_eq.mpr c4
  have c4b1 : (a0 != 11) = false := bne_eq_false_iff_eq.mpr c4
  clear c4
  by_cases c5 : ((decide ((wrap64 (a1 + a2)) > a1)) == (decide (a2 > 0))) = true
  ·rw [if_pos c5] at H
   have c5b0 : ((decide ((wrap64 (a1 + a2)) > a1)) == (decide (a2 > 0))) = true := c5
   (try (have c5b1 : decide ((decide ((wrap64 (a1 + a2)) > a1)) = (decide (a2 > 0))) = true := by simpa using c5))
   (try (have c5b2 : ((decide ((wrap64 (a1 + a2)) > a1)) == (decide (a2 > 0))) = true := by simpa using c5))
   clear c5
   simp only [Option.some.injEq, Prod.mk.injEq] at H
   obtain ⟨rfl, rfl⟩ := H
   go_enter Try.func29, Try.ntmps29
   go_wp2
   go_ret2
   exact ⟨by first | rfl | (simp; done) | (simp [*]; done), by repeat (first | exact Drawn0.refl _ | apply Drawn0.step)⟩
  ·rw [if_neg c5] at H
   have c5b0 : ((decide ((wrap64 (a1 + a2)) > a1)) == (decide (a2 > 0))) = false := by simpa using c5
   (try (have c5b1 : decide ((decide ((wrap64 (a1 + a2)) > a1)) = (decide (a2 > 0))) = false := by simpa using c5))
   (try (have c5b2 : ((decide ((wrap64 (a1 + a2)) > a1)) == (decide (a2 > 0))) = false := by simpa using c5))
   (try (have c5b3 : ¬ ((decide ((wrap64 (a1 + a2)) > a1)) = (decide (a2 > 0))) := by simpa using c5))
   clear c5
   simp only [Option.some.injEq, Prod.mk.injEq] at H
   obtain ⟨rfl, rfl⟩ := H
   go_enter Try.func29, Try.ntmps29
   go_wp2
   go_ret2
   exact ⟨by first | rfl | (simp; done) | (simp [*]; done), by repeat (first | exact Drawn0.refl _ | apply Drawn0.step)⟩
 ·rw [if_neg c4] at H
  have c4b0 : (a0 == 11) = false := beq_eq_false_iff_ne.mpr c4
  have c4b1 : (a0 != 11) = true := bne_iff_ne.mpr c4
  by_cases c6 : a0 = 12
  ·rw [if_pos c6] at H
   have c6b0 : (a0 == 12) = true := beq_iff_eq.mpr c6
   have c6b1 : (a0 != 12) = false := bne_eq_false_iff_eq.mpr c6
   clear c6
   by_cases c7 : ((decide ((wrap64 (a1 - a2)) < a1)) == (decide (a2 > 0))) = true
   ·rw [if_pos c7] at H
    have c7b0 : ((decide ((wrap64 (a1 - a2)) < a1)) == (decide (a2 > 0))) = true := c7
    (try (have c7b1 : decide ((decide ((wrap64 (a1 - a2)) < a1)) = (decide (a2 > 0))) = true := by simpa using c7))
    (try (have c7b2 : ((decide ((wrap64 (a1 - a2)) < a1)) == (decide (a2 > 0))) = true := by simpa using c7))
    clear c7
    simp only [Option.some.injEq, Prod.mk.injEq] at H
    obtain ⟨rfl, rfl⟩ := H
    go_enter Try.func29, Try.ntmps29
    go_wp2
    go_ret2
    exact ⟨by first | rfl | (simp; done) | (simp [*]; done), by repeat (first | exact Drawn0.refl _ | apply Drawn0.step)⟩
   ·rw [if_neg c7] at H
    have c7b0 : ((decide ((wrap64 (a1 - a2)) < a1)) == (decide (a2 > 0))) = false := by simpa using c7
    (try (have c7b1 : decide ((decide ((wrap64 (a1 - a2)) < a1)) = (decide (a2 > 0))) = false := by simpa using c7))
    (try (have c7b2 : ((decide ((wrap64 (a1 - a2)) < a1)) == (decide (a2 > 0))) = false := by simpa using c7))
    (try (have c7b3 : ¬ ((decide ((wrap64 (a1 - a2)) < a1)) = (decide (a2 > 0))) := by simpa using c7))
    clear c7
    simp only [Option.some.injEq, Prod.mk.injEq] at H
    obtain ⟨rfl, rfl⟩ := H
    go_enter Try.func29, Try.ntmps29
    go_wp2
    go_ret2
    exact ⟨by first | rfl | (simp; done) | (simp [*]; done), by repeat (first | exact Drawn0.refl _ | apply Drawn0.step)⟩
  ·rw [if_neg c6] at H
   have c6b0 : (a0 == 12) = false := beq_eq_false_iff_ne.mpr c6
   have c6b1 : (a0 != 12) = true := bne_iff_ne.mpr c6
   by_cases c8 : a0 = 13
   ·rw [if_pos c8] at H
    have c8b0 : (a0 == 13) = true := beq_iff_eq.mpr c8
    have c8b1 : (a0 != 13) = false := bne_eq_false_iff_eq.mpr c8
    clear c8
    replace H := Option.bind_eq_some_iff.mp H
    obtain ⟨⟨t144, t145⟩, A90, H⟩ := H
    replace H : (some (t144, t145)) = some (r1, r2) := H
    have A9 := Aside0.mk A90
    clear A90
    simp only [Option.some.injEq, Prod.mk.injEq] at H
    obtain ⟨rfl, rfl⟩ := H
    go_enter Try.func29, Try.ntmps29
    go_wp2_with (first | ((with_reducible refine gate_callee (f := 30) rfl ?_); refine goesL_ (some 47) rfl rfl Try.func30 (by kernel_rfl) rfl #[.int .i64 a1, .int .i64 a2] rfl (by (try simp only [List.map_toArray, List.map_cons, List.map_nil]); first | done | rfl | (simp only [List.length_drop, List.length_take]; rfl)) ?_; (with_reducible refine (quarryref02_times.calls k a1 a2 t144 t145 _ A9.out).mono ?_); rintro e w' ⟨rfl, ⟨nd, rfl⟩⟩; refine ⟨_, rfl, ?_⟩))
    go_ret2
    exact ⟨by first | rfl | (simp; done) | (simp [*]; done), by repeat (first | exact Drawn0.refl _ | apply Drawn0.step)⟩
   ·rw [if_neg c8] at H
    have c8b0 : (a0 == 13) = false := beq_eq_false_iff_ne.mpr c8
    have c8b1 : (a0 != 13) = true := bne_iff_ne.mpr c8
    by_cases c10 : a0 = 14
    ·rw [if_pos c10] at H
     have c10b0 : (a0 == 14) = true := beq_iff_eq.mpr c10
     have c10b1 : (a0 != 14) = false := bne_eq_false_iff_eq.mpr c10
     clear c10
     by_cases c11 : a2 = (-1)
     ·rw [if_pos c11] at H
      have c11b0 : (a2 == (-1)) = true := beq_iff_eq.mpr c11
      have c11b1 : (a2 != (-1)) = false := bne_eq_false_iff_eq.mpr c11
      clear c11
      simp only [Option.some.injEq, Prod.mk.injEq] at H
      obtain ⟨rfl, rfl⟩ := H
      go_enter Try.func29, Try.ntmps29
      go_wp2
      go_ret2
      exact ⟨by first | rfl | (simp; done) | (simp [*]; done), by repeat (first | exact Drawn0.refl _ | apply Drawn0.step)⟩
     ·rw [if_neg c11] at H
      have c11b0 : (a2 == (-1)) = false := beq_eq_false_iff_ne.mpr c11
      have c11b1 : (a2 != (-1)) = true := bne_iff_ne.mpr c11
      by_cases c12 : a2 = 0
      ·rw [if_pos c12] at H
       exact absurd H (by simp)
      ·rw [if_neg c12] at H
       have c12b0 : (a2 == 0) = false := beq_eq_false_iff_ne.mpr c12
       have c12b1 : (a2 != 0) = true := bne_iff_ne.mpr c12
       simp only [Option.some.injEq, Prod.mk.injEq] at H
       obtain ⟨rfl, rfl⟩ := H
       go_enter Try.func29, Try.ntmps29
       go_wp2
       go_ret2
       exact ⟨by first | rfl | (simp; done) | (simp [*]; done), by repeat (first | exact Drawn0.refl _ | apply Drawn0.step)⟩
    ·rw [if_neg c10] at H
     have c10b0 : (a0 == 14) = false := beq_eq_false_iff_ne.mpr c10
     have c10b1 : (a0 != 14) = true := bne_iff_ne.mpr c10
     by_cases c13 : a2 = (-1)
     ·rw [if_pos c13] at H
      have c13b0 : (a2 == (-1)) = true := beq_iff_eq.mpr c13
      have c13b1 : (a2 != (-1)) = false := bne_eq_false_iff_eq.mpr c13
      clear c13
      simp only [Option.some.injEq, Prod.mk.injEq] at H
      obtain ⟨rfl, rfl⟩ := H
      go_enter Try.func29, Try.ntmps29
      go_wp2
      go_ret2
      exact ⟨by first | rfl | (simp; done) | (simp [*]; done), by repeat (first | exact Drawn0.refl _ | apply Drawn0.step)⟩
     ·rw [if_neg c13] at H
      have c13b0 : (a2 == (-1)) = false := beq_eq_false_iff_ne.mpr c13
      have c13b1 : (a2 != (-1)) = true := bne_iff_ne.mpr c13
      by_cases c14 : a2 = 0
      ·rw [if_pos c14] at H
       exact absurd H (by simp)
      ·rw [if_neg c14] at H
       have c14b0 : (a2 == 0) = false := beq_eq_false_iff_ne.mpr c14
       have c14b1 : (a2 != 0) = true := bne_iff_ne.mpr c14
       simp only [Option.some.injEq, Prod.mk.injEq] at H
       obtain ⟨rfl, rfl⟩ := H
       go_enter Try.func29, Try.ntmps29
       go_wp2
       go_ret2
       exact ⟨by first | rfl | (simp; done) | (simp [*]; done), by repeat (first | exact Drawn0.refl _ | apply Drawn0.step)⟩
end Go.Proofs.Ytgjfciohmgpohaa.P
end
section
namespace Go.Proofs.Ytgjfciohmgpohaa.P
open Go.RowKit Go.Proofs.YtgjfciohmgpohaaW.PrintWords Go.Proofs.YtgjfciohmgpohaaW.PrintLast Go.Proofs.YtgjfciohmgpohaaW.PrintMore
attribute [local go_sem] max2_int min2_int max_two min_two max_three min_three max_four min_four
set_option linter.unusedVariables false
set_option linter.unusedSimpArgs false
mutual
def quarryref01_texts.l0 : Nat → ByteArray → ByteArray → Int → Option (Int)
 | 0, _, _, _ => none
 | k + 1, x0, x1, x5 => if x5 < (x0.size : Int) then (quarryref01_texts.j1 k x0 x1 x5 (decide (x5 < (x1.size : Int)))) else (quarryref01_texts.j1 k x0 x1 x5 false)
def quarryref01_texts.j1 : Nat → ByteArray → ByteArray → Int → Bool → Option (Int)
 | 0, _, _, _, _ => none
 | k + 1, x0, x1, x5, x15 => if x15 = true then (if 0 ≤ x5 then (if x5 < (x0.size : Int) then (if x5 < (x1.size : Int) then (if (bt x0 x5) < (bt x1 x5) then (some (-1)) else (if (bt x0 x5) > (bt x1 x5) then (some 1) else (quarryref01_texts.l0 k x0 x1 (wrap64 (x5 + 1))))) else (none)) else (none)) else (none)) else (if (x0.size : Int) < (x1.size : Int) then (some (-1)) else (if (x0.size : Int) > (x1.size : Int) then (some 1) else (some 0)))
end
def quarryref01_texts.f (k : Nat) (a0 : ByteArray) (a1 : ByteArray) : Option (Int) := quarryref01_texts.l0 k a0 a1 0
set_option maxHeartbeats 8000000 in
set_option maxRecDepth 100000 in
theorem quarryref01_texts.calls (k : Nat) (a0 : ByteArray) (a1 : ByteArray) (r : Int) (w : World) (h : quarryref01_texts.f k a0 a1 = some r) :
  Calls Try.prog 23 #[.string a0, .string a1] w fun e w' => e = .returned (.int .i64 r) ∧ Drawn0 w w' := by
 have H : (quarryref01_texts.l0 k a0 a1 0) = some r := h
 clear h
 have H' := Aside0.mk H
 clear H
 go_enter Try.func23, Try.ntmps23
 go_wp2
 repeat (go_quiet (fail); try go_wp2)
 go_loopg [5] k (fun kq v5 w' => ∃ (x5_1 : Int), v5 = .int .i64 x5_1 ∧ Aside0 (quarryref01_texts.l0 kq a0 a1 x5_1 = some r) ∧ Aside0 (kq ≤ k) ∧ Drawn0 w w')
 case atStart => exact ⟨(0), (by first | rfl | (simp; done) | (simp [*]; done)), H', ⟨Nat.le_refl _⟩, by repeat (first | exact Drawn0.refl _ | apply Drawn0.step)⟩
 case round =>
  clear H'
  try clear c2
  try clear p2
  obtain ⟨x5_1, rfl, HA, HK1, ⟨m1, rfl⟩⟩ := hrel
  cases gk with
  | zero => exact absurd HA.out (by simp [quarryref01_texts.l0])
  | succ k1 =>
   have H := HA.out
   clear HA
   simp only [quarryref01_texts.l0] at H
   have HC3 := Aside0.mk H
   clear H
   go_upto_region 2 with (fail)
   repeat (go_quiet (fail); go_upto_region 2 with (fail))
   go_cut [15] (fun v15 wc => ∃ (kq : Nat) (x15_2 : Bool), v15 = .bool x15_2 ∧ Aside0 (quarryref01_texts.j1 kq a0 a1 x5_1 x15_2 = some r) ∧ Aside0 (kq ≤ k1) ∧ Drawn0 w wc)
   case first =>
    have H := HC3.out
    clear HC3
    by_cases c4 : x5_1 < (a0.size : Int)
    ·rw [if_pos c4] at H
     have c4b0 : decide (x5_1 < (a0.size : Int)) = true := decide_eq_true c4
     clear c4
     (first | rw [c4b0] | (simp only [i64_w, i32_w]; rw [c4b0]) | skip)
     have H' := Aside0.mk H
     clear H
     go_wp2
     repeat (go_quiet (fail); try go_wp2)
     go_meet
     case rel => exact ⟨_, (decide (x5_1 < (a1.size : Int))), (by first | rfl | (simp; done) | (simp [*]; done)), H', ⟨by have := HK1.out; first | omega | exact Nat.le_refl _⟩, by repeat (first | exact Drawn0.refl _ | apply Drawn0.step)⟩
    ·rw [if_neg c4] at H
     have c4b0 : decide (x5_1 < (a0.size : Int)) = false := decide_eq_false c4
     clear c4
     (first | rw [c4b0] | (simp only [i64_w, i32_w]; rw [c4b0]) | skip)
     have H' := Aside0.mk H
     clear H
     go_wp2
     repeat (go_quiet (fail); try go_wp2)
     go_meet
     case rel => exact ⟨_, (false), (by first | rfl | (simp; done) | (simp [*]; done)), H', ⟨by have := HK1.out; first | omega | exact Nat.le_refl _⟩, by repeat (first | exact Drawn0.refl _ | apply Drawn0.step)⟩
   case rest =>
    clear HC3
    try clear c2
    try clear p2
    try clear c4
    try clear c4b0
    try clear p2
    obtain ⟨kq, x15_2, rfl, HA, HJ2, ⟨mc2, rfl⟩⟩ := hcut
    cases kq with
    | zero => exact absurd HA.out (by simp [quarryref01_texts.j1])
    | succ kj2 =>
     have H := HA.out
     clear HA
     simp only [quarryref01_texts.j1] at H
     by_cases c5 : x15_2 = true
     ·subst c5
      have H1 : (if 0 ≤ x5_1 then (if x5_1 < (a0.size : Int) then (if x5_1 < (a1.size : Int) then (if (bt a0 x5_1) < (bt a1 x5_1) then (some (-1)) else (if (bt a0 x5_1) > (bt a1 x5_1) then (some 1) else (quarryref01_texts.l0 kj2 a0 a1 (wrap64 (x5_1 + 1))))) else (none)) else (none)) else (none)) = some r := by rw [if_pos rfl] at H; exact H
      clear H
      have H := H1
      clear H1
      by_cases c6 : 0 ≤ x5_1
      ·rw [if_pos c6] at H
       have c6b0 : decide (0 ≤ x5_1) = true := decide_eq_true c6
       clear c6
       by_cases c7 : x5_1 < (a0.size : Int)
       ·rw [if_pos c7] at H
        have c7b0 : decide (x5_1 < (a0.size : Int)) = true := decide_eq_true c7
        clear c7
        by_cases c9 : x5_1 < (a1.size : Int)
        ·rw [if_pos c9] at H
         have c9b0 : decide (x5_1 < (a1.size : Int)) = true := decide_eq_true c9
         clear c9
         by_cases c11 : (bt a0 x5_1) < (bt a1 x5_1)
         ·rw [if_pos c11] at H
          have c11b0 : decide ((bt a0 x5_1) < (bt a1 x5_1)) = true := decide_eq_true c11
          clear c11
          obtain rfl := Option.some.inj H
          have p8 : 0 ≤ (x5_1 : Int) := of_decide_eq_true (by first | (with_reducible assumption) | assumption)
          have q8 : x5_1 < (a0.size : Int) := of_decide_eq_true (by first | (with_reducible assumption) | assumption)
          have hx8 := bt_at a0 x5_1
          replace p8 := eq_true p8
          replace q8 := eq_true q8
          have p10 : 0 ≤ (x5_1 : Int) := of_decide_eq_true (by first | (with_reducible assumption) | assumption)
          have q10 : x5_1 < (a1.size : Int) := of_decide_eq_true (by first | (with_reducible assumption) | assumption)
          have hx10 := bt_at a1 x5_1
          replace p10 := eq_true p10
          replace q10 := eq_true q10
          go_wp2
          repeat (go_quiet (fail); try go_wp2)
          go_ret
          exact ⟨by first | rfl | (simp; done) | (simp [*]; done), by repeat (first | exact Drawn0.refl _ | apply Drawn0.step)⟩
         ·rw [if_neg c11] at H
          have c11b0 : decide ((bt a0 x5_1) < (bt a1 x5_1)) = false := decide_eq_false c11
          clear c11
          by_cases c14 : (bt a0 x5_1) > (bt a1 x5_1)
          ·rw [if_pos c14] at H
           have c14b0 : decide ((bt a1 x5_1) < (bt a0 x5_1)) = true := decide_eq_true c14
           clear c14
           obtain rfl := Option.some.inj H
           have p8 : 0 ≤ (x5_1 : Int) := of_decide_eq_true (by first | (with_reducible assumption) | assumption)
           have q8 : x5_1 < (a0.size : Int) := of_decide_eq_true (by first | (with_reducible assumption) | assumption)
           have hx8 := bt_at a0 x5_1
           replace p8 := eq_true p8
           replace q8 := eq_true q8
           have p10 : 0 ≤ (x5_1 : Int) := of_decide_eq_true (by first | (with_reducible assumption) | assumption)
           have q10 : x5_1 < (a1.size : Int) := of_decide_eq_true (by first | (with_reducible assumption) | assumption)
           have hx10 := bt_at a1 x5_1
           replace p10 := eq_true p10
           replace q10 := eq_true q10
           have p12 : 0 ≤ (x5_1 : Int) := of_decide_eq_true (by first | (with_reducible assumption) | assumption)
           have q12 : x5_1 < (a0.size : Int) := of_decide_eq_true (by first | (with_reducible assumption) | assumption)
           have hx12 := bt_at a0 x5_1
           replace p12 := eq_true p12
           replace q12 := eq_true q12
           have p13 : 0 ≤ (x5_1 : Int) := of_decide_eq_true (by first | (with_reducible assumption) | assumption)
           have q13 : x5_1 < (a1.size : Int) := of_decide_eq_true (by first | (with_reducible assumption) | assumption)
           have hx13 := bt_at a1 x5_1
           replace p13 := eq_true p13
           replace q13 := eq_true q13
           go_wp2
           repeat (go_quiet (fail); try go_wp2)
           go_ret
           exact ⟨by first | rfl | (simp; done) | (simp [*]; done), by repeat (first | exact Drawn0.refl _ | apply Drawn0.step)⟩
          ·rw [if_neg c14] at H
           have c14b0 : decide ((bt a1 x5_1) < (bt a0 x5_1)) = false := decide_eq_false c14
           clear c14
           have H' := Aside0.mk H
           clear H
           have p8 : 0 ≤ (x5_1 : Int) := of_decide_eq_true (by first | (with_reducible assumption) | assumption)
           have q8 : x5_1 < (a0.size : Int) := of_decide_eq_true (by first | (with_reducible assumption) | assumption)
           have hx8 := bt_at a0 x5_1
           replace p8 := eq_true p8
           replace q8 := eq_true q8
           have p10 : 0 ≤ (x5_1 : Int) := of_decide_eq_true (by first | (with_reducible assumption) | assumption)
           have q10 : x5_1 < (a1.size : Int) := of_decide_eq_true (by first | (with_reducible assumption) | assumption)
           have hx10 := bt_at a1 x5_1
           replace p10 := eq_true p10
           replace q10 := eq_true q10
           have p12 : 0 ≤ (x5_1 : Int) := of_decide_eq_true (by first | (with_reducible assumption) | assumption)
           have q12 : x5_1 < (a0.size : Int) := of_decide_eq_true (by first | (with_reducible assumption) | assumption)
           have hx12 := bt_at a0 x5_1
           replace p12 := eq_true p12
           replace q12 := eq_true q12
           have p13 : 0 ≤ (x5_1 : Int) := of_decide_eq_true (by first | (with_reducible assumption) | assumption)
           have q13 : x5_1 < (a1.size : Int) := of_decide_eq_true (by first | (with_reducible assumption) | assumption)
           have hx13 := bt_at a1 x5_1
           replace p13 := eq_true p13
           replace q13 := eq_true q13
           go_wp2
           repeat (go_quiet (fail); try go_wp2)
           go_roundg kj2
           case measure => have := HK1.out; have := HJ2.out; omega
           case rel => exact ⟨(wrap64 (x5_1 + 1)), (by first | rfl | (simp; done) | (simp [*]; done)), H', ⟨by have := HK1.out; have := HJ2.out; omega⟩, by repeat (first | exact Drawn0.refl _ | apply Drawn0.step)⟩
        ·rw [if_neg c9] at H
         exact absurd H (by simp)
       ·rw [if_neg c7] at H
        exact absurd H (by simp)
      ·rw [if_neg c6] at H
       exact absurd H (by simp)
     ·replace c5 := Bool.eq_false_iff.mpr c5
      subst c5
      have H1 : (if (a0.size : Int) < (a1.size : Int) then (some (-1)) else (if (a0.size : Int) > (a1.size : Int) then (some 1) else (some 0))) = some r := by rw [if_neg (show ¬ (false = true) by decide)] at H; exact H
      clear H
      have H := H1
      clear H1
      by_cases c15 : (a0.size : Int) < (a1.size : Int)
      ·rw [if_pos c15] at H
       have c15b0 : decide ((a0.size : Int) < (a1.size : Int)) = true := decide_eq_true c15
       have c15b1 : decide (a0.size < a1.size) = true := decide_eq_true (Int.ofNat_lt.mp c15)
       clear c15
       obtain rfl := Option.some.inj H
       go_wp2
       repeat (go_quiet (fail); try go_wp2)
       go_ret
       exact ⟨by first | rfl | (simp; done) | (simp [*]; done), by repeat (first | exact Drawn0.refl _ | apply Drawn0.step)⟩
      ·rw [if_neg c15] at H
       have c15b0 : decide ((a0.size : Int) < (a1.size : Int)) = false := decide_eq_false c15
       have c15b1 : decide (a0.size < a1.size) = false := decide_eq_false (fun h => c15 (Int.ofNat_lt.mpr h))
       clear c15
       by_cases c16 : (a0.size : Int) > (a1.size : Int)
       ·rw [if_pos c16] at H
        have c16b0 : decide ((a1.size : Int) < (a0.size : Int)) = true := decide_eq_true c16
        have c16b1 : decide (a1.size < a0.size) = true := decide_eq_true (Int.ofNat_lt.mp c16)
        clear c16
        obtain rfl := Option.some.inj H
        go_wp2
        repeat (go_quiet (fail); try go_wp2)
        go_ret
        exact ⟨by first | rfl | (simp; done) | (simp [*]; done), by repeat (first | exact Drawn0.refl _ | apply Drawn0.step)⟩
       ·rw [if_neg c16] at H
        have c16b0 : decide ((a1.size : Int) < (a0.size : Int)) = false := decide_eq_false c16
        have c16b1 : decide (a1.size < a0.size) = false := decide_eq_false (fun h => c16 (Int.ofNat_lt.mpr h))
        clear c16
        obtain rfl := Option.some.inj H
        go_wp2
        repeat (go_quiet (fail); try go_wp2)
        go_ret
        exact ⟨by first | rfl | (simp; done) | (simp [*]; done), by repeat (first | exact Drawn0.refl _ | apply Drawn0.step)⟩
mutual
def quarryref01_Compare.j0 : Nat → Bool → Int → Int → ByteArray → Int → Int → ByteArray → Option (Int)
 | 0, _, _, _, _, _, _, _ => none
 | k + 1, x17, x126000, x126001, x126002, x127000, x127001, x127002 => if x17 = true then ((quarryref01_texts.f k x126002 x127002).bind fun t127 => (some t127)) else (if x126000 = 1 then (quarryref01_Compare.j1 k (x126001 == x127001) x126000 x126001 x126002 x127000 x127001 x127002) else (if x126000 = 2 then (quarryref01_Compare.j1 k (x126001 == x127001) x126000 x126001 x126002 x127000 x127001 x127002) else (quarryref01_Compare.j1 k true x126000 x126001 x126002 x127000 x127001 x127002)))
def quarryref01_Compare.j1 : Nat → Bool → Int → Int → ByteArray → Int → Int → ByteArray → Option (Int)
 | 0, _, _, _, _, _, _, _ => none
 | k + 1, x31, x126000, x126001, x126002, x127000, x127001, x127002 => if x31 = true then (some 0) else (if x126001 < x127001 then (some (-1)) else (some 1))
end
def quarryref01_Compare.f (k : Nat) (a0_0 : Int) (a0_1 : Int) (a0_2 : ByteArray) (a1_0 : Int) (a1_1 : Int) (a1_2 : ByteArray) : Option (Int) := if a0_0 < a1_0 then (some (-1)) else (if a0_0 > a1_0 then (some 1) else (if a0_0 = 3 then (quarryref01_Compare.j0 k true a0_0 a0_1 a0_2 a1_0 a1_1 a1_2) else (quarryref01_Compare.j0 k (a0_0 == 4) a0_0 a0_1 a0_2 a1_0 a1_1 a1_2)))
set_option maxHeartbeats 8000000 in
set_option maxRecDepth 100000 in
theorem quarryref01_Compare.calls (k : Nat) (a0_0 : Int) (a0_1 : Int) (a0_2 : ByteArray) (a1_0 : Int) (a1_1 : Int) (a1_2 : ByteArray) (r : Int) (w : World) (h : quarryref01_Compare.f k a0_0 a0_1 a0_2 a1_0 a1_1 a1_2 = some r) :
  Calls Try.prog 17 #[.agg #[.int .i64 a0_0, .int .i64 a0_1, .string a0_2], .agg #[.int .i64 a1_0, .int .i64 a1_1, .string a1_2]] w fun e w' => e = .returned (.int .i64 r) ∧ Below w.heap.size w w' := by
 have hu32 := Try.underlying32
 have HB := Aside0.mk (Below.refl w.heap.size w)
 have H : (if a0_0 < a1_0 then (some (-1)) else (if a0_0 > a1_0 then (some 1) else (if a0_0 = 3 then (quarryref01_Compare.j0 k true a0_0 a0_1 a0_2 a1_0 a1_1 a1_2) else (quarryref01_Compare.j0 k (a0_0 == 4) a0_0 a0_1 a0_2 a1_0 a1_1 a1_2)))) = some r := h
 clear h
 by_cases c3 : a0_0 < a1_0
 ·rw [if_pos c3] at H
  have c3b0 : decide (a0_0 < a1_0) = true := decide_eq_true c3
  clear c3
  obtain rfl := Option.some.inj H
  go_enter Try.func17, Try.ntmps17
  go_wp2_with (first | ((with_reducible refine gate_dst (N := 2) rfl ?_); refine box_event ?hg (N := 2) ?hd (cs := #[.int .i64 a0_0, .int .i64 a0_1, .string a0_2]) (t := 32) ?hr ?_; (case hd => rfl); (case hg => rfl); (case hr => first | (go_simp; done) | (go_simp; rfl)); intro gb125 hg w4 hbox hb; have n0_ := Aside0.mk (below_step (by repeat (first | (with_reducible first | exact HB.out | apply below_alloc | apply pw_below_drewN | apply below_drew1) | exact HB.out)) hb); have n1_ := Aside0.mk (hbox); have n2_ := Aside0.mk ((by rw [hg]; exact (below_size (by repeat (first | (with_reducible first | exact HB.out | apply below_alloc | apply pw_below_drewN | apply below_drew1) | exact HB.out))) : w.heap.size ≤ gb125)); have n3_ := Aside0.mk ((by rw [hg]; exact (below_size (by repeat (first | (with_reducible first | exact HB.out | apply below_alloc | apply pw_below_drewN | apply below_drew1) | exact HB.out))) : w.heap.size ≤ gb125)); clear HB; have HB := n0_; have BK125 := n1_; have GW125 := n2_; have GE125 := n3_; clear n0_ n1_ n2_ n3_; clear hb hbox hg) | ((with_reducible refine gate_dst (N := 3) rfl ?_); refine box_event ?hg (N := 3) ?hd (cs := #[.int .i64 a1_0, .int .i64 a1_1, .string a1_2]) (t := 32) ?hr ?_; (case hd => rfl); (case hg => rfl); (case hr => first | (go_simp; done) | (go_simp; rfl)); intro gb126 hg w5 hbox hb; have n0_ := Aside0.mk (blk_below (g := gb125) (o := .cells #[.int .i64 a0_0, .int .i64 a0_1, .string a0_2] 32 (0, 0)) (bk_ BK125) hb); have n1_ := Aside0.mk (below_step (by repeat (first | (with_reducible first | exact HB.out | apply below_alloc | apply pw_below_drewN | apply below_drew1 | refine below_set ?_ GE125.out) | exact HB.out)) hb); have n2_ := Aside0.mk (hbox); have n3_ := Aside0.mk ((by rw [hg]; exact (below_size (by repeat (first | (with_reducible first | exact HB.out | apply below_alloc | apply pw_below_drewN | apply below_drew1 | refine below_set ?_ GE125.out) | exact HB.out))) : w.heap.size ≤ gb126)); have n4_ := Aside0.mk ((by rw [hg]; exact (below_size (by repeat (first | (with_reducible first | exact HB.out | apply below_alloc | apply pw_below_drewN | apply below_drew1 | refine below_set ?_ GE125.out) | exact HB.out))) : w.heap.size ≤ gb126)); have n5_ := Aside0.mk ((by rw [hg]; exact Nat.ne_of_lt (blk_lt (g := gb125) (o := .cells #[.int .i64 a0_0, .int .i64 a0_1, .string a0_2] 32 (0, 0)) (bk_ BK125)) : gb125 ≠ gb126)); have n6_ := Aside0.mk ((by rw [hg]; exact Nat.ne_of_gt (blk_lt (g := gb125) (o := .cells #[.int .i64 a0_0, .int .i64 a0_1, .string a0_2] 32 (0, 0)) (bk_ BK125)) : gb126 ≠ gb125)); clear BK125; clear HB; have BK125 := n0_; have HB := n1_; have BK126 := n2_; have GW126 := n3_; have GE126 := n4_; have NB125_126 := n5_; have NB126_125 := n6_; clear n0_ n1_ n2_ n3_ n4_ n5_ n6_; clear hb hbox hg; have hnb6 := NB125_126.out; have hnc6 := NB126_125.out; have hcz7_0 : w5.cell? ⟨gb125, 0, none⟩ = some (.int .i64 a0_0) := (blk_cell BK125.out 0).trans rfl; have hcz7_1 : w5.cell? ⟨gb125, 1, none⟩ = some (.int .i64 a0_1) := (blk_cell BK125.out 1).trans rfl; have hcz7_2 : w5.cell? ⟨gb125, 2, none⟩ = some (.string a0_2) := (blk_cell BK125.out 2).trans rfl; have hfz7_0 := blk_frozen BK125.out 0; have hfz7_1 := blk_frozen BK125.out 1; have hfz7_2 := blk_frozen BK125.out 2; have hcz8_0 : w5.cell? ⟨gb126, 0, none⟩ = some (.int .i64 a1_0) := (blk_cell BK126.out 0).trans rfl; have hcz8_1 : w5.cell? ⟨gb126, 1, none⟩ = some (.int .i64 a1_1) := (blk_cell BK126.out 1).trans rfl; have hcz8_2 : w5.cell? ⟨gb126, 2, none⟩ = some (.string a1_2) := (blk_cell BK126.out 2).trans rfl; have hfz8_0 := blk_frozen BK126.out 0; have hfz8_1 := blk_frozen BK126.out 1; have hfz8_2 := blk_frozen BK126.out 2))
  go_ret
  exact ⟨by first | rfl | (simp [errW_none, errW_some] <;> rfl) | (simp [*, errW_none, errW_some] <;> rfl), by repeat (first | (with_reducible first | exact HB.out | apply below_alloc | apply pw_below_drewN | apply below_drew1 | refine below_set ?_ GE125.out | refine below_set ?_ GE126.out) | exact HB.out)⟩
 ·rw [if_neg c3] at H
  have c3b0 : decide (a0_0 < a1_0) = false := decide_eq_false c3
  clear c3
  by_cases c9 : a0_0 > a1_0
  ·rw [if_pos c9] at H
   have c9b0 : decide (a1_0 < a0_0) = true := decide_eq_true c9
   clear c9
   obtain rfl := Option.some.inj H
   go_enter Try.func17, Try.ntmps17
   go_wp2_with (first | ((with_reducible refine gate_dst (N := 2) rfl ?_); refine box_event ?hg (N := 2) ?hd (cs := #[.int .i64 a0_0, .int .i64 a0_1, .string a0_2]) (t := 32) ?hr ?_; (case hd => rfl); (case hg => rfl); (case hr => first | (go_simp; done) | (go_simp; rfl)); intro gb125 hg w10 hbox hb; have n0_ := Aside0.mk (below_step (by repeat (first | (with_reducible first | exact HB.out | apply below_alloc | apply pw_below_drewN | apply below_drew1) | exact HB.out)) hb); have n1_ := Aside0.mk (hbox); have n2_ := Aside0.mk ((by rw [hg]; exact (below_size (by repeat (first | (with_reducible first | exact HB.out | apply below_alloc | apply pw_below_drewN | apply below_drew1) | exact HB.out))) : w.heap.size ≤ gb125)); have n3_ := Aside0.mk ((by rw [hg]; exact (below_size (by repeat (first | (with_reducible first | exact HB.out | apply below_alloc | apply pw_below_drewN | apply below_drew1) | exact HB.out))) : w.heap.size ≤ gb125)); clear HB; have HB := n0_; have BK125 := n1_; have GW125 := n2_; have GE125 := n3_; clear n0_ n1_ n2_ n3_; clear hb hbox hg) | ((with_reducible refine gate_dst (N := 3) rfl ?_); refine box_event ?hg (N := 3) ?hd (cs := #[.int .i64 a1_0, .int .i64 a1_1, .string a1_2]) (t := 32) ?hr ?_; (case hd => rfl); (case hg => rfl); (case hr => first | (go_simp; done) | (go_simp; rfl)); intro gb126 hg w11 hbox hb; have n0_ := Aside0.mk (blk_below (g := gb125) (o := .cells #[.int .i64 a0_0, .int .i64 a0_1, .string a0_2] 32 (0, 0)) (bk_ BK125) hb); have n1_ := Aside0.mk (below_step (by repeat (first | (with_reducible first | exact HB.out | apply below_alloc | apply pw_below_drewN | apply below_drew1 | refine below_set ?_ GE125.out) | exact HB.out)) hb); have n2_ := Aside0.mk (hbox); have n3_ := Aside0.mk ((by rw [hg]; exact (below_size (by repeat (first | (with_reducible first | exact HB.out | apply below_alloc | apply pw_below_drewN | apply below_drew1 | refine below_set ?_ GE125.out) | exact HB.out))) : w.heap.size ≤ gb126)); have n4_ := Aside0.mk ((by rw [hg]; exact (below_size (by repeat (first | (with_reducible first | exact HB.out | apply below_alloc | apply pw_below_drewN | apply below_drew1 | refine below_set ?_ GE125.out) | exact HB.out))) : w.heap.size ≤ gb126)); have n5_ := Aside0.mk ((by rw [hg]; exact Nat.ne_of_lt (blk_lt (g := gb125) (o := .cells #[.int .i64 a0_0, .int .i64 a0_1, .string a0_2] 32 (0, 0)) (bk_ BK125)) : gb125 ≠ gb126)); have n6_ := Aside0.mk ((by rw [hg]; exact Nat.ne_of_gt (blk_lt (g := gb125) (o := .cells #[.int .i64 a0_0, .int .i64 a0_1, .string a0_2] 32 (0, 0)) (bk_ BK125)) : gb126 ≠ gb125)); clear BK125; clear HB; have BK125 := n0_; have HB := n1_; have BK126 := n2_; have GW126 := n3_; have GE126 := n4_; have NB125_126 := n5_; have NB126_125 := n6_; clear n0_ n1_ n2_ n3_ n4_ n5_ n6_; clear hb hbox hg; have hnb12 := NB125_126.out; have hnc12 := NB126_125.out; have hcz13_0 : w11.cell? ⟨gb125, 0, none⟩ = some (.int .i64 a0_0) := (blk_cell BK125.out 0).trans rfl; have hcz13_1 : w11.cell? ⟨gb125, 1, none⟩ = some (.int .i64 a0_1) := (blk_cell BK125.out 1).trans rfl; have hcz13_2 : w11.cell? ⟨gb125, 2, none⟩ = some (.string a0_2) := (blk_cell BK125.out 2).trans rfl; have hfz13_0 := blk_frozen BK125.out 0; have hfz13_1 := blk_frozen BK125.out 1; have hfz13_2 := blk_frozen BK125.out 2; have hcz14_0 : w11.cell? ⟨gb126, 0, none⟩ = some (.int .i64 a1_0) := (blk_cell BK126.out 0).trans rfl; have hcz14_1 : w11.cell? ⟨gb126, 1, none⟩ = some (.int .i64 a1_1) := (blk_cell BK126.out 1).trans rfl; have hcz14_2 : w11.cell? ⟨gb126, 2, none⟩ = some (.string a1_2) := (blk_cell BK126.out 2).trans rfl; have hfz14_0 := blk_frozen BK126.out 0; have hfz14_1 := blk_frozen BK126.out 1; have hfz14_2 := blk_frozen BK126.out 2))
   go_ret
   exact ⟨by first | rfl | (simp [errW_none, errW_some] <;> rfl) | (simp [*, errW_none, errW_some] <;> rfl), by repeat (first | (with_reducible first | exact HB.out | apply below_alloc | apply pw_below_drewN | apply below_drew1 | refine below_set ?_ GE125.out | refine below_set ?_ GE126.out) | exact HB.out)⟩
  ·rw [if_neg c9] at H
   have c9b0 : decide (a1_0 < a0_0) = false := decide_eq_false c9
   clear c9
   have HC15 := Aside0.mk H
   clear H
   go_enter Try.func17, Try.ntmps17
   go_upto_region 5 with (first | ((with_reducible refine gate_dst (N := 2) rfl ?_); refine box_event ?hg (N := 2) ?hd (cs := #[.int .i64 a0_0, .int .i64 a0_1, .string a0_2]) (t := 32) ?hr ?_; (case hd => rfl); (case hg => rfl); (case hr => first | (go_simp; done) | (go_simp; rfl)); intro gb125 hg w16 hbox hb; have n0_ := Aside0.mk (below_step (by repeat (first | (with_reducible first | exact HB.out | apply below_alloc | apply pw_below_drewN | apply below_drew1) | exact HB.out)) hb); have n1_ := Aside0.mk (hbox); have n2_ := Aside0.mk ((by rw [hg]; exact (below_size (by repeat (first | (with_reducible first | exact HB.out | apply below_alloc | apply pw_below_drewN | apply below_drew1) | exact HB.out))) : w.heap.size ≤ gb125)); have n3_ := Aside0.mk ((by rw [hg]; exact (below_size (by repeat (first | (with_reducible first | exact HB.out | apply below_alloc | apply pw_below_drewN | apply below_drew1) | exact HB.out))) : w.heap.size ≤ gb125)); clear HB; have HB := n0_; have BK125 := n1_; have GW125 := n2_; have GE125 := n3_; clear n0_ n1_ n2_ n3_; clear hb hbox hg) | ((with_reducible refine gate_dst (N := 3) rfl ?_); refine box_event ?hg (N := 3) ?hd (cs := #[.int .i64 a1_0, .int .i64 a1_1, .string a1_2]) (t := 32) ?hr ?_; (case hd => rfl); (case hg => rfl); (case hr => first | (go_simp; done) | (go_simp; rfl)); intro gb126 hg w17 hbox hb; have n0_ := Aside0.mk (blk_below (g := gb125) (o := .cells #[.int .i64 a0_0, .int .i64 a0_1, .string a0_2] 32 (0, 0)) (bk_ BK125) hb); have n1_ := Aside0.mk (below_step (by repeat (first | (with_reducible first | exact HB.out | apply below_alloc | apply pw_below_drewN | apply below_drew1 | refine below_set ?_ GE125.out) | exact HB.out)) hb); have n2_ := Aside0.mk (hbox); have n3_ := Aside0.mk ((by rw [hg]; exact (below_size (by repeat (first | (with_reducible first | exact HB.out | apply below_alloc | apply pw_below_drewN | apply below_drew1 | refine below_set ?_ GE125.out) | exact HB.out))) : w.heap.size ≤ gb126)); have n4_ := Aside0.mk ((by rw [hg]; exact (below_size (by repeat (first | (with_reducible first | exact HB.out | apply below_alloc | apply pw_below_drewN | apply below_drew1 | refine below_set ?_ GE125.out) | exact HB.out))) : w.heap.size ≤ gb126)); have n5_ := Aside0.mk ((by rw [hg]; exact Nat.ne_of_lt (blk_lt (g := gb125) (o := .cells #[.int .i64 a0_0, .int .i64 a0_1, .string a0_2] 32 (0, 0)) (bk_ BK125)) : gb125 ≠ gb126)); have n6_ := Aside0.mk ((by rw [hg]; exact Nat.ne_of_gt (blk_lt (g := gb125) (o := .cells #[.int .i64 a0_0, .int .i64 a0_1, .string a0_2] 32 (0, 0)) (bk_ BK125)) : gb126 ≠ gb125)); clear BK125; clear HB; have BK125 := n0_; have HB := n1_; have BK126 := n2_; have GW126 := n3_; have GE126 := n4_; have NB125_126 := n5_; have NB126_125 := n6_; clear n0_ n1_ n2_ n3_ n4_ n5_ n6_; clear hb hbox hg; have hnb18 := NB125_126.out; have hnc18 := NB126_125.out; have hcz19_0 : w17.cell? ⟨gb125, 0, none⟩ = some (.int .i64 a0_0) := (blk_cell BK125.out 0).trans rfl; have hcz19_1 : w17.cell? ⟨gb125, 1, none⟩ = some (.int .i64 a0_1) := (blk_cell BK125.out 1).trans rfl; have hcz19_2 : w17.cell? ⟨gb125, 2, none⟩ = some (.string a0_2) := (blk_cell BK125.out 2).trans rfl; have hfz19_0 := blk_frozen BK125.out 0; have hfz19_1 := blk_frozen BK125.out 1; have hfz19_2 := blk_frozen BK125.out 2; have hcz20_0 : w17.cell? ⟨gb126, 0, none⟩ = some (.int .i64 a1_0) := (blk_cell BK126.out 0).trans rfl; have hcz20_1 : w17.cell? ⟨gb126, 1, none⟩ = some (.int .i64 a1_1) := (blk_cell BK126.out 1).trans rfl; have hcz20_2 : w17.cell? ⟨gb126, 2, none⟩ = some (.string a1_2) := (blk_cell BK126.out 2).trans rfl; have hfz20_0 := blk_frozen BK126.out 0; have hfz20_1 := blk_frozen BK126.out 1; have hfz20_2 := blk_frozen BK126.out 2))
   (try simp only [Act.put, List.setIfInBounds_toArray, List.set_cons_zero, List.set_cons_succ])
   go_cut [17] (fun v17 wc => ∃ (kq : Nat) (x17_14 : Bool), v17 = .bool x17_14 ∧ Aside0 (quarryref01_Compare.j0 kq x17_14 a0_0 a0_1 a0_2 a1_0 a1_1 a1_2 = some r) ∧ Aside0 (kq ≤ k) ∧ Aside0 (wc.heap[gb125]? = some (.cells #[.int .i64 a0_0, .int .i64 a0_1, .string a0_2] 32 (0, 0))) ∧ Aside0 (wc.heap[gb126]? = some (.cells #[.int .i64 a1_0, .int .i64 a1_1, .string a1_2] 32 (0, 0))) ∧ Aside0 (Below w.heap.size w wc))
   case first =>
    have H := HC15.out
    clear HC15
    by_cases c21 : a0_0 = 3
    ·rw [if_pos c21] at H
     have c21b0 : (a0_0 == 3) = true := beq_iff_eq.mpr c21
     have c21b1 : (a0_0 != 3) = false := bne_eq_false_iff_eq.mpr c21
     clear c21
     (first | rw [c21b0] | (simp only [i64_w, i32_w]; rw [c21b0]) | skip)
     have H' := Aside0.mk H
     clear H
     have hnb22 := NB125_126.out
     have hnc22 := NB126_125.out
     have hcz23_0 : w17.cell? ⟨gb125, 0, none⟩ = some (.int .i64 a0_0) := (blk_cell BK125.out 0).trans rfl
     have hcz23_1 : w17.cell? ⟨gb125, 1, none⟩ = some (.int .i64 a0_1) := (blk_cell BK125.out 1).trans rfl
     have hcz23_2 : w17.cell? ⟨gb125, 2, none⟩ = some (.string a0_2) := (blk_cell BK125.out 2).trans rfl
     have hfz23_0 := blk_frozen BK125.out 0
     have hfz23_1 := blk_frozen BK125.out 1
     have hfz23_2 := blk_frozen BK125.out 2
     go_wp2
     go_meet
     case rel => exact ⟨_, (true), (by first | rfl | (simp; done) | (simp [*]; done)), H', ⟨by first | omega | exact Nat.le_refl _⟩, ⟨by (with_reducible repeat (first | refine blk_drewN ?_ _ | refine blk_drew ?_ | refine blk_alloc ?_ _)); exact BK125.out⟩, ⟨by (with_reducible repeat (first | refine blk_drewN ?_ _ | refine blk_drew ?_ | refine blk_alloc ?_ _)); exact BK126.out⟩, ⟨by repeat (first | (with_reducible first | exact HB.out | apply below_alloc | apply pw_below_drewN | apply below_drew1 | refine below_set ?_ GE125.out | refine below_set ?_ GE126.out) | exact HB.out)⟩⟩
    ·rw [if_neg c21] at H
     have c21b0 : (a0_0 == 3) = false := beq_eq_false_iff_ne.mpr c21
     have c21b1 : (a0_0 != 3) = true := bne_iff_ne.mpr c21
     (first | rw [c21b0] | (simp only [i64_w, i32_w]; rw [c21b0]) | skip)
     have H' := Aside0.mk H
     clear H
     have hnb24 := NB125_126.out
     have hnc24 := NB126_125.out
     have hcz25_0 : w17.cell? ⟨gb125, 0, none⟩ = some (.int .i64 a0_0) := (blk_cell BK125.out 0).trans rfl
     have hcz25_1 : w17.cell? ⟨gb125, 1, none⟩ = some (.int .i64 a0_1) := (blk_cell BK125.out 1).trans rfl
     have hcz25_2 : w17.cell? ⟨gb125, 2, none⟩ = some (.string a0_2) := (blk_cell BK125.out 2).trans rfl
     have hfz25_0 := blk_frozen BK125.out 0
     have hfz25_1 := blk_frozen BK125.out 1
     have hfz25_2 := blk_frozen BK125.out 2
     go_wp2
     go_meet
     case rel => exact ⟨_, ((a0_0 == 4)), (by first | rfl | (simp; done) | (simp [*]; done)), H', ⟨by first | omega | exact Nat.le_refl _⟩, ⟨by (with_reducible repeat (first | refine blk_drewN ?_ _ | refine blk_drew ?_ | refine blk_alloc ?_ _)); exact BK125.out⟩, ⟨by (with_reducible repeat (first | refine blk_drewN ?_ _ | refine blk_drew ?_ | refine blk_alloc ?_ _)); exact BK126.out⟩, ⟨by repeat (first | (with_reducible first | exact HB.out | apply below_alloc | apply pw_below_drewN | apply below_drew1 | refine below_set ?_ GE125.out | refine below_set ?_ GE126.out) | exact HB.out)⟩⟩
   case rest =>
    clear HC15
    try clear c1
    try clear c2
    try clear p2
    try clear c3
    try clear c3b0
    try clear c6
    try clear c9
    try clear c9b0
    try clear c12
    try clear c17
    try clear c18
    try clear c21
    try clear c21b0
    try clear c21b1
    try clear c22
    try clear c24
    try clear hcz13_0
    try clear hcz13_1
    try clear hcz13_2
    try clear hcz14_0
    try clear hcz14_1
    try clear hcz14_2
    try clear hcz19_0
    try clear hcz19_1
    try clear hcz19_2
    try clear hcz20_0
    try clear hcz20_1
    try clear hcz20_2
    try clear hcz23_0
    try clear hcz23_1
    try clear hcz23_2
    try clear hcz25_0
    try clear hcz25_1
    try clear hcz25_2
    try clear hcz7_0
    try clear hcz7_1
    try clear hcz7_2
    try clear hcz8_0
    try clear hcz8_1
    try clear hcz8_2
    try clear hfz13_0
    try clear hfz13_1
    try clear hfz13_2
    try clear hfz14_0
    try clear hfz14_1
    try clear hfz14_2
    try clear hfz19_0
    try clear hfz19_1
    try clear hfz19_2
    try clear hfz20_0
    try clear hfz20_1
    try clear hfz20_2
    try clear hfz23_0
    try clear hfz23_1
    try clear hfz23_2
    try clear hfz25_0
    try clear hfz25_1
    try clear hfz25_2
    try clear hfz7_0
    try clear hfz7_1
    try clear hfz7_2
    try clear hfz8_0
    try clear hfz8_1
    try clear hfz8_2
    obtain ⟨kq, x17_14, rfl, HA, HJ14, BK125, BK126, HB⟩ := hcut
    cases kq with
    | zero => exact absurd HA.out (by simp [quarryref01_Compare.j0])
    | succ kj14 =>
     have H := HA.out
     clear HA
     simp only [quarryref01_Compare.j0] at H
     by_cases c26 : x17_14 = true
     ·subst c26
      have H1 : ((quarryref01_texts.f kj14 a0_2 a1_2).bind fun t127 => (some t127)) = some r := by rw [if_pos rfl] at H; exact H
      clear H
      have H := H1
      clear H1
      replace H := Option.bind_eq_some_iff.mp H
      obtain ⟨t127, A270, H⟩ := H
      replace H : (some t127) = some r := H
      have A27 := Aside0.mk A270
      clear A270
      obtain rfl := Option.some.inj H
      have hnb28 := NB125_126.out
      have hnc28 := NB126_125.out
      have hcz29_0 : wc.cell? ⟨gb125, 0, none⟩ = some (.int .i64 a0_0) := (blk_cell BK125.out 0).trans rfl
      have hcz29_1 : wc.cell? ⟨gb125, 1, none⟩ = some (.int .i64 a0_1) := (blk_cell BK125.out 1).trans rfl
      have hcz29_2 : wc.cell? ⟨gb125, 2, none⟩ = some (.string a0_2) := (blk_cell BK125.out 2).trans rfl
      have hfz29_0 := blk_frozen BK125.out 0
      have hfz29_1 := blk_frozen BK125.out 1
      have hfz29_2 := blk_frozen BK125.out 2
      have hcz30_0 : wc.cell? ⟨gb126, 0, none⟩ = some (.int .i64 a1_0) := (blk_cell BK126.out 0).trans rfl
      have hcz30_1 : wc.cell? ⟨gb126, 1, none⟩ = some (.int .i64 a1_1) := (blk_cell BK126.out 1).trans rfl
      have hcz30_2 : wc.cell? ⟨gb126, 2, none⟩ = some (.string a1_2) := (blk_cell BK126.out 2).trans rfl
      have hfz30_0 := blk_frozen BK126.out 0
      have hfz30_1 := blk_frozen BK126.out 1
      have hfz30_2 := blk_frozen BK126.out 2
      go_wp2_with (first | ((with_reducible refine gate_callee (f := 23) rfl ?_); refine goesL_ (some 30) rfl rfl Try.func23 (by kernel_rfl) rfl #[.string a0_2, .string a1_2] rfl (by (try simp only [List.map_toArray, List.map_cons, List.map_nil]); first | done | rfl | (simp only [List.length_drop, List.length_take]; rfl)) ?_; (with_reducible refine (quarryref01_texts.calls kj14 a0_2 a1_2 t127 _ A27.out).mono ?_); rintro e w' ⟨rfl, ⟨nd, rfl⟩⟩; refine ⟨_, rfl, ?_⟩))
      go_ret
      exact ⟨by first | rfl | (simp [errW_none, errW_some] <;> rfl) | (simp [*, errW_none, errW_some] <;> rfl), by repeat (first | (with_reducible first | exact HB.out | apply below_alloc | apply pw_below_drewN | apply below_drew1 | refine below_set ?_ GE125.out | refine below_set ?_ GE126.out) | exact HB.out)⟩
     ·replace c26 := Bool.eq_false_iff.mpr c26
      subst c26
      have H1 : (if a0_0 = 1 then (quarryref01_Compare.j1 kj14 (a0_1 == a1_1) a0_0 a0_1 a0_2 a1_0 a1_1 a1_2) else (if a0_0 = 2 then (quarryref01_Compare.j1 kj14 (a0_1 == a1_1) a0_0 a0_1 a0_2 a1_0 a1_1 a1_2) else (quarryref01_Compare.j1 kj14 true a0_0 a0_1 a0_2 a1_0 a1_1 a1_2))) = some r := by rw [if_neg (show ¬ (false = true) by decide)] at H; exact H
      clear H
      have H := H1
      clear H1
      have HC31 := Aside0.mk H
      clear H
      go_upto_region 7 with (fail)
      go_cut [31] (fun v31 wc => ∃ (kq : Nat) (x31_30 : Bool), v31 = .bool x31_30 ∧ Aside0 (quarryref01_Compare.j1 kq x31_30 a0_0 a0_1 a0_2 a1_0 a1_1 a1_2 = some r) ∧ Aside0 (kq ≤ kj14) ∧ Aside0 (wc.heap[gb125]? = some (.cells #[.int .i64 a0_0, .int .i64 a0_1, .string a0_2] 32 (0, 0))) ∧ Aside0 (wc.heap[gb126]? = some (.cells #[.int .i64 a1_0, .int .i64 a1_1, .string a1_2] 32 (0, 0))) ∧ Aside0 (Below w.heap.size w wc))
      case first =>
       have H := HC31.out
       clear HC31
       by_cases c32 : a0_0 = 1
       ·rw [if_pos c32] at H
        have c32b0 : (a0_0 == 1) = true := beq_iff_eq.mpr c32
        have c32b1 : (a0_0 != 1) = false := bne_eq_false_iff_eq.mpr c32
        clear c32
        (first | rw [c32b0] | (simp only [i64_w, i32_w]; rw [c32b0]) | skip)
        have H' := Aside0.mk H
        clear H
        have hnb33 := NB125_126.out
        have hnc33 := NB126_125.out
        have hcz34_0 : wc.cell? ⟨gb125, 0, none⟩ = some (.int .i64 a0_0) := (blk_cell BK125.out 0).trans rfl
        have hcz34_1 : wc.cell? ⟨gb125, 1, none⟩ = some (.int .i64 a0_1) := (blk_cell BK125.out 1).trans rfl
        have hcz34_2 : wc.cell? ⟨gb125, 2, none⟩ = some (.string a0_2) := (blk_cell BK125.out 2).trans rfl
        have hfz34_0 := blk_frozen BK125.out 0
        have hfz34_1 := blk_frozen BK125.out 1
        have hfz34_2 := blk_frozen BK125.out 2
        have hcz35_0 : wc.cell? ⟨gb126, 0, none⟩ = some (.int .i64 a1_0) := (blk_cell BK126.out 0).trans rfl
        have hcz35_1 : wc.cell? ⟨gb126, 1, none⟩ = some (.int .i64 a1_1) := (blk_cell BK126.out 1).trans rfl
        have hcz35_2 : wc.cell? ⟨gb126, 2, none⟩ = some (.string a1_2) := (blk_cell BK126.out 2).trans rfl
        have hfz35_0 := blk_frozen BK126.out 0
        have hfz35_1 := blk_frozen BK126.out 1
        have hfz35_2 := blk_frozen BK126.out 2
        go_wp2
        go_meet
        case rel => exact ⟨_, ((a0_1 == a1_1)), (by first | rfl | (simp; done) | (simp [*]; done)), H', ⟨by have := HJ14.out; first | omega | exact Nat.le_refl _⟩, ⟨by (with_reducible repeat (first | refine blk_drewN ?_ _ | refine blk_drew ?_ | refine blk_alloc ?_ _)); exact BK125.out⟩, ⟨by (with_reducible repeat (first | refine blk_drewN ?_ _ | refine blk_drew ?_ | refine blk_alloc ?_ _)); exact BK126.out⟩, ⟨by repeat (first | (with_reducible first | exact HB.out | apply below_alloc | apply pw_below_drewN | apply below_drew1 | refine below_set ?_ GE125.out | refine below_set ?_ GE126.out) | exact HB.out)⟩⟩
       ·rw [if_neg c32] at H
        have c32b0 : (a0_0 == 1) = false := beq_eq_false_iff_ne.mpr c32
        have c32b1 : (a0_0 != 1) = true := bne_iff_ne.mpr c32
        (first | rw [c32b0] | (simp only [i64_w, i32_w]; rw [c32b0]) | skip)
        by_cases c36 : a0_0 = 2
        ·rw [if_pos c36] at H
         have c36b0 : (a0_0 == 2) = true := beq_iff_eq.mpr c36
         have c36b1 : (a0_0 != 2) = false := bne_eq_false_iff_eq.mpr c36
         clear c36
         have H' := Aside0.mk H
         clear H
         have hnb37 := NB125_126.out
         have hnc37 := NB126_125.out
         have hcz38_0 : wc.cell? ⟨gb125, 0, none⟩ = some (.int .i64 a0_0) := (blk_cell BK125.out 0).trans rfl
         have hcz38_1 : wc.cell? ⟨gb125, 1, none⟩ = some (.int .i64 a0_1) := (blk_cell BK125.out 1).trans rfl
         have hcz38_2 : wc.cell? ⟨gb125, 2, none⟩ = some (.string a0_2) := (blk_cell BK125.out 2).trans rfl
         have hfz38_0 := blk_frozen BK125.out 0
         have hfz38_1 := blk_frozen BK125.out 1
         have hfz38_2 := blk_frozen BK125.out 2
         have hcz39_0 : wc.cell? ⟨gb126, 0, none⟩ = some (.int .i64 a1_0) := (blk_cell BK126.out 0).trans rfl
         have hcz39_1 : wc.cell? ⟨gb126, 1, none⟩ = some (.int .i64 a1_1) := (blk_cell BK126.out 1).trans rfl
         have hcz39_2 : wc.cell? ⟨gb126, 2, none⟩ = some (.string a1_2) := (blk_cell BK126.out 2).trans rfl
         have hfz39_0 := blk_frozen BK126.out 0
         have hfz39_1 := blk_frozen BK126.out 1
         have hfz39_2 := blk_frozen BK126.out 2
         go_wp2
         go_meet
         case rel => exact ⟨_, ((a0_1 == a1_1)), (by first | rfl | (simp; done) | (simp [*]; done)), H', ⟨by have := HJ14.out; first | omega | exact Nat.le_refl _⟩, ⟨by (with_reducible repeat (first | refine blk_drewN ?_ _ | refine blk_drew ?_ | refine blk_alloc ?_ _)); exact BK125.out⟩, ⟨by (with_reducible repeat (first | refine blk_drewN ?_ _ | refine blk_drew ?_ | refine blk_alloc ?_ _)); exact BK126.out⟩, ⟨by repeat (first | (with_reducible first | exact HB.out | apply below_alloc | apply pw_below_drewN | apply below_drew1 | refine below_set ?_ GE125.out | refine below_set ?_ GE126.out) | exact HB.out)⟩⟩
        ·rw [if_neg c36] at H
         have c36b0 : (a0_0 == 2) = false := beq_eq_false_iff_ne.mpr c36
         have c36b1 : (a0_0 != 2) = true := bne_iff_ne.mpr c36
         have H' := Aside0.mk H
         clear H
         have hnb40 := NB125_126.out
         have hnc40 := NB126_125.out
         have hcz41_0 : wc.cell? ⟨gb125, 0, none⟩ = some (.int .i64 a0_0) := (blk_cell BK125.out 0).trans rfl
         have hcz41_1 : wc.cell? ⟨gb125, 1, none⟩ = some (.int .i64 a0_1) := (blk_cell BK125.out 1).trans rfl
         have hcz41_2 : wc.cell? ⟨gb125, 2, none⟩ = some (.string a0_2) := (blk_cell BK125.out 2).trans rfl
         have hfz41_0 := blk_frozen BK125.out 0
         have hfz41_1 := blk_frozen BK125.out 1
         have hfz41_2 := blk_frozen BK125.out 2
         go_wp2
         go_meet
         case rel => exact ⟨_, (true), (by first | rfl | (simp; done) | (simp [*]; done)), H', ⟨by have := HJ14.out; first | omega | exact Nat.le_refl _⟩, ⟨by (with_reducible repeat (first | refine blk_drewN ?_ _ | refine blk_drew ?_ | refine blk_alloc ?_ _)); exact BK125.out⟩, ⟨by (with_reducible repeat (first | refine blk_drewN ?_ _ | refine blk_drew ?_ | refine blk_alloc ?_ _)); exact BK126.out⟩, ⟨by repeat (first | (with_reducible first | exact HB.out | apply below_alloc | apply pw_below_drewN | apply below_drew1 | refine below_set ?_ GE125.out | refine below_set ?_ GE126.out) | exact HB.out)⟩⟩
      case rest =>
       clear HC31
       try clear c1
       try clear c2
       try clear p2
       try clear c3
       try clear c3b0
       try clear c4
       try clear c6
       try clear c9
       try clear c9b0
       try clear c12
       try clear c17
       try clear c18
       try clear c21
       try clear c21b0
       try clear c21b1
       try clear c22
       try clear c23
       try clear c24
       try clear c26
       try clear c28
       try clear c32
       try clear c32b0
       try clear c32b1
       try clear c33
       try clear c36
       try clear c36b0
       try clear c36b1
       try clear c37
       try clear c40
       try clear hcz13_0
       try clear hcz13_1
       try clear hcz13_2
       try clear hcz14_0
       try clear hcz14_1
       try clear hcz14_2
       try clear hcz19_0
       try clear hcz19_1
       try clear hcz19_2
       try clear hcz20_0
       try clear hcz20_1
       try clear hcz20_2
       try clear hcz23_0
       try clear hcz23_1
       try clear hcz23_2
       try clear hcz25_0
       try clear hcz25_1
       try clear hcz25_2
       try clear hcz29_0
       try clear hcz29_1
       try clear hcz29_2
       try clear hcz30_0
       try clear hcz30_1
       try clear hcz30_2
       try clear hcz34_0
       try clear hcz34_1
       try clear hcz34_2
       try clear hcz35_0
       try clear hcz35_1
       try clear hcz35_2
       try clear hcz38_0
       try clear hcz38_1
       try clear hcz38_2
       try clear hcz39_0
       try clear hcz39_1
       try clear hcz39_2
       try clear hcz41_0
       try clear hcz41_1
       try clear hcz41_2
       try clear hcz7_0
       try clear hcz7_1
       try clear hcz7_2
       try clear hcz8_0
       try clear hcz8_1
       try clear hcz8_2
       try clear hfz13_0
       try clear hfz13_1
       try clear hfz13_2
       try clear hfz14_0
       try clear hfz14_1
       try clear hfz14_2
       try clear hfz19_0
       try clear hfz19_1
       try clear hfz19_2
       try clear hfz20_0
       try clear hfz20_1
       try clear hfz20_2
       try clear hfz23_0
       try clear hfz23_1
       try clear hfz23_2
       try clear hfz25_0
       try clear hfz25_1
       try clear hfz25_2
       try clear hfz29_0
       try clear hfz29_1
       try clear hfz29_2
       try clear hfz30_0
       try clear hfz30_1
       try clear hfz30_2
       try clear hfz34_0
       try clear hfz34_1
       try clear hfz34_2
       try clear hfz35_0
       try clear hfz35_1
       try clear hfz35_2
       try clear hfz38_0
       try clear hfz38_1
       try clear hfz38_2
       try clear hfz39_0
       try clear hfz39_1
       try clear hfz39_2
       try clear hfz41_0
       try clear hfz41_1
       try clear hfz41_2
       try clear hfz7_0
       try clear hfz7_1
       try clear hfz7_2
       try clear hfz8_0
       try clear hfz8_1
       try clear hfz8_2
       try clear p2
       obtain ⟨kq, x31_30, rfl, HA, HJ30, BK125, BK126, HB⟩ := hcut
       cases kq with
       | zero => exact absurd HA.out (by simp [quarryref01_Compare.j1])
       | succ kj30 =>
        have H := HA.out
        clear HA
        simp only [quarryref01_Compare.j1] at H
        by_cases c42 : x31_30 = true
        ·subst c42
         have H1 : (some 0) = some r := by rw [if_pos rfl] at H; exact H
         clear H
         have H := H1
         clear H1
         obtain rfl := Option.some.inj H
         go_wp2
         go_ret
         exact ⟨by first | rfl | (simp [errW_none, errW_some] <;> rfl) | (simp [*, errW_none, errW_some] <;> rfl), by repeat (first | (with_reducible first | exact HB.out | apply below_alloc | apply pw_below_drewN | apply below_drew1 | refine below_set ?_ GE125.out | refine below_set ?_ GE126.out) | exact HB.out)⟩
        ·replace c42 := Bool.eq_false_iff.mpr c42
         subst c42
         have H1 : (if a0_1 < a1_1 then (some (-1)) else (some 1)) = some r := by rw [if_neg (show ¬ (false = true) by decide)] at H; exact H
         clear H
         have H := H1
         clear H1
         by_cases c43 : a0_1 < a1_1
         ·rw [if_pos c43] at H
          have c43b0 : decide (a0_1 < a1_1) = true := decide_eq_true c43
          clear c43
          obtain rfl := Option.some.inj H
          have hnb44 := NB125_126.out
          have hnc44 := NB126_125.out
          have hcz45_0 : wc.cell? ⟨gb125, 0, none⟩ = some (.int .i64 a0_0) := (blk_cell BK125.out 0).trans rfl
          have hcz45_1 : wc.cell? ⟨gb125, 1, none⟩ = some (.int .i64 a0_1) := (blk_cell BK125.out 1).trans rfl
          have hcz45_2 : wc.cell? ⟨gb125, 2, none⟩ = some (.string a0_2) := (blk_cell BK125.out 2).trans rfl
          have hfz45_0 := blk_frozen BK125.out 0
          have hfz45_1 := blk_frozen BK125.out 1
          have hfz45_2 := blk_frozen BK125.out 2
          have hcz46_0 : wc.cell? ⟨gb126, 0, none⟩ = some (.int .i64 a1_0) := (blk_cell BK126.out 0).trans rfl
          have hcz46_1 : wc.cell? ⟨gb126, 1, none⟩ = some (.int .i64 a1_1) := (blk_cell BK126.out 1).trans rfl
          have hcz46_2 : wc.cell? ⟨gb126, 2, none⟩ = some (.string a1_2) := (blk_cell BK126.out 2).trans rfl
          have hfz46_0 := blk_frozen BK126.out 0
          have hfz46_1 := blk_frozen BK126.out 1
          have hfz46_2 := blk_frozen BK126.out 2
          go_wp2
          go_ret
          exact ⟨by first | rfl | (simp [errW_none, errW_some] <;> rfl) | (simp [*, errW_none, errW_some] <;> rfl), by repeat (first | (with_reducible first | exact HB.out | apply below_alloc | apply pw_below_drewN | apply below_drew1 | refine below_set ?_ GE125.out | refine below_set ?_ GE126.out) | exact HB.out)⟩
         ·rw [if_neg c43] at H
          have c43b0 : decide (a0_1 < a1_1) = false := decide_eq_false c43
          clear c43
          obtain rfl := Option.some.inj H
          have hnb47 := NB125_126.out
          have hnc47 := NB126_125.out
          have hcz48_0 : wc.cell? ⟨gb125, 0, none⟩ = some (.int .i64 a0_0) := (blk_cell BK125.out 0).trans rfl
          have hcz48_1 : wc.cell? ⟨gb125, 1, none⟩ = some (.int .i64 a0_1) := (blk_cell BK125.out 1).trans rfl
          have hcz48_2 : wc.cell? ⟨gb125, 2, none⟩ = some (.string a0_2) := (blk_cell BK125.out 2).trans rfl
          have hfz48_0 := blk_frozen BK125.out 0
          have hfz48_1 := blk_frozen BK125.out 1
          have hfz48_2 := blk_frozen BK125.out 2
          have hcz49_0 : wc.cell? ⟨gb126, 0, none⟩ = some (.int .i64 a1_0) := (blk_cell BK126.out 0).trans rfl
          have hcz49_1 : wc.cell? ⟨gb126, 1, none⟩ = some (.int .i64 a1_1) := (blk_cell BK126.out 1).trans rfl
          have hcz49_2 : wc.cell? ⟨gb126, 2, none⟩ = some (.string a1_2) := (blk_cell BK126.out 2).trans rfl
          have hfz49_0 := blk_frozen BK126.out 0
          have hfz49_1 := blk_frozen BK126.out 1
          have hfz49_2 := blk_frozen BK126.out 2
          go_wp2
          go_ret
          exact ⟨by first | rfl | (simp [errW_none, errW_some] <;> rfl) | (simp [*, errW_none, errW_some] <;> rfl), by repeat (first | (with_reducible first | exact HB.out | apply below_alloc | apply pw_below_drewN | apply below_drew1 | refine below_set ?_ GE125.out | refine below_set ?_ GE126.out) | exact HB.out)⟩
end Go.Proofs.Ytgjfciohmgpohaa.P
end
section
namespace Go.Proofs.Ytgjfciohmgpohaa.Pure
set_option linter.unusedVariables false
set_option linter.unusedSimpArgs false
open Go.RowKit Go.Proofs.Ytgjfciohmgpohaa.P Go.Proofs.YtgjfciohmgpohaaW.PrintWords Go.Proofs.YtgjfciohmgpohaaW.PrintLast Go.Proofs.YtgjfciohmgpohaaW.PrintMore
theorem texts_loop (s t : ByteArray) (hs : s.size ≤ 140737488351232) : ∀ (a b pa pb : List UInt8), s.data.toList = pa ++ a → t.data.toList = pb ++ b → pa.length = pb.length →
    Ev (fun k => quarryref01_texts.l0 k s t (pa.length : Int)) (Lib.compareBytes a b) := by
  have hz : ∀ u : ByteArray, u.size = u.data.toList.length := fun u => by rw [Array.length_toList]; rfl
  intro a
  induction a with
  | nil =>
    intro b pa pb ha hb hp
    have h1 := hz s
    have h2 := hz t
    rw [ha] at h1
    rw [hb] at h2
    simp only [List.append_nil, List.length_append] at h1 h2
    have e1 : ¬ ((pa.length : Int) < (s.size : Int)) := by omega
    refine Ev.succ ?_
    simp only [quarryref01_texts.l0, e1, if_false]
    refine Ev.succ ?_
    simp only [quarryref01_texts.j1, Bool.false_eq_true, if_false]
    cases b with
    | nil =>
      simp only [List.length_nil] at h2
      have e2 : ¬ (s.size : Int) < (t.size : Int) := by omega
      have e3 : ¬ (s.size : Int) > (t.size : Int) := by omega
      simp only [e2, e3, if_false]
      exact Ev.pure _
    | cons y b =>
      simp only [List.length_cons] at h2
      have e2 : (s.size : Int) < (t.size : Int) := by omega
      simp only [e2, if_true]
      exact Ev.pure _
  | cons x a ih =>
    intro b pa pb ha hb hp
    have h1 := hz s
    have h2 := hz t
    rw [ha] at h1
    rw [hb] at h2
    simp only [List.length_append, List.length_cons] at h1 h2
    have e1 : ((pa.length : Int) < (s.size : Int)) := by omega
    have e0 : (0 : Int) ≤ (pa.length : Int) := by omega
    refine Ev.succ ?_
    simp only [quarryref01_texts.l0, e1, if_true]
    refine Ev.succ ?_
    cases b with
    | nil =>
      simp only [List.length_nil] at h2
      have e2 : ¬ ((pa.length : Int) < (t.size : Int)) := by omega
      have e3 : ¬ (s.size : Int) < (t.size : Int) := by omega
      have e4 : (s.size : Int) > (t.size : Int) := by omega
      simp only [quarryref01_texts.j1, e2, decide_false, Bool.false_eq_true, if_false, e3, e4, if_true]
      exact Ev.pure _
    | cons y b =>
      simp only [List.length_cons] at h2
      have e2 : ((pa.length : Int) < (t.size : Int)) := by omega
      have b1 := bt_at' s pa x a ha
      have b2 := bt_at' t pb y b hb
      rw [← hp] at b2
      simp only [quarryref01_texts.j1, e2, decide_true, if_true, e0, e1, b1, b2]
      unfold Lib.compareBytes
      by_cases c1 : x < y
      · have c1' : (x.toNat : Int) < (y.toNat : Int) := by have := UInt8.lt_iff_toNat_lt.1 c1; omega
        simp only [c1, c1', if_true]
        exact Ev.pure _
      · have c1' : ¬ (x.toNat : Int) < (y.toNat : Int) := fun h => c1 (UInt8.lt_iff_toNat_lt.2 (by omega))
        by_cases c2 : y < x
        · have c2' : (x.toNat : Int) > (y.toNat : Int) := by have := UInt8.lt_iff_toNat_lt.1 c2; omega
          simp only [c1, c1', c2, c2', if_true, if_false]
          exact Ev.pure _
        · have c2' : ¬ (x.toNat : Int) > (y.toNat : Int) := fun h => c2 (UInt8.lt_iff_toNat_lt.2 (by omega))
          have e6 : wrap64 ((pa.length : Int) + 1) = (pa.length : Int) + 1 := wrap64_in (by omega) (by omega)
          simp only [c1, c1', c2, c2', if_false, e6]
          have := ih b (pa ++ [x]) (pb ++ [y]) (by simpa using ha) (by simpa using hb) (by simpa using hp)
          simpa using this
theorem texts_ev (s t : ByteArray) (hs : s.size ≤ 140737488351232) : Ev (fun k => quarryref01_texts.f k s t) (cmpT s t) := by
  unfold quarryref01_texts.f cmpT
  have := texts_loop s t hs s.data.toList t.data.toList [] [] rfl rfl rfl
  simpa using this
theorem ref_cmp_ev (x y : S32) (hx : x.f2.size ≤ 140737488351232) : Ev (fun k => quarryref01_Compare.f k x.f0 x.f1 x.f2 y.f0 y.f1 y.f2) (cmpV x y) := by
  unfold quarryref01_Compare.f cmpV cmpI
  by_cases c1 : x.f0 < y.f0
  · have e : ¬ x.f0 = y.f0 := by omega
    simp only [c1, e, if_true, if_false]
    exact Ev.pure _
  by_cases c2 : y.f0 < x.f0
  · have e : ¬ x.f0 = y.f0 := by omega
    simp only [c1, c2, e, gt_iff_lt, if_true, if_false]
    exact Ev.pure _
  have e : x.f0 = y.f0 := by omega
  rw [if_pos e]
  simp only [c1, c2, gt_iff_lt, if_false]
  have hj : Ev (fun k => quarryref01_Compare.j0 k (x.f0 == 3 || x.f0 == 4) x.f0 x.f1 x.f2 y.f0 y.f1 y.f2) (if x.f0 = 1 ∨ x.f0 = 2 then (if x.f1 < y.f1 then -1 else if y.f1 < x.f1 then 1 else 0) else if x.f0 = 3 ∨ x.f0 = 4 then cmpT x.f2 y.f2 else 0) := by
    refine Ev.succ ?_
    simp only [quarryref01_Compare.j0]
    by_cases h34 : x.f0 = 3 ∨ x.f0 = 4
    · have q : (x.f0 == 3 || x.f0 == 4) = true := by simpa using h34
      rw [if_neg (by omega), if_pos h34]
      simp only [q, if_true]
      exact Ev.bind (texts_ev _ _ hx) (Ev.pure _)
    have q : (x.f0 == 3 || x.f0 == 4) = false := by simpa using h34
    simp only [q, Bool.false_eq_true, if_false]
    rw [if_neg h34]
    have hk : Ev (fun k => quarryref01_Compare.j1 k (x.f1 == y.f1) x.f0 x.f1 x.f2 y.f0 y.f1 y.f2) (if x.f1 < y.f1 then -1 else if y.f1 < x.f1 then 1 else 0) := by
      refine Ev.succ ?_
      simp only [quarryref01_Compare.j1]
      by_cases g : x.f1 = y.f1
      · simp only [g, beq_self_eq_true, if_true, Int.lt_irrefl, if_false]
        exact Ev.pure _
      · have : (x.f1 == y.f1) = false := by simpa using g
        simp only [this, Bool.false_eq_true, if_false]
        by_cases g1 : x.f1 < y.f1
        · simp only [g1, if_true]; exact Ev.pure _
        · have g2 : y.f1 < x.f1 := by omega
          simp only [g1, g2, if_true, if_false]; exact Ev.pure _
    by_cases h1 : x.f0 = 1
    · rw [if_pos (.inl h1)]
      simp only [h1, if_true] at hk ⊢
      exact hk
    by_cases h2 : x.f0 = 2
    · rw [if_pos (.inr h2)]
      simp only [h1, h2, if_true, if_false] at hk ⊢
      exact hk
    rw [if_neg (by omega)]
    simp only [h1, h2, if_false]
    refine Ev.succ ?_
    simp only [quarryref01_Compare.j1, if_true]
    exact Ev.pure _
  by_cases h3 : x.f0 = 3
  · have q : (x.f0 == 3 || x.f0 == 4) = true := by simp [h3]
    rw [q] at hj
    simp only [h3, if_true] at hj ⊢
    exact hj
  · have q : (x.f0 == 3 || x.f0 == 4) = (x.f0 == 4) := by simp [h3]
    rw [q] at hj
    simp only [h3, if_false] at hj ⊢
    exact hj
end Go.Proofs.Ytgjfciohmgpohaa.Pure
end
