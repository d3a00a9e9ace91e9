/- Laid by a program of this session out of its texts for the law CalcDivides, part 6. -/
import Derived.Test.YtfbeklbjlkgbnaaZCalcDivides5
section
namespace Go.Proofs.Ytfbeklbjlkgbnaa.P
open Go.RowKit Go.Proofs.YtfbeklbjlkgbnaaW.PrintWords Go.Proofs.YtfbeklbjlkgbnaaW.PrintLast Go.Proofs.YtfbeklbjlkgbnaaW.PrintMore
attribute [local go_sem] max2_int min2_int max_two min_two max_three min_three max_four min_four
set_option linter.unusedVariables false
set_option linter.unusedSimpArgs false
attribute [local go_sem high] eqA25
mutual
def quarrylaw02_CalcDivides.j0 : Nat → Int → Int → Int → Int → Bool → Int → Int → ByteArray → Int → Int → ByteArray → Option (Bool)
  | 0, _, _, _, _, _, _, _, _, _, _, _ => none
  | k + 1, x0, x1, x6, x8, x46, x251000, x251001, x251002, x262000, x262001, x262002 => if x46 = true then (if x6 = 40 then (if x8 = 0 then ((quarrylaw02_num.f 0).bind fun bt262 => (some (x262000 == bt262.1 && (x262001 == bt262.2.1 && (x262002.toList == bt262.2.2.toList))))) else (none)) else (none)) else (if x6 = 0 then (if x8 = 0 then (if x262001 < 0 then (if x0 ≥ 0 then (quarrylaw02_CalcDivides.j1 k x0 x1 true x251000 x251001 x251002 x262000 x262001 x262002) else (if x262001 > 0 then (quarrylaw02_CalcDivides.j1 k x0 x1 (decide (x0 ≤ 0)) x251000 x251001 x251002 x262000 x262001 x262002) else (quarrylaw02_CalcDivides.j1 k x0 x1 false x251000 x251001 x251002 x262000 x262001 x262002))) else (if x262001 > 0 then (quarrylaw02_CalcDivides.j1 k x0 x1 (decide (x0 ≤ 0)) x251000 x251001 x251002 x262000 x262001 x262002) else (quarrylaw02_CalcDivides.j1 k x0 x1 false x251000 x251001 x251002 x262000 x262001 x262002))) else (quarrylaw02_CalcDivides.j1 k x0 x1 true x251000 x251001 x251002 x262000 x262001 x262002)) else (quarrylaw02_CalcDivides.j1 k x0 x1 true x251000 x251001 x251002 x262000 x262001 x262002))
def quarrylaw02_CalcDivides.j1 : Nat → Int → Int → Bool → Int → Int → ByteArray → Int → Int → ByteArray → Option (Bool)
  | 0, _, _, _, _, _, _, _, _, _ => none
  | k + 1, x0, x1, x81, x251000, x251001, x251002, x262000, x262001, x262002 => if x81 = true then (none) else (if x262001 > 0 then (quarrylaw02_CalcDivides.j2 k x0 x1 (wrap64 (-x262001)) x251000 x251001 x251002 x262000 x262001 x262002) else (quarrylaw02_CalcDivides.j2 k x0 x1 x262001 x251000 x251001 x251002 x262000 x262001 x262002))
def quarrylaw02_CalcDivides.j2 : Nat → Int → Int → Int → Int → Int → ByteArray → Int → Int → ByteArray → Option (Bool)
  | 0, _, _, _, _, _, _, _, _, _ => none
  | k + 1, x0, x1, x9, x251000, x251001, x251002, x262000, x262001, x262002 => if x1 > 0 then (quarrylaw02_CalcDivides.j3 k x0 x1 x9 (wrap64 (-x1)) x251000 x251001 x251002 x262000 x262001 x262002) else (quarrylaw02_CalcDivides.j3 k x0 x1 x9 x1 x251000 x251001 x251002 x262000 x262001 x262002)
def quarrylaw02_CalcDivides.j3 : Nat → Int → Int → Int → Int → Int → Int → ByteArray → Int → Int → ByteArray → Option (Bool)
  | 0, _, _, _, _, _, _, _, _, _, _ => none
  | k + 1, x0, x1, x9, x10, x251000, x251001, x251002, x262000, x262001, x262002 => (quarrylaw02_num.f x1).bind fun bt265 => ((calc_Binary.f 13 x251000 x251001 x251002 bt265.1 bt265.2.1 bt265.2.2).bind fun bt268 => ((calc_Binary.f 11 bt268.1 bt268.2.1 bt268.2.2.1 x262000 x262001 x262002).bind fun bt273 => (if x9 > x10 then (if bt268.2.2.2 = 0 then (if bt273.2.2.2 = 0 then ((quarrylaw02_num.f x0).bind fun bt278 => (some (bt273.1 == bt278.1 && (bt273.2.1 == bt278.2.1 && (bt273.2.2.1.toList == bt278.2.2.toList))))) else (none)) else (none)) else (none))))
end
def quarrylaw02_CalcDivides.f (k : Nat) (a0 : Int) (a1 : Int) : Option (Bool) := (quarrylaw02_works.f).bind fun t239 => (if t239 = true then ((quarrylaw02_num.f a0).bind fun bt240 => ((quarrylaw02_num.f a1).bind fun bt243 => ((calc_Binary.f 14 bt240.1 bt240.2.1 bt240.2.2 bt243.1 bt243.2.1 bt243.2.2).bind fun bt246 => ((quarrylaw02_num.f a0).bind fun bt251 => ((quarrylaw02_num.f a1).bind fun bt254 => ((calc_Binary.f 15 bt251.1 bt251.2.1 bt251.2.2 bt254.1 bt254.2.1 bt254.2.2).bind fun bt257 => (if a1 = 0 then (if bt246.2.2.2 = 41 then (some (bt257.2.2.2 == 41)) else (none)) else (if a0 = (-9223372036854775808) then (quarrylaw02_CalcDivides.j0 k a0 a1 bt246.2.2.2 bt257.2.2.2 (a1 == (-1)) bt246.1 bt246.2.1 bt246.2.2.1 bt257.1 bt257.2.1 bt257.2.2.1) else (quarrylaw02_CalcDivides.j0 k a0 a1 bt246.2.2.2 bt257.2.2.2 false bt246.1 bt246.2.1 bt246.2.2.1 bt257.1 bt257.2.1 bt257.2.2.1))))))))) else (none))
def quarrylaw02_CalcDivides.T8 : Bool × List (List Nat × List Nat) := (true, [([], []), ([0], [0]), ([1], [1]), ([2], [2]), ([3, 2], [2, 3]), ([2, 4], [2, 4]), ([5, 2], [5]), ([6], [6]), ([6, 6], [6]), ([7, 8, 6], [6, 7, 8]), ([6, 9], [6, 9]), ([10, 8, 0, 1, 2, 3, 4, 5, 6, 7, 8, 9, 10], [10])])
def quarrylaw02_CalcDivides.B8 : List Nat := [0, 1, 3, 7, 15, 31, 63, 127, 127, 511, 1023, 2047]
theorem quarrylaw02_CalcDivides.tab8 : rtab .any (opsOf Try.f5 8) = quarrylaw02_CalcDivides.T8 := by kernel_rfl
theorem quarrylaw02_CalcDivides.bits8 : waitsOk quarrylaw02_CalcDivides.T8.2 quarrylaw02_CalcDivides.B8 = true := by kernel_rfl
def quarrylaw02_CalcDivides.T17 : Bool × List (List Nat × List Nat) := (true, [([], []), ([], []), ([1], [1]), ([0, 2, 2], [0, 2]), ([3], [3]), ([4], [4]), ([4], [4]), ([], []), ([7, 5, 3, 0, 1, 2, 3, 4, 5, 7], [5, 7]), ([6, 8, 0, 1, 2, 3, 4, 5, 6, 7, 8], [6])])
def quarrylaw02_CalcDivides.B17 : List Nat := [0, 0, 2, 7, 15, 31, 31, 0, 191, 511]
theorem quarrylaw02_CalcDivides.tab17 : rtab .any (opsOf Try.f5 17) = quarrylaw02_CalcDivides.T17 := by kernel_rfl
theorem quarrylaw02_CalcDivides.bits17 : waitsOk quarrylaw02_CalcDivides.T17.2 quarrylaw02_CalcDivides.B17 = true := by kernel_rfl
def quarrylaw02_CalcDivides.T19 : Bool × List (List Nat × List Nat) := (true, [([], []), ([], []), ([0, 1], [0, 1]), ([2], [2]), ([3], [3]), ([4, 3], [3, 4]), ([3, 5], [3, 5]), ([6, 3], [6]), ([7], [7]), ([8, 7], [7, 8]), ([7, 9], [7, 9]), ([10, 7], [10]), ([11], [11]), ([11], [11]), ([13, 11, 11], [11, 13]), ([12, 14, 11], [11, 12, 14]), ([11, 15], [11, 15]), ([16, 14, 0, 1, 2, 3, 4, 5, 6, 7, 8, 9, 10, 11, 12, 13, 14, 15, 16], [16])])
def quarrylaw02_CalcDivides.B19 : List Nat := [0, 0, 3, 7, 15, 31, 63, 127, 255, 511, 1023, 2047, 4095, 4095, 12287, 32767, 65535, 131071]
theorem quarrylaw02_CalcDivides.tab19 : rtab .any (opsOf Try.f5 19) = quarrylaw02_CalcDivides.T19 := by kernel_rfl
theorem quarrylaw02_CalcDivides.bits19 : waitsOk quarrylaw02_CalcDivides.T19.2 quarrylaw02_CalcDivides.B19 = true := by kernel_rfl
set_option maxHeartbeats 8000000 in
set_option maxRecDepth 100000 in
theorem quarrylaw02_CalcDivides.calls (k : Nat) (a0 : Int) (a1 : Int) (r : Bool) (w : World) (h : quarrylaw02_CalcDivides.f k a0 a1 = some r) :
    Calls Try.prog 5 #[.int .i64 a0, .int .i64 a1] w fun e w' => e = .returned (.bool r) ∧ Below w.heap.size w w' := by
  have hu25 := Try.underlying25
  have HB := Aside0.mk (Below.refl w.heap.size w)
  have H : ((quarrylaw02_works.f).bind fun t239 => (if t239 = true then ((quarrylaw02_num.f a0).bind fun bt240 => ((quarrylaw02_num.f a1).bind fun bt243 => ((calc_Binary.f 14 bt240.1 bt240.2.1 bt240.2.2 bt243.1 bt243.2.1 bt243.2.2).bind fun bt246 => ((quarrylaw02_num.f a0).bind fun bt251 => ((quarrylaw02_num.f a1).bind fun bt254 => ((calc_Binary.f 15 bt251.1 bt251.2.1 bt251.2.2 bt254.1 bt254.2.1 bt254.2.2).bind fun bt257 => (if a1 = 0 then (if bt246.2.2.2 = 41 then (some (bt257.2.2.2 == 41)) else (none)) else (if a0 = (-9223372036854775808) then (quarrylaw02_CalcDivides.j0 k a0 a1 bt246.2.2.2 bt257.2.2.2 (a1 == (-1)) bt246.1 bt246.2.1 bt246.2.2.1 bt257.1 bt257.2.1 bt257.2.2.1) else (quarrylaw02_CalcDivides.j0 k a0 a1 bt246.2.2.2 bt257.2.2.2 false bt246.1 bt246.2.1 bt246.2.2.1 bt257.1 bt257.2.1 bt257.2.2.1))))))))) else (none))) = some r := h
  clear h
  replace H := Option.bind_eq_some_iff.mp H
  obtain ⟨t239, A30, H⟩ := H
  replace H : (if t239 = true then ((quarrylaw02_num.f a0).bind fun bt240 => ((quarrylaw02_num.f a1).bind fun bt243 => ((calc_Binary.f 14 bt240.1 bt240.2.1 bt240.2.2 bt243.1 bt243.2.1 bt243.2.2).bind fun bt246 => ((quarrylaw02_num.f a0).bind fun bt251 => ((quarrylaw02_num.f a1).bind fun bt254 => ((calc_Binary.f 15 bt251.1 bt251.2.1 bt251.2.2 bt254.1 bt254.2.1 bt254.2.2).bind fun bt257 => (if a1 = 0 then (if bt246.2.2.2 = 41 then (some (bt257.2.2.2 == 41)) else (none)) else (if a0 = (-9223372036854775808) then (quarrylaw02_CalcDivides.j0 k a0 a1 bt246.2.2.2 bt257.2.2.2 (a1 == (-1)) bt246.1 bt246.2.1 bt246.2.2.1 bt257.1 bt257.2.1 bt257.2.2.1) else (quarrylaw02_CalcDivides.j0 k a0 a1 bt246.2.2.2 bt257.2.2.2 false bt246.1 bt246.2.1 bt246.2.2.1 bt257.1 bt257.2.1 bt257.2.2.1))))))))) else (none)) = some r := H
  have A3 := Aside0.mk A30
  clear A30
  by_cases c4 : t239 = true
  · subst c4
    have H1 : ((quarrylaw02_num.f a0).bind fun bt240 => ((quarrylaw02_num.f a1).bind fun bt243 => ((calc_Binary.f 14 bt240.1 bt240.2.1 bt240.2.2 bt243.1 bt243.2.1 bt243.2.2).bind fun bt246 => ((quarrylaw02_num.f a0).bind fun bt251 => ((quarrylaw02_num.f a1).bind fun bt254 => ((calc_Binary.f 15 bt251.1 bt251.2.1 bt251.2.2 bt254.1 bt254.2.1 bt254.2.2).bind fun bt257 => (if a1 = 0 then (if bt246.2.2.2 = 41 then (some (bt257.2.2.2 == 41)) else (none)) else (if a0 = (-9223372036854775808) then (quarrylaw02_CalcDivides.j0 k a0 a1 bt246.2.2.2 bt257.2.2.2 (a1 == (-1)) bt246.1 bt246.2.1 bt246.2.2.1 bt257.1 bt257.2.1 bt257.2.2.1) else (quarrylaw02_CalcDivides.j0 k a0 a1 bt246.2.2.2 bt257.2.2.2 false bt246.1 bt246.2.1 bt246.2.2.1 bt257.1 bt257.2.1 bt257.2.2.1))))))))) = some r := by rw [if_pos rfl] at H; exact H
    clear H
    have H := H1
    clear H1
    replace H := Option.bind_eq_some_iff.mp H
    obtain ⟨⟨t240, t241, t242⟩, A50, H⟩ := H
    replace H : ((quarrylaw02_num.f a1).bind fun bt243 => ((calc_Binary.f 14 t240 t241 t242 bt243.1 bt243.2.1 bt243.2.2).bind fun bt246 => ((quarrylaw02_num.f a0).bind fun bt251 => ((quarrylaw02_num.f a1).bind fun bt254 => ((calc_Binary.f 15 bt251.1 bt251.2.1 bt251.2.2 bt254.1 bt254.2.1 bt254.2.2).bind fun bt257 => (if a1 = 0 then (if bt246.2.2.2 = 41 then (some (bt257.2.2.2 == 41)) else (none)) else (if a0 = (-9223372036854775808) then (quarrylaw02_CalcDivides.j0 k a0 a1 bt246.2.2.2 bt257.2.2.2 (a1 == (-1)) bt246.1 bt246.2.1 bt246.2.2.1 bt257.1 bt257.2.1 bt257.2.2.1) else (quarrylaw02_CalcDivides.j0 k a0 a1 bt246.2.2.2 bt257.2.2.2 false bt246.1 bt246.2.1 bt246.2.2.1 bt257.1 bt257.2.1 bt257.2.2.1)))))))) = some r := H
    have A5 := Aside0.mk A50
    clear A50
    replace H := Option.bind_eq_some_iff.mp H
    obtain ⟨⟨t243, t244, t245⟩, A60, H⟩ := H
    replace H : ((calc_Binary.f 14 t240 t241 t242 t243 t244 t245).bind fun bt246 => ((quarrylaw02_num.f a0).bind fun bt251 => ((quarrylaw02_num.f a1).bind fun bt254 => ((calc_Binary.f 15 bt251.1 bt251.2.1 bt251.2.2 bt254.1 bt254.2.1 bt254.2.2).bind fun bt257 => (if a1 = 0 then (if bt246.2.2.2 = 41 then (some (bt257.2.2.2 == 41)) else (none)) else (if a0 = (-9223372036854775808) then (quarrylaw02_CalcDivides.j0 k a0 a1 bt246.2.2.2 bt257.2.2.2 (a1 == (-1)) bt246.1 bt246.2.1 bt246.2.2.1 bt257.1 bt257.2.1 bt257.2.2.1) else (quarrylaw02_CalcDivides.j0 k a0 a1 bt246.2.2.2 bt257.2.2.2 false bt246.1 bt246.2.1 bt246.2.2.1 bt257.1 bt257.2.1 bt257.2.2.1))))))) = some r := H
    have A6 := Aside0.mk A60
    clear A60
    replace H := Option.bind_eq_some_iff.mp H
    obtain ⟨⟨t246, t247, t248, t249⟩, A70, H⟩ := H
    replace H : ((quarrylaw02_num.f a0).bind fun bt251 => ((quarrylaw02_num.f a1).bind fun bt254 => ((calc_Binary.f 15 bt251.1 bt251.2.1 bt251.2.2 bt254.1 bt254.2.1 bt254.2.2).bind fun bt257 => (if a1 = 0 then (if t249 = 41 then (some (bt257.2.2.2 == 41)) else (none)) else (if a0 = (-9223372036854775808) then (quarrylaw02_CalcDivides.j0 k a0 a1 t249 bt257.2.2.2 (a1 == (-1)) t246 t247 t248 bt257.1 bt257.2.1 bt257.2.2.1) else (quarrylaw02_CalcDivides.j0 k a0 a1 t249 bt257.2.2.2 false t246 t247 t248 bt257.1 bt257.2.1 bt257.2.2.1)))))) = some r := H
    have A7 := Aside0.mk A70
    clear A70
    replace H := Option.bind_eq_some_iff.mp H
    obtain ⟨⟨t251, t252, t253⟩, A80, H⟩ := H
    replace H : ((quarrylaw02_num.f a1).bind fun bt254 => ((calc_Binary.f 15 t251 t252 t253 bt254.1 bt254.2.1 bt254.2.2).bind fun bt257 => (if a1 = 0 then (if t249 = 41 then (some (bt257.2.2.2 == 41)) else (none)) else (if a0 = (-9223372036854775808) then (quarrylaw02_CalcDivides.j0 k a0 a1 t249 bt257.2.2.2 (a1 == (-1)) t246 t247 t248 bt257.1 bt257.2.1 bt257.2.2.1) else (quarrylaw02_CalcDivides.j0 k a0 a1 t249 bt257.2.2.2 false t246 t247 t248 bt257.1 bt257.2.1 bt257.2.2.1))))) = some r := H
    have A8 := Aside0.mk A80
    clear A80
    replace H := Option.bind_eq_some_iff.mp H
    obtain ⟨⟨t254, t255, t256⟩, A90, H⟩ := H
    replace H : ((calc_Binary.f 15 t251 t252 t253 t254 t255 t256).bind fun bt257 => (if a1 = 0 then (if t249 = 41 then (some (bt257.2.2.2 == 41)) else (none)) else (if a0 = (-9223372036854775808) then (quarrylaw02_CalcDivides.j0 k a0 a1 t249 bt257.2.2.2 (a1 == (-1)) t246 t247 t248 bt257.1 bt257.2.1 bt257.2.2.1) else (quarrylaw02_CalcDivides.j0 k a0 a1 t249 bt257.2.2.2 false t246 t247 t248 bt257.1 bt257.2.1 bt257.2.2.1)))) = some r := H
    have A9 := Aside0.mk A90
    clear A90
    replace H := Option.bind_eq_some_iff.mp H
    obtain ⟨⟨t257, t258, t259, t260⟩, A100, H⟩ := H
    replace H : (if a1 = 0 then (if t249 = 41 then (some (t260 == 41)) else (none)) else (if a0 = (-9223372036854775808) then (quarrylaw02_CalcDivides.j0 k a0 a1 t249 t260 (a1 == (-1)) t246 t247 t248 t257 t258 t259) else (quarrylaw02_CalcDivides.j0 k a0 a1 t249 t260 false t246 t247 t248 t257 t258 t259))) = some r := H
    have A10 := Aside0.mk A100
    clear A100
    by_cases c11 : a1 = 0
    · rw [if_pos c11] at H
      have c11b0 : (a1 == 0) = true := beq_iff_eq.mpr c11
      have c11b1 : (a1 != 0) = false := bne_eq_false_iff_eq.mpr c11
      clear c11
      by_cases c12 : t249 = 41
      · rw [if_pos c12] at H
        have c12b0 : (t249 == 41) = true := beq_iff_eq.mpr c12
        have c12b1 : (t249 != 41) = false := bne_eq_false_iff_eq.mpr c12
        clear c12
        obtain rfl := Option.some.inj H
        go_enter Try.func5, Try.ntmps5
        go_wp2_with (first | ((with_reducible refine gate_callee (f := 23) rfl ?_); refine goesL_ (some 15) rfl rfl Try.func23 (by kernel_rfl) rfl #[] rfl (by (try simp only [List.map_toArray, List.map_cons, List.map_nil]); first | done | rfl | (simp only [List.length_drop, List.length_take]; rfl)) ?_; (with_reducible refine (quarrylaw02_works.calls  true _ A3.out).mono ?_); rintro e w13 ⟨rfl, hb⟩; refine ⟨_, rfl, ?_⟩; have n0_ := Aside0.mk (below_step (by repeat (first | (with_reducible first | exact HB.out | apply below_alloc | apply pw_below_drewN | apply below_drew1) | exact HB.out)) hb); clear HB; have HB := n0_; clear n0_; (try clear hb); (try clear hb2); (try clear hk); (try clear hi)) | ((with_reducible refine gate_callee (f := 24) rfl ?_); refine goesL_ (some 19) rfl rfl Try.func24 (by kernel_rfl) rfl #[.int .i64 a0] rfl (by (try simp only [List.map_toArray, List.map_cons, List.map_nil]); first | done | rfl | (simp only [List.length_drop, List.length_take]; rfl)) ?_; (with_reducible refine (quarrylaw02_num.calls a0 t240 t241 t242 _ A5.out).mono ?_); rintro e w14 ⟨rfl, hb⟩; refine ⟨_, rfl, ?_⟩; have n0_ := Aside0.mk (below_step (by repeat (first | (with_reducible first | exact HB.out | apply below_alloc | apply pw_below_drewN | apply below_drew1) | exact HB.out)) hb); clear HB; have HB := n0_; clear n0_; (try clear hb); (try clear hb2); (try clear hk); (try clear hi)) | ((with_reducible refine gate_callee (f := 24) rfl ?_); refine goesL_ (some 21) rfl rfl Try.func24 (by kernel_rfl) rfl #[.int .i64 a1] rfl (by (try simp only [List.map_toArray, List.map_cons, List.map_nil]); first | done | rfl | (simp only [List.length_drop, List.length_take]; rfl)) ?_; (with_reducible refine (quarrylaw02_num.calls a1 t243 t244 t245 _ A6.out).mono ?_); rintro e w15 ⟨rfl, hb⟩; refine ⟨_, rfl, ?_⟩; have n0_ := Aside0.mk (below_step (by repeat (first | (with_reducible first | exact HB.out | apply below_alloc | apply pw_below_drewN | apply below_drew1) | exact HB.out)) hb); clear HB; have HB := n0_; clear n0_; (try clear hb); (try clear hb2); (try clear hk); (try clear hi)) | ((with_reducible refine gate_callee (f := 17) rfl ?_); refine goesL_ (some 22) rfl rfl Try.func17 (by kernel_rfl) rfl #[.int .i64 14, .agg #[.int .i64 t240, .int .i64 t241, .string t242], .agg #[.int .i64 t243, .int .i64 t244, .string t245]] rfl (by (try simp only [List.map_toArray, List.map_cons, List.map_nil]); first | done | rfl | (simp only [List.length_drop, List.length_take]; rfl)) ?_; (with_reducible refine (calc_Binary.print 14 t240 t241 t242 t243 t244 t245 t246 t247 t248 t249 _ A7.out).mono ?_); rintro e w16 ⟨rfl, hb⟩; refine ⟨_, rfl, ?_⟩; have n0_ := Aside0.mk (below_step (by repeat (first | (with_reducible first | exact HB.out | apply below_alloc | apply pw_below_drewN | apply below_drew1) | exact HB.out)) hb); clear HB; have HB := n0_; clear n0_; (try clear hb); (try clear hb2); (try clear hk); (try clear hi)) | ((with_reducible refine gate_dst (N := 5) rfl ?_); refine box_event ?hg (N := 5) ?hd (cs := #[.int .i64 0, .int .i64 0, .string (⟨#[]⟩ : ByteArray)]) (t := 25) ?hr ?_; (case hd => rfl); (case hg => rfl); (case hr => first | (go_simp; done) | (go_simp; rfl)); intro gb250 hg w17 hbox hb; have n0_ := Aside0.mk (below_step (by repeat (first | (with_reducible first | exact HB.out | apply below_alloc | apply pw_below_drewN | apply below_drew1) | exact HB.out)) hb); have n1_ := Aside0.mk (hbox); have n2_ := Aside0.mk ((by rw [hg]; exact (below_size (by repeat (first | (with_reducible first | exact HB.out | apply below_alloc | apply pw_below_drewN | apply below_drew1) | exact HB.out))) : w.heap.size ≤ gb250)); have n3_ := Aside0.mk ((by rw [hg]; exact (below_size (by repeat (first | (with_reducible first | exact HB.out | apply below_alloc | apply pw_below_drewN | apply below_drew1) | exact HB.out))) : w.heap.size ≤ gb250)); clear HB; have HB := n0_; have BK250 := n1_; have GW250 := n2_; have GE250 := n3_; clear n0_ n1_ n2_ n3_; clear hb hbox hg; have hcz18_0 : w17.cell? ⟨gb250, 0, none⟩ = some (.int .i64 0) := (blk_cell BK250.out 0).trans rfl; have hcz18_1 : w17.cell? ⟨gb250, 1, none⟩ = some (.int .i64 0) := (blk_cell BK250.out 1).trans rfl; have hcz18_2 : w17.cell? ⟨gb250, 2, none⟩ = some (.string (⟨#[]⟩ : ByteArray)) := (blk_cell BK250.out 2).trans rfl; have hfz18_0 := blk_frozen BK250.out 0; have hfz18_1 := blk_frozen BK250.out 1; have hfz18_2 := blk_frozen BK250.out 2) | ((with_reducible refine gate_callee (f := 24) rfl ?_); refine goesL_ (some 27) rfl rfl Try.func24 (by kernel_rfl) rfl #[.int .i64 a0] rfl (by (try simp only [List.map_toArray, List.map_cons, List.map_nil]); first | done | rfl | (simp only [List.length_drop, List.length_take]; rfl)) ?_; (with_reducible refine (quarrylaw02_num.calls a0 t251 t252 t253 _ A8.out).mono ?_); rintro e w19 ⟨rfl, hb⟩; refine ⟨_, rfl, ?_⟩; have n0_ := Aside0.mk (blk_below (g := gb250) (o := .cells #[.int .i64 t246, .int .i64 t247, .string t248] 25 (0, 0)) (by (with_reducible repeat (first | refine blk_drewN ?_ _ | refine blk_drew ?_ | refine blk_alloc ?_ _)); refine blk_put (cs := #[.int .i64 t246, .int .i64 t247, .string (⟨#[]⟩ : ByteArray)]) ?_ 2 _ rfl; (with_reducible repeat (first | refine blk_drewN ?_ _ | refine blk_drew ?_ | refine blk_alloc ?_ _)); refine blk_put (cs := #[.int .i64 t246, .int .i64 0, .string (⟨#[]⟩ : ByteArray)]) ?_ 1 _ rfl; (with_reducible repeat (first | refine blk_drewN ?_ _ | refine blk_drew ?_ | refine blk_alloc ?_ _)); refine blk_put (cs := #[.int .i64 0, .int .i64 0, .string (⟨#[]⟩ : ByteArray)]) ?_ 0 _ rfl; (with_reducible repeat (first | refine blk_drewN ?_ _ | refine blk_drew ?_ | refine blk_alloc ?_ _)); exact BK250.out) hb); have n1_ := Aside0.mk (below_step (by repeat (first | (with_reducible first | exact HB.out | apply below_alloc | apply pw_below_drewN | apply below_drew1 | refine below_set ?_ GE250.out) | exact HB.out)) hb); clear BK250; clear HB; have BK250 := n0_; have HB := n1_; clear n0_ n1_; (try clear hb); (try clear hb2); (try clear hk); (try clear hi)) | ((with_reducible refine gate_callee (f := 24) rfl ?_); refine goesL_ (some 29) rfl rfl Try.func24 (by kernel_rfl) rfl #[.int .i64 a1] rfl (by (try simp only [List.map_toArray, List.map_cons, List.map_nil]); first | done | rfl | (simp only [List.length_drop, List.length_take]; rfl)) ?_; (with_reducible refine (quarrylaw02_num.calls a1 t254 t255 t256 _ A9.out).mono ?_); rintro e w20 ⟨rfl, hb⟩; refine ⟨_, rfl, ?_⟩; have n0_ := Aside0.mk (blk_below (g := gb250) (o := .cells #[.int .i64 t246, .int .i64 t247, .string t248] 25 (0, 0)) (by (with_reducible repeat (first | refine blk_drewN ?_ _ | refine blk_drew ?_ | refine blk_alloc ?_ _)); exact BK250.out) hb); have n1_ := Aside0.mk (below_step (by repeat (first | (with_reducible first | exact HB.out | apply below_alloc | apply pw_below_drewN | apply below_drew1 | refine below_set ?_ GE250.out) | exact HB.out)) hb); clear BK250; clear HB; have BK250 := n0_; have HB := n1_; clear n0_ n1_; (try clear hb); (try clear hb2); (try clear hk); (try clear hi)) | ((with_reducible refine gate_callee (f := 17) rfl ?_); refine goesL_ (some 30) rfl rfl Try.func17 (by kernel_rfl) rfl #[.int .i64 15, .agg #[.int .i64 t251, .int .i64 t252, .string t253], .agg #[.int .i64 t254, .int .i64 t255, .string t256]] rfl (by (try simp only [List.map_toArray, List.map_cons, List.map_nil]); first | done | rfl | (simp only [List.length_drop, List.length_take]; rfl)) ?_; (with_reducible refine (calc_Binary.print 15 t251 t252 t253 t254 t255 t256 t257 t258 t259 t260 _ A10.out).mono ?_); rintro e w21 ⟨rfl, hb⟩; refine ⟨_, rfl, ?_⟩; have n0_ := Aside0.mk (blk_below (g := gb250) (o := .cells #[.int .i64 t246, .int .i64 t247, .string t248] 25 (0, 0)) (by (with_reducible repeat (first | refine blk_drewN ?_ _ | refine blk_drew ?_ | refine blk_alloc ?_ _)); exact BK250.out) hb); have n1_ := Aside0.mk (below_step (by repeat (first | (with_reducible first | exact HB.out | apply below_alloc | apply pw_below_drewN | apply below_drew1 | refine below_set ?_ GE250.out) | exact HB.out)) hb); clear BK250; clear HB; have BK250 := n0_; have HB := n1_; clear n0_ n1_; (try clear hb); (try clear hb2); (try clear hk); (try clear hi)) | ((with_reducible refine gate_dst (N := 7) rfl ?_); refine box_event ?hg (N := 7) ?hd (cs := #[.int .i64 0, .int .i64 0, .string (⟨#[]⟩ : ByteArray)]) (t := 25) ?hr ?_; (case hd => rfl); (case hg => rfl); (case hr => first | (go_simp; done) | (go_simp; rfl)); intro gb261 hg w22 hbox hb; have n0_ := Aside0.mk (blk_below (g := gb250) (o := .cells #[.int .i64 t246, .int .i64 t247, .string t248] 25 (0, 0)) (by (with_reducible repeat (first | refine blk_drewN ?_ _ | refine blk_drew ?_ | refine blk_alloc ?_ _)); exact BK250.out) hb); have n1_ := Aside0.mk (below_step (by repeat (first | (with_reducible first | exact HB.out | apply below_alloc | apply pw_below_drewN | apply below_drew1 | refine below_set ?_ GE250.out) | exact HB.out)) hb); have n2_ := Aside0.mk (hbox); have n3_ := Aside0.mk ((by rw [hg]; exact (below_size (by repeat (first | (with_reducible first | exact HB.out | apply below_alloc | apply pw_below_drewN | apply below_drew1 | refine below_set ?_ GE250.out) | exact HB.out))) : w.heap.size ≤ gb261)); have n4_ := Aside0.mk ((by rw [hg]; exact (below_size (by repeat (first | (with_reducible first | exact HB.out | apply below_alloc | apply pw_below_drewN | apply below_drew1 | refine below_set ?_ GE250.out) | exact HB.out))) : w.heap.size ≤ gb261)); have n5_ := Aside0.mk ((by rw [hg]; exact Nat.ne_of_lt (blk_lt (g := gb250) (o := .cells #[.int .i64 t246, .int .i64 t247, .string t248] 25 (0, 0)) (by (with_reducible repeat (first | refine blk_drewN ?_ _ | refine blk_drew ?_ | refine blk_alloc ?_ _)); exact BK250.out)) : gb250 ≠ gb261)); have n6_ := Aside0.mk ((by rw [hg]; exact Nat.ne_of_gt (blk_lt (g := gb250) (o := .cells #[.int .i64 t246, .int .i64 t247, .string t248] 25 (0, 0)) (by (with_reducible repeat (first | refine blk_drewN ?_ _ | refine blk_drew ?_ | refine blk_alloc ?_ _)); exact BK250.out)) : gb261 ≠ gb250)); clear BK250; clear HB; have BK250 := n0_; have HB := n1_; have BK261 := n2_; have GW261 := n3_; have GE261 := n4_; have NB250_261 := n5_; have NB261_250 := n6_; clear n0_ n1_ n2_ n3_ n4_ n5_ n6_; clear hb hbox hg; have hnb23 := NB261_250.out; have hnc23 := NB250_261.out; have hcz24_0 : w22.cell? ⟨gb261, 0, none⟩ = some (.int .i64 0) := (blk_cell BK261.out 0).trans rfl; have hcz24_1 : w22.cell? ⟨gb261, 1, none⟩ = some (.int .i64 0) := (blk_cell BK261.out 1).trans rfl; have hcz24_2 : w22.cell? ⟨gb261, 2, none⟩ = some (.string (⟨#[]⟩ : ByteArray)) := (blk_cell BK261.out 2).trans rfl; have hfz24_0 := blk_frozen BK261.out 0; have hfz24_1 := blk_frozen BK261.out 1; have hfz24_2 := blk_frozen BK261.out 2))
        go_ret
        exact ⟨by first | rfl | (simp [errW_none, errW_some] <;> rfl) | (simp [*, errW_none, errW_some] <;> rfl), by repeat (first | (with_reducible first | exact HB.out | apply below_alloc | apply pw_below_drewN | apply below_drew1 | refine below_set ?_ GE250.out | refine below_set ?_ GE261.out) | exact HB.out)⟩
      · rw [if_neg c12] at H
        cases H
    · rw [if_neg c11] at H
      have c11b0 : (a1 == 0) = false := beq_eq_false_iff_ne.mpr c11
      have c11b1 : (a1 != 0) = true := bne_iff_ne.mpr c11
      have HC37 := Aside0.mk H
      clear H
      go_enter Try.func5, Try.ntmps5
      go_upto_region 7 with (first | ((with_reducible refine gate_callee (f := 23) rfl ?_); refine goesL_ (some 15) rfl rfl Try.func23 (by kernel_rfl) rfl #[] rfl (by (try simp only [List.map_toArray, List.map_cons, List.map_nil]); first | done | rfl | (simp only [List.length_drop, List.length_take]; rfl)) ?_; (with_reducible refine (quarrylaw02_works.calls  true _ A3.out).mono ?_); rintro e w38 ⟨rfl, hb⟩; refine ⟨_, rfl, ?_⟩; have n0_ := Aside0.mk (below_step (by repeat (first | (with_reducible first | exact HB.out | apply below_alloc | apply pw_below_drewN | apply below_drew1) | exact HB.out)) hb); clear HB; have HB := n0_; clear n0_; (try clear hb); (try clear hb2); (try clear hk); (try clear hi)) | ((with_reducible refine gate_callee (f := 24) rfl ?_); refine goesL_ (some 19) rfl rfl Try.func24 (by kernel_rfl) rfl #[.int .i64 a0] rfl (by (try simp only [List.map_toArray, List.map_cons, List.map_nil]); first | done | rfl | (simp only [List.length_drop, List.length_take]; rfl)) ?_; (with_reducible refine (quarrylaw02_num.calls a0 t240 t241 t242 _ A5.out).mono ?_); rintro e w39 ⟨rfl, hb⟩; refine ⟨_, rfl, ?_⟩; have n0_ := Aside0.mk (below_step (by repeat (first | (with_reducible first | exact HB.out | apply below_alloc | apply pw_below_drewN | apply below_drew1) | exact HB.out)) hb); clear HB; have HB := n0_; clear n0_; (try clear hb); (try clear hb2); (try clear hk); (try clear hi)) | ((with_reducible refine gate_callee (f := 24) rfl ?_); refine goesL_ (some 21) rfl rfl Try.func24 (by kernel_rfl) rfl #[.int .i64 a1] rfl (by (try simp only [List.map_toArray, List.map_cons, List.map_nil]); first | done | rfl | (simp only [List.length_drop, List.length_take]; rfl)) ?_; (with_reducible refine (quarrylaw02_num.calls a1 t243 t244 t245 _ A6.out).mono ?_); rintro e w40 ⟨rfl, hb⟩; refine ⟨_, rfl, ?_⟩; have n0_ := Aside0.mk (below_step (by repeat (first | (with_reducible first | exact HB.out | apply below_alloc | apply pw_below_drewN | apply below_drew1) | exact HB.out)) hb); clear HB; have HB := n0_; clear n0_; (try clear hb); (try clear hb2); (try clear hk); (try clear hi)) | ((with_reducible refine gate_callee (f := 17) rfl ?_); refine goesL_ (some 22) rfl rfl Try.func17 (by kernel_rfl) rfl #[.int .i64 14, .agg #[.int .i64 t240, .int .i64 t241, .string t242], .agg #[.int .i64 t243, .int .i64 t244, .string t245]] rfl (by (try simp only [List.map_toArray, List.map_cons, List.map_nil]); first | done | rfl | (simp only [List.length_drop, List.length_take]; rfl)) ?_; (with_reducible refine (calc_Binary.print 14 t240 t241 t242 t243 t244 t245 t246 t247 t248 t249 _ A7.out).mono ?_); rintro e w41 ⟨rfl, hb⟩; refine ⟨_, rfl, ?_⟩; have n0_ := Aside0.mk (below_step (by repeat (first | (with_reducible first | exact HB.out | apply below_alloc | apply pw_below_drewN | apply below_drew1) | exact HB.out)) hb); clear HB; have HB := n0_; clear n0_; (try clear hb); (try clear hb2); (try clear hk); (try clear hi)) | ((with_reducible refine gate_dst (N := 5) rfl ?_); refine box_event ?hg (N := 5) ?hd (cs := #[.int .i64 0, .int .i64 0, .string (⟨#[]⟩ : ByteArray)]) (t := 25) ?hr ?_; (case hd => rfl); (case hg => rfl); (case hr => first | (go_simp; done) | (go_simp; rfl)); intro gb250 hg w42 hbox hb; have n0_ := Aside0.mk (below_step (by repeat (first | (with_reducible first | exact HB.out | apply below_alloc | apply pw_below_drewN | apply below_drew1) | exact HB.out)) hb); have n1_ := Aside0.mk (hbox); have n2_ := Aside0.mk ((by rw [hg]; exact (below_size (by repeat (first | (with_reducible first | exact HB.out | apply below_alloc | apply pw_below_drewN | apply below_drew1) | exact HB.out))) : w.heap.size ≤ gb250)); have n3_ := Aside0.mk ((by rw [hg]; exact (below_size (by repeat (first | (with_reducible first | exact HB.out | apply below_alloc | apply pw_below_drewN | apply below_drew1) | exact HB.out))) : w.heap.size ≤ gb250)); clear HB; have HB := n0_; have BK250 := n1_; have GW250 := n2_; have GE250 := n3_; clear n0_ n1_ n2_ n3_; clear hb hbox hg; have hcz43_0 : w42.cell? ⟨gb250, 0, none⟩ = some (.int .i64 0) := (blk_cell BK250.out 0).trans rfl; have hcz43_1 : w42.cell? ⟨gb250, 1, none⟩ = some (.int .i64 0) := (blk_cell BK250.out 1).trans rfl; have hcz43_2 : w42.cell? ⟨gb250, 2, none⟩ = some (.string (⟨#[]⟩ : ByteArray)) := (blk_cell BK250.out 2).trans rfl; have hfz43_0 := blk_frozen BK250.out 0; have hfz43_1 := blk_frozen BK250.out 1; have hfz43_2 := blk_frozen BK250.out 2) | ((with_reducible refine gate_callee (f := 24) rfl ?_); refine goesL_ (some 27) rfl rfl Try.func24 (by kernel_rfl) rfl #[.int .i64 a0] rfl (by (try simp only [List.map_toArray, List.map_cons, List.map_nil]); first | done | rfl | (simp only [List.length_drop, List.length_take]; rfl)) ?_; (with_reducible refine (quarrylaw02_num.calls a0 t251 t252 t253 _ A8.out).mono ?_); rintro e w44 ⟨rfl, hb⟩; refine ⟨_, rfl, ?_⟩; have n0_ := Aside0.mk (blk_below (g := gb250) (o := .cells #[.int .i64 t246, .int .i64 t247, .string t248] 25 (0, 0)) (by (with_reducible repeat (first | refine blk_drewN ?_ _ | refine blk_drew ?_ | refine blk_alloc ?_ _)); refine blk_put (cs := #[.int .i64 t246, .int .i64 t247, .string (⟨#[]⟩ : ByteArray)]) ?_ 2 _ rfl; (with_reducible repeat (first | refine blk_drewN ?_ _ | refine blk_drew ?_ | refine blk_alloc ?_ _)); refine blk_put (cs := #[.int .i64 t246, .int .i64 0, .string (⟨#[]⟩ : ByteArray)]) ?_ 1 _ rfl; (with_reducible repeat (first | refine blk_drewN ?_ _ | refine blk_drew ?_ | refine blk_alloc ?_ _)); refine blk_put (cs := #[.int .i64 0, .int .i64 0, .string (⟨#[]⟩ : ByteArray)]) ?_ 0 _ rfl; (with_reducible repeat (first | refine blk_drewN ?_ _ | refine blk_drew ?_ | refine blk_alloc ?_ _)); exact BK250.out) hb); have n1_ := Aside0.mk (below_step (by repeat (first | (with_reducible first | exact HB.out | apply below_alloc | apply pw_below_drewN | apply below_drew1 | refine below_set ?_ GE250.out) | exact HB.out)) hb); clear BK250; clear HB; have BK250 := n0_; have HB := n1_; clear n0_ n1_; (try clear hb); (try clear hb2); (try clear hk); (try clear hi)) | ((with_reducible refine gate_callee (f := 24) rfl ?_); refine goesL_ (some 29) rfl rfl Try.func24 (by kernel_rfl) rfl #[.int .i64 a1] rfl (by (try simp only [List.map_toArray, List.map_cons, List.map_nil]); first | done | rfl | (simp only [List.length_drop, List.length_take]; rfl)) ?_; (with_reducible refine (quarrylaw02_num.calls a1 t254 t255 t256 _ A9.out).mono ?_); rintro e w45 ⟨rfl, hb⟩; refine ⟨_, rfl, ?_⟩; have n0_ := Aside0.mk (blk_below (g := gb250) (o := .cells #[.int .i64 t246, .int .i64 t247, .string t248] 25 (0, 0)) (by (with_reducible repeat (first | refine blk_drewN ?_ _ | refine blk_drew ?_ | refine blk_alloc ?_ _)); exact BK250.out) hb); have n1_ := Aside0.mk (below_step (by repeat (first | (with_reducible first | exact HB.out | apply below_alloc | apply pw_below_drewN | apply below_drew1 | refine below_set ?_ GE250.out) | exact HB.out)) hb); clear BK250; clear HB; have BK250 := n0_; have HB := n1_; clear n0_ n1_; (try clear hb); (try clear hb2); (try clear hk); (try clear hi)) | ((with_reducible refine gate_callee (f := 17) rfl ?_); refine goesL_ (some 30) rfl rfl Try.func17 (by kernel_rfl) rfl #[.int .i64 15, .agg #[.int .i64 t251, .int .i64 t252, .string t253], .agg #[.int .i64 t254, .int .i64 t255, .string t256]] rfl (by (try simp only [List.map_toArray, List.map_cons, List.map_nil]); first | done | rfl | (simp only [List.length_drop, List.length_take]; rfl)) ?_; (with_reducible refine (calc_Binary.print 15 t251 t252 t253 t254 t255 t256 t257 t258 t259 t260 _ A10.out).mono ?_); rintro e w46 ⟨rfl, hb⟩; refine ⟨_, rfl, ?_⟩; have n0_ := Aside0.mk (blk_below (g := gb250) (o := .cells #[.int .i64 t246, .int .i64 t247, .string t248] 25 (0, 0)) (by (with_reducible repeat (first | refine blk_drewN ?_ _ | refine blk_drew ?_ | refine blk_alloc ?_ _)); exact BK250.out) hb); have n1_ := Aside0.mk (below_step (by repeat (first | (with_reducible first | exact HB.out | apply below_alloc | apply pw_below_drewN | apply below_drew1 | refine below_set ?_ GE250.out) | exact HB.out)) hb); clear BK250; clear HB; have BK250 := n0_; have HB := n1_; clear n0_ n1_; (try clear hb); (try clear hb2); (try clear hk); (try clear hi)) | ((with_reducible refine gate_dst (N := 7) rfl ?_); refine box_event ?hg (N := 7) ?hd (cs := #[.int .i64 0, .int .i64 0, .string (⟨#[]⟩ : ByteArray)]) (t := 25) ?hr ?_; (case hd => rfl); (case hg => rfl); (case hr => first | (go_simp; done) | (go_simp; rfl)); intro gb261 hg w47 hbox hb; have n0_ := Aside0.mk (blk_below (g := gb250) (o := .cells #[.int .i64 t246, .int .i64 t247, .string t248] 25 (0, 0)) (by (with_reducible repeat (first | refine blk_drewN ?_ _ | refine blk_drew ?_ | refine blk_alloc ?_ _)); exact BK250.out) hb); have n1_ := Aside0.mk (below_step (by repeat (first | (with_reducible first | exact HB.out | apply below_alloc | apply pw_below_drewN | apply below_drew1 | refine below_set ?_ GE250.out) | exact HB.out)) hb); have n2_ := Aside0.mk (hbox); have n3_ := Aside0.mk ((by rw [hg]; exact (below_size (by repeat (first | (with_reducible first | exact HB.out | apply below_alloc | apply pw_below_drewN | apply below_drew1 | refine below_set ?_ GE250.out) | exact HB.out))) : w.heap.size ≤ gb261)); have n4_ := Aside0.mk ((by rw [hg]; exact (below_size (by repeat (first | (with_reducible first | exact HB.out | apply below_alloc | apply pw_below_drewN | apply below_drew1 | refine below_set ?_ GE250.out) | exact HB.out))) : w.heap.size ≤ gb261)); have n5_ := Aside0.mk ((by rw [hg]; exact Nat.ne_of_lt (blk_lt (g := gb250) (o := .cells #[.int .i64 t246, .int .i64 t247, .string t248] 25 (0, 0)) (by (with_reducible repeat (first | refine blk_drewN ?_ _ | refine blk_drew ?_ | refine blk_alloc ?_ _)); exact BK250.out)) : gb250 ≠ gb261)); have n6_ := Aside0.mk ((by rw [hg]; exact Nat.ne_of_gt (blk_lt (g := gb250) (o := .cells #[.int .i64 t246, .int .i64 t247, .string t248] 25 (0, 0)) (by (with_reducible repeat (first | refine blk_drewN ?_ _ | refine blk_drew ?_ | refine blk_alloc ?_ _)); exact BK250.out)) : gb261 ≠ gb250)); clear BK250; clear HB; have BK250 := n0_; have HB := n1_; have BK261 := n2_; have GW261 := n3_; have GE261 := n4_; have NB250_261 := n5_; have NB261_250 := n6_; clear n0_ n1_ n2_ n3_ n4_ n5_ n6_; clear hb hbox hg; have hnb48 := NB261_250.out; have hnc48 := NB250_261.out; have hcz49_0 : w47.cell? ⟨gb261, 0, none⟩ = some (.int .i64 0) := (blk_cell BK261.out 0).trans rfl; have hcz49_1 : w47.cell? ⟨gb261, 1, none⟩ = some (.int .i64 0) := (blk_cell BK261.out 1).trans rfl; have hcz49_2 : w47.cell? ⟨gb261, 2, none⟩ = some (.string (⟨#[]⟩ : ByteArray)) := (blk_cell BK261.out 2).trans rfl; have hfz49_0 := blk_frozen BK261.out 0; have hfz49_1 := blk_frozen BK261.out 1; have hfz49_2 := blk_frozen BK261.out 2))
      (try simp only [Act.put, List.setIfInBounds_toArray, List.set_cons_zero, List.set_cons_succ])
      go_cut [46] (fun v46 wc => ∃ (kq : Nat) (x46_36 : Bool), v46 = .bool x46_36 ∧ Aside0 (quarrylaw02_CalcDivides.j0 kq a0 a1 t249 t260 x46_36 t246 t247 t248 t257 t258 t259 = some r) ∧ Aside0 (kq ≤ k) ∧ Aside0 (wc.heap[gb250]? = some (.cells #[.int .i64 t246, .int .i64 t247, .string t248] 25 (0, 0))) ∧ Aside0 (wc.heap[gb261]? = some (.cells #[.int .i64 t257, .int .i64 t258, .string t259] 25 (0, 0))) ∧ Aside0 (Below w.heap.size w wc))
      case first =>
        have H := HC37.out
        clear HC37
        by_cases c50 : a0 = (-9223372036854775808)
        · rw [if_pos c50] at H
          have c50b0 : (a0 == (-9223372036854775808)) = true := beq_iff_eq.mpr c50
          have c50b1 : (a0 != (-9223372036854775808)) = false := bne_eq_false_iff_eq.mpr c50
          clear c50
          (first | rw [c50b0] | (simp only [i64_w, i32_w]; rw [c50b0]) | skip)
          have H' := Aside0.mk H
          clear H
          go_wp2
          go_meet
          case rel => exact ⟨_, ((a1 == (-1))), (by first | rfl | (simp; done) | (simp [*]; done)), H', ⟨by first | omega | exact Nat.le_refl _⟩, ⟨by (with_reducible repeat (first | refine blk_drewN ?_ _ | refine blk_drew ?_ | refine blk_alloc ?_ _)); refine blk_far ?_ NB250_261.out _; (with_reducible repeat (first | refine blk_drewN ?_ _ | refine blk_drew ?_ | refine blk_alloc ?_ _)); refine blk_far ?_ NB250_261.out _; (with_reducible repeat (first | refine blk_drewN ?_ _ | refine blk_drew ?_ | refine blk_alloc ?_ _)); refine blk_far ?_ NB250_261.out _; (with_reducible repeat (first | refine blk_drewN ?_ _ | refine blk_drew ?_ | refine blk_alloc ?_ _)); exact BK250.out⟩, ⟨by (with_reducible repeat (first | refine blk_drewN ?_ _ | refine blk_drew ?_ | refine blk_alloc ?_ _)); refine blk_put (cs := #[.int .i64 t257, .int .i64 t258, .string (⟨#[]⟩ : ByteArray)]) ?_ 2 _ rfl; (with_reducible repeat (first | refine blk_drewN ?_ _ | refine blk_drew ?_ | refine blk_alloc ?_ _)); refine blk_put (cs := #[.int .i64 t257, .int .i64 0, .string (⟨#[]⟩ : ByteArray)]) ?_ 1 _ rfl; (with_reducible repeat (first | refine blk_drewN ?_ _ | refine blk_drew ?_ | refine blk_alloc ?_ _)); refine blk_put (cs := #[.int .i64 0, .int .i64 0, .string (⟨#[]⟩ : ByteArray)]) ?_ 0 _ rfl; (with_reducible repeat (first | refine blk_drewN ?_ _ | refine blk_drew ?_ | refine blk_alloc ?_ _)); exact BK261.out⟩, ⟨by repeat (first | (with_reducible first | exact HB.out | apply below_alloc | apply pw_below_drewN | apply below_drew1 | refine below_set ?_ GE250.out | refine below_set ?_ GE261.out) | exact HB.out)⟩⟩
        · rw [if_neg c50] at H
          have c50b0 : (a0 == (-9223372036854775808)) = false := beq_eq_false_iff_ne.mpr c50
          have c50b1 : (a0 != (-9223372036854775808)) = true := bne_iff_ne.mpr c50
          (first | rw [c50b0] | (simp only [i64_w, i32_w]; rw [c50b0]) | skip)
          have H' := Aside0.mk H
          clear H
          go_wp2
          go_meet
          case rel => exact ⟨_, (false), (by first | rfl | (simp; done) | (simp [*]; done)), H', ⟨by first | omega | exact Nat.le_refl _⟩, ⟨by (with_reducible repeat (first | refine blk_drewN ?_ _ | refine blk_drew ?_ | refine blk_alloc ?_ _)); refine blk_far ?_ NB250_261.out _; (with_reducible repeat (first | refine blk_drewN ?_ _ | refine blk_drew ?_ | refine blk_alloc ?_ _)); refine blk_far ?_ NB250_261.out _; (with_reducible repeat (first | refine blk_drewN ?_ _ | refine blk_drew ?_ | refine blk_alloc ?_ _)); refine blk_far ?_ NB250_261.out _; (with_reducible repeat (first | refine blk_drewN ?_ _ | refine blk_drew ?_ | refine blk_alloc ?_ _)); exact BK250.out⟩, ⟨by (with_reducible repeat (first | refine blk_drewN ?_ _ | refine blk_drew ?_ | refine blk_alloc ?_ _)); refine blk_put (cs := #[.int .i64 t257, .int .i64 t258, .string (⟨#[]⟩ : ByteArray)]) ?_ 2 _ rfl; (with_reducible repeat (first | refine blk_drewN ?_ _ | refine blk_drew ?_ | refine blk_alloc ?_ _)); refine blk_put (cs := #[.int .i64 t257, .int .i64 0, .string (⟨#[]⟩ : ByteArray)]) ?_ 1 _ rfl; (with_reducible repeat (first | refine blk_drewN ?_ _ | refine blk_drew ?_ | refine blk_alloc ?_ _)); refine blk_put (cs := #[.int .i64 0, .int .i64 0, .string (⟨#[]⟩ : ByteArray)]) ?_ 0 _ rfl; (with_reducible repeat (first | refine blk_drewN ?_ _ | refine blk_drew ?_ | refine blk_alloc ?_ _)); exact BK261.out⟩, ⟨by repeat (first | (with_reducible first | exact HB.out | apply below_alloc | apply pw_below_drewN | apply below_drew1 | refine below_set ?_ GE250.out | refine below_set ?_ GE261.out) | exact HB.out)⟩⟩
      case rest =>
        clear HC37
        try clear c1
        try clear c2
        try clear p2
        try clear c3
        try clear c4
        try clear c5
        try clear c11
        try clear c11b0
        try clear c11b1
        try clear c12
        try clear c12b0
        try clear c12b1
        try clear c17
        try clear c23
        try clear c24
        try clear c35
        try clear c48
        try clear c50
        try clear c50b0
        try clear c50b1
        try clear hcz18_0
        try clear hcz18_1
        try clear hcz18_2
        try clear hcz24_0
        try clear hcz24_1
        try clear hcz24_2
        try clear hcz30_0
        try clear hcz30_1
        try clear hcz30_2
        try clear hcz36_0
        try clear hcz36_1
        try clear hcz36_2
        try clear hcz43_0
        try clear hcz43_1
        try clear hcz43_2
        try clear hcz49_0
        try clear hcz49_1
        try clear hcz49_2
        try clear hfz18_0
        try clear hfz18_1
        try clear hfz18_2
        try clear hfz24_0
        try clear hfz24_1
        try clear hfz24_2
        try clear hfz30_0
        try clear hfz30_1
        try clear hfz30_2
        try clear hfz36_0
        try clear hfz36_1
        try clear hfz36_2
        try clear hfz43_0
        try clear hfz43_1
        try clear hfz43_2
        try clear hfz49_0
        try clear hfz49_1
        try clear hfz49_2
        obtain ⟨kq, x46_36, rfl, HA, HJ36, BK250, BK261, HB⟩ := hcut
        cases kq with
        | zero => exact absurd HA.out (by simp [quarrylaw02_CalcDivides.j0])
        | succ kj36 =>
          have H := HA.out
          clear HA
          simp only [quarrylaw02_CalcDivides.j0] at H
          by_cases c51 : x46_36 = true
          · subst c51
            have H1 : (if t249 = 40 then (if t260 = 0 then ((quarrylaw02_num.f 0).bind fun bt262 => (some (t257 == bt262.1 && (t258 == bt262.2.1 && (t259.toList == bt262.2.2.toList))))) else (none)) else (none)) = some r := by rw [if_pos rfl] at H; exact H
            clear H
            have H := H1
            clear H1
            by_cases c52 : t249 = 40
            · rw [if_pos c52] at H
              have c52b0 : (t249 == 40) = true := beq_iff_eq.mpr c52
              have c52b1 : (t249 != 40) = false := bne_eq_false_iff_eq.mpr c52
              clear c52
              by_cases c53 : t260 = 0
              · rw [if_pos c53] at H
                have c53b0 : (t260 == 0) = true := beq_iff_eq.mpr c53
                have c53b1 : (t260 != 0) = false := bne_eq_false_iff_eq.mpr c53
                clear c53
                replace H := Option.bind_eq_some_iff.mp H
                obtain ⟨⟨t262, t263, t264⟩, A540, H⟩ := H
                replace H : (some (t257 == t262 && (t258 == t263 && (t259.toList == t264.toList)))) = some r := H
                have A54 := Aside0.mk A540
                clear A540
                obtain rfl := Option.some.inj H
                try go_wp2
                have n0_ := Aside0.mk (blk_drew BK250.out)
                have n1_ := Aside0.mk (blk_drew BK261.out)
                have n2_ := Aside0.mk (below_drew1 HB.out)
                clear BK250
                clear BK261
                clear HB
                have BK250 := n0_
                have BK261 := n1_
                have HB := n2_
                clear n0_ n1_ n2_
                refine start_ (n := 12) (S := fun w' => w'.cell? ⟨gb261, 0, none⟩ = some (.int .i64 t257) ∧ w'.cell? ⟨gb261, 1, none⟩ = some (.int .i64 t258) ∧ w'.cell? ⟨gb261, 2, none⟩ = some (.string t259)) (ds := []) #[false, false, false, false, false, false, false, false, false, false, false, false] (by kernel_rfl) rfl rfl ⟨(blk_cell BK261.out 0).trans rfl, (blk_cell BK261.out 1).trans rfl, (blk_cell BK261.out 2).trans rfl⟩ (fun hHeld => ?_); refine with_tabW quarrylaw02_CalcDivides.tab8 quarrylaw02_CalcDivides.bits8 (fun HT_ HW_ => ?_)
                generalize wc.drew = w55 at BK250 BK261 HB hHeld ⊢
                refine pure_ (i := 0) (N := some 47) (v := ?_) (a' := ?_) #[true, false, false, false, false, false, false, false, false, false, false, false] rfl rfl (any_of HT_.out (by kernel_rfl)) (fun _ _ _ h => h) (Or.inl ⟨by rfl, ?_⟩) ?_ ?_
                rotate_left
                · intro w'
                  go_simp
                  with_reducible rfl
                rotate_left
                · simp only [Act.put, List.setIfInBounds_toArray, List.set_cons_zero, List.set_cons_succ, i64_w, i32_w]
                  rfl
                refine pure_ (i := 1) (N := some 48) (v := ?_) (a' := ?_) #[true, true, false, false, false, false, false, false, false, false, false, false] rfl rfl (any_of HT_.out (by kernel_rfl)) (fun _ _ _ h => h) (Or.inl ⟨by rfl, ?_⟩) ?_ ?_
                rotate_left
                · intro w'
                  go_simp
                  with_reducible rfl
                rotate_left
                · simp only [Act.put, List.setIfInBounds_toArray, List.set_cons_zero, List.set_cons_succ, i64_w, i32_w]
                  rfl
                refine pure_ (i := 2) (N := some 49) (v := ?_) (a' := ?_) #[true, true, true, false, false, false, false, false, false, false, false, false] rfl rfl (any_of HT_.out (by kernel_rfl)) (fun _ _ _ h => h) (Or.inl ⟨by rfl, ?_⟩) ?_ ?_
                rotate_left
                · intro w'
                  go_simp
                  with_reducible rfl
                rotate_left
                · simp only [Act.put, List.setIfInBounds_toArray, List.set_cons_zero, List.set_cons_succ, i64_w, i32_w]
                  rfl
                refine pure_ (i := 3) (N := some 50) (v := ?_) (a' := ?_) #[true, true, true, true, false, false, false, false, false, false, false, false] rfl rfl (any_of HT_.out (by kernel_rfl)) (fun _ _ _ h => h) (Or.inl ⟨by rfl, ?_⟩) ?_ ?_
                rotate_left
                · intro w'
                  go_simp
                  with_reducible rfl
                rotate_left
                · simp only [Act.put, List.setIfInBounds_toArray, List.set_cons_zero, List.set_cons_succ, i64_w, i32_w]
                  rfl
                refine pure_ (i := 4) (N := some 51) (v := ?_) (a' := ?_) #[true, true, true, true, true, false, false, false, false, false, false, false] rfl rfl (any_of HT_.out (by kernel_rfl)) (fun _ _ _ h => h) (Or.inl ⟨by rfl, ?_⟩) ?_ ?_
                rotate_left
                · intro w'
                  go_simp
                  with_reducible rfl
                rotate_left
                · simp only [Act.put, List.setIfInBounds_toArray, List.set_cons_zero, List.set_cons_succ, i64_w, i32_w]
                  rfl
                refine pure_ (i := 5) (N := some 52) (v := ?_) (a' := ?_) #[true, true, true, true, true, true, false, false, false, false, false, false] rfl rfl (any_of HT_.out (by kernel_rfl)) (fun _ _ _ h => h) (Or.inl ⟨by rfl, ?_⟩) ?_ ?_
                rotate_left
                · intro w'
                  go_simp
                  with_reducible rfl
                rotate_left
                · simp only [Act.put, List.setIfInBounds_toArray, List.set_cons_zero, List.set_cons_succ, i64_w, i32_w]
                  rfl
                refine pure_ (i := 6) (N := some 53) (v := ?_) (a' := ?_) #[true, true, true, true, true, true, true, false, false, false, false, false] rfl rfl (any_of HT_.out (by kernel_rfl)) (fun _ _ _ h => h) (Or.inl ⟨by rfl, ?_⟩) ?_ ?_
                rotate_left
                · intro w'
                  go_simp
                  with_reducible rfl
                rotate_left
                · simp only [Act.put, List.setIfInBounds_toArray, List.set_cons_zero, List.set_cons_succ, i64_w, i32_w]
                  rfl
                refine take_ (i := 7) (N := some 54) (v := ?_) (a' := ?_) #[true, true, true, true, true, true, true, true, false, false, false, false] rfl rfl (take_ofW HT_.out HW_.out (by kernel_rfl)) (fun _ _ _ h => h) (Or.inl ⟨by rfl, ?_⟩) hHeld ?_ ?_
                rotate_left
                · rintro w' ⟨s0, s1, s2⟩
                  go_simp
                  with_reducible rfl
                rotate_left
                · simp only [Act.put, List.setIfInBounds_toArray, List.set_cons_zero, List.set_cons_succ, i64_w, i32_w]
                  rfl
                refine one_ (i := 8) (N := some 55) #[true, true, true, true, true, true, true, true, true, false, false, false] rfl rfl (one_of HT_.out (by kernel_rfl)) (by decide) (fun K hK => ?_)
                refine goes_ Try.func24 (by kernel_rfl) rfl #[.int .i64 0] (by rfl) rfl rfl (by (try simp only [List.map_toArray, List.map_cons, List.map_nil]); first | done | rfl | (simp only [List.length_drop, List.length_take]; rfl)) ?_
                with_reducible refine (quarrylaw02_num.calls 0 t262 t263 t264 _ A54.out).mono ?_
                rintro e w56 ⟨rfl, hb⟩
                refine ⟨_, rfl, ?_⟩
                have n0_ := Aside0.mk (blk_below (g := gb250) (o := .cells #[.int .i64 t246, .int .i64 t247, .string t248] 25 (0, 0)) (by (with_reducible repeat (first | refine blk_drewN ?_ _ | refine blk_drew ?_ | refine blk_alloc ?_ _)); exact BK250.out) hb)
                have n1_ := Aside0.mk (blk_below (g := gb261) (o := .cells #[.int .i64 t257, .int .i64 t258, .string t259] 25 (0, 0)) (by (with_reducible repeat (first | refine blk_drewN ?_ _ | refine blk_drew ?_ | refine blk_alloc ?_ _)); exact BK261.out) hb)
                have n2_ := Aside0.mk (below_step (by repeat (first | (with_reducible first | exact HB.out | apply below_alloc | apply pw_below_drewN | apply below_drew1 | refine below_set ?_ GE250.out | refine below_set ?_ GE261.out) | exact HB.out)) hb)
                clear BK250
                clear BK261
                clear HB
                have BK250 := n0_
                have BK261 := n1_
                have HB := n2_
                clear n0_ n1_ n2_
                (try clear hb)
                (try clear hb2)
                (try clear hk)
                (try clear hi)
                refine hK.out _ _ ⟨(blk_cell BK261.out 0).trans rfl, (blk_cell BK261.out 1).trans rfl, (blk_cell BK261.out 2).trans rfl⟩ (fun hHeld => ?_)
                clear hK K
                refine norm_ (a' := ?_) ?_ ?_
                rotate_left
                · show Act.put _ (some 55) _ = _
                  simp only [Act.put, List.setIfInBounds_toArray, List.set_cons_zero, List.set_cons_succ, i64_w, i32_w]
                  rfl
                refine pure_ (i := 9) (N := some 56) (v := ?_) (a' := ?_) #[true, true, true, true, true, true, true, true, true, true, false, false] rfl rfl (any_of HT_.out (by kernel_rfl)) (fun _ _ _ h => h) (Or.inl ⟨by rfl, ?_⟩) ?_ ?_
                rotate_left
                · intro w'
                  go_simp
                  with_reducible rfl
                rotate_left
                · simp only [Act.put, List.setIfInBounds_toArray, List.set_cons_zero, List.set_cons_succ, i64_w, i32_w]
                  rfl
                refine pure_ (i := 10) (N := some 57) (v := ?_) (a' := ?_) #[true, true, true, true, true, true, true, true, true, true, true, false] rfl rfl (any_of HT_.out (by kernel_rfl)) (fun _ _ _ h => h) (Or.inl ⟨by rfl, ?_⟩) ?_ ?_
                rotate_left
                · intro w'
                  go_simp
                  with_reducible rfl
                rotate_left
                · simp only [Act.put, List.setIfInBounds_toArray, List.set_cons_zero, List.set_cons_succ, i64_w, i32_w]
                  rfl
                refine pure_ (i := 11) (N := some 4) (v := ?_) (a' := ?_) #[true, true, true, true, true, true, true, true, true, true, true, true] rfl rfl (any_of HT_.out (by kernel_rfl)) (fun _ _ _ h => h) (Or.inl ⟨by rfl, ?_⟩) ?_ ?_
                rotate_left
                · intro w'
                  go_simp
                  with_reducible rfl
                rotate_left
                · simp only [Act.put, List.setIfInBounds_toArray, List.set_cons_zero, List.set_cons_succ, i64_w, i32_w]
                  rfl
                refine done_ (done_of HT_.out (by kernel_rfl)) ?_
                try go_wp2
                go_ret
                exact ⟨by first | rfl | (simp [errW_none, errW_some] <;> rfl) | (simp [*, errW_none, errW_some] <;> rfl), by repeat (first | (with_reducible first | exact HB.out | apply below_alloc | apply pw_below_drewN | apply below_drew1 | refine below_set ?_ GE250.out | refine below_set ?_ GE261.out) | exact HB.out)⟩
              · rw [if_neg c53] at H
                cases H
            · rw [if_neg c52] at H
              cases H
          · replace c51 := Bool.eq_false_iff.mpr c51
            subst c51
            have H1 : (if t249 = 0 then (if t260 = 0 then (if t258 < 0 then (if a0 ≥ 0 then (quarrylaw02_CalcDivides.j1 kj36 a0 a1 true t246 t247 t248 t257 t258 t259) else (if t258 > 0 then (quarrylaw02_CalcDivides.j1 kj36 a0 a1 (decide (a0 ≤ 0)) t246 t247 t248 t257 t258 t259) else (quarrylaw02_CalcDivides.j1 kj36 a0 a1 false t246 t247 t248 t257 t258 t259))) else (if t258 > 0 then (quarrylaw02_CalcDivides.j1 kj36 a0 a1 (decide (a0 ≤ 0)) t246 t247 t248 t257 t258 t259) else (quarrylaw02_CalcDivides.j1 kj36 a0 a1 false t246 t247 t248 t257 t258 t259))) else (quarrylaw02_CalcDivides.j1 kj36 a0 a1 true t246 t247 t248 t257 t258 t259)) else (quarrylaw02_CalcDivides.j1 kj36 a0 a1 true t246 t247 t248 t257 t258 t259)) = some r := by rw [if_neg (show ¬ (false = true) by decide)] at H; exact H
            clear H
            have H := H1
            clear H1
            have HC59 := Aside0.mk H
            clear H
            go_upto_region 9 with (fail)
            go_cut [81] (fun v81 wc => ∃ (kq : Nat) (x81_58 : Bool), v81 = .bool x81_58 ∧ Aside0 (quarrylaw02_CalcDivides.j1 kq a0 a1 x81_58 t246 t247 t248 t257 t258 t259 = some r) ∧ Aside0 (kq ≤ kj36) ∧ Aside0 (wc.heap[gb250]? = some (.cells #[.int .i64 t246, .int .i64 t247, .string t248] 25 (0, 0))) ∧ Aside0 (wc.heap[gb261]? = some (.cells #[.int .i64 t257, .int .i64 t258, .string t259] 25 (0, 0))) ∧ Aside0 (Below w.heap.size w wc))
            case first =>
              have H := HC59.out
              clear HC59
              by_cases c60 : t249 = 0
              · rw [if_pos c60] at H
                have c60b0 : (t249 == 0) = true := beq_iff_eq.mpr c60
                have c60b1 : (t249 != 0) = false := bne_eq_false_iff_eq.mpr c60
                clear c60
                (first | rw [c60b0] | (simp only [i64_w, i32_w]; rw [c60b0]) | skip)
                by_cases c61 : t260 = 0
                · rw [if_pos c61] at H
                  have c61b0 : (t260 == 0) = true := beq_iff_eq.mpr c61
                  have c61b1 : (t260 != 0) = false := bne_eq_false_iff_eq.mpr c61
                  clear c61
                  by_cases c62 : t258 < 0
                  · rw [if_pos c62] at H
                    have c62b0 : decide (t258 < 0) = true := decide_eq_true c62
                    clear c62
                    by_cases c63 : a0 ≥ 0
                    · rw [if_pos c63] at H
                      have c63b0 : decide (0 ≤ a0) = true := decide_eq_true c63
                      clear c63
                      have H' := Aside0.mk H
                      clear H
                      have hnb64 := NB261_250.out
                      have hnc64 := NB250_261.out
                      have hcz65_0 : wc.cell? ⟨gb261, 0, none⟩ = some (.int .i64 t257) := (blk_cell BK261.out 0).trans rfl
                      have hcz65_1 : wc.cell? ⟨gb261, 1, none⟩ = some (.int .i64 t258) := (blk_cell BK261.out 1).trans rfl
                      have hcz65_2 : wc.cell? ⟨gb261, 2, none⟩ = some (.string t259) := (blk_cell BK261.out 2).trans rfl
                      have hfz65_0 := blk_frozen BK261.out 0
                      have hfz65_1 := blk_frozen BK261.out 1
                      have hfz65_2 := blk_frozen BK261.out 2
                      go_wp2
                      go_meet
                      case rel => exact ⟨_, (true), (by first | rfl | (simp; done) | (simp [*]; done)), H', ⟨by have := HJ36.out; first | omega | exact Nat.le_refl _⟩, ⟨by (with_reducible repeat (first | refine blk_drewN ?_ _ | refine blk_drew ?_ | refine blk_alloc ?_ _)); exact BK250.out⟩, ⟨by (with_reducible repeat (first | refine blk_drewN ?_ _ | refine blk_drew ?_ | refine blk_alloc ?_ _)); exact BK261.out⟩, ⟨by repeat (first | (with_reducible first | exact HB.out | apply below_alloc | apply pw_below_drewN | apply below_drew1 | refine below_set ?_ GE250.out | refine below_set ?_ GE261.out) | exact HB.out)⟩⟩
                    · rw [if_neg c63] at H
                      have c63b0 : decide (0 ≤ a0) = false := decide_eq_false c63
                      clear c63
                      by_cases c66 : t258 > 0
                      · rw [if_pos c66] at H
                        have c66b0 : decide (0 < t258) = true := decide_eq_true c66
                        clear c66
                        have H' := Aside0.mk H
                        clear H
                        have hnb67 := NB261_250.out
                        have hnc67 := NB250_261.out
                        have hcz68_0 : wc.cell? ⟨gb261, 0, none⟩ = some (.int .i64 t257) := (blk_cell BK261.out 0).trans rfl
                        have hcz68_1 : wc.cell? ⟨gb261, 1, none⟩ = some (.int .i64 t258) := (blk_cell BK261.out 1).trans rfl
                        have hcz68_2 : wc.cell? ⟨gb261, 2, none⟩ = some (.string t259) := (blk_cell BK261.out 2).trans rfl
                        have hfz68_0 := blk_frozen BK261.out 0
                        have hfz68_1 := blk_frozen BK261.out 1
                        have hfz68_2 := blk_frozen BK261.out 2
                        go_wp2
                        go_meet
                        case rel => exact ⟨_, (decide (a0 ≤ 0)), (by first | rfl | (simp; done) | (simp [*]; done)), H', ⟨by have := HJ36.out; first | omega | exact Nat.le_refl _⟩, ⟨by (with_reducible repeat (first | refine blk_drewN ?_ _ | refine blk_drew ?_ | refine blk_alloc ?_ _)); exact BK250.out⟩, ⟨by (with_reducible repeat (first | refine blk_drewN ?_ _ | refine blk_drew ?_ | refine blk_alloc ?_ _)); exact BK261.out⟩, ⟨by repeat (first | (with_reducible first | exact HB.out | apply below_alloc | apply pw_below_drewN | apply below_drew1 | refine below_set ?_ GE250.out | refine below_set ?_ GE261.out) | exact HB.out)⟩⟩
                      · rw [if_neg c66] at H
                        have c66b0 : decide (0 < t258) = false := decide_eq_false c66
                        clear c66
                        have H' := Aside0.mk H
                        clear H
                        have hnb69 := NB261_250.out
                        have hnc69 := NB250_261.out
                        have hcz70_0 : wc.cell? ⟨gb261, 0, none⟩ = some (.int .i64 t257) := (blk_cell BK261.out 0).trans rfl
                        have hcz70_1 : wc.cell? ⟨gb261, 1, none⟩ = some (.int .i64 t258) := (blk_cell BK261.out 1).trans rfl
                        have hcz70_2 : wc.cell? ⟨gb261, 2, none⟩ = some (.string t259) := (blk_cell BK261.out 2).trans rfl
                        have hfz70_0 := blk_frozen BK261.out 0
                        have hfz70_1 := blk_frozen BK261.out 1
                        have hfz70_2 := blk_frozen BK261.out 2
                        go_wp2
                        go_meet
                        case rel => exact ⟨_, (false), (by first | rfl | (simp; done) | (simp [*]; done)), H', ⟨by have := HJ36.out; first | omega | exact Nat.le_refl _⟩, ⟨by (with_reducible repeat (first | refine blk_drewN ?_ _ | refine blk_drew ?_ | refine blk_alloc ?_ _)); exact BK250.out⟩, ⟨by (with_reducible repeat (first | refine blk_drewN ?_ _ | refine blk_drew ?_ | refine blk_alloc ?_ _)); exact BK261.out⟩, ⟨by repeat (first | (with_reducible first | exact HB.out | apply below_alloc | apply pw_below_drewN | apply below_drew1 | refine below_set ?_ GE250.out | refine below_set ?_ GE261.out) | exact HB.out)⟩⟩
                  · rw [if_neg c62] at H
                    have c62b0 : decide (t258 < 0) = false := decide_eq_false c62
                    clear c62
                    by_cases c71 : t258 > 0
                    · rw [if_pos c71] at H
                      have c71b0 : decide (0 < t258) = true := decide_eq_true c71
                      clear c71
                      have H' := Aside0.mk H
                      clear H
                      have hnb72 := NB261_250.out
                      have hnc72 := NB250_261.out
                      have hcz73_0 : wc.cell? ⟨gb261, 0, none⟩ = some (.int .i64 t257) := (blk_cell BK261.out 0).trans rfl
                      have hcz73_1 : wc.cell? ⟨gb261, 1, none⟩ = some (.int .i64 t258) := (blk_cell BK261.out 1).trans rfl
                      have hcz73_2 : wc.cell? ⟨gb261, 2, none⟩ = some (.string t259) := (blk_cell BK261.out 2).trans rfl
                      have hfz73_0 := blk_frozen BK261.out 0
                      have hfz73_1 := blk_frozen BK261.out 1
                      have hfz73_2 := blk_frozen BK261.out 2
                      go_wp2
                      go_meet
                      case rel => exact ⟨_, (decide (a0 ≤ 0)), (by first | rfl | (simp; done) | (simp [*]; done)), H', ⟨by have := HJ36.out; first | omega | exact Nat.le_refl _⟩, ⟨by (with_reducible repeat (first | refine blk_drewN ?_ _ | refine blk_drew ?_ | refine blk_alloc ?_ _)); exact BK250.out⟩, ⟨by (with_reducible repeat (first | refine blk_drewN ?_ _ | refine blk_drew ?_ | refine blk_alloc ?_ _)); exact BK261.out⟩, ⟨by repeat (first | (with_reducible first | exact HB.out | apply below_alloc | apply pw_below_drewN | apply below_drew1 | refine below_set ?_ GE250.out | refine below_set ?_ GE261.out) | exact HB.out)⟩⟩
                    · rw [if_neg c71] at H
                      have c71b0 : decide (0 < t258) = false := decide_eq_false c71
                      clear c71
                      have H' := Aside0.mk H
                      clear H
                      have hnb74 := NB261_250.out
                      have hnc74 := NB250_261.out
                      have hcz75_0 : wc.cell? ⟨gb261, 0, none⟩ = some (.int .i64 t257) := (blk_cell BK261.out 0).trans rfl
                      have hcz75_1 : wc.cell? ⟨gb261, 1, none⟩ = some (.int .i64 t258) := (blk_cell BK261.out 1).trans rfl
                      have hcz75_2 : wc.cell? ⟨gb261, 2, none⟩ = some (.string t259) := (blk_cell BK261.out 2).trans rfl
                      have hfz75_0 := blk_frozen BK261.out 0
                      have hfz75_1 := blk_frozen BK261.out 1
                      have hfz75_2 := blk_frozen BK261.out 2
                      go_wp2
                      go_meet
                      case rel => exact ⟨_, (false), (by first | rfl | (simp; done) | (simp [*]; done)), H', ⟨by have := HJ36.out; first | omega | exact Nat.le_refl _⟩, ⟨by (with_reducible repeat (first | refine blk_drewN ?_ _ | refine blk_drew ?_ | refine blk_alloc ?_ _)); exact BK250.out⟩, ⟨by (with_reducible repeat (first | refine blk_drewN ?_ _ | refine blk_drew ?_ | refine blk_alloc ?_ _)); exact BK261.out⟩, ⟨by repeat (first | (with_reducible first | exact HB.out | apply below_alloc | apply pw_below_drewN | apply below_drew1 | refine below_set ?_ GE250.out | refine below_set ?_ GE261.out) | exact HB.out)⟩⟩
                · rw [if_neg c61] at H
                  have c61b0 : (t260 == 0) = false := beq_eq_false_iff_ne.mpr c61
                  have c61b1 : (t260 != 0) = true := bne_iff_ne.mpr c61
                  have H' := Aside0.mk H
                  clear H
                  go_wp2
                  go_meet
                  case rel => exact ⟨_, (true), (by first | rfl | (simp; done) | (simp [*]; done)), H', ⟨by have := HJ36.out; first | omega | exact Nat.le_refl _⟩, ⟨by (with_reducible repeat (first | refine blk_drewN ?_ _ | refine blk_drew ?_ | refine blk_alloc ?_ _)); exact BK250.out⟩, ⟨by (with_reducible repeat (first | refine blk_drewN ?_ _ | refine blk_drew ?_ | refine blk_alloc ?_ _)); exact BK261.out⟩, ⟨by repeat (first | (with_reducible first | exact HB.out | apply below_alloc | apply pw_below_drewN | apply below_drew1 | refine below_set ?_ GE250.out | refine below_set ?_ GE261.out) | exact HB.out)⟩⟩
              · rw [if_neg c60] at H
                have c60b0 : (t249 == 0) = false := beq_eq_false_iff_ne.mpr c60
                have c60b1 : (t249 != 0) = true := bne_iff_ne.mpr c60
                (first | rw [c60b0] | (simp only [i64_w, i32_w]; rw [c60b0]) | skip)
                have H' := Aside0.mk H
                clear H
                go_wp2
                go_meet
                case rel => exact ⟨_, (true), (by first | rfl | (simp; done) | (simp [*]; done)), H', ⟨by have := HJ36.out; first | omega | exact Nat.le_refl _⟩, ⟨by (with_reducible repeat (first | refine blk_drewN ?_ _ | refine blk_drew ?_ | refine blk_alloc ?_ _)); exact BK250.out⟩, ⟨by (with_reducible repeat (first | refine blk_drewN ?_ _ | refine blk_drew ?_ | refine blk_alloc ?_ _)); exact BK261.out⟩, ⟨by repeat (first | (with_reducible first | exact HB.out | apply below_alloc | apply pw_below_drewN | apply below_drew1 | refine below_set ?_ GE250.out | refine below_set ?_ GE261.out) | exact HB.out)⟩⟩
            case rest =>
              clear HC59
              try clear c1
              try clear c2
              try clear p2
              try clear c3
              try clear c4
              try clear c5
              try clear c6
              try clear c7
              try clear c11
              try clear c11b0
              try clear c11b1
              try clear c12
              try clear c12b0
              try clear c12b1
              try clear c17
              try clear c23
              try clear c24
              try clear c35
              try clear c48
              try clear c50
              try clear c50b0
              try clear c50b1
              try clear c51
              try clear c52
              try clear c52b0
              try clear c52b1
              try clear c53
              try clear c53b0
              try clear c53b1
              try clear c60
              try clear c60b0
              try clear c60b1
              try clear c61
              try clear c61b0
              try clear c61b1
              try clear c62
              try clear c62b0
              try clear c63
              try clear c63b0
              try clear c64
              try clear c66
              try clear c66b0
              try clear c67
              try clear c69
              try clear c71
              try clear c71b0
              try clear c72
              try clear c74
              try clear hcz18_0
              try clear hcz18_1
              try clear hcz18_2
              try clear hcz24_0
              try clear hcz24_1
              try clear hcz24_2
              try clear hcz30_0
              try clear hcz30_1
              try clear hcz30_2
              try clear hcz36_0
              try clear hcz36_1
              try clear hcz36_2
              try clear hcz43_0
              try clear hcz43_1
              try clear hcz43_2
              try clear hcz49_0
              try clear hcz49_1
              try clear hcz49_2
              try clear hcz65_0
              try clear hcz65_1
              try clear hcz65_2
              try clear hcz68_0
              try clear hcz68_1
              try clear hcz68_2
              try clear hcz70_0
              try clear hcz70_1
              try clear hcz70_2
              try clear hcz73_0
              try clear hcz73_1
              try clear hcz73_2
              try clear hcz75_0
              try clear hcz75_1
              try clear hcz75_2
              try clear hfz18_0
              try clear hfz18_1
              try clear hfz18_2
              try clear hfz24_0
              try clear hfz24_1
              try clear hfz24_2
              try clear hfz30_0
              try clear hfz30_1
              try clear hfz30_2
              try clear hfz36_0
              try clear hfz36_1
              try clear hfz36_2
              try clear hfz43_0
              try clear hfz43_1
              try clear hfz43_2
              try clear hfz49_0
              try clear hfz49_1
              try clear hfz49_2
              try clear hfz65_0
              try clear hfz65_1
              try clear hfz65_2
              try clear hfz68_0
              try clear hfz68_1
              try clear hfz68_2
              try clear hfz70_0
              try clear hfz70_1
              try clear hfz70_2
              try clear hfz73_0
              try clear hfz73_1
              try clear hfz73_2
              try clear hfz75_0
              try clear hfz75_1
              try clear hfz75_2
              try clear p2
              obtain ⟨kq, x81_58, rfl, HA, HJ58, BK250, BK261, HB⟩ := hcut
              cases kq with
              | zero => exact absurd HA.out (by simp [quarrylaw02_CalcDivides.j1])
              | succ kj58 =>
                have H := HA.out
                clear HA
                simp only [quarrylaw02_CalcDivides.j1] at H
                by_cases c76 : x81_58 = true
                · subst c76
                  have H1 : (none) = some r := by rw [if_pos rfl] at H; exact H
                  cases H1
                · replace c76 := Bool.eq_false_iff.mpr c76
                  subst c76
                  have H1 : (if t258 > 0 then (quarrylaw02_CalcDivides.j2 kj58 a0 a1 (wrap64 (-t258)) t246 t247 t248 t257 t258 t259) else (quarrylaw02_CalcDivides.j2 kj58 a0 a1 t258 t246 t247 t248 t257 t258 t259)) = some r := by rw [if_neg (show ¬ (false = true) by decide)] at H; exact H
                  clear H
                  have H := H1
                  clear H1
                  have HC77 := Aside0.mk H
                  clear H
                  have hnb78 := NB261_250.out
                  have hnc78 := NB250_261.out
                  have hcz79_0 : wc.cell? ⟨gb261, 0, none⟩ = some (.int .i64 t257) := (blk_cell BK261.out 0).trans rfl
                  have hcz79_1 : wc.cell? ⟨gb261, 1, none⟩ = some (.int .i64 t258) := (blk_cell BK261.out 1).trans rfl
                  have hcz79_2 : wc.cell? ⟨gb261, 2, none⟩ = some (.string t259) := (blk_cell BK261.out 2).trans rfl
                  have hfz79_0 := blk_frozen BK261.out 0
                  have hfz79_1 := blk_frozen BK261.out 1
                  have hfz79_2 := blk_frozen BK261.out 2
                  go_upto_if 85 with (fail)
                  go_cut [9] (fun v9 wc => ∃ (kq : Nat) (x9_76 : Int), v9 = .int .i64 x9_76 ∧ Aside0 (quarrylaw02_CalcDivides.j2 kq a0 a1 x9_76 t246 t247 t248 t257 t258 t259 = some r) ∧ Aside0 (kq ≤ kj58) ∧ Aside0 (wc.heap[gb250]? = some (.cells #[.int .i64 t246, .int .i64 t247, .string t248] 25 (0, 0))) ∧ Aside0 (wc.heap[gb261]? = some (.cells #[.int .i64 t257, .int .i64 t258, .string t259] 25 (0, 0))) ∧ Aside0 (Below w.heap.size w wc))
                  case first =>
                    have H := HC77.out
                    clear HC77
                    by_cases c80 : t258 > 0
                    · rw [if_pos c80] at H
                      have c80b0 : decide (0 < t258) = true := decide_eq_true c80
                      clear c80
                      (first | rw [c80b0] | (simp only [i64_w, i32_w]; rw [c80b0]) | skip)
                      have H' := Aside0.mk H
                      clear H
                      go_wp2
                      go_meet
                      case rel => exact ⟨_, (wrap64 (-t258)), (by first | rfl | (simp; done) | (simp [*]; done)), H', ⟨by have := HJ36.out; have := HJ58.out; first | omega | exact Nat.le_refl _⟩, ⟨by (with_reducible repeat (first | refine blk_drewN ?_ _ | refine blk_drew ?_ | refine blk_alloc ?_ _)); exact BK250.out⟩, ⟨by (with_reducible repeat (first | refine blk_drewN ?_ _ | refine blk_drew ?_ | refine blk_alloc ?_ _)); exact BK261.out⟩, ⟨by repeat (first | (with_reducible first | exact HB.out | apply below_alloc | apply pw_below_drewN | apply below_drew1 | refine below_set ?_ GE250.out | refine below_set ?_ GE261.out) | exact HB.out)⟩⟩
                    · rw [if_neg c80] at H
                      have c80b0 : decide (0 < t258) = false := decide_eq_false c80
                      clear c80
                      (first | rw [c80b0] | (simp only [i64_w, i32_w]; rw [c80b0]) | skip)
                      have H' := Aside0.mk H
                      clear H
                      go_wp2
                      go_meet
                      case rel => exact ⟨_, (t258), (by first | rfl | (simp; done) | (simp [*]; done)), H', ⟨by have := HJ36.out; have := HJ58.out; first | omega | exact Nat.le_refl _⟩, ⟨by (with_reducible repeat (first | refine blk_drewN ?_ _ | refine blk_drew ?_ | refine blk_alloc ?_ _)); exact BK250.out⟩, ⟨by (with_reducible repeat (first | refine blk_drewN ?_ _ | refine blk_drew ?_ | refine blk_alloc ?_ _)); exact BK261.out⟩, ⟨by repeat (first | (with_reducible first | exact HB.out | apply below_alloc | apply pw_below_drewN | apply below_drew1 | refine below_set ?_ GE250.out | refine below_set ?_ GE261.out) | exact HB.out)⟩⟩
                  case rest =>
                    clear HC77
                    try clear c1
                    try clear c2
                    try clear p2
                    try clear c3
                    try clear c4
                    try clear c5
                    try clear c6
                    try clear p6
                    try clear c7
                    try clear c8
                    try clear c11
                    try clear c11b0
                    try clear c11b1
                    try clear c12
                    try clear c12b0
                    try clear c12b1
                    try clear c17
                    try clear c23
                    try clear c24
                    try clear c35
                    try clear c48
                    try clear c50
                    try clear c50b0
                    try clear c50b1
                    try clear c51
                    try clear c52
                    try clear c52b0
                    try clear c52b1
                    try clear c53
                    try clear c53b0
                    try clear c53b1
                    try clear c60
                    try clear c60b0
                    try clear c60b1
                    try clear c61
                    try clear c61b0
                    try clear c61b1
                    try clear c62
                    try clear c62b0
                    try clear c63
                    try clear c63b0
                    try clear c64
                    try clear p64
                    try clear c66
                    try clear c66b0
                    try clear c67
                    try clear c69
                    try clear c71
                    try clear c71b0
                    try clear c72
                    try clear c74
                    try clear c76
                    try clear c78
                    try clear c80
                    try clear c80b0
                    try clear hcz18_0
                    try clear hcz18_1
                    try clear hcz18_2
                    try clear hcz24_0
                    try clear hcz24_1
                    try clear hcz24_2
                    try clear hcz30_0
                    try clear hcz30_1
                    try clear hcz30_2
                    try clear hcz36_0
                    try clear hcz36_1
                    try clear hcz36_2
                    try clear hcz43_0
                    try clear hcz43_1
                    try clear hcz43_2
                    try clear hcz49_0
                    try clear hcz49_1
                    try clear hcz49_2
                    try clear hcz65_0
                    try clear hcz65_1
                    try clear hcz65_2
                    try clear hcz68_0
                    try clear hcz68_1
                    try clear hcz68_2
                    try clear hcz70_0
                    try clear hcz70_1
                    try clear hcz70_2
                    try clear hcz73_0
                    try clear hcz73_1
                    try clear hcz73_2
                    try clear hcz75_0
                    try clear hcz75_1
                    try clear hcz75_2
                    try clear hcz79_0
                    try clear hcz79_1
                    try clear hcz79_2
                    try clear hfz18_0
                    try clear hfz18_1
                    try clear hfz18_2
                    try clear hfz24_0
                    try clear hfz24_1
                    try clear hfz24_2
                    try clear hfz30_0
                    try clear hfz30_1
                    try clear hfz30_2
                    try clear hfz36_0
                    try clear hfz36_1
                    try clear hfz36_2
                    try clear hfz43_0
                    try clear hfz43_1
                    try clear hfz43_2
                    try clear hfz49_0
                    try clear hfz49_1
                    try clear hfz49_2
                    try clear hfz65_0
                    try clear hfz65_1
                    try clear hfz65_2
                    try clear hfz68_0
                    try clear hfz68_1
                    try clear hfz68_2
                    try clear hfz70_0
                    try clear hfz70_1
                    try clear hfz70_2
                    try clear hfz73_0
                    try clear hfz73_1
                    try clear hfz73_2
                    try clear hfz75_0
                    try clear hfz75_1
                    try clear hfz75_2
                    try clear hfz79_0
                    try clear hfz79_1
                    try clear hfz79_2
                    try clear p2
                    obtain ⟨kq, x9_76, rfl, HA, HJ76, BK250, BK261, HB⟩ := hcut
                    cases kq with
                    | zero => exact absurd HA.out (by simp [quarrylaw02_CalcDivides.j2])
                    | succ kj76 =>
                      have H := HA.out
                      clear HA
                      simp only [quarrylaw02_CalcDivides.j2] at H
                      have HC81 := Aside0.mk H
                      clear H
                      go_upto_if 90 with (fail)
                      go_cut [10] (fun v10 wc => ∃ (kq : Nat) (x10_80 : Int), v10 = .int .i64 x10_80 ∧ Aside0 (quarrylaw02_CalcDivides.j3 kq a0 a1 x9_76 x10_80 t246 t247 t248 t257 t258 t259 = some r) ∧ Aside0 (kq ≤ kj76) ∧ Aside0 (wc.heap[gb250]? = some (.cells #[.int .i64 t246, .int .i64 t247, .string t248] 25 (0, 0))) ∧ Aside0 (wc.heap[gb261]? = some (.cells #[.int .i64 t257, .int .i64 t258, .string t259] 25 (0, 0))) ∧ Aside0 (Below w.heap.size w wc))
                      case first =>
                        have H := HC81.out
                        clear HC81
                        by_cases c82 : a1 > 0
                        · rw [if_pos c82] at H
                          have c82b0 : decide (0 < a1) = true := decide_eq_true c82
                          clear c82
                          (first | rw [c82b0] | (simp only [i64_w, i32_w]; rw [c82b0]) | skip)
                          have H' := Aside0.mk H
                          clear H
                          go_wp2
                          go_meet
                          case rel => exact ⟨_, (wrap64 (-a1)), (by first | rfl | (simp; done) | (simp [*]; done)), H', ⟨by have := HJ36.out; have := HJ58.out; have := HJ76.out; first | omega | exact Nat.le_refl _⟩, ⟨by (with_reducible repeat (first | refine blk_drewN ?_ _ | refine blk_drew ?_ | refine blk_alloc ?_ _)); exact BK250.out⟩, ⟨by (with_reducible repeat (first | refine blk_drewN ?_ _ | refine blk_drew ?_ | refine blk_alloc ?_ _)); exact BK261.out⟩, ⟨by repeat (first | (with_reducible first | exact HB.out | apply below_alloc | apply pw_below_drewN | apply below_drew1 | refine below_set ?_ GE250.out | refine below_set ?_ GE261.out) | exact HB.out)⟩⟩
                        · rw [if_neg c82] at H
                          have c82b0 : decide (0 < a1) = false := decide_eq_false c82
                          clear c82
                          (first | rw [c82b0] | (simp only [i64_w, i32_w]; rw [c82b0]) | skip)
                          have H' := Aside0.mk H
                          clear H
                          go_wp2
                          go_meet
                          case rel => exact ⟨_, (a1), (by first | rfl | (simp; done) | (simp [*]; done)), H', ⟨by have := HJ36.out; have := HJ58.out; have := HJ76.out; first | omega | exact Nat.le_refl _⟩, ⟨by (with_reducible repeat (first | refine blk_drewN ?_ _ | refine blk_drew ?_ | refine blk_alloc ?_ _)); exact BK250.out⟩, ⟨by (with_reducible repeat (first | refine blk_drewN ?_ _ | refine blk_drew ?_ | refine blk_alloc ?_ _)); exact BK261.out⟩, ⟨by repeat (first | (with_reducible first | exact HB.out | apply below_alloc | apply pw_below_drewN | apply below_drew1 | refine below_set ?_ GE250.out | refine below_set ?_ GE261.out) | exact HB.out)⟩⟩
                      case rest =>
                        clear HC81
                        try clear c1
                        try clear c2
                        try clear p2
                        try clear c3
                        try clear c4
                        try clear c5
                        try clear c6
                        try clear p6
                        try clear c7
                        try clear c8
                        try clear c11
                        try clear c11b0
                        try clear c11b1
                        try clear c12
                        try clear c12b0
                        try clear c12b1
                        try clear c17
                        try clear c23
                        try clear c24
                        try clear c35
                        try clear c48
                        try clear c50
                        try clear c50b0
                        try clear c50b1
                        try clear c51
                        try clear c52
                        try clear c52b0
                        try clear c52b1
                        try clear c53
                        try clear c53b0
                        try clear c53b1
                        try clear c60
                        try clear c60b0
                        try clear c60b1
                        try clear c61
                        try clear c61b0
                        try clear c61b1
                        try clear c62
                        try clear c62b0
                        try clear c63
                        try clear c63b0
                        try clear c64
                        try clear p64
                        try clear c66
                        try clear c66b0
                        try clear c67
                        try clear c69
                        try clear c71
                        try clear c71b0
                        try clear c72
                        try clear c74
                        try clear c76
                        try clear c78
                        try clear c80
                        try clear c80b0
                        try clear c82
                        try clear c82b0
                        try clear hcz18_0
                        try clear hcz18_1
                        try clear hcz18_2
                        try clear hcz24_0
                        try clear hcz24_1
                        try clear hcz24_2
                        try clear hcz30_0
                        try clear hcz30_1
                        try clear hcz30_2
                        try clear hcz36_0
                        try clear hcz36_1
                        try clear hcz36_2
                        try clear hcz43_0
                        try clear hcz43_1
                        try clear hcz43_2
                        try clear hcz49_0
                        try clear hcz49_1
                        try clear hcz49_2
                        try clear hcz65_0
                        try clear hcz65_1
                        try clear hcz65_2
                        try clear hcz68_0
                        try clear hcz68_1
                        try clear hcz68_2
                        try clear hcz70_0
                        try clear hcz70_1
                        try clear hcz70_2
                        try clear hcz73_0
                        try clear hcz73_1
                        try clear hcz73_2
                        try clear hcz75_0
                        try clear hcz75_1
                        try clear hcz75_2
                        try clear hcz79_0
                        try clear hcz79_1
                        try clear hcz79_2
                        try clear hfz18_0
                        try clear hfz18_1
                        try clear hfz18_2
                        try clear hfz24_0
                        try clear hfz24_1
                        try clear hfz24_2
                        try clear hfz30_0
                        try clear hfz30_1
                        try clear hfz30_2
                        try clear hfz36_0
                        try clear hfz36_1
                        try clear hfz36_2
                        try clear hfz43_0
                        try clear hfz43_1
                        try clear hfz43_2
                        try clear hfz49_0
                        try clear hfz49_1
                        try clear hfz49_2
                        try clear hfz65_0
                        try clear hfz65_1
                        try clear hfz65_2
                        try clear hfz68_0
                        try clear hfz68_1
                        try clear hfz68_2
                        try clear hfz70_0
                        try clear hfz70_1
                        try clear hfz70_2
                        try clear hfz73_0
                        try clear hfz73_1
                        try clear hfz73_2
                        try clear hfz75_0
                        try clear hfz75_1
                        try clear hfz75_2
                        try clear hfz79_0
                        try clear hfz79_1
                        try clear hfz79_2
                        try clear p2
                        try clear p6
                        try clear p64
                        obtain ⟨kq, x10_80, rfl, HA, HJ80, BK250, BK261, HB⟩ := hcut
                        cases kq with
                        | zero => exact absurd HA.out (by simp [quarrylaw02_CalcDivides.j3])
                        | succ kj80 =>
                          have H := HA.out
                          clear HA
                          simp only [quarrylaw02_CalcDivides.j3] at H
                          replace H := Option.bind_eq_some_iff.mp H
                          obtain ⟨⟨t265, t266, t267⟩, A830, H⟩ := H
                          replace H : ((calc_Binary.f 13 t246 t247 t248 t265 t266 t267).bind fun bt268 => ((calc_Binary.f 11 bt268.1 bt268.2.1 bt268.2.2.1 t257 t258 t259).bind fun bt273 => (if x9_76 > x10_80 then (if bt268.2.2.2 = 0 then (if bt273.2.2.2 = 0 then ((quarrylaw02_num.f a0).bind fun bt278 => (some (bt273.1 == bt278.1 && (bt273.2.1 == bt278.2.1 && (bt273.2.2.1.toList == bt278.2.2.toList))))) else (none)) else (none)) else (none)))) = some r := H
                          have A83 := Aside0.mk A830
                          clear A830
                          replace H := Option.bind_eq_some_iff.mp H
                          obtain ⟨⟨t268, t269, t270, t271⟩, A840, H⟩ := H
                          replace H : ((calc_Binary.f 11 t268 t269 t270 t257 t258 t259).bind fun bt273 => (if x9_76 > x10_80 then (if t271 = 0 then (if bt273.2.2.2 = 0 then ((quarrylaw02_num.f a0).bind fun bt278 => (some (bt273.1 == bt278.1 && (bt273.2.1 == bt278.2.1 && (bt273.2.2.1.toList == bt278.2.2.toList))))) else (none)) else (none)) else (none))) = some r := H
                          have A84 := Aside0.mk A840
                          clear A840
                          replace H := Option.bind_eq_some_iff.mp H
                          obtain ⟨⟨t273, t274, t275, t276⟩, A850, H⟩ := H
                          replace H : (if x9_76 > x10_80 then (if t271 = 0 then (if t276 = 0 then ((quarrylaw02_num.f a0).bind fun bt278 => (some (t273 == bt278.1 && (t274 == bt278.2.1 && (t275.toList == bt278.2.2.toList))))) else (none)) else (none)) else (none)) = some r := H
                          have A85 := Aside0.mk A850
                          clear A850
                          by_cases c86 : x9_76 > x10_80
                          · rw [if_pos c86] at H
                            have c86b0 : decide (x10_80 < x9_76) = true := decide_eq_true c86
                            clear c86
                            by_cases c87 : t271 = 0
                            · rw [if_pos c87] at H
                              have c87b0 : (t271 == 0) = true := beq_iff_eq.mpr c87
                              have c87b1 : (t271 != 0) = false := bne_eq_false_iff_eq.mpr c87
                              clear c87
                              by_cases c88 : t276 = 0
                              · rw [if_pos c88] at H
                                have c88b0 : (t276 == 0) = true := beq_iff_eq.mpr c88
                                have c88b1 : (t276 != 0) = false := bne_eq_false_iff_eq.mpr c88
                                clear c88
                                replace H := Option.bind_eq_some_iff.mp H
                                obtain ⟨⟨t278, t279, t280⟩, A890, H⟩ := H
                                replace H : (some (t273 == t278 && (t274 == t279 && (t275.toList == t280.toList)))) = some r := H
                                have A89 := Aside0.mk A890
                                clear A890
                                obtain rfl := Option.some.inj H
                                try go_wp2
                                have n0_ := Aside0.mk (blk_drew BK250.out)
                                have n1_ := Aside0.mk (blk_drew BK261.out)
                                have n2_ := Aside0.mk (below_drew1 HB.out)
                                clear BK250
                                clear BK261
                                clear HB
                                have BK250 := n0_
                                have BK261 := n1_
                                have HB := n2_
                                clear n0_ n1_ n2_
                                refine start_ (n := 10) (S := fun w' => w'.cell? ⟨gb250, 0, none⟩ = some (.int .i64 t246) ∧ w'.cell? ⟨gb250, 1, none⟩ = some (.int .i64 t247) ∧ w'.cell? ⟨gb250, 2, none⟩ = some (.string t248)) (ds := []) #[false, false, false, false, false, false, false, false, false, false] (by kernel_rfl) rfl rfl ⟨(blk_cell BK250.out 0).trans rfl, (blk_cell BK250.out 1).trans rfl, (blk_cell BK250.out 2).trans rfl⟩ (fun hHeld => ?_); refine with_tabW quarrylaw02_CalcDivides.tab17 quarrylaw02_CalcDivides.bits17 (fun HT_ HW_ => ?_)
                                generalize wc.drew = w90 at BK250 BK261 HB hHeld ⊢
                                refine pure_ (i := 1) (N := some 95) (v := ?_) (a' := ?_) #[false, true, false, false, false, false, false, false, false, false] rfl rfl (any_of HT_.out (by kernel_rfl)) (fun _ _ _ h => h) (Or.inl ⟨by rfl, ?_⟩) ?_ ?_
                                rotate_left
                                · intro w'
                                  go_simp
                                  with_reducible rfl
                                rotate_left
                                · simp only [Act.put, List.setIfInBounds_toArray, List.set_cons_zero, List.set_cons_succ, i64_w, i32_w]
                                  rfl
                                refine take_ (i := 0) (N := some 94) (v := ?_) (a' := ?_) #[true, true, false, false, false, false, false, false, false, false] rfl rfl (take_ofW HT_.out HW_.out (by kernel_rfl)) (fun _ _ _ h => h) (Or.inl ⟨by rfl, ?_⟩) hHeld ?_ ?_
                                rotate_left
                                · rintro w' ⟨s0, s1, s2⟩
                                  go_simp
                                  with_reducible rfl
                                rotate_left
                                · simp only [Act.put, List.setIfInBounds_toArray, List.set_cons_zero, List.set_cons_succ, i64_w, i32_w]
                                  rfl
                                refine join_ (σ := Nat) 2 #[true, true, true, true, true, true, true, true, false, false] (fun s_ => [(96, .agg #[.int .i64 t265, .int .i64 t266, .string t267]), (97, .tuple #[.agg #[.int .i64 t268, .int .i64 t269, .string t270], .int .i64 t271]), (11, .pointer (some ⟨s_, 0, none⟩)), (93, .tuple #[.agg #[.int .i64 t268, .int .i64 t269, .string t270], .int .i64 t271]), (98, .agg #[.int .i64 t268, .int .i64 t269, .string t270]), (99, .int .i64 t271)]) (fun s_ w' => (w'.cell? ⟨gb250, 0, none⟩ = some (.int .i64 t246) ∧ w'.cell? ⟨gb250, 1, none⟩ = some (.int .i64 t247) ∧ w'.cell? ⟨gb250, 2, none⟩ = some (.string t248)) ∧ (w'.heap[gb250]? = some (.cells #[.int .i64 t246, .int .i64 t247, .string t248] 25 (0, 0))) ∧ (w'.heap[gb261]? = some (.cells #[.int .i64 t257, .int .i64 t258, .string t259] 25 (0, 0))) ∧ (w'.heap[s_]? = some (.cells #[.int .i64 0, .int .i64 0, .string (⟨#[]⟩ : ByteArray)] 25 (0, 0))) ∧ (w.heap.size ≤ s_) ∧ (w.heap.size ≤ s_) ∧ (gb250 ≠ s_) ∧ (s_ ≠ gb250) ∧ (gb261 ≠ s_) ∧ (s_ ≠ gb261) ∧ (Below w.heap.size w w')) ?_ ?_
                                rotate_left
                                · intro hCont
                                  refine two_ (i := 2) (j := 7) (Ni := some 96) (Nj := some 11) #[true, true, true, false, false, false, false, false, false, false] #[true, true, false, false, false, false, false, true, false, false] rfl rfl rfl rfl (two_of HT_.out (by kernel_rfl)) (by decide) (by decide) (fun K hK => ?_) (fun K hK => ?_)
                                  · skip
                                    refine goes_ Try.func24 (by kernel_rfl) rfl #[.int .i64 a1] (by rfl) rfl rfl (by (try simp only [List.map_toArray, List.map_cons, List.map_nil]); first | done | rfl | (simp only [List.length_drop, List.length_take]; rfl)) ?_
                                    with_reducible refine (quarrylaw02_num.calls a1 t265 t266 t267 _ A83.out).mono ?_
                                    rintro e w91 ⟨rfl, hb⟩
                                    refine ⟨_, rfl, ?_⟩
                                    have n0_ := Aside0.mk (blk_below (g := gb250) (o := .cells #[.int .i64 t246, .int .i64 t247, .string t248] 25 (0, 0)) (by (with_reducible repeat (first | refine blk_drewN ?_ _ | refine blk_drew ?_ | refine blk_alloc ?_ _)); exact BK250.out) hb)
                                    have n1_ := Aside0.mk (blk_below (g := gb261) (o := .cells #[.int .i64 t257, .int .i64 t258, .string t259] 25 (0, 0)) (by (with_reducible repeat (first | refine blk_drewN ?_ _ | refine blk_drew ?_ | refine blk_alloc ?_ _)); exact BK261.out) hb)
                                    have n2_ := Aside0.mk (below_step (by repeat (first | (with_reducible first | exact HB.out | apply below_alloc | apply pw_below_drewN | apply below_drew1 | refine below_set ?_ GE250.out | refine below_set ?_ GE261.out) | exact HB.out)) hb)
                                    clear BK250
                                    clear BK261
                                    clear HB
                                    have BK250 := n0_
                                    have BK261 := n1_
                                    have HB := n2_
                                    clear n0_ n1_ n2_
                                    (try clear hb)
                                    (try clear hb2)
                                    (try clear hk)
                                    (try clear hi)
                                    refine hK.out _ _ ⟨(blk_cell BK250.out 0).trans rfl, (blk_cell BK250.out 1).trans rfl, (blk_cell BK250.out 2).trans rfl⟩ (fun hHeld => ?_)
                                    clear hK K
                                    refine norm_ (a' := ?_) ?_ ?_
                                    rotate_left
                                    · show Act.put _ (some 96) _ = _
                                      simp only [Act.put, List.setIfInBounds_toArray, List.set_cons_zero, List.set_cons_succ, i64_w, i32_w]
                                      rfl
                                    refine two_ (i := 3) (j := 7) (Ni := some 97) (Nj := some 11) #[true, true, true, true, false, false, false, false, false, false] #[true, true, true, false, false, false, false, true, false, false] rfl rfl rfl rfl (two_of HT_.out (by kernel_rfl)) (by decide) (by decide) (fun K hK => ?_) (fun K hK => ?_)
                                    · skip
                                      refine goes_ Try.func17 (by kernel_rfl) rfl #[.int .i64 13, .agg #[.int .i64 t246, .int .i64 t247, .string t248], .agg #[.int .i64 t265, .int .i64 t266, .string t267]] (by rfl) rfl rfl (by (try simp only [List.map_toArray, List.map_cons, List.map_nil]); first | done | rfl | (simp only [List.length_drop, List.length_take]; rfl)) ?_
                                      with_reducible refine (calc_Binary.print 13 t246 t247 t248 t265 t266 t267 t268 t269 t270 t271 _ A84.out).mono ?_
                                      rintro e w92 ⟨rfl, hb⟩
                                      refine ⟨_, rfl, ?_⟩
                                      have n0_ := Aside0.mk (blk_below (g := gb250) (o := .cells #[.int .i64 t246, .int .i64 t247, .string t248] 25 (0, 0)) (by (with_reducible repeat (first | refine blk_drewN ?_ _ | refine blk_drew ?_ | refine blk_alloc ?_ _)); exact BK250.out) hb)
                                      have n1_ := Aside0.mk (blk_below (g := gb261) (o := .cells #[.int .i64 t257, .int .i64 t258, .string t259] 25 (0, 0)) (by (with_reducible repeat (first | refine blk_drewN ?_ _ | refine blk_drew ?_ | refine blk_alloc ?_ _)); exact BK261.out) hb)
                                      have n2_ := Aside0.mk (below_step (by repeat (first | (with_reducible first | exact HB.out | apply below_alloc | apply pw_below_drewN | apply below_drew1 | refine below_set ?_ GE250.out | refine below_set ?_ GE261.out) | exact HB.out)) hb)
                                      clear BK250
                                      clear BK261
                                      clear HB
                                      have BK250 := n0_
                                      have BK261 := n1_
                                      have HB := n2_
                                      clear n0_ n1_ n2_
                                      (try clear hb)
                                      (try clear hb2)
                                      (try clear hk)
                                      (try clear hi)
                                      refine hK.out _ _ ⟨(blk_cell BK250.out 0).trans rfl, (blk_cell BK250.out 1).trans rfl, (blk_cell BK250.out 2).trans rfl⟩ (fun hHeld => ?_)
                                      clear hK K
                                      refine norm_ (a' := ?_) ?_ ?_
                                      rotate_left
                                      · show Act.put _ (some 97) _ = _
                                        simp only [Act.put, List.setIfInBounds_toArray, List.set_cons_zero, List.set_cons_succ, i64_w, i32_w]
                                        rfl
                                      refine pure_ (i := 4) (N := some 93) (v := ?_) (a' := ?_) #[true, true, true, true, true, false, false, false, false, false] rfl rfl (any_of HT_.out (by kernel_rfl)) (fun _ _ _ h => h) (Or.inl ⟨by rfl, ?_⟩) ?_ ?_
                                      rotate_left
                                      · intro w'
                                        go_simp
                                        with_reducible rfl
                                      rotate_left
                                      · simp only [Act.put, List.setIfInBounds_toArray, List.set_cons_zero, List.set_cons_succ, i64_w, i32_w]
                                        rfl
                                      refine pure_ (i := 5) (N := some 98) (v := ?_) (a' := ?_) #[true, true, true, true, true, true, false, false, false, false] rfl rfl (any_of HT_.out (by kernel_rfl)) (fun _ _ _ h => h) (Or.inl ⟨by rfl, ?_⟩) ?_ ?_
                                      rotate_left
                                      · intro w'
                                        go_simp
                                        with_reducible rfl
                                      rotate_left
                                      · simp only [Act.put, List.setIfInBounds_toArray, List.set_cons_zero, List.set_cons_succ, i64_w, i32_w]
                                        rfl
                                      refine pure_ (i := 6) (N := some 99) (v := ?_) (a' := ?_) #[true, true, true, true, true, true, true, false, false, false] rfl rfl (any_of HT_.out (by kernel_rfl)) (fun _ _ _ h => h) (Or.inl ⟨by rfl, ?_⟩) ?_ ?_
                                      rotate_left
                                      · intro w'
                                        go_simp
                                        with_reducible rfl
                                      rotate_left
                                      · simp only [Act.put, List.setIfInBounds_toArray, List.set_cons_zero, List.set_cons_succ, i64_w, i32_w]
                                        rfl
                                      refine one_ (i := 7) (N := some 11) #[true, true, true, true, true, true, true, true, false, false] rfl rfl (one_of HT_.out (by kernel_rfl)) (by decide) (fun K hK => ?_)
                                      refine box_step ?hg (N := 11) ?hd (cs := #[.int .i64 0, .int .i64 0, .string (⟨#[]⟩ : ByteArray)]) (t := 25) ?hr ?_; (case hd => rfl); (case hg => rfl); (case hr => first | (go_simp; done) | (go_simp; rfl))
                                      intro gb272 hg w93 hbox hb
                                      have n0_ := Aside0.mk (blk_below (g := gb250) (o := .cells #[.int .i64 t246, .int .i64 t247, .string t248] 25 (0, 0)) (by (with_reducible repeat (first | refine blk_drewN ?_ _ | refine blk_drew ?_ | refine blk_alloc ?_ _)); exact BK250.out) hb)
                                      have n1_ := Aside0.mk (blk_below (g := gb261) (o := .cells #[.int .i64 t257, .int .i64 t258, .string t259] 25 (0, 0)) (by (with_reducible repeat (first | refine blk_drewN ?_ _ | refine blk_drew ?_ | refine blk_alloc ?_ _)); exact BK261.out) hb)
                                      have n2_ := Aside0.mk (below_step (by repeat (first | (with_reducible first | exact HB.out | apply below_alloc | apply pw_below_drewN | apply below_drew1 | refine below_set ?_ GE250.out | refine below_set ?_ GE261.out) | exact HB.out)) hb)
                                      have n3_ := Aside0.mk (hbox)
                                      have n4_ := Aside0.mk ((by rw [hg]; exact (below_size (by repeat (first | (with_reducible first | exact HB.out | apply below_alloc | apply pw_below_drewN | apply below_drew1 | refine below_set ?_ GE250.out | refine below_set ?_ GE261.out) | exact HB.out))) : w.heap.size ≤ gb272))
                                      have n5_ := Aside0.mk ((by rw [hg]; exact (below_size (by repeat (first | (with_reducible first | exact HB.out | apply below_alloc | apply pw_below_drewN | apply below_drew1 | refine below_set ?_ GE250.out | refine below_set ?_ GE261.out) | exact HB.out))) : w.heap.size ≤ gb272))
                                      have n6_ := Aside0.mk ((by rw [hg]; exact Nat.ne_of_lt (blk_lt (g := gb250) (o := .cells #[.int .i64 t246, .int .i64 t247, .string t248] 25 (0, 0)) (by (with_reducible repeat (first | refine blk_drewN ?_ _ | refine blk_drew ?_ | refine blk_alloc ?_ _)); exact BK250.out)) : gb250 ≠ gb272))
                                      have n7_ := Aside0.mk ((by rw [hg]; exact Nat.ne_of_gt (blk_lt (g := gb250) (o := .cells #[.int .i64 t246, .int .i64 t247, .string t248] 25 (0, 0)) (by (with_reducible repeat (first | refine blk_drewN ?_ _ | refine blk_drew ?_ | refine blk_alloc ?_ _)); exact BK250.out)) : gb272 ≠ gb250))
                                      have n8_ := Aside0.mk ((by rw [hg]; exact Nat.ne_of_lt (blk_lt (g := gb261) (o := .cells #[.int .i64 t257, .int .i64 t258, .string t259] 25 (0, 0)) (by (with_reducible repeat (first | refine blk_drewN ?_ _ | refine blk_drew ?_ | refine blk_alloc ?_ _)); exact BK261.out)) : gb261 ≠ gb272))
                                      have n9_ := Aside0.mk ((by rw [hg]; exact Nat.ne_of_gt (blk_lt (g := gb261) (o := .cells #[.int .i64 t257, .int .i64 t258, .string t259] 25 (0, 0)) (by (with_reducible repeat (first | refine blk_drewN ?_ _ | refine blk_drew ?_ | refine blk_alloc ?_ _)); exact BK261.out)) : gb272 ≠ gb261))
                                      clear BK250
                                      clear BK261
                                      clear HB
                                      have BK250 := n0_
                                      have BK261 := n1_
                                      have HB := n2_
                                      have BK272 := n3_
                                      have GW272 := n4_
                                      have GE272 := n5_
                                      have NB250_272 := n6_
                                      have NB272_250 := n7_
                                      have NB261_272 := n8_
                                      have NB272_261 := n9_
                                      clear n0_ n1_ n2_ n3_ n4_ n5_ n6_ n7_ n8_ n9_
                                      clear hb hbox hg
                                      refine hK.out _ _ ⟨(blk_cell BK250.out 0).trans rfl, (blk_cell BK250.out 1).trans rfl, (blk_cell BK250.out 2).trans rfl⟩ (fun hHeld => ?_)
                                      clear hK K
                                      refine norm_ (a' := ?_) ?_ ?_
                                      rotate_left
                                      · show Act.put _ (some 11) _ = _
                                        simp only [Act.put, List.setIfInBounds_toArray, List.set_cons_zero, List.set_cons_succ, i64_w, i32_w]
                                        rfl
                                      exact norm_ (by simp only [putAll, Act.put, List.setIfInBounds_toArray, List.set_cons_zero, List.set_cons_succ]) (hCont (gb272) _ ⟨hHeld, (by (with_reducible repeat (first | refine blk_drewN ?_ _ | refine blk_drew ?_ | refine blk_alloc ?_ _)); exact BK250.out), (by (with_reducible repeat (first | refine blk_drewN ?_ _ | refine blk_drew ?_ | refine blk_alloc ?_ _)); exact BK261.out), (by (with_reducible repeat (first | refine blk_drewN ?_ _ | refine blk_drew ?_ | refine blk_alloc ?_ _)); exact BK272.out), GW272.out, GE272.out, NB250_272.out, NB272_250.out, NB261_272.out, NB272_261.out, (by repeat (first | (with_reducible first | exact HB.out | apply below_alloc | apply pw_below_drewN | apply below_drew1 | refine below_set ?_ GE250.out | refine below_set ?_ GE261.out | refine below_set ?_ GE272.out) | exact HB.out))⟩)
                                    · skip
                                      refine box_step ?hg (N := 11) ?hd (cs := #[.int .i64 0, .int .i64 0, .string (⟨#[]⟩ : ByteArray)]) (t := 25) ?hr ?_; (case hd => rfl); (case hg => rfl); (case hr => first | (go_simp; done) | (go_simp; rfl))
                                      intro gb272 hg w92 hbox hb
                                      have n0_ := Aside0.mk (blk_below (g := gb250) (o := .cells #[.int .i64 t246, .int .i64 t247, .string t248] 25 (0, 0)) (by (with_reducible repeat (first | refine blk_drewN ?_ _ | refine blk_drew ?_ | refine blk_alloc ?_ _)); exact BK250.out) hb)
                                      have n1_ := Aside0.mk (blk_below (g := gb261) (o := .cells #[.int .i64 t257, .int .i64 t258, .string t259] 25 (0, 0)) (by (with_reducible repeat (first | refine blk_drewN ?_ _ | refine blk_drew ?_ | refine blk_alloc ?_ _)); exact BK261.out) hb)
                                      have n2_ := Aside0.mk (below_step (by repeat (first | (with_reducible first | exact HB.out | apply below_alloc | apply pw_below_drewN | apply below_drew1 | refine below_set ?_ GE250.out | refine below_set ?_ GE261.out) | exact HB.out)) hb)
                                      have n3_ := Aside0.mk (hbox)
                                      have n4_ := Aside0.mk ((by rw [hg]; exact (below_size (by repeat (first | (with_reducible first | exact HB.out | apply below_alloc | apply pw_below_drewN | apply below_drew1 | refine below_set ?_ GE250.out | refine below_set ?_ GE261.out) | exact HB.out))) : w.heap.size ≤ gb272))
                                      have n5_ := Aside0.mk ((by rw [hg]; exact (below_size (by repeat (first | (with_reducible first | exact HB.out | apply below_alloc | apply pw_below_drewN | apply below_drew1 | refine below_set ?_ GE250.out | refine below_set ?_ GE261.out) | exact HB.out))) : w.heap.size ≤ gb272))
                                      have n6_ := Aside0.mk ((by rw [hg]; exact Nat.ne_of_lt (blk_lt (g := gb250) (o := .cells #[.int .i64 t246, .int .i64 t247, .string t248] 25 (0, 0)) (by (with_reducible repeat (first | refine blk_drewN ?_ _ | refine blk_drew ?_ | refine blk_alloc ?_ _)); exact BK250.out)) : gb250 ≠ gb272))
                                      have n7_ := Aside0.mk ((by rw [hg]; exact Nat.ne_of_gt (blk_lt (g := gb250) (o := .cells #[.int .i64 t246, .int .i64 t247, .string t248] 25 (0, 0)) (by (with_reducible repeat (first | refine blk_drewN ?_ _ | refine blk_drew ?_ | refine blk_alloc ?_ _)); exact BK250.out)) : gb272 ≠ gb250))
                                      have n8_ := Aside0.mk ((by rw [hg]; exact Nat.ne_of_lt (blk_lt (g := gb261) (o := .cells #[.int .i64 t257, .int .i64 t258, .string t259] 25 (0, 0)) (by (with_reducible repeat (first | refine blk_drewN ?_ _ | refine blk_drew ?_ | refine blk_alloc ?_ _)); exact BK261.out)) : gb261 ≠ gb272))
                                      have n9_ := Aside0.mk ((by rw [hg]; exact Nat.ne_of_gt (blk_lt (g := gb261) (o := .cells #[.int .i64 t257, .int .i64 t258, .string t259] 25 (0, 0)) (by (with_reducible repeat (first | refine blk_drewN ?_ _ | refine blk_drew ?_ | refine blk_alloc ?_ _)); exact BK261.out)) : gb272 ≠ gb261))
                                      clear BK250
                                      clear BK261
                                      clear HB
                                      have BK250 := n0_
                                      have BK261 := n1_
                                      have HB := n2_
                                      have BK272 := n3_
                                      have GW272 := n4_
                                      have GE272 := n5_
                                      have NB250_272 := n6_
                                      have NB272_250 := n7_
                                      have NB261_272 := n8_
                                      have NB272_261 := n9_
                                      clear n0_ n1_ n2_ n3_ n4_ n5_ n6_ n7_ n8_ n9_
                                      clear hb hbox hg
                                      refine hK.out _ _ ⟨(blk_cell BK250.out 0).trans rfl, (blk_cell BK250.out 1).trans rfl, (blk_cell BK250.out 2).trans rfl⟩ (fun hHeld => ?_)
                                      clear hK K
                                      refine norm_ (a' := ?_) ?_ ?_
                                      rotate_left
                                      · show Act.put _ (some 11) _ = _
                                        simp only [Act.put, List.setIfInBounds_toArray, List.set_cons_zero, List.set_cons_succ, i64_w, i32_w]
                                        rfl
                                      refine one_ (i := 3) (N := some 97) #[true, true, true, true, false, false, false, true, false, false] rfl rfl (one_of HT_.out (by kernel_rfl)) (by decide) (fun K hK => ?_)
                                      refine goes_ Try.func17 (by kernel_rfl) rfl #[.int .i64 13, .agg #[.int .i64 t246, .int .i64 t247, .string t248], .agg #[.int .i64 t265, .int .i64 t266, .string t267]] (by rfl) rfl rfl (by (try simp only [List.map_toArray, List.map_cons, List.map_nil]); first | done | rfl | (simp only [List.length_drop, List.length_take]; rfl)) ?_
                                      with_reducible refine (calc_Binary.print 13 t246 t247 t248 t265 t266 t267 t268 t269 t270 t271 _ A84.out).mono ?_
                                      rintro e w93 ⟨rfl, hb⟩
                                      refine ⟨_, rfl, ?_⟩
                                      have n0_ := Aside0.mk (blk_below (g := gb250) (o := .cells #[.int .i64 t246, .int .i64 t247, .string t248] 25 (0, 0)) (by (with_reducible repeat (first | refine blk_drewN ?_ _ | refine blk_drew ?_ | refine blk_alloc ?_ _)); exact BK250.out) hb)
                                      have n1_ := Aside0.mk (blk_below (g := gb261) (o := .cells #[.int .i64 t257, .int .i64 t258, .string t259] 25 (0, 0)) (by (with_reducible repeat (first | refine blk_drewN ?_ _ | refine blk_drew ?_ | refine blk_alloc ?_ _)); exact BK261.out) hb)
                                      have n2_ := Aside0.mk (blk_below (g := gb272) (o := .cells #[.int .i64 0, .int .i64 0, .string (⟨#[]⟩ : ByteArray)] 25 (0, 0)) (by (with_reducible repeat (first | refine blk_drewN ?_ _ | refine blk_drew ?_ | refine blk_alloc ?_ _)); exact BK272.out) hb)
                                      have n3_ := Aside0.mk (below_step (by repeat (first | (with_reducible first | exact HB.out | apply below_alloc | apply pw_below_drewN | apply below_drew1 | refine below_set ?_ GE250.out | refine below_set ?_ GE261.out | refine below_set ?_ GE272.out) | exact HB.out)) hb)
                                      clear BK250
                                      clear BK261
                                      clear BK272
                                      clear HB
                                      have BK250 := n0_
                                      have BK261 := n1_
                                      have BK272 := n2_
                                      have HB := n3_
                                      clear n0_ n1_ n2_ n3_
                                      (try clear hb)
                                      (try clear hb2)
                                      (try clear hk)
                                      (try clear hi)
                                      refine hK.out _ _ ⟨(blk_cell BK250.out 0).trans rfl, (blk_cell BK250.out 1).trans rfl, (blk_cell BK250.out 2).trans rfl⟩ (fun hHeld => ?_)
                                      clear hK K
                                      refine norm_ (a' := ?_) ?_ ?_
                                      rotate_left
                                      · show Act.put _ (some 97) _ = _
                                        simp only [Act.put, List.setIfInBounds_toArray, List.set_cons_zero, List.set_cons_succ, i64_w, i32_w]
                                        rfl
                                      refine pure_ (i := 4) (N := some 93) (v := ?_) (a' := ?_) #[true, true, true, true, true, false, false, true, false, false] rfl rfl (any_of HT_.out (by kernel_rfl)) (fun _ _ _ h => h) (Or.inl ⟨by rfl, ?_⟩) ?_ ?_
                                      rotate_left
                                      · intro w'
                                        go_simp
                                        with_reducible rfl
                                      rotate_left
                                      · simp only [Act.put, List.setIfInBounds_toArray, List.set_cons_zero, List.set_cons_succ, i64_w, i32_w]
                                        rfl
                                      refine pure_ (i := 5) (N := some 98) (v := ?_) (a' := ?_) #[true, true, true, true, true, true, false, true, false, false] rfl rfl (any_of HT_.out (by kernel_rfl)) (fun _ _ _ h => h) (Or.inl ⟨by rfl, ?_⟩) ?_ ?_
                                      rotate_left
                                      · intro w'
                                        go_simp
                                        with_reducible rfl
                                      rotate_left
                                      · simp only [Act.put, List.setIfInBounds_toArray, List.set_cons_zero, List.set_cons_succ, i64_w, i32_w]
                                        rfl
                                      refine pure_ (i := 6) (N := some 99) (v := ?_) (a' := ?_) #[true, true, true, true, true, true, true, true, false, false] rfl rfl (any_of HT_.out (by kernel_rfl)) (fun _ _ _ h => h) (Or.inl ⟨by rfl, ?_⟩) ?_ ?_
                                      rotate_left
                                      · intro w'
                                        go_simp
                                        with_reducible rfl
                                      rotate_left
                                      · simp only [Act.put, List.setIfInBounds_toArray, List.set_cons_zero, List.set_cons_succ, i64_w, i32_w]
                                        rfl
                                      exact norm_ (by simp only [putAll, Act.put, List.setIfInBounds_toArray, List.set_cons_zero, List.set_cons_succ]) (hCont (gb272) _ ⟨hHeld, (by (with_reducible repeat (first | refine blk_drewN ?_ _ | refine blk_drew ?_ | refine blk_alloc ?_ _)); exact BK250.out), (by (with_reducible repeat (first | refine blk_drewN ?_ _ | refine blk_drew ?_ | refine blk_alloc ?_ _)); exact BK261.out), (by (with_reducible repeat (first | refine blk_drewN ?_ _ | refine blk_drew ?_ | refine blk_alloc ?_ _)); exact BK272.out), GW272.out, GE272.out, NB250_272.out, NB272_250.out, NB261_272.out, NB272_261.out, (by repeat (first | (with_reducible first | exact HB.out | apply below_alloc | apply pw_below_drewN | apply below_drew1 | refine below_set ?_ GE250.out | refine below_set ?_ GE261.out | refine below_set ?_ GE272.out) | exact HB.out))⟩)
                                  · skip
                                    refine box_step ?hg (N := 11) ?hd (cs := #[.int .i64 0, .int .i64 0, .string (⟨#[]⟩ : ByteArray)]) (t := 25) ?hr ?_; (case hd => rfl); (case hg => rfl); (case hr => first | (go_simp; done) | (go_simp; rfl))
                                    intro gb272 hg w91 hbox hb
                                    have n0_ := Aside0.mk (blk_below (g := gb250) (o := .cells #[.int .i64 t246, .int .i64 t247, .string t248] 25 (0, 0)) (by (with_reducible repeat (first | refine blk_drewN ?_ _ | refine blk_drew ?_ | refine blk_alloc ?_ _)); exact BK250.out) hb)
                                    have n1_ := Aside0.mk (blk_below (g := gb261) (o := .cells #[.int .i64 t257, .int .i64 t258, .string t259] 25 (0, 0)) (by (with_reducible repeat (first | refine blk_drewN ?_ _ | refine blk_drew ?_ | refine blk_alloc ?_ _)); exact BK261.out) hb)
                                    have n2_ := Aside0.mk (below_step (by repeat (first | (with_reducible first | exact HB.out | apply below_alloc | apply pw_below_drewN | apply below_drew1 | refine below_set ?_ GE250.out | refine below_set ?_ GE261.out) | exact HB.out)) hb)
                                    have n3_ := Aside0.mk (hbox)
                                    have n4_ := Aside0.mk ((by rw [hg]; exact (below_size (by repeat (first | (with_reducible first | exact HB.out | apply below_alloc | apply pw_below_drewN | apply below_drew1 | refine below_set ?_ GE250.out | refine below_set ?_ GE261.out) | exact HB.out))) : w.heap.size ≤ gb272))
                                    have n5_ := Aside0.mk ((by rw [hg]; exact (below_size (by repeat (first | (with_reducible first | exact HB.out | apply below_alloc | apply pw_below_drewN | apply below_drew1 | refine below_set ?_ GE250.out | refine below_set ?_ GE261.out) | exact HB.out))) : w.heap.size ≤ gb272))
                                    have n6_ := Aside0.mk ((by rw [hg]; exact Nat.ne_of_lt (blk_lt (g := gb250) (o := .cells #[.int .i64 t246, .int .i64 t247, .string t248] 25 (0, 0)) (by (with_reducible repeat (first | refine blk_drewN ?_ _ | refine blk_drew ?_ | refine blk_alloc ?_ _)); exact BK250.out)) : gb250 ≠ gb272))
                                    have n7_ := Aside0.mk ((by rw [hg]; exact Nat.ne_of_gt (blk_lt (g := gb250) (o := .cells #[.int .i64 t246, .int .i64 t247, .string t248] 25 (0, 0)) (by (with_reducible repeat (first | refine blk_drewN ?_ _ | refine blk_drew ?_ | refine blk_alloc ?_ _)); exact BK250.out)) : gb272 ≠ gb250))
                                    have n8_ := Aside0.mk ((by rw [hg]; exact Nat.ne_of_lt (blk_lt (g := gb261) (o := .cells #[.int .i64 t257, .int .i64 t258, .string t259] 25 (0, 0)) (by (with_reducible repeat (first | refine blk_drewN ?_ _ | refine blk_drew ?_ | refine blk_alloc ?_ _)); exact BK261.out)) : gb261 ≠ gb272))
                                    have n9_ := Aside0.mk ((by rw [hg]; exact Nat.ne_of_gt (blk_lt (g := gb261) (o := .cells #[.int .i64 t257, .int .i64 t258, .string t259] 25 (0, 0)) (by (with_reducible repeat (first | refine blk_drewN ?_ _ | refine blk_drew ?_ | refine blk_alloc ?_ _)); exact BK261.out)) : gb272 ≠ gb261))
                                    clear BK250
                                    clear BK261
                                    clear HB
                                    have BK250 := n0_
                                    have BK261 := n1_
                                    have HB := n2_
                                    have BK272 := n3_
                                    have GW272 := n4_
                                    have GE272 := n5_
                                    have NB250_272 := n6_
                                    have NB272_250 := n7_
                                    have NB261_272 := n8_
                                    have NB272_261 := n9_
                                    clear n0_ n1_ n2_ n3_ n4_ n5_ n6_ n7_ n8_ n9_
                                    clear hb hbox hg
                                    refine hK.out _ _ ⟨(blk_cell BK250.out 0).trans rfl, (blk_cell BK250.out 1).trans rfl, (blk_cell BK250.out 2).trans rfl⟩ (fun hHeld => ?_)
                                    clear hK K
                                    refine norm_ (a' := ?_) ?_ ?_
                                    rotate_left
                                    · show Act.put _ (some 11) _ = _
                                      simp only [Act.put, List.setIfInBounds_toArray, List.set_cons_zero, List.set_cons_succ, i64_w, i32_w]
                                      rfl
                                    refine one_ (i := 2) (N := some 96) #[true, true, true, false, false, false, false, true, false, false] rfl rfl (one_of HT_.out (by kernel_rfl)) (by decide) (fun K hK => ?_)
                                    refine goes_ Try.func24 (by kernel_rfl) rfl #[.int .i64 a1] (by rfl) rfl rfl (by (try simp only [List.map_toArray, List.map_cons, List.map_nil]); first | done | rfl | (simp only [List.length_drop, List.length_take]; rfl)) ?_
                                    with_reducible refine (quarrylaw02_num.calls a1 t265 t266 t267 _ A83.out).mono ?_
                                    rintro e w92 ⟨rfl, hb⟩
                                    refine ⟨_, rfl, ?_⟩
                                    have n0_ := Aside0.mk (blk_below (g := gb250) (o := .cells #[.int .i64 t246, .int .i64 t247, .string t248] 25 (0, 0)) (by (with_reducible repeat (first | refine blk_drewN ?_ _ | refine blk_drew ?_ | refine blk_alloc ?_ _)); exact BK250.out) hb)
                                    have n1_ := Aside0.mk (blk_below (g := gb261) (o := .cells #[.int .i64 t257, .int .i64 t258, .string t259] 25 (0, 0)) (by (with_reducible repeat (first | refine blk_drewN ?_ _ | refine blk_drew ?_ | refine blk_alloc ?_ _)); exact BK261.out) hb)
                                    have n2_ := Aside0.mk (blk_below (g := gb272) (o := .cells #[.int .i64 0, .int .i64 0, .string (⟨#[]⟩ : ByteArray)] 25 (0, 0)) (by (with_reducible repeat (first | refine blk_drewN ?_ _ | refine blk_drew ?_ | refine blk_alloc ?_ _)); exact BK272.out) hb)
                                    have n3_ := Aside0.mk (below_step (by repeat (first | (with_reducible first | exact HB.out | apply below_alloc | apply pw_below_drewN | apply below_drew1 | refine below_set ?_ GE250.out | refine below_set ?_ GE261.out | refine below_set ?_ GE272.out) | exact HB.out)) hb)
                                    clear BK250
                                    clear BK261
                                    clear BK272
                                    clear HB
                                    have BK250 := n0_
                                    have BK261 := n1_
                                    have BK272 := n2_
                                    have HB := n3_
                                    clear n0_ n1_ n2_ n3_
                                    (try clear hb)
                                    (try clear hb2)
                                    (try clear hk)
                                    (try clear hi)
                                    refine hK.out _ _ ⟨(blk_cell BK250.out 0).trans rfl, (blk_cell BK250.out 1).trans rfl, (blk_cell BK250.out 2).trans rfl⟩ (fun hHeld => ?_)
                                    clear hK K
                                    refine norm_ (a' := ?_) ?_ ?_
                                    rotate_left
                                    · show Act.put _ (some 96) _ = _
                                      simp only [Act.put, List.setIfInBounds_toArray, List.set_cons_zero, List.set_cons_succ, i64_w, i32_w]
                                      rfl
                                    refine one_ (i := 3) (N := some 97) #[true, true, true, true, false, false, false, true, false, false] rfl rfl (one_of HT_.out (by kernel_rfl)) (by decide) (fun K hK => ?_)
                                    refine goes_ Try.func17 (by kernel_rfl) rfl #[.int .i64 13, .agg #[.int .i64 t246, .int .i64 t247, .string t248], .agg #[.int .i64 t265, .int .i64 t266, .string t267]] (by rfl) rfl rfl (by (try simp only [List.map_toArray, List.map_cons, List.map_nil]); first | done | rfl | (simp only [List.length_drop, List.length_take]; rfl)) ?_
                                    with_reducible refine (calc_Binary.print 13 t246 t247 t248 t265 t266 t267 t268 t269 t270 t271 _ A84.out).mono ?_
                                    rintro e w93 ⟨rfl, hb⟩
                                    refine ⟨_, rfl, ?_⟩
                                    have n0_ := Aside0.mk (blk_below (g := gb250) (o := .cells #[.int .i64 t246, .int .i64 t247, .string t248] 25 (0, 0)) (by (with_reducible repeat (first | refine blk_drewN ?_ _ | refine blk_drew ?_ | refine blk_alloc ?_ _)); exact BK250.out) hb)
                                    have n1_ := Aside0.mk (blk_below (g := gb261) (o := .cells #[.int .i64 t257, .int .i64 t258, .string t259] 25 (0, 0)) (by (with_reducible repeat (first | refine blk_drewN ?_ _ | refine blk_drew ?_ | refine blk_alloc ?_ _)); exact BK261.out) hb)
                                    have n2_ := Aside0.mk (blk_below (g := gb272) (o := .cells #[.int .i64 0, .int .i64 0, .string (⟨#[]⟩ : ByteArray)] 25 (0, 0)) (by (with_reducible repeat (first | refine blk_drewN ?_ _ | refine blk_drew ?_ | refine blk_alloc ?_ _)); exact BK272.out) hb)
                                    have n3_ := Aside0.mk (below_step (by repeat (first | (with_reducible first | exact HB.out | apply below_alloc | apply pw_below_drewN | apply below_drew1 | refine below_set ?_ GE250.out | refine below_set ?_ GE261.out | refine below_set ?_ GE272.out) | exact HB.out)) hb)
                                    clear BK250
                                    clear BK261
                                    clear BK272
                                    clear HB
                                    have BK250 := n0_
                                    have BK261 := n1_
                                    have BK272 := n2_
                                    have HB := n3_
                                    clear n0_ n1_ n2_ n3_
                                    (try clear hb)
                                    (try clear hb2)
                                    (try clear hk)
                                    (try clear hi)
                                    refine hK.out _ _ ⟨(blk_cell BK250.out 0).trans rfl, (blk_cell BK250.out 1).trans rfl, (blk_cell BK250.out 2).trans rfl⟩ (fun hHeld => ?_)
                                    clear hK K
                                    refine norm_ (a' := ?_) ?_ ?_
                                    rotate_left
                                    · show Act.put _ (some 97) _ = _
                                      simp only [Act.put, List.setIfInBounds_toArray, List.set_cons_zero, List.set_cons_succ, i64_w, i32_w]
                                      rfl
                                    refine pure_ (i := 4) (N := some 93) (v := ?_) (a' := ?_) #[true, true, true, true, true, false, false, true, false, false] rfl rfl (any_of HT_.out (by kernel_rfl)) (fun _ _ _ h => h) (Or.inl ⟨by rfl, ?_⟩) ?_ ?_
                                    rotate_left
                                    · intro w'
                                      go_simp
                                      with_reducible rfl
                                    rotate_left
                                    · simp only [Act.put, List.setIfInBounds_toArray, List.set_cons_zero, List.set_cons_succ, i64_w, i32_w]
                                      rfl
                                    refine pure_ (i := 5) (N := some 98) (v := ?_) (a' := ?_) #[true, true, true, true, true, true, false, true, false, false] rfl rfl (any_of HT_.out (by kernel_rfl)) (fun _ _ _ h => h) (Or.inl ⟨by rfl, ?_⟩) ?_ ?_
                                    rotate_left
                                    · intro w'
                                      go_simp
                                      with_reducible rfl
                                    rotate_left
                                    · simp only [Act.put, List.setIfInBounds_toArray, List.set_cons_zero, List.set_cons_succ, i64_w, i32_w]
                                      rfl
                                    refine pure_ (i := 6) (N := some 99) (v := ?_) (a' := ?_) #[true, true, true, true, true, true, true, true, false, false] rfl rfl (any_of HT_.out (by kernel_rfl)) (fun _ _ _ h => h) (Or.inl ⟨by rfl, ?_⟩) ?_ ?_
                                    rotate_left
                                    · intro w'
                                      go_simp
                                      with_reducible rfl
                                    rotate_left
                                    · simp only [Act.put, List.setIfInBounds_toArray, List.set_cons_zero, List.set_cons_succ, i64_w, i32_w]
                                      rfl
                                    exact norm_ (by simp only [putAll, Act.put, List.setIfInBounds_toArray, List.set_cons_zero, List.set_cons_succ]) (hCont (gb272) _ ⟨hHeld, (by (with_reducible repeat (first | refine blk_drewN ?_ _ | refine blk_drew ?_ | refine blk_alloc ?_ _)); exact BK250.out), (by (with_reducible repeat (first | refine blk_drewN ?_ _ | refine blk_drew ?_ | refine blk_alloc ?_ _)); exact BK261.out), (by (with_reducible repeat (first | refine blk_drewN ?_ _ | refine blk_drew ?_ | refine blk_alloc ?_ _)); exact BK272.out), GW272.out, GE272.out, NB250_272.out, NB272_250.out, NB261_272.out, NB272_261.out, (by repeat (first | (with_reducible first | exact HB.out | apply below_alloc | apply pw_below_drewN | apply below_drew1 | refine below_set ?_ GE250.out | refine below_set ?_ GE261.out | refine below_set ?_ GE272.out) | exact HB.out))⟩)
                                rintro gb272 w94 ⟨hS_, h0_, h1_, h2_, h3_, h4_, h5_, h6_, h7_, h8_, h9_⟩
                                have n0_ : Aside0 (w94.heap[gb250]? = some (.cells #[.int .i64 t246, .int .i64 t247, .string t248] 25 (0, 0))) := ⟨h0_⟩
                                have n1_ : Aside0 (w94.heap[gb261]? = some (.cells #[.int .i64 t257, .int .i64 t258, .string t259] 25 (0, 0))) := ⟨h1_⟩
                                have n2_ : Aside0 (w94.heap[gb272]? = some (.cells #[.int .i64 0, .int .i64 0, .string (⟨#[]⟩ : ByteArray)] 25 (0, 0))) := ⟨h2_⟩
                                have n3_ : Aside0 (w.heap.size ≤ gb272) := ⟨h3_⟩
                                have n4_ : Aside0 (w.heap.size ≤ gb272) := ⟨h4_⟩
                                have n5_ : Aside0 (gb250 ≠ gb272) := ⟨h5_⟩
                                have n6_ : Aside0 (gb272 ≠ gb250) := ⟨h6_⟩
                                have n7_ : Aside0 (gb261 ≠ gb272) := ⟨h7_⟩
                                have n8_ : Aside0 (gb272 ≠ gb261) := ⟨h8_⟩
                                have n9_ : Aside0 (Below w.heap.size w w94) := ⟨h9_⟩
                                clear BK250
                                clear BK261
                                clear HB
                                clear h0_ h1_ h2_ h3_ h4_ h5_ h6_ h7_ h8_ h9_
                                have BK250 := n0_
                                have BK261 := n1_
                                have BK272 := n2_
                                have GW272 := n3_
                                have GE272 := n4_
                                have NB250_272 := n5_
                                have NB272_250 := n6_
                                have NB261_272 := n7_
                                have NB272_261 := n8_
                                have HB := n9_
                                clear n0_ n1_ n2_ n3_ n4_ n5_ n6_ n7_ n8_ n9_
                                have hHeld : w94.cell? ⟨gb250, 0, none⟩ = some (.int .i64 t246) ∧ w94.cell? ⟨gb250, 1, none⟩ = some (.int .i64 t247) ∧ w94.cell? ⟨gb250, 2, none⟩ = some (.string t248) := hS_
                                refine norm_ (a' := ?_) ?_ ?_
                                rotate_left
                                · simp only [putAll, Act.put, List.setIfInBounds_toArray, List.set_cons_zero, List.set_cons_succ]
                                  rfl
                                refine one_ (i := 8) (N := none) #[true, true, true, true, true, true, true, true, true, false] rfl rfl (one_of HT_.out (by kernel_rfl)) (by decide) (fun K hK => ?_)
                                have hs95 : w94.cell? ⟨gb272, 0, none⟩ = some (.int .i64 0) := (blk_cell BK272.out 0).trans rfl
                                have hfs95 := blk_frozen BK272.out 0
                                have hns95_0 := NB250_272.out
                                have hns95_1 := NB261_272.out
                                have hms95_0 := NB272_250.out
                                have hms95_1 := NB272_261.out
                                have hs96 : w94.cell? ⟨gb272, 1, none⟩ = some (.int .i64 0) := (blk_cell BK272.out 1).trans rfl
                                have hfs96 := blk_frozen BK272.out 1
                                have hns96_0 := NB250_272.out
                                have hns96_1 := NB261_272.out
                                have hms96_0 := NB272_250.out
                                have hms96_1 := NB272_261.out
                                have hs97 : w94.cell? ⟨gb272, 2, none⟩ = some (.string (⟨#[]⟩ : ByteArray)) := (blk_cell BK272.out 2).trans rfl
                                have hfs97 := blk_frozen BK272.out 2
                                have hns97_0 := NB250_272.out
                                have hns97_1 := NB261_272.out
                                have hms97_0 := NB272_250.out
                                have hms97_1 := NB272_261.out
                                refine skip_ (w1 := ?_) (by rfl) rfl ?_ ?_
                                rotate_left
                                · go_simp
                                  rfl
                                refine hK.out _ _ ⟨((cell_far (p := ⟨gb272, _, none⟩) NB250_272.out _).trans (((cell_far (p := ⟨gb272, _, none⟩) NB250_272.out _).trans (((cell_far (p := ⟨gb272, _, none⟩) NB250_272.out _).trans (hHeld.1)))))), ((cell_far (p := ⟨gb272, _, none⟩) NB250_272.out _).trans (((cell_far (p := ⟨gb272, _, none⟩) NB250_272.out _).trans (((cell_far (p := ⟨gb272, _, none⟩) NB250_272.out _).trans (hHeld.2.1)))))), ((cell_far (p := ⟨gb272, _, none⟩) NB250_272.out _).trans (((cell_far (p := ⟨gb272, _, none⟩) NB250_272.out _).trans (((cell_far (p := ⟨gb272, _, none⟩) NB250_272.out _).trans (hHeld.2.2))))))⟩ (fun hHeld => ?_)
                                clear hK K
                                refine pure_ (i := 9) (N := some 12) (v := ?_) (a' := ?_) #[true, true, true, true, true, true, true, true, true, true] rfl rfl (any_of HT_.out (by kernel_rfl)) (fun _ _ _ h => h) (Or.inl ⟨by rfl, ?_⟩) ?_ ?_
                                rotate_left
                                · intro w'
                                  go_simp
                                  with_reducible rfl
                                rotate_left
                                · simp only [Act.put, List.setIfInBounds_toArray, List.set_cons_zero, List.set_cons_succ, i64_w, i32_w]
                                  rfl
                                refine done_ (done_of HT_.out (by kernel_rfl)) ?_
                                have hnb98 := NB272_250.out
                                have hnc98 := NB250_272.out
                                have hnb99 := NB272_261.out
                                have hnc99 := NB261_272.out
                                have hcz100_0 : w94.cell? ⟨gb272, 0, none⟩ = some (.int .i64 0) := (blk_cell BK272.out 0).trans rfl
                                have hcz100_1 : w94.cell? ⟨gb272, 1, none⟩ = some (.int .i64 0) := (blk_cell BK272.out 1).trans rfl
                                have hcz100_2 : w94.cell? ⟨gb272, 2, none⟩ = some (.string (⟨#[]⟩ : ByteArray)) := (blk_cell BK272.out 2).trans rfl
                                have hfz100_0 := blk_frozen BK272.out 0
                                have hfz100_1 := blk_frozen BK272.out 1
                                have hfz100_2 := blk_frozen BK272.out 2
                                have hnb101 := NB261_250.out
                                have hnc101 := NB250_261.out
                                have hcz102_0 : w94.cell? ⟨gb261, 0, none⟩ = some (.int .i64 t257) := (blk_cell BK261.out 0).trans rfl
                                have hcz102_1 : w94.cell? ⟨gb261, 1, none⟩ = some (.int .i64 t258) := (blk_cell BK261.out 1).trans rfl
                                have hcz102_2 : w94.cell? ⟨gb261, 2, none⟩ = some (.string t259) := (blk_cell BK261.out 2).trans rfl
                                have hfz102_0 := blk_frozen BK261.out 0
                                have hfz102_1 := blk_frozen BK261.out 1
                                have hfz102_2 := blk_frozen BK261.out 2
                                try go_wp2_with (first | ((with_reducible refine gate_callee (f := 17) rfl ?_); refine goesL_ (some 103) rfl rfl Try.func17 (by kernel_rfl) rfl #[.int .i64 11, .agg #[.int .i64 t268, .int .i64 t269, .string t270], .agg #[.int .i64 t257, .int .i64 t258, .string t259]] rfl (by (try simp only [List.map_toArray, List.map_cons, List.map_nil]); first | done | rfl | (simp only [List.length_drop, List.length_take]; rfl)) ?_; (with_reducible refine (calc_Binary.print 11 t268 t269 t270 t257 t258 t259 t273 t274 t275 t276 _ A85.out).mono ?_); rintro e w103 ⟨rfl, hb⟩; refine ⟨_, rfl, ?_⟩; have n0_ := Aside0.mk (blk_below (g := gb250) (o := .cells #[.int .i64 t246, .int .i64 t247, .string t248] 25 (0, 0)) (by (with_reducible repeat (first | refine blk_drewN ?_ _ | refine blk_drew ?_ | refine blk_alloc ?_ _)); refine blk_far ?_ NB250_272.out _; (with_reducible repeat (first | refine blk_drewN ?_ _ | refine blk_drew ?_ | refine blk_alloc ?_ _)); refine blk_far ?_ NB250_272.out _; (with_reducible repeat (first | refine blk_drewN ?_ _ | refine blk_drew ?_ | refine blk_alloc ?_ _)); refine blk_far ?_ NB250_272.out _; (with_reducible repeat (first | refine blk_drewN ?_ _ | refine blk_drew ?_ | refine blk_alloc ?_ _)); exact BK250.out) hb); have n1_ := Aside0.mk (blk_below (g := gb261) (o := .cells #[.int .i64 t257, .int .i64 t258, .string t259] 25 (0, 0)) (by (with_reducible repeat (first | refine blk_drewN ?_ _ | refine blk_drew ?_ | refine blk_alloc ?_ _)); refine blk_far ?_ NB261_272.out _; (with_reducible repeat (first | refine blk_drewN ?_ _ | refine blk_drew ?_ | refine blk_alloc ?_ _)); refine blk_far ?_ NB261_272.out _; (with_reducible repeat (first | refine blk_drewN ?_ _ | refine blk_drew ?_ | refine blk_alloc ?_ _)); refine blk_far ?_ NB261_272.out _; (with_reducible repeat (first | refine blk_drewN ?_ _ | refine blk_drew ?_ | refine blk_alloc ?_ _)); exact BK261.out) hb); have n2_ := Aside0.mk (blk_below (g := gb272) (o := .cells #[.int .i64 t268, .int .i64 t269, .string t270] 25 (0, 0)) (by (with_reducible repeat (first | refine blk_drewN ?_ _ | refine blk_drew ?_ | refine blk_alloc ?_ _)); refine blk_put (cs := #[.int .i64 t268, .int .i64 t269, .string (⟨#[]⟩ : ByteArray)]) ?_ 2 _ rfl; (with_reducible repeat (first | refine blk_drewN ?_ _ | refine blk_drew ?_ | refine blk_alloc ?_ _)); refine blk_put (cs := #[.int .i64 t268, .int .i64 0, .string (⟨#[]⟩ : ByteArray)]) ?_ 1 _ rfl; (with_reducible repeat (first | refine blk_drewN ?_ _ | refine blk_drew ?_ | refine blk_alloc ?_ _)); refine blk_put (cs := #[.int .i64 0, .int .i64 0, .string (⟨#[]⟩ : ByteArray)]) ?_ 0 _ rfl; (with_reducible repeat (first | refine blk_drewN ?_ _ | refine blk_drew ?_ | refine blk_alloc ?_ _)); exact BK272.out) hb); have n3_ := Aside0.mk (below_step (by repeat (first | (with_reducible first | exact HB.out | apply below_alloc | apply pw_below_drewN | apply below_drew1 | refine below_set ?_ GE250.out | refine below_set ?_ GE261.out | refine below_set ?_ GE272.out) | exact HB.out)) hb); clear BK250; clear BK261; clear BK272; clear HB; have BK250 := n0_; have BK261 := n1_; have BK272 := n2_; have HB := n3_; clear n0_ n1_ n2_ n3_; (try clear hb); (try clear hb2); (try clear hk); (try clear hi)) | ((with_reducible refine gate_dst (N := 13) rfl ?_); refine box_event ?hg (N := 13) ?hd (cs := #[.int .i64 0, .int .i64 0, .string (⟨#[]⟩ : ByteArray)]) (t := 25) ?hr ?_; (case hd => rfl); (case hg => rfl); (case hr => first | (go_simp; done) | (go_simp; rfl)); intro gb277 hg w104 hbox hb; have n0_ := Aside0.mk (blk_below (g := gb250) (o := .cells #[.int .i64 t246, .int .i64 t247, .string t248] 25 (0, 0)) (by (with_reducible repeat (first | refine blk_drewN ?_ _ | refine blk_drew ?_ | refine blk_alloc ?_ _)); exact BK250.out) hb); have n1_ := Aside0.mk (blk_below (g := gb261) (o := .cells #[.int .i64 t257, .int .i64 t258, .string t259] 25 (0, 0)) (by (with_reducible repeat (first | refine blk_drewN ?_ _ | refine blk_drew ?_ | refine blk_alloc ?_ _)); exact BK261.out) hb); have n2_ := Aside0.mk (blk_below (g := gb272) (o := .cells #[.int .i64 t268, .int .i64 t269, .string t270] 25 (0, 0)) (by (with_reducible repeat (first | refine blk_drewN ?_ _ | refine blk_drew ?_ | refine blk_alloc ?_ _)); exact BK272.out) hb); have n3_ := Aside0.mk (below_step (by repeat (first | (with_reducible first | exact HB.out | apply below_alloc | apply pw_below_drewN | apply below_drew1 | refine below_set ?_ GE250.out | refine below_set ?_ GE261.out | refine below_set ?_ GE272.out) | exact HB.out)) hb); have n4_ := Aside0.mk (hbox); have n5_ := Aside0.mk ((by rw [hg]; exact (below_size (by repeat (first | (with_reducible first | exact HB.out | apply below_alloc | apply pw_below_drewN | apply below_drew1 | refine below_set ?_ GE250.out | refine below_set ?_ GE261.out | refine below_set ?_ GE272.out) | exact HB.out))) : w.heap.size ≤ gb277)); have n6_ := Aside0.mk ((by rw [hg]; exact (below_size (by repeat (first | (with_reducible first | exact HB.out | apply below_alloc | apply pw_below_drewN | apply below_drew1 | refine below_set ?_ GE250.out | refine below_set ?_ GE261.out | refine below_set ?_ GE272.out) | exact HB.out))) : w.heap.size ≤ gb277)); have n7_ := Aside0.mk ((by rw [hg]; exact Nat.ne_of_lt (blk_lt (g := gb250) (o := .cells #[.int .i64 t246, .int .i64 t247, .string t248] 25 (0, 0)) (by (with_reducible repeat (first | refine blk_drewN ?_ _ | refine blk_drew ?_ | refine blk_alloc ?_ _)); exact BK250.out)) : gb250 ≠ gb277)); have n8_ := Aside0.mk ((by rw [hg]; exact Nat.ne_of_gt (blk_lt (g := gb250) (o := .cells #[.int .i64 t246, .int .i64 t247, .string t248] 25 (0, 0)) (by (with_reducible repeat (first | refine blk_drewN ?_ _ | refine blk_drew ?_ | refine blk_alloc ?_ _)); exact BK250.out)) : gb277 ≠ gb250)); have n9_ := Aside0.mk ((by rw [hg]; exact Nat.ne_of_lt (blk_lt (g := gb261) (o := .cells #[.int .i64 t257, .int .i64 t258, .string t259] 25 (0, 0)) (by (with_reducible repeat (first | refine blk_drewN ?_ _ | refine blk_drew ?_ | refine blk_alloc ?_ _)); exact BK261.out)) : gb261 ≠ gb277)); have n10_ := Aside0.mk ((by rw [hg]; exact Nat.ne_of_gt (blk_lt (g := gb261) (o := .cells #[.int .i64 t257, .int .i64 t258, .string t259] 25 (0, 0)) (by (with_reducible repeat (first | refine blk_drewN ?_ _ | refine blk_drew ?_ | refine blk_alloc ?_ _)); exact BK261.out)) : gb277 ≠ gb261)); have n11_ := Aside0.mk ((by rw [hg]; exact Nat.ne_of_lt (blk_lt (g := gb272) (o := .cells #[.int .i64 t268, .int .i64 t269, .string t270] 25 (0, 0)) (by (with_reducible repeat (first | refine blk_drewN ?_ _ | refine blk_drew ?_ | refine blk_alloc ?_ _)); exact BK272.out)) : gb272 ≠ gb277)); have n12_ := Aside0.mk ((by rw [hg]; exact Nat.ne_of_gt (blk_lt (g := gb272) (o := .cells #[.int .i64 t268, .int .i64 t269, .string t270] 25 (0, 0)) (by (with_reducible repeat (first | refine blk_drewN ?_ _ | refine blk_drew ?_ | refine blk_alloc ?_ _)); exact BK272.out)) : gb277 ≠ gb272)); clear BK250; clear BK261; clear BK272; clear HB; have BK250 := n0_; have BK261 := n1_; have BK272 := n2_; have HB := n3_; have BK277 := n4_; have GW277 := n5_; have GE277 := n6_; have NB250_277 := n7_; have NB277_250 := n8_; have NB261_277 := n9_; have NB277_261 := n10_; have NB272_277 := n11_; have NB277_272 := n12_; clear n0_ n1_ n2_ n3_ n4_ n5_ n6_ n7_ n8_ n9_ n10_ n11_ n12_; clear hb hbox hg; have hnb105 := NB277_250.out; have hnc105 := NB250_277.out; have hnb106 := NB277_261.out; have hnc106 := NB261_277.out; have hnb107 := NB277_272.out; have hnc107 := NB272_277.out; have hcz108_0 : w104.cell? ⟨gb277, 0, none⟩ = some (.int .i64 0) := (blk_cell BK277.out 0).trans rfl; have hcz108_1 : w104.cell? ⟨gb277, 1, none⟩ = some (.int .i64 0) := (blk_cell BK277.out 1).trans rfl; have hcz108_2 : w104.cell? ⟨gb277, 2, none⟩ = some (.string (⟨#[]⟩ : ByteArray)) := (blk_cell BK277.out 2).trans rfl; have hfz108_0 := blk_frozen BK277.out 0; have hfz108_1 := blk_frozen BK277.out 1; have hfz108_2 := blk_frozen BK277.out 2))
                                have n0_ : Aside0 ((((w104.setCell ⟨gb277, 0, none⟩ (.int .i64 t273)).setCell ⟨gb277, 1, none⟩ (.int .i64 t274)).setCell ⟨gb277, 2, none⟩ (.string t275)).heap[gb250]? = some (.cells #[.int .i64 t246, .int .i64 t247, .string t248] 25 (0, 0))) := ⟨by (with_reducible repeat (first | refine blk_drewN ?_ _ | refine blk_drew ?_ | refine blk_alloc ?_ _)); refine blk_far ?_ NB250_277.out _; (with_reducible repeat (first | refine blk_drewN ?_ _ | refine blk_drew ?_ | refine blk_alloc ?_ _)); refine blk_far ?_ NB250_277.out _; (with_reducible repeat (first | refine blk_drewN ?_ _ | refine blk_drew ?_ | refine blk_alloc ?_ _)); refine blk_far ?_ NB250_277.out _; (with_reducible repeat (first | refine blk_drewN ?_ _ | refine blk_drew ?_ | refine blk_alloc ?_ _)); exact BK250.out⟩
                                have n1_ : Aside0 ((((w104.setCell ⟨gb277, 0, none⟩ (.int .i64 t273)).setCell ⟨gb277, 1, none⟩ (.int .i64 t274)).setCell ⟨gb277, 2, none⟩ (.string t275)).heap[gb261]? = some (.cells #[.int .i64 t257, .int .i64 t258, .string t259] 25 (0, 0))) := ⟨by (with_reducible repeat (first | refine blk_drewN ?_ _ | refine blk_drew ?_ | refine blk_alloc ?_ _)); refine blk_far ?_ NB261_277.out _; (with_reducible repeat (first | refine blk_drewN ?_ _ | refine blk_drew ?_ | refine blk_alloc ?_ _)); refine blk_far ?_ NB261_277.out _; (with_reducible repeat (first | refine blk_drewN ?_ _ | refine blk_drew ?_ | refine blk_alloc ?_ _)); refine blk_far ?_ NB261_277.out _; (with_reducible repeat (first | refine blk_drewN ?_ _ | refine blk_drew ?_ | refine blk_alloc ?_ _)); exact BK261.out⟩
                                have n2_ : Aside0 ((((w104.setCell ⟨gb277, 0, none⟩ (.int .i64 t273)).setCell ⟨gb277, 1, none⟩ (.int .i64 t274)).setCell ⟨gb277, 2, none⟩ (.string t275)).heap[gb272]? = some (.cells #[.int .i64 t268, .int .i64 t269, .string t270] 25 (0, 0))) := ⟨by (with_reducible repeat (first | refine blk_drewN ?_ _ | refine blk_drew ?_ | refine blk_alloc ?_ _)); refine blk_far ?_ NB272_277.out _; (with_reducible repeat (first | refine blk_drewN ?_ _ | refine blk_drew ?_ | refine blk_alloc ?_ _)); refine blk_far ?_ NB272_277.out _; (with_reducible repeat (first | refine blk_drewN ?_ _ | refine blk_drew ?_ | refine blk_alloc ?_ _)); refine blk_far ?_ NB272_277.out _; (with_reducible repeat (first | refine blk_drewN ?_ _ | refine blk_drew ?_ | refine blk_alloc ?_ _)); exact BK272.out⟩
                                have n3_ : Aside0 ((((w104.setCell ⟨gb277, 0, none⟩ (.int .i64 t273)).setCell ⟨gb277, 1, none⟩ (.int .i64 t274)).setCell ⟨gb277, 2, none⟩ (.string t275)).heap[gb277]? = some (.cells #[.int .i64 t273, .int .i64 t274, .string t275] 25 (0, 0))) := ⟨by (with_reducible repeat (first | refine blk_drewN ?_ _ | refine blk_drew ?_ | refine blk_alloc ?_ _)); refine blk_put (cs := #[.int .i64 t273, .int .i64 t274, .string (⟨#[]⟩ : ByteArray)]) ?_ 2 _ rfl; (with_reducible repeat (first | refine blk_drewN ?_ _ | refine blk_drew ?_ | refine blk_alloc ?_ _)); refine blk_put (cs := #[.int .i64 t273, .int .i64 0, .string (⟨#[]⟩ : ByteArray)]) ?_ 1 _ rfl; (with_reducible repeat (first | refine blk_drewN ?_ _ | refine blk_drew ?_ | refine blk_alloc ?_ _)); refine blk_put (cs := #[.int .i64 0, .int .i64 0, .string (⟨#[]⟩ : ByteArray)]) ?_ 0 _ rfl; (with_reducible repeat (first | refine blk_drewN ?_ _ | refine blk_drew ?_ | refine blk_alloc ?_ _)); exact BK277.out⟩
                                have n4_ : Aside0 (Below w.heap.size w (((w104.setCell ⟨gb277, 0, none⟩ (.int .i64 t273)).setCell ⟨gb277, 1, none⟩ (.int .i64 t274)).setCell ⟨gb277, 2, none⟩ (.string t275))) := ⟨by repeat (first | (with_reducible first | exact HB.out | apply below_alloc | apply pw_below_drewN | apply below_drew1 | refine below_set ?_ GE250.out | refine below_set ?_ GE261.out | refine below_set ?_ GE272.out | refine below_set ?_ GE277.out) | exact HB.out)⟩
                                (try clear BK250)
                                (try clear BK261)
                                (try clear BK272)
                                (try clear BK277)
                                (try clear HB)
                                generalize (((w104.setCell ⟨gb277, 0, none⟩ (.int .i64 t273)).setCell ⟨gb277, 1, none⟩ (.int .i64 t274)).setCell ⟨gb277, 2, none⟩ (.string t275)) = w109 at n0_ n1_ n2_ n3_ n4_ ⊢
                                have BK250 := n0_
                                have BK261 := n1_
                                have BK272 := n2_
                                have BK277 := n3_
                                have HB := n4_
                                clear n0_ n1_ n2_ n3_ n4_
                                have n0_ := Aside0.mk (blk_drew BK250.out)
                                have n1_ := Aside0.mk (blk_drew BK261.out)
                                have n2_ := Aside0.mk (blk_drew BK272.out)
                                have n3_ := Aside0.mk (blk_drew BK277.out)
                                have n4_ := Aside0.mk (below_drew1 HB.out)
                                clear BK250
                                clear BK261
                                clear BK272
                                clear BK277
                                clear HB
                                have BK250 := n0_
                                have BK261 := n1_
                                have BK272 := n2_
                                have BK277 := n3_
                                have HB := n4_
                                clear n0_ n1_ n2_ n3_ n4_
                                refine start_ (n := 18) (S := fun w' => w'.cell? ⟨gb277, 0, none⟩ = some (.int .i64 t273) ∧ w'.cell? ⟨gb277, 1, none⟩ = some (.int .i64 t274) ∧ w'.cell? ⟨gb277, 2, none⟩ = some (.string t275)) (ds := []) #[false, false, false, false, false, false, false, false, false, false, false, false, false, false, false, false, false, false] (by kernel_rfl) rfl rfl ⟨(blk_cell BK277.out 0).trans rfl, (blk_cell BK277.out 1).trans rfl, (blk_cell BK277.out 2).trans rfl⟩ (fun hHeld => ?_); refine with_tabW quarrylaw02_CalcDivides.tab19 quarrylaw02_CalcDivides.bits19 (fun HT_ HW_ => ?_)
                                generalize w109.drew = w110 at BK250 BK261 BK272 BK277 HB hHeld ⊢
                                refine pure_ (i := 0) (N := some 106) (v := ?_) (a' := ?_) #[true, false, false, false, false, false, false, false, false, false, false, false, false, false, false, false, false, false] rfl rfl (any_of HT_.out (by kernel_rfl)) (fun _ _ _ h => h) (Or.inl ⟨by rfl, ?_⟩) ?_ ?_
                                rotate_left
                                · intro w'
                                  go_simp
                                  with_reducible rfl
                                rotate_left
                                · simp only [Act.put, List.setIfInBounds_toArray, List.set_cons_zero, List.set_cons_succ, i64_w, i32_w]
                                  rfl
                                refine pure_ (i := 1) (N := some 107) (v := ?_) (a' := ?_) #[true, true, false, false, false, false, false, false, false, false, false, false, false, false, false, false, false, false] rfl rfl (any_of HT_.out (by kernel_rfl)) (fun _ _ _ h => h) (Or.inl ⟨by rfl, ?_⟩) ?_ ?_
                                rotate_left
                                · intro w'
                                  go_simp
                                  with_reducible rfl
                                rotate_left
                                · simp only [Act.put, List.setIfInBounds_toArray, List.set_cons_zero, List.set_cons_succ, i64_w, i32_w]
                                  rfl
                                refine pure_ (i := 2) (N := some 108) (v := ?_) (a' := ?_) #[true, true, true, false, false, false, false, false, false, false, false, false, false, false, false, false, false, false] rfl rfl (any_of HT_.out (by kernel_rfl)) (fun _ _ _ h => h) (Or.inl ⟨by rfl, ?_⟩) ?_ ?_
                                rotate_left
                                · intro w'
                                  go_simp
                                  with_reducible rfl
                                rotate_left
                                · simp only [Act.put, List.setIfInBounds_toArray, List.set_cons_zero, List.set_cons_succ, i64_w, i32_w]
                                  rfl
                                refine pure_ (i := 3) (N := some 109) (v := ?_) (a' := ?_) #[true, true, true, true, false, false, false, false, false, false, false, false, false, false, false, false, false, false] rfl rfl (any_of HT_.out (by kernel_rfl)) (fun _ _ _ h => h) (Or.inl ⟨by rfl, ?_⟩) ?_ ?_
                                rotate_left
                                · intro w'
                                  go_simp
                                  with_reducible rfl
                                rotate_left
                                · simp only [Act.put, List.setIfInBounds_toArray, List.set_cons_zero, List.set_cons_succ, i64_w, i32_w]
                                  rfl
                                refine pure_ (i := 4) (N := some 110) (v := ?_) (a' := ?_) #[true, true, true, true, true, false, false, false, false, false, false, false, false, false, false, false, false, false] rfl rfl (any_of HT_.out (by kernel_rfl)) (fun _ _ _ h => h) (Or.inl ⟨by rfl, ?_⟩) ?_ ?_
                                rotate_left
                                · intro w'
                                  go_simp
                                  with_reducible rfl
                                rotate_left
                                · simp only [Act.put, List.setIfInBounds_toArray, List.set_cons_zero, List.set_cons_succ, i64_w, i32_w]
                                  rfl
                                refine pure_ (i := 5) (N := some 111) (v := ?_) (a' := ?_) #[true, true, true, true, true, true, false, false, false, false, false, false, false, false, false, false, false, false] rfl rfl (any_of HT_.out (by kernel_rfl)) (fun _ _ _ h => h) (Or.inl ⟨by rfl, ?_⟩) ?_ ?_
                                rotate_left
                                · intro w'
                                  go_simp
                                  with_reducible rfl
                                rotate_left
                                · simp only [Act.put, List.setIfInBounds_toArray, List.set_cons_zero, List.set_cons_succ, i64_w, i32_w]
                                  rfl
                                refine pure_ (i := 6) (N := some 112) (v := ?_) (a' := ?_) #[true, true, true, true, true, true, true, false, false, false, false, false, false, false, false, false, false, false] rfl rfl (any_of HT_.out (by kernel_rfl)) (fun _ _ _ h => h) (Or.inl ⟨by rfl, ?_⟩) ?_ ?_
                                rotate_left
                                · intro w'
                                  go_simp
                                  with_reducible rfl
                                rotate_left
                                · simp only [Act.put, List.setIfInBounds_toArray, List.set_cons_zero, List.set_cons_succ, i64_w, i32_w]
                                  rfl
                                refine pure_ (i := 7) (N := some 113) (v := ?_) (a' := ?_) #[true, true, true, true, true, true, true, true, false, false, false, false, false, false, false, false, false, false] rfl rfl (any_of HT_.out (by kernel_rfl)) (fun _ _ _ h => h) (Or.inl ⟨by rfl, ?_⟩) ?_ ?_
                                rotate_left
                                · intro w'
                                  go_simp
                                  with_reducible rfl
                                rotate_left
                                · simp only [Act.put, List.setIfInBounds_toArray, List.set_cons_zero, List.set_cons_succ, i64_w, i32_w]
                                  rfl
                                refine pure_ (i := 8) (N := some 114) (v := ?_) (a' := ?_) #[true, true, true, true, true, true, true, true, true, false, false, false, false, false, false, false, false, false] rfl rfl (any_of HT_.out (by kernel_rfl)) (fun _ _ _ h => h) (Or.inl ⟨by rfl, ?_⟩) ?_ ?_
                                rotate_left
                                · intro w'
                                  go_simp
                                  with_reducible rfl
                                rotate_left
                                · simp only [Act.put, List.setIfInBounds_toArray, List.set_cons_zero, List.set_cons_succ, i64_w, i32_w]
                                  rfl
                                refine pure_ (i := 9) (N := some 115) (v := ?_) (a' := ?_) #[true, true, true, true, true, true, true, true, true, true, false, false, false, false, false, false, false, false] rfl rfl (any_of HT_.out (by kernel_rfl)) (fun _ _ _ h => h) (Or.inl ⟨by rfl, ?_⟩) ?_ ?_
                                rotate_left
                                · intro w'
                                  go_simp
                                  with_reducible rfl
                                rotate_left
                                · simp only [Act.put, List.setIfInBounds_toArray, List.set_cons_zero, List.set_cons_succ, i64_w, i32_w]
                                  rfl
                                refine pure_ (i := 10) (N := some 116) (v := ?_) (a' := ?_) #[true, true, true, true, true, true, true, true, true, true, true, false, false, false, false, false, false, false] rfl rfl (any_of HT_.out (by kernel_rfl)) (fun _ _ _ h => h) (Or.inl ⟨by rfl, ?_⟩) ?_ ?_
                                rotate_left
                                · intro w'
                                  go_simp
                                  with_reducible rfl
                                rotate_left
                                · simp only [Act.put, List.setIfInBounds_toArray, List.set_cons_zero, List.set_cons_succ, i64_w, i32_w]
                                  rfl
                                refine pure_ (i := 11) (N := some 117) (v := ?_) (a' := ?_) #[true, true, true, true, true, true, true, true, true, true, true, true, false, false, false, false, false, false] rfl rfl (any_of HT_.out (by kernel_rfl)) (fun _ _ _ h => h) (Or.inl ⟨by rfl, ?_⟩) ?_ ?_
                                rotate_left
                                · intro w'
                                  go_simp
                                  with_reducible rfl
                                rotate_left
                                · simp only [Act.put, List.setIfInBounds_toArray, List.set_cons_zero, List.set_cons_succ, i64_w, i32_w]
                                  rfl
                                refine pure_ (i := 13) (N := some 119) (v := ?_) (a' := ?_) #[true, true, true, true, true, true, true, true, true, true, true, true, false, true, false, false, false, false] rfl rfl (any_of HT_.out (by kernel_rfl)) (fun _ _ _ h => h) (Or.inl ⟨by rfl, ?_⟩) ?_ ?_
                                rotate_left
                                · intro w'
                                  go_simp
                                  with_reducible rfl
                                rotate_left
                                · simp only [Act.put, List.setIfInBounds_toArray, List.set_cons_zero, List.set_cons_succ, i64_w, i32_w]
                                  rfl
                                refine take_ (i := 12) (N := some 118) (v := ?_) (a' := ?_) #[true, true, true, true, true, true, true, true, true, true, true, true, true, true, false, false, false, false] rfl rfl (take_ofW HT_.out HW_.out (by kernel_rfl)) (fun _ _ _ h => h) (Or.inl ⟨by rfl, ?_⟩) hHeld ?_ ?_
                                rotate_left
                                · rintro w' ⟨s0, s1, s2⟩
                                  go_simp
                                  with_reducible rfl
                                rotate_left
                                · simp only [Act.put, List.setIfInBounds_toArray, List.set_cons_zero, List.set_cons_succ, i64_w, i32_w]
                                  rfl
                                refine one_ (i := 14) (N := some 120) #[true, true, true, true, true, true, true, true, true, true, true, true, true, true, true, false, false, false] rfl rfl (one_of HT_.out (by kernel_rfl)) (by decide) (fun K hK => ?_)
                                refine goes_ Try.func24 (by kernel_rfl) rfl #[.int .i64 a0] (by rfl) rfl rfl (by (try simp only [List.map_toArray, List.map_cons, List.map_nil]); first | done | rfl | (simp only [List.length_drop, List.length_take]; rfl)) ?_
                                with_reducible refine (quarrylaw02_num.calls a0 t278 t279 t280 _ A89.out).mono ?_
                                rintro e w111 ⟨rfl, hb⟩
                                refine ⟨_, rfl, ?_⟩
                                have n0_ := Aside0.mk (blk_below (g := gb250) (o := .cells #[.int .i64 t246, .int .i64 t247, .string t248] 25 (0, 0)) (by (with_reducible repeat (first | refine blk_drewN ?_ _ | refine blk_drew ?_ | refine blk_alloc ?_ _)); exact BK250.out) hb)
                                have n1_ := Aside0.mk (blk_below (g := gb261) (o := .cells #[.int .i64 t257, .int .i64 t258, .string t259] 25 (0, 0)) (by (with_reducible repeat (first | refine blk_drewN ?_ _ | refine blk_drew ?_ | refine blk_alloc ?_ _)); exact BK261.out) hb)
                                have n2_ := Aside0.mk (blk_below (g := gb272) (o := .cells #[.int .i64 t268, .int .i64 t269, .string t270] 25 (0, 0)) (by (with_reducible repeat (first | refine blk_drewN ?_ _ | refine blk_drew ?_ | refine blk_alloc ?_ _)); exact BK272.out) hb)
                                have n3_ := Aside0.mk (blk_below (g := gb277) (o := .cells #[.int .i64 t273, .int .i64 t274, .string t275] 25 (0, 0)) (by (with_reducible repeat (first | refine blk_drewN ?_ _ | refine blk_drew ?_ | refine blk_alloc ?_ _)); exact BK277.out) hb)
                                have n4_ := Aside0.mk (below_step (by repeat (first | (with_reducible first | exact HB.out | apply below_alloc | apply pw_below_drewN | apply below_drew1 | refine below_set ?_ GE250.out | refine below_set ?_ GE261.out | refine below_set ?_ GE272.out | refine below_set ?_ GE277.out) | exact HB.out)) hb)
                                clear BK250
                                clear BK261
                                clear BK272
                                clear BK277
                                clear HB
                                have BK250 := n0_
                                have BK261 := n1_
                                have BK272 := n2_
                                have BK277 := n3_
                                have HB := n4_
                                clear n0_ n1_ n2_ n3_ n4_
                                (try clear hb)
                                (try clear hb2)
                                (try clear hk)
                                (try clear hi)
                                refine hK.out _ _ ⟨(blk_cell BK277.out 0).trans rfl, (blk_cell BK277.out 1).trans rfl, (blk_cell BK277.out 2).trans rfl⟩ (fun hHeld => ?_)
                                clear hK K
                                refine norm_ (a' := ?_) ?_ ?_
                                rotate_left
                                · show Act.put _ (some 120) _ = _
                                  simp only [Act.put, List.setIfInBounds_toArray, List.set_cons_zero, List.set_cons_succ, i64_w, i32_w]
                                  rfl
                                refine pure_ (i := 15) (N := some 121) (v := ?_) (a' := ?_) #[true, true, true, true, true, true, true, true, true, true, true, true, true, true, true, true, false, false] rfl rfl (any_of HT_.out (by kernel_rfl)) (fun _ _ _ h => h) (Or.inl ⟨by rfl, ?_⟩) ?_ ?_
                                rotate_left
                                · intro w'
                                  go_simp
                                  with_reducible rfl
                                rotate_left
                                · simp only [Act.put, List.setIfInBounds_toArray, List.set_cons_zero, List.set_cons_succ, i64_w, i32_w]
                                  rfl
                                refine pure_ (i := 16) (N := some 122) (v := ?_) (a' := ?_) #[true, true, true, true, true, true, true, true, true, true, true, true, true, true, true, true, true, false] rfl rfl (any_of HT_.out (by kernel_rfl)) (fun _ _ _ h => h) (Or.inl ⟨by rfl, ?_⟩) ?_ ?_
                                rotate_left
                                · intro w'
                                  go_simp
                                  with_reducible rfl
                                rotate_left
                                · simp only [Act.put, List.setIfInBounds_toArray, List.set_cons_zero, List.set_cons_succ, i64_w, i32_w]
                                  rfl
                                refine pure_ (i := 17) (N := some 4) (v := ?_) (a' := ?_) #[true, true, true, true, true, true, true, true, true, true, true, true, true, true, true, true, true, true] rfl rfl (any_of HT_.out (by kernel_rfl)) (fun _ _ _ h => h) (Or.inl ⟨by rfl, ?_⟩) ?_ ?_
                                rotate_left
                                · intro w'
                                  go_simp
                                  with_reducible rfl
                                rotate_left
                                · simp only [Act.put, List.setIfInBounds_toArray, List.set_cons_zero, List.set_cons_succ, i64_w, i32_w]
                                  rfl
                                refine done_ (done_of HT_.out (by kernel_rfl)) ?_
                                try go_wp2
                                go_ret
                                exact ⟨by first | rfl | (simp [errW_none, errW_some] <;> rfl) | (simp [*, errW_none, errW_some] <;> rfl), by repeat (first | (with_reducible first | exact HB.out | apply below_alloc | apply pw_below_drewN | apply below_drew1 | refine below_set ?_ GE250.out | refine below_set ?_ GE261.out | refine below_set ?_ GE272.out | refine below_set ?_ GE277.out) | exact HB.out)⟩
                              · rw [if_neg c88] at H
                                cases H
                            · rw [if_neg c87] at H
                              cases H
                          · rw [if_neg c86] at H
                            cases H
  · rw [if_neg c4] at H
    cases H
end Go.Proofs.Ytfbeklbjlkgbnaa.P
end
section
namespace Go.Proofs.Ytfbeklbjlkgbnaa.P
open Go.RowKit Go.Proofs.YtfbeklbjlkgbnaaW.PrintWords Go.Proofs.YtfbeklbjlkgbnaaW.PrintLast Go.Proofs.YtfbeklbjlkgbnaaW.PrintMore
attribute [local go_sem] max2_int min2_int max_two min_two max_three min_three max_four min_four
set_option linter.unusedVariables false
set_option linter.unusedSimpArgs false
attribute [local go_sem high] eqA25
theorem eqR (d : Nat) (w : World) (x0 y0 : Int) (x1 y1 : Int) (x2 y2 : ByteArray) :
    (Op.equalIn (d + 2) 25 (.agg #[.int .i64 x0, .int .i64 x1, .string x2]) (.agg #[.int .i64 y0, .int .i64 y1, .string y2])).run Try.prog w = .ok (x0 == y0 && (x1 == y1 && (x2.toList == y2.toList))) w := by
  refine eqA_of Try.underlying25 (by kernel_rfl) ?_
  refine eqf_cons (by rfl) (by go_simp; rfl) (by go_simp; rfl) (by go_simp) ?_
  refine eqf_cons (by rfl) (by go_simp; rfl) (by go_simp; rfl) (by go_simp) ?_
  exact eqf_last (by rfl) (by go_simp; rfl) (by go_simp; rfl) (by go_simp)
attribute [local go_sem high] eqR
end Go.Proofs.Ytfbeklbjlkgbnaa.P
end
section
namespace Go.Proofs.Ytfbeklbjlkgbnaa.Pure
set_option linter.unusedVariables false
set_option linter.unusedSimpArgs false
open Go.RowKit Go.Proofs.Ytfbeklbjlkgbnaa.P Go.Proofs.YtfbeklbjlkgbnaaW.PrintWords Go.Proofs.YtfbeklbjlkgbnaaW.PrintLast Go.Proofs.YtfbeklbjlkgbnaaW.PrintMore
theorem bin_f (op : Int) (x y : S25) (h : fits x y) : calc_Binary.f op x.f0 x.f1 x.f2 y.f0 y.f1 y.f2 = some (outT (bin op x y)) := if_pos h
theorem num_f (n : Int) : quarrylaw02_num.f n = some (2, n, V0) := rfl
def numV (n : Int) : S25 := ⟨2, n, V0⟩
theorem V0_list : V0.toList = [] := by rw [Go.ByteArray.toList_eq]; rfl
theorem works_f : quarrylaw02_works.f = some true := by
  have b1 : calc_Binary.f 11 2 2 V0 2 3 V0 = some (2, 5, V0, 0) := by kernel_rfl
  have b2 : calc_Binary.f 4 0 0 V0 1 0 V0 = some (1, 0, V0, 0) := by kernel_rfl
  have b3 : calc_Binary.f 14 2 1 V0 2 0 V0 = some (0, 0, V0, 41) := by kernel_rfl
  have b4 : calc_Call.f 5 [⟨3, 0, ⟨#[104, 101, 108, 108, 111]⟩⟩, ⟨2, 2, V0⟩, ⟨2, 3, V0⟩] = some (3, 0, ⟨#[101, 108, 108]⟩, 0) := by kernel_rfl
  have e : (⟨#[101, 108, 108]⟩ : ByteArray).toList = [101, 108, 108] := by rw [Go.ByteArray.toList_eq]
  unfold quarrylaw02_works.f
  have e0 : (⟨#[]⟩ : ByteArray) = V0 := rfl
  simp only [num_f, Option.bind_some, e0, b1, b2, b3, b4, e, V0_list]
  rfl
end Go.Proofs.Ytfbeklbjlkgbnaa.Pure
end
section
namespace Go.Proofs.Ytfbeklbjlkgbnaa.Pure
open Go.RowKit Go.Proofs.Ytfbeklbjlkgbnaa.P Go.Proofs.YtfbeklbjlkgbnaaW.PrintWords Go.Proofs.YtfbeklbjlkgbnaaW.PrintLast
theorem bin_num {op : Int} (a b : Int) (h11 : 11 ≤ op) (h15 : op ≤ 15) : bin op (numV a) (numV b) = numE (sumP op a b) := by
  have hw : wantsP op = 2 := by unfold wantsP; rw [if_neg (show ¬ op ≤ 4 by omega), if_neg (show ¬ op ≤ 10 by omega), if_neg (show ¬ op = 16 by omega)]
  have hk : kindsP op (numV a).f0 (numV b).f0 := by unfold kindsP; rw [hw, if_pos (by decide)]; exact ⟨.inl rfl, .inl rfl⟩
  have hz : ¬ ((numV a).f0 = 0 ∨ (numV b).f0 = 0) := by rintro (h | h) <;> exact absurd (show (2 : Int) = 0 from h) (by decide)
  unfold bin
  rw [if_neg (show ¬ ¬ (3 ≤ op ∧ op ≤ 16) by omega), if_neg (show ¬ ¬ kindsP op (numV a).f0 (numV b).f0 from fun h => h hk), if_neg (show ¬ op ≤ 4 by omega), if_neg hz, if_neg (show ¬ op ≤ 10 by omega), if_neg (show ¬ op = 16 by omega)]
  rfl
theorem fitsN {a b : Int} (ha : In64 a) (hb : In64 b) : fits (numV a) (numV b) := ⟨ha, hb, by show V0.size ≤ _; decide, by show V0.size ≤ _; decide⟩
def outN (r : Except Int Int) : Int × Int × ByteArray × Int := outT (numE r)
theorem num_bin {op a b : Int} (h11 : 11 ≤ op) (h15 : op ≤ 15) (ha : In64 a) (hb : In64 b) : calc_Binary.f op 2 a V0 2 b V0 = some (outN (sumP op a b)) :=
  (bin_f op (numV a) (numV b) (fitsN ha hb)).trans (by rw [bin_num a b h11 h15]; rfl)
theorem outN_ok (n : Int) : outN (.ok n) = (2, n, V0, 0) := rfl
theorem outN_error (c : Int) : outN (.error c) = (0, 0, V0, c) := rfl
theorem tdiv_abs (a b : Int) : (Int.tdiv a b).natAbs ≤ a.natAbs := by
  rw [Int.natAbs_tdiv]; exact Nat.div_le_self _ _
theorem tmod_abs {a b : Int} (hb : ¬ b = 0) : (Int.tmod a b).natAbs < b.natAbs := by
  rw [Int.natAbs_tmod]; exact Nat.mod_lt _ (by omega)
theorem tmod_sign {a b : Int} : (0 ≤ a → 0 ≤ Int.tmod a b) ∧ (a ≤ 0 → Int.tmod a b ≤ 0) := by
  constructor
  · intro h; exact Int.tmod_nonneg b h
  · intro h
    have := Int.tmod_nonneg b (show 0 ≤ -a by omega)
    rw [Int.neg_tmod] at this
    omega
theorem tdiv_neg_one (a : Int) : Int.tdiv a (-1) = -a := by rw [Int.tdiv_neg, Int.tdiv_one]
theorem CalcDivides : ∀ (a0 : Int) (a1 : Int), (Lit.int .i64 a0).wf = true → (Lit.int .i64 a1).wf = true → ∃ k, quarrylaw02_CalcDivides.f k a0 a1 = some true := by
  intro a b ha' hb'
  have ha : In64 a := wf64 ha'
  have hb : In64 b := wf64 hb'
  refine Ev.get ?_
  unfold quarrylaw02_CalcDivides.f
  simp only [works_f, Option.bind_some, if_true, num_f, num_bin (op := 14) (by omega) (by omega) ha hb, num_bin (op := 15) (by omega) (by omega) ha hb]
  by_cases h0 : b = 0
  · have e1 : sumP 14 a b = .error 41 := by unfold sumP; rw [if_neg (by decide), if_neg (by decide), if_neg (by decide), if_pos h0]
    have e2 : sumP 15 a b = .error 41 := by unfold sumP; rw [if_neg (by decide), if_neg (by decide), if_neg (by decide), if_pos h0]
    simp only [if_pos h0, e1, e2, outN_error, if_true, beq_self_eq_true]
    exact Ev.pure _
  · have q1 : sumP 14 a b = if a = -9223372036854775808 ∧ b = -1 then .error 40 else .ok (Int.tdiv a b) := by
      unfold sumP; rw [if_neg (by decide), if_neg (by decide), if_neg (by decide), if_neg h0, if_neg (by decide)]
    have q2 : sumP 15 a b = .ok (Int.tmod a b) := by
      unfold sumP; rw [if_neg (by decide), if_neg (by decide), if_neg (by decide), if_neg h0, if_pos rfl]
      by_cases h1 : b = -1
      · rw [if_pos h1, h1, Int.tmod_neg, Int.tmod_one]
      · rw [if_neg h1]
    simp only [if_neg h0, q1, q2, outN_ok]
    by_cases hov : a = -9223372036854775808 ∧ b = -1
    · have hbb : (b == -1) = true := beq_iff_eq.mpr hov.2
      have hm : Int.tmod a b = 0 := by rw [hov.2, Int.tmod_neg, Int.tmod_one]
      simp only [if_pos hov.1, if_pos hov, outN_error, hbb, hm]
      refine Ev.succ ?_
      simp only [quarrylaw02_CalcDivides.j0, if_true, num_f, Option.bind_some, beq_self_eq_true, Bool.and_self]
      exact Ev.pure _
    · simp only [if_neg hov, outN_ok]
      have hr0 := tmod_abs (a := a) h0
      have hsg := tmod_sign (a := a) (b := b)
      have hmul := Int.mul_tdiv_add_tmod a b
      have hab : (Int.tmod a b).natAbs ≤ a.natAbs := by rw [Int.natAbs_tmod]; exact Nat.mod_le _ _
      have hq : In64 (Int.tdiv a b) := by
        have h3 := tdiv_abs a b
        unfold In64 at *
        by_cases h1 : b = -1
        · rw [h1, tdiv_neg_one]; omega
        · by_cases h2 : b = 1
          · rw [h2, Int.tdiv_one]; omega
          · have hd : (Int.tdiv a b).natAbs ≤ a.natAbs / 2 := by
              rw [Int.natAbs_tdiv]
              exact Nat.div_le_div_left (show 2 ≤ b.natAbs by omega) (by omega)
            omega
      have hr : In64 (Int.tmod a b) := by unfold In64 at *; omega
      obtain ⟨r, hrr⟩ : ∃ r, Int.tmod a b = r := ⟨_, rfl⟩
      obtain ⟨q, hqq⟩ : ∃ q, Int.tdiv a b = q := ⟨_, rfl⟩
      rw [hrr] at hr0 hsg hmul hab hr ⊢
      rw [hqq] at hmul hq ⊢
      have hp : In64 (q * b) := by rw [Int.mul_comm]; unfold In64 at *; omega
      have hs : q * b + r = a := by rw [Int.mul_comm]; exact hmul
      have p1 : sumP 13 q b = .ok (q * b) := by unfold sumP prodP; rw [if_neg (by decide), if_neg (by decide), if_pos rfl, if_pos hp]
      have p2 : sumP 11 (q * b) r = .ok a := by unfold sumP; rw [if_pos rfl, hs, if_pos ha]
      have ev3 : ∀ m n : Int, m > n → Ev (fun k => quarrylaw02_CalcDivides.j3 k a b m n 2 q V0 2 r V0) true := by
        intro m n hmn
        refine Ev.succ ?_
        simp only [quarrylaw02_CalcDivides.j3, num_f, Option.bind_some, num_bin (op := 13) (by omega) (by omega) hq hb, p1, outN_ok, num_bin (op := 11) (by omega) (by omega) hp hr, p2, if_pos hmn, if_true, beq_self_eq_true, Bool.and_self]
        exact Ev.pure _
      have ev2 : ∀ m : Int, m > -(b.natAbs : Int) → Ev (fun k => quarrylaw02_CalcDivides.j2 k a b m 2 q V0 2 r V0) true := by
        intro m hm
        refine Ev.succ ?_
        by_cases hbp : b > 0
        · have hw : wrap64 (-b) = -b := by unfold In64 at hb; unfold wrap64; omega
          simp only [quarrylaw02_CalcDivides.j2, if_pos hbp, hw]
          exact ev3 m (-b) (by omega)
        · simp only [quarrylaw02_CalcDivides.j2, if_neg hbp]
          exact ev3 m b (by omega)
      have ev1 : Ev (fun k => quarrylaw02_CalcDivides.j1 k a b false 2 q V0 2 r V0) true := by
        refine Ev.succ ?_
        by_cases hrp : r > 0
        · have hw : wrap64 (-r) = -r := by unfold In64 at hr; unfold wrap64; omega
          simp only [quarrylaw02_CalcDivides.j1, Bool.false_eq_true, if_false, if_pos hrp, hw]
          exact ev2 (-r) (by omega)
        · simp only [quarrylaw02_CalcDivides.j1, Bool.false_eq_true, if_false, if_neg hrp]
          exact ev2 r (by omega)
      have ev0 : Ev (fun k => quarrylaw02_CalcDivides.j0 k a b 0 0 false 2 q V0 2 r V0) true := by
        refine Ev.succ ?_
        simp only [quarrylaw02_CalcDivides.j0, Bool.false_eq_true, if_false, if_true]
        by_cases h1 : r < 0
        · have n1 : ¬ a ≥ 0 := by omega
          have n2 : ¬ r > 0 := by omega
          simp only [if_pos h1, if_neg n1, if_neg n2]
          exact ev1
        · by_cases h2 : r > 0
          · have e : decide (a ≤ 0) = false := decide_eq_false (by omega)
            simp only [if_neg h1, if_pos h2, e]
            exact ev1
          · simp only [if_neg h1, if_neg h2]
            exact ev1
      by_cases hl : a = -9223372036854775808
      · have e : (b == -1) = false := beq_eq_false_iff_ne.mpr (fun h => hov ⟨hl, h⟩)
        simp only [if_pos hl, e]
        exact ev0
      · simp only [if_neg hl]
        exact ev0
end Go.Proofs.Ytfbeklbjlkgbnaa.Pure
end
