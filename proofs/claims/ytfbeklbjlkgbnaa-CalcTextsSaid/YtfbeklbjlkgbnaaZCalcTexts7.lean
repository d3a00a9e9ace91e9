/- Laid by a program of this session out of its texts for the law CalcTexts, part 7. -/
import Derived.Test.YtfbeklbjlkgbnaaZCalcTexts6
section
namespace Go.Proofs.Ytfbeklbjlkgbnaa.P
open Go.RowKit Go.Proofs.YtfbeklbjlkgbnaaW.PrintWords Go.Proofs.YtfbeklbjlkgbnaaW.PrintLast Go.Proofs.YtfbeklbjlkgbnaaW.PrintMore
attribute [local go_sem] max2_int min2_int max_two min_two max_three min_three max_four min_four
set_option linter.unusedVariables false
set_option linter.unusedSimpArgs false
attribute [local go_sem high] eqA25
set_option maxHeartbeats 8000000 in
set_option maxRecDepth 100000 in
theorem quarrylaw02_CalcTexts.calls (a0 : ByteArray) (a1 : ByteArray) (r : Bool) (w : World) (h : quarrylaw02_CalcTexts.f a0 a1 = some r) :
  Calls Try.prog 7 #[.string a0, .string a1] w fun e w' => e = .returned (.bool r) ∧ Below w.heap.size w w' := by
 have hu25 := Try.underlying25
 have HB := Aside0.mk (Below.refl w.heap.size w)
 have H : ((quarrylaw02_works.f).bind fun t341 => (if t341 = true then ((quarrylaw02_text.f a0).bind fun bt342 => ((quarrylaw02_text.f a1).bind fun bt345 => ((calc_Binary.f 16 bt342.1 bt342.2.1 bt342.2.2 bt345.1 bt345.2.1 bt345.2.2).bind fun bt348 => (if bt348.2.2.2 = 0 then ((calc_Call.f 1 (([(⟨bt348.1, bt348.2.1, bt348.2.2.1⟩ : S25)] : List (S25)))).bind fun bt356 => ((quarrylaw02_num.f 1).bind fun bt361 => ((quarrylaw02_num.f (a0.size : Int)).bind fun bt364 => ((calc_Call.f 5 (([(⟨bt348.1, bt348.2.1, bt348.2.2.1⟩ : S25), (⟨bt361.1, bt361.2.1, bt361.2.2⟩ : S25), (⟨bt364.1, bt364.2.1, bt364.2.2⟩ : S25)] : List (S25)))).bind fun bt370 => ((quarrylaw02_num.f (wrap64 ((a0.size : Int) + 1))).bind fun bt375 => ((quarrylaw02_num.f 1099511627776).bind fun bt378 => ((calc_Call.f 5 (([(⟨bt348.1, bt348.2.1, bt348.2.2.1⟩ : S25), (⟨bt375.1, bt375.2.1, bt375.2.2⟩ : S25), (⟨bt378.1, bt378.2.1, bt378.2.2⟩ : S25)] : List (S25)))).bind fun bt384 => ((quarrylaw02_text.f a0).bind fun bt389 => ((calc_Call.f 3 (([(⟨bt389.1, bt389.2.1, bt389.2.2⟩ : S25)] : List (S25)))).bind fun bt395 => ((quarrylaw02_text.f a0).bind fun bt400 => ((calc_Call.f 4 (([(⟨bt400.1, bt400.2.1, bt400.2.2⟩ : S25)] : List (S25)))).bind fun bt406 => ((calc_Call.f 3 (([(⟨bt406.1, bt406.2.1, bt406.2.2.1⟩ : S25)] : List (S25)))).bind fun bt414 => (if bt356.2.2.2 = 0 then (if bt370.2.2.2 = 0 then (if bt384.2.2.2 = 0 then (if bt395.2.2.2 = 0 then (if bt406.2.2.2 = 0 then (if bt414.2.2.2 = 0 then ((quarrylaw02_num.f (wrap64 ((a0.size : Int) + (a1.size : Int)))).bind fun bt419 => (if (bt356.1 == bt419.1 && (bt356.2.1 == bt419.2.1 && (bt356.2.2.1.toList == bt419.2.2.toList))) = true then ((quarrylaw02_text.f a0).bind fun bt422 => (if (bt370.1 == bt422.1 && (bt370.2.1 == bt422.2.1 && (bt370.2.2.1.toList == bt422.2.2.toList))) = true then ((quarrylaw02_text.f a1).bind fun bt425 => (if (bt384.1 == bt425.1 && (bt384.2.1 == bt425.2.1 && (bt384.2.2.1.toList == bt425.2.2.toList))) = true then (some (bt395.1 == bt414.1 && (bt395.2.1 == bt414.2.1 && (bt395.2.2.1.toList == bt414.2.2.1.toList)))) else (none))) else (none))) else (none))) else (none)) else (none)) else (none)) else (none)) else (none)) else (none)))))))))))))) else (if bt348.2.2.2 = 8 then (if (a0.size : Int) > 2048 then (some true) else (some (decide ((a1.size : Int) > (wrap64 (2048 - (a0.size : Int))))))) else (none)))))) else (none))) = some r := h
 clear h
 replace H := Option.bind_eq_some_iff.mp H
 obtain ⟨t341, A30, H⟩ := H
 replace H : (if t341 = true then ((quarrylaw02_text.f a0).bind fun bt342 => ((quarrylaw02_text.f a1).bind fun bt345 => ((calc_Binary.f 16 bt342.1 bt342.2.1 bt342.2.2 bt345.1 bt345.2.1 bt345.2.2).bind fun bt348 => (if bt348.2.2.2 = 0 then ((calc_Call.f 1 (([(⟨bt348.1, bt348.2.1, bt348.2.2.1⟩ : S25)] : List (S25)))).bind fun bt356 => ((quarrylaw02_num.f 1).bind fun bt361 => ((quarrylaw02_num.f (a0.size : Int)).bind fun bt364 => ((calc_Call.f 5 (([(⟨bt348.1, bt348.2.1, bt348.2.2.1⟩ : S25), (⟨bt361.1, bt361.2.1, bt361.2.2⟩ : S25), (⟨bt364.1, bt364.2.1, bt364.2.2⟩ : S25)] : List (S25)))).bind fun bt370 => ((quarrylaw02_num.f (wrap64 ((a0.size : Int) + 1))).bind fun bt375 => ((quarrylaw02_num.f 1099511627776).bind fun bt378 => ((calc_Call.f 5 (([(⟨bt348.1, bt348.2.1, bt348.2.2.1⟩ : S25), (⟨bt375.1, bt375.2.1, bt375.2.2⟩ : S25), (⟨bt378.1, bt378.2.1, bt378.2.2⟩ : S25)] : List (S25)))).bind fun bt384 => ((quarrylaw02_text.f a0).bind fun bt389 => ((calc_Call.f 3 (([(⟨bt389.1, bt389.2.1, bt389.2.2⟩ : S25)] : List (S25)))).bind fun bt395 => ((quarrylaw02_text.f a0).bind fun bt400 => ((calc_Call.f 4 (([(⟨bt400.1, bt400.2.1, bt400.2.2⟩ : S25)] : List (S25)))).bind fun bt406 => ((calc_Call.f 3 (([(⟨bt406.1, bt406.2.1, bt406.2.2.1⟩ : S25)] : List (S25)))).bind fun bt414 => (if bt356.2.2.2 = 0 then (if bt370.2.2.2 = 0 then (if bt384.2.2.2 = 0 then (if bt395.2.2.2 = 0 then (if bt406.2.2.2 = 0 then (if bt414.2.2.2 = 0 then ((quarrylaw02_num.f (wrap64 ((a0.size : Int) + (a1.size : Int)))).bind fun bt419 => (if (bt356.1 == bt419.1 && (bt356.2.1 == bt419.2.1 && (bt356.2.2.1.toList == bt419.2.2.toList))) = true then ((quarrylaw02_text.f a0).bind fun bt422 => (if (bt370.1 == bt422.1 && (bt370.2.1 == bt422.2.1 && (bt370.2.2.1.toList == bt422.2.2.toList))) = true then ((quarrylaw02_text.f a1).bind fun bt425 => (if (bt384.1 == bt425.1 && (bt384.2.1 == bt425.2.1 && (bt384.2.2.1.toList == bt425.2.2.toList))) = true then (some (bt395.1 == bt414.1 && (bt395.2.1 == bt414.2.1 && (bt395.2.2.1.toList == bt414.2.2.1.toList)))) else (none))) else (none))) else (none))) else (none)) else (none)) else (none)) else (none)) else (none)) else (none)))))))))))))) else (if bt348.2.2.2 = 8 then (if (a0.size : Int) > 2048 then (some true) else (some (decide ((a1.size : Int) > (wrap64 (2048 - (a0.size : Int))))))) else (none)))))) else (none)) = some r := H
 have A3 := Aside0.mk A30
 clear A30
 by_cases c4 : t341 = true
 ·subst c4
  have H1 : ((quarrylaw02_text.f a0).bind fun bt342 => ((quarrylaw02_text.f a1).bind fun bt345 => ((calc_Binary.f 16 bt342.1 bt342.2.1 bt342.2.2 bt345.1 bt345.2.1 bt345.2.2).bind fun bt348 => (if bt348.2.2.2 = 0 then ((calc_Call.f 1 (([(⟨bt348.1, bt348.2.1, bt348.2.2.1⟩ : S25)] : List (S25)))).bind fun bt356 => ((quarrylaw02_num.f 1).bind fun bt361 => ((quarrylaw02_num.f (a0.size : Int)).bind fun bt364 => ((calc_Call.f 5 (([(⟨bt348.1, bt348.2.1, bt348.2.2.1⟩ : S25), (⟨bt361.1, bt361.2.1, bt361.2.2⟩ : S25), (⟨bt364.1, bt364.2.1, bt364.2.2⟩ : S25)] : List (S25)))).bind fun bt370 => ((quarrylaw02_num.f (wrap64 ((a0.size : Int) + 1))).bind fun bt375 => ((quarrylaw02_num.f 1099511627776).bind fun bt378 => ((calc_Call.f 5 (([(⟨bt348.1, bt348.2.1, bt348.2.2.1⟩ : S25), (⟨bt375.1, bt375.2.1, bt375.2.2⟩ : S25), (⟨bt378.1, bt378.2.1, bt378.2.2⟩ : S25)] : List (S25)))).bind fun bt384 => ((quarrylaw02_text.f a0).bind fun bt389 => ((calc_Call.f 3 (([(⟨bt389.1, bt389.2.1, bt389.2.2⟩ : S25)] : List (S25)))).bind fun bt395 => ((quarrylaw02_text.f a0).bind fun bt400 => ((calc_Call.f 4 (([(⟨bt400.1, bt400.2.1, bt400.2.2⟩ : S25)] : List (S25)))).bind fun bt406 => ((calc_Call.f 3 (([(⟨bt406.1, bt406.2.1, bt406.2.2.1⟩ : S25)] : List (S25)))).bind fun bt414 => (if bt356.2.2.2 = 0 then (if bt370.2.2.2 = 0 then (if bt384.2.2.2 = 0 then (if bt395.2.2.2 = 0 then (if bt406.2.2.2 = 0 then (if bt414.2.2.2 = 0 then ((quarrylaw02_num.f (wrap64 ((a0.size : Int) + (a1.size : Int)))).bind fun bt419 => (if (bt356.1 == bt419.1 && (bt356.2.1 == bt419.2.1 && (bt356.2.2.1.toList == bt419.2.2.toList))) = true then ((quarrylaw02_text.f a0).bind fun bt422 => (if (bt370.1 == bt422.1 && (bt370.2.1 == bt422.2.1 && (bt370.2.2.1.toList == bt422.2.2.toList))) = true then ((quarrylaw02_text.f a1).bind fun bt425 => (if (bt384.1 == bt425.1 && (bt384.2.1 == bt425.2.1 && (bt384.2.2.1.toList == bt425.2.2.toList))) = true then (some (bt395.1 == bt414.1 && (bt395.2.1 == bt414.2.1 && (bt395.2.2.1.toList == bt414.2.2.1.toList)))) else (none))) else (none))) else (none))) else (none)) else (none)) else (none)) else (none)) else (none)) else (none)))))))))))))) else (if bt348.2.2.2 = 8 then (if (a0.size : Int) > 2048 then (some true) else (some (decide ((a1.size : Int) > (wrap64 (2048 - (a0.size : Int))))))) else (none)))))) = some r := by rw [if_pos rfl] at H; exact H
  clear H
  have H := H1
  clear H1
  replace H := Option.bind_eq_some_iff.mp H
  obtain ⟨⟨t342, t343, t344⟩, A50, H⟩ := H
  replace H : ((quarrylaw02_text.f a1).bind fun bt345 => ((calc_Binary.f 16 t342 t343 t344 bt345.1 bt345.2.1 bt345.2.2).bind fun bt348 => (if bt348.2.2.2 = 0 then ((calc_Call.f 1 (([(⟨bt348.1, bt348.2.1, bt348.2.2.1⟩ : S25)] : List (S25)))).bind fun bt356 => ((quarrylaw02_num.f 1).bind fun bt361 => ((quarrylaw02_num.f (a0.size : Int)).bind fun bt364 => ((calc_Call.f 5 (([(⟨bt348.1, bt348.2.1, bt348.2.2.1⟩ : S25), (⟨bt361.1, bt361.2.1, bt361.2.2⟩ : S25), (⟨bt364.1, bt364.2.1, bt364.2.2⟩ : S25)] : List (S25)))).bind fun bt370 => ((quarrylaw02_num.f (wrap64 ((a0.size : Int) + 1))).bind fun bt375 => ((quarrylaw02_num.f 1099511627776).bind fun bt378 => ((calc_Call.f 5 (([(⟨bt348.1, bt348.2.1, bt348.2.2.1⟩ : S25), (⟨bt375.1, bt375.2.1, bt375.2.2⟩ : S25), (⟨bt378.1, bt378.2.1, bt378.2.2⟩ : S25)] : List (S25)))).bind fun bt384 => ((quarrylaw02_text.f a0).bind fun bt389 => ((calc_Call.f 3 (([(⟨bt389.1, bt389.2.1, bt389.2.2⟩ : S25)] : List (S25)))).bind fun bt395 => ((quarrylaw02_text.f a0).bind fun bt400 => ((calc_Call.f 4 (([(⟨bt400.1, bt400.2.1, bt400.2.2⟩ : S25)] : List (S25)))).bind fun bt406 => ((calc_Call.f 3 (([(⟨bt406.1, bt406.2.1, bt406.2.2.1⟩ : S25)] : List (S25)))).bind fun bt414 => (if bt356.2.2.2 = 0 then (if bt370.2.2.2 = 0 then (if bt384.2.2.2 = 0 then (if bt395.2.2.2 = 0 then (if bt406.2.2.2 = 0 then (if bt414.2.2.2 = 0 then ((quarrylaw02_num.f (wrap64 ((a0.size : Int) + (a1.size : Int)))).bind fun bt419 => (if (bt356.1 == bt419.1 && (bt356.2.1 == bt419.2.1 && (bt356.2.2.1.toList == bt419.2.2.toList))) = true then ((quarrylaw02_text.f a0).bind fun bt422 => (if (bt370.1 == bt422.1 && (bt370.2.1 == bt422.2.1 && (bt370.2.2.1.toList == bt422.2.2.toList))) = true then ((quarrylaw02_text.f a1).bind fun bt425 => (if (bt384.1 == bt425.1 && (bt384.2.1 == bt425.2.1 && (bt384.2.2.1.toList == bt425.2.2.toList))) = true then (some (bt395.1 == bt414.1 && (bt395.2.1 == bt414.2.1 && (bt395.2.2.1.toList == bt414.2.2.1.toList)))) else (none))) else (none))) else (none))) else (none)) else (none)) else (none)) else (none)) else (none)) else (none)))))))))))))) else (if bt348.2.2.2 = 8 then (if (a0.size : Int) > 2048 then (some true) else (some (decide ((a1.size : Int) > (wrap64 (2048 - (a0.size : Int))))))) else (none))))) = some r := H
  have A5 := Aside0.mk A50
  clear A50
  replace H := Option.bind_eq_some_iff.mp H
  obtain ⟨⟨t345, t346, t347⟩, A60, H⟩ := H
  replace H : ((calc_Binary.f 16 t342 t343 t344 t345 t346 t347).bind fun bt348 => (if bt348.2.2.2 = 0 then ((calc_Call.f 1 (([(⟨bt348.1, bt348.2.1, bt348.2.2.1⟩ : S25)] : List (S25)))).bind fun bt356 => ((quarrylaw02_num.f 1).bind fun bt361 => ((quarrylaw02_num.f (a0.size : Int)).bind fun bt364 => ((calc_Call.f 5 (([(⟨bt348.1, bt348.2.1, bt348.2.2.1⟩ : S25), (⟨bt361.1, bt361.2.1, bt361.2.2⟩ : S25), (⟨bt364.1, bt364.2.1, bt364.2.2⟩ : S25)] : List (S25)))).bind fun bt370 => ((quarrylaw02_num.f (wrap64 ((a0.size : Int) + 1))).bind fun bt375 => ((quarrylaw02_num.f 1099511627776).bind fun bt378 => ((calc_Call.f 5 (([(⟨bt348.1, bt348.2.1, bt348.2.2.1⟩ : S25), (⟨bt375.1, bt375.2.1, bt375.2.2⟩ : S25), (⟨bt378.1, bt378.2.1, bt378.2.2⟩ : S25)] : List (S25)))).bind fun bt384 => ((quarrylaw02_text.f a0).bind fun bt389 => ((calc_Call.f 3 (([(⟨bt389.1, bt389.2.1, bt389.2.2⟩ : S25)] : List (S25)))).bind fun bt395 => ((quarrylaw02_text.f a0).bind fun bt400 => ((calc_Call.f 4 (([(⟨bt400.1, bt400.2.1, bt400.2.2⟩ : S25)] : List (S25)))).bind fun bt406 => ((calc_Call.f 3 (([(⟨bt406.1, bt406.2.1, bt406.2.2.1⟩ : S25)] : List (S25)))).bind fun bt414 => (if bt356.2.2.2 = 0 then (if bt370.2.2.2 = 0 then (if bt384.2.2.2 = 0 then (if bt395.2.2.2 = 0 then (if bt406.2.2.2 = 0 then (if bt414.2.2.2 = 0 then ((quarrylaw02_num.f (wrap64 ((a0.size : Int) + (a1.size : Int)))).bind fun bt419 => (if (bt356.1 == bt419.1 && (bt356.2.1 == bt419.2.1 && (bt356.2.2.1.toList == bt419.2.2.toList))) = true then ((quarrylaw02_text.f a0).bind fun bt422 => (if (bt370.1 == bt422.1 && (bt370.2.1 == bt422.2.1 && (bt370.2.2.1.toList == bt422.2.2.toList))) = true then ((quarrylaw02_text.f a1).bind fun bt425 => (if (bt384.1 == bt425.1 && (bt384.2.1 == bt425.2.1 && (bt384.2.2.1.toList == bt425.2.2.toList))) = true then (some (bt395.1 == bt414.1 && (bt395.2.1 == bt414.2.1 && (bt395.2.2.1.toList == bt414.2.2.1.toList)))) else (none))) else (none))) else (none))) else (none)) else (none)) else (none)) else (none)) else (none)) else (none)))))))))))))) else (if bt348.2.2.2 = 8 then (if (a0.size : Int) > 2048 then (some true) else (some (decide ((a1.size : Int) > (wrap64 (2048 - (a0.size : Int))))))) else (none)))) = some r := H
  have A6 := Aside0.mk A60
  clear A60
  replace H := Option.bind_eq_some_iff.mp H
  obtain ⟨⟨t348, t349, t350, t351⟩, A70, H⟩ := H
  replace H : (if t351 = 0 then ((calc_Call.f 1 (([(⟨t348, t349, t350⟩ : S25)] : List (S25)))).bind fun bt356 => ((quarrylaw02_num.f 1).bind fun bt361 => ((quarrylaw02_num.f (a0.size : Int)).bind fun bt364 => ((calc_Call.f 5 (([(⟨t348, t349, t350⟩ : S25), (⟨bt361.1, bt361.2.1, bt361.2.2⟩ : S25), (⟨bt364.1, bt364.2.1, bt364.2.2⟩ : S25)] : List (S25)))).bind fun bt370 => ((quarrylaw02_num.f (wrap64 ((a0.size : Int) + 1))).bind fun bt375 => ((quarrylaw02_num.f 1099511627776).bind fun bt378 => ((calc_Call.f 5 (([(⟨t348, t349, t350⟩ : S25), (⟨bt375.1, bt375.2.1, bt375.2.2⟩ : S25), (⟨bt378.1, bt378.2.1, bt378.2.2⟩ : S25)] : List (S25)))).bind fun bt384 => ((quarrylaw02_text.f a0).bind fun bt389 => ((calc_Call.f 3 (([(⟨bt389.1, bt389.2.1, bt389.2.2⟩ : S25)] : List (S25)))).bind fun bt395 => ((quarrylaw02_text.f a0).bind fun bt400 => ((calc_Call.f 4 (([(⟨bt400.1, bt400.2.1, bt400.2.2⟩ : S25)] : List (S25)))).bind fun bt406 => ((calc_Call.f 3 (([(⟨bt406.1, bt406.2.1, bt406.2.2.1⟩ : S25)] : List (S25)))).bind fun bt414 => (if bt356.2.2.2 = 0 then (if bt370.2.2.2 = 0 then (if bt384.2.2.2 = 0 then (if bt395.2.2.2 = 0 then (if bt406.2.2.2 = 0 then (if bt414.2.2.2 = 0 then ((quarrylaw02_num.f (wrap64 ((a0.size : Int) + (a1.size : Int)))).bind fun bt419 => (if (bt356.1 == bt419.1 && (bt356.2.1 == bt419.2.1 && (bt356.2.2.1.toList == bt419.2.2.toList))) = true then ((quarrylaw02_text.f a0).bind fun bt422 => (if (bt370.1 == bt422.1 && (bt370.2.1 == bt422.2.1 && (bt370.2.2.1.toList == bt422.2.2.toList))) = true then ((quarrylaw02_text.f a1).bind fun bt425 => (if (bt384.1 == bt425.1 && (bt384.2.1 == bt425.2.1 && (bt384.2.2.1.toList == bt425.2.2.toList))) = true then (some (bt395.1 == bt414.1 && (bt395.2.1 == bt414.2.1 && (bt395.2.2.1.toList == bt414.2.2.1.toList)))) else (none))) else (none))) else (none))) else (none)) else (none)) else (none)) else (none)) else (none)) else (none)))))))))))))) else (if t351 = 8 then (if (a0.size : Int) > 2048 then (some true) else (some (decide ((a1.size : Int) > (wrap64 (2048 - (a0.size : Int))))))) else (none))) = some r := H
  have A7 := Aside0.mk A70
  clear A70
  by_cases c8 : t351 = 0
  ·rw [if_pos c8] at H
   have c8b0 : (t351 == 0) = true := beq_iff_eq.mpr c8
   have c8b1 : (t351 != 0) = false := bne_eq_false_iff_eq.mpr c8
   clear c8
   obtain ⟨y353, hy353⟩ : ∃ y_ : List (S25), y_ = (([(⟨t348, t349, t350⟩ : S25)] : List (S25))) := ⟨_, rfl⟩
   replace H : ((calc_Call.f 1 y353).bind fun bt356 => ((quarrylaw02_num.f 1).bind fun bt361 => ((quarrylaw02_num.f (a0.size : Int)).bind fun bt364 => ((calc_Call.f 5 (([(⟨t348, t349, t350⟩ : S25), (⟨bt361.1, bt361.2.1, bt361.2.2⟩ : S25), (⟨bt364.1, bt364.2.1, bt364.2.2⟩ : S25)] : List (S25)))).bind fun bt370 => ((quarrylaw02_num.f (wrap64 ((a0.size : Int) + 1))).bind fun bt375 => ((quarrylaw02_num.f 1099511627776).bind fun bt378 => ((calc_Call.f 5 (([(⟨t348, t349, t350⟩ : S25), (⟨bt375.1, bt375.2.1, bt375.2.2⟩ : S25), (⟨bt378.1, bt378.2.1, bt378.2.2⟩ : S25)] : List (S25)))).bind fun bt384 => ((quarrylaw02_text.f a0).bind fun bt389 => ((calc_Call.f 3 (([(⟨bt389.1, bt389.2.1, bt389.2.2⟩ : S25)] : List (S25)))).bind fun bt395 => ((quarrylaw02_text.f a0).bind fun bt400 => ((calc_Call.f 4 (([(⟨bt400.1, bt400.2.1, bt400.2.2⟩ : S25)] : List (S25)))).bind fun bt406 => ((calc_Call.f 3 (([(⟨bt406.1, bt406.2.1, bt406.2.2.1⟩ : S25)] : List (S25)))).bind fun bt414 => (if bt356.2.2.2 = 0 then (if bt370.2.2.2 = 0 then (if bt384.2.2.2 = 0 then (if bt395.2.2.2 = 0 then (if bt406.2.2.2 = 0 then (if bt414.2.2.2 = 0 then ((quarrylaw02_num.f (wrap64 ((a0.size : Int) + (a1.size : Int)))).bind fun bt419 => (if (bt356.1 == bt419.1 && (bt356.2.1 == bt419.2.1 && (bt356.2.2.1.toList == bt419.2.2.toList))) = true then ((quarrylaw02_text.f a0).bind fun bt422 => (if (bt370.1 == bt422.1 && (bt370.2.1 == bt422.2.1 && (bt370.2.2.1.toList == bt422.2.2.toList))) = true then ((quarrylaw02_text.f a1).bind fun bt425 => (if (bt384.1 == bt425.1 && (bt384.2.1 == bt425.2.1 && (bt384.2.2.1.toList == bt425.2.2.toList))) = true then (some (bt395.1 == bt414.1 && (bt395.2.1 == bt414.2.1 && (bt395.2.2.1.toList == bt414.2.2.1.toList)))) else (none))) else (none))) else (none))) else (none)) else (none)) else (none)) else (none)) else (none)) else (none)))))))))))))) = some r := by first | (rw [hy353]; with_reducible exact H) | (have H2_ := (Option.bind_some _ _).symm.trans H; rw [hy353]; with_reducible exact H2_) | (have H2_ := (Option.bind_some _ _).symm.trans H; with_reducible exact H2_) | with_reducible exact H | (rw [hy353]; exact H) | exact H
   have Ny353 := Aside0.mk hy353
   clear hy353
   replace H := Option.bind_eq_some_iff.mp H
   obtain ⟨⟨t356, t357, t358, t359⟩, A90, H⟩ := H
   replace H : ((quarrylaw02_num.f 1).bind fun bt361 => ((quarrylaw02_num.f (a0.size : Int)).bind fun bt364 => ((calc_Call.f 5 (([(⟨t348, t349, t350⟩ : S25), (⟨bt361.1, bt361.2.1, bt361.2.2⟩ : S25), (⟨bt364.1, bt364.2.1, bt364.2.2⟩ : S25)] : List (S25)))).bind fun bt370 => ((quarrylaw02_num.f (wrap64 ((a0.size : Int) + 1))).bind fun bt375 => ((quarrylaw02_num.f 1099511627776).bind fun bt378 => ((calc_Call.f 5 (([(⟨t348, t349, t350⟩ : S25), (⟨bt375.1, bt375.2.1, bt375.2.2⟩ : S25), (⟨bt378.1, bt378.2.1, bt378.2.2⟩ : S25)] : List (S25)))).bind fun bt384 => ((quarrylaw02_text.f a0).bind fun bt389 => ((calc_Call.f 3 (([(⟨bt389.1, bt389.2.1, bt389.2.2⟩ : S25)] : List (S25)))).bind fun bt395 => ((quarrylaw02_text.f a0).bind fun bt400 => ((calc_Call.f 4 (([(⟨bt400.1, bt400.2.1, bt400.2.2⟩ : S25)] : List (S25)))).bind fun bt406 => ((calc_Call.f 3 (([(⟨bt406.1, bt406.2.1, bt406.2.2.1⟩ : S25)] : List (S25)))).bind fun bt414 => (if t359 = 0 then (if bt370.2.2.2 = 0 then (if bt384.2.2.2 = 0 then (if bt395.2.2.2 = 0 then (if bt406.2.2.2 = 0 then (if bt414.2.2.2 = 0 then ((quarrylaw02_num.f (wrap64 ((a0.size : Int) + (a1.size : Int)))).bind fun bt419 => (if (t356 == bt419.1 && (t357 == bt419.2.1 && (t358.toList == bt419.2.2.toList))) = true then ((quarrylaw02_text.f a0).bind fun bt422 => (if (bt370.1 == bt422.1 && (bt370.2.1 == bt422.2.1 && (bt370.2.2.1.toList == bt422.2.2.toList))) = true then ((quarrylaw02_text.f a1).bind fun bt425 => (if (bt384.1 == bt425.1 && (bt384.2.1 == bt425.2.1 && (bt384.2.2.1.toList == bt425.2.2.toList))) = true then (some (bt395.1 == bt414.1 && (bt395.2.1 == bt414.2.1 && (bt395.2.2.1.toList == bt414.2.2.1.toList)))) else (none))) else (none))) else (none))) else (none)) else (none)) else (none)) else (none)) else (none)) else (none))))))))))))) = some r := H
   have A9 := Aside0.mk A90
   clear A90
   replace H := Option.bind_eq_some_iff.mp H
   obtain ⟨⟨t361, t362, t363⟩, A100, H⟩ := H
   replace H : ((quarrylaw02_num.f (a0.size : Int)).bind fun bt364 => ((calc_Call.f 5 (([(⟨t348, t349, t350⟩ : S25), (⟨t361, t362, t363⟩ : S25), (⟨bt364.1, bt364.2.1, bt364.2.2⟩ : S25)] : List (S25)))).bind fun bt370 => ((quarrylaw02_num.f (wrap64 ((a0.size : Int) + 1))).bind fun bt375 => ((quarrylaw02_num.f 1099511627776).bind fun bt378 => ((calc_Call.f 5 (([(⟨t348, t349, t350⟩ : S25), (⟨bt375.1, bt375.2.1, bt375.2.2⟩ : S25), (⟨bt378.1, bt378.2.1, bt378.2.2⟩ : S25)] : List (S25)))).bind fun bt384 => ((quarrylaw02_text.f a0).bind fun bt389 => ((calc_Call.f 3 (([(⟨bt389.1, bt389.2.1, bt389.2.2⟩ : S25)] : List (S25)))).bind fun bt395 => ((quarrylaw02_text.f a0).bind fun bt400 => ((calc_Call.f 4 (([(⟨bt400.1, bt400.2.1, bt400.2.2⟩ : S25)] : List (S25)))).bind fun bt406 => ((calc_Call.f 3 (([(⟨bt406.1, bt406.2.1, bt406.2.2.1⟩ : S25)] : List (S25)))).bind fun bt414 => (if t359 = 0 then (if bt370.2.2.2 = 0 then (if bt384.2.2.2 = 0 then (if bt395.2.2.2 = 0 then (if bt406.2.2.2 = 0 then (if bt414.2.2.2 = 0 then ((quarrylaw02_num.f (wrap64 ((a0.size : Int) + (a1.size : Int)))).bind fun bt419 => (if (t356 == bt419.1 && (t357 == bt419.2.1 && (t358.toList == bt419.2.2.toList))) = true then ((quarrylaw02_text.f a0).bind fun bt422 => (if (bt370.1 == bt422.1 && (bt370.2.1 == bt422.2.1 && (bt370.2.2.1.toList == bt422.2.2.toList))) = true then ((quarrylaw02_text.f a1).bind fun bt425 => (if (bt384.1 == bt425.1 && (bt384.2.1 == bt425.2.1 && (bt384.2.2.1.toList == bt425.2.2.toList))) = true then (some (bt395.1 == bt414.1 && (bt395.2.1 == bt414.2.1 && (bt395.2.2.1.toList == bt414.2.2.1.toList)))) else (none))) else (none))) else (none))) else (none)) else (none)) else (none)) else (none)) else (none)) else (none)))))))))))) = some r := H
   have A10 := Aside0.mk A100
   clear A100
   replace H := Option.bind_eq_some_iff.mp H
   obtain ⟨⟨t364, t365, t366⟩, A110, H⟩ := H
   replace H : ((calc_Call.f 5 (([(⟨t348, t349, t350⟩ : S25), (⟨t361, t362, t363⟩ : S25), (⟨t364, t365, t366⟩ : S25)] : List (S25)))).bind fun bt370 => ((quarrylaw02_num.f (wrap64 ((a0.size : Int) + 1))).bind fun bt375 => ((quarrylaw02_num.f 1099511627776).bind fun bt378 => ((calc_Call.f 5 (([(⟨t348, t349, t350⟩ : S25), (⟨bt375.1, bt375.2.1, bt375.2.2⟩ : S25), (⟨bt378.1, bt378.2.1, bt378.2.2⟩ : S25)] : List (S25)))).bind fun bt384 => ((quarrylaw02_text.f a0).bind fun bt389 => ((calc_Call.f 3 (([(⟨bt389.1, bt389.2.1, bt389.2.2⟩ : S25)] : List (S25)))).bind fun bt395 => ((quarrylaw02_text.f a0).bind fun bt400 => ((calc_Call.f 4 (([(⟨bt400.1, bt400.2.1, bt400.2.2⟩ : S25)] : List (S25)))).bind fun bt406 => ((calc_Call.f 3 (([(⟨bt406.1, bt406.2.1, bt406.2.2.1⟩ : S25)] : List (S25)))).bind fun bt414 => (if t359 = 0 then (if bt370.2.2.2 = 0 then (if bt384.2.2.2 = 0 then (if bt395.2.2.2 = 0 then (if bt406.2.2.2 = 0 then (if bt414.2.2.2 = 0 then ((quarrylaw02_num.f (wrap64 ((a0.size : Int) + (a1.size : Int)))).bind fun bt419 => (if (t356 == bt419.1 && (t357 == bt419.2.1 && (t358.toList == bt419.2.2.toList))) = true then ((quarrylaw02_text.f a0).bind fun bt422 => (if (bt370.1 == bt422.1 && (bt370.2.1 == bt422.2.1 && (bt370.2.2.1.toList == bt422.2.2.toList))) = true then ((quarrylaw02_text.f a1).bind fun bt425 => (if (bt384.1 == bt425.1 && (bt384.2.1 == bt425.2.1 && (bt384.2.2.1.toList == bt425.2.2.toList))) = true then (some (bt395.1 == bt414.1 && (bt395.2.1 == bt414.2.1 && (bt395.2.2.1.toList == bt414.2.2.1.toList)))) else (none))) else (none))) else (none))) else (none)) else (none)) else (none)) else (none)) else (none)) else (none))))))))))) = some r := H
   have A11 := Aside0.mk A110
   clear A110
   obtain ⟨y367, hy367⟩ : ∃ y_ : List (S25), y_ = (([(⟨t348, t349, t350⟩ : S25), (⟨t361, t362, t363⟩ : S25), (⟨t364, t365, t366⟩ : S25)] : List (S25))) := ⟨_, rfl⟩
   replace H : ((calc_Call.f 5 y367).bind fun bt370 => ((quarrylaw02_num.f (wrap64 ((a0.size : Int) + 1))).bind fun bt375 => ((quarrylaw02_num.f 1099511627776).bind fun bt378 => ((calc_Call.f 5 (([(⟨t348, t349, t350⟩ : S25), (⟨bt375.1, bt375.2.1, bt375.2.2⟩ : S25), (⟨bt378.1, bt378.2.1, bt378.2.2⟩ : S25)] : List (S25)))).bind fun bt384 => ((quarrylaw02_text.f a0).bind fun bt389 => ((calc_Call.f 3 (([(⟨bt389.1, bt389.2.1, bt389.2.2⟩ : S25)] : List (S25)))).bind fun bt395 => ((quarrylaw02_text.f a0).bind fun bt400 => ((calc_Call.f 4 (([(⟨bt400.1, bt400.2.1, bt400.2.2⟩ : S25)] : List (S25)))).bind fun bt406 => ((calc_Call.f 3 (([(⟨bt406.1, bt406.2.1, bt406.2.2.1⟩ : S25)] : List (S25)))).bind fun bt414 => (if t359 = 0 then (if bt370.2.2.2 = 0 then (if bt384.2.2.2 = 0 then (if bt395.2.2.2 = 0 then (if bt406.2.2.2 = 0 then (if bt414.2.2.2 = 0 then ((quarrylaw02_num.f (wrap64 ((a0.size : Int) + (a1.size : Int)))).bind fun bt419 => (if (t356 == bt419.1 && (t357 == bt419.2.1 && (t358.toList == bt419.2.2.toList))) = true then ((quarrylaw02_text.f a0).bind fun bt422 => (if (bt370.1 == bt422.1 && (bt370.2.1 == bt422.2.1 && (bt370.2.2.1.toList == bt422.2.2.toList))) = true then ((quarrylaw02_text.f a1).bind fun bt425 => (if (bt384.1 == bt425.1 && (bt384.2.1 == bt425.2.1 && (bt384.2.2.1.toList == bt425.2.2.toList))) = true then (some (bt395.1 == bt414.1 && (bt395.2.1 == bt414.2.1 && (bt395.2.2.1.toList == bt414.2.2.1.toList)))) else (none))) else (none))) else (none))) else (none)) else (none)) else (none)) else (none)) else (none)) else (none))))))))))) = some r := by first | (rw [hy367]; with_reducible exact H) | (have H2_ := (Option.bind_some _ _).symm.trans H; rw [hy367]; with_reducible exact H2_) | (have H2_ := (Option.bind_some _ _).symm.trans H; with_reducible exact H2_) | with_reducible exact H | (rw [hy367]; exact H) | exact H
   have Ny367 := Aside0.mk hy367
   clear hy367
   replace H := Option.bind_eq_some_iff.mp H
   obtain ⟨⟨t370, t371, t372, t373⟩, A120, H⟩ := H
   replace H : ((quarrylaw02_num.f (wrap64 ((a0.size : Int) + 1))).bind fun bt375 => ((quarrylaw02_num.f 1099511627776).bind fun bt378 => ((calc_Call.f 5 (([(⟨t348, t349, t350⟩ : S25), (⟨bt375.1, bt375.2.1, bt375.2.2⟩ : S25), (⟨bt378.1, bt378.2.1, bt378.2.2⟩ : S25)] : List (S25)))).bind fun bt384 => ((quarrylaw02_text.f a0).bind fun bt389 => ((calc_Call.f 3 (([(⟨bt389.1, bt389.2.1, bt389.2.2⟩ : S25)] : List (S25)))).bind fun bt395 => ((quarrylaw02_text.f a0).bind fun bt400 => ((calc_Call.f 4 (([(⟨bt400.1, bt400.2.1, bt400.2.2⟩ : S25)] : List (S25)))).bind fun bt406 => ((calc_Call.f 3 (([(⟨bt406.1, bt406.2.1, bt406.2.2.1⟩ : S25)] : List (S25)))).bind fun bt414 => (if t359 = 0 then (if t373 = 0 then (if bt384.2.2.2 = 0 then (if bt395.2.2.2 = 0 then (if bt406.2.2.2 = 0 then (if bt414.2.2.2 = 0 then ((quarrylaw02_num.f (wrap64 ((a0.size : Int) + (a1.size : Int)))).bind fun bt419 => (if (t356 == bt419.1 && (t357 == bt419.2.1 && (t358.toList == bt419.2.2.toList))) = true then ((quarrylaw02_text.f a0).bind fun bt422 => (if (t370 == bt422.1 && (t371 == bt422.2.1 && (t372.toList == bt422.2.2.toList))) = true then ((quarrylaw02_text.f a1).bind fun bt425 => (if (bt384.1 == bt425.1 && (bt384.2.1 == bt425.2.1 && (bt384.2.2.1.toList == bt425.2.2.toList))) = true then (some (bt395.1 == bt414.1 && (bt395.2.1 == bt414.2.1 && (bt395.2.2.1.toList == bt414.2.2.1.toList)))) else (none))) else (none))) else (none))) else (none)) else (none)) else (none)) else (none)) else (none)) else (none)))))))))) = some r := H
   have A12 := Aside0.mk A120
   clear A120
   replace H := Option.bind_eq_some_iff.mp H
   obtain ⟨⟨t375, t376, t377⟩, A130, H⟩ := H
   replace H : ((quarrylaw02_num.f 1099511627776).bind fun bt378 => ((calc_Call.f 5 (([(⟨t348, t349, t350⟩ : S25), (⟨t375, t376, t377⟩ : S25), (⟨bt378.1, bt378.2.1, bt378.2.2⟩ : S25)] : List (S25)))).bind fun bt384 => ((quarrylaw02_text.f a0).bind fun bt389 => ((calc_Call.f 3 (([(⟨bt389.1, bt389.2.1, bt389.2.2⟩ : S25)] : List (S25)))).bind fun bt395 => ((quarrylaw02_text.f a0).bind fun bt400 => ((calc_Call.f 4 (([(⟨bt400.1, bt400.2.1, bt400.2.2⟩ : S25)] : List (S25)))).bind fun bt406 => ((calc_Call.f 3 (([(⟨bt406.1, bt406.2.1, bt406.2.2.1⟩ : S25)] : List (S25)))).bind fun bt414 => (if t359 = 0 then (if t373 = 0 then (if bt384.2.2.2 = 0 then (if bt395.2.2.2 = 0 then (if bt406.2.2.2 = 0 then (if bt414.2.2.2 = 0 then ((quarrylaw02_num.f (wrap64 ((a0.size : Int) + (a1.size : Int)))).bind fun bt419 => (if (t356 == bt419.1 && (t357 == bt419.2.1 && (t358.toList == bt419.2.2.toList))) = true then ((quarrylaw02_text.f a0).bind fun bt422 => (if (t370 == bt422.1 && (t371 == bt422.2.1 && (t372.toList == bt422.2.2.toList))) = true then ((quarrylaw02_text.f a1).bind fun bt425 => (if (bt384.1 == bt425.1 && (bt384.2.1 == bt425.2.1 && (bt384.2.2.1.toList == bt425.2.2.toList))) = true then (some (bt395.1 == bt414.1 && (bt395.2.1 == bt414.2.1 && (bt395.2.2.1.toList == bt414.2.2.1.toList)))) else (none))) else (none))) else (none))) else (none)) else (none)) else (none)) else (none)) else (none)) else (none))))))))) = some r := H
   have A13 := Aside0.mk A130
   clear A130
   replace H := Option.bind_eq_some_iff.mp H
   obtain ⟨⟨t378, t379, t380⟩, A140, H⟩ := H
   replace H : ((calc_Call.f 5 (([(⟨t348, t349, t350⟩ : S25), (⟨t375, t376, t377⟩ : S25), (⟨t378, t379, t380⟩ : S25)] : List (S25)))).bind fun bt384 => ((quarrylaw02_text.f a0).bind fun bt389 => ((calc_Call.f 3 (([(⟨bt389.1, bt389.2.1, bt389.2.2⟩ : S25)] : List (S25)))).bind fun bt395 => ((quarrylaw02_text.f a0).bind fun bt400 => ((calc_Call.f 4 (([(⟨bt400.1, bt400.2.1, bt400.2.2⟩ : S25)] : List (S25)))).bind fun bt406 => ((calc_Call.f 3 (([(⟨bt406.1, bt406.2.1, bt406.2.2.1⟩ : S25)] : List (S25)))).bind fun bt414 => (if t359 = 0 then (if t373 = 0 then (if bt384.2.2.2 = 0 then (if bt395.2.2.2 = 0 then (if bt406.2.2.2 = 0 then (if bt414.2.2.2 = 0 then ((quarrylaw02_num.f (wrap64 ((a0.size : Int) + (a1.size : Int)))).bind fun bt419 => (if (t356 == bt419.1 && (t357 == bt419.2.1 && (t358.toList == bt419.2.2.toList))) = true then ((quarrylaw02_text.f a0).bind fun bt422 => (if (t370 == bt422.1 && (t371 == bt422.2.1 && (t372.toList == bt422.2.2.toList))) = true then ((quarrylaw02_text.f a1).bind fun bt425 => (if (bt384.1 == bt425.1 && (bt384.2.1 == bt425.2.1 && (bt384.2.2.1.toList == bt425.2.2.toList))) = true then (some (bt395.1 == bt414.1 && (bt395.2.1 == bt414.2.1 && (bt395.2.2.1.toList == bt414.2.2.1.toList)))) else (none))) else (none))) else (none))) else (none)) else (none)) else (none)) else (none)) else (none)) else (none)))))))) = some r := H
   have A14 := Aside0.mk A140
   clear A140
   obtain ⟨y381, hy381⟩ : ∃ y_ : List (S25), y_ = (([(⟨t348, t349, t350⟩ : S25), (⟨t375, t376, t377⟩ : S25), (⟨t378, t379, t380⟩ : S25)] : List (S25))) := ⟨_, rfl⟩
   replace H : ((calc_Call.f 5 y381).bind fun bt384 => ((quarrylaw02_text.f a0).bind fun bt389 => ((calc_Call.f 3 (([(⟨bt389.1, bt389.2.1, bt389.2.2⟩ : S25)] : List (S25)))).bind fun bt395 => ((quarrylaw02_text.f a0).bind fun bt400 => ((calc_Call.f 4 (([(⟨bt400.1, bt400.2.1, bt400.2.2⟩ : S25)] : List (S25)))).bind fun bt406 => ((calc_Call.f 3 (([(⟨bt406.1, bt406.2.1, bt406.2.2.1⟩ : S25)] : List (S25)))).bind fun bt414 => (if t359 = 0 then (if t373 = 0 then (if bt384.2.2.2 = 0 then (if bt395.2.2.2 = 0 then (if bt406.2.2.2 = 0 then (if bt414.2.2.2 = 0 then ((quarrylaw02_num.f (wrap64 ((a0.size : Int) + (a1.size : Int)))).bind fun bt419 => (if (t356 == bt419.1 && (t357 == bt419.2.1 && (t358.toList == bt419.2.2.toList))) = true then ((quarrylaw02_text.f a0).bind fun bt422 => (if (t370 == bt422.1 && (t371 == bt422.2.1 && (t372.toList == bt422.2.2.toList))) = true then ((quarrylaw02_text.f a1).bind fun bt425 => (if (bt384.1 == bt425.1 && (bt384.2.1 == bt425.2.1 && (bt384.2.2.1.toList == bt425.2.2.toList))) = true then (some (bt395.1 == bt414.1 && (bt395.2.1 == bt414.2.1 && (bt395.2.2.1.toList == bt414.2.2.1.toList)))) else (none))) else (none))) else (none))) else (none)) else (none)) else (none)) else (none)) else (none)) else (none)))))))) = some r := by first | (rw [hy381]; with_reducible exact H) | (have H2_ := (Option.bind_some _ _).symm.trans H; rw [hy381]; with_reducible exact H2_) | (have H2_ := (Option.bind_some _ _).symm.trans H; with_reducible exact H2_) | with_reducible exact H | (rw [hy381]; exact H) | exact H
   have Ny381 := Aside0.mk hy381
   clear hy381
   replace H := Option.bind_eq_some_iff.mp H
   obtain ⟨⟨t384, t385, t386, t387⟩, A150, H⟩ := H
   replace H : ((quarrylaw02_text.f a0).bind fun bt389 => ((calc_Call.f 3 (([(⟨bt389.1, bt389.2.1, bt389.2.2⟩ : S25)] : List (S25)))).bind fun bt395 => ((quarrylaw02_text.f a0).bind fun bt400 => ((calc_Call.f 4 (([(⟨bt400.1, bt400.2.1, bt400.2.2⟩ : S25)] : List (S25)))).bind fun bt406 => ((calc_Call.f 3 (([(⟨bt406.1, bt406.2.1, bt406.2.2.1⟩ : S25)] : List (S25)))).bind fun bt414 => (if t359 = 0 then (if t373 = 0 then (if t387 = 0 then (if bt395.2.2.2 = 0 then (if bt406.2.2.2 = 0 then (if bt414.2.2.2 = 0 then ((quarrylaw02_num.f (wrap64 ((a0.size : Int) + (a1.size : Int)))).bind fun bt419 => (if (t356 == bt419.1 && (t357 == bt419.2.1 && (t358.toList == bt419.2.2.toList))) = true then ((quarrylaw02_text.f a0).bind fun bt422 => (if (t370 == bt422.1 && (t371 == bt422.2.1 && (t372.toList == bt422.2.2.toList))) = true then ((quarrylaw02_text.f a1).bind fun bt425 => (if (t384 == bt425.1 && (t385 == bt425.2.1 && (t386.toList == bt425.2.2.toList))) = true then (some (bt395.1 == bt414.1 && (bt395.2.1 == bt414.2.1 && (bt395.2.2.1.toList == bt414.2.2.1.toList)))) else (none))) else (none))) else (none))) else (none)) else (none)) else (none)) else (none)) else (none)) else (none))))))) = some r := H
   have A15 := Aside0.mk A150
   clear A150
   replace H := Option.bind_eq_some_iff.mp H
   obtain ⟨⟨t389, t390, t391⟩, A160, H⟩ := H
   replace H : ((calc_Call.f 3 (([(⟨t389, t390, t391⟩ : S25)] : List (S25)))).bind fun bt395 => ((quarrylaw02_text.f a0).bind fun bt400 => ((calc_Call.f 4 (([(⟨bt400.1, bt400.2.1, bt400.2.2⟩ : S25)] : List (S25)))).bind fun bt406 => ((calc_Call.f 3 (([(⟨bt406.1, bt406.2.1, bt406.2.2.1⟩ : S25)] : List (S25)))).bind fun bt414 => (if t359 = 0 then (if t373 = 0 then (if t387 = 0 then (if bt395.2.2.2 = 0 then (if bt406.2.2.2 = 0 then (if bt414.2.2.2 = 0 then ((quarrylaw02_num.f (wrap64 ((a0.size : Int) + (a1.size : Int)))).bind fun bt419 => (if (t356 == bt419.1 && (t357 == bt419.2.1 && (t358.toList == bt419.2.2.toList))) = true then ((quarrylaw02_text.f a0).bind fun bt422 => (if (t370 == bt422.1 && (t371 == bt422.2.1 && (t372.toList == bt422.2.2.toList))) = true then ((quarrylaw02_text.f a1).bind fun bt425 => (if (t384 == bt425.1 && (t385 == bt425.2.1 && (t386.toList == bt425.2.2.toList))) = true then (some (bt395.1 == bt414.1 && (bt395.2.1 == bt414.2.1 && (bt395.2.2.1.toList == bt414.2.2.1.toList)))) else (none))) else (none))) else (none))) else (none)) else (none)) else (none)) else (none)) else (none)) else (none)))))) = some r := H
   have A16 := Aside0.mk A160
   clear A160
   obtain ⟨y392, hy392⟩ : ∃ y_ : List (S25), y_ = (([(⟨t389, t390, t391⟩ : S25)] : List (S25))) := ⟨_, rfl⟩
   replace H : ((calc_Call.f 3 y392).bind fun bt395 => ((quarrylaw02_text.f a0).bind fun bt400 => ((calc_Call.f 4 (([(⟨bt400.1, bt400.2.1, bt400.2.2⟩ : S25)] : List (S25)))).bind fun bt406 => ((calc_Call.f 3 (([(⟨bt406.1, bt406.2.1, bt406.2.2.1⟩ : S25)] : List (S25)))).bind fun bt414 => (if t359 = 0 then (if t373 = 0 then (if t387 = 0 then (if bt395.2.2.2 = 0 then (if bt406.2.2.2 = 0 then (if bt414.2.2.2 = 0 then ((quarrylaw02_num.f (wrap64 ((a0.size : Int) + (a1.size : Int)))).bind fun bt419 => (if (t356 == bt419.1 && (t357 == bt419.2.1 && (t358.toList == bt419.2.2.toList))) = true then ((quarrylaw02_text.f a0).bind fun bt422 => (if (t370 == bt422.1 && (t371 == bt422.2.1 && (t372.toList == bt422.2.2.toList))) = true then ((quarrylaw02_text.f a1).bind fun bt425 => (if (t384 == bt425.1 && (t385 == bt425.2.1 && (t386.toList == bt425.2.2.toList))) = true then (some (bt395.1 == bt414.1 && (bt395.2.1 == bt414.2.1 && (bt395.2.2.1.toList == bt414.2.2.1.toList)))) else (none))) else (none))) else (none))) else (none)) else (none)) else (none)) else (none)) else (none)) else (none)))))) = some r := by first | (rw [hy392]; with_reducible exact H) | (have H2_ := (Option.bind_some _ _).symm.trans H; rw [hy392]; with_reducible exact H2_) | (have H2_ := (Option.bind_some _ _).symm.trans H; with_reducible exact H2_) | with_reducible exact H | (rw [hy392]; exact H) | exact H
   have Ny392 := Aside0.mk hy392
   clear hy392
   replace H := Option.bind_eq_some_iff.mp H
   obtain ⟨⟨t395, t396, t397, t398⟩, A170, H⟩ := H
   replace H : ((quarrylaw02_text.f a0).bind fun bt400 => ((calc_Call.f 4 (([(⟨bt400.1, bt400.2.1, bt400.2.2⟩ : S25)] : List (S25)))).bind fun bt406 => ((calc_Call.f 3 (([(⟨bt406.1, bt406.2.1, bt406.2.2.1⟩ : S25)] : List (S25)))).bind fun bt414 => (if t359 = 0 then (if t373 = 0 then (if t387 = 0 then (if t398 = 0 then (if bt406.2.2.2 = 0 then (if bt414.2.2.2 = 0 then ((quarrylaw02_num.f (wrap64 ((a0.size : Int) + (a1.size : Int)))).bind fun bt419 => (if (t356 == bt419.1 && (t357 == bt419.2.1 && (t358.toList == bt419.2.2.toList))) = true then ((quarrylaw02_text.f a0).bind fun bt422 => (if (t370 == bt422.1 && (t371 == bt422.2.1 && (t372.toList == bt422.2.2.toList))) = true then ((quarrylaw02_text.f a1).bind fun bt425 => (if (t384 == bt425.1 && (t385 == bt425.2.1 && (t386.toList == bt425.2.2.toList))) = true then (some (t395 == bt414.1 && (t396 == bt414.2.1 && (t397.toList == bt414.2.2.1.toList)))) else (none))) else (none))) else (none))) else (none)) else (none)) else (none)) else (none)) else (none)) else (none))))) = some r := H
   have A17 := Aside0.mk A170
   clear A170
   replace H := Option.bind_eq_some_iff.mp H
   obtain ⟨⟨t400, t401, t402⟩, A180, H⟩ := H
   replace H : ((calc_Call.f 4 (([(⟨t400, t401, t402⟩ : S25)] : List (S25)))).bind fun bt406 => ((calc_Call.f 3 (([(⟨bt406.1, bt406.2.1, bt406.2.2.1⟩ : S25)] : List (S25)))).bind fun bt414 => (if t359 = 0 then (if t373 = 0 then (if t387 = 0 then (if t398 = 0 then (if bt406.2.2.2 = 0 then (if bt414.2.2.2 = 0 then ((quarrylaw02_num.f (wrap64 ((a0.size : Int) + (a1.size : Int)))).bind fun bt419 => (if (t356 == bt419.1 && (t357 == bt419.2.1 && (t358.toList == bt419.2.2.toList))) = true then ((quarrylaw02_text.f a0).bind fun bt422 => (if (t370 == bt422.1 && (t371 == bt422.2.1 && (t372.toList == bt422.2.2.toList))) = true then ((quarrylaw02_text.f a1).bind fun bt425 => (if (t384 == bt425.1 && (t385 == bt425.2.1 && (t386.toList == bt425.2.2.toList))) = true then (some (t395 == bt414.1 && (t396 == bt414.2.1 && (t397.toList == bt414.2.2.1.toList)))) else (none))) else (none))) else (none))) else (none)) else (none)) else (none)) else (none)) else (none)) else (none)))) = some r := H
   have A18 := Aside0.mk A180
   clear A180
   obtain ⟨y403, hy403⟩ : ∃ y_ : List (S25), y_ = (([(⟨t400, t401, t402⟩ : S25)] : List (S25))) := ⟨_, rfl⟩
   replace H : ((calc_Call.f 4 y403).bind fun bt406 => ((calc_Call.f 3 (([(⟨bt406.1, bt406.2.1, bt406.2.2.1⟩ : S25)] : List (S25)))).bind fun bt414 => (if t359 = 0 then (if t373 = 0 then (if t387 = 0 then (if t398 = 0 then (if bt406.2.2.2 = 0 then (if bt414.2.2.2 = 0 then ((quarrylaw02_num.f (wrap64 ((a0.size : Int) + (a1.size : Int)))).bind fun bt419 => (if (t356 == bt419.1 && (t357 == bt419.2.1 && (t358.toList == bt419.2.2.toList))) = true then ((quarrylaw02_text.f a0).bind fun bt422 => (if (t370 == bt422.1 && (t371 == bt422.2.1 && (t372.toList == bt422.2.2.toList))) = true then ((quarrylaw02_text.f a1).bind fun bt425 => (if (t384 == bt425.1 && (t385 == bt425.2.1 && (t386.toList == bt425.2.2.toList))) = true then (some (t395 == bt414.1 && (t396 == bt414.2.1 && (t397.toList == bt414.2.2.1.toList)))) else (none))) else (none))) else (none))) else (none)) else (none)) else (none)) else (none)) else (none)) else (none)))) = some r := by first | (rw [hy403]; with_reducible exact H) | (have H2_ := (Option.bind_some _ _).symm.trans H; rw [hy403]; with_reducible exact H2_) | (have H2_ := (Option.bind_some _ _).symm.trans H; with_reducible exact H2_) | with_reducible exact H | (rw [hy403]; exact H) | exact H
   have Ny403 := Aside0.mk hy403
   clear hy403
   replace H := Option.bind_eq_some_iff.mp H
   obtain ⟨⟨t406, t407, t408, t409⟩, A190, H⟩ := H
   replace H : ((calc_Call.f 3 (([(⟨t406, t407, t408⟩ : S25)] : List (S25)))).bind fun bt414 => (if t359 = 0 then (if t373 = 0 then (if t387 = 0 then (if t398 = 0 then (if t409 = 0 then (if bt414.2.2.2 = 0 then ((quarrylaw02_num.f (wrap64 ((a0.size : Int) + (a1.size : Int)))).bind fun bt419 => (if (t356 == bt419.1 && (t357 == bt419.2.1 && (t358.toList == bt419.2.2.toList))) = true then ((quarrylaw02_text.f a0).bind fun bt422 => (if (t370 == bt422.1 && (t371 == bt422.2.1 && (t372.toList == bt422.2.2.toList))) = true then ((quarrylaw02_text.f a1).bind fun bt425 => (if (t384 == bt425.1 && (t385 == bt425.2.1 && (t386.toList == bt425.2.2.toList))) = true then (some (t395 == bt414.1 && (t396 == bt414.2.1 && (t397.toList == bt414.2.2.1.toList)))) else (none))) else (none))) else (none))) else (none)) else (none)) else (none)) else (none)) else (none)) else (none))) = some r := H
   have A19 := Aside0.mk A190
   clear A190
   obtain ⟨y411, hy411⟩ : ∃ y_ : List (S25), y_ = (([(⟨t406, t407, t408⟩ : S25)] : List (S25))) := ⟨_, rfl⟩
   replace H : ((calc_Call.f 3 y411).bind fun bt414 => (if t359 = 0 then (if t373 = 0 then (if t387 = 0 then (if t398 = 0 then (if t409 = 0 then (if bt414.2.2.2 = 0 then ((quarrylaw02_num.f (wrap64 ((a0.size : Int) + (a1.size : Int)))).bind fun bt419 => (if (t356 == bt419.1 && (t357 == bt419.2.1 && (t358.toList == bt419.2.2.toList))) = true then ((quarrylaw02_text.f a0).bind fun bt422 => (if (t370 == bt422.1 && (t371 == bt422.2.1 && (t372.toList == bt422.2.2.toList))) = true then ((quarrylaw02_text.f a1).bind fun bt425 => (if (t384 == bt425.1 && (t385 == bt425.2.1 && (t386.toList == bt425.2.2.toList))) = true then (some (t395 == bt414.1 && (t396 == bt414.2.1 && (t397.toList == bt414.2.2.1.toList)))) else (none))) else (none))) else (none))) else (none)) else (none)) else (none)) else (none)) else (none)) else (none))) = some r := by first | (rw [hy411]; with_reducible exact H) | (have H2_ := (Option.bind_some _ _).symm.trans H; rw [hy411]; with_reducible exact H2_) | (have H2_ := (Option.bind_some _ _).symm.trans H; with_reducible exact H2_) | with_reducible exact H | (rw [hy411]; exact H) | exact H
   have Ny411 := Aside0.mk hy411
   clear hy411
   replace H := Option.bind_eq_some_iff.mp H
   obtain ⟨⟨t414, t415, t416, t417⟩, A200, H⟩ := H
   replace H : (if t359 = 0 then (if t373 = 0 then (if t387 = 0 then (if t398 = 0 then (if t409 = 0 then (if t417 = 0 then ((quarrylaw02_num.f (wrap64 ((a0.size : Int) + (a1.size : Int)))).bind fun bt419 => (if (t356 == bt419.1 && (t357 == bt419.2.1 && (t358.toList == bt419.2.2.toList))) = true then ((quarrylaw02_text.f a0).bind fun bt422 => (if (t370 == bt422.1 && (t371 == bt422.2.1 && (t372.toList == bt422.2.2.toList))) = true then ((quarrylaw02_text.f a1).bind fun bt425 => (if (t384 == bt425.1 && (t385 == bt425.2.1 && (t386.toList == bt425.2.2.toList))) = true then (some (t395 == t414 && (t396 == t415 && (t397.toList == t416.toList)))) else (none))) else (none))) else (none))) else (none)) else (none)) else (none)) else (none)) else (none)) else (none)) = some r := H
   have A20 := Aside0.mk A200
   clear A200
   by_cases c21 : t359 = 0
   ·rw [if_pos c21] at H
    have c21b0 : (t359 == 0) = true := beq_iff_eq.mpr c21
    have c21b1 : (t359 != 0) = false := bne_eq_false_iff_eq.mpr c21
    clear c21
    by_cases c22 : t373 = 0
    ·rw [if_pos c22] at H
     have c22b0 : (t373 == 0) = true := beq_iff_eq.mpr c22
     have c22b1 : (t373 != 0) = false := bne_eq_false_iff_eq.mpr c22
     clear c22
     by_cases c23 : t387 = 0
     ·rw [if_pos c23] at H
      have c23b0 : (t387 == 0) = true := beq_iff_eq.mpr c23
      have c23b1 : (t387 != 0) = false := bne_eq_false_iff_eq.mpr c23
      clear c23
      by_cases c24 : t398 = 0
      ·rw [if_pos c24] at H
       have c24b0 : (t398 == 0) = true := beq_iff_eq.mpr c24
       have c24b1 : (t398 != 0) = false := bne_eq_false_iff_eq.mpr c24
       clear c24
       by_cases c25 : t409 = 0
       ·rw [if_pos c25] at H
        have c25b0 : (t409 == 0) = true := beq_iff_eq.mpr c25
        have c25b1 : (t409 != 0) = false := bne_eq_false_iff_eq.mpr c25
        clear c25
        by_cases c26 : t417 = 0
        ·rw [if_pos c26] at H
         have c26b0 : (t417 == 0) = true := beq_iff_eq.mpr c26
         have c26b1 : (t417 != 0) = false := bne_eq_false_iff_eq.mpr c26
         clear c26
         replace H := Option.bind_eq_some_iff.mp H
         obtain ⟨⟨t419, t420, t421⟩, A270, H⟩ := H
         replace H : (if (t356 == t419 && (t357 == t420 && (t358.toList == t421.toList))) = true then ((quarrylaw02_text.f a0).bind fun bt422 => (if (t370 == bt422.1 && (t371 == bt422.2.1 && (t372.toList == bt422.2.2.toList))) = true then ((quarrylaw02_text.f a1).bind fun bt425 => (if (t384 == bt425.1 && (t385 == bt425.2.1 && (t386.toList == bt425.2.2.toList))) = true then (some (t395 == t414 && (t396 == t415 && (t397.toList == t416.toList)))) else (none))) else (none))) else (none)) = some r := H
         have A27 := Aside0.mk A270
         clear A270
         by_cases c28 : (t356 == t419 && (t357 == t420 && (t358.toList == t421.toList))) = true
         ·rw [if_pos c28] at H
          have c28b0 : (t356 == t419 && (t357 == t420 && (t358.toList == t421.toList))) = true := c28
          (try (have c28b1 : decide (t356 = t419 && (t357 == t420 && (t358.toList == t421.toList))) = true := by simpa using c28))
          (try (have c28b2 : (t356 == t419 && (t357 == t420 && (t358.toList == t421.toList))) = true := by simpa using c28))
          clear c28
          replace H := Option.bind_eq_some_iff.mp H
          obtain ⟨⟨t422, t423, t424⟩, A290, H⟩ := H
          replace H : (if (t370 == t422 && (t371 == t423 && (t372.toList == t424.toList))) = true then ((quarrylaw02_text.f a1).bind fun bt425 => (if (t384 == bt425.1 && (t385 == bt425.2.1 && (t386.toList == bt425.2.2.toList))) = true then (some (t395 == t414 && (t396 == t415 && (t397.toList == t416.toList)))) else (none))) else (none)) = some r := H
          have A29 := Aside0.mk A290
          clear A290
          by_cases c30 : (t370 == t422 && (t371 == t423 && (t372.toList == t424.toList))) = true
          ·rw [if_pos c30] at H
           have c30b0 : (t370 == t422 && (t371 == t423 && (t372.toList == t424.toList))) = true := c30
           (try (have c30b1 : decide (t370 = t422 && (t371 == t423 && (t372.toList == t424.toList))) = true := by simpa using c30))
           (try (have c30b2 : (t370 == t422 && (t371 == t423 && (t372.toList == t424.toList))) = true := by simpa using c30))
           clear c30
           replace H := Option.bind_eq_some_iff.mp H
           obtain ⟨⟨t425, t426, t427⟩, A310, H⟩ := H
           replace H : (if (t384 == t425 && (t385 == t426 && (t386.toList == t427.toList))) = true then (some (t395 == t414 && (t396 == t415 && (t397.toList == t416.toList)))) else (none)) = some r := H
           have A31 := Aside0.mk A310
           clear A310
           by_cases c32 : (t384 == t425 && (t385 == t426 && (t386.toList == t427.toList))) = true
           ·rw [if_pos c32] at H
            have c32b0 : (t384 == t425 && (t385 == t426 && (t386.toList == t427.toList))) = true := c32
            (try (have c32b1 : decide (t384 = t425 && (t385 == t426 && (t386.toList == t427.toList))) = true := by simpa using c32))
            (try (have c32b2 : (t384 == t425 && (t385 == t426 && (t386.toList == t427.toList))) = true := by simpa using c32))
            clear c32
            obtain rfl := Option.some.inj H
            go_enter Try.func7, Try.ntmps7
            try go_wp2_with (first | ((with_reducible refine gate_callee (f := 23) rfl ?_); refine goesL_ (some 19) rfl rfl Try.func23 (by kernel_rfl) rfl #[] rfl (by (try simp only [List.map_toArray, List.map_cons, List.map_nil]); first | done | rfl | (simp only [List.length_drop, List.length_take]; rfl)) ?_; (with_reducible refine (quarrylaw02_works.calls  true _ A3.out).mono ?_); rintro e w33 ⟨rfl, hb⟩; refine ⟨_, rfl, ?_⟩; have n0_ := Aside0.mk (below_step (by repeat (first | (with_reducible first | exact HB.out | apply below_alloc | apply pw_below_drewN | apply below_drew1) | exact HB.out)) hb); clear HB; have HB := n0_; clear n0_; (try clear hb); (try clear hb2); (try clear hk); (try clear hi)) | ((with_reducible refine gate_callee (f := 25) rfl ?_); refine goesL_ (some 23) rfl rfl Try.func25 (by kernel_rfl) rfl #[.string a0] rfl (by (try simp only [List.map_toArray, List.map_cons, List.map_nil]); first | done | rfl | (simp only [List.length_drop, List.length_take]; rfl)) ?_; (with_reducible refine (quarrylaw02_text.calls a0 t342 t343 t344 _ A5.out).mono ?_); rintro e w34 ⟨rfl, hb⟩; refine ⟨_, rfl, ?_⟩; have n0_ := Aside0.mk (below_step (by repeat (first | (with_reducible first | exact HB.out | apply below_alloc | apply pw_below_drewN | apply below_drew1) | exact HB.out)) hb); clear HB; have HB := n0_; clear n0_; (try clear hb); (try clear hb2); (try clear hk); (try clear hi)) | ((with_reducible refine gate_callee (f := 25) rfl ?_); refine goesL_ (some 25) rfl rfl Try.func25 (by kernel_rfl) rfl #[.string a1] rfl (by (try simp only [List.map_toArray, List.map_cons, List.map_nil]); first | done | rfl | (simp only [List.length_drop, List.length_take]; rfl)) ?_; (with_reducible refine (quarrylaw02_text.calls a1 t345 t346 t347 _ A6.out).mono ?_); rintro e w35 ⟨rfl, hb⟩; refine ⟨_, rfl, ?_⟩; have n0_ := Aside0.mk (below_step (by repeat (first | (with_reducible first | exact HB.out | apply below_alloc | apply pw_below_drewN | apply below_drew1) | exact HB.out)) hb); clear HB; have HB := n0_; clear n0_; (try clear hb); (try clear hb2); (try clear hk); (try clear hi)) | ((with_reducible refine gate_callee (f := 17) rfl ?_); refine goesL_ (some 26) rfl rfl Try.func17 (by kernel_rfl) rfl #[.int .i64 16, .agg #[.int .i64 t342, .int .i64 t343, .string t344], .agg #[.int .i64 t345, .int .i64 t346, .string t347]] rfl (by (try simp only [List.map_toArray, List.map_cons, List.map_nil]); first | done | rfl | (simp only [List.length_drop, List.length_take]; rfl)) ?_; (with_reducible refine (calc_Binary.print 16 t342 t343 t344 t345 t346 t347 t348 t349 t350 t351 _ A7.out).mono ?_); rintro e w36 ⟨rfl, hb⟩; refine ⟨_, rfl, ?_⟩; have n0_ := Aside0.mk (below_step (by repeat (first | (with_reducible first | exact HB.out | apply below_alloc | apply pw_below_drewN | apply below_drew1) | exact HB.out)) hb); clear HB; have HB := n0_; clear n0_; (try clear hb); (try clear hb2); (try clear hk); (try clear hi)) | ((with_reducible refine gate_dst (N := 5) rfl ?_); (try (refine gate_guard (by rfl) ?_; dsimp only)); refine box_event ?hg (N := 5) ?hd (cs := #[.int .i64 0, .int .i64 0, .string (⟨#[]⟩ : ByteArray)]) (t := 25) ?hr ?_; (case hd => rfl); (case hg => rfl); (case hr => first | (go_simp; done) | (go_simp; rfl)); intro gb352 hg w37 hbox hb; have n0_ := Aside0.mk (below_step (by repeat (first | (with_reducible first | exact HB.out | apply below_alloc | apply pw_below_drewN | apply below_drew1) | exact HB.out)) hb); have n1_ := Aside0.mk (hbox); have n2_ := Aside0.mk ((by rw [hg]; exact (below_size (by repeat (first | (with_reducible first | exact HB.out | apply below_alloc | apply pw_below_drewN | apply below_drew1) | exact HB.out))) : w.heap.size ≤ gb352)); have n3_ := Aside0.mk ((by rw [hg]; exact (below_size (by repeat (first | (with_reducible first | exact HB.out | apply below_alloc | apply pw_below_drewN | apply below_drew1) | exact HB.out))) : w.heap.size ≤ gb352)); clear HB; have HB := n0_; have BK352 := n1_; have GW352 := n2_; have GE352 := n3_; clear n0_ n1_ n2_ n3_; clear hb hbox hg; have hcz38_0 : w37.cell? ⟨gb352, 0, none⟩ = some (.int .i64 0) := (blk_cell BK352.out 0).trans rfl; have hcz38_1 : w37.cell? ⟨gb352, 1, none⟩ = some (.int .i64 0) := (blk_cell BK352.out 1).trans rfl; have hcz38_2 : w37.cell? ⟨gb352, 2, none⟩ = some (.string (⟨#[]⟩ : ByteArray)) := (blk_cell BK352.out 2).trans rfl; have hfz38_0 := blk_frozen BK352.out 0; have hfz38_1 := blk_frozen BK352.out 1; have hfz38_2 := blk_frozen BK352.out 2) | ((with_reducible refine gate_dst (N := 48) rfl ?_); (try (refine gate_guard (by rfl) ?_; dsimp only)); refine Kd.R_lit k25 _ 25 ?hg (N := 48) ?hd (xs := ([(⟨t348, t349, t350⟩ : S25)] : List (S25))) (inner := [.int .i64 t348, .int .i64 t349, .string t350]) (ok := fun _ => True) (okp := fun _ => True) ?hr ?hp (fun _ hk => hk) trivial (Below.refl _ _) (Nat.le_refl _) (by simp) ?_; (case hd => rfl); (case hg => rfl); (case hr => first | (go_simp; done) | (go_simp; rfl)); (case hp => exact (Reps.c3 (show Kd.M k25 _ _ _ (⟨t348, t349, t350⟩ : S25) [.int .i64 t348, .int .i64 t349, .string t350] from (k25_mkM _ _ _ (⟨t348, t349, t350⟩ : S25) )) (Reps.none _ _))); intro v354 w39 ho40 hb hg_ hnew_; clear hg_ hnew_; (first | rw [← Ny353.out] at ho40 | (simp only [Int.reduceToNat] at ho40; rw [← Ny353.out] at ho40)); have n0_ := Aside0.mk (Kd.R_lower (Kd.R_newB ho40 (g := gb352) (o := .cells #[.int .i64 t348, .int .i64 t349, .string t350] 25 (0, 0)) (by (with_reducible repeat (first | refine blk_drewN ?_ _ | refine blk_drew ?_ | refine blk_alloc ?_ _)); refine blk_put (cs := #[.int .i64 t348, .int .i64 t349, .string (⟨#[]⟩ : ByteArray)]) ?_ 2 _ rfl; (with_reducible repeat (first | refine blk_drewN ?_ _ | refine blk_drew ?_ | refine blk_alloc ?_ _)); refine blk_put (cs := #[.int .i64 t348, .int .i64 0, .string (⟨#[]⟩ : ByteArray)]) ?_ 1 _ rfl; (with_reducible repeat (first | refine blk_drewN ?_ _ | refine blk_drew ?_ | refine blk_alloc ?_ _)); refine blk_put (cs := #[.int .i64 0, .int .i64 0, .string (⟨#[]⟩ : ByteArray)]) ?_ 0 _ rfl; (with_reducible repeat (first | refine blk_drewN ?_ _ | refine blk_drew ?_ | refine blk_alloc ?_ _)); exact BK352.out)) (below_size (by repeat (first | (with_reducible first | exact HB.out | apply below_alloc | apply pw_below_drewN | apply below_drew1 | refine below_set ?_ GE352.out) | exact HB.out)))); have n1_ := Aside0.mk (blk_below (g := gb352) (o := .cells #[.int .i64 t348, .int .i64 t349, .string t350] 25 (0, 0)) (by (with_reducible repeat (first | refine blk_drewN ?_ _ | refine blk_drew ?_ | refine blk_alloc ?_ _)); refine blk_put (cs := #[.int .i64 t348, .int .i64 t349, .string (⟨#[]⟩ : ByteArray)]) ?_ 2 _ rfl; (with_reducible repeat (first | refine blk_drewN ?_ _ | refine blk_drew ?_ | refine blk_alloc ?_ _)); refine blk_put (cs := #[.int .i64 t348, .int .i64 0, .string (⟨#[]⟩ : ByteArray)]) ?_ 1 _ rfl; (with_reducible repeat (first | refine blk_drewN ?_ _ | refine blk_drew ?_ | refine blk_alloc ?_ _)); refine blk_put (cs := #[.int .i64 0, .int .i64 0, .string (⟨#[]⟩ : ByteArray)]) ?_ 0 _ rfl; (with_reducible repeat (first | refine blk_drewN ?_ _ | refine blk_drew ?_ | refine blk_alloc ?_ _)); exact BK352.out) hb); have n2_ := Aside0.mk (below_step (by repeat (first | (with_reducible first | exact HB.out | apply below_alloc | apply pw_below_drewN | apply below_drew1 | refine below_set ?_ GE352.out) | exact HB.out)) hb); clear BK352; clear HB; have HO355 := n0_; have BK352 := n1_; have HB := n2_; clear n0_ n1_ n2_; clear hb ho40; obtain ⟨Ao41, co41, eo41⟩ := Kd.R_slice HO355.out; subst eo41) | ((with_reducible refine gate_callee (f := 12) rfl ?_); refine goesL_ (some 49) rfl rfl Try.func12 (by kernel_rfl) rfl #[.int .i64 1, .slice Ao41 y353.length co41] rfl (by (try simp only [List.map_toArray, List.map_cons, List.map_nil]); first | done | rfl | (simp only [List.length_drop, List.length_take]; rfl)) ?_; (with_reducible refine (calc_Call.print 1 _ _ y353 t356 t357 t358 t359 _ ?side1 ?side2 A9.out).mono ?_); (case side1 => repeat (first | exact (Kd.R_reads' HO355.out).2.2 | (with_reducible refine Kd.C_alloc ?_ _) | (with_reducible refine Kd.C_drewN ?_ _) | (with_reducible refine Kd.C_drew ?_))); (case side2 => exact (Kd.R_reads' HO355.out).2.1); rintro e w42 ⟨rfl, hb⟩; refine ⟨_, rfl, ?_⟩; have n0_ := Aside0.mk (Kd.R_below (by (with_reducible repeat (first | apply Kd.R_alloc | apply Kd.R_drewN | apply Kd.R_drew)); exact HO355.out) hb); have n1_ := Aside0.mk (blk_below (g := gb352) (o := .cells #[.int .i64 t348, .int .i64 t349, .string t350] 25 (0, 0)) (bk_ BK352) hb); have n2_ := Aside0.mk (below_step (by repeat (first | (with_reducible first | exact HB.out | apply below_alloc | apply pw_below_drewN | apply below_drew1 | refine below_set ?_ GE352.out) | exact HB.out)) hb); clear HO355; clear BK352; clear HB; have HO355 := n0_; have BK352 := n1_; have HB := n2_; clear n0_ n1_ n2_; (try clear hb); (try clear hb2); (try clear hk); (try clear hi)) | ((with_reducible refine gate_dst (N := 7) rfl ?_); (try (refine gate_guard (by rfl) ?_; dsimp only)); refine box_event ?hg (N := 7) ?hd (cs := #[.int .i64 0, .int .i64 0, .string (⟨#[]⟩ : ByteArray)]) (t := 25) ?hr ?_; (case hd => rfl); (case hg => rfl); (case hr => first | (go_simp; done) | (go_simp; rfl)); intro gb360 hg w43 hbox hb; have n0_ := Aside0.mk (Kd.R_below (Kd.R_elderB (by (with_reducible repeat (first | apply Kd.R_alloc | apply Kd.R_drewN | apply Kd.R_drew)); exact HO355.out) gb360 (Nat.le_of_eq hg.symm)) hb); have n1_ := Aside0.mk (blk_below (g := gb352) (o := .cells #[.int .i64 t348, .int .i64 t349, .string t350] 25 (0, 0)) (bk_ BK352) hb); have n2_ := Aside0.mk (below_step (by repeat (first | (with_reducible first | exact HB.out | apply below_alloc | apply pw_below_drewN | apply below_drew1 | refine below_set ?_ GE352.out) | exact HB.out)) hb); have n3_ := Aside0.mk (hbox); have n4_ := Aside0.mk ((by rw [hg]; exact (below_size (by repeat (first | (with_reducible first | exact HB.out | apply below_alloc | apply pw_below_drewN | apply below_drew1 | refine below_set ?_ GE352.out) | exact HB.out))) : w.heap.size ≤ gb360)); have n5_ := Aside0.mk ((by rw [hg]; exact (below_size (by repeat (first | (with_reducible first | exact HB.out | apply below_alloc | apply pw_below_drewN | apply below_drew1 | refine below_set ?_ GE352.out) | exact HB.out))) : w.heap.size ≤ gb360)); have n6_ := Aside0.mk ((by rw [hg]; exact Nat.ne_of_lt (blk_lt (g := gb352) (o := .cells #[.int .i64 t348, .int .i64 t349, .string t350] 25 (0, 0)) (bk_ BK352)) : gb352 ≠ gb360)); have n7_ := Aside0.mk ((by rw [hg]; exact Nat.ne_of_gt (blk_lt (g := gb352) (o := .cells #[.int .i64 t348, .int .i64 t349, .string t350] 25 (0, 0)) (bk_ BK352)) : gb360 ≠ gb352)); clear HO355; clear BK352; clear HB; have HO355 := n0_; have BK352 := n1_; have HB := n2_; have BK360 := n3_; have GW360 := n4_; have GE360 := n5_; have NB352_360 := n6_; have NB360_352 := n7_; clear n0_ n1_ n2_ n3_ n4_ n5_ n6_ n7_; clear hb hbox hg; have hnb44 := NB360_352.out; have hnc44 := NB352_360.out; have hcz45_0 : w43.cell? ⟨gb360, 0, none⟩ = some (.int .i64 0) := (blk_cell BK360.out 0).trans rfl; have hcz45_1 : w43.cell? ⟨gb360, 1, none⟩ = some (.int .i64 0) := (blk_cell BK360.out 1).trans rfl; have hcz45_2 : w43.cell? ⟨gb360, 2, none⟩ = some (.string (⟨#[]⟩ : ByteArray)) := (blk_cell BK360.out 2).trans rfl; have hfz45_0 := blk_frozen BK360.out 0; have hfz45_1 := blk_frozen BK360.out 1; have hfz45_2 := blk_frozen BK360.out 2))
            have n0_ : Aside0 (Kd.R k25 25 (((w43.setCell ⟨gb360, 0, none⟩ (.int .i64 t356)).setCell ⟨gb360, 1, none⟩ (.int .i64 t357)).setCell ⟨gb360, 2, none⟩ (.string t358)) w.heap.size (fun k_ => k_ ≠ gb352 ∧ k_ ≠ gb360) (.slice Ao41 y353.length co41) y353) := ⟨by (with_reducible repeat (first | apply Kd.R_alloc | apply Kd.R_drewN | apply Kd.R_drew)); exact Kd.R_mono (Kd.R_far (p := ⟨gb360, 2, none⟩) (Kd.R_far (p := ⟨gb360, 1, none⟩) (Kd.R_far (p := ⟨gb360, 0, none⟩) (Kd.R_mono HO355.out (fun k_ hk => (⟨hk, hk.2⟩ : _ ∧ k_ ≠ gb360))) (fun _ hk => hk.2) (.int .i64 t356)) (fun _ hk => hk.2) (.int .i64 t357)) (fun _ hk => hk.2) (.string t358)) (fun _ hk => ⟨hk.1.1.2, hk.1.2⟩)⟩
            have n1_ : Aside0 ((((w43.setCell ⟨gb360, 0, none⟩ (.int .i64 t356)).setCell ⟨gb360, 1, none⟩ (.int .i64 t357)).setCell ⟨gb360, 2, none⟩ (.string t358)).heap[gb352]? = some (.cells #[.int .i64 t348, .int .i64 t349, .string t350] 25 (0, 0))) := ⟨by (with_reducible repeat (first | refine blk_drewN ?_ _ | refine blk_drew ?_ | refine blk_alloc ?_ _)); refine blk_far ?_ NB352_360.out _; (with_reducible repeat (first | refine blk_drewN ?_ _ | refine blk_drew ?_ | refine blk_alloc ?_ _)); refine blk_far ?_ NB352_360.out _; (with_reducible repeat (first | refine blk_drewN ?_ _ | refine blk_drew ?_ | refine blk_alloc ?_ _)); refine blk_far ?_ NB352_360.out _; (with_reducible repeat (first | refine blk_drewN ?_ _ | refine blk_drew ?_ | refine blk_alloc ?_ _)); exact BK352.out⟩
            have n2_ : Aside0 ((((w43.setCell ⟨gb360, 0, none⟩ (.int .i64 t356)).setCell ⟨gb360, 1, none⟩ (.int .i64 t357)).setCell ⟨gb360, 2, none⟩ (.string t358)).heap[gb360]? = some (.cells #[.int .i64 t356, .int .i64 t357, .string t358] 25 (0, 0))) := ⟨by (with_reducible repeat (first | refine blk_drewN ?_ _ | refine blk_drew ?_ | refine blk_alloc ?_ _)); refine blk_put (cs := #[.int .i64 t356, .int .i64 t357, .string (⟨#[]⟩ : ByteArray)]) ?_ 2 _ rfl; (with_reducible repeat (first | refine blk_drewN ?_ _ | refine blk_drew ?_ | refine blk_alloc ?_ _)); refine blk_put (cs := #[.int .i64 t356, .int .i64 0, .string (⟨#[]⟩ : ByteArray)]) ?_ 1 _ rfl; (with_reducible repeat (first | refine blk_drewN ?_ _ | refine blk_drew ?_ | refine blk_alloc ?_ _)); refine blk_put (cs := #[.int .i64 0, .int .i64 0, .string (⟨#[]⟩ : ByteArray)]) ?_ 0 _ rfl; (with_reducible repeat (first | refine blk_drewN ?_ _ | refine blk_drew ?_ | refine blk_alloc ?_ _)); exact BK360.out⟩
            have n3_ : Aside0 (Below w.heap.size w (((w43.setCell ⟨gb360, 0, none⟩ (.int .i64 t356)).setCell ⟨gb360, 1, none⟩ (.int .i64 t357)).setCell ⟨gb360, 2, none⟩ (.string t358))) := ⟨by repeat (first | (with_reducible first | exact HB.out | apply below_alloc | apply pw_below_drewN | apply below_drew1 | refine below_set ?_ GE352.out | refine below_set ?_ GE360.out) | exact HB.out)⟩
            (try clear HO355)
            (try clear BK352)
            (try clear BK360)
            (try clear HB)
            generalize (((w43.setCell ⟨gb360, 0, none⟩ (.int .i64 t356)).setCell ⟨gb360, 1, none⟩ (.int .i64 t357)).setCell ⟨gb360, 2, none⟩ (.string t358)) = w46 at n0_ n1_ n2_ n3_ ⊢
            have HO355 := n0_
            have BK352 := n1_
            have BK360 := n2_
            have HB := n3_
            clear n0_ n1_ n2_ n3_
            have n0_ := Aside0.mk (Kd.R_drew HO355.out)
            have n1_ := Aside0.mk (blk_drew BK352.out)
            have n2_ := Aside0.mk (blk_drew BK360.out)
            have n3_ := Aside0.mk (below_drew1 HB.out)
            clear HO355
            clear BK352
            clear BK360
            clear HB
            have HO355 := n0_
            have BK352 := n1_
            have BK360 := n2_
            have HB := n3_
            clear n0_ n1_ n2_ n3_
            refine start_ (n := 13) (S := fun w' => w'.cell? ⟨gb352, 0, none⟩ = some (.int .i64 t348) ∧ w'.cell? ⟨gb352, 1, none⟩ = some (.int .i64 t349) ∧ w'.cell? ⟨gb352, 2, none⟩ = some (.string t350)) (ds := []) #[false, false, false, false, false, false, false, false, false, false, false, false, false] (by kernel_rfl) rfl rfl ⟨(blk_cell BK352.out 0).trans rfl, (blk_cell BK352.out 1).trans rfl, (blk_cell BK352.out 2).trans rfl⟩ (fun hHeld => ?_); refine with_tabW quarrylaw02_CalcTexts.tab7 quarrylaw02_CalcTexts.bits7 (fun HT_ HW_ => ?_)
            generalize w46.drew = w47 at HO355 BK352 BK360 HB hHeld ⊢
            refine pure_ (i := 2) (N := some 55) (v := ?_) (a' := ?_) #[false, false, true, false, false, false, false, false, false, false, false, false, false] rfl rfl (any_of HT_.out (by kernel_rfl)) (fun _ _ _ h => h) (Or.inl ⟨by rfl, ?_⟩) ?_ ?_
            rotate_left
            ·intro w'
             go_simp
             with_reducible rfl
            rotate_left
            ·simp only [Act.put, List.setIfInBounds_toArray, List.set_cons_zero, List.set_cons_succ, i64_w, i32_w]
             rfl
            refine pure_ (i := 3) (N := some 56) (v := ?_) (a' := ?_) #[false, false, true, true, false, false, false, false, false, false, false, false, false] rfl rfl (any_of HT_.out (by kernel_rfl)) (fun _ _ _ h => h) (Or.inl ⟨by rfl, ?_⟩) ?_ ?_
            rotate_left
            ·intro w'
             go_simp
             with_reducible rfl
            rotate_left
            ·simp only [Act.put, List.setIfInBounds_toArray, List.set_cons_zero, List.set_cons_succ, i64_w, i32_w]
             rfl
            refine take_ (i := 0) (N := some 53) (v := ?_) (a' := ?_) #[true, false, true, true, false, false, false, false, false, false, false, false, false] rfl rfl (take_ofW HT_.out HW_.out (by kernel_rfl)) (fun _ _ _ h => h) (Or.inl ⟨by rfl, ?_⟩) hHeld ?_ ?_
            rotate_left
            ·rintro w' ⟨s0, s1, s2⟩
             go_simp
             with_reducible rfl
            rotate_left
            ·simp only [Act.put, List.setIfInBounds_toArray, List.set_cons_zero, List.set_cons_succ, i64_w, i32_w]
             rfl
            refine join_ (σ := Value × Nat) 2 #[true, true, true, true, true, true, true, true, true, true, true, false, false] (fun s_ => [(54, .agg #[.int .i64 t361, .int .i64 t362, .string t363]), (57, .agg #[.int .i64 t364, .int .i64 t365, .string t366]), (58, s_.1), (59, .tuple #[.agg #[.int .i64 t370, .int .i64 t371, .string t372], .int .i64 t373]), (9, .pointer (some ⟨s_.2, 0, none⟩)), (52, .tuple #[.agg #[.int .i64 t370, .int .i64 t371, .string t372], .int .i64 t373]), (60, .agg #[.int .i64 t370, .int .i64 t371, .string t372]), (61, .int .i64 t373)]) (fun s_ w' => (w'.cell? ⟨gb352, 0, none⟩ = some (.int .i64 t348) ∧ w'.cell? ⟨gb352, 1, none⟩ = some (.int .i64 t349) ∧ w'.cell? ⟨gb352, 2, none⟩ = some (.string t350)) ∧ (Kd.R k25 25 w' w.heap.size (fun k_ => some k_ ≠ (s_.1 : Value).ownBlock ∧ k_ ≠ gb352 ∧ k_ ≠ gb360 ∧ k_ ≠ s_.2) (.slice Ao41 y353.length co41) y353) ∧ (Kd.R k25 25 w' w.heap.size (fun k_ => some k_ ≠ (.slice Ao41 y353.length co41 : Value).ownBlock ∧ k_ ≠ gb352 ∧ k_ ≠ gb360 ∧ k_ ≠ s_.2) s_.1 y367) ∧ (w'.heap[gb352]? = some (.cells #[.int .i64 t348, .int .i64 t349, .string t350] 25 (0, 0))) ∧ (w'.heap[gb360]? = some (.cells #[.int .i64 t356, .int .i64 t357, .string t358] 25 (0, 0))) ∧ (w'.heap[s_.2]? = some (.cells #[.int .i64 0, .int .i64 0, .string (⟨#[]⟩ : ByteArray)] 25 (0, 0))) ∧ (w.heap.size ≤ s_.2) ∧ (w.heap.size ≤ s_.2) ∧ (gb352 ≠ s_.2) ∧ (s_.2 ≠ gb352) ∧ (gb360 ≠ s_.2) ∧ (s_.2 ≠ gb360) ∧ (Below w.heap.size w w')) ?_ ?_
            rotate_left
            ·intro hJ1_4_5_6_10
             refine join_ (σ := Value) 3 #[true, true, true, true, true, true, true, true, true, true, false, false, false] (fun s_ => [(54, .agg #[.int .i64 t361, .int .i64 t362, .string t363]), (57, .agg #[.int .i64 t364, .int .i64 t365, .string t366]), (58, s_), (59, .tuple #[.agg #[.int .i64 t370, .int .i64 t371, .string t372], .int .i64 t373]), (52, .tuple #[.agg #[.int .i64 t370, .int .i64 t371, .string t372], .int .i64 t373]), (60, .agg #[.int .i64 t370, .int .i64 t371, .string t372]), (61, .int .i64 t373)]) (fun s_ w' => (w'.cell? ⟨gb352, 0, none⟩ = some (.int .i64 t348) ∧ w'.cell? ⟨gb352, 1, none⟩ = some (.int .i64 t349) ∧ w'.cell? ⟨gb352, 2, none⟩ = some (.string t350)) ∧ (Kd.R k25 25 w' w.heap.size (fun k_ => some k_ ≠ (s_ : Value).ownBlock ∧ k_ ≠ gb352 ∧ k_ ≠ gb360) (.slice Ao41 y353.length co41) y353) ∧ (Kd.R k25 25 w' w.heap.size (fun k_ => some k_ ≠ (.slice Ao41 y353.length co41 : Value).ownBlock ∧ k_ ≠ gb352 ∧ k_ ≠ gb360) s_ y367) ∧ (w'.heap[gb352]? = some (.cells #[.int .i64 t348, .int .i64 t349, .string t350] 25 (0, 0))) ∧ (w'.heap[gb360]? = some (.cells #[.int .i64 t356, .int .i64 t357, .string t358] 25 (0, 0))) ∧ (Below w.heap.size w w')) ?_ ?_
             rotate_left
             ·intro hJ1_4_5_6
              refine join_ (σ := Value × Nat) 6 #[true, true, true, true, true, true, false, false, false, false, true, false, false] (fun s_ => [(54, .agg #[.int .i64 t361, .int .i64 t362, .string t363]), (57, .agg #[.int .i64 t364, .int .i64 t365, .string t366]), (58, s_.1), (9, .pointer (some ⟨s_.2, 0, none⟩))]) (fun s_ w' => (w'.cell? ⟨gb352, 0, none⟩ = some (.int .i64 t348) ∧ w'.cell? ⟨gb352, 1, none⟩ = some (.int .i64 t349) ∧ w'.cell? ⟨gb352, 2, none⟩ = some (.string t350)) ∧ (Kd.R k25 25 w' w.heap.size (fun k_ => some k_ ≠ (s_.1 : Value).ownBlock ∧ k_ ≠ gb352 ∧ k_ ≠ gb360 ∧ k_ ≠ s_.2) (.slice Ao41 y353.length co41) y353) ∧ (Kd.R k25 25 w' w.heap.size (fun k_ => some k_ ≠ (.slice Ao41 y353.length co41 : Value).ownBlock ∧ k_ ≠ gb352 ∧ k_ ≠ gb360 ∧ k_ ≠ s_.2) s_.1 y367) ∧ (w'.heap[gb352]? = some (.cells #[.int .i64 t348, .int .i64 t349, .string t350] 25 (0, 0))) ∧ (w'.heap[gb360]? = some (.cells #[.int .i64 t356, .int .i64 t357, .string t358] 25 (0, 0))) ∧ (w'.heap[s_.2]? = some (.cells #[.int .i64 0, .int .i64 0, .string (⟨#[]⟩ : ByteArray)] 25 (0, 0))) ∧ (w.heap.size ≤ s_.2) ∧ (w.heap.size ≤ s_.2) ∧ (gb352 ≠ s_.2) ∧ (s_.2 ≠ gb352) ∧ (gb360 ≠ s_.2) ∧ (s_.2 ≠ gb360) ∧ (Below w.heap.size w w')) ?_ ?_
              rotate_left
              ·intro hJ1_4_5_10
               refine join_ (σ := Value) 7 #[true, true, true, true, true, true, false, false, false, false, false, false, false] (fun s_ => [(54, .agg #[.int .i64 t361, .int .i64 t362, .string t363]), (57, .agg #[.int .i64 t364, .int .i64 t365, .string t366]), (58, s_)]) (fun s_ w' => (w'.cell? ⟨gb352, 0, none⟩ = some (.int .i64 t348) ∧ w'.cell? ⟨gb352, 1, none⟩ = some (.int .i64 t349) ∧ w'.cell? ⟨gb352, 2, none⟩ = some (.string t350)) ∧ (Kd.R k25 25 w' w.heap.size (fun k_ => some k_ ≠ (s_ : Value).ownBlock ∧ k_ ≠ gb352 ∧ k_ ≠ gb360) (.slice Ao41 y353.length co41) y353) ∧ (Kd.R k25 25 w' w.heap.size (fun k_ => some k_ ≠ (.slice Ao41 y353.length co41 : Value).ownBlock ∧ k_ ≠ gb352 ∧ k_ ≠ gb360) s_ y367) ∧ (w'.heap[gb352]? = some (.cells #[.int .i64 t348, .int .i64 t349, .string t350] 25 (0, 0))) ∧ (w'.heap[gb360]? = some (.cells #[.int .i64 t356, .int .i64 t357, .string t358] 25 (0, 0))) ∧ (Below w.heap.size w w')) ?_ ?_
               rotate_left
               ·intro hJ1_4_5
                refine join_ (σ := Nat) 7 #[true, true, true, true, true, false, false, false, false, false, true, false, false] (fun s_ => [(54, .agg #[.int .i64 t361, .int .i64 t362, .string t363]), (57, .agg #[.int .i64 t364, .int .i64 t365, .string t366]), (9, .pointer (some ⟨s_, 0, none⟩))]) (fun s_ w' => (w'.cell? ⟨gb352, 0, none⟩ = some (.int .i64 t348) ∧ w'.cell? ⟨gb352, 1, none⟩ = some (.int .i64 t349) ∧ w'.cell? ⟨gb352, 2, none⟩ = some (.string t350)) ∧ (Kd.R k25 25 w' w.heap.size (fun k_ => k_ ≠ gb352 ∧ k_ ≠ gb360 ∧ k_ ≠ s_) (.slice Ao41 y353.length co41) y353) ∧ (w'.heap[gb352]? = some (.cells #[.int .i64 t348, .int .i64 t349, .string t350] 25 (0, 0))) ∧ (w'.heap[gb360]? = some (.cells #[.int .i64 t356, .int .i64 t357, .string t358] 25 (0, 0))) ∧ (w'.heap[s_]? = some (.cells #[.int .i64 0, .int .i64 0, .string (⟨#[]⟩ : ByteArray)] 25 (0, 0))) ∧ (w.heap.size ≤ s_) ∧ (w.heap.size ≤ s_) ∧ (gb352 ≠ s_) ∧ (s_ ≠ gb352) ∧ (gb360 ≠ s_) ∧ (s_ ≠ gb360) ∧ (Below w.heap.size w w')) ?_ ?_
                rotate_left
                ·intro hJ1_4_10
                 refine join_ (σ := Unit) 8 #[true, true, true, true, true, false, false, false, false, false, false, false, false] (fun s_ => [(54, .agg #[.int .i64 t361, .int .i64 t362, .string t363]), (57, .agg #[.int .i64 t364, .int .i64 t365, .string t366])]) (fun s_ w' => (w'.cell? ⟨gb352, 0, none⟩ = some (.int .i64 t348) ∧ w'.cell? ⟨gb352, 1, none⟩ = some (.int .i64 t349) ∧ w'.cell? ⟨gb352, 2, none⟩ = some (.string t350)) ∧ (Kd.R k25 25 w' w.heap.size (fun k_ => k_ ≠ gb352 ∧ k_ ≠ gb360) (.slice Ao41 y353.length co41) y353) ∧ (w'.heap[gb352]? = some (.cells #[.int .i64 t348, .int .i64 t349, .string t350] 25 (0, 0))) ∧ (w'.heap[gb360]? = some (.cells #[.int .i64 t356, .int .i64 t357, .string t358] 25 (0, 0))) ∧ (Below w.heap.size w w')) ?_ ?_
                 rotate_left
                 ·intro hJ1_4
                  refine join_ (σ := Nat) 8 #[true, true, true, true, false, false, false, false, false, false, true, false, false] (fun s_ => [(54, .agg #[.int .i64 t361, .int .i64 t362, .string t363]), (9, .pointer (some ⟨s_, 0, none⟩))]) (fun s_ w' => (w'.cell? ⟨gb352, 0, none⟩ = some (.int .i64 t348) ∧ w'.cell? ⟨gb352, 1, none⟩ = some (.int .i64 t349) ∧ w'.cell? ⟨gb352, 2, none⟩ = some (.string t350)) ∧ (Kd.R k25 25 w' w.heap.size (fun k_ => k_ ≠ gb352 ∧ k_ ≠ gb360 ∧ k_ ≠ s_) (.slice Ao41 y353.length co41) y353) ∧ (w'.heap[gb352]? = some (.cells #[.int .i64 t348, .int .i64 t349, .string t350] 25 (0, 0))) ∧ (w'.heap[gb360]? = some (.cells #[.int .i64 t356, .int .i64 t357, .string t358] 25 (0, 0))) ∧ (w'.heap[s_]? = some (.cells #[.int .i64 0, .int .i64 0, .string (⟨#[]⟩ : ByteArray)] 25 (0, 0))) ∧ (w.heap.size ≤ s_) ∧ (w.heap.size ≤ s_) ∧ (gb352 ≠ s_) ∧ (s_ ≠ gb352) ∧ (gb360 ≠ s_) ∧ (s_ ≠ gb360) ∧ (Below w.heap.size w w')) ?_ ?_
                  rotate_left
                  ·intro hJ1_10
                   refine join_ (σ := Unit) 9 #[true, true, true, true, false, false, false, false, false, false, false, false, false] (fun s_ => [(54, .agg #[.int .i64 t361, .int .i64 t362, .string t363])]) (fun s_ w' => (w'.cell? ⟨gb352, 0, none⟩ = some (.int .i64 t348) ∧ w'.cell? ⟨gb352, 1, none⟩ = some (.int .i64 t349) ∧ w'.cell? ⟨gb352, 2, none⟩ = some (.string t350)) ∧ (Kd.R k25 25 w' w.heap.size (fun k_ => k_ ≠ gb352 ∧ k_ ≠ gb360) (.slice Ao41 y353.length co41) y353) ∧ (w'.heap[gb352]? = some (.cells #[.int .i64 t348, .int .i64 t349, .string t350] 25 (0, 0))) ∧ (w'.heap[gb360]? = some (.cells #[.int .i64 t356, .int .i64 t357, .string t358] 25 (0, 0))) ∧ (Below w.heap.size w w')) ?_ ?_
                   rotate_left
                   ·intro hJ1
                    refine join_ (σ := Nat) 9 #[true, false, true, true, false, false, false, false, false, false, true, false, false] (fun s_ => [(9, .pointer (some ⟨s_, 0, none⟩))]) (fun s_ w' => (w'.cell? ⟨gb352, 0, none⟩ = some (.int .i64 t348) ∧ w'.cell? ⟨gb352, 1, none⟩ = some (.int .i64 t349) ∧ w'.cell? ⟨gb352, 2, none⟩ = some (.string t350)) ∧ (Kd.R k25 25 w' w.heap.size (fun k_ => k_ ≠ gb352 ∧ k_ ≠ gb360 ∧ k_ ≠ s_) (.slice Ao41 y353.length co41) y353) ∧ (w'.heap[gb352]? = some (.cells #[.int .i64 t348, .int .i64 t349, .string t350] 25 (0, 0))) ∧ (w'.heap[gb360]? = some (.cells #[.int .i64 t356, .int .i64 t357, .string t358] 25 (0, 0))) ∧ (w'.heap[s_]? = some (.cells #[.int .i64 0, .int .i64 0, .string (⟨#[]⟩ : ByteArray)] 25 (0, 0))) ∧ (w.heap.size ≤ s_) ∧ (w.heap.size ≤ s_) ∧ (gb352 ≠ s_) ∧ (s_ ≠ gb352) ∧ (gb360 ≠ s_) ∧ (s_ ≠ gb360) ∧ (Below w.heap.size w w')) ?_ ?_
                    rotate_left
                    ·intro hJ10
                     refine two_ (i := 1) (j := 10) (Ni := some 54) (Nj := some 9) #[true, true, true, true, false, false, false, false, false, false, false, false, false] #[true, false, true, true, false, false, false, false, false, false, true, false, false] rfl rfl rfl rfl (two_of HT_.out (by kernel_rfl)) (by decide) (by decide) (fun K hK => ?_) (fun K hK => ?_)
                     ·skip
                      refine goes_ Try.func24 (by kernel_rfl) rfl #[.int .i64 1] (by rfl) rfl rfl (by (try simp only [List.map_toArray, List.map_cons, List.map_nil]); first | done | rfl | (simp only [List.length_drop, List.length_take]; rfl)) ?_
                      with_reducible refine (quarrylaw02_num.calls 1 t361 t362 t363 _ A10.out).mono ?_
                      rintro e w48 ⟨rfl, hb⟩
                      refine ⟨_, rfl, ?_⟩
                      have n0_ := Aside0.mk (Kd.R_below (by (with_reducible repeat (first | apply Kd.R_alloc | apply Kd.R_drewN | apply Kd.R_drew)); exact HO355.out) hb)
                      have n1_ := Aside0.mk (blk_below (g := gb352) (o := .cells #[.int .i64 t348, .int .i64 t349, .string t350] 25 (0, 0)) (bk_ BK352) hb)
                      have n2_ := Aside0.mk (blk_below (g := gb360) (o := .cells #[.int .i64 t356, .int .i64 t357, .string t358] 25 (0, 0)) (bk_ BK360) hb)
                      have n3_ := Aside0.mk (below_step (by repeat (first | (with_reducible first | exact HB.out | apply below_alloc | apply pw_below_drewN | apply below_drew1 | refine below_set ?_ GE352.out | refine below_set ?_ GE360.out) | exact HB.out)) hb)
                      clear HO355
                      clear BK352
                      clear BK360
                      clear HB
                      have HO355 := n0_
                      have BK352 := n1_
                      have BK360 := n2_
                      have HB := n3_
                      clear n0_ n1_ n2_ n3_
                      (try clear hb)
                      (try clear hb2)
                      (try clear hk)
                      (try clear hi)
                      refine hK.out _ _ ⟨(blk_cell BK352.out 0).trans rfl, (blk_cell BK352.out 1).trans rfl, (blk_cell BK352.out 2).trans rfl⟩ (fun hHeld => ?_)
                      clear hK K
                      refine norm_ (a' := ?_) ?_ ?_
                      rotate_left
                      ·show Act.put _ (some 54) _ = _
                       simp only [Act.put, List.setIfInBounds_toArray, List.set_cons_zero, List.set_cons_succ, i64_w, i32_w]
                       rfl
                      exact norm_ (by first | (simp only [putAll, Act.put, List.setIfInBounds_toArray, List.set_cons_zero, List.set_cons_succ]; done) | (simp only [putAll, Act.put, List.setIfInBounds_toArray, List.set_cons_zero, List.set_cons_succ]; rfl)) (hJ1 () _ ⟨hHeld, (by (with_reducible repeat (first | apply Kd.R_alloc | apply Kd.R_drewN | apply Kd.R_drew)); exact HO355.out), (bk_ BK352), (bk_ BK360), (by repeat (first | (with_reducible first | exact HB.out | apply below_alloc | apply pw_below_drewN | apply below_drew1 | refine below_set ?_ GE352.out | refine below_set ?_ GE360.out) | exact HB.out))⟩)
                     ·skip
                      refine box_step ?hg (N := 9) ?hd (cs := #[.int .i64 0, .int .i64 0, .string (⟨#[]⟩ : ByteArray)]) (t := 25) ?hr ?_; (case hd => rfl); (case hg => rfl); (case hr => first | (go_simp; done) | (go_simp; rfl))
                      intro gb374 hg w48 hbox hb
                      have n0_ := Aside0.mk (Kd.R_below (Kd.R_elderB (by (with_reducible repeat (first | apply Kd.R_alloc | apply Kd.R_drewN | apply Kd.R_drew)); exact HO355.out) gb374 (Nat.le_of_eq hg.symm)) hb)
                      have n1_ := Aside0.mk (blk_below (g := gb352) (o := .cells #[.int .i64 t348, .int .i64 t349, .string t350] 25 (0, 0)) (bk_ BK352) hb)
                      have n2_ := Aside0.mk (blk_below (g := gb360) (o := .cells #[.int .i64 t356, .int .i64 t357, .string t358] 25 (0, 0)) (bk_ BK360) hb)
                      have n3_ := Aside0.mk (below_step (by repeat (first | (with_reducible first | exact HB.out | apply below_alloc | apply pw_below_drewN | apply below_drew1 | refine below_set ?_ GE352.out | refine below_set ?_ GE360.out) | exact HB.out)) hb)
                      have n4_ := Aside0.mk (hbox)
                      have n5_ := Aside0.mk ((by rw [hg]; exact (below_size (by repeat (first | (with_reducible first | exact HB.out | apply below_alloc | apply pw_below_drewN | apply below_drew1 | refine below_set ?_ GE352.out | refine below_set ?_ GE360.out) | exact HB.out))) : w.heap.size ≤ gb374))
                      have n6_ := Aside0.mk ((by rw [hg]; exact (below_size (by repeat (first | (with_reducible first | exact HB.out | apply below_alloc | apply pw_below_drewN | apply below_drew1 | refine below_set ?_ GE352.out | refine below_set ?_ GE360.out) | exact HB.out))) : w.heap.size ≤ gb374))
                      have n7_ := Aside0.mk ((by rw [hg]; exact Nat.ne_of_lt (blk_lt (g := gb352) (o := .cells #[.int .i64 t348, .int .i64 t349, .string t350] 25 (0, 0)) (bk_ BK352)) : gb352 ≠ gb374))
                      have n8_ := Aside0.mk ((by rw [hg]; exact Nat.ne_of_gt (blk_lt (g := gb352) (o := .cells #[.int .i64 t348, .int .i64 t349, .string t350] 25 (0, 0)) (bk_ BK352)) : gb374 ≠ gb352))
                      have n9_ := Aside0.mk ((by rw [hg]; exact Nat.ne_of_lt (blk_lt (g := gb360) (o := .cells #[.int .i64 t356, .int .i64 t357, .string t358] 25 (0, 0)) (bk_ BK360)) : gb360 ≠ gb374))
                      have n10_ := Aside0.mk ((by rw [hg]; exact Nat.ne_of_gt (blk_lt (g := gb360) (o := .cells #[.int .i64 t356, .int .i64 t357, .string t358] 25 (0, 0)) (bk_ BK360)) : gb374 ≠ gb360))
                      clear HO355
                      clear BK352
                      clear BK360
                      clear HB
                      have HO355 := n0_
                      have BK352 := n1_
                      have BK360 := n2_
                      have HB := n3_
                      have BK374 := n4_
                      have GW374 := n5_
                      have GE374 := n6_
                      have NB352_374 := n7_
                      have NB374_352 := n8_
                      have NB360_374 := n9_
                      have NB374_360 := n10_
                      clear n0_ n1_ n2_ n3_ n4_ n5_ n6_ n7_ n8_ n9_ n10_
                      clear hb hbox hg
                      refine hK.out _ _ ⟨(blk_cell BK352.out 0).trans rfl, (blk_cell BK352.out 1).trans rfl, (blk_cell BK352.out 2).trans rfl⟩ (fun hHeld => ?_)
                      clear hK K
                      refine norm_ (a' := ?_) ?_ ?_
                      rotate_left
                      ·show Act.put _ (some 9) _ = _
                       simp only [Act.put, List.setIfInBounds_toArray, List.set_cons_zero, List.set_cons_succ, i64_w, i32_w]
                       rfl
                      exact norm_ (by first | (simp only [putAll, Act.put, List.setIfInBounds_toArray, List.set_cons_zero, List.set_cons_succ]; done) | (simp only [putAll, Act.put, List.setIfInBounds_toArray, List.set_cons_zero, List.set_cons_succ]; rfl)) (hJ10 (gb374) _ ⟨hHeld, (by (with_reducible repeat (first | apply Kd.R_alloc | apply Kd.R_drewN | apply Kd.R_drew)); exact Kd.R_mono HO355.out (fun _ hk => ⟨hk.1.1, ⟨hk.1.2, hk.2⟩⟩)), (bk_ BK352), (bk_ BK360), (bk_ BK374), GW374.out, GE374.out, NB352_374.out, NB374_352.out, NB360_374.out, NB374_360.out, (by repeat (first | (with_reducible first | exact HB.out | apply below_alloc | apply pw_below_drewN | apply below_drew1 | refine below_set ?_ GE352.out | refine below_set ?_ GE360.out | refine below_set ?_ GE374.out) | exact HB.out))⟩)
                    ·skip
                     rintro gb374 w49 ⟨hS_, h0_, h1_, h2_, h3_, h4_, h5_, h6_, h7_, h8_, h9_, h10_⟩
                     have n0_ : Aside0 (Kd.R k25 25 w49 w.heap.size (fun k_ => k_ ≠ gb352 ∧ k_ ≠ gb360 ∧ k_ ≠ gb374) (.slice Ao41 y353.length co41) y353) := ⟨h0_⟩
                     have n1_ : Aside0 (w49.heap[gb352]? = some (.cells #[.int .i64 t348, .int .i64 t349, .string t350] 25 (0, 0))) := ⟨h1_⟩
                     have n2_ : Aside0 (w49.heap[gb360]? = some (.cells #[.int .i64 t356, .int .i64 t357, .string t358] 25 (0, 0))) := ⟨h2_⟩
                     have n3_ : Aside0 (w49.heap[gb374]? = some (.cells #[.int .i64 0, .int .i64 0, .string (⟨#[]⟩ : ByteArray)] 25 (0, 0))) := ⟨h3_⟩
                     have n4_ : Aside0 (w.heap.size ≤ gb374) := ⟨h4_⟩
                     have n5_ : Aside0 (w.heap.size ≤ gb374) := ⟨h5_⟩
                     have n6_ : Aside0 (gb352 ≠ gb374) := ⟨h6_⟩
                     have n7_ : Aside0 (gb374 ≠ gb352) := ⟨h7_⟩
                     have n8_ : Aside0 (gb360 ≠ gb374) := ⟨h8_⟩
                     have n9_ : Aside0 (gb374 ≠ gb360) := ⟨h9_⟩
                     have n10_ : Aside0 (Below w.heap.size w w49) := ⟨h10_⟩
                     clear HO355
                     clear BK352
                     clear BK360
                     clear HB
                     clear h0_ h1_ h2_ h3_ h4_ h5_ h6_ h7_ h8_ h9_ h10_
                     have HO355 := n0_
                     have BK352 := n1_
                     have BK360 := n2_
                     have BK374 := n3_
                     have GW374 := n4_
                     have GE374 := n5_
                     have NB352_374 := n6_
                     have NB374_352 := n7_
                     have NB360_374 := n8_
                     have NB374_360 := n9_
                     have HB := n10_
                     clear n0_ n1_ n2_ n3_ n4_ n5_ n6_ n7_ n8_ n9_ n10_
                     have hHeld : w49.cell? ⟨gb352, 0, none⟩ = some (.int .i64 t348) ∧ w49.cell? ⟨gb352, 1, none⟩ = some (.int .i64 t349) ∧ w49.cell? ⟨gb352, 2, none⟩ = some (.string t350) := hS_
                     refine norm_ (a' := ?_) ?_ ?_
                     rotate_left
                     ·simp only [putAll, Act.put, List.setIfInBounds_toArray, List.set_cons_zero, List.set_cons_succ]
                      rfl
                     refine one_ (i := 1) (N := some 54) #[true, true, true, true, false, false, false, false, false, false, true, false, false] rfl rfl (one_of HT_.out (by kernel_rfl)) (by decide) (fun K hK => ?_)
                     refine goes_ Try.func24 (by kernel_rfl) rfl #[.int .i64 1] (by rfl) rfl rfl (by (try simp only [List.map_toArray, List.map_cons, List.map_nil]); first | done | rfl | (simp only [List.length_drop, List.length_take]; rfl)) ?_
                     with_reducible refine (quarrylaw02_num.calls 1 t361 t362 t363 _ A10.out).mono ?_
                     rintro e w50 ⟨rfl, hb⟩
                     refine ⟨_, rfl, ?_⟩
                     have n0_ := Aside0.mk (Kd.R_below (by (with_reducible repeat (first | apply Kd.R_alloc | apply Kd.R_drewN | apply Kd.R_drew)); exact HO355.out) hb)
                     have n1_ := Aside0.mk (blk_below (g := gb352) (o := .cells #[.int .i64 t348, .int .i64 t349, .string t350] 25 (0, 0)) (bk_ BK352) hb)
                     have n2_ := Aside0.mk (blk_below (g := gb360) (o := .cells #[.int .i64 t356, .int .i64 t357, .string t358] 25 (0, 0)) (bk_ BK360) hb)
                     have n3_ := Aside0.mk (blk_below (g := gb374) (o := .cells #[.int .i64 0, .int .i64 0, .string (⟨#[]⟩ : ByteArray)] 25 (0, 0)) (bk_ BK374) hb)
                     have n4_ := Aside0.mk (below_step (by repeat (first | (with_reducible first | exact HB.out | apply below_alloc | apply pw_below_drewN | apply below_drew1 | refine below_set ?_ GE352.out | refine below_set ?_ GE360.out | refine below_set ?_ GE374.out) | exact HB.out)) hb)
                     clear HO355
                     clear BK352
                     clear BK360
                     clear BK374
                     clear HB
                     have HO355 := n0_
                     have BK352 := n1_
                     have BK360 := n2_
                     have BK374 := n3_
                     have HB := n4_
                     clear n0_ n1_ n2_ n3_ n4_
                     (try clear hb)
                     (try clear hb2)
                     (try clear hk)
                     (try clear hi)
                     refine hK.out _ _ ⟨(blk_cell BK352.out 0).trans rfl, (blk_cell BK352.out 1).trans rfl, (blk_cell BK352.out 2).trans rfl⟩ (fun hHeld => ?_)
                     clear hK K
                     refine norm_ (a' := ?_) ?_ ?_
                     rotate_left
                     ·show Act.put _ (some 54) _ = _
                      simp only [Act.put, List.setIfInBounds_toArray, List.set_cons_zero, List.set_cons_succ, i64_w, i32_w]
                      rfl
                     exact norm_ (by first | (simp only [putAll, Act.put, List.setIfInBounds_toArray, List.set_cons_zero, List.set_cons_succ]; done) | (simp only [putAll, Act.put, List.setIfInBounds_toArray, List.set_cons_zero, List.set_cons_succ]; rfl)) (hJ1_10 (gb374) _ ⟨hHeld, (by (with_reducible repeat (first | apply Kd.R_alloc | apply Kd.R_drewN | apply Kd.R_drew)); exact HO355.out), (bk_ BK352), (bk_ BK360), (bk_ BK374), GW374.out, GE374.out, NB352_374.out, NB374_352.out, NB360_374.out, NB374_360.out, (by repeat (first | (with_reducible first | exact HB.out | apply below_alloc | apply pw_below_drewN | apply below_drew1 | refine below_set ?_ GE352.out | refine below_set ?_ GE360.out | refine below_set ?_ GE374.out) | exact HB.out))⟩)
                   ·skip
                    rintro _ w49 ⟨hS_, h0_, h1_, h2_, h3_⟩
                    have n0_ : Aside0 (Kd.R k25 25 w49 w.heap.size (fun k_ => k_ ≠ gb352 ∧ k_ ≠ gb360) (.slice Ao41 y353.length co41) y353) := ⟨h0_⟩
                    have n1_ : Aside0 (w49.heap[gb352]? = some (.cells #[.int .i64 t348, .int .i64 t349, .string t350] 25 (0, 0))) := ⟨h1_⟩
                    have n2_ : Aside0 (w49.heap[gb360]? = some (.cells #[.int .i64 t356, .int .i64 t357, .string t358] 25 (0, 0))) := ⟨h2_⟩
                    have n3_ : Aside0 (Below w.heap.size w w49) := ⟨h3_⟩
                    clear HO355
                    clear BK352
                    clear BK360
                    clear HB
                    clear h0_ h1_ h2_ h3_
                    have HO355 := n0_
                    have BK352 := n1_
                    have BK360 := n2_
                    have HB := n3_
                    clear n0_ n1_ n2_ n3_
                    have hHeld : w49.cell? ⟨gb352, 0, none⟩ = some (.int .i64 t348) ∧ w49.cell? ⟨gb352, 1, none⟩ = some (.int .i64 t349) ∧ w49.cell? ⟨gb352, 2, none⟩ = some (.string t350) := hS_
                    refine norm_ (a' := ?_) ?_ ?_
                    rotate_left
                    ·simp only [putAll, Act.put, List.setIfInBounds_toArray, List.set_cons_zero, List.set_cons_succ]
                     rfl
                    refine two_ (i := 4) (j := 10) (Ni := some 57) (Nj := some 9) #[true, true, true, true, true, false, false, false, false, false, false, false, false] #[true, true, true, true, false, false, false, false, false, false, true, false, false] rfl rfl rfl rfl (two_of HT_.out (by kernel_rfl)) (by decide) (by decide) (fun K hK => ?_) (fun K hK => ?_)
                    ·skip
                     refine goes_ Try.func24 (by kernel_rfl) rfl #[.int .i64 (a0.size : Int)] (by rfl) rfl rfl (by (try simp only [List.map_toArray, List.map_cons, List.map_nil]); first | done | rfl | (simp only [List.length_drop, List.length_take]; rfl)) ?_
                     with_reducible refine (quarrylaw02_num.calls (a0.size : Int) t364 t365 t366 _ A11.out).mono ?_
                     rintro e w50 ⟨rfl, hb⟩
                     refine ⟨_, rfl, ?_⟩
                     have n0_ := Aside0.mk (Kd.R_below (by (with_reducible repeat (first | apply Kd.R_alloc | apply Kd.R_drewN | apply Kd.R_drew)); exact HO355.out) hb)
                     have n1_ := Aside0.mk (blk_below (g := gb352) (o := .cells #[.int .i64 t348, .int .i64 t349, .string t350] 25 (0, 0)) (bk_ BK352) hb)
                     have n2_ := Aside0.mk (blk_below (g := gb360) (o := .cells #[.int .i64 t356, .int .i64 t357, .string t358] 25 (0, 0)) (bk_ BK360) hb)
                     have n3_ := Aside0.mk (below_step (by repeat (first | (with_reducible first | exact HB.out | apply below_alloc | apply pw_below_drewN | apply below_drew1 | refine below_set ?_ GE352.out | refine below_set ?_ GE360.out) | exact HB.out)) hb)
                     clear HO355
                     clear BK352
                     clear BK360
                     clear HB
                     have HO355 := n0_
                     have BK352 := n1_
                     have BK360 := n2_
                     have HB := n3_
                     clear n0_ n1_ n2_ n3_
                     (try clear hb)
                     (try clear hb2)
                     (try clear hk)
                     (try clear hi)
                     refine hK.out _ _ ⟨(blk_cell BK352.out 0).trans rfl, (blk_cell BK352.out 1).trans rfl, (blk_cell BK352.out 2).trans rfl⟩ (fun hHeld => ?_)
                     clear hK K
                     refine norm_ (a' := ?_) ?_ ?_
                     rotate_left
                     ·show Act.put _ (some 57) _ = _
                      simp only [Act.put, List.setIfInBounds_toArray, List.set_cons_zero, List.set_cons_succ, i64_w, i32_w]
                      rfl
                     exact norm_ (by first | (simp only [putAll, Act.put, List.setIfInBounds_toArray, List.set_cons_zero, List.set_cons_succ]; done) | (simp only [putAll, Act.put, List.setIfInBounds_toArray, List.set_cons_zero, List.set_cons_succ]; rfl)) (hJ1_4 () _ ⟨hHeld, (by (with_reducible repeat (first | apply Kd.R_alloc | apply Kd.R_drewN | apply Kd.R_drew)); exact HO355.out), (bk_ BK352), (bk_ BK360), (by repeat (first | (with_reducible first | exact HB.out | apply below_alloc | apply pw_below_drewN | apply below_drew1 | refine below_set ?_ GE352.out | refine below_set ?_ GE360.out) | exact HB.out))⟩)
                    ·skip
                     refine box_step ?hg (N := 9) ?hd (cs := #[.int .i64 0, .int .i64 0, .string (⟨#[]⟩ : ByteArray)]) (t := 25) ?hr ?_; (case hd => rfl); (case hg => rfl); (case hr => first | (go_simp; done) | (go_simp; rfl))
                     intro gb374 hg w50 hbox hb
                     have n0_ := Aside0.mk (Kd.R_below (Kd.R_elderB (by (with_reducible repeat (first | apply Kd.R_alloc | apply Kd.R_drewN | apply Kd.R_drew)); exact HO355.out) gb374 (Nat.le_of_eq hg.symm)) hb)
                     have n1_ := Aside0.mk (blk_below (g := gb352) (o := .cells #[.int .i64 t348, .int .i64 t349, .string t350] 25 (0, 0)) (bk_ BK352) hb)
                     have n2_ := Aside0.mk (blk_below (g := gb360) (o := .cells #[.int .i64 t356, .int .i64 t357, .string t358] 25 (0, 0)) (bk_ BK360) hb)
                     have n3_ := Aside0.mk (below_step (by repeat (first | (with_reducible first | exact HB.out | apply below_alloc | apply pw_below_drewN | apply below_drew1 | refine below_set ?_ GE352.out | refine below_set ?_ GE360.out) | exact HB.out)) hb)
                     have n4_ := Aside0.mk (hbox)
                     have n5_ := Aside0.mk ((by rw [hg]; exact (below_size (by repeat (first | (with_reducible first | exact HB.out | apply below_alloc | apply pw_below_drewN | apply below_drew1 | refine below_set ?_ GE352.out | refine below_set ?_ GE360.out) | exact HB.out))) : w.heap.size ≤ gb374))
                     have n6_ := Aside0.mk ((by rw [hg]; exact (below_size (by repeat (first | (with_reducible first | exact HB.out | apply below_alloc | apply pw_below_drewN | apply below_drew1 | refine below_set ?_ GE352.out | refine below_set ?_ GE360.out) | exact HB.out))) : w.heap.size ≤ gb374))
                     have n7_ := Aside0.mk ((by rw [hg]; exact Nat.ne_of_lt (blk_lt (g := gb352) (o := .cells #[.int .i64 t348, .int .i64 t349, .string t350] 25 (0, 0)) (bk_ BK352)) : gb352 ≠ gb374))
                     have n8_ := Aside0.mk ((by rw [hg]; exact Nat.ne_of_gt (blk_lt (g := gb352) (o := .cells #[.int .i64 t348, .int .i64 t349, .string t350] 25 (0, 0)) (bk_ BK352)) : gb374 ≠ gb352))
                     have n9_ := Aside0.mk ((by rw [hg]; exact Nat.ne_of_lt (blk_lt (g := gb360) (o := .cells #[.int .i64 t356, .int .i64 t357, .string t358] 25 (0, 0)) (bk_ BK360)) : gb360 ≠ gb374))
                     have n10_ := Aside0.mk ((by rw [hg]; exact Nat.ne_of_gt (blk_lt (g := gb360) (o := .cells #[.int .i64 t356, .int .i64 t357, .string t358] 25 (0, 0)) (bk_ BK360)) : gb374 ≠ gb360))
                     clear HO355
                     clear BK352
                     clear BK360
                     clear HB
                     have HO355 := n0_
                     have BK352 := n1_
                     have BK360 := n2_
                     have HB := n3_
                     have BK374 := n4_
                     have GW374 := n5_
                     have GE374 := n6_
                     have NB352_374 := n7_
                     have NB374_352 := n8_
                     have NB360_374 := n9_
                     have NB374_360 := n10_
                     clear n0_ n1_ n2_ n3_ n4_ n5_ n6_ n7_ n8_ n9_ n10_
                     clear hb hbox hg
                     refine hK.out _ _ ⟨(blk_cell BK352.out 0).trans rfl, (blk_cell BK352.out 1).trans rfl, (blk_cell BK352.out 2).trans rfl⟩ (fun hHeld => ?_)
                     clear hK K
                     refine norm_ (a' := ?_) ?_ ?_
                     rotate_left
                     ·show Act.put _ (some 9) _ = _
                      simp only [Act.put, List.setIfInBounds_toArray, List.set_cons_zero, List.set_cons_succ, i64_w, i32_w]
                      rfl
                     exact norm_ (by first | (simp only [putAll, Act.put, List.setIfInBounds_toArray, List.set_cons_zero, List.set_cons_succ]; done) | (simp only [putAll, Act.put, List.setIfInBounds_toArray, List.set_cons_zero, List.set_cons_succ]; rfl)) (hJ1_10 (gb374) _ ⟨hHeld, (by (with_reducible repeat (first | apply Kd.R_alloc | apply Kd.R_drewN | apply Kd.R_drew)); exact Kd.R_mono HO355.out (fun _ hk => ⟨hk.1.1, ⟨hk.1.2, hk.2⟩⟩)), (bk_ BK352), (bk_ BK360), (bk_ BK374), GW374.out, GE374.out, NB352_374.out, NB374_352.out, NB360_374.out, NB374_360.out, (by repeat (first | (with_reducible first | exact HB.out | apply below_alloc | apply pw_below_drewN | apply below_drew1 | refine below_set ?_ GE352.out | refine below_set ?_ GE360.out | refine below_set ?_ GE374.out) | exact HB.out))⟩)
                  ·skip
                   rintro gb374 w50 ⟨hS_, h0_, h1_, h2_, h3_, h4_, h5_, h6_, h7_, h8_, h9_, h10_⟩
                   have n0_ : Aside0 (Kd.R k25 25 w50 w.heap.size (fun k_ => k_ ≠ gb352 ∧ k_ ≠ gb360 ∧ k_ ≠ gb374) (.slice Ao41 y353.length co41) y353) := ⟨h0_⟩
                   have n1_ : Aside0 (w50.heap[gb352]? = some (.cells #[.int .i64 t348, .int .i64 t349, .string t350] 25 (0, 0))) := ⟨h1_⟩
                   have n2_ : Aside0 (w50.heap[gb360]? = some (.cells #[.int .i64 t356, .int .i64 t357, .string t358] 25 (0, 0))) := ⟨h2_⟩
                   have n3_ : Aside0 (w50.heap[gb374]? = some (.cells #[.int .i64 0, .int .i64 0, .string (⟨#[]⟩ : ByteArray)] 25 (0, 0))) := ⟨h3_⟩
                   have n4_ : Aside0 (w.heap.size ≤ gb374) := ⟨h4_⟩
                   have n5_ : Aside0 (w.heap.size ≤ gb374) := ⟨h5_⟩
                   have n6_ : Aside0 (gb352 ≠ gb374) := ⟨h6_⟩
                   have n7_ : Aside0 (gb374 ≠ gb352) := ⟨h7_⟩
                   have n8_ : Aside0 (gb360 ≠ gb374) := ⟨h8_⟩
                   have n9_ : Aside0 (gb374 ≠ gb360) := ⟨h9_⟩
                   have n10_ : Aside0 (Below w.heap.size w w50) := ⟨h10_⟩
                   clear HO355
                   clear BK352
                   clear BK360
                   clear HB
                   clear h0_ h1_ h2_ h3_ h4_ h5_ h6_ h7_ h8_ h9_ h10_
                   have HO355 := n0_
                   have BK352 := n1_
                   have BK360 := n2_
                   have BK374 := n3_
                   have GW374 := n4_
                   have GE374 := n5_
                   have NB352_374 := n6_
                   have NB374_352 := n7_
                   have NB360_374 := n8_
                   have NB374_360 := n9_
                   have HB := n10_
                   clear n0_ n1_ n2_ n3_ n4_ n5_ n6_ n7_ n8_ n9_ n10_
                   have hHeld : w50.cell? ⟨gb352, 0, none⟩ = some (.int .i64 t348) ∧ w50.cell? ⟨gb352, 1, none⟩ = some (.int .i64 t349) ∧ w50.cell? ⟨gb352, 2, none⟩ = some (.string t350) := hS_
                   refine norm_ (a' := ?_) ?_ ?_
                   rotate_left
                   ·simp only [putAll, Act.put, List.setIfInBounds_toArray, List.set_cons_zero, List.set_cons_succ]
                    rfl
                   refine one_ (i := 4) (N := some 57) #[true, true, true, true, true, false, false, false, false, false, true, false, false] rfl rfl (one_of HT_.out (by kernel_rfl)) (by decide) (fun K hK => ?_)
                   refine goes_ Try.func24 (by kernel_rfl) rfl #[.int .i64 (a0.size : Int)] (by rfl) rfl rfl (by (try simp only [List.map_toArray, List.map_cons, List.map_nil]); first | done | rfl | (simp only [List.length_drop, List.length_take]; rfl)) ?_
                   with_reducible refine (quarrylaw02_num.calls (a0.size : Int) t364 t365 t366 _ A11.out).mono ?_
                   rintro e w51 ⟨rfl, hb⟩
                   refine ⟨_, rfl, ?_⟩
                   have n0_ := Aside0.mk (Kd.R_below (by (with_reducible repeat (first | apply Kd.R_alloc | apply Kd.R_drewN | apply Kd.R_drew)); exact HO355.out) hb)
                   have n1_ := Aside0.mk (blk_below (g := gb352) (o := .cells #[.int .i64 t348, .int .i64 t349, .string t350] 25 (0, 0)) (bk_ BK352) hb)
                   have n2_ := Aside0.mk (blk_below (g := gb360) (o := .cells #[.int .i64 t356, .int .i64 t357, .string t358] 25 (0, 0)) (bk_ BK360) hb)
                   have n3_ := Aside0.mk (blk_below (g := gb374) (o := .cells #[.int .i64 0, .int .i64 0, .string (⟨#[]⟩ : ByteArray)] 25 (0, 0)) (bk_ BK374) hb)
                   have n4_ := Aside0.mk (below_step (by repeat (first | (with_reducible first | exact HB.out | apply below_alloc | apply pw_below_drewN | apply below_drew1 | refine below_set ?_ GE352.out | refine below_set ?_ GE360.out | refine below_set ?_ GE374.out) | exact HB.out)) hb)
                   clear HO355
                   clear BK352
                   clear BK360
                   clear BK374
                   clear HB
                   have HO355 := n0_
                   have BK352 := n1_
                   have BK360 := n2_
                   have BK374 := n3_
                   have HB := n4_
                   clear n0_ n1_ n2_ n3_ n4_
                   (try clear hb)
                   (try clear hb2)
                   (try clear hk)
                   (try clear hi)
                   refine hK.out _ _ ⟨(blk_cell BK352.out 0).trans rfl, (blk_cell BK352.out 1).trans rfl, (blk_cell BK352.out 2).trans rfl⟩ (fun hHeld => ?_)
                   clear hK K
                   refine norm_ (a' := ?_) ?_ ?_
                   rotate_left
                   ·show Act.put _ (some 57) _ = _
                    simp only [Act.put, List.setIfInBounds_toArray, List.set_cons_zero, List.set_cons_succ, i64_w, i32_w]
                    rfl
                   exact norm_ (by first | (simp only [putAll, Act.put, List.setIfInBounds_toArray, List.set_cons_zero, List.set_cons_succ]; done) | (simp only [putAll, Act.put, List.setIfInBounds_toArray, List.set_cons_zero, List.set_cons_succ]; rfl)) (hJ1_4_10 (gb374) _ ⟨hHeld, (by (with_reducible repeat (first | apply Kd.R_alloc | apply Kd.R_drewN | apply Kd.R_drew)); exact HO355.out), (bk_ BK352), (bk_ BK360), (bk_ BK374), GW374.out, GE374.out, NB352_374.out, NB374_352.out, NB360_374.out, NB374_360.out, (by repeat (first | (with_reducible first | exact HB.out | apply below_alloc | apply pw_below_drewN | apply below_drew1 | refine below_set ?_ GE352.out | refine below_set ?_ GE360.out | refine below_set ?_ GE374.out) | exact HB.out))⟩)
                 ·skip
                  rintro _ w50 ⟨hS_, h0_, h1_, h2_, h3_⟩
                  have n0_ : Aside0 (Kd.R k25 25 w50 w.heap.size (fun k_ => k_ ≠ gb352 ∧ k_ ≠ gb360) (.slice Ao41 y353.length co41) y353) := ⟨h0_⟩
                  have n1_ : Aside0 (w50.heap[gb352]? = some (.cells #[.int .i64 t348, .int .i64 t349, .string t350] 25 (0, 0))) := ⟨h1_⟩
                  have n2_ : Aside0 (w50.heap[gb360]? = some (.cells #[.int .i64 t356, .int .i64 t357, .string t358] 25 (0, 0))) := ⟨h2_⟩
                  have n3_ : Aside0 (Below w.heap.size w w50) := ⟨h3_⟩
                  clear HO355
                  clear BK352
                  clear BK360
                  clear HB
                  clear h0_ h1_ h2_ h3_
                  have HO355 := n0_
                  have BK352 := n1_
                  have BK360 := n2_
                  have HB := n3_
                  clear n0_ n1_ n2_ n3_
                  have hHeld : w50.cell? ⟨gb352, 0, none⟩ = some (.int .i64 t348) ∧ w50.cell? ⟨gb352, 1, none⟩ = some (.int .i64 t349) ∧ w50.cell? ⟨gb352, 2, none⟩ = some (.string t350) := hS_
                  refine norm_ (a' := ?_) ?_ ?_
                  rotate_left
                  ·simp only [putAll, Act.put, List.setIfInBounds_toArray, List.set_cons_zero, List.set_cons_succ]
                   rfl
                  refine two_ (i := 5) (j := 10) (Ni := some 58) (Nj := some 9) #[true, true, true, true, true, true, false, false, false, false, false, false, false] #[true, true, true, true, true, false, false, false, false, false, true, false, false] rfl rfl rfl rfl (two_of HT_.out (by kernel_rfl)) (by decide) (by decide) (fun K hK => ?_) (fun K hK => ?_)
                  ·skip
                   refine Kd.R_lit_step k25 _ 25 ?hg (N := 58) ?hd (xs := ([(⟨t348, t349, t350⟩ : S25), (⟨t361, t362, t363⟩ : S25), (⟨t364, t365, t366⟩ : S25)] : List (S25))) (inner := [.int .i64 t348, .int .i64 t349, .string t350, .int .i64 t361, .int .i64 t362, .string t363, .int .i64 t364, .int .i64 t365, .string t366]) (ok := fun _ => True) (okp := fun _ => True) ?hr ?hp (fun _ hk => hk) trivial (Below.refl _ _) (Nat.le_refl _) (by simp) ?_; (case hd => rfl); (case hg => rfl); (case hr => first | (go_simp; done) | (go_simp; rfl)); (case hp => exact (Reps.c3 (show Kd.M k25 _ _ _ (⟨t348, t349, t350⟩ : S25) [.int .i64 t348, .int .i64 t349, .string t350] from (k25_mkM _ _ _ (⟨t348, t349, t350⟩ : S25) )) (Reps.c3 (show Kd.M k25 _ _ _ (⟨t361, t362, t363⟩ : S25) [.int .i64 t361, .int .i64 t362, .string t363] from (k25_mkM _ _ _ (⟨t361, t362, t363⟩ : S25) )) (Reps.c3 (show Kd.M k25 _ _ _ (⟨t364, t365, t366⟩ : S25) [.int .i64 t364, .int .i64 t365, .string t366] from (k25_mkM _ _ _ (⟨t364, t365, t366⟩ : S25) )) (Reps.none _ _)))))
                   intro v368 w51 ho52 hb hg_ hnew_
                   clear hg_ hnew_
                   (first | rw [← Ny367.out] at ho52 | (simp only [Int.reduceToNat] at ho52; rw [← Ny367.out] at ho52))
                   have n0_ := Aside0.mk (Kd.R_elder' (by (with_reducible repeat (first | apply Kd.R_alloc | apply Kd.R_drewN | apply Kd.R_drew)); exact HO355.out) (Kd.R_base ho52) hb)
                   have n1_ := Aside0.mk (Kd.R_lower (Kd.R_newB (Kd.R_newB (Kd.R_new' ho52 (Kd.R_lt (by (with_reducible repeat (first | apply Kd.R_alloc | apply Kd.R_drewN | apply Kd.R_drew)); exact HO355.out))) (g := gb352) (o := .cells #[.int .i64 t348, .int .i64 t349, .string t350] 25 (0, 0)) (bk_ BK352)) (g := gb360) (o := .cells #[.int .i64 t356, .int .i64 t357, .string t358] 25 (0, 0)) (bk_ BK360)) (below_size (by repeat (first | (with_reducible first | exact HB.out | apply below_alloc | apply pw_below_drewN | apply below_drew1 | refine below_set ?_ GE352.out | refine below_set ?_ GE360.out) | exact HB.out))))
                   have n2_ := Aside0.mk (blk_below (g := gb352) (o := .cells #[.int .i64 t348, .int .i64 t349, .string t350] 25 (0, 0)) (bk_ BK352) hb)
                   have n3_ := Aside0.mk (blk_below (g := gb360) (o := .cells #[.int .i64 t356, .int .i64 t357, .string t358] 25 (0, 0)) (bk_ BK360) hb)
                   have n4_ := Aside0.mk (below_step (by repeat (first | (with_reducible first | exact HB.out | apply below_alloc | apply pw_below_drewN | apply below_drew1 | refine below_set ?_ GE352.out | refine below_set ?_ GE360.out) | exact HB.out)) hb)
                   clear HO355
                   clear BK352
                   clear BK360
                   clear HB
                   have HO355 := n0_
                   have HO369 := n1_
                   have BK352 := n2_
                   have BK360 := n3_
                   have HB := n4_
                   clear n0_ n1_ n2_ n3_ n4_
                   clear hb ho52
                   refine hK.out _ _ ⟨(blk_cell BK352.out 0).trans rfl, (blk_cell BK352.out 1).trans rfl, (blk_cell BK352.out 2).trans rfl⟩ (fun hHeld => ?_)
                   clear hK K
                   refine norm_ (a' := ?_) ?_ ?_
                   rotate_left
                   ·show Act.put _ (some 58) _ = _
                    simp only [Act.put, List.setIfInBounds_toArray, List.set_cons_zero, List.set_cons_succ, i64_w, i32_w]
                    rfl
                   exact norm_ (by first | (simp only [putAll, Act.put, List.setIfInBounds_toArray, List.set_cons_zero, List.set_cons_succ]; done) | (simp only [putAll, Act.put, List.setIfInBounds_toArray, List.set_cons_zero, List.set_cons_succ]; rfl)) (hJ1_4_5 (v368) _ ⟨hHeld, (by (with_reducible repeat (first | apply Kd.R_alloc | apply Kd.R_drewN | apply Kd.R_drew)); exact Kd.R_mono HO355.out (fun _ hk => ⟨hk.2, ⟨hk.1.1, hk.1.2⟩⟩)), (by (with_reducible repeat (first | apply Kd.R_alloc | apply Kd.R_drewN | apply Kd.R_drew)); exact Kd.R_mono HO369.out (fun _ hk => ⟨hk.1.1.2, ⟨hk.1.2, hk.2⟩⟩)), (bk_ BK352), (bk_ BK360), (by repeat (first | (with_reducible first | exact HB.out | apply below_alloc | apply pw_below_drewN | apply below_drew1 | refine below_set ?_ GE352.out | refine below_set ?_ GE360.out) | exact HB.out))⟩)
                  ·skip
                   refine box_step ?hg (N := 9) ?hd (cs := #[.int .i64 0, .int .i64 0, .string (⟨#[]⟩ : ByteArray)]) (t := 25) ?hr ?_; (case hd => rfl); (case hg => rfl); (case hr => first | (go_simp; done) | (go_simp; rfl))
                   intro gb374 hg w51 hbox hb
                   have n0_ := Aside0.mk (Kd.R_below (Kd.R_elderB (by (with_reducible repeat (first | apply Kd.R_alloc | apply Kd.R_drewN | apply Kd.R_drew)); exact HO355.out) gb374 (Nat.le_of_eq hg.symm)) hb)
                   have n1_ := Aside0.mk (blk_below (g := gb352) (o := .cells #[.int .i64 t348, .int .i64 t349, .string t350] 25 (0, 0)) (bk_ BK352) hb)
                   have n2_ := Aside0.mk (blk_below (g := gb360) (o := .cells #[.int .i64 t356, .int .i64 t357, .string t358] 25 (0, 0)) (bk_ BK360) hb)
                   have n3_ := Aside0.mk (below_step (by repeat (first | (with_reducible first | exact HB.out | apply below_alloc | apply pw_below_drewN | apply below_drew1 | refine below_set ?_ GE352.out | refine below_set ?_ GE360.out) | exact HB.out)) hb)
                   have n4_ := Aside0.mk (hbox)
                   have n5_ := Aside0.mk ((by rw [hg]; exact (below_size (by repeat (first | (with_reducible first | exact HB.out | apply below_alloc | apply pw_below_drewN | apply below_drew1 | refine below_set ?_ GE352.out | refine below_set ?_ GE360.out) | exact HB.out))) : w.heap.size ≤ gb374))
                   have n6_ := Aside0.mk ((by rw [hg]; exact (below_size (by repeat (first | (with_reducible first | exact HB.out | apply below_alloc | apply pw_below_drewN | apply below_drew1 | refine below_set ?_ GE352.out | refine below_set ?_ GE360.out) | exact HB.out))) : w.heap.size ≤ gb374))
                   have n7_ := Aside0.mk ((by rw [hg]; exact Nat.ne_of_lt (blk_lt (g := gb352) (o := .cells #[.int .i64 t348, .int .i64 t349, .string t350] 25 (0, 0)) (bk_ BK352)) : gb352 ≠ gb374))
                   have n8_ := Aside0.mk ((by rw [hg]; exact Nat.ne_of_gt (blk_lt (g := gb352) (o := .cells #[.int .i64 t348, .int .i64 t349, .string t350] 25 (0, 0)) (bk_ BK352)) : gb374 ≠ gb352))
                   have n9_ := Aside0.mk ((by rw [hg]; exact Nat.ne_of_lt (blk_lt (g := gb360) (o := .cells #[.int .i64 t356, .int .i64 t357, .string t358] 25 (0, 0)) (bk_ BK360)) : gb360 ≠ gb374))
                   have n10_ := Aside0.mk ((by rw [hg]; exact Nat.ne_of_gt (blk_lt (g := gb360) (o := .cells #[.int .i64 t356, .int .i64 t357, .string t358] 25 (0, 0)) (bk_ BK360)) : gb374 ≠ gb360))
                   clear HO355
                   clear BK352
                   clear BK360
                   clear HB
                   have HO355 := n0_
                   have BK352 := n1_
                   have BK360 := n2_
                   have HB := n3_
                   have BK374 := n4_
                   have GW374 := n5_
                   have GE374 := n6_
                   have NB352_374 := n7_
                   have NB374_352 := n8_
                   have NB360_374 := n9_
                   have NB374_360 := n10_
                   clear n0_ n1_ n2_ n3_ n4_ n5_ n6_ n7_ n8_ n9_ n10_
                   clear hb hbox hg
                   refine hK.out _ _ ⟨(blk_cell BK352.out 0).trans rfl, (blk_cell BK352.out 1).trans rfl, (blk_cell BK352.out 2).trans rfl⟩ (fun hHeld => ?_)
                   clear hK K
                   refine norm_ (a' := ?_) ?_ ?_
                   rotate_left
                   ·show Act.put _ (some 9) _ = _
                    simp only [Act.put, List.setIfInBounds_toArray, List.set_cons_zero, List.set_cons_succ, i64_w, i32_w]
                    rfl
                   exact norm_ (by first | (simp only [putAll, Act.put, List.setIfInBounds_toArray, List.set_cons_zero, List.set_cons_succ]; done) | (simp only [putAll, Act.put, List.setIfInBounds_toArray, List.set_cons_zero, List.set_cons_succ]; rfl)) (hJ1_4_10 (gb374) _ ⟨hHeld, (by (with_reducible repeat (first | apply Kd.R_alloc | apply Kd.R_drewN | apply Kd.R_drew)); exact Kd.R_mono HO355.out (fun _ hk => ⟨hk.1.1, ⟨hk.1.2, hk.2⟩⟩)), (bk_ BK352), (bk_ BK360), (bk_ BK374), GW374.out, GE374.out, NB352_374.out, NB374_352.out, NB360_374.out, NB374_360.out, (by repeat (first | (with_reducible first | exact HB.out | apply below_alloc | apply pw_below_drewN | apply below_drew1 | refine below_set ?_ GE352.out | refine below_set ?_ GE360.out | refine below_set ?_ GE374.out) | exact HB.out))⟩)
                ·skip
                 rintro gb374 w51 ⟨hS_, h0_, h1_, h2_, h3_, h4_, h5_, h6_, h7_, h8_, h9_, h10_⟩
                 have n0_ : Aside0 (Kd.R k25 25 w51 w.heap.size (fun k_ => k_ ≠ gb352 ∧ k_ ≠ gb360 ∧ k_ ≠ gb374) (.slice Ao41 y353.length co41) y353) := ⟨h0_⟩
                 have n1_ : Aside0 (w51.heap[gb352]? = some (.cells #[.int .i64 t348, .int .i64 t349, .string t350] 25 (0, 0))) := ⟨h1_⟩
                 have n2_ : Aside0 (w51.heap[gb360]? = some (.cells #[.int .i64 t356, .int .i64 t357, .string t358] 25 (0, 0))) := ⟨h2_⟩
                 have n3_ : Aside0 (w51.heap[gb374]? = some (.cells #[.int .i64 0, .int .i64 0, .string (⟨#[]⟩ : ByteArray)] 25 (0, 0))) := ⟨h3_⟩
                 have n4_ : Aside0 (w.heap.size ≤ gb374) := ⟨h4_⟩
                 have n5_ : Aside0 (w.heap.size ≤ gb374) := ⟨h5_⟩
                 have n6_ : Aside0 (gb352 ≠ gb374) := ⟨h6_⟩
                 have n7_ : Aside0 (gb374 ≠ gb352) := ⟨h7_⟩
                 have n8_ : Aside0 (gb360 ≠ gb374) := ⟨h8_⟩
                 have n9_ : Aside0 (gb374 ≠ gb360) := ⟨h9_⟩
                 have n10_ : Aside0 (Below w.heap.size w w51) := ⟨h10_⟩
                 clear HO355
                 clear BK352
                 clear BK360
                 clear HB
                 clear h0_ h1_ h2_ h3_ h4_ h5_ h6_ h7_ h8_ h9_ h10_
                 have HO355 := n0_
                 have BK352 := n1_
                 have BK360 := n2_
                 have BK374 := n3_
                 have GW374 := n4_
                 have GE374 := n5_
                 have NB352_374 := n6_
                 have NB374_352 := n7_
                 have NB360_374 := n8_
                 have NB374_360 := n9_
                 have HB := n10_
                 clear n0_ n1_ n2_ n3_ n4_ n5_ n6_ n7_ n8_ n9_ n10_
                 have hHeld : w51.cell? ⟨gb352, 0, none⟩ = some (.int .i64 t348) ∧ w51.cell? ⟨gb352, 1, none⟩ = some (.int .i64 t349) ∧ w51.cell? ⟨gb352, 2, none⟩ = some (.string t350) := hS_
                 refine norm_ (a' := ?_) ?_ ?_
                 rotate_left
                 ·simp only [putAll, Act.put, List.setIfInBounds_toArray, List.set_cons_zero, List.set_cons_succ]
                  rfl
                 refine one_ (i := 5) (N := some 58) #[true, true, true, true, true, true, false, false, false, false, true, false, false] rfl rfl (one_of HT_.out (by kernel_rfl)) (by decide) (fun K hK => ?_)
                 refine Kd.R_lit_step k25 _ 25 ?hg (N := 58) ?hd (xs := ([(⟨t348, t349, t350⟩ : S25), (⟨t361, t362, t363⟩ : S25), (⟨t364, t365, t366⟩ : S25)] : List (S25))) (inner := [.int .i64 t348, .int .i64 t349, .string t350, .int .i64 t361, .int .i64 t362, .string t363, .int .i64 t364, .int .i64 t365, .string t366]) (ok := fun _ => True) (okp := fun _ => True) ?hr ?hp (fun _ hk => hk) trivial (Below.refl _ _) (Nat.le_refl _) (by simp) ?_; (case hd => rfl); (case hg => rfl); (case hr => first | (go_simp; done) | (go_simp; rfl)); (case hp => exact (Reps.c3 (show Kd.M k25 _ _ _ (⟨t348, t349, t350⟩ : S25) [.int .i64 t348, .int .i64 t349, .string t350] from (k25_mkM _ _ _ (⟨t348, t349, t350⟩ : S25) )) (Reps.c3 (show Kd.M k25 _ _ _ (⟨t361, t362, t363⟩ : S25) [.int .i64 t361, .int .i64 t362, .string t363] from (k25_mkM _ _ _ (⟨t361, t362, t363⟩ : S25) )) (Reps.c3 (show Kd.M k25 _ _ _ (⟨t364, t365, t366⟩ : S25) [.int .i64 t364, .int .i64 t365, .string t366] from (k25_mkM _ _ _ (⟨t364, t365, t366⟩ : S25) )) (Reps.none _ _)))))
                 intro v368 w52 ho53 hb hg_ hnew_
                 clear hg_ hnew_
                 (first | rw [← Ny367.out] at ho53 | (simp only [Int.reduceToNat] at ho53; rw [← Ny367.out] at ho53))
                 have n0_ := Aside0.mk (Kd.R_elder' (by (with_reducible repeat (first | apply Kd.R_alloc | apply Kd.R_drewN | apply Kd.R_drew)); exact HO355.out) (Kd.R_base ho53) hb)
                 have n1_ := Aside0.mk (Kd.R_lower (Kd.R_newB (Kd.R_newB (Kd.R_newB (Kd.R_new' ho53 (Kd.R_lt (by (with_reducible repeat (first | apply Kd.R_alloc | apply Kd.R_drewN | apply Kd.R_drew)); exact HO355.out))) (g := gb352) (o := .cells #[.int .i64 t348, .int .i64 t349, .string t350] 25 (0, 0)) (bk_ BK352)) (g := gb360) (o := .cells #[.int .i64 t356, .int .i64 t357, .string t358] 25 (0, 0)) (bk_ BK360)) (g := gb374) (o := .cells #[.int .i64 0, .int .i64 0, .string (⟨#[]⟩ : ByteArray)] 25 (0, 0)) (bk_ BK374)) (below_size (by repeat (first | (with_reducible first | exact HB.out | apply below_alloc | apply pw_below_drewN | apply below_drew1 | refine below_set ?_ GE352.out | refine below_set ?_ GE360.out | refine below_set ?_ GE374.out) | exact HB.out))))
                 have n2_ := Aside0.mk (blk_below (g := gb352) (o := .cells #[.int .i64 t348, .int .i64 t349, .string t350] 25 (0, 0)) (bk_ BK352) hb)
                 have n3_ := Aside0.mk (blk_below (g := gb360) (o := .cells #[.int .i64 t356, .int .i64 t357, .string t358] 25 (0, 0)) (bk_ BK360) hb)
                 have n4_ := Aside0.mk (blk_below (g := gb374) (o := .cells #[.int .i64 0, .int .i64 0, .string (⟨#[]⟩ : ByteArray)] 25 (0, 0)) (bk_ BK374) hb)
                 have n5_ := Aside0.mk (below_step (by repeat (first | (with_reducible first | exact HB.out | apply below_alloc | apply pw_below_drewN | apply below_drew1 | refine below_set ?_ GE352.out | refine below_set ?_ GE360.out | refine below_set ?_ GE374.out) | exact HB.out)) hb)
                 clear HO355
                 clear BK352
                 clear BK360
                 clear BK374
                 clear HB
                 have HO355 := n0_
                 have HO369 := n1_
                 have BK352 := n2_
                 have BK360 := n3_
                 have BK374 := n4_
                 have HB := n5_
                 clear n0_ n1_ n2_ n3_ n4_ n5_
                 clear hb ho53
                 refine hK.out _ _ ⟨(blk_cell BK352.out 0).trans rfl, (blk_cell BK352.out 1).trans rfl, (blk_cell BK352.out 2).trans rfl⟩ (fun hHeld => ?_)
                 clear hK K
                 refine norm_ (a' := ?_) ?_ ?_
                 rotate_left
                 ·show Act.put _ (some 58) _ = _
                  simp only [Act.put, List.setIfInBounds_toArray, List.set_cons_zero, List.set_cons_succ, i64_w, i32_w]
                  rfl
                 exact norm_ (by first | (simp only [putAll, Act.put, List.setIfInBounds_toArray, List.set_cons_zero, List.set_cons_succ]; done) | (simp only [putAll, Act.put, List.setIfInBounds_toArray, List.set_cons_zero, List.set_cons_succ]; rfl)) (hJ1_4_5_10 (v368, gb374) _ ⟨hHeld, (by (with_reducible repeat (first | apply Kd.R_alloc | apply Kd.R_drewN | apply Kd.R_drew)); exact Kd.R_mono HO355.out (fun _ hk => ⟨hk.2, ⟨hk.1.1, ⟨hk.1.2.1, hk.1.2.2⟩⟩⟩)), (by (with_reducible repeat (first | apply Kd.R_alloc | apply Kd.R_drewN | apply Kd.R_drew)); exact Kd.R_mono HO369.out (fun _ hk => ⟨hk.1.1.1.2, ⟨hk.1.1.2, ⟨hk.1.2, hk.2⟩⟩⟩)), (bk_ BK352), (bk_ BK360), (bk_ BK374), GW374.out, GE374.out, NB352_374.out, NB374_352.out, NB360_374.out, NB374_360.out, (by repeat (first | (with_reducible first | exact HB.out | apply below_alloc | apply pw_below_drewN | apply below_drew1 | refine below_set ?_ GE352.out | refine below_set ?_ GE360.out | refine below_set ?_ GE374.out) | exact HB.out))⟩)
               ·skip
                rintro v368 w52 ⟨hS_, h0_, h1_, h2_, h3_, h4_⟩
                have n0_ : Aside0 (Kd.R k25 25 w52 w.heap.size (fun k_ => some k_ ≠ (v368 : Value).ownBlock ∧ k_ ≠ gb352 ∧ k_ ≠ gb360) (.slice Ao41 y353.length co41) y353) := ⟨h0_⟩
                have n1_ : Aside0 (Kd.R k25 25 w52 w.heap.size (fun k_ => some k_ ≠ (.slice Ao41 y353.length co41 : Value).ownBlock ∧ k_ ≠ gb352 ∧ k_ ≠ gb360) v368 y367) := ⟨h1_⟩
                have n2_ : Aside0 (w52.heap[gb352]? = some (.cells #[.int .i64 t348, .int .i64 t349, .string t350] 25 (0, 0))) := ⟨h2_⟩
                have n3_ : Aside0 (w52.heap[gb360]? = some (.cells #[.int .i64 t356, .int .i64 t357, .string t358] 25 (0, 0))) := ⟨h3_⟩
                have n4_ : Aside0 (Below w.heap.size w w52) := ⟨h4_⟩
                clear HO355
                clear BK352
                clear BK360
                clear HB
                clear h0_ h1_ h2_ h3_ h4_
                have HO355 := n0_
                have HO369 := n1_
                have BK352 := n2_
                have BK360 := n3_
                have HB := n4_
                clear n0_ n1_ n2_ n3_ n4_
                have hHeld : w52.cell? ⟨gb352, 0, none⟩ = some (.int .i64 t348) ∧ w52.cell? ⟨gb352, 1, none⟩ = some (.int .i64 t349) ∧ w52.cell? ⟨gb352, 2, none⟩ = some (.string t350) := hS_
                obtain ⟨Ao53, co53, eo53⟩ := Kd.R_slice HO369.out
                (first | subst eo53 | (injection eo53 with f1_ f2_ f3_; have f4_ := f1_.symm; have f5_ := f3_.symm; clear f1_ f2_ f3_; subst f4_; subst f5_))
                refine norm_ (a' := ?_) ?_ ?_
                rotate_left
                ·simp only [putAll, Act.put, List.setIfInBounds_toArray, List.set_cons_zero, List.set_cons_succ]
                 rfl
                refine two_ (i := 6) (j := 10) (Ni := some 59) (Nj := some 9) #[true, true, true, true, true, true, true, false, false, false, false, false, false] #[true, true, true, true, true, true, false, false, false, false, true, false, false] rfl rfl rfl rfl (two_of HT_.out (by kernel_rfl)) (by decide) (by decide) (fun K hK => ?_) (fun K hK => ?_)
                ·skip
                 refine goes_ Try.func12 (by kernel_rfl) rfl #[.int .i64 5, .slice Ao53 y367.length co53] (by rfl) rfl rfl (by (try simp only [List.map_toArray, List.map_cons, List.map_nil]); first | done | rfl | (simp only [List.length_drop, List.length_take]; rfl)) ?_
                 with_reducible refine (calc_Call.print 5 _ _ y367 t370 t371 t372 t373 _ ?side1 ?side2 A12.out).mono ?_
                 (case side1 => repeat (first | exact (Kd.R_reads' HO369.out).2.2 | (with_reducible refine Kd.C_alloc ?_ _) | (with_reducible refine Kd.C_drewN ?_ _) | (with_reducible refine Kd.C_drew ?_)))
                 (case side2 => exact (Kd.R_reads' HO369.out).2.1)
                 rintro e w54 ⟨rfl, hb⟩
                 refine ⟨_, rfl, ?_⟩
                 have n0_ := Aside0.mk (Kd.R_below (by (with_reducible repeat (first | apply Kd.R_alloc | apply Kd.R_drewN | apply Kd.R_drew)); exact HO355.out) hb)
                 have n1_ := Aside0.mk (Kd.R_below (by (with_reducible repeat (first | apply Kd.R_alloc | apply Kd.R_drewN | apply Kd.R_drew)); exact HO369.out) hb)
                 have n2_ := Aside0.mk (blk_below (g := gb352) (o := .cells #[.int .i64 t348, .int .i64 t349, .string t350] 25 (0, 0)) (bk_ BK352) hb)
                 have n3_ := Aside0.mk (blk_below (g := gb360) (o := .cells #[.int .i64 t356, .int .i64 t357, .string t358] 25 (0, 0)) (bk_ BK360) hb)
                 have n4_ := Aside0.mk (below_step (by repeat (first | (with_reducible first | exact HB.out | apply below_alloc | apply pw_below_drewN | apply below_drew1 | refine below_set ?_ GE352.out | refine below_set ?_ GE360.out) | exact HB.out)) hb)
                 clear HO355
                 clear HO369
                 clear BK352
                 clear BK360
                 clear HB
                 have HO355 := n0_
                 have HO369 := n1_
                 have BK352 := n2_
                 have BK360 := n3_
                 have HB := n4_
                 clear n0_ n1_ n2_ n3_ n4_
                 (try clear hb)
                 (try clear hb2)
                 (try clear hk)
                 (try clear hi)
                 refine hK.out _ _ ⟨(blk_cell BK352.out 0).trans rfl, (blk_cell BK352.out 1).trans rfl, (blk_cell BK352.out 2).trans rfl⟩ (fun hHeld => ?_)
                 clear hK K
                 refine norm_ (a' := ?_) ?_ ?_
                 rotate_left
                 ·show Act.put _ (some 59) _ = _
                  simp only [Act.put, List.setIfInBounds_toArray, List.set_cons_zero, List.set_cons_succ, i64_w, i32_w]
                  rfl
                 refine pure_ (i := 7) (N := some 52) (v := ?_) (a' := ?_) #[true, true, true, true, true, true, true, true, false, false, false, false, false] rfl rfl (any_of HT_.out (by kernel_rfl)) (fun _ _ _ h => h) (Or.inl ⟨by rfl, ?_⟩) ?_ ?_
                 rotate_left
                 ·intro w'
                  go_simp
                  with_reducible rfl
                 rotate_left
                 ·simp only [Act.put, List.setIfInBounds_toArray, List.set_cons_zero, List.set_cons_succ, i64_w, i32_w]
                  rfl
                 refine pure_ (i := 8) (N := some 60) (v := ?_) (a' := ?_) #[true, true, true, true, true, true, true, true, true, false, false, false, false] rfl rfl (any_of HT_.out (by kernel_rfl)) (fun _ _ _ h => h) (Or.inl ⟨by rfl, ?_⟩) ?_ ?_
                 rotate_left
                 ·intro w'
                  go_simp
                  with_reducible rfl
                 rotate_left
                 ·simp only [Act.put, List.setIfInBounds_toArray, List.set_cons_zero, List.set_cons_succ, i64_w, i32_w]
                  rfl
                 refine pure_ (i := 9) (N := some 61) (v := ?_) (a' := ?_) #[true, true, true, true, true, true, true, true, true, true, false, false, false] rfl rfl (any_of HT_.out (by kernel_rfl)) (fun _ _ _ h => h) (Or.inl ⟨by rfl, ?_⟩) ?_ ?_
                 rotate_left
                 ·intro w'
                  go_simp
                  with_reducible rfl
                 rotate_left
                 ·simp only [Act.put, List.setIfInBounds_toArray, List.set_cons_zero, List.set_cons_succ, i64_w, i32_w]
                  rfl
                 exact norm_ (by first | (simp only [putAll, Act.put, List.setIfInBounds_toArray, List.set_cons_zero, List.set_cons_succ]; done) | (simp only [putAll, Act.put, List.setIfInBounds_toArray, List.set_cons_zero, List.set_cons_succ]; rfl)) (hJ1_4_5_6 (.slice Ao53 y367.length co53) _ ⟨hHeld, (by (with_reducible repeat (first | apply Kd.R_alloc | apply Kd.R_drewN | apply Kd.R_drew)); exact HO355.out), (by (with_reducible repeat (first | apply Kd.R_alloc | apply Kd.R_drewN | apply Kd.R_drew)); exact HO369.out), (bk_ BK352), (bk_ BK360), (by repeat (first | (with_reducible first | exact HB.out | apply below_alloc | apply pw_below_drewN | apply below_drew1 | refine below_set ?_ GE352.out | refine below_set ?_ GE360.out) | exact HB.out))⟩)
                ·skip
                 refine box_step ?hg (N := 9) ?hd (cs := #[.int .i64 0, .int .i64 0, .string (⟨#[]⟩ : ByteArray)]) (t := 25) ?hr ?_; (case hd => rfl); (case hg => rfl); (case hr => first | (go_simp; done) | (go_simp; rfl))
                 intro gb374 hg w53 hbox hb
                 have n0_ := Aside0.mk (Kd.R_below (Kd.R_elderB (by (with_reducible repeat (first | apply Kd.R_alloc | apply Kd.R_drewN | apply Kd.R_drew)); exact HO355.out) gb374 (Nat.le_of_eq hg.symm)) hb)
                 have n1_ := Aside0.mk (Kd.R_below (Kd.R_elderB (by (with_reducible repeat (first | apply Kd.R_alloc | apply Kd.R_drewN | apply Kd.R_drew)); exact HO369.out) gb374 (Nat.le_of_eq hg.symm)) hb)
                 have n2_ := Aside0.mk (blk_below (g := gb352) (o := .cells #[.int .i64 t348, .int .i64 t349, .string t350] 25 (0, 0)) (bk_ BK352) hb)
                 have n3_ := Aside0.mk (blk_below (g := gb360) (o := .cells #[.int .i64 t356, .int .i64 t357, .string t358] 25 (0, 0)) (bk_ BK360) hb)
                 have n4_ := Aside0.mk (below_step (by repeat (first | (with_reducible first | exact HB.out | apply below_alloc | apply pw_below_drewN | apply below_drew1 | refine below_set ?_ GE352.out | refine below_set ?_ GE360.out) | exact HB.out)) hb)
                 have n5_ := Aside0.mk (hbox)
                 have n6_ := Aside0.mk ((by rw [hg]; exact (below_size (by repeat (first | (with_reducible first | exact HB.out | apply below_alloc | apply pw_below_drewN | apply below_drew1 | refine below_set ?_ GE352.out | refine below_set ?_ GE360.out) | exact HB.out))) : w.heap.size ≤ gb374))
                 have n7_ := Aside0.mk ((by rw [hg]; exact (below_size (by repeat (first | (with_reducible first | exact HB.out | apply below_alloc | apply pw_below_drewN | apply below_drew1 | refine below_set ?_ GE352.out | refine below_set ?_ GE360.out) | exact HB.out))) : w.heap.size ≤ gb374))
                 have n8_ := Aside0.mk ((by rw [hg]; exact Nat.ne_of_lt (blk_lt (g := gb352) (o := .cells #[.int .i64 t348, .int .i64 t349, .string t350] 25 (0, 0)) (bk_ BK352)) : gb352 ≠ gb374))
                 have n9_ := Aside0.mk ((by rw [hg]; exact Nat.ne_of_gt (blk_lt (g := gb352) (o := .cells #[.int .i64 t348, .int .i64 t349, .string t350] 25 (0, 0)) (bk_ BK352)) : gb374 ≠ gb352))
                 have n10_ := Aside0.mk ((by rw [hg]; exact Nat.ne_of_lt (blk_lt (g := gb360) (o := .cells #[.int .i64 t356, .int .i64 t357, .string t358] 25 (0, 0)) (bk_ BK360)) : gb360 ≠ gb374))
                 have n11_ := Aside0.mk ((by rw [hg]; exact Nat.ne_of_gt (blk_lt (g := gb360) (o := .cells #[.int .i64 t356, .int .i64 t357, .string t358] 25 (0, 0)) (bk_ BK360)) : gb374 ≠ gb360))
                 clear HO355
                 clear HO369
                 clear BK352
                 clear BK360
                 clear HB
                 have HO355 := n0_
                 have HO369 := n1_
                 have BK352 := n2_
                 have BK360 := n3_
                 have HB := n4_
                 have BK374 := n5_
                 have GW374 := n6_
                 have GE374 := n7_
                 have NB352_374 := n8_
                 have NB374_352 := n9_
                 have NB360_374 := n10_
                 have NB374_360 := n11_
                 clear n0_ n1_ n2_ n3_ n4_ n5_ n6_ n7_ n8_ n9_ n10_ n11_
                 clear hb hbox hg
                 refine hK.out _ _ ⟨(blk_cell BK352.out 0).trans rfl, (blk_cell BK352.out 1).trans rfl, (blk_cell BK352.out 2).trans rfl⟩ (fun hHeld => ?_)
                 clear hK K
                 refine norm_ (a' := ?_) ?_ ?_
                 rotate_left
                 ·show Act.put _ (some 9) _ = _
                  simp only [Act.put, List.setIfInBounds_toArray, List.set_cons_zero, List.set_cons_succ, i64_w, i32_w]
                  rfl
                 exact norm_ (by first | (simp only [putAll, Act.put, List.setIfInBounds_toArray, List.set_cons_zero, List.set_cons_succ]; done) | (simp only [putAll, Act.put, List.setIfInBounds_toArray, List.set_cons_zero, List.set_cons_succ]; rfl)) (hJ1_4_5_10 (_, gb374) _ ⟨hHeld, (by (with_reducible repeat (first | apply Kd.R_alloc | apply Kd.R_drewN | apply Kd.R_drew)); exact Kd.R_mono HO355.out (fun _ hk => ⟨hk.1.1, ⟨hk.1.2.1, ⟨hk.1.2.2, hk.2⟩⟩⟩)), (by (with_reducible repeat (first | apply Kd.R_alloc | apply Kd.R_drewN | apply Kd.R_drew)); exact Kd.R_mono HO369.out (fun _ hk => ⟨hk.1.1, ⟨hk.1.2.1, ⟨hk.1.2.2, hk.2⟩⟩⟩)), (bk_ BK352), (bk_ BK360), (bk_ BK374), GW374.out, GE374.out, NB352_374.out, NB374_352.out, NB360_374.out, NB374_360.out, (by repeat (first | (with_reducible first | exact HB.out | apply below_alloc | apply pw_below_drewN | apply below_drew1 | refine below_set ?_ GE352.out | refine below_set ?_ GE360.out | refine below_set ?_ GE374.out) | exact HB.out))⟩)
              ·skip
               rintro ⟨v368, gb374⟩ w53 ⟨hS_, h0_, h1_, h2_, h3_, h4_, h5_, h6_, h7_, h8_, h9_, h10_, h11_⟩
               have n0_ : Aside0 (Kd.R k25 25 w53 w.heap.size (fun k_ => some k_ ≠ (v368 : Value).ownBlock ∧ k_ ≠ gb352 ∧ k_ ≠ gb360 ∧ k_ ≠ gb374) (.slice Ao41 y353.length co41) y353) := ⟨h0_⟩
               have n1_ : Aside0 (Kd.R k25 25 w53 w.heap.size (fun k_ => some k_ ≠ (.slice Ao41 y353.length co41 : Value).ownBlock ∧ k_ ≠ gb352 ∧ k_ ≠ gb360 ∧ k_ ≠ gb374) v368 y367) := ⟨h1_⟩
               have n2_ : Aside0 (w53.heap[gb352]? = some (.cells #[.int .i64 t348, .int .i64 t349, .string t350] 25 (0, 0))) := ⟨h2_⟩
               have n3_ : Aside0 (w53.heap[gb360]? = some (.cells #[.int .i64 t356, .int .i64 t357, .string t358] 25 (0, 0))) := ⟨h3_⟩
               have n4_ : Aside0 (w53.heap[gb374]? = some (.cells #[.int .i64 0, .int .i64 0, .string (⟨#[]⟩ : ByteArray)] 25 (0, 0))) := ⟨h4_⟩
               have n5_ : Aside0 (w.heap.size ≤ gb374) := ⟨h5_⟩
               have n6_ : Aside0 (w.heap.size ≤ gb374) := ⟨h6_⟩
               have n7_ : Aside0 (gb352 ≠ gb374) := ⟨h7_⟩
               have n8_ : Aside0 (gb374 ≠ gb352) := ⟨h8_⟩
               have n9_ : Aside0 (gb360 ≠ gb374) := ⟨h9_⟩
               have n10_ : Aside0 (gb374 ≠ gb360) := ⟨h10_⟩
               have n11_ : Aside0 (Below w.heap.size w w53) := ⟨h11_⟩
               clear HO355
               clear BK352
               clear BK360
               clear HB
               clear h0_ h1_ h2_ h3_ h4_ h5_ h6_ h7_ h8_ h9_ h10_ h11_
               have HO355 := n0_
               have HO369 := n1_
               have BK352 := n2_
               have BK360 := n3_
               have BK374 := n4_
               have GW374 := n5_
               have GE374 := n6_
               have NB352_374 := n7_
               have NB374_352 := n8_
               have NB360_374 := n9_
               have NB374_360 := n10_
               have HB := n11_
               clear n0_ n1_ n2_ n3_ n4_ n5_ n6_ n7_ n8_ n9_ n10_ n11_
               have hHeld : w53.cell? ⟨gb352, 0, none⟩ = some (.int .i64 t348) ∧ w53.cell? ⟨gb352, 1, none⟩ = some (.int .i64 t349) ∧ w53.cell? ⟨gb352, 2, none⟩ = some (.string t350) := hS_
               obtain ⟨Ao54, co54, eo54⟩ := Kd.R_slice HO369.out
               (first | subst eo54 | (injection eo54 with f1_ f2_ f3_; have f4_ := f1_.symm; have f5_ := f3_.symm; clear f1_ f2_ f3_; subst f4_; subst f5_))
               refine norm_ (a' := ?_) ?_ ?_
               rotate_left
               ·simp only [putAll, Act.put, List.setIfInBounds_toArray, List.set_cons_zero, List.set_cons_succ]
                rfl
               refine one_ (i := 6) (N := some 59) #[true, true, true, true, true, true, true, false, false, false, true, false, false] rfl rfl (one_of HT_.out (by kernel_rfl)) (by decide) (fun K hK => ?_)
               refine goes_ Try.func12 (by kernel_rfl) rfl #[.int .i64 5, .slice Ao54 y367.length co54] (by rfl) rfl rfl (by (try simp only [List.map_toArray, List.map_cons, List.map_nil]); first | done | rfl | (simp only [List.length_drop, List.length_take]; rfl)) ?_
               with_reducible refine (calc_Call.print 5 _ _ y367 t370 t371 t372 t373 _ ?side1 ?side2 A12.out).mono ?_
               (case side1 => repeat (first | exact (Kd.R_reads' HO369.out).2.2 | (with_reducible refine Kd.C_alloc ?_ _) | (with_reducible refine Kd.C_drewN ?_ _) | (with_reducible refine Kd.C_drew ?_)))
               (case side2 => exact (Kd.R_reads' HO369.out).2.1)
               rintro e w55 ⟨rfl, hb⟩
               refine ⟨_, rfl, ?_⟩
               have n0_ := Aside0.mk (Kd.R_below (by (with_reducible repeat (first | apply Kd.R_alloc | apply Kd.R_drewN | apply Kd.R_drew)); exact HO355.out) hb)
               have n1_ := Aside0.mk (Kd.R_below (by (with_reducible repeat (first | apply Kd.R_alloc | apply Kd.R_drewN | apply Kd.R_drew)); exact HO369.out) hb)
               have n2_ := Aside0.mk (blk_below (g := gb352) (o := .cells #[.int .i64 t348, .int .i64 t349, .string t350] 25 (0, 0)) (bk_ BK352) hb)
               have n3_ := Aside0.mk (blk_below (g := gb360) (o := .cells #[.int .i64 t356, .int .i64 t357, .string t358] 25 (0, 0)) (bk_ BK360) hb)
               have n4_ := Aside0.mk (blk_below (g := gb374) (o := .cells #[.int .i64 0, .int .i64 0, .string (⟨#[]⟩ : ByteArray)] 25 (0, 0)) (bk_ BK374) hb)
               have n5_ := Aside0.mk (below_step (by repeat (first | (with_reducible first | exact HB.out | apply below_alloc | apply pw_below_drewN | apply below_drew1 | refine below_set ?_ GE352.out | refine below_set ?_ GE360.out | refine below_set ?_ GE374.out) | exact HB.out)) hb)
               clear HO355
               clear HO369
               clear BK352
               clear BK360
               clear BK374
               clear HB
               have HO355 := n0_
               have HO369 := n1_
               have BK352 := n2_
               have BK360 := n3_
               have BK374 := n4_
               have HB := n5_
               clear n0_ n1_ n2_ n3_ n4_ n5_
               (try clear hb)
               (try clear hb2)
               (try clear hk)
               (try clear hi)
               refine hK.out _ _ ⟨(blk_cell BK352.out 0).trans rfl, (blk_cell BK352.out 1).trans rfl, (blk_cell BK352.out 2).trans rfl⟩ (fun hHeld => ?_)
               clear hK K
               refine norm_ (a' := ?_) ?_ ?_
               rotate_left
               ·show Act.put _ (some 59) _ = _
                simp only [Act.put, List.setIfInBounds_toArray, List.set_cons_zero, List.set_cons_succ, i64_w, i32_w]
                rfl
               refine pure_ (i := 7) (N := some 52) (v := ?_) (a' := ?_) #[true, true, true, true, true, true, true, true, false, false, true, false, false] rfl rfl (any_of HT_.out (by kernel_rfl)) (fun _ _ _ h => h) (Or.inl ⟨by rfl, ?_⟩) ?_ ?_
               rotate_left
               ·intro w'
                go_simp
                with_reducible rfl
               rotate_left
               ·simp only [Act.put, List.setIfInBounds_toArray, List.set_cons_zero, List.set_cons_succ, i64_w, i32_w]
                rfl
               refine pure_ (i := 8) (N := some 60) (v := ?_) (a' := ?_) #[true, true, true, true, true, true, true, true, true, false, true, false, false] rfl rfl (any_of HT_.out (by kernel_rfl)) (fun _ _ _ h => h) (Or.inl ⟨by rfl, ?_⟩) ?_ ?_
               rotate_left
               ·intro w'
                go_simp
                with_reducible rfl
               rotate_left
               ·simp only [Act.put, List.setIfInBounds_toArray, List.set_cons_zero, List.set_cons_succ, i64_w, i32_w]
                rfl
               refine pure_ (i := 9) (N := some 61) (v := ?_) (a' := ?_) #[true, true, true, true, true, true, true, true, true, true, true, false, false] rfl rfl (any_of HT_.out (by kernel_rfl)) (fun _ _ _ h => h) (Or.inl ⟨by rfl, ?_⟩) ?_ ?_
               rotate_left
               ·intro w'
                go_simp
                with_reducible rfl
               rotate_left
               ·simp only [Act.put, List.setIfInBounds_toArray, List.set_cons_zero, List.set_cons_succ, i64_w, i32_w]
                rfl
               exact norm_ (by first | (simp only [putAll, Act.put, List.setIfInBounds_toArray, List.set_cons_zero, List.set_cons_succ]; done) | (simp only [putAll, Act.put, List.setIfInBounds_toArray, List.set_cons_zero, List.set_cons_succ]; rfl)) (hJ1_4_5_6_10 (.slice Ao54 y367.length co54, gb374) _ ⟨hHeld, (by (with_reducible repeat (first | apply Kd.R_alloc | apply Kd.R_drewN | apply Kd.R_drew)); exact HO355.out), (by (with_reducible repeat (first | apply Kd.R_alloc | apply Kd.R_drewN | apply Kd.R_drew)); exact HO369.out), (bk_ BK352), (bk_ BK360), (bk_ BK374), GW374.out, GE374.out, NB352_374.out, NB374_352.out, NB360_374.out, NB374_360.out, (by repeat (first | (with_reducible first | exact HB.out | apply below_alloc | apply pw_below_drewN | apply below_drew1 | refine below_set ?_ GE352.out | refine below_set ?_ GE360.out | refine below_set ?_ GE374.out) | exact HB.out))⟩)
             ·skip
              rintro v368 w54 ⟨hS_, h0_, h1_, h2_, h3_, h4_⟩
              have n0_ : Aside0 (Kd.R k25 25 w54 w.heap.size (fun k_ => some k_ ≠ (v368 : Value).ownBlock ∧ k_ ≠ gb352 ∧ k_ ≠ gb360) (.slice Ao41 y353.length co41) y353) := ⟨h0_⟩
              have n1_ : Aside0 (Kd.R k25 25 w54 w.heap.size (fun k_ => some k_ ≠ (.slice Ao41 y353.length co41 : Value).ownBlock ∧ k_ ≠ gb352 ∧ k_ ≠ gb360) v368 y367) := ⟨h1_⟩
              have n2_ : Aside0 (w54.heap[gb352]? = some (.cells #[.int .i64 t348, .int .i64 t349, .string t350] 25 (0, 0))) := ⟨h2_⟩
              have n3_ : Aside0 (w54.heap[gb360]? = some (.cells #[.int .i64 t356, .int .i64 t357, .string t358] 25 (0, 0))) := ⟨h3_⟩
              have n4_ : Aside0 (Below w.heap.size w w54) := ⟨h4_⟩
              clear HO355
              clear BK352
              clear BK360
              clear HB
              clear h0_ h1_ h2_ h3_ h4_
              have HO355 := n0_
              have HO369 := n1_
              have BK352 := n2_
              have BK360 := n3_
              have HB := n4_
              clear n0_ n1_ n2_ n3_ n4_
              have hHeld : w54.cell? ⟨gb352, 0, none⟩ = some (.int .i64 t348) ∧ w54.cell? ⟨gb352, 1, none⟩ = some (.int .i64 t349) ∧ w54.cell? ⟨gb352, 2, none⟩ = some (.string t350) := hS_
              refine norm_ (a' := ?_) ?_ ?_
              rotate_left
              ·simp only [putAll, Act.put, List.setIfInBounds_toArray, List.set_cons_zero, List.set_cons_succ]
               rfl
              refine one_ (i := 10) (N := some 9) #[true, true, true, true, true, true, true, true, true, true, true, false, false] rfl rfl (one_of HT_.out (by kernel_rfl)) (by decide) (fun K hK => ?_)
              refine box_step ?hg (N := 9) ?hd (cs := #[.int .i64 0, .int .i64 0, .string (⟨#[]⟩ : ByteArray)]) (t := 25) ?hr ?_; (case hd => rfl); (case hg => rfl); (case hr => first | (go_simp; done) | (go_simp; rfl))
              intro gb374 hg w55 hbox hb
              have n0_ := Aside0.mk (Kd.R_below (Kd.R_elderB (by (with_reducible repeat (first | apply Kd.R_alloc | apply Kd.R_drewN | apply Kd.R_drew)); exact HO355.out) gb374 (Nat.le_of_eq hg.symm)) hb)
              have n1_ := Aside0.mk (Kd.R_below (Kd.R_elderB (by (with_reducible repeat (first | apply Kd.R_alloc | apply Kd.R_drewN | apply Kd.R_drew)); exact HO369.out) gb374 (Nat.le_of_eq hg.symm)) hb)
              have n2_ := Aside0.mk (blk_below (g := gb352) (o := .cells #[.int .i64 t348, .int .i64 t349, .string t350] 25 (0, 0)) (bk_ BK352) hb)
              have n3_ := Aside0.mk (blk_below (g := gb360) (o := .cells #[.int .i64 t356, .int .i64 t357, .string t358] 25 (0, 0)) (bk_ BK360) hb)
              have n4_ := Aside0.mk (below_step (by repeat (first | (with_reducible first | exact HB.out | apply below_alloc | apply pw_below_drewN | apply below_drew1 | refine below_set ?_ GE352.out | refine below_set ?_ GE360.out) | exact HB.out)) hb)
              have n5_ := Aside0.mk (hbox)
              have n6_ := Aside0.mk ((by rw [hg]; exact (below_size (by repeat (first | (with_reducible first | exact HB.out | apply below_alloc | apply pw_below_drewN | apply below_drew1 | refine below_set ?_ GE352.out | refine below_set ?_ GE360.out) | exact HB.out))) : w.heap.size ≤ gb374))
              have n7_ := Aside0.mk ((by rw [hg]; exact (below_size (by repeat (first | (with_reducible first | exact HB.out | apply below_alloc | apply pw_below_drewN | apply below_drew1 | refine below_set ?_ GE352.out | refine below_set ?_ GE360.out) | exact HB.out))) : w.heap.size ≤ gb374))
              have n8_ := Aside0.mk ((by rw [hg]; exact Nat.ne_of_lt (blk_lt (g := gb352) (o := .cells #[.int .i64 t348, .int .i64 t349, .string t350] 25 (0, 0)) (bk_ BK352)) : gb352 ≠ gb374))
              have n9_ := Aside0.mk ((by rw [hg]; exact Nat.ne_of_gt (blk_lt (g := gb352) (o := .cells #[.int .i64 t348, .int .i64 t349, .string t350] 25 (0, 0)) (bk_ BK352)) : gb374 ≠ gb352))
              have n10_ := Aside0.mk ((by rw [hg]; exact Nat.ne_of_lt (blk_lt (g := gb360) (o := .cells #[.int .i64 t356, .int .i64 t357, .string t358] 25 (0, 0)) (bk_ BK360)) : gb360 ≠ gb374))
              have n11_ := Aside0.mk ((by rw [hg]; exact Nat.ne_of_gt (blk_lt (g := gb360) (o := .cells #[.int .i64 t356, .int .i64 t357, .string t358] 25 (0, 0)) (bk_ BK360)) : gb374 ≠ gb360))
              clear HO355
              clear HO369
              clear BK352
              clear BK360
              clear HB
              have HO355 := n0_
              have HO369 := n1_
              have BK352 := n2_
              have BK360 := n3_
              have HB := n4_
              have BK374 := n5_
              have GW374 := n6_
              have GE374 := n7_
              have NB352_374 := n8_
              have NB374_352 := n9_
              have NB360_374 := n10_
              have NB374_360 := n11_
              clear n0_ n1_ n2_ n3_ n4_ n5_ n6_ n7_ n8_ n9_ n10_ n11_
              clear hb hbox hg
              refine hK.out _ _ ⟨(blk_cell BK352.out 0).trans rfl, (blk_cell BK352.out 1).trans rfl, (blk_cell BK352.out 2).trans rfl⟩ (fun hHeld => ?_)
              clear hK K
              refine norm_ (a' := ?_) ?_ ?_
              rotate_left
              ·show Act.put _ (some 9) _ = _
               simp only [Act.put, List.setIfInBounds_toArray, List.set_cons_zero, List.set_cons_succ, i64_w, i32_w]
               rfl
              exact norm_ (by first | (simp only [putAll, Act.put, List.setIfInBounds_toArray, List.set_cons_zero, List.set_cons_succ]; done) | (simp only [putAll, Act.put, List.setIfInBounds_toArray, List.set_cons_zero, List.set_cons_succ]; rfl)) (hJ1_4_5_6_10 (v368, gb374) _ ⟨hHeld, (by (with_reducible repeat (first | apply Kd.R_alloc | apply Kd.R_drewN | apply Kd.R_drew)); exact Kd.R_mono HO355.out (fun _ hk => ⟨hk.1.1, ⟨hk.1.2.1, ⟨hk.1.2.2, hk.2⟩⟩⟩)), (by (with_reducible repeat (first | apply Kd.R_alloc | apply Kd.R_drewN | apply Kd.R_drew)); exact Kd.R_mono HO369.out (fun _ hk => ⟨hk.1.1, ⟨hk.1.2.1, ⟨hk.1.2.2, hk.2⟩⟩⟩)), (bk_ BK352), (bk_ BK360), (bk_ BK374), GW374.out, GE374.out, NB352_374.out, NB374_352.out, NB360_374.out, NB374_360.out, (by repeat (first | (with_reducible first | exact HB.out | apply below_alloc | apply pw_below_drewN | apply below_drew1 | refine below_set ?_ GE352.out | refine below_set ?_ GE360.out | refine below_set ?_ GE374.out) | exact HB.out))⟩)
            rintro ⟨v368, gb374⟩ w55 ⟨hS_, h0_, h1_, h2_, h3_, h4_, h5_, h6_, h7_, h8_, h9_, h10_, h11_⟩
            have n0_ : Aside0 (Kd.R k25 25 w55 w.heap.size (fun k_ => some k_ ≠ (v368 : Value).ownBlock ∧ k_ ≠ gb352 ∧ k_ ≠ gb360 ∧ k_ ≠ gb374) (.slice Ao41 y353.length co41) y353) := ⟨h0_⟩
            have n1_ : Aside0 (Kd.R k25 25 w55 w.heap.size (fun k_ => some k_ ≠ (.slice Ao41 y353.length co41 : Value).ownBlock ∧ k_ ≠ gb352 ∧ k_ ≠ gb360 ∧ k_ ≠ gb374) v368 y367) := ⟨h1_⟩
            have n2_ : Aside0 (w55.heap[gb352]? = some (.cells #[.int .i64 t348, .int .i64 t349, .string t350] 25 (0, 0))) := ⟨h2_⟩
            have n3_ : Aside0 (w55.heap[gb360]? = some (.cells #[.int .i64 t356, .int .i64 t357, .string t358] 25 (0, 0))) := ⟨h3_⟩
            have n4_ : Aside0 (w55.heap[gb374]? = some (.cells #[.int .i64 0, .int .i64 0, .string (⟨#[]⟩ : ByteArray)] 25 (0, 0))) := ⟨h4_⟩
            have n5_ : Aside0 (w.heap.size ≤ gb374) := ⟨h5_⟩
            have n6_ : Aside0 (w.heap.size ≤ gb374) := ⟨h6_⟩
            have n7_ : Aside0 (gb352 ≠ gb374) := ⟨h7_⟩
            have n8_ : Aside0 (gb374 ≠ gb352) := ⟨h8_⟩
            have n9_ : Aside0 (gb360 ≠ gb374) := ⟨h9_⟩
            have n10_ : Aside0 (gb374 ≠ gb360) := ⟨h10_⟩
            have n11_ : Aside0 (Below w.heap.size w w55) := ⟨h11_⟩
            clear HO355
            clear BK352
            clear BK360
            clear HB
            clear h0_ h1_ h2_ h3_ h4_ h5_ h6_ h7_ h8_ h9_ h10_ h11_
            have HO355 := n0_
            have HO369 := n1_
            have BK352 := n2_
            have BK360 := n3_
            have BK374 := n4_
            have GW374 := n5_
            have GE374 := n6_
            have NB352_374 := n7_
            have NB374_352 := n8_
            have NB360_374 := n9_
            have NB374_360 := n10_
            have HB := n11_
            clear n0_ n1_ n2_ n3_ n4_ n5_ n6_ n7_ n8_ n9_ n10_ n11_
            have hHeld : w55.cell? ⟨gb352, 0, none⟩ = some (.int .i64 t348) ∧ w55.cell? ⟨gb352, 1, none⟩ = some (.int .i64 t349) ∧ w55.cell? ⟨gb352, 2, none⟩ = some (.string t350) := hS_
            refine norm_ (a' := ?_) ?_ ?_
            rotate_left
            ·simp only [putAll, Act.put, List.setIfInBounds_toArray, List.set_cons_zero, List.set_cons_succ]
             rfl
            refine one_ (i := 11) (N := none) #[true, true, true, true, true, true, true, true, true, true, true, true, false] rfl rfl (one_of HT_.out (by kernel_rfl)) (by decide) (fun K hK => ?_)
            have hs56 : w55.cell? ⟨gb374, 0, none⟩ = some (.int .i64 0) := (blk_cell BK374.out 0).trans rfl
            have hfs56 := blk_frozen BK374.out 0
            have hns56_0 := NB352_374.out
            have hns56_1 := NB360_374.out
            have hms56_0 := NB374_352.out
            have hms56_1 := NB374_360.out
            have hs57 : w55.cell? ⟨gb374, 1, none⟩ = some (.int .i64 0) := (blk_cell BK374.out 1).trans rfl
            have hfs57 := blk_frozen BK374.out 1
            have hns57_0 := NB352_374.out
            have hns57_1 := NB360_374.out
            have hms57_0 := NB374_352.out
            have hms57_1 := NB374_360.out
            have hs58 : w55.cell? ⟨gb374, 2, none⟩ = some (.string (⟨#[]⟩ : ByteArray)) := (blk_cell BK374.out 2).trans rfl
            have hfs58 := blk_frozen BK374.out 2
            have hns58_0 := NB352_374.out
            have hns58_1 := NB360_374.out
            have hms58_0 := NB374_352.out
            have hms58_1 := NB374_360.out
            refine skip_ (w1 := ?_) (by rfl) rfl ?_ ?_
            rotate_left
            ·go_simp
             rfl
            refine hK.out _ _ ⟨((cell_far (p := ⟨gb374, _, none⟩) NB352_374.out _).trans (((cell_far (p := ⟨gb374, _, none⟩) NB352_374.out _).trans (((cell_far (p := ⟨gb374, _, none⟩) NB352_374.out _).trans (hHeld.1)))))), ((cell_far (p := ⟨gb374, _, none⟩) NB352_374.out _).trans (((cell_far (p := ⟨gb374, _, none⟩) NB352_374.out _).trans (((cell_far (p := ⟨gb374, _, none⟩) NB352_374.out _).trans (hHeld.2.1)))))), ((cell_far (p := ⟨gb374, _, none⟩) NB352_374.out _).trans (((cell_far (p := ⟨gb374, _, none⟩) NB352_374.out _).trans (((cell_far (p := ⟨gb374, _, none⟩) NB352_374.out _).trans (hHeld.2.2))))))⟩ (fun hHeld => ?_)
            clear hK K
            refine pure_ (i := 12) (N := some 10) (v := ?_) (a' := ?_) #[true, true, true, true, true, true, true, true, true, true, true, true, true] rfl rfl (any_of HT_.out (by kernel_rfl)) (fun _ _ _ h => h) (Or.inl ⟨by rfl, ?_⟩) ?_ ?_
            rotate_left
            ·intro w'
             go_simp
             with_reducible rfl
            rotate_left
            ·simp only [Act.put, List.setIfInBounds_toArray, List.set_cons_zero, List.set_cons_succ, i64_w, i32_w]
             rfl
            refine done_ (done_of HT_.out (by kernel_rfl)) ?_
            go_upto_region 8 with (fail)
            exact quarrylaw02_CalcTexts.partB a0 a1 w hu25 A3 t342 t343 t344 A5 t345 t346 t347 A6 t348 t349 t350 t351 A7 c8b0 c8b1 y353 Ny353 t356 t357 t358 t359 A9 t361 t362 t363 A10 t364 t365 t366 A11 y367 Ny367 t370 t371 t372 t373 A12 t375 t376 t377 A13 t378 t379 t380 A14 y381 Ny381 t384 t385 t386 t387 A15 t389 t390 t391 A16 y392 Ny392 t395 t396 t397 t398 A17 t400 t401 t402 A18 y403 Ny403 t406 t407 t408 t409 A19 y411 Ny411 t414 t415 t416 t417 A20 c21b0 c21b1 c22b0 c22b1 c23b0 c23b1 c24b0 c24b1 c25b0 c25b1 c26b0 c26b1 t419 t420 t421 A27 c28b0 c28b1 c28b2 t422 t423 t424 A29 c30b0 c30b1 c30b2 t425 t426 t427 A31 c32b0 c32b1 c32b2 gb352 w37 GW352 GE352 hcz38_0 hcz38_1 hcz38_2 hfz38_0 hfz38_1 hfz38_2 Ao41 co41 gb360 w43 GW360 GE360 NB352_360 NB360_352 hnb44 hnc44 hcz45_0 hcz45_1 hcz45_2 hfz45_0 hfz45_1 hfz45_2 H HT_ HW_ v368 gb374 w55 hS_ HO355 HO369 BK352 BK360 BK374 GW374 GE374 NB352_374 NB374_352 NB360_374 NB374_360 HB hs56 hfs56 hns56_0 hns56_1 hms56_0 hms56_1 hs57 hfs57 hns57_0 hns57_1 hms57_0 hms57_1 hs58 hfs58 hns58_0 hns58_1 hms58_0 hms58_1 hHeld _ (by assumption)
           ·rw [if_neg c32] at H
            cases H
          ·rw [if_neg c30] at H
           cases H
         ·rw [if_neg c28] at H
          cases H
        ·rw [if_neg c26] at H
         cases H
       ·rw [if_neg c25] at H
        cases H
      ·rw [if_neg c24] at H
       cases H
     ·rw [if_neg c23] at H
      cases H
    ·rw [if_neg c22] at H
     cases H
   ·rw [if_neg c21] at H
    cases H
  ·rw [if_neg c8] at H
   have c8b0 : (t351 == 0) = false := beq_eq_false_iff_ne.mpr c8
   have c8b1 : (t351 != 0) = true := bne_iff_ne.mpr c8
   by_cases c802 : t351 = 8
   ·rw [if_pos c802] at H
    have c802b0 : (t351 == 8) = true := beq_iff_eq.mpr c802
    have c802b1 : (t351 != 8) = false := bne_eq_false_iff_eq.mpr c802
    clear c802
    by_cases c803 : (a0.size : Int) > 2048
    ·rw [if_pos c803] at H
     have c803b0 : decide (2048 < (a0.size : Int)) = true := decide_eq_true c803
     have c803b1 : decide (2048 < a0.size) = true := decide_eq_true (by omega)
     clear c803
     obtain rfl := Option.some.inj H
     go_enter Try.func7, Try.ntmps7
     go_wp2_with (first | ((with_reducible refine gate_callee (f := 23) rfl ?_); refine goesL_ (some 19) rfl rfl Try.func23 (by kernel_rfl) rfl #[] rfl (by (try simp only [List.map_toArray, List.map_cons, List.map_nil]); first | done | rfl | (simp only [List.length_drop, List.length_take]; rfl)) ?_; (with_reducible refine (quarrylaw02_works.calls  true _ A3.out).mono ?_); rintro e w804 ⟨rfl, hb⟩; refine ⟨_, rfl, ?_⟩; have n0_ := Aside0.mk (below_step (by repeat (first | (with_reducible first | exact HB.out | apply below_alloc | apply pw_below_drewN | apply below_drew1) | exact HB.out)) hb); clear HB; have HB := n0_; clear n0_; (try clear hb); (try clear hb2); (try clear hk); (try clear hi)) | ((with_reducible refine gate_callee (f := 25) rfl ?_); refine goesL_ (some 23) rfl rfl Try.func25 (by kernel_rfl) rfl #[.string a0] rfl (by (try simp only [List.map_toArray, List.map_cons, List.map_nil]); first | done | rfl | (simp only [List.length_drop, List.length_take]; rfl)) ?_; (with_reducible refine (quarrylaw02_text.calls a0 t342 t343 t344 _ A5.out).mono ?_); rintro e w805 ⟨rfl, hb⟩; refine ⟨_, rfl, ?_⟩; have n0_ := Aside0.mk (below_step (by repeat (first | (with_reducible first | exact HB.out | apply below_alloc | apply pw_below_drewN | apply below_drew1) | exact HB.out)) hb); clear HB; have HB := n0_; clear n0_; (try clear hb); (try clear hb2); (try clear hk); (try clear hi)) | ((with_reducible refine gate_callee (f := 25) rfl ?_); refine goesL_ (some 25) rfl rfl Try.func25 (by kernel_rfl) rfl #[.string a1] rfl (by (try simp only [List.map_toArray, List.map_cons, List.map_nil]); first | done | rfl | (simp only [List.length_drop, List.length_take]; rfl)) ?_; (with_reducible refine (quarrylaw02_text.calls a1 t345 t346 t347 _ A6.out).mono ?_); rintro e w806 ⟨rfl, hb⟩; refine ⟨_, rfl, ?_⟩; have n0_ := Aside0.mk (below_step (by repeat (first | (with_reducible first | exact HB.out | apply below_alloc | apply pw_below_drewN | apply below_drew1) | exact HB.out)) hb); clear HB; have HB := n0_; clear n0_; (try clear hb); (try clear hb2); (try clear hk); (try clear hi)) | ((with_reducible refine gate_callee (f := 17) rfl ?_); refine goesL_ (some 26) rfl rfl Try.func17 (by kernel_rfl) rfl #[.int .i64 16, .agg #[.int .i64 t342, .int .i64 t343, .string t344], .agg #[.int .i64 t345, .int .i64 t346, .string t347]] rfl (by (try simp only [List.map_toArray, List.map_cons, List.map_nil]); first | done | rfl | (simp only [List.length_drop, List.length_take]; rfl)) ?_; (with_reducible refine (calc_Binary.print 16 t342 t343 t344 t345 t346 t347 t348 t349 t350 t351 _ A7.out).mono ?_); rintro e w807 ⟨rfl, hb⟩; refine ⟨_, rfl, ?_⟩; have n0_ := Aside0.mk (below_step (by repeat (first | (with_reducible first | exact HB.out | apply below_alloc | apply pw_below_drewN | apply below_drew1) | exact HB.out)) hb); clear HB; have HB := n0_; clear n0_; (try clear hb); (try clear hb2); (try clear hk); (try clear hi)) | ((with_reducible refine gate_dst (N := 5) rfl ?_); (try (refine gate_guard (by rfl) ?_; dsimp only)); refine box_event ?hg (N := 5) ?hd (cs := #[.int .i64 0, .int .i64 0, .string (⟨#[]⟩ : ByteArray)]) (t := 25) ?hr ?_; (case hd => rfl); (case hg => rfl); (case hr => first | (go_simp; done) | (go_simp; rfl)); intro gb352 hg w808 hbox hb; have n0_ := Aside0.mk (below_step (by repeat (first | (with_reducible first | exact HB.out | apply below_alloc | apply pw_below_drewN | apply below_drew1) | exact HB.out)) hb); have n1_ := Aside0.mk (hbox); have n2_ := Aside0.mk ((by rw [hg]; exact (below_size (by repeat (first | (with_reducible first | exact HB.out | apply below_alloc | apply pw_below_drewN | apply below_drew1) | exact HB.out))) : w.heap.size ≤ gb352)); have n3_ := Aside0.mk ((by rw [hg]; exact (below_size (by repeat (first | (with_reducible first | exact HB.out | apply below_alloc | apply pw_below_drewN | apply below_drew1) | exact HB.out))) : w.heap.size ≤ gb352)); clear HB; have HB := n0_; have BK352 := n1_; have GW352 := n2_; have GE352 := n3_; clear n0_ n1_ n2_ n3_; clear hb hbox hg; have hcz809_0 : w808.cell? ⟨gb352, 0, none⟩ = some (.int .i64 0) := (blk_cell BK352.out 0).trans rfl; have hcz809_1 : w808.cell? ⟨gb352, 1, none⟩ = some (.int .i64 0) := (blk_cell BK352.out 1).trans rfl; have hcz809_2 : w808.cell? ⟨gb352, 2, none⟩ = some (.string (⟨#[]⟩ : ByteArray)) := (blk_cell BK352.out 2).trans rfl; have hfz809_0 := blk_frozen BK352.out 0; have hfz809_1 := blk_frozen BK352.out 1; have hfz809_2 := blk_frozen BK352.out 2))
     go_ret
     exact ⟨by first | rfl | (simp [errW_none, errW_some] <;> rfl) | (simp [*, errW_none, errW_some] <;> rfl), by repeat (first | (with_reducible first | exact HB.out | apply below_alloc | apply pw_below_drewN | apply below_drew1 | refine below_set ?_ GE352.out) | exact HB.out)⟩
    ·rw [if_neg c803] at H
     have c803b0 : decide (2048 < (a0.size : Int)) = false := decide_eq_false c803
     have c803b1 : decide (2048 < a0.size) = false := decide_eq_false (by omega)
     clear c803
     obtain rfl := Option.some.inj H
     go_enter Try.func7, Try.ntmps7
     go_wp2_with (first | ((with_reducible refine gate_callee (f := 23) rfl ?_); refine goesL_ (some 19) rfl rfl Try.func23 (by kernel_rfl) rfl #[] rfl (by (try simp only [List.map_toArray, List.map_cons, List.map_nil]); first | done | rfl | (simp only [List.length_drop, List.length_take]; rfl)) ?_; (with_reducible refine (quarrylaw02_works.calls  true _ A3.out).mono ?_); rintro e w810 ⟨rfl, hb⟩; refine ⟨_, rfl, ?_⟩; have n0_ := Aside0.mk (below_step (by repeat (first | (with_reducible first | exact HB.out | apply below_alloc | apply pw_below_drewN | apply below_drew1) | exact HB.out)) hb); clear HB; have HB := n0_; clear n0_; (try clear hb); (try clear hb2); (try clear hk); (try clear hi)) | ((with_reducible refine gate_callee (f := 25) rfl ?_); refine goesL_ (some 23) rfl rfl Try.func25 (by kernel_rfl) rfl #[.string a0] rfl (by (try simp only [List.map_toArray, List.map_cons, List.map_nil]); first | done | rfl | (simp only [List.length_drop, List.length_take]; rfl)) ?_; (with_reducible refine (quarrylaw02_text.calls a0 t342 t343 t344 _ A5.out).mono ?_); rintro e w811 ⟨rfl, hb⟩; refine ⟨_, rfl, ?_⟩; have n0_ := Aside0.mk (below_step (by repeat (first | (with_reducible first | exact HB.out | apply below_alloc | apply pw_below_drewN | apply below_drew1) | exact HB.out)) hb); clear HB; have HB := n0_; clear n0_; (try clear hb); (try clear hb2); (try clear hk); (try clear hi)) | ((with_reducible refine gate_callee (f := 25) rfl ?_); refine goesL_ (some 25) rfl rfl Try.func25 (by kernel_rfl) rfl #[.string a1] rfl (by (try simp only [List.map_toArray, List.map_cons, List.map_nil]); first | done | rfl | (simp only [List.length_drop, List.length_take]; rfl)) ?_; (with_reducible refine (quarrylaw02_text.calls a1 t345 t346 t347 _ A6.out).mono ?_); rintro e w812 ⟨rfl, hb⟩; refine ⟨_, rfl, ?_⟩; have n0_ := Aside0.mk (below_step (by repeat (first | (with_reducible first | exact HB.out | apply below_alloc | apply pw_below_drewN | apply below_drew1) | exact HB.out)) hb); clear HB; have HB := n0_; clear n0_; (try clear hb); (try clear hb2); (try clear hk); (try clear hi)) | ((with_reducible refine gate_callee (f := 17) rfl ?_); refine goesL_ (some 26) rfl rfl Try.func17 (by kernel_rfl) rfl #[.int .i64 16, .agg #[.int .i64 t342, .int .i64 t343, .string t344], .agg #[.int .i64 t345, .int .i64 t346, .string t347]] rfl (by (try simp only [List.map_toArray, List.map_cons, List.map_nil]); first | done | rfl | (simp only [List.length_drop, List.length_take]; rfl)) ?_; (with_reducible refine (calc_Binary.print 16 t342 t343 t344 t345 t346 t347 t348 t349 t350 t351 _ A7.out).mono ?_); rintro e w813 ⟨rfl, hb⟩; refine ⟨_, rfl, ?_⟩; have n0_ := Aside0.mk (below_step (by repeat (first | (with_reducible first | exact HB.out | apply below_alloc | apply pw_below_drewN | apply below_drew1) | exact HB.out)) hb); clear HB; have HB := n0_; clear n0_; (try clear hb); (try clear hb2); (try clear hk); (try clear hi)) | ((with_reducible refine gate_dst (N := 5) rfl ?_); (try (refine gate_guard (by rfl) ?_; dsimp only)); refine box_event ?hg (N := 5) ?hd (cs := #[.int .i64 0, .int .i64 0, .string (⟨#[]⟩ : ByteArray)]) (t := 25) ?hr ?_; (case hd => rfl); (case hg => rfl); (case hr => first | (go_simp; done) | (go_simp; rfl)); intro gb352 hg w814 hbox hb; have n0_ := Aside0.mk (below_step (by repeat (first | (with_reducible first | exact HB.out | apply below_alloc | apply pw_below_drewN | apply below_drew1) | exact HB.out)) hb); have n1_ := Aside0.mk (hbox); have n2_ := Aside0.mk ((by rw [hg]; exact (below_size (by repeat (first | (with_reducible first | exact HB.out | apply below_alloc | apply pw_below_drewN | apply below_drew1) | exact HB.out))) : w.heap.size ≤ gb352)); have n3_ := Aside0.mk ((by rw [hg]; exact (below_size (by repeat (first | (with_reducible first | exact HB.out | apply below_alloc | apply pw_below_drewN | apply below_drew1) | exact HB.out))) : w.heap.size ≤ gb352)); clear HB; have HB := n0_; have BK352 := n1_; have GW352 := n2_; have GE352 := n3_; clear n0_ n1_ n2_ n3_; clear hb hbox hg; have hcz815_0 : w814.cell? ⟨gb352, 0, none⟩ = some (.int .i64 0) := (blk_cell BK352.out 0).trans rfl; have hcz815_1 : w814.cell? ⟨gb352, 1, none⟩ = some (.int .i64 0) := (blk_cell BK352.out 1).trans rfl; have hcz815_2 : w814.cell? ⟨gb352, 2, none⟩ = some (.string (⟨#[]⟩ : ByteArray)) := (blk_cell BK352.out 2).trans rfl; have hfz815_0 := blk_frozen BK352.out 0; have hfz815_1 := blk_frozen BK352.out 1; have hfz815_2 := blk_frozen BK352.out 2))
     go_ret
     exact ⟨by first | rfl | (simp [errW_none, errW_some] <;> rfl) | (simp [*, errW_none, errW_some] <;> rfl), by repeat (first | (with_reducible first | exact HB.out | apply below_alloc | apply pw_below_drewN | apply below_drew1 | refine below_set ?_ GE352.out) | exact HB.out)⟩
   ·rw [if_neg c802] at H
    cases H
 ·rw [if_neg c4] at H
  cases H
end Go.Proofs.Ytfbeklbjlkgbnaa.P
end
section
namespace Go.Proofs.Ytfbeklbjlkgbnaa.P
open Go.RowKit Go.Proofs.YtfbeklbjlkgbnaaW.PrintWords Go.Proofs.YtfbeklbjlkgbnaaW.PrintLast Go.Proofs.YtfbeklbjlkgbnaaW.PrintMore
attribute [local go_sem] max2_int min2_int max_two min_two max_three min_three max_four min_four
set_option linter.unusedVariables false
set_option linter.unusedSimpArgs false
attribute [local go_sem high] eqA25
theorem eqR (d : Nat) (w : World) (x0 y0 : Int) (x1 y1 : Int) (x2 y2 : ByteArray) :
  (Op.equalIn (d + 2) 25 (.agg #[.int .i64 x0, .int .i64 x1, .string x2]) (.agg #[.int .i64 y0, .int .i64 y1, .string y2])).run Try.prog w = .ok (x0 == y0 && (x1 == y1 && (x2.toList == y2.toList))) w := by
 refine eqA_of Try.underlying25 (by kernel_rfl) ?_
 refine eqf_cons (by rfl) (by go_simp; rfl) (by go_simp; rfl) (by go_simp) ?_
 refine eqf_cons (by rfl) (by go_simp; rfl) (by go_simp; rfl) (by go_simp) ?_
 exact eqf_last (by rfl) (by go_simp; rfl) (by go_simp; rfl) (by go_simp)
attribute [local go_sem high] eqR
end Go.Proofs.Ytfbeklbjlkgbnaa.P
end
section
namespace Go.Proofs.Ytfbeklbjlkgbnaa.Pure
set_option linter.unusedVariables false
set_option linter.unusedSimpArgs false
open Go.RowKit Go.Proofs.Ytfbeklbjlkgbnaa.P Go.Proofs.YtfbeklbjlkgbnaaW.PrintWords Go.Proofs.YtfbeklbjlkgbnaaW.PrintLast Go.Proofs.YtfbeklbjlkgbnaaW.PrintMore
theorem bin_f (op : Int) (x y : S25) (h : fits x y) : calc_Binary.f op x.f0 x.f1 x.f2 y.f0 y.f1 y.f2 = some (outT (bin op x y)) := if_pos h
theorem num_f (n : Int) : quarrylaw02_num.f n = some (2, n, V0) := rfl
theorem V0_list : V0.toList = [] := by rw [Go.ByteArray.toList_eq]; rfl
theorem works_f : quarrylaw02_works.f = some true := by
  have b1 : calc_Binary.f 11 2 2 V0 2 3 V0 = some (2, 5, V0, 0) := by kernel_rfl
  have b2 : calc_Binary.f 4 0 0 V0 1 0 V0 = some (1, 0, V0, 0) := by kernel_rfl
  have b3 : calc_Binary.f 14 2 1 V0 2 0 V0 = some (0, 0, V0, 41) := by kernel_rfl
  have b4 : calc_Call.f 5 [⟨3, 0, ⟨#[104, 101, 108, 108, 111]⟩⟩, ⟨2, 2, V0⟩, ⟨2, 3, V0⟩] = some (3, 0, ⟨#[101, 108, 108]⟩, 0) := by kernel_rfl
  have e : (⟨#[101, 108, 108]⟩ : ByteArray).toList = [101, 108, 108] := by rw [Go.ByteArray.toList_eq]
  unfold quarrylaw02_works.f
  have e0 : (⟨#[]⟩ : ByteArray) = V0 := rfl
  simp only [num_f, Option.bind_some, e0, b1, b2, b3, b4, e, V0_list]
  rfl
end Go.Proofs.Ytfbeklbjlkgbnaa.Pure
end
section
namespace Go.Proofs.Ytfbeklbjlkgbnaa.Pure
open Go.RowKit Go.Proofs.Ytfbeklbjlkgbnaa.P Go.Proofs.YtfbeklbjlkgbnaaW.PrintWords Go.Proofs.YtfbeklbjlkgbnaaW.PrintLast
theorem text_f (s : ByteArray) : quarrylaw02_text.f s = some (3, 0, s) := rfl
theorem FitsN {n : Int} (h : In64 n) : FitsV ⟨2, n, V0⟩ := ⟨h, by show (0 : Nat) ≤ _; omega⟩
theorem FitsT {s : ByteArray} (h : s.size ≤ 2048) : FitsV ⟨3, 0, s⟩ := ⟨show In64 0 by decide, by show s.size ≤ _; omega⟩
theorem call_f (f : Int) (l : List S25) (h : ∀ v ∈ l, FitsV v) : calc_Call.f f l = some (outT (call f l)) := if_pos (of_fits h)
theorem call_length (s : ByteArray) : call 1 [⟨3, 0, s⟩] = .ok ⟨2, (s.size : Int), V0⟩ := rfl
theorem call_upper (s : ByteArray) : call 3 [⟨3, 0, s⟩] = .ok ⟨3, 0, mapS upC s⟩ := rfl
theorem call_lower (s : ByteArray) : call 4 [⟨3, 0, s⟩] = .ok ⟨3, 0, mapS lowC s⟩ := rfl
theorem call_substr (s : ByteArray) (p n : Int) : call 5 [⟨3, 0, s⟩, ⟨2, p, V0⟩, ⟨2, n, V0⟩] = .ok ⟨3, 0, cutP s p n⟩ := rfl
theorem up_low (c : UInt8) : upC (lowC c) = upC c := by
  unfold lowC
  by_cases h : 65 ≤ c.toNat ∧ c.toNat ≤ 90
  · rw [if_pos h]
    unfold upC
    have e : (UInt8.ofNat (c.toNat + 32)).toNat = c.toNat + 32 := by rw [UInt8.toNat_ofNat']; omega
    rw [e, if_pos (by omega), if_neg (show ¬ (97 ≤ c.toNat ∧ c.toNat ≤ 122) by omega)]
    rw [show c.toNat + 32 - 32 = c.toNat by omega]
    exact UInt8.ofNat_toNat
  · rw [if_neg h]
theorem map_up_low (s : ByteArray) : mapS upC (mapS lowC s) = mapS upC s := by
  unfold mapS
  apply congrArg ByteArray.mk
  congr 1
  rw [List.map_map]
  exact List.map_congr_left (fun c _ => up_low c)
theorem mapS_size (g : UInt8 → UInt8) (s : ByteArray) : (mapS g s).size = s.size := by
  have h1 : (mapS g s).size = (mapS g s).data.toList.length := by rw [Array.length_toList]; rfl
  have h2 : s.size = s.data.toList.length := by rw [Array.length_toList]; rfl
  rw [h1, h2]
  show (s.data.toList.map g).toArray.toList.length = _
  simp
theorem app_size (a b : ByteArray) : (a ++ b).size = a.size + b.size := ByteArray.size_append
theorem cut_front (a b : ByteArray) : cutP (a ++ b) 1 (a.size : Int) = a := by
  unfold cutP
  by_cases h0 : (a.size : Int) ≤ 0 ∨ ((a ++ b).size : Int) < 1
  · rw [if_pos h0]
    have hz : a.size = 0 := by rw [app_size] at h0; omega
    have : a.data = #[] := Array.eq_empty_of_size_eq_zero hz
    cases a
    simp only at this
    subst this
    rfl
  · rw [if_neg h0, if_neg (by omega)]
    have e : (1 - 1 + min (a.size : Int) (((a ++ b).size : Int) - 1 + 1)).toNat = a.size := by rw [app_size, Int.min_eq_left (by omega)]; omega
    rw [e]
    have z : ((1 : Int) - 1).toNat = 0 := rfl
    rw [z]
    cases a with
    | mk da =>
      cases b with
      | mk db =>
        apply congrArg ByteArray.mk
        show ((ByteArray.mk da ++ ByteArray.mk db).extract 0 (ByteArray.mk da).size).data = da
        rw [ByteArray.data_extract, ByteArray.data_append]
        show (da ++ db).extract 0 da.size = da
        rw [Array.extract_append]
        simp
theorem cut_back (a b : ByteArray) (h : a.size + b.size ≤ 2048) : cutP (a ++ b) ((a.size : Int) + 1) 1099511627776 = b := by
  unfold cutP
  by_cases h0 : (1099511627776 : Int) ≤ 0 ∨ ((a ++ b).size : Int) < (a.size : Int) + 1
  · rw [if_pos h0]
    have hz : b.size = 0 := by rw [app_size] at h0; omega
    have : b.data = #[] := Array.eq_empty_of_size_eq_zero hz
    cases b
    simp only at this
    subst this
    rfl
  · rw [if_neg h0, if_neg (by omega)]
    have e : ((a.size : Int) + 1 - 1 + min 1099511627776 (((a ++ b).size : Int) - ((a.size : Int) + 1) + 1)).toNat = a.size + b.size := by rw [app_size, Int.min_eq_right (by omega)]; omega
    have e2 : ((a.size : Int) + 1 - 1).toNat = a.size := by omega
    rw [e, e2]
    cases a with
    | mk da =>
      cases b with
      | mk db =>
        apply congrArg ByteArray.mk
        show ((ByteArray.mk da ++ ByteArray.mk db).extract (ByteArray.mk da).size ((ByteArray.mk da).size + (ByteArray.mk db).size)).data = db
        rw [ByteArray.data_extract, ByteArray.data_append]
        show (da ++ db).extract da.size (da.size + db.size) = db
        rw [Array.extract_append]
        simp
theorem CalcTexts : ∀ (a0 : ByteArray) (a1 : ByteArray), a0.size ≤ 140737488351232 → a1.size ≤ 140737488351232 → quarrylaw02_CalcTexts.f a0 a1 = some true := by
  intro a b ha hb
  have hf : fits ⟨3, 0, a⟩ ⟨3, 0, b⟩ := ⟨by show In64 0; decide, by show In64 0; decide, ha, hb⟩
  have hbin : calc_Binary.f 16 3 0 a 3 0 b = some (outT (bin 16 ⟨3, 0, a⟩ ⟨3, 0, b⟩)) := bin_f 16 ⟨3, 0, a⟩ ⟨3, 0, b⟩ hf
  have hcat : bin 16 ⟨3, 0, a⟩ ⟨3, 0, b⟩ = if a.size + b.size ≤ 2048 then .ok ⟨3, 0, a ++ b⟩ else .error 8 := rfl
  unfold quarrylaw02_CalcTexts.f
  simp only [works_f, Option.bind_some, if_true, text_f, hbin]
  rw [hcat]
  by_cases hs : a.size + b.size ≤ 2048
  · rw [if_pos hs]
    have hab := app_size a b
    have la : a.size ≤ 2048 := by omega
    have o1 : outT (.ok ⟨3, 0, a ++ b⟩) = (3, 0, a ++ b, 0) := rfl
    have c1 : calc_Call.f 1 [⟨3, 0, a ++ b⟩] = some (2, ((a ++ b).size : Int), V0, 0) := (call_f 1 _ (by simp only [List.mem_singleton]; rintro v rfl; exact FitsT (by omega))).trans (by rw [call_length]; rfl)
    have c2 : ∀ p n : Int, In64 p → In64 n → calc_Call.f 5 [⟨3, 0, a ++ b⟩, ⟨2, p, V0⟩, ⟨2, n, V0⟩] = some (3, 0, cutP (a ++ b) p n, 0) := fun p n hp hn =>
      (call_f 5 _ (by
        simp only [List.mem_cons, List.not_mem_nil, or_false]
        rintro v (rfl | rfl | rfl)
        · exact FitsT (by omega)
        · exact FitsN hp
        · exact FitsN hn)).trans (by rw [call_substr]; rfl)
    have c3 : calc_Call.f 3 [⟨3, 0, a⟩] = some (3, 0, mapS upC a, 0) := (call_f 3 _ (by simp only [List.mem_singleton]; rintro v rfl; exact FitsT la)).trans (by rw [call_upper]; rfl)
    have c4 : calc_Call.f 4 [⟨3, 0, a⟩] = some (3, 0, mapS lowC a, 0) := (call_f 4 _ (by simp only [List.mem_singleton]; rintro v rfl; exact FitsT la)).trans (by rw [call_lower]; rfl)
    have c5 : calc_Call.f 3 [⟨3, 0, mapS lowC a⟩] = some (3, 0, mapS upC a, 0) := (call_f 3 _ (by simp only [List.mem_singleton]; rintro v rfl; exact FitsT (by rw [mapS_size]; omega))).trans (by rw [call_upper, map_up_low]; rfl)
    have w1 : wrap64 ((a.size : Int) + 1) = (a.size : Int) + 1 := by unfold wrap64; omega
    have w2 : wrap64 ((a.size : Int) + (b.size : Int)) = ((a ++ b).size : Int) := by unfold wrap64; omega
    have i1 : In64 (1 : Int) := by decide
    have i2 : In64 (a.size : Int) := by unfold In64; omega
    have i3 : In64 ((a.size : Int) + 1) := by unfold In64; omega
    have i4 : In64 (1099511627776 : Int) := by decide
    simp only [o1, if_true, num_f, Option.bind_some, c1, c2 _ _ i1 i2, w1, c2 _ _ i3 i4, c3, c4, c5, w2, cut_front, cut_back a b hs, beq_self_eq_true, Bool.and_self]
  · rw [if_neg hs]
    have o1 : outT (.error 8 : Except Int S25) = (0, 0, V0, 8) := rfl
    have n0 : ¬ (8 : Int) = 0 := by decide
    simp only [o1, if_neg n0, if_true]
    by_cases h1 : (a.size : Int) > 2048
    · simp only [if_pos h1]
    · have w : wrap64 (2048 - (a.size : Int)) = 2048 - (a.size : Int) := by unfold wrap64; omega
      simp only [if_neg h1, w]
      rw [decide_eq_true (by omega)]
end Go.Proofs.Ytfbeklbjlkgbnaa.Pure
end
