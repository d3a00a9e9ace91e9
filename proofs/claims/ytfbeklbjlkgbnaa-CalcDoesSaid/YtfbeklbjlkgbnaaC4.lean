/- Written in this session: the walks of calc.product and calc.sum, way by way. No condition but the kinds of numbers. -/
import Derived.Test.YtfbeklbjlkgbnaaC3
import Derived.BigGuardPart
namespace Go.Proofs.Ytfbeklbjlkgbnaa.P
open Go.RowKit Go.Proofs.YtfbeklbjlkgbnaaW.PrintWords Go.Proofs.YtfbeklbjlkgbnaaW.PrintLast Go.Proofs.YtfbeklbjlkgbnaaW.PrintMore
attribute [local go_sem] max2_int min2_int max_two min_two max_three min_three max_four min_four   -- for this text's walks alone
set_option linter.unusedVariables false
set_option linter.unusedSimpArgs false

set_option maxHeartbeats 1000000 in
theorem calc_product.w11hi (a b x y hi lo : Int) (w : World) (hx : calc_size.f a = some x) (hy : calc_size.f b = some y) (hm : bits_Mul64.f x y = some (hi, lo)) (l0 : 0 ≤ lo) (l1 : lo < 18446744073709551616) (h1 : a < 0) (h2 : b < 0) (hz : ¬ hi = 0) :
    Calls Try.prog 61 #[.int .i64 a, .int .i64 b] w fun e w' => e = PErr 40 ∧ Drawn0 w w' := by
  have b1 : decide (a < 0) = true := decide_eq_true h1
  have b2 : decide (b < 0) = true := decide_eq_true h2
  have b3 : (hi == 0) = false := beq_eq_false_iff_ne.mpr hz
  clear h1 h2 hz
  go_enter Try.func61, Try.ntmps61
  go_wp2_with (first | (go_at_call 70; (with_reducible refine (calc_size.calls a x _ hx).mono ?_); rintro e w' ⟨rfl, ⟨nd, rfl⟩⟩) | (go_at_call 70; (with_reducible refine (calc_size.calls b y _ hy).mono ?_); rintro e w' ⟨rfl, ⟨nd, rfl⟩⟩) | (go_at_call 69; (with_reducible refine (bits_Mul64.calls x y hi lo _ hm).mono ?_); rintro e w' ⟨rfl, ⟨nd, rfl⟩⟩) | (go_at_call 30; (with_reducible refine (calc_check.yes 40 _).mono ?_); rintro e w' ⟨rfl, rfl⟩) | (go_at_call 30; (with_reducible refine (calc_check.no 40 _).mono ?_); rintro e w' ⟨rfl, rfl⟩))
  exact ⟨rfl, rfl, by repeat (first | exact Drawn0.refl _ | apply Drawn0.step)⟩
set_option maxHeartbeats 1000000 in
theorem calc_product.w11lo (a b x y hi lo : Int) (w : World) (hx : calc_size.f a = some x) (hy : calc_size.f b = some y) (hm : bits_Mul64.f x y = some (hi, lo)) (l0 : 0 ≤ lo) (l1 : lo < 18446744073709551616) (h1 : a < 0) (h2 : b < 0) (hz : hi = 0) (hl : ¬ lo ≤ 9223372036854775807) :
    Calls Try.prog 61 #[.int .i64 a, .int .i64 b] w fun e w' => e = PErr 40 ∧ Drawn0 w w' := by
  have b1 : decide (a < 0) = true := decide_eq_true h1
  have b2 : decide (b < 0) = true := decide_eq_true h2
  have b3 : (hi == 0) = true := beq_iff_eq.mpr hz
  have b4 : decide (lo ≤ 9223372036854775807) = false := decide_eq_false hl
  clear h1 h2 hz hl
  go_enter Try.func61, Try.ntmps61
  go_wp2_with (first | (go_at_call 70; (with_reducible refine (calc_size.calls a x _ hx).mono ?_); rintro e w' ⟨rfl, ⟨nd, rfl⟩⟩) | (go_at_call 70; (with_reducible refine (calc_size.calls b y _ hy).mono ?_); rintro e w' ⟨rfl, ⟨nd, rfl⟩⟩) | (go_at_call 69; (with_reducible refine (bits_Mul64.calls x y hi lo _ hm).mono ?_); rintro e w' ⟨rfl, ⟨nd, rfl⟩⟩) | (go_at_call 30; (with_reducible refine (calc_check.yes 40 _).mono ?_); rintro e w' ⟨rfl, rfl⟩) | (go_at_call 30; (with_reducible refine (calc_check.no 40 _).mono ?_); rintro e w' ⟨rfl, rfl⟩))
  exact ⟨rfl, rfl, by repeat (first | exact Drawn0.refl _ | apply Drawn0.step)⟩
set_option maxHeartbeats 1000000 in
theorem calc_product.w11ok (a b x y hi lo : Int) (w : World) (hx : calc_size.f a = some x) (hy : calc_size.f b = some y) (hm : bits_Mul64.f x y = some (hi, lo)) (l0 : 0 ≤ lo) (l1 : lo < 18446744073709551616) (h1 : a < 0) (h2 : b < 0) (hz : hi = 0) (hl : lo ≤ 9223372036854775807) :
    Calls Try.prog 61 #[.int .i64 a, .int .i64 b] w fun e w' => e = .returned (.int .i64 (lo)) ∧ Drawn0 w w' := by
  have b1 : decide (a < 0) = true := decide_eq_true h1
  have b2 : decide (b < 0) = true := decide_eq_true h2
  have b3 : (hi == 0) = true := beq_iff_eq.mpr hz
  have b4 : decide (lo ≤ 9223372036854775807) = true := decide_eq_true hl
  have b5 : wrap64 lo = lo := by unfold wrap64; omega
  clear h1 h2 hz hl
  go_enter Try.func61, Try.ntmps61
  go_wp2_with (first | (go_at_call 70; (with_reducible refine (calc_size.calls a x _ hx).mono ?_); rintro e w' ⟨rfl, ⟨nd, rfl⟩⟩) | (go_at_call 70; (with_reducible refine (calc_size.calls b y _ hy).mono ?_); rintro e w' ⟨rfl, ⟨nd, rfl⟩⟩) | (go_at_call 69; (with_reducible refine (bits_Mul64.calls x y hi lo _ hm).mono ?_); rintro e w' ⟨rfl, ⟨nd, rfl⟩⟩) | (go_at_call 30; (with_reducible refine (calc_check.yes 40 _).mono ?_); rintro e w' ⟨rfl, rfl⟩) | (go_at_call 30; (with_reducible refine (calc_check.no 40 _).mono ?_); rintro e w' ⟨rfl, rfl⟩))
  go_ret
  exact ⟨by first | rfl | (simp; done) | (simp [*]; done), by repeat (first | exact Drawn0.refl _ | apply Drawn0.step)⟩
set_option maxHeartbeats 1000000 in
theorem calc_product.w10hi (a b x y hi lo : Int) (w : World) (hx : calc_size.f a = some x) (hy : calc_size.f b = some y) (hm : bits_Mul64.f x y = some (hi, lo)) (l0 : 0 ≤ lo) (l1 : lo < 18446744073709551616) (h1 : a < 0) (h2 : ¬ b < 0) (hz : ¬ hi = 0) :
    Calls Try.prog 61 #[.int .i64 a, .int .i64 b] w fun e w' => e = PErr 40 ∧ Drawn0 w w' := by
  have b1 : decide (a < 0) = true := decide_eq_true h1
  have b2 : decide (b < 0) = false := decide_eq_false h2
  have b3 : (hi == 0) = false := beq_eq_false_iff_ne.mpr hz
  clear h1 h2 hz
  go_enter Try.func61, Try.ntmps61
  go_wp2_with (first | (go_at_call 70; (with_reducible refine (calc_size.calls a x _ hx).mono ?_); rintro e w' ⟨rfl, ⟨nd, rfl⟩⟩) | (go_at_call 70; (with_reducible refine (calc_size.calls b y _ hy).mono ?_); rintro e w' ⟨rfl, ⟨nd, rfl⟩⟩) | (go_at_call 69; (with_reducible refine (bits_Mul64.calls x y hi lo _ hm).mono ?_); rintro e w' ⟨rfl, ⟨nd, rfl⟩⟩) | (go_at_call 30; (with_reducible refine (calc_check.yes 40 _).mono ?_); rintro e w' ⟨rfl, rfl⟩) | (go_at_call 30; (with_reducible refine (calc_check.no 40 _).mono ?_); rintro e w' ⟨rfl, rfl⟩))
  exact ⟨rfl, rfl, by repeat (first | exact Drawn0.refl _ | apply Drawn0.step)⟩
set_option maxHeartbeats 1000000 in
theorem calc_product.w10lo (a b x y hi lo : Int) (w : World) (hx : calc_size.f a = some x) (hy : calc_size.f b = some y) (hm : bits_Mul64.f x y = some (hi, lo)) (l0 : 0 ≤ lo) (l1 : lo < 18446744073709551616) (h1 : a < 0) (h2 : ¬ b < 0) (hz : hi = 0) (hl : ¬ lo ≤ 9223372036854775808) :
    Calls Try.prog 61 #[.int .i64 a, .int .i64 b] w fun e w' => e = PErr 40 ∧ Drawn0 w w' := by
  have b1 : decide (a < 0) = true := decide_eq_true h1
  have b2 : decide (b < 0) = false := decide_eq_false h2
  have b3 : (hi == 0) = true := beq_iff_eq.mpr hz
  have b4 : decide (lo ≤ 9223372036854775808) = false := decide_eq_false hl
  clear h1 h2 hz hl
  go_enter Try.func61, Try.ntmps61
  go_wp2_with (first | (go_at_call 70; (with_reducible refine (calc_size.calls a x _ hx).mono ?_); rintro e w' ⟨rfl, ⟨nd, rfl⟩⟩) | (go_at_call 70; (with_reducible refine (calc_size.calls b y _ hy).mono ?_); rintro e w' ⟨rfl, ⟨nd, rfl⟩⟩) | (go_at_call 69; (with_reducible refine (bits_Mul64.calls x y hi lo _ hm).mono ?_); rintro e w' ⟨rfl, ⟨nd, rfl⟩⟩) | (go_at_call 30; (with_reducible refine (calc_check.yes 40 _).mono ?_); rintro e w' ⟨rfl, rfl⟩) | (go_at_call 30; (with_reducible refine (calc_check.no 40 _).mono ?_); rintro e w' ⟨rfl, rfl⟩))
  exact ⟨rfl, rfl, by repeat (first | exact Drawn0.refl _ | apply Drawn0.step)⟩
set_option maxHeartbeats 1000000 in
theorem calc_product.w10ok (a b x y hi lo : Int) (w : World) (hx : calc_size.f a = some x) (hy : calc_size.f b = some y) (hm : bits_Mul64.f x y = some (hi, lo)) (l0 : 0 ≤ lo) (l1 : lo < 18446744073709551616) (h1 : a < 0) (h2 : ¬ b < 0) (hz : hi = 0) (hl : lo ≤ 9223372036854775808) :
    Calls Try.prog 61 #[.int .i64 a, .int .i64 b] w fun e w' => e = .returned (.int .i64 (-lo)) ∧ Drawn0 w w' := by
  have b1 : decide (a < 0) = true := decide_eq_true h1
  have b2 : decide (b < 0) = false := decide_eq_false h2
  have b3 : (hi == 0) = true := beq_iff_eq.mpr hz
  have b4 : decide (lo ≤ 9223372036854775808) = true := decide_eq_true hl
  have b5 : wrap64 (IntKind.u64.wrap (-lo)) = -lo := by unfold wrap64; rw [IntKind.wrap_u64]; omega
  clear h1 h2 hz hl
  go_enter Try.func61, Try.ntmps61
  go_wp2_with (first | (go_at_call 70; (with_reducible refine (calc_size.calls a x _ hx).mono ?_); rintro e w' ⟨rfl, ⟨nd, rfl⟩⟩) | (go_at_call 70; (with_reducible refine (calc_size.calls b y _ hy).mono ?_); rintro e w' ⟨rfl, ⟨nd, rfl⟩⟩) | (go_at_call 69; (with_reducible refine (bits_Mul64.calls x y hi lo _ hm).mono ?_); rintro e w' ⟨rfl, ⟨nd, rfl⟩⟩) | (go_at_call 30; (with_reducible refine (calc_check.yes 40 _).mono ?_); rintro e w' ⟨rfl, rfl⟩) | (go_at_call 30; (with_reducible refine (calc_check.no 40 _).mono ?_); rintro e w' ⟨rfl, rfl⟩))
  go_ret
  exact ⟨by first | rfl | (simp; done) | (simp [*]; done), by repeat (first | exact Drawn0.refl _ | apply Drawn0.step)⟩
set_option maxHeartbeats 1000000 in
theorem calc_product.w01hi (a b x y hi lo : Int) (w : World) (hx : calc_size.f a = some x) (hy : calc_size.f b = some y) (hm : bits_Mul64.f x y = some (hi, lo)) (l0 : 0 ≤ lo) (l1 : lo < 18446744073709551616) (h1 : ¬ a < 0) (h2 : b < 0) (hz : ¬ hi = 0) :
    Calls Try.prog 61 #[.int .i64 a, .int .i64 b] w fun e w' => e = PErr 40 ∧ Drawn0 w w' := by
  have b1 : decide (a < 0) = false := decide_eq_false h1
  have b2 : decide (b < 0) = true := decide_eq_true h2
  have b3 : (hi == 0) = false := beq_eq_false_iff_ne.mpr hz
  clear h1 h2 hz
  go_enter Try.func61, Try.ntmps61
  go_wp2_with (first | (go_at_call 70; (with_reducible refine (calc_size.calls a x _ hx).mono ?_); rintro e w' ⟨rfl, ⟨nd, rfl⟩⟩) | (go_at_call 70; (with_reducible refine (calc_size.calls b y _ hy).mono ?_); rintro e w' ⟨rfl, ⟨nd, rfl⟩⟩) | (go_at_call 69; (with_reducible refine (bits_Mul64.calls x y hi lo _ hm).mono ?_); rintro e w' ⟨rfl, ⟨nd, rfl⟩⟩) | (go_at_call 30; (with_reducible refine (calc_check.yes 40 _).mono ?_); rintro e w' ⟨rfl, rfl⟩) | (go_at_call 30; (with_reducible refine (calc_check.no 40 _).mono ?_); rintro e w' ⟨rfl, rfl⟩))
  exact ⟨rfl, rfl, by repeat (first | exact Drawn0.refl _ | apply Drawn0.step)⟩
set_option maxHeartbeats 1000000 in
theorem calc_product.w01lo (a b x y hi lo : Int) (w : World) (hx : calc_size.f a = some x) (hy : calc_size.f b = some y) (hm : bits_Mul64.f x y = some (hi, lo)) (l0 : 0 ≤ lo) (l1 : lo < 18446744073709551616) (h1 : ¬ a < 0) (h2 : b < 0) (hz : hi = 0) (hl : ¬ lo ≤ 9223372036854775808) :
    Calls Try.prog 61 #[.int .i64 a, .int .i64 b] w fun e w' => e = PErr 40 ∧ Drawn0 w w' := by
  have b1 : decide (a < 0) = false := decide_eq_false h1
  have b2 : decide (b < 0) = true := decide_eq_true h2
  have b3 : (hi == 0) = true := beq_iff_eq.mpr hz
  have b4 : decide (lo ≤ 9223372036854775808) = false := decide_eq_false hl
  clear h1 h2 hz hl
  go_enter Try.func61, Try.ntmps61
  go_wp2_with (first | (go_at_call 70; (with_reducible refine (calc_size.calls a x _ hx).mono ?_); rintro e w' ⟨rfl, ⟨nd, rfl⟩⟩) | (go_at_call 70; (with_reducible refine (calc_size.calls b y _ hy).mono ?_); rintro e w' ⟨rfl, ⟨nd, rfl⟩⟩) | (go_at_call 69; (with_reducible refine (bits_Mul64.calls x y hi lo _ hm).mono ?_); rintro e w' ⟨rfl, ⟨nd, rfl⟩⟩) | (go_at_call 30; (with_reducible refine (calc_check.yes 40 _).mono ?_); rintro e w' ⟨rfl, rfl⟩) | (go_at_call 30; (with_reducible refine (calc_check.no 40 _).mono ?_); rintro e w' ⟨rfl, rfl⟩))
  exact ⟨rfl, rfl, by repeat (first | exact Drawn0.refl _ | apply Drawn0.step)⟩
set_option maxHeartbeats 1000000 in
theorem calc_product.w01ok (a b x y hi lo : Int) (w : World) (hx : calc_size.f a = some x) (hy : calc_size.f b = some y) (hm : bits_Mul64.f x y = some (hi, lo)) (l0 : 0 ≤ lo) (l1 : lo < 18446744073709551616) (h1 : ¬ a < 0) (h2 : b < 0) (hz : hi = 0) (hl : lo ≤ 9223372036854775808) :
    Calls Try.prog 61 #[.int .i64 a, .int .i64 b] w fun e w' => e = .returned (.int .i64 (-lo)) ∧ Drawn0 w w' := by
  have b1 : decide (a < 0) = false := decide_eq_false h1
  have b2 : decide (b < 0) = true := decide_eq_true h2
  have b3 : (hi == 0) = true := beq_iff_eq.mpr hz
  have b4 : decide (lo ≤ 9223372036854775808) = true := decide_eq_true hl
  have b5 : wrap64 (IntKind.u64.wrap (-lo)) = -lo := by unfold wrap64; rw [IntKind.wrap_u64]; omega
  clear h1 h2 hz hl
  go_enter Try.func61, Try.ntmps61
  go_wp2_with (first | (go_at_call 70; (with_reducible refine (calc_size.calls a x _ hx).mono ?_); rintro e w' ⟨rfl, ⟨nd, rfl⟩⟩) | (go_at_call 70; (with_reducible refine (calc_size.calls b y _ hy).mono ?_); rintro e w' ⟨rfl, ⟨nd, rfl⟩⟩) | (go_at_call 69; (with_reducible refine (bits_Mul64.calls x y hi lo _ hm).mono ?_); rintro e w' ⟨rfl, ⟨nd, rfl⟩⟩) | (go_at_call 30; (with_reducible refine (calc_check.yes 40 _).mono ?_); rintro e w' ⟨rfl, rfl⟩) | (go_at_call 30; (with_reducible refine (calc_check.no 40 _).mono ?_); rintro e w' ⟨rfl, rfl⟩))
  go_ret
  exact ⟨by first | rfl | (simp; done) | (simp [*]; done), by repeat (first | exact Drawn0.refl _ | apply Drawn0.step)⟩
set_option maxHeartbeats 1000000 in
theorem calc_product.w00hi (a b x y hi lo : Int) (w : World) (hx : calc_size.f a = some x) (hy : calc_size.f b = some y) (hm : bits_Mul64.f x y = some (hi, lo)) (l0 : 0 ≤ lo) (l1 : lo < 18446744073709551616) (h1 : ¬ a < 0) (h2 : ¬ b < 0) (hz : ¬ hi = 0) :
    Calls Try.prog 61 #[.int .i64 a, .int .i64 b] w fun e w' => e = PErr 40 ∧ Drawn0 w w' := by
  have b1 : decide (a < 0) = false := decide_eq_false h1
  have b2 : decide (b < 0) = false := decide_eq_false h2
  have b3 : (hi == 0) = false := beq_eq_false_iff_ne.mpr hz
  clear h1 h2 hz
  go_enter Try.func61, Try.ntmps61
  go_wp2_with (first | (go_at_call 70; (with_reducible refine (calc_size.calls a x _ hx).mono ?_); rintro e w' ⟨rfl, ⟨nd, rfl⟩⟩) | (go_at_call 70; (with_reducible refine (calc_size.calls b y _ hy).mono ?_); rintro e w' ⟨rfl, ⟨nd, rfl⟩⟩) | (go_at_call 69; (with_reducible refine (bits_Mul64.calls x y hi lo _ hm).mono ?_); rintro e w' ⟨rfl, ⟨nd, rfl⟩⟩) | (go_at_call 30; (with_reducible refine (calc_check.yes 40 _).mono ?_); rintro e w' ⟨rfl, rfl⟩) | (go_at_call 30; (with_reducible refine (calc_check.no 40 _).mono ?_); rintro e w' ⟨rfl, rfl⟩))
  exact ⟨rfl, rfl, by repeat (first | exact Drawn0.refl _ | apply Drawn0.step)⟩
set_option maxHeartbeats 1000000 in
theorem calc_product.w00lo (a b x y hi lo : Int) (w : World) (hx : calc_size.f a = some x) (hy : calc_size.f b = some y) (hm : bits_Mul64.f x y = some (hi, lo)) (l0 : 0 ≤ lo) (l1 : lo < 18446744073709551616) (h1 : ¬ a < 0) (h2 : ¬ b < 0) (hz : hi = 0) (hl : ¬ lo ≤ 9223372036854775807) :
    Calls Try.prog 61 #[.int .i64 a, .int .i64 b] w fun e w' => e = PErr 40 ∧ Drawn0 w w' := by
  have b1 : decide (a < 0) = false := decide_eq_false h1
  have b2 : decide (b < 0) = false := decide_eq_false h2
  have b3 : (hi == 0) = true := beq_iff_eq.mpr hz
  have b4 : decide (lo ≤ 9223372036854775807) = false := decide_eq_false hl
  clear h1 h2 hz hl
  go_enter Try.func61, Try.ntmps61
  go_wp2_with (first | (go_at_call 70; (with_reducible refine (calc_size.calls a x _ hx).mono ?_); rintro e w' ⟨rfl, ⟨nd, rfl⟩⟩) | (go_at_call 70; (with_reducible refine (calc_size.calls b y _ hy).mono ?_); rintro e w' ⟨rfl, ⟨nd, rfl⟩⟩) | (go_at_call 69; (with_reducible refine (bits_Mul64.calls x y hi lo _ hm).mono ?_); rintro e w' ⟨rfl, ⟨nd, rfl⟩⟩) | (go_at_call 30; (with_reducible refine (calc_check.yes 40 _).mono ?_); rintro e w' ⟨rfl, rfl⟩) | (go_at_call 30; (with_reducible refine (calc_check.no 40 _).mono ?_); rintro e w' ⟨rfl, rfl⟩))
  exact ⟨rfl, rfl, by repeat (first | exact Drawn0.refl _ | apply Drawn0.step)⟩
set_option maxHeartbeats 1000000 in
theorem calc_product.w00ok (a b x y hi lo : Int) (w : World) (hx : calc_size.f a = some x) (hy : calc_size.f b = some y) (hm : bits_Mul64.f x y = some (hi, lo)) (l0 : 0 ≤ lo) (l1 : lo < 18446744073709551616) (h1 : ¬ a < 0) (h2 : ¬ b < 0) (hz : hi = 0) (hl : lo ≤ 9223372036854775807) :
    Calls Try.prog 61 #[.int .i64 a, .int .i64 b] w fun e w' => e = .returned (.int .i64 (lo)) ∧ Drawn0 w w' := by
  have b1 : decide (a < 0) = false := decide_eq_false h1
  have b2 : decide (b < 0) = false := decide_eq_false h2
  have b3 : (hi == 0) = true := beq_iff_eq.mpr hz
  have b4 : decide (lo ≤ 9223372036854775807) = true := decide_eq_true hl
  have b5 : wrap64 lo = lo := by unfold wrap64; omega
  clear h1 h2 hz hl
  go_enter Try.func61, Try.ntmps61
  go_wp2_with (first | (go_at_call 70; (with_reducible refine (calc_size.calls a x _ hx).mono ?_); rintro e w' ⟨rfl, ⟨nd, rfl⟩⟩) | (go_at_call 70; (with_reducible refine (calc_size.calls b y _ hy).mono ?_); rintro e w' ⟨rfl, ⟨nd, rfl⟩⟩) | (go_at_call 69; (with_reducible refine (bits_Mul64.calls x y hi lo _ hm).mono ?_); rintro e w' ⟨rfl, ⟨nd, rfl⟩⟩) | (go_at_call 30; (with_reducible refine (calc_check.yes 40 _).mono ?_); rintro e w' ⟨rfl, rfl⟩) | (go_at_call 30; (with_reducible refine (calc_check.no 40 _).mono ?_); rintro e w' ⟨rfl, rfl⟩))
  go_ret
  exact ⟨by first | rfl | (simp; done) | (simp [*]; done), by repeat (first | exact Drawn0.refl _ | apply Drawn0.step)⟩
theorem calc_product.calls (a b : Int) (ha : In64 a) (hb : In64 b) (w : World) : Calls Try.prog 61 #[.int .i64 a, .int .i64 b] w fun e w' => NE (prodP a b) e ∧ Drawn0 w w' := by
  have hx := size_nat ha
  have hy := size_nat hb
  have xa : a.natAbs < 18446744073709551616 := by unfold In64 at ha; omega
  have xb : b.natAbs < 18446744073709551616 := by unfold In64 at hb; omega
  have hm := mul64_is a.natAbs b.natAbs xa xb
  obtain ⟨hneg, hpos⟩ := natAbs_mul_sign a b
  obtain ⟨P, hP⟩ : ∃ P : Nat, a.natAbs * b.natAbs = P := ⟨_, rfl⟩
  rw [hP] at hm hneg hpos
  have l0 : (0 : Int) ≤ ((P % 18446744073709551616 : Nat) : Int) := by omega
  have l1 : ((P % 18446744073709551616 : Nat) : Int) < 18446744073709551616 := by omega
  have er : ∀ {e : Ending} {w' : World}, ¬ In64 (a * b) → e = PErr 40 ∧ Drawn0 w w' → NE (prodP a b) e ∧ Drawn0 w w' := fun hn h => ⟨by unfold prodP; rw [if_neg hn]; exact h.1, h.2⟩
  have ok : ∀ {e : Ending} {w' : World} {n : Int}, In64 (a * b) → n = a * b → e = .returned (.int .i64 n) ∧ Drawn0 w w' → NE (prodP a b) e ∧ Drawn0 w w' := fun hn hq h => ⟨by unfold prodP; rw [if_pos hn, ← hq]; exact h.1, h.2⟩
  by_cases h1 : a < 0 <;> by_cases h2 : b < 0
  · have he := (hpos (by simp [h1, h2]))
    by_cases hz : ((P / 18446744073709551616 : Nat) : Int) = 0
    · by_cases hl : ((P % 18446744073709551616 : Nat) : Int) ≤ 9223372036854775807
      · exact (calc_product.w11ok a b _ _ _ _ w hx hy hm l0 l1 h1 h2 hz hl).mono fun e w' h => ok (by unfold In64; omega) (by omega) h
      · exact (calc_product.w11lo a b _ _ _ _ w hx hy hm l0 l1 h1 h2 hz hl).mono fun e w' h => er (by unfold In64; omega) h
    · exact (calc_product.w11hi a b _ _ _ _ w hx hy hm l0 l1 h1 h2 hz).mono fun e w' h => er (by unfold In64; omega) h
  · have he := (hneg (by simp [h1, h2]))
    by_cases hz : ((P / 18446744073709551616 : Nat) : Int) = 0
    · by_cases hl : ((P % 18446744073709551616 : Nat) : Int) ≤ 9223372036854775808
      · exact (calc_product.w10ok a b _ _ _ _ w hx hy hm l0 l1 h1 h2 hz hl).mono fun e w' h => ok (by unfold In64; omega) (by omega) h
      · exact (calc_product.w10lo a b _ _ _ _ w hx hy hm l0 l1 h1 h2 hz hl).mono fun e w' h => er (by unfold In64; omega) h
    · exact (calc_product.w10hi a b _ _ _ _ w hx hy hm l0 l1 h1 h2 hz).mono fun e w' h => er (by unfold In64; omega) h
  · have he := (hneg (by simp [h1, h2]))
    by_cases hz : ((P / 18446744073709551616 : Nat) : Int) = 0
    · by_cases hl : ((P % 18446744073709551616 : Nat) : Int) ≤ 9223372036854775808
      · exact (calc_product.w01ok a b _ _ _ _ w hx hy hm l0 l1 h1 h2 hz hl).mono fun e w' h => ok (by unfold In64; omega) (by omega) h
      · exact (calc_product.w01lo a b _ _ _ _ w hx hy hm l0 l1 h1 h2 hz hl).mono fun e w' h => er (by unfold In64; omega) h
    · exact (calc_product.w01hi a b _ _ _ _ w hx hy hm l0 l1 h1 h2 hz).mono fun e w' h => er (by unfold In64; omega) h
  · have he := (hpos (by simp [h1, h2]))
    by_cases hz : ((P / 18446744073709551616 : Nat) : Int) = 0
    · by_cases hl : ((P % 18446744073709551616 : Nat) : Int) ≤ 9223372036854775807
      · exact (calc_product.w00ok a b _ _ _ _ w hx hy hm l0 l1 h1 h2 hz hl).mono fun e w' h => ok (by unfold In64; omega) (by omega) h
      · exact (calc_product.w00lo a b _ _ _ _ w hx hy hm l0 l1 h1 h2 hz hl).mono fun e w' h => er (by unfold In64; omega) h
    · exact (calc_product.w00hi a b _ _ _ _ w hx hy hm l0 l1 h1 h2 hz).mono fun e w' h => er (by unfold In64; omega) h
theorem quo_in {a b : Int} (ha : In64 a) (hb : In64 b) (hz : ¬ b = 0) (h : ¬ (a = -9223372036854775808 ∧ b = -1)) : wrap64 (Int.tdiv a b) = Int.tdiv a b := by
  unfold In64 at ha hb
  have h1 : (Int.tdiv a b).natAbs = a.natAbs / b.natAbs := by rw [Int.natAbs_tdiv]; rfl
  have h2 : a.natAbs / b.natAbs ≤ a.natAbs := Nat.div_le_self _ _
  by_cases e : a = -9223372036854775808
  · by_cases e1 : b = 1
    · subst e1
      rw [Int.tdiv_one]
      unfold wrap64
      omega
    have h3 : 2 ≤ b.natAbs := by omega
    have h4 : a.natAbs / b.natAbs ≤ a.natAbs / 2 := Nat.div_le_div_left h3 (by decide)
    unfold wrap64
    omega
  · unfold wrap64
    omega
set_option maxHeartbeats 1000000 in
theorem calc_sum.add (op a b : Int) (w : World) (ho : op = 11) (ha : In64 a) (hb : In64 b) (h : In64 (a + b)) :
    Calls Try.prog 46 #[.int .i64 op, .int .i64 a, .int .i64 b] w fun e w' => e = .returned (.int .i64 (a + b)) ∧ Drawn0 w w' := by
  have o11 : (op == 11) = true := beq_iff_eq.mpr ho
  have d0 : decide (0 ≤ Go.bits .and .i64 (Go.bits .xor .i64 a (wrap64 (a + b))) (Go.bits .xor .i64 b (wrap64 (a + b)))) = true := decide_eq_true ((add_over ha hb).2 h)
  have hq : wrap64 (a + b) = a + b := by unfold In64 at h; unfold wrap64; omega
  obtain ⟨s, hs⟩ : ∃ s, wrap64 (a + b) = s := ⟨_, rfl⟩
  rw [hs] at d0 hq
  rw [← hq]
  clear ho ha hb h hq
  go_enter Try.func46, Try.ntmps46
  go_wp2_with (first | (go_at_call 30; (with_reducible refine (calc_check.yes _ _).mono ?_); rintro e w' ⟨rfl, rfl⟩) | (go_at_call 30; (with_reducible refine (calc_check.no _ _).mono ?_); rintro e w' ⟨rfl, rfl⟩))
  go_ret
  exact ⟨by first | rfl | (simp [*]; done), by repeat (first | exact Drawn0.refl _ | apply Drawn0.step)⟩
set_option maxHeartbeats 1000000 in
theorem calc_sum.addo (op a b : Int) (w : World) (ho : op = 11) (ha : In64 a) (hb : In64 b) (h : ¬ In64 (a + b)) :
    Calls Try.prog 46 #[.int .i64 op, .int .i64 a, .int .i64 b] w fun e w' => e = PErr 40 ∧ Drawn0 w w' := by
  have o11 : (op == 11) = true := beq_iff_eq.mpr ho
  have d0 : decide (0 ≤ Go.bits .and .i64 (Go.bits .xor .i64 a (wrap64 (a + b))) (Go.bits .xor .i64 b (wrap64 (a + b)))) = false := decide_eq_false (fun q => h ((add_over ha hb).1 q))
  obtain ⟨s, hs⟩ : ∃ s, wrap64 (a + b) = s := ⟨_, rfl⟩
  rw [hs] at d0
  clear ho ha hb h
  go_enter Try.func46, Try.ntmps46
  go_wp2_with (first | (go_at_call 30; (with_reducible refine (calc_check.yes _ _).mono ?_); rintro e w' ⟨rfl, rfl⟩) | (go_at_call 30; (with_reducible refine (calc_check.no _ _).mono ?_); rintro e w' ⟨rfl, rfl⟩))
  exact ⟨rfl, rfl, by repeat (first | exact Drawn0.refl _ | apply Drawn0.step)⟩
set_option maxHeartbeats 1000000 in
theorem calc_sum.sub (op a b : Int) (w : World) (ho : op = 12) (ha : In64 a) (hb : In64 b) (h : In64 (a - b)) :
    Calls Try.prog 46 #[.int .i64 op, .int .i64 a, .int .i64 b] w fun e w' => e = .returned (.int .i64 (a - b)) ∧ Drawn0 w w' := by
  have o11 : (op == 11) = false := beq_eq_false_iff_ne.mpr (by omega)
  have o12 : (op == 12) = true := beq_iff_eq.mpr ho
  have d0 : decide (0 ≤ Go.bits .and .i64 (Go.bits .xor .i64 a b) (Go.bits .xor .i64 a (wrap64 (a - b)))) = true := decide_eq_true ((sub_over ha hb).2 h)
  have hq : wrap64 (a - b) = a - b := by unfold In64 at h; unfold wrap64; omega
  obtain ⟨s, hs⟩ : ∃ s, wrap64 (a - b) = s := ⟨_, rfl⟩
  rw [hs] at d0 hq
  rw [← hq]
  clear ho ha hb h hq
  go_enter Try.func46, Try.ntmps46
  go_wp2_with (first | (go_at_call 30; (with_reducible refine (calc_check.yes _ _).mono ?_); rintro e w' ⟨rfl, rfl⟩) | (go_at_call 30; (with_reducible refine (calc_check.no _ _).mono ?_); rintro e w' ⟨rfl, rfl⟩))
  go_ret
  exact ⟨by first | rfl | (simp [*]; done), by repeat (first | exact Drawn0.refl _ | apply Drawn0.step)⟩
set_option maxHeartbeats 1000000 in
theorem calc_sum.subo (op a b : Int) (w : World) (ho : op = 12) (ha : In64 a) (hb : In64 b) (h : ¬ In64 (a - b)) :
    Calls Try.prog 46 #[.int .i64 op, .int .i64 a, .int .i64 b] w fun e w' => e = PErr 40 ∧ Drawn0 w w' := by
  have o11 : (op == 11) = false := beq_eq_false_iff_ne.mpr (by omega)
  have o12 : (op == 12) = true := beq_iff_eq.mpr ho
  have d0 : decide (0 ≤ Go.bits .and .i64 (Go.bits .xor .i64 a b) (Go.bits .xor .i64 a (wrap64 (a - b)))) = false := decide_eq_false (fun q => h ((sub_over ha hb).1 q))
  obtain ⟨s, hs⟩ : ∃ s, wrap64 (a - b) = s := ⟨_, rfl⟩
  rw [hs] at d0
  clear ho ha hb h
  go_enter Try.func46, Try.ntmps46
  go_wp2_with (first | (go_at_call 30; (with_reducible refine (calc_check.yes _ _).mono ?_); rintro e w' ⟨rfl, rfl⟩) | (go_at_call 30; (with_reducible refine (calc_check.no _ _).mono ?_); rintro e w' ⟨rfl, rfl⟩))
  exact ⟨rfl, rfl, by repeat (first | exact Drawn0.refl _ | apply Drawn0.step)⟩
set_option maxHeartbeats 1000000 in
theorem calc_sum.mul (op a b : Int) (w : World) (ho : op = 13) (ha : In64 a) (hb : In64 b) :
    Calls Try.prog 46 #[.int .i64 op, .int .i64 a, .int .i64 b] w fun e w' => NE (prodP a b) e ∧ Drawn0 w w' := by
  have o11 : (op == 11) = false := beq_eq_false_iff_ne.mpr (by omega)
  have o12 : (op == 12) = false := beq_eq_false_iff_ne.mpr (by omega)
  have o13 : (op == 13) = true := beq_iff_eq.mpr ho
  have HA := Aside0.mk ha
  have HB := Aside0.mk hb
  clear ho ha hb
  cases hp : prodP a b with
  | ok v =>
    have HP := Aside0.mk hp
    clear hp
    go_enter Try.func46, Try.ntmps46
    go_wp2_with fail
    refine (calc_product.calls a b HA.out HB.out _).mono ?_
    rintro e w' ⟨h, ⟨nd, rfl⟩⟩
    rw [HP.out] at h
    obtain rfl : e = .returned (.int .i64 v) := h
    go_wp2_with fail
    go_ret
    exact ⟨rfl, by repeat (first | exact Drawn0.refl _ | apply Drawn0.step)⟩
  | error c =>
    have HP := Aside0.mk hp
    clear hp
    go_enter Try.func46, Try.ntmps46
    go_wp2_with fail
    refine (calc_product.calls a b HA.out HB.out _).mono ?_
    rintro e w' ⟨h, ⟨nd, rfl⟩⟩
    rw [HP.out] at h
    obtain rfl : e = .panicked [{ v := .iface 26 (.int .i64 c), recovered := false }] := h
    go_wp2_with fail
    exact ⟨rfl, rfl, by repeat (first | exact Drawn0.refl _ | apply Drawn0.step)⟩
set_option maxHeartbeats 1000000 in
theorem calc_sum.zero (op a b : Int) (w : World) (h11 : ¬ op = 11) (h12 : ¬ op = 12) (h13 : ¬ op = 13) (hb : b = 0) :
    Calls Try.prog 46 #[.int .i64 op, .int .i64 a, .int .i64 b] w fun e w' => e = PErr 41 ∧ Drawn0 w w' := by
  have o11 : (op == 11) = false := beq_eq_false_iff_ne.mpr h11
  have o12 : (op == 12) = false := beq_eq_false_iff_ne.mpr h12
  have o13 : (op == 13) = false := beq_eq_false_iff_ne.mpr h13
  have z : (b != 0) = false := bne_eq_false_iff_eq.mpr hb
  clear h11 h12 h13 hb
  go_enter Try.func46, Try.ntmps46
  go_wp2_with (first | (go_at_call 30; (with_reducible refine (calc_check.yes _ _).mono ?_); rintro e w' ⟨rfl, rfl⟩) | (go_at_call 30; (with_reducible refine (calc_check.no _ _).mono ?_); rintro e w' ⟨rfl, rfl⟩))
  exact ⟨rfl, rfl, by repeat (first | exact Drawn0.refl _ | apply Drawn0.step)⟩
set_option maxHeartbeats 1000000 in
theorem calc_sum.rem1 (op a b : Int) (w : World) (h11 : ¬ op = 11) (h12 : ¬ op = 12) (h13 : ¬ op = 13) (ho : op = 15) (hz : ¬ b = 0) (hb : b = -1) :
    Calls Try.prog 46 #[.int .i64 op, .int .i64 a, .int .i64 b] w fun e w' => e = .returned (.int .i64 0) ∧ Drawn0 w w' := by
  have o11 : (op == 11) = false := beq_eq_false_iff_ne.mpr h11
  have o12 : (op == 12) = false := beq_eq_false_iff_ne.mpr h12
  have o13 : (op == 13) = false := beq_eq_false_iff_ne.mpr h13
  have o15 : (op == 15) = true := beq_iff_eq.mpr ho
  have z : (b != 0) = true := bne_iff_ne.mpr hz
  have z1 : (b == 0) = false := beq_eq_false_iff_ne.mpr hz
  have m : (b == -1) = true := beq_iff_eq.mpr hb
  clear h11 h12 h13 ho hz hb
  go_enter Try.func46, Try.ntmps46
  go_wp2_with (first | (go_at_call 30; (with_reducible refine (calc_check.yes _ _).mono ?_); rintro e w' ⟨rfl, rfl⟩) | (go_at_call 30; (with_reducible refine (calc_check.no _ _).mono ?_); rintro e w' ⟨rfl, rfl⟩))
  go_ret
  exact ⟨by first | rfl | (simp [*]; done), by repeat (first | exact Drawn0.refl _ | apply Drawn0.step)⟩
set_option maxHeartbeats 1000000 in
theorem calc_sum.rem (op a b : Int) (w : World) (h11 : ¬ op = 11) (h12 : ¬ op = 12) (h13 : ¬ op = 13) (ho : op = 15) (hz : ¬ b = 0) (hb : ¬ b = -1) :
    Calls Try.prog 46 #[.int .i64 op, .int .i64 a, .int .i64 b] w fun e w' => e = .returned (.int .i64 (Int.tmod a b)) ∧ Drawn0 w w' := by
  have o11 : (op == 11) = false := beq_eq_false_iff_ne.mpr h11
  have o12 : (op == 12) = false := beq_eq_false_iff_ne.mpr h12
  have o13 : (op == 13) = false := beq_eq_false_iff_ne.mpr h13
  have o15 : (op == 15) = true := beq_iff_eq.mpr ho
  have z : (b != 0) = true := bne_iff_ne.mpr hz
  have z1 : (b == 0) = false := beq_eq_false_iff_ne.mpr hz
  have m : (b == -1) = false := beq_eq_false_iff_ne.mpr hb
  clear h11 h12 h13 ho
  go_enter Try.func46, Try.ntmps46
  go_wp2_with (first | (go_at_call 30; (with_reducible refine (calc_check.yes _ _).mono ?_); rintro e w' ⟨rfl, rfl⟩) | (go_at_call 30; (with_reducible refine (calc_check.no _ _).mono ?_); rintro e w' ⟨rfl, rfl⟩))
  go_ret
  exact ⟨by first | rfl | (simp [*]; done), by repeat (first | exact Drawn0.refl _ | apply Drawn0.step)⟩
set_option maxHeartbeats 1000000 in
theorem calc_sum.quo_over (op a b : Int) (w : World) (h11 : ¬ op = 11) (h12 : ¬ op = 12) (h13 : ¬ op = 13) (ho : ¬ op = 15) (hz : ¬ b = 0) (hb : b = -1) (ha : a = -9223372036854775808) :
    Calls Try.prog 46 #[.int .i64 op, .int .i64 a, .int .i64 b] w fun e w' => e = PErr 40 ∧ Drawn0 w w' := by
  have o11 : (op == 11) = false := beq_eq_false_iff_ne.mpr h11
  have o12 : (op == 12) = false := beq_eq_false_iff_ne.mpr h12
  have o13 : (op == 13) = false := beq_eq_false_iff_ne.mpr h13
  have o15 : (op == 15) = false := beq_eq_false_iff_ne.mpr ho
  have z : (b != 0) = true := bne_iff_ne.mpr hz
  have z1 : (b == 0) = false := beq_eq_false_iff_ne.mpr hz
  have m : (b != -1) = false := bne_eq_false_iff_eq.mpr hb
  have q : (a != -9223372036854775808) = false := bne_eq_false_iff_eq.mpr ha
  clear h11 h12 h13 ho hz hb ha
  go_enter Try.func46, Try.ntmps46
  go_wp2_with (first | (go_at_call 30; (with_reducible refine (calc_check.yes _ _).mono ?_); rintro e w' ⟨rfl, rfl⟩) | (go_at_call 30; (with_reducible refine (calc_check.no _ _).mono ?_); rintro e w' ⟨rfl, rfl⟩))
  exact ⟨rfl, rfl, by repeat (first | exact Drawn0.refl _ | apply Drawn0.step)⟩
set_option maxHeartbeats 1000000 in
theorem calc_sum.quo_a (op a b : Int) (w : World) (h11 : ¬ op = 11) (h12 : ¬ op = 12) (h13 : ¬ op = 13) (ho : ¬ op = 15) (hz : ¬ b = 0) (ha : ¬ a = -9223372036854775808) (hia : In64 a) (hib : In64 b) :
    Calls Try.prog 46 #[.int .i64 op, .int .i64 a, .int .i64 b] w fun e w' => e = .returned (.int .i64 (Int.tdiv a b)) ∧ Drawn0 w w' := by
  have o11 : (op == 11) = false := beq_eq_false_iff_ne.mpr h11
  have o12 : (op == 12) = false := beq_eq_false_iff_ne.mpr h12
  have o13 : (op == 13) = false := beq_eq_false_iff_ne.mpr h13
  have o15 : (op == 15) = false := beq_eq_false_iff_ne.mpr ho
  have z : (b != 0) = true := bne_iff_ne.mpr hz
  have z1 : (b == 0) = false := beq_eq_false_iff_ne.mpr hz
  have q : (a != -9223372036854775808) = true := bne_iff_ne.mpr ha
  have hw : wrap64 (Int.tdiv a b) = Int.tdiv a b := quo_in hia hib hz (fun h => ha h.1)
  clear h11 h12 h13 ho ha hia hib
  go_enter Try.func46, Try.ntmps46
  go_wp2_with (first | (go_at_call 30; (with_reducible refine (calc_check.yes _ _).mono ?_); rintro e w' ⟨rfl, rfl⟩) | (go_at_call 30; (with_reducible refine (calc_check.no _ _).mono ?_); rintro e w' ⟨rfl, rfl⟩))
  go_ret
  exact ⟨by first | rfl | (simp [*]; done), by repeat (first | exact Drawn0.refl _ | apply Drawn0.step)⟩
set_option maxHeartbeats 1000000 in
theorem calc_sum.quo_b (op a b : Int) (w : World) (h11 : ¬ op = 11) (h12 : ¬ op = 12) (h13 : ¬ op = 13) (ho : ¬ op = 15) (hz : ¬ b = 0) (ha : a = -9223372036854775808) (hb : ¬ b = -1) (hia : In64 a) (hib : In64 b) :
    Calls Try.prog 46 #[.int .i64 op, .int .i64 a, .int .i64 b] w fun e w' => e = .returned (.int .i64 (Int.tdiv a b)) ∧ Drawn0 w w' := by
  have o11 : (op == 11) = false := beq_eq_false_iff_ne.mpr h11
  have o12 : (op == 12) = false := beq_eq_false_iff_ne.mpr h12
  have o13 : (op == 13) = false := beq_eq_false_iff_ne.mpr h13
  have o15 : (op == 15) = false := beq_eq_false_iff_ne.mpr ho
  have z : (b != 0) = true := bne_iff_ne.mpr hz
  have z1 : (b == 0) = false := beq_eq_false_iff_ne.mpr hz
  have q : (a != -9223372036854775808) = false := bne_eq_false_iff_eq.mpr ha
  have m : (b != -1) = true := bne_iff_ne.mpr hb
  have hw : wrap64 (Int.tdiv a b) = Int.tdiv a b := quo_in hia hib hz (fun h => hb h.2)
  clear h11 h12 h13 ho ha hb hia hib
  go_enter Try.func46, Try.ntmps46
  go_wp2_with (first | (go_at_call 30; (with_reducible refine (calc_check.yes _ _).mono ?_); rintro e w' ⟨rfl, rfl⟩) | (go_at_call 30; (with_reducible refine (calc_check.no _ _).mono ?_); rintro e w' ⟨rfl, rfl⟩))
  go_ret
  exact ⟨by first | rfl | (simp [*]; done), by repeat (first | exact Drawn0.refl _ | apply Drawn0.step)⟩
theorem calc_sum.calls (op a b : Int) (ha : In64 a) (hb : In64 b) (w : World) : Calls Try.prog 46 #[.int .i64 op, .int .i64 a, .int .i64 b] w fun e w' => NE (sumP op a b) e ∧ Drawn0 w w' := by
  unfold sumP
  by_cases h11 : op = 11
  · rw [if_pos h11]
    by_cases h : In64 (a + b)
    · rw [if_pos h]; exact calc_sum.add op a b w h11 ha hb h
    · rw [if_neg h]; exact calc_sum.addo op a b w h11 ha hb h
  rw [if_neg h11]
  by_cases h12 : op = 12
  · rw [if_pos h12]
    by_cases h : In64 (a - b)
    · rw [if_pos h]; exact calc_sum.sub op a b w h12 ha hb h
    · rw [if_neg h]; exact calc_sum.subo op a b w h12 ha hb h
  rw [if_neg h12]
  by_cases h13 : op = 13
  · rw [if_pos h13]; exact calc_sum.mul op a b w h13 ha hb
  rw [if_neg h13]
  by_cases hz : b = 0
  · rw [if_pos hz]; exact calc_sum.zero op a b w h11 h12 h13 hz
  rw [if_neg hz]
  by_cases h15 : op = 15
  · rw [if_pos h15]
    by_cases h1 : b = -1
    · rw [if_pos h1]; exact calc_sum.rem1 op a b w h11 h12 h13 h15 hz h1
    · rw [if_neg h1]; exact calc_sum.rem op a b w h11 h12 h13 h15 hz h1
  rw [if_neg h15]
  by_cases e1 : a = -9223372036854775808
  · by_cases e2 : b = -1
    · rw [if_pos ⟨e1, e2⟩]; exact calc_sum.quo_over op a b w h11 h12 h13 h15 hz e2 e1
    · rw [if_neg (fun h => e2 h.2)]; exact calc_sum.quo_b op a b w h11 h12 h13 h15 hz e1 e2 ha hb
  · rw [if_neg (fun h => e1 h.1)]; exact calc_sum.quo_a op a b w h11 h12 h13 h15 hz e1 ha hb
end Go.Proofs.Ytfbeklbjlkgbnaa.P
