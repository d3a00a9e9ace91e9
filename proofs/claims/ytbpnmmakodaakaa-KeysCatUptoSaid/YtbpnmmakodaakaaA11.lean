-- Laid by a program of this session (its own copy of a print, with functions proved by hand): checked by Lean.
import Derived.Test.YtbpnmmakodaakaaP0
import Derived.Test.YtbpnmmakodaakaaP1
import Derived.Test.YtbpnmmakodaakaaF1
namespace Go.Proofs.Ytbpnmmakodaakaa.P
open Go.RowKit Go.Proofs.YtbpnmmakodaakaaW.PrintWords Go.Proofs.YtbpnmmakodaakaaW.PrintLast Go.Proofs.YtbpnmmakodaakaaW.PrintMore
attribute [local go_sem] max2_int min2_int max_two min_two max_three min_three max_four min_four   -- for this text's walks alone
set_option linter.unusedVariables false
set_option linter.unusedSimpArgs false

/-! ### quarrylaw03_order: function 19 -/
def quarrylaw03_order.f (l0 : List Int) (l1 : List Int) : Option (Int) := if (Op.bytesLess ((strOfNums l0).toList) ((strOfNums l1).toList)) = true then (some (-1)) else (if ((strOfNums l0).toList == (strOfNums l1).toList) = true then (some 0) else (some 1))
set_option maxHeartbeats 8000000 in
set_option maxRecDepth 100000 in
theorem quarrylaw03_order.calls (A0 : Option Addr) (c0 : Nat) (l0 : List Int) (A1 : Option Addr) (c1 : Nat) (l1 : List Int) (r : Int) (w : World) (hr0 : Kd.C (Kd.int .u8) w A0 l0.length l0) (hc0 : l0.length ≤ c0) (hr1 : Kd.C (Kd.int .u8) w A1 l1.length l1) (hc1 : l1.length ≤ c1) (h : quarrylaw03_order.f l0 l1 = some r) :
    Calls Try.prog 19 #[.slice A0 l0.length c0, .slice A1 l1.length c1] w fun e w' => e = .returned (.int .i64 r) ∧ Drawn0 w w' := by
  unfold quarrylaw03_order.f at h
  have hcv4 := Kd.C_string (P := Try.prog) (A := A0) (c := c0) Try.underlying24 Try.underlying5 Try.underlying9 hr0
  have hcv5 := Kd.C_string (P := Try.prog) (A := A1) (c := c1) Try.underlying24 Try.underlying5 Try.underlying9 hr1
  clear hr0 hc0 hr1 hc1
  by_cases c3 : (Op.bytesLess ((strOfNums l0).toList) ((strOfNums l1).toList)) = true
  · rw [if_pos c3] at h
    have c3b0 : (Op.bytesLess ((strOfNums l0).toList) ((strOfNums l1).toList)) = true := c3
    clear c3
    obtain rfl := Option.some.inj h
    clear h
    go_enter Try.func19, Try.ntmps19
    go_wp2
    go_ret
    exact ⟨rfl, by repeat (first | exact Drawn0.refl _ | apply Drawn0.step)⟩
  · rw [if_neg c3] at h
    have c3b0 : (Op.bytesLess ((strOfNums l0).toList) ((strOfNums l1).toList)) = false := by simpa using c3
    clear c3
    by_cases c6 : ((strOfNums l0).toList == (strOfNums l1).toList) = true
    · rw [if_pos c6] at h
      have c6b1 : ((strOfNums l0).toList != (strOfNums l1).toList) = false := by rw [bne, c6]; rfl
      obtain rfl := Option.some.inj h
      clear h
      go_enter Try.func19, Try.ntmps19
      go_wp2
      go_ret
      exact ⟨rfl, by repeat (first | exact Drawn0.refl _ | apply Drawn0.step)⟩
    · rw [if_neg c6] at h
      have c6b0 : ((strOfNums l0).toList == (strOfNums l1).toList) = false := by simpa using c6
      have c6b1 : ((strOfNums l0).toList != (strOfNums l1).toList) = true := by rw [bne, c6b0]; rfl
      clear c6
      obtain rfl := Option.some.inj h
      clear h
      go_enter Try.func19, Try.ntmps19
      go_wp2
      go_ret
      exact ⟨rfl, by repeat (first | exact Drawn0.refl _ | apply Drawn0.step)⟩

end Go.Proofs.Ytbpnmmakodaakaa.P
