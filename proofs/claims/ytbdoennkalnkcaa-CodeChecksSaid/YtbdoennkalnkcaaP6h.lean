-- Laid by a program of this session (its own copy of a print, with functions proved by hand): checked by Lean.
import Derived.Test.YtbdoennkalnkcaaP0
import Derived.Test.YtbdoennkalnkcaaP1
import Derived.Test.YtbdoennkalnkcaaP5
namespace Go.Proofs.Ytbdoennkalnkcaa.P
open Go.RowKit Go.Proofs.YtbdoennkalnkcaaW.PrintWords Go.Proofs.YtbdoennkalnkcaaW.PrintLast Go.Proofs.YtbdoennkalnkcaaW.PrintMore
attribute [local go_sem] max2_int min2_int max_two min_two max_three min_three max_four min_four   -- for this text's walks alone
set_option linter.unusedVariables false
set_option linter.unusedSimpArgs false

/-! ### quarryref20_right: function 21 -/
def eqI (x0 x1 x2 x3 x4 x5 x6 : Int) (x7 : ByteArray) (y0 y1 y2 y3 y4 y5 y6 : Int) (y7 : ByteArray) : Bool := (x0 == y0 && (x1 == y1 && (x2 == y2 && (x3 == y3 && (x4 == y4 && ((x5 == y5 && (x6 == y6 && (x7.toList == y7.toList)))))))))
theorem eqI_run (d : Nat) (w : World) (x0 y0 : Int) (x1 y1 : Int) (x2 y2 : Int) (x3 y3 : Int) (x4 y4 : Int) (x5 y5 : Int) (x6 y6 : Int) (x7 y7 : ByteArray) :
    (Op.equalIn (d + 3) 49 (.agg #[.int .i64 x0, .int .i64 x1, .int .i64 x2, .int .i64 x3, .int .i64 x4, .int .i64 x5, .int .i64 x6, .string x7]) (.agg #[.int .i64 y0, .int .i64 y1, .int .i64 y2, .int .i64 y3, .int .i64 y4, .int .i64 y5, .int .i64 y6, .string y7])).run Try.prog w = .ok (eqI x0 x1 x2 x3 x4 x5 x6 x7 y0 y1 y2 y3 y4 y5 y6 y7) w := by
  refine eqA_of Try.underlying49 (by kernel_rfl) ?_
  refine eqf_cons (by rfl) (by go_simp; rfl) (by go_simp; rfl) (by go_simp) ?_
  refine eqf_cons (by rfl) (by go_simp; rfl) (by go_simp; rfl) (by go_simp) ?_
  refine eqf_cons (by rfl) (by go_simp; rfl) (by go_simp; rfl) (by go_simp) ?_
  refine eqf_cons (by rfl) (by go_simp; rfl) (by go_simp; rfl) (by go_simp) ?_
  refine eqf_cons (by rfl) (by go_simp; rfl) (by go_simp; rfl) (by go_simp) ?_
  exact eqf_last (by rfl) (by go_simp) (by go_simp) (eqA30 (d + 0) w _ _ _ _ _ _)
attribute [local go_sem high] eqI_run
def regI (n : Int) : Bool := decide (0 ≤ n ∧ n < 64)
theorem regI_calls (n : Int) (w : World) : Calls Try.prog 33 #[.int .i64 n] w fun e w' => e = .returned (.bool (regI n)) ∧ w' = w := by
  by_cases h0 : 0 ≤ n
  · have q0 : decide (0 ≤ n) = true := decide_eq_true h0
    have hr : regI n = decide (n < 64) := by unfold regI; simp [h0]
    rw [hr]
    clear hr h0
    go_enter Try.func33, Try.ntmps33
    go_wp2
    go_ret
    exact ⟨rfl, rfl⟩
  · have q0 : decide (0 ≤ n) = false := decide_eq_false h0
    have hr : regI n = false := by unfold regI; simp [h0]
    rw [hr]
    clear hr h0
    go_enter Try.func33, Try.ntmps33
    go_wp2
    go_ret
    exact ⟨rfl, rfl⟩
def argsI (o : Int) : Int := if o = 1 ∨ o = 2 ∨ o = 3 ∨ o = 4 then 1 else if o = 6 then 2 else if o = 5 then 3 else 0
theorem argsI_calls (n : Int) (w : World) : Calls Try.prog 34 #[.int .i64 n] w fun e w' => e = .returned (.int .i64 (argsI n)) ∧ Drawn0 w w' := by
  have h : quarryref02_Args.f 1 n = some (argsI n) := by
    unfold quarryref02_Args.f argsI
    simp only [quarryref02_Args.j0]
    by_cases h1 : n = 1
    · subst h1; rfl
    by_cases h2 : n = 2
    · subst h2; rfl
    by_cases h3 : n = 3
    · subst h3; rfl
    by_cases h4 : n = 4
    · subst h4; rfl
    have h4' : (n == 4) = false := beq_eq_false_iff_ne.mpr h4
    simp only [h1, h2, h3, h4, or_self, if_false]
    by_cases h6 : n = 6
    · simp [h6]
    · by_cases h5 : n = 5 <;> simp [h4, h5, h6]
  exact quarryref02_Args.calls 1 n _ w h
def rightI (a0_0 : Int) (a0_1 : Int) (a0_2 : Int) (a0_3 : Int) (a0_4 : Int) (a0_5 : Int) (a0_6 : Int) (a0_7 : ByteArray) (a1 : Int) (a2 : Int) : Bool :=
  if a0_0 = 1 then (regI a0_2) && decide (chkR a0_5 a0_6 a0_7 = 0) && eqI 1 a0_1 a0_2 a0_3 a0_4 a0_5 a0_6 a0_7 1 0 a0_2 0 0 a0_5 a0_6 a0_7 else
  if a0_0 = 2 then (regI a0_2) && (decide (0 ≤ a0_3)) && eqI 2 a0_1 a0_2 a0_3 a0_4 a0_5 a0_6 a0_7 2 0 a0_2 a0_3 0 0 0 (⟨#[]⟩ : ByteArray) else
  if a0_0 = 3 then (regI a0_2) && (decide (0 ≤ a0_3)) && eqI 3 a0_1 a0_2 a0_3 a0_4 a0_5 a0_6 a0_7 3 0 a0_2 a0_3 0 0 0 (⟨#[]⟩ : ByteArray) else
  if a0_0 = 4 then (regI a0_2) && (regI a0_3) && (a0_1 == 1 || a0_1 == 2) && eqI 4 a0_1 a0_2 a0_3 a0_4 a0_5 a0_6 a0_7 4 a0_1 a0_2 a0_3 0 0 0 (⟨#[]⟩ : ByteArray) else
  if a0_0 = 5 then (regI a0_2) && (regI a0_3) && (regI a0_4) && (decide (3 ≤ a0_1)) && (decide (a0_1 ≤ 16)) && eqI 5 a0_1 a0_2 a0_3 a0_4 a0_5 a0_6 a0_7 5 a0_1 a0_2 a0_3 a0_4 0 0 (⟨#[]⟩ : ByteArray) else
  if a0_0 = 6 then (regI a0_2) && (regI a0_3) && (decide (0 < argsI a0_1)) && (decide (a0_3 ≤ 64 - argsI a0_1)) && eqI 6 a0_1 a0_2 a0_3 a0_4 a0_5 a0_6 a0_7 6 a0_1 a0_2 a0_3 0 0 0 (⟨#[]⟩ : ByteArray) else
  if a0_0 = 7 then (regI a0_2) && (regI a0_3) && (a0_1 == 0 || a0_1 == 1) && eqI 7 a0_1 a0_2 a0_3 a0_4 a0_5 a0_6 a0_7 7 a0_1 a0_2 a0_3 0 0 0 (⟨#[]⟩ : ByteArray) else
  if a0_0 = 8 then (regI a0_2) && (regI a0_3) && eqI 8 a0_1 a0_2 a0_3 a0_4 a0_5 a0_6 a0_7 8 0 a0_2 a0_3 0 0 0 (⟨#[]⟩ : ByteArray) else
  if a0_0 = 9 then (decide (a1 < a0_3)) && (decide (a0_3 ≤ a2)) && eqI 9 a0_1 a0_2 a0_3 a0_4 a0_5 a0_6 a0_7 9 0 0 a0_3 0 0 0 (⟨#[]⟩ : ByteArray) else
  if a0_0 = 10 then (regI a0_2) && (decide (a1 < a0_3)) && (decide (a0_3 ≤ a2)) && eqI 10 a0_1 a0_2 a0_3 a0_4 a0_5 a0_6 a0_7 10 0 a0_2 a0_3 0 0 0 (⟨#[]⟩ : ByteArray) else
  if a0_0 = 11 then (regI a0_2) && (decide (a1 < a0_3)) && (decide (a0_3 ≤ a2)) && eqI 11 a0_1 a0_2 a0_3 a0_4 a0_5 a0_6 a0_7 11 0 a0_2 a0_3 0 0 0 (⟨#[]⟩ : ByteArray) else
  if a0_0 = 12 then (regI a0_2) && (decide (a1 < a0_3)) && (decide (a0_3 ≤ a2)) && eqI 12 a0_1 a0_2 a0_3 a0_4 a0_5 a0_6 a0_7 12 0 a0_2 a0_3 0 0 0 (⟨#[]⟩ : ByteArray) else
  if a0_0 = 13 then (regI a0_2) && eqI 13 a0_1 a0_2 a0_3 a0_4 a0_5 a0_6 a0_7 13 0 a0_2 0 0 0 0 (⟨#[]⟩ : ByteArray) else
  false
def quarryref20_right.f (a0_0 : Int) (a0_1 : Int) (a0_2 : Int) (a0_3 : Int) (a0_4 : Int) (a0_5 : Int) (a0_6 : Int) (a0_7 : ByteArray) (a1 : Int) (a2 : Int) : Option Bool := some (rightI a0_0 a0_1 a0_2 a0_3 a0_4 a0_5 a0_6 a0_7 a1 a2)
theorem bcellI {W w1 : World} (hb : Below W.heap.size W w1) : (∀ b o, b < W.heap.size → w1.cell? ⟨b, o, none⟩ = W.cell? ⟨b, o, none⟩) ∧ (∀ b o, b < W.heap.size → w1.frozen? ⟨b, o, none⟩ = W.frozen? ⟨b, o, none⟩) :=
  ⟨fun b o h => hb.cell (p := ⟨b, o, none⟩) h, fun b o h => hb.frozen (p := ⟨b, o, none⟩) h⟩
theorem argsI_le (o : Int) : 0 ≤ argsI o ∧ argsI o ≤ 3 := by unfold argsI; split <;> (try split) <;> (try split) <;> omega
end Go.Proofs.Ytbdoennkalnkcaa.P
