/- Laid by a program of this session out of its texts for the law CalcNulls, part 6. -/
import Derived.Test.YtfbeklbjlkgbnaaZCalcNulls5
section
namespace Go.Proofs.Ytfbeklbjlkgbnaa.P
open Go.RowKit Go.Proofs.YtfbeklbjlkgbnaaW.PrintWords Go.Proofs.YtfbeklbjlkgbnaaW.PrintLast Go.Proofs.YtfbeklbjlkgbnaaW.PrintMore
attribute [local go_sem] max2_int min2_int max_two min_two max_three min_three max_four min_four
set_option linter.unusedVariables false
set_option linter.unusedSimpArgs false
attribute [local go_sem high] eqA25
def chkR (a b : Int) (c : ByteArray) : Int :=
  if a = 0 then (if b = 0 ∧ c.toList = [] then 0 else 3)
  else if a = 1 then (if (b = 0 ∨ b = 1) ∧ c.toList = [] then 0 else 3)
  else if a = 2 then (if c.toList = [] then 0 else 3)
  else if a = 3 ∨ a = 4 then (if b = 0 then 0 else 3)
  else 5
def quarryref01_Check.f (a0_0 : Int) (a0_1 : Int) (a0_2 : ByteArray) : Option (Int) := some (chkR a0_0 a0_1 a0_2)
theorem eqR (d : Nat) (w : World) (x0 y0 : Int) (x1 y1 : Int) (x2 y2 : ByteArray) :
    (Op.equalIn (d + 2) 25 (.agg #[.int .i64 x0, .int .i64 x1, .string x2]) (.agg #[.int .i64 y0, .int .i64 y1, .string y2])).run Try.prog w = .ok (x0 == y0 && (x1 == y1 && (x2.toList == y2.toList))) w := by
  refine eqA_of Try.underlying25 (by kernel_rfl) ?_
  refine eqf_cons (by rfl) (by go_simp; rfl) (by go_simp; rfl) (by go_simp) ?_
  refine eqf_cons (by rfl) (by go_simp; rfl) (by go_simp; rfl) (by go_simp) ?_
  exact eqf_last (by rfl) (by go_simp; rfl) (by go_simp; rfl) (by go_simp)
attribute [local go_sem high] eqR
set_option maxHeartbeats 2000000 in
set_option maxRecDepth 100000 in
theorem quarryref01_Check.z1 (a b : Int) (c : ByteArray) (w : World) (ha : a = 0) (hb : b = 0) (he : c.toList = []) :
    Calls Try.prog 27 #[.agg #[.int .i64 a, .int .i64 b, .string c]] w fun e w' => e = .returned (.int .i64 0) ∧ Below w.heap.size w w' := by
  have lo : decide (a < 0) = false := decide_eq_false (by omega)
  have hi : decide (4 < a) = false := decide_eq_false (by omega)
  have hu38 := Try.underlying25
  have k0 : (a == 0) = true := beq_iff_eq.mpr ha
  have b0 : (b == 0) = true := beq_iff_eq.mpr hb
  have b1 : (b == 1) = false := beq_eq_false_iff_ne.mpr (by omega)
  have e0 : c.toList.isEmpty = true := List.isEmpty_iff.2 he
  have e1 : (c.toList == ([] : List UInt8)) = true := beq_iff_eq.mpr he
  have n0 : (b != 0) = false := by rw [bne, b0]; rfl
  have n1 : (b != 1) = true := by rw [bne, b1]; rfl
  have e2 : (c.toList != ([] : List UInt8)) = false := by rw [bne, e1]; rfl
  clear ha hb he
  go_enter Try.func27, Try.ntmps27
  go_wp2
  go_ret
  exact ⟨rfl, by repeat (first | exact Below.refl _ _ | refine Below.setCell ?_ (Nat.le_refl _) _ | refine Below.setCell ?_ (Nat.le_succ _) _ | apply below_alloc)⟩
set_option maxHeartbeats 2000000 in
set_option maxRecDepth 100000 in
theorem quarryref01_Check.z2 (a b : Int) (c : ByteArray) (w : World) (ha : a = 0) (hb : b = 0) (he : ¬ c.toList = []) :
    Calls Try.prog 27 #[.agg #[.int .i64 a, .int .i64 b, .string c]] w fun e w' => e = .returned (.int .i64 3) ∧ Below w.heap.size w w' := by
  have lo : decide (a < 0) = false := decide_eq_false (by omega)
  have hi : decide (4 < a) = false := decide_eq_false (by omega)
  have hu38 := Try.underlying25
  have k0 : (a == 0) = true := beq_iff_eq.mpr ha
  have b0 : (b == 0) = true := beq_iff_eq.mpr hb
  have b1 : (b == 1) = false := beq_eq_false_iff_ne.mpr (by omega)
  have e0 : c.toList.isEmpty = false := by cases h : c.toList with | nil => exact absurd h he | cons => rfl
  have e1 : (c.toList == ([] : List UInt8)) = false := beq_eq_false_iff_ne.mpr he
  have n0 : (b != 0) = false := by rw [bne, b0]; rfl
  have n1 : (b != 1) = true := by rw [bne, b1]; rfl
  have e2 : (c.toList != ([] : List UInt8)) = true := by rw [bne, e1]; rfl
  clear ha hb he
  go_enter Try.func27, Try.ntmps27
  go_wp2
  go_ret
  exact ⟨rfl, by repeat (first | exact Below.refl _ _ | refine Below.setCell ?_ (Nat.le_refl _) _ | refine Below.setCell ?_ (Nat.le_succ _) _ | apply below_alloc)⟩
set_option maxHeartbeats 2000000 in
set_option maxRecDepth 100000 in
theorem quarryref01_Check.z3 (a b : Int) (c : ByteArray) (w : World) (ha : a = 0) (hb : ¬ b = 0) :
    Calls Try.prog 27 #[.agg #[.int .i64 a, .int .i64 b, .string c]] w fun e w' => e = .returned (.int .i64 3) ∧ Below w.heap.size w w' := by
  have lo : decide (a < 0) = false := decide_eq_false (by omega)
  have hi : decide (4 < a) = false := decide_eq_false (by omega)
  have hu38 := Try.underlying25
  have k0 : (a == 0) = true := beq_iff_eq.mpr ha
  have b0 : (b == 0) = false := beq_eq_false_iff_ne.mpr hb
  have n0 : (b != 0) = true := by rw [bne, b0]; rfl
  clear ha hb
  go_enter Try.func27, Try.ntmps27
  go_wp2
  go_ret
  exact ⟨rfl, by repeat (first | exact Below.refl _ _ | refine Below.setCell ?_ (Nat.le_refl _) _ | refine Below.setCell ?_ (Nat.le_succ _) _ | apply below_alloc)⟩
set_option maxHeartbeats 2000000 in
set_option maxRecDepth 100000 in
theorem quarryref01_Check.t1 (a b : Int) (c : ByteArray) (w : World) (ha : a = 1) (hb : b = 1) (he : c.toList = []) :
    Calls Try.prog 27 #[.agg #[.int .i64 a, .int .i64 b, .string c]] w fun e w' => e = .returned (.int .i64 0) ∧ Below w.heap.size w w' := by
  have lo : decide (a < 0) = false := decide_eq_false (by omega)
  have hi : decide (4 < a) = false := decide_eq_false (by omega)
  have hu38 := Try.underlying25
  have k0 : (a == 0) = false := beq_eq_false_iff_ne.mpr (by omega)
  have k1 : (a == 1) = true := beq_iff_eq.mpr ha
  have b0 : (b == 0) = false := beq_eq_false_iff_ne.mpr (by omega)
  have b1 : (b == 1) = true := beq_iff_eq.mpr hb
  have e0 : c.toList.isEmpty = true := List.isEmpty_iff.2 he
  have e1 : (c.toList == ([] : List UInt8)) = true := beq_iff_eq.mpr he
  have n0 : (b != 0) = true := by rw [bne, b0]; rfl
  have n1 : (b != 1) = false := by rw [bne, b1]; rfl
  have e2 : (c.toList != ([] : List UInt8)) = false := by rw [bne, e1]; rfl
  clear ha hb he
  go_enter Try.func27, Try.ntmps27
  go_wp2
  go_ret
  exact ⟨rfl, by repeat (first | exact Below.refl _ _ | refine Below.setCell ?_ (Nat.le_refl _) _ | refine Below.setCell ?_ (Nat.le_succ _) _ | apply below_alloc)⟩
set_option maxHeartbeats 2000000 in
set_option maxRecDepth 100000 in
theorem quarryref01_Check.t2 (a b : Int) (c : ByteArray) (w : World) (ha : a = 1) (hb : b = 1) (he : ¬ c.toList = []) :
    Calls Try.prog 27 #[.agg #[.int .i64 a, .int .i64 b, .string c]] w fun e w' => e = .returned (.int .i64 3) ∧ Below w.heap.size w w' := by
  have lo : decide (a < 0) = false := decide_eq_false (by omega)
  have hi : decide (4 < a) = false := decide_eq_false (by omega)
  have hu38 := Try.underlying25
  have k0 : (a == 0) = false := beq_eq_false_iff_ne.mpr (by omega)
  have k1 : (a == 1) = true := beq_iff_eq.mpr ha
  have b0 : (b == 0) = false := beq_eq_false_iff_ne.mpr (by omega)
  have b1 : (b == 1) = true := beq_iff_eq.mpr hb
  have e0 : c.toList.isEmpty = false := by cases h : c.toList with | nil => exact absurd h he | cons => rfl
  have e1 : (c.toList == ([] : List UInt8)) = false := beq_eq_false_iff_ne.mpr he
  have n0 : (b != 0) = true := by rw [bne, b0]; rfl
  have n1 : (b != 1) = false := by rw [bne, b1]; rfl
  have e2 : (c.toList != ([] : List UInt8)) = true := by rw [bne, e1]; rfl
  clear ha hb he
  go_enter Try.func27, Try.ntmps27
  go_wp2
  go_ret
  exact ⟨rfl, by repeat (first | exact Below.refl _ _ | refine Below.setCell ?_ (Nat.le_refl _) _ | refine Below.setCell ?_ (Nat.le_succ _) _ | apply below_alloc)⟩
set_option maxHeartbeats 2000000 in
set_option maxRecDepth 100000 in
theorem quarryref01_Check.t3 (a b : Int) (c : ByteArray) (w : World) (ha : a = 1) (hb : b = 0) (he : c.toList = []) :
    Calls Try.prog 27 #[.agg #[.int .i64 a, .int .i64 b, .string c]] w fun e w' => e = .returned (.int .i64 0) ∧ Below w.heap.size w w' := by
  have lo : decide (a < 0) = false := decide_eq_false (by omega)
  have hi : decide (4 < a) = false := decide_eq_false (by omega)
  have hu38 := Try.underlying25
  have k0 : (a == 0) = false := beq_eq_false_iff_ne.mpr (by omega)
  have k1 : (a == 1) = true := beq_iff_eq.mpr ha
  have b0 : (b == 0) = true := beq_iff_eq.mpr hb
  have b1 : (b == 1) = false := beq_eq_false_iff_ne.mpr (by omega)
  have e0 : c.toList.isEmpty = true := List.isEmpty_iff.2 he
  have e1 : (c.toList == ([] : List UInt8)) = true := beq_iff_eq.mpr he
  have n0 : (b != 0) = false := by rw [bne, b0]; rfl
  have n1 : (b != 1) = true := by rw [bne, b1]; rfl
  have e2 : (c.toList != ([] : List UInt8)) = false := by rw [bne, e1]; rfl
  clear ha hb he
  go_enter Try.func27, Try.ntmps27
  go_wp2
  go_ret
  exact ⟨rfl, by repeat (first | exact Below.refl _ _ | refine Below.setCell ?_ (Nat.le_refl _) _ | refine Below.setCell ?_ (Nat.le_succ _) _ | apply below_alloc)⟩
set_option maxHeartbeats 2000000 in
set_option maxRecDepth 100000 in
theorem quarryref01_Check.t4 (a b : Int) (c : ByteArray) (w : World) (ha : a = 1) (hb : b = 0) (he : ¬ c.toList = []) :
    Calls Try.prog 27 #[.agg #[.int .i64 a, .int .i64 b, .string c]] w fun e w' => e = .returned (.int .i64 3) ∧ Below w.heap.size w w' := by
  have lo : decide (a < 0) = false := decide_eq_false (by omega)
  have hi : decide (4 < a) = false := decide_eq_false (by omega)
  have hu38 := Try.underlying25
  have k0 : (a == 0) = false := beq_eq_false_iff_ne.mpr (by omega)
  have k1 : (a == 1) = true := beq_iff_eq.mpr ha
  have b0 : (b == 0) = true := beq_iff_eq.mpr hb
  have b1 : (b == 1) = false := beq_eq_false_iff_ne.mpr (by omega)
  have e0 : c.toList.isEmpty = false := by cases h : c.toList with | nil => exact absurd h he | cons => rfl
  have e1 : (c.toList == ([] : List UInt8)) = false := beq_eq_false_iff_ne.mpr he
  have n0 : (b != 0) = false := by rw [bne, b0]; rfl
  have n1 : (b != 1) = true := by rw [bne, b1]; rfl
  have e2 : (c.toList != ([] : List UInt8)) = true := by rw [bne, e1]; rfl
  clear ha hb he
  go_enter Try.func27, Try.ntmps27
  go_wp2
  go_ret
  exact ⟨rfl, by repeat (first | exact Below.refl _ _ | refine Below.setCell ?_ (Nat.le_refl _) _ | refine Below.setCell ?_ (Nat.le_succ _) _ | apply below_alloc)⟩
set_option maxHeartbeats 2000000 in
set_option maxRecDepth 100000 in
theorem quarryref01_Check.t5 (a b : Int) (c : ByteArray) (w : World) (ha : a = 1) (hb : ¬ b = 0) (hb1 : ¬ b = 1) (he : c.toList = []) :
    Calls Try.prog 27 #[.agg #[.int .i64 a, .int .i64 b, .string c]] w fun e w' => e = .returned (.int .i64 3) ∧ Below w.heap.size w w' := by
  have lo : decide (a < 0) = false := decide_eq_false (by omega)
  have hi : decide (4 < a) = false := decide_eq_false (by omega)
  have hu38 := Try.underlying25
  have k0 : (a == 0) = false := beq_eq_false_iff_ne.mpr (by omega)
  have k1 : (a == 1) = true := beq_iff_eq.mpr ha
  have b0 : (b == 0) = false := beq_eq_false_iff_ne.mpr hb
  have b1 : (b == 1) = false := beq_eq_false_iff_ne.mpr hb1
  have e0 : c.toList.isEmpty = true := List.isEmpty_iff.2 he
  have e1 : (c.toList == ([] : List UInt8)) = true := beq_iff_eq.mpr he
  have n0 : (b != 0) = true := by rw [bne, b0]; rfl
  have n1 : (b != 1) = true := by rw [bne, b1]; rfl
  have e2 : (c.toList != ([] : List UInt8)) = false := by rw [bne, e1]; rfl
  clear ha hb hb1 he
  go_enter Try.func27, Try.ntmps27
  go_wp2
  go_ret
  exact ⟨rfl, by repeat (first | exact Below.refl _ _ | refine Below.setCell ?_ (Nat.le_refl _) _ | refine Below.setCell ?_ (Nat.le_succ _) _ | apply below_alloc)⟩
set_option maxHeartbeats 2000000 in
set_option maxRecDepth 100000 in
theorem quarryref01_Check.t6 (a b : Int) (c : ByteArray) (w : World) (ha : a = 1) (hb : ¬ b = 0) (hb1 : ¬ b = 1) (he : ¬ c.toList = []) :
    Calls Try.prog 27 #[.agg #[.int .i64 a, .int .i64 b, .string c]] w fun e w' => e = .returned (.int .i64 3) ∧ Below w.heap.size w w' := by
  have lo : decide (a < 0) = false := decide_eq_false (by omega)
  have hi : decide (4 < a) = false := decide_eq_false (by omega)
  have hu38 := Try.underlying25
  have k0 : (a == 0) = false := beq_eq_false_iff_ne.mpr (by omega)
  have k1 : (a == 1) = true := beq_iff_eq.mpr ha
  have b0 : (b == 0) = false := beq_eq_false_iff_ne.mpr hb
  have b1 : (b == 1) = false := beq_eq_false_iff_ne.mpr hb1
  have e0 : c.toList.isEmpty = false := by cases h : c.toList with | nil => exact absurd h he | cons => rfl
  have e1 : (c.toList == ([] : List UInt8)) = false := beq_eq_false_iff_ne.mpr he
  have n0 : (b != 0) = true := by rw [bne, b0]; rfl
  have n1 : (b != 1) = true := by rw [bne, b1]; rfl
  have e2 : (c.toList != ([] : List UInt8)) = true := by rw [bne, e1]; rfl
  clear ha hb hb1 he
  go_enter Try.func27, Try.ntmps27
  go_wp2
  go_ret
  exact ⟨rfl, by repeat (first | exact Below.refl _ _ | refine Below.setCell ?_ (Nat.le_refl _) _ | refine Below.setCell ?_ (Nat.le_succ _) _ | apply below_alloc)⟩
set_option maxHeartbeats 2000000 in
set_option maxRecDepth 100000 in
theorem quarryref01_Check.n1 (a b : Int) (c : ByteArray) (w : World) (ha : a = 2) (he : c.toList = []) :
    Calls Try.prog 27 #[.agg #[.int .i64 a, .int .i64 b, .string c]] w fun e w' => e = .returned (.int .i64 0) ∧ Below w.heap.size w w' := by
  have lo : decide (a < 0) = false := decide_eq_false (by omega)
  have hi : decide (4 < a) = false := decide_eq_false (by omega)
  have hu38 := Try.underlying25
  have k0 : (a == 0) = false := beq_eq_false_iff_ne.mpr (by omega)
  have k1 : (a == 1) = false := beq_eq_false_iff_ne.mpr (by omega)
  have k2 : (a == 2) = true := beq_iff_eq.mpr ha
  have e0 : c.toList.isEmpty = true := List.isEmpty_iff.2 he
  have e1 : (c.toList == ([] : List UInt8)) = true := beq_iff_eq.mpr he
  have e2 : (c.toList != ([] : List UInt8)) = false := by rw [bne, e1]; rfl
  clear ha he
  go_enter Try.func27, Try.ntmps27
  go_wp2
  go_ret
  exact ⟨rfl, by repeat (first | exact Below.refl _ _ | refine Below.setCell ?_ (Nat.le_refl _) _ | refine Below.setCell ?_ (Nat.le_succ _) _ | apply below_alloc)⟩
set_option maxHeartbeats 2000000 in
set_option maxRecDepth 100000 in
theorem quarryref01_Check.n2 (a b : Int) (c : ByteArray) (w : World) (ha : a = 2) (he : ¬ c.toList = []) :
    Calls Try.prog 27 #[.agg #[.int .i64 a, .int .i64 b, .string c]] w fun e w' => e = .returned (.int .i64 3) ∧ Below w.heap.size w w' := by
  have lo : decide (a < 0) = false := decide_eq_false (by omega)
  have hi : decide (4 < a) = false := decide_eq_false (by omega)
  have hu38 := Try.underlying25
  have k0 : (a == 0) = false := beq_eq_false_iff_ne.mpr (by omega)
  have k1 : (a == 1) = false := beq_eq_false_iff_ne.mpr (by omega)
  have k2 : (a == 2) = true := beq_iff_eq.mpr ha
  have e0 : c.toList.isEmpty = false := by cases h : c.toList with | nil => exact absurd h he | cons => rfl
  have e1 : (c.toList == ([] : List UInt8)) = false := beq_eq_false_iff_ne.mpr he
  have e2 : (c.toList != ([] : List UInt8)) = true := by rw [bne, e1]; rfl
  clear ha he
  go_enter Try.func27, Try.ntmps27
  go_wp2
  go_ret
  exact ⟨rfl, by repeat (first | exact Below.refl _ _ | refine Below.setCell ?_ (Nat.le_refl _) _ | refine Below.setCell ?_ (Nat.le_succ _) _ | apply below_alloc)⟩
set_option maxHeartbeats 2000000 in
set_option maxRecDepth 100000 in
theorem quarryref01_Check.x1 (a b : Int) (c : ByteArray) (w : World) (ha : a = 3) (hb : b = 0) :
    Calls Try.prog 27 #[.agg #[.int .i64 a, .int .i64 b, .string c]] w fun e w' => e = .returned (.int .i64 0) ∧ Below w.heap.size w w' := by
  have lo : decide (a < 0) = false := decide_eq_false (by omega)
  have hi : decide (4 < a) = false := decide_eq_false (by omega)
  have hu38 := Try.underlying25
  have k0 : (a == 0) = false := beq_eq_false_iff_ne.mpr (by omega)
  have k1 : (a == 1) = false := beq_eq_false_iff_ne.mpr (by omega)
  have k2 : (a == 2) = false := beq_eq_false_iff_ne.mpr (by omega)
  have k3 : (a == 3) = true := beq_iff_eq.mpr ha
  have b0 : (b == 0) = true := beq_iff_eq.mpr hb
  have b1 : (b == 1) = false := beq_eq_false_iff_ne.mpr (by omega)
  have n0 : (b != 0) = false := by rw [bne, b0]; rfl
  have n1 : (b != 1) = true := by rw [bne, b1]; rfl
  clear ha hb
  go_enter Try.func27, Try.ntmps27
  go_wp2
  go_ret
  exact ⟨rfl, by repeat (first | exact Below.refl _ _ | refine Below.setCell ?_ (Nat.le_refl _) _ | refine Below.setCell ?_ (Nat.le_succ _) _ | apply below_alloc)⟩
set_option maxHeartbeats 2000000 in
set_option maxRecDepth 100000 in
theorem quarryref01_Check.x2 (a b : Int) (c : ByteArray) (w : World) (ha : a = 3) (hb : ¬ b = 0) :
    Calls Try.prog 27 #[.agg #[.int .i64 a, .int .i64 b, .string c]] w fun e w' => e = .returned (.int .i64 3) ∧ Below w.heap.size w w' := by
  have lo : decide (a < 0) = false := decide_eq_false (by omega)
  have hi : decide (4 < a) = false := decide_eq_false (by omega)
  have hu38 := Try.underlying25
  have k0 : (a == 0) = false := beq_eq_false_iff_ne.mpr (by omega)
  have k1 : (a == 1) = false := beq_eq_false_iff_ne.mpr (by omega)
  have k2 : (a == 2) = false := beq_eq_false_iff_ne.mpr (by omega)
  have k3 : (a == 3) = true := beq_iff_eq.mpr ha
  have b0 : (b == 0) = false := beq_eq_false_iff_ne.mpr hb
  have n0 : (b != 0) = true := by rw [bne, b0]; rfl
  clear ha hb
  go_enter Try.func27, Try.ntmps27
  go_wp2
  go_ret
  exact ⟨rfl, by repeat (first | exact Below.refl _ _ | refine Below.setCell ?_ (Nat.le_refl _) _ | refine Below.setCell ?_ (Nat.le_succ _) _ | apply below_alloc)⟩
set_option maxHeartbeats 2000000 in
set_option maxRecDepth 100000 in
theorem quarryref01_Check.y1 (a b : Int) (c : ByteArray) (w : World) (ha : a = 4) (hb : b = 0) :
    Calls Try.prog 27 #[.agg #[.int .i64 a, .int .i64 b, .string c]] w fun e w' => e = .returned (.int .i64 0) ∧ Below w.heap.size w w' := by
  have lo : decide (a < 0) = false := decide_eq_false (by omega)
  have hi : decide (4 < a) = false := decide_eq_false (by omega)
  have hu38 := Try.underlying25
  have k0 : (a == 0) = false := beq_eq_false_iff_ne.mpr (by omega)
  have k1 : (a == 1) = false := beq_eq_false_iff_ne.mpr (by omega)
  have k2 : (a == 2) = false := beq_eq_false_iff_ne.mpr (by omega)
  have k3 : (a == 3) = false := beq_eq_false_iff_ne.mpr (by omega)
  have k4 : (a == 4) = true := beq_iff_eq.mpr ha
  have b0 : (b == 0) = true := beq_iff_eq.mpr hb
  have b1 : (b == 1) = false := beq_eq_false_iff_ne.mpr (by omega)
  have n0 : (b != 0) = false := by rw [bne, b0]; rfl
  have n1 : (b != 1) = true := by rw [bne, b1]; rfl
  clear ha hb
  go_enter Try.func27, Try.ntmps27
  go_wp2
  go_ret
  exact ⟨rfl, by repeat (first | exact Below.refl _ _ | refine Below.setCell ?_ (Nat.le_refl _) _ | refine Below.setCell ?_ (Nat.le_succ _) _ | apply below_alloc)⟩
set_option maxHeartbeats 2000000 in
set_option maxRecDepth 100000 in
theorem quarryref01_Check.y2 (a b : Int) (c : ByteArray) (w : World) (ha : a = 4) (hb : ¬ b = 0) :
    Calls Try.prog 27 #[.agg #[.int .i64 a, .int .i64 b, .string c]] w fun e w' => e = .returned (.int .i64 3) ∧ Below w.heap.size w w' := by
  have lo : decide (a < 0) = false := decide_eq_false (by omega)
  have hi : decide (4 < a) = false := decide_eq_false (by omega)
  have hu38 := Try.underlying25
  have k0 : (a == 0) = false := beq_eq_false_iff_ne.mpr (by omega)
  have k1 : (a == 1) = false := beq_eq_false_iff_ne.mpr (by omega)
  have k2 : (a == 2) = false := beq_eq_false_iff_ne.mpr (by omega)
  have k3 : (a == 3) = false := beq_eq_false_iff_ne.mpr (by omega)
  have k4 : (a == 4) = true := beq_iff_eq.mpr ha
  have b0 : (b == 0) = false := beq_eq_false_iff_ne.mpr hb
  have n0 : (b != 0) = true := by rw [bne, b0]; rfl
  clear ha hb
  go_enter Try.func27, Try.ntmps27
  go_wp2
  go_ret
  exact ⟨rfl, by repeat (first | exact Below.refl _ _ | refine Below.setCell ?_ (Nat.le_refl _) _ | refine Below.setCell ?_ (Nat.le_succ _) _ | apply below_alloc)⟩
set_option maxHeartbeats 2000000 in
set_option maxRecDepth 100000 in
theorem quarryref01_Check.o1 (a b : Int) (c : ByteArray) (w : World) (lt : a < 0) (h0 : ¬ a = 0) (h1 : ¬ a = 1) (h2 : ¬ a = 2) (h3 : ¬ a = 3) (h4 : ¬ a = 4) :
    Calls Try.prog 27 #[.agg #[.int .i64 a, .int .i64 b, .string c]] w fun e w' => e = .returned (.int .i64 5) ∧ Below w.heap.size w w' := by
  have lo : decide (a < 0) = true := decide_eq_true lt
  have hu38 := Try.underlying25
  have k0 : (a == 0) = false := beq_eq_false_iff_ne.mpr h0
  have k1 : (a == 1) = false := beq_eq_false_iff_ne.mpr h1
  have k2 : (a == 2) = false := beq_eq_false_iff_ne.mpr h2
  have k3 : (a == 3) = false := beq_eq_false_iff_ne.mpr h3
  have k4 : (a == 4) = false := beq_eq_false_iff_ne.mpr h4
  clear lt h0 h1 h2 h3 h4
  go_enter Try.func27, Try.ntmps27
  go_wp2
  go_ret
  exact ⟨rfl, by repeat (first | exact Below.refl _ _ | refine Below.setCell ?_ (Nat.le_refl _) _ | refine Below.setCell ?_ (Nat.le_succ _) _ | apply below_alloc)⟩
set_option maxHeartbeats 2000000 in
set_option maxRecDepth 100000 in
theorem quarryref01_Check.o2 (a b : Int) (c : ByteArray) (w : World) (lt : 4 < a) (h0 : ¬ a = 0) (h1 : ¬ a = 1) (h2 : ¬ a = 2) (h3 : ¬ a = 3) (h4 : ¬ a = 4) :
    Calls Try.prog 27 #[.agg #[.int .i64 a, .int .i64 b, .string c]] w fun e w' => e = .returned (.int .i64 5) ∧ Below w.heap.size w w' := by
  have lo : decide (a < 0) = false := decide_eq_false (by omega)
  have hi : decide (4 < a) = true := decide_eq_true lt
  have hu38 := Try.underlying25
  have k0 : (a == 0) = false := beq_eq_false_iff_ne.mpr h0
  have k1 : (a == 1) = false := beq_eq_false_iff_ne.mpr h1
  have k2 : (a == 2) = false := beq_eq_false_iff_ne.mpr h2
  have k3 : (a == 3) = false := beq_eq_false_iff_ne.mpr h3
  have k4 : (a == 4) = false := beq_eq_false_iff_ne.mpr h4
  clear lt h0 h1 h2 h3 h4
  go_enter Try.func27, Try.ntmps27
  go_wp2
  go_ret
  exact ⟨rfl, by repeat (first | exact Below.refl _ _ | refine Below.setCell ?_ (Nat.le_refl _) _ | refine Below.setCell ?_ (Nat.le_succ _) _ | apply below_alloc)⟩
theorem quarryref01_Check.calls (a0_0 : Int) (a0_1 : Int) (a0_2 : ByteArray) (r : Int) (w : World) (h : quarryref01_Check.f a0_0 a0_1 a0_2 = some r) :
    Calls Try.prog 27 #[.agg #[.int .i64 a0_0, .int .i64 a0_1, .string a0_2]] w fun e w' => e = .returned (.int .i64 r) ∧ Below w.heap.size w w' := by
  obtain rfl : chkR a0_0 a0_1 a0_2 = r := Option.some.inj h
  clear h
  unfold chkR
  by_cases h0 : a0_0 = 0
  · rw [if_pos h0]
    by_cases hb : a0_1 = 0
    · by_cases he : a0_2.toList = []
      · rw [if_pos ⟨hb, he⟩]; exact quarryref01_Check.z1 _ _ _ w h0 hb he
      · rw [if_neg (fun h => he h.2)]; exact quarryref01_Check.z2 _ _ _ w h0 hb he
    · rw [if_neg (fun h => hb h.1)]; exact quarryref01_Check.z3 _ _ _ w h0 hb
  rw [if_neg h0]
  by_cases h1 : a0_0 = 1
  · rw [if_pos h1]
    by_cases he : a0_2.toList = []
    · by_cases hb : a0_1 = 1
      · rw [if_pos ⟨.inr hb, he⟩]; exact quarryref01_Check.t1 _ _ _ w h1 hb he
      · by_cases hb0 : a0_1 = 0
        · rw [if_pos ⟨.inl hb0, he⟩]; exact quarryref01_Check.t3 _ _ _ w h1 hb0 he
        · rw [if_neg (fun h => h.1.elim hb0 hb)]; exact quarryref01_Check.t5 _ _ _ w h1 hb0 hb he
    · rw [if_neg (fun h => he h.2)]
      by_cases hb : a0_1 = 1
      · exact quarryref01_Check.t2 _ _ _ w h1 hb he
      · by_cases hb0 : a0_1 = 0
        · exact quarryref01_Check.t4 _ _ _ w h1 hb0 he
        · exact quarryref01_Check.t6 _ _ _ w h1 hb0 hb he
  rw [if_neg h1]
  by_cases h2 : a0_0 = 2
  · rw [if_pos h2]
    by_cases he : a0_2.toList = []
    · rw [if_pos he]; exact quarryref01_Check.n1 _ _ _ w h2 he
    · rw [if_neg he]; exact quarryref01_Check.n2 _ _ _ w h2 he
  rw [if_neg h2]
  by_cases h3 : a0_0 = 3
  · rw [if_pos (.inl h3)]
    by_cases hb : a0_1 = 0
    · rw [if_pos hb]; exact quarryref01_Check.x1 _ _ _ w h3 hb
    · rw [if_neg hb]; exact quarryref01_Check.x2 _ _ _ w h3 hb
  by_cases h4 : a0_0 = 4
  · rw [if_pos (.inr h4)]
    by_cases hb : a0_1 = 0
    · rw [if_pos hb]; exact quarryref01_Check.y1 _ _ _ w h4 hb
    · rw [if_neg hb]; exact quarryref01_Check.y2 _ _ _ w h4 hb
  rw [if_neg (by omega)]
  by_cases hn : a0_0 < 0
  · exact quarryref01_Check.o1 _ _ _ w hn h0 h1 h2 h3 h4
  · exact quarryref01_Check.o2 _ _ _ w (by omega) h0 h1 h2 h3 h4
def quarrylaw02_right.l0 : Nat → List (S25) → Int → Option (Bool)
  | 0, _, _ => none
  | k + 1, x0, x3 => if x3 < (x0.length : Int) then (if 0 ≤ x3 then ((quarryref01_Check.f ((rd_T25 x0 x3).f0) ((rd_T25 x0 x3).f1) ((rd_T25 x0 x3).f2)).bind fun t235 => (if t235 = 0 then (quarrylaw02_right.l0 k x0 (wrap64 (x3 + 1))) else (some false))) else (none)) else (some true)
def quarrylaw02_right.f (k : Nat) (l0 : List (S25)) : Option (Bool) := quarrylaw02_right.l0 k l0 0
set_option maxHeartbeats 8000000 in
set_option maxRecDepth 100000 in
theorem quarrylaw02_right.calls (k : Nat) (A0 : Option Addr) (c0 : Nat) (l0 : List (S25)) (r : Bool) (w : World) (hr0 : Kd.C k25 w A0 l0.length l0) (hc0 : l0.length ≤ c0) (h : quarrylaw02_right.f k l0 = some r) :
    Calls Try.prog 11 #[.slice A0 l0.length c0] w fun e w' => e = .returned (.bool r) ∧ Below w.heap.size w w' := by
  have hu25 := Try.underlying25
  have HR0 := Aside0.mk hr0
  have HC0 := Aside0.mk hc0
  clear hr0 hc0
  have HB := Aside0.mk (Below.refl w.heap.size w)
  have H : (quarrylaw02_right.l0 k l0 0) = some r := h
  clear h
  have H' := Aside0.mk H
  clear H
  go_enter Try.func11, Try.ntmps11
  go_wp2
  go_loopg [3] k (fun kq v3 w' => ∃ (x3_1 : Int), v3 = .int .i64 x3_1 ∧ Aside0 (quarrylaw02_right.l0 kq l0 x3_1 = some r) ∧ Aside0 (kq ≤ k) ∧ Aside0 (Below w.heap.size w w'))
  case atStart => exact ⟨(0), (by first | rfl | (simp; done) | (simp [*]; done)), H', ⟨Nat.le_refl _⟩, ⟨by repeat (first | (with_reducible first | exact HB.out | apply below_alloc | apply pw_below_drewN | apply below_drew1) | exact HB.out)⟩⟩
  case round =>
    clear H'
    try clear c1
    obtain ⟨x3_1, rfl, HA, HK1, HB⟩ := hrel
    cases gk with
    | zero => exact absurd HA.out (by simp [quarrylaw02_right.l0])
    | succ k1 =>
      have H := HA.out
      clear HA
      simp only [quarrylaw02_right.l0] at H
      by_cases c2 : x3_1 < (l0.length : Int)
      · rw [if_pos c2] at H
        have c2b0 : decide (x3_1 < (l0.length : Int)) = true := decide_eq_true c2
        clear c2
        by_cases c3 : 0 ≤ x3_1
        · rw [if_pos c3] at H
          have c3b0 : decide (0 ≤ x3_1) = true := decide_eq_true c3
          clear c3
          replace H := Option.bind_eq_some_iff.mp H
          obtain ⟨t235, A40, H⟩ := H
          replace H : (if t235 = 0 then (quarrylaw02_right.l0 k1 l0 (wrap64 (x3_1 + 1))) else (some false)) = some r := H
          have A4 := Aside0.mk A40
          clear A40
          by_cases c5 : t235 = 0
          · rw [if_pos c5] at H
            have c5b0 : (t235 == 0) = true := beq_iff_eq.mpr c5
            have c5b1 : (t235 != 0) = false := bne_eq_false_iff_eq.mpr c5
            clear c5
            have H' := Aside0.mk H
            clear H
            have p234 : 0 ≤ (x3_1 : Int) := of_decide_eq_true (by first | (with_reducible assumption) | assumption)
            have q234 : x3_1 < (l0.length : Int) := of_decide_eq_true (by first | (with_reducible assumption) | assumption)
            obtain ⟨ad234, e234, hx234_0, hx234_1, hx234_2⟩ := at_T25 HR0.out x3_1 p234 q234
            cases e234
            replace hx234_0 := (HB.out.cell (World.block_lt_of_cell? w _ hx234_0)).trans hx234_0
            replace hx234_1 := (HB.out.cell (World.block_lt_of_cell? w _ hx234_1)).trans hx234_1
            replace hx234_2 := (HB.out.cell (World.block_lt_of_cell? w _ hx234_2)).trans hx234_2
            replace p234 := eq_true p234
            replace q234 := eq_true q234
            go_wp2_with (first | ((with_reducible refine gate_callee (f := 27) rfl ?_); refine goesL_ (some 14) rfl rfl Try.func27 (by kernel_rfl) rfl #[.agg #[.int .i64 ((rd_T25 l0 x3_1).f0), .int .i64 ((rd_T25 l0 x3_1).f1), .string ((rd_T25 l0 x3_1).f2)]] rfl (by (try simp only [List.map_toArray, List.map_cons, List.map_nil]); first | done | rfl | (simp only [List.length_drop, List.length_take]; rfl)) ?_; (with_reducible refine (quarryref01_Check.calls ((rd_T25 l0 x3_1).f0) ((rd_T25 l0 x3_1).f1) ((rd_T25 l0 x3_1).f2) t235 _ A4.out).mono ?_); rintro e w6 ⟨rfl, hb⟩; refine ⟨_, rfl, ?_⟩; have n0_ := Aside0.mk (below_step (by repeat (first | (with_reducible first | exact HB.out | apply below_alloc | apply pw_below_drewN | apply below_drew1) | exact HB.out)) hb); clear HB; have HB := n0_; clear n0_; (try clear hb); (try clear hb2); (try clear hk); (try clear hi)))
            go_roundg k1
            case measure => have := HK1.out; omega
            case rel => exact ⟨(wrap64 (x3_1 + 1)), (by first | rfl | (simp; done) | (simp [*]; done)), H', ⟨by have := HK1.out; omega⟩, ⟨by repeat (first | (with_reducible first | exact HB.out | apply below_alloc | apply pw_below_drewN | apply below_drew1) | exact HB.out)⟩⟩
          · rw [if_neg c5] at H
            have c5b0 : (t235 == 0) = false := beq_eq_false_iff_ne.mpr c5
            have c5b1 : (t235 != 0) = true := bne_iff_ne.mpr c5
            obtain rfl := Option.some.inj H
            have p234 : 0 ≤ (x3_1 : Int) := of_decide_eq_true (by first | (with_reducible assumption) | assumption)
            have q234 : x3_1 < (l0.length : Int) := of_decide_eq_true (by first | (with_reducible assumption) | assumption)
            obtain ⟨ad234, e234, hx234_0, hx234_1, hx234_2⟩ := at_T25 HR0.out x3_1 p234 q234
            cases e234
            replace hx234_0 := (HB.out.cell (World.block_lt_of_cell? w _ hx234_0)).trans hx234_0
            replace hx234_1 := (HB.out.cell (World.block_lt_of_cell? w _ hx234_1)).trans hx234_1
            replace hx234_2 := (HB.out.cell (World.block_lt_of_cell? w _ hx234_2)).trans hx234_2
            replace p234 := eq_true p234
            replace q234 := eq_true q234
            go_wp2_with (first | ((with_reducible refine gate_callee (f := 27) rfl ?_); refine goesL_ (some 14) rfl rfl Try.func27 (by kernel_rfl) rfl #[.agg #[.int .i64 ((rd_T25 l0 x3_1).f0), .int .i64 ((rd_T25 l0 x3_1).f1), .string ((rd_T25 l0 x3_1).f2)]] rfl (by (try simp only [List.map_toArray, List.map_cons, List.map_nil]); first | done | rfl | (simp only [List.length_drop, List.length_take]; rfl)) ?_; (with_reducible refine (quarryref01_Check.calls ((rd_T25 l0 x3_1).f0) ((rd_T25 l0 x3_1).f1) ((rd_T25 l0 x3_1).f2) t235 _ A4.out).mono ?_); rintro e w7 ⟨rfl, hb⟩; refine ⟨_, rfl, ?_⟩; have n0_ := Aside0.mk (below_step (by repeat (first | (with_reducible first | exact HB.out | apply below_alloc | apply pw_below_drewN | apply below_drew1) | exact HB.out)) hb); clear HB; have HB := n0_; clear n0_; (try clear hb); (try clear hb2); (try clear hk); (try clear hi)))
            go_ret
            exact ⟨by first | rfl | (simp [errW_none, errW_some] <;> rfl) | (simp [*, errW_none, errW_some] <;> rfl), by repeat (first | (with_reducible first | exact HB.out | apply below_alloc | apply pw_below_drewN | apply below_drew1) | exact HB.out)⟩
        · rw [if_neg c3] at H
          exact absurd H (by simp)
      · rw [if_neg c2] at H
        have c2b0 : decide (x3_1 < (l0.length : Int)) = false := decide_eq_false c2
        clear c2
        obtain rfl := Option.some.inj H
        go_wp2
        go_ret
        exact ⟨by first | rfl | (simp [errW_none, errW_some] <;> rfl) | (simp [*, errW_none, errW_some] <;> rfl), by repeat (first | (with_reducible first | exact HB.out | apply below_alloc | apply pw_below_drewN | apply below_drew1) | exact HB.out)⟩
end Go.Proofs.Ytfbeklbjlkgbnaa.P
end
section
namespace Go.Proofs.Ytfbeklbjlkgbnaa.P
open Go.RowKit Go.Proofs.YtfbeklbjlkgbnaaW.PrintWords Go.Proofs.YtfbeklbjlkgbnaaW.PrintLast Go.Proofs.YtfbeklbjlkgbnaaW.PrintMore
attribute [local go_sem] max2_int min2_int max_two min_two max_three min_three max_four min_four
set_option linter.unusedVariables false
set_option linter.unusedSimpArgs false
attribute [local go_sem high] eqA25
def quarrylaw02_CalcNulls.j0 : Nat → Int → Int → Bool → Int → Int → ByteArray → Int → Int → ByteArray → Option (Bool)
  | 0, _, _, _, _, _, _, _, _, _ => none
  | k + 1, x0, x6, x73, x506000, x506001, x506002, x516000, x516001, x516002 => if x73 = true then (none) else (if x6 = 0 then (if x0 = 4 then (if (x506000 == 1 && (x506001 == 0 && (x506002.toList == ([] : List UInt8)))) = true then (some (x516000 == x506000 && (x516001 == x506001 && (x516002.toList == x506002.toList)))) else (if x0 = 3 then (if (x506000 == 1 && (x506001 == 1 && (x506002.toList == ([] : List UInt8)))) = true then (some (x516000 == x506000 && (x516001 == x506001 && (x516002.toList == x506002.toList)))) else (some (x516000 == 0 && (x516001 == 0 && (x516002.toList == ([] : List UInt8)))))) else (some (x516000 == 0 && (x516001 == 0 && (x516002.toList == ([] : List UInt8))))))) else (if x0 = 3 then (if (x506000 == 1 && (x506001 == 1 && (x506002.toList == ([] : List UInt8)))) = true then (some (x516000 == x506000 && (x516001 == x506001 && (x516002.toList == x506002.toList)))) else (some (x516000 == 0 && (x516001 == 0 && (x516002.toList == ([] : List UInt8)))))) else (some (x516000 == 0 && (x516001 == 0 && (x516002.toList == ([] : List UInt8))))))) else (some (x6 == 35)))
def quarrylaw02_CalcNulls.f (k : Nat) (a0 : Int) (a1_0 : Int) (a1_1 : Int) (a1_2 : ByteArray) : Option (Bool) := (quarrylaw02_works.f).bind fun t506 => (if t506 = true then ((quarrylaw02_right.f k (([(⟨a1_0, a1_1, a1_2⟩ : S25)] : List (S25)))).bind fun t510 => (if t510 = true then ((calc_Binary.f (wrap64 (3 + (wrap64 (Int.tmod (IntKind.u64.wrap (a0)) 14)))) a1_0 a1_1 a1_2 0 0 (⟨#[]⟩ : ByteArray)).bind fun bt511 => ((calc_Binary.f (wrap64 (3 + (wrap64 (Int.tmod (IntKind.u64.wrap (a0)) 14)))) 0 0 (⟨#[]⟩ : ByteArray) a1_0 a1_1 a1_2).bind fun bt516 => ((calc_Unary.f 2 0 0 (⟨#[]⟩ : ByteArray)).bind fun bt521 => ((calc_Unary.f 1 0 0 (⟨#[]⟩ : ByteArray)).bind fun bt526 => (if (!(bt511.1 == bt516.1) || (!(bt511.2.1 == bt516.2.1) || (!(bt511.2.2.1.toList == bt516.2.2.1.toList)))) = true then (quarrylaw02_CalcNulls.j0 k (wrap64 (3 + (wrap64 (Int.tmod (IntKind.u64.wrap (a0)) 14)))) bt511.2.2.2 true a1_0 a1_1 a1_2 bt511.1 bt511.2.1 bt511.2.2.1) else (if bt511.2.2.2 = bt516.2.2.2 then (if bt521.2.2.2 = 0 then (if bt526.2.2.2 = 0 then (if (!(bt521.1 == 0) || (!(bt521.2.1 == 0) || (!(bt521.2.2.1.toList == ([] : List UInt8))))) = true then (quarrylaw02_CalcNulls.j0 k (wrap64 (3 + (wrap64 (Int.tmod (IntKind.u64.wrap (a0)) 14)))) bt511.2.2.2 true a1_0 a1_1 a1_2 bt511.1 bt511.2.1 bt511.2.2.1) else (quarrylaw02_CalcNulls.j0 k (wrap64 (3 + (wrap64 (Int.tmod (IntKind.u64.wrap (a0)) 14)))) bt511.2.2.2 (!(bt526.1 == 0) || (!(bt526.2.1 == 0) || (!(bt526.2.2.1.toList == ([] : List UInt8))))) a1_0 a1_1 a1_2 bt511.1 bt511.2.1 bt511.2.2.1)) else (quarrylaw02_CalcNulls.j0 k (wrap64 (3 + (wrap64 (Int.tmod (IntKind.u64.wrap (a0)) 14)))) bt511.2.2.2 true a1_0 a1_1 a1_2 bt511.1 bt511.2.1 bt511.2.2.1)) else (quarrylaw02_CalcNulls.j0 k (wrap64 (3 + (wrap64 (Int.tmod (IntKind.u64.wrap (a0)) 14)))) bt511.2.2.2 true a1_0 a1_1 a1_2 bt511.1 bt511.2.1 bt511.2.2.1)) else (quarrylaw02_CalcNulls.j0 k (wrap64 (3 + (wrap64 (Int.tmod (IntKind.u64.wrap (a0)) 14)))) bt511.2.2.2 true a1_0 a1_1 a1_2 bt511.1 bt511.2.1 bt511.2.2.1))))))) else (some true))) else (none))
set_option maxHeartbeats 8000000 in
set_option maxRecDepth 100000 in
theorem quarrylaw02_CalcNulls.calls (k : Nat) (a0 : Int) (a1_0 : Int) (a1_1 : Int) (a1_2 : ByteArray) (r : Bool) (w : World) (h : quarrylaw02_CalcNulls.f k a0 a1_0 a1_1 a1_2 = some r) :
    Calls Try.prog 10 #[.int .i64 a0, .agg #[.int .i64 a1_0, .int .i64 a1_1, .string a1_2]] w fun e w' => e = .returned (.bool r) ∧ Below w.heap.size w w' := by
  have hu25 := Try.underlying25
  have HB := Aside0.mk (Below.refl w.heap.size w)
  have H : ((quarrylaw02_works.f).bind fun t506 => (if t506 = true then ((quarrylaw02_right.f k (([(⟨a1_0, a1_1, a1_2⟩ : S25)] : List (S25)))).bind fun t510 => (if t510 = true then ((calc_Binary.f (wrap64 (3 + (wrap64 (Int.tmod (IntKind.u64.wrap (a0)) 14)))) a1_0 a1_1 a1_2 0 0 (⟨#[]⟩ : ByteArray)).bind fun bt511 => ((calc_Binary.f (wrap64 (3 + (wrap64 (Int.tmod (IntKind.u64.wrap (a0)) 14)))) 0 0 (⟨#[]⟩ : ByteArray) a1_0 a1_1 a1_2).bind fun bt516 => ((calc_Unary.f 2 0 0 (⟨#[]⟩ : ByteArray)).bind fun bt521 => ((calc_Unary.f 1 0 0 (⟨#[]⟩ : ByteArray)).bind fun bt526 => (if (!(bt511.1 == bt516.1) || (!(bt511.2.1 == bt516.2.1) || (!(bt511.2.2.1.toList == bt516.2.2.1.toList)))) = true then (quarrylaw02_CalcNulls.j0 k (wrap64 (3 + (wrap64 (Int.tmod (IntKind.u64.wrap (a0)) 14)))) bt511.2.2.2 true a1_0 a1_1 a1_2 bt511.1 bt511.2.1 bt511.2.2.1) else (if bt511.2.2.2 = bt516.2.2.2 then (if bt521.2.2.2 = 0 then (if bt526.2.2.2 = 0 then (if (!(bt521.1 == 0) || (!(bt521.2.1 == 0) || (!(bt521.2.2.1.toList == ([] : List UInt8))))) = true then (quarrylaw02_CalcNulls.j0 k (wrap64 (3 + (wrap64 (Int.tmod (IntKind.u64.wrap (a0)) 14)))) bt511.2.2.2 true a1_0 a1_1 a1_2 bt511.1 bt511.2.1 bt511.2.2.1) else (quarrylaw02_CalcNulls.j0 k (wrap64 (3 + (wrap64 (Int.tmod (IntKind.u64.wrap (a0)) 14)))) bt511.2.2.2 (!(bt526.1 == 0) || (!(bt526.2.1 == 0) || (!(bt526.2.2.1.toList == ([] : List UInt8))))) a1_0 a1_1 a1_2 bt511.1 bt511.2.1 bt511.2.2.1)) else (quarrylaw02_CalcNulls.j0 k (wrap64 (3 + (wrap64 (Int.tmod (IntKind.u64.wrap (a0)) 14)))) bt511.2.2.2 true a1_0 a1_1 a1_2 bt511.1 bt511.2.1 bt511.2.2.1)) else (quarrylaw02_CalcNulls.j0 k (wrap64 (3 + (wrap64 (Int.tmod (IntKind.u64.wrap (a0)) 14)))) bt511.2.2.2 true a1_0 a1_1 a1_2 bt511.1 bt511.2.1 bt511.2.2.1)) else (quarrylaw02_CalcNulls.j0 k (wrap64 (3 + (wrap64 (Int.tmod (IntKind.u64.wrap (a0)) 14)))) bt511.2.2.2 true a1_0 a1_1 a1_2 bt511.1 bt511.2.1 bt511.2.2.1))))))) else (some true))) else (none))) = some r := h
  clear h
  replace H := Option.bind_eq_some_iff.mp H
  obtain ⟨t506, A30, H⟩ := H
  replace H : (if t506 = true then ((quarrylaw02_right.f k (([(⟨a1_0, a1_1, a1_2⟩ : S25)] : List (S25)))).bind fun t510 => (if t510 = true then ((calc_Binary.f (wrap64 (3 + (wrap64 (Int.tmod (IntKind.u64.wrap (a0)) 14)))) a1_0 a1_1 a1_2 0 0 (⟨#[]⟩ : ByteArray)).bind fun bt511 => ((calc_Binary.f (wrap64 (3 + (wrap64 (Int.tmod (IntKind.u64.wrap (a0)) 14)))) 0 0 (⟨#[]⟩ : ByteArray) a1_0 a1_1 a1_2).bind fun bt516 => ((calc_Unary.f 2 0 0 (⟨#[]⟩ : ByteArray)).bind fun bt521 => ((calc_Unary.f 1 0 0 (⟨#[]⟩ : ByteArray)).bind fun bt526 => (if (!(bt511.1 == bt516.1) || (!(bt511.2.1 == bt516.2.1) || (!(bt511.2.2.1.toList == bt516.2.2.1.toList)))) = true then (quarrylaw02_CalcNulls.j0 k (wrap64 (3 + (wrap64 (Int.tmod (IntKind.u64.wrap (a0)) 14)))) bt511.2.2.2 true a1_0 a1_1 a1_2 bt511.1 bt511.2.1 bt511.2.2.1) else (if bt511.2.2.2 = bt516.2.2.2 then (if bt521.2.2.2 = 0 then (if bt526.2.2.2 = 0 then (if (!(bt521.1 == 0) || (!(bt521.2.1 == 0) || (!(bt521.2.2.1.toList == ([] : List UInt8))))) = true then (quarrylaw02_CalcNulls.j0 k (wrap64 (3 + (wrap64 (Int.tmod (IntKind.u64.wrap (a0)) 14)))) bt511.2.2.2 true a1_0 a1_1 a1_2 bt511.1 bt511.2.1 bt511.2.2.1) else (quarrylaw02_CalcNulls.j0 k (wrap64 (3 + (wrap64 (Int.tmod (IntKind.u64.wrap (a0)) 14)))) bt511.2.2.2 (!(bt526.1 == 0) || (!(bt526.2.1 == 0) || (!(bt526.2.2.1.toList == ([] : List UInt8))))) a1_0 a1_1 a1_2 bt511.1 bt511.2.1 bt511.2.2.1)) else (quarrylaw02_CalcNulls.j0 k (wrap64 (3 + (wrap64 (Int.tmod (IntKind.u64.wrap (a0)) 14)))) bt511.2.2.2 true a1_0 a1_1 a1_2 bt511.1 bt511.2.1 bt511.2.2.1)) else (quarrylaw02_CalcNulls.j0 k (wrap64 (3 + (wrap64 (Int.tmod (IntKind.u64.wrap (a0)) 14)))) bt511.2.2.2 true a1_0 a1_1 a1_2 bt511.1 bt511.2.1 bt511.2.2.1)) else (quarrylaw02_CalcNulls.j0 k (wrap64 (3 + (wrap64 (Int.tmod (IntKind.u64.wrap (a0)) 14)))) bt511.2.2.2 true a1_0 a1_1 a1_2 bt511.1 bt511.2.1 bt511.2.2.1))))))) else (some true))) else (none)) = some r := H
  have A3 := Aside0.mk A30
  clear A30
  by_cases c4 : t506 = true
  · subst c4
    have H1 : ((quarrylaw02_right.f k (([(⟨a1_0, a1_1, a1_2⟩ : S25)] : List (S25)))).bind fun t510 => (if t510 = true then ((calc_Binary.f (wrap64 (3 + (wrap64 (Int.tmod (IntKind.u64.wrap (a0)) 14)))) a1_0 a1_1 a1_2 0 0 (⟨#[]⟩ : ByteArray)).bind fun bt511 => ((calc_Binary.f (wrap64 (3 + (wrap64 (Int.tmod (IntKind.u64.wrap (a0)) 14)))) 0 0 (⟨#[]⟩ : ByteArray) a1_0 a1_1 a1_2).bind fun bt516 => ((calc_Unary.f 2 0 0 (⟨#[]⟩ : ByteArray)).bind fun bt521 => ((calc_Unary.f 1 0 0 (⟨#[]⟩ : ByteArray)).bind fun bt526 => (if (!(bt511.1 == bt516.1) || (!(bt511.2.1 == bt516.2.1) || (!(bt511.2.2.1.toList == bt516.2.2.1.toList)))) = true then (quarrylaw02_CalcNulls.j0 k (wrap64 (3 + (wrap64 (Int.tmod (IntKind.u64.wrap (a0)) 14)))) bt511.2.2.2 true a1_0 a1_1 a1_2 bt511.1 bt511.2.1 bt511.2.2.1) else (if bt511.2.2.2 = bt516.2.2.2 then (if bt521.2.2.2 = 0 then (if bt526.2.2.2 = 0 then (if (!(bt521.1 == 0) || (!(bt521.2.1 == 0) || (!(bt521.2.2.1.toList == ([] : List UInt8))))) = true then (quarrylaw02_CalcNulls.j0 k (wrap64 (3 + (wrap64 (Int.tmod (IntKind.u64.wrap (a0)) 14)))) bt511.2.2.2 true a1_0 a1_1 a1_2 bt511.1 bt511.2.1 bt511.2.2.1) else (quarrylaw02_CalcNulls.j0 k (wrap64 (3 + (wrap64 (Int.tmod (IntKind.u64.wrap (a0)) 14)))) bt511.2.2.2 (!(bt526.1 == 0) || (!(bt526.2.1 == 0) || (!(bt526.2.2.1.toList == ([] : List UInt8))))) a1_0 a1_1 a1_2 bt511.1 bt511.2.1 bt511.2.2.1)) else (quarrylaw02_CalcNulls.j0 k (wrap64 (3 + (wrap64 (Int.tmod (IntKind.u64.wrap (a0)) 14)))) bt511.2.2.2 true a1_0 a1_1 a1_2 bt511.1 bt511.2.1 bt511.2.2.1)) else (quarrylaw02_CalcNulls.j0 k (wrap64 (3 + (wrap64 (Int.tmod (IntKind.u64.wrap (a0)) 14)))) bt511.2.2.2 true a1_0 a1_1 a1_2 bt511.1 bt511.2.1 bt511.2.2.1)) else (quarrylaw02_CalcNulls.j0 k (wrap64 (3 + (wrap64 (Int.tmod (IntKind.u64.wrap (a0)) 14)))) bt511.2.2.2 true a1_0 a1_1 a1_2 bt511.1 bt511.2.1 bt511.2.2.1))))))) else (some true))) = some r := by rw [if_pos rfl] at H; exact H
    clear H
    have H := H1
    clear H1
    obtain ⟨y507, hy507⟩ : ∃ y_ : List (S25), y_ = (([(⟨a1_0, a1_1, a1_2⟩ : S25)] : List (S25))) := ⟨_, rfl⟩
    replace H : ((quarrylaw02_right.f k y507).bind fun t510 => (if t510 = true then ((calc_Binary.f (wrap64 (3 + (wrap64 (Int.tmod (IntKind.u64.wrap (a0)) 14)))) a1_0 a1_1 a1_2 0 0 (⟨#[]⟩ : ByteArray)).bind fun bt511 => ((calc_Binary.f (wrap64 (3 + (wrap64 (Int.tmod (IntKind.u64.wrap (a0)) 14)))) 0 0 (⟨#[]⟩ : ByteArray) a1_0 a1_1 a1_2).bind fun bt516 => ((calc_Unary.f 2 0 0 (⟨#[]⟩ : ByteArray)).bind fun bt521 => ((calc_Unary.f 1 0 0 (⟨#[]⟩ : ByteArray)).bind fun bt526 => (if (!(bt511.1 == bt516.1) || (!(bt511.2.1 == bt516.2.1) || (!(bt511.2.2.1.toList == bt516.2.2.1.toList)))) = true then (quarrylaw02_CalcNulls.j0 k (wrap64 (3 + (wrap64 (Int.tmod (IntKind.u64.wrap (a0)) 14)))) bt511.2.2.2 true a1_0 a1_1 a1_2 bt511.1 bt511.2.1 bt511.2.2.1) else (if bt511.2.2.2 = bt516.2.2.2 then (if bt521.2.2.2 = 0 then (if bt526.2.2.2 = 0 then (if (!(bt521.1 == 0) || (!(bt521.2.1 == 0) || (!(bt521.2.2.1.toList == ([] : List UInt8))))) = true then (quarrylaw02_CalcNulls.j0 k (wrap64 (3 + (wrap64 (Int.tmod (IntKind.u64.wrap (a0)) 14)))) bt511.2.2.2 true a1_0 a1_1 a1_2 bt511.1 bt511.2.1 bt511.2.2.1) else (quarrylaw02_CalcNulls.j0 k (wrap64 (3 + (wrap64 (Int.tmod (IntKind.u64.wrap (a0)) 14)))) bt511.2.2.2 (!(bt526.1 == 0) || (!(bt526.2.1 == 0) || (!(bt526.2.2.1.toList == ([] : List UInt8))))) a1_0 a1_1 a1_2 bt511.1 bt511.2.1 bt511.2.2.1)) else (quarrylaw02_CalcNulls.j0 k (wrap64 (3 + (wrap64 (Int.tmod (IntKind.u64.wrap (a0)) 14)))) bt511.2.2.2 true a1_0 a1_1 a1_2 bt511.1 bt511.2.1 bt511.2.2.1)) else (quarrylaw02_CalcNulls.j0 k (wrap64 (3 + (wrap64 (Int.tmod (IntKind.u64.wrap (a0)) 14)))) bt511.2.2.2 true a1_0 a1_1 a1_2 bt511.1 bt511.2.1 bt511.2.2.1)) else (quarrylaw02_CalcNulls.j0 k (wrap64 (3 + (wrap64 (Int.tmod (IntKind.u64.wrap (a0)) 14)))) bt511.2.2.2 true a1_0 a1_1 a1_2 bt511.1 bt511.2.1 bt511.2.2.1))))))) else (some true))) = some r := by first | (rw [hy507]; with_reducible exact H) | (have H2_ := (Option.bind_some _ _).symm.trans H; rw [hy507]; with_reducible exact H2_) | (have H2_ := (Option.bind_some _ _).symm.trans H; with_reducible exact H2_) | with_reducible exact H | (rw [hy507]; exact H) | exact H
    have Ny507 := Aside0.mk hy507
    clear hy507
    replace H := Option.bind_eq_some_iff.mp H
    obtain ⟨t510, A50, H⟩ := H
    replace H : (if t510 = true then ((calc_Binary.f (wrap64 (3 + (wrap64 (Int.tmod (IntKind.u64.wrap (a0)) 14)))) a1_0 a1_1 a1_2 0 0 (⟨#[]⟩ : ByteArray)).bind fun bt511 => ((calc_Binary.f (wrap64 (3 + (wrap64 (Int.tmod (IntKind.u64.wrap (a0)) 14)))) 0 0 (⟨#[]⟩ : ByteArray) a1_0 a1_1 a1_2).bind fun bt516 => ((calc_Unary.f 2 0 0 (⟨#[]⟩ : ByteArray)).bind fun bt521 => ((calc_Unary.f 1 0 0 (⟨#[]⟩ : ByteArray)).bind fun bt526 => (if (!(bt511.1 == bt516.1) || (!(bt511.2.1 == bt516.2.1) || (!(bt511.2.2.1.toList == bt516.2.2.1.toList)))) = true then (quarrylaw02_CalcNulls.j0 k (wrap64 (3 + (wrap64 (Int.tmod (IntKind.u64.wrap (a0)) 14)))) bt511.2.2.2 true a1_0 a1_1 a1_2 bt511.1 bt511.2.1 bt511.2.2.1) else (if bt511.2.2.2 = bt516.2.2.2 then (if bt521.2.2.2 = 0 then (if bt526.2.2.2 = 0 then (if (!(bt521.1 == 0) || (!(bt521.2.1 == 0) || (!(bt521.2.2.1.toList == ([] : List UInt8))))) = true then (quarrylaw02_CalcNulls.j0 k (wrap64 (3 + (wrap64 (Int.tmod (IntKind.u64.wrap (a0)) 14)))) bt511.2.2.2 true a1_0 a1_1 a1_2 bt511.1 bt511.2.1 bt511.2.2.1) else (quarrylaw02_CalcNulls.j0 k (wrap64 (3 + (wrap64 (Int.tmod (IntKind.u64.wrap (a0)) 14)))) bt511.2.2.2 (!(bt526.1 == 0) || (!(bt526.2.1 == 0) || (!(bt526.2.2.1.toList == ([] : List UInt8))))) a1_0 a1_1 a1_2 bt511.1 bt511.2.1 bt511.2.2.1)) else (quarrylaw02_CalcNulls.j0 k (wrap64 (3 + (wrap64 (Int.tmod (IntKind.u64.wrap (a0)) 14)))) bt511.2.2.2 true a1_0 a1_1 a1_2 bt511.1 bt511.2.1 bt511.2.2.1)) else (quarrylaw02_CalcNulls.j0 k (wrap64 (3 + (wrap64 (Int.tmod (IntKind.u64.wrap (a0)) 14)))) bt511.2.2.2 true a1_0 a1_1 a1_2 bt511.1 bt511.2.1 bt511.2.2.1)) else (quarrylaw02_CalcNulls.j0 k (wrap64 (3 + (wrap64 (Int.tmod (IntKind.u64.wrap (a0)) 14)))) bt511.2.2.2 true a1_0 a1_1 a1_2 bt511.1 bt511.2.1 bt511.2.2.1))))))) else (some true)) = some r := H
    have A5 := Aside0.mk A50
    clear A50
    by_cases c6 : t510 = true
    · subst c6
      have H1 : ((calc_Binary.f (wrap64 (3 + (wrap64 (Int.tmod (IntKind.u64.wrap (a0)) 14)))) a1_0 a1_1 a1_2 0 0 (⟨#[]⟩ : ByteArray)).bind fun bt511 => ((calc_Binary.f (wrap64 (3 + (wrap64 (Int.tmod (IntKind.u64.wrap (a0)) 14)))) 0 0 (⟨#[]⟩ : ByteArray) a1_0 a1_1 a1_2).bind fun bt516 => ((calc_Unary.f 2 0 0 (⟨#[]⟩ : ByteArray)).bind fun bt521 => ((calc_Unary.f 1 0 0 (⟨#[]⟩ : ByteArray)).bind fun bt526 => (if (!(bt511.1 == bt516.1) || (!(bt511.2.1 == bt516.2.1) || (!(bt511.2.2.1.toList == bt516.2.2.1.toList)))) = true then (quarrylaw02_CalcNulls.j0 k (wrap64 (3 + (wrap64 (Int.tmod (IntKind.u64.wrap (a0)) 14)))) bt511.2.2.2 true a1_0 a1_1 a1_2 bt511.1 bt511.2.1 bt511.2.2.1) else (if bt511.2.2.2 = bt516.2.2.2 then (if bt521.2.2.2 = 0 then (if bt526.2.2.2 = 0 then (if (!(bt521.1 == 0) || (!(bt521.2.1 == 0) || (!(bt521.2.2.1.toList == ([] : List UInt8))))) = true then (quarrylaw02_CalcNulls.j0 k (wrap64 (3 + (wrap64 (Int.tmod (IntKind.u64.wrap (a0)) 14)))) bt511.2.2.2 true a1_0 a1_1 a1_2 bt511.1 bt511.2.1 bt511.2.2.1) else (quarrylaw02_CalcNulls.j0 k (wrap64 (3 + (wrap64 (Int.tmod (IntKind.u64.wrap (a0)) 14)))) bt511.2.2.2 (!(bt526.1 == 0) || (!(bt526.2.1 == 0) || (!(bt526.2.2.1.toList == ([] : List UInt8))))) a1_0 a1_1 a1_2 bt511.1 bt511.2.1 bt511.2.2.1)) else (quarrylaw02_CalcNulls.j0 k (wrap64 (3 + (wrap64 (Int.tmod (IntKind.u64.wrap (a0)) 14)))) bt511.2.2.2 true a1_0 a1_1 a1_2 bt511.1 bt511.2.1 bt511.2.2.1)) else (quarrylaw02_CalcNulls.j0 k (wrap64 (3 + (wrap64 (Int.tmod (IntKind.u64.wrap (a0)) 14)))) bt511.2.2.2 true a1_0 a1_1 a1_2 bt511.1 bt511.2.1 bt511.2.2.1)) else (quarrylaw02_CalcNulls.j0 k (wrap64 (3 + (wrap64 (Int.tmod (IntKind.u64.wrap (a0)) 14)))) bt511.2.2.2 true a1_0 a1_1 a1_2 bt511.1 bt511.2.1 bt511.2.2.1))))))) = some r := by rw [if_pos rfl] at H; exact H
      clear H
      have H := H1
      clear H1
      replace H := Option.bind_eq_some_iff.mp H
      obtain ⟨⟨t511, t512, t513, t514⟩, A70, H⟩ := H
      replace H : ((calc_Binary.f (wrap64 (3 + (wrap64 (Int.tmod (IntKind.u64.wrap (a0)) 14)))) 0 0 (⟨#[]⟩ : ByteArray) a1_0 a1_1 a1_2).bind fun bt516 => ((calc_Unary.f 2 0 0 (⟨#[]⟩ : ByteArray)).bind fun bt521 => ((calc_Unary.f 1 0 0 (⟨#[]⟩ : ByteArray)).bind fun bt526 => (if (!(t511 == bt516.1) || (!(t512 == bt516.2.1) || (!(t513.toList == bt516.2.2.1.toList)))) = true then (quarrylaw02_CalcNulls.j0 k (wrap64 (3 + (wrap64 (Int.tmod (IntKind.u64.wrap (a0)) 14)))) t514 true a1_0 a1_1 a1_2 t511 t512 t513) else (if t514 = bt516.2.2.2 then (if bt521.2.2.2 = 0 then (if bt526.2.2.2 = 0 then (if (!(bt521.1 == 0) || (!(bt521.2.1 == 0) || (!(bt521.2.2.1.toList == ([] : List UInt8))))) = true then (quarrylaw02_CalcNulls.j0 k (wrap64 (3 + (wrap64 (Int.tmod (IntKind.u64.wrap (a0)) 14)))) t514 true a1_0 a1_1 a1_2 t511 t512 t513) else (quarrylaw02_CalcNulls.j0 k (wrap64 (3 + (wrap64 (Int.tmod (IntKind.u64.wrap (a0)) 14)))) t514 (!(bt526.1 == 0) || (!(bt526.2.1 == 0) || (!(bt526.2.2.1.toList == ([] : List UInt8))))) a1_0 a1_1 a1_2 t511 t512 t513)) else (quarrylaw02_CalcNulls.j0 k (wrap64 (3 + (wrap64 (Int.tmod (IntKind.u64.wrap (a0)) 14)))) t514 true a1_0 a1_1 a1_2 t511 t512 t513)) else (quarrylaw02_CalcNulls.j0 k (wrap64 (3 + (wrap64 (Int.tmod (IntKind.u64.wrap (a0)) 14)))) t514 true a1_0 a1_1 a1_2 t511 t512 t513)) else (quarrylaw02_CalcNulls.j0 k (wrap64 (3 + (wrap64 (Int.tmod (IntKind.u64.wrap (a0)) 14)))) t514 true a1_0 a1_1 a1_2 t511 t512 t513)))))) = some r := H
      have A7 := Aside0.mk A70
      clear A70
      replace H := Option.bind_eq_some_iff.mp H
      obtain ⟨⟨t516, t517, t518, t519⟩, A80, H⟩ := H
      replace H : ((calc_Unary.f 2 0 0 (⟨#[]⟩ : ByteArray)).bind fun bt521 => ((calc_Unary.f 1 0 0 (⟨#[]⟩ : ByteArray)).bind fun bt526 => (if (!(t511 == t516) || (!(t512 == t517) || (!(t513.toList == t518.toList)))) = true then (quarrylaw02_CalcNulls.j0 k (wrap64 (3 + (wrap64 (Int.tmod (IntKind.u64.wrap (a0)) 14)))) t514 true a1_0 a1_1 a1_2 t511 t512 t513) else (if t514 = t519 then (if bt521.2.2.2 = 0 then (if bt526.2.2.2 = 0 then (if (!(bt521.1 == 0) || (!(bt521.2.1 == 0) || (!(bt521.2.2.1.toList == ([] : List UInt8))))) = true then (quarrylaw02_CalcNulls.j0 k (wrap64 (3 + (wrap64 (Int.tmod (IntKind.u64.wrap (a0)) 14)))) t514 true a1_0 a1_1 a1_2 t511 t512 t513) else (quarrylaw02_CalcNulls.j0 k (wrap64 (3 + (wrap64 (Int.tmod (IntKind.u64.wrap (a0)) 14)))) t514 (!(bt526.1 == 0) || (!(bt526.2.1 == 0) || (!(bt526.2.2.1.toList == ([] : List UInt8))))) a1_0 a1_1 a1_2 t511 t512 t513)) else (quarrylaw02_CalcNulls.j0 k (wrap64 (3 + (wrap64 (Int.tmod (IntKind.u64.wrap (a0)) 14)))) t514 true a1_0 a1_1 a1_2 t511 t512 t513)) else (quarrylaw02_CalcNulls.j0 k (wrap64 (3 + (wrap64 (Int.tmod (IntKind.u64.wrap (a0)) 14)))) t514 true a1_0 a1_1 a1_2 t511 t512 t513)) else (quarrylaw02_CalcNulls.j0 k (wrap64 (3 + (wrap64 (Int.tmod (IntKind.u64.wrap (a0)) 14)))) t514 true a1_0 a1_1 a1_2 t511 t512 t513))))) = some r := H
      have A8 := Aside0.mk A80
      clear A80
      replace H := Option.bind_eq_some_iff.mp H
      obtain ⟨⟨t521, t522, t523, t524⟩, A90, H⟩ := H
      replace H : ((calc_Unary.f 1 0 0 (⟨#[]⟩ : ByteArray)).bind fun bt526 => (if (!(t511 == t516) || (!(t512 == t517) || (!(t513.toList == t518.toList)))) = true then (quarrylaw02_CalcNulls.j0 k (wrap64 (3 + (wrap64 (Int.tmod (IntKind.u64.wrap (a0)) 14)))) t514 true a1_0 a1_1 a1_2 t511 t512 t513) else (if t514 = t519 then (if t524 = 0 then (if bt526.2.2.2 = 0 then (if (!(t521 == 0) || (!(t522 == 0) || (!(t523.toList == ([] : List UInt8))))) = true then (quarrylaw02_CalcNulls.j0 k (wrap64 (3 + (wrap64 (Int.tmod (IntKind.u64.wrap (a0)) 14)))) t514 true a1_0 a1_1 a1_2 t511 t512 t513) else (quarrylaw02_CalcNulls.j0 k (wrap64 (3 + (wrap64 (Int.tmod (IntKind.u64.wrap (a0)) 14)))) t514 (!(bt526.1 == 0) || (!(bt526.2.1 == 0) || (!(bt526.2.2.1.toList == ([] : List UInt8))))) a1_0 a1_1 a1_2 t511 t512 t513)) else (quarrylaw02_CalcNulls.j0 k (wrap64 (3 + (wrap64 (Int.tmod (IntKind.u64.wrap (a0)) 14)))) t514 true a1_0 a1_1 a1_2 t511 t512 t513)) else (quarrylaw02_CalcNulls.j0 k (wrap64 (3 + (wrap64 (Int.tmod (IntKind.u64.wrap (a0)) 14)))) t514 true a1_0 a1_1 a1_2 t511 t512 t513)) else (quarrylaw02_CalcNulls.j0 k (wrap64 (3 + (wrap64 (Int.tmod (IntKind.u64.wrap (a0)) 14)))) t514 true a1_0 a1_1 a1_2 t511 t512 t513)))) = some r := H
      have A9 := Aside0.mk A90
      clear A90
      replace H := Option.bind_eq_some_iff.mp H
      obtain ⟨⟨t526, t527, t528, t529⟩, A100, H⟩ := H
      replace H : (if (!(t511 == t516) || (!(t512 == t517) || (!(t513.toList == t518.toList)))) = true then (quarrylaw02_CalcNulls.j0 k (wrap64 (3 + (wrap64 (Int.tmod (IntKind.u64.wrap (a0)) 14)))) t514 true a1_0 a1_1 a1_2 t511 t512 t513) else (if t514 = t519 then (if t524 = 0 then (if t529 = 0 then (if (!(t521 == 0) || (!(t522 == 0) || (!(t523.toList == ([] : List UInt8))))) = true then (quarrylaw02_CalcNulls.j0 k (wrap64 (3 + (wrap64 (Int.tmod (IntKind.u64.wrap (a0)) 14)))) t514 true a1_0 a1_1 a1_2 t511 t512 t513) else (quarrylaw02_CalcNulls.j0 k (wrap64 (3 + (wrap64 (Int.tmod (IntKind.u64.wrap (a0)) 14)))) t514 (!(t526 == 0) || (!(t527 == 0) || (!(t528.toList == ([] : List UInt8))))) a1_0 a1_1 a1_2 t511 t512 t513)) else (quarrylaw02_CalcNulls.j0 k (wrap64 (3 + (wrap64 (Int.tmod (IntKind.u64.wrap (a0)) 14)))) t514 true a1_0 a1_1 a1_2 t511 t512 t513)) else (quarrylaw02_CalcNulls.j0 k (wrap64 (3 + (wrap64 (Int.tmod (IntKind.u64.wrap (a0)) 14)))) t514 true a1_0 a1_1 a1_2 t511 t512 t513)) else (quarrylaw02_CalcNulls.j0 k (wrap64 (3 + (wrap64 (Int.tmod (IntKind.u64.wrap (a0)) 14)))) t514 true a1_0 a1_1 a1_2 t511 t512 t513))) = some r := H
      have A10 := Aside0.mk A100
      clear A100
      have HC11 := Aside0.mk H
      clear H
      go_enter Try.func10, Try.ntmps10
      go_upto_region 10 with (first | ((with_reducible refine gate_dst (N := 3) rfl ?_); refine box_event ?hg (N := 3) ?hd (cs := #[.int .i64 a1_0, .int .i64 a1_1, .string a1_2]) (t := 25) ?hr ?_; (case hd => rfl); (case hg => rfl); (case hr => first | (go_simp; done) | (go_simp; rfl)); intro gb505 hg w12 hbox hb; have n0_ := Aside0.mk (below_step (by repeat (first | (with_reducible first | exact HB.out | apply below_alloc | apply pw_below_drewN | apply below_drew1) | exact HB.out)) hb); have n1_ := Aside0.mk (hbox); have n2_ := Aside0.mk ((by rw [hg]; exact (below_size (by repeat (first | (with_reducible first | exact HB.out | apply below_alloc | apply pw_below_drewN | apply below_drew1) | exact HB.out))) : w.heap.size ≤ gb505)); have n3_ := Aside0.mk ((by rw [hg]; exact (below_size (by repeat (first | (with_reducible first | exact HB.out | apply below_alloc | apply pw_below_drewN | apply below_drew1) | exact HB.out))) : w.heap.size ≤ gb505)); clear HB; have HB := n0_; have BK505 := n1_; have GW505 := n2_; have GE505 := n3_; clear n0_ n1_ n2_ n3_; clear hb hbox hg) | ((with_reducible refine gate_callee (f := 23) rfl ?_); refine goesL_ (some 13) rfl rfl Try.func23 (by kernel_rfl) rfl #[] rfl (by (try simp only [List.map_toArray, List.map_cons, List.map_nil]); first | done | rfl | (simp only [List.length_drop, List.length_take]; rfl)) ?_; (with_reducible refine (quarrylaw02_works.calls  true _ A3.out).mono ?_); rintro e w13 ⟨rfl, hb⟩; refine ⟨_, rfl, ?_⟩; have n0_ := Aside0.mk (blk_below (g := gb505) (o := .cells #[.int .i64 a1_0, .int .i64 a1_1, .string a1_2] 25 (0, 0)) (by (with_reducible repeat (first | refine blk_drewN ?_ _ | refine blk_drew ?_ | refine blk_alloc ?_ _)); exact BK505.out) hb); have n1_ := Aside0.mk (below_step (by repeat (first | (with_reducible first | exact HB.out | apply below_alloc | apply pw_below_drewN | apply below_drew1 | refine below_set ?_ GE505.out) | exact HB.out)) hb); clear BK505; clear HB; have BK505 := n0_; have HB := n1_; clear n0_ n1_; (try clear hb); (try clear hb2); (try clear hk); (try clear hi); have hcz14_0 : w13.cell? ⟨gb505, 0, none⟩ = some (.int .i64 a1_0) := (blk_cell BK505.out 0).trans rfl; have hcz14_1 : w13.cell? ⟨gb505, 1, none⟩ = some (.int .i64 a1_1) := (blk_cell BK505.out 1).trans rfl; have hcz14_2 : w13.cell? ⟨gb505, 2, none⟩ = some (.string a1_2) := (blk_cell BK505.out 2).trans rfl; have hfz14_0 := blk_frozen BK505.out 0; have hfz14_1 := blk_frozen BK505.out 1; have hfz14_2 := blk_frozen BK505.out 2) | ((with_reducible refine gate_dst (N := 16) rfl ?_); refine Kd.R_lit k25 _ 25 ?hg (N := 16) ?hd (xs := ([(⟨a1_0, a1_1, a1_2⟩ : S25)] : List (S25))) (inner := [.int .i64 a1_0, .int .i64 a1_1, .string a1_2]) (ok := fun _ => True) (okp := fun _ => True) ?hr ?hp (fun _ hk => hk) trivial (Below.refl _ _) (Nat.le_refl _) (by simp) ?_; (case hd => rfl); (case hg => rfl); (case hr => first | (go_simp; done) | (go_simp; rfl)); (case hp => exact (Reps.c3 (show Kd.M k25 _ _ _ (⟨a1_0, a1_1, a1_2⟩ : S25) [.int .i64 a1_0, .int .i64 a1_1, .string a1_2] from (k25_mkM _ _ _ (⟨a1_0, a1_1, a1_2⟩ : S25) )) (Reps.none _ _))); intro v508 w15 ho16 hb hg_ hnew_; clear hg_ hnew_; (first | rw [← Ny507.out] at ho16 | (simp only [Int.reduceToNat] at ho16; rw [← Ny507.out] at ho16)); have n0_ := Aside0.mk (Kd.R_lower (Kd.R_newB ho16 (g := gb505) (o := .cells #[.int .i64 a1_0, .int .i64 a1_1, .string a1_2] 25 (0, 0)) (by (with_reducible repeat (first | refine blk_drewN ?_ _ | refine blk_drew ?_ | refine blk_alloc ?_ _)); exact BK505.out)) (below_size (by repeat (first | (with_reducible first | exact HB.out | apply below_alloc | apply pw_below_drewN | apply below_drew1 | refine below_set ?_ GE505.out) | exact HB.out)))); have n1_ := Aside0.mk (blk_below (g := gb505) (o := .cells #[.int .i64 a1_0, .int .i64 a1_1, .string a1_2] 25 (0, 0)) (by (with_reducible repeat (first | refine blk_drewN ?_ _ | refine blk_drew ?_ | refine blk_alloc ?_ _)); exact BK505.out) hb); have n2_ := Aside0.mk (below_step (by repeat (first | (with_reducible first | exact HB.out | apply below_alloc | apply pw_below_drewN | apply below_drew1 | refine below_set ?_ GE505.out) | exact HB.out)) hb); clear BK505; clear HB; have HO509 := n0_; have BK505 := n1_; have HB := n2_; clear n0_ n1_ n2_; clear hb ho16; obtain ⟨Ao17, co17, eo17⟩ := Kd.R_slice HO509.out; subst eo17) | ((with_reducible refine gate_callee (f := 11) rfl ?_); refine goesL_ (some 17) rfl rfl Try.func11 (by kernel_rfl) rfl #[.slice Ao17 y507.length co17] rfl (by (try simp only [List.map_toArray, List.map_cons, List.map_nil]); first | done | rfl | (simp only [List.length_drop, List.length_take]; rfl)) ?_; (with_reducible refine (quarrylaw02_right.calls k _ _ y507 true _ ?side1 ?side2 A5.out).mono ?_); (case side1 => repeat (first | exact (Kd.R_reads' HO509.out).2.2 | (with_reducible refine Kd.C_alloc ?_ _) | (with_reducible refine Kd.C_drewN ?_ _) | (with_reducible refine Kd.C_drew ?_))); (case side2 => exact (Kd.R_reads' HO509.out).2.1); rintro e w18 ⟨rfl, hb⟩; refine ⟨_, rfl, ?_⟩; have n0_ := Aside0.mk (Kd.R_below (by (with_reducible repeat (first | apply Kd.R_alloc | apply Kd.R_drewN | apply Kd.R_drew)); exact HO509.out) hb); have n1_ := Aside0.mk (blk_below (g := gb505) (o := .cells #[.int .i64 a1_0, .int .i64 a1_1, .string a1_2] 25 (0, 0)) (by (with_reducible repeat (first | refine blk_drewN ?_ _ | refine blk_drew ?_ | refine blk_alloc ?_ _)); exact BK505.out) hb); have n2_ := Aside0.mk (below_step (by repeat (first | (with_reducible first | exact HB.out | apply below_alloc | apply pw_below_drewN | apply below_drew1 | refine below_set ?_ GE505.out) | exact HB.out)) hb); clear HO509; clear BK505; clear HB; have HO509 := n0_; have BK505 := n1_; have HB := n2_; clear n0_ n1_ n2_; (try clear hb); (try clear hb2); (try clear hk); (try clear hi); have hcz19_0 : w18.cell? ⟨gb505, 0, none⟩ = some (.int .i64 a1_0) := (blk_cell BK505.out 0).trans rfl; have hcz19_1 : w18.cell? ⟨gb505, 1, none⟩ = some (.int .i64 a1_1) := (blk_cell BK505.out 1).trans rfl; have hcz19_2 : w18.cell? ⟨gb505, 2, none⟩ = some (.string a1_2) := (blk_cell BK505.out 2).trans rfl; have hfz19_0 := blk_frozen BK505.out 0; have hfz19_1 := blk_frozen BK505.out 1; have hfz19_2 := blk_frozen BK505.out 2) | ((with_reducible refine gate_callee (f := 17) rfl ?_); refine goesL_ (some 28) rfl rfl Try.func17 (by kernel_rfl) rfl #[.int .i64 (wrap64 (3 + (wrap64 (Int.tmod (IntKind.u64.wrap (a0)) 14)))), .agg #[.int .i64 a1_0, .int .i64 a1_1, .string a1_2], .agg #[.int .i64 0, .int .i64 0, .string (⟨#[]⟩ : ByteArray)]] rfl (by (try simp only [List.map_toArray, List.map_cons, List.map_nil]); first | done | rfl | (simp only [List.length_drop, List.length_take]; rfl)) ?_; (with_reducible refine (calc_Binary.print (wrap64 (3 + (wrap64 (Int.tmod (IntKind.u64.wrap (a0)) 14)))) a1_0 a1_1 a1_2 0 0 (⟨#[]⟩ : ByteArray) t511 t512 t513 t514 _ A7.out).mono ?_); rintro e w20 ⟨rfl, hb⟩; refine ⟨_, rfl, ?_⟩; have n0_ := Aside0.mk (Kd.R_below (by (with_reducible repeat (first | apply Kd.R_alloc | apply Kd.R_drewN | apply Kd.R_drew)); exact HO509.out) hb); have n1_ := Aside0.mk (blk_below (g := gb505) (o := .cells #[.int .i64 a1_0, .int .i64 a1_1, .string a1_2] 25 (0, 0)) (by (with_reducible repeat (first | refine blk_drewN ?_ _ | refine blk_drew ?_ | refine blk_alloc ?_ _)); exact BK505.out) hb); have n2_ := Aside0.mk (below_step (by repeat (first | (with_reducible first | exact HB.out | apply below_alloc | apply pw_below_drewN | apply below_drew1 | refine below_set ?_ GE505.out) | exact HB.out)) hb); clear HO509; clear BK505; clear HB; have HO509 := n0_; have BK505 := n1_; have HB := n2_; clear n0_ n1_ n2_; (try clear hb); (try clear hb2); (try clear hk); (try clear hi)) | ((with_reducible refine gate_dst (N := 5) rfl ?_); refine box_event ?hg (N := 5) ?hd (cs := #[.int .i64 0, .int .i64 0, .string (⟨#[]⟩ : ByteArray)]) (t := 25) ?hr ?_; (case hd => rfl); (case hg => rfl); (case hr => first | (go_simp; done) | (go_simp; rfl)); intro gb515 hg w21 hbox hb; have n0_ := Aside0.mk (Kd.R_below (Kd.R_elderB (by (with_reducible repeat (first | apply Kd.R_alloc | apply Kd.R_drewN | apply Kd.R_drew)); exact HO509.out) gb515 (Nat.le_of_eq hg.symm)) hb); have n1_ := Aside0.mk (blk_below (g := gb505) (o := .cells #[.int .i64 a1_0, .int .i64 a1_1, .string a1_2] 25 (0, 0)) (by (with_reducible repeat (first | refine blk_drewN ?_ _ | refine blk_drew ?_ | refine blk_alloc ?_ _)); exact BK505.out) hb); have n2_ := Aside0.mk (below_step (by repeat (first | (with_reducible first | exact HB.out | apply below_alloc | apply pw_below_drewN | apply below_drew1 | refine below_set ?_ GE505.out) | exact HB.out)) hb); have n3_ := Aside0.mk (hbox); have n4_ := Aside0.mk ((by rw [hg]; exact (below_size (by repeat (first | (with_reducible first | exact HB.out | apply below_alloc | apply pw_below_drewN | apply below_drew1 | refine below_set ?_ GE505.out) | exact HB.out))) : w.heap.size ≤ gb515)); have n5_ := Aside0.mk ((by rw [hg]; exact (below_size (by repeat (first | (with_reducible first | exact HB.out | apply below_alloc | apply pw_below_drewN | apply below_drew1 | refine below_set ?_ GE505.out) | exact HB.out))) : w.heap.size ≤ gb515)); have n6_ := Aside0.mk ((by rw [hg]; exact Nat.ne_of_lt (blk_lt (g := gb505) (o := .cells #[.int .i64 a1_0, .int .i64 a1_1, .string a1_2] 25 (0, 0)) (by (with_reducible repeat (first | refine blk_drewN ?_ _ | refine blk_drew ?_ | refine blk_alloc ?_ _)); exact BK505.out)) : gb505 ≠ gb515)); have n7_ := Aside0.mk ((by rw [hg]; exact Nat.ne_of_gt (blk_lt (g := gb505) (o := .cells #[.int .i64 a1_0, .int .i64 a1_1, .string a1_2] 25 (0, 0)) (by (with_reducible repeat (first | refine blk_drewN ?_ _ | refine blk_drew ?_ | refine blk_alloc ?_ _)); exact BK505.out)) : gb515 ≠ gb505)); clear HO509; clear BK505; clear HB; have HO509 := n0_; have BK505 := n1_; have HB := n2_; have BK515 := n3_; have GW515 := n4_; have GE515 := n5_; have NB505_515 := n6_; have NB515_505 := n7_; clear n0_ n1_ n2_ n3_ n4_ n5_ n6_ n7_; clear hb hbox hg; have hnb22 := NB515_505.out; have hnc22 := NB505_515.out; have hcz23_0 : w21.cell? ⟨gb515, 0, none⟩ = some (.int .i64 0) := (blk_cell BK515.out 0).trans rfl; have hcz23_1 : w21.cell? ⟨gb515, 1, none⟩ = some (.int .i64 0) := (blk_cell BK515.out 1).trans rfl; have hcz23_2 : w21.cell? ⟨gb515, 2, none⟩ = some (.string (⟨#[]⟩ : ByteArray)) := (blk_cell BK515.out 2).trans rfl; have hfz23_0 := blk_frozen BK515.out 0; have hfz23_1 := blk_frozen BK515.out 1; have hfz23_2 := blk_frozen BK515.out 2; have hcz24_0 : w21.cell? ⟨gb505, 0, none⟩ = some (.int .i64 a1_0) := (blk_cell BK505.out 0).trans rfl; have hcz24_1 : w21.cell? ⟨gb505, 1, none⟩ = some (.int .i64 a1_1) := (blk_cell BK505.out 1).trans rfl; have hcz24_2 : w21.cell? ⟨gb505, 2, none⟩ = some (.string a1_2) := (blk_cell BK505.out 2).trans rfl; have hfz24_0 := blk_frozen BK505.out 0; have hfz24_1 := blk_frozen BK505.out 1; have hfz24_2 := blk_frozen BK505.out 2) | ((with_reducible refine gate_callee (f := 17) rfl ?_); refine goesL_ (some 35) rfl rfl Try.func17 (by kernel_rfl) rfl #[.int .i64 (wrap64 (3 + (wrap64 (Int.tmod (IntKind.u64.wrap (a0)) 14)))), .agg #[.int .i64 0, .int .i64 0, .string (⟨#[]⟩ : ByteArray)], .agg #[.int .i64 a1_0, .int .i64 a1_1, .string a1_2]] rfl (by (try simp only [List.map_toArray, List.map_cons, List.map_nil]); first | done | rfl | (simp only [List.length_drop, List.length_take]; rfl)) ?_; (with_reducible refine (calc_Binary.print (wrap64 (3 + (wrap64 (Int.tmod (IntKind.u64.wrap (a0)) 14)))) 0 0 (⟨#[]⟩ : ByteArray) a1_0 a1_1 a1_2 t516 t517 t518 t519 _ A8.out).mono ?_); rintro e w25 ⟨rfl, hb⟩; refine ⟨_, rfl, ?_⟩; have n0_ := Aside0.mk (Kd.R_below (by (with_reducible repeat (first | apply Kd.R_alloc | apply Kd.R_drewN | apply Kd.R_drew)); exact (Kd.R_mono (Kd.R_far (p := ⟨gb515, 2, none⟩) (Kd.R_far (p := ⟨gb515, 1, none⟩) (Kd.R_far (p := ⟨gb515, 0, none⟩) (Kd.R_mono HO509.out (fun k_ hk => (⟨hk, hk.2⟩ : _ ∧ k_ ≠ gb515))) (fun _ hk => hk.2) (.int .i64 t511)) (fun _ hk => hk.2) (.int .i64 t512)) (fun _ hk => hk.2) (.string t513)) (fun _ h_ => h_.1))) hb); have n1_ := Aside0.mk (blk_below (g := gb505) (o := .cells #[.int .i64 a1_0, .int .i64 a1_1, .string a1_2] 25 (0, 0)) (by (with_reducible repeat (first | refine blk_drewN ?_ _ | refine blk_drew ?_ | refine blk_alloc ?_ _)); refine blk_far ?_ NB505_515.out _; (with_reducible repeat (first | refine blk_drewN ?_ _ | refine blk_drew ?_ | refine blk_alloc ?_ _)); refine blk_far ?_ NB505_515.out _; (with_reducible repeat (first | refine blk_drewN ?_ _ | refine blk_drew ?_ | refine blk_alloc ?_ _)); refine blk_far ?_ NB505_515.out _; (with_reducible repeat (first | refine blk_drewN ?_ _ | refine blk_drew ?_ | refine blk_alloc ?_ _)); exact BK505.out) hb); have n2_ := Aside0.mk (blk_below (g := gb515) (o := .cells #[.int .i64 t511, .int .i64 t512, .string t513] 25 (0, 0)) (by (with_reducible repeat (first | refine blk_drewN ?_ _ | refine blk_drew ?_ | refine blk_alloc ?_ _)); refine blk_put (cs := #[.int .i64 t511, .int .i64 t512, .string (⟨#[]⟩ : ByteArray)]) ?_ 2 _ rfl; (with_reducible repeat (first | refine blk_drewN ?_ _ | refine blk_drew ?_ | refine blk_alloc ?_ _)); refine blk_put (cs := #[.int .i64 t511, .int .i64 0, .string (⟨#[]⟩ : ByteArray)]) ?_ 1 _ rfl; (with_reducible repeat (first | refine blk_drewN ?_ _ | refine blk_drew ?_ | refine blk_alloc ?_ _)); refine blk_put (cs := #[.int .i64 0, .int .i64 0, .string (⟨#[]⟩ : ByteArray)]) ?_ 0 _ rfl; (with_reducible repeat (first | refine blk_drewN ?_ _ | refine blk_drew ?_ | refine blk_alloc ?_ _)); exact BK515.out) hb); have n3_ := Aside0.mk (below_step (by repeat (first | (with_reducible first | exact HB.out | apply below_alloc | apply pw_below_drewN | apply below_drew1 | refine below_set ?_ GE505.out | refine below_set ?_ GE515.out) | exact HB.out)) hb); clear HO509; clear BK505; clear BK515; clear HB; have HO509 := n0_; have BK505 := n1_; have BK515 := n2_; have HB := n3_; clear n0_ n1_ n2_ n3_; (try clear hb); (try clear hb2); (try clear hk); (try clear hi)) | ((with_reducible refine gate_dst (N := 7) rfl ?_); refine box_event ?hg (N := 7) ?hd (cs := #[.int .i64 0, .int .i64 0, .string (⟨#[]⟩ : ByteArray)]) (t := 25) ?hr ?_; (case hd => rfl); (case hg => rfl); (case hr => first | (go_simp; done) | (go_simp; rfl)); intro gb520 hg w26 hbox hb; have n0_ := Aside0.mk (Kd.R_below (Kd.R_elderB (by (with_reducible repeat (first | apply Kd.R_alloc | apply Kd.R_drewN | apply Kd.R_drew)); exact HO509.out) gb520 (Nat.le_of_eq hg.symm)) hb); have n1_ := Aside0.mk (blk_below (g := gb505) (o := .cells #[.int .i64 a1_0, .int .i64 a1_1, .string a1_2] 25 (0, 0)) (by (with_reducible repeat (first | refine blk_drewN ?_ _ | refine blk_drew ?_ | refine blk_alloc ?_ _)); exact BK505.out) hb); have n2_ := Aside0.mk (blk_below (g := gb515) (o := .cells #[.int .i64 t511, .int .i64 t512, .string t513] 25 (0, 0)) (by (with_reducible repeat (first | refine blk_drewN ?_ _ | refine blk_drew ?_ | refine blk_alloc ?_ _)); exact BK515.out) hb); have n3_ := Aside0.mk (below_step (by repeat (first | (with_reducible first | exact HB.out | apply below_alloc | apply pw_below_drewN | apply below_drew1 | refine below_set ?_ GE505.out | refine below_set ?_ GE515.out) | exact HB.out)) hb); have n4_ := Aside0.mk (hbox); have n5_ := Aside0.mk ((by rw [hg]; exact (below_size (by repeat (first | (with_reducible first | exact HB.out | apply below_alloc | apply pw_below_drewN | apply below_drew1 | refine below_set ?_ GE505.out | refine below_set ?_ GE515.out) | exact HB.out))) : w.heap.size ≤ gb520)); have n6_ := Aside0.mk ((by rw [hg]; exact (below_size (by repeat (first | (with_reducible first | exact HB.out | apply below_alloc | apply pw_below_drewN | apply below_drew1 | refine below_set ?_ GE505.out | refine below_set ?_ GE515.out) | exact HB.out))) : w.heap.size ≤ gb520)); have n7_ := Aside0.mk ((by rw [hg]; exact Nat.ne_of_lt (blk_lt (g := gb505) (o := .cells #[.int .i64 a1_0, .int .i64 a1_1, .string a1_2] 25 (0, 0)) (by (with_reducible repeat (first | refine blk_drewN ?_ _ | refine blk_drew ?_ | refine blk_alloc ?_ _)); exact BK505.out)) : gb505 ≠ gb520)); have n8_ := Aside0.mk ((by rw [hg]; exact Nat.ne_of_gt (blk_lt (g := gb505) (o := .cells #[.int .i64 a1_0, .int .i64 a1_1, .string a1_2] 25 (0, 0)) (by (with_reducible repeat (first | refine blk_drewN ?_ _ | refine blk_drew ?_ | refine blk_alloc ?_ _)); exact BK505.out)) : gb520 ≠ gb505)); have n9_ := Aside0.mk ((by rw [hg]; exact Nat.ne_of_lt (blk_lt (g := gb515) (o := .cells #[.int .i64 t511, .int .i64 t512, .string t513] 25 (0, 0)) (by (with_reducible repeat (first | refine blk_drewN ?_ _ | refine blk_drew ?_ | refine blk_alloc ?_ _)); exact BK515.out)) : gb515 ≠ gb520)); have n10_ := Aside0.mk ((by rw [hg]; exact Nat.ne_of_gt (blk_lt (g := gb515) (o := .cells #[.int .i64 t511, .int .i64 t512, .string t513] 25 (0, 0)) (by (with_reducible repeat (first | refine blk_drewN ?_ _ | refine blk_drew ?_ | refine blk_alloc ?_ _)); exact BK515.out)) : gb520 ≠ gb515)); clear HO509; clear BK505; clear BK515; clear HB; have HO509 := n0_; have BK505 := n1_; have BK515 := n2_; have HB := n3_; have BK520 := n4_; have GW520 := n5_; have GE520 := n6_; have NB505_520 := n7_; have NB520_505 := n8_; have NB515_520 := n9_; have NB520_515 := n10_; clear n0_ n1_ n2_ n3_ n4_ n5_ n6_ n7_ n8_ n9_ n10_; clear hb hbox hg; have hnb27 := NB520_505.out; have hnc27 := NB505_520.out; have hnb28 := NB520_515.out; have hnc28 := NB515_520.out; have hcz29_0 : w26.cell? ⟨gb520, 0, none⟩ = some (.int .i64 0) := (blk_cell BK520.out 0).trans rfl; have hcz29_1 : w26.cell? ⟨gb520, 1, none⟩ = some (.int .i64 0) := (blk_cell BK520.out 1).trans rfl; have hcz29_2 : w26.cell? ⟨gb520, 2, none⟩ = some (.string (⟨#[]⟩ : ByteArray)) := (blk_cell BK520.out 2).trans rfl; have hfz29_0 := blk_frozen BK520.out 0; have hfz29_1 := blk_frozen BK520.out 1; have hfz29_2 := blk_frozen BK520.out 2) | ((with_reducible refine gate_callee (f := 19) rfl ?_); refine goesL_ (some 40) rfl rfl Try.func19 (by kernel_rfl) rfl #[.int .i64 2, .agg #[.int .i64 0, .int .i64 0, .string (⟨#[]⟩ : ByteArray)]] rfl (by (try simp only [List.map_toArray, List.map_cons, List.map_nil]); first | done | rfl | (simp only [List.length_drop, List.length_take]; rfl)) ?_; (with_reducible refine (calc_Unary.print 2 0 0 (⟨#[]⟩ : ByteArray) t521 t522 t523 t524 _ A9.out).mono ?_); rintro e w30 ⟨rfl, hb⟩; refine ⟨_, rfl, ?_⟩; have n0_ := Aside0.mk (Kd.R_below (by (with_reducible repeat (first | apply Kd.R_alloc | apply Kd.R_drewN | apply Kd.R_drew)); exact (Kd.R_mono (Kd.R_far (p := ⟨gb520, 2, none⟩) (Kd.R_far (p := ⟨gb520, 1, none⟩) (Kd.R_far (p := ⟨gb520, 0, none⟩) (Kd.R_mono HO509.out (fun k_ hk => (⟨hk, hk.2⟩ : _ ∧ k_ ≠ gb520))) (fun _ hk => hk.2) (.int .i64 t516)) (fun _ hk => hk.2) (.int .i64 t517)) (fun _ hk => hk.2) (.string t518)) (fun _ h_ => h_.1))) hb); have n1_ := Aside0.mk (blk_below (g := gb505) (o := .cells #[.int .i64 a1_0, .int .i64 a1_1, .string a1_2] 25 (0, 0)) (by (with_reducible repeat (first | refine blk_drewN ?_ _ | refine blk_drew ?_ | refine blk_alloc ?_ _)); refine blk_far ?_ NB505_520.out _; (with_reducible repeat (first | refine blk_drewN ?_ _ | refine blk_drew ?_ | refine blk_alloc ?_ _)); refine blk_far ?_ NB505_520.out _; (with_reducible repeat (first | refine blk_drewN ?_ _ | refine blk_drew ?_ | refine blk_alloc ?_ _)); refine blk_far ?_ NB505_520.out _; (with_reducible repeat (first | refine blk_drewN ?_ _ | refine blk_drew ?_ | refine blk_alloc ?_ _)); exact BK505.out) hb); have n2_ := Aside0.mk (blk_below (g := gb515) (o := .cells #[.int .i64 t511, .int .i64 t512, .string t513] 25 (0, 0)) (by (with_reducible repeat (first | refine blk_drewN ?_ _ | refine blk_drew ?_ | refine blk_alloc ?_ _)); refine blk_far ?_ NB515_520.out _; (with_reducible repeat (first | refine blk_drewN ?_ _ | refine blk_drew ?_ | refine blk_alloc ?_ _)); refine blk_far ?_ NB515_520.out _; (with_reducible repeat (first | refine blk_drewN ?_ _ | refine blk_drew ?_ | refine blk_alloc ?_ _)); refine blk_far ?_ NB515_520.out _; (with_reducible repeat (first | refine blk_drewN ?_ _ | refine blk_drew ?_ | refine blk_alloc ?_ _)); exact BK515.out) hb); have n3_ := Aside0.mk (blk_below (g := gb520) (o := .cells #[.int .i64 t516, .int .i64 t517, .string t518] 25 (0, 0)) (by (with_reducible repeat (first | refine blk_drewN ?_ _ | refine blk_drew ?_ | refine blk_alloc ?_ _)); refine blk_put (cs := #[.int .i64 t516, .int .i64 t517, .string (⟨#[]⟩ : ByteArray)]) ?_ 2 _ rfl; (with_reducible repeat (first | refine blk_drewN ?_ _ | refine blk_drew ?_ | refine blk_alloc ?_ _)); refine blk_put (cs := #[.int .i64 t516, .int .i64 0, .string (⟨#[]⟩ : ByteArray)]) ?_ 1 _ rfl; (with_reducible repeat (first | refine blk_drewN ?_ _ | refine blk_drew ?_ | refine blk_alloc ?_ _)); refine blk_put (cs := #[.int .i64 0, .int .i64 0, .string (⟨#[]⟩ : ByteArray)]) ?_ 0 _ rfl; (with_reducible repeat (first | refine blk_drewN ?_ _ | refine blk_drew ?_ | refine blk_alloc ?_ _)); exact BK520.out) hb); have n4_ := Aside0.mk (below_step (by repeat (first | (with_reducible first | exact HB.out | apply below_alloc | apply pw_below_drewN | apply below_drew1 | refine below_set ?_ GE505.out | refine below_set ?_ GE515.out | refine below_set ?_ GE520.out) | exact HB.out)) hb); clear HO509; clear BK505; clear BK515; clear BK520; clear HB; have HO509 := n0_; have BK505 := n1_; have BK515 := n2_; have BK520 := n3_; have HB := n4_; clear n0_ n1_ n2_ n3_ n4_; (try clear hb); (try clear hb2); (try clear hk); (try clear hi)) | ((with_reducible refine gate_dst (N := 9) rfl ?_); refine box_event ?hg (N := 9) ?hd (cs := #[.int .i64 0, .int .i64 0, .string (⟨#[]⟩ : ByteArray)]) (t := 25) ?hr ?_; (case hd => rfl); (case hg => rfl); (case hr => first | (go_simp; done) | (go_simp; rfl)); intro gb525 hg w31 hbox hb; have n0_ := Aside0.mk (Kd.R_below (Kd.R_elderB (by (with_reducible repeat (first | apply Kd.R_alloc | apply Kd.R_drewN | apply Kd.R_drew)); exact HO509.out) gb525 (Nat.le_of_eq hg.symm)) hb); have n1_ := Aside0.mk (blk_below (g := gb505) (o := .cells #[.int .i64 a1_0, .int .i64 a1_1, .string a1_2] 25 (0, 0)) (by (with_reducible repeat (first | refine blk_drewN ?_ _ | refine blk_drew ?_ | refine blk_alloc ?_ _)); exact BK505.out) hb); have n2_ := Aside0.mk (blk_below (g := gb515) (o := .cells #[.int .i64 t511, .int .i64 t512, .string t513] 25 (0, 0)) (by (with_reducible repeat (first | refine blk_drewN ?_ _ | refine blk_drew ?_ | refine blk_alloc ?_ _)); exact BK515.out) hb); have n3_ := Aside0.mk (blk_below (g := gb520) (o := .cells #[.int .i64 t516, .int .i64 t517, .string t518] 25 (0, 0)) (by (with_reducible repeat (first | refine blk_drewN ?_ _ | refine blk_drew ?_ | refine blk_alloc ?_ _)); exact BK520.out) hb); have n4_ := Aside0.mk (below_step (by repeat (first | (with_reducible first | exact HB.out | apply below_alloc | apply pw_below_drewN | apply below_drew1 | refine below_set ?_ GE505.out | refine below_set ?_ GE515.out | refine below_set ?_ GE520.out) | exact HB.out)) hb); have n5_ := Aside0.mk (hbox); have n6_ := Aside0.mk ((by rw [hg]; exact (below_size (by repeat (first | (with_reducible first | exact HB.out | apply below_alloc | apply pw_below_drewN | apply below_drew1 | refine below_set ?_ GE505.out | refine below_set ?_ GE515.out | refine below_set ?_ GE520.out) | exact HB.out))) : w.heap.size ≤ gb525)); have n7_ := Aside0.mk ((by rw [hg]; exact (below_size (by repeat (first | (with_reducible first | exact HB.out | apply below_alloc | apply pw_below_drewN | apply below_drew1 | refine below_set ?_ GE505.out | refine below_set ?_ GE515.out | refine below_set ?_ GE520.out) | exact HB.out))) : w.heap.size ≤ gb525)); have n8_ := Aside0.mk ((by rw [hg]; exact Nat.ne_of_lt (blk_lt (g := gb505) (o := .cells #[.int .i64 a1_0, .int .i64 a1_1, .string a1_2] 25 (0, 0)) (by (with_reducible repeat (first | refine blk_drewN ?_ _ | refine blk_drew ?_ | refine blk_alloc ?_ _)); exact BK505.out)) : gb505 ≠ gb525)); have n9_ := Aside0.mk ((by rw [hg]; exact Nat.ne_of_gt (blk_lt (g := gb505) (o := .cells #[.int .i64 a1_0, .int .i64 a1_1, .string a1_2] 25 (0, 0)) (by (with_reducible repeat (first | refine blk_drewN ?_ _ | refine blk_drew ?_ | refine blk_alloc ?_ _)); exact BK505.out)) : gb525 ≠ gb505)); have n10_ := Aside0.mk ((by rw [hg]; exact Nat.ne_of_lt (blk_lt (g := gb515) (o := .cells #[.int .i64 t511, .int .i64 t512, .string t513] 25 (0, 0)) (by (with_reducible repeat (first | refine blk_drewN ?_ _ | refine blk_drew ?_ | refine blk_alloc ?_ _)); exact BK515.out)) : gb515 ≠ gb525)); have n11_ := Aside0.mk ((by rw [hg]; exact Nat.ne_of_gt (blk_lt (g := gb515) (o := .cells #[.int .i64 t511, .int .i64 t512, .string t513] 25 (0, 0)) (by (with_reducible repeat (first | refine blk_drewN ?_ _ | refine blk_drew ?_ | refine blk_alloc ?_ _)); exact BK515.out)) : gb525 ≠ gb515)); have n12_ := Aside0.mk ((by rw [hg]; exact Nat.ne_of_lt (blk_lt (g := gb520) (o := .cells #[.int .i64 t516, .int .i64 t517, .string t518] 25 (0, 0)) (by (with_reducible repeat (first | refine blk_drewN ?_ _ | refine blk_drew ?_ | refine blk_alloc ?_ _)); exact BK520.out)) : gb520 ≠ gb525)); have n13_ := Aside0.mk ((by rw [hg]; exact Nat.ne_of_gt (blk_lt (g := gb520) (o := .cells #[.int .i64 t516, .int .i64 t517, .string t518] 25 (0, 0)) (by (with_reducible repeat (first | refine blk_drewN ?_ _ | refine blk_drew ?_ | refine blk_alloc ?_ _)); exact BK520.out)) : gb525 ≠ gb520)); clear HO509; clear BK505; clear BK515; clear BK520; clear HB; have HO509 := n0_; have BK505 := n1_; have BK515 := n2_; have BK520 := n3_; have HB := n4_; have BK525 := n5_; have GW525 := n6_; have GE525 := n7_; have NB505_525 := n8_; have NB525_505 := n9_; have NB515_525 := n10_; have NB525_515 := n11_; have NB520_525 := n12_; have NB525_520 := n13_; clear n0_ n1_ n2_ n3_ n4_ n5_ n6_ n7_ n8_ n9_ n10_ n11_ n12_ n13_; clear hb hbox hg; have hnb32 := NB525_505.out; have hnc32 := NB505_525.out; have hnb33 := NB525_515.out; have hnc33 := NB515_525.out; have hnb34 := NB525_520.out; have hnc34 := NB520_525.out; have hcz35_0 : w31.cell? ⟨gb525, 0, none⟩ = some (.int .i64 0) := (blk_cell BK525.out 0).trans rfl; have hcz35_1 : w31.cell? ⟨gb525, 1, none⟩ = some (.int .i64 0) := (blk_cell BK525.out 1).trans rfl; have hcz35_2 : w31.cell? ⟨gb525, 2, none⟩ = some (.string (⟨#[]⟩ : ByteArray)) := (blk_cell BK525.out 2).trans rfl; have hfz35_0 := blk_frozen BK525.out 0; have hfz35_1 := blk_frozen BK525.out 1; have hfz35_2 := blk_frozen BK525.out 2) | ((with_reducible refine gate_callee (f := 19) rfl ?_); refine goesL_ (some 45) rfl rfl Try.func19 (by kernel_rfl) rfl #[.int .i64 1, .agg #[.int .i64 0, .int .i64 0, .string (⟨#[]⟩ : ByteArray)]] rfl (by (try simp only [List.map_toArray, List.map_cons, List.map_nil]); first | done | rfl | (simp only [List.length_drop, List.length_take]; rfl)) ?_; (with_reducible refine (calc_Unary.print 1 0 0 (⟨#[]⟩ : ByteArray) t526 t527 t528 t529 _ A10.out).mono ?_); rintro e w36 ⟨rfl, hb⟩; refine ⟨_, rfl, ?_⟩; have n0_ := Aside0.mk (Kd.R_below (by (with_reducible repeat (first | apply Kd.R_alloc | apply Kd.R_drewN | apply Kd.R_drew)); exact (Kd.R_mono (Kd.R_far (p := ⟨gb525, 2, none⟩) (Kd.R_far (p := ⟨gb525, 1, none⟩) (Kd.R_far (p := ⟨gb525, 0, none⟩) (Kd.R_mono HO509.out (fun k_ hk => (⟨hk, hk.2⟩ : _ ∧ k_ ≠ gb525))) (fun _ hk => hk.2) (.int .i64 t521)) (fun _ hk => hk.2) (.int .i64 t522)) (fun _ hk => hk.2) (.string t523)) (fun _ h_ => h_.1))) hb); have n1_ := Aside0.mk (blk_below (g := gb505) (o := .cells #[.int .i64 a1_0, .int .i64 a1_1, .string a1_2] 25 (0, 0)) (by (with_reducible repeat (first | refine blk_drewN ?_ _ | refine blk_drew ?_ | refine blk_alloc ?_ _)); refine blk_far ?_ NB505_525.out _; (with_reducible repeat (first | refine blk_drewN ?_ _ | refine blk_drew ?_ | refine blk_alloc ?_ _)); refine blk_far ?_ NB505_525.out _; (with_reducible repeat (first | refine blk_drewN ?_ _ | refine blk_drew ?_ | refine blk_alloc ?_ _)); refine blk_far ?_ NB505_525.out _; (with_reducible repeat (first | refine blk_drewN ?_ _ | refine blk_drew ?_ | refine blk_alloc ?_ _)); exact BK505.out) hb); have n2_ := Aside0.mk (blk_below (g := gb515) (o := .cells #[.int .i64 t511, .int .i64 t512, .string t513] 25 (0, 0)) (by (with_reducible repeat (first | refine blk_drewN ?_ _ | refine blk_drew ?_ | refine blk_alloc ?_ _)); refine blk_far ?_ NB515_525.out _; (with_reducible repeat (first | refine blk_drewN ?_ _ | refine blk_drew ?_ | refine blk_alloc ?_ _)); refine blk_far ?_ NB515_525.out _; (with_reducible repeat (first | refine blk_drewN ?_ _ | refine blk_drew ?_ | refine blk_alloc ?_ _)); refine blk_far ?_ NB515_525.out _; (with_reducible repeat (first | refine blk_drewN ?_ _ | refine blk_drew ?_ | refine blk_alloc ?_ _)); exact BK515.out) hb); have n3_ := Aside0.mk (blk_below (g := gb520) (o := .cells #[.int .i64 t516, .int .i64 t517, .string t518] 25 (0, 0)) (by (with_reducible repeat (first | refine blk_drewN ?_ _ | refine blk_drew ?_ | refine blk_alloc ?_ _)); refine blk_far ?_ NB520_525.out _; (with_reducible repeat (first | refine blk_drewN ?_ _ | refine blk_drew ?_ | refine blk_alloc ?_ _)); refine blk_far ?_ NB520_525.out _; (with_reducible repeat (first | refine blk_drewN ?_ _ | refine blk_drew ?_ | refine blk_alloc ?_ _)); refine blk_far ?_ NB520_525.out _; (with_reducible repeat (first | refine blk_drewN ?_ _ | refine blk_drew ?_ | refine blk_alloc ?_ _)); exact BK520.out) hb); have n4_ := Aside0.mk (blk_below (g := gb525) (o := .cells #[.int .i64 t521, .int .i64 t522, .string t523] 25 (0, 0)) (by (with_reducible repeat (first | refine blk_drewN ?_ _ | refine blk_drew ?_ | refine blk_alloc ?_ _)); refine blk_put (cs := #[.int .i64 t521, .int .i64 t522, .string (⟨#[]⟩ : ByteArray)]) ?_ 2 _ rfl; (with_reducible repeat (first | refine blk_drewN ?_ _ | refine blk_drew ?_ | refine blk_alloc ?_ _)); refine blk_put (cs := #[.int .i64 t521, .int .i64 0, .string (⟨#[]⟩ : ByteArray)]) ?_ 1 _ rfl; (with_reducible repeat (first | refine blk_drewN ?_ _ | refine blk_drew ?_ | refine blk_alloc ?_ _)); refine blk_put (cs := #[.int .i64 0, .int .i64 0, .string (⟨#[]⟩ : ByteArray)]) ?_ 0 _ rfl; (with_reducible repeat (first | refine blk_drewN ?_ _ | refine blk_drew ?_ | refine blk_alloc ?_ _)); exact BK525.out) hb); have n5_ := Aside0.mk (below_step (by repeat (first | (with_reducible first | exact HB.out | apply below_alloc | apply pw_below_drewN | apply below_drew1 | refine below_set ?_ GE505.out | refine below_set ?_ GE515.out | refine below_set ?_ GE520.out | refine below_set ?_ GE525.out) | exact HB.out)) hb); clear HO509; clear BK505; clear BK515; clear BK520; clear BK525; clear HB; have HO509 := n0_; have BK505 := n1_; have BK515 := n2_; have BK520 := n3_; have BK525 := n4_; have HB := n5_; clear n0_ n1_ n2_ n3_ n4_ n5_; (try clear hb); (try clear hb2); (try clear hk); (try clear hi)) | ((with_reducible refine gate_dst (N := 11) rfl ?_); refine box_event ?hg (N := 11) ?hd (cs := #[.int .i64 0, .int .i64 0, .string (⟨#[]⟩ : ByteArray)]) (t := 25) ?hr ?_; (case hd => rfl); (case hg => rfl); (case hr => first | (go_simp; done) | (go_simp; rfl)); intro gb530 hg w37 hbox hb; have n0_ := Aside0.mk (Kd.R_below (Kd.R_elderB (by (with_reducible repeat (first | apply Kd.R_alloc | apply Kd.R_drewN | apply Kd.R_drew)); exact HO509.out) gb530 (Nat.le_of_eq hg.symm)) hb); have n1_ := Aside0.mk (blk_below (g := gb505) (o := .cells #[.int .i64 a1_0, .int .i64 a1_1, .string a1_2] 25 (0, 0)) (by (with_reducible repeat (first | refine blk_drewN ?_ _ | refine blk_drew ?_ | refine blk_alloc ?_ _)); exact BK505.out) hb); have n2_ := Aside0.mk (blk_below (g := gb515) (o := .cells #[.int .i64 t511, .int .i64 t512, .string t513] 25 (0, 0)) (by (with_reducible repeat (first | refine blk_drewN ?_ _ | refine blk_drew ?_ | refine blk_alloc ?_ _)); exact BK515.out) hb); have n3_ := Aside0.mk (blk_below (g := gb520) (o := .cells #[.int .i64 t516, .int .i64 t517, .string t518] 25 (0, 0)) (by (with_reducible repeat (first | refine blk_drewN ?_ _ | refine blk_drew ?_ | refine blk_alloc ?_ _)); exact BK520.out) hb); have n4_ := Aside0.mk (blk_below (g := gb525) (o := .cells #[.int .i64 t521, .int .i64 t522, .string t523] 25 (0, 0)) (by (with_reducible repeat (first | refine blk_drewN ?_ _ | refine blk_drew ?_ | refine blk_alloc ?_ _)); exact BK525.out) hb); have n5_ := Aside0.mk (below_step (by repeat (first | (with_reducible first | exact HB.out | apply below_alloc | apply pw_below_drewN | apply below_drew1 | refine below_set ?_ GE505.out | refine below_set ?_ GE515.out | refine below_set ?_ GE520.out | refine below_set ?_ GE525.out) | exact HB.out)) hb); have n6_ := Aside0.mk (hbox); have n7_ := Aside0.mk ((by rw [hg]; exact (below_size (by repeat (first | (with_reducible first | exact HB.out | apply below_alloc | apply pw_below_drewN | apply below_drew1 | refine below_set ?_ GE505.out | refine below_set ?_ GE515.out | refine below_set ?_ GE520.out | refine below_set ?_ GE525.out) | exact HB.out))) : w.heap.size ≤ gb530)); have n8_ := Aside0.mk ((by rw [hg]; exact (below_size (by repeat (first | (with_reducible first | exact HB.out | apply below_alloc | apply pw_below_drewN | apply below_drew1 | refine below_set ?_ GE505.out | refine below_set ?_ GE515.out | refine below_set ?_ GE520.out | refine below_set ?_ GE525.out) | exact HB.out))) : w.heap.size ≤ gb530)); have n9_ := Aside0.mk ((by rw [hg]; exact Nat.ne_of_lt (blk_lt (g := gb505) (o := .cells #[.int .i64 a1_0, .int .i64 a1_1, .string a1_2] 25 (0, 0)) (by (with_reducible repeat (first | refine blk_drewN ?_ _ | refine blk_drew ?_ | refine blk_alloc ?_ _)); exact BK505.out)) : gb505 ≠ gb530)); have n10_ := Aside0.mk ((by rw [hg]; exact Nat.ne_of_gt (blk_lt (g := gb505) (o := .cells #[.int .i64 a1_0, .int .i64 a1_1, .string a1_2] 25 (0, 0)) (by (with_reducible repeat (first | refine blk_drewN ?_ _ | refine blk_drew ?_ | refine blk_alloc ?_ _)); exact BK505.out)) : gb530 ≠ gb505)); have n11_ := Aside0.mk ((by rw [hg]; exact Nat.ne_of_lt (blk_lt (g := gb515) (o := .cells #[.int .i64 t511, .int .i64 t512, .string t513] 25 (0, 0)) (by (with_reducible repeat (first | refine blk_drewN ?_ _ | refine blk_drew ?_ | refine blk_alloc ?_ _)); exact BK515.out)) : gb515 ≠ gb530)); have n12_ := Aside0.mk ((by rw [hg]; exact Nat.ne_of_gt (blk_lt (g := gb515) (o := .cells #[.int .i64 t511, .int .i64 t512, .string t513] 25 (0, 0)) (by (with_reducible repeat (first | refine blk_drewN ?_ _ | refine blk_drew ?_ | refine blk_alloc ?_ _)); exact BK515.out)) : gb530 ≠ gb515)); have n13_ := Aside0.mk ((by rw [hg]; exact Nat.ne_of_lt (blk_lt (g := gb520) (o := .cells #[.int .i64 t516, .int .i64 t517, .string t518] 25 (0, 0)) (by (with_reducible repeat (first | refine blk_drewN ?_ _ | refine blk_drew ?_ | refine blk_alloc ?_ _)); exact BK520.out)) : gb520 ≠ gb530)); have n14_ := Aside0.mk ((by rw [hg]; exact Nat.ne_of_gt (blk_lt (g := gb520) (o := .cells #[.int .i64 t516, .int .i64 t517, .string t518] 25 (0, 0)) (by (with_reducible repeat (first | refine blk_drewN ?_ _ | refine blk_drew ?_ | refine blk_alloc ?_ _)); exact BK520.out)) : gb530 ≠ gb520)); have n15_ := Aside0.mk ((by rw [hg]; exact Nat.ne_of_lt (blk_lt (g := gb525) (o := .cells #[.int .i64 t521, .int .i64 t522, .string t523] 25 (0, 0)) (by (with_reducible repeat (first | refine blk_drewN ?_ _ | refine blk_drew ?_ | refine blk_alloc ?_ _)); exact BK525.out)) : gb525 ≠ gb530)); have n16_ := Aside0.mk ((by rw [hg]; exact Nat.ne_of_gt (blk_lt (g := gb525) (o := .cells #[.int .i64 t521, .int .i64 t522, .string t523] 25 (0, 0)) (by (with_reducible repeat (first | refine blk_drewN ?_ _ | refine blk_drew ?_ | refine blk_alloc ?_ _)); exact BK525.out)) : gb530 ≠ gb525)); clear HO509; clear BK505; clear BK515; clear BK520; clear BK525; clear HB; have HO509 := n0_; have BK505 := n1_; have BK515 := n2_; have BK520 := n3_; have BK525 := n4_; have HB := n5_; have BK530 := n6_; have GW530 := n7_; have GE530 := n8_; have NB505_530 := n9_; have NB530_505 := n10_; have NB515_530 := n11_; have NB530_515 := n12_; have NB520_530 := n13_; have NB530_520 := n14_; have NB525_530 := n15_; have NB530_525 := n16_; clear n0_ n1_ n2_ n3_ n4_ n5_ n6_ n7_ n8_ n9_ n10_ n11_ n12_ n13_ n14_ n15_ n16_; clear hb hbox hg; have hnb38 := NB530_505.out; have hnc38 := NB505_530.out; have hnb39 := NB530_515.out; have hnc39 := NB515_530.out; have hnb40 := NB530_520.out; have hnc40 := NB520_530.out; have hnb41 := NB530_525.out; have hnc41 := NB525_530.out; have hcz42_0 : w37.cell? ⟨gb530, 0, none⟩ = some (.int .i64 0) := (blk_cell BK530.out 0).trans rfl; have hcz42_1 : w37.cell? ⟨gb530, 1, none⟩ = some (.int .i64 0) := (blk_cell BK530.out 1).trans rfl; have hcz42_2 : w37.cell? ⟨gb530, 2, none⟩ = some (.string (⟨#[]⟩ : ByteArray)) := (blk_cell BK530.out 2).trans rfl; have hfz42_0 := blk_frozen BK530.out 0; have hfz42_1 := blk_frozen BK530.out 1; have hfz42_2 := blk_frozen BK530.out 2))
      (try simp only [Act.put, List.setIfInBounds_toArray, List.set_cons_zero, List.set_cons_succ])
      go_cut [73] (fun v73 wc => ∃ (kq : Nat) (x73_10 : Bool), v73 = .bool x73_10 ∧ Aside0 (quarrylaw02_CalcNulls.j0 kq (wrap64 (3 + (wrap64 (Int.tmod (IntKind.u64.wrap (a0)) 14)))) t514 x73_10 a1_0 a1_1 a1_2 t511 t512 t513 = some r) ∧ Aside0 (kq ≤ k) ∧ Aside0 (wc.heap[gb505]? = some (.cells #[.int .i64 a1_0, .int .i64 a1_1, .string a1_2] 25 (0, 0))) ∧ Aside0 (wc.heap[gb515]? = some (.cells #[.int .i64 t511, .int .i64 t512, .string t513] 25 (0, 0))) ∧ Aside0 (wc.heap[gb520]? = some (.cells #[.int .i64 t516, .int .i64 t517, .string t518] 25 (0, 0))) ∧ Aside0 (wc.heap[gb525]? = some (.cells #[.int .i64 t521, .int .i64 t522, .string t523] 25 (0, 0))) ∧ Aside0 (wc.heap[gb530]? = some (.cells #[.int .i64 t526, .int .i64 t527, .string t528] 25 (0, 0))) ∧ Aside0 (Below w.heap.size w wc))
      case first =>
        have H := HC11.out
        clear HC11
        by_cases c43 : (!(t511 == t516) || (!(t512 == t517) || (!(t513.toList == t518.toList)))) = true
        · rw [if_pos c43] at H
          have c43b0 : (!(t511 == t516) || (!(t512 == t517) || (!(t513.toList == t518.toList)))) = true := c43
          clear c43
          (first | rw [c43b0] | (simp only [i64_w, i32_w]; rw [c43b0]) | skip)
          have H' := Aside0.mk H
          clear H
          have hnb44 := NB515_505.out
          have hnc44 := NB505_515.out
          have hnb45 := NB515_520.out
          have hnc45 := NB520_515.out
          have hnb46 := NB515_525.out
          have hnc46 := NB525_515.out
          have hnb47 := NB515_530.out
          have hnc47 := NB530_515.out
          have hcz48_0 : w37.cell? ⟨gb515, 0, none⟩ = some (.int .i64 t511) := (blk_cell BK515.out 0).trans rfl
          have hcz48_1 : w37.cell? ⟨gb515, 1, none⟩ = some (.int .i64 t512) := (blk_cell BK515.out 1).trans rfl
          have hcz48_2 : w37.cell? ⟨gb515, 2, none⟩ = some (.string t513) := (blk_cell BK515.out 2).trans rfl
          have hfz48_0 := blk_frozen BK515.out 0
          have hfz48_1 := blk_frozen BK515.out 1
          have hfz48_2 := blk_frozen BK515.out 2
          have hnb49 := NB520_505.out
          have hnc49 := NB505_520.out
          have hnb50 := NB520_525.out
          have hnc50 := NB525_520.out
          have hnb51 := NB520_530.out
          have hnc51 := NB530_520.out
          have hcz52_0 : w37.cell? ⟨gb520, 0, none⟩ = some (.int .i64 t516) := (blk_cell BK520.out 0).trans rfl
          have hcz52_1 : w37.cell? ⟨gb520, 1, none⟩ = some (.int .i64 t517) := (blk_cell BK520.out 1).trans rfl
          have hcz52_2 : w37.cell? ⟨gb520, 2, none⟩ = some (.string t518) := (blk_cell BK520.out 2).trans rfl
          have hfz52_0 := blk_frozen BK520.out 0
          have hfz52_1 := blk_frozen BK520.out 1
          have hfz52_2 := blk_frozen BK520.out 2
          go_wp2
          go_meet
          case rel => exact ⟨_, (true), (by first | rfl | (simp; done) | (simp [*]; done)), H', ⟨by first | omega | exact Nat.le_refl _⟩, ⟨by (with_reducible repeat (first | refine blk_drewN ?_ _ | refine blk_drew ?_ | refine blk_alloc ?_ _)); refine blk_far ?_ NB505_530.out _; (with_reducible repeat (first | refine blk_drewN ?_ _ | refine blk_drew ?_ | refine blk_alloc ?_ _)); refine blk_far ?_ NB505_530.out _; (with_reducible repeat (first | refine blk_drewN ?_ _ | refine blk_drew ?_ | refine blk_alloc ?_ _)); refine blk_far ?_ NB505_530.out _; (with_reducible repeat (first | refine blk_drewN ?_ _ | refine blk_drew ?_ | refine blk_alloc ?_ _)); exact BK505.out⟩, ⟨by (with_reducible repeat (first | refine blk_drewN ?_ _ | refine blk_drew ?_ | refine blk_alloc ?_ _)); refine blk_far ?_ NB515_530.out _; (with_reducible repeat (first | refine blk_drewN ?_ _ | refine blk_drew ?_ | refine blk_alloc ?_ _)); refine blk_far ?_ NB515_530.out _; (with_reducible repeat (first | refine blk_drewN ?_ _ | refine blk_drew ?_ | refine blk_alloc ?_ _)); refine blk_far ?_ NB515_530.out _; (with_reducible repeat (first | refine blk_drewN ?_ _ | refine blk_drew ?_ | refine blk_alloc ?_ _)); exact BK515.out⟩, ⟨by (with_reducible repeat (first | refine blk_drewN ?_ _ | refine blk_drew ?_ | refine blk_alloc ?_ _)); refine blk_far ?_ NB520_530.out _; (with_reducible repeat (first | refine blk_drewN ?_ _ | refine blk_drew ?_ | refine blk_alloc ?_ _)); refine blk_far ?_ NB520_530.out _; (with_reducible repeat (first | refine blk_drewN ?_ _ | refine blk_drew ?_ | refine blk_alloc ?_ _)); refine blk_far ?_ NB520_530.out _; (with_reducible repeat (first | refine blk_drewN ?_ _ | refine blk_drew ?_ | refine blk_alloc ?_ _)); exact BK520.out⟩, ⟨by (with_reducible repeat (first | refine blk_drewN ?_ _ | refine blk_drew ?_ | refine blk_alloc ?_ _)); refine blk_far ?_ NB525_530.out _; (with_reducible repeat (first | refine blk_drewN ?_ _ | refine blk_drew ?_ | refine blk_alloc ?_ _)); refine blk_far ?_ NB525_530.out _; (with_reducible repeat (first | refine blk_drewN ?_ _ | refine blk_drew ?_ | refine blk_alloc ?_ _)); refine blk_far ?_ NB525_530.out _; (with_reducible repeat (first | refine blk_drewN ?_ _ | refine blk_drew ?_ | refine blk_alloc ?_ _)); exact BK525.out⟩, ⟨by (with_reducible repeat (first | refine blk_drewN ?_ _ | refine blk_drew ?_ | refine blk_alloc ?_ _)); refine blk_put (cs := #[.int .i64 t526, .int .i64 t527, .string (⟨#[]⟩ : ByteArray)]) ?_ 2 _ rfl; (with_reducible repeat (first | refine blk_drewN ?_ _ | refine blk_drew ?_ | refine blk_alloc ?_ _)); refine blk_put (cs := #[.int .i64 t526, .int .i64 0, .string (⟨#[]⟩ : ByteArray)]) ?_ 1 _ rfl; (with_reducible repeat (first | refine blk_drewN ?_ _ | refine blk_drew ?_ | refine blk_alloc ?_ _)); refine blk_put (cs := #[.int .i64 0, .int .i64 0, .string (⟨#[]⟩ : ByteArray)]) ?_ 0 _ rfl; (with_reducible repeat (first | refine blk_drewN ?_ _ | refine blk_drew ?_ | refine blk_alloc ?_ _)); exact BK530.out⟩, ⟨by repeat (first | (with_reducible first | exact HB.out | apply below_alloc | apply pw_below_drewN | apply below_drew1 | refine below_set ?_ GE505.out | refine below_set ?_ GE515.out | refine below_set ?_ GE520.out | refine below_set ?_ GE525.out | refine below_set ?_ GE530.out) | exact HB.out)⟩⟩
        · rw [if_neg c43] at H
          have c43b0 : (!(t511 == t516) || (!(t512 == t517) || (!(t513.toList == t518.toList)))) = false := by simpa using c43
          clear c43
          (first | rw [c43b0] | (simp only [i64_w, i32_w]; rw [c43b0]) | skip)
          by_cases c53 : t514 = t519
          · rw [if_pos c53] at H
            have c53b0 : (t514 == t519) = true := beq_iff_eq.mpr c53
            have c53b1 : (t514 != t519) = false := bne_eq_false_iff_eq.mpr c53
            clear c53
            by_cases c54 : t524 = 0
            · rw [if_pos c54] at H
              have c54b0 : (t524 == 0) = true := beq_iff_eq.mpr c54
              have c54b1 : (t524 != 0) = false := bne_eq_false_iff_eq.mpr c54
              clear c54
              by_cases c55 : t529 = 0
              · rw [if_pos c55] at H
                have c55b0 : (t529 == 0) = true := beq_iff_eq.mpr c55
                have c55b1 : (t529 != 0) = false := bne_eq_false_iff_eq.mpr c55
                clear c55
                by_cases c56 : (!(t521 == 0) || (!(t522 == 0) || (!(t523.toList == ([] : List UInt8))))) = true
                · rw [if_pos c56] at H
                  have c56b0 : (!(t521 == 0) || (!(t522 == 0) || (!(t523.toList == ([] : List UInt8))))) = true := c56
                  (try (have c56b9 : (!(t521 == 0) || (!(t522 == 0) || (!t523.toList.isEmpty))) = true := by simpa using c56))
                  clear c56
                  have H' := Aside0.mk H
                  clear H
                  have hnb57 := NB515_505.out
                  have hnc57 := NB505_515.out
                  have hnb58 := NB515_520.out
                  have hnc58 := NB520_515.out
                  have hnb59 := NB515_525.out
                  have hnc59 := NB525_515.out
                  have hnb60 := NB515_530.out
                  have hnc60 := NB530_515.out
                  have hcz61_0 : w37.cell? ⟨gb515, 0, none⟩ = some (.int .i64 t511) := (blk_cell BK515.out 0).trans rfl
                  have hcz61_1 : w37.cell? ⟨gb515, 1, none⟩ = some (.int .i64 t512) := (blk_cell BK515.out 1).trans rfl
                  have hcz61_2 : w37.cell? ⟨gb515, 2, none⟩ = some (.string t513) := (blk_cell BK515.out 2).trans rfl
                  have hfz61_0 := blk_frozen BK515.out 0
                  have hfz61_1 := blk_frozen BK515.out 1
                  have hfz61_2 := blk_frozen BK515.out 2
                  have hnb62 := NB520_505.out
                  have hnc62 := NB505_520.out
                  have hnb63 := NB520_525.out
                  have hnc63 := NB525_520.out
                  have hnb64 := NB520_530.out
                  have hnc64 := NB530_520.out
                  have hcz65_0 : w37.cell? ⟨gb520, 0, none⟩ = some (.int .i64 t516) := (blk_cell BK520.out 0).trans rfl
                  have hcz65_1 : w37.cell? ⟨gb520, 1, none⟩ = some (.int .i64 t517) := (blk_cell BK520.out 1).trans rfl
                  have hcz65_2 : w37.cell? ⟨gb520, 2, none⟩ = some (.string t518) := (blk_cell BK520.out 2).trans rfl
                  have hfz65_0 := blk_frozen BK520.out 0
                  have hfz65_1 := blk_frozen BK520.out 1
                  have hfz65_2 := blk_frozen BK520.out 2
                  have hnb66 := NB525_505.out
                  have hnc66 := NB505_525.out
                  have hnb67 := NB525_530.out
                  have hnc67 := NB530_525.out
                  have hcz68_0 : w37.cell? ⟨gb525, 0, none⟩ = some (.int .i64 t521) := (blk_cell BK525.out 0).trans rfl
                  have hcz68_1 : w37.cell? ⟨gb525, 1, none⟩ = some (.int .i64 t522) := (blk_cell BK525.out 1).trans rfl
                  have hcz68_2 : w37.cell? ⟨gb525, 2, none⟩ = some (.string t523) := (blk_cell BK525.out 2).trans rfl
                  have hfz68_0 := blk_frozen BK525.out 0
                  have hfz68_1 := blk_frozen BK525.out 1
                  have hfz68_2 := blk_frozen BK525.out 2
                  go_wp2
                  go_meet
                  case rel => exact ⟨_, (true), (by first | rfl | (simp; done) | (simp [*]; done)), H', ⟨by first | omega | exact Nat.le_refl _⟩, ⟨by (with_reducible repeat (first | refine blk_drewN ?_ _ | refine blk_drew ?_ | refine blk_alloc ?_ _)); refine blk_far ?_ NB505_530.out _; (with_reducible repeat (first | refine blk_drewN ?_ _ | refine blk_drew ?_ | refine blk_alloc ?_ _)); refine blk_far ?_ NB505_530.out _; (with_reducible repeat (first | refine blk_drewN ?_ _ | refine blk_drew ?_ | refine blk_alloc ?_ _)); refine blk_far ?_ NB505_530.out _; (with_reducible repeat (first | refine blk_drewN ?_ _ | refine blk_drew ?_ | refine blk_alloc ?_ _)); exact BK505.out⟩, ⟨by (with_reducible repeat (first | refine blk_drewN ?_ _ | refine blk_drew ?_ | refine blk_alloc ?_ _)); refine blk_far ?_ NB515_530.out _; (with_reducible repeat (first | refine blk_drewN ?_ _ | refine blk_drew ?_ | refine blk_alloc ?_ _)); refine blk_far ?_ NB515_530.out _; (with_reducible repeat (first | refine blk_drewN ?_ _ | refine blk_drew ?_ | refine blk_alloc ?_ _)); refine blk_far ?_ NB515_530.out _; (with_reducible repeat (first | refine blk_drewN ?_ _ | refine blk_drew ?_ | refine blk_alloc ?_ _)); exact BK515.out⟩, ⟨by (with_reducible repeat (first | refine blk_drewN ?_ _ | refine blk_drew ?_ | refine blk_alloc ?_ _)); refine blk_far ?_ NB520_530.out _; (with_reducible repeat (first | refine blk_drewN ?_ _ | refine blk_drew ?_ | refine blk_alloc ?_ _)); refine blk_far ?_ NB520_530.out _; (with_reducible repeat (first | refine blk_drewN ?_ _ | refine blk_drew ?_ | refine blk_alloc ?_ _)); refine blk_far ?_ NB520_530.out _; (with_reducible repeat (first | refine blk_drewN ?_ _ | refine blk_drew ?_ | refine blk_alloc ?_ _)); exact BK520.out⟩, ⟨by (with_reducible repeat (first | refine blk_drewN ?_ _ | refine blk_drew ?_ | refine blk_alloc ?_ _)); refine blk_far ?_ NB525_530.out _; (with_reducible repeat (first | refine blk_drewN ?_ _ | refine blk_drew ?_ | refine blk_alloc ?_ _)); refine blk_far ?_ NB525_530.out _; (with_reducible repeat (first | refine blk_drewN ?_ _ | refine blk_drew ?_ | refine blk_alloc ?_ _)); refine blk_far ?_ NB525_530.out _; (with_reducible repeat (first | refine blk_drewN ?_ _ | refine blk_drew ?_ | refine blk_alloc ?_ _)); exact BK525.out⟩, ⟨by (with_reducible repeat (first | refine blk_drewN ?_ _ | refine blk_drew ?_ | refine blk_alloc ?_ _)); refine blk_put (cs := #[.int .i64 t526, .int .i64 t527, .string (⟨#[]⟩ : ByteArray)]) ?_ 2 _ rfl; (with_reducible repeat (first | refine blk_drewN ?_ _ | refine blk_drew ?_ | refine blk_alloc ?_ _)); refine blk_put (cs := #[.int .i64 t526, .int .i64 0, .string (⟨#[]⟩ : ByteArray)]) ?_ 1 _ rfl; (with_reducible repeat (first | refine blk_drewN ?_ _ | refine blk_drew ?_ | refine blk_alloc ?_ _)); refine blk_put (cs := #[.int .i64 0, .int .i64 0, .string (⟨#[]⟩ : ByteArray)]) ?_ 0 _ rfl; (with_reducible repeat (first | refine blk_drewN ?_ _ | refine blk_drew ?_ | refine blk_alloc ?_ _)); exact BK530.out⟩, ⟨by repeat (first | (with_reducible first | exact HB.out | apply below_alloc | apply pw_below_drewN | apply below_drew1 | refine below_set ?_ GE505.out | refine below_set ?_ GE515.out | refine below_set ?_ GE520.out | refine below_set ?_ GE525.out | refine below_set ?_ GE530.out) | exact HB.out)⟩⟩
                · rw [if_neg c56] at H
                  have c56b0 : (!(t521 == 0) || (!(t522 == 0) || (!(t523.toList == ([] : List UInt8))))) = false := by simpa using c56
                  (try (have c56b9 : (!(t521 == 0) || (!(t522 == 0) || (!t523.toList.isEmpty))) = false := by simpa using c56))
                  clear c56
                  have H' := Aside0.mk H
                  clear H
                  have hnb69 := NB515_505.out
                  have hnc69 := NB505_515.out
                  have hnb70 := NB515_520.out
                  have hnc70 := NB520_515.out
                  have hnb71 := NB515_525.out
                  have hnc71 := NB525_515.out
                  have hnb72 := NB515_530.out
                  have hnc72 := NB530_515.out
                  have hcz73_0 : w37.cell? ⟨gb515, 0, none⟩ = some (.int .i64 t511) := (blk_cell BK515.out 0).trans rfl
                  have hcz73_1 : w37.cell? ⟨gb515, 1, none⟩ = some (.int .i64 t512) := (blk_cell BK515.out 1).trans rfl
                  have hcz73_2 : w37.cell? ⟨gb515, 2, none⟩ = some (.string t513) := (blk_cell BK515.out 2).trans rfl
                  have hfz73_0 := blk_frozen BK515.out 0
                  have hfz73_1 := blk_frozen BK515.out 1
                  have hfz73_2 := blk_frozen BK515.out 2
                  have hnb74 := NB520_505.out
                  have hnc74 := NB505_520.out
                  have hnb75 := NB520_525.out
                  have hnc75 := NB525_520.out
                  have hnb76 := NB520_530.out
                  have hnc76 := NB530_520.out
                  have hcz77_0 : w37.cell? ⟨gb520, 0, none⟩ = some (.int .i64 t516) := (blk_cell BK520.out 0).trans rfl
                  have hcz77_1 : w37.cell? ⟨gb520, 1, none⟩ = some (.int .i64 t517) := (blk_cell BK520.out 1).trans rfl
                  have hcz77_2 : w37.cell? ⟨gb520, 2, none⟩ = some (.string t518) := (blk_cell BK520.out 2).trans rfl
                  have hfz77_0 := blk_frozen BK520.out 0
                  have hfz77_1 := blk_frozen BK520.out 1
                  have hfz77_2 := blk_frozen BK520.out 2
                  have hnb78 := NB525_505.out
                  have hnc78 := NB505_525.out
                  have hnb79 := NB525_530.out
                  have hnc79 := NB530_525.out
                  have hcz80_0 : w37.cell? ⟨gb525, 0, none⟩ = some (.int .i64 t521) := (blk_cell BK525.out 0).trans rfl
                  have hcz80_1 : w37.cell? ⟨gb525, 1, none⟩ = some (.int .i64 t522) := (blk_cell BK525.out 1).trans rfl
                  have hcz80_2 : w37.cell? ⟨gb525, 2, none⟩ = some (.string t523) := (blk_cell BK525.out 2).trans rfl
                  have hfz80_0 := blk_frozen BK525.out 0
                  have hfz80_1 := blk_frozen BK525.out 1
                  have hfz80_2 := blk_frozen BK525.out 2
                  have hnb81 := NB530_505.out
                  have hnc81 := NB505_530.out
                  have hcz82_0 : w37.cell? ⟨gb530, 0, none⟩ = some (.int .i64 0) := (blk_cell BK530.out 0).trans rfl
                  have hcz82_1 : w37.cell? ⟨gb530, 1, none⟩ = some (.int .i64 0) := (blk_cell BK530.out 1).trans rfl
                  have hcz82_2 : w37.cell? ⟨gb530, 2, none⟩ = some (.string (⟨#[]⟩ : ByteArray)) := (blk_cell BK530.out 2).trans rfl
                  have hfz82_0 := blk_frozen BK530.out 0
                  have hfz82_1 := blk_frozen BK530.out 1
                  have hfz82_2 := blk_frozen BK530.out 2
                  go_wp2
                  go_meet
                  case rel => exact ⟨_, ((!(t526 == 0) || (!(t527 == 0) || (!(t528.toList == ([] : List UInt8)))))), (by first | rfl | (simp; done) | (simp [*]; done)), H', ⟨by first | omega | exact Nat.le_refl _⟩, ⟨by (with_reducible repeat (first | refine blk_drewN ?_ _ | refine blk_drew ?_ | refine blk_alloc ?_ _)); refine blk_far ?_ NB505_530.out _; (with_reducible repeat (first | refine blk_drewN ?_ _ | refine blk_drew ?_ | refine blk_alloc ?_ _)); refine blk_far ?_ NB505_530.out _; (with_reducible repeat (first | refine blk_drewN ?_ _ | refine blk_drew ?_ | refine blk_alloc ?_ _)); refine blk_far ?_ NB505_530.out _; (with_reducible repeat (first | refine blk_drewN ?_ _ | refine blk_drew ?_ | refine blk_alloc ?_ _)); exact BK505.out⟩, ⟨by (with_reducible repeat (first | refine blk_drewN ?_ _ | refine blk_drew ?_ | refine blk_alloc ?_ _)); refine blk_far ?_ NB515_530.out _; (with_reducible repeat (first | refine blk_drewN ?_ _ | refine blk_drew ?_ | refine blk_alloc ?_ _)); refine blk_far ?_ NB515_530.out _; (with_reducible repeat (first | refine blk_drewN ?_ _ | refine blk_drew ?_ | refine blk_alloc ?_ _)); refine blk_far ?_ NB515_530.out _; (with_reducible repeat (first | refine blk_drewN ?_ _ | refine blk_drew ?_ | refine blk_alloc ?_ _)); exact BK515.out⟩, ⟨by (with_reducible repeat (first | refine blk_drewN ?_ _ | refine blk_drew ?_ | refine blk_alloc ?_ _)); refine blk_far ?_ NB520_530.out _; (with_reducible repeat (first | refine blk_drewN ?_ _ | refine blk_drew ?_ | refine blk_alloc ?_ _)); refine blk_far ?_ NB520_530.out _; (with_reducible repeat (first | refine blk_drewN ?_ _ | refine blk_drew ?_ | refine blk_alloc ?_ _)); refine blk_far ?_ NB520_530.out _; (with_reducible repeat (first | refine blk_drewN ?_ _ | refine blk_drew ?_ | refine blk_alloc ?_ _)); exact BK520.out⟩, ⟨by (with_reducible repeat (first | refine blk_drewN ?_ _ | refine blk_drew ?_ | refine blk_alloc ?_ _)); refine blk_far ?_ NB525_530.out _; (with_reducible repeat (first | refine blk_drewN ?_ _ | refine blk_drew ?_ | refine blk_alloc ?_ _)); refine blk_far ?_ NB525_530.out _; (with_reducible repeat (first | refine blk_drewN ?_ _ | refine blk_drew ?_ | refine blk_alloc ?_ _)); refine blk_far ?_ NB525_530.out _; (with_reducible repeat (first | refine blk_drewN ?_ _ | refine blk_drew ?_ | refine blk_alloc ?_ _)); exact BK525.out⟩, ⟨by (with_reducible repeat (first | refine blk_drewN ?_ _ | refine blk_drew ?_ | refine blk_alloc ?_ _)); refine blk_put (cs := #[.int .i64 t526, .int .i64 t527, .string (⟨#[]⟩ : ByteArray)]) ?_ 2 _ rfl; (with_reducible repeat (first | refine blk_drewN ?_ _ | refine blk_drew ?_ | refine blk_alloc ?_ _)); refine blk_put (cs := #[.int .i64 t526, .int .i64 0, .string (⟨#[]⟩ : ByteArray)]) ?_ 1 _ rfl; (with_reducible repeat (first | refine blk_drewN ?_ _ | refine blk_drew ?_ | refine blk_alloc ?_ _)); refine blk_put (cs := #[.int .i64 0, .int .i64 0, .string (⟨#[]⟩ : ByteArray)]) ?_ 0 _ rfl; (with_reducible repeat (first | refine blk_drewN ?_ _ | refine blk_drew ?_ | refine blk_alloc ?_ _)); exact BK530.out⟩, ⟨by repeat (first | (with_reducible first | exact HB.out | apply below_alloc | apply pw_below_drewN | apply below_drew1 | refine below_set ?_ GE505.out | refine below_set ?_ GE515.out | refine below_set ?_ GE520.out | refine below_set ?_ GE525.out | refine below_set ?_ GE530.out) | exact HB.out)⟩⟩
              · rw [if_neg c55] at H
                have c55b0 : (t529 == 0) = false := beq_eq_false_iff_ne.mpr c55
                have c55b1 : (t529 != 0) = true := bne_iff_ne.mpr c55
                have H' := Aside0.mk H
                clear H
                have hnb83 := NB515_505.out
                have hnc83 := NB505_515.out
                have hnb84 := NB515_520.out
                have hnc84 := NB520_515.out
                have hnb85 := NB515_525.out
                have hnc85 := NB525_515.out
                have hnb86 := NB515_530.out
                have hnc86 := NB530_515.out
                have hcz87_0 : w37.cell? ⟨gb515, 0, none⟩ = some (.int .i64 t511) := (blk_cell BK515.out 0).trans rfl
                have hcz87_1 : w37.cell? ⟨gb515, 1, none⟩ = some (.int .i64 t512) := (blk_cell BK515.out 1).trans rfl
                have hcz87_2 : w37.cell? ⟨gb515, 2, none⟩ = some (.string t513) := (blk_cell BK515.out 2).trans rfl
                have hfz87_0 := blk_frozen BK515.out 0
                have hfz87_1 := blk_frozen BK515.out 1
                have hfz87_2 := blk_frozen BK515.out 2
                have hnb88 := NB520_505.out
                have hnc88 := NB505_520.out
                have hnb89 := NB520_525.out
                have hnc89 := NB525_520.out
                have hnb90 := NB520_530.out
                have hnc90 := NB530_520.out
                have hcz91_0 : w37.cell? ⟨gb520, 0, none⟩ = some (.int .i64 t516) := (blk_cell BK520.out 0).trans rfl
                have hcz91_1 : w37.cell? ⟨gb520, 1, none⟩ = some (.int .i64 t517) := (blk_cell BK520.out 1).trans rfl
                have hcz91_2 : w37.cell? ⟨gb520, 2, none⟩ = some (.string t518) := (blk_cell BK520.out 2).trans rfl
                have hfz91_0 := blk_frozen BK520.out 0
                have hfz91_1 := blk_frozen BK520.out 1
                have hfz91_2 := blk_frozen BK520.out 2
                go_wp2
                go_meet
                case rel => exact ⟨_, (true), (by first | rfl | (simp; done) | (simp [*]; done)), H', ⟨by first | omega | exact Nat.le_refl _⟩, ⟨by (with_reducible repeat (first | refine blk_drewN ?_ _ | refine blk_drew ?_ | refine blk_alloc ?_ _)); refine blk_far ?_ NB505_530.out _; (with_reducible repeat (first | refine blk_drewN ?_ _ | refine blk_drew ?_ | refine blk_alloc ?_ _)); refine blk_far ?_ NB505_530.out _; (with_reducible repeat (first | refine blk_drewN ?_ _ | refine blk_drew ?_ | refine blk_alloc ?_ _)); refine blk_far ?_ NB505_530.out _; (with_reducible repeat (first | refine blk_drewN ?_ _ | refine blk_drew ?_ | refine blk_alloc ?_ _)); exact BK505.out⟩, ⟨by (with_reducible repeat (first | refine blk_drewN ?_ _ | refine blk_drew ?_ | refine blk_alloc ?_ _)); refine blk_far ?_ NB515_530.out _; (with_reducible repeat (first | refine blk_drewN ?_ _ | refine blk_drew ?_ | refine blk_alloc ?_ _)); refine blk_far ?_ NB515_530.out _; (with_reducible repeat (first | refine blk_drewN ?_ _ | refine blk_drew ?_ | refine blk_alloc ?_ _)); refine blk_far ?_ NB515_530.out _; (with_reducible repeat (first | refine blk_drewN ?_ _ | refine blk_drew ?_ | refine blk_alloc ?_ _)); exact BK515.out⟩, ⟨by (with_reducible repeat (first | refine blk_drewN ?_ _ | refine blk_drew ?_ | refine blk_alloc ?_ _)); refine blk_far ?_ NB520_530.out _; (with_reducible repeat (first | refine blk_drewN ?_ _ | refine blk_drew ?_ | refine blk_alloc ?_ _)); refine blk_far ?_ NB520_530.out _; (with_reducible repeat (first | refine blk_drewN ?_ _ | refine blk_drew ?_ | refine blk_alloc ?_ _)); refine blk_far ?_ NB520_530.out _; (with_reducible repeat (first | refine blk_drewN ?_ _ | refine blk_drew ?_ | refine blk_alloc ?_ _)); exact BK520.out⟩, ⟨by (with_reducible repeat (first | refine blk_drewN ?_ _ | refine blk_drew ?_ | refine blk_alloc ?_ _)); refine blk_far ?_ NB525_530.out _; (with_reducible repeat (first | refine blk_drewN ?_ _ | refine blk_drew ?_ | refine blk_alloc ?_ _)); refine blk_far ?_ NB525_530.out _; (with_reducible repeat (first | refine blk_drewN ?_ _ | refine blk_drew ?_ | refine blk_alloc ?_ _)); refine blk_far ?_ NB525_530.out _; (with_reducible repeat (first | refine blk_drewN ?_ _ | refine blk_drew ?_ | refine blk_alloc ?_ _)); exact BK525.out⟩, ⟨by (with_reducible repeat (first | refine blk_drewN ?_ _ | refine blk_drew ?_ | refine blk_alloc ?_ _)); refine blk_put (cs := #[.int .i64 t526, .int .i64 t527, .string (⟨#[]⟩ : ByteArray)]) ?_ 2 _ rfl; (with_reducible repeat (first | refine blk_drewN ?_ _ | refine blk_drew ?_ | refine blk_alloc ?_ _)); refine blk_put (cs := #[.int .i64 t526, .int .i64 0, .string (⟨#[]⟩ : ByteArray)]) ?_ 1 _ rfl; (with_reducible repeat (first | refine blk_drewN ?_ _ | refine blk_drew ?_ | refine blk_alloc ?_ _)); refine blk_put (cs := #[.int .i64 0, .int .i64 0, .string (⟨#[]⟩ : ByteArray)]) ?_ 0 _ rfl; (with_reducible repeat (first | refine blk_drewN ?_ _ | refine blk_drew ?_ | refine blk_alloc ?_ _)); exact BK530.out⟩, ⟨by repeat (first | (with_reducible first | exact HB.out | apply below_alloc | apply pw_below_drewN | apply below_drew1 | refine below_set ?_ GE505.out | refine below_set ?_ GE515.out | refine below_set ?_ GE520.out | refine below_set ?_ GE525.out | refine below_set ?_ GE530.out) | exact HB.out)⟩⟩
            · rw [if_neg c54] at H
              have c54b0 : (t524 == 0) = false := beq_eq_false_iff_ne.mpr c54
              have c54b1 : (t524 != 0) = true := bne_iff_ne.mpr c54
              have H' := Aside0.mk H
              clear H
              have hnb92 := NB515_505.out
              have hnc92 := NB505_515.out
              have hnb93 := NB515_520.out
              have hnc93 := NB520_515.out
              have hnb94 := NB515_525.out
              have hnc94 := NB525_515.out
              have hnb95 := NB515_530.out
              have hnc95 := NB530_515.out
              have hcz96_0 : w37.cell? ⟨gb515, 0, none⟩ = some (.int .i64 t511) := (blk_cell BK515.out 0).trans rfl
              have hcz96_1 : w37.cell? ⟨gb515, 1, none⟩ = some (.int .i64 t512) := (blk_cell BK515.out 1).trans rfl
              have hcz96_2 : w37.cell? ⟨gb515, 2, none⟩ = some (.string t513) := (blk_cell BK515.out 2).trans rfl
              have hfz96_0 := blk_frozen BK515.out 0
              have hfz96_1 := blk_frozen BK515.out 1
              have hfz96_2 := blk_frozen BK515.out 2
              have hnb97 := NB520_505.out
              have hnc97 := NB505_520.out
              have hnb98 := NB520_525.out
              have hnc98 := NB525_520.out
              have hnb99 := NB520_530.out
              have hnc99 := NB530_520.out
              have hcz100_0 : w37.cell? ⟨gb520, 0, none⟩ = some (.int .i64 t516) := (blk_cell BK520.out 0).trans rfl
              have hcz100_1 : w37.cell? ⟨gb520, 1, none⟩ = some (.int .i64 t517) := (blk_cell BK520.out 1).trans rfl
              have hcz100_2 : w37.cell? ⟨gb520, 2, none⟩ = some (.string t518) := (blk_cell BK520.out 2).trans rfl
              have hfz100_0 := blk_frozen BK520.out 0
              have hfz100_1 := blk_frozen BK520.out 1
              have hfz100_2 := blk_frozen BK520.out 2
              go_wp2
              go_meet
              case rel => exact ⟨_, (true), (by first | rfl | (simp; done) | (simp [*]; done)), H', ⟨by first | omega | exact Nat.le_refl _⟩, ⟨by (with_reducible repeat (first | refine blk_drewN ?_ _ | refine blk_drew ?_ | refine blk_alloc ?_ _)); refine blk_far ?_ NB505_530.out _; (with_reducible repeat (first | refine blk_drewN ?_ _ | refine blk_drew ?_ | refine blk_alloc ?_ _)); refine blk_far ?_ NB505_530.out _; (with_reducible repeat (first | refine blk_drewN ?_ _ | refine blk_drew ?_ | refine blk_alloc ?_ _)); refine blk_far ?_ NB505_530.out _; (with_reducible repeat (first | refine blk_drewN ?_ _ | refine blk_drew ?_ | refine blk_alloc ?_ _)); exact BK505.out⟩, ⟨by (with_reducible repeat (first | refine blk_drewN ?_ _ | refine blk_drew ?_ | refine blk_alloc ?_ _)); refine blk_far ?_ NB515_530.out _; (with_reducible repeat (first | refine blk_drewN ?_ _ | refine blk_drew ?_ | refine blk_alloc ?_ _)); refine blk_far ?_ NB515_530.out _; (with_reducible repeat (first | refine blk_drewN ?_ _ | refine blk_drew ?_ | refine blk_alloc ?_ _)); refine blk_far ?_ NB515_530.out _; (with_reducible repeat (first | refine blk_drewN ?_ _ | refine blk_drew ?_ | refine blk_alloc ?_ _)); exact BK515.out⟩, ⟨by (with_reducible repeat (first | refine blk_drewN ?_ _ | refine blk_drew ?_ | refine blk_alloc ?_ _)); refine blk_far ?_ NB520_530.out _; (with_reducible repeat (first | refine blk_drewN ?_ _ | refine blk_drew ?_ | refine blk_alloc ?_ _)); refine blk_far ?_ NB520_530.out _; (with_reducible repeat (first | refine blk_drewN ?_ _ | refine blk_drew ?_ | refine blk_alloc ?_ _)); refine blk_far ?_ NB520_530.out _; (with_reducible repeat (first | refine blk_drewN ?_ _ | refine blk_drew ?_ | refine blk_alloc ?_ _)); exact BK520.out⟩, ⟨by (with_reducible repeat (first | refine blk_drewN ?_ _ | refine blk_drew ?_ | refine blk_alloc ?_ _)); refine blk_far ?_ NB525_530.out _; (with_reducible repeat (first | refine blk_drewN ?_ _ | refine blk_drew ?_ | refine blk_alloc ?_ _)); refine blk_far ?_ NB525_530.out _; (with_reducible repeat (first | refine blk_drewN ?_ _ | refine blk_drew ?_ | refine blk_alloc ?_ _)); refine blk_far ?_ NB525_530.out _; (with_reducible repeat (first | refine blk_drewN ?_ _ | refine blk_drew ?_ | refine blk_alloc ?_ _)); exact BK525.out⟩, ⟨by (with_reducible repeat (first | refine blk_drewN ?_ _ | refine blk_drew ?_ | refine blk_alloc ?_ _)); refine blk_put (cs := #[.int .i64 t526, .int .i64 t527, .string (⟨#[]⟩ : ByteArray)]) ?_ 2 _ rfl; (with_reducible repeat (first | refine blk_drewN ?_ _ | refine blk_drew ?_ | refine blk_alloc ?_ _)); refine blk_put (cs := #[.int .i64 t526, .int .i64 0, .string (⟨#[]⟩ : ByteArray)]) ?_ 1 _ rfl; (with_reducible repeat (first | refine blk_drewN ?_ _ | refine blk_drew ?_ | refine blk_alloc ?_ _)); refine blk_put (cs := #[.int .i64 0, .int .i64 0, .string (⟨#[]⟩ : ByteArray)]) ?_ 0 _ rfl; (with_reducible repeat (first | refine blk_drewN ?_ _ | refine blk_drew ?_ | refine blk_alloc ?_ _)); exact BK530.out⟩, ⟨by repeat (first | (with_reducible first | exact HB.out | apply below_alloc | apply pw_below_drewN | apply below_drew1 | refine below_set ?_ GE505.out | refine below_set ?_ GE515.out | refine below_set ?_ GE520.out | refine below_set ?_ GE525.out | refine below_set ?_ GE530.out) | exact HB.out)⟩⟩
          · rw [if_neg c53] at H
            have c53b0 : (t514 == t519) = false := beq_eq_false_iff_ne.mpr c53
            have c53b1 : (t514 != t519) = true := bne_iff_ne.mpr c53
            have H' := Aside0.mk H
            clear H
            have hnb101 := NB515_505.out
            have hnc101 := NB505_515.out
            have hnb102 := NB515_520.out
            have hnc102 := NB520_515.out
            have hnb103 := NB515_525.out
            have hnc103 := NB525_515.out
            have hnb104 := NB515_530.out
            have hnc104 := NB530_515.out
            have hcz105_0 : w37.cell? ⟨gb515, 0, none⟩ = some (.int .i64 t511) := (blk_cell BK515.out 0).trans rfl
            have hcz105_1 : w37.cell? ⟨gb515, 1, none⟩ = some (.int .i64 t512) := (blk_cell BK515.out 1).trans rfl
            have hcz105_2 : w37.cell? ⟨gb515, 2, none⟩ = some (.string t513) := (blk_cell BK515.out 2).trans rfl
            have hfz105_0 := blk_frozen BK515.out 0
            have hfz105_1 := blk_frozen BK515.out 1
            have hfz105_2 := blk_frozen BK515.out 2
            have hnb106 := NB520_505.out
            have hnc106 := NB505_520.out
            have hnb107 := NB520_525.out
            have hnc107 := NB525_520.out
            have hnb108 := NB520_530.out
            have hnc108 := NB530_520.out
            have hcz109_0 : w37.cell? ⟨gb520, 0, none⟩ = some (.int .i64 t516) := (blk_cell BK520.out 0).trans rfl
            have hcz109_1 : w37.cell? ⟨gb520, 1, none⟩ = some (.int .i64 t517) := (blk_cell BK520.out 1).trans rfl
            have hcz109_2 : w37.cell? ⟨gb520, 2, none⟩ = some (.string t518) := (blk_cell BK520.out 2).trans rfl
            have hfz109_0 := blk_frozen BK520.out 0
            have hfz109_1 := blk_frozen BK520.out 1
            have hfz109_2 := blk_frozen BK520.out 2
            go_wp2
            go_meet
            case rel => exact ⟨_, (true), (by first | rfl | (simp; done) | (simp [*]; done)), H', ⟨by first | omega | exact Nat.le_refl _⟩, ⟨by (with_reducible repeat (first | refine blk_drewN ?_ _ | refine blk_drew ?_ | refine blk_alloc ?_ _)); refine blk_far ?_ NB505_530.out _; (with_reducible repeat (first | refine blk_drewN ?_ _ | refine blk_drew ?_ | refine blk_alloc ?_ _)); refine blk_far ?_ NB505_530.out _; (with_reducible repeat (first | refine blk_drewN ?_ _ | refine blk_drew ?_ | refine blk_alloc ?_ _)); refine blk_far ?_ NB505_530.out _; (with_reducible repeat (first | refine blk_drewN ?_ _ | refine blk_drew ?_ | refine blk_alloc ?_ _)); exact BK505.out⟩, ⟨by (with_reducible repeat (first | refine blk_drewN ?_ _ | refine blk_drew ?_ | refine blk_alloc ?_ _)); refine blk_far ?_ NB515_530.out _; (with_reducible repeat (first | refine blk_drewN ?_ _ | refine blk_drew ?_ | refine blk_alloc ?_ _)); refine blk_far ?_ NB515_530.out _; (with_reducible repeat (first | refine blk_drewN ?_ _ | refine blk_drew ?_ | refine blk_alloc ?_ _)); refine blk_far ?_ NB515_530.out _; (with_reducible repeat (first | refine blk_drewN ?_ _ | refine blk_drew ?_ | refine blk_alloc ?_ _)); exact BK515.out⟩, ⟨by (with_reducible repeat (first | refine blk_drewN ?_ _ | refine blk_drew ?_ | refine blk_alloc ?_ _)); refine blk_far ?_ NB520_530.out _; (with_reducible repeat (first | refine blk_drewN ?_ _ | refine blk_drew ?_ | refine blk_alloc ?_ _)); refine blk_far ?_ NB520_530.out _; (with_reducible repeat (first | refine blk_drewN ?_ _ | refine blk_drew ?_ | refine blk_alloc ?_ _)); refine blk_far ?_ NB520_530.out _; (with_reducible repeat (first | refine blk_drewN ?_ _ | refine blk_drew ?_ | refine blk_alloc ?_ _)); exact BK520.out⟩, ⟨by (with_reducible repeat (first | refine blk_drewN ?_ _ | refine blk_drew ?_ | refine blk_alloc ?_ _)); refine blk_far ?_ NB525_530.out _; (with_reducible repeat (first | refine blk_drewN ?_ _ | refine blk_drew ?_ | refine blk_alloc ?_ _)); refine blk_far ?_ NB525_530.out _; (with_reducible repeat (first | refine blk_drewN ?_ _ | refine blk_drew ?_ | refine blk_alloc ?_ _)); refine blk_far ?_ NB525_530.out _; (with_reducible repeat (first | refine blk_drewN ?_ _ | refine blk_drew ?_ | refine blk_alloc ?_ _)); exact BK525.out⟩, ⟨by (with_reducible repeat (first | refine blk_drewN ?_ _ | refine blk_drew ?_ | refine blk_alloc ?_ _)); refine blk_put (cs := #[.int .i64 t526, .int .i64 t527, .string (⟨#[]⟩ : ByteArray)]) ?_ 2 _ rfl; (with_reducible repeat (first | refine blk_drewN ?_ _ | refine blk_drew ?_ | refine blk_alloc ?_ _)); refine blk_put (cs := #[.int .i64 t526, .int .i64 0, .string (⟨#[]⟩ : ByteArray)]) ?_ 1 _ rfl; (with_reducible repeat (first | refine blk_drewN ?_ _ | refine blk_drew ?_ | refine blk_alloc ?_ _)); refine blk_put (cs := #[.int .i64 0, .int .i64 0, .string (⟨#[]⟩ : ByteArray)]) ?_ 0 _ rfl; (with_reducible repeat (first | refine blk_drewN ?_ _ | refine blk_drew ?_ | refine blk_alloc ?_ _)); exact BK530.out⟩, ⟨by repeat (first | (with_reducible first | exact HB.out | apply below_alloc | apply pw_below_drewN | apply below_drew1 | refine below_set ?_ GE505.out | refine below_set ?_ GE515.out | refine below_set ?_ GE520.out | refine below_set ?_ GE525.out | refine below_set ?_ GE530.out) | exact HB.out)⟩⟩
      case rest =>
        clear HC11
        try clear c1
        try clear c2
        try clear p2
        try clear c3
        try clear c4
        try clear c5
        try clear c6
        try clear p6
        try clear c7
        try clear c8
        try clear c9
        try clear c10
        try clear c11
        try clear c17
        try clear c19
        try clear c22
        try clear c23
        try clear c27
        try clear c28
        try clear c32
        try clear c33
        try clear c34
        try clear c38
        try clear c39
        try clear c40
        try clear c41
        try clear c43
        try clear c43b0
        try clear c44
        try clear c45
        try clear c46
        try clear c47
        try clear c49
        try clear c50
        try clear c51
        try clear c53
        try clear c53b0
        try clear c53b1
        try clear c54
        try clear c54b0
        try clear c54b1
        try clear c55
        try clear c55b0
        try clear c55b1
        try clear c56
        try clear c56b0
        try clear c57
        try clear c58
        try clear c59
        try clear c60
        try clear c62
        try clear c63
        try clear c64
        try clear p64
        try clear c66
        try clear c67
        try clear c69
        try clear c70
        try clear c71
        try clear c72
        try clear c74
        try clear c75
        try clear c76
        try clear c78
        try clear c79
        try clear c81
        try clear c83
        try clear c84
        try clear c85
        try clear c86
        try clear c88
        try clear c89
        try clear c90
        try clear c92
        try clear c93
        try clear c94
        try clear c95
        try clear c97
        try clear c98
        try clear c99
        try clear c101
        try clear c102
        try clear c103
        try clear c104
        try clear c106
        try clear c107
        try clear c108
        try clear hcz100_0
        try clear hcz100_1
        try clear hcz100_2
        try clear hcz105_0
        try clear hcz105_1
        try clear hcz105_2
        try clear hcz109_0
        try clear hcz109_1
        try clear hcz109_2
        try clear hcz14_0
        try clear hcz14_1
        try clear hcz14_2
        try clear hcz19_0
        try clear hcz19_1
        try clear hcz19_2
        try clear hcz23_0
        try clear hcz23_1
        try clear hcz23_2
        try clear hcz24_0
        try clear hcz24_1
        try clear hcz24_2
        try clear hcz29_0
        try clear hcz29_1
        try clear hcz29_2
        try clear hcz35_0
        try clear hcz35_1
        try clear hcz35_2
        try clear hcz42_0
        try clear hcz42_1
        try clear hcz42_2
        try clear hcz48_0
        try clear hcz48_1
        try clear hcz48_2
        try clear hcz52_0
        try clear hcz52_1
        try clear hcz52_2
        try clear hcz61_0
        try clear hcz61_1
        try clear hcz61_2
        try clear hcz65_0
        try clear hcz65_1
        try clear hcz65_2
        try clear hcz68_0
        try clear hcz68_1
        try clear hcz68_2
        try clear hcz73_0
        try clear hcz73_1
        try clear hcz73_2
        try clear hcz77_0
        try clear hcz77_1
        try clear hcz77_2
        try clear hcz80_0
        try clear hcz80_1
        try clear hcz80_2
        try clear hcz82_0
        try clear hcz82_1
        try clear hcz82_2
        try clear hcz87_0
        try clear hcz87_1
        try clear hcz87_2
        try clear hcz91_0
        try clear hcz91_1
        try clear hcz91_2
        try clear hcz96_0
        try clear hcz96_1
        try clear hcz96_2
        try clear hfz100_0
        try clear hfz100_1
        try clear hfz100_2
        try clear hfz105_0
        try clear hfz105_1
        try clear hfz105_2
        try clear hfz109_0
        try clear hfz109_1
        try clear hfz109_2
        try clear hfz14_0
        try clear hfz14_1
        try clear hfz14_2
        try clear hfz19_0
        try clear hfz19_1
        try clear hfz19_2
        try clear hfz23_0
        try clear hfz23_1
        try clear hfz23_2
        try clear hfz24_0
        try clear hfz24_1
        try clear hfz24_2
        try clear hfz29_0
        try clear hfz29_1
        try clear hfz29_2
        try clear hfz35_0
        try clear hfz35_1
        try clear hfz35_2
        try clear hfz42_0
        try clear hfz42_1
        try clear hfz42_2
        try clear hfz48_0
        try clear hfz48_1
        try clear hfz48_2
        try clear hfz52_0
        try clear hfz52_1
        try clear hfz52_2
        try clear hfz61_0
        try clear hfz61_1
        try clear hfz61_2
        try clear hfz65_0
        try clear hfz65_1
        try clear hfz65_2
        try clear hfz68_0
        try clear hfz68_1
        try clear hfz68_2
        try clear hfz73_0
        try clear hfz73_1
        try clear hfz73_2
        try clear hfz77_0
        try clear hfz77_1
        try clear hfz77_2
        try clear hfz80_0
        try clear hfz80_1
        try clear hfz80_2
        try clear hfz82_0
        try clear hfz82_1
        try clear hfz82_2
        try clear hfz87_0
        try clear hfz87_1
        try clear hfz87_2
        try clear hfz91_0
        try clear hfz91_1
        try clear hfz91_2
        try clear hfz96_0
        try clear hfz96_1
        try clear hfz96_2
        obtain ⟨kq, x73_10, rfl, HA, HJ10, BK505, BK515, BK520, BK525, BK530, HB⟩ := hcut
        cases kq with
        | zero => exact absurd HA.out (by simp [quarrylaw02_CalcNulls.j0])
        | succ kj10 =>
          have H := HA.out
          clear HA
          simp only [quarrylaw02_CalcNulls.j0] at H
          by_cases c110 : x73_10 = true
          · subst c110
            have H1 : (none) = some r := by rw [if_pos rfl] at H; exact H
            cases H1
          · replace c110 := Bool.eq_false_iff.mpr c110
            subst c110
            have H1 : (if t514 = 0 then (if (wrap64 (3 + (wrap64 (Int.tmod (IntKind.u64.wrap (a0)) 14)))) = 4 then (if (a1_0 == 1 && (a1_1 == 0 && (a1_2.toList == ([] : List UInt8)))) = true then (some (t511 == a1_0 && (t512 == a1_1 && (t513.toList == a1_2.toList)))) else (if (wrap64 (3 + (wrap64 (Int.tmod (IntKind.u64.wrap (a0)) 14)))) = 3 then (if (a1_0 == 1 && (a1_1 == 1 && (a1_2.toList == ([] : List UInt8)))) = true then (some (t511 == a1_0 && (t512 == a1_1 && (t513.toList == a1_2.toList)))) else (some (t511 == 0 && (t512 == 0 && (t513.toList == ([] : List UInt8)))))) else (some (t511 == 0 && (t512 == 0 && (t513.toList == ([] : List UInt8))))))) else (if (wrap64 (3 + (wrap64 (Int.tmod (IntKind.u64.wrap (a0)) 14)))) = 3 then (if (a1_0 == 1 && (a1_1 == 1 && (a1_2.toList == ([] : List UInt8)))) = true then (some (t511 == a1_0 && (t512 == a1_1 && (t513.toList == a1_2.toList)))) else (some (t511 == 0 && (t512 == 0 && (t513.toList == ([] : List UInt8)))))) else (some (t511 == 0 && (t512 == 0 && (t513.toList == ([] : List UInt8))))))) else (some (t514 == 35))) = some r := by rw [if_neg (show ¬ (false = true) by decide)] at H; exact H
            clear H
            have H := H1
            clear H1
            by_cases c111 : t514 = 0
            · rw [if_pos c111] at H
              have c111b0 : (t514 == 0) = true := beq_iff_eq.mpr c111
              have c111b1 : (t514 != 0) = false := bne_eq_false_iff_eq.mpr c111
              clear c111
              by_cases c112 : (wrap64 (3 + (wrap64 (Int.tmod (IntKind.u64.wrap (a0)) 14)))) = 4
              · rw [if_pos c112] at H
                have c112b0 : ((wrap64 (3 + (wrap64 (Int.tmod (IntKind.u64.wrap (a0)) 14)))) == 4) = true := beq_iff_eq.mpr c112
                have c112b1 : ((wrap64 (3 + (wrap64 (Int.tmod (IntKind.u64.wrap (a0)) 14)))) != 4) = false := bne_eq_false_iff_eq.mpr c112
                clear c112
                by_cases c113 : (a1_0 == 1 && (a1_1 == 0 && (a1_2.toList == ([] : List UInt8)))) = true
                · rw [if_pos c113] at H
                  have c113b0 : (a1_0 == 1 && (a1_1 == 0 && (a1_2.toList == ([] : List UInt8)))) = true := c113
                  (try (have c113b9 : (a1_0 == 1 && (a1_1 == 0 && a1_2.toList.isEmpty)) = true := by simpa using c113))
                  (try (have c113b1 : decide (a1_0 = 1 && (a1_1 == 0 && (a1_2.toList == ([] : List UInt8)))) = true := by simpa using c113))
                  (try (have c113b2 : (a1_0 == 1 && (a1_1 == 0 && (a1_2.toList == ([] : List UInt8)))) = true := by simpa using c113))
                  clear c113
                  obtain rfl := Option.some.inj H
                  have hnb114 := NB505_515.out
                  have hnc114 := NB515_505.out
                  have hnb115 := NB505_520.out
                  have hnc115 := NB520_505.out
                  have hnb116 := NB505_525.out
                  have hnc116 := NB525_505.out
                  have hnb117 := NB505_530.out
                  have hnc117 := NB530_505.out
                  have hcz118_0 : wc.cell? ⟨gb505, 0, none⟩ = some (.int .i64 a1_0) := (blk_cell BK505.out 0).trans rfl
                  have hcz118_1 : wc.cell? ⟨gb505, 1, none⟩ = some (.int .i64 a1_1) := (blk_cell BK505.out 1).trans rfl
                  have hcz118_2 : wc.cell? ⟨gb505, 2, none⟩ = some (.string a1_2) := (blk_cell BK505.out 2).trans rfl
                  have hfz118_0 := blk_frozen BK505.out 0
                  have hfz118_1 := blk_frozen BK505.out 1
                  have hfz118_2 := blk_frozen BK505.out 2
                  have hnb119 := NB515_520.out
                  have hnc119 := NB520_515.out
                  have hnb120 := NB515_525.out
                  have hnc120 := NB525_515.out
                  have hnb121 := NB515_530.out
                  have hnc121 := NB530_515.out
                  have hcz122_0 : wc.cell? ⟨gb515, 0, none⟩ = some (.int .i64 t511) := (blk_cell BK515.out 0).trans rfl
                  have hcz122_1 : wc.cell? ⟨gb515, 1, none⟩ = some (.int .i64 t512) := (blk_cell BK515.out 1).trans rfl
                  have hcz122_2 : wc.cell? ⟨gb515, 2, none⟩ = some (.string t513) := (blk_cell BK515.out 2).trans rfl
                  have hfz122_0 := blk_frozen BK515.out 0
                  have hfz122_1 := blk_frozen BK515.out 1
                  have hfz122_2 := blk_frozen BK515.out 2
                  go_wp2
                  go_ret
                  exact ⟨by first | rfl | (simp [errW_none, errW_some] <;> rfl) | (simp [*, errW_none, errW_some] <;> rfl), by repeat (first | (with_reducible first | exact HB.out | apply below_alloc | apply pw_below_drewN | apply below_drew1 | refine below_set ?_ GE505.out | refine below_set ?_ GE515.out | refine below_set ?_ GE520.out | refine below_set ?_ GE525.out | refine below_set ?_ GE530.out) | exact HB.out)⟩
                · rw [if_neg c113] at H
                  have c113b0 : (a1_0 == 1 && (a1_1 == 0 && (a1_2.toList == ([] : List UInt8)))) = false := by simpa using c113
                  (try (have c113b9 : (a1_0 == 1 && (a1_1 == 0 && a1_2.toList.isEmpty)) = false := by simpa using c113))
                  (try (have c113b1 : decide (a1_0 = 1 && (a1_1 == 0 && (a1_2.toList == ([] : List UInt8)))) = false := by simpa using c113))
                  (try (have c113b2 : (a1_0 == 1 && (a1_1 == 0 && (a1_2.toList == ([] : List UInt8)))) = false := by simpa using c113))
                  (try (have c113b3 : ¬ (a1_0 = 1 && (a1_1 == 0 && (a1_2.toList == ([] : List UInt8)))) := by simpa using c113))
                  clear c113
                  by_cases c123 : (wrap64 (3 + (wrap64 (Int.tmod (IntKind.u64.wrap (a0)) 14)))) = 3
                  · rw [if_pos c123] at H
                    have c123b0 : ((wrap64 (3 + (wrap64 (Int.tmod (IntKind.u64.wrap (a0)) 14)))) == 3) = true := beq_iff_eq.mpr c123
                    have c123b1 : ((wrap64 (3 + (wrap64 (Int.tmod (IntKind.u64.wrap (a0)) 14)))) != 3) = false := bne_eq_false_iff_eq.mpr c123
                    clear c123
                    by_cases c124 : (a1_0 == 1 && (a1_1 == 1 && (a1_2.toList == ([] : List UInt8)))) = true
                    · rw [if_pos c124] at H
                      have c124b0 : (a1_0 == 1 && (a1_1 == 1 && (a1_2.toList == ([] : List UInt8)))) = true := c124
                      (try (have c124b9 : (a1_0 == 1 && (a1_1 == 1 && a1_2.toList.isEmpty)) = true := by simpa using c124))
                      (try (have c124b1 : decide (a1_0 = 1 && (a1_1 == 1 && (a1_2.toList == ([] : List UInt8)))) = true := by simpa using c124))
                      (try (have c124b2 : (a1_0 == 1 && (a1_1 == 1 && (a1_2.toList == ([] : List UInt8)))) = true := by simpa using c124))
                      clear c124
                      obtain rfl := Option.some.inj H
                      have hnb125 := NB505_515.out
                      have hnc125 := NB515_505.out
                      have hnb126 := NB505_520.out
                      have hnc126 := NB520_505.out
                      have hnb127 := NB505_525.out
                      have hnc127 := NB525_505.out
                      have hnb128 := NB505_530.out
                      have hnc128 := NB530_505.out
                      have hcz129_0 : wc.cell? ⟨gb505, 0, none⟩ = some (.int .i64 a1_0) := (blk_cell BK505.out 0).trans rfl
                      have hcz129_1 : wc.cell? ⟨gb505, 1, none⟩ = some (.int .i64 a1_1) := (blk_cell BK505.out 1).trans rfl
                      have hcz129_2 : wc.cell? ⟨gb505, 2, none⟩ = some (.string a1_2) := (blk_cell BK505.out 2).trans rfl
                      have hfz129_0 := blk_frozen BK505.out 0
                      have hfz129_1 := blk_frozen BK505.out 1
                      have hfz129_2 := blk_frozen BK505.out 2
                      have hnb130 := NB515_520.out
                      have hnc130 := NB520_515.out
                      have hnb131 := NB515_525.out
                      have hnc131 := NB525_515.out
                      have hnb132 := NB515_530.out
                      have hnc132 := NB530_515.out
                      have hcz133_0 : wc.cell? ⟨gb515, 0, none⟩ = some (.int .i64 t511) := (blk_cell BK515.out 0).trans rfl
                      have hcz133_1 : wc.cell? ⟨gb515, 1, none⟩ = some (.int .i64 t512) := (blk_cell BK515.out 1).trans rfl
                      have hcz133_2 : wc.cell? ⟨gb515, 2, none⟩ = some (.string t513) := (blk_cell BK515.out 2).trans rfl
                      have hfz133_0 := blk_frozen BK515.out 0
                      have hfz133_1 := blk_frozen BK515.out 1
                      have hfz133_2 := blk_frozen BK515.out 2
                      go_wp2
                      go_ret
                      exact ⟨by first | rfl | (simp [errW_none, errW_some] <;> rfl) | (simp [*, errW_none, errW_some] <;> rfl), by repeat (first | (with_reducible first | exact HB.out | apply below_alloc | apply pw_below_drewN | apply below_drew1 | refine below_set ?_ GE505.out | refine below_set ?_ GE515.out | refine below_set ?_ GE520.out | refine below_set ?_ GE525.out | refine below_set ?_ GE530.out) | exact HB.out)⟩
                    · rw [if_neg c124] at H
                      have c124b0 : (a1_0 == 1 && (a1_1 == 1 && (a1_2.toList == ([] : List UInt8)))) = false := by simpa using c124
                      (try (have c124b9 : (a1_0 == 1 && (a1_1 == 1 && a1_2.toList.isEmpty)) = false := by simpa using c124))
                      (try (have c124b1 : decide (a1_0 = 1 && (a1_1 == 1 && (a1_2.toList == ([] : List UInt8)))) = false := by simpa using c124))
                      (try (have c124b2 : (a1_0 == 1 && (a1_1 == 1 && (a1_2.toList == ([] : List UInt8)))) = false := by simpa using c124))
                      (try (have c124b3 : ¬ (a1_0 = 1 && (a1_1 == 1 && (a1_2.toList == ([] : List UInt8)))) := by simpa using c124))
                      clear c124
                      obtain rfl := Option.some.inj H
                      have hnb134 := NB505_515.out
                      have hnc134 := NB515_505.out
                      have hnb135 := NB505_520.out
                      have hnc135 := NB520_505.out
                      have hnb136 := NB505_525.out
                      have hnc136 := NB525_505.out
                      have hnb137 := NB505_530.out
                      have hnc137 := NB530_505.out
                      have hcz138_0 : wc.cell? ⟨gb505, 0, none⟩ = some (.int .i64 a1_0) := (blk_cell BK505.out 0).trans rfl
                      have hcz138_1 : wc.cell? ⟨gb505, 1, none⟩ = some (.int .i64 a1_1) := (blk_cell BK505.out 1).trans rfl
                      have hcz138_2 : wc.cell? ⟨gb505, 2, none⟩ = some (.string a1_2) := (blk_cell BK505.out 2).trans rfl
                      have hfz138_0 := blk_frozen BK505.out 0
                      have hfz138_1 := blk_frozen BK505.out 1
                      have hfz138_2 := blk_frozen BK505.out 2
                      have hnb139 := NB515_520.out
                      have hnc139 := NB520_515.out
                      have hnb140 := NB515_525.out
                      have hnc140 := NB525_515.out
                      have hnb141 := NB515_530.out
                      have hnc141 := NB530_515.out
                      have hcz142_0 : wc.cell? ⟨gb515, 0, none⟩ = some (.int .i64 t511) := (blk_cell BK515.out 0).trans rfl
                      have hcz142_1 : wc.cell? ⟨gb515, 1, none⟩ = some (.int .i64 t512) := (blk_cell BK515.out 1).trans rfl
                      have hcz142_2 : wc.cell? ⟨gb515, 2, none⟩ = some (.string t513) := (blk_cell BK515.out 2).trans rfl
                      have hfz142_0 := blk_frozen BK515.out 0
                      have hfz142_1 := blk_frozen BK515.out 1
                      have hfz142_2 := blk_frozen BK515.out 2
                      go_wp2
                      go_ret
                      exact ⟨by first | rfl | (simp [errW_none, errW_some] <;> rfl) | (simp [*, errW_none, errW_some] <;> rfl), by repeat (first | (with_reducible first | exact HB.out | apply below_alloc | apply pw_below_drewN | apply below_drew1 | refine below_set ?_ GE505.out | refine below_set ?_ GE515.out | refine below_set ?_ GE520.out | refine below_set ?_ GE525.out | refine below_set ?_ GE530.out) | exact HB.out)⟩
                  · rw [if_neg c123] at H
                    have c123b0 : ((wrap64 (3 + (wrap64 (Int.tmod (IntKind.u64.wrap (a0)) 14)))) == 3) = false := beq_eq_false_iff_ne.mpr c123
                    have c123b1 : ((wrap64 (3 + (wrap64 (Int.tmod (IntKind.u64.wrap (a0)) 14)))) != 3) = true := bne_iff_ne.mpr c123
                    obtain rfl := Option.some.inj H
                    have hnb143 := NB505_515.out
                    have hnc143 := NB515_505.out
                    have hnb144 := NB505_520.out
                    have hnc144 := NB520_505.out
                    have hnb145 := NB505_525.out
                    have hnc145 := NB525_505.out
                    have hnb146 := NB505_530.out
                    have hnc146 := NB530_505.out
                    have hcz147_0 : wc.cell? ⟨gb505, 0, none⟩ = some (.int .i64 a1_0) := (blk_cell BK505.out 0).trans rfl
                    have hcz147_1 : wc.cell? ⟨gb505, 1, none⟩ = some (.int .i64 a1_1) := (blk_cell BK505.out 1).trans rfl
                    have hcz147_2 : wc.cell? ⟨gb505, 2, none⟩ = some (.string a1_2) := (blk_cell BK505.out 2).trans rfl
                    have hfz147_0 := blk_frozen BK505.out 0
                    have hfz147_1 := blk_frozen BK505.out 1
                    have hfz147_2 := blk_frozen BK505.out 2
                    have hnb148 := NB515_520.out
                    have hnc148 := NB520_515.out
                    have hnb149 := NB515_525.out
                    have hnc149 := NB525_515.out
                    have hnb150 := NB515_530.out
                    have hnc150 := NB530_515.out
                    have hcz151_0 : wc.cell? ⟨gb515, 0, none⟩ = some (.int .i64 t511) := (blk_cell BK515.out 0).trans rfl
                    have hcz151_1 : wc.cell? ⟨gb515, 1, none⟩ = some (.int .i64 t512) := (blk_cell BK515.out 1).trans rfl
                    have hcz151_2 : wc.cell? ⟨gb515, 2, none⟩ = some (.string t513) := (blk_cell BK515.out 2).trans rfl
                    have hfz151_0 := blk_frozen BK515.out 0
                    have hfz151_1 := blk_frozen BK515.out 1
                    have hfz151_2 := blk_frozen BK515.out 2
                    go_wp2
                    go_ret
                    exact ⟨by first | rfl | (simp [errW_none, errW_some] <;> rfl) | (simp [*, errW_none, errW_some] <;> rfl), by repeat (first | (with_reducible first | exact HB.out | apply below_alloc | apply pw_below_drewN | apply below_drew1 | refine below_set ?_ GE505.out | refine below_set ?_ GE515.out | refine below_set ?_ GE520.out | refine below_set ?_ GE525.out | refine below_set ?_ GE530.out) | exact HB.out)⟩
              · rw [if_neg c112] at H
                have c112b0 : ((wrap64 (3 + (wrap64 (Int.tmod (IntKind.u64.wrap (a0)) 14)))) == 4) = false := beq_eq_false_iff_ne.mpr c112
                have c112b1 : ((wrap64 (3 + (wrap64 (Int.tmod (IntKind.u64.wrap (a0)) 14)))) != 4) = true := bne_iff_ne.mpr c112
                by_cases c152 : (wrap64 (3 + (wrap64 (Int.tmod (IntKind.u64.wrap (a0)) 14)))) = 3
                · rw [if_pos c152] at H
                  have c152b0 : ((wrap64 (3 + (wrap64 (Int.tmod (IntKind.u64.wrap (a0)) 14)))) == 3) = true := beq_iff_eq.mpr c152
                  have c152b1 : ((wrap64 (3 + (wrap64 (Int.tmod (IntKind.u64.wrap (a0)) 14)))) != 3) = false := bne_eq_false_iff_eq.mpr c152
                  clear c152
                  by_cases c153 : (a1_0 == 1 && (a1_1 == 1 && (a1_2.toList == ([] : List UInt8)))) = true
                  · rw [if_pos c153] at H
                    have c153b0 : (a1_0 == 1 && (a1_1 == 1 && (a1_2.toList == ([] : List UInt8)))) = true := c153
                    (try (have c153b9 : (a1_0 == 1 && (a1_1 == 1 && a1_2.toList.isEmpty)) = true := by simpa using c153))
                    (try (have c153b1 : decide (a1_0 = 1 && (a1_1 == 1 && (a1_2.toList == ([] : List UInt8)))) = true := by simpa using c153))
                    (try (have c153b2 : (a1_0 == 1 && (a1_1 == 1 && (a1_2.toList == ([] : List UInt8)))) = true := by simpa using c153))
                    clear c153
                    obtain rfl := Option.some.inj H
                    have hnb154 := NB505_515.out
                    have hnc154 := NB515_505.out
                    have hnb155 := NB505_520.out
                    have hnc155 := NB520_505.out
                    have hnb156 := NB505_525.out
                    have hnc156 := NB525_505.out
                    have hnb157 := NB505_530.out
                    have hnc157 := NB530_505.out
                    have hcz158_0 : wc.cell? ⟨gb505, 0, none⟩ = some (.int .i64 a1_0) := (blk_cell BK505.out 0).trans rfl
                    have hcz158_1 : wc.cell? ⟨gb505, 1, none⟩ = some (.int .i64 a1_1) := (blk_cell BK505.out 1).trans rfl
                    have hcz158_2 : wc.cell? ⟨gb505, 2, none⟩ = some (.string a1_2) := (blk_cell BK505.out 2).trans rfl
                    have hfz158_0 := blk_frozen BK505.out 0
                    have hfz158_1 := blk_frozen BK505.out 1
                    have hfz158_2 := blk_frozen BK505.out 2
                    have hnb159 := NB515_520.out
                    have hnc159 := NB520_515.out
                    have hnb160 := NB515_525.out
                    have hnc160 := NB525_515.out
                    have hnb161 := NB515_530.out
                    have hnc161 := NB530_515.out
                    have hcz162_0 : wc.cell? ⟨gb515, 0, none⟩ = some (.int .i64 t511) := (blk_cell BK515.out 0).trans rfl
                    have hcz162_1 : wc.cell? ⟨gb515, 1, none⟩ = some (.int .i64 t512) := (blk_cell BK515.out 1).trans rfl
                    have hcz162_2 : wc.cell? ⟨gb515, 2, none⟩ = some (.string t513) := (blk_cell BK515.out 2).trans rfl
                    have hfz162_0 := blk_frozen BK515.out 0
                    have hfz162_1 := blk_frozen BK515.out 1
                    have hfz162_2 := blk_frozen BK515.out 2
                    go_wp2
                    go_ret
                    exact ⟨by first | rfl | (simp [errW_none, errW_some] <;> rfl) | (simp [*, errW_none, errW_some] <;> rfl), by repeat (first | (with_reducible first | exact HB.out | apply below_alloc | apply pw_below_drewN | apply below_drew1 | refine below_set ?_ GE505.out | refine below_set ?_ GE515.out | refine below_set ?_ GE520.out | refine below_set ?_ GE525.out | refine below_set ?_ GE530.out) | exact HB.out)⟩
                  · rw [if_neg c153] at H
                    have c153b0 : (a1_0 == 1 && (a1_1 == 1 && (a1_2.toList == ([] : List UInt8)))) = false := by simpa using c153
                    (try (have c153b9 : (a1_0 == 1 && (a1_1 == 1 && a1_2.toList.isEmpty)) = false := by simpa using c153))
                    (try (have c153b1 : decide (a1_0 = 1 && (a1_1 == 1 && (a1_2.toList == ([] : List UInt8)))) = false := by simpa using c153))
                    (try (have c153b2 : (a1_0 == 1 && (a1_1 == 1 && (a1_2.toList == ([] : List UInt8)))) = false := by simpa using c153))
                    (try (have c153b3 : ¬ (a1_0 = 1 && (a1_1 == 1 && (a1_2.toList == ([] : List UInt8)))) := by simpa using c153))
                    clear c153
                    obtain rfl := Option.some.inj H
                    have hnb163 := NB505_515.out
                    have hnc163 := NB515_505.out
                    have hnb164 := NB505_520.out
                    have hnc164 := NB520_505.out
                    have hnb165 := NB505_525.out
                    have hnc165 := NB525_505.out
                    have hnb166 := NB505_530.out
                    have hnc166 := NB530_505.out
                    have hcz167_0 : wc.cell? ⟨gb505, 0, none⟩ = some (.int .i64 a1_0) := (blk_cell BK505.out 0).trans rfl
                    have hcz167_1 : wc.cell? ⟨gb505, 1, none⟩ = some (.int .i64 a1_1) := (blk_cell BK505.out 1).trans rfl
                    have hcz167_2 : wc.cell? ⟨gb505, 2, none⟩ = some (.string a1_2) := (blk_cell BK505.out 2).trans rfl
                    have hfz167_0 := blk_frozen BK505.out 0
                    have hfz167_1 := blk_frozen BK505.out 1
                    have hfz167_2 := blk_frozen BK505.out 2
                    have hnb168 := NB515_520.out
                    have hnc168 := NB520_515.out
                    have hnb169 := NB515_525.out
                    have hnc169 := NB525_515.out
                    have hnb170 := NB515_530.out
                    have hnc170 := NB530_515.out
                    have hcz171_0 : wc.cell? ⟨gb515, 0, none⟩ = some (.int .i64 t511) := (blk_cell BK515.out 0).trans rfl
                    have hcz171_1 : wc.cell? ⟨gb515, 1, none⟩ = some (.int .i64 t512) := (blk_cell BK515.out 1).trans rfl
                    have hcz171_2 : wc.cell? ⟨gb515, 2, none⟩ = some (.string t513) := (blk_cell BK515.out 2).trans rfl
                    have hfz171_0 := blk_frozen BK515.out 0
                    have hfz171_1 := blk_frozen BK515.out 1
                    have hfz171_2 := blk_frozen BK515.out 2
                    go_wp2
                    go_ret
                    exact ⟨by first | rfl | (simp [errW_none, errW_some] <;> rfl) | (simp [*, errW_none, errW_some] <;> rfl), by repeat (first | (with_reducible first | exact HB.out | apply below_alloc | apply pw_below_drewN | apply below_drew1 | refine below_set ?_ GE505.out | refine below_set ?_ GE515.out | refine below_set ?_ GE520.out | refine below_set ?_ GE525.out | refine below_set ?_ GE530.out) | exact HB.out)⟩
                · rw [if_neg c152] at H
                  have c152b0 : ((wrap64 (3 + (wrap64 (Int.tmod (IntKind.u64.wrap (a0)) 14)))) == 3) = false := beq_eq_false_iff_ne.mpr c152
                  have c152b1 : ((wrap64 (3 + (wrap64 (Int.tmod (IntKind.u64.wrap (a0)) 14)))) != 3) = true := bne_iff_ne.mpr c152
                  obtain rfl := Option.some.inj H
                  have hnb172 := NB515_505.out
                  have hnc172 := NB505_515.out
                  have hnb173 := NB515_520.out
                  have hnc173 := NB520_515.out
                  have hnb174 := NB515_525.out
                  have hnc174 := NB525_515.out
                  have hnb175 := NB515_530.out
                  have hnc175 := NB530_515.out
                  have hcz176_0 : wc.cell? ⟨gb515, 0, none⟩ = some (.int .i64 t511) := (blk_cell BK515.out 0).trans rfl
                  have hcz176_1 : wc.cell? ⟨gb515, 1, none⟩ = some (.int .i64 t512) := (blk_cell BK515.out 1).trans rfl
                  have hcz176_2 : wc.cell? ⟨gb515, 2, none⟩ = some (.string t513) := (blk_cell BK515.out 2).trans rfl
                  have hfz176_0 := blk_frozen BK515.out 0
                  have hfz176_1 := blk_frozen BK515.out 1
                  have hfz176_2 := blk_frozen BK515.out 2
                  go_wp2
                  go_ret
                  exact ⟨by first | rfl | (simp [errW_none, errW_some] <;> rfl) | (simp [*, errW_none, errW_some] <;> rfl), by repeat (first | (with_reducible first | exact HB.out | apply below_alloc | apply pw_below_drewN | apply below_drew1 | refine below_set ?_ GE505.out | refine below_set ?_ GE515.out | refine below_set ?_ GE520.out | refine below_set ?_ GE525.out | refine below_set ?_ GE530.out) | exact HB.out)⟩
            · rw [if_neg c111] at H
              have c111b0 : (t514 == 0) = false := beq_eq_false_iff_ne.mpr c111
              have c111b1 : (t514 != 0) = true := bne_iff_ne.mpr c111
              obtain rfl := Option.some.inj H
              go_wp2
              go_ret
              exact ⟨by first | rfl | (simp [errW_none, errW_some] <;> rfl) | (simp [*, errW_none, errW_some] <;> rfl), by repeat (first | (with_reducible first | exact HB.out | apply below_alloc | apply pw_below_drewN | apply below_drew1 | refine below_set ?_ GE505.out | refine below_set ?_ GE515.out | refine below_set ?_ GE520.out | refine below_set ?_ GE525.out | refine below_set ?_ GE530.out) | exact HB.out)⟩
    · replace c6 := Bool.eq_false_iff.mpr c6
      subst c6
      have H1 : (some true) = some r := by rw [if_neg (show ¬ (false = true) by decide)] at H; exact H
      clear H
      have H := H1
      clear H1
      obtain rfl := Option.some.inj H
      go_enter Try.func10, Try.ntmps10
      go_wp2_with (first | ((with_reducible refine gate_dst (N := 3) rfl ?_); refine box_event ?hg (N := 3) ?hd (cs := #[.int .i64 a1_0, .int .i64 a1_1, .string a1_2]) (t := 25) ?hr ?_; (case hd => rfl); (case hg => rfl); (case hr => first | (go_simp; done) | (go_simp; rfl)); intro gb505 hg w177 hbox hb; have n0_ := Aside0.mk (below_step (by repeat (first | (with_reducible first | exact HB.out | apply below_alloc | apply pw_below_drewN | apply below_drew1) | exact HB.out)) hb); have n1_ := Aside0.mk (hbox); have n2_ := Aside0.mk ((by rw [hg]; exact (below_size (by repeat (first | (with_reducible first | exact HB.out | apply below_alloc | apply pw_below_drewN | apply below_drew1) | exact HB.out))) : w.heap.size ≤ gb505)); have n3_ := Aside0.mk ((by rw [hg]; exact (below_size (by repeat (first | (with_reducible first | exact HB.out | apply below_alloc | apply pw_below_drewN | apply below_drew1) | exact HB.out))) : w.heap.size ≤ gb505)); clear HB; have HB := n0_; have BK505 := n1_; have GW505 := n2_; have GE505 := n3_; clear n0_ n1_ n2_ n3_; clear hb hbox hg) | ((with_reducible refine gate_callee (f := 23) rfl ?_); refine goesL_ (some 13) rfl rfl Try.func23 (by kernel_rfl) rfl #[] rfl (by (try simp only [List.map_toArray, List.map_cons, List.map_nil]); first | done | rfl | (simp only [List.length_drop, List.length_take]; rfl)) ?_; (with_reducible refine (quarrylaw02_works.calls  true _ A3.out).mono ?_); rintro e w178 ⟨rfl, hb⟩; refine ⟨_, rfl, ?_⟩; have n0_ := Aside0.mk (blk_below (g := gb505) (o := .cells #[.int .i64 a1_0, .int .i64 a1_1, .string a1_2] 25 (0, 0)) (by (with_reducible repeat (first | refine blk_drewN ?_ _ | refine blk_drew ?_ | refine blk_alloc ?_ _)); exact BK505.out) hb); have n1_ := Aside0.mk (below_step (by repeat (first | (with_reducible first | exact HB.out | apply below_alloc | apply pw_below_drewN | apply below_drew1 | refine below_set ?_ GE505.out) | exact HB.out)) hb); clear BK505; clear HB; have BK505 := n0_; have HB := n1_; clear n0_ n1_; (try clear hb); (try clear hb2); (try clear hk); (try clear hi); have hcz179_0 : w178.cell? ⟨gb505, 0, none⟩ = some (.int .i64 a1_0) := (blk_cell BK505.out 0).trans rfl; have hcz179_1 : w178.cell? ⟨gb505, 1, none⟩ = some (.int .i64 a1_1) := (blk_cell BK505.out 1).trans rfl; have hcz179_2 : w178.cell? ⟨gb505, 2, none⟩ = some (.string a1_2) := (blk_cell BK505.out 2).trans rfl; have hfz179_0 := blk_frozen BK505.out 0; have hfz179_1 := blk_frozen BK505.out 1; have hfz179_2 := blk_frozen BK505.out 2) | ((with_reducible refine gate_dst (N := 16) rfl ?_); refine Kd.R_lit k25 _ 25 ?hg (N := 16) ?hd (xs := ([(⟨a1_0, a1_1, a1_2⟩ : S25)] : List (S25))) (inner := [.int .i64 a1_0, .int .i64 a1_1, .string a1_2]) (ok := fun _ => True) (okp := fun _ => True) ?hr ?hp (fun _ hk => hk) trivial (Below.refl _ _) (Nat.le_refl _) (by simp) ?_; (case hd => rfl); (case hg => rfl); (case hr => first | (go_simp; done) | (go_simp; rfl)); (case hp => exact (Reps.c3 (show Kd.M k25 _ _ _ (⟨a1_0, a1_1, a1_2⟩ : S25) [.int .i64 a1_0, .int .i64 a1_1, .string a1_2] from (k25_mkM _ _ _ (⟨a1_0, a1_1, a1_2⟩ : S25) )) (Reps.none _ _))); intro v508 w180 ho181 hb hg_ hnew_; clear hg_ hnew_; (first | rw [← Ny507.out] at ho181 | (simp only [Int.reduceToNat] at ho181; rw [← Ny507.out] at ho181)); have n0_ := Aside0.mk (Kd.R_lower (Kd.R_newB ho181 (g := gb505) (o := .cells #[.int .i64 a1_0, .int .i64 a1_1, .string a1_2] 25 (0, 0)) (by (with_reducible repeat (first | refine blk_drewN ?_ _ | refine blk_drew ?_ | refine blk_alloc ?_ _)); exact BK505.out)) (below_size (by repeat (first | (with_reducible first | exact HB.out | apply below_alloc | apply pw_below_drewN | apply below_drew1 | refine below_set ?_ GE505.out) | exact HB.out)))); have n1_ := Aside0.mk (blk_below (g := gb505) (o := .cells #[.int .i64 a1_0, .int .i64 a1_1, .string a1_2] 25 (0, 0)) (by (with_reducible repeat (first | refine blk_drewN ?_ _ | refine blk_drew ?_ | refine blk_alloc ?_ _)); exact BK505.out) hb); have n2_ := Aside0.mk (below_step (by repeat (first | (with_reducible first | exact HB.out | apply below_alloc | apply pw_below_drewN | apply below_drew1 | refine below_set ?_ GE505.out) | exact HB.out)) hb); clear BK505; clear HB; have HO509 := n0_; have BK505 := n1_; have HB := n2_; clear n0_ n1_ n2_; clear hb ho181; obtain ⟨Ao182, co182, eo182⟩ := Kd.R_slice HO509.out; subst eo182) | ((with_reducible refine gate_callee (f := 11) rfl ?_); refine goesL_ (some 17) rfl rfl Try.func11 (by kernel_rfl) rfl #[.slice Ao182 y507.length co182] rfl (by (try simp only [List.map_toArray, List.map_cons, List.map_nil]); first | done | rfl | (simp only [List.length_drop, List.length_take]; rfl)) ?_; (with_reducible refine (quarrylaw02_right.calls k _ _ y507 false _ ?side1 ?side2 A5.out).mono ?_); (case side1 => repeat (first | exact (Kd.R_reads' HO509.out).2.2 | (with_reducible refine Kd.C_alloc ?_ _) | (with_reducible refine Kd.C_drewN ?_ _) | (with_reducible refine Kd.C_drew ?_))); (case side2 => exact (Kd.R_reads' HO509.out).2.1); rintro e w183 ⟨rfl, hb⟩; refine ⟨_, rfl, ?_⟩; have n0_ := Aside0.mk (Kd.R_below (by (with_reducible repeat (first | apply Kd.R_alloc | apply Kd.R_drewN | apply Kd.R_drew)); exact HO509.out) hb); have n1_ := Aside0.mk (blk_below (g := gb505) (o := .cells #[.int .i64 a1_0, .int .i64 a1_1, .string a1_2] 25 (0, 0)) (by (with_reducible repeat (first | refine blk_drewN ?_ _ | refine blk_drew ?_ | refine blk_alloc ?_ _)); exact BK505.out) hb); have n2_ := Aside0.mk (below_step (by repeat (first | (with_reducible first | exact HB.out | apply below_alloc | apply pw_below_drewN | apply below_drew1 | refine below_set ?_ GE505.out) | exact HB.out)) hb); clear HO509; clear BK505; clear HB; have HO509 := n0_; have BK505 := n1_; have HB := n2_; clear n0_ n1_ n2_; (try clear hb); (try clear hb2); (try clear hk); (try clear hi)))
      go_ret
      exact ⟨by first | rfl | (simp [errW_none, errW_some] <;> rfl) | (simp [*, errW_none, errW_some] <;> rfl), by repeat (first | (with_reducible first | exact HB.out | apply below_alloc | apply pw_below_drewN | apply below_drew1 | refine below_set ?_ GE505.out) | exact HB.out)⟩
  · rw [if_neg c4] at H
    cases H
end Go.Proofs.Ytfbeklbjlkgbnaa.P
end
section
namespace Go.Proofs.Ytfbeklbjlkgbnaa.Pure
set_option linter.unusedVariables false
set_option linter.unusedSimpArgs false
open Go.RowKit Go.Proofs.Ytfbeklbjlkgbnaa.P Go.Proofs.YtfbeklbjlkgbnaaW.PrintWords Go.Proofs.YtfbeklbjlkgbnaaW.PrintLast Go.Proofs.YtfbeklbjlkgbnaaW.PrintMore
def okV (x : S25) : Bool := chkR x.f0 x.f1 x.f2 == 0
theorem right_loop : ∀ (s p : List S25), (p ++ s).length < 140737488355328 → Ev (fun k => quarrylaw02_right.l0 k (p ++ s) (p.length : Int)) (s.all okV)
  | [], p, hl => by
    refine Ev.succ ?_
    simp only [quarrylaw02_right.l0, List.append_nil, Int.lt_irrefl, if_false]
    exact Ev.pure _
  | x :: s, p, hl => by
    refine Ev.succ ?_
    have h1 : (p.length : Int) < ((p ++ x :: s).length : Int) := by simp; omega
    have h2 : (0 : Int) ≤ (p.length : Int) := by omega
    simp only [quarrylaw02_right.l0, if_pos h1, if_pos h2, rd_at, quarryref01_Check.f, Option.bind_some]
    by_cases h : chkR x.f0 x.f1 x.f2 = 0
    · simp only [if_pos h]
      have ih := right_loop s (p ++ [x]) (by simpa using hl)
      have hw : wrap64 ((p.length : Int) + 1) = ((p ++ [x]).length : Int) := by
        simp at hl
        unfold wrap64
        simp
        omega
      rw [hw]
      have hb : (x :: s).all okV = s.all okV := by simp [okV, h]
      rw [hb]
      simpa using ih
    · simp only [if_neg h]
      have hb : (x :: s).all okV = false := by simp [okV, h]
      rw [hb]
      exact Ev.pure _
theorem right_ev (l : List S25) (hl : l.length < 140737488355328) : Ev (fun k => quarrylaw02_right.f k l) (l.all okV) := by
  have := right_loop l [] (by simpa using hl)
  simpa [quarrylaw02_right.f] using this
theorem okV_null {x : S25} (h : okV x = true) (h0 : x.f0 = 0) : x = ⟨0, 0, ⟨#[]⟩⟩ := by
  have h' : chkR x.f0 x.f1 x.f2 = 0 := beq_iff_eq.1 h
  unfold chkR at h'
  rw [if_pos h0] at h'
  by_cases hc : x.f1 = 0 ∧ x.f2.toList = []
  · cases x
    simp only at h0 hc
    have he : (⟨#[]⟩ : ByteArray).toList = [] := by rw [Go.ByteArray.toList_eq]
    rw [h0, hc.1, toList_inj (hc.2.trans he.symm)]
  · rw [if_neg hc] at h'
    omega
end Go.Proofs.Ytfbeklbjlkgbnaa.Pure
end
section
namespace Go.Proofs.Ytfbeklbjlkgbnaa.Pure
set_option linter.unusedVariables false
set_option linter.unusedSimpArgs false
open Go.RowKit Go.Proofs.Ytfbeklbjlkgbnaa.P Go.Proofs.YtfbeklbjlkgbnaaW.PrintWords Go.Proofs.YtfbeklbjlkgbnaaW.PrintLast Go.Proofs.YtfbeklbjlkgbnaaW.PrintMore
theorem bin_f (op : Int) (x y : S25) (h : fits x y) : calc_Binary.f op x.f0 x.f1 x.f2 y.f0 y.f1 y.f2 = some (outT (bin op x y)) := if_pos h
theorem num_f (n : Int) : quarrylaw02_num.f n = some (2, n, V0) := rfl
theorem V0_list : V0.toList = [] := by rw [Go.ByteArray.toList_eq]; rfl
theorem works_f : quarrylaw02_works.f = some true := by
  have b1 : calc_Binary.f 11 2 2 V0 2 3 V0 = some (2, 5, V0, 0) := by kernel_rfl
  have b2 : calc_Binary.f 4 0 0 V0 1 0 V0 = some (1, 0, V0, 0) := by kernel_rfl
  have b3 : calc_Binary.f 14 2 1 V0 2 0 V0 = some (0, 0, V0, 41) := by kernel_rfl
  have b4 : calc_Call.f 5 [⟨3, 0, ⟨#[104, 101, 108, 108, 111]⟩⟩, ⟨2, 2, V0⟩, ⟨2, 3, V0⟩] = some (3, 0, ⟨#[101, 108, 108]⟩, 0) := by kernel_rfl
  have e : (⟨#[101, 108, 108]⟩ : ByteArray).toList = [101, 108, 108] := by rw [Go.ByteArray.toList_eq]
  unfold quarrylaw02_works.f
  have e0 : (⟨#[]⟩ : ByteArray) = V0 := rfl
  simp only [num_f, Option.bind_some, e0, b1, b2, b3, b4, e, V0_list]
  rfl
end Go.Proofs.Ytfbeklbjlkgbnaa.Pure
end
section
namespace Go.Proofs.Ytfbeklbjlkgbnaa.Pure
set_option linter.unusedVariables false
set_option linter.unusedSimpArgs false
open Go.RowKit Go.Proofs.Ytfbeklbjlkgbnaa.P Go.Proofs.YtfbeklbjlkgbnaaW.PrintWords Go.Proofs.YtfbeklbjlkgbnaaW.PrintLast Go.Proofs.YtfbeklbjlkgbnaaW.PrintMore
theorem okV_num {x : S25} (h : okV x = true) (h2 : x.f0 = 1 ∨ x.f0 = 2) : x.f2 = V0 := by
  have h' : chkR x.f0 x.f1 x.f2 = 0 := beq_iff_eq.1 h
  have hc : x.f2.toList = [] := by
    unfold chkR at h'
    rw [if_neg (by omega)] at h'
    by_cases h1 : x.f0 = 1
    · rw [if_pos h1] at h'
      by_cases hc : (x.f1 = 0 ∨ x.f1 = 1) ∧ x.f2.toList = []
      · exact hc.2
      · rw [if_neg hc] at h'; omega
    · rw [if_neg h1, if_pos (by omega)] at h'
      by_cases hc : x.f2.toList = []
      · exact hc
      · rw [if_neg hc] at h'; omega
  exact toList_inj (hc.trans V0_list.symm)
theorem okV_bool {x : S25} (h : okV x = true) (h1 : x.f0 = 1) : x = truthV true ∨ x = truthV false := by
  have h' : chkR x.f0 x.f1 x.f2 = 0 := beq_iff_eq.1 h
  have ht := okV_num h (.inl h1)
  unfold chkR at h'
  rw [if_neg (by omega), if_pos h1] at h'
  by_cases hc : (x.f1 = 0 ∨ x.f1 = 1) ∧ x.f2.toList = []
  · cases x
    simp only at h1 ht hc
    subst h1; subst ht
    rcases hc.1 with h0 | h0
    · subst h0; exact .inr rfl
    · subst h0; exact .inl rfl
  · rw [if_neg hc] at h'; omega
end Go.Proofs.Ytfbeklbjlkgbnaa.Pure
end
section
namespace Go.Proofs.Ytfbeklbjlkgbnaa.Pure
open Go.RowKit Go.Proofs.Ytfbeklbjlkgbnaa.P Go.Proofs.YtfbeklbjlkgbnaaW.PrintWords Go.Proofs.YtfbeklbjlkgbnaaW.PrintLast
theorem op_in (n : Int) : 3 ≤ wrap64 (3 + wrap64 (Int.tmod (IntKind.u64.wrap n) 14)) ∧ wrap64 (3 + wrap64 (Int.tmod (IntKind.u64.wrap n) 14)) ≤ 16 := by
  have h0 : 0 ≤ IntKind.u64.wrap n := by
    simp only [IntKind.wrap, IntKind.bits, IntKind.signed, Bool.false_and, Bool.false_eq_true, if_false]
    omega
  have h1 : Int.tmod (IntKind.u64.wrap n) 14 = IntKind.u64.wrap n % 14 := Int.tmod_eq_emod_of_nonneg h0
  rw [h1]
  have h2 : wrap64 (IntKind.u64.wrap n % 14) = IntKind.u64.wrap n % 14 := by unfold wrap64; omega
  rw [h2]
  unfold wrap64
  omega
def decP (op : Int) (v : S25) : Prop := (op = 4 ∧ v = truthV false) ∨ (op = 3 ∧ v = truthV true)
instance (op : Int) (v : S25) : Decidable (decP op v) := by unfold decP; infer_instance
theorem null_bin {op : Int} {v : S25} (h3 : 3 ≤ op) (h16 : op ≤ 16) (hv : okV v = true) : bin op v zeroV = if kindsP op v.f0 0 then .ok (if decP op v then v else zeroV) else .error 35 := by
  unfold bin
  rw [if_neg (show ¬ ¬ (3 ≤ op ∧ op ≤ 16) by omega)]
  have e : zeroV.f0 = 0 := rfl
  rw [e]
  by_cases hk : kindsP op v.f0 0
  · rw [if_neg (show ¬ ¬ kindsP op v.f0 0 from fun h => h hk), if_pos hk]
    by_cases h4 : op ≤ 4
    · rw [if_pos h4]
      have hb : v.f0 = 1 ∨ v.f0 = 0 := by
        have hw : wantsP op = 1 := by unfold wantsP; rw [if_pos h4]
        unfold kindsP at hk
        rw [hw] at hk
        rw [if_pos (by decide)] at hk
        exact hk.1
      have cv : v = truthV true ∨ v = truthV false ∨ v = zeroV := hb.elim (fun h => (okV_bool hv h).elim .inl (fun h => .inr (.inl h))) (fun h => .inr (.inr (okV_null hv h)))
      have ho : op = 3 ∨ op = 4 := by omega
      rcases ho with rfl | rfl <;> rcases cv with rfl | rfl | rfl <;> rfl
    · rw [if_neg h4, if_pos (.inr rfl), if_neg (show ¬ decP op v from fun h => h.elim (fun h => by omega) (fun h => by omega))]
  · rw [if_pos hk, if_neg hk]
theorem null_bin' {op : Int} {v : S25} (h3 : 3 ≤ op) (h16 : op ≤ 16) (hv : okV v = true) : bin op zeroV v = bin op v zeroV := by
  rw [null_bin h3 h16 hv]
  unfold bin
  rw [if_neg (show ¬ ¬ (3 ≤ op ∧ op ≤ 16) by omega)]
  have e : zeroV.f0 = 0 := rfl
  rw [e]
  have hc : kindsP op 0 v.f0 ↔ kindsP op v.f0 0 := by
    unfold kindsP
    split
    · exact and_comm
    · constructor
      · intro _; exact .inr (.inl rfl)
      · intro _; exact .inl rfl
  by_cases hk : kindsP op v.f0 0
  · rw [if_neg (show ¬ ¬ kindsP op 0 v.f0 from fun h => h (hc.2 hk)), if_pos hk]
    by_cases h4 : op ≤ 4
    · rw [if_pos h4]
      have hb : v.f0 = 1 ∨ v.f0 = 0 := by
        have hw : wantsP op = 1 := by unfold wantsP; rw [if_pos h4]
        unfold kindsP at hk
        rw [hw] at hk
        rw [if_pos (by decide)] at hk
        exact hk.1
      have cv : v = truthV true ∨ v = truthV false ∨ v = zeroV := hb.elim (fun h => (okV_bool hv h).elim .inl (fun h => .inr (.inl h))) (fun h => .inr (.inr (okV_null hv h)))
      have ho : op = 3 ∨ op = 4 := by omega
      rcases ho with rfl | rfl <;> rcases cv with rfl | rfl | rfl <;> rfl
    · rw [if_neg h4, if_pos (.inl rfl), if_neg (show ¬ decP op v from fun h => h.elim (fun h => by omega) (fun h => by omega))]
  · rw [if_pos (show ¬ kindsP op 0 v.f0 from fun h => hk (hc.1 h)), if_neg hk]
theorem eqc (u : S25) (a b : Int) (t : ByteArray) : (u.f0 == a && (u.f1 == b && (u.f2.toList == t.toList))) = decide (u = ⟨a, b, t⟩) := eqb u ⟨a, b, t⟩
theorem CalcNulls : ∀ (a0 : Int) (x1 : S25), (Lit.int .i64 a0).wf = true → G25 x1 → ∃ k, quarrylaw02_CalcNulls.f k a0 (x1.f0) (x1.f1) (x1.f2) = some true := by
  intro n x _ hx
  refine Ev.get ?_
  unfold quarrylaw02_CalcNulls.f
  simp only [works_f, Option.bind_some, if_true]
  refine Ev.bind (right_ev [x] (by simp)) ?_
  cases h : [x].all okV with
  | false =>
    simp only [Bool.false_eq_true, if_false]
    exact Ev.pure _
  | true =>
    have ox : okV x = true := by simpa using h
    obtain ⟨h3, h16⟩ := op_in n
    obtain ⟨op, hop⟩ : ∃ op, wrap64 (3 + wrap64 (Int.tmod (IntKind.u64.wrap n) 14)) = op := ⟨_, rfl⟩
    rw [hop] at h3 h16
    have hz : fits x zeroV := ⟨wf64 hx.2.1, by decide, hx.2.2, by decide⟩
    have hz' : fits zeroV x := ⟨by decide, wf64 hx.2.1, by decide, hx.2.2⟩
    have e0 : (⟨#[]⟩ : ByteArray) = V0 := rfl
    have b1 : calc_Binary.f op x.f0 x.f1 x.f2 0 0 V0 = some (outT (bin op x zeroV)) := bin_f op x zeroV hz
    have b2 : calc_Binary.f op 0 0 V0 x.f0 x.f1 x.f2 = some (outT (bin op x zeroV)) := (bin_f op zeroV x hz').trans (by rw [null_bin' h3 h16 ox])
    have u1 : calc_Unary.f 2 0 0 V0 = some (0, 0, V0, 0) := by kernel_rfl
    have u2 : calc_Unary.f 1 0 0 V0 = some (0, 0, V0, 0) := by kernel_rfl
    simp only [if_true, hop, e0, b1, b2, u1, u2, Option.bind_some, beq_self_eq_true, Bool.not_true, Bool.or_self, Bool.false_eq_true, if_false, V0_list]
    have fin : Ev (fun k => quarrylaw02_CalcNulls.j0 k op (outT (bin op x zeroV)).2.2.2 false x.f0 x.f1 x.f2 (outT (bin op x zeroV)).1 (outT (bin op x zeroV)).2.1 (outT (bin op x zeroV)).2.2.1) true := by
      refine Ev.succ ?_
      have q1 : ∀ a b : Int, (x.f0 == a && (x.f1 == b && (x.f2.toList == ([] : List UInt8)))) = decide (x = ⟨a, b, V0⟩) := fun a b => by rw [← V0_list]; exact eqc x a b V0
      rw [null_bin h3 h16 ox]
      by_cases hk : kindsP op x.f0 0
      · rw [if_pos hk]
        by_cases hd : decP op x
        · rw [if_pos hd]
          simp only [quarrylaw02_CalcNulls.j0, outT, outE, q1, Bool.false_eq_true, if_false, if_true, beq_self_eq_true, Bool.and_self]
          rcases hd with ⟨rfl, hd⟩ | ⟨rfl, hd⟩
          · have d1 : decide (x = ⟨1, 0, V0⟩) = true := decide_eq_true hd
            simp only [d1, if_true]
            exact Ev.pure _
          · have d1 : decide (x = ⟨1, 1, V0⟩) = true := decide_eq_true hd
            have n4 : ¬ (3 : Int) = 4 := by decide
            simp only [d1, if_true, if_neg n4]
            exact Ev.pure _
        · rw [if_neg hd]
          have zz : ((0 : Int) == 0) = true := rfl
          have d1 : op = 4 → decide (x = ⟨1, 0, V0⟩) = false := fun h1 => decide_eq_false (fun h2 => hd (.inl ⟨h1, h2⟩))
          have d2 : op = 3 → decide (x = ⟨1, 1, V0⟩) = false := fun h1 => decide_eq_false (fun h2 => hd (.inr ⟨h1, h2⟩))
          have t1 : zeroV.f0 = 0 := rfl
          have t2 : zeroV.f1 = 0 := rfl
          have t3 : zeroV.f2 = V0 := rfl
          simp only [quarrylaw02_CalcNulls.j0, outT, outE, q1, Bool.false_eq_true, if_false, if_true, t1, t2, t3, V0_list, beq_self_eq_true, Bool.and_self]
          by_cases h4 : op = 4
          · have n3 : ¬ op = 3 := by omega
            simp only [if_pos h4, d1 h4, if_neg n3, Bool.false_eq_true, if_false]
            exact Ev.pure _
          · by_cases h3' : op = 3
            · simp only [if_neg h4, if_pos h3', d2 h3', Bool.false_eq_true, if_false]
              exact Ev.pure _
            · simp only [if_neg h4, if_neg h3']
              exact Ev.pure _
      · rw [if_neg hk]
        have n0 : ¬ (35 : Int) = 0 := by decide
        simp only [quarrylaw02_CalcNulls.j0, outT, outE, Bool.false_eq_true, if_false, if_neg n0, beq_self_eq_true]
        exact Ev.pure _
    exact fin
end Go.Proofs.Ytfbeklbjlkgbnaa.Pure
end
