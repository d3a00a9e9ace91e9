-- Laid by a program of this session (its own copy of a print, with functions proved by hand): checked by Lean.
import Derived.Test.YtkidihoaeicfdaaDoorP0
import Derived.Test.YtkidihoaeicfdaaDoorP1
namespace Go.Proofs.YtkidihoaeicfdaaDoor.P
open Go.RowKit Go.Proofs.YtkidihoaeicfdaaDoorW.PrintWords Go.Proofs.YtkidihoaeicfdaaDoorW.PrintLast Go.Proofs.YtkidihoaeicfdaaDoorW.PrintMore
attribute [local go_sem] max2_int min2_int max_two min_two max_three min_three max_four min_four   -- for this text's walks alone
set_option linter.unusedVariables false
set_option linter.unusedSimpArgs false

/-! ### quarryref01_Check: function 9 -/
def chkR (a b : Int) (c : ByteArray) : Int :=
  if a = 0 then (if b = 0 ∧ c.toList = [] then 0 else 3)
  else if a = 1 then (if (b = 0 ∨ b = 1) ∧ c.toList = [] then 0 else 3)
  else if a = 2 then (if c.toList = [] then 0 else 3)
  else if a = 3 ∨ a = 4 then (if b = 0 then 0 else 3)
  else 5
def quarryref01_Check.f (a0_0 : Int) (a0_1 : Int) (a0_2 : ByteArray) : Option (Int) := some (chkR a0_0 a0_1 a0_2)
theorem eqR (d : Nat) (w : World) (x0 y0 : Int) (x1 y1 : Int) (x2 y2 : ByteArray) :
    (Op.equalIn (d + 2) 23 (.agg #[.int .i64 x0, .int .i64 x1, .string x2]) (.agg #[.int .i64 y0, .int .i64 y1, .string y2])).run Tryd.prog w = .ok (x0 == y0 && (x1 == y1 && (x2.toList == y2.toList))) w := by
  refine eqA_of Tryd.underlying23 (by kernel_rfl) ?_
  refine eqf_cons (by rfl) (by go_simp; rfl) (by go_simp; rfl) (by go_simp) ?_
  refine eqf_cons (by rfl) (by go_simp; rfl) (by go_simp; rfl) (by go_simp) ?_
  exact eqf_last (by rfl) (by go_simp; rfl) (by go_simp; rfl) (by go_simp)
attribute [local go_sem high] eqR
set_option maxHeartbeats 2000000 in
set_option maxRecDepth 100000 in
theorem quarryref01_Check.z1 (a b : Int) (c : ByteArray) (w : World) (ha : a = 0) (hb : b = 0) (he : c.toList = []) :
    Calls Tryd.prog 9 #[.agg #[.int .i64 a, .int .i64 b, .string c]] w fun e w' => e = .returned (.int .i64 0) ∧ Below w.heap.size w w' := by
  have lo : decide (a < 0) = false := decide_eq_false (by omega)
  have hi : decide (4 < a) = false := decide_eq_false (by omega)
  have hu38 := Tryd.underlying23
  have k0 : (a == 0) = true := beq_iff_eq.mpr ha
  have b0 : (b == 0) = true := beq_iff_eq.mpr hb
  have b1 : (b == 1) = false := beq_eq_false_iff_ne.mpr (by omega)
  have e0 : c.toList.isEmpty = true := List.isEmpty_iff.2 he
  have e1 : (c.toList == ([] : List UInt8)) = true := beq_iff_eq.mpr he
  have n0 : (b != 0) = false := by rw [bne, b0]; rfl
  have n1 : (b != 1) = true := by rw [bne, b1]; rfl
  have e2 : (c.toList != ([] : List UInt8)) = false := by rw [bne, e1]; rfl
  clear ha hb he
  go_enter Tryd.func9, Tryd.ntmps9
  go_wp2
  go_ret
  exact ⟨rfl, by repeat (first | exact Below.refl _ _ | refine Below.setCell ?_ (Nat.le_refl _) _ | refine Below.setCell ?_ (Nat.le_succ _) _ | apply below_alloc)⟩
set_option maxHeartbeats 2000000 in
set_option maxRecDepth 100000 in
theorem quarryref01_Check.z2 (a b : Int) (c : ByteArray) (w : World) (ha : a = 0) (hb : b = 0) (he : ¬ c.toList = []) :
    Calls Tryd.prog 9 #[.agg #[.int .i64 a, .int .i64 b, .string c]] w fun e w' => e = .returned (.int .i64 3) ∧ Below w.heap.size w w' := by
  have lo : decide (a < 0) = false := decide_eq_false (by omega)
  have hi : decide (4 < a) = false := decide_eq_false (by omega)
  have hu38 := Tryd.underlying23
  have k0 : (a == 0) = true := beq_iff_eq.mpr ha
  have b0 : (b == 0) = true := beq_iff_eq.mpr hb
  have b1 : (b == 1) = false := beq_eq_false_iff_ne.mpr (by omega)
  have e0 : c.toList.isEmpty = false := by cases h : c.toList with | nil => exact absurd h he | cons => rfl
  have e1 : (c.toList == ([] : List UInt8)) = false := beq_eq_false_iff_ne.mpr he
  have n0 : (b != 0) = false := by rw [bne, b0]; rfl
  have n1 : (b != 1) = true := by rw [bne, b1]; rfl
  have e2 : (c.toList != ([] : List UInt8)) = true := by rw [bne, e1]; rfl
  clear ha hb he
  go_enter Tryd.func9, Tryd.ntmps9
  go_wp2
  go_ret
  exact ⟨rfl, by repeat (first | exact Below.refl _ _ | refine Below.setCell ?_ (Nat.le_refl _) _ | refine Below.setCell ?_ (Nat.le_succ _) _ | apply below_alloc)⟩
set_option maxHeartbeats 2000000 in
set_option maxRecDepth 100000 in
theorem quarryref01_Check.z3 (a b : Int) (c : ByteArray) (w : World) (ha : a = 0) (hb : ¬ b = 0) :
    Calls Tryd.prog 9 #[.agg #[.int .i64 a, .int .i64 b, .string c]] w fun e w' => e = .returned (.int .i64 3) ∧ Below w.heap.size w w' := by
  have lo : decide (a < 0) = false := decide_eq_false (by omega)
  have hi : decide (4 < a) = false := decide_eq_false (by omega)
  have hu38 := Tryd.underlying23
  have k0 : (a == 0) = true := beq_iff_eq.mpr ha
  have b0 : (b == 0) = false := beq_eq_false_iff_ne.mpr hb
  have n0 : (b != 0) = true := by rw [bne, b0]; rfl
  clear ha hb
  go_enter Tryd.func9, Tryd.ntmps9
  go_wp2
  go_ret
  exact ⟨rfl, by repeat (first | exact Below.refl _ _ | refine Below.setCell ?_ (Nat.le_refl _) _ | refine Below.setCell ?_ (Nat.le_succ _) _ | apply below_alloc)⟩
set_option maxHeartbeats 2000000 in
set_option maxRecDepth 100000 in
theorem quarryref01_Check.t1 (a b : Int) (c : ByteArray) (w : World) (ha : a = 1) (hb : b = 1) (he : c.toList = []) :
    Calls Tryd.prog 9 #[.agg #[.int .i64 a, .int .i64 b, .string c]] w fun e w' => e = .returned (.int .i64 0) ∧ Below w.heap.size w w' := by
  have lo : decide (a < 0) = false := decide_eq_false (by omega)
  have hi : decide (4 < a) = false := decide_eq_false (by omega)
  have hu38 := Tryd.underlying23
  have k0 : (a == 0) = false := beq_eq_false_iff_ne.mpr (by omega)
  have k1 : (a == 1) = true := beq_iff_eq.mpr ha
  have b0 : (b == 0) = false := beq_eq_false_iff_ne.mpr (by omega)
  have b1 : (b == 1) = true := beq_iff_eq.mpr hb
  have e0 : c.toList.isEmpty = true := List.isEmpty_iff.2 he
  have e1 : (c.toList == ([] : List UInt8)) = true := beq_iff_eq.mpr he
  have n0 : (b != 0) = true := by rw [bne, b0]; rfl
  have n1 : (b != 1) = false := by rw [bne, b1]; rfl
  have e2 : (c.toList != ([] : List UInt8)) = false := by rw [bne, e1]; rfl
  clear ha hb he
  go_enter Tryd.func9, Tryd.ntmps9
  go_wp2
  go_ret
  exact ⟨rfl, by repeat (first | exact Below.refl _ _ | refine Below.setCell ?_ (Nat.le_refl _) _ | refine Below.setCell ?_ (Nat.le_succ _) _ | apply below_alloc)⟩
set_option maxHeartbeats 2000000 in
set_option maxRecDepth 100000 in
theorem quarryref01_Check.t2 (a b : Int) (c : ByteArray) (w : World) (ha : a = 1) (hb : b = 1) (he : ¬ c.toList = []) :
    Calls Tryd.prog 9 #[.agg #[.int .i64 a, .int .i64 b, .string c]] w fun e w' => e = .returned (.int .i64 3) ∧ Below w.heap.size w w' := by
  have lo : decide (a < 0) = false := decide_eq_false (by omega)
  have hi : decide (4 < a) = false := decide_eq_false (by omega)
  have hu38 := Tryd.underlying23
  have k0 : (a == 0) = false := beq_eq_false_iff_ne.mpr (by omega)
  have k1 : (a == 1) = true := beq_iff_eq.mpr ha
  have b0 : (b == 0) = false := beq_eq_false_iff_ne.mpr (by omega)
  have b1 : (b == 1) = true := beq_iff_eq.mpr hb
  have e0 : c.toList.isEmpty = false := by cases h : c.toList with | nil => exact absurd h he | cons => rfl
  have e1 : (c.toList == ([] : List UInt8)) = false := beq_eq_false_iff_ne.mpr he
  have n0 : (b != 0) = true := by rw [bne, b0]; rfl
  have n1 : (b != 1) = false := by rw [bne, b1]; rfl
  have e2 : (c.toList != ([] : List UInt8)) = true := by rw [bne, e1]; rfl
  clear ha hb he
  go_enter Tryd.func9, Tryd.ntmps9
  go_wp2
  go_ret
  exact ⟨rfl, by repeat (first | exact Below.refl _ _ | refine Below.setCell ?_ (Nat.le_refl _) _ | refine Below.setCell ?_ (Nat.le_succ _) _ | apply below_alloc)⟩
set_option maxHeartbeats 2000000 in
set_option maxRecDepth 100000 in
theorem quarryref01_Check.t3 (a b : Int) (c : ByteArray) (w : World) (ha : a = 1) (hb : b = 0) (he : c.toList = []) :
    Calls Tryd.prog 9 #[.agg #[.int .i64 a, .int .i64 b, .string c]] w fun e w' => e = .returned (.int .i64 0) ∧ Below w.heap.size w w' := by
  have lo : decide (a < 0) = false := decide_eq_false (by omega)
  have hi : decide (4 < a) = false := decide_eq_false (by omega)
  have hu38 := Tryd.underlying23
  have k0 : (a == 0) = false := beq_eq_false_iff_ne.mpr (by omega)
  have k1 : (a == 1) = true := beq_iff_eq.mpr ha
  have b0 : (b == 0) = true := beq_iff_eq.mpr hb
  have b1 : (b == 1) = false := beq_eq_false_iff_ne.mpr (by omega)
  have e0 : c.toList.isEmpty = true := List.isEmpty_iff.2 he
  have e1 : (c.toList == ([] : List UInt8)) = true := beq_iff_eq.mpr he
  have n0 : (b != 0) = false := by rw [bne, b0]; rfl
  have n1 : (b != 1) = true := by rw [bne, b1]; rfl
  have e2 : (c.toList != ([] : List UInt8)) = false := by rw [bne, e1]; rfl
  clear ha hb he
  go_enter Tryd.func9, Tryd.ntmps9
  go_wp2
  go_ret
  exact ⟨rfl, by repeat (first | exact Below.refl _ _ | refine Below.setCell ?_ (Nat.le_refl _) _ | refine Below.setCell ?_ (Nat.le_succ _) _ | apply below_alloc)⟩
set_option maxHeartbeats 2000000 in
set_option maxRecDepth 100000 in
theorem quarryref01_Check.t4 (a b : Int) (c : ByteArray) (w : World) (ha : a = 1) (hb : b = 0) (he : ¬ c.toList = []) :
    Calls Tryd.prog 9 #[.agg #[.int .i64 a, .int .i64 b, .string c]] w fun e w' => e = .returned (.int .i64 3) ∧ Below w.heap.size w w' := by
  have lo : decide (a < 0) = false := decide_eq_false (by omega)
  have hi : decide (4 < a) = false := decide_eq_false (by omega)
  have hu38 := Tryd.underlying23
  have k0 : (a == 0) = false := beq_eq_false_iff_ne.mpr (by omega)
  have k1 : (a == 1) = true := beq_iff_eq.mpr ha
  have b0 : (b == 0) = true := beq_iff_eq.mpr hb
  have b1 : (b == 1) = false := beq_eq_false_iff_ne.mpr (by omega)
  have e0 : c.toList.isEmpty = false := by cases h : c.toList with | nil => exact absurd h he | cons => rfl
  have e1 : (c.toList == ([] : List UInt8)) = false := beq_eq_false_iff_ne.mpr he
  have n0 : (b != 0) = false := by rw [bne, b0]; rfl
  have n1 : (b != 1) = true := by rw [bne, b1]; rfl
  have e2 : (c.toList != ([] : List UInt8)) = true := by rw [bne, e1]; rfl
  clear ha hb he
  go_enter Tryd.func9, Tryd.ntmps9
  go_wp2
  go_ret
  exact ⟨rfl, by repeat (first | exact Below.refl _ _ | refine Below.setCell ?_ (Nat.le_refl _) _ | refine Below.setCell ?_ (Nat.le_succ _) _ | apply below_alloc)⟩
set_option maxHeartbeats 2000000 in
set_option maxRecDepth 100000 in
theorem quarryref01_Check.t5 (a b : Int) (c : ByteArray) (w : World) (ha : a = 1) (hb : ¬ b = 0) (hb1 : ¬ b = 1) (he : c.toList = []) :
    Calls Tryd.prog 9 #[.agg #[.int .i64 a, .int .i64 b, .string c]] w fun e w' => e = .returned (.int .i64 3) ∧ Below w.heap.size w w' := by
  have lo : decide (a < 0) = false := decide_eq_false (by omega)
  have hi : decide (4 < a) = false := decide_eq_false (by omega)
  have hu38 := Tryd.underlying23
  have k0 : (a == 0) = false := beq_eq_false_iff_ne.mpr (by omega)
  have k1 : (a == 1) = true := beq_iff_eq.mpr ha
  have b0 : (b == 0) = false := beq_eq_false_iff_ne.mpr hb
  have b1 : (b == 1) = false := beq_eq_false_iff_ne.mpr hb1
  have e0 : c.toList.isEmpty = true := List.isEmpty_iff.2 he
  have e1 : (c.toList == ([] : List UInt8)) = true := beq_iff_eq.mpr he
  have n0 : (b != 0) = true := by rw [bne, b0]; rfl
  have n1 : (b != 1) = true := by rw [bne, b1]; rfl
  have e2 : (c.toList != ([] : List UInt8)) = false := by rw [bne, e1]; rfl
  clear ha hb hb1 he
  go_enter Tryd.func9, Tryd.ntmps9
  go_wp2
  go_ret
  exact ⟨rfl, by repeat (first | exact Below.refl _ _ | refine Below.setCell ?_ (Nat.le_refl _) _ | refine Below.setCell ?_ (Nat.le_succ _) _ | apply below_alloc)⟩
set_option maxHeartbeats 2000000 in
set_option maxRecDepth 100000 in
theorem quarryref01_Check.t6 (a b : Int) (c : ByteArray) (w : World) (ha : a = 1) (hb : ¬ b = 0) (hb1 : ¬ b = 1) (he : ¬ c.toList = []) :
    Calls Tryd.prog 9 #[.agg #[.int .i64 a, .int .i64 b, .string c]] w fun e w' => e = .returned (.int .i64 3) ∧ Below w.heap.size w w' := by
  have lo : decide (a < 0) = false := decide_eq_false (by omega)
  have hi : decide (4 < a) = false := decide_eq_false (by omega)
  have hu38 := Tryd.underlying23
  have k0 : (a == 0) = false := beq_eq_false_iff_ne.mpr (by omega)
  have k1 : (a == 1) = true := beq_iff_eq.mpr ha
  have b0 : (b == 0) = false := beq_eq_false_iff_ne.mpr hb
  have b1 : (b == 1) = false := beq_eq_false_iff_ne.mpr hb1
  have e0 : c.toList.isEmpty = false := by cases h : c.toList with | nil => exact absurd h he | cons => rfl
  have e1 : (c.toList == ([] : List UInt8)) = false := beq_eq_false_iff_ne.mpr he
  have n0 : (b != 0) = true := by rw [bne, b0]; rfl
  have n1 : (b != 1) = true := by rw [bne, b1]; rfl
  have e2 : (c.toList != ([] : List UInt8)) = true := by rw [bne, e1]; rfl
  clear ha hb hb1 he
  go_enter Tryd.func9, Tryd.ntmps9
  go_wp2
  go_ret
  exact ⟨rfl, by repeat (first | exact Below.refl _ _ | refine Below.setCell ?_ (Nat.le_refl _) _ | refine Below.setCell ?_ (Nat.le_succ _) _ | apply below_alloc)⟩
set_option maxHeartbeats 2000000 in
set_option maxRecDepth 100000 in
theorem quarryref01_Check.n1 (a b : Int) (c : ByteArray) (w : World) (ha : a = 2) (he : c.toList = []) :
    Calls Tryd.prog 9 #[.agg #[.int .i64 a, .int .i64 b, .string c]] w fun e w' => e = .returned (.int .i64 0) ∧ Below w.heap.size w w' := by
  have lo : decide (a < 0) = false := decide_eq_false (by omega)
  have hi : decide (4 < a) = false := decide_eq_false (by omega)
  have hu38 := Tryd.underlying23
  have k0 : (a == 0) = false := beq_eq_false_iff_ne.mpr (by omega)
  have k1 : (a == 1) = false := beq_eq_false_iff_ne.mpr (by omega)
  have k2 : (a == 2) = true := beq_iff_eq.mpr ha
  have e0 : c.toList.isEmpty = true := List.isEmpty_iff.2 he
  have e1 : (c.toList == ([] : List UInt8)) = true := beq_iff_eq.mpr he
  have e2 : (c.toList != ([] : List UInt8)) = false := by rw [bne, e1]; rfl
  clear ha he
  go_enter Tryd.func9, Tryd.ntmps9
  go_wp2
  go_ret
  exact ⟨rfl, by repeat (first | exact Below.refl _ _ | refine Below.setCell ?_ (Nat.le_refl _) _ | refine Below.setCell ?_ (Nat.le_succ _) _ | apply below_alloc)⟩
set_option maxHeartbeats 2000000 in
set_option maxRecDepth 100000 in
theorem quarryref01_Check.n2 (a b : Int) (c : ByteArray) (w : World) (ha : a = 2) (he : ¬ c.toList = []) :
    Calls Tryd.prog 9 #[.agg #[.int .i64 a, .int .i64 b, .string c]] w fun e w' => e = .returned (.int .i64 3) ∧ Below w.heap.size w w' := by
  have lo : decide (a < 0) = false := decide_eq_false (by omega)
  have hi : decide (4 < a) = false := decide_eq_false (by omega)
  have hu38 := Tryd.underlying23
  have k0 : (a == 0) = false := beq_eq_false_iff_ne.mpr (by omega)
  have k1 : (a == 1) = false := beq_eq_false_iff_ne.mpr (by omega)
  have k2 : (a == 2) = true := beq_iff_eq.mpr ha
  have e0 : c.toList.isEmpty = false := by cases h : c.toList with | nil => exact absurd h he | cons => rfl
  have e1 : (c.toList == ([] : List UInt8)) = false := beq_eq_false_iff_ne.mpr he
  have e2 : (c.toList != ([] : List UInt8)) = true := by rw [bne, e1]; rfl
  clear ha he
  go_enter Tryd.func9, Tryd.ntmps9
  go_wp2
  go_ret
  exact ⟨rfl, by repeat (first | exact Below.refl _ _ | refine Below.setCell ?_ (Nat.le_refl _) _ | refine Below.setCell ?_ (Nat.le_succ _) _ | apply below_alloc)⟩
set_option maxHeartbeats 2000000 in
set_option maxRecDepth 100000 in
theorem quarryref01_Check.x1 (a b : Int) (c : ByteArray) (w : World) (ha : a = 3) (hb : b = 0) :
    Calls Tryd.prog 9 #[.agg #[.int .i64 a, .int .i64 b, .string c]] w fun e w' => e = .returned (.int .i64 0) ∧ Below w.heap.size w w' := by
  have lo : decide (a < 0) = false := decide_eq_false (by omega)
  have hi : decide (4 < a) = false := decide_eq_false (by omega)
  have hu38 := Tryd.underlying23
  have k0 : (a == 0) = false := beq_eq_false_iff_ne.mpr (by omega)
  have k1 : (a == 1) = false := beq_eq_false_iff_ne.mpr (by omega)
  have k2 : (a == 2) = false := beq_eq_false_iff_ne.mpr (by omega)
  have k3 : (a == 3) = true := beq_iff_eq.mpr ha
  have b0 : (b == 0) = true := beq_iff_eq.mpr hb
  have b1 : (b == 1) = false := beq_eq_false_iff_ne.mpr (by omega)
  have n0 : (b != 0) = false := by rw [bne, b0]; rfl
  have n1 : (b != 1) = true := by rw [bne, b1]; rfl
  clear ha hb
  go_enter Tryd.func9, Tryd.ntmps9
  go_wp2
  go_ret
  exact ⟨rfl, by repeat (first | exact Below.refl _ _ | refine Below.setCell ?_ (Nat.le_refl _) _ | refine Below.setCell ?_ (Nat.le_succ _) _ | apply below_alloc)⟩
set_option maxHeartbeats 2000000 in
set_option maxRecDepth 100000 in
theorem quarryref01_Check.x2 (a b : Int) (c : ByteArray) (w : World) (ha : a = 3) (hb : ¬ b = 0) :
    Calls Tryd.prog 9 #[.agg #[.int .i64 a, .int .i64 b, .string c]] w fun e w' => e = .returned (.int .i64 3) ∧ Below w.heap.size w w' := by
  have lo : decide (a < 0) = false := decide_eq_false (by omega)
  have hi : decide (4 < a) = false := decide_eq_false (by omega)
  have hu38 := Tryd.underlying23
  have k0 : (a == 0) = false := beq_eq_false_iff_ne.mpr (by omega)
  have k1 : (a == 1) = false := beq_eq_false_iff_ne.mpr (by omega)
  have k2 : (a == 2) = false := beq_eq_false_iff_ne.mpr (by omega)
  have k3 : (a == 3) = true := beq_iff_eq.mpr ha
  have b0 : (b == 0) = false := beq_eq_false_iff_ne.mpr hb
  have n0 : (b != 0) = true := by rw [bne, b0]; rfl
  clear ha hb
  go_enter Tryd.func9, Tryd.ntmps9
  go_wp2
  go_ret
  exact ⟨rfl, by repeat (first | exact Below.refl _ _ | refine Below.setCell ?_ (Nat.le_refl _) _ | refine Below.setCell ?_ (Nat.le_succ _) _ | apply below_alloc)⟩
set_option maxHeartbeats 2000000 in
set_option maxRecDepth 100000 in
theorem quarryref01_Check.y1 (a b : Int) (c : ByteArray) (w : World) (ha : a = 4) (hb : b = 0) :
    Calls Tryd.prog 9 #[.agg #[.int .i64 a, .int .i64 b, .string c]] w fun e w' => e = .returned (.int .i64 0) ∧ Below w.heap.size w w' := by
  have lo : decide (a < 0) = false := decide_eq_false (by omega)
  have hi : decide (4 < a) = false := decide_eq_false (by omega)
  have hu38 := Tryd.underlying23
  have k0 : (a == 0) = false := beq_eq_false_iff_ne.mpr (by omega)
  have k1 : (a == 1) = false := beq_eq_false_iff_ne.mpr (by omega)
  have k2 : (a == 2) = false := beq_eq_false_iff_ne.mpr (by omega)
  have k3 : (a == 3) = false := beq_eq_false_iff_ne.mpr (by omega)
  have k4 : (a == 4) = true := beq_iff_eq.mpr ha
  have b0 : (b == 0) = true := beq_iff_eq.mpr hb
  have b1 : (b == 1) = false := beq_eq_false_iff_ne.mpr (by omega)
  have n0 : (b != 0) = false := by rw [bne, b0]; rfl
  have n1 : (b != 1) = true := by rw [bne, b1]; rfl
  clear ha hb
  go_enter Tryd.func9, Tryd.ntmps9
  go_wp2
  go_ret
  exact ⟨rfl, by repeat (first | exact Below.refl _ _ | refine Below.setCell ?_ (Nat.le_refl _) _ | refine Below.setCell ?_ (Nat.le_succ _) _ | apply below_alloc)⟩
set_option maxHeartbeats 2000000 in
set_option maxRecDepth 100000 in
theorem quarryref01_Check.y2 (a b : Int) (c : ByteArray) (w : World) (ha : a = 4) (hb : ¬ b = 0) :
    Calls Tryd.prog 9 #[.agg #[.int .i64 a, .int .i64 b, .string c]] w fun e w' => e = .returned (.int .i64 3) ∧ Below w.heap.size w w' := by
  have lo : decide (a < 0) = false := decide_eq_false (by omega)
  have hi : decide (4 < a) = false := decide_eq_false (by omega)
  have hu38 := Tryd.underlying23
  have k0 : (a == 0) = false := beq_eq_false_iff_ne.mpr (by omega)
  have k1 : (a == 1) = false := beq_eq_false_iff_ne.mpr (by omega)
  have k2 : (a == 2) = false := beq_eq_false_iff_ne.mpr (by omega)
  have k3 : (a == 3) = false := beq_eq_false_iff_ne.mpr (by omega)
  have k4 : (a == 4) = true := beq_iff_eq.mpr ha
  have b0 : (b == 0) = false := beq_eq_false_iff_ne.mpr hb
  have n0 : (b != 0) = true := by rw [bne, b0]; rfl
  clear ha hb
  go_enter Tryd.func9, Tryd.ntmps9
  go_wp2
  go_ret
  exact ⟨rfl, by repeat (first | exact Below.refl _ _ | refine Below.setCell ?_ (Nat.le_refl _) _ | refine Below.setCell ?_ (Nat.le_succ _) _ | apply below_alloc)⟩
set_option maxHeartbeats 2000000 in
set_option maxRecDepth 100000 in
theorem quarryref01_Check.o1 (a b : Int) (c : ByteArray) (w : World) (lt : a < 0) (h0 : ¬ a = 0) (h1 : ¬ a = 1) (h2 : ¬ a = 2) (h3 : ¬ a = 3) (h4 : ¬ a = 4) :
    Calls Tryd.prog 9 #[.agg #[.int .i64 a, .int .i64 b, .string c]] w fun e w' => e = .returned (.int .i64 5) ∧ Below w.heap.size w w' := by
  have lo : decide (a < 0) = true := decide_eq_true lt
  have hu38 := Tryd.underlying23
  have k0 : (a == 0) = false := beq_eq_false_iff_ne.mpr h0
  have k1 : (a == 1) = false := beq_eq_false_iff_ne.mpr h1
  have k2 : (a == 2) = false := beq_eq_false_iff_ne.mpr h2
  have k3 : (a == 3) = false := beq_eq_false_iff_ne.mpr h3
  have k4 : (a == 4) = false := beq_eq_false_iff_ne.mpr h4
  clear lt h0 h1 h2 h3 h4
  go_enter Tryd.func9, Tryd.ntmps9
  go_wp2
  go_ret
  exact ⟨rfl, by repeat (first | exact Below.refl _ _ | refine Below.setCell ?_ (Nat.le_refl _) _ | refine Below.setCell ?_ (Nat.le_succ _) _ | apply below_alloc)⟩
set_option maxHeartbeats 2000000 in
set_option maxRecDepth 100000 in
theorem quarryref01_Check.o2 (a b : Int) (c : ByteArray) (w : World) (lt : 4 < a) (h0 : ¬ a = 0) (h1 : ¬ a = 1) (h2 : ¬ a = 2) (h3 : ¬ a = 3) (h4 : ¬ a = 4) :
    Calls Tryd.prog 9 #[.agg #[.int .i64 a, .int .i64 b, .string c]] w fun e w' => e = .returned (.int .i64 5) ∧ Below w.heap.size w w' := by
  have lo : decide (a < 0) = false := decide_eq_false (by omega)
  have hi : decide (4 < a) = true := decide_eq_true lt
  have hu38 := Tryd.underlying23
  have k0 : (a == 0) = false := beq_eq_false_iff_ne.mpr h0
  have k1 : (a == 1) = false := beq_eq_false_iff_ne.mpr h1
  have k2 : (a == 2) = false := beq_eq_false_iff_ne.mpr h2
  have k3 : (a == 3) = false := beq_eq_false_iff_ne.mpr h3
  have k4 : (a == 4) = false := beq_eq_false_iff_ne.mpr h4
  clear lt h0 h1 h2 h3 h4
  go_enter Tryd.func9, Tryd.ntmps9
  go_wp2
  go_ret
  exact ⟨rfl, by repeat (first | exact Below.refl _ _ | refine Below.setCell ?_ (Nat.le_refl _) _ | refine Below.setCell ?_ (Nat.le_succ _) _ | apply below_alloc)⟩
theorem quarryref01_Check.calls (a0_0 : Int) (a0_1 : Int) (a0_2 : ByteArray) (r : Int) (w : World) (h : quarryref01_Check.f a0_0 a0_1 a0_2 = some r) :
    Calls Tryd.prog 9 #[.agg #[.int .i64 a0_0, .int .i64 a0_1, .string a0_2]] w fun e w' => e = .returned (.int .i64 r) ∧ Below w.heap.size w w' := by
  obtain rfl : chkR a0_0 a0_1 a0_2 = r := Option.some.inj h
  clear h
  unfold chkR
  by_cases h0 : a0_0 = 0
  · rw [if_pos h0]
    by_cases hb : a0_1 = 0
    · by_cases he : a0_2.toList = []
      · rw [if_pos ⟨hb, he⟩]; exact quarryref01_Check.z1 _ _ _ w h0 hb he
      · rw [if_neg (fun h => he h.2)]; exact quarryref01_Check.z2 _ _ _ w h0 hb he
    · rw [if_neg (fun h => hb h.1)]; exact quarryref01_Check.z3 _ _ _ w h0 hb
  rw [if_neg h0]
  by_cases h1 : a0_0 = 1
  · rw [if_pos h1]
    by_cases he : a0_2.toList = []
    · by_cases hb : a0_1 = 1
      · rw [if_pos ⟨.inr hb, he⟩]; exact quarryref01_Check.t1 _ _ _ w h1 hb he
      · by_cases hb0 : a0_1 = 0
        · rw [if_pos ⟨.inl hb0, he⟩]; exact quarryref01_Check.t3 _ _ _ w h1 hb0 he
        · rw [if_neg (fun h => h.1.elim hb0 hb)]; exact quarryref01_Check.t5 _ _ _ w h1 hb0 hb he
    · rw [if_neg (fun h => he h.2)]
      by_cases hb : a0_1 = 1
      · exact quarryref01_Check.t2 _ _ _ w h1 hb he
      · by_cases hb0 : a0_1 = 0
        · exact quarryref01_Check.t4 _ _ _ w h1 hb0 he
        · exact quarryref01_Check.t6 _ _ _ w h1 hb0 hb he
  rw [if_neg h1]
  by_cases h2 : a0_0 = 2
  · rw [if_pos h2]
    by_cases he : a0_2.toList = []
    · rw [if_pos he]; exact quarryref01_Check.n1 _ _ _ w h2 he
    · rw [if_neg he]; exact quarryref01_Check.n2 _ _ _ w h2 he
  rw [if_neg h2]
  by_cases h3 : a0_0 = 3
  · rw [if_pos (.inl h3)]
    by_cases hb : a0_1 = 0
    · rw [if_pos hb]; exact quarryref01_Check.x1 _ _ _ w h3 hb
    · rw [if_neg hb]; exact quarryref01_Check.x2 _ _ _ w h3 hb
  by_cases h4 : a0_0 = 4
  · rw [if_pos (.inr h4)]
    by_cases hb : a0_1 = 0
    · rw [if_pos hb]; exact quarryref01_Check.y1 _ _ _ w h4 hb
    · rw [if_neg hb]; exact quarryref01_Check.y2 _ _ _ w h4 hb
  rw [if_neg (by omega)]
  by_cases hn : a0_0 < 0
  · exact quarryref01_Check.o1 _ _ _ w hn h0 h1 h2 h3 h4
  · exact quarryref01_Check.o2 _ _ _ w (by omega) h0 h1 h2 h3 h4

end Go.Proofs.YtkidihoaeicfdaaDoor.P
