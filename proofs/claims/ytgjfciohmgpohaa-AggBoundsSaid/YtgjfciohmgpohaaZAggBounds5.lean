/- Laid by a program of this session out of its texts for the law AggBounds, part 5. -/
import Derived.Test.YtgjfciohmgpohaaZAggBounds4
section
namespace Go.Proofs.Ytgjfciohmgpohaa.P
open Go.RowKit Go.Proofs.YtgjfciohmgpohaaW.PrintWords Go.Proofs.YtgjfciohmgpohaaW.PrintLast Go.Proofs.YtgjfciohmgpohaaW.PrintMore
attribute [local go_sem] max2_int min2_int max_two min_two max_three min_three max_four min_four
set_option linter.unusedVariables false
set_option linter.unusedSimpArgs false
def chkR (a b : Int) (c : ByteArray) : Int :=
 if a = 0 then (if b = 0 ∧ c.toList = [] then 0 else 3)
 else if a = 1 then (if (b = 0 ∨ b = 1) ∧ c.toList = [] then 0 else 3)
 else if a = 2 then (if c.toList = [] then 0 else 3)
 else if a = 3 ∨ a = 4 then (if b = 0 then 0 else 3)
 else 5
def quarryref01_Check.f (a0_0 : Int) (a0_1 : Int) (a0_2 : ByteArray) : Option (Int) := some (chkR a0_0 a0_1 a0_2)
theorem eqR (d : Nat) (w : World) (x0 y0 : Int) (x1 y1 : Int) (x2 y2 : ByteArray) :
  (Op.equalIn (d + 2) 32 (.agg #[.int .i64 x0, .int .i64 x1, .string x2]) (.agg #[.int .i64 y0, .int .i64 y1, .string y2])).run Try.prog w = .ok (x0 == y0 && (x1 == y1 && (x2.toList == y2.toList))) w := by
 refine eqA_of Try.underlying32 (by kernel_rfl) ?_
 refine eqf_cons (by rfl) (by go_simp; rfl) (by go_simp; rfl) (by go_simp) ?_
 refine eqf_cons (by rfl) (by go_simp; rfl) (by go_simp; rfl) (by go_simp) ?_
 exact eqf_last (by rfl) (by go_simp; rfl) (by go_simp; rfl) (by go_simp)
attribute [local go_sem high] eqR
set_option maxHeartbeats 2000000 in
set_option maxRecDepth 100000 in
theorem quarryref01_Check.z1 (a b : Int) (c : ByteArray) (w : World) (ha : a = 0) (hb : b = 0) (he : c.toList = []) :
  Calls Try.prog 19 #[.agg #[.int .i64 a, .int .i64 b, .string c]] w fun e w' => e = .returned (.int .i64 0) ∧ Below w.heap.size w w' := by
 have lo : decide (a < 0) = false := decide_eq_false (by omega)
 have hi : decide (4 < a) = false := decide_eq_false (by omega)
 have hu38 := Try.underlying32
 have k0 : (a == 0) = true := beq_iff_eq.mpr ha
 have b0 : (b == 0) = true := beq_iff_eq.mpr hb
 have b1 : (b == 1) = false := beq_eq_false_iff_ne.mpr (by omega)
 have e0 : c.toList.isEmpty = true := List.isEmpty_iff.2 he
 have e1 : (c.toList == ([] : List UInt8)) = true := beq_iff_eq.mpr he
 have n0 : (b != 0) = false := by rw [bne, b0]; rfl
 have n1 : (b != 1) = true := by rw [bne, b1]; rfl
 have e2 : (c.toList != ([] : List UInt8)) = false := by rw [bne, e1]; rfl
 clear ha hb he
 go_enter Try.func19, Try.ntmps19
 go_wp2
 go_ret
 exact ⟨rfl, by repeat (first | exact Below.refl _ _ | refine Below.setCell ?_ (Nat.le_refl _) _ | refine Below.setCell ?_ (Nat.le_succ _) _ | apply below_alloc)⟩
set_option maxHeartbeats 2000000 in
set_option maxRecDepth 100000 in
theorem quarryref01_Check.z2 (a b : Int) (c : ByteArray) (w : World) (ha : a = 0) (hb : b = 0) (he : ¬ c.toList = []) :
  Calls Try.prog 19 #[.agg #[.int .i64 a, .int .i64 b, .string c]] w fun e w' => e = .returned (.int .i64 3) ∧ Below w.heap.size w w' := by
 have lo : decide (a < 0) = false := decide_eq_false (by omega)
 have hi : decide (4 < a) = false := decide_eq_false (by omega)
 have hu38 := Try.underlying32
 have k0 : (a == 0) = true := beq_iff_eq.mpr ha
 have b0 : (b == 0) = true := beq_iff_eq.mpr hb
 have b1 : (b == 1) = false := beq_eq_false_iff_ne.mpr (by omega)
 have e0 : c.toList.isEmpty = false := by cases h : c.toList with | nil => exact absurd h he | cons => rfl
 have e1 : (c.toList == ([] : List UInt8)) = false := beq_eq_false_iff_ne.mpr he
 have n0 : (b != 0) = false := by rw [bne, b0]; rfl
 have n1 : (b != 1) = true := by rw [bne, b1]; rfl
 have e2 : (c.toList != ([] : List UInt8)) = true := by rw [bne, e1]; rfl
 clear ha hb he
 go_enter Try.func19, Try.ntmps19
 go_wp2
 go_ret
 exact ⟨rfl, by repeat (first | exact Below.refl _ _ | refine Below.setCell ?_ (Nat.le_refl _) _ | refine Below.setCell ?_ (Nat.le_succ _) _ | apply below_alloc)⟩
set_option maxHeartbeats 2000000 in
set_option maxRecDepth 100000 in
theorem quarryref01_Check.z3 (a b : Int) (c : ByteArray) (w : World) (ha : a = 0) (hb : ¬ b = 0) :
  Calls Try.prog 19 #[.agg #[.int .i64 a, .int .i64 b, .string c]] w fun e w' => e = .returned (.int .i64 3) ∧ Below w.heap.size w w' := by
 have lo : decide (a < 0) = false := decide_eq_false (by omega)
 have hi : decide (4 < a) = false := decide_eq_false (by omega)
 have hu38 := Try.underlying32
 have k0 : (a == 0) = true := beq_iff_eq.mpr ha
 have b0 : (b == 0) = false := beq_eq_false_iff_ne.mpr hb
 have n0 : (b != 0) = true := by rw [bne, b0]; rfl
 clear ha hb
 go_enter Try.func19, Try.ntmps19
 go_wp2
 go_ret
 exact ⟨rfl, by repeat (first | exact Below.refl _ _ | refine Below.setCell ?_ (Nat.le_refl _) _ | refine Below.setCell ?_ (Nat.le_succ _) _ | apply below_alloc)⟩
set_option maxHeartbeats 2000000 in
set_option maxRecDepth 100000 in
theorem quarryref01_Check.t1 (a b : Int) (c : ByteArray) (w : World) (ha : a = 1) (hb : b = 1) (he : c.toList = []) :
  Calls Try.prog 19 #[.agg #[.int .i64 a, .int .i64 b, .string c]] w fun e w' => e = .returned (.int .i64 0) ∧ Below w.heap.size w w' := by
 have lo : decide (a < 0) = false := decide_eq_false (by omega)
 have hi : decide (4 < a) = false := decide_eq_false (by omega)
 have hu38 := Try.underlying32
 have k0 : (a == 0) = false := beq_eq_false_iff_ne.mpr (by omega)
 have k1 : (a == 1) = true := beq_iff_eq.mpr ha
 have b0 : (b == 0) = false := beq_eq_false_iff_ne.mpr (by omega)
 have b1 : (b == 1) = true := beq_iff_eq.mpr hb
 have e0 : c.toList.isEmpty = true := List.isEmpty_iff.2 he
 have e1 : (c.toList == ([] : List UInt8)) = true := beq_iff_eq.mpr he
 have n0 : (b != 0) = true := by rw [bne, b0]; rfl
 have n1 : (b != 1) = false := by rw [bne, b1]; rfl
 have e2 : (c.toList != ([] : List UInt8)) = false := by rw [bne, e1]; rfl
 clear ha hb he
 go_enter Try.func19, Try.ntmps19
 go_wp2
 go_ret
 exact ⟨rfl, by repeat (first | exact Below.refl _ _ | refine Below.setCell ?_ (Nat.le_refl _) _ | refine Below.setCell ?_ (Nat.le_succ _) _ | apply below_alloc)⟩
set_option maxHeartbeats 2000000 in
set_option maxRecDepth 100000 in
theorem quarryref01_Check.t2 (a b : Int) (c : ByteArray) (w : World) (ha : a = 1) (hb : b = 1) (he : ¬ c.toList = []) :
  Calls Try.prog 19 #[.agg #[.int .i64 a, .int .i64 b, .string c]] w fun e w' => e = .returned (.int .i64 3) ∧ Below w.heap.size w w' := by
 have lo : decide (a < 0) = false := decide_eq_false (by omega)
 have hi : decide (4 < a) = false := decide_eq_false (by omega)
 have hu38 := Try.underlying32
 have k0 : (a == 0) = false := beq_eq_false_iff_ne.mpr (by omega)
 have k1 : (a == 1) = true := beq_iff_eq.mpr ha
 have b0 : (b == 0) = false := beq_eq_false_iff_ne.mpr (by omega)
 have b1 : (b == 1) = true := beq_iff_eq.mpr hb
 have e0 : c.toList.isEmpty = false := by cases h : c.toList with | nil => exact absurd h he | cons => rfl
 have e1 : (c.toList == ([] : List UInt8)) = false := beq_eq_false_iff_ne.mpr he
 have n0 : (b != 0) = true := by rw [bne, b0]; rfl
 have n1 : (b != 1) = false := by rw [bne, b1]; rfl
 have e2 : (c.toList != ([] : List UInt8)) = true := by rw [bne, e1]; rfl
 clear ha hb he
 go_enter Try.func19, Try.ntmps19
 go_wp2
 go_ret
 exact ⟨rfl, by repeat (first | exact Below.refl _ _ | refine Below.setCell ?_ (Nat.le_refl _) _ | refine Below.setCell ?_ (Nat.le_succ _) _ | apply below_alloc)⟩
set_option maxHeartbeats 2000000 in
set_option maxRecDepth 100000 in
theorem quarryref01_Check.t3 (a b : Int) (c : ByteArray) (w : World) (ha : a = 1) (hb : b = 0) (he : c.toList = []) :
  Calls Try.prog 19 #[.agg #[.int .i64 a, .int .i64 b, .string c]] w fun e w' => e = .returned (.int .i64 0) ∧ Below w.heap.size w w' := by
 have lo : decide (a < 0) = false := decide_eq_false (by omega)
 have hi : decide (4 < a) = false := decide_eq_false (by omega)
 have hu38 := Try.underlying32
 have k0 : (a == 0) = false := beq_eq_false_iff_ne.mpr (by omega)
 have k1 : (a == 1) = true := beq_iff_eq.mpr ha
 have b0 : (b == 0) = true := beq_iff_eq.mpr hb
 have b1 : (b == 1) = false := beq_eq_false_iff_ne.mpr (by omega)
 have e0 : c.toList.isEmpty = true := List.isEmpty_iff.2 he
 have e1 : (c.toList == ([] : List UInt8)) = true := beq_iff_eq.mpr he
 have n0 : (b != 0) = false := by rw [bne, b0]; rfl
 have n1 : (b != 1) = true := by rw [bne, b1]; rfl
 have e2 : (c.toList != ([] : List UInt8)) = false := by rw [bne, e1]; rfl
 clear ha hb he
 go_enter Try.func19, Try.ntmps19
 go_wp2
 go_ret
 exact ⟨rfl, by repeat (first | exact Below.refl _ _ | refine Below.setCell ?_ (Nat.le_refl _) _ | refine Below.setCell ?_ (Nat.le_succ _) _ | apply below_alloc)⟩
set_option maxHeartbeats 2000000 in
set_option maxRecDepth 100000 in
theorem quarryref01_Check.t4 (a b : Int) (c : ByteArray) (w : World) (ha : a = 1) (hb : b = 0) (he : ¬ c.toList = []) :
  Calls Try.prog 19 #[.agg #[.int .i64 a, .int .i64 b, .string c]] w fun e w' => e = .returned (.int .i64 3) ∧ Below w.heap.size w w' := by
 have lo : decide (a < 0) = false := decide_eq_false (by omega)
 have hi : decide (4 < a) = false := decide_eq_false (by omega)
 have hu38 := Try.underlying32
 have k0 : (a == 0) = false := beq_eq_false_iff_ne.mpr (by omega)
 have k1 : (a == 1) = true := beq_iff_eq.mpr ha
 have b0 : (b == 0) = true := beq_iff_eq.mpr hb
 have b1 : (b == 1) = false := beq_eq_false_iff_ne.mpr (by omega)
 have e0 : c.toList.isEmpty = false := by cases h : c.toList with | nil => exact absurd h he | cons => rfl
 have e1 : (c.toList == ([] : List UInt8)) = false := beq_eq_false_iff_ne.mpr he
 have n0 : (b != 0) = false := by rw [bne, b0]; rfl
 have n1 : (b != 1) = true := by rw [bne, b1]; rfl
 have e2 : (c.toList != ([] : List UInt8)) = true := by rw [bne, e1]; rfl
 clear ha hb he
 go_enter Try.func19, Try.ntmps19
 go_wp2
 go_ret
 exact ⟨rfl, by repeat (first | exact Below.refl _ _ | refine Below.setCell ?_ (Nat.le_refl _) _ | refine Below.setCell ?_ (Nat.le_succ _) _ | apply below_alloc)⟩
set_option maxHeartbeats 2000000 in
set_option maxRecDepth 100000 in
theorem quarryref01_Check.t5 (a b : Int) (c : ByteArray) (w : World) (ha : a = 1) (hb : ¬ b = 0) (hb1 : ¬ b = 1) (he : c.toList = []) :
  Calls Try.prog 19 #[.agg #[.int .i64 a, .int .i64 b, .string c]] w fun e w' => e = .returned (.int .i64 3) ∧ Below w.heap.size w w' := by
 have lo : decide (a < 0) = false := decide_eq_false (by omega)
 have hi : decide (4 < a) = false := decide_eq_false (by omega)
 have hu38 := Try.underlying32
 have k0 : (a == 0) = false := beq_eq_false_iff_ne.mpr (by omega)
 have k1 : (a == 1) = true := beq_iff_eq.mpr ha
 have b0 : (b == 0) = false := beq_eq_false_iff_ne.mpr hb
 have b1 : (b == 1) = false := beq_eq_false_iff_ne.mpr hb1
 have e0 : c.toList.isEmpty = true := List.isEmpty_iff.2 he
 have e1 : (c.toList == ([] : List UInt8)) = true := beq_iff_eq.mpr he
 have n0 : (b != 0) = true := by rw [bne, b0]; rfl
 have n1 : (b != 1) = true := by rw [bne, b1]; rfl
 have e2 : (c.toList != ([] : List UInt8)) = false := by rw [bne, e1]; rfl
 clear ha hb hb1 he
 go_enter Try.func19, Try.ntmps19
 go_wp2
 go_ret
 exact ⟨rfl, by repeat (first | exact Below.refl _ _ | refine Below.setCell ?_ (Nat.le_refl _) _ | refine Below.setCell ?_ (Nat.le_succ _) _ | apply below_alloc)⟩
set_option maxHeartbeats 2000000 in
set_option maxRecDepth 100000 in
theorem quarryref01_Check.t6 (a b : Int) (c : ByteArray) (w : World) (ha : a = 1) (hb : ¬ b = 0) (hb1 : ¬ b = 1) (he : ¬ c.toList = []) :
  Calls Try.prog 19 #[.agg #[.int .i64 a, .int .i64 b, .string c]] w fun e w' => e = .returned (.int .i64 3) ∧ Below w.heap.size w w' := by
 have lo : decide (a < 0) = false := decide_eq_false (by omega)
 have hi : decide (4 < a) = false := decide_eq_false (by omega)
 have hu38 := Try.underlying32
 have k0 : (a == 0) = false := beq_eq_false_iff_ne.mpr (by omega)
 have k1 : (a == 1) = true := beq_iff_eq.mpr ha
 have b0 : (b == 0) = false := beq_eq_false_iff_ne.mpr hb
 have b1 : (b == 1) = false := beq_eq_false_iff_ne.mpr hb1
 have e0 : c.toList.isEmpty = false := by cases h : c.toList with | nil => exact absurd h he | cons => rfl
 have e1 : (c.toList == ([] : List UInt8)) = false := beq_eq_false_iff_ne.mpr he
 have n0 : (b != 0) = true := by rw [bne, b0]; rfl
 have n1 : (b != 1) = true := by rw [bne, b1]; rfl
 have e2 : (c.toList != ([] : List UInt8)) = true := by rw [bne, e1]; rfl
 clear ha hb hb1 he
 go_enter Try.func19, Try.ntmps19
 go_wp2
 go_ret
 exact ⟨rfl, by repeat (first | exact Below.refl _ _ | refine Below.setCell ?_ (Nat.le_refl _) _ | refine Below.setCell ?_ (Nat.le_succ _) _ | apply below_alloc)⟩
set_option maxHeartbeats 2000000 in
set_option maxRecDepth 100000 in
theorem quarryref01_Check.n1 (a b : Int) (c : ByteArray) (w : World) (ha : a = 2) (he : c.toList = []) :
  Calls Try.prog 19 #[.agg #[.int .i64 a, .int .i64 b, .string c]] w fun e w' => e = .returned (.int .i64 0) ∧ Below w.heap.size w w' := by
 have lo : decide (a < 0) = false := decide_eq_false (by omega)
 have hi : decide (4 < a) = false := decide_eq_false (by omega)
 have hu38 := Try.underlying32
 have k0 : (a == 0) = false := beq_eq_false_iff_ne.mpr (by omega)
 have k1 : (a == 1) = false := beq_eq_false_iff_ne.mpr (by omega)
 have k2 : (a == 2) = true := beq_iff_eq.mpr ha
 have e0 : c.toList.isEmpty = true := List.isEmpty_iff.2 he
 have e1 : (c.toList == ([] : List UInt8)) = true := beq_iff_eq.mpr he
 have e2 : (c.toList != ([] : List UInt8)) = false := by rw [bne, e1]; rfl
 clear ha he
 go_enter Try.func19, Try.ntmps19
 go_wp2
 go_ret
 exact ⟨rfl, by repeat (first | exact Below.refl _ _ | refine Below.setCell ?_ (Nat.le_refl _) _ | refine Below.setCell ?_ (Nat.le_succ _) _ | apply below_alloc)⟩
set_option maxHeartbeats 2000000 in
set_option maxRecDepth 100000 in
theorem quarryref01_Check.n2 (a b : Int) (c : ByteArray) (w : World) (ha : a = 2) (he : ¬ c.toList = []) :
  Calls Try.prog 19 #[.agg #[.int .i64 a, .int .i64 b, .string c]] w fun e w' => e = .returned (.int .i64 3) ∧ Below w.heap.size w w' := by
 have lo : decide (a < 0) = false := decide_eq_false (by omega)
 have hi : decide (4 < a) = false := decide_eq_false (by omega)
 have hu38 := Try.underlying32
 have k0 : (a == 0) = false := beq_eq_false_iff_ne.mpr (by omega)
 have k1 : (a == 1) = false := beq_eq_false_iff_ne.mpr (by omega)
 have k2 : (a == 2) = true := beq_iff_eq.mpr ha
 have e0 : c.toList.isEmpty = false := by cases h : c.toList with | nil => exact absurd h he | cons => rfl
 have e1 : (c.toList == ([] : List UInt8)) = false := beq_eq_false_iff_ne.mpr he
 have e2 : (c.toList != ([] : List UInt8)) = true := by rw [bne, e1]; rfl
 clear ha he
 go_enter Try.func19, Try.ntmps19
 go_wp2
 go_ret
 exact ⟨rfl, by repeat (first | exact Below.refl _ _ | refine Below.setCell ?_ (Nat.le_refl _) _ | refine Below.setCell ?_ (Nat.le_succ _) _ | apply below_alloc)⟩
set_option maxHeartbeats 2000000 in
set_option maxRecDepth 100000 in
theorem quarryref01_Check.x1 (a b : Int) (c : ByteArray) (w : World) (ha : a = 3) (hb : b = 0) :
  Calls Try.prog 19 #[.agg #[.int .i64 a, .int .i64 b, .string c]] w fun e w' => e = .returned (.int .i64 0) ∧ Below w.heap.size w w' := by
 have lo : decide (a < 0) = false := decide_eq_false (by omega)
 have hi : decide (4 < a) = false := decide_eq_false (by omega)
 have hu38 := Try.underlying32
 have k0 : (a == 0) = false := beq_eq_false_iff_ne.mpr (by omega)
 have k1 : (a == 1) = false := beq_eq_false_iff_ne.mpr (by omega)
 have k2 : (a == 2) = false := beq_eq_false_iff_ne.mpr (by omega)
 have k3 : (a == 3) = true := beq_iff_eq.mpr ha
 have b0 : (b == 0) = true := beq_iff_eq.mpr hb
 have b1 : (b == 1) = false := beq_eq_false_iff_ne.mpr (by omega)
 have n0 : (b != 0) = false := by rw [bne, b0]; rfl
 have n1 : (b != 1) = true := by rw [bne, b1]; rfl
 clear ha hb
 go_enter Try.func19, Try.ntmps19
 go_wp2
 go_ret
 exact ⟨rfl, by repeat (first | exact Below.refl _ _ | refine Below.setCell ?_ (Nat.le_refl _) _ | refine Below.setCell ?_ (Nat.le_succ _) _ | apply below_alloc)⟩
set_option maxHeartbeats 2000000 in
set_option maxRecDepth 100000 in
theorem quarryref01_Check.x2 (a b : Int) (c : ByteArray) (w : World) (ha : a = 3) (hb : ¬ b = 0) :
  Calls Try.prog 19 #[.agg #[.int .i64 a, .int .i64 b, .string c]] w fun e w' => e = .returned (.int .i64 3) ∧ Below w.heap.size w w' := by
 have lo : decide (a < 0) = false := decide_eq_false (by omega)
 have hi : decide (4 < a) = false := decide_eq_false (by omega)
 have hu38 := Try.underlying32
 have k0 : (a == 0) = false := beq_eq_false_iff_ne.mpr (by omega)
 have k1 : (a == 1) = false := beq_eq_false_iff_ne.mpr (by omega)
 have k2 : (a == 2) = false := beq_eq_false_iff_ne.mpr (by omega)
 have k3 : (a == 3) = true := beq_iff_eq.mpr ha
 have b0 : (b == 0) = false := beq_eq_false_iff_ne.mpr hb
 have n0 : (b != 0) = true := by rw [bne, b0]; rfl
 clear ha hb
 go_enter Try.func19, Try.ntmps19
 go_wp2
 go_ret
 exact ⟨rfl, by repeat (first | exact Below.refl _ _ | refine Below.setCell ?_ (Nat.le_refl _) _ | refine Below.setCell ?_ (Nat.le_succ _) _ | apply below_alloc)⟩
set_option maxHeartbeats 2000000 in
set_option maxRecDepth 100000 in
theorem quarryref01_Check.y1 (a b : Int) (c : ByteArray) (w : World) (ha : a = 4) (hb : b = 0) :
  Calls Try.prog 19 #[.agg #[.int .i64 a, .int .i64 b, .string c]] w fun e w' => e = .returned (.int .i64 0) ∧ Below w.heap.size w w' := by
 have lo : decide (a < 0) = false := decide_eq_false (by omega)
 have hi : decide (4 < a) = false := decide_eq_false (by omega)
 have hu38 := Try.underlying32
 have k0 : (a == 0) = false := beq_eq_false_iff_ne.mpr (by omega)
 have k1 : (a == 1) = false := beq_eq_false_iff_ne.mpr (by omega)
 have k2 : (a == 2) = false := beq_eq_false_iff_ne.mpr (by omega)
 have k3 : (a == 3) = false := beq_eq_false_iff_ne.mpr (by omega)
 have k4 : (a == 4) = true := beq_iff_eq.mpr ha
 have b0 : (b == 0) = true := beq_iff_eq.mpr hb
 have b1 : (b == 1) = false := beq_eq_false_iff_ne.mpr (by omega)
 have n0 : (b != 0) = false := by rw [bne, b0]; rfl
 have n1 : (b != 1) = true := by rw [bne, b1]; rfl
 clear ha hb
 go_enter Try.func19, Try.ntmps19
 go_wp2
 go_ret
 exact ⟨rfl, by repeat (first | exact Below.refl _ _ | refine Below.setCell ?_ (Nat.le_refl _) _ | refine Below.setCell ?_ (Nat.le_succ _) _ | apply below_alloc)⟩
set_option maxHeartbeats 2000000 in
set_option maxRecDepth 100000 in
theorem quarryref01_Check.y2 (a b : Int) (c : ByteArray) (w : World) (ha : a = 4) (hb : ¬ b = 0) :
  Calls Try.prog 19 #[.agg #[.int .i64 a, .int .i64 b, .string c]] w fun e w' => e = .returned (.int .i64 3) ∧ Below w.heap.size w w' := by
 have lo : decide (a < 0) = false := decide_eq_false (by omega)
 have hi : decide (4 < a) = false := decide_eq_false (by omega)
 have hu38 := Try.underlying32
 have k0 : (a == 0) = false := beq_eq_false_iff_ne.mpr (by omega)
 have k1 : (a == 1) = false := beq_eq_false_iff_ne.mpr (by omega)
 have k2 : (a == 2) = false := beq_eq_false_iff_ne.mpr (by omega)
 have k3 : (a == 3) = false := beq_eq_false_iff_ne.mpr (by omega)
 have k4 : (a == 4) = true := beq_iff_eq.mpr ha
 have b0 : (b == 0) = false := beq_eq_false_iff_ne.mpr hb
 have n0 : (b != 0) = true := by rw [bne, b0]; rfl
 clear ha hb
 go_enter Try.func19, Try.ntmps19
 go_wp2
 go_ret
 exact ⟨rfl, by repeat (first | exact Below.refl _ _ | refine Below.setCell ?_ (Nat.le_refl _) _ | refine Below.setCell ?_ (Nat.le_succ _) _ | apply below_alloc)⟩
set_option maxHeartbeats 2000000 in
set_option maxRecDepth 100000 in
theorem quarryref01_Check.o1 (a b : Int) (c : ByteArray) (w : World) (lt : a < 0) (h0 : ¬ a = 0) (h1 : ¬ a = 1) (h2 : ¬ a = 2) (h3 : ¬ a = 3) (h4 : ¬ a = 4) :
  Calls Try.prog 19 #[.agg #[.int .i64 a, .int .i64 b, .string c]] w fun e w' => e = .returned (.int .i64 5) ∧ Below w.heap.size w w' := by
 have lo : decide (a < 0) = true := decide_eq_true lt
 have hu38 := Try.underlying32
 have k0 : (a == 0) = false := beq_eq_false_iff_ne.mpr h0
 have k1 : (a == 1) = false := beq_eq_false_iff_ne.mpr h1
 have k2 : (a == 2) = false := beq_eq_false_iff_ne.mpr h2
 have k3 : (a == 3) = false := beq_eq_false_iff_ne.mpr h3
 have k4 : (a == 4) = false := beq_eq_false_iff_ne.mpr h4
 clear lt h0 h1 h2 h3 h4
 go_enter Try.func19, Try.ntmps19
 go_wp2
 go_ret
 exact ⟨rfl, by repeat (first | exact Below.refl _ _ | refine Below.setCell ?_ (Nat.le_refl _) _ | refine Below.setCell ?_ (Nat.le_succ _) _ | apply below_alloc)⟩
set_option maxHeartbeats 2000000 in
set_option maxRecDepth 100000 in
theorem quarryref01_Check.o2 (a b : Int) (c : ByteArray) (w : World) (lt : 4 < a) (h0 : ¬ a = 0) (h1 : ¬ a = 1) (h2 : ¬ a = 2) (h3 : ¬ a = 3) (h4 : ¬ a = 4) :
  Calls Try.prog 19 #[.agg #[.int .i64 a, .int .i64 b, .string c]] w fun e w' => e = .returned (.int .i64 5) ∧ Below w.heap.size w w' := by
 have lo : decide (a < 0) = false := decide_eq_false (by omega)
 have hi : decide (4 < a) = true := decide_eq_true lt
 have hu38 := Try.underlying32
 have k0 : (a == 0) = false := beq_eq_false_iff_ne.mpr h0
 have k1 : (a == 1) = false := beq_eq_false_iff_ne.mpr h1
 have k2 : (a == 2) = false := beq_eq_false_iff_ne.mpr h2
 have k3 : (a == 3) = false := beq_eq_false_iff_ne.mpr h3
 have k4 : (a == 4) = false := beq_eq_false_iff_ne.mpr h4
 clear lt h0 h1 h2 h3 h4
 go_enter Try.func19, Try.ntmps19
 go_wp2
 go_ret
 exact ⟨rfl, by repeat (first | exact Below.refl _ _ | refine Below.setCell ?_ (Nat.le_refl _) _ | refine Below.setCell ?_ (Nat.le_succ _) _ | apply below_alloc)⟩
theorem quarryref01_Check.calls (a0_0 : Int) (a0_1 : Int) (a0_2 : ByteArray) (r : Int) (w : World) (h : quarryref01_Check.f a0_0 a0_1 a0_2 = some r) :
  Calls Try.prog 19 #[.agg #[.int .i64 a0_0, .int .i64 a0_1, .string a0_2]] w fun e w' => e = .returned (.int .i64 r) ∧ Below w.heap.size w w' := by
 obtain rfl : chkR a0_0 a0_1 a0_2 = r := Option.some.inj h
 clear h
 unfold chkR
 by_cases h0 : a0_0 = 0
 ·rw [if_pos h0]
  by_cases hb : a0_1 = 0
  ·by_cases he : a0_2.toList = []
   ·rw [if_pos ⟨hb, he⟩]; exact quarryref01_Check.z1 _ _ _ w h0 hb he
   ·rw [if_neg (fun h => he h.2)]; exact quarryref01_Check.z2 _ _ _ w h0 hb he
  ·rw [if_neg (fun h => hb h.1)]; exact quarryref01_Check.z3 _ _ _ w h0 hb
 rw [if_neg h0]
 by_cases h1 : a0_0 = 1
 ·rw [if_pos h1]
  by_cases he : a0_2.toList = []
  ·by_cases hb : a0_1 = 1
   ·rw [if_pos ⟨.inr hb, he⟩]; exact quarryref01_Check.t1 _ _ _ w h1 hb he
   ·by_cases hb0 : a0_1 = 0
    ·rw [if_pos ⟨.inl hb0, he⟩]; exact quarryref01_Check.t3 _ _ _ w h1 hb0 he
    ·rw [if_neg (fun h => h.1.elim hb0 hb)]; exact quarryref01_Check.t5 _ _ _ w h1 hb0 hb he
  ·rw [if_neg (fun h => he h.2)]
   by_cases hb : a0_1 = 1
   ·exact quarryref01_Check.t2 _ _ _ w h1 hb he
   ·by_cases hb0 : a0_1 = 0
    ·exact quarryref01_Check.t4 _ _ _ w h1 hb0 he
    ·exact quarryref01_Check.t6 _ _ _ w h1 hb0 hb he
 rw [if_neg h1]
 by_cases h2 : a0_0 = 2
 ·rw [if_pos h2]
  by_cases he : a0_2.toList = []
  ·rw [if_pos he]; exact quarryref01_Check.n1 _ _ _ w h2 he
  ·rw [if_neg he]; exact quarryref01_Check.n2 _ _ _ w h2 he
 rw [if_neg h2]
 by_cases h3 : a0_0 = 3
 ·rw [if_pos (.inl h3)]
  by_cases hb : a0_1 = 0
  ·rw [if_pos hb]; exact quarryref01_Check.x1 _ _ _ w h3 hb
  ·rw [if_neg hb]; exact quarryref01_Check.x2 _ _ _ w h3 hb
 by_cases h4 : a0_0 = 4
 ·rw [if_pos (.inr h4)]
  by_cases hb : a0_1 = 0
  ·rw [if_pos hb]; exact quarryref01_Check.y1 _ _ _ w h4 hb
  ·rw [if_neg hb]; exact quarryref01_Check.y2 _ _ _ w h4 hb
 rw [if_neg (by omega)]
 by_cases hn : a0_0 < 0
 ·exact quarryref01_Check.o1 _ _ _ w hn h0 h1 h2 h3 h4
 ·exact quarryref01_Check.o2 _ _ _ w (by omega) h0 h1 h2 h3 h4
def quarrylaw17_right.l0 : Nat → List (S32) → Int → Option (Bool)
 | 0, _, _ => none
 | k + 1, x0, x3 => if x3 < (x0.length : Int) then (if 0 ≤ x3 then ((quarryref01_Check.f ((rd_T32 x0 x3).f0) ((rd_T32 x0 x3).f1) ((rd_T32 x0 x3).f2)).bind fun t129 => (if t129 = 0 then (quarrylaw17_right.l0 k x0 (wrap64 (x3 + 1))) else (some false))) else (none)) else (some (decide ((x0.length : Int) ≤ 300)))
def quarrylaw17_right.f (k : Nat) (l0 : List (S32)) : Option (Bool) := quarrylaw17_right.l0 k l0 0
set_option maxHeartbeats 8000000 in
set_option maxRecDepth 100000 in
theorem quarrylaw17_right.calls (k : Nat) (A0 : Option Addr) (c0 : Nat) (l0 : List (S32)) (r : Bool) (w : World) (hr0 : Kd.C k32 w A0 l0.length l0) (hc0 : l0.length ≤ c0) (h : quarrylaw17_right.f k l0 = some r) :
  Calls Try.prog 10 #[.slice A0 l0.length c0] w fun e w' => e = .returned (.bool r) ∧ Below w.heap.size w w' := by
 have hu32 := Try.underlying32
 have HR0 := Aside0.mk hr0
 have HC0 := Aside0.mk hc0
 clear hr0 hc0
 have HB := Aside0.mk (Below.refl w.heap.size w)
 have H : (quarrylaw17_right.l0 k l0 0) = some r := h
 clear h
 have H' := Aside0.mk H
 clear H
 go_enter Try.func10, Try.ntmps10
 go_wp2
 go_loopg [3] k (fun kq v3 w' => ∃ (x3_1 : Int), v3 = .int .i64 x3_1 ∧ Aside0 (quarrylaw17_right.l0 kq l0 x3_1 = some r) ∧ Aside0 (kq ≤ k) ∧ Aside0 (Below w.heap.size w w'))
 case atStart => exact ⟨(0), (by first | rfl | (simp; done) | (simp [*]; done)), H', ⟨Nat.le_refl _⟩, ⟨by repeat (first | (with_reducible first | exact HB.out | apply below_alloc | apply pw_below_drewN | apply below_drew1) | exact HB.out)⟩⟩
 case round =>
  clear H'
  try clear c1
  obtain ⟨x3_1, rfl, HA, HK1, HB⟩ := hrel
  cases gk with
  | zero => exact absurd HA.out (by simp [quarrylaw17_right.l0])
  | succ k1 =>
   have H := HA.out
   clear HA
   simp only [quarrylaw17_right.l0] at H
   by_cases c2 : x3_1 < (l0.length : Int)
   ·rw [if_pos c2] at H
    have c2b0 : decide (x3_1 < (l0.length : Int)) = true := decide_eq_true c2
    clear c2
    by_cases c3 : 0 ≤ x3_1
    ·rw [if_pos c3] at H
     have c3b0 : decide (0 ≤ x3_1) = true := decide_eq_true c3
     clear c3
     replace H := Option.bind_eq_some_iff.mp H
     obtain ⟨t129, A40, H⟩ := H
     replace H : (if t129 = 0 then (quarrylaw17_right.l0 k1 l0 (wrap64 (x3_1 + 1))) else (some false)) = some r := H
     have A4 := Aside0.mk A40
     clear A40
     by_cases c5 : t129 = 0
     ·rw [if_pos c5] at H
      have c5b0 : (t129 == 0) = true := beq_iff_eq.mpr c5
      have c5b1 : (t129 != 0) = false := bne_eq_false_iff_eq.mpr c5
      clear c5
      have H' := Aside0.mk H
      clear H
      have p128 : 0 ≤ (x3_1 : Int) := of_decide_eq_true (by first | (with_reducible assumption) | assumption)
      have q128 : x3_1 < (l0.length : Int) := of_decide_eq_true (by first | (with_reducible assumption) | assumption)
      obtain ⟨ad128, e128, hx128_0, hx128_1, hx128_2⟩ := at_T32 HR0.out x3_1 p128 q128
      cases e128
      replace hx128_0 := (HB.out.cell (World.block_lt_of_cell? w _ hx128_0)).trans hx128_0
      replace hx128_1 := (HB.out.cell (World.block_lt_of_cell? w _ hx128_1)).trans hx128_1
      replace hx128_2 := (HB.out.cell (World.block_lt_of_cell? w _ hx128_2)).trans hx128_2
      replace p128 := eq_true p128
      replace q128 := eq_true q128
      go_wp2_with (first | ((with_reducible refine gate_callee (f := 19) rfl ?_); refine goesL_ (some 14) rfl rfl Try.func19 (by kernel_rfl) rfl #[.agg #[.int .i64 ((rd_T32 l0 x3_1).f0), .int .i64 ((rd_T32 l0 x3_1).f1), .string ((rd_T32 l0 x3_1).f2)]] rfl (by (try simp only [List.map_toArray, List.map_cons, List.map_nil]); first | done | rfl | (simp only [List.length_drop, List.length_take]; rfl)) ?_; (with_reducible refine (quarryref01_Check.calls ((rd_T32 l0 x3_1).f0) ((rd_T32 l0 x3_1).f1) ((rd_T32 l0 x3_1).f2) t129 _ A4.out).mono ?_); rintro e w6 ⟨rfl, hb⟩; refine ⟨_, rfl, ?_⟩; have n0_ := Aside0.mk (below_step (by repeat (first | (with_reducible first | exact HB.out | apply below_alloc | apply pw_below_drewN | apply below_drew1) | exact HB.out)) hb); clear HB; have HB := n0_; clear n0_; (try clear hb); (try clear hb2); (try clear hk); (try clear hi)))
      go_roundg k1
      case measure => have := HK1.out; omega
      case rel => exact ⟨(wrap64 (x3_1 + 1)), (by first | rfl | (simp; done) | (simp [*]; done)), H', ⟨by have := HK1.out; omega⟩, ⟨by repeat (first | (with_reducible first | exact HB.out | apply below_alloc | apply pw_below_drewN | apply below_drew1) | exact HB.out)⟩⟩
     ·rw [if_neg c5] at H
      have c5b0 : (t129 == 0) = false := beq_eq_false_iff_ne.mpr c5
      have c5b1 : (t129 != 0) = true := bne_iff_ne.mpr c5
      obtain rfl := Option.some.inj H
      have p128 : 0 ≤ (x3_1 : Int) := of_decide_eq_true (by first | (with_reducible assumption) | assumption)
      have q128 : x3_1 < (l0.length : Int) := of_decide_eq_true (by first | (with_reducible assumption) | assumption)
      obtain ⟨ad128, e128, hx128_0, hx128_1, hx128_2⟩ := at_T32 HR0.out x3_1 p128 q128
      cases e128
      replace hx128_0 := (HB.out.cell (World.block_lt_of_cell? w _ hx128_0)).trans hx128_0
      replace hx128_1 := (HB.out.cell (World.block_lt_of_cell? w _ hx128_1)).trans hx128_1
      replace hx128_2 := (HB.out.cell (World.block_lt_of_cell? w _ hx128_2)).trans hx128_2
      replace p128 := eq_true p128
      replace q128 := eq_true q128
      go_wp2_with (first | ((with_reducible refine gate_callee (f := 19) rfl ?_); refine goesL_ (some 14) rfl rfl Try.func19 (by kernel_rfl) rfl #[.agg #[.int .i64 ((rd_T32 l0 x3_1).f0), .int .i64 ((rd_T32 l0 x3_1).f1), .string ((rd_T32 l0 x3_1).f2)]] rfl (by (try simp only [List.map_toArray, List.map_cons, List.map_nil]); first | done | rfl | (simp only [List.length_drop, List.length_take]; rfl)) ?_; (with_reducible refine (quarryref01_Check.calls ((rd_T32 l0 x3_1).f0) ((rd_T32 l0 x3_1).f1) ((rd_T32 l0 x3_1).f2) t129 _ A4.out).mono ?_); rintro e w7 ⟨rfl, hb⟩; refine ⟨_, rfl, ?_⟩; have n0_ := Aside0.mk (below_step (by repeat (first | (with_reducible first | exact HB.out | apply below_alloc | apply pw_below_drewN | apply below_drew1) | exact HB.out)) hb); clear HB; have HB := n0_; clear n0_; (try clear hb); (try clear hb2); (try clear hk); (try clear hi)))
      go_ret
      exact ⟨by first | rfl | (simp [errW_none, errW_some] <;> rfl) | (simp [*, errW_none, errW_some] <;> rfl), by repeat (first | (with_reducible first | exact HB.out | apply below_alloc | apply pw_below_drewN | apply below_drew1) | exact HB.out)⟩
    ·rw [if_neg c3] at H
     exact absurd H (by simp)
   ·rw [if_neg c2] at H
    have c2b0 : decide (x3_1 < (l0.length : Int)) = false := decide_eq_false c2
    clear c2
    obtain rfl := Option.some.inj H
    go_wp2
    go_ret
    exact ⟨by first | rfl | (simp [errW_none, errW_some] <;> rfl) | (simp [*, errW_none, errW_some] <;> rfl), by repeat (first | (with_reducible first | exact HB.out | apply below_alloc | apply pw_below_drewN | apply below_drew1) | exact HB.out)⟩
end Go.Proofs.Ytgjfciohmgpohaa.P
end
section
namespace Go.Proofs.Ytgjfciohmgpohaa.P
open Go.RowKit Go.Proofs.YtgjfciohmgpohaaW.PrintWords Go.Proofs.YtgjfciohmgpohaaW.PrintLast Go.Proofs.YtgjfciohmgpohaaW.PrintMore
attribute [local go_sem] max2_int min2_int max_two min_two max_three min_three max_four min_four
set_option linter.unusedVariables false
set_option linter.unusedSimpArgs false
attribute [local go_sem high] eqA32
mutual
def quarrylaw17_AggBounds.j0 : Nat → List (S32) → Bool → Int → Int → ByteArray → Int → Int → ByteArray → Int → Int → ByteArray → Option (Bool)
 | 0, _, _, _, _, _, _, _, _, _, _, _ => none
 | k + 1, x0, x42, x232000, x232001, x232002, x237000, x237001, x237002, x242000, x242001, x242002 => if x42 = true then (none) else (quarrylaw17_AggBounds.l0 k x0 0 false false 0 x232000 x232001 x232002 x237000 x237001 x237002 x242000 x242001 x242002)
def quarrylaw17_AggBounds.l0 : Nat → List (S32) → Int → Bool → Bool → Int → Int → Int → ByteArray → Int → Int → ByteArray → Int → Int → ByteArray → Option (Bool)
 | 0, _, _, _, _, _, _, _, _, _, _, _, _, _, _ => none
 | k + 1, x0, x9, x10, x11, x12, x232000, x232001, x232002, x237000, x237001, x237002, x242000, x242001, x242002 => if x12 < (x0.length : Int) then (if 0 ≤ x12 then (if ((rd_T32 x0 x12).f0) = 0 then (quarrylaw17_AggBounds.l0 k x0 x9 x10 x11 (wrap64 (x12 + 1)) x232000 x232001 x232002 x237000 x237001 x237002 x242000 x242001 x242002) else (if x10 = true then (quarrylaw17_AggBounds.j2 k x0 (wrap64 (x9 + 1)) true x11 x12 x232000 x232001 x232002 x237000 x237001 x237002 x242000 x242001 x242002) else (quarrylaw17_AggBounds.j2 k x0 (wrap64 (x9 + 1)) (((rd_T32 x0 x12).f0) == x232000 && (((rd_T32 x0 x12).f1) == x232001 && ((((rd_T32 x0 x12).f2).toList) == x232002.toList))) x11 x12 x232000 x232001 x232002 x237000 x237001 x237002 x242000 x242001 x242002))) else (none)) else ((quarrylaw17_number.f x9).bind fun bt242 => (if (x242000 == bt242.1 && (x242001 == bt242.2.1 && (x242002.toList == bt242.2.2.toList))) = true then (if (x10 == (decide (x9 > 0))) = true then (if (x11 == (decide (x9 > 0))) = true then (if x9 > 0 then (some true) else (if (x232000 == 0 && (x232001 == 0 && (x232002.toList == ([] : List UInt8)))) = true then (some (x237000 == 0 && (x237001 == 0 && (x237002.toList == ([] : List UInt8))))) else (none))) else (none)) else (none)) else (none)))
def quarrylaw17_AggBounds.j2 : Nat → List (S32) → Int → Bool → Bool → Int → Int → Int → ByteArray → Int → Int → ByteArray → Int → Int → ByteArray → Option (Bool)
 | 0, _, _, _, _, _, _, _, _, _, _, _, _, _, _ => none
 | k + 1, x0, x9, x10, x11, x12, x232000, x232001, x232002, x237000, x237001, x237002, x242000, x242001, x242002 => if x11 = true then (quarrylaw17_AggBounds.j3 k x0 x9 x10 true x12 x232000 x232001 x232002 x237000 x237001 x237002 x242000 x242001 x242002) else (if 0 ≤ x12 then (if x12 < (x0.length : Int) then (quarrylaw17_AggBounds.j3 k x0 x9 x10 (((rd_T32 x0 x12).f0) == x237000 && (((rd_T32 x0 x12).f1) == x237001 && ((((rd_T32 x0 x12).f2).toList) == x237002.toList))) x12 x232000 x232001 x232002 x237000 x237001 x237002 x242000 x242001 x242002) else (none)) else (none))
def quarrylaw17_AggBounds.j3 : Nat → List (S32) → Int → Bool → Bool → Int → Int → Int → ByteArray → Int → Int → ByteArray → Int → Int → ByteArray → Option (Bool)
 | 0, _, _, _, _, _, _, _, _, _, _, _, _, _, _ => none
 | k + 1, x0, x9, x10, x11, x12, x232000, x232001, x232002, x237000, x237001, x237002, x242000, x242001, x242002 => if 0 ≤ x12 then (if x12 < (x0.length : Int) then ((quarryref01_Compare.f k x232000 x232001 x232002 ((rd_T32 x0 x12).f0) ((rd_T32 x0 x12).f1) ((rd_T32 x0 x12).f2)).bind fun t249 => (if t249 > 0 then (none) else ((quarryref01_Compare.f k x237000 x237001 x237002 ((rd_T32 x0 x12).f0) ((rd_T32 x0 x12).f1) ((rd_T32 x0 x12).f2)).bind fun t251 => (if t251 < 0 then (none) else (quarrylaw17_AggBounds.l0 k x0 x9 x10 x11 (wrap64 (x12 + 1)) x232000 x232001 x232002 x237000 x237001 x237002 x242000 x242001 x242002))))) else (none)) else (none)
end
def quarrylaw17_AggBounds.f (k : Nat) (l0 : List (S32)) : Option (Bool) := (quarrylaw17_works.f).bind fun t225 => (if t225 = true then ((quarrylaw17_right.f k l0).bind fun t226 => (if t226 = true then ((quarrylaw17_gathered.f 3 l0).bind fun bt227 => ((quarrylaw17_gathered.f 4 l0).bind fun bt232 => ((quarrylaw17_gathered.f 1 l0).bind fun bt237 => (if bt227.2.2.2 = true then (if bt232.2.2.2 = true then (quarrylaw17_AggBounds.j0 k l0 (!bt237.2.2.2) bt227.1 bt227.2.1 bt227.2.2.1 bt232.1 bt232.2.1 bt232.2.2.1 bt237.1 bt237.2.1 bt237.2.2.1) else (quarrylaw17_AggBounds.j0 k l0 true bt227.1 bt227.2.1 bt227.2.2.1 bt232.1 bt232.2.1 bt232.2.2.1 bt237.1 bt237.2.1 bt237.2.2.1)) else (quarrylaw17_AggBounds.j0 k l0 true bt227.1 bt227.2.1 bt227.2.2.1 bt232.1 bt232.2.1 bt232.2.2.1 bt237.1 bt237.2.1 bt237.2.2.1))))) else (some true))) else (none))
def quarrylaw17_AggBounds.T17 : Bool × List (List Nat × List Nat) := (true, [([], []), ([0], [0]), ([1], [1]), ([1], [1]), ([2, 3, 1], [1, 2, 3]), ([4, 1], [1, 4]), ([1], [1]), ([5, 6, 1], [1, 5, 6]), ([1, 7], [1, 7]), ([8, 1, 0, 1, 2, 3, 4, 5, 6, 7, 8], [0, 8])])
def quarrylaw17_AggBounds.B17 : List Nat := [0, 1, 3, 3, 15, 31, 3, 127, 255, 511]
theorem quarrylaw17_AggBounds.tab17 : rtab .any (opsOf Try.f5 17) = quarrylaw17_AggBounds.T17 := by kernel_rfl
theorem quarrylaw17_AggBounds.bits17 : waitsOk quarrylaw17_AggBounds.T17.2 quarrylaw17_AggBounds.B17 = true := by kernel_rfl
def quarrylaw17_AggBounds.T18 : Bool × List (List Nat × List Nat) := (true, [([], []), ([0], [0]), ([1], [1]), ([1], [1]), ([2, 3, 1], [1, 2, 3]), ([4, 1], [1, 4]), ([1], [1]), ([5, 6, 1], [1, 5, 6]), ([1, 7], [1, 7]), ([8, 1, 0, 1, 2, 3, 4, 5, 6, 7, 8], [0, 8])])
def quarrylaw17_AggBounds.B18 : List Nat := [0, 1, 3, 3, 15, 31, 3, 127, 255, 511]
theorem quarrylaw17_AggBounds.tab18 : rtab .any (opsOf Try.f5 18) = quarrylaw17_AggBounds.T18 := by kernel_rfl
theorem quarrylaw17_AggBounds.bits18 : waitsOk quarrylaw17_AggBounds.T18.2 quarrylaw17_AggBounds.B18 = true := by kernel_rfl
def quarrylaw17_AggBounds.T19 : Bool × List (List Nat × List Nat) := (true, [([], []), ([], []), ([], []), ([1, 2], [1, 2]), ([3], [3]), ([0, 4], [0, 4]), ([5], [5]), ([6, 5], [6]), ([7], [7]), ([7], [7]), ([7], [7]), ([9, 10, 7], [7, 9, 10]), ([11, 7], [7, 11]), ([8, 12, 7, 7], [7, 8, 12]), ([13, 7], [7, 13]), ([7, 14], [7, 14])])
def quarrylaw17_AggBounds.B19 : List Nat := [0, 0, 0, 6, 14, 31, 63, 127, 255, 255, 255, 1791, 3839, 8191, 16383, 32767]
theorem quarrylaw17_AggBounds.tab19 : rtab .any (opsOf Try.f5 19) = quarrylaw17_AggBounds.T19 := by kernel_rfl
theorem quarrylaw17_AggBounds.bits19 : waitsOk quarrylaw17_AggBounds.T19.2 quarrylaw17_AggBounds.B19 = true := by kernel_rfl
def quarrylaw17_AggBounds.T21 : Bool × List (List Nat × List Nat) := (true, [([], []), ([], []), ([1], [1]), ([0, 2], [0, 2]), ([3, 2], [3]), ([4], [4]), ([4], [4]), ([6, 4], [4, 6]), ([5, 7, 4], [4, 5, 7]), ([4, 8], [4, 8]), ([9, 4], [9]), ([10], [10]), ([10], [10]), ([12, 10], [10, 12]), ([11, 13, 10], [10, 11, 13]), ([10, 14], [10, 14]), ([15, 10], [15]), ([16], [16]), ([17, 16], [16, 17]), ([18, 16, 16], [16, 18]), ([19], [19]), ([19], [19]), ([20, 21, 19], [19, 20, 21]), ([22, 19, 19], [19, 22]), ([23], [23]), ([23], [23]), ([24, 25, 23], [23, 24, 25]), ([23, 26, 19], [19, 23, 26]), ([19, 27, 16], [16, 19, 27]), ([16, 28], [16, 28]), ([29, 23, 0, 1, 2, 3, 4, 5, 6, 7, 8, 9, 10, 11, 12, 13, 14, 15, 16, 17, 18, 19, 20, 21, 22, 23, 24, 25, 26, 27, 28, 29], [29])])
def quarrylaw17_AggBounds.B21 : List Nat := [0, 0, 2, 7, 15, 31, 31, 95, 255, 511, 1023, 2047, 2047, 6143, 16383, 32767, 65535, 131071, 262143, 524287, 1048575, 1048575, 4194303, 8388607, 16777215, 16777215, 67108863, 134217727, 268435455, 536870911, 1073741823]
theorem quarrylaw17_AggBounds.tab21 : rtab .any (opsOf Try.f5 21) = quarrylaw17_AggBounds.T21 := by kernel_rfl
theorem quarrylaw17_AggBounds.bits21 : waitsOk quarrylaw17_AggBounds.T21.2 quarrylaw17_AggBounds.B21 = true := by kernel_rfl
set_option maxHeartbeats 8000000 in
set_option maxRecDepth 100000 in
theorem quarrylaw17_AggBounds.calls (k : Nat) (A0 : Option Addr) (c0 : Nat) (l0 : List (S32)) (r : Bool) (w : World) (hr0 : Kd.C k32 w A0 l0.length l0) (hc0 : l0.length ≤ c0) (h : quarrylaw17_AggBounds.f k l0 = some r) :
  Calls Try.prog 5 #[.slice A0 l0.length c0] w fun e w' => e = .returned (.bool r) ∧ Below w.heap.size w w' := by
 have hu32 := Try.underlying32
 have HR0 := Aside0.mk hr0
 have HC0 := Aside0.mk hc0
 clear hr0 hc0
 have HB := Aside0.mk (Below.refl w.heap.size w)
 have H : ((quarrylaw17_works.f).bind fun t225 => (if t225 = true then ((quarrylaw17_right.f k l0).bind fun t226 => (if t226 = true then ((quarrylaw17_gathered.f 3 l0).bind fun bt227 => ((quarrylaw17_gathered.f 4 l0).bind fun bt232 => ((quarrylaw17_gathered.f 1 l0).bind fun bt237 => (if bt227.2.2.2 = true then (if bt232.2.2.2 = true then (quarrylaw17_AggBounds.j0 k l0 (!bt237.2.2.2) bt227.1 bt227.2.1 bt227.2.2.1 bt232.1 bt232.2.1 bt232.2.2.1 bt237.1 bt237.2.1 bt237.2.2.1) else (quarrylaw17_AggBounds.j0 k l0 true bt227.1 bt227.2.1 bt227.2.2.1 bt232.1 bt232.2.1 bt232.2.2.1 bt237.1 bt237.2.1 bt237.2.2.1)) else (quarrylaw17_AggBounds.j0 k l0 true bt227.1 bt227.2.1 bt227.2.2.1 bt232.1 bt232.2.1 bt232.2.2.1 bt237.1 bt237.2.1 bt237.2.2.1))))) else (some true))) else (none))) = some r := h
 clear h
 replace H := Option.bind_eq_some_iff.mp H
 obtain ⟨t225, A20, H⟩ := H
 replace H : (if t225 = true then ((quarrylaw17_right.f k l0).bind fun t226 => (if t226 = true then ((quarrylaw17_gathered.f 3 l0).bind fun bt227 => ((quarrylaw17_gathered.f 4 l0).bind fun bt232 => ((quarrylaw17_gathered.f 1 l0).bind fun bt237 => (if bt227.2.2.2 = true then (if bt232.2.2.2 = true then (quarrylaw17_AggBounds.j0 k l0 (!bt237.2.2.2) bt227.1 bt227.2.1 bt227.2.2.1 bt232.1 bt232.2.1 bt232.2.2.1 bt237.1 bt237.2.1 bt237.2.2.1) else (quarrylaw17_AggBounds.j0 k l0 true bt227.1 bt227.2.1 bt227.2.2.1 bt232.1 bt232.2.1 bt232.2.2.1 bt237.1 bt237.2.1 bt237.2.2.1)) else (quarrylaw17_AggBounds.j0 k l0 true bt227.1 bt227.2.1 bt227.2.2.1 bt232.1 bt232.2.1 bt232.2.2.1 bt237.1 bt237.2.1 bt237.2.2.1))))) else (some true))) else (none)) = some r := H
 have A2 := Aside0.mk A20
 clear A20
 by_cases c3 : t225 = true
 ·subst c3
  have H1 : ((quarrylaw17_right.f k l0).bind fun t226 => (if t226 = true then ((quarrylaw17_gathered.f 3 l0).bind fun bt227 => ((quarrylaw17_gathered.f 4 l0).bind fun bt232 => ((quarrylaw17_gathered.f 1 l0).bind fun bt237 => (if bt227.2.2.2 = true then (if bt232.2.2.2 = true then (quarrylaw17_AggBounds.j0 k l0 (!bt237.2.2.2) bt227.1 bt227.2.1 bt227.2.2.1 bt232.1 bt232.2.1 bt232.2.2.1 bt237.1 bt237.2.1 bt237.2.2.1) else (quarrylaw17_AggBounds.j0 k l0 true bt227.1 bt227.2.1 bt227.2.2.1 bt232.1 bt232.2.1 bt232.2.2.1 bt237.1 bt237.2.1 bt237.2.2.1)) else (quarrylaw17_AggBounds.j0 k l0 true bt227.1 bt227.2.1 bt227.2.2.1 bt232.1 bt232.2.1 bt232.2.2.1 bt237.1 bt237.2.1 bt237.2.2.1))))) else (some true))) = some r := by rw [if_pos rfl] at H; exact H
  clear H
  have H := H1
  clear H1
  replace H := Option.bind_eq_some_iff.mp H
  obtain ⟨t226, A40, H⟩ := H
  replace H : (if t226 = true then ((quarrylaw17_gathered.f 3 l0).bind fun bt227 => ((quarrylaw17_gathered.f 4 l0).bind fun bt232 => ((quarrylaw17_gathered.f 1 l0).bind fun bt237 => (if bt227.2.2.2 = true then (if bt232.2.2.2 = true then (quarrylaw17_AggBounds.j0 k l0 (!bt237.2.2.2) bt227.1 bt227.2.1 bt227.2.2.1 bt232.1 bt232.2.1 bt232.2.2.1 bt237.1 bt237.2.1 bt237.2.2.1) else (quarrylaw17_AggBounds.j0 k l0 true bt227.1 bt227.2.1 bt227.2.2.1 bt232.1 bt232.2.1 bt232.2.2.1 bt237.1 bt237.2.1 bt237.2.2.1)) else (quarrylaw17_AggBounds.j0 k l0 true bt227.1 bt227.2.1 bt227.2.2.1 bt232.1 bt232.2.1 bt232.2.2.1 bt237.1 bt237.2.1 bt237.2.2.1))))) else (some true)) = some r := H
  have A4 := Aside0.mk A40
  clear A40
  by_cases c5 : t226 = true
  ·subst c5
   have H1 : ((quarrylaw17_gathered.f 3 l0).bind fun bt227 => ((quarrylaw17_gathered.f 4 l0).bind fun bt232 => ((quarrylaw17_gathered.f 1 l0).bind fun bt237 => (if bt227.2.2.2 = true then (if bt232.2.2.2 = true then (quarrylaw17_AggBounds.j0 k l0 (!bt237.2.2.2) bt227.1 bt227.2.1 bt227.2.2.1 bt232.1 bt232.2.1 bt232.2.2.1 bt237.1 bt237.2.1 bt237.2.2.1) else (quarrylaw17_AggBounds.j0 k l0 true bt227.1 bt227.2.1 bt227.2.2.1 bt232.1 bt232.2.1 bt232.2.2.1 bt237.1 bt237.2.1 bt237.2.2.1)) else (quarrylaw17_AggBounds.j0 k l0 true bt227.1 bt227.2.1 bt227.2.2.1 bt232.1 bt232.2.1 bt232.2.2.1 bt237.1 bt237.2.1 bt237.2.2.1))))) = some r := by rw [if_pos rfl] at H; exact H
   clear H
   have H := H1
   clear H1
   replace H := Option.bind_eq_some_iff.mp H
   obtain ⟨⟨t227, t228, t229, t230⟩, A60, H⟩ := H
   replace H : ((quarrylaw17_gathered.f 4 l0).bind fun bt232 => ((quarrylaw17_gathered.f 1 l0).bind fun bt237 => (if t230 = true then (if bt232.2.2.2 = true then (quarrylaw17_AggBounds.j0 k l0 (!bt237.2.2.2) t227 t228 t229 bt232.1 bt232.2.1 bt232.2.2.1 bt237.1 bt237.2.1 bt237.2.2.1) else (quarrylaw17_AggBounds.j0 k l0 true t227 t228 t229 bt232.1 bt232.2.1 bt232.2.2.1 bt237.1 bt237.2.1 bt237.2.2.1)) else (quarrylaw17_AggBounds.j0 k l0 true t227 t228 t229 bt232.1 bt232.2.1 bt232.2.2.1 bt237.1 bt237.2.1 bt237.2.2.1)))) = some r := H
   have A6 := Aside0.mk A60
   clear A60
   replace H := Option.bind_eq_some_iff.mp H
   obtain ⟨⟨t232, t233, t234, t235⟩, A70, H⟩ := H
   replace H : ((quarrylaw17_gathered.f 1 l0).bind fun bt237 => (if t230 = true then (if t235 = true then (quarrylaw17_AggBounds.j0 k l0 (!bt237.2.2.2) t227 t228 t229 t232 t233 t234 bt237.1 bt237.2.1 bt237.2.2.1) else (quarrylaw17_AggBounds.j0 k l0 true t227 t228 t229 t232 t233 t234 bt237.1 bt237.2.1 bt237.2.2.1)) else (quarrylaw17_AggBounds.j0 k l0 true t227 t228 t229 t232 t233 t234 bt237.1 bt237.2.1 bt237.2.2.1))) = some r := H
   have A7 := Aside0.mk A70
   clear A70
   replace H := Option.bind_eq_some_iff.mp H
   obtain ⟨⟨t237, t238, t239, t240⟩, A80, H⟩ := H
   replace H : (if t230 = true then (if t235 = true then (quarrylaw17_AggBounds.j0 k l0 (!t240) t227 t228 t229 t232 t233 t234 t237 t238 t239) else (quarrylaw17_AggBounds.j0 k l0 true t227 t228 t229 t232 t233 t234 t237 t238 t239)) else (quarrylaw17_AggBounds.j0 k l0 true t227 t228 t229 t232 t233 t234 t237 t238 t239)) = some r := H
   have A8 := Aside0.mk A80
   clear A80
   have HC9 := Aside0.mk H
   clear H
   go_enter Try.func5, Try.ntmps5
   go_upto_region 8 with (first | ((with_reducible refine gate_callee (f := 15) rfl ?_); refine goesL_ (some 13) rfl rfl Try.func15 (by kernel_rfl) rfl #[] rfl (by (try simp only [List.map_toArray, List.map_cons, List.map_nil]); first | done | rfl | (simp only [List.length_drop, List.length_take]; rfl)) ?_; (with_reducible refine (quarrylaw17_works.calls  true _ A2.out).mono ?_); rintro e w10 ⟨rfl, hb⟩; refine ⟨_, rfl, ?_⟩; have n0_ := Aside0.mk (below_step (by repeat (first | (with_reducible first | exact HB.out | apply below_alloc | apply pw_below_drewN | apply below_drew1) | exact HB.out)) hb); clear HB; have HB := n0_; clear n0_; (try clear hb); (try clear hb2); (try clear hk); (try clear hi)) | ((with_reducible refine gate_callee (f := 10) rfl ?_); refine goesL_ (some 16) rfl rfl Try.func10 (by kernel_rfl) rfl #[.slice A0 l0.length c0] rfl (by (try simp only [List.map_toArray, List.map_cons, List.map_nil]); first | done | rfl | (simp only [List.length_drop, List.length_take]; rfl)) ?_; (with_reducible refine (quarrylaw17_right.calls k _ _ l0 true _ ?side1 ?side2 A4.out).mono ?_); (case side1 => repeat (first | exact (Kd.C_below HR0.out HB.out) | (with_reducible refine Kd.C_alloc ?_ _) | (with_reducible refine Kd.C_drewN ?_ _) | (with_reducible refine Kd.C_drew ?_))); (case side2 => exact HC0.out); rintro e w11 ⟨rfl, hb⟩; refine ⟨_, rfl, ?_⟩; have n0_ := Aside0.mk (below_step (by repeat (first | (with_reducible first | exact HB.out | apply below_alloc | apply pw_below_drewN | apply below_drew1) | exact HB.out)) hb); clear HB; have HB := n0_; clear n0_; (try clear hb); (try clear hb2); (try clear hk); (try clear hi)) | ((with_reducible refine gate_callee (f := 16) rfl ?_); refine goesL_ (some 20) rfl rfl Try.func16 (by kernel_rfl) rfl #[.int .i64 3, .slice A0 l0.length c0] rfl (by (try simp only [List.map_toArray, List.map_cons, List.map_nil]); first | done | rfl | (simp only [List.length_drop, List.length_take]; rfl)) ?_; (with_reducible refine (quarrylaw17_gathered.print 3 _ _ l0 t227 t228 t229 t230 _ ?side1 ?side2 A6.out).mono ?_); (case side1 => repeat (first | exact (Kd.C_below HR0.out HB.out) | (with_reducible refine Kd.C_alloc ?_ _) | (with_reducible refine Kd.C_drewN ?_ _) | (with_reducible refine Kd.C_drew ?_))); (case side2 => exact HC0.out); rintro e w12 ⟨rfl, hb⟩; refine ⟨_, rfl, ?_⟩; have n0_ := Aside0.mk (below_step (by repeat (first | (with_reducible first | exact HB.out | apply below_alloc | apply pw_below_drewN | apply below_drew1) | exact HB.out)) hb); clear HB; have HB := n0_; clear n0_; (try clear hb); (try clear hb2); (try clear hk); (try clear hi)) | ((with_reducible refine gate_dst (N := 3) rfl ?_); refine box_event ?hg (N := 3) ?hd (cs := #[.int .i64 0, .int .i64 0, .string (⟨#[]⟩ : ByteArray)]) (t := 32) ?hr ?_; (case hd => rfl); (case hg => rfl); (case hr => first | (go_simp; done) | (go_simp; rfl)); intro gb231 hg w13 hbox hb; have n0_ := Aside0.mk (below_step (by repeat (first | (with_reducible first | exact HB.out | apply below_alloc | apply pw_below_drewN | apply below_drew1) | exact HB.out)) hb); have n1_ := Aside0.mk (hbox); have n2_ := Aside0.mk ((by rw [hg]; exact (below_size (by repeat (first | (with_reducible first | exact HB.out | apply below_alloc | apply pw_below_drewN | apply below_drew1) | exact HB.out))) : w.heap.size ≤ gb231)); have n3_ := Aside0.mk ((by rw [hg]; exact (below_size (by repeat (first | (with_reducible first | exact HB.out | apply below_alloc | apply pw_below_drewN | apply below_drew1) | exact HB.out))) : w.heap.size ≤ gb231)); clear HB; have HB := n0_; have BK231 := n1_; have GW231 := n2_; have GE231 := n3_; clear n0_ n1_ n2_ n3_; clear hb hbox hg; have hcz14_0 : w13.cell? ⟨gb231, 0, none⟩ = some (.int .i64 0) := (blk_cell BK231.out 0).trans rfl; have hcz14_1 : w13.cell? ⟨gb231, 1, none⟩ = some (.int .i64 0) := (blk_cell BK231.out 1).trans rfl; have hcz14_2 : w13.cell? ⟨gb231, 2, none⟩ = some (.string (⟨#[]⟩ : ByteArray)) := (blk_cell BK231.out 2).trans rfl; have hfz14_0 := blk_frozen BK231.out 0; have hfz14_1 := blk_frozen BK231.out 1; have hfz14_2 := blk_frozen BK231.out 2) | ((with_reducible refine gate_callee (f := 16) rfl ?_); refine goesL_ (some 25) rfl rfl Try.func16 (by kernel_rfl) rfl #[.int .i64 4, .slice A0 l0.length c0] rfl (by (try simp only [List.map_toArray, List.map_cons, List.map_nil]); first | done | rfl | (simp only [List.length_drop, List.length_take]; rfl)) ?_; (with_reducible refine (quarrylaw17_gathered.print 4 _ _ l0 t232 t233 t234 t235 _ ?side1 ?side2 A7.out).mono ?_); (case side1 => exact Kd.C_below HR0.out (by repeat (first | (with_reducible first | exact HB.out | apply below_alloc | apply pw_below_drewN | apply below_drew1 | refine below_set ?_ GE231.out) | exact HB.out))); (case side2 => exact HC0.out); rintro e w15 ⟨rfl, hb⟩; refine ⟨_, rfl, ?_⟩; have n0_ := Aside0.mk (blk_below (g := gb231) (o := .cells #[.int .i64 t227, .int .i64 t228, .string t229] 32 (0, 0)) (by (with_reducible repeat (first | refine blk_drewN ?_ _ | refine blk_drew ?_ | refine blk_alloc ?_ _)); refine blk_put (cs := #[.int .i64 t227, .int .i64 t228, .string (⟨#[]⟩ : ByteArray)]) ?_ 2 _ rfl; (with_reducible repeat (first | refine blk_drewN ?_ _ | refine blk_drew ?_ | refine blk_alloc ?_ _)); refine blk_put (cs := #[.int .i64 t227, .int .i64 0, .string (⟨#[]⟩ : ByteArray)]) ?_ 1 _ rfl; (with_reducible repeat (first | refine blk_drewN ?_ _ | refine blk_drew ?_ | refine blk_alloc ?_ _)); refine blk_put (cs := #[.int .i64 0, .int .i64 0, .string (⟨#[]⟩ : ByteArray)]) ?_ 0 _ rfl; (with_reducible repeat (first | refine blk_drewN ?_ _ | refine blk_drew ?_ | refine blk_alloc ?_ _)); exact BK231.out) hb); have n1_ := Aside0.mk (below_step (by repeat (first | (with_reducible first | exact HB.out | apply below_alloc | apply pw_below_drewN | apply below_drew1 | refine below_set ?_ GE231.out) | exact HB.out)) hb); clear BK231; clear HB; have BK231 := n0_; have HB := n1_; clear n0_ n1_; (try clear hb); (try clear hb2); (try clear hk); (try clear hi)) | ((with_reducible refine gate_dst (N := 5) rfl ?_); refine box_event ?hg (N := 5) ?hd (cs := #[.int .i64 0, .int .i64 0, .string (⟨#[]⟩ : ByteArray)]) (t := 32) ?hr ?_; (case hd => rfl); (case hg => rfl); (case hr => first | (go_simp; done) | (go_simp; rfl)); intro gb236 hg w16 hbox hb; have n0_ := Aside0.mk (blk_below (g := gb231) (o := .cells #[.int .i64 t227, .int .i64 t228, .string t229] 32 (0, 0)) (bk_ BK231) hb); have n1_ := Aside0.mk (below_step (by repeat (first | (with_reducible first | exact HB.out | apply below_alloc | apply pw_below_drewN | apply below_drew1 | refine below_set ?_ GE231.out) | exact HB.out)) hb); have n2_ := Aside0.mk (hbox); have n3_ := Aside0.mk ((by rw [hg]; exact (below_size (by repeat (first | (with_reducible first | exact HB.out | apply below_alloc | apply pw_below_drewN | apply below_drew1 | refine below_set ?_ GE231.out) | exact HB.out))) : w.heap.size ≤ gb236)); have n4_ := Aside0.mk ((by rw [hg]; exact (below_size (by repeat (first | (with_reducible first | exact HB.out | apply below_alloc | apply pw_below_drewN | apply below_drew1 | refine below_set ?_ GE231.out) | exact HB.out))) : w.heap.size ≤ gb236)); have n5_ := Aside0.mk ((by rw [hg]; exact Nat.ne_of_lt (blk_lt (g := gb231) (o := .cells #[.int .i64 t227, .int .i64 t228, .string t229] 32 (0, 0)) (bk_ BK231)) : gb231 ≠ gb236)); have n6_ := Aside0.mk ((by rw [hg]; exact Nat.ne_of_gt (blk_lt (g := gb231) (o := .cells #[.int .i64 t227, .int .i64 t228, .string t229] 32 (0, 0)) (bk_ BK231)) : gb236 ≠ gb231)); clear BK231; clear HB; have BK231 := n0_; have HB := n1_; have BK236 := n2_; have GW236 := n3_; have GE236 := n4_; have NB231_236 := n5_; have NB236_231 := n6_; clear n0_ n1_ n2_ n3_ n4_ n5_ n6_; clear hb hbox hg; have hnb17 := NB236_231.out; have hnc17 := NB231_236.out; have hcz18_0 : w16.cell? ⟨gb236, 0, none⟩ = some (.int .i64 0) := (blk_cell BK236.out 0).trans rfl; have hcz18_1 : w16.cell? ⟨gb236, 1, none⟩ = some (.int .i64 0) := (blk_cell BK236.out 1).trans rfl; have hcz18_2 : w16.cell? ⟨gb236, 2, none⟩ = some (.string (⟨#[]⟩ : ByteArray)) := (blk_cell BK236.out 2).trans rfl; have hfz18_0 := blk_frozen BK236.out 0; have hfz18_1 := blk_frozen BK236.out 1; have hfz18_2 := blk_frozen BK236.out 2) | ((with_reducible refine gate_callee (f := 16) rfl ?_); refine goesL_ (some 30) rfl rfl Try.func16 (by kernel_rfl) rfl #[.int .i64 1, .slice A0 l0.length c0] rfl (by (try simp only [List.map_toArray, List.map_cons, List.map_nil]); first | done | rfl | (simp only [List.length_drop, List.length_take]; rfl)) ?_; (with_reducible refine (quarrylaw17_gathered.print 1 _ _ l0 t237 t238 t239 t240 _ ?side1 ?side2 A8.out).mono ?_); (case side1 => exact Kd.C_below HR0.out (by repeat (first | (with_reducible first | exact HB.out | apply below_alloc | apply pw_below_drewN | apply below_drew1 | refine below_set ?_ GE231.out | refine below_set ?_ GE236.out) | exact HB.out))); (case side2 => exact HC0.out); rintro e w19 ⟨rfl, hb⟩; refine ⟨_, rfl, ?_⟩; have n0_ := Aside0.mk (blk_below (g := gb231) (o := .cells #[.int .i64 t227, .int .i64 t228, .string t229] 32 (0, 0)) (by (with_reducible repeat (first | refine blk_drewN ?_ _ | refine blk_drew ?_ | refine blk_alloc ?_ _)); refine blk_far ?_ NB231_236.out _; (with_reducible repeat (first | refine blk_drewN ?_ _ | refine blk_drew ?_ | refine blk_alloc ?_ _)); refine blk_far ?_ NB231_236.out _; (with_reducible repeat (first | refine blk_drewN ?_ _ | refine blk_drew ?_ | refine blk_alloc ?_ _)); refine blk_far ?_ NB231_236.out _; (with_reducible repeat (first | refine blk_drewN ?_ _ | refine blk_drew ?_ | refine blk_alloc ?_ _)); exact BK231.out) hb); have n1_ := Aside0.mk (blk_below (g := gb236) (o := .cells #[.int .i64 t232, .int .i64 t233, .string t234] 32 (0, 0)) (by (with_reducible repeat (first | refine blk_drewN ?_ _ | refine blk_drew ?_ | refine blk_alloc ?_ _)); refine blk_put (cs := #[.int .i64 t232, .int .i64 t233, .string (⟨#[]⟩ : ByteArray)]) ?_ 2 _ rfl; (with_reducible repeat (first | refine blk_drewN ?_ _ | refine blk_drew ?_ | refine blk_alloc ?_ _)); refine blk_put (cs := #[.int .i64 t232, .int .i64 0, .string (⟨#[]⟩ : ByteArray)]) ?_ 1 _ rfl; (with_reducible repeat (first | refine blk_drewN ?_ _ | refine blk_drew ?_ | refine blk_alloc ?_ _)); refine blk_put (cs := #[.int .i64 0, .int .i64 0, .string (⟨#[]⟩ : ByteArray)]) ?_ 0 _ rfl; (with_reducible repeat (first | refine blk_drewN ?_ _ | refine blk_drew ?_ | refine blk_alloc ?_ _)); exact BK236.out) hb); have n2_ := Aside0.mk (below_step (by repeat (first | (with_reducible first | exact HB.out | apply below_alloc | apply pw_below_drewN | apply below_drew1 | refine below_set ?_ GE231.out | refine below_set ?_ GE236.out) | exact HB.out)) hb); clear BK231; clear BK236; clear HB; have BK231 := n0_; have BK236 := n1_; have HB := n2_; clear n0_ n1_ n2_; (try clear hb); (try clear hb2); (try clear hk); (try clear hi)) | ((with_reducible refine gate_dst (N := 7) rfl ?_); refine box_event ?hg (N := 7) ?hd (cs := #[.int .i64 0, .int .i64 0, .string (⟨#[]⟩ : ByteArray)]) (t := 32) ?hr ?_; (case hd => rfl); (case hg => rfl); (case hr => first | (go_simp; done) | (go_simp; rfl)); intro gb241 hg w20 hbox hb; have n0_ := Aside0.mk (blk_below (g := gb231) (o := .cells #[.int .i64 t227, .int .i64 t228, .string t229] 32 (0, 0)) (bk_ BK231) hb); have n1_ := Aside0.mk (blk_below (g := gb236) (o := .cells #[.int .i64 t232, .int .i64 t233, .string t234] 32 (0, 0)) (bk_ BK236) hb); have n2_ := Aside0.mk (below_step (by repeat (first | (with_reducible first | exact HB.out | apply below_alloc | apply pw_below_drewN | apply below_drew1 | refine below_set ?_ GE231.out | refine below_set ?_ GE236.out) | exact HB.out)) hb); have n3_ := Aside0.mk (hbox); have n4_ := Aside0.mk ((by rw [hg]; exact (below_size (by repeat (first | (with_reducible first | exact HB.out | apply below_alloc | apply pw_below_drewN | apply below_drew1 | refine below_set ?_ GE231.out | refine below_set ?_ GE236.out) | exact HB.out))) : w.heap.size ≤ gb241)); have n5_ := Aside0.mk ((by rw [hg]; exact (below_size (by repeat (first | (with_reducible first | exact HB.out | apply below_alloc | apply pw_below_drewN | apply below_drew1 | refine below_set ?_ GE231.out | refine below_set ?_ GE236.out) | exact HB.out))) : w.heap.size ≤ gb241)); have n6_ := Aside0.mk ((by rw [hg]; exact Nat.ne_of_lt (blk_lt (g := gb231) (o := .cells #[.int .i64 t227, .int .i64 t228, .string t229] 32 (0, 0)) (bk_ BK231)) : gb231 ≠ gb241)); have n7_ := Aside0.mk ((by rw [hg]; exact Nat.ne_of_gt (blk_lt (g := gb231) (o := .cells #[.int .i64 t227, .int .i64 t228, .string t229] 32 (0, 0)) (bk_ BK231)) : gb241 ≠ gb231)); have n8_ := Aside0.mk ((by rw [hg]; exact Nat.ne_of_lt (blk_lt (g := gb236) (o := .cells #[.int .i64 t232, .int .i64 t233, .string t234] 32 (0, 0)) (bk_ BK236)) : gb236 ≠ gb241)); have n9_ := Aside0.mk ((by rw [hg]; exact Nat.ne_of_gt (blk_lt (g := gb236) (o := .cells #[.int .i64 t232, .int .i64 t233, .string t234] 32 (0, 0)) (bk_ BK236)) : gb241 ≠ gb236)); clear BK231; clear BK236; clear HB; have BK231 := n0_; have BK236 := n1_; have HB := n2_; have BK241 := n3_; have GW241 := n4_; have GE241 := n5_; have NB231_241 := n6_; have NB241_231 := n7_; have NB236_241 := n8_; have NB241_236 := n9_; clear n0_ n1_ n2_ n3_ n4_ n5_ n6_ n7_ n8_ n9_; clear hb hbox hg; have hnb21 := NB241_231.out; have hnc21 := NB231_241.out; have hnb22 := NB241_236.out; have hnc22 := NB236_241.out; have hcz23_0 : w20.cell? ⟨gb241, 0, none⟩ = some (.int .i64 0) := (blk_cell BK241.out 0).trans rfl; have hcz23_1 : w20.cell? ⟨gb241, 1, none⟩ = some (.int .i64 0) := (blk_cell BK241.out 1).trans rfl; have hcz23_2 : w20.cell? ⟨gb241, 2, none⟩ = some (.string (⟨#[]⟩ : ByteArray)) := (blk_cell BK241.out 2).trans rfl; have hfz23_0 := blk_frozen BK241.out 0; have hfz23_1 := blk_frozen BK241.out 1; have hfz23_2 := blk_frozen BK241.out 2))
   (try simp only [Act.put, List.setIfInBounds_toArray, List.set_cons_zero, List.set_cons_succ])
   go_cut [42] (fun v42 wc => ∃ (kq : Nat) (x42_8 : Bool), v42 = .bool x42_8 ∧ Aside0 (quarrylaw17_AggBounds.j0 kq l0 x42_8 t227 t228 t229 t232 t233 t234 t237 t238 t239 = some r) ∧ Aside0 (kq ≤ k) ∧ Aside0 (wc.heap[gb231]? = some (.cells #[.int .i64 t227, .int .i64 t228, .string t229] 32 (0, 0))) ∧ Aside0 (wc.heap[gb236]? = some (.cells #[.int .i64 t232, .int .i64 t233, .string t234] 32 (0, 0))) ∧ Aside0 (wc.heap[gb241]? = some (.cells #[.int .i64 t237, .int .i64 t238, .string t239] 32 (0, 0))) ∧ Aside0 (Below w.heap.size w wc))
   case first =>
    have H := HC9.out
    clear HC9
    by_cases c24 : t230 = true
    ·subst c24
     have H1 : (if t235 = true then (quarrylaw17_AggBounds.j0 k l0 (!t240) t227 t228 t229 t232 t233 t234 t237 t238 t239) else (quarrylaw17_AggBounds.j0 k l0 true t227 t228 t229 t232 t233 t234 t237 t238 t239)) = some r := by rw [if_pos rfl] at H; exact H
     clear H
     have H := H1
     clear H1
     by_cases c25 : t235 = true
     ·subst c25
      have H1 : (quarrylaw17_AggBounds.j0 k l0 (!t240) t227 t228 t229 t232 t233 t234 t237 t238 t239) = some r := by rw [if_pos rfl] at H; exact H
      clear H
      have H := H1
      clear H1
      have H' := Aside0.mk H
      clear H
      go_wp2
      go_meet
      case rel => exact ⟨_, (!t240), (by first | rfl | (simp; done) | (simp [*]; done)), H', ⟨by first | omega | exact Nat.le_refl _⟩, ⟨by (with_reducible repeat (first | refine blk_drewN ?_ _ | refine blk_drew ?_ | refine blk_alloc ?_ _)); refine blk_far ?_ NB231_241.out _; (with_reducible repeat (first | refine blk_drewN ?_ _ | refine blk_drew ?_ | refine blk_alloc ?_ _)); refine blk_far ?_ NB231_241.out _; (with_reducible repeat (first | refine blk_drewN ?_ _ | refine blk_drew ?_ | refine blk_alloc ?_ _)); refine blk_far ?_ NB231_241.out _; (with_reducible repeat (first | refine blk_drewN ?_ _ | refine blk_drew ?_ | refine blk_alloc ?_ _)); exact BK231.out⟩, ⟨by (with_reducible repeat (first | refine blk_drewN ?_ _ | refine blk_drew ?_ | refine blk_alloc ?_ _)); refine blk_far ?_ NB236_241.out _; (with_reducible repeat (first | refine blk_drewN ?_ _ | refine blk_drew ?_ | refine blk_alloc ?_ _)); refine blk_far ?_ NB236_241.out _; (with_reducible repeat (first | refine blk_drewN ?_ _ | refine blk_drew ?_ | refine blk_alloc ?_ _)); refine blk_far ?_ NB236_241.out _; (with_reducible repeat (first | refine blk_drewN ?_ _ | refine blk_drew ?_ | refine blk_alloc ?_ _)); exact BK236.out⟩, ⟨by (with_reducible repeat (first | refine blk_drewN ?_ _ | refine blk_drew ?_ | refine blk_alloc ?_ _)); refine blk_put (cs := #[.int .i64 t237, .int .i64 t238, .string (⟨#[]⟩ : ByteArray)]) ?_ 2 _ rfl; (with_reducible repeat (first | refine blk_drewN ?_ _ | refine blk_drew ?_ | refine blk_alloc ?_ _)); refine blk_put (cs := #[.int .i64 t237, .int .i64 0, .string (⟨#[]⟩ : ByteArray)]) ?_ 1 _ rfl; (with_reducible repeat (first | refine blk_drewN ?_ _ | refine blk_drew ?_ | refine blk_alloc ?_ _)); refine blk_put (cs := #[.int .i64 0, .int .i64 0, .string (⟨#[]⟩ : ByteArray)]) ?_ 0 _ rfl; (with_reducible repeat (first | refine blk_drewN ?_ _ | refine blk_drew ?_ | refine blk_alloc ?_ _)); exact BK241.out⟩, ⟨by repeat (first | (with_reducible first | exact HB.out | apply below_alloc | apply pw_below_drewN | apply below_drew1 | refine below_set ?_ GE231.out | refine below_set ?_ GE236.out | refine below_set ?_ GE241.out) | exact HB.out)⟩⟩
     ·replace c25 := Bool.eq_false_iff.mpr c25
      subst c25
      have H1 : (quarrylaw17_AggBounds.j0 k l0 true t227 t228 t229 t232 t233 t234 t237 t238 t239) = some r := by rw [if_neg (show ¬ (false = true) by decide)] at H; exact H
      clear H
      have H := H1
      clear H1
      have H' := Aside0.mk H
      clear H
      go_wp2
      go_meet
      case rel => exact ⟨_, (true), (by first | rfl | (simp; done) | (simp [*]; done)), H', ⟨by first | omega | exact Nat.le_refl _⟩, ⟨by (with_reducible repeat (first | refine blk_drewN ?_ _ | refine blk_drew ?_ | refine blk_alloc ?_ _)); refine blk_far ?_ NB231_241.out _; (with_reducible repeat (first | refine blk_drewN ?_ _ | refine blk_drew ?_ | refine blk_alloc ?_ _)); refine blk_far ?_ NB231_241.out _; (with_reducible repeat (first | refine blk_drewN ?_ _ | refine blk_drew ?_ | refine blk_alloc ?_ _)); refine blk_far ?_ NB231_241.out _; (with_reducible repeat (first | refine blk_drewN ?_ _ | refine blk_drew ?_ | refine blk_alloc ?_ _)); exact BK231.out⟩, ⟨by (with_reducible repeat (first | refine blk_drewN ?_ _ | refine blk_drew ?_ | refine blk_alloc ?_ _)); refine blk_far ?_ NB236_241.out _; (with_reducible repeat (first | refine blk_drewN ?_ _ | refine blk_drew ?_ | refine blk_alloc ?_ _)); refine blk_far ?_ NB236_241.out _; (with_reducible repeat (first | refine blk_drewN ?_ _ | refine blk_drew ?_ | refine blk_alloc ?_ _)); refine blk_far ?_ NB236_241.out _; (with_reducible repeat (first | refine blk_drewN ?_ _ | refine blk_drew ?_ | refine blk_alloc ?_ _)); exact BK236.out⟩, ⟨by (with_reducible repeat (first | refine blk_drewN ?_ _ | refine blk_drew ?_ | refine blk_alloc ?_ _)); refine blk_put (cs := #[.int .i64 t237, .int .i64 t238, .string (⟨#[]⟩ : ByteArray)]) ?_ 2 _ rfl; (with_reducible repeat (first | refine blk_drewN ?_ _ | refine blk_drew ?_ | refine blk_alloc ?_ _)); refine blk_put (cs := #[.int .i64 t237, .int .i64 0, .string (⟨#[]⟩ : ByteArray)]) ?_ 1 _ rfl; (with_reducible repeat (first | refine blk_drewN ?_ _ | refine blk_drew ?_ | refine blk_alloc ?_ _)); refine blk_put (cs := #[.int .i64 0, .int .i64 0, .string (⟨#[]⟩ : ByteArray)]) ?_ 0 _ rfl; (with_reducible repeat (first | refine blk_drewN ?_ _ | refine blk_drew ?_ | refine blk_alloc ?_ _)); exact BK241.out⟩, ⟨by repeat (first | (with_reducible first | exact HB.out | apply below_alloc | apply pw_below_drewN | apply below_drew1 | refine below_set ?_ GE231.out | refine below_set ?_ GE236.out | refine below_set ?_ GE241.out) | exact HB.out)⟩⟩
    ·replace c24 := Bool.eq_false_iff.mpr c24
     subst c24
     have H1 : (quarrylaw17_AggBounds.j0 k l0 true t227 t228 t229 t232 t233 t234 t237 t238 t239) = some r := by rw [if_neg (show ¬ (false = true) by decide)] at H; exact H
     clear H
     have H := H1
     clear H1
     have H' := Aside0.mk H
     clear H
     go_wp2
     go_meet
     case rel => exact ⟨_, (true), (by first | rfl | (simp; done) | (simp [*]; done)), H', ⟨by first | omega | exact Nat.le_refl _⟩, ⟨by (with_reducible repeat (first | refine blk_drewN ?_ _ | refine blk_drew ?_ | refine blk_alloc ?_ _)); refine blk_far ?_ NB231_241.out _; (with_reducible repeat (first | refine blk_drewN ?_ _ | refine blk_drew ?_ | refine blk_alloc ?_ _)); refine blk_far ?_ NB231_241.out _; (with_reducible repeat (first | refine blk_drewN ?_ _ | refine blk_drew ?_ | refine blk_alloc ?_ _)); refine blk_far ?_ NB231_241.out _; (with_reducible repeat (first | refine blk_drewN ?_ _ | refine blk_drew ?_ | refine blk_alloc ?_ _)); exact BK231.out⟩, ⟨by (with_reducible repeat (first | refine blk_drewN ?_ _ | refine blk_drew ?_ | refine blk_alloc ?_ _)); refine blk_far ?_ NB236_241.out _; (with_reducible repeat (first | refine blk_drewN ?_ _ | refine blk_drew ?_ | refine blk_alloc ?_ _)); refine blk_far ?_ NB236_241.out _; (with_reducible repeat (first | refine blk_drewN ?_ _ | refine blk_drew ?_ | refine blk_alloc ?_ _)); refine blk_far ?_ NB236_241.out _; (with_reducible repeat (first | refine blk_drewN ?_ _ | refine blk_drew ?_ | refine blk_alloc ?_ _)); exact BK236.out⟩, ⟨by (with_reducible repeat (first | refine blk_drewN ?_ _ | refine blk_drew ?_ | refine blk_alloc ?_ _)); refine blk_put (cs := #[.int .i64 t237, .int .i64 t238, .string (⟨#[]⟩ : ByteArray)]) ?_ 2 _ rfl; (with_reducible repeat (first | refine blk_drewN ?_ _ | refine blk_drew ?_ | refine blk_alloc ?_ _)); refine blk_put (cs := #[.int .i64 t237, .int .i64 0, .string (⟨#[]⟩ : ByteArray)]) ?_ 1 _ rfl; (with_reducible repeat (first | refine blk_drewN ?_ _ | refine blk_drew ?_ | refine blk_alloc ?_ _)); refine blk_put (cs := #[.int .i64 0, .int .i64 0, .string (⟨#[]⟩ : ByteArray)]) ?_ 0 _ rfl; (with_reducible repeat (first | refine blk_drewN ?_ _ | refine blk_drew ?_ | refine blk_alloc ?_ _)); exact BK241.out⟩, ⟨by repeat (first | (with_reducible first | exact HB.out | apply below_alloc | apply pw_below_drewN | apply below_drew1 | refine below_set ?_ GE231.out | refine below_set ?_ GE236.out | refine below_set ?_ GE241.out) | exact HB.out)⟩⟩
   case rest =>
    clear HC9
    try clear c1
    try clear c2
    try clear p2
    try clear c3
    try clear c5
    try clear c10
    try clear c15
    try clear c16
    try clear c17
    try clear c21
    try clear c22
    try clear c24
    try clear c25
    try clear hcz14_0
    try clear hcz14_1
    try clear hcz14_2
    try clear hcz18_0
    try clear hcz18_1
    try clear hcz18_2
    try clear hcz23_0
    try clear hcz23_1
    try clear hcz23_2
    try clear hfz14_0
    try clear hfz14_1
    try clear hfz14_2
    try clear hfz18_0
    try clear hfz18_1
    try clear hfz18_2
    try clear hfz23_0
    try clear hfz23_1
    try clear hfz23_2
    obtain ⟨kq, x42_8, rfl, HA, HJ8, BK231, BK236, BK241, HB⟩ := hcut
    cases kq with
    | zero => exact absurd HA.out (by simp [quarrylaw17_AggBounds.j0])
    | succ kj8 =>
     have H := HA.out
     clear HA
     simp only [quarrylaw17_AggBounds.j0] at H
     by_cases c26 : x42_8 = true
     ·subst c26
      have H1 : (none) = some r := by rw [if_pos rfl] at H; exact H
      cases H1
     ·replace c26 := Bool.eq_false_iff.mpr c26
      subst c26
      have H1 : (quarrylaw17_AggBounds.l0 kj8 l0 0 false false 0 t227 t228 t229 t232 t233 t234 t237 t238 t239) = some r := by rw [if_neg (show ¬ (false = true) by decide)] at H; exact H
      clear H
      have H := H1
      clear H1
      have H' := Aside0.mk H
      clear H
      go_wp2
      go_loopg [9, 10, 11, 12] kj8 (fun kq v9 v10 v11 v12 w' => ∃ (x9_2 : Int) (x10_2 : Bool) (x11_2 : Bool) (x12_2 : Int), v9 = .int .i64 x9_2 ∧ v10 = .bool x10_2 ∧ v11 = .bool x11_2 ∧ v12 = .int .i64 x12_2 ∧ Aside0 (quarrylaw17_AggBounds.l0 kq l0 x9_2 x10_2 x11_2 x12_2 t227 t228 t229 t232 t233 t234 t237 t238 t239 = some r) ∧ Aside0 (kq ≤ kj8) ∧ Aside0 (w'.heap[gb231]? = some (.cells #[.int .i64 t227, .int .i64 t228, .string t229] 32 (0, 0))) ∧ Aside0 (w'.heap[gb236]? = some (.cells #[.int .i64 t232, .int .i64 t233, .string t234] 32 (0, 0))) ∧ Aside0 (w'.heap[gb241]? = some (.cells #[.int .i64 t237, .int .i64 t238, .string t239] 32 (0, 0))) ∧ Aside0 (Below w.heap.size w w'))
      case atStart => exact ⟨(0), (false), (false), (0), (by first | rfl | (simp; done) | (simp [*]; done)), (by first | rfl | (simp; done) | (simp [*]; done)), (by first | rfl | (simp; done) | (simp [*]; done)), (by first | rfl | (simp; done) | (simp [*]; done)), H', ⟨Nat.le_refl _⟩, ⟨by (with_reducible repeat (first | refine blk_drewN ?_ _ | refine blk_drew ?_ | refine blk_alloc ?_ _)); exact BK231.out⟩, ⟨by (with_reducible repeat (first | refine blk_drewN ?_ _ | refine blk_drew ?_ | refine blk_alloc ?_ _)); exact BK236.out⟩, ⟨by (with_reducible repeat (first | refine blk_drewN ?_ _ | refine blk_drew ?_ | refine blk_alloc ?_ _)); exact BK241.out⟩, ⟨by repeat (first | (with_reducible first | exact HB.out | apply below_alloc | apply pw_below_drewN | apply below_drew1 | refine below_set ?_ GE231.out | refine below_set ?_ GE236.out | refine below_set ?_ GE241.out) | exact HB.out)⟩⟩
      case round =>
       clear H'
       try clear c1
       try clear c2
       try clear p2
       try clear c3
       try clear c5
       try clear c10
       try clear c15
       try clear c16
       try clear c17
       try clear c21
       try clear c22
       try clear c24
       try clear c25
       try clear c26
       try clear hcz14_0
       try clear hcz14_1
       try clear hcz14_2
       try clear hcz18_0
       try clear hcz18_1
       try clear hcz18_2
       try clear hcz23_0
       try clear hcz23_1
       try clear hcz23_2
       try clear hfz14_0
       try clear hfz14_1
       try clear hfz14_2
       try clear hfz18_0
       try clear hfz18_1
       try clear hfz18_2
       try clear hfz23_0
       try clear hfz23_1
       try clear hfz23_2
       try clear p2
       obtain ⟨x9_2, x10_2, x11_2, x12_2, rfl, rfl, rfl, rfl, HA, HK2, BK231, BK236, BK241, HB⟩ := hrel
       cases gk with
       | zero => exact absurd HA.out (by simp [quarrylaw17_AggBounds.l0])
       | succ k2 =>
        have H := HA.out
        clear HA
        simp only [quarrylaw17_AggBounds.l0] at H
        by_cases c27 : x12_2 < (l0.length : Int)
        ·rw [if_pos c27] at H
         have c27b0 : decide (x12_2 < (l0.length : Int)) = true := decide_eq_true c27
         clear c27
         by_cases c28 : 0 ≤ x12_2
         ·rw [if_pos c28] at H
          have c28b0 : decide (0 ≤ x12_2) = true := decide_eq_true c28
          clear c28
          by_cases c29 : ((rd_T32 l0 x12_2).f0) = 0
          ·rw [if_pos c29] at H
           have c29b0 : (((rd_T32 l0 x12_2).f0) == 0) = true := beq_iff_eq.mpr c29
           have c29b1 : (((rd_T32 l0 x12_2).f0) != 0) = false := bne_eq_false_iff_eq.mpr c29
           clear c29
           have H' := Aside0.mk H
           clear H
           have p245 : 0 ≤ (x12_2 : Int) := of_decide_eq_true (by first | (with_reducible assumption) | assumption)
           have q245 : x12_2 < (l0.length : Int) := of_decide_eq_true (by first | (with_reducible assumption) | assumption)
           obtain ⟨ad245, e245, hx245_0, hx245_1, hx245_2⟩ := at_T32 HR0.out x12_2 p245 q245
           cases e245
           replace hx245_0 := (HB.out.cell (World.block_lt_of_cell? w _ hx245_0)).trans hx245_0
           replace hx245_1 := (HB.out.cell (World.block_lt_of_cell? w _ hx245_1)).trans hx245_1
           replace hx245_2 := (HB.out.cell (World.block_lt_of_cell? w _ hx245_2)).trans hx245_2
           replace p245 := eq_true p245
           replace q245 := eq_true q245
           go_wp2
           go_roundg k2
           case measure => have := HJ8.out; have := HK2.out; omega
           case rel => exact ⟨(x9_2), (x10_2), (x11_2), (wrap64 (x12_2 + 1)), (by first | rfl | (simp; done) | (simp [*]; done)), (by first | rfl | (simp; done) | (simp [*]; done)), (by first | rfl | (simp; done) | (simp [*]; done)), (by first | rfl | (simp; done) | (simp [*]; done)), H', ⟨by have := HJ8.out; have := HK2.out; omega⟩, ⟨by (with_reducible repeat (first | refine blk_drewN ?_ _ | refine blk_drew ?_ | refine blk_alloc ?_ _)); exact BK231.out⟩, ⟨by (with_reducible repeat (first | refine blk_drewN ?_ _ | refine blk_drew ?_ | refine blk_alloc ?_ _)); exact BK236.out⟩, ⟨by (with_reducible repeat (first | refine blk_drewN ?_ _ | refine blk_drew ?_ | refine blk_alloc ?_ _)); exact BK241.out⟩, ⟨by repeat (first | (with_reducible first | exact HB.out | apply below_alloc | apply pw_below_drewN | apply below_drew1 | refine below_set ?_ GE231.out | refine below_set ?_ GE236.out | refine below_set ?_ GE241.out) | exact HB.out)⟩⟩
          ·rw [if_neg c29] at H
           have c29b0 : (((rd_T32 l0 x12_2).f0) == 0) = false := beq_eq_false_iff_ne.mpr c29
           have c29b1 : (((rd_T32 l0 x12_2).f0) != 0) = true := bne_iff_ne.mpr c29
           have HC30 := Aside0.mk H
           clear H
           have p245 : 0 ≤ (x12_2 : Int) := of_decide_eq_true (by first | (with_reducible assumption) | assumption)
           have q245 : x12_2 < (l0.length : Int) := of_decide_eq_true (by first | (with_reducible assumption) | assumption)
           obtain ⟨ad245, e245, hx245_0, hx245_1, hx245_2⟩ := at_T32 HR0.out x12_2 p245 q245
           cases e245
           replace hx245_0 := (HB.out.cell (World.block_lt_of_cell? w _ hx245_0)).trans hx245_0
           replace hx245_1 := (HB.out.cell (World.block_lt_of_cell? w _ hx245_1)).trans hx245_1
           replace hx245_2 := (HB.out.cell (World.block_lt_of_cell? w _ hx245_2)).trans hx245_2
           replace p245 := eq_true p245
           replace q245 := eq_true q245
           go_upto_region 17 with (fail)
           go_cut [10] (fun v10 wc => ∃ (kq : Nat) (x10_29 : Bool), v10 = .bool x10_29 ∧ Aside0 (quarrylaw17_AggBounds.j2 kq l0 (wrap64 (x9_2 + 1)) x10_29 x11_2 x12_2 t227 t228 t229 t232 t233 t234 t237 t238 t239 = some r) ∧ Aside0 (kq ≤ k2) ∧ Aside0 (wc.heap[gb231]? = some (.cells #[.int .i64 t227, .int .i64 t228, .string t229] 32 (0, 0))) ∧ Aside0 (wc.heap[gb236]? = some (.cells #[.int .i64 t232, .int .i64 t233, .string t234] 32 (0, 0))) ∧ Aside0 (wc.heap[gb241]? = some (.cells #[.int .i64 t237, .int .i64 t238, .string t239] 32 (0, 0))) ∧ Aside0 (Below w.heap.size w wc))
           case first =>
            have H := HC30.out
            clear HC30
            by_cases c31 : x10_2 = true
            ·subst c31
             have H1 : (quarrylaw17_AggBounds.j2 k2 l0 (wrap64 (x9_2 + 1)) true x11_2 x12_2 t227 t228 t229 t232 t233 t234 t237 t238 t239) = some r := by rw [if_pos rfl] at H; exact H
             clear H
             have H := H1
             clear H1
             have H' := Aside0.mk H
             clear H
             try go_wp2
             have n0_ := Aside0.mk (blk_drew BK231.out)
             have n1_ := Aside0.mk (blk_drew BK236.out)
             have n2_ := Aside0.mk (blk_drew BK241.out)
             have n3_ := Aside0.mk (below_drew1 HB.out)
             clear BK231
             clear BK236
             clear BK241
             clear HB
             have BK231 := n0_
             have BK236 := n1_
             have BK241 := n2_
             have HB := n3_
             clear n0_ n1_ n2_ n3_
             refine start_ (n := 10) (S := fun w' => True) (ds := []) #[false, false, false, false, false, false, false, false, false, false] (by kernel_rfl) rfl rfl trivial (fun hHeld => ?_); refine with_tabW quarrylaw17_AggBounds.tab17 quarrylaw17_AggBounds.bits17 (fun HT_ HW_ => ?_)
             generalize wr.drew = w32 at BK231 BK236 BK241 HB hHeld ⊢
             refine pure_ (i := 0) (N := some 57) (v := ?_) (a' := ?_) #[true, false, false, false, false, false, false, false, false, false] rfl rfl (any_of HT_.out (by kernel_rfl)) (fun _ _ _ h => h) (Or.inl ⟨by rfl, ?_⟩) ?_ ?_
             rotate_left
             ·intro w'
              go_simp
              with_reducible rfl
             rotate_left
             ·simp only [Act.put, List.setIfInBounds_toArray, List.set_cons_zero, List.set_cons_succ, i64_w, i32_w]
              rfl
             refine pure_ (i := 1) (N := some 58) (v := ?_) (a' := ?_) #[true, true, false, false, false, false, false, false, false, false] rfl rfl (any_of HT_.out (by kernel_rfl)) (fun _ _ _ h => h) (Or.inl ⟨by rfl, ?_⟩) ?_ ?_
             rotate_left
             ·intro w'
              go_simp
              with_reducible rfl
             rotate_left
             ·simp only [Act.put, List.setIfInBounds_toArray, List.set_cons_zero, List.set_cons_succ, i64_w, i32_w]
              rfl
             refine pure_ (i := 2) (N := some 59) (v := undef) (a' := ?_) #[true, true, true, false, false, false, false, false, false, false] rfl rfl (any_of HT_.out (by kernel_rfl)) (fun _ _ _ h => h) (Or.inr ⟨by rfl, rfl⟩) ?_ ?_
             rotate_left
             ·simp only [Act.put, List.setIfInBounds_toArray, List.set_cons_zero, List.set_cons_succ, i64_w, i32_w]
              rfl
             refine pure_ (i := 3) (N := some 60) (v := undef) (a' := ?_) #[true, true, true, true, false, false, false, false, false, false] rfl rfl (any_of HT_.out (by kernel_rfl)) (fun _ _ _ h => h) (Or.inr ⟨by rfl, rfl⟩) ?_ ?_
             rotate_left
             ·simp only [Act.put, List.setIfInBounds_toArray, List.set_cons_zero, List.set_cons_succ, i64_w, i32_w]
              rfl
             refine pure_ (i := 4) (N := some 61) (v := undef) (a' := ?_) #[true, true, true, true, true, false, false, false, false, false] rfl rfl (any_of HT_.out (by kernel_rfl)) (fun _ _ _ h => h) (Or.inr ⟨by rfl, rfl⟩) ?_ ?_
             rotate_left
             ·simp only [Act.put, List.setIfInBounds_toArray, List.set_cons_zero, List.set_cons_succ, i64_w, i32_w]
              rfl
             refine pure_ (i := 5) (N := some 62) (v := undef) (a' := ?_) #[true, true, true, true, true, true, false, false, false, false] rfl rfl (any_of HT_.out (by kernel_rfl)) (fun _ _ _ h => h) (Or.inr ⟨by rfl, rfl⟩) ?_ ?_
             rotate_left
             ·simp only [Act.put, List.setIfInBounds_toArray, List.set_cons_zero, List.set_cons_succ, i64_w, i32_w]
              rfl
             refine pure_ (i := 6) (N := some 63) (v := undef) (a' := ?_) #[true, true, true, true, true, true, true, false, false, false] rfl rfl (any_of HT_.out (by kernel_rfl)) (fun _ _ _ h => h) (Or.inr ⟨by rfl, rfl⟩) ?_ ?_
             rotate_left
             ·simp only [Act.put, List.setIfInBounds_toArray, List.set_cons_zero, List.set_cons_succ, i64_w, i32_w]
              rfl
             refine pure_ (i := 7) (N := some 64) (v := undef) (a' := ?_) #[true, true, true, true, true, true, true, true, false, false] rfl rfl (any_of HT_.out (by kernel_rfl)) (fun _ _ _ h => h) (Or.inr ⟨by rfl, rfl⟩) ?_ ?_
             rotate_left
             ·simp only [Act.put, List.setIfInBounds_toArray, List.set_cons_zero, List.set_cons_succ, i64_w, i32_w]
              rfl
             refine pure_ (i := 8) (N := some 65) (v := ?_) (a' := ?_) #[true, true, true, true, true, true, true, true, true, false] rfl rfl (any_of HT_.out (by kernel_rfl)) (fun _ _ _ h => h) (Or.inl ⟨by rfl, ?_⟩) ?_ ?_
             rotate_left
             ·intro w'
              go_simp
              with_reducible rfl
             rotate_left
             ·simp only [Act.put, List.setIfInBounds_toArray, List.set_cons_zero, List.set_cons_succ, i64_w, i32_w]
              rfl
             refine pure_ (i := 9) (N := some 10) (v := ?_) (a' := ?_) #[true, true, true, true, true, true, true, true, true, true] rfl rfl (any_of HT_.out (by kernel_rfl)) (fun _ _ _ h => h) (Or.inl ⟨by rfl, ?_⟩) ?_ ?_
             rotate_left
             ·intro w'
              go_simp
              with_reducible rfl
             rotate_left
             ·simp only [Act.put, List.setIfInBounds_toArray, List.set_cons_zero, List.set_cons_succ, i64_w, i32_w]
              rfl
             refine done_ (done_of HT_.out (by kernel_rfl)) ?_
             try go_wp2
             go_meet
             case rel => exact ⟨_, (true), (by first | rfl | (simp; done) | (simp [*]; done)), H', ⟨by have := HJ8.out; have := HK2.out; first | omega | exact Nat.le_refl _⟩, ⟨by (with_reducible repeat (first | refine blk_drewN ?_ _ | refine blk_drew ?_ | refine blk_alloc ?_ _)); exact BK231.out⟩, ⟨by (with_reducible repeat (first | refine blk_drewN ?_ _ | refine blk_drew ?_ | refine blk_alloc ?_ _)); exact BK236.out⟩, ⟨by (with_reducible repeat (first | refine blk_drewN ?_ _ | refine blk_drew ?_ | refine blk_alloc ?_ _)); exact BK241.out⟩, ⟨by repeat (first | (with_reducible first | exact HB.out | apply below_alloc | apply pw_below_drewN | apply below_drew1 | refine below_set ?_ GE231.out | refine below_set ?_ GE236.out | refine below_set ?_ GE241.out) | exact HB.out)⟩⟩
            ·replace c31 := Bool.eq_false_iff.mpr c31
             subst c31
             have H1 : (quarrylaw17_AggBounds.j2 k2 l0 (wrap64 (x9_2 + 1)) (((rd_T32 l0 x12_2).f0) == t227 && (((rd_T32 l0 x12_2).f1) == t228 && ((((rd_T32 l0 x12_2).f2).toList) == t229.toList))) x11_2 x12_2 t227 t228 t229 t232 t233 t234 t237 t238 t239) = some r := by rw [if_neg (show ¬ (false = true) by decide)] at H; exact H
             clear H
             have H := H1
             clear H1
             have H' := Aside0.mk H
             clear H
             try go_wp2
             have n0_ := Aside0.mk (blk_drew BK231.out)
             have n1_ := Aside0.mk (blk_drew BK236.out)
             have n2_ := Aside0.mk (blk_drew BK241.out)
             have n3_ := Aside0.mk (below_drew1 HB.out)
             clear BK231
             clear BK236
             clear BK241
             clear HB
             have BK231 := n0_
             have BK236 := n1_
             have BK241 := n2_
             have HB := n3_
             clear n0_ n1_ n2_ n3_
             have p246 : 0 ≤ (x12_2 : Int) := of_decide_eq_true (by first | (with_reducible assumption) | assumption)
             have q246 : x12_2 < (l0.length : Int) := of_decide_eq_true (by first | (with_reducible assumption) | assumption)
             obtain ⟨ad246, e246, hx246_0, hx246_1, hx246_2⟩ := at_T32 HR0.out x12_2 p246 q246
             have hw246_2 := hx246_2
             have hw246_1 := hx246_1
             have hw246_0 := hx246_0
             obtain rfl : ad245 = ad246 := (by injection e246)
             replace hx246_0 := (HB.out.cell (World.block_lt_of_cell? w _ hx246_0)).trans hx246_0
             replace hx246_1 := (HB.out.cell (World.block_lt_of_cell? w _ hx246_1)).trans hx246_1
             replace hx246_2 := (HB.out.cell (World.block_lt_of_cell? w _ hx246_2)).trans hx246_2
             replace p246 := eq_true p246
             replace q246 := eq_true q246
             refine start_ (n := 10) (S := fun w' => w'.cell? ⟨gb231, 0, none⟩ = some (.int .i64 t227) ∧ w'.cell? ⟨gb231, 1, none⟩ = some (.int .i64 t228) ∧ w'.cell? ⟨gb231, 2, none⟩ = some (.string t229) ∧ w'.cell? (ad245.add ((x12_2).toNat * 3)) = some (.int .i64 ((rd_T32 l0 x12_2).f0)) ∧ w'.cell? ⟨(ad245.add ((x12_2).toNat * 3)).block, (ad245.add ((x12_2).toNat * 3)).off + 1, none⟩ = some (.int .i64 ((rd_T32 l0 x12_2).f1)) ∧ w'.cell? ⟨(ad245.add ((x12_2).toNat * 3)).block, (ad245.add ((x12_2).toNat * 3)).off + 2, none⟩ = some (.string ((rd_T32 l0 x12_2).f2))) (ds := []) #[false, false, false, false, false, false, false, false, false, false] (by kernel_rfl) rfl rfl ⟨(blk_cell BK231.out 0).trans rfl, (blk_cell BK231.out 1).trans rfl, (blk_cell BK231.out 2).trans rfl, ((HB.out.cell (World.block_lt_of_cell? w _ hw246_0)).trans hw246_0), ((HB.out.cell (World.block_lt_of_cell? w _ hw246_1)).trans hw246_1), ((HB.out.cell (World.block_lt_of_cell? w _ hw246_2)).trans hw246_2)⟩ (fun hHeld => ?_); refine with_tabW quarrylaw17_AggBounds.tab17 quarrylaw17_AggBounds.bits17 (fun HT_ HW_ => ?_)
             generalize wr.drew = w33 at BK231 BK236 BK241 HB hx246_0 hx246_1 hx246_2 hHeld ⊢
             refine pure_ (i := 0) (N := some 57) (v := ?_) (a' := ?_) #[true, false, false, false, false, false, false, false, false, false] rfl rfl (any_of HT_.out (by kernel_rfl)) (fun _ _ _ h => h) (Or.inl ⟨by rfl, ?_⟩) ?_ ?_
             rotate_left
             ·intro w'
              go_simp
              with_reducible rfl
             rotate_left
             ·simp only [Act.put, List.setIfInBounds_toArray, List.set_cons_zero, List.set_cons_succ, i64_w, i32_w]
              rfl
             refine pure_ (i := 1) (N := some 58) (v := ?_) (a' := ?_) #[true, true, false, false, false, false, false, false, false, false] rfl rfl (any_of HT_.out (by kernel_rfl)) (fun _ _ _ h => h) (Or.inl ⟨by rfl, ?_⟩) ?_ ?_
             rotate_left
             ·intro w'
              go_simp
              with_reducible rfl
             rotate_left
             ·simp only [Act.put, List.setIfInBounds_toArray, List.set_cons_zero, List.set_cons_succ, i64_w, i32_w]
              rfl
             refine pure_ (i := 2) (N := some 59) (v := ?_) (a' := ?_) #[true, true, true, false, false, false, false, false, false, false] rfl rfl (any_of HT_.out (by kernel_rfl)) (fun _ _ _ h => h) (Or.inl ⟨by rfl, ?_⟩) ?_ ?_
             rotate_left
             ·intro w'
              go_simp
              with_reducible rfl
             rotate_left
             ·simp only [Act.put, List.setIfInBounds_toArray, List.set_cons_zero, List.set_cons_succ, i64_w, i32_w]
              rfl
             refine pure_ (i := 3) (N := some 60) (v := ?_) (a' := ?_) #[true, true, true, true, false, false, false, false, false, false] rfl rfl (any_of HT_.out (by kernel_rfl)) (fun _ _ _ h => h) (Or.inl ⟨by rfl, ?_⟩) ?_ ?_
             rotate_left
             ·intro w'
              go_simp
              with_reducible rfl
             rotate_left
             ·simp only [Act.put, List.setIfInBounds_toArray, List.set_cons_zero, List.set_cons_succ, i64_w, i32_w]
              rfl
             refine pure_ (i := 4) (N := some 61) (v := ?_) (a' := ?_) #[true, true, true, true, true, false, false, false, false, false] rfl rfl (any_of HT_.out (by kernel_rfl)) (fun _ _ _ h => h) (Or.inl ⟨by rfl, ?_⟩) ?_ ?_
             rotate_left
             ·intro w'
              go_simp
              with_reducible rfl
             rotate_left
             ·simp only [Act.put, List.setIfInBounds_toArray, List.set_cons_zero, List.set_cons_succ, i64_w, i32_w]
              rfl
             refine take_ (i := 5) (N := some 62) (v := ?_) (a' := ?_) #[true, true, true, true, true, true, false, false, false, false] rfl rfl (take_ofW HT_.out HW_.out (by kernel_rfl)) (fun _ _ _ h => h) (Or.inl ⟨by rfl, ?_⟩) hHeld ?_ ?_
             rotate_left
             ·rintro w' ⟨s0, s1, s2, s3, s4, s5⟩
              go_simp
              with_reducible rfl
             rotate_left
             ·simp only [Act.put, List.setIfInBounds_toArray, List.set_cons_zero, List.set_cons_succ, i64_w, i32_w]
              rfl
             refine take_ (i := 6) (N := some 63) (v := ?_) (a' := ?_) #[true, true, true, true, true, true, true, false, false, false] rfl rfl (take_ofW HT_.out HW_.out (by kernel_rfl)) (fun _ _ _ h => h) (Or.inl ⟨by rfl, ?_⟩) hHeld ?_ ?_
             rotate_left
             ·rintro w' ⟨s0, s1, s2, s3, s4, s5⟩
              go_simp
              with_reducible rfl
             rotate_left
             ·simp only [Act.put, List.setIfInBounds_toArray, List.set_cons_zero, List.set_cons_succ, i64_w, i32_w]
              rfl
             refine pure_ (i := 7) (N := some 64) (v := ?_) (a' := ?_) #[true, true, true, true, true, true, true, true, false, false] rfl rfl (any_of HT_.out (by kernel_rfl)) (fun _ _ _ h => h) (Or.inl ⟨by rfl, ?_⟩) ?_ ?_
             rotate_left
             ·intro w'
              go_simp
              with_reducible rfl
             rotate_left
             ·simp only [Act.put, List.setIfInBounds_toArray, List.set_cons_zero, List.set_cons_succ, i64_w, i32_w]
              rfl
             refine pure_ (i := 8) (N := some 65) (v := ?_) (a' := ?_) #[true, true, true, true, true, true, true, true, true, false] rfl rfl (any_of HT_.out (by kernel_rfl)) (fun _ _ _ h => h) (Or.inl ⟨by rfl, ?_⟩) ?_ ?_
             rotate_left
             ·intro w'
              go_simp
              with_reducible rfl
             rotate_left
             ·simp only [Act.put, List.setIfInBounds_toArray, List.set_cons_zero, List.set_cons_succ, i64_w, i32_w]
              rfl
             refine pure_ (i := 9) (N := some 10) (v := ?_) (a' := ?_) #[true, true, true, true, true, true, true, true, true, true] rfl rfl (any_of HT_.out (by kernel_rfl)) (fun _ _ _ h => h) (Or.inl ⟨by rfl, ?_⟩) ?_ ?_
             rotate_left
             ·intro w'
              go_simp
              with_reducible rfl
             rotate_left
             ·simp only [Act.put, List.setIfInBounds_toArray, List.set_cons_zero, List.set_cons_succ, i64_w, i32_w]
              rfl
             refine done_ (done_of HT_.out (by kernel_rfl)) ?_
             try go_wp2
             go_meet
             case rel => exact ⟨_, ((((rd_T32 l0 x12_2).f0) == t227 && (((rd_T32 l0 x12_2).f1) == t228 && ((((rd_T32 l0 x12_2).f2).toList) == t229.toList)))), (by first | rfl | (simp; done) | (simp [*]; done)), H', ⟨by have := HJ8.out; have := HK2.out; first | omega | exact Nat.le_refl _⟩, ⟨by (with_reducible repeat (first | refine blk_drewN ?_ _ | refine blk_drew ?_ | refine blk_alloc ?_ _)); exact BK231.out⟩, ⟨by (with_reducible repeat (first | refine blk_drewN ?_ _ | refine blk_drew ?_ | refine blk_alloc ?_ _)); exact BK236.out⟩, ⟨by (with_reducible repeat (first | refine blk_drewN ?_ _ | refine blk_drew ?_ | refine blk_alloc ?_ _)); exact BK241.out⟩, ⟨by repeat (first | (with_reducible first | exact HB.out | apply below_alloc | apply pw_below_drewN | apply below_drew1 | refine below_set ?_ GE231.out | refine below_set ?_ GE236.out | refine below_set ?_ GE241.out) | exact HB.out)⟩⟩
           case rest =>
            clear HC30
            try clear c1
            try clear c2
            try clear p2
            try clear q2
            try clear hx2
            try clear c3
            try clear c5
            try clear p6
            try clear c10
            try clear c15
            try clear c16
            try clear c17
            try clear c21
            try clear c22
            try clear c24
            try clear p24
            try clear q24
            try clear hx24
            try clear c25
            try clear c26
            try clear c27
            try clear c27b0
            try clear c28
            try clear c28b0
            try clear c29
            try clear c29b0
            try clear c29b1
            try clear c31
            try clear hcz14_0
            try clear hcz14_1
            try clear hcz14_2
            try clear hcz18_0
            try clear hcz18_1
            try clear hcz18_2
            try clear hcz23_0
            try clear hcz23_1
            try clear hcz23_2
            try clear hfz14_0
            try clear hfz14_1
            try clear hfz14_2
            try clear hfz18_0
            try clear hfz18_1
            try clear hfz18_2
            try clear hfz23_0
            try clear hfz23_1
            try clear hfz23_2
            try clear hx245_0
            try clear hx245_1
            try clear hx245_2
            try clear hx246_0
            try clear hx246_1
            try clear hx246_2
            try clear p2
            try clear p245
            try clear p246
            try clear q245
            try clear q246
            obtain ⟨kq, x10_29, rfl, HA, HJ29, BK231, BK236, BK241, HB⟩ := hcut
            cases kq with
            | zero => exact absurd HA.out (by simp [quarrylaw17_AggBounds.j2])
            | succ kj29 =>
             have H := HA.out
             clear HA
             simp only [quarrylaw17_AggBounds.j2] at H
             have HC34 := Aside0.mk H
             clear H
             go_upto_region 18 with (fail)
             go_cut [11] (fun v11 wc => ∃ (kq : Nat) (x11_33 : Bool), v11 = .bool x11_33 ∧ Aside0 (quarrylaw17_AggBounds.j3 kq l0 (wrap64 (x9_2 + 1)) x10_29 x11_33 x12_2 t227 t228 t229 t232 t233 t234 t237 t238 t239 = some r) ∧ Aside0 (kq ≤ kj29) ∧ Aside0 (wc.heap[gb231]? = some (.cells #[.int .i64 t227, .int .i64 t228, .string t229] 32 (0, 0))) ∧ Aside0 (wc.heap[gb236]? = some (.cells #[.int .i64 t232, .int .i64 t233, .string t234] 32 (0, 0))) ∧ Aside0 (wc.heap[gb241]? = some (.cells #[.int .i64 t237, .int .i64 t238, .string t239] 32 (0, 0))) ∧ Aside0 (Below w.heap.size w wc))
             case first =>
              have H := HC34.out
              clear HC34
              by_cases c35 : x11_2 = true
              ·subst c35
               have H1 : (quarrylaw17_AggBounds.j3 kj29 l0 (wrap64 (x9_2 + 1)) x10_29 true x12_2 t227 t228 t229 t232 t233 t234 t237 t238 t239) = some r := by rw [if_pos rfl] at H; exact H
               clear H
               have H := H1
               clear H1
               have H' := Aside0.mk H
               clear H
               try go_wp2
               have n0_ := Aside0.mk (blk_drew BK231.out)
               have n1_ := Aside0.mk (blk_drew BK236.out)
               have n2_ := Aside0.mk (blk_drew BK241.out)
               have n3_ := Aside0.mk (below_drew1 HB.out)
               clear BK231
               clear BK236
               clear BK241
               clear HB
               have BK231 := n0_
               have BK236 := n1_
               have BK241 := n2_
               have HB := n3_
               clear n0_ n1_ n2_ n3_
               refine start_ (n := 10) (S := fun w' => True) (ds := []) #[false, false, false, false, false, false, false, false, false, false] (by kernel_rfl) rfl rfl trivial (fun hHeld => ?_); refine with_tabW quarrylaw17_AggBounds.tab18 quarrylaw17_AggBounds.bits18 (fun HT_ HW_ => ?_)
               generalize wc.drew = w36 at BK231 BK236 BK241 HB hHeld ⊢
               refine pure_ (i := 0) (N := some 66) (v := ?_) (a' := ?_) #[true, false, false, false, false, false, false, false, false, false] rfl rfl (any_of HT_.out (by kernel_rfl)) (fun _ _ _ h => h) (Or.inl ⟨by rfl, ?_⟩) ?_ ?_
               rotate_left
               ·intro w'
                go_simp
                with_reducible rfl
               rotate_left
               ·simp only [Act.put, List.setIfInBounds_toArray, List.set_cons_zero, List.set_cons_succ, i64_w, i32_w]
                rfl
               refine pure_ (i := 1) (N := some 67) (v := ?_) (a' := ?_) #[true, true, false, false, false, false, false, false, false, false] rfl rfl (any_of HT_.out (by kernel_rfl)) (fun _ _ _ h => h) (Or.inl ⟨by rfl, ?_⟩) ?_ ?_
               rotate_left
               ·intro w'
                go_simp
                with_reducible rfl
               rotate_left
               ·simp only [Act.put, List.setIfInBounds_toArray, List.set_cons_zero, List.set_cons_succ, i64_w, i32_w]
                rfl
               refine pure_ (i := 2) (N := some 68) (v := undef) (a' := ?_) #[true, true, true, false, false, false, false, false, false, false] rfl rfl (any_of HT_.out (by kernel_rfl)) (fun _ _ _ h => h) (Or.inr ⟨by rfl, rfl⟩) ?_ ?_
               rotate_left
               ·simp only [Act.put, List.setIfInBounds_toArray, List.set_cons_zero, List.set_cons_succ, i64_w, i32_w]
                rfl
               refine pure_ (i := 3) (N := some 69) (v := undef) (a' := ?_) #[true, true, true, true, false, false, false, false, false, false] rfl rfl (any_of HT_.out (by kernel_rfl)) (fun _ _ _ h => h) (Or.inr ⟨by rfl, rfl⟩) ?_ ?_
               rotate_left
               ·simp only [Act.put, List.setIfInBounds_toArray, List.set_cons_zero, List.set_cons_succ, i64_w, i32_w]
                rfl
               refine pure_ (i := 4) (N := some 70) (v := undef) (a' := ?_) #[true, true, true, true, true, false, false, false, false, false] rfl rfl (any_of HT_.out (by kernel_rfl)) (fun _ _ _ h => h) (Or.inr ⟨by rfl, rfl⟩) ?_ ?_
               rotate_left
               ·simp only [Act.put, List.setIfInBounds_toArray, List.set_cons_zero, List.set_cons_succ, i64_w, i32_w]
                rfl
               refine pure_ (i := 5) (N := some 71) (v := undef) (a' := ?_) #[true, true, true, true, true, true, false, false, false, false] rfl rfl (any_of HT_.out (by kernel_rfl)) (fun _ _ _ h => h) (Or.inr ⟨by rfl, rfl⟩) ?_ ?_
               rotate_left
               ·simp only [Act.put, List.setIfInBounds_toArray, List.set_cons_zero, List.set_cons_succ, i64_w, i32_w]
                rfl
               refine pure_ (i := 6) (N := some 72) (v := undef) (a' := ?_) #[true, true, true, true, true, true, true, false, false, false] rfl rfl (any_of HT_.out (by kernel_rfl)) (fun _ _ _ h => h) (Or.inr ⟨by rfl, rfl⟩) ?_ ?_
               rotate_left
               ·simp only [Act.put, List.setIfInBounds_toArray, List.set_cons_zero, List.set_cons_succ, i64_w, i32_w]
                rfl
               refine pure_ (i := 7) (N := some 73) (v := undef) (a' := ?_) #[true, true, true, true, true, true, true, true, false, false] rfl rfl (any_of HT_.out (by kernel_rfl)) (fun _ _ _ h => h) (Or.inr ⟨by rfl, rfl⟩) ?_ ?_
               rotate_left
               ·simp only [Act.put, List.setIfInBounds_toArray, List.set_cons_zero, List.set_cons_succ, i64_w, i32_w]
                rfl
               refine pure_ (i := 8) (N := some 74) (v := ?_) (a' := ?_) #[true, true, true, true, true, true, true, true, true, false] rfl rfl (any_of HT_.out (by kernel_rfl)) (fun _ _ _ h => h) (Or.inl ⟨by rfl, ?_⟩) ?_ ?_
               rotate_left
               ·intro w'
                go_simp
                with_reducible rfl
               rotate_left
               ·simp only [Act.put, List.setIfInBounds_toArray, List.set_cons_zero, List.set_cons_succ, i64_w, i32_w]
                rfl
               refine pure_ (i := 9) (N := some 11) (v := ?_) (a' := ?_) #[true, true, true, true, true, true, true, true, true, true] rfl rfl (any_of HT_.out (by kernel_rfl)) (fun _ _ _ h => h) (Or.inl ⟨by rfl, ?_⟩) ?_ ?_
               rotate_left
               ·intro w'
                go_simp
                with_reducible rfl
               rotate_left
               ·simp only [Act.put, List.setIfInBounds_toArray, List.set_cons_zero, List.set_cons_succ, i64_w, i32_w]
                rfl
               refine done_ (done_of HT_.out (by kernel_rfl)) ?_
               try go_wp2
               go_meet
               case rel => exact ⟨_, (true), (by first | rfl | (simp; done) | (simp [*]; done)), H', ⟨by have := HJ8.out; have := HK2.out; have := HJ29.out; first | omega | exact Nat.le_refl _⟩, ⟨by (with_reducible repeat (first | refine blk_drewN ?_ _ | refine blk_drew ?_ | refine blk_alloc ?_ _)); exact BK231.out⟩, ⟨by (with_reducible repeat (first | refine blk_drewN ?_ _ | refine blk_drew ?_ | refine blk_alloc ?_ _)); exact BK236.out⟩, ⟨by (with_reducible repeat (first | refine blk_drewN ?_ _ | refine blk_drew ?_ | refine blk_alloc ?_ _)); exact BK241.out⟩, ⟨by repeat (first | (with_reducible first | exact HB.out | apply below_alloc | apply pw_below_drewN | apply below_drew1 | refine below_set ?_ GE231.out | refine below_set ?_ GE236.out | refine below_set ?_ GE241.out) | exact HB.out)⟩⟩
              ·replace c35 := Bool.eq_false_iff.mpr c35
               subst c35
               have H1 : (if 0 ≤ x12_2 then (if x12_2 < (l0.length : Int) then (quarrylaw17_AggBounds.j3 kj29 l0 (wrap64 (x9_2 + 1)) x10_29 (((rd_T32 l0 x12_2).f0) == t232 && (((rd_T32 l0 x12_2).f1) == t233 && ((((rd_T32 l0 x12_2).f2).toList) == t234.toList))) x12_2 t227 t228 t229 t232 t233 t234 t237 t238 t239) else (none)) else (none)) = some r := by rw [if_neg (show ¬ (false = true) by decide)] at H; exact H
               clear H
               have H := H1
               clear H1
               by_cases c37 : 0 ≤ x12_2
               ·rw [if_pos c37] at H
                have c37b0 : decide (0 ≤ x12_2) = true := decide_eq_true c37
                clear c37
                (first | rw [c37b0] | (simp only [i64_w, i32_w]; rw [c37b0]) | skip)
                by_cases c38 : x12_2 < (l0.length : Int)
                ·rw [if_pos c38] at H
                 have c38b0 : decide (x12_2 < (l0.length : Int)) = true := decide_eq_true c38
                 clear c38
                 have H' := Aside0.mk H
                 clear H
                 try go_wp2
                 have n0_ := Aside0.mk (blk_drew BK231.out)
                 have n1_ := Aside0.mk (blk_drew BK236.out)
                 have n2_ := Aside0.mk (blk_drew BK241.out)
                 have n3_ := Aside0.mk (below_drew1 HB.out)
                 clear BK231
                 clear BK236
                 clear BK241
                 clear HB
                 have BK231 := n0_
                 have BK236 := n1_
                 have BK241 := n2_
                 have HB := n3_
                 clear n0_ n1_ n2_ n3_
                 have p247 : 0 ≤ (x12_2 : Int) := of_decide_eq_true (by first | (with_reducible assumption) | assumption)
                 have q247 : x12_2 < (l0.length : Int) := of_decide_eq_true (by first | (with_reducible assumption) | assumption)
                 obtain ⟨ad247, e247, hx247_0, hx247_1, hx247_2⟩ := at_T32 HR0.out x12_2 p247 q247
                 have hw247_2 := hx247_2
                 have hw247_1 := hx247_1
                 have hw247_0 := hx247_0
                 obtain rfl : ad245 = ad247 := (by injection e247)
                 replace hx247_0 := (HB.out.cell (World.block_lt_of_cell? w _ hx247_0)).trans hx247_0
                 replace hx247_1 := (HB.out.cell (World.block_lt_of_cell? w _ hx247_1)).trans hx247_1
                 replace hx247_2 := (HB.out.cell (World.block_lt_of_cell? w _ hx247_2)).trans hx247_2
                 replace p247 := eq_true p247
                 replace q247 := eq_true q247
                 refine start_ (n := 10) (S := fun w' => w'.cell? ⟨gb236, 0, none⟩ = some (.int .i64 t232) ∧ w'.cell? ⟨gb236, 1, none⟩ = some (.int .i64 t233) ∧ w'.cell? ⟨gb236, 2, none⟩ = some (.string t234) ∧ w'.cell? (ad245.add ((x12_2).toNat * 3)) = some (.int .i64 ((rd_T32 l0 x12_2).f0)) ∧ w'.cell? ⟨(ad245.add ((x12_2).toNat * 3)).block, (ad245.add ((x12_2).toNat * 3)).off + 1, none⟩ = some (.int .i64 ((rd_T32 l0 x12_2).f1)) ∧ w'.cell? ⟨(ad245.add ((x12_2).toNat * 3)).block, (ad245.add ((x12_2).toNat * 3)).off + 2, none⟩ = some (.string ((rd_T32 l0 x12_2).f2))) (ds := []) #[false, false, false, false, false, false, false, false, false, false] (by kernel_rfl) rfl rfl ⟨(blk_cell BK236.out 0).trans rfl, (blk_cell BK236.out 1).trans rfl, (blk_cell BK236.out 2).trans rfl, ((HB.out.cell (World.block_lt_of_cell? w _ hw247_0)).trans hw247_0), ((HB.out.cell (World.block_lt_of_cell? w _ hw247_1)).trans hw247_1), ((HB.out.cell (World.block_lt_of_cell? w _ hw247_2)).trans hw247_2)⟩ (fun hHeld => ?_); refine with_tabW quarrylaw17_AggBounds.tab18 quarrylaw17_AggBounds.bits18 (fun HT_ HW_ => ?_)
                 generalize wc.drew = w39 at BK231 BK236 BK241 HB hx247_0 hx247_1 hx247_2 hHeld ⊢
                 refine pure_ (i := 0) (N := some 66) (v := ?_) (a' := ?_) #[true, false, false, false, false, false, false, false, false, false] rfl rfl (any_of HT_.out (by kernel_rfl)) (fun _ _ _ h => h) (Or.inl ⟨by rfl, ?_⟩) ?_ ?_
                 rotate_left
                 ·intro w'
                  go_simp
                  with_reducible rfl
                 rotate_left
                 ·simp only [Act.put, List.setIfInBounds_toArray, List.set_cons_zero, List.set_cons_succ, i64_w, i32_w]
                  rfl
                 refine pure_ (i := 1) (N := some 67) (v := ?_) (a' := ?_) #[true, true, false, false, false, false, false, false, false, false] rfl rfl (any_of HT_.out (by kernel_rfl)) (fun _ _ _ h => h) (Or.inl ⟨by rfl, ?_⟩) ?_ ?_
                 rotate_left
                 ·intro w'
                  go_simp
                  with_reducible rfl
                 rotate_left
                 ·simp only [Act.put, List.setIfInBounds_toArray, List.set_cons_zero, List.set_cons_succ, i64_w, i32_w]
                  rfl
                 refine pure_ (i := 2) (N := some 68) (v := ?_) (a' := ?_) #[true, true, true, false, false, false, false, false, false, false] rfl rfl (any_of HT_.out (by kernel_rfl)) (fun _ _ _ h => h) (Or.inl ⟨by rfl, ?_⟩) ?_ ?_
                 rotate_left
                 ·intro w'
                  go_simp
                  with_reducible rfl
                 rotate_left
                 ·simp only [Act.put, List.setIfInBounds_toArray, List.set_cons_zero, List.set_cons_succ, i64_w, i32_w]
                  rfl
                 refine pure_ (i := 3) (N := some 69) (v := ?_) (a' := ?_) #[true, true, true, true, false, false, false, false, false, false] rfl rfl (any_of HT_.out (by kernel_rfl)) (fun _ _ _ h => h) (Or.inl ⟨by rfl, ?_⟩) ?_ ?_
                 rotate_left
                 ·intro w'
                  go_simp
                  with_reducible rfl
                 rotate_left
                 ·simp only [Act.put, List.setIfInBounds_toArray, List.set_cons_zero, List.set_cons_succ, i64_w, i32_w]
                  rfl
                 refine pure_ (i := 4) (N := some 70) (v := ?_) (a' := ?_) #[true, true, true, true, true, false, false, false, false, false] rfl rfl (any_of HT_.out (by kernel_rfl)) (fun _ _ _ h => h) (Or.inl ⟨by rfl, ?_⟩) ?_ ?_
                 rotate_left
                 ·intro w'
                  go_simp
                  with_reducible rfl
                 rotate_left
                 ·simp only [Act.put, List.setIfInBounds_toArray, List.set_cons_zero, List.set_cons_succ, i64_w, i32_w]
                  rfl
                 refine take_ (i := 5) (N := some 71) (v := ?_) (a' := ?_) #[true, true, true, true, true, true, false, false, false, false] rfl rfl (take_ofW HT_.out HW_.out (by kernel_rfl)) (fun _ _ _ h => h) (Or.inl ⟨by rfl, ?_⟩) hHeld ?_ ?_
                 rotate_left
                 ·rintro w' ⟨s0, s1, s2, s3, s4, s5⟩
                  go_simp
                  with_reducible rfl
                 rotate_left
                 ·simp only [Act.put, List.setIfInBounds_toArray, List.set_cons_zero, List.set_cons_succ, i64_w, i32_w]
                  rfl
                 refine take_ (i := 6) (N := some 72) (v := ?_) (a' := ?_) #[true, true, true, true, true, true, true, false, false, false] rfl rfl (take_ofW HT_.out HW_.out (by kernel_rfl)) (fun _ _ _ h => h) (Or.inl ⟨by rfl, ?_⟩) hHeld ?_ ?_
                 rotate_left
                 ·rintro w' ⟨s0, s1, s2, s3, s4, s5⟩
                  go_simp
                  with_reducible rfl
                 rotate_left
                 ·simp only [Act.put, List.setIfInBounds_toArray, List.set_cons_zero, List.set_cons_succ, i64_w, i32_w]
                  rfl
                 refine pure_ (i := 7) (N := some 73) (v := ?_) (a' := ?_) #[true, true, true, true, true, true, true, true, false, false] rfl rfl (any_of HT_.out (by kernel_rfl)) (fun _ _ _ h => h) (Or.inl ⟨by rfl, ?_⟩) ?_ ?_
                 rotate_left
                 ·intro w'
                  go_simp
                  with_reducible rfl
                 rotate_left
                 ·simp only [Act.put, List.setIfInBounds_toArray, List.set_cons_zero, List.set_cons_succ, i64_w, i32_w]
                  rfl
                 refine pure_ (i := 8) (N := some 74) (v := ?_) (a' := ?_) #[true, true, true, true, true, true, true, true, true, false] rfl rfl (any_of HT_.out (by kernel_rfl)) (fun _ _ _ h => h) (Or.inl ⟨by rfl, ?_⟩) ?_ ?_
                 rotate_left
                 ·intro w'
                  go_simp
                  with_reducible rfl
                 rotate_left
                 ·simp only [Act.put, List.setIfInBounds_toArray, List.set_cons_zero, List.set_cons_succ, i64_w, i32_w]
                  rfl
                 refine pure_ (i := 9) (N := some 11) (v := ?_) (a' := ?_) #[true, true, true, true, true, true, true, true, true, true] rfl rfl (any_of HT_.out (by kernel_rfl)) (fun _ _ _ h => h) (Or.inl ⟨by rfl, ?_⟩) ?_ ?_
                 rotate_left
                 ·intro w'
                  go_simp
                  with_reducible rfl
                 rotate_left
                 ·simp only [Act.put, List.setIfInBounds_toArray, List.set_cons_zero, List.set_cons_succ, i64_w, i32_w]
                  rfl
                 refine done_ (done_of HT_.out (by kernel_rfl)) ?_
                 try go_wp2
                 go_meet
                 case rel => exact ⟨_, ((((rd_T32 l0 x12_2).f0) == t232 && (((rd_T32 l0 x12_2).f1) == t233 && ((((rd_T32 l0 x12_2).f2).toList) == t234.toList)))), (by first | rfl | (simp; done) | (simp [*]; done)), H', ⟨by have := HJ8.out; have := HK2.out; have := HJ29.out; first | omega | exact Nat.le_refl _⟩, ⟨by (with_reducible repeat (first | refine blk_drewN ?_ _ | refine blk_drew ?_ | refine blk_alloc ?_ _)); exact BK231.out⟩, ⟨by (with_reducible repeat (first | refine blk_drewN ?_ _ | refine blk_drew ?_ | refine blk_alloc ?_ _)); exact BK236.out⟩, ⟨by (with_reducible repeat (first | refine blk_drewN ?_ _ | refine blk_drew ?_ | refine blk_alloc ?_ _)); exact BK241.out⟩, ⟨by repeat (first | (with_reducible first | exact HB.out | apply below_alloc | apply pw_below_drewN | apply below_drew1 | refine below_set ?_ GE231.out | refine below_set ?_ GE236.out | refine below_set ?_ GE241.out) | exact HB.out)⟩⟩
                ·rw [if_neg c38] at H
                 cases H
               ·rw [if_neg c37] at H
                cases H
             case rest =>
              clear HC34
              try clear c1
              try clear c2
              try clear p2
              try clear q2
              try clear hx2
              try clear c3
              try clear c5
              try clear p6
              try clear c10
              try clear c15
              try clear c16
              try clear c17
              try clear c21
              try clear c22
              try clear c24
              try clear p24
              try clear q24
              try clear hx24
              try clear c25
              try clear c26
              try clear c27
              try clear c27b0
              try clear c28
              try clear c28b0
              try clear c29
              try clear c29b0
              try clear c29b1
              try clear c31
              try clear c35
              try clear c37
              try clear c37b0
              try clear c38
              try clear c38b0
              try clear hcz14_0
              try clear hcz14_1
              try clear hcz14_2
              try clear hcz18_0
              try clear hcz18_1
              try clear hcz18_2
              try clear hcz23_0
              try clear hcz23_1
              try clear hcz23_2
              try clear hfz14_0
              try clear hfz14_1
              try clear hfz14_2
              try clear hfz18_0
              try clear hfz18_1
              try clear hfz18_2
              try clear hfz23_0
              try clear hfz23_1
              try clear hfz23_2
              try clear hx245_0
              try clear hx245_1
              try clear hx245_2
              try clear hx246_0
              try clear hx246_1
              try clear hx246_2
              try clear hx247_0
              try clear hx247_1
              try clear hx247_2
              try clear p2
              try clear p24
              try clear p245
              try clear p246
              try clear p247
              try clear p6
              try clear q2
              try clear q24
              try clear q245
              try clear q246
              try clear q247
              obtain ⟨kq, x11_33, rfl, HA, HJ33, BK231, BK236, BK241, HB⟩ := hcut
              cases kq with
              | zero => exact absurd HA.out (by simp [quarrylaw17_AggBounds.j3])
              | succ kj33 =>
               have H := HA.out
               clear HA
               simp only [quarrylaw17_AggBounds.j3] at H
               by_cases c40 : 0 ≤ x12_2
               ·rw [if_pos c40] at H
                have c40b0 : decide (0 ≤ x12_2) = true := decide_eq_true c40
                clear c40
                by_cases c41 : x12_2 < (l0.length : Int)
                ·rw [if_pos c41] at H
                 have c41b0 : decide (x12_2 < (l0.length : Int)) = true := decide_eq_true c41
                 clear c41
                 replace H := Option.bind_eq_some_iff.mp H
                 obtain ⟨t249, A420, H⟩ := H
                 replace H : (if t249 > 0 then (none) else ((quarryref01_Compare.f kj33 t232 t233 t234 ((rd_T32 l0 x12_2).f0) ((rd_T32 l0 x12_2).f1) ((rd_T32 l0 x12_2).f2)).bind fun t251 => (if t251 < 0 then (none) else (quarrylaw17_AggBounds.l0 kj33 l0 (wrap64 (x9_2 + 1)) x10_29 x11_33 (wrap64 (x12_2 + 1)) t227 t228 t229 t232 t233 t234 t237 t238 t239)))) = some r := H
                 have A42 := Aside0.mk A420
                 clear A420
                 by_cases c43 : t249 > 0
                 ·rw [if_pos c43] at H
                  cases H
                 ·rw [if_neg c43] at H
                  have c43b0 : decide (0 < t249) = false := decide_eq_false c43
                  clear c43
                  replace H := Option.bind_eq_some_iff.mp H
                  obtain ⟨t251, A460, H⟩ := H
                  replace H : (if t251 < 0 then (none) else (quarrylaw17_AggBounds.l0 kj33 l0 (wrap64 (x9_2 + 1)) x10_29 x11_33 (wrap64 (x12_2 + 1)) t227 t228 t229 t232 t233 t234 t237 t238 t239)) = some r := H
                  have A46 := Aside0.mk A460
                  clear A460
                  by_cases c47 : t251 < 0
                  ·rw [if_pos c47] at H
                   cases H
                  ·rw [if_neg c47] at H
                   have c47b0 : decide (t251 < 0) = false := decide_eq_false c47
                   clear c47
                   have H' := Aside0.mk H
                   clear H
                   try go_wp2
                   have n0_ := Aside0.mk (blk_drew BK231.out)
                   have n1_ := Aside0.mk (blk_drew BK236.out)
                   have n2_ := Aside0.mk (blk_drew BK241.out)
                   have n3_ := Aside0.mk (below_drew1 HB.out)
                   clear BK231
                   clear BK236
                   clear BK241
                   clear HB
                   have BK231 := n0_
                   have BK236 := n1_
                   have BK241 := n2_
                   have HB := n3_
                   clear n0_ n1_ n2_ n3_
                   have p248 : 0 ≤ (x12_2 : Int) := of_decide_eq_true (by first | (with_reducible assumption) | assumption)
                   have q248 : x12_2 < (l0.length : Int) := of_decide_eq_true (by first | (with_reducible assumption) | assumption)
                   obtain ⟨ad248, e248, hx248_0, hx248_1, hx248_2⟩ := at_T32 HR0.out x12_2 p248 q248
                   have hw248_2 := hx248_2
                   have hw248_1 := hx248_1
                   have hw248_0 := hx248_0
                   obtain rfl : ad245 = ad248 := (by injection e248)
                   replace hx248_0 := (HB.out.cell (World.block_lt_of_cell? w _ hx248_0)).trans hx248_0
                   replace hx248_1 := (HB.out.cell (World.block_lt_of_cell? w _ hx248_1)).trans hx248_1
                   replace hx248_2 := (HB.out.cell (World.block_lt_of_cell? w _ hx248_2)).trans hx248_2
                   replace p248 := eq_true p248
                   replace q248 := eq_true q248
                   have p250 : 0 ≤ (x12_2 : Int) := of_decide_eq_true (by first | (with_reducible assumption) | assumption)
                   have q250 : x12_2 < (l0.length : Int) := of_decide_eq_true (by first | (with_reducible assumption) | assumption)
                   obtain ⟨ad250, e250, hx250_0, hx250_1, hx250_2⟩ := at_T32 HR0.out x12_2 p250 q250
                   have hw250_2 := hx250_2
                   have hw250_1 := hx250_1
                   have hw250_0 := hx250_0
                   obtain rfl : ad245 = ad250 := (by injection e250)
                   replace hx250_0 := (HB.out.cell (World.block_lt_of_cell? w _ hx250_0)).trans hx250_0
                   replace hx250_1 := (HB.out.cell (World.block_lt_of_cell? w _ hx250_1)).trans hx250_1
                   replace hx250_2 := (HB.out.cell (World.block_lt_of_cell? w _ hx250_2)).trans hx250_2
                   replace p250 := eq_true p250
                   replace q250 := eq_true q250
                   refine start_ (n := 16) (S := fun w' => w'.cell? ⟨gb231, 0, none⟩ = some (.int .i64 t227) ∧ w'.cell? ⟨gb231, 1, none⟩ = some (.int .i64 t228) ∧ w'.cell? ⟨gb231, 2, none⟩ = some (.string t229) ∧ w'.cell? ⟨gb236, 0, none⟩ = some (.int .i64 t232) ∧ w'.cell? ⟨gb236, 1, none⟩ = some (.int .i64 t233) ∧ w'.cell? ⟨gb236, 2, none⟩ = some (.string t234) ∧ w'.cell? (ad245.add ((x12_2).toNat * 3)) = some (.int .i64 ((rd_T32 l0 x12_2).f0)) ∧ w'.cell? ⟨(ad245.add ((x12_2).toNat * 3)).block, (ad245.add ((x12_2).toNat * 3)).off + 1, none⟩ = some (.int .i64 ((rd_T32 l0 x12_2).f1)) ∧ w'.cell? ⟨(ad245.add ((x12_2).toNat * 3)).block, (ad245.add ((x12_2).toNat * 3)).off + 2, none⟩ = some (.string ((rd_T32 l0 x12_2).f2)) ∧ w'.cell? (ad245.add ((x12_2).toNat * 3)) = some (.int .i64 ((rd_T32 l0 x12_2).f0)) ∧ w'.cell? ⟨(ad245.add ((x12_2).toNat * 3)).block, (ad245.add ((x12_2).toNat * 3)).off + 1, none⟩ = some (.int .i64 ((rd_T32 l0 x12_2).f1)) ∧ w'.cell? ⟨(ad245.add ((x12_2).toNat * 3)).block, (ad245.add ((x12_2).toNat * 3)).off + 2, none⟩ = some (.string ((rd_T32 l0 x12_2).f2))) (ds := []) #[false, false, false, false, false, false, false, false, false, false, false, false, false, false, false, false] (by kernel_rfl) rfl rfl ⟨(blk_cell BK231.out 0).trans rfl, (blk_cell BK231.out 1).trans rfl, (blk_cell BK231.out 2).trans rfl, (blk_cell BK236.out 0).trans rfl, (blk_cell BK236.out 1).trans rfl, (blk_cell BK236.out 2).trans rfl, ((HB.out.cell (World.block_lt_of_cell? w _ hw248_0)).trans hw248_0), ((HB.out.cell (World.block_lt_of_cell? w _ hw248_1)).trans hw248_1), ((HB.out.cell (World.block_lt_of_cell? w _ hw248_2)).trans hw248_2), ((HB.out.cell (World.block_lt_of_cell? w _ hw250_0)).trans hw250_0), ((HB.out.cell (World.block_lt_of_cell? w _ hw250_1)).trans hw250_1), ((HB.out.cell (World.block_lt_of_cell? w _ hw250_2)).trans hw250_2)⟩ (fun hHeld => ?_); refine with_tabW quarrylaw17_AggBounds.tab19 quarrylaw17_AggBounds.bits19 (fun HT_ HW_ => ?_)
                   generalize wc.drew = w51 at BK231 BK236 BK241 HB hx248_0 hx248_1 hx248_2 hx250_0 hx250_1 hx250_2 hHeld ⊢
                   refine pure_ (i := 1) (N := some 76) (v := ?_) (a' := ?_) #[false, true, false, false, false, false, false, false, false, false, false, false, false, false, false, false] rfl rfl (any_of HT_.out (by kernel_rfl)) (fun _ _ _ h => h) (Or.inl ⟨by rfl, ?_⟩) ?_ ?_
                   rotate_left
                   ·intro w'
                    go_simp
                    with_reducible rfl
                   rotate_left
                   ·simp only [Act.put, List.setIfInBounds_toArray, List.set_cons_zero, List.set_cons_succ, i64_w, i32_w]
                    rfl
                   refine pure_ (i := 2) (N := some 77) (v := ?_) (a' := ?_) #[false, true, true, false, false, false, false, false, false, false, false, false, false, false, false, false] rfl rfl (any_of HT_.out (by kernel_rfl)) (fun _ _ _ h => h) (Or.inl ⟨by rfl, ?_⟩) ?_ ?_
                   rotate_left
                   ·intro w'
                    go_simp
                    with_reducible rfl
                   rotate_left
                   ·simp only [Act.put, List.setIfInBounds_toArray, List.set_cons_zero, List.set_cons_succ, i64_w, i32_w]
                    rfl
                   refine pure_ (i := 3) (N := some 78) (v := ?_) (a' := ?_) #[false, true, true, true, false, false, false, false, false, false, false, false, false, false, false, false] rfl rfl (any_of HT_.out (by kernel_rfl)) (fun _ _ _ h => h) (Or.inl ⟨by rfl, ?_⟩) ?_ ?_
                   rotate_left
                   ·intro w'
                    go_simp
                    with_reducible rfl
                   rotate_left
                   ·simp only [Act.put, List.setIfInBounds_toArray, List.set_cons_zero, List.set_cons_succ, i64_w, i32_w]
                    rfl
                   refine take_ (i := 0) (N := some 75) (v := ?_) (a' := ?_) #[true, true, true, true, false, false, false, false, false, false, false, false, false, false, false, false] rfl rfl (take_ofW HT_.out HW_.out (by kernel_rfl)) (fun _ _ _ h => h) (Or.inl ⟨by rfl, ?_⟩) hHeld ?_ ?_
                   rotate_left
                   ·rintro w' ⟨s0, s1, s2, s3, s4, s5, s6, s7, s8, s9, s10, s11⟩
                    go_simp
                    with_reducible rfl
                   rotate_left
                   ·simp only [Act.put, List.setIfInBounds_toArray, List.set_cons_zero, List.set_cons_succ, i64_w, i32_w]
                    rfl
                   refine take_ (i := 4) (N := some 79) (v := ?_) (a' := ?_) #[true, true, true, true, true, false, false, false, false, false, false, false, false, false, false, false] rfl rfl (take_ofW HT_.out HW_.out (by kernel_rfl)) (fun _ _ _ h => h) (Or.inl ⟨by rfl, ?_⟩) hHeld ?_ ?_
                   rotate_left
                   ·rintro w' ⟨s0, s1, s2, s3, s4, s5, s6, s7, s8, s9, s10, s11⟩
                    go_simp
                    with_reducible rfl
                   rotate_left
                   ·simp only [Act.put, List.setIfInBounds_toArray, List.set_cons_zero, List.set_cons_succ, i64_w, i32_w]
                    rfl
                   refine one_ (i := 5) (N := some 80) #[true, true, true, true, true, true, false, false, false, false, false, false, false, false, false, false] rfl rfl (one_of HT_.out (by kernel_rfl)) (by decide) (fun K hK => ?_)
                   refine goes_ Try.func17 (by kernel_rfl) rfl #[.agg #[.int .i64 t227, .int .i64 t228, .string t229], .agg #[.int .i64 ((rd_T32 l0 x12_2).f0), .int .i64 ((rd_T32 l0 x12_2).f1), .string ((rd_T32 l0 x12_2).f2)]] (by rfl) rfl rfl (by (try simp only [List.map_toArray, List.map_cons, List.map_nil]); first | done | rfl | (simp only [List.length_drop, List.length_take]; rfl)) ?_
                   with_reducible refine (quarryref01_Compare.calls kj33 t227 t228 t229 ((rd_T32 l0 x12_2).f0) ((rd_T32 l0 x12_2).f1) ((rd_T32 l0 x12_2).f2) t249 _ A42.out).mono ?_
                   rintro e w52 ⟨rfl, hb⟩
                   refine ⟨_, rfl, ?_⟩
                   have n0_ := Aside0.mk (blk_below (g := gb231) (o := .cells #[.int .i64 t227, .int .i64 t228, .string t229] 32 (0, 0)) (bk_ BK231) hb)
                   have n1_ := Aside0.mk (blk_below (g := gb236) (o := .cells #[.int .i64 t232, .int .i64 t233, .string t234] 32 (0, 0)) (bk_ BK236) hb)
                   have n2_ := Aside0.mk (blk_below (g := gb241) (o := .cells #[.int .i64 t237, .int .i64 t238, .string t239] 32 (0, 0)) (bk_ BK241) hb)
                   have n3_ := Aside0.mk (below_step (by repeat (first | (with_reducible first | exact HB.out | apply below_alloc | apply pw_below_drewN | apply below_drew1 | refine below_set ?_ GE231.out | refine below_set ?_ GE236.out | refine below_set ?_ GE241.out) | exact HB.out)) hb)
                   clear BK231
                   clear BK236
                   clear BK241
                   clear HB
                   have BK231 := n0_
                   have BK236 := n1_
                   have BK241 := n2_
                   have HB := n3_
                   clear n0_ n1_ n2_ n3_
                   (try clear hb)
                   (try clear hb2)
                   (try clear hk)
                   (try clear hi)
                   refine hK.out _ _ ⟨(blk_cell BK231.out 0).trans rfl, (blk_cell BK231.out 1).trans rfl, (blk_cell BK231.out 2).trans rfl, (blk_cell BK236.out 0).trans rfl, (blk_cell BK236.out 1).trans rfl, (blk_cell BK236.out 2).trans rfl, ((HB.out.cell (World.block_lt_of_cell? w _ hw248_0)).trans hw248_0), ((HB.out.cell (World.block_lt_of_cell? w _ hw248_1)).trans hw248_1), ((HB.out.cell (World.block_lt_of_cell? w _ hw248_2)).trans hw248_2), ((HB.out.cell (World.block_lt_of_cell? w _ hw250_0)).trans hw250_0), ((HB.out.cell (World.block_lt_of_cell? w _ hw250_1)).trans hw250_1), ((HB.out.cell (World.block_lt_of_cell? w _ hw250_2)).trans hw250_2)⟩ (fun hHeld => ?_)
                   clear hK K
                   refine norm_ (a' := ?_) ?_ ?_
                   rotate_left
                   ·show Act.put _ (some 80) _ = _
                    simp only [Act.put, List.setIfInBounds_toArray, List.set_cons_zero, List.set_cons_succ, i64_w, i32_w]
                    rfl
                   refine pure_ (i := 6) (N := some 81) (v := ?_) (a' := ?_) #[true, true, true, true, true, true, true, false, false, false, false, false, false, false, false, false] rfl rfl (any_of HT_.out (by kernel_rfl)) (fun _ _ _ h => h) (Or.inl ⟨by rfl, ?_⟩) ?_ ?_
                   rotate_left
                   ·intro w'
                    go_simp
                    with_reducible rfl
                   rotate_left
                   ·simp only [Act.put, List.setIfInBounds_toArray, List.set_cons_zero, List.set_cons_succ, i64_w, i32_w]
                    rfl
                   refine pure_ (i := 7) (N := some 82) (v := ?_) (a' := ?_) #[true, true, true, true, true, true, true, true, false, false, false, false, false, false, false, false] rfl rfl (any_of HT_.out (by kernel_rfl)) (fun _ _ _ h => h) (Or.inl ⟨by rfl, ?_⟩) ?_ ?_
                   rotate_left
                   ·intro w'
                    go_simp
                    with_reducible rfl
                   rotate_left
                   ·simp only [Act.put, List.setIfInBounds_toArray, List.set_cons_zero, List.set_cons_succ, i64_w, i32_w]
                    rfl
                   refine pure_ (i := 9) (N := some 84) (v := ?_) (a' := ?_) #[true, true, true, true, true, true, true, true, false, true, false, false, false, false, false, false] rfl rfl (any_of HT_.out (by kernel_rfl)) (fun _ _ _ h => h) (Or.inl ⟨by rfl, ?_⟩) ?_ ?_
                   rotate_left
                   ·intro w'
                    go_simp
                    with_reducible rfl
                   rotate_left
                   ·simp only [Act.put, List.setIfInBounds_toArray, List.set_cons_zero, List.set_cons_succ, i64_w, i32_w]
                    rfl
                   refine pure_ (i := 10) (N := some 85) (v := ?_) (a' := ?_) #[true, true, true, true, true, true, true, true, false, true, true, false, false, false, false, false] rfl rfl (any_of HT_.out (by kernel_rfl)) (fun _ _ _ h => h) (Or.inl ⟨by rfl, ?_⟩) ?_ ?_
                   rotate_left
                   ·intro w'
                    go_simp
                    with_reducible rfl
                   rotate_left
                   ·simp only [Act.put, List.setIfInBounds_toArray, List.set_cons_zero, List.set_cons_succ, i64_w, i32_w]
                    rfl
                   refine pure_ (i := 11) (N := some 86) (v := ?_) (a' := ?_) #[true, true, true, true, true, true, true, true, false, true, true, true, false, false, false, false] rfl rfl (any_of HT_.out (by kernel_rfl)) (fun _ _ _ h => h) (Or.inl ⟨by rfl, ?_⟩) ?_ ?_
                   rotate_left
                   ·intro w'
                    go_simp
                    with_reducible rfl
                   rotate_left
                   ·simp only [Act.put, List.setIfInBounds_toArray, List.set_cons_zero, List.set_cons_succ, i64_w, i32_w]
                    rfl
                   refine take_ (i := 8) (N := some 83) (v := ?_) (a' := ?_) #[true, true, true, true, true, true, true, true, true, true, true, true, false, false, false, false] rfl rfl (take_ofW HT_.out HW_.out (by kernel_rfl)) (fun _ _ _ h => h) (Or.inl ⟨by rfl, ?_⟩) hHeld ?_ ?_
                   rotate_left
                   ·rintro w' ⟨s0, s1, s2, s3, s4, s5, s6, s7, s8, s9, s10, s11⟩
                    go_simp
                    with_reducible rfl
                   rotate_left
                   ·simp only [Act.put, List.setIfInBounds_toArray, List.set_cons_zero, List.set_cons_succ, i64_w, i32_w]
                    rfl
                   refine take_ (i := 12) (N := some 87) (v := ?_) (a' := ?_) #[true, true, true, true, true, true, true, true, true, true, true, true, true, false, false, false] rfl rfl (take_ofW HT_.out HW_.out (by kernel_rfl)) (fun _ _ _ h => h) (Or.inl ⟨by rfl, ?_⟩) hHeld ?_ ?_
                   rotate_left
                   ·rintro w' ⟨s0, s1, s2, s3, s4, s5, s6, s7, s8, s9, s10, s11⟩
                    go_simp
                    with_reducible rfl
                   rotate_left
                   ·simp only [Act.put, List.setIfInBounds_toArray, List.set_cons_zero, List.set_cons_succ, i64_w, i32_w]
                    rfl
                   refine one_ (i := 13) (N := some 88) #[true, true, true, true, true, true, true, true, true, true, true, true, true, true, false, false] rfl rfl (one_of HT_.out (by kernel_rfl)) (by decide) (fun K hK => ?_)
                   refine goes_ Try.func17 (by kernel_rfl) rfl #[.agg #[.int .i64 t232, .int .i64 t233, .string t234], .agg #[.int .i64 ((rd_T32 l0 x12_2).f0), .int .i64 ((rd_T32 l0 x12_2).f1), .string ((rd_T32 l0 x12_2).f2)]] (by rfl) rfl rfl (by (try simp only [List.map_toArray, List.map_cons, List.map_nil]); first | done | rfl | (simp only [List.length_drop, List.length_take]; rfl)) ?_
                   with_reducible refine (quarryref01_Compare.calls kj33 t232 t233 t234 ((rd_T32 l0 x12_2).f0) ((rd_T32 l0 x12_2).f1) ((rd_T32 l0 x12_2).f2) t251 _ A46.out).mono ?_
                   rintro e w53 ⟨rfl, hb⟩
                   refine ⟨_, rfl, ?_⟩
                   have n0_ := Aside0.mk (blk_below (g := gb231) (o := .cells #[.int .i64 t227, .int .i64 t228, .string t229] 32 (0, 0)) (bk_ BK231) hb)
                   have n1_ := Aside0.mk (blk_below (g := gb236) (o := .cells #[.int .i64 t232, .int .i64 t233, .string t234] 32 (0, 0)) (bk_ BK236) hb)
                   have n2_ := Aside0.mk (blk_below (g := gb241) (o := .cells #[.int .i64 t237, .int .i64 t238, .string t239] 32 (0, 0)) (bk_ BK241) hb)
                   have n3_ := Aside0.mk (below_step (by repeat (first | (with_reducible first | exact HB.out | apply below_alloc | apply pw_below_drewN | apply below_drew1 | refine below_set ?_ GE231.out | refine below_set ?_ GE236.out | refine below_set ?_ GE241.out) | exact HB.out)) hb)
                   clear BK231
                   clear BK236
                   clear BK241
                   clear HB
                   have BK231 := n0_
                   have BK236 := n1_
                   have BK241 := n2_
                   have HB := n3_
                   clear n0_ n1_ n2_ n3_
                   (try clear hb)
                   (try clear hb2)
                   (try clear hk)
                   (try clear hi)
                   refine hK.out _ _ ⟨(blk_cell BK231.out 0).trans rfl, (blk_cell BK231.out 1).trans rfl, (blk_cell BK231.out 2).trans rfl, (blk_cell BK236.out 0).trans rfl, (blk_cell BK236.out 1).trans rfl, (blk_cell BK236.out 2).trans rfl, ((HB.out.cell (World.block_lt_of_cell? w _ hw248_0)).trans hw248_0), ((HB.out.cell (World.block_lt_of_cell? w _ hw248_1)).trans hw248_1), ((HB.out.cell (World.block_lt_of_cell? w _ hw248_2)).trans hw248_2), ((HB.out.cell (World.block_lt_of_cell? w _ hw250_0)).trans hw250_0), ((HB.out.cell (World.block_lt_of_cell? w _ hw250_1)).trans hw250_1), ((HB.out.cell (World.block_lt_of_cell? w _ hw250_2)).trans hw250_2)⟩ (fun hHeld => ?_)
                   clear hK K
                   refine norm_ (a' := ?_) ?_ ?_
                   rotate_left
                   ·show Act.put _ (some 88) _ = _
                    simp only [Act.put, List.setIfInBounds_toArray, List.set_cons_zero, List.set_cons_succ, i64_w, i32_w]
                    rfl
                   refine pure_ (i := 14) (N := some 89) (v := ?_) (a' := ?_) #[true, true, true, true, true, true, true, true, true, true, true, true, true, true, true, false] rfl rfl (any_of HT_.out (by kernel_rfl)) (fun _ _ _ h => h) (Or.inl ⟨by rfl, ?_⟩) ?_ ?_
                   rotate_left
                   ·intro w'
                    go_simp
                    with_reducible rfl
                   rotate_left
                   ·simp only [Act.put, List.setIfInBounds_toArray, List.set_cons_zero, List.set_cons_succ, i64_w, i32_w]
                    rfl
                   refine pure_ (i := 15) (N := some 90) (v := ?_) (a' := ?_) #[true, true, true, true, true, true, true, true, true, true, true, true, true, true, true, true] rfl rfl (any_of HT_.out (by kernel_rfl)) (fun _ _ _ h => h) (Or.inl ⟨by rfl, ?_⟩) ?_ ?_
                   rotate_left
                   ·intro w'
                    go_simp
                    with_reducible rfl
                   rotate_left
                   ·simp only [Act.put, List.setIfInBounds_toArray, List.set_cons_zero, List.set_cons_succ, i64_w, i32_w]
                    rfl
                   refine done_ (done_of HT_.out (by kernel_rfl)) ?_
                   try go_wp2
                   go_roundg kj33
                   case measure => have := HJ8.out; have := HK2.out; have := HJ29.out; have := HJ33.out; omega
                   case rel => exact ⟨((wrap64 (x9_2 + 1))), (x10_29), (x11_33), (wrap64 (x12_2 + 1)), (by first | rfl | (simp; done) | (simp [*]; done)), (by first | rfl | (simp; done) | (simp [*]; done)), (by first | rfl | (simp; done) | (simp [*]; done)), (by first | rfl | (simp; done) | (simp [*]; done)), H', ⟨by have := HJ8.out; have := HK2.out; have := HJ29.out; have := HJ33.out; omega⟩, ⟨by (with_reducible repeat (first | refine blk_drewN ?_ _ | refine blk_drew ?_ | refine blk_alloc ?_ _)); exact BK231.out⟩, ⟨by (with_reducible repeat (first | refine blk_drewN ?_ _ | refine blk_drew ?_ | refine blk_alloc ?_ _)); exact BK236.out⟩, ⟨by (with_reducible repeat (first | refine blk_drewN ?_ _ | refine blk_drew ?_ | refine blk_alloc ?_ _)); exact BK241.out⟩, ⟨by repeat (first | (with_reducible first | exact HB.out | apply below_alloc | apply pw_below_drewN | apply below_drew1 | refine below_set ?_ GE231.out | refine below_set ?_ GE236.out | refine below_set ?_ GE241.out) | exact HB.out)⟩⟩
                ·rw [if_neg c41] at H
                 exact absurd H (by simp)
               ·rw [if_neg c40] at H
                exact absurd H (by simp)
         ·rw [if_neg c28] at H
          exact absurd H (by simp)
        ·rw [if_neg c27] at H
         have c27b0 : decide (x12_2 < (l0.length : Int)) = false := decide_eq_false c27
         clear c27
         replace H := Option.bind_eq_some_iff.mp H
         obtain ⟨⟨t242, t243, t244⟩, A540, H⟩ := H
         replace H : (if (t237 == t242 && (t238 == t243 && (t239.toList == t244.toList))) = true then (if (x10_2 == (decide (x9_2 > 0))) = true then (if (x11_2 == (decide (x9_2 > 0))) = true then (if x9_2 > 0 then (some true) else (if (t227 == 0 && (t228 == 0 && (t229.toList == ([] : List UInt8)))) = true then (some (t232 == 0 && (t233 == 0 && (t234.toList == ([] : List UInt8))))) else (none))) else (none)) else (none)) else (none)) = some r := H
         have A54 := Aside0.mk A540
         clear A540
         by_cases c55 : (t237 == t242 && (t238 == t243 && (t239.toList == t244.toList))) = true
         ·rw [if_pos c55] at H
          have c55b0 : (t237 == t242 && (t238 == t243 && (t239.toList == t244.toList))) = true := c55
          (try (have c55b1 : decide (t237 = t242 && (t238 == t243 && (t239.toList == t244.toList))) = true := by simpa using c55))
          (try (have c55b2 : (t237 == t242 && (t238 == t243 && (t239.toList == t244.toList))) = true := by simpa using c55))
          clear c55
          by_cases c56 : (x10_2 == (decide (x9_2 > 0))) = true
          ·rw [if_pos c56] at H
           obtain rfl : x10_2 = decide (x9_2 > 0) := by simpa using c56
           clear c56
           by_cases c57 : (x11_2 == (decide (x9_2 > 0))) = true
           ·rw [if_pos c57] at H
            obtain rfl : x11_2 = decide (x9_2 > 0) := by simpa using c57
            clear c57
            by_cases c58 : x9_2 > 0
            ·rw [if_pos c58] at H
             have c58b0 : decide (0 < x9_2) = true := decide_eq_true c58
             clear c58
             obtain rfl := Option.some.inj H
             try go_wp2
             have n0_ := Aside0.mk (blk_drew BK231.out)
             have n1_ := Aside0.mk (blk_drew BK236.out)
             have n2_ := Aside0.mk (blk_drew BK241.out)
             have n3_ := Aside0.mk (below_drew1 HB.out)
             clear BK231
             clear BK236
             clear BK241
             clear HB
             have BK231 := n0_
             have BK236 := n1_
             have BK241 := n2_
             have HB := n3_
             clear n0_ n1_ n2_ n3_
             refine start_ (n := 31) (S := fun w' => w'.cell? ⟨gb241, 0, none⟩ = some (.int .i64 t237) ∧ w'.cell? ⟨gb241, 1, none⟩ = some (.int .i64 t238) ∧ w'.cell? ⟨gb241, 2, none⟩ = some (.string t239)) (ds := []) #[false, false, false, false, false, false, false, false, false, false, false, false, false, false, false, false, false, false, false, false, false, false, false, false, false, false, false, false, false, false, false] (by kernel_rfl) rfl rfl ⟨(blk_cell BK241.out 0).trans rfl, (blk_cell BK241.out 1).trans rfl, (blk_cell BK241.out 2).trans rfl⟩ (fun hHeld => ?_); refine with_tabW quarrylaw17_AggBounds.tab21 quarrylaw17_AggBounds.bits21 (fun HT_ HW_ => ?_)
             generalize wr.drew = w59 at BK231 BK236 BK241 HB hHeld ⊢
             refine pure_ (i := 1) (N := some 92) (v := ?_) (a' := ?_) #[false, true, false, false, false, false, false, false, false, false, false, false, false, false, false, false, false, false, false, false, false, false, false, false, false, false, false, false, false, false, false] rfl rfl (any_of HT_.out (by kernel_rfl)) (fun _ _ _ h => h) (Or.inl ⟨by rfl, ?_⟩) ?_ ?_
             rotate_left
             ·intro w'
              go_simp
              with_reducible rfl
             rotate_left
             ·simp only [Act.put, List.setIfInBounds_toArray, List.set_cons_zero, List.set_cons_succ, i64_w, i32_w]
              rfl
             refine take_ (i := 0) (N := some 91) (v := ?_) (a' := ?_) #[true, true, false, false, false, false, false, false, false, false, false, false, false, false, false, false, false, false, false, false, false, false, false, false, false, false, false, false, false, false, false] rfl rfl (take_ofW HT_.out HW_.out (by kernel_rfl)) (fun _ _ _ h => h) (Or.inl ⟨by rfl, ?_⟩) hHeld ?_ ?_
             rotate_left
             ·rintro w' ⟨s0, s1, s2⟩
              go_simp
              with_reducible rfl
             rotate_left
             ·simp only [Act.put, List.setIfInBounds_toArray, List.set_cons_zero, List.set_cons_succ, i64_w, i32_w]
              rfl
             refine one_ (i := 2) (N := some 93) #[true, true, true, false, false, false, false, false, false, false, false, false, false, false, false, false, false, false, false, false, false, false, false, false, false, false, false, false, false, false, false] rfl rfl (one_of HT_.out (by kernel_rfl)) (by decide) (fun K hK => ?_)
             refine goes_ Try.func18 (by kernel_rfl) rfl #[.int .i64 x9_2] (by rfl) rfl rfl (by (try simp only [List.map_toArray, List.map_cons, List.map_nil]); first | done | rfl | (simp only [List.length_drop, List.length_take]; rfl)) ?_
             with_reducible refine (quarrylaw17_number.calls x9_2 t242 t243 t244 _ A54.out).mono ?_
             rintro e w60 ⟨rfl, hb⟩
             refine ⟨_, rfl, ?_⟩
             have n0_ := Aside0.mk (blk_below (g := gb231) (o := .cells #[.int .i64 t227, .int .i64 t228, .string t229] 32 (0, 0)) (bk_ BK231) hb)
             have n1_ := Aside0.mk (blk_below (g := gb236) (o := .cells #[.int .i64 t232, .int .i64 t233, .string t234] 32 (0, 0)) (bk_ BK236) hb)
             have n2_ := Aside0.mk (blk_below (g := gb241) (o := .cells #[.int .i64 t237, .int .i64 t238, .string t239] 32 (0, 0)) (bk_ BK241) hb)
             have n3_ := Aside0.mk (below_step (by repeat (first | (with_reducible first | exact HB.out | apply below_alloc | apply pw_below_drewN | apply below_drew1 | refine below_set ?_ GE231.out | refine below_set ?_ GE236.out | refine below_set ?_ GE241.out) | exact HB.out)) hb)
             clear BK231
             clear BK236
             clear BK241
             clear HB
             have BK231 := n0_
             have BK236 := n1_
             have BK241 := n2_
             have HB := n3_
             clear n0_ n1_ n2_ n3_
             (try clear hb)
             (try clear hb2)
             (try clear hk)
             (try clear hi)
             refine hK.out _ _ ⟨(blk_cell BK241.out 0).trans rfl, (blk_cell BK241.out 1).trans rfl, (blk_cell BK241.out 2).trans rfl⟩ (fun hHeld => ?_)
             clear hK K
             refine norm_ (a' := ?_) ?_ ?_
             rotate_left
             ·show Act.put _ (some 93) _ = _
              simp only [Act.put, List.setIfInBounds_toArray, List.set_cons_zero, List.set_cons_succ, i64_w, i32_w]
              rfl
             refine pure_ (i := 3) (N := some 94) (v := ?_) (a' := ?_) #[true, true, true, true, false, false, false, false, false, false, false, false, false, false, false, false, false, false, false, false, false, false, false, false, false, false, false, false, false, false, false] rfl rfl (any_of HT_.out (by kernel_rfl)) (fun _ _ _ h => h) (Or.inl ⟨by rfl, ?_⟩) ?_ ?_
             rotate_left
             ·intro w'
              go_simp
              with_reducible rfl
             rotate_left
             ·simp only [Act.put, List.setIfInBounds_toArray, List.set_cons_zero, List.set_cons_succ, i64_w, i32_w]
              rfl
             refine pure_ (i := 4) (N := some 95) (v := ?_) (a' := ?_) #[true, true, true, true, true, false, false, false, false, false, false, false, false, false, false, false, false, false, false, false, false, false, false, false, false, false, false, false, false, false, false] rfl rfl (any_of HT_.out (by kernel_rfl)) (fun _ _ _ h => h) (Or.inl ⟨by rfl, ?_⟩) ?_ ?_
             rotate_left
             ·intro w'
              go_simp
              with_reducible rfl
             rotate_left
             ·simp only [Act.put, List.setIfInBounds_toArray, List.set_cons_zero, List.set_cons_succ, i64_w, i32_w]
              rfl
             refine pure_ (i := 5) (N := some 96) (v := ?_) (a' := ?_) #[true, true, true, true, true, true, false, false, false, false, false, false, false, false, false, false, false, false, false, false, false, false, false, false, false, false, false, false, false, false, false] rfl rfl (any_of HT_.out (by kernel_rfl)) (fun _ _ _ h => h) (Or.inl ⟨by rfl, ?_⟩) ?_ ?_
             rotate_left
             ·intro w'
              go_simp
              with_reducible rfl
             rotate_left
             ·simp only [Act.put, List.setIfInBounds_toArray, List.set_cons_zero, List.set_cons_succ, i64_w, i32_w]
              rfl
             refine pure_ (i := 6) (N := some 97) (v := ?_) (a' := ?_) #[true, true, true, true, true, true, true, false, false, false, false, false, false, false, false, false, false, false, false, false, false, false, false, false, false, false, false, false, false, false, false] rfl rfl (any_of HT_.out (by kernel_rfl)) (fun _ _ _ h => h) (Or.inl ⟨by rfl, ?_⟩) ?_ ?_
             rotate_left
             ·intro w'
              go_simp
              with_reducible rfl
             rotate_left
             ·simp only [Act.put, List.setIfInBounds_toArray, List.set_cons_zero, List.set_cons_succ, i64_w, i32_w]
              rfl
             refine pure_ (i := 7) (N := some 98) (v := ?_) (a' := ?_) #[true, true, true, true, true, true, true, true, false, false, false, false, false, false, false, false, false, false, false, false, false, false, false, false, false, false, false, false, false, false, false] rfl rfl (any_of HT_.out (by kernel_rfl)) (fun _ _ _ h => h) (Or.inl ⟨by rfl, ?_⟩) ?_ ?_
             rotate_left
             ·intro w'
              go_simp
              with_reducible rfl
             rotate_left
             ·simp only [Act.put, List.setIfInBounds_toArray, List.set_cons_zero, List.set_cons_succ, i64_w, i32_w]
              rfl
             refine pure_ (i := 8) (N := some 99) (v := ?_) (a' := ?_) #[true, true, true, true, true, true, true, true, true, false, false, false, false, false, false, false, false, false, false, false, false, false, false, false, false, false, false, false, false, false, false] rfl rfl (any_of HT_.out (by kernel_rfl)) (fun _ _ _ h => h) (Or.inl ⟨by rfl, ?_⟩) ?_ ?_
             rotate_left
             ·intro w'
              go_simp
              with_reducible rfl
             rotate_left
             ·simp only [Act.put, List.setIfInBounds_toArray, List.set_cons_zero, List.set_cons_succ, i64_w, i32_w]
              rfl
             refine pure_ (i := 9) (N := some 100) (v := ?_) (a' := ?_) #[true, true, true, true, true, true, true, true, true, true, false, false, false, false, false, false, false, false, false, false, false, false, false, false, false, false, false, false, false, false, false] rfl rfl (any_of HT_.out (by kernel_rfl)) (fun _ _ _ h => h) (Or.inl ⟨by rfl, ?_⟩) ?_ ?_
             rotate_left
             ·intro w'
              go_simp
              with_reducible rfl
             rotate_left
             ·simp only [Act.put, List.setIfInBounds_toArray, List.set_cons_zero, List.set_cons_succ, i64_w, i32_w]
              rfl
             refine pure_ (i := 10) (N := some 101) (v := ?_) (a' := ?_) #[true, true, true, true, true, true, true, true, true, true, true, false, false, false, false, false, false, false, false, false, false, false, false, false, false, false, false, false, false, false, false] rfl rfl (any_of HT_.out (by kernel_rfl)) (fun _ _ _ h => h) (Or.inl ⟨by rfl, ?_⟩) ?_ ?_
             rotate_left
             ·intro w'
              go_simp
              with_reducible rfl
             rotate_left
             ·simp only [Act.put, List.setIfInBounds_toArray, List.set_cons_zero, List.set_cons_succ, i64_w, i32_w]
              rfl
             refine pure_ (i := 11) (N := some 102) (v := ?_) (a' := ?_) #[true, true, true, true, true, true, true, true, true, true, true, true, false, false, false, false, false, false, false, false, false, false, false, false, false, false, false, false, false, false, false] rfl rfl (any_of HT_.out (by kernel_rfl)) (fun _ _ _ h => h) (Or.inl ⟨by rfl, ?_⟩) ?_ ?_
             rotate_left
             ·intro w'
              go_simp
              with_reducible rfl
             rotate_left
             ·simp only [Act.put, List.setIfInBounds_toArray, List.set_cons_zero, List.set_cons_succ, i64_w, i32_w]
              rfl
             refine pure_ (i := 12) (N := some 103) (v := ?_) (a' := ?_) #[true, true, true, true, true, true, true, true, true, true, true, true, true, false, false, false, false, false, false, false, false, false, false, false, false, false, false, false, false, false, false] rfl rfl (any_of HT_.out (by kernel_rfl)) (fun _ _ _ h => h) (Or.inl ⟨by rfl, ?_⟩) ?_ ?_
             rotate_left
             ·intro w'
              go_simp
              with_reducible rfl
             rotate_left
             ·simp only [Act.put, List.setIfInBounds_toArray, List.set_cons_zero, List.set_cons_succ, i64_w, i32_w]
              rfl
             refine pure_ (i := 13) (N := some 104) (v := ?_) (a' := ?_) #[true, true, true, true, true, true, true, true, true, true, true, true, true, true, false, false, false, false, false, false, false, false, false, false, false, false, false, false, false, false, false] rfl rfl (any_of HT_.out (by kernel_rfl)) (fun _ _ _ h => h) (Or.inl ⟨by rfl, ?_⟩) ?_ ?_
             rotate_left
             ·intro w'
              go_simp
              with_reducible rfl
             rotate_left
             ·simp only [Act.put, List.setIfInBounds_toArray, List.set_cons_zero, List.set_cons_succ, i64_w, i32_w]
              rfl
             refine pure_ (i := 14) (N := some 105) (v := ?_) (a' := ?_) #[true, true, true, true, true, true, true, true, true, true, true, true, true, true, true, false, false, false, false, false, false, false, false, false, false, false, false, false, false, false, false] rfl rfl (any_of HT_.out (by kernel_rfl)) (fun _ _ _ h => h) (Or.inl ⟨by rfl, ?_⟩) ?_ ?_
             rotate_left
             ·intro w'
              go_simp
              with_reducible rfl
             rotate_left
             ·simp only [Act.put, List.setIfInBounds_toArray, List.set_cons_zero, List.set_cons_succ, i64_w, i32_w]
              rfl
             refine pure_ (i := 15) (N := some 106) (v := ?_) (a' := ?_) #[true, true, true, true, true, true, true, true, true, true, true, true, true, true, true, true, false, false, false, false, false, false, false, false, false, false, false, false, false, false, false] rfl rfl (any_of HT_.out (by kernel_rfl)) (fun _ _ _ h => h) (Or.inl ⟨by rfl, ?_⟩) ?_ ?_
             rotate_left
             ·intro w'
              go_simp
              with_reducible rfl
             rotate_left
             ·simp only [Act.put, List.setIfInBounds_toArray, List.set_cons_zero, List.set_cons_succ, i64_w, i32_w]
              rfl
             refine pure_ (i := 16) (N := some 107) (v := ?_) (a' := ?_) #[true, true, true, true, true, true, true, true, true, true, true, true, true, true, true, true, true, false, false, false, false, false, false, false, false, false, false, false, false, false, false] rfl rfl (any_of HT_.out (by kernel_rfl)) (fun _ _ _ h => h) (Or.inl ⟨by rfl, ?_⟩) ?_ ?_
             rotate_left
             ·intro w'
              go_simp
              with_reducible rfl
             rotate_left
             ·simp only [Act.put, List.setIfInBounds_toArray, List.set_cons_zero, List.set_cons_succ, i64_w, i32_w]
              rfl
             refine pure_ (i := 17) (N := some 108) (v := ?_) (a' := ?_) #[true, true, true, true, true, true, true, true, true, true, true, true, true, true, true, true, true, true, false, false, false, false, false, false, false, false, false, false, false, false, false] rfl rfl (any_of HT_.out (by kernel_rfl)) (fun _ _ _ h => h) (Or.inl ⟨by rfl, ?_⟩) ?_ ?_
             rotate_left
             ·intro w'
              go_simp
              with_reducible rfl
             rotate_left
             ·simp only [Act.put, List.setIfInBounds_toArray, List.set_cons_zero, List.set_cons_succ, i64_w, i32_w]
              rfl
             refine pure_ (i := 18) (N := some 109) (v := ?_) (a' := ?_) #[true, true, true, true, true, true, true, true, true, true, true, true, true, true, true, true, true, true, true, false, false, false, false, false, false, false, false, false, false, false, false] rfl rfl (any_of HT_.out (by kernel_rfl)) (fun _ _ _ h => h) (Or.inl ⟨by rfl, ?_⟩) ?_ ?_
             rotate_left
             ·intro w'
              go_simp
              with_reducible rfl
             rotate_left
             ·simp only [Act.put, List.setIfInBounds_toArray, List.set_cons_zero, List.set_cons_succ, i64_w, i32_w]
              rfl
             refine pure_ (i := 19) (N := some 110) (v := ?_) (a' := ?_) #[true, true, true, true, true, true, true, true, true, true, true, true, true, true, true, true, true, true, true, true, false, false, false, false, false, false, false, false, false, false, false] rfl rfl (any_of HT_.out (by kernel_rfl)) (fun _ _ _ h => h) (Or.inl ⟨by rfl, ?_⟩) ?_ ?_
             rotate_left
             ·intro w'
              go_simp
              with_reducible rfl
             rotate_left
             ·simp only [Act.put, List.setIfInBounds_toArray, List.set_cons_zero, List.set_cons_succ, i64_w, i32_w]
              rfl
             refine pure_ (i := 20) (N := some 111) (v := undef) (a' := ?_) #[true, true, true, true, true, true, true, true, true, true, true, true, true, true, true, true, true, true, true, true, true, false, false, false, false, false, false, false, false, false, false] rfl rfl (any_of HT_.out (by kernel_rfl)) (fun _ _ _ h => h) (Or.inr ⟨by rfl, rfl⟩) ?_ ?_
             rotate_left
             ·simp only [Act.put, List.setIfInBounds_toArray, List.set_cons_zero, List.set_cons_succ, i64_w, i32_w]
              rfl
             refine pure_ (i := 21) (N := some 112) (v := undef) (a' := ?_) #[true, true, true, true, true, true, true, true, true, true, true, true, true, true, true, true, true, true, true, true, true, true, false, false, false, false, false, false, false, false, false] rfl rfl (any_of HT_.out (by kernel_rfl)) (fun _ _ _ h => h) (Or.inr ⟨by rfl, rfl⟩) ?_ ?_
             rotate_left
             ·simp only [Act.put, List.setIfInBounds_toArray, List.set_cons_zero, List.set_cons_succ, i64_w, i32_w]
              rfl
             refine pure_ (i := 22) (N := some 113) (v := undef) (a' := ?_) #[true, true, true, true, true, true, true, true, true, true, true, true, true, true, true, true, true, true, true, true, true, true, true, false, false, false, false, false, false, false, false] rfl rfl (any_of HT_.out (by kernel_rfl)) (fun _ _ _ h => h) (Or.inr ⟨by rfl, rfl⟩) ?_ ?_
             rotate_left
             ·simp only [Act.put, List.setIfInBounds_toArray, List.set_cons_zero, List.set_cons_succ, i64_w, i32_w]
              rfl
             refine pure_ (i := 23) (N := some 114) (v := undef) (a' := ?_) #[true, true, true, true, true, true, true, true, true, true, true, true, true, true, true, true, true, true, true, true, true, true, true, true, false, false, false, false, false, false, false] rfl rfl (any_of HT_.out (by kernel_rfl)) (fun _ _ _ h => h) (Or.inr ⟨by rfl, rfl⟩) ?_ ?_
             rotate_left
             ·simp only [Act.put, List.setIfInBounds_toArray, List.set_cons_zero, List.set_cons_succ, i64_w, i32_w]
              rfl
             refine pure_ (i := 24) (N := some 115) (v := undef) (a' := ?_) #[true, true, true, true, true, true, true, true, true, true, true, true, true, true, true, true, true, true, true, true, true, true, true, true, true, false, false, false, false, false, false] rfl rfl (any_of HT_.out (by kernel_rfl)) (fun _ _ _ h => h) (Or.inr ⟨by rfl, rfl⟩) ?_ ?_
             rotate_left
             ·simp only [Act.put, List.setIfInBounds_toArray, List.set_cons_zero, List.set_cons_succ, i64_w, i32_w]
              rfl
             refine pure_ (i := 25) (N := some 116) (v := undef) (a' := ?_) #[true, true, true, true, true, true, true, true, true, true, true, true, true, true, true, true, true, true, true, true, true, true, true, true, true, true, false, false, false, false, false] rfl rfl (any_of HT_.out (by kernel_rfl)) (fun _ _ _ h => h) (Or.inr ⟨by rfl, rfl⟩) ?_ ?_
             rotate_left
             ·simp only [Act.put, List.setIfInBounds_toArray, List.set_cons_zero, List.set_cons_succ, i64_w, i32_w]
              rfl
             refine pure_ (i := 26) (N := some 117) (v := undef) (a' := ?_) #[true, true, true, true, true, true, true, true, true, true, true, true, true, true, true, true, true, true, true, true, true, true, true, true, true, true, true, false, false, false, false] rfl rfl (any_of HT_.out (by kernel_rfl)) (fun _ _ _ h => h) (Or.inr ⟨by rfl, rfl⟩) ?_ ?_
             rotate_left
             ·simp only [Act.put, List.setIfInBounds_toArray, List.set_cons_zero, List.set_cons_succ, i64_w, i32_w]
              rfl
             refine pure_ (i := 27) (N := some 118) (v := undef) (a' := ?_) #[true, true, true, true, true, true, true, true, true, true, true, true, true, true, true, true, true, true, true, true, true, true, true, true, true, true, true, true, false, false, false] rfl rfl (any_of HT_.out (by kernel_rfl)) (fun _ _ _ h => h) (Or.inr ⟨by rfl, rfl⟩) ?_ ?_
             rotate_left
             ·simp only [Act.put, List.setIfInBounds_toArray, List.set_cons_zero, List.set_cons_succ, i64_w, i32_w]
              rfl
             refine pure_ (i := 28) (N := some 119) (v := ?_) (a' := ?_) #[true, true, true, true, true, true, true, true, true, true, true, true, true, true, true, true, true, true, true, true, true, true, true, true, true, true, true, true, true, false, false] rfl rfl (any_of HT_.out (by kernel_rfl)) (fun _ _ _ h => h) (Or.inl ⟨by rfl, ?_⟩) ?_ ?_
             rotate_left
             ·intro w'
              go_simp
              with_reducible rfl
             rotate_left
             ·simp only [Act.put, List.setIfInBounds_toArray, List.set_cons_zero, List.set_cons_succ, i64_w, i32_w]
              rfl
             refine pure_ (i := 29) (N := some 120) (v := ?_) (a' := ?_) #[true, true, true, true, true, true, true, true, true, true, true, true, true, true, true, true, true, true, true, true, true, true, true, true, true, true, true, true, true, true, false] rfl rfl (any_of HT_.out (by kernel_rfl)) (fun _ _ _ h => h) (Or.inl ⟨by rfl, ?_⟩) ?_ ?_
             rotate_left
             ·intro w'
              go_simp
              with_reducible rfl
             rotate_left
             ·simp only [Act.put, List.setIfInBounds_toArray, List.set_cons_zero, List.set_cons_succ, i64_w, i32_w]
              rfl
             refine pure_ (i := 30) (N := some 2) (v := ?_) (a' := ?_) #[true, true, true, true, true, true, true, true, true, true, true, true, true, true, true, true, true, true, true, true, true, true, true, true, true, true, true, true, true, true, true] rfl rfl (any_of HT_.out (by kernel_rfl)) (fun _ _ _ h => h) (Or.inl ⟨by rfl, ?_⟩) ?_ ?_
             rotate_left
             ·intro w'
              go_simp
              with_reducible rfl
             rotate_left
             ·simp only [Act.put, List.setIfInBounds_toArray, List.set_cons_zero, List.set_cons_succ, i64_w, i32_w]
              rfl
             refine done_ (done_of HT_.out (by kernel_rfl)) ?_
             try go_wp2
             go_ret
             exact ⟨by first | rfl | (simp [errW_none, errW_some] <;> rfl) | (simp [*, errW_none, errW_some] <;> rfl), by repeat (first | (with_reducible first | exact HB.out | apply below_alloc | apply pw_below_drewN | apply below_drew1 | refine below_set ?_ GE231.out | refine below_set ?_ GE236.out | refine below_set ?_ GE241.out) | exact HB.out)⟩
            ·rw [if_neg c58] at H
             have c58b0 : decide (0 < x9_2) = false := decide_eq_false c58
             clear c58
             by_cases c61 : (t227 == 0 && (t228 == 0 && (t229.toList == ([] : List UInt8)))) = true
             ·rw [if_pos c61] at H
              have c61b0 : (t227 == 0 && (t228 == 0 && (t229.toList == ([] : List UInt8)))) = true := c61
              (try (have c61b9 : (t227 == 0 && (t228 == 0 && t229.toList.isEmpty)) = true := by simpa using c61))
              (try (have c61b1 : decide (t227 = 0 && (t228 == 0 && (t229.toList == ([] : List UInt8)))) = true := by simpa using c61))
              (try (have c61b2 : (t227 == 0 && (t228 == 0 && (t229.toList == ([] : List UInt8)))) = true := by simpa using c61))
              clear c61
              obtain rfl := Option.some.inj H
              try go_wp2
              have n0_ := Aside0.mk (blk_drew BK231.out)
              have n1_ := Aside0.mk (blk_drew BK236.out)
              have n2_ := Aside0.mk (blk_drew BK241.out)
              have n3_ := Aside0.mk (below_drew1 HB.out)
              clear BK231
              clear BK236
              clear BK241
              clear HB
              have BK231 := n0_
              have BK236 := n1_
              have BK241 := n2_
              have HB := n3_
              clear n0_ n1_ n2_ n3_
              refine start_ (n := 31) (S := fun w' => w'.cell? ⟨gb241, 0, none⟩ = some (.int .i64 t237) ∧ w'.cell? ⟨gb241, 1, none⟩ = some (.int .i64 t238) ∧ w'.cell? ⟨gb241, 2, none⟩ = some (.string t239) ∧ w'.cell? ⟨gb231, 0, none⟩ = some (.int .i64 t227) ∧ w'.cell? ⟨gb231, 1, none⟩ = some (.int .i64 t228) ∧ w'.cell? ⟨gb231, 2, none⟩ = some (.string t229) ∧ w'.cell? ⟨gb236, 0, none⟩ = some (.int .i64 t232) ∧ w'.cell? ⟨gb236, 1, none⟩ = some (.int .i64 t233) ∧ w'.cell? ⟨gb236, 2, none⟩ = some (.string t234)) (ds := []) #[false, false, false, false, false, false, false, false, false, false, false, false, false, false, false, false, false, false, false, false, false, false, false, false, false, false, false, false, false, false, false] (by kernel_rfl) rfl rfl ⟨(blk_cell BK241.out 0).trans rfl, (blk_cell BK241.out 1).trans rfl, (blk_cell BK241.out 2).trans rfl, (blk_cell BK231.out 0).trans rfl, (blk_cell BK231.out 1).trans rfl, (blk_cell BK231.out 2).trans rfl, (blk_cell BK236.out 0).trans rfl, (blk_cell BK236.out 1).trans rfl, (blk_cell BK236.out 2).trans rfl⟩ (fun hHeld => ?_); refine with_tabW quarrylaw17_AggBounds.tab21 quarrylaw17_AggBounds.bits21 (fun HT_ HW_ => ?_)
              generalize wr.drew = w62 at BK231 BK236 BK241 HB hHeld ⊢
              refine pure_ (i := 1) (N := some 92) (v := ?_) (a' := ?_) #[false, true, false, false, false, false, false, false, false, false, false, false, false, false, false, false, false, false, false, false, false, false, false, false, false, false, false, false, false, false, false] rfl rfl (any_of HT_.out (by kernel_rfl)) (fun _ _ _ h => h) (Or.inl ⟨by rfl, ?_⟩) ?_ ?_
              rotate_left
              ·intro w'
               go_simp
               with_reducible rfl
              rotate_left
              ·simp only [Act.put, List.setIfInBounds_toArray, List.set_cons_zero, List.set_cons_succ, i64_w, i32_w]
               rfl
              refine take_ (i := 0) (N := some 91) (v := ?_) (a' := ?_) #[true, true, false, false, false, false, false, false, false, false, false, false, false, false, false, false, false, false, false, false, false, false, false, false, false, false, false, false, false, false, false] rfl rfl (take_ofW HT_.out HW_.out (by kernel_rfl)) (fun _ _ _ h => h) (Or.inl ⟨by rfl, ?_⟩) hHeld ?_ ?_
              rotate_left
              ·rintro w' ⟨s0, s1, s2, s3, s4, s5, s6, s7, s8⟩
               go_simp
               with_reducible rfl
              rotate_left
              ·simp only [Act.put, List.setIfInBounds_toArray, List.set_cons_zero, List.set_cons_succ, i64_w, i32_w]
               rfl
              refine one_ (i := 2) (N := some 93) #[true, true, true, false, false, false, false, false, false, false, false, false, false, false, false, false, false, false, false, false, false, false, false, false, false, false, false, false, false, false, false] rfl rfl (one_of HT_.out (by kernel_rfl)) (by decide) (fun K hK => ?_)
              refine goes_ Try.func18 (by kernel_rfl) rfl #[.int .i64 x9_2] (by rfl) rfl rfl (by (try simp only [List.map_toArray, List.map_cons, List.map_nil]); first | done | rfl | (simp only [List.length_drop, List.length_take]; rfl)) ?_
              with_reducible refine (quarrylaw17_number.calls x9_2 t242 t243 t244 _ A54.out).mono ?_
              rintro e w63 ⟨rfl, hb⟩
              refine ⟨_, rfl, ?_⟩
              have n0_ := Aside0.mk (blk_below (g := gb231) (o := .cells #[.int .i64 t227, .int .i64 t228, .string t229] 32 (0, 0)) (bk_ BK231) hb)
              have n1_ := Aside0.mk (blk_below (g := gb236) (o := .cells #[.int .i64 t232, .int .i64 t233, .string t234] 32 (0, 0)) (bk_ BK236) hb)
              have n2_ := Aside0.mk (blk_below (g := gb241) (o := .cells #[.int .i64 t237, .int .i64 t238, .string t239] 32 (0, 0)) (bk_ BK241) hb)
              have n3_ := Aside0.mk (below_step (by repeat (first | (with_reducible first | exact HB.out | apply below_alloc | apply pw_below_drewN | apply below_drew1 | refine below_set ?_ GE231.out | refine below_set ?_ GE236.out | refine below_set ?_ GE241.out) | exact HB.out)) hb)
              clear BK231
              clear BK236
              clear BK241
              clear HB
              have BK231 := n0_
              have BK236 := n1_
              have BK241 := n2_
              have HB := n3_
              clear n0_ n1_ n2_ n3_
              (try clear hb)
              (try clear hb2)
              (try clear hk)
              (try clear hi)
              refine hK.out _ _ ⟨(blk_cell BK241.out 0).trans rfl, (blk_cell BK241.out 1).trans rfl, (blk_cell BK241.out 2).trans rfl, (blk_cell BK231.out 0).trans rfl, (blk_cell BK231.out 1).trans rfl, (blk_cell BK231.out 2).trans rfl, (blk_cell BK236.out 0).trans rfl, (blk_cell BK236.out 1).trans rfl, (blk_cell BK236.out 2).trans rfl⟩ (fun hHeld => ?_)
              clear hK K
              refine norm_ (a' := ?_) ?_ ?_
              rotate_left
              ·show Act.put _ (some 93) _ = _
               simp only [Act.put, List.setIfInBounds_toArray, List.set_cons_zero, List.set_cons_succ, i64_w, i32_w]
               rfl
              refine pure_ (i := 3) (N := some 94) (v := ?_) (a' := ?_) #[true, true, true, true, false, false, false, false, false, false, false, false, false, false, false, false, false, false, false, false, false, false, false, false, false, false, false, false, false, false, false] rfl rfl (any_of HT_.out (by kernel_rfl)) (fun _ _ _ h => h) (Or.inl ⟨by rfl, ?_⟩) ?_ ?_
              rotate_left
              ·intro w'
               go_simp
               with_reducible rfl
              rotate_left
              ·simp only [Act.put, List.setIfInBounds_toArray, List.set_cons_zero, List.set_cons_succ, i64_w, i32_w]
               rfl
              refine pure_ (i := 4) (N := some 95) (v := ?_) (a' := ?_) #[true, true, true, true, true, false, false, false, false, false, false, false, false, false, false, false, false, false, false, false, false, false, false, false, false, false, false, false, false, false, false] rfl rfl (any_of HT_.out (by kernel_rfl)) (fun _ _ _ h => h) (Or.inl ⟨by rfl, ?_⟩) ?_ ?_
              rotate_left
              ·intro w'
               go_simp
               with_reducible rfl
              rotate_left
              ·simp only [Act.put, List.setIfInBounds_toArray, List.set_cons_zero, List.set_cons_succ, i64_w, i32_w]
               rfl
              refine pure_ (i := 5) (N := some 96) (v := ?_) (a' := ?_) #[true, true, true, true, true, true, false, false, false, false, false, false, false, false, false, false, false, false, false, false, false, false, false, false, false, false, false, false, false, false, false] rfl rfl (any_of HT_.out (by kernel_rfl)) (fun _ _ _ h => h) (Or.inl ⟨by rfl, ?_⟩) ?_ ?_
              rotate_left
              ·intro w'
               go_simp
               with_reducible rfl
              rotate_left
              ·simp only [Act.put, List.setIfInBounds_toArray, List.set_cons_zero, List.set_cons_succ, i64_w, i32_w]
               rfl
              refine pure_ (i := 6) (N := some 97) (v := ?_) (a' := ?_) #[true, true, true, true, true, true, true, false, false, false, false, false, false, false, false, false, false, false, false, false, false, false, false, false, false, false, false, false, false, false, false] rfl rfl (any_of HT_.out (by kernel_rfl)) (fun _ _ _ h => h) (Or.inl ⟨by rfl, ?_⟩) ?_ ?_
              rotate_left
              ·intro w'
               go_simp
               with_reducible rfl
              rotate_left
              ·simp only [Act.put, List.setIfInBounds_toArray, List.set_cons_zero, List.set_cons_succ, i64_w, i32_w]
               rfl
              refine pure_ (i := 7) (N := some 98) (v := ?_) (a' := ?_) #[true, true, true, true, true, true, true, true, false, false, false, false, false, false, false, false, false, false, false, false, false, false, false, false, false, false, false, false, false, false, false] rfl rfl (any_of HT_.out (by kernel_rfl)) (fun _ _ _ h => h) (Or.inl ⟨by rfl, ?_⟩) ?_ ?_
              rotate_left
              ·intro w'
               go_simp
               with_reducible rfl
              rotate_left
              ·simp only [Act.put, List.setIfInBounds_toArray, List.set_cons_zero, List.set_cons_succ, i64_w, i32_w]
               rfl
              refine pure_ (i := 8) (N := some 99) (v := ?_) (a' := ?_) #[true, true, true, true, true, true, true, true, true, false, false, false, false, false, false, false, false, false, false, false, false, false, false, false, false, false, false, false, false, false, false] rfl rfl (any_of HT_.out (by kernel_rfl)) (fun _ _ _ h => h) (Or.inl ⟨by rfl, ?_⟩) ?_ ?_
              rotate_left
              ·intro w'
               go_simp
               with_reducible rfl
              rotate_left
              ·simp only [Act.put, List.setIfInBounds_toArray, List.set_cons_zero, List.set_cons_succ, i64_w, i32_w]
               rfl
              refine pure_ (i := 9) (N := some 100) (v := ?_) (a' := ?_) #[true, true, true, true, true, true, true, true, true, true, false, false, false, false, false, false, false, false, false, false, false, false, false, false, false, false, false, false, false, false, false] rfl rfl (any_of HT_.out (by kernel_rfl)) (fun _ _ _ h => h) (Or.inl ⟨by rfl, ?_⟩) ?_ ?_
              rotate_left
              ·intro w'
               go_simp
               with_reducible rfl
              rotate_left
              ·simp only [Act.put, List.setIfInBounds_toArray, List.set_cons_zero, List.set_cons_succ, i64_w, i32_w]
               rfl
              refine pure_ (i := 10) (N := some 101) (v := ?_) (a' := ?_) #[true, true, true, true, true, true, true, true, true, true, true, false, false, false, false, false, false, false, false, false, false, false, false, false, false, false, false, false, false, false, false] rfl rfl (any_of HT_.out (by kernel_rfl)) (fun _ _ _ h => h) (Or.inl ⟨by rfl, ?_⟩) ?_ ?_
              rotate_left
              ·intro w'
               go_simp
               with_reducible rfl
              rotate_left
              ·simp only [Act.put, List.setIfInBounds_toArray, List.set_cons_zero, List.set_cons_succ, i64_w, i32_w]
               rfl
              refine pure_ (i := 11) (N := some 102) (v := ?_) (a' := ?_) #[true, true, true, true, true, true, true, true, true, true, true, true, false, false, false, false, false, false, false, false, false, false, false, false, false, false, false, false, false, false, false] rfl rfl (any_of HT_.out (by kernel_rfl)) (fun _ _ _ h => h) (Or.inl ⟨by rfl, ?_⟩) ?_ ?_
              rotate_left
              ·intro w'
               go_simp
               with_reducible rfl
              rotate_left
              ·simp only [Act.put, List.setIfInBounds_toArray, List.set_cons_zero, List.set_cons_succ, i64_w, i32_w]
               rfl
              refine pure_ (i := 12) (N := some 103) (v := ?_) (a' := ?_) #[true, true, true, true, true, true, true, true, true, true, true, true, true, false, false, false, false, false, false, false, false, false, false, false, false, false, false, false, false, false, false] rfl rfl (any_of HT_.out (by kernel_rfl)) (fun _ _ _ h => h) (Or.inl ⟨by rfl, ?_⟩) ?_ ?_
              rotate_left
              ·intro w'
               go_simp
               with_reducible rfl
              rotate_left
              ·simp only [Act.put, List.setIfInBounds_toArray, List.set_cons_zero, List.set_cons_succ, i64_w, i32_w]
               rfl
              refine pure_ (i := 13) (N := some 104) (v := ?_) (a' := ?_) #[true, true, true, true, true, true, true, true, true, true, true, true, true, true, false, false, false, false, false, false, false, false, false, false, false, false, false, false, false, false, false] rfl rfl (any_of HT_.out (by kernel_rfl)) (fun _ _ _ h => h) (Or.inl ⟨by rfl, ?_⟩) ?_ ?_
              rotate_left
              ·intro w'
               go_simp
               with_reducible rfl
              rotate_left
              ·simp only [Act.put, List.setIfInBounds_toArray, List.set_cons_zero, List.set_cons_succ, i64_w, i32_w]
               rfl
              refine pure_ (i := 14) (N := some 105) (v := ?_) (a' := ?_) #[true, true, true, true, true, true, true, true, true, true, true, true, true, true, true, false, false, false, false, false, false, false, false, false, false, false, false, false, false, false, false] rfl rfl (any_of HT_.out (by kernel_rfl)) (fun _ _ _ h => h) (Or.inl ⟨by rfl, ?_⟩) ?_ ?_
              rotate_left
              ·intro w'
               go_simp
               with_reducible rfl
              rotate_left
              ·simp only [Act.put, List.setIfInBounds_toArray, List.set_cons_zero, List.set_cons_succ, i64_w, i32_w]
               rfl
              refine pure_ (i := 15) (N := some 106) (v := ?_) (a' := ?_) #[true, true, true, true, true, true, true, true, true, true, true, true, true, true, true, true, false, false, false, false, false, false, false, false, false, false, false, false, false, false, false] rfl rfl (any_of HT_.out (by kernel_rfl)) (fun _ _ _ h => h) (Or.inl ⟨by rfl, ?_⟩) ?_ ?_
              rotate_left
              ·intro w'
               go_simp
               with_reducible rfl
              rotate_left
              ·simp only [Act.put, List.setIfInBounds_toArray, List.set_cons_zero, List.set_cons_succ, i64_w, i32_w]
               rfl
              refine pure_ (i := 16) (N := some 107) (v := ?_) (a' := ?_) #[true, true, true, true, true, true, true, true, true, true, true, true, true, true, true, true, true, false, false, false, false, false, false, false, false, false, false, false, false, false, false] rfl rfl (any_of HT_.out (by kernel_rfl)) (fun _ _ _ h => h) (Or.inl ⟨by rfl, ?_⟩) ?_ ?_
              rotate_left
              ·intro w'
               go_simp
               with_reducible rfl
              rotate_left
              ·simp only [Act.put, List.setIfInBounds_toArray, List.set_cons_zero, List.set_cons_succ, i64_w, i32_w]
               rfl
              refine pure_ (i := 17) (N := some 108) (v := ?_) (a' := ?_) #[true, true, true, true, true, true, true, true, true, true, true, true, true, true, true, true, true, true, false, false, false, false, false, false, false, false, false, false, false, false, false] rfl rfl (any_of HT_.out (by kernel_rfl)) (fun _ _ _ h => h) (Or.inl ⟨by rfl, ?_⟩) ?_ ?_
              rotate_left
              ·intro w'
               go_simp
               with_reducible rfl
              rotate_left
              ·simp only [Act.put, List.setIfInBounds_toArray, List.set_cons_zero, List.set_cons_succ, i64_w, i32_w]
               rfl
              refine pure_ (i := 18) (N := some 109) (v := ?_) (a' := ?_) #[true, true, true, true, true, true, true, true, true, true, true, true, true, true, true, true, true, true, true, false, false, false, false, false, false, false, false, false, false, false, false] rfl rfl (any_of HT_.out (by kernel_rfl)) (fun _ _ _ h => h) (Or.inl ⟨by rfl, ?_⟩) ?_ ?_
              rotate_left
              ·intro w'
               go_simp
               with_reducible rfl
              rotate_left
              ·simp only [Act.put, List.setIfInBounds_toArray, List.set_cons_zero, List.set_cons_succ, i64_w, i32_w]
               rfl
              refine pure_ (i := 19) (N := some 110) (v := ?_) (a' := ?_) #[true, true, true, true, true, true, true, true, true, true, true, true, true, true, true, true, true, true, true, true, false, false, false, false, false, false, false, false, false, false, false] rfl rfl (any_of HT_.out (by kernel_rfl)) (fun _ _ _ h => h) (Or.inl ⟨by rfl, ?_⟩) ?_ ?_
              rotate_left
              ·intro w'
               go_simp
               with_reducible rfl
              rotate_left
              ·simp only [Act.put, List.setIfInBounds_toArray, List.set_cons_zero, List.set_cons_succ, i64_w, i32_w]
               rfl
              refine pure_ (i := 21) (N := some 112) (v := ?_) (a' := ?_) #[true, true, true, true, true, true, true, true, true, true, true, true, true, true, true, true, true, true, true, true, false, true, false, false, false, false, false, false, false, false, false] rfl rfl (any_of HT_.out (by kernel_rfl)) (fun _ _ _ h => h) (Or.inl ⟨by rfl, ?_⟩) ?_ ?_
              rotate_left
              ·intro w'
               go_simp
               with_reducible rfl
              rotate_left
              ·simp only [Act.put, List.setIfInBounds_toArray, List.set_cons_zero, List.set_cons_succ, i64_w, i32_w]
               rfl
              refine take_ (i := 20) (N := some 111) (v := ?_) (a' := ?_) #[true, true, true, true, true, true, true, true, true, true, true, true, true, true, true, true, true, true, true, true, true, true, false, false, false, false, false, false, false, false, false] rfl rfl (take_ofW HT_.out HW_.out (by kernel_rfl)) (fun _ _ _ h => h) (Or.inl ⟨by rfl, ?_⟩) hHeld ?_ ?_
              rotate_left
              ·rintro w' ⟨s0, s1, s2, s3, s4, s5, s6, s7, s8⟩
               go_simp
               with_reducible rfl
              rotate_left
              ·simp only [Act.put, List.setIfInBounds_toArray, List.set_cons_zero, List.set_cons_succ, i64_w, i32_w]
               rfl
              refine pure_ (i := 22) (N := some 113) (v := ?_) (a' := ?_) #[true, true, true, true, true, true, true, true, true, true, true, true, true, true, true, true, true, true, true, true, true, true, true, false, false, false, false, false, false, false, false] rfl rfl (any_of HT_.out (by kernel_rfl)) (fun _ _ _ h => h) (Or.inl ⟨by rfl, ?_⟩) ?_ ?_
              rotate_left
              ·intro w'
               go_simp
               with_reducible rfl
              rotate_left
              ·simp only [Act.put, List.setIfInBounds_toArray, List.set_cons_zero, List.set_cons_succ, i64_w, i32_w]
               rfl
              refine pure_ (i := 23) (N := some 114) (v := ?_) (a' := ?_) #[true, true, true, true, true, true, true, true, true, true, true, true, true, true, true, true, true, true, true, true, true, true, true, true, false, false, false, false, false, false, false] rfl rfl (any_of HT_.out (by kernel_rfl)) (fun _ _ _ h => h) (Or.inl ⟨by rfl, ?_⟩) ?_ ?_
              rotate_left
              ·intro w'
               go_simp
               with_reducible rfl
              rotate_left
              ·simp only [Act.put, List.setIfInBounds_toArray, List.set_cons_zero, List.set_cons_succ, i64_w, i32_w]
               rfl
              refine pure_ (i := 25) (N := some 116) (v := ?_) (a' := ?_) #[true, true, true, true, true, true, true, true, true, true, true, true, true, true, true, true, true, true, true, true, true, true, true, true, false, true, false, false, false, false, false] rfl rfl (any_of HT_.out (by kernel_rfl)) (fun _ _ _ h => h) (Or.inl ⟨by rfl, ?_⟩) ?_ ?_
              rotate_left
              ·intro w'
               go_simp
               with_reducible rfl
              rotate_left
              ·simp only [Act.put, List.setIfInBounds_toArray, List.set_cons_zero, List.set_cons_succ, i64_w, i32_w]
               rfl
              refine take_ (i := 24) (N := some 115) (v := ?_) (a' := ?_) #[true, true, true, true, true, true, true, true, true, true, true, true, true, true, true, true, true, true, true, true, true, true, true, true, true, true, false, false, false, false, false] rfl rfl (take_ofW HT_.out HW_.out (by kernel_rfl)) (fun _ _ _ h => h) (Or.inl ⟨by rfl, ?_⟩) hHeld ?_ ?_
              rotate_left
              ·rintro w' ⟨s0, s1, s2, s3, s4, s5, s6, s7, s8⟩
               go_simp
               with_reducible rfl
              rotate_left
              ·simp only [Act.put, List.setIfInBounds_toArray, List.set_cons_zero, List.set_cons_succ, i64_w, i32_w]
               rfl
              refine pure_ (i := 26) (N := some 117) (v := ?_) (a' := ?_) #[true, true, true, true, true, true, true, true, true, true, true, true, true, true, true, true, true, true, true, true, true, true, true, true, true, true, true, false, false, false, false] rfl rfl (any_of HT_.out (by kernel_rfl)) (fun _ _ _ h => h) (Or.inl ⟨by rfl, ?_⟩) ?_ ?_
              rotate_left
              ·intro w'
               go_simp
               with_reducible rfl
              rotate_left
              ·simp only [Act.put, List.setIfInBounds_toArray, List.set_cons_zero, List.set_cons_succ, i64_w, i32_w]
               rfl
              refine pure_ (i := 27) (N := some 118) (v := ?_) (a' := ?_) #[true, true, true, true, true, true, true, true, true, true, true, true, true, true, true, true, true, true, true, true, true, true, true, true, true, true, true, true, false, false, false] rfl rfl (any_of HT_.out (by kernel_rfl)) (fun _ _ _ h => h) (Or.inl ⟨by rfl, ?_⟩) ?_ ?_
              rotate_left
              ·intro w'
               go_simp
               with_reducible rfl
              rotate_left
              ·simp only [Act.put, List.setIfInBounds_toArray, List.set_cons_zero, List.set_cons_succ, i64_w, i32_w]
               rfl
              refine pure_ (i := 28) (N := some 119) (v := ?_) (a' := ?_) #[true, true, true, true, true, true, true, true, true, true, true, true, true, true, true, true, true, true, true, true, true, true, true, true, true, true, true, true, true, false, false] rfl rfl (any_of HT_.out (by kernel_rfl)) (fun _ _ _ h => h) (Or.inl ⟨by rfl, ?_⟩) ?_ ?_
              rotate_left
              ·intro w'
               go_simp
               with_reducible rfl
              rotate_left
              ·simp only [Act.put, List.setIfInBounds_toArray, List.set_cons_zero, List.set_cons_succ, i64_w, i32_w]
               rfl
              refine pure_ (i := 29) (N := some 120) (v := ?_) (a' := ?_) #[true, true, true, true, true, true, true, true, true, true, true, true, true, true, true, true, true, true, true, true, true, true, true, true, true, true, true, true, true, true, false] rfl rfl (any_of HT_.out (by kernel_rfl)) (fun _ _ _ h => h) (Or.inl ⟨by rfl, ?_⟩) ?_ ?_
              rotate_left
              ·intro w'
               go_simp
               with_reducible rfl
              rotate_left
              ·simp only [Act.put, List.setIfInBounds_toArray, List.set_cons_zero, List.set_cons_succ, i64_w, i32_w]
               rfl
              refine pure_ (i := 30) (N := some 2) (v := ?_) (a' := ?_) #[true, true, true, true, true, true, true, true, true, true, true, true, true, true, true, true, true, true, true, true, true, true, true, true, true, true, true, true, true, true, true] rfl rfl (any_of HT_.out (by kernel_rfl)) (fun _ _ _ h => h) (Or.inl ⟨by rfl, ?_⟩) ?_ ?_
              rotate_left
              ·intro w'
               go_simp
               with_reducible rfl
              rotate_left
              ·simp only [Act.put, List.setIfInBounds_toArray, List.set_cons_zero, List.set_cons_succ, i64_w, i32_w]
               rfl
              refine done_ (done_of HT_.out (by kernel_rfl)) ?_
              try go_wp2
              go_ret
              exact ⟨by first | rfl | (simp [errW_none, errW_some] <;> rfl) | (simp [*, errW_none, errW_some] <;> rfl), by repeat (first | (with_reducible first | exact HB.out | apply below_alloc | apply pw_below_drewN | apply below_drew1 | refine below_set ?_ GE231.out | refine below_set ?_ GE236.out | refine below_set ?_ GE241.out) | exact HB.out)⟩
             ·rw [if_neg c61] at H
              cases H
           ·rw [if_neg c57] at H
            cases H
          ·rw [if_neg c56] at H
           cases H
         ·rw [if_neg c55] at H
          cases H
  ·replace c5 := Bool.eq_false_iff.mpr c5
   subst c5
   have H1 : (some true) = some r := by rw [if_neg (show ¬ (false = true) by decide)] at H; exact H
   clear H
   have H := H1
   clear H1
   obtain rfl := Option.some.inj H
   go_enter Try.func5, Try.ntmps5
   go_wp2_with (first | ((with_reducible refine gate_callee (f := 15) rfl ?_); refine goesL_ (some 13) rfl rfl Try.func15 (by kernel_rfl) rfl #[] rfl (by (try simp only [List.map_toArray, List.map_cons, List.map_nil]); first | done | rfl | (simp only [List.length_drop, List.length_take]; rfl)) ?_; (with_reducible refine (quarrylaw17_works.calls  true _ A2.out).mono ?_); rintro e w72 ⟨rfl, hb⟩; refine ⟨_, rfl, ?_⟩; have n0_ := Aside0.mk (below_step (by repeat (first | (with_reducible first | exact HB.out | apply below_alloc | apply pw_below_drewN | apply below_drew1) | exact HB.out)) hb); clear HB; have HB := n0_; clear n0_; (try clear hb); (try clear hb2); (try clear hk); (try clear hi)) | ((with_reducible refine gate_callee (f := 10) rfl ?_); refine goesL_ (some 16) rfl rfl Try.func10 (by kernel_rfl) rfl #[.slice A0 l0.length c0] rfl (by (try simp only [List.map_toArray, List.map_cons, List.map_nil]); first | done | rfl | (simp only [List.length_drop, List.length_take]; rfl)) ?_; (with_reducible refine (quarrylaw17_right.calls k _ _ l0 false _ ?side1 ?side2 A4.out).mono ?_); (case side1 => repeat (first | exact (Kd.C_below HR0.out HB.out) | (with_reducible refine Kd.C_alloc ?_ _) | (with_reducible refine Kd.C_drewN ?_ _) | (with_reducible refine Kd.C_drew ?_))); (case side2 => exact HC0.out); rintro e w73 ⟨rfl, hb⟩; refine ⟨_, rfl, ?_⟩; have n0_ := Aside0.mk (below_step (by repeat (first | (with_reducible first | exact HB.out | apply below_alloc | apply pw_below_drewN | apply below_drew1) | exact HB.out)) hb); clear HB; have HB := n0_; clear n0_; (try clear hb); (try clear hb2); (try clear hk); (try clear hi)))
   go_ret
   exact ⟨by first | rfl | (simp [errW_none, errW_some] <;> rfl) | (simp [*, errW_none, errW_some] <;> rfl), by repeat (first | (with_reducible first | exact HB.out | apply below_alloc | apply pw_below_drewN | apply below_drew1) | exact HB.out)⟩
 ·rw [if_neg c3] at H
  cases H
end Go.Proofs.Ytgjfciohmgpohaa.P
end
section
namespace Go.Proofs.Ytgjfciohmgpohaa.Pure
set_option linter.unusedVariables false
set_option linter.unusedSimpArgs false
open Go.RowKit Go.Proofs.Ytgjfciohmgpohaa.P Go.Proofs.YtgjfciohmgpohaaW.PrintWords Go.Proofs.YtgjfciohmgpohaaW.PrintLast Go.Proofs.YtgjfciohmgpohaaW.PrintMore
def okV (x : S32) : Bool := chkR x.f0 x.f1 x.f2 == 0
theorem right_loop : ∀ (s p : List S32), (p ++ s).length < 140737488355328 → Ev (fun k => quarrylaw17_right.l0 k (p ++ s) (p.length : Int)) (s.all okV && decide (((p ++ s).length : Int) ≤ 300))
  | [], p, hl => by
    refine Ev.succ ?_
    simp only [quarrylaw17_right.l0, List.append_nil, Int.lt_irrefl, if_false]
    exact Ev.pure _
  | x :: s, p, hl => by
    refine Ev.succ ?_
    have h1 : (p.length : Int) < ((p ++ x :: s).length : Int) := by simp; omega
    have h2 : (0 : Int) ≤ (p.length : Int) := by omega
    simp only [quarrylaw17_right.l0, if_pos h1, if_pos h2, rd_at, quarryref01_Check.f, Option.bind_some]
    by_cases h : chkR x.f0 x.f1 x.f2 = 0
    · simp only [if_pos h]
      have ih := right_loop s (p ++ [x]) (by simpa using hl)
      have hw : wrap64 ((p.length : Int) + 1) = ((p ++ [x]).length : Int) := by
        simp at hl
        unfold wrap64
        simp
        omega
      rw [hw]
      have hb : (x :: s).all okV = s.all okV := by simp [okV, h]
      rw [hb]
      simpa using ih
    · simp only [if_neg h]
      have hb : (x :: s).all okV = false := by simp [okV, h]
      rw [hb]
      exact Ev.pure _
theorem right_ev (l : List S32) (hl : l.length < 140737488355328) : Ev (fun k => quarrylaw17_right.f k l) (l.all okV && decide ((l.length : Int) ≤ 300)) := by
  have := right_loop l [] (by simpa using hl)
  simpa [quarrylaw17_right.f] using this
end Go.Proofs.Ytgjfciohmgpohaa.Pure
end
section
namespace Go.Proofs.Ytgjfciohmgpohaa.Pure
set_option linter.unusedVariables false
set_option linter.unusedSimpArgs false
open Go.RowKit Go.Proofs.Ytgjfciohmgpohaa.P Go.Proofs.YtgjfciohmgpohaaW.PrintWords Go.Proofs.YtgjfciohmgpohaaW.PrintLast Go.Proofs.YtgjfciohmgpohaaW.PrintMore
theorem V0_list : V0.toList = [] := by rw [Go.ByteArray.toList_eq]; rfl
theorem cmpI_neg (a b : Int) : cmpI b a = -cmpI a b := by
  unfold cmpI
  by_cases h : a < b
  · rw [if_pos h, if_neg (by omega), if_pos h]; rfl
  · by_cases h' : b < a
    · rw [if_pos h', if_neg h, if_pos h']
    · rw [if_neg h', if_neg h, if_neg h, if_neg h']; rfl
theorem cmpB_neg : ∀ a b : List UInt8, Lib.compareBytes b a = -Lib.compareBytes a b
  | [], [] => rfl
  | [], _ :: _ => rfl
  | _ :: _, [] => rfl
  | a :: l, b :: m => by
    unfold Lib.compareBytes
    have ih := cmpB_neg l m
    by_cases h : a < b
    · have h' : ¬ b < a := fun h2 => by have := UInt8.lt_iff_toNat_lt.1 h; have := UInt8.lt_iff_toNat_lt.1 h2; omega
      rw [if_pos h, if_neg h', if_pos h]; rfl
    · by_cases h' : b < a
      · rw [if_pos h', if_neg h, if_pos h']
      · rw [if_neg h', if_neg h, if_neg h, if_neg h', ih]
theorem cmpT_neg (a b : ByteArray) : cmpT b a = -cmpT a b := cmpB_neg _ _
theorem cmpV_neg (x y : S32) : cmpV y x = -cmpV x y := by
  unfold cmpV
  by_cases h : x.f0 = y.f0
  · rw [if_pos h, if_pos h.symm]
    by_cases h1 : x.f0 = 1 ∨ x.f0 = 2
    · rw [if_pos h1, if_pos (by omega), cmpI_neg]
    · rw [if_neg h1, if_neg (by omega)]
      by_cases h2 : x.f0 = 3 ∨ x.f0 = 4
      · rw [if_pos h2, if_pos (by omega), cmpT_neg]
      · rw [if_neg h2, if_neg (by omega)]; rfl
  · rw [if_neg h, if_neg (fun e => h e.symm), cmpI_neg]
end Go.Proofs.Ytgjfciohmgpohaa.Pure
end
section
namespace Go.Proofs.Ytgjfciohmgpohaa.Pure
set_option linter.unusedVariables false
set_option linter.unusedSimpArgs false
open Go.RowKit Go.Proofs.Ytgjfciohmgpohaa.P Go.Proofs.YtgjfciohmgpohaaW.PrintWords Go.Proofs.YtgjfciohmgpohaaW.PrintLast Go.Proofs.YtgjfciohmgpohaaW.PrintMore
theorem cmpI_lt {a b : Int} : cmpI a b = -1 ↔ a < b := by
  unfold cmpI
  by_cases h : a < b
  · rw [if_pos h]; exact ⟨fun _ => h, fun _ => rfl⟩
  · by_cases h' : b < a
    · rw [if_neg h, if_pos h']; constructor <;> intro <;> omega
    · rw [if_neg h, if_neg h']; constructor <;> intro <;> omega
theorem cmpB_trans : ∀ a b c : List UInt8, Lib.compareBytes a b = -1 → Lib.compareBytes b c = -1 → Lib.compareBytes a c = -1
  | [], _, [], h1, h2 => by
    rename_i b
    cases b with
    | nil => exact absurd h1 (by simp [Lib.compareBytes])
    | cons x m => exact absurd h2 (by simp [Lib.compareBytes])
  | [], _, _ :: _, _, _ => by simp [Lib.compareBytes]
  | _ :: _, [], _, h1, _ => absurd h1 (by simp [Lib.compareBytes])
  | _ :: _, _ :: _, [], _, h2 => absurd h2 (by simp [Lib.compareBytes])
  | a :: l, b :: m, c :: n, h1, h2 => by
    unfold Lib.compareBytes at h1 h2 ⊢
    have e1 := @UInt8.lt_iff_toNat_lt a b
    have e2 := @UInt8.lt_iff_toNat_lt b a
    have e3 := @UInt8.lt_iff_toNat_lt b c
    have e4 := @UInt8.lt_iff_toNat_lt c b
    have e5 := @UInt8.lt_iff_toNat_lt a c
    have e6 := @UInt8.lt_iff_toNat_lt c a
    by_cases p1 : a.toNat < b.toNat
    · by_cases p3 : b.toNat < c.toNat
      · rw [if_pos (e5.2 (by omega))]
      · rw [if_neg (fun h => p3 (e3.1 h))] at h2
        by_cases p4 : c.toNat < b.toNat
        · rw [if_pos (e4.2 p4)] at h2; omega
        · rw [if_pos (e5.2 (by omega))]
    · rw [if_neg (fun h => p1 (e1.1 h))] at h1
      by_cases p2 : b.toNat < a.toNat
      · rw [if_pos (e2.2 p2)] at h1; omega
      · rw [if_neg (fun h => p2 (e2.1 h))] at h1
        by_cases p3 : b.toNat < c.toNat
        · rw [if_pos (e5.2 (by omega))]
        · rw [if_neg (fun h => p3 (e3.1 h))] at h2
          by_cases p4 : c.toNat < b.toNat
          · rw [if_pos (e4.2 p4)] at h2; omega
          · rw [if_neg (fun h => p4 (e4.1 h))] at h2
            rw [if_neg (fun h => by have := e5.1 h; omega), if_neg (fun h => by have := e6.1 h; omega)]
            exact cmpB_trans l m n h1 h2
theorem cmpV_lt {x y : S32} : cmpV x y = -1 ↔ x.f0 < y.f0 ∨ (x.f0 = y.f0 ∧ ((x.f0 = 1 ∨ x.f0 = 2) ∧ x.f1 < y.f1 ∨ (x.f0 = 3 ∨ x.f0 = 4) ∧ cmpT x.f2 y.f2 = -1)) := by
  unfold cmpV
  by_cases h : x.f0 = y.f0
  · rw [if_pos h]
    by_cases h1 : x.f0 = 1 ∨ x.f0 = 2
    · rw [if_pos h1, cmpI_lt]
      constructor
      · intro h2; exact .inr ⟨h, .inl ⟨h1, h2⟩⟩
      · rintro (h2 | ⟨_, ⟨_, h2⟩ | ⟨h2, _⟩⟩)
        · omega
        · exact h2
        · omega
    · rw [if_neg h1]
      by_cases h2 : x.f0 = 3 ∨ x.f0 = 4
      · rw [if_pos h2]
        constructor
        · intro h3; exact .inr ⟨h, .inr ⟨h2, h3⟩⟩
        · rintro (h3 | ⟨_, ⟨h3, _⟩ | ⟨_, h3⟩⟩)
          · omega
          · exact absurd h3 h1
          · exact h3
      · rw [if_neg h2]
        constructor
        · intro h3; omega
        · rintro (h3 | ⟨_, ⟨h3, _⟩ | ⟨h3, _⟩⟩)
          · omega
          · exact absurd h3 h1
          · exact absurd h3 h2
  · rw [if_neg h, cmpI_lt]
    constructor
    · intro h1; exact .inl h1
    · rintro (h1 | ⟨h1, _⟩)
      · exact h1
      · exact absurd h1 h
theorem cmpV_trans {x y z : S32} (h1 : cmpV x y = -1) (h2 : cmpV y z = -1) : cmpV x z = -1 := by
  rw [cmpV_lt] at *
  rcases h1 with h1 | ⟨e1, h1⟩
  · rcases h2 with h2 | ⟨e2, _⟩
    · exact .inl (by omega)
    · exact .inl (by omega)
  · rcases h2 with h2 | ⟨e2, h2⟩
    · exact .inl (by omega)
    · refine .inr ⟨by omega, ?_⟩
      rcases h1 with ⟨k1, h1⟩ | ⟨k1, h1⟩
      · rcases h2 with ⟨k2, h2⟩ | ⟨k2, h2⟩
        · exact .inl ⟨k1, by omega⟩
        · omega
      · rcases h2 with ⟨k2, h2⟩ | ⟨k2, h2⟩
        · omega
        · exact .inr ⟨k1, cmpB_trans _ _ _ h1 h2⟩
theorem cmpV_tr {x y z : S32} {sg : Int} (hs : sg = -1 ∨ sg = 1) (h1 : cmpV x y = sg) (h2 : cmpV y z = sg) : cmpV x z = sg := by
  rcases hs with rfl | rfl
  · exact cmpV_trans h1 h2
  · have a : cmpV y x = -1 := by rw [cmpV_neg x y, h1]
    have b : cmpV z y = -1 := by rw [cmpV_neg y z, h2]
    have c := cmpV_trans b a
    rw [cmpV_neg z x, c]; rfl
theorem cmpV_self (x : S32) : cmpV x x = 0 := by
  have h := cmpV_neg x x
  omega
def cnt (l : List S32) : Nat := (l.filter fun v => decide (¬ v.f0 = 0)).length
theorem cnt_cons (v : S32) (l : List S32) : cnt (v :: l) = (if v.f0 = 0 then 0 else 1) + cnt l := by
  unfold cnt
  rw [List.filter_cons]
  by_cases h : v.f0 = 0
  · rw [if_neg (by simp [h]), if_pos h]; omega
  · rw [if_pos (by simp [h]), if_neg h, List.length_cons]; omega
theorem cnt_app (a b : List S32) : cnt (a ++ b) = cnt a + cnt b := by unfold cnt; rw [List.filter_append, List.length_append]
theorem cnt_le (l : List S32) : cnt l ≤ l.length := List.length_filter_le _ _
theorem go_count : ∀ (l : List S32) (n : Nat), n + l.length < 9223372036854775807 → goG false (.count n) l = some (.count ((n + cnt l : Nat) : Int))
  | [], n, h => by simp [goG, cnt]
  | v :: l, n, h => by
    rw [List.length_cons] at h
    unfold goG addP
    by_cases h0 : v.f0 = 0
    · rw [if_pos (show v.f0 = 0 ∧ false = false from ⟨h0, rfl⟩), if_pos rfl, go_count l n (by omega), cnt_cons, if_pos h0, Nat.zero_add]
    · rw [if_neg (show ¬ (v.f0 = 0 ∧ false = false) from fun h => h0 h.1)]
      simp only [if_true]
      have hw : wrap64 ((n : Int) + 1) = ((n + 1 : Nat) : Int) := by unfold wrap64; omega
      rw [hw, go_count l (n + 1) (by omega), cnt_cons, if_neg h0]
      congr 3
      omega
def bst (sg : Int) : S32 → List S32 → S32
  | u, [] => u
  | u, v :: t => bst sg (if v.f0 = 0 then u else if u.f0 = 0 ∨ cmpV v u = sg then v else u) t
theorem go_best (sg : Int) : ∀ (l : List S32) (u : S32), goG false (.best u sg) l = some (.best (bst sg u l) sg)
  | [], u => rfl
  | v :: l, u => by
    unfold goG addP bst
    by_cases h0 : v.f0 = 0
    · rw [if_pos (show v.f0 = 0 ∧ false = false from ⟨h0, rfl⟩), if_pos rfl, if_pos h0]; exact go_best sg l u
    · rw [if_neg (show ¬ (v.f0 = 0 ∧ false = false) from fun h => h0 h.1), if_neg h0]
      by_cases h1 : u.f0 = 0 ∨ cmpV v u = sg
      · simp only [if_pos h1, if_true]; exact go_best sg l v
      · simp only [if_neg h1, if_true]; exact go_best sg l u
theorem gath_count (l : List S32) (h : l.length < 9223372036854775807) : gathP 1 l = (numV (cnt l), true) := by
  have : gathP 1 l = match goG false (.count ((0 : Nat) : Int)) l with | none => (zeroV, false) | some s => (valP s, true) := rfl
  rw [this, go_count l 0 (by omega), Nat.zero_add]
  rfl
theorem gath_min (l : List S32) : gathP 3 l = (bst (-1) zeroV l, true) := by
  have : gathP 3 l = match goG false (.best zeroV (-1)) l with | none => (zeroV, false) | some s => (valP s, true) := rfl
  rw [this, go_best]
  rfl
theorem gath_max (l : List S32) : gathP 4 l = (bst 1 zeroV l, true) := by
  have : gathP 4 l = match goG false (.best zeroV 1) l with | none => (zeroV, false) | some s => (valP s, true) := rfl
  rw [this, go_best]
  rfl
def Best (sg : Int) (P : S32 → Prop) (r : S32) : Prop := (P r ∧ ¬ r.f0 = 0 ∧ ∀ x, P x → ¬ x.f0 = 0 → ¬ cmpV x r = sg) ∨ (r = zeroV ∧ ∀ x, P x → x.f0 = 0)
theorem best_of {sg : Int} (hs : sg = -1 ∨ sg = 1) : ∀ (l : List S32) (u : S32) (P : S32 → Prop), Best sg P u → Best sg (fun x => P x ∨ x ∈ l) (bst sg u l)
  | [], u, P, h => by
    have e : (fun x => P x ∨ x ∈ ([] : List S32)) = P := by funext x; simp
    rw [e]; exact h
  | v :: l, u, P, h => by
    unfold bst
    have e : (fun x => P x ∨ x ∈ v :: l) = (fun x => (P x ∨ x = v) ∨ x ∈ l) := by funext x; simp [or_assoc]
    rw [e]
    refine best_of hs l _ (fun x => P x ∨ x = v) ?_
    by_cases h0 : v.f0 = 0
    · rw [if_pos h0]
      rcases h with ⟨h1, h2, h3⟩ | ⟨h1, h2⟩
      · exact .inl ⟨.inl h1, h2, fun x hx hn => hx.elim (fun hx => h3 x hx hn) (fun hx => absurd (hx ▸ h0) hn)⟩
      · exact .inr ⟨h1, fun x hx => hx.elim (h2 x) (fun hx => hx ▸ h0)⟩
    · rw [if_neg h0]
      by_cases hu : u.f0 = 0
      · rw [if_pos (.inl hu)]
        refine .inl ⟨.inr rfl, h0, fun x hx hn => ?_⟩
        rcases hx with hx | rfl
        · rcases h with ⟨_, h2, _⟩ | ⟨_, h2⟩
          · exact absurd hu h2
          · exact absurd (h2 x hx) hn
        · rw [cmpV_self]; rcases hs with rfl | rfl <;> decide
      · have hh : P u ∧ ∀ x, P x → ¬ x.f0 = 0 → ¬ cmpV x u = sg := by
          rcases h with ⟨h1, _, h3⟩ | ⟨h1, _⟩
          · exact ⟨h1, h3⟩
          · exact absurd (by rw [h1]; rfl) hu
        by_cases hc : cmpV v u = sg
        · rw [if_pos (.inr hc)]
          refine .inl ⟨.inr rfl, h0, fun x hx hn => ?_⟩
          rcases hx with hx | rfl
          · exact fun hxv => hh.2 x hx hn (cmpV_tr hs hxv hc)
          · rw [cmpV_self]; rcases hs with rfl | rfl <;> decide
        · rw [if_neg (fun h => h.elim hu hc)]
          refine .inl ⟨.inl hh.1, hu, fun x hx hn => ?_⟩
          rcases hx with hx | rfl
          · exact hh.2 x hx hn
          · exact hc
theorem best_all {sg : Int} (hs : sg = -1 ∨ sg = 1) (l : List S32) : Best sg (fun x => x ∈ l) (bst sg zeroV l) := by
  have h := best_of hs l zeroV (fun _ => False) (.inr ⟨rfl, fun _ h => h.elim⟩)
  have e : (fun x => False ∨ x ∈ l) = (fun x => x ∈ l) := by funext x; simp
  rwa [e] at h
end Go.Proofs.Ytgjfciohmgpohaa.Pure
end
section
namespace Go.Proofs.Ytgjfciohmgpohaa.Pure
set_option linter.unusedVariables false
set_option linter.unusedSimpArgs false
open Go.RowKit Go.Proofs.Ytgjfciohmgpohaa.P Go.Proofs.YtgjfciohmgpohaaW.PrintWords Go.Proofs.YtgjfciohmgpohaaW.PrintLast Go.Proofs.YtgjfciohmgpohaaW.PrintMore
theorem num_f (n : Int) : quarrylaw17_number.f n = some (2, n, V0) := rfl
theorem works_f : quarrylaw17_works.f = some true := by
  have b1 : quarrylaw17_gathered.f 2 [⟨2, 1, V0⟩, ⟨0, 0, V0⟩, ⟨2, 2, V0⟩] = some (2, 3, V0, true) := by kernel_rfl
  have b2 : quarrylaw17_gathered.f 2 [] = some (0, 0, V0, true) := by kernel_rfl
  have b3 : quarrylaw17_gathered.f 4 [⟨3, 0, ⟨#[97]⟩⟩, ⟨3, 0, ⟨#[98]⟩⟩] = some (3, 0, ⟨#[98]⟩, true) := by kernel_rfl
  have b4 : quarrylaw17_gathered.f 2 [⟨2, 9223372036854775807, V0⟩, ⟨2, 1, V0⟩] = some (0, 0, V0, false) := by kernel_rfl
  have e : (⟨#[98]⟩ : ByteArray).toList = [98] := by rw [Go.ByteArray.toList_eq]
  have e0 : (⟨#[]⟩ : ByteArray) = V0 := rfl
  unfold quarrylaw17_works.f
  simp only [num_f, Option.bind_some, e0, b1, b2, b3, b4, e, V0_list]
  rfl
theorem fits_right {l : List S32} (hl : G22 l) : fitsB l = true := of_fits (fun v hv => ⟨wf64 (hl.1 v hv).2.1, (hl.1 v hv).2.2⟩)
theorem gath_f (op : Int) (l : List S32) (h : fitsB l = true) : quarrylaw17_gathered.f op l = some ((gathP op l).1.f0, (gathP op l).1.f1, (gathP op l).1.f2, (gathP op l).2) := if_pos h
end Go.Proofs.Ytgjfciohmgpohaa.Pure
end
section
namespace Go.Proofs.Ytgjfciohmgpohaa.Pure
open Go.RowKit Go.Proofs.Ytgjfciohmgpohaa.P Go.Proofs.YtgjfciohmgpohaaW.PrintWords Go.Proofs.YtgjfciohmgpohaaW.PrintLast
def has (t : S32) (p : List S32) : Bool := p.any fun v => decide (¬ v.f0 = 0) && decide (v = t)
theorem has_snoc (t : S32) (p : List S32) (v : S32) : has t (p ++ [v]) = (has t p || (decide (¬ v.f0 = 0) && decide (v = t))) := by simp [has]
theorem cnt_snoc (p : List S32) (v : S32) : cnt (p ++ [v]) = cnt p + (if v.f0 = 0 then 0 else 1) := by rw [cnt_app, cnt_cons]; simp [cnt]
theorem has_best {sg : Int} {l : List S32} {r : S32} (h : Best sg (fun x => x ∈ l) r) : has r l = decide (0 < cnt l) := by
  rcases h with ⟨h1, h2, _⟩ | ⟨h1, h2⟩
  · have a : has r l = true := List.any_eq_true.2 ⟨r, h1, by simp [h2]⟩
    have b : 0 < cnt l := by
      unfold cnt
      exact List.length_pos_of_mem (List.mem_filter.2 ⟨h1, by simp [h2]⟩)
    rw [a, decide_eq_true b]
  · have b : cnt l = 0 := by
      unfold cnt
      rw [List.length_eq_zero_iff, List.filter_eq_nil_iff]
      intro x hx
      simp [h2 x hx]
    have a : has r l = false := by
      rw [has, List.any_eq_false]
      intro x hx
      simp [h2 x hx]
    rw [a, b]; rfl
theorem bounds_loop (l : List S32) (lo hi : S32) (hl : l.length < 140737488355328) (hf : ∀ v ∈ l, v.f2.size ≤ 140737488351232) (hlo : Best (-1) (fun x => x ∈ l) lo) (hhi : Best 1 (fun x => x ∈ l) hi) (slo : lo.f2.size ≤ 140737488351232) (shi : hi.f2.size ≤ 140737488351232) :
    ∀ (suf pre : List S32), l = pre ++ suf → Ev (fun k => quarrylaw17_AggBounds.l0 k l (cnt pre : Int) (has lo pre) (has hi pre) (pre.length : Int) lo.f0 lo.f1 lo.f2 hi.f0 hi.f1 hi.f2 2 (cnt l : Int) V0) true
  | [], pre, h => by
    have e : pre = l := by rw [h, List.append_nil]
    subst e
    refine Ev.succ ?_
    rw [show has lo pre = decide (0 < cnt pre) from has_best hlo, show has hi pre = decide (0 < cnt pre) from has_best hhi]
    have hd : decide ((cnt pre : Int) > 0) = decide (0 < cnt pre) := decide_eq_decide.2 (by omega)
    simp only [quarrylaw17_AggBounds.l0, if_neg (show ¬ (pre.length : Int) < (pre.length : Int) by omega), num_f, Option.bind_some, beq_self_eq_true, Bool.and_self, if_true, hd]
    by_cases h0 : (cnt pre : Int) > 0
    · simp only [if_pos h0]; exact Ev.pure _
    · simp only [if_neg h0]
      have hz : ∀ {sg : Int} {r : S32}, Best sg (fun x => x ∈ pre) r → r = zeroV := by
        intro sg r hb
        rcases hb with ⟨h1, h2, _⟩ | ⟨h1, _⟩
        · exfalso
          apply h0
          have : 0 < cnt pre := by
            unfold cnt
            exact List.length_pos_of_mem (List.mem_filter.2 ⟨h1, by simp [h2]⟩)
          omega
        · exact h1
      rw [hz hlo, hz hhi]
      have z0 : zeroV.f0 = 0 := rfl
      have z1 : zeroV.f1 = 0 := rfl
      have z2 : zeroV.f2 = V0 := rfl
      simp only [z0, z1, z2, V0_list, beq_self_eq_true, Bool.and_self, if_true]
      exact Ev.pure _
  | v :: suf, pre, h => by
    refine Ev.succ ?_
    have hl' : l.length = pre.length + (suf.length + 1) := by rw [h]; simp
    have hr : rd_T32 l (pre.length : Int) = v := by rw [h]; exact rd_at pre v suf
    have hv : v ∈ l := by rw [h]; simp
    have ih := bounds_loop l lo hi hl hf hlo hhi slo shi suf (pre ++ [v]) (by rw [h]; simp)
    have hw : wrap64 ((pre.length : Int) + 1) = ((pre ++ [v]).length : Int) := by unfold wrap64; simp; omega
    have h1 : (pre.length : Int) < (l.length : Int) := by omega
    have h2 : (0 : Int) ≤ (pre.length : Int) := by omega
    have hcl := cnt_le pre
    simp only [quarrylaw17_AggBounds.l0, if_pos h1, if_pos h2, hr, hw]
    by_cases h0 : v.f0 = 0
    · simp only [if_pos h0]
      have e1 : cnt (pre ++ [v]) = cnt pre := by rw [cnt_snoc, if_pos h0, Nat.add_zero]
      have e2 : ∀ t, has t (pre ++ [v]) = has t pre := fun t => by rw [has_snoc]; simp [h0]
      rw [e1, e2, e2] at ih
      exact ih
    · have e1 : cnt (pre ++ [v]) = cnt pre + 1 := by rw [cnt_snoc, if_neg h0]
      have e2 : ∀ t, has t (pre ++ [v]) = (has t pre || decide (v = t)) := fun t => by rw [has_snoc]; simp [h0]
      have w1 : wrap64 ((cnt pre : Int) + 1) = ((cnt pre + 1 : Nat) : Int) := by unfold wrap64; omega
      have c1 : ¬ cmpV lo v > 0 := by
        rcases hlo with ⟨_, _, a3⟩ | ⟨_, a2⟩
        · have := a3 v hv h0
          have s3 := cmpV_s3 v lo
          have ng := cmpV_neg v lo
          unfold S3 at s3
          omega
        · exact absurd (a2 v hv) h0
      have c2 : ¬ cmpV hi v < 0 := by
        rcases hhi with ⟨_, _, a3⟩ | ⟨_, a2⟩
        · have := a3 v hv h0
          have s3 := cmpV_s3 v hi
          have ng := cmpV_neg v hi
          unfold S3 at s3
          omega
        · exact absurd (a2 v hv) h0
      have j3 : ∀ x y : Bool, x = has lo (pre ++ [v]) → y = has hi (pre ++ [v]) → Ev (fun k => quarrylaw17_AggBounds.j3 k l ((cnt pre + 1 : Nat) : Int) x y (pre.length : Int) lo.f0 lo.f1 lo.f2 hi.f0 hi.f1 hi.f2 2 (cnt l : Int) V0) true := by
        intro x y hx hy
        refine Ev.succ ?_
        simp only [quarrylaw17_AggBounds.j3, if_pos h1, if_pos h2, hr, hw]
        refine Ev.bind (ref_cmp_ev lo v slo) ?_
        simp only [if_neg c1]
        refine Ev.bind (ref_cmp_ev hi v shi) ?_
        simp only [if_neg c2]
        rw [hx, hy, ← e1]
        exact ih
      have j2 : ∀ x : Bool, x = has lo (pre ++ [v]) → Ev (fun k => quarrylaw17_AggBounds.j2 k l ((cnt pre + 1 : Nat) : Int) x (has hi pre) (pre.length : Int) lo.f0 lo.f1 lo.f2 hi.f0 hi.f1 hi.f2 2 (cnt l : Int) V0) true := by
        intro x hx
        refine Ev.succ ?_
        simp only [quarrylaw17_AggBounds.j2, if_pos h1, if_pos h2, hr, eqb]
        cases hh : has hi pre with
        | true => simp only [if_true]; exact j3 x true hx (by rw [e2, hh]; rfl)
        | false => simp only [Bool.false_eq_true, if_false]; exact j3 x _ hx (by rw [e2, hh]; rfl)
      simp only [if_neg h0, w1, eqb]
      cases hh : has lo pre with
      | true => simp only [if_true]; exact j2 true (by rw [e2, hh]; rfl)
      | false => simp only [Bool.false_eq_true, if_false]; exact j2 _ (by rw [e2, hh]; rfl)
theorem best_size {sg : Int} {l : List S32} {r : S32} (h : Best sg (fun x => x ∈ l) r) (hf : ∀ v ∈ l, v.f2.size ≤ 140737488351232) : r.f2.size ≤ 140737488351232 := by
  rcases h with ⟨h1, _⟩ | ⟨h1, _⟩
  · exact hf r h1
  · rw [h1]; show (0 : Nat) ≤ _; omega
theorem AggBounds : ∀ (l0 : List (S32)), G22 l0 → ∃ k, quarrylaw17_AggBounds.f k l0 = some true := by
  intro l hl
  refine Ev.get ?_
  have hm : l.length < 140737488355328 := by have := hl.2; omega
  have hb := fits_right hl
  have hf : ∀ v ∈ l, v.f2.size ≤ 140737488351232 := fun v hv => (hl.1 v hv).2.2
  unfold quarrylaw17_AggBounds.f
  simp only [works_f, Option.bind_some, if_true]
  refine Ev.bind (right_ev l hm) ?_
  cases h : (l.all okV && decide ((l.length : Int) ≤ 300)) with
  | false =>
    simp only [Bool.false_eq_true, if_false]
    exact Ev.pure _
  | true =>
    have hlo := best_all (sg := -1) (.inl rfl) l
    have hhi := best_all (sg := 1) (.inr rfl) l
    simp only [if_true, gath_f _ l hb, gath_min, gath_max, gath_count l (by omega), Option.bind_some, Bool.not_true]
    refine Ev.succ ?_
    simp only [quarrylaw17_AggBounds.j0, Bool.false_eq_true, if_false]
    exact bounds_loop l (bst (-1) zeroV l) (bst 1 zeroV l) hm hf hlo hhi (best_size hlo hf) (best_size hhi hf) l [] rfl
end Go.Proofs.Ytgjfciohmgpohaa.Pure
end
