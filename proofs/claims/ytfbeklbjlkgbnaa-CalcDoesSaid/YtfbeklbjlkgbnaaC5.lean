/- Written in this session: calc.Unary by hand. No condition but the kinds of numbers. -/
import Derived.Test.YtfbeklbjlkgbnaaC2
import Derived.Test.YtfbeklbjlkgbnaaC3
import Derived.BigGuardPart
namespace Go.Proofs.Ytfbeklbjlkgbnaa.P
open Go.RowKit Go.Proofs.YtfbeklbjlkgbnaaW.PrintWords Go.Proofs.YtfbeklbjlkgbnaaW.PrintLast Go.Proofs.YtfbeklbjlkgbnaaW.PrintMore
attribute [local go_sem] max2_int min2_int max_two min_two max_three min_three max_four min_four   -- for this text's walks alone
set_option linter.unusedVariables false
set_option linter.unusedSimpArgs false

def truthV (b : Bool) : S25 := ⟨1, if b = true then 1 else 0, V0⟩
def zeroV : S25 := ⟨0, 0, V0⟩
def una (op : Int) (v : S25) : Except Int S25 :=
  if ¬ op = 1 ∧ ¬ op = 2 then .error 5
  else if v.f0 = 0 then .ok v
  else if op = 2 then (if v.f0 = 1 then .ok (truthV (decide (v.f1 = 0))) else .error 35)
  else if ¬ v.f0 = 2 then .error 35
  else if v.f1 = -9223372036854775808 then .error 40
  else .ok ⟨2, -v.f1, V0⟩
theorem truth_f (b : Bool) : calc_truth.f b = some ((truthV b).f0, (truthV b).f1, (truthV b).f2) := by cases b <;> rfl
theorem number_f (n : Int) : calc_number.f n = some (2, n, V0) := rfl
set_option maxHeartbeats 1000000 in
set_option maxRecDepth 100000 in
theorem calc_Unary1.op (op : Int) (v : S25) (b0 b1 : Nat) (W : World) (h0 : W.heap[b0]? = some (.cells #[.int .i64 op] 3 (0, 0))) (h1 : W.heap[b1]? = some (.cells #[.int .i64 v.f0, .int .i64 v.f1, .string v.f2] 25 (0, 0))) (ho : ¬ op = 1 ∧ ¬ op = 2) :
    Calls Try.prog 53 #[.pointer (some ⟨b0, 0, none⟩), .pointer (some ⟨b1, 0, none⟩)] W (fun e w' => RE (.error 5) e ∧ Below W.heap.size W w') := by
  have hu25 := Try.underlying25
  have n0 : ¬ b0 = W.heap.size := by have := blk_lt h0; omega
  have n1 : ¬ b1 = W.heap.size := by have := blk_lt h1; omega
  have z0 := blk_alloc h0 (.cells #[.int .i64 0, .int .i64 0, .string (⟨#[]⟩ : ByteArray)] 25)
  have z1 := blk_alloc h1 (.cells #[.int .i64 0, .int .i64 0, .string (⟨#[]⟩ : ByteArray)] 25)
  have hc0 : (W.alloc (.cells #[.int .i64 0, .int .i64 0, .string (⟨#[]⟩ : ByteArray)] 25)).cell? ⟨b0, 0, none⟩ = some (.int .i64 op) := (blk_cell z0 0).trans rfl
  have hd0 : (W.alloc (.cells #[.int .i64 0, .int .i64 0, .string (⟨#[]⟩ : ByteArray)] 25)).cell? ⟨b1, 0, none⟩ = some (.int .i64 v.f0) := (blk_cell z1 0).trans rfl
  have hd1 : (W.alloc (.cells #[.int .i64 0, .int .i64 0, .string (⟨#[]⟩ : ByteArray)] 25)).cell? ⟨b1, 1, none⟩ = some (.int .i64 v.f1) := (blk_cell z1 1).trans rfl
  have hd2 : (W.alloc (.cells #[.int .i64 0, .int .i64 0, .string (⟨#[]⟩ : ByteArray)] 25)).cell? ⟨b1, 2, none⟩ = some (.string v.f2) := (blk_cell z1 2).trans rfl
  obtain ⟨k0, k1, k2⟩ := v
  simp only at hd0 hd1 hd2 ho ⊢
  have o1 : (op == 1) = false := beq_eq_false_iff_ne.mpr ho.1
  have o2 : (op == 2) = false := beq_eq_false_iff_ne.mpr ho.2
  clear h0 h1 z0 z1 ho
  go_enter Try.func53, Try.ntmps53
  go_wp2_with (first | (go_at_call 41; (with_reducible refine (calc_truth.calls _ _ _ _ _ (truth_f _)).mono ?_); rintro e w1 ⟨rfl, hb⟩; have HB := Aside0.mk hb; clear hb) | (go_at_call 45; (with_reducible refine (calc_number.calls _ _ _ _ _ (number_f _)).mono ?_); rintro e w1 ⟨rfl, hb⟩; have HB := Aside0.mk hb; clear hb) | (go_at_call 30; (with_reducible refine (calc_check.yes _ _).mono ?_); rintro e w' ⟨rfl, rfl⟩) | (go_at_call 30; (with_reducible refine (calc_check.no _ _).mono ?_); rintro e w' ⟨rfl, rfl⟩))
  exact ⟨rfl, rfl, by repeat (first | exact Below.refl _ _ | apply below_alloc | apply below_drew1 | apply pw_below_drewN)⟩
set_option maxHeartbeats 1000000 in
set_option maxRecDepth 100000 in
theorem calc_Unary1.null1 (op : Int) (v : S25) (b0 b1 : Nat) (W : World) (h0 : W.heap[b0]? = some (.cells #[.int .i64 op] 3 (0, 0))) (h1 : W.heap[b1]? = some (.cells #[.int .i64 v.f0, .int .i64 v.f1, .string v.f2] 25 (0, 0))) (ho : op = 1) (hk : v.f0 = 0) :
    Calls Try.prog 53 #[.pointer (some ⟨b0, 0, none⟩), .pointer (some ⟨b1, 0, none⟩)] W (fun e w' => RE (.ok v) e ∧ Below W.heap.size W w') := by
  have hu25 := Try.underlying25
  have n0 : ¬ b0 = W.heap.size := by have := blk_lt h0; omega
  have n1 : ¬ b1 = W.heap.size := by have := blk_lt h1; omega
  have z0 := blk_alloc h0 (.cells #[.int .i64 0, .int .i64 0, .string (⟨#[]⟩ : ByteArray)] 25)
  have z1 := blk_alloc h1 (.cells #[.int .i64 0, .int .i64 0, .string (⟨#[]⟩ : ByteArray)] 25)
  have hc0 : (W.alloc (.cells #[.int .i64 0, .int .i64 0, .string (⟨#[]⟩ : ByteArray)] 25)).cell? ⟨b0, 0, none⟩ = some (.int .i64 op) := (blk_cell z0 0).trans rfl
  have hd0 : (W.alloc (.cells #[.int .i64 0, .int .i64 0, .string (⟨#[]⟩ : ByteArray)] 25)).cell? ⟨b1, 0, none⟩ = some (.int .i64 v.f0) := (blk_cell z1 0).trans rfl
  have hd1 : (W.alloc (.cells #[.int .i64 0, .int .i64 0, .string (⟨#[]⟩ : ByteArray)] 25)).cell? ⟨b1, 1, none⟩ = some (.int .i64 v.f1) := (blk_cell z1 1).trans rfl
  have hd2 : (W.alloc (.cells #[.int .i64 0, .int .i64 0, .string (⟨#[]⟩ : ByteArray)] 25)).cell? ⟨b1, 2, none⟩ = some (.string v.f2) := (blk_cell z1 2).trans rfl
  obtain ⟨k0, k1, k2⟩ := v
  simp only at hd0 hd1 hd2 ho hk ⊢
  have o1 : (op == 1) = true := beq_iff_eq.mpr ho
  have o2 : (op == 2) = false := beq_eq_false_iff_ne.mpr (by omega)
  have e0 : (k0 == 0) = true := beq_iff_eq.mpr hk
  clear h0 h1 z0 z1 ho hk
  go_enter Try.func53, Try.ntmps53
  go_wp2_with (first | (go_at_call 41; (with_reducible refine (calc_truth.calls _ _ _ _ _ (truth_f _)).mono ?_); rintro e w1 ⟨rfl, hb⟩; have HB := Aside0.mk hb; clear hb) | (go_at_call 45; (with_reducible refine (calc_number.calls _ _ _ _ _ (number_f _)).mono ?_); rintro e w1 ⟨rfl, hb⟩; have HB := Aside0.mk hb; clear hb) | (go_at_call 30; (with_reducible refine (calc_check.yes _ _).mono ?_); rintro e w' ⟨rfl, rfl⟩) | (go_at_call 30; (with_reducible refine (calc_check.no _ _).mono ?_); rintro e w' ⟨rfl, rfl⟩))
  exact bodyPost_ret (v := .agg #[.int .i64 k0, .int .i64 k1, .string k2]) (by simp [results, Try.results53, go_sem]) rfl ⟨rfl, by repeat (first | exact Below.refl _ _ | refine Below.setCell ?_ (Nat.le_refl _) _ | apply below_alloc)⟩
set_option maxHeartbeats 1000000 in
set_option maxRecDepth 100000 in
theorem calc_Unary1.null2 (op : Int) (v : S25) (b0 b1 : Nat) (W : World) (h0 : W.heap[b0]? = some (.cells #[.int .i64 op] 3 (0, 0))) (h1 : W.heap[b1]? = some (.cells #[.int .i64 v.f0, .int .i64 v.f1, .string v.f2] 25 (0, 0))) (ho : op = 2) (hk : v.f0 = 0) :
    Calls Try.prog 53 #[.pointer (some ⟨b0, 0, none⟩), .pointer (some ⟨b1, 0, none⟩)] W (fun e w' => RE (.ok v) e ∧ Below W.heap.size W w') := by
  have hu25 := Try.underlying25
  have n0 : ¬ b0 = W.heap.size := by have := blk_lt h0; omega
  have n1 : ¬ b1 = W.heap.size := by have := blk_lt h1; omega
  have z0 := blk_alloc h0 (.cells #[.int .i64 0, .int .i64 0, .string (⟨#[]⟩ : ByteArray)] 25)
  have z1 := blk_alloc h1 (.cells #[.int .i64 0, .int .i64 0, .string (⟨#[]⟩ : ByteArray)] 25)
  have hc0 : (W.alloc (.cells #[.int .i64 0, .int .i64 0, .string (⟨#[]⟩ : ByteArray)] 25)).cell? ⟨b0, 0, none⟩ = some (.int .i64 op) := (blk_cell z0 0).trans rfl
  have hd0 : (W.alloc (.cells #[.int .i64 0, .int .i64 0, .string (⟨#[]⟩ : ByteArray)] 25)).cell? ⟨b1, 0, none⟩ = some (.int .i64 v.f0) := (blk_cell z1 0).trans rfl
  have hd1 : (W.alloc (.cells #[.int .i64 0, .int .i64 0, .string (⟨#[]⟩ : ByteArray)] 25)).cell? ⟨b1, 1, none⟩ = some (.int .i64 v.f1) := (blk_cell z1 1).trans rfl
  have hd2 : (W.alloc (.cells #[.int .i64 0, .int .i64 0, .string (⟨#[]⟩ : ByteArray)] 25)).cell? ⟨b1, 2, none⟩ = some (.string v.f2) := (blk_cell z1 2).trans rfl
  obtain ⟨k0, k1, k2⟩ := v
  simp only at hd0 hd1 hd2 ho hk ⊢
  have o1 : (op == 1) = false := beq_eq_false_iff_ne.mpr (by omega)
  have o2 : (op == 2) = true := beq_iff_eq.mpr ho
  have e0 : (k0 == 0) = true := beq_iff_eq.mpr hk
  clear h0 h1 z0 z1 ho hk
  go_enter Try.func53, Try.ntmps53
  go_wp2_with (first | (go_at_call 41; (with_reducible refine (calc_truth.calls _ _ _ _ _ (truth_f _)).mono ?_); rintro e w1 ⟨rfl, hb⟩; have HB := Aside0.mk hb; clear hb) | (go_at_call 45; (with_reducible refine (calc_number.calls _ _ _ _ _ (number_f _)).mono ?_); rintro e w1 ⟨rfl, hb⟩; have HB := Aside0.mk hb; clear hb) | (go_at_call 30; (with_reducible refine (calc_check.yes _ _).mono ?_); rintro e w' ⟨rfl, rfl⟩) | (go_at_call 30; (with_reducible refine (calc_check.no _ _).mono ?_); rintro e w' ⟨rfl, rfl⟩))
  exact bodyPost_ret (v := .agg #[.int .i64 k0, .int .i64 k1, .string k2]) (by simp [results, Try.results53, go_sem]) rfl ⟨rfl, by repeat (first | exact Below.refl _ _ | refine Below.setCell ?_ (Nat.le_refl _) _ | apply below_alloc)⟩
set_option maxHeartbeats 1000000 in
set_option maxRecDepth 100000 in
theorem calc_Unary1.not_kind (op : Int) (v : S25) (b0 b1 : Nat) (W : World) (h0 : W.heap[b0]? = some (.cells #[.int .i64 op] 3 (0, 0))) (h1 : W.heap[b1]? = some (.cells #[.int .i64 v.f0, .int .i64 v.f1, .string v.f2] 25 (0, 0))) (ho : op = 2) (hk : ¬ v.f0 = 0) (hk1 : ¬ v.f0 = 1) :
    Calls Try.prog 53 #[.pointer (some ⟨b0, 0, none⟩), .pointer (some ⟨b1, 0, none⟩)] W (fun e w' => RE (.error 35) e ∧ Below W.heap.size W w') := by
  have hu25 := Try.underlying25
  have n0 : ¬ b0 = W.heap.size := by have := blk_lt h0; omega
  have n1 : ¬ b1 = W.heap.size := by have := blk_lt h1; omega
  have z0 := blk_alloc h0 (.cells #[.int .i64 0, .int .i64 0, .string (⟨#[]⟩ : ByteArray)] 25)
  have z1 := blk_alloc h1 (.cells #[.int .i64 0, .int .i64 0, .string (⟨#[]⟩ : ByteArray)] 25)
  have hc0 : (W.alloc (.cells #[.int .i64 0, .int .i64 0, .string (⟨#[]⟩ : ByteArray)] 25)).cell? ⟨b0, 0, none⟩ = some (.int .i64 op) := (blk_cell z0 0).trans rfl
  have hd0 : (W.alloc (.cells #[.int .i64 0, .int .i64 0, .string (⟨#[]⟩ : ByteArray)] 25)).cell? ⟨b1, 0, none⟩ = some (.int .i64 v.f0) := (blk_cell z1 0).trans rfl
  have hd1 : (W.alloc (.cells #[.int .i64 0, .int .i64 0, .string (⟨#[]⟩ : ByteArray)] 25)).cell? ⟨b1, 1, none⟩ = some (.int .i64 v.f1) := (blk_cell z1 1).trans rfl
  have hd2 : (W.alloc (.cells #[.int .i64 0, .int .i64 0, .string (⟨#[]⟩ : ByteArray)] 25)).cell? ⟨b1, 2, none⟩ = some (.string v.f2) := (blk_cell z1 2).trans rfl
  obtain ⟨k0, k1, k2⟩ := v
  simp only at hd0 hd1 hd2 ho hk hk1 ⊢
  have o1 : (op == 1) = false := beq_eq_false_iff_ne.mpr (by omega)
  have o2 : (op == 2) = true := beq_iff_eq.mpr ho
  have e0 : (k0 == 0) = false := beq_eq_false_iff_ne.mpr hk
  have e1 : (k0 == 1) = false := beq_eq_false_iff_ne.mpr hk1
  clear h0 h1 z0 z1 ho hk hk1
  go_enter Try.func53, Try.ntmps53
  go_wp2_with (first | (go_at_call 41; (with_reducible refine (calc_truth.calls _ _ _ _ _ (truth_f _)).mono ?_); rintro e w1 ⟨rfl, hb⟩; have HB := Aside0.mk hb; clear hb) | (go_at_call 45; (with_reducible refine (calc_number.calls _ _ _ _ _ (number_f _)).mono ?_); rintro e w1 ⟨rfl, hb⟩; have HB := Aside0.mk hb; clear hb) | (go_at_call 30; (with_reducible refine (calc_check.yes _ _).mono ?_); rintro e w' ⟨rfl, rfl⟩) | (go_at_call 30; (with_reducible refine (calc_check.no _ _).mono ?_); rintro e w' ⟨rfl, rfl⟩))
  exact ⟨rfl, rfl, by repeat (first | exact Below.refl _ _ | apply below_alloc | apply below_drew1 | apply pw_below_drewN)⟩
set_option maxHeartbeats 1000000 in
set_option maxRecDepth 100000 in
theorem calc_Unary1.neg_kind (op : Int) (v : S25) (b0 b1 : Nat) (W : World) (h0 : W.heap[b0]? = some (.cells #[.int .i64 op] 3 (0, 0))) (h1 : W.heap[b1]? = some (.cells #[.int .i64 v.f0, .int .i64 v.f1, .string v.f2] 25 (0, 0))) (ho : op = 1) (hk : ¬ v.f0 = 0) (hk2 : ¬ v.f0 = 2) :
    Calls Try.prog 53 #[.pointer (some ⟨b0, 0, none⟩), .pointer (some ⟨b1, 0, none⟩)] W (fun e w' => RE (.error 35) e ∧ Below W.heap.size W w') := by
  have hu25 := Try.underlying25
  have n0 : ¬ b0 = W.heap.size := by have := blk_lt h0; omega
  have n1 : ¬ b1 = W.heap.size := by have := blk_lt h1; omega
  have z0 := blk_alloc h0 (.cells #[.int .i64 0, .int .i64 0, .string (⟨#[]⟩ : ByteArray)] 25)
  have z1 := blk_alloc h1 (.cells #[.int .i64 0, .int .i64 0, .string (⟨#[]⟩ : ByteArray)] 25)
  have hc0 : (W.alloc (.cells #[.int .i64 0, .int .i64 0, .string (⟨#[]⟩ : ByteArray)] 25)).cell? ⟨b0, 0, none⟩ = some (.int .i64 op) := (blk_cell z0 0).trans rfl
  have hd0 : (W.alloc (.cells #[.int .i64 0, .int .i64 0, .string (⟨#[]⟩ : ByteArray)] 25)).cell? ⟨b1, 0, none⟩ = some (.int .i64 v.f0) := (blk_cell z1 0).trans rfl
  have hd1 : (W.alloc (.cells #[.int .i64 0, .int .i64 0, .string (⟨#[]⟩ : ByteArray)] 25)).cell? ⟨b1, 1, none⟩ = some (.int .i64 v.f1) := (blk_cell z1 1).trans rfl
  have hd2 : (W.alloc (.cells #[.int .i64 0, .int .i64 0, .string (⟨#[]⟩ : ByteArray)] 25)).cell? ⟨b1, 2, none⟩ = some (.string v.f2) := (blk_cell z1 2).trans rfl
  obtain ⟨k0, k1, k2⟩ := v
  simp only at hd0 hd1 hd2 ho hk hk2 ⊢
  have o1 : (op == 1) = true := beq_iff_eq.mpr ho
  have o2 : (op == 2) = false := beq_eq_false_iff_ne.mpr (by omega)
  have e0 : (k0 == 0) = false := beq_eq_false_iff_ne.mpr hk
  have e2 : (k0 == 2) = false := beq_eq_false_iff_ne.mpr hk2
  clear h0 h1 z0 z1 ho hk hk2
  go_enter Try.func53, Try.ntmps53
  go_wp2_with (first | (go_at_call 41; (with_reducible refine (calc_truth.calls _ _ _ _ _ (truth_f _)).mono ?_); rintro e w1 ⟨rfl, hb⟩; have HB := Aside0.mk hb; clear hb) | (go_at_call 45; (with_reducible refine (calc_number.calls _ _ _ _ _ (number_f _)).mono ?_); rintro e w1 ⟨rfl, hb⟩; have HB := Aside0.mk hb; clear hb) | (go_at_call 30; (with_reducible refine (calc_check.yes _ _).mono ?_); rintro e w' ⟨rfl, rfl⟩) | (go_at_call 30; (with_reducible refine (calc_check.no _ _).mono ?_); rintro e w' ⟨rfl, rfl⟩))
  exact ⟨rfl, rfl, by repeat (first | exact Below.refl _ _ | apply below_alloc | apply below_drew1 | apply pw_below_drewN)⟩
set_option maxHeartbeats 1000000 in
set_option maxRecDepth 100000 in
theorem calc_Unary1.neg_least (op : Int) (v : S25) (b0 b1 : Nat) (W : World) (h0 : W.heap[b0]? = some (.cells #[.int .i64 op] 3 (0, 0))) (h1 : W.heap[b1]? = some (.cells #[.int .i64 v.f0, .int .i64 v.f1, .string v.f2] 25 (0, 0))) (ho : op = 1) (hk : v.f0 = 2) (hl : v.f1 = -9223372036854775808) :
    Calls Try.prog 53 #[.pointer (some ⟨b0, 0, none⟩), .pointer (some ⟨b1, 0, none⟩)] W (fun e w' => RE (.error 40) e ∧ Below W.heap.size W w') := by
  have hu25 := Try.underlying25
  have n0 : ¬ b0 = W.heap.size := by have := blk_lt h0; omega
  have n1 : ¬ b1 = W.heap.size := by have := blk_lt h1; omega
  have z0 := blk_alloc h0 (.cells #[.int .i64 0, .int .i64 0, .string (⟨#[]⟩ : ByteArray)] 25)
  have z1 := blk_alloc h1 (.cells #[.int .i64 0, .int .i64 0, .string (⟨#[]⟩ : ByteArray)] 25)
  have hc0 : (W.alloc (.cells #[.int .i64 0, .int .i64 0, .string (⟨#[]⟩ : ByteArray)] 25)).cell? ⟨b0, 0, none⟩ = some (.int .i64 op) := (blk_cell z0 0).trans rfl
  have hd0 : (W.alloc (.cells #[.int .i64 0, .int .i64 0, .string (⟨#[]⟩ : ByteArray)] 25)).cell? ⟨b1, 0, none⟩ = some (.int .i64 v.f0) := (blk_cell z1 0).trans rfl
  have hd1 : (W.alloc (.cells #[.int .i64 0, .int .i64 0, .string (⟨#[]⟩ : ByteArray)] 25)).cell? ⟨b1, 1, none⟩ = some (.int .i64 v.f1) := (blk_cell z1 1).trans rfl
  have hd2 : (W.alloc (.cells #[.int .i64 0, .int .i64 0, .string (⟨#[]⟩ : ByteArray)] 25)).cell? ⟨b1, 2, none⟩ = some (.string v.f2) := (blk_cell z1 2).trans rfl
  obtain ⟨k0, k1, k2⟩ := v
  simp only at hd0 hd1 hd2 ho hk hl ⊢
  have o1 : (op == 1) = true := beq_iff_eq.mpr ho
  have o2 : (op == 2) = false := beq_eq_false_iff_ne.mpr (by omega)
  have e0 : (k0 == 0) = false := beq_eq_false_iff_ne.mpr (by omega)
  have e1 : (k0 == 1) = false := beq_eq_false_iff_ne.mpr (by omega)
  have e2 : (k0 == 2) = true := beq_iff_eq.mpr hk
  have q : (k1 != -9223372036854775808) = false := bne_eq_false_iff_eq.mpr hl
  clear h0 h1 z0 z1 ho hk hl
  go_enter Try.func53, Try.ntmps53
  go_wp2_with (first | (go_at_call 41; (with_reducible refine (calc_truth.calls _ _ _ _ _ (truth_f _)).mono ?_); rintro e w1 ⟨rfl, hb⟩; have HB := Aside0.mk hb; clear hb) | (go_at_call 45; (with_reducible refine (calc_number.calls _ _ _ _ _ (number_f _)).mono ?_); rintro e w1 ⟨rfl, hb⟩; have HB := Aside0.mk hb; clear hb) | (go_at_call 30; (with_reducible refine (calc_check.yes _ _).mono ?_); rintro e w' ⟨rfl, rfl⟩) | (go_at_call 30; (with_reducible refine (calc_check.no _ _).mono ?_); rintro e w' ⟨rfl, rfl⟩))
  exact ⟨rfl, rfl, by repeat (first | exact Below.refl _ _ | apply below_alloc | apply below_drew1 | apply pw_below_drewN)⟩
set_option maxHeartbeats 1000000 in
set_option maxRecDepth 100000 in
theorem calc_Unary1.not1 (op : Int) (v : S25) (b0 b1 : Nat) (W : World) (h0 : W.heap[b0]? = some (.cells #[.int .i64 op] 3 (0, 0))) (h1 : W.heap[b1]? = some (.cells #[.int .i64 v.f0, .int .i64 v.f1, .string v.f2] 25 (0, 0))) (ho : op = 2) (hk : v.f0 = 1) (hi : v.f1 = 0) :
    Calls Try.prog 53 #[.pointer (some ⟨b0, 0, none⟩), .pointer (some ⟨b1, 0, none⟩)] W (fun e w' => RE (.ok (truthV true)) e ∧ Below W.heap.size W w') := by
  have hu25 := Try.underlying25
  have n0 : ¬ b0 = W.heap.size := by have := blk_lt h0; omega
  have n1 : ¬ b1 = W.heap.size := by have := blk_lt h1; omega
  have z0 := blk_alloc h0 (.cells #[.int .i64 0, .int .i64 0, .string (⟨#[]⟩ : ByteArray)] 25)
  have z1 := blk_alloc h1 (.cells #[.int .i64 0, .int .i64 0, .string (⟨#[]⟩ : ByteArray)] 25)
  have hc0 : (W.alloc (.cells #[.int .i64 0, .int .i64 0, .string (⟨#[]⟩ : ByteArray)] 25)).cell? ⟨b0, 0, none⟩ = some (.int .i64 op) := (blk_cell z0 0).trans rfl
  have hd0 : (W.alloc (.cells #[.int .i64 0, .int .i64 0, .string (⟨#[]⟩ : ByteArray)] 25)).cell? ⟨b1, 0, none⟩ = some (.int .i64 v.f0) := (blk_cell z1 0).trans rfl
  have hd1 : (W.alloc (.cells #[.int .i64 0, .int .i64 0, .string (⟨#[]⟩ : ByteArray)] 25)).cell? ⟨b1, 1, none⟩ = some (.int .i64 v.f1) := (blk_cell z1 1).trans rfl
  have hd2 : (W.alloc (.cells #[.int .i64 0, .int .i64 0, .string (⟨#[]⟩ : ByteArray)] 25)).cell? ⟨b1, 2, none⟩ = some (.string v.f2) := (blk_cell z1 2).trans rfl
  obtain ⟨k0, k1, k2⟩ := v
  simp only at hd0 hd1 hd2 ho hk hi ⊢
  have o1 : (op == 1) = false := beq_eq_false_iff_ne.mpr (by omega)
  have o2 : (op == 2) = true := beq_iff_eq.mpr ho
  have e0 : (k0 == 0) = false := beq_eq_false_iff_ne.mpr (by omega)
  have e1 : (k0 == 1) = true := beq_iff_eq.mpr hk
  have q : (k1 == 0) = true := beq_iff_eq.mpr hi
  clear h0 h1 z0 z1 ho hk hi
  go_enter Try.func53, Try.ntmps53
  go_wp2_with (first | (go_at_call 30; (with_reducible refine (calc_check.yes _ _).mono ?_); rintro e w' ⟨rfl, rfl⟩))
  refine (calc_truth.calls true _ _ _ _ (show calc_truth.f true = some (1, 1, V0) from rfl)).mono ?_
  rintro e w1 ⟨rfl, hb⟩
  have HB := Aside0.mk hb
  clear hb
  have F0 := Deep.blk_alloc_new W (.cells #[.int .i64 0, .int .i64 0, .string (⟨#[]⟩ : ByteArray)] 25)
  have F1 := (HB.out.block _ (blk_lt F0)).trans F0
  have FB := Aside0.mk (below_step (below_alloc (Below.refl W.heap.size W) (.cells #[.int .i64 0, .int .i64 0, .string (⟨#[]⟩ : ByteArray)] 25)) HB.out)
  have g0 : w1.cell? ⟨W.heap.size, 0, none⟩ = some (.int .i64 0) := (blk_cell F1 0).trans rfl
  have g1 : w1.cell? ⟨W.heap.size, 1, none⟩ = some (.int .i64 0) := (blk_cell F1 1).trans rfl
  have g2 : w1.cell? ⟨W.heap.size, 2, none⟩ = some (.string (⟨#[]⟩ : ByteArray)) := (blk_cell F1 2).trans rfl
  have gf0 := blk_frozen F1 0
  have gf1 := blk_frozen F1 1
  have gf2 := blk_frozen F1 2
  clear F0 F1
  go_wp2_with fail
  exact bodyPost_ret (v := .agg #[.int .i64 1, .int .i64 1, .string V0]) (by simp [results, Try.results53, go_sem, g0, g1, g2]) rfl ⟨rfl, Below.setCell (Below.setCell (Below.setCell FB.out (Nat.le_refl _) _) (Nat.le_refl _) _) (Nat.le_refl _) _⟩
set_option maxHeartbeats 1000000 in
set_option maxRecDepth 100000 in
theorem calc_Unary1.not0 (op : Int) (v : S25) (b0 b1 : Nat) (W : World) (h0 : W.heap[b0]? = some (.cells #[.int .i64 op] 3 (0, 0))) (h1 : W.heap[b1]? = some (.cells #[.int .i64 v.f0, .int .i64 v.f1, .string v.f2] 25 (0, 0))) (ho : op = 2) (hk : v.f0 = 1) (hi : ¬ v.f1 = 0) :
    Calls Try.prog 53 #[.pointer (some ⟨b0, 0, none⟩), .pointer (some ⟨b1, 0, none⟩)] W (fun e w' => RE (.ok (truthV false)) e ∧ Below W.heap.size W w') := by
  have hu25 := Try.underlying25
  have n0 : ¬ b0 = W.heap.size := by have := blk_lt h0; omega
  have n1 : ¬ b1 = W.heap.size := by have := blk_lt h1; omega
  have z0 := blk_alloc h0 (.cells #[.int .i64 0, .int .i64 0, .string (⟨#[]⟩ : ByteArray)] 25)
  have z1 := blk_alloc h1 (.cells #[.int .i64 0, .int .i64 0, .string (⟨#[]⟩ : ByteArray)] 25)
  have hc0 : (W.alloc (.cells #[.int .i64 0, .int .i64 0, .string (⟨#[]⟩ : ByteArray)] 25)).cell? ⟨b0, 0, none⟩ = some (.int .i64 op) := (blk_cell z0 0).trans rfl
  have hd0 : (W.alloc (.cells #[.int .i64 0, .int .i64 0, .string (⟨#[]⟩ : ByteArray)] 25)).cell? ⟨b1, 0, none⟩ = some (.int .i64 v.f0) := (blk_cell z1 0).trans rfl
  have hd1 : (W.alloc (.cells #[.int .i64 0, .int .i64 0, .string (⟨#[]⟩ : ByteArray)] 25)).cell? ⟨b1, 1, none⟩ = some (.int .i64 v.f1) := (blk_cell z1 1).trans rfl
  have hd2 : (W.alloc (.cells #[.int .i64 0, .int .i64 0, .string (⟨#[]⟩ : ByteArray)] 25)).cell? ⟨b1, 2, none⟩ = some (.string v.f2) := (blk_cell z1 2).trans rfl
  obtain ⟨k0, k1, k2⟩ := v
  simp only at hd0 hd1 hd2 ho hk hi ⊢
  have o1 : (op == 1) = false := beq_eq_false_iff_ne.mpr (by omega)
  have o2 : (op == 2) = true := beq_iff_eq.mpr ho
  have e0 : (k0 == 0) = false := beq_eq_false_iff_ne.mpr (by omega)
  have e1 : (k0 == 1) = true := beq_iff_eq.mpr hk
  have q : (k1 == 0) = false := beq_eq_false_iff_ne.mpr hi
  clear h0 h1 z0 z1 ho hk hi
  go_enter Try.func53, Try.ntmps53
  go_wp2_with (first | (go_at_call 30; (with_reducible refine (calc_check.yes _ _).mono ?_); rintro e w' ⟨rfl, rfl⟩))
  refine (calc_truth.calls false _ _ _ _ (show calc_truth.f false = some (1, 0, V0) from rfl)).mono ?_
  rintro e w1 ⟨rfl, hb⟩
  have HB := Aside0.mk hb
  clear hb
  have F0 := Deep.blk_alloc_new W (.cells #[.int .i64 0, .int .i64 0, .string (⟨#[]⟩ : ByteArray)] 25)
  have F1 := (HB.out.block _ (blk_lt F0)).trans F0
  have FB := Aside0.mk (below_step (below_alloc (Below.refl W.heap.size W) (.cells #[.int .i64 0, .int .i64 0, .string (⟨#[]⟩ : ByteArray)] 25)) HB.out)
  have g0 : w1.cell? ⟨W.heap.size, 0, none⟩ = some (.int .i64 0) := (blk_cell F1 0).trans rfl
  have g1 : w1.cell? ⟨W.heap.size, 1, none⟩ = some (.int .i64 0) := (blk_cell F1 1).trans rfl
  have g2 : w1.cell? ⟨W.heap.size, 2, none⟩ = some (.string (⟨#[]⟩ : ByteArray)) := (blk_cell F1 2).trans rfl
  have gf0 := blk_frozen F1 0
  have gf1 := blk_frozen F1 1
  have gf2 := blk_frozen F1 2
  clear F0 F1
  go_wp2_with fail
  exact bodyPost_ret (v := .agg #[.int .i64 1, .int .i64 0, .string V0]) (by simp [results, Try.results53, go_sem, g0, g1, g2]) rfl ⟨rfl, Below.setCell (Below.setCell (Below.setCell FB.out (Nat.le_refl _) _) (Nat.le_refl _) _) (Nat.le_refl _) _⟩
set_option maxHeartbeats 1000000 in
set_option maxRecDepth 100000 in
theorem calc_Unary1.neg (op : Int) (v : S25) (b0 b1 : Nat) (W : World) (h0 : W.heap[b0]? = some (.cells #[.int .i64 op] 3 (0, 0))) (h1 : W.heap[b1]? = some (.cells #[.int .i64 v.f0, .int .i64 v.f1, .string v.f2] 25 (0, 0))) (ho : op = 1) (hk : v.f0 = 2) (hl : ¬ v.f1 = -9223372036854775808) (hI : In64 v.f1) :
    Calls Try.prog 53 #[.pointer (some ⟨b0, 0, none⟩), .pointer (some ⟨b1, 0, none⟩)] W (fun e w' => RE (.ok ⟨2, -v.f1, V0⟩) e ∧ Below W.heap.size W w') := by
  have hu25 := Try.underlying25
  have n0 : ¬ b0 = W.heap.size := by have := blk_lt h0; omega
  have n1 : ¬ b1 = W.heap.size := by have := blk_lt h1; omega
  have z0 := blk_alloc h0 (.cells #[.int .i64 0, .int .i64 0, .string (⟨#[]⟩ : ByteArray)] 25)
  have z1 := blk_alloc h1 (.cells #[.int .i64 0, .int .i64 0, .string (⟨#[]⟩ : ByteArray)] 25)
  have hc0 : (W.alloc (.cells #[.int .i64 0, .int .i64 0, .string (⟨#[]⟩ : ByteArray)] 25)).cell? ⟨b0, 0, none⟩ = some (.int .i64 op) := (blk_cell z0 0).trans rfl
  have hd0 : (W.alloc (.cells #[.int .i64 0, .int .i64 0, .string (⟨#[]⟩ : ByteArray)] 25)).cell? ⟨b1, 0, none⟩ = some (.int .i64 v.f0) := (blk_cell z1 0).trans rfl
  have hd1 : (W.alloc (.cells #[.int .i64 0, .int .i64 0, .string (⟨#[]⟩ : ByteArray)] 25)).cell? ⟨b1, 1, none⟩ = some (.int .i64 v.f1) := (blk_cell z1 1).trans rfl
  have hd2 : (W.alloc (.cells #[.int .i64 0, .int .i64 0, .string (⟨#[]⟩ : ByteArray)] 25)).cell? ⟨b1, 2, none⟩ = some (.string v.f2) := (blk_cell z1 2).trans rfl
  obtain ⟨k0, k1, k2⟩ := v
  simp only at hd0 hd1 hd2 ho hk hl hI ⊢
  have o1 : (op == 1) = true := beq_iff_eq.mpr ho
  have o2 : (op == 2) = false := beq_eq_false_iff_ne.mpr (by omega)
  have e0 : (k0 == 0) = false := beq_eq_false_iff_ne.mpr (by omega)
  have e1 : (k0 == 1) = false := beq_eq_false_iff_ne.mpr (by omega)
  have e2 : (k0 == 2) = true := beq_iff_eq.mpr hk
  have q : (k1 != -9223372036854775808) = true := bne_iff_ne.mpr hl
  have hw : wrap64 (-k1) = -k1 := by unfold In64 at hI; unfold wrap64; omega
  clear h0 h1 z0 z1 ho hk hl hI
  go_enter Try.func53, Try.ntmps53
  go_wp2_with (first | (go_at_call 30; (with_reducible refine (calc_check.yes _ _).mono ?_); rintro e w' ⟨rfl, rfl⟩))
  refine (calc_number.calls (-k1) _ _ _ _ (show calc_number.f (-k1) = some (2, -k1, V0) from rfl)).mono ?_
  rintro e w1 ⟨rfl, hb⟩
  have HB := Aside0.mk hb
  clear hb
  have F0 := Deep.blk_alloc_new W (.cells #[.int .i64 0, .int .i64 0, .string (⟨#[]⟩ : ByteArray)] 25)
  have F1 := (HB.out.block _ (blk_lt F0)).trans F0
  have FB := Aside0.mk (below_step (below_alloc (Below.refl W.heap.size W) (.cells #[.int .i64 0, .int .i64 0, .string (⟨#[]⟩ : ByteArray)] 25)) HB.out)
  have g0 : w1.cell? ⟨W.heap.size, 0, none⟩ = some (.int .i64 0) := (blk_cell F1 0).trans rfl
  have g1 : w1.cell? ⟨W.heap.size, 1, none⟩ = some (.int .i64 0) := (blk_cell F1 1).trans rfl
  have g2 : w1.cell? ⟨W.heap.size, 2, none⟩ = some (.string (⟨#[]⟩ : ByteArray)) := (blk_cell F1 2).trans rfl
  have gf0 := blk_frozen F1 0
  have gf1 := blk_frozen F1 1
  have gf2 := blk_frozen F1 2
  clear F0 F1
  go_wp2_with fail
  exact bodyPost_ret (v := .agg #[.int .i64 2, .int .i64 (-k1), .string V0]) (by simp [results, Try.results53, go_sem, g0, g1, g2]) rfl ⟨rfl, Below.setCell (Below.setCell (Below.setCell FB.out (Nat.le_refl _) _) (Nat.le_refl _) _) (Nat.le_refl _) _⟩
theorem calc_Unary1.calls (op : Int) (v : S25) (hI : In64 v.f1) (b0 b1 : Nat) (W : World) (h0 : W.heap[b0]? = some (.cells #[.int .i64 op] 3 (0, 0))) (h1 : W.heap[b1]? = some (.cells #[.int .i64 v.f0, .int .i64 v.f1, .string v.f2] 25 (0, 0))) :
    Calls Try.prog 53 #[.pointer (some ⟨b0, 0, none⟩), .pointer (some ⟨b1, 0, none⟩)] W (fun e w' => RE (una op v) e ∧ Below W.heap.size W w') := by
  unfold una
  by_cases ho : ¬ op = 1 ∧ ¬ op = 2
  · rw [if_pos ho]; exact calc_Unary1.op op v b0 b1 W h0 h1 ho
  rw [if_neg ho]
  have ho2 : op = 1 ∨ op = 2 := by omega
  by_cases hk : v.f0 = 0
  · rw [if_pos hk]
    rcases ho2 with h | h
    · exact calc_Unary1.null1 op v b0 b1 W h0 h1 h hk
    · exact calc_Unary1.null2 op v b0 b1 W h0 h1 h hk
  rw [if_neg hk]
  by_cases h2 : op = 2
  · rw [if_pos h2]
    by_cases h3 : v.f0 = 1
    · rw [if_pos h3]
      by_cases h4 : v.f1 = 0
      · rw [decide_eq_true h4]; exact calc_Unary1.not1 op v b0 b1 W h0 h1 h2 h3 h4
      · rw [decide_eq_false h4]; exact calc_Unary1.not0 op v b0 b1 W h0 h1 h2 h3 h4
    · rw [if_neg h3]; exact calc_Unary1.not_kind op v b0 b1 W h0 h1 h2 hk h3
  rw [if_neg h2]
  have h1' : op = 1 := by omega
  by_cases h3 : v.f0 = 2
  · rw [if_neg (fun h => h h3)]
    by_cases h4 : v.f1 = -9223372036854775808
    · rw [if_pos h4]; exact calc_Unary1.neg_least op v b0 b1 W h0 h1 h1' h3 h4
    · rw [if_neg h4]; exact calc_Unary1.neg op v b0 b1 W h0 h1 h1' h3 h4 hI
  · rw [if_pos h3]; exact calc_Unary1.neg_kind op v b0 b1 W h0 h1 h1' hk h3
set_option maxHeartbeats 1000000 in
set_option maxRecDepth 100000 in
theorem calc_Unary.calls (op : Int) (v : S25) (hI : In64 v.f1) (w : World) :
    Calls Try.prog 19 #[.int .i64 op, .agg #[.int .i64 v.f0, .int .i64 v.f1, .string v.f2]] w fun e w' => e = .returned (.tuple #[encV (outE (una op v)).1, .int .i64 (outE (una op v)).2]) ∧ Below w.heap.size w w' := by
  have hu25 := Try.underlying25
  have hmf : ∀ (fn : Fn) (first cap : Array Value) (w : World), (Instr.makeFunc fn first cap).run Try.prog w = .ok (.func fn first cap) w := fun _ _ _ _ => rfl
  have HI := Aside0.mk hI
  clear hI
  obtain ⟨r, hr⟩ : ∃ r, outE (una op v) = r := ⟨_, rfl⟩
  rw [hr]
  go_enter Try.func19, Try.ntmps19
  go_wp2_with fail
  obtain ⟨W, hW⟩ : ∃ W, ((w.alloc (.cells #[.int .i64 op] 3)).alloc (.cells #[.int .i64 v.f0, .int .i64 v.f1, .string v.f2] 25)).alloc (.cells #[.int .i64 0, .int .i64 0, .string (⟨#[]⟩ : ByteArray)] 25) = W := ⟨_, rfl⟩
  have F0 : W.heap[w.heap.size]? = some (.cells #[.int .i64 op] 3 (0, 0)) := by rw [← hW]; exact blk_alloc (blk_alloc (Deep.blk_alloc_new w _) _) _
  have F1 : W.heap[w.heap.size + 1]? = some (.cells #[.int .i64 v.f0, .int .i64 v.f1, .string v.f2] 25 (0, 0)) := by
    have := Deep.blk_alloc_new (w.alloc (.cells #[.int .i64 op] 3)) (.cells #[.int .i64 v.f0, .int .i64 v.f1, .string v.f2] 25)
    rw [← hW]
    exact blk_alloc (by simpa using this) _
  have F2 : W.heap[w.heap.size + 1 + 1]? = some (.cells #[.int .i64 0, .int .i64 0, .string (⟨#[]⟩ : ByteArray)] 25 (0, 0)) := by
    have := Deep.blk_alloc_new ((w.alloc (.cells #[.int .i64 op] 3)).alloc (.cells #[.int .i64 v.f0, .int .i64 v.f1, .string v.f2] 25)) (.cells #[.int .i64 0, .int .i64 0, .string (⟨#[]⟩ : ByteArray)] 25)
    rw [← hW]
    simpa using this
  have FB : Below w.heap.size w W := by rw [← hW]; exact below_alloc (below_alloc (below_alloc (Below.refl _ _) _) _) _
  rw [hW]
  refine (calc_caught.u _ _ W (una op v) (fun W1 hb => calc_Unary1.calls op v HI.out _ _ W1 ((hb.block _ (blk_lt F0)).trans F0) ((hb.block _ (blk_lt F1)).trans F1))).mono ?_
  rintro e w1 ⟨rfl, hb⟩
  have F3 := (hb.block _ (blk_lt F2)).trans F2
  have GB := Aside0.mk (below_step FB hb)
  rw [hr]
  obtain ⟨⟨x0, x1, x2⟩, c⟩ := r
  have g0 : w1.cell? ⟨w.heap.size + 1 + 1, 0, none⟩ = some (.int .i64 0) := (blk_cell F3 0).trans rfl
  have g1 : w1.cell? ⟨w.heap.size + 1 + 1, 1, none⟩ = some (.int .i64 0) := (blk_cell F3 1).trans rfl
  have g2 : w1.cell? ⟨w.heap.size + 1 + 1, 2, none⟩ = some (.string (⟨#[]⟩ : ByteArray)) := (blk_cell F3 2).trans rfl
  have gf0 := blk_frozen F3 0
  have gf1 := blk_frozen F3 1
  have gf2 := blk_frozen F3 2
  clear F0 F1 F2 F3 FB hb hW
  simp only [encV]
  go_wp2_with fail
  exact bodyPost_ret (v := .tuple #[.agg #[.int .i64 x0, .int .i64 x1, .string x2], .int .i64 c]) (by simp [results, Try.results19, go_sem, g0, g1, g2]) rfl ⟨rfl, Below.setCell (Below.setCell (Below.setCell GB.out (by show w.heap.size ≤ w.heap.size + 1 + 1; omega) _) (by show w.heap.size ≤ w.heap.size + 1 + 1; omega) _) (by show w.heap.size ≤ w.heap.size + 1 + 1; omega) _⟩
end Go.Proofs.Ytfbeklbjlkgbnaa.P
