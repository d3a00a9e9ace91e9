-- Laid by a program of this session: checked by Lean.
import Derived.Test.YtbdoennkalnkcaaP6h
namespace Go.Proofs.Ytbdoennkalnkcaa.P
open Go.RowKit Go.Proofs.YtbdoennkalnkcaaW.PrintWords Go.Proofs.YtbdoennkalnkcaaW.PrintLast Go.Proofs.YtbdoennkalnkcaaW.PrintMore
attribute [local go_sem] max2_int min2_int max_two min_two max_three min_three max_four min_four   -- for this text's walks alone
set_option linter.unusedVariables false
set_option linter.unusedSimpArgs false

attribute [local go_sem high] eqI_run
set_option maxHeartbeats 2000000 in
set_option maxRecDepth 100000 in
theorem rightI.d1f00u (a0_1 : Int) (a0_2 : Int) (a0_3 : Int) (a0_4 : Int) (a0_5 : Int) (a0_6 : Int) (a0_7 : ByteArray) (a1 : Int) (a2 : Int) (w : World) (h0 : regI a0_2 = false) (t1 : decide (a1 < a0_3) = false) :
    Calls Try.prog 21 #[.agg #[.int .i64 1, .int .i64 a0_1, .int .i64 a0_2, .int .i64 a0_3, .int .i64 a0_4, .int .i64 a0_5, .int .i64 a0_6, .string a0_7], .int .i64 a1, .int .i64 a2] w fun e w' => e = .returned (.bool false) ∧ Below w.heap.size w w' := by
  have hu49 := Try.underlying49
  have hu30 := Try.underlying30
  go_enter Try.func21, Try.ntmps21
  go_wp2_with (first | (go_at_call 33; (with_reducible refine (regI_calls _ _).mono ?_); rintro e w' ⟨rfl, rfl⟩) | (go_at_call 22; (with_reducible refine (quarryref01_Check.calls a0_5 a0_6 a0_7 _ _ rfl).mono ?_); rintro e w2 ⟨rfl, hb⟩; obtain ⟨hc, hf⟩ := bcellI hb; have hs := hb.size; simp at hs; have HB2 := Aside0.mk hb; clear hb))
  (try (go_region; go_wp2_with (first | (go_at_call 33; (with_reducible refine (regI_calls _ _).mono ?_); rintro e w' ⟨rfl, rfl⟩) | (go_at_call 22; (with_reducible refine (quarryref01_Check.calls a0_5 a0_6 a0_7 _ _ rfl).mono ?_); rintro e w2 ⟨rfl, hb⟩; obtain ⟨hc, hf⟩ := bcellI hb; have hs := hb.size; simp at hs; have HB2 := Aside0.mk hb; clear hb))))
  go_ret
  exact ⟨rfl, by first | (refine Below.trans ?_ (HB2.out.mono (by simp; omega)); repeat (first | exact Below.refl _ _ | apply below_drew1 | apply pw_below_drewN | apply below_alloc | refine Below.setCell ?_ (by simp) _)) | (repeat (first | exact Below.refl _ _ | apply below_drew1 | apply pw_below_drewN | apply below_alloc | refine Below.setCell ?_ (by simp) _))⟩
set_option maxHeartbeats 2000000 in
set_option maxRecDepth 100000 in
theorem rightI.d1n0u (a0_1 : Int) (a0_2 : Int) (a0_3 : Int) (a0_4 : Int) (a0_5 : Int) (a0_6 : Int) (a0_7 : ByteArray) (a1 : Int) (a2 : Int) (w : World) (h0 : regI a0_2 = true) (h1 : chkR a0_5 a0_6 a0_7 = 0) (he : eqI 1 a0_1 a0_2 a0_3 a0_4 a0_5 a0_6 a0_7 1 0 a0_2 0 0 a0_5 a0_6 a0_7 = false) (t1 : decide (a1 < a0_3) = false) :
    Calls Try.prog 21 #[.agg #[.int .i64 1, .int .i64 a0_1, .int .i64 a0_2, .int .i64 a0_3, .int .i64 a0_4, .int .i64 a0_5, .int .i64 a0_6, .string a0_7], .int .i64 a1, .int .i64 a2] w fun e w' => e = .returned (.bool false) ∧ Below w.heap.size w w' := by
  have hu49 := Try.underlying49
  have hu30 := Try.underlying30
  have q1 : (chkR a0_5 a0_6 a0_7 == 0) = true := beq_iff_eq.mpr h1
  clear h1
  go_enter Try.func21, Try.ntmps21
  go_wp2_with (first | (go_at_call 33; (with_reducible refine (regI_calls _ _).mono ?_); rintro e w' ⟨rfl, rfl⟩) | (go_at_call 22; (with_reducible refine (quarryref01_Check.calls a0_5 a0_6 a0_7 _ _ rfl).mono ?_); rintro e w2 ⟨rfl, hb⟩; obtain ⟨hc, hf⟩ := bcellI hb; have hs := hb.size; simp at hs; have HB2 := Aside0.mk hb; clear hb))
  (try (go_region; go_wp2_with (first | (go_at_call 33; (with_reducible refine (regI_calls _ _).mono ?_); rintro e w' ⟨rfl, rfl⟩) | (go_at_call 22; (with_reducible refine (quarryref01_Check.calls a0_5 a0_6 a0_7 _ _ rfl).mono ?_); rintro e w2 ⟨rfl, hb⟩; obtain ⟨hc, hf⟩ := bcellI hb; have hs := hb.size; simp at hs; have HB2 := Aside0.mk hb; clear hb))))
  go_ret
  exact ⟨rfl, by first | (refine Below.trans ?_ (HB2.out.mono (by simp; omega)); repeat (first | exact Below.refl _ _ | apply below_drew1 | apply pw_below_drewN | apply below_alloc | refine Below.setCell ?_ (by simp) _)) | (repeat (first | exact Below.refl _ _ | apply below_drew1 | apply pw_below_drewN | apply below_alloc | refine Below.setCell ?_ (by simp) _))⟩
set_option maxHeartbeats 2000000 in
set_option maxRecDepth 100000 in
theorem rightI.d2f00u (a0_1 : Int) (a0_2 : Int) (a0_3 : Int) (a0_4 : Int) (a0_5 : Int) (a0_6 : Int) (a0_7 : ByteArray) (a1 : Int) (a2 : Int) (w : World) (h0 : regI a0_2 = false) (t1 : decide (a1 < a0_3) = false) :
    Calls Try.prog 21 #[.agg #[.int .i64 2, .int .i64 a0_1, .int .i64 a0_2, .int .i64 a0_3, .int .i64 a0_4, .int .i64 a0_5, .int .i64 a0_6, .string a0_7], .int .i64 a1, .int .i64 a2] w fun e w' => e = .returned (.bool false) ∧ Below w.heap.size w w' := by
  have hu49 := Try.underlying49
  have hu30 := Try.underlying30
  go_enter Try.func21, Try.ntmps21
  go_wp2_with (first | (go_at_call 33; (with_reducible refine (regI_calls _ _).mono ?_); rintro e w' ⟨rfl, rfl⟩))
  (try (go_region; go_wp2_with (first | (go_at_call 33; (with_reducible refine (regI_calls _ _).mono ?_); rintro e w' ⟨rfl, rfl⟩))))
  go_ret
  exact ⟨rfl, by repeat (first | exact Below.refl _ _ | apply below_drew1 | apply pw_below_drewN | apply below_alloc | refine Below.setCell ?_ (by simp) _)⟩
set_option maxHeartbeats 2000000 in
set_option maxRecDepth 100000 in
theorem rightI.d2n0u (a0_1 : Int) (a0_2 : Int) (a0_3 : Int) (a0_4 : Int) (a0_5 : Int) (a0_6 : Int) (a0_7 : ByteArray) (a1 : Int) (a2 : Int) (w : World) (h0 : regI a0_2 = true) (h1 : decide (0 ≤ a0_3) = true) (he : eqI 2 a0_1 a0_2 a0_3 a0_4 a0_5 a0_6 a0_7 2 0 a0_2 a0_3 0 0 0 (⟨#[]⟩ : ByteArray) = false) (t1 : decide (a1 < a0_3) = false) :
    Calls Try.prog 21 #[.agg #[.int .i64 2, .int .i64 a0_1, .int .i64 a0_2, .int .i64 a0_3, .int .i64 a0_4, .int .i64 a0_5, .int .i64 a0_6, .string a0_7], .int .i64 a1, .int .i64 a2] w fun e w' => e = .returned (.bool false) ∧ Below w.heap.size w w' := by
  have hu49 := Try.underlying49
  have hu30 := Try.underlying30
  go_enter Try.func21, Try.ntmps21
  go_wp2_with (first | (go_at_call 33; (with_reducible refine (regI_calls _ _).mono ?_); rintro e w' ⟨rfl, rfl⟩))
  (try (go_region; go_wp2_with (first | (go_at_call 33; (with_reducible refine (regI_calls _ _).mono ?_); rintro e w' ⟨rfl, rfl⟩))))
  go_ret
  exact ⟨rfl, by repeat (first | exact Below.refl _ _ | apply below_drew1 | apply pw_below_drewN | apply below_alloc | refine Below.setCell ?_ (by simp) _)⟩
set_option maxHeartbeats 2000000 in
set_option maxRecDepth 100000 in
theorem rightI.d3f00u (a0_1 : Int) (a0_2 : Int) (a0_3 : Int) (a0_4 : Int) (a0_5 : Int) (a0_6 : Int) (a0_7 : ByteArray) (a1 : Int) (a2 : Int) (w : World) (h0 : regI a0_2 = false) (t1 : decide (a1 < a0_3) = false) :
    Calls Try.prog 21 #[.agg #[.int .i64 3, .int .i64 a0_1, .int .i64 a0_2, .int .i64 a0_3, .int .i64 a0_4, .int .i64 a0_5, .int .i64 a0_6, .string a0_7], .int .i64 a1, .int .i64 a2] w fun e w' => e = .returned (.bool false) ∧ Below w.heap.size w w' := by
  have hu49 := Try.underlying49
  have hu30 := Try.underlying30
  go_enter Try.func21, Try.ntmps21
  go_wp2_with (first | (go_at_call 33; (with_reducible refine (regI_calls _ _).mono ?_); rintro e w' ⟨rfl, rfl⟩))
  (try (go_region; go_wp2_with (first | (go_at_call 33; (with_reducible refine (regI_calls _ _).mono ?_); rintro e w' ⟨rfl, rfl⟩))))
  go_ret
  exact ⟨rfl, by repeat (first | exact Below.refl _ _ | apply below_drew1 | apply pw_below_drewN | apply below_alloc | refine Below.setCell ?_ (by simp) _)⟩
set_option maxHeartbeats 2000000 in
set_option maxRecDepth 100000 in
theorem rightI.d3n0u (a0_1 : Int) (a0_2 : Int) (a0_3 : Int) (a0_4 : Int) (a0_5 : Int) (a0_6 : Int) (a0_7 : ByteArray) (a1 : Int) (a2 : Int) (w : World) (h0 : regI a0_2 = true) (h1 : decide (0 ≤ a0_3) = true) (he : eqI 3 a0_1 a0_2 a0_3 a0_4 a0_5 a0_6 a0_7 3 0 a0_2 a0_3 0 0 0 (⟨#[]⟩ : ByteArray) = false) (t1 : decide (a1 < a0_3) = false) :
    Calls Try.prog 21 #[.agg #[.int .i64 3, .int .i64 a0_1, .int .i64 a0_2, .int .i64 a0_3, .int .i64 a0_4, .int .i64 a0_5, .int .i64 a0_6, .string a0_7], .int .i64 a1, .int .i64 a2] w fun e w' => e = .returned (.bool false) ∧ Below w.heap.size w w' := by
  have hu49 := Try.underlying49
  have hu30 := Try.underlying30
  go_enter Try.func21, Try.ntmps21
  go_wp2_with (first | (go_at_call 33; (with_reducible refine (regI_calls _ _).mono ?_); rintro e w' ⟨rfl, rfl⟩))
  (try (go_region; go_wp2_with (first | (go_at_call 33; (with_reducible refine (regI_calls _ _).mono ?_); rintro e w' ⟨rfl, rfl⟩))))
  go_ret
  exact ⟨rfl, by repeat (first | exact Below.refl _ _ | apply below_drew1 | apply pw_below_drewN | apply below_alloc | refine Below.setCell ?_ (by simp) _)⟩
set_option maxHeartbeats 2000000 in
set_option maxRecDepth 100000 in
theorem rightI.d4f00u (a0_1 : Int) (a0_2 : Int) (a0_3 : Int) (a0_4 : Int) (a0_5 : Int) (a0_6 : Int) (a0_7 : ByteArray) (a1 : Int) (a2 : Int) (w : World) (h0 : regI a0_2 = false) (t1 : decide (a1 < a0_3) = false) :
    Calls Try.prog 21 #[.agg #[.int .i64 4, .int .i64 a0_1, .int .i64 a0_2, .int .i64 a0_3, .int .i64 a0_4, .int .i64 a0_5, .int .i64 a0_6, .string a0_7], .int .i64 a1, .int .i64 a2] w fun e w' => e = .returned (.bool false) ∧ Below w.heap.size w w' := by
  have hu49 := Try.underlying49
  have hu30 := Try.underlying30
  go_enter Try.func21, Try.ntmps21
  go_wp2_with (first | (go_at_call 33; (with_reducible refine (regI_calls _ _).mono ?_); rintro e w' ⟨rfl, rfl⟩))
  (try (go_region; go_wp2_with (first | (go_at_call 33; (with_reducible refine (regI_calls _ _).mono ?_); rintro e w' ⟨rfl, rfl⟩))))
  go_ret
  exact ⟨rfl, by repeat (first | exact Below.refl _ _ | apply below_drew1 | apply pw_below_drewN | apply below_alloc | refine Below.setCell ?_ (by simp) _)⟩
set_option maxHeartbeats 2000000 in
set_option maxRecDepth 100000 in
theorem rightI.d4f20u (a0_1 : Int) (a0_2 : Int) (a0_3 : Int) (a0_4 : Int) (a0_5 : Int) (a0_6 : Int) (a0_7 : ByteArray) (a1 : Int) (a2 : Int) (w : World) (h0 : regI a0_2 = true) (h1 : regI a0_3 = true) (h2a : (a0_1 == 1) = false) (h2b : (a0_1 == 2) = false) (t1 : decide (a1 < a0_3) = false) :
    Calls Try.prog 21 #[.agg #[.int .i64 4, .int .i64 a0_1, .int .i64 a0_2, .int .i64 a0_3, .int .i64 a0_4, .int .i64 a0_5, .int .i64 a0_6, .string a0_7], .int .i64 a1, .int .i64 a2] w fun e w' => e = .returned (.bool false) ∧ Below w.heap.size w w' := by
  have hu49 := Try.underlying49
  have hu30 := Try.underlying30
  go_enter Try.func21, Try.ntmps21
  go_wp2_with (first | (go_at_call 33; (with_reducible refine (regI_calls _ _).mono ?_); rintro e w' ⟨rfl, rfl⟩))
  (try (go_region; go_wp2_with (first | (go_at_call 33; (with_reducible refine (regI_calls _ _).mono ?_); rintro e w' ⟨rfl, rfl⟩))))
  go_ret
  exact ⟨rfl, by repeat (first | exact Below.refl _ _ | apply below_drew1 | apply pw_below_drewN | apply below_alloc | refine Below.setCell ?_ (by simp) _)⟩
set_option maxHeartbeats 2000000 in
set_option maxRecDepth 100000 in
theorem rightI.d4n1u (a0_1 : Int) (a0_2 : Int) (a0_3 : Int) (a0_4 : Int) (a0_5 : Int) (a0_6 : Int) (a0_7 : ByteArray) (a1 : Int) (a2 : Int) (w : World) (h0 : regI a0_2 = true) (h1 : regI a0_3 = true) (h2a : (a0_1 == 1) = false) (h2b : (a0_1 == 2) = true) (he : eqI 4 a0_1 a0_2 a0_3 a0_4 a0_5 a0_6 a0_7 4 a0_1 a0_2 a0_3 0 0 0 (⟨#[]⟩ : ByteArray) = false) (t1 : decide (a1 < a0_3) = false) :
    Calls Try.prog 21 #[.agg #[.int .i64 4, .int .i64 a0_1, .int .i64 a0_2, .int .i64 a0_3, .int .i64 a0_4, .int .i64 a0_5, .int .i64 a0_6, .string a0_7], .int .i64 a1, .int .i64 a2] w fun e w' => e = .returned (.bool false) ∧ Below w.heap.size w w' := by
  have hu49 := Try.underlying49
  have hu30 := Try.underlying30
  go_enter Try.func21, Try.ntmps21
  go_wp2_with (first | (go_at_call 33; (with_reducible refine (regI_calls _ _).mono ?_); rintro e w' ⟨rfl, rfl⟩))
  (try (go_region; go_wp2_with (first | (go_at_call 33; (with_reducible refine (regI_calls _ _).mono ?_); rintro e w' ⟨rfl, rfl⟩))))
  go_ret
  exact ⟨rfl, by repeat (first | exact Below.refl _ _ | apply below_drew1 | apply pw_below_drewN | apply below_alloc | refine Below.setCell ?_ (by simp) _)⟩
set_option maxHeartbeats 2000000 in
set_option maxRecDepth 100000 in
theorem rightI.d4y1u (a0_1 : Int) (a0_2 : Int) (a0_3 : Int) (a0_4 : Int) (a0_5 : Int) (a0_6 : Int) (a0_7 : ByteArray) (a1 : Int) (a2 : Int) (w : World) (h0 : regI a0_2 = true) (h1 : regI a0_3 = true) (h2a : (a0_1 == 1) = false) (h2b : (a0_1 == 2) = true) (he : eqI 4 a0_1 a0_2 a0_3 a0_4 a0_5 a0_6 a0_7 4 a0_1 a0_2 a0_3 0 0 0 (⟨#[]⟩ : ByteArray) = true) (t1 : decide (a1 < a0_3) = false) :
    Calls Try.prog 21 #[.agg #[.int .i64 4, .int .i64 a0_1, .int .i64 a0_2, .int .i64 a0_3, .int .i64 a0_4, .int .i64 a0_5, .int .i64 a0_6, .string a0_7], .int .i64 a1, .int .i64 a2] w fun e w' => e = .returned (.bool true) ∧ Below w.heap.size w w' := by
  have hu49 := Try.underlying49
  have hu30 := Try.underlying30
  go_enter Try.func21, Try.ntmps21
  go_wp2_with (first | (go_at_call 33; (with_reducible refine (regI_calls _ _).mono ?_); rintro e w' ⟨rfl, rfl⟩))
  (try (go_region; go_wp2_with (first | (go_at_call 33; (with_reducible refine (regI_calls _ _).mono ?_); rintro e w' ⟨rfl, rfl⟩))))
  go_ret
  exact ⟨rfl, by repeat (first | exact Below.refl _ _ | apply below_drew1 | apply pw_below_drewN | apply below_alloc | refine Below.setCell ?_ (by simp) _)⟩
set_option maxHeartbeats 2000000 in
set_option maxRecDepth 100000 in
theorem rightI.d5f10u (a0_1 : Int) (a0_2 : Int) (a0_3 : Int) (a0_4 : Int) (a0_5 : Int) (a0_6 : Int) (a0_7 : ByteArray) (a1 : Int) (a2 : Int) (w : World) (h0 : regI a0_2 = true) (h1 : regI a0_3 = false) (t1 : decide (a1 < a0_3) = false) :
    Calls Try.prog 21 #[.agg #[.int .i64 5, .int .i64 a0_1, .int .i64 a0_2, .int .i64 a0_3, .int .i64 a0_4, .int .i64 a0_5, .int .i64 a0_6, .string a0_7], .int .i64 a1, .int .i64 a2] w fun e w' => e = .returned (.bool false) ∧ Below w.heap.size w w' := by
  have hu49 := Try.underlying49
  have hu30 := Try.underlying30
  go_enter Try.func21, Try.ntmps21
  go_wp2_with (first | (go_at_call 33; (with_reducible refine (regI_calls _ _).mono ?_); rintro e w' ⟨rfl, rfl⟩))
  (try (go_region; go_wp2_with (first | (go_at_call 33; (with_reducible refine (regI_calls _ _).mono ?_); rintro e w' ⟨rfl, rfl⟩))))
  go_ret
  exact ⟨rfl, by repeat (first | exact Below.refl _ _ | apply below_drew1 | apply pw_below_drewN | apply below_alloc | refine Below.setCell ?_ (by simp) _)⟩
set_option maxHeartbeats 2000000 in
set_option maxRecDepth 100000 in
theorem rightI.d5f30u (a0_1 : Int) (a0_2 : Int) (a0_3 : Int) (a0_4 : Int) (a0_5 : Int) (a0_6 : Int) (a0_7 : ByteArray) (a1 : Int) (a2 : Int) (w : World) (h0 : regI a0_2 = true) (h1 : regI a0_3 = true) (h2 : regI a0_4 = true) (h3 : decide (3 ≤ a0_1) = false) (t1 : decide (a1 < a0_3) = false) :
    Calls Try.prog 21 #[.agg #[.int .i64 5, .int .i64 a0_1, .int .i64 a0_2, .int .i64 a0_3, .int .i64 a0_4, .int .i64 a0_5, .int .i64 a0_6, .string a0_7], .int .i64 a1, .int .i64 a2] w fun e w' => e = .returned (.bool false) ∧ Below w.heap.size w w' := by
  have hu49 := Try.underlying49
  have hu30 := Try.underlying30
  go_enter Try.func21, Try.ntmps21
  go_wp2_with (first | (go_at_call 33; (with_reducible refine (regI_calls _ _).mono ?_); rintro e w' ⟨rfl, rfl⟩))
  (try (go_region; go_wp2_with (first | (go_at_call 33; (with_reducible refine (regI_calls _ _).mono ?_); rintro e w' ⟨rfl, rfl⟩))))
  go_ret
  exact ⟨rfl, by repeat (first | exact Below.refl _ _ | apply below_drew1 | apply pw_below_drewN | apply below_alloc | refine Below.setCell ?_ (by simp) _)⟩
set_option maxHeartbeats 2000000 in
set_option maxRecDepth 100000 in
theorem rightI.d5n0u (a0_1 : Int) (a0_2 : Int) (a0_3 : Int) (a0_4 : Int) (a0_5 : Int) (a0_6 : Int) (a0_7 : ByteArray) (a1 : Int) (a2 : Int) (w : World) (h0 : regI a0_2 = true) (h1 : regI a0_3 = true) (h2 : regI a0_4 = true) (h3 : decide (3 ≤ a0_1) = true) (h4 : decide (a0_1 ≤ 16) = true) (he : eqI 5 a0_1 a0_2 a0_3 a0_4 a0_5 a0_6 a0_7 5 a0_1 a0_2 a0_3 a0_4 0 0 (⟨#[]⟩ : ByteArray) = false) (t1 : decide (a1 < a0_3) = false) :
    Calls Try.prog 21 #[.agg #[.int .i64 5, .int .i64 a0_1, .int .i64 a0_2, .int .i64 a0_3, .int .i64 a0_4, .int .i64 a0_5, .int .i64 a0_6, .string a0_7], .int .i64 a1, .int .i64 a2] w fun e w' => e = .returned (.bool false) ∧ Below w.heap.size w w' := by
  have hu49 := Try.underlying49
  have hu30 := Try.underlying30
  go_enter Try.func21, Try.ntmps21
  go_wp2_with (first | (go_at_call 33; (with_reducible refine (regI_calls _ _).mono ?_); rintro e w' ⟨rfl, rfl⟩))
  (try (go_region; go_wp2_with (first | (go_at_call 33; (with_reducible refine (regI_calls _ _).mono ?_); rintro e w' ⟨rfl, rfl⟩))))
  go_ret
  exact ⟨rfl, by repeat (first | exact Below.refl _ _ | apply below_drew1 | apply pw_below_drewN | apply below_alloc | refine Below.setCell ?_ (by simp) _)⟩
set_option maxHeartbeats 2000000 in
set_option maxRecDepth 100000 in
theorem rightI.d6f00u (a0_1 : Int) (a0_2 : Int) (a0_3 : Int) (a0_4 : Int) (a0_5 : Int) (a0_6 : Int) (a0_7 : ByteArray) (a1 : Int) (a2 : Int) (w : World) (h0 : regI a0_2 = false) (t1 : decide (a1 < a0_3) = false) :
    Calls Try.prog 21 #[.agg #[.int .i64 6, .int .i64 a0_1, .int .i64 a0_2, .int .i64 a0_3, .int .i64 a0_4, .int .i64 a0_5, .int .i64 a0_6, .string a0_7], .int .i64 a1, .int .i64 a2] w fun e w' => e = .returned (.bool false) ∧ Below w.heap.size w w' := by
  have hu49 := Try.underlying49
  have hu30 := Try.underlying30
  have ha := argsI_le a0_1
  go_enter Try.func21, Try.ntmps21
  go_wp2_with (first | (go_at_call 33; (with_reducible refine (regI_calls _ _).mono ?_); rintro e w' ⟨rfl, rfl⟩) | (go_at_call 34; (with_reducible refine (argsI_calls a0_1 _).mono ?_); rintro e w' ⟨rfl, ⟨nd, rfl⟩⟩))
  (try (go_region; go_wp2_with (first | (go_at_call 33; (with_reducible refine (regI_calls _ _).mono ?_); rintro e w' ⟨rfl, rfl⟩) | (go_at_call 34; (with_reducible refine (argsI_calls a0_1 _).mono ?_); rintro e w' ⟨rfl, ⟨nd, rfl⟩⟩))))
  go_ret
  exact ⟨rfl, by repeat (first | exact Below.refl _ _ | apply below_drew1 | apply pw_below_drewN | apply below_alloc | refine Below.setCell ?_ (by simp) _)⟩
set_option maxHeartbeats 2000000 in
set_option maxRecDepth 100000 in
theorem rightI.d6f20u (a0_1 : Int) (a0_2 : Int) (a0_3 : Int) (a0_4 : Int) (a0_5 : Int) (a0_6 : Int) (a0_7 : ByteArray) (a1 : Int) (a2 : Int) (w : World) (h0 : regI a0_2 = true) (h1 : regI a0_3 = true) (h2 : decide (0 < argsI a0_1) = false) (t1 : decide (a1 < a0_3) = false) :
    Calls Try.prog 21 #[.agg #[.int .i64 6, .int .i64 a0_1, .int .i64 a0_2, .int .i64 a0_3, .int .i64 a0_4, .int .i64 a0_5, .int .i64 a0_6, .string a0_7], .int .i64 a1, .int .i64 a2] w fun e w' => e = .returned (.bool false) ∧ Below w.heap.size w w' := by
  have hu49 := Try.underlying49
  have hu30 := Try.underlying30
  have ha := argsI_le a0_1
  go_enter Try.func21, Try.ntmps21
  go_wp2_with (first | (go_at_call 33; (with_reducible refine (regI_calls _ _).mono ?_); rintro e w' ⟨rfl, rfl⟩) | (go_at_call 34; (with_reducible refine (argsI_calls a0_1 _).mono ?_); rintro e w' ⟨rfl, ⟨nd, rfl⟩⟩))
  (try (go_region; go_wp2_with (first | (go_at_call 33; (with_reducible refine (regI_calls _ _).mono ?_); rintro e w' ⟨rfl, rfl⟩) | (go_at_call 34; (with_reducible refine (argsI_calls a0_1 _).mono ?_); rintro e w' ⟨rfl, ⟨nd, rfl⟩⟩))))
  go_ret
  exact ⟨rfl, by repeat (first | exact Below.refl _ _ | apply below_drew1 | apply pw_below_drewN | apply below_alloc | refine Below.setCell ?_ (by simp) _)⟩
set_option maxHeartbeats 2000000 in
set_option maxRecDepth 100000 in
theorem rightI.d6n0u (a0_1 : Int) (a0_2 : Int) (a0_3 : Int) (a0_4 : Int) (a0_5 : Int) (a0_6 : Int) (a0_7 : ByteArray) (a1 : Int) (a2 : Int) (w : World) (h0 : regI a0_2 = true) (h1 : regI a0_3 = true) (h2 : decide (0 < argsI a0_1) = true) (h3 : decide (a0_3 ≤ 64 - argsI a0_1) = true) (he : eqI 6 a0_1 a0_2 a0_3 a0_4 a0_5 a0_6 a0_7 6 a0_1 a0_2 a0_3 0 0 0 (⟨#[]⟩ : ByteArray) = false) (t1 : decide (a1 < a0_3) = false) :
    Calls Try.prog 21 #[.agg #[.int .i64 6, .int .i64 a0_1, .int .i64 a0_2, .int .i64 a0_3, .int .i64 a0_4, .int .i64 a0_5, .int .i64 a0_6, .string a0_7], .int .i64 a1, .int .i64 a2] w fun e w' => e = .returned (.bool false) ∧ Below w.heap.size w w' := by
  have hu49 := Try.underlying49
  have hu30 := Try.underlying30
  have ha := argsI_le a0_1
  go_enter Try.func21, Try.ntmps21
  go_wp2_with (first | (go_at_call 33; (with_reducible refine (regI_calls _ _).mono ?_); rintro e w' ⟨rfl, rfl⟩) | (go_at_call 34; (with_reducible refine (argsI_calls a0_1 _).mono ?_); rintro e w' ⟨rfl, ⟨nd, rfl⟩⟩))
  (try (go_region; go_wp2_with (first | (go_at_call 33; (with_reducible refine (regI_calls _ _).mono ?_); rintro e w' ⟨rfl, rfl⟩) | (go_at_call 34; (with_reducible refine (argsI_calls a0_1 _).mono ?_); rintro e w' ⟨rfl, ⟨nd, rfl⟩⟩))))
  go_ret
  exact ⟨rfl, by repeat (first | exact Below.refl _ _ | apply below_drew1 | apply pw_below_drewN | apply below_alloc | refine Below.setCell ?_ (by simp) _)⟩
set_option maxHeartbeats 2000000 in
set_option maxRecDepth 100000 in
theorem rightI.d7f00u (a0_1 : Int) (a0_2 : Int) (a0_3 : Int) (a0_4 : Int) (a0_5 : Int) (a0_6 : Int) (a0_7 : ByteArray) (a1 : Int) (a2 : Int) (w : World) (h0 : regI a0_2 = false) (t1 : decide (a1 < a0_3) = false) :
    Calls Try.prog 21 #[.agg #[.int .i64 7, .int .i64 a0_1, .int .i64 a0_2, .int .i64 a0_3, .int .i64 a0_4, .int .i64 a0_5, .int .i64 a0_6, .string a0_7], .int .i64 a1, .int .i64 a2] w fun e w' => e = .returned (.bool false) ∧ Below w.heap.size w w' := by
  have hu49 := Try.underlying49
  have hu30 := Try.underlying30
  go_enter Try.func21, Try.ntmps21
  go_wp2_with (first | (go_at_call 33; (with_reducible refine (regI_calls _ _).mono ?_); rintro e w' ⟨rfl, rfl⟩))
  (try (go_region; go_wp2_with (first | (go_at_call 33; (with_reducible refine (regI_calls _ _).mono ?_); rintro e w' ⟨rfl, rfl⟩))))
  go_ret
  exact ⟨rfl, by repeat (first | exact Below.refl _ _ | apply below_drew1 | apply pw_below_drewN | apply below_alloc | refine Below.setCell ?_ (by simp) _)⟩
set_option maxHeartbeats 2000000 in
set_option maxRecDepth 100000 in
theorem rightI.d7f20u (a0_1 : Int) (a0_2 : Int) (a0_3 : Int) (a0_4 : Int) (a0_5 : Int) (a0_6 : Int) (a0_7 : ByteArray) (a1 : Int) (a2 : Int) (w : World) (h0 : regI a0_2 = true) (h1 : regI a0_3 = true) (h2a : (a0_1 == 0) = false) (h2b : (a0_1 == 1) = false) (t1 : decide (a1 < a0_3) = false) :
    Calls Try.prog 21 #[.agg #[.int .i64 7, .int .i64 a0_1, .int .i64 a0_2, .int .i64 a0_3, .int .i64 a0_4, .int .i64 a0_5, .int .i64 a0_6, .string a0_7], .int .i64 a1, .int .i64 a2] w fun e w' => e = .returned (.bool false) ∧ Below w.heap.size w w' := by
  have hu49 := Try.underlying49
  have hu30 := Try.underlying30
  go_enter Try.func21, Try.ntmps21
  go_wp2_with (first | (go_at_call 33; (with_reducible refine (regI_calls _ _).mono ?_); rintro e w' ⟨rfl, rfl⟩))
  (try (go_region; go_wp2_with (first | (go_at_call 33; (with_reducible refine (regI_calls _ _).mono ?_); rintro e w' ⟨rfl, rfl⟩))))
  go_ret
  exact ⟨rfl, by repeat (first | exact Below.refl _ _ | apply below_drew1 | apply pw_below_drewN | apply below_alloc | refine Below.setCell ?_ (by simp) _)⟩
set_option maxHeartbeats 2000000 in
set_option maxRecDepth 100000 in
theorem rightI.d7n1u (a0_1 : Int) (a0_2 : Int) (a0_3 : Int) (a0_4 : Int) (a0_5 : Int) (a0_6 : Int) (a0_7 : ByteArray) (a1 : Int) (a2 : Int) (w : World) (h0 : regI a0_2 = true) (h1 : regI a0_3 = true) (h2a : (a0_1 == 0) = false) (h2b : (a0_1 == 1) = true) (he : eqI 7 a0_1 a0_2 a0_3 a0_4 a0_5 a0_6 a0_7 7 a0_1 a0_2 a0_3 0 0 0 (⟨#[]⟩ : ByteArray) = false) (t1 : decide (a1 < a0_3) = false) :
    Calls Try.prog 21 #[.agg #[.int .i64 7, .int .i64 a0_1, .int .i64 a0_2, .int .i64 a0_3, .int .i64 a0_4, .int .i64 a0_5, .int .i64 a0_6, .string a0_7], .int .i64 a1, .int .i64 a2] w fun e w' => e = .returned (.bool false) ∧ Below w.heap.size w w' := by
  have hu49 := Try.underlying49
  have hu30 := Try.underlying30
  go_enter Try.func21, Try.ntmps21
  go_wp2_with (first | (go_at_call 33; (with_reducible refine (regI_calls _ _).mono ?_); rintro e w' ⟨rfl, rfl⟩))
  (try (go_region; go_wp2_with (first | (go_at_call 33; (with_reducible refine (regI_calls _ _).mono ?_); rintro e w' ⟨rfl, rfl⟩))))
  go_ret
  exact ⟨rfl, by repeat (first | exact Below.refl _ _ | apply below_drew1 | apply pw_below_drewN | apply below_alloc | refine Below.setCell ?_ (by simp) _)⟩
set_option maxHeartbeats 2000000 in
set_option maxRecDepth 100000 in
theorem rightI.d7y1u (a0_1 : Int) (a0_2 : Int) (a0_3 : Int) (a0_4 : Int) (a0_5 : Int) (a0_6 : Int) (a0_7 : ByteArray) (a1 : Int) (a2 : Int) (w : World) (h0 : regI a0_2 = true) (h1 : regI a0_3 = true) (h2a : (a0_1 == 0) = false) (h2b : (a0_1 == 1) = true) (he : eqI 7 a0_1 a0_2 a0_3 a0_4 a0_5 a0_6 a0_7 7 a0_1 a0_2 a0_3 0 0 0 (⟨#[]⟩ : ByteArray) = true) (t1 : decide (a1 < a0_3) = false) :
    Calls Try.prog 21 #[.agg #[.int .i64 7, .int .i64 a0_1, .int .i64 a0_2, .int .i64 a0_3, .int .i64 a0_4, .int .i64 a0_5, .int .i64 a0_6, .string a0_7], .int .i64 a1, .int .i64 a2] w fun e w' => e = .returned (.bool true) ∧ Below w.heap.size w w' := by
  have hu49 := Try.underlying49
  have hu30 := Try.underlying30
  go_enter Try.func21, Try.ntmps21
  go_wp2_with (first | (go_at_call 33; (with_reducible refine (regI_calls _ _).mono ?_); rintro e w' ⟨rfl, rfl⟩))
  (try (go_region; go_wp2_with (first | (go_at_call 33; (with_reducible refine (regI_calls _ _).mono ?_); rintro e w' ⟨rfl, rfl⟩))))
  go_ret
  exact ⟨rfl, by repeat (first | exact Below.refl _ _ | apply below_drew1 | apply pw_below_drewN | apply below_alloc | refine Below.setCell ?_ (by simp) _)⟩
set_option maxHeartbeats 2000000 in
set_option maxRecDepth 100000 in
theorem rightI.d8f10u (a0_1 : Int) (a0_2 : Int) (a0_3 : Int) (a0_4 : Int) (a0_5 : Int) (a0_6 : Int) (a0_7 : ByteArray) (a1 : Int) (a2 : Int) (w : World) (h0 : regI a0_2 = true) (h1 : regI a0_3 = false) (t1 : decide (a1 < a0_3) = false) :
    Calls Try.prog 21 #[.agg #[.int .i64 8, .int .i64 a0_1, .int .i64 a0_2, .int .i64 a0_3, .int .i64 a0_4, .int .i64 a0_5, .int .i64 a0_6, .string a0_7], .int .i64 a1, .int .i64 a2] w fun e w' => e = .returned (.bool false) ∧ Below w.heap.size w w' := by
  have hu49 := Try.underlying49
  have hu30 := Try.underlying30
  go_enter Try.func21, Try.ntmps21
  go_wp2_with (first | (go_at_call 33; (with_reducible refine (regI_calls _ _).mono ?_); rintro e w' ⟨rfl, rfl⟩))
  (try (go_region; go_wp2_with (first | (go_at_call 33; (with_reducible refine (regI_calls _ _).mono ?_); rintro e w' ⟨rfl, rfl⟩))))
  go_ret
  exact ⟨rfl, by repeat (first | exact Below.refl _ _ | apply below_drew1 | apply pw_below_drewN | apply below_alloc | refine Below.setCell ?_ (by simp) _)⟩
set_option maxHeartbeats 2000000 in
set_option maxRecDepth 100000 in
theorem rightI.d8y0u (a0_1 : Int) (a0_2 : Int) (a0_3 : Int) (a0_4 : Int) (a0_5 : Int) (a0_6 : Int) (a0_7 : ByteArray) (a1 : Int) (a2 : Int) (w : World) (h0 : regI a0_2 = true) (h1 : regI a0_3 = true) (he : eqI 8 a0_1 a0_2 a0_3 a0_4 a0_5 a0_6 a0_7 8 0 a0_2 a0_3 0 0 0 (⟨#[]⟩ : ByteArray) = true) (t1 : decide (a1 < a0_3) = false) :
    Calls Try.prog 21 #[.agg #[.int .i64 8, .int .i64 a0_1, .int .i64 a0_2, .int .i64 a0_3, .int .i64 a0_4, .int .i64 a0_5, .int .i64 a0_6, .string a0_7], .int .i64 a1, .int .i64 a2] w fun e w' => e = .returned (.bool true) ∧ Below w.heap.size w w' := by
  have hu49 := Try.underlying49
  have hu30 := Try.underlying30
  go_enter Try.func21, Try.ntmps21
  go_wp2_with (first | (go_at_call 33; (with_reducible refine (regI_calls _ _).mono ?_); rintro e w' ⟨rfl, rfl⟩))
  (try (go_region; go_wp2_with (first | (go_at_call 33; (with_reducible refine (regI_calls _ _).mono ?_); rintro e w' ⟨rfl, rfl⟩))))
  go_ret
  exact ⟨rfl, by repeat (first | exact Below.refl _ _ | apply below_drew1 | apply pw_below_drewN | apply below_alloc | refine Below.setCell ?_ (by simp) _)⟩
set_option maxHeartbeats 2000000 in
set_option maxRecDepth 100000 in
theorem rightI.d9y0 (a0_1 : Int) (a0_2 : Int) (a0_3 : Int) (a0_4 : Int) (a0_5 : Int) (a0_6 : Int) (a0_7 : ByteArray) (a1 : Int) (a2 : Int) (w : World) (h0 : decide (a1 < a0_3) = true) (h1 : decide (a0_3 ≤ a2) = true) (he : eqI 9 a0_1 a0_2 a0_3 a0_4 a0_5 a0_6 a0_7 9 0 0 a0_3 0 0 0 (⟨#[]⟩ : ByteArray) = true) :
    Calls Try.prog 21 #[.agg #[.int .i64 9, .int .i64 a0_1, .int .i64 a0_2, .int .i64 a0_3, .int .i64 a0_4, .int .i64 a0_5, .int .i64 a0_6, .string a0_7], .int .i64 a1, .int .i64 a2] w fun e w' => e = .returned (.bool true) ∧ Below w.heap.size w w' := by
  have hu49 := Try.underlying49
  have hu30 := Try.underlying30
  go_enter Try.func21, Try.ntmps21
  go_wp2_with (first | (go_at_call 33; (with_reducible refine (regI_calls _ _).mono ?_); rintro e w' ⟨rfl, rfl⟩))
  (try (go_region; go_wp2_with (first | (go_at_call 33; (with_reducible refine (regI_calls _ _).mono ?_); rintro e w' ⟨rfl, rfl⟩))))
  go_ret
  exact ⟨rfl, by repeat (first | exact Below.refl _ _ | apply below_drew1 | apply pw_below_drewN | apply below_alloc | refine Below.setCell ?_ (by simp) _)⟩
set_option maxHeartbeats 2000000 in
set_option maxRecDepth 100000 in
theorem rightI.d10f20 (a0_1 : Int) (a0_2 : Int) (a0_3 : Int) (a0_4 : Int) (a0_5 : Int) (a0_6 : Int) (a0_7 : ByteArray) (a1 : Int) (a2 : Int) (w : World) (h0 : regI a0_2 = true) (h1 : decide (a1 < a0_3) = true) (h2 : decide (a0_3 ≤ a2) = false) :
    Calls Try.prog 21 #[.agg #[.int .i64 10, .int .i64 a0_1, .int .i64 a0_2, .int .i64 a0_3, .int .i64 a0_4, .int .i64 a0_5, .int .i64 a0_6, .string a0_7], .int .i64 a1, .int .i64 a2] w fun e w' => e = .returned (.bool false) ∧ Below w.heap.size w w' := by
  have hu49 := Try.underlying49
  have hu30 := Try.underlying30
  go_enter Try.func21, Try.ntmps21
  go_wp2_with (first | (go_at_call 33; (with_reducible refine (regI_calls _ _).mono ?_); rintro e w' ⟨rfl, rfl⟩))
  (try (go_region; go_wp2_with (first | (go_at_call 33; (with_reducible refine (regI_calls _ _).mono ?_); rintro e w' ⟨rfl, rfl⟩))))
  go_ret
  exact ⟨rfl, by repeat (first | exact Below.refl _ _ | apply below_drew1 | apply pw_below_drewN | apply below_alloc | refine Below.setCell ?_ (by simp) _)⟩
set_option maxHeartbeats 2000000 in
set_option maxRecDepth 100000 in
theorem rightI.d11f00u (a0_1 : Int) (a0_2 : Int) (a0_3 : Int) (a0_4 : Int) (a0_5 : Int) (a0_6 : Int) (a0_7 : ByteArray) (a1 : Int) (a2 : Int) (w : World) (h0 : regI a0_2 = false) (t1 : decide (a1 < a0_3) = false) :
    Calls Try.prog 21 #[.agg #[.int .i64 11, .int .i64 a0_1, .int .i64 a0_2, .int .i64 a0_3, .int .i64 a0_4, .int .i64 a0_5, .int .i64 a0_6, .string a0_7], .int .i64 a1, .int .i64 a2] w fun e w' => e = .returned (.bool false) ∧ Below w.heap.size w w' := by
  have hu49 := Try.underlying49
  have hu30 := Try.underlying30
  go_enter Try.func21, Try.ntmps21
  go_wp2_with (first | (go_at_call 33; (with_reducible refine (regI_calls _ _).mono ?_); rintro e w' ⟨rfl, rfl⟩))
  (try (go_region; go_wp2_with (first | (go_at_call 33; (with_reducible refine (regI_calls _ _).mono ?_); rintro e w' ⟨rfl, rfl⟩))))
  go_ret
  exact ⟨rfl, by repeat (first | exact Below.refl _ _ | apply below_drew1 | apply pw_below_drewN | apply below_alloc | refine Below.setCell ?_ (by simp) _)⟩
set_option maxHeartbeats 2000000 in
set_option maxRecDepth 100000 in
theorem rightI.d11y0 (a0_1 : Int) (a0_2 : Int) (a0_3 : Int) (a0_4 : Int) (a0_5 : Int) (a0_6 : Int) (a0_7 : ByteArray) (a1 : Int) (a2 : Int) (w : World) (h0 : regI a0_2 = true) (h1 : decide (a1 < a0_3) = true) (h2 : decide (a0_3 ≤ a2) = true) (he : eqI 11 a0_1 a0_2 a0_3 a0_4 a0_5 a0_6 a0_7 11 0 a0_2 a0_3 0 0 0 (⟨#[]⟩ : ByteArray) = true) :
    Calls Try.prog 21 #[.agg #[.int .i64 11, .int .i64 a0_1, .int .i64 a0_2, .int .i64 a0_3, .int .i64 a0_4, .int .i64 a0_5, .int .i64 a0_6, .string a0_7], .int .i64 a1, .int .i64 a2] w fun e w' => e = .returned (.bool true) ∧ Below w.heap.size w w' := by
  have hu49 := Try.underlying49
  have hu30 := Try.underlying30
  go_enter Try.func21, Try.ntmps21
  go_wp2_with (first | (go_at_call 33; (with_reducible refine (regI_calls _ _).mono ?_); rintro e w' ⟨rfl, rfl⟩))
  (try (go_region; go_wp2_with (first | (go_at_call 33; (with_reducible refine (regI_calls _ _).mono ?_); rintro e w' ⟨rfl, rfl⟩))))
  go_ret
  exact ⟨rfl, by repeat (first | exact Below.refl _ _ | apply below_drew1 | apply pw_below_drewN | apply below_alloc | refine Below.setCell ?_ (by simp) _)⟩
set_option maxHeartbeats 2000000 in
set_option maxRecDepth 100000 in
theorem rightI.d12f20 (a0_1 : Int) (a0_2 : Int) (a0_3 : Int) (a0_4 : Int) (a0_5 : Int) (a0_6 : Int) (a0_7 : ByteArray) (a1 : Int) (a2 : Int) (w : World) (h0 : regI a0_2 = true) (h1 : decide (a1 < a0_3) = true) (h2 : decide (a0_3 ≤ a2) = false) :
    Calls Try.prog 21 #[.agg #[.int .i64 12, .int .i64 a0_1, .int .i64 a0_2, .int .i64 a0_3, .int .i64 a0_4, .int .i64 a0_5, .int .i64 a0_6, .string a0_7], .int .i64 a1, .int .i64 a2] w fun e w' => e = .returned (.bool false) ∧ Below w.heap.size w w' := by
  have hu49 := Try.underlying49
  have hu30 := Try.underlying30
  go_enter Try.func21, Try.ntmps21
  go_wp2_with (first | (go_at_call 33; (with_reducible refine (regI_calls _ _).mono ?_); rintro e w' ⟨rfl, rfl⟩))
  (try (go_region; go_wp2_with (first | (go_at_call 33; (with_reducible refine (regI_calls _ _).mono ?_); rintro e w' ⟨rfl, rfl⟩))))
  go_ret
  exact ⟨rfl, by repeat (first | exact Below.refl _ _ | apply below_drew1 | apply pw_below_drewN | apply below_alloc | refine Below.setCell ?_ (by simp) _)⟩
set_option maxHeartbeats 2000000 in
set_option maxRecDepth 100000 in
theorem rightI.d13f00u (a0_1 : Int) (a0_2 : Int) (a0_3 : Int) (a0_4 : Int) (a0_5 : Int) (a0_6 : Int) (a0_7 : ByteArray) (a1 : Int) (a2 : Int) (w : World) (h0 : regI a0_2 = false) (t1 : decide (a1 < a0_3) = false) :
    Calls Try.prog 21 #[.agg #[.int .i64 13, .int .i64 a0_1, .int .i64 a0_2, .int .i64 a0_3, .int .i64 a0_4, .int .i64 a0_5, .int .i64 a0_6, .string a0_7], .int .i64 a1, .int .i64 a2] w fun e w' => e = .returned (.bool false) ∧ Below w.heap.size w w' := by
  have hu49 := Try.underlying49
  have hu30 := Try.underlying30
  go_enter Try.func21, Try.ntmps21
  go_wp2_with (first | (go_at_call 33; (with_reducible refine (regI_calls _ _).mono ?_); rintro e w' ⟨rfl, rfl⟩))
  (try (go_region; go_wp2_with (first | (go_at_call 33; (with_reducible refine (regI_calls _ _).mono ?_); rintro e w' ⟨rfl, rfl⟩))))
  go_ret
  exact ⟨rfl, by repeat (first | exact Below.refl _ _ | apply below_drew1 | apply pw_below_drewN | apply below_alloc | refine Below.setCell ?_ (by simp) _)⟩
set_option maxHeartbeats 2000000 in
set_option maxRecDepth 100000 in
theorem rightI.d13y0u (a0_1 : Int) (a0_2 : Int) (a0_3 : Int) (a0_4 : Int) (a0_5 : Int) (a0_6 : Int) (a0_7 : ByteArray) (a1 : Int) (a2 : Int) (w : World) (h0 : regI a0_2 = true) (he : eqI 13 a0_1 a0_2 a0_3 a0_4 a0_5 a0_6 a0_7 13 0 a0_2 0 0 0 0 (⟨#[]⟩ : ByteArray) = true) (t1 : decide (a1 < a0_3) = false) :
    Calls Try.prog 21 #[.agg #[.int .i64 13, .int .i64 a0_1, .int .i64 a0_2, .int .i64 a0_3, .int .i64 a0_4, .int .i64 a0_5, .int .i64 a0_6, .string a0_7], .int .i64 a1, .int .i64 a2] w fun e w' => e = .returned (.bool true) ∧ Below w.heap.size w w' := by
  have hu49 := Try.underlying49
  have hu30 := Try.underlying30
  go_enter Try.func21, Try.ntmps21
  go_wp2_with (first | (go_at_call 33; (with_reducible refine (regI_calls _ _).mono ?_); rintro e w' ⟨rfl, rfl⟩))
  (try (go_region; go_wp2_with (first | (go_at_call 33; (with_reducible refine (regI_calls _ _).mono ?_); rintro e w' ⟨rfl, rfl⟩))))
  go_ret
  exact ⟨rfl, by repeat (first | exact Below.refl _ _ | apply below_drew1 | apply pw_below_drewN | apply below_alloc | refine Below.setCell ?_ (by simp) _)⟩
end Go.Proofs.Ytbdoennkalnkcaa.P
