-- Laid by a program of this session: checked by Lean.
import Derived.Test.YtbdoennkalnkcaaP6a
import Derived.Test.YtbdoennkalnkcaaP6b
import Derived.Test.YtbdoennkalnkcaaP6c
import Derived.Test.YtbdoennkalnkcaaP6d
namespace Go.Proofs.Ytbdoennkalnkcaa.P
open Go.RowKit Go.Proofs.YtbdoennkalnkcaaW.PrintWords Go.Proofs.YtbdoennkalnkcaaW.PrintLast Go.Proofs.YtbdoennkalnkcaaW.PrintMore
attribute [local go_sem] max2_int min2_int max_two min_two max_three min_three max_four min_four   -- for this text's walks alone
set_option linter.unusedVariables false
set_option linter.unusedSimpArgs false

theorem quarryref20_right.calls (a0_0 : Int) (a0_1 : Int) (a0_2 : Int) (a0_3 : Int) (a0_4 : Int) (a0_5 : Int) (a0_6 : Int) (a0_7 : ByteArray) (a1 : Int) (a2 : Int) (r : Bool) (w : World) (h : quarryref20_right.f a0_0 a0_1 a0_2 a0_3 a0_4 a0_5 a0_6 a0_7 a1 a2 = some r) :
    Calls Try.prog 21 #[.agg #[.int .i64 a0_0, .int .i64 a0_1, .int .i64 a0_2, .int .i64 a0_3, .int .i64 a0_4, .int .i64 a0_5, .int .i64 a0_6, .string a0_7], .int .i64 a1, .int .i64 a2] w fun e w' => e = .returned (.bool r) ∧ Below w.heap.size w w' := by
  obtain rfl : rightI a0_0 a0_1 a0_2 a0_3 a0_4 a0_5 a0_6 a0_7 a1 a2 = r := Option.some.inj h
  clear h
  by_cases k1 : a0_0 = 1
  · subst k1
    have ER : rightI 1 a0_1 a0_2 a0_3 a0_4 a0_5 a0_6 a0_7 a1 a2 = ((regI a0_2) && decide (chkR a0_5 a0_6 a0_7 = 0) && eqI 1 a0_1 a0_2 a0_3 a0_4 a0_5 a0_6 a0_7 1 0 a0_2 0 0 a0_5 a0_6 a0_7) := rfl
    cases h0 : regI a0_2
    · rw [show rightI 1 a0_1 a0_2 a0_3 a0_4 a0_5 a0_6 a0_7 a1 a2 = false by rw [ER]; simp [h0]]
      cases t1 : decide (a1 < a0_3)
      · exact rightI.d1f00u a0_1 a0_2 a0_3 a0_4 a0_5 a0_6 a0_7 a1 a2 w h0 t1
      · exact rightI.d1f00t a0_1 a0_2 a0_3 a0_4 a0_5 a0_6 a0_7 a1 a2 w h0 t1
    · skip
      by_cases h1 : chkR a0_5 a0_6 a0_7 = 0
      · skip
        cases he : eqI 1 a0_1 a0_2 a0_3 a0_4 a0_5 a0_6 a0_7 1 0 a0_2 0 0 a0_5 a0_6 a0_7
        · rw [show rightI 1 a0_1 a0_2 a0_3 a0_4 a0_5 a0_6 a0_7 a1 a2 = false by rw [ER]; simp [h0, h1, he]]
          cases t1 : decide (a1 < a0_3)
          · exact rightI.d1n0u a0_1 a0_2 a0_3 a0_4 a0_5 a0_6 a0_7 a1 a2 w h0 h1 he t1
          · exact rightI.d1n0t a0_1 a0_2 a0_3 a0_4 a0_5 a0_6 a0_7 a1 a2 w h0 h1 he t1
        · rw [show rightI 1 a0_1 a0_2 a0_3 a0_4 a0_5 a0_6 a0_7 a1 a2 = true by rw [ER]; simp [h0, h1, he]]
          cases t1 : decide (a1 < a0_3)
          · exact rightI.d1y0u a0_1 a0_2 a0_3 a0_4 a0_5 a0_6 a0_7 a1 a2 w h0 h1 he t1
          · exact rightI.d1y0t a0_1 a0_2 a0_3 a0_4 a0_5 a0_6 a0_7 a1 a2 w h0 h1 he t1
      · rw [show rightI 1 a0_1 a0_2 a0_3 a0_4 a0_5 a0_6 a0_7 a1 a2 = false by rw [ER]; simp [h0, h1]]
        cases t1 : decide (a1 < a0_3)
        · exact rightI.d1f10u a0_1 a0_2 a0_3 a0_4 a0_5 a0_6 a0_7 a1 a2 w h0 h1 t1
        · exact rightI.d1f10t a0_1 a0_2 a0_3 a0_4 a0_5 a0_6 a0_7 a1 a2 w h0 h1 t1
  by_cases k2 : a0_0 = 2
  · subst k2
    have ER : rightI 2 a0_1 a0_2 a0_3 a0_4 a0_5 a0_6 a0_7 a1 a2 = ((regI a0_2) && (decide (0 ≤ a0_3)) && eqI 2 a0_1 a0_2 a0_3 a0_4 a0_5 a0_6 a0_7 2 0 a0_2 a0_3 0 0 0 (⟨#[]⟩ : ByteArray)) := rfl
    cases h0 : regI a0_2
    · rw [show rightI 2 a0_1 a0_2 a0_3 a0_4 a0_5 a0_6 a0_7 a1 a2 = false by rw [ER]; simp [h0]]
      cases t1 : decide (a1 < a0_3)
      · exact rightI.d2f00u a0_1 a0_2 a0_3 a0_4 a0_5 a0_6 a0_7 a1 a2 w h0 t1
      · exact rightI.d2f00t a0_1 a0_2 a0_3 a0_4 a0_5 a0_6 a0_7 a1 a2 w h0 t1
    · skip
      cases h1 : decide (0 ≤ a0_3)
      · rw [show rightI 2 a0_1 a0_2 a0_3 a0_4 a0_5 a0_6 a0_7 a1 a2 = false by rw [ER]; simp [h0, h1]]
        cases t1 : decide (a1 < a0_3)
        · exact rightI.d2f10u a0_1 a0_2 a0_3 a0_4 a0_5 a0_6 a0_7 a1 a2 w h0 h1 t1
        · exact rightI.d2f10t a0_1 a0_2 a0_3 a0_4 a0_5 a0_6 a0_7 a1 a2 w h0 h1 t1
      · skip
        cases he : eqI 2 a0_1 a0_2 a0_3 a0_4 a0_5 a0_6 a0_7 2 0 a0_2 a0_3 0 0 0 (⟨#[]⟩ : ByteArray)
        · rw [show rightI 2 a0_1 a0_2 a0_3 a0_4 a0_5 a0_6 a0_7 a1 a2 = false by rw [ER]; simp [h0, h1, he]]
          cases t1 : decide (a1 < a0_3)
          · exact rightI.d2n0u a0_1 a0_2 a0_3 a0_4 a0_5 a0_6 a0_7 a1 a2 w h0 h1 he t1
          · exact rightI.d2n0t a0_1 a0_2 a0_3 a0_4 a0_5 a0_6 a0_7 a1 a2 w h0 h1 he t1
        · rw [show rightI 2 a0_1 a0_2 a0_3 a0_4 a0_5 a0_6 a0_7 a1 a2 = true by rw [ER]; simp [h0, h1, he]]
          cases t1 : decide (a1 < a0_3)
          · exact rightI.d2y0u a0_1 a0_2 a0_3 a0_4 a0_5 a0_6 a0_7 a1 a2 w h0 h1 he t1
          · exact rightI.d2y0t a0_1 a0_2 a0_3 a0_4 a0_5 a0_6 a0_7 a1 a2 w h0 h1 he t1
  by_cases k3 : a0_0 = 3
  · subst k3
    have ER : rightI 3 a0_1 a0_2 a0_3 a0_4 a0_5 a0_6 a0_7 a1 a2 = ((regI a0_2) && (decide (0 ≤ a0_3)) && eqI 3 a0_1 a0_2 a0_3 a0_4 a0_5 a0_6 a0_7 3 0 a0_2 a0_3 0 0 0 (⟨#[]⟩ : ByteArray)) := rfl
    cases h0 : regI a0_2
    · rw [show rightI 3 a0_1 a0_2 a0_3 a0_4 a0_5 a0_6 a0_7 a1 a2 = false by rw [ER]; simp [h0]]
      cases t1 : decide (a1 < a0_3)
      · exact rightI.d3f00u a0_1 a0_2 a0_3 a0_4 a0_5 a0_6 a0_7 a1 a2 w h0 t1
      · exact rightI.d3f00t a0_1 a0_2 a0_3 a0_4 a0_5 a0_6 a0_7 a1 a2 w h0 t1
    · skip
      cases h1 : decide (0 ≤ a0_3)
      · rw [show rightI 3 a0_1 a0_2 a0_3 a0_4 a0_5 a0_6 a0_7 a1 a2 = false by rw [ER]; simp [h0, h1]]
        cases t1 : decide (a1 < a0_3)
        · exact rightI.d3f10u a0_1 a0_2 a0_3 a0_4 a0_5 a0_6 a0_7 a1 a2 w h0 h1 t1
        · exact rightI.d3f10t a0_1 a0_2 a0_3 a0_4 a0_5 a0_6 a0_7 a1 a2 w h0 h1 t1
      · skip
        cases he : eqI 3 a0_1 a0_2 a0_3 a0_4 a0_5 a0_6 a0_7 3 0 a0_2 a0_3 0 0 0 (⟨#[]⟩ : ByteArray)
        · rw [show rightI 3 a0_1 a0_2 a0_3 a0_4 a0_5 a0_6 a0_7 a1 a2 = false by rw [ER]; simp [h0, h1, he]]
          cases t1 : decide (a1 < a0_3)
          · exact rightI.d3n0u a0_1 a0_2 a0_3 a0_4 a0_5 a0_6 a0_7 a1 a2 w h0 h1 he t1
          · exact rightI.d3n0t a0_1 a0_2 a0_3 a0_4 a0_5 a0_6 a0_7 a1 a2 w h0 h1 he t1
        · rw [show rightI 3 a0_1 a0_2 a0_3 a0_4 a0_5 a0_6 a0_7 a1 a2 = true by rw [ER]; simp [h0, h1, he]]
          cases t1 : decide (a1 < a0_3)
          · exact rightI.d3y0u a0_1 a0_2 a0_3 a0_4 a0_5 a0_6 a0_7 a1 a2 w h0 h1 he t1
          · exact rightI.d3y0t a0_1 a0_2 a0_3 a0_4 a0_5 a0_6 a0_7 a1 a2 w h0 h1 he t1
  by_cases k4 : a0_0 = 4
  · subst k4
    have ER : rightI 4 a0_1 a0_2 a0_3 a0_4 a0_5 a0_6 a0_7 a1 a2 = ((regI a0_2) && (regI a0_3) && (a0_1 == 1 || a0_1 == 2) && eqI 4 a0_1 a0_2 a0_3 a0_4 a0_5 a0_6 a0_7 4 a0_1 a0_2 a0_3 0 0 0 (⟨#[]⟩ : ByteArray)) := rfl
    cases h0 : regI a0_2
    · rw [show rightI 4 a0_1 a0_2 a0_3 a0_4 a0_5 a0_6 a0_7 a1 a2 = false by rw [ER]; simp [h0]]
      cases t1 : decide (a1 < a0_3)
      · exact rightI.d4f00u a0_1 a0_2 a0_3 a0_4 a0_5 a0_6 a0_7 a1 a2 w h0 t1
      · exact rightI.d4f00t a0_1 a0_2 a0_3 a0_4 a0_5 a0_6 a0_7 a1 a2 w h0 t1
    · skip
      cases h1 : regI a0_3
      · rw [show rightI 4 a0_1 a0_2 a0_3 a0_4 a0_5 a0_6 a0_7 a1 a2 = false by rw [ER]; simp [h0, h1]]
        cases t1 : decide (a1 < a0_3)
        · exact rightI.d4f10u a0_1 a0_2 a0_3 a0_4 a0_5 a0_6 a0_7 a1 a2 w h0 h1 t1
        · exact rightI.d4f10t a0_1 a0_2 a0_3 a0_4 a0_5 a0_6 a0_7 a1 a2 w h0 h1 t1
      · skip
        cases h2a : (a0_1 == 1)
        · cases h2b : (a0_1 == 2)
          · rw [show rightI 4 a0_1 a0_2 a0_3 a0_4 a0_5 a0_6 a0_7 a1 a2 = false by rw [ER]; simp [h0, h1, h2a, h2b]]
            cases t1 : decide (a1 < a0_3)
            · exact rightI.d4f20u a0_1 a0_2 a0_3 a0_4 a0_5 a0_6 a0_7 a1 a2 w h0 h1 h2a h2b t1
            · exact rightI.d4f20t a0_1 a0_2 a0_3 a0_4 a0_5 a0_6 a0_7 a1 a2 w h0 h1 h2a h2b t1
          · skip
            cases he : eqI 4 a0_1 a0_2 a0_3 a0_4 a0_5 a0_6 a0_7 4 a0_1 a0_2 a0_3 0 0 0 (⟨#[]⟩ : ByteArray)
            · rw [show rightI 4 a0_1 a0_2 a0_3 a0_4 a0_5 a0_6 a0_7 a1 a2 = false by rw [ER]; simp [h0, h1, h2a, h2b, he]]
              cases t1 : decide (a1 < a0_3)
              · exact rightI.d4n1u a0_1 a0_2 a0_3 a0_4 a0_5 a0_6 a0_7 a1 a2 w h0 h1 h2a h2b he t1
              · exact rightI.d4n1t a0_1 a0_2 a0_3 a0_4 a0_5 a0_6 a0_7 a1 a2 w h0 h1 h2a h2b he t1
            · rw [show rightI 4 a0_1 a0_2 a0_3 a0_4 a0_5 a0_6 a0_7 a1 a2 = true by rw [ER]; simp [h0, h1, h2a, h2b, he]]
              cases t1 : decide (a1 < a0_3)
              · exact rightI.d4y1u a0_1 a0_2 a0_3 a0_4 a0_5 a0_6 a0_7 a1 a2 w h0 h1 h2a h2b he t1
              · exact rightI.d4y1t a0_1 a0_2 a0_3 a0_4 a0_5 a0_6 a0_7 a1 a2 w h0 h1 h2a h2b he t1
        · skip
          cases he : eqI 4 a0_1 a0_2 a0_3 a0_4 a0_5 a0_6 a0_7 4 a0_1 a0_2 a0_3 0 0 0 (⟨#[]⟩ : ByteArray)
          · rw [show rightI 4 a0_1 a0_2 a0_3 a0_4 a0_5 a0_6 a0_7 a1 a2 = false by rw [ER]; simp [h0, h1, h2a, he]]
            cases t1 : decide (a1 < a0_3)
            · exact rightI.d4n0u a0_1 a0_2 a0_3 a0_4 a0_5 a0_6 a0_7 a1 a2 w h0 h1 h2a he t1
            · exact rightI.d4n0t a0_1 a0_2 a0_3 a0_4 a0_5 a0_6 a0_7 a1 a2 w h0 h1 h2a he t1
          · rw [show rightI 4 a0_1 a0_2 a0_3 a0_4 a0_5 a0_6 a0_7 a1 a2 = true by rw [ER]; simp [h0, h1, h2a, he]]
            cases t1 : decide (a1 < a0_3)
            · exact rightI.d4y0u a0_1 a0_2 a0_3 a0_4 a0_5 a0_6 a0_7 a1 a2 w h0 h1 h2a he t1
            · exact rightI.d4y0t a0_1 a0_2 a0_3 a0_4 a0_5 a0_6 a0_7 a1 a2 w h0 h1 h2a he t1
  by_cases k5 : a0_0 = 5
  · subst k5
    have ER : rightI 5 a0_1 a0_2 a0_3 a0_4 a0_5 a0_6 a0_7 a1 a2 = ((regI a0_2) && (regI a0_3) && (regI a0_4) && (decide (3 ≤ a0_1)) && (decide (a0_1 ≤ 16)) && eqI 5 a0_1 a0_2 a0_3 a0_4 a0_5 a0_6 a0_7 5 a0_1 a0_2 a0_3 a0_4 0 0 (⟨#[]⟩ : ByteArray)) := rfl
    cases h0 : regI a0_2
    · rw [show rightI 5 a0_1 a0_2 a0_3 a0_4 a0_5 a0_6 a0_7 a1 a2 = false by rw [ER]; simp [h0]]
      cases t1 : decide (a1 < a0_3)
      · exact rightI.d5f00u a0_1 a0_2 a0_3 a0_4 a0_5 a0_6 a0_7 a1 a2 w h0 t1
      · exact rightI.d5f00t a0_1 a0_2 a0_3 a0_4 a0_5 a0_6 a0_7 a1 a2 w h0 t1
    · skip
      cases h1 : regI a0_3
      · rw [show rightI 5 a0_1 a0_2 a0_3 a0_4 a0_5 a0_6 a0_7 a1 a2 = false by rw [ER]; simp [h0, h1]]
        cases t1 : decide (a1 < a0_3)
        · exact rightI.d5f10u a0_1 a0_2 a0_3 a0_4 a0_5 a0_6 a0_7 a1 a2 w h0 h1 t1
        · exact rightI.d5f10t a0_1 a0_2 a0_3 a0_4 a0_5 a0_6 a0_7 a1 a2 w h0 h1 t1
      · skip
        cases h2 : regI a0_4
        · rw [show rightI 5 a0_1 a0_2 a0_3 a0_4 a0_5 a0_6 a0_7 a1 a2 = false by rw [ER]; simp [h0, h1, h2]]
          cases t1 : decide (a1 < a0_3)
          · exact rightI.d5f20u a0_1 a0_2 a0_3 a0_4 a0_5 a0_6 a0_7 a1 a2 w h0 h1 h2 t1
          · exact rightI.d5f20t a0_1 a0_2 a0_3 a0_4 a0_5 a0_6 a0_7 a1 a2 w h0 h1 h2 t1
        · skip
          cases h3 : decide (3 ≤ a0_1)
          · rw [show rightI 5 a0_1 a0_2 a0_3 a0_4 a0_5 a0_6 a0_7 a1 a2 = false by rw [ER]; simp [h0, h1, h2, h3]]
            cases t1 : decide (a1 < a0_3)
            · exact rightI.d5f30u a0_1 a0_2 a0_3 a0_4 a0_5 a0_6 a0_7 a1 a2 w h0 h1 h2 h3 t1
            · exact rightI.d5f30t a0_1 a0_2 a0_3 a0_4 a0_5 a0_6 a0_7 a1 a2 w h0 h1 h2 h3 t1
          · skip
            cases h4 : decide (a0_1 ≤ 16)
            · rw [show rightI 5 a0_1 a0_2 a0_3 a0_4 a0_5 a0_6 a0_7 a1 a2 = false by rw [ER]; simp [h0, h1, h2, h3, h4]]
              cases t1 : decide (a1 < a0_3)
              · exact rightI.d5f40u a0_1 a0_2 a0_3 a0_4 a0_5 a0_6 a0_7 a1 a2 w h0 h1 h2 h3 h4 t1
              · exact rightI.d5f40t a0_1 a0_2 a0_3 a0_4 a0_5 a0_6 a0_7 a1 a2 w h0 h1 h2 h3 h4 t1
            · skip
              cases he : eqI 5 a0_1 a0_2 a0_3 a0_4 a0_5 a0_6 a0_7 5 a0_1 a0_2 a0_3 a0_4 0 0 (⟨#[]⟩ : ByteArray)
              · rw [show rightI 5 a0_1 a0_2 a0_3 a0_4 a0_5 a0_6 a0_7 a1 a2 = false by rw [ER]; simp [h0, h1, h2, h3, h4, he]]
                cases t1 : decide (a1 < a0_3)
                · exact rightI.d5n0u a0_1 a0_2 a0_3 a0_4 a0_5 a0_6 a0_7 a1 a2 w h0 h1 h2 h3 h4 he t1
                · exact rightI.d5n0t a0_1 a0_2 a0_3 a0_4 a0_5 a0_6 a0_7 a1 a2 w h0 h1 h2 h3 h4 he t1
              · rw [show rightI 5 a0_1 a0_2 a0_3 a0_4 a0_5 a0_6 a0_7 a1 a2 = true by rw [ER]; simp [h0, h1, h2, h3, h4, he]]
                cases t1 : decide (a1 < a0_3)
                · exact rightI.d5y0u a0_1 a0_2 a0_3 a0_4 a0_5 a0_6 a0_7 a1 a2 w h0 h1 h2 h3 h4 he t1
                · exact rightI.d5y0t a0_1 a0_2 a0_3 a0_4 a0_5 a0_6 a0_7 a1 a2 w h0 h1 h2 h3 h4 he t1
  by_cases k6 : a0_0 = 6
  · subst k6
    have ER : rightI 6 a0_1 a0_2 a0_3 a0_4 a0_5 a0_6 a0_7 a1 a2 = ((regI a0_2) && (regI a0_3) && (decide (0 < argsI a0_1)) && (decide (a0_3 ≤ 64 - argsI a0_1)) && eqI 6 a0_1 a0_2 a0_3 a0_4 a0_5 a0_6 a0_7 6 a0_1 a0_2 a0_3 0 0 0 (⟨#[]⟩ : ByteArray)) := rfl
    cases h0 : regI a0_2
    · rw [show rightI 6 a0_1 a0_2 a0_3 a0_4 a0_5 a0_6 a0_7 a1 a2 = false by rw [ER]; simp [h0]]
      cases t1 : decide (a1 < a0_3)
      · exact rightI.d6f00u a0_1 a0_2 a0_3 a0_4 a0_5 a0_6 a0_7 a1 a2 w h0 t1
      · exact rightI.d6f00t a0_1 a0_2 a0_3 a0_4 a0_5 a0_6 a0_7 a1 a2 w h0 t1
    · skip
      cases h1 : regI a0_3
      · rw [show rightI 6 a0_1 a0_2 a0_3 a0_4 a0_5 a0_6 a0_7 a1 a2 = false by rw [ER]; simp [h0, h1]]
        cases t1 : decide (a1 < a0_3)
        · exact rightI.d6f10u a0_1 a0_2 a0_3 a0_4 a0_5 a0_6 a0_7 a1 a2 w h0 h1 t1
        · exact rightI.d6f10t a0_1 a0_2 a0_3 a0_4 a0_5 a0_6 a0_7 a1 a2 w h0 h1 t1
      · skip
        cases h2 : decide (0 < argsI a0_1)
        · rw [show rightI 6 a0_1 a0_2 a0_3 a0_4 a0_5 a0_6 a0_7 a1 a2 = false by rw [ER]; simp [h0, h1, h2]]
          cases t1 : decide (a1 < a0_3)
          · exact rightI.d6f20u a0_1 a0_2 a0_3 a0_4 a0_5 a0_6 a0_7 a1 a2 w h0 h1 h2 t1
          · exact rightI.d6f20t a0_1 a0_2 a0_3 a0_4 a0_5 a0_6 a0_7 a1 a2 w h0 h1 h2 t1
        · skip
          cases h3 : decide (a0_3 ≤ 64 - argsI a0_1)
          · rw [show rightI 6 a0_1 a0_2 a0_3 a0_4 a0_5 a0_6 a0_7 a1 a2 = false by rw [ER]; simp [h0, h1, h2, h3]]
            cases t1 : decide (a1 < a0_3)
            · exact rightI.d6f30u a0_1 a0_2 a0_3 a0_4 a0_5 a0_6 a0_7 a1 a2 w h0 h1 h2 h3 t1
            · exact rightI.d6f30t a0_1 a0_2 a0_3 a0_4 a0_5 a0_6 a0_7 a1 a2 w h0 h1 h2 h3 t1
          · skip
            cases he : eqI 6 a0_1 a0_2 a0_3 a0_4 a0_5 a0_6 a0_7 6 a0_1 a0_2 a0_3 0 0 0 (⟨#[]⟩ : ByteArray)
            · rw [show rightI 6 a0_1 a0_2 a0_3 a0_4 a0_5 a0_6 a0_7 a1 a2 = false by rw [ER]; simp [h0, h1, h2, h3, he]]
              cases t1 : decide (a1 < a0_3)
              · exact rightI.d6n0u a0_1 a0_2 a0_3 a0_4 a0_5 a0_6 a0_7 a1 a2 w h0 h1 h2 h3 he t1
              · exact rightI.d6n0t a0_1 a0_2 a0_3 a0_4 a0_5 a0_6 a0_7 a1 a2 w h0 h1 h2 h3 he t1
            · rw [show rightI 6 a0_1 a0_2 a0_3 a0_4 a0_5 a0_6 a0_7 a1 a2 = true by rw [ER]; simp [h0, h1, h2, h3, he]]
              cases t1 : decide (a1 < a0_3)
              · exact rightI.d6y0u a0_1 a0_2 a0_3 a0_4 a0_5 a0_6 a0_7 a1 a2 w h0 h1 h2 h3 he t1
              · exact rightI.d6y0t a0_1 a0_2 a0_3 a0_4 a0_5 a0_6 a0_7 a1 a2 w h0 h1 h2 h3 he t1
  by_cases k7 : a0_0 = 7
  · subst k7
    have ER : rightI 7 a0_1 a0_2 a0_3 a0_4 a0_5 a0_6 a0_7 a1 a2 = ((regI a0_2) && (regI a0_3) && (a0_1 == 0 || a0_1 == 1) && eqI 7 a0_1 a0_2 a0_3 a0_4 a0_5 a0_6 a0_7 7 a0_1 a0_2 a0_3 0 0 0 (⟨#[]⟩ : ByteArray)) := rfl
    cases h0 : regI a0_2
    · rw [show rightI 7 a0_1 a0_2 a0_3 a0_4 a0_5 a0_6 a0_7 a1 a2 = false by rw [ER]; simp [h0]]
      cases t1 : decide (a1 < a0_3)
      · exact rightI.d7f00u a0_1 a0_2 a0_3 a0_4 a0_5 a0_6 a0_7 a1 a2 w h0 t1
      · exact rightI.d7f00t a0_1 a0_2 a0_3 a0_4 a0_5 a0_6 a0_7 a1 a2 w h0 t1
    · skip
      cases h1 : regI a0_3
      · rw [show rightI 7 a0_1 a0_2 a0_3 a0_4 a0_5 a0_6 a0_7 a1 a2 = false by rw [ER]; simp [h0, h1]]
        cases t1 : decide (a1 < a0_3)
        · exact rightI.d7f10u a0_1 a0_2 a0_3 a0_4 a0_5 a0_6 a0_7 a1 a2 w h0 h1 t1
        · exact rightI.d7f10t a0_1 a0_2 a0_3 a0_4 a0_5 a0_6 a0_7 a1 a2 w h0 h1 t1
      · skip
        cases h2a : (a0_1 == 0)
        · cases h2b : (a0_1 == 1)
          · rw [show rightI 7 a0_1 a0_2 a0_3 a0_4 a0_5 a0_6 a0_7 a1 a2 = false by rw [ER]; simp [h0, h1, h2a, h2b]]
            cases t1 : decide (a1 < a0_3)
            · exact rightI.d7f20u a0_1 a0_2 a0_3 a0_4 a0_5 a0_6 a0_7 a1 a2 w h0 h1 h2a h2b t1
            · exact rightI.d7f20t a0_1 a0_2 a0_3 a0_4 a0_5 a0_6 a0_7 a1 a2 w h0 h1 h2a h2b t1
          · skip
            cases he : eqI 7 a0_1 a0_2 a0_3 a0_4 a0_5 a0_6 a0_7 7 a0_1 a0_2 a0_3 0 0 0 (⟨#[]⟩ : ByteArray)
            · rw [show rightI 7 a0_1 a0_2 a0_3 a0_4 a0_5 a0_6 a0_7 a1 a2 = false by rw [ER]; simp [h0, h1, h2a, h2b, he]]
              cases t1 : decide (a1 < a0_3)
              · exact rightI.d7n1u a0_1 a0_2 a0_3 a0_4 a0_5 a0_6 a0_7 a1 a2 w h0 h1 h2a h2b he t1
              · exact rightI.d7n1t a0_1 a0_2 a0_3 a0_4 a0_5 a0_6 a0_7 a1 a2 w h0 h1 h2a h2b he t1
            · rw [show rightI 7 a0_1 a0_2 a0_3 a0_4 a0_5 a0_6 a0_7 a1 a2 = true by rw [ER]; simp [h0, h1, h2a, h2b, he]]
              cases t1 : decide (a1 < a0_3)
              · exact rightI.d7y1u a0_1 a0_2 a0_3 a0_4 a0_5 a0_6 a0_7 a1 a2 w h0 h1 h2a h2b he t1
              · exact rightI.d7y1t a0_1 a0_2 a0_3 a0_4 a0_5 a0_6 a0_7 a1 a2 w h0 h1 h2a h2b he t1
        · skip
          cases he : eqI 7 a0_1 a0_2 a0_3 a0_4 a0_5 a0_6 a0_7 7 a0_1 a0_2 a0_3 0 0 0 (⟨#[]⟩ : ByteArray)
          · rw [show rightI 7 a0_1 a0_2 a0_3 a0_4 a0_5 a0_6 a0_7 a1 a2 = false by rw [ER]; simp [h0, h1, h2a, he]]
            cases t1 : decide (a1 < a0_3)
            · exact rightI.d7n0u a0_1 a0_2 a0_3 a0_4 a0_5 a0_6 a0_7 a1 a2 w h0 h1 h2a he t1
            · exact rightI.d7n0t a0_1 a0_2 a0_3 a0_4 a0_5 a0_6 a0_7 a1 a2 w h0 h1 h2a he t1
          · rw [show rightI 7 a0_1 a0_2 a0_3 a0_4 a0_5 a0_6 a0_7 a1 a2 = true by rw [ER]; simp [h0, h1, h2a, he]]
            cases t1 : decide (a1 < a0_3)
            · exact rightI.d7y0u a0_1 a0_2 a0_3 a0_4 a0_5 a0_6 a0_7 a1 a2 w h0 h1 h2a he t1
            · exact rightI.d7y0t a0_1 a0_2 a0_3 a0_4 a0_5 a0_6 a0_7 a1 a2 w h0 h1 h2a he t1
  by_cases k8 : a0_0 = 8
  · subst k8
    have ER : rightI 8 a0_1 a0_2 a0_3 a0_4 a0_5 a0_6 a0_7 a1 a2 = ((regI a0_2) && (regI a0_3) && eqI 8 a0_1 a0_2 a0_3 a0_4 a0_5 a0_6 a0_7 8 0 a0_2 a0_3 0 0 0 (⟨#[]⟩ : ByteArray)) := rfl
    cases h0 : regI a0_2
    · rw [show rightI 8 a0_1 a0_2 a0_3 a0_4 a0_5 a0_6 a0_7 a1 a2 = false by rw [ER]; simp [h0]]
      cases t1 : decide (a1 < a0_3)
      · exact rightI.d8f00u a0_1 a0_2 a0_3 a0_4 a0_5 a0_6 a0_7 a1 a2 w h0 t1
      · exact rightI.d8f00t a0_1 a0_2 a0_3 a0_4 a0_5 a0_6 a0_7 a1 a2 w h0 t1
    · skip
      cases h1 : regI a0_3
      · rw [show rightI 8 a0_1 a0_2 a0_3 a0_4 a0_5 a0_6 a0_7 a1 a2 = false by rw [ER]; simp [h0, h1]]
        cases t1 : decide (a1 < a0_3)
        · exact rightI.d8f10u a0_1 a0_2 a0_3 a0_4 a0_5 a0_6 a0_7 a1 a2 w h0 h1 t1
        · exact rightI.d8f10t a0_1 a0_2 a0_3 a0_4 a0_5 a0_6 a0_7 a1 a2 w h0 h1 t1
      · skip
        cases he : eqI 8 a0_1 a0_2 a0_3 a0_4 a0_5 a0_6 a0_7 8 0 a0_2 a0_3 0 0 0 (⟨#[]⟩ : ByteArray)
        · rw [show rightI 8 a0_1 a0_2 a0_3 a0_4 a0_5 a0_6 a0_7 a1 a2 = false by rw [ER]; simp [h0, h1, he]]
          cases t1 : decide (a1 < a0_3)
          · exact rightI.d8n0u a0_1 a0_2 a0_3 a0_4 a0_5 a0_6 a0_7 a1 a2 w h0 h1 he t1
          · exact rightI.d8n0t a0_1 a0_2 a0_3 a0_4 a0_5 a0_6 a0_7 a1 a2 w h0 h1 he t1
        · rw [show rightI 8 a0_1 a0_2 a0_3 a0_4 a0_5 a0_6 a0_7 a1 a2 = true by rw [ER]; simp [h0, h1, he]]
          cases t1 : decide (a1 < a0_3)
          · exact rightI.d8y0u a0_1 a0_2 a0_3 a0_4 a0_5 a0_6 a0_7 a1 a2 w h0 h1 he t1
          · exact rightI.d8y0t a0_1 a0_2 a0_3 a0_4 a0_5 a0_6 a0_7 a1 a2 w h0 h1 he t1
  by_cases k9 : a0_0 = 9
  · subst k9
    have ER : rightI 9 a0_1 a0_2 a0_3 a0_4 a0_5 a0_6 a0_7 a1 a2 = ((decide (a1 < a0_3)) && (decide (a0_3 ≤ a2)) && eqI 9 a0_1 a0_2 a0_3 a0_4 a0_5 a0_6 a0_7 9 0 0 a0_3 0 0 0 (⟨#[]⟩ : ByteArray)) := rfl
    cases h0 : decide (a1 < a0_3)
    · rw [show rightI 9 a0_1 a0_2 a0_3 a0_4 a0_5 a0_6 a0_7 a1 a2 = false by rw [ER]; simp [h0]]
      exact rightI.d9f00 a0_1 a0_2 a0_3 a0_4 a0_5 a0_6 a0_7 a1 a2 w h0
    · skip
      cases h1 : decide (a0_3 ≤ a2)
      · rw [show rightI 9 a0_1 a0_2 a0_3 a0_4 a0_5 a0_6 a0_7 a1 a2 = false by rw [ER]; simp [h0, h1]]
        exact rightI.d9f10 a0_1 a0_2 a0_3 a0_4 a0_5 a0_6 a0_7 a1 a2 w h0 h1
      · skip
        cases he : eqI 9 a0_1 a0_2 a0_3 a0_4 a0_5 a0_6 a0_7 9 0 0 a0_3 0 0 0 (⟨#[]⟩ : ByteArray)
        · rw [show rightI 9 a0_1 a0_2 a0_3 a0_4 a0_5 a0_6 a0_7 a1 a2 = false by rw [ER]; simp [h0, h1, he]]
          exact rightI.d9n0 a0_1 a0_2 a0_3 a0_4 a0_5 a0_6 a0_7 a1 a2 w h0 h1 he
        · rw [show rightI 9 a0_1 a0_2 a0_3 a0_4 a0_5 a0_6 a0_7 a1 a2 = true by rw [ER]; simp [h0, h1, he]]
          exact rightI.d9y0 a0_1 a0_2 a0_3 a0_4 a0_5 a0_6 a0_7 a1 a2 w h0 h1 he
  by_cases k10 : a0_0 = 10
  · subst k10
    have ER : rightI 10 a0_1 a0_2 a0_3 a0_4 a0_5 a0_6 a0_7 a1 a2 = ((regI a0_2) && (decide (a1 < a0_3)) && (decide (a0_3 ≤ a2)) && eqI 10 a0_1 a0_2 a0_3 a0_4 a0_5 a0_6 a0_7 10 0 a0_2 a0_3 0 0 0 (⟨#[]⟩ : ByteArray)) := rfl
    cases h0 : regI a0_2
    · rw [show rightI 10 a0_1 a0_2 a0_3 a0_4 a0_5 a0_6 a0_7 a1 a2 = false by rw [ER]; simp [h0]]
      cases t1 : decide (a1 < a0_3)
      · exact rightI.d10f00u a0_1 a0_2 a0_3 a0_4 a0_5 a0_6 a0_7 a1 a2 w h0 t1
      · exact rightI.d10f00t a0_1 a0_2 a0_3 a0_4 a0_5 a0_6 a0_7 a1 a2 w h0 t1
    · skip
      cases h1 : decide (a1 < a0_3)
      · rw [show rightI 10 a0_1 a0_2 a0_3 a0_4 a0_5 a0_6 a0_7 a1 a2 = false by rw [ER]; simp [h0, h1]]
        exact rightI.d10f10 a0_1 a0_2 a0_3 a0_4 a0_5 a0_6 a0_7 a1 a2 w h0 h1
      · skip
        cases h2 : decide (a0_3 ≤ a2)
        · rw [show rightI 10 a0_1 a0_2 a0_3 a0_4 a0_5 a0_6 a0_7 a1 a2 = false by rw [ER]; simp [h0, h1, h2]]
          exact rightI.d10f20 a0_1 a0_2 a0_3 a0_4 a0_5 a0_6 a0_7 a1 a2 w h0 h1 h2
        · skip
          cases he : eqI 10 a0_1 a0_2 a0_3 a0_4 a0_5 a0_6 a0_7 10 0 a0_2 a0_3 0 0 0 (⟨#[]⟩ : ByteArray)
          · rw [show rightI 10 a0_1 a0_2 a0_3 a0_4 a0_5 a0_6 a0_7 a1 a2 = false by rw [ER]; simp [h0, h1, h2, he]]
            exact rightI.d10n0 a0_1 a0_2 a0_3 a0_4 a0_5 a0_6 a0_7 a1 a2 w h0 h1 h2 he
          · rw [show rightI 10 a0_1 a0_2 a0_3 a0_4 a0_5 a0_6 a0_7 a1 a2 = true by rw [ER]; simp [h0, h1, h2, he]]
            exact rightI.d10y0 a0_1 a0_2 a0_3 a0_4 a0_5 a0_6 a0_7 a1 a2 w h0 h1 h2 he
  by_cases k11 : a0_0 = 11
  · subst k11
    have ER : rightI 11 a0_1 a0_2 a0_3 a0_4 a0_5 a0_6 a0_7 a1 a2 = ((regI a0_2) && (decide (a1 < a0_3)) && (decide (a0_3 ≤ a2)) && eqI 11 a0_1 a0_2 a0_3 a0_4 a0_5 a0_6 a0_7 11 0 a0_2 a0_3 0 0 0 (⟨#[]⟩ : ByteArray)) := rfl
    cases h0 : regI a0_2
    · rw [show rightI 11 a0_1 a0_2 a0_3 a0_4 a0_5 a0_6 a0_7 a1 a2 = false by rw [ER]; simp [h0]]
      cases t1 : decide (a1 < a0_3)
      · exact rightI.d11f00u a0_1 a0_2 a0_3 a0_4 a0_5 a0_6 a0_7 a1 a2 w h0 t1
      · exact rightI.d11f00t a0_1 a0_2 a0_3 a0_4 a0_5 a0_6 a0_7 a1 a2 w h0 t1
    · skip
      cases h1 : decide (a1 < a0_3)
      · rw [show rightI 11 a0_1 a0_2 a0_3 a0_4 a0_5 a0_6 a0_7 a1 a2 = false by rw [ER]; simp [h0, h1]]
        exact rightI.d11f10 a0_1 a0_2 a0_3 a0_4 a0_5 a0_6 a0_7 a1 a2 w h0 h1
      · skip
        cases h2 : decide (a0_3 ≤ a2)
        · rw [show rightI 11 a0_1 a0_2 a0_3 a0_4 a0_5 a0_6 a0_7 a1 a2 = false by rw [ER]; simp [h0, h1, h2]]
          exact rightI.d11f20 a0_1 a0_2 a0_3 a0_4 a0_5 a0_6 a0_7 a1 a2 w h0 h1 h2
        · skip
          cases he : eqI 11 a0_1 a0_2 a0_3 a0_4 a0_5 a0_6 a0_7 11 0 a0_2 a0_3 0 0 0 (⟨#[]⟩ : ByteArray)
          · rw [show rightI 11 a0_1 a0_2 a0_3 a0_4 a0_5 a0_6 a0_7 a1 a2 = false by rw [ER]; simp [h0, h1, h2, he]]
            exact rightI.d11n0 a0_1 a0_2 a0_3 a0_4 a0_5 a0_6 a0_7 a1 a2 w h0 h1 h2 he
          · rw [show rightI 11 a0_1 a0_2 a0_3 a0_4 a0_5 a0_6 a0_7 a1 a2 = true by rw [ER]; simp [h0, h1, h2, he]]
            exact rightI.d11y0 a0_1 a0_2 a0_3 a0_4 a0_5 a0_6 a0_7 a1 a2 w h0 h1 h2 he
  by_cases k12 : a0_0 = 12
  · subst k12
    have ER : rightI 12 a0_1 a0_2 a0_3 a0_4 a0_5 a0_6 a0_7 a1 a2 = ((regI a0_2) && (decide (a1 < a0_3)) && (decide (a0_3 ≤ a2)) && eqI 12 a0_1 a0_2 a0_3 a0_4 a0_5 a0_6 a0_7 12 0 a0_2 a0_3 0 0 0 (⟨#[]⟩ : ByteArray)) := rfl
    cases h0 : regI a0_2
    · rw [show rightI 12 a0_1 a0_2 a0_3 a0_4 a0_5 a0_6 a0_7 a1 a2 = false by rw [ER]; simp [h0]]
      cases t1 : decide (a1 < a0_3)
      · exact rightI.d12f00u a0_1 a0_2 a0_3 a0_4 a0_5 a0_6 a0_7 a1 a2 w h0 t1
      · exact rightI.d12f00t a0_1 a0_2 a0_3 a0_4 a0_5 a0_6 a0_7 a1 a2 w h0 t1
    · skip
      cases h1 : decide (a1 < a0_3)
      · rw [show rightI 12 a0_1 a0_2 a0_3 a0_4 a0_5 a0_6 a0_7 a1 a2 = false by rw [ER]; simp [h0, h1]]
        exact rightI.d12f10 a0_1 a0_2 a0_3 a0_4 a0_5 a0_6 a0_7 a1 a2 w h0 h1
      · skip
        cases h2 : decide (a0_3 ≤ a2)
        · rw [show rightI 12 a0_1 a0_2 a0_3 a0_4 a0_5 a0_6 a0_7 a1 a2 = false by rw [ER]; simp [h0, h1, h2]]
          exact rightI.d12f20 a0_1 a0_2 a0_3 a0_4 a0_5 a0_6 a0_7 a1 a2 w h0 h1 h2
        · skip
          cases he : eqI 12 a0_1 a0_2 a0_3 a0_4 a0_5 a0_6 a0_7 12 0 a0_2 a0_3 0 0 0 (⟨#[]⟩ : ByteArray)
          · rw [show rightI 12 a0_1 a0_2 a0_3 a0_4 a0_5 a0_6 a0_7 a1 a2 = false by rw [ER]; simp [h0, h1, h2, he]]
            exact rightI.d12n0 a0_1 a0_2 a0_3 a0_4 a0_5 a0_6 a0_7 a1 a2 w h0 h1 h2 he
          · rw [show rightI 12 a0_1 a0_2 a0_3 a0_4 a0_5 a0_6 a0_7 a1 a2 = true by rw [ER]; simp [h0, h1, h2, he]]
            exact rightI.d12y0 a0_1 a0_2 a0_3 a0_4 a0_5 a0_6 a0_7 a1 a2 w h0 h1 h2 he
  by_cases k13 : a0_0 = 13
  · subst k13
    have ER : rightI 13 a0_1 a0_2 a0_3 a0_4 a0_5 a0_6 a0_7 a1 a2 = ((regI a0_2) && eqI 13 a0_1 a0_2 a0_3 a0_4 a0_5 a0_6 a0_7 13 0 a0_2 0 0 0 0 (⟨#[]⟩ : ByteArray)) := rfl
    cases h0 : regI a0_2
    · rw [show rightI 13 a0_1 a0_2 a0_3 a0_4 a0_5 a0_6 a0_7 a1 a2 = false by rw [ER]; simp [h0]]
      cases t1 : decide (a1 < a0_3)
      · exact rightI.d13f00u a0_1 a0_2 a0_3 a0_4 a0_5 a0_6 a0_7 a1 a2 w h0 t1
      · exact rightI.d13f00t a0_1 a0_2 a0_3 a0_4 a0_5 a0_6 a0_7 a1 a2 w h0 t1
    · skip
      cases he : eqI 13 a0_1 a0_2 a0_3 a0_4 a0_5 a0_6 a0_7 13 0 a0_2 0 0 0 0 (⟨#[]⟩ : ByteArray)
      · rw [show rightI 13 a0_1 a0_2 a0_3 a0_4 a0_5 a0_6 a0_7 a1 a2 = false by rw [ER]; simp [h0, he]]
        cases t1 : decide (a1 < a0_3)
        · exact rightI.d13n0u a0_1 a0_2 a0_3 a0_4 a0_5 a0_6 a0_7 a1 a2 w h0 he t1
        · exact rightI.d13n0t a0_1 a0_2 a0_3 a0_4 a0_5 a0_6 a0_7 a1 a2 w h0 he t1
      · rw [show rightI 13 a0_1 a0_2 a0_3 a0_4 a0_5 a0_6 a0_7 a1 a2 = true by rw [ER]; simp [h0, he]]
        cases t1 : decide (a1 < a0_3)
        · exact rightI.d13y0u a0_1 a0_2 a0_3 a0_4 a0_5 a0_6 a0_7 a1 a2 w h0 he t1
        · exact rightI.d13y0t a0_1 a0_2 a0_3 a0_4 a0_5 a0_6 a0_7 a1 a2 w h0 he t1
  have ER : rightI a0_0 a0_1 a0_2 a0_3 a0_4 a0_5 a0_6 a0_7 a1 a2 = false := by unfold rightI; rw [if_neg k1, if_neg k2, if_neg k3, if_neg k4, if_neg k5, if_neg k6, if_neg k7, if_neg k8, if_neg k9, if_neg k10, if_neg k11, if_neg k12, if_neg k13]
  rw [ER]
  clear ER
  have q1 : (a0_0 == 1) = false := beq_eq_false_iff_ne.mpr k1
  have q2 : (a0_0 == 2) = false := beq_eq_false_iff_ne.mpr k2
  have q3 : (a0_0 == 3) = false := beq_eq_false_iff_ne.mpr k3
  have q4 : (a0_0 == 4) = false := beq_eq_false_iff_ne.mpr k4
  have q5 : (a0_0 == 5) = false := beq_eq_false_iff_ne.mpr k5
  have q6 : (a0_0 == 6) = false := beq_eq_false_iff_ne.mpr k6
  have q7 : (a0_0 == 7) = false := beq_eq_false_iff_ne.mpr k7
  have q8 : (a0_0 == 8) = false := beq_eq_false_iff_ne.mpr k8
  have q9 : (a0_0 == 9) = false := beq_eq_false_iff_ne.mpr k9
  have q10 : (a0_0 == 10) = false := beq_eq_false_iff_ne.mpr k10
  have q11 : (a0_0 == 11) = false := beq_eq_false_iff_ne.mpr k11
  have q12 : (a0_0 == 12) = false := beq_eq_false_iff_ne.mpr k12
  have q13 : (a0_0 == 13) = false := beq_eq_false_iff_ne.mpr k13
  cases t1 : decide (a1 < a0_3)
  · exact rightI.d0u a0_0 a0_1 a0_2 a0_3 a0_4 a0_5 a0_6 a0_7 a1 a2 w q1 q2 q3 q4 q5 q6 q7 q8 q9 q10 q11 q12 q13 t1
  · exact rightI.d0t a0_0 a0_1 a0_2 a0_3 a0_4 a0_5 a0_6 a0_7 a1 a2 w q1 q2 q3 q4 q5 q6 q7 q8 q9 q10 q11 q12 q13 t1

end Go.Proofs.Ytbdoennkalnkcaa.P
