/- Of a row of one value, turned about, the bytes are those of the value with all bits turned, and the order is the other way round; values and letters together at most 1048576. No other condition. -/
import Derived.Test.YtbpnmmakodaakaaR7
import Derived.Test.YtbpnmmakodaakaaKB
namespace Go.Proofs.Ytbpnmmakodaakaa.Pure
set_option linter.unusedVariables false
set_option linter.unusedSimpArgs false
open Go.RowKit Go.Proofs.Ytbpnmmakodaakaa.P Go.Proofs.YtbpnmmakodaakaaW.PrintWords Go.Proofs.YtbpnmmakodaakaaW.PrintLast Go.Proofs.YtbpnmmakodaakaaW.PrintMore

theorem xor_flip {c : Int} (h0 : 0 ≤ c) (h1 : c ≤ 255) : Go.bits .xor .u8 c (255 - c) = 255 := by
  obtain ⟨m, rfl⟩ := Int.eq_ofNat_of_zero_le h0
  have hm : m < 256 := by omega
  have h4 : ∀ m : Fin 256, Go.bits .xor .u8 ((m.val : Nat) : Int) (255 - ((m.val : Nat) : Int)) = 255 := by decide +kernel
  exact h4 ⟨m, hm⟩
theorem turned_loop (u v p0 : List Int) (c : Int) (h3 : S3 c) (ho : quarrylaw03_order.f p0 u = some c) (hf : quarrylaw03_order.f (flipL p0) v = some (-c)) : ∀ (suf pre : List Int), BytesIn suf → (pre ++ suf).length < 140737488355328 → p0 = pre ++ suf → Ev (fun k => quarrylaw03_KeysTurned.l0 k (pre ++ suf) (flipL pre ++ flipL suf) u v (pre.length : Int)) true := by
  intro suf
  induction suf with
  | nil =>
    intro pre _ hl hp
    refine Ev.succ ?_
    have e : ¬ ((pre.length : Int) < ((pre ++ []).length : Int)) := by simp
    have e2 : flipL pre ++ flipL [] = flipL p0 := by rw [hp]; simp [flipL]
    have e3 : wrap64 (- -c) = c := by unfold S3 at h3; unfold wrap64; omega
    rw [← hp, e2] at *
    simp only [quarrylaw03_KeysTurned.l0, e, if_false, ho, hf, Option.bind_some, e3, beq_self_eq_true]
    exact Ev.pure _
  | cons x suf ih =>
    intro pre hb hl hp
    refine Ev.succ ?_
    have e1 : (pre.length : Int) < ((pre ++ x :: suf).length : Int) := by simp; omega
    have e2 : (0 : Int) ≤ (pre.length : Int) := by omega
    have e3 : (pre.length : Int) < ((flipL pre ++ flipL (x :: suf)).length : Int) := by simp [flipL]; omega
    have e6 : wrap64 ((pre.length : Int) + 1) = (pre.length : Int) + 1 := wrap64_in (by omega) (by simp at hl; omega)
    have hx := hb x (by simp)
    have e7 : rd (flipL pre ++ flipL (x :: suf)) (pre.length : Int) = 255 - x := (by have h := rdI_at (flipL pre) (255 - x) (flipL suf); rw [flipL_length] at h; exact h)
    simp only [quarrylaw03_KeysTurned.l0, e1, e2, e3, if_true, rdI_at, e7, xor_flip hx.1 hx.2, e6]
    have := ih (pre ++ [x]) (fun y hy => hb y (by simp [hy])) (by simpa using hl) (by simpa using hp)
    simpa [flipL] using this
theorem one_enc {x : S43} (hc : chk x = 0) (b : Bool) : encE [b] [x] = some (turnB b (encB x)) := by
  rw [encE, if_pos hc]
  simp [encE]
theorem one_enc0 {x : S43} (hc : chk x = 0) : encE [] [x] = some (encB x) := by
  rw [encE, if_pos hc]
  simp [encE, turnB]
theorem one_ev {x : S43} (d : List Bool) (h : okV x) (hs : x.f2.size ≤ 1048576) {b : List Int} (he : encE d [x] = some b) : Ev (fun k => keys_Encode.f k [x] d) (b, 0) := by
  have := encode_ev [x] d (fun y hy => by rw [List.mem_singleton] at hy; subst hy; exact h) (by simp) (by simp [room]; omega)
  rwa [encR_of he] at this
theorem KeysTurned : ∀ (x0 : S43) (x1 : S43), G43 x0 → G43 x1 → m43 x0 + m43 x1 ≤ 1048576 → ∃ k, quarrylaw03_KeysTurned.f k (x0.f0) (x0.f1) (x0.f2) (x1.f0) (x1.f1) (x1.f2) = some true := by
  intro a b ha hb hm
  have oa : okV a := ⟨wf64 ha.1, wf64 ha.2.1, ha.2.2⟩
  have ob : okV b := ⟨wf64 hb.1, wf64 hb.2.1, hb.2.2⟩
  have sa : a.f2.size ≤ 1048576 := by unfold m43 at hm; omega
  have sb : b.f2.size ≤ 1048576 := by unfold m43 at hm; omega
  have ea : (⟨a.f0, a.f1, a.f2⟩ : S43) = a := rfl
  have eb : (⟨b.f0, b.f1, b.f2⟩ : S43) = b := rfl
  refine Ev.get ?_
  unfold quarrylaw03_KeysTurned.f
  refine Ev.bind works_ev ?_
  simp only [if_true, ea, eb]
  refine Ev.bind (right_ev [a, b] (by simp)) ?_
  cases rr : rightB [a, b] with
  | false =>
    simp only [Bool.false_eq_true, if_false]
    exact Ev.pure _
  | true =>
    have hr := right_all rr
    have ca := hr a (by simp)
    have cb := hr b (by simp)
    simp only [if_true]
    refine Ev.bind (one_ev [] oa sa (one_enc0 ca)) (Ev.bind (one_ev [true] oa sa (one_enc ca true)) (Ev.bind (one_ev [] ob sb (one_enc0 cb)) (Ev.bind (one_ev [true] ob sb (one_enc cb true)) ?_)))
    have el : ((encB a).length : Int) = ((turnB true (encB a)).length : Int) := by rw [turnB_length]
    simp only [← el, if_true]
    have hd := encB_diff ca cb oa.2.1 ob.2.1
    have h1 := hd.cmp [] []
    have h2 := hd.flip.cmp [] []
    have h3 := cmpV_s3 a b
    simp only [List.append_nil] at h1 h2
    have q1 : cmpL (encB a) (encB b) = cmpV a b := by rw [h1]; split <;> (try simp [cmpL]) <;> omega
    have q2 : cmpL (flipL (encB a)) (flipL (encB b)) = -cmpV a b := by rw [h2]; split <;> (try simp [cmpL]) <;> omega
    have ho : quarrylaw03_order.f (encB a) (encB b) = some (cmpV a b) := by rw [order_f (encB_range a) (encB_range b), q1]
    have hf : quarrylaw03_order.f (flipL (encB a)) (turnB true (encB b)) = some (-cmpV a b) := by
      have := order_f (turnB_range true (encB_range a)) (turnB_range true (encB_range b))
      simp only [turnB, if_true] at this ⊢
      rw [this, q2]
    have hlen := encB_length a
    have := turned_loop (encB b) (turnB true (encB b)) (encB a) (cmpV a b) h3 ho hf (encB a) [] (encB_range a) (by simp; omega) rfl
    simpa [flipL, turnB] using this
end Go.Proofs.Ytbpnmmakodaakaa.Pure
