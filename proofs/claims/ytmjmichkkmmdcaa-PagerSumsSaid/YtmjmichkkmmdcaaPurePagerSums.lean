/- The sum of any bytes: the program's and the document's are one, whatever the bytes are. No condition but that they fit memory. -/
import Derived.Test.YtmjmichkkmmdcaaP
import Derived.Test.YtmjmichkkmmdcaaKinds
import Derived.OpenShut
import Derived.Laws.BitsLemmas
import Derived.Laws.Bits64
namespace Go.Proofs.Ytmjmichkkmmdcaa.Pure
open Go.RowKit Go.Proofs.Ytmjmichkkmmdcaa.P Go.Proofs.YtmjmichkkmmdcaaW.PrintWords Go.Proofs.YtmjmichkkmmdcaaW.PrintLast

/-- With enough rounds, and with any more. -/
def Ev {α : Type} (g : Nat → Option α) (r : α) : Prop := ∃ k0, ∀ k, k0 ≤ k → g k = some r
theorem Ev.pure {α : Type} (r : α) : Ev (fun _ => some r) r := ⟨0, fun _ _ => rfl⟩
theorem Ev.bind {α β : Type} {g : Nat → Option α} {h : Nat → α → Option β} {a : α} {r : β} (hg : Ev g a) (hh : Ev (fun k => h k a) r) : Ev (fun k => (g k).bind (h k)) r := by
  obtain ⟨k1, h1⟩ := hg
  obtain ⟨k2, h2⟩ := hh
  refine ⟨max k1 k2, fun k hk => ?_⟩
  show (g k).bind (h k) = some r
  rw [h1 k (by omega)]
  exact h2 k (by omega)
theorem Ev.succ {α : Type} {g : Nat → Option α} {r : α} (h : Ev (fun k => g (k + 1)) r) : Ev g r := by
  obtain ⟨k1, h1⟩ := h
  refine ⟨k1 + 1, fun k hk => ?_⟩
  have h2 : g (k - 1 + 1) = some r := h1 (k - 1) (by omega)
  rwa [show k - 1 + 1 = k by omega] at h2
theorem Ev.get {α : Type} {g : Nat → Option α} {r : α} (h : Ev g r) : ∃ k, g k = some r := by
  obtain ⟨k, h⟩ := h
  exact ⟨k, h k (Nat.le_refl _)⟩

theorem wrap64_in {n : Int} (h0 : -9223372036854775808 ≤ n) (h1 : n ≤ 9223372036854775807) : wrap64 n = n := by unfold wrap64; omega
def U32 (x : Int) : Prop := 0 ≤ x ∧ x < 4294967296
theorem xor_u32 (a b : Int) : U32 (Go.bits .xor .u32 a b) := by
  show U32 (IntKind.u32.wrap _)
  unfold U32
  rw [IntKind.wrap_u32]
  omega
theorem xor_comm (a b : Int) : Go.bits .xor .u32 a b = Go.bits .xor .u32 b a := by
  show IntKind.u32.wrap ((BitVec.ofInt 32 a ^^^ BitVec.ofInt 32 b).toNat : Int) = IntKind.u32.wrap ((BitVec.ofInt 32 b ^^^ BitVec.ofInt 32 a).toNat : Int)
  rw [BitVec.xor_comm]
theorem and_1 {x : Int} (h : U32 x) : Go.bits .and .u32 x 1 = x % 2 := bits_mask .u32 32 (by decide) (fun m h0 h1 => by rw [IntKind.wrap_u32]; omega) 1 (by decide) x h.1 h.2
def turn (x : Int) : Int := if x % 2 = 1 then Go.bits .xor .u32 (x / 2) 3988292384 else x / 2
theorem turn_u32 {x : Int} (h : U32 x) : U32 (turn x) := by
  unfold turn
  split
  · exact xor_u32 _ _
  · unfold U32 at *; omega
def turns : Nat → Int → Int
  | 0, x => x
  | n + 1, x => turns n (turn x)
theorem turns_u32 : ∀ (n : Nat) {x : Int}, U32 x → U32 (turns n x)
  | 0, _, h => h
  | n + 1, _, h => turns_u32 n (turn_u32 h)
def eat (x c : Int) : Int := turns 8 (Go.bits .xor .u32 x c)
def crc (x : Int) (l : List Int) : Int := l.foldl eat x
theorem crc_cons (x c : Int) (l : List Int) : crc x (c :: l) = crc (eat x c) l := by
  unfold crc
  rw [List.foldl_cons]
theorem eat_u32 (x c : Int) : U32 (eat x c) := by
  rw [eat]
  exact turns_u32 8 (xor_u32 x c)
theorem rd_at (pre : List Int) (x : Int) (suf : List Int) : rd (pre ++ x :: suf) (pre.length : Int) = x := by
  unfold rd
  simp

theorem prog_inner (l : List Int) (n i : Int) (r : Int) (hi : 0 ≤ i ∧ i < 9223372036854775807) : ∀ (m j : Nat), j + m = 8 → ∀ (x : Int), U32 x → Ev (fun k => pager_Sum.l0 k (turns m x) l n (i + 1)) r →
    Ev (fun k => pager_Sum.l1 k x l n i (j : Int)) r := by
  intro m
  induction m with
  | zero =>
    intro j hj x hx h
    refine Ev.succ ?_
    have e0 : ¬ ((j : Int) < 8) := by omega
    have e1 : wrap64 (i + 1) = i + 1 := wrap64_in (by omega) (by omega)
    simp only [pager_Sum.l1, e0, if_false, e1]
    exact h
  | succ m ih =>
    intro j hj x hx h
    refine Ev.succ ?_
    have e0 : (j : Int) < 8 := by omega
    have e3 : wrap64 ((j : Int) + 1) = (j : Int) + 1 := wrap64_in (by omega) (by omega)
    simp only [pager_Sum.l1, e0, if_true, and_1 hx, e3]
    have := ih (j + 1) (by omega) (turn x) (turn_u32 hx) h
    rw [show ((j + 1 : Nat) : Int) = (j : Int) + 1 by omega] at this
    unfold turn at this
    by_cases e : x % 2 = 1
    · simp only [e, if_true] at this ⊢
      exact this
    · simp only [e, if_false] at this ⊢
      exact this
theorem ref_inner (l : List Int) (i : Int) (r : Int) (hi : 0 ≤ i ∧ i < 9223372036854775807) : ∀ (m j : Nat), j + m = 8 → ∀ (x : Int), U32 x → Ev (fun k => quarryref06_Sum.l0 k l (turns m x) (i + 1)) r →
    Ev (fun k => quarryref06_Sum.l1 k l x i (j : Int)) r := by
  intro m
  induction m with
  | zero =>
    intro j hj x hx h
    refine Ev.succ ?_
    have e0 : ¬ ((j : Int) < 8) := by omega
    have e1 : wrap64 (i + 1) = i + 1 := wrap64_in (by omega) (by omega)
    simp only [quarryref06_Sum.l1, e0, if_false, e1]
    exact h
  | succ m ih =>
    intro j hj x hx h
    refine Ev.succ ?_
    have e0 : (j : Int) < 8 := by omega
    have e3 : wrap64 ((j : Int) + 1) = (j : Int) + 1 := wrap64_in (by omega) (by omega)
    have e1 : Int.tmod x 2 = x % 2 := Int.tmod_eq_emod_of_nonneg hx.1
    have e2 : (Int.tdiv x 2) % 4294967296 = x / 2 := by rw [Int.tdiv_eq_ediv_of_nonneg hx.1]; have := hx.2; have := hx.1; omega
    simp only [quarryref06_Sum.l1, e0, if_true, e1, e2, e3]
    have := ih (j + 1) (by omega) (turn x) (turn_u32 hx) h
    rw [show ((j + 1 : Nat) : Int) = (j : Int) + 1 by omega] at this
    unfold turn at this
    by_cases e : x % 2 = 1
    · simp only [e, if_true] at this ⊢
      exact this
    · simp only [e, if_false] at this ⊢
      exact this
theorem prog_outer : ∀ (suf pre : List Int) (x : Int), (∀ c ∈ suf, 0 ≤ c ∧ c ≤ 255) → (pre ++ suf).length ≤ 140737488355328 → U32 x →
    Ev (fun k => pager_Sum.l0 k x (pre ++ suf) ((pre ++ suf).length : Int) (pre.length : Int)) (Go.bits .xor .u32 4294967295 (crc x suf)) := by
  intro suf
  induction suf with
  | nil =>
    intro pre x _ hl hx
    refine Ev.succ ?_
    have e : ¬ ((pre.length : Int) < ((pre ++ ([] : List Int)).length : Int)) := by simp
    simp only [pager_Sum.l0, e, if_false]
    exact Ev.pure _
  | cons c suf ih =>
    intro pre x hc hl hx
    refine Ev.succ ?_
    have e1 : (pre.length : Int) < ((pre ++ c :: suf).length : Int) := by simp; omega
    have e2 : (0 : Int) ≤ (pre.length : Int) := by omega
    have hc0 := hc c (by simp)
    have e3 : c % 4294967296 = c := by omega
    simp only [pager_Sum.l0, e1, e2, if_true, rd_at, e3]
    rw [crc_cons]
    refine prog_inner _ _ _ _ (by simp at hl; omega) 8 0 rfl _ (xor_u32 _ _) ?_
    have := ih (pre ++ [c]) (eat x c) (fun y hy => hc y (by simp [hy])) (by simpa using hl) (eat_u32 x c)
    simpa [eat] using this
theorem ref_outer : ∀ (suf pre : List Int) (x : Int), (∀ c ∈ suf, 0 ≤ c ∧ c ≤ 255) → (pre ++ suf).length ≤ 140737488355328 → U32 x →
    Ev (fun k => quarryref06_Sum.l0 k (pre ++ suf) x (pre.length : Int)) (Go.bits .xor .u32 (crc x suf) 4294967295) := by
  intro suf
  induction suf with
  | nil =>
    intro pre x _ hl hx
    refine Ev.succ ?_
    have e : ¬ ((pre.length : Int) < ((pre ++ ([] : List Int)).length : Int)) := by simp
    simp only [quarryref06_Sum.l0, e, if_false]
    exact Ev.pure _
  | cons c suf ih =>
    intro pre x hc hl hx
    refine Ev.succ ?_
    have e1 : (pre.length : Int) < ((pre ++ c :: suf).length : Int) := by simp; omega
    have e2 : (0 : Int) ≤ (pre.length : Int) := by omega
    have hc0 := hc c (by simp)
    have e3 : c % 4294967296 = c := by omega
    simp only [quarryref06_Sum.l0, e1, e2, if_true, rd_at, e3]
    rw [crc_cons]
    refine ref_inner _ _ _ (by simp at hl; omega) 8 0 rfl _ (xor_u32 _ _) ?_
    have := ih (pre ++ [c]) (eat x c) (fun y hy => hc y (by simp [hy])) (by simpa using hl) (eat_u32 x c)
    simpa [eat] using this
theorem prog_sum (l : List Int) (hc : ∀ c ∈ l, 0 ≤ c ∧ c ≤ 255) (hl : l.length ≤ 140737488355328) : Ev (fun k => pager_Sum.f k l) (Go.bits .xor .u32 4294967295 (crc 4294967295 l)) :=
  prog_outer l [] 4294967295 hc (by simpa using hl) (by unfold U32; omega)
theorem ref_sum (l : List Int) (hc : ∀ c ∈ l, 0 ≤ c ∧ c ≤ 255) (hl : l.length ≤ 140737488355328) : Ev (fun k => quarryref06_Sum.f k l) (Go.bits .xor .u32 4294967295 (crc 4294967295 l)) := by
  rw [xor_comm]
  exact ref_outer l [] 4294967295 hc (by simpa using hl) (by unfold U32; omega)

theorem PagerSums : ∀ (l0 : List (Int)), G22 l0 → ∃ k, quarrylaw06_PagerSums.f k l0 = some true := by
  intro l0 h
  have hc : ∀ c ∈ l0, 0 ≤ c ∧ c ≤ 255 := fun c hcm => bounds_u8 (h.1 c hcm)
  have hl : l0.length ≤ 140737488355328 := by have := h.2; omega
  refine Ev.get ?_
  unfold quarrylaw06_PagerSums.f
  refine Ev.bind (prog_sum l0 hc hl) (Ev.bind (ref_sum l0 hc hl) ?_)
  simp only [if_true]
  refine Ev.bind (prog_sum _ (by decide) (by decide)) ?_
  have e9 : Go.bits .xor .u32 4294967295 (crc 4294967295 [49, 50, 51, 52, 53, 54, 55, 56, 57]) = 3421780262 := by decide +kernel
  simp only [e9, if_true]
  refine Ev.bind (prog_sum _ (by decide) (by decide)) ?_
  have : (Go.bits .xor .u32 4294967295 (crc 4294967295 []) == 0) = true := by decide +kernel
  simp only [this]
  exact Ev.pure _
end Go.Proofs.Ytmjmichkkmmdcaa.Pure
