/- Words for pure statements: answers with enough rounds; numbers that fit; texts. No condition. -/
import Derived.Test.YtkidihoaeicfdaaDoorP0
import Derived.OpenShut
import Derived.Laws.BitsLemmas
import Derived.WideShapes
namespace Go.Proofs.YtkidihoaeicfdaaDoor.Pure
set_option linter.unusedVariables false
set_option linter.unusedSimpArgs false
open Go.RowKit Go.Proofs.YtkidihoaeicfdaaDoor.P Go.Proofs.YtkidihoaeicfdaaDoorW.PrintWords Go.Proofs.YtkidihoaeicfdaaDoorW.PrintLast Go.Proofs.YtkidihoaeicfdaaDoorW.PrintMore

/-- With enough rounds, and with any more. -/
def Ev {α : Type} (g : Nat → Option α) (r : α) : Prop := ∃ k0, ∀ k, k0 ≤ k → g k = some r
theorem Ev.pure {α : Type} (r : α) : Ev (fun _ => some r) r := ⟨0, fun _ _ => rfl⟩
theorem Ev.bind {α β : Type} {g : Nat → Option α} {h : Nat → α → Option β} {a : α} {r : β} (hg : Ev g a) (hh : Ev (fun k => h k a) r) : Ev (fun k => (g k).bind (h k)) r := by
  obtain ⟨k1, h1⟩ := hg
  obtain ⟨k2, h2⟩ := hh
  refine ⟨max k1 k2, fun k hk => ?_⟩
  show (g k).bind (h k) = some r
  rw [h1 k (by omega)]
  exact h2 k (by omega)
theorem Ev.succ {α : Type} {g : Nat → Option α} {r : α} (h : Ev (fun k => g (k + 1)) r) : Ev g r := by
  obtain ⟨k1, h1⟩ := h
  refine ⟨k1 + 1, fun k hk => ?_⟩
  have h2 : g (k - 1 + 1) = some r := h1 (k - 1) (by omega)
  rwa [show k - 1 + 1 = k by omega] at h2
theorem Ev.get {α : Type} {g : Nat → Option α} {r : α} (h : Ev g r) : ∃ k, g k = some r := by
  obtain ⟨k, h⟩ := h
  exact ⟨k, h k (Nat.le_refl _)⟩
theorem Ev.of_eq {α : Type} {g g' : Nat → Option α} {r : α} (h : Ev g r) (e : ∀ k, g' k = g k) : Ev g' r := by
  obtain ⟨k1, h1⟩ := h
  exact ⟨k1, fun k hk => (e k).trans (h1 k hk)⟩
theorem Ev.ite {α : Type} {c : Prop} [Decidable c] {g h : Nat → Option α} {r : α} (h1 : c → Ev g r) (h2 : ¬ c → Ev h r) : Ev (fun k => if c then g k else h k) r := by
  by_cases e : c
  · exact (h1 e).of_eq fun k => if_pos e
  · exact (h2 e).of_eq fun k => if_neg e
theorem Ev.pos {α : Type} {c : Prop} [Decidable c] {g h : Nat → Option α} {r : α} (e : c) (h1 : Ev g r) : Ev (fun k => if c then g k else h k) r := h1.of_eq fun k => if_pos e
theorem Ev.neg {α : Type} {c : Prop} [Decidable c] {g h : Nat → Option α} {r : α} (e : ¬ c) (h1 : Ev h r) : Ev (fun k => if c then g k else h k) r := h1.of_eq fun k => if_neg e
theorem Ev.one {α : Type} {g : Nat → Option α} {r r' : α} (h : Ev g r) (h' : Ev g r') : r = r' := by
  obtain ⟨k1, h1⟩ := h
  obtain ⟨k2, h2⟩ := h'
  have a := h1 (max k1 k2) (by omega)
  rw [h2 _ (by omega)] at a
  exact (Option.some.inj a).symm
theorem wrap64_in {n : Int} (h0 : -9223372036854775808 ≤ n) (h1 : n ≤ 9223372036854775807) : wrap64 n = n := by unfold wrap64; omega
theorem toList_inj {a b : ByteArray} (h : a.toList = b.toList) : a = b := by
  rw [Go.ByteArray.toList_eq, Go.ByteArray.toList_eq] at h
  exact Go.WideShapes.bytes_inj h
def I64 (n : Int) : Prop := -9223372036854775808 ≤ n ∧ n ≤ 9223372036854775807
theorem I64.wrap {n : Int} (h : I64 n) : wrap64 n = n := wrap64_in h.1 h.2
theorem wf64 {n : Int} (h : (Lit.int .i64 n).wf = true) : I64 n := by
  have := bounds_i64 h
  exact ⟨by omega, by omega⟩
end Go.Proofs.YtkidihoaeicfdaaDoor.Pure
