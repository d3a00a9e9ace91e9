/- What the laws' arguments are as data, opened: of each kind of argument what is known of its values. No condition. -/
import Derived.Test.YtkidihoaeicfdaaDoorOpen
import Derived.Test.YtkidihoaeicfdaaDoorP0
namespace Go.Proofs.YtkidihoaeicfdaaDoor.P
open Go.RowKit Go.Proofs.YtkidihoaeicfdaaDoorW.PrintWords
def G23 (x : S23) : Prop := (Lit.int .i64 x.f0).wf = true ∧ (Lit.int .i64 x.f1).wf = true ∧ x.f2.size ≤ 140737488351232
def m23 (x : S23) : Nat := 1 + (1 + ((x.f2.size + 1))) + 1
theorem open23 (fuel : Nat) : Opens.At Tryd.prog fuel k23 23 G23 m23 :=
  Opens.iso_ (fun x : S23 => (x.f0, x.f1, x.f2)) (fun a => ⟨a.1, a.2.1, a.2.2⟩) (fun _ => rfl) (Opens.struct_ Tryd.underlying23 (fun n _ => Opens.cons_ (by kernel_rfl) (Opens.int_ Tryd.underlying3) (Opens.cons_ (by kernel_rfl) (Opens.int_ Tryd.underlying2) (Opens.last_ (by kernel_rfl) (by kernel_rfl) (Opens.string_ Tryd.underlying9)))))
def G33 (xs : List (S23)) : Prop := (∀ x ∈ xs, G23 x) ∧ xs.length * 32 ≤ 140737488351232
def m33 (xs : List (S23)) : Nat := (xs.map fun x => (m23 x)).sum + 1
theorem open33 (fuel : Nat) : Opens.At Tryd.prog fuel (Kd.slice 23 k23) 33 G33 m33 :=
  Opens.slice_ Tryd.underlying33 (by kernel_rfl) (by kernel_rfl) (fun n _ => (open23 _))
def G34 (xs : List (Bool)) : Prop := (∀ x ∈ xs, True) ∧ xs.length * 1 ≤ 140737488351232
def m34 (xs : List (Bool)) : Nat := (xs.map fun _ => 1).sum + 1
theorem open34 (fuel : Nat) : Opens.At Tryd.prog fuel (Kd.slice 4 Kd.bool) 34 G34 m34 :=
  Opens.slice_ Tryd.underlying34 (by kernel_rfl) (by kernel_rfl) (fun n _ => (Opens.bool_ Tryd.underlying4))
end Go.Proofs.YtkidihoaeicfdaaDoor.P
