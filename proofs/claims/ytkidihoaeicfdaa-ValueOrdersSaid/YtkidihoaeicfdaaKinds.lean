/- What the laws' arguments are as data, opened: of each kind of argument what is known of its values. No condition. -/
import Derived.Test.YtkidihoaeicfdaaOpen
import Derived.Test.YtkidihoaeicfdaaP0
namespace Go.Proofs.Ytkidihoaeicfdaa.P
open Go.RowKit Go.Proofs.YtkidihoaeicfdaaW.PrintWords
def G23 (x : S23) : Prop := (Lit.int .i64 x.f0).wf = true ∧ (Lit.int .i64 x.f1).wf = true ∧ x.f2.size ≤ 140737488351232
def m23 (x : S23) : Nat := 1 + (1 + ((x.f2.size + 1))) + 1
theorem open23 (fuel : Nat) : Opens.At Try.prog fuel k23 23 G23 m23 :=
  Opens.iso_ (fun x : S23 => (x.f0, x.f1, x.f2)) (fun a => ⟨a.1, a.2.1, a.2.2⟩) (fun _ => rfl) (Opens.struct_ Try.underlying23 (fun n _ => Opens.cons_ (by kernel_rfl) (Opens.int_ Try.underlying3) (Opens.cons_ (by kernel_rfl) (Opens.int_ Try.underlying2) (Opens.last_ (by kernel_rfl) (by kernel_rfl) (Opens.string_ Try.underlying9)))))
def G24 (xs : List (S23)) : Prop := (∀ x ∈ xs, G23 x) ∧ xs.length * 32 ≤ 140737488351232
def m24 (xs : List (S23)) : Nat := (xs.map fun x => (m23 x)).sum + 1
theorem open24 (fuel : Nat) : Opens.At Try.prog fuel (Kd.slice 23 k23) 24 G24 m24 :=
  Opens.slice_ Try.underlying24 (by kernel_rfl) (by kernel_rfl) (fun n _ => (open23 _))
def G25 (xs : List (Bool)) : Prop := (∀ x ∈ xs, True) ∧ xs.length * 1 ≤ 140737488351232
def m25 (xs : List (Bool)) : Nat := (xs.map fun _ => 1).sum + 1
theorem open25 (fuel : Nat) : Opens.At Try.prog fuel (Kd.slice 4 Kd.bool) 25 G25 m25 :=
  Opens.slice_ Try.underlying25 (by kernel_rfl) (by kernel_rfl) (fun n _ => (Opens.bool_ Try.underlying4))
end Go.Proofs.Ytkidihoaeicfdaa.P
