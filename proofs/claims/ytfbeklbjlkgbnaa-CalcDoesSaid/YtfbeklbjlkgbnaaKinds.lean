/- What the laws' arguments are as data, opened: of each kind of argument what is known of its values. No condition. -/
import Derived.Test.YtfbeklbjlkgbnaaOpen
import Derived.Test.YtfbeklbjlkgbnaaP0
namespace Go.Proofs.Ytfbeklbjlkgbnaa.P
open Go.RowKit Go.Proofs.YtfbeklbjlkgbnaaW.PrintWords
def G25 (x : S25) : Prop := (Lit.int .i64 x.f0).wf = true ∧ (Lit.int .i64 x.f1).wf = true ∧ x.f2.size ≤ 140737488351232
def m25 (x : S25) : Nat := 1 + (1 + ((x.f2.size + 1))) + 1
theorem open25 (fuel : Nat) : Opens.At Try.prog fuel k25 25 G25 m25 :=
  Opens.iso_ (fun x : S25 => (x.f0, x.f1, x.f2)) (fun a => ⟨a.1, a.2.1, a.2.2⟩) (fun _ => rfl) (Opens.struct_ Try.underlying25 (fun n _ => Opens.cons_ (by kernel_rfl) (Opens.int_ Try.underlying3) (Opens.cons_ (by kernel_rfl) (Opens.int_ Try.underlying2) (Opens.last_ (by kernel_rfl) (by kernel_rfl) (Opens.string_ Try.underlying9)))))
def G22 (xs : List (S25)) : Prop := (∀ x ∈ xs, G25 x) ∧ xs.length * 32 ≤ 140737488351232
def m22 (xs : List (S25)) : Nat := (xs.map fun x => (m25 x)).sum + 1
theorem open22 (fuel : Nat) : Opens.At Try.prog fuel (Kd.slice 25 k25) 22 G22 m22 :=
  Opens.slice_ Try.underlying22 (by kernel_rfl) (by kernel_rfl) (fun n _ => (open25 _))
end Go.Proofs.Ytfbeklbjlkgbnaa.P
