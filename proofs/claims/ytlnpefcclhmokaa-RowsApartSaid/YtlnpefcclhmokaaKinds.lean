/- What the laws' arguments are as data, opened: of each kind of argument what is known of its values. No condition. -/
import Derived.Test.YtlnpefcclhmokaaOpen
import Derived.Test.YtlnpefcclhmokaaP0
namespace Go.Proofs.Ytlnpefcclhmokaa.P
open Go.RowKit Go.Proofs.YtlnpefcclhmokaaW.PrintWords
def G38 (x : S38) : Prop := (Lit.int .i64 x.f0).wf = true ∧ (Lit.int .i64 x.f1).wf = true ∧ x.f2.size ≤ 140737488351232
def m38 (x : S38) : Nat := 1 + (1 + ((x.f2.size + 1))) + 1
theorem open38 (fuel : Nat) : Opens.At Try.prog fuel k38 38 G38 m38 :=
  Opens.iso_ (fun x : S38 => (x.f0, x.f1, x.f2)) (fun a => ⟨a.1, a.2.1, a.2.2⟩) (fun _ => rfl) (Opens.struct_ Try.underlying38 (fun n _ => Opens.cons_ (by kernel_rfl) (Opens.int_ Try.underlying3) (Opens.cons_ (by kernel_rfl) (Opens.int_ Try.underlying2) (Opens.last_ (by kernel_rfl) (by kernel_rfl) (Opens.string_ Try.underlying9)))))
def G22 (xs : List (S38)) : Prop := (∀ x ∈ xs, G38 x) ∧ xs.length * 32 ≤ 140737488351232
def m22 (xs : List (S38)) : Nat := (xs.map fun x => (m38 x)).sum + 1
theorem open22 (fuel : Nat) : Opens.At Try.prog fuel (Kd.slice 38 k38) 22 G22 m22 :=
  Opens.slice_ Try.underlying22 (by kernel_rfl) (by kernel_rfl) (fun n _ => (open38 _))
def G24 (xs : List (Int)) : Prop := (∀ x ∈ xs, (Lit.int .u8 x).wf = true) ∧ xs.length * 1 ≤ 140737488351232
def m24 (xs : List (Int)) : Nat := (xs.map fun _ => 1).sum + 1
theorem open24 (fuel : Nat) : Opens.At Try.prog fuel (Kd.slice 5 (Kd.int .u8)) 24 G24 m24 :=
  Opens.slice_ Try.underlying24 (by kernel_rfl) (by kernel_rfl) (fun n _ => (Opens.int_ Try.underlying5))
end Go.Proofs.Ytlnpefcclhmokaa.P
