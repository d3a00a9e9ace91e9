/- What the laws' arguments are as data, opened: of each kind of argument what is known of its values. No condition. -/
import Derived.Test.YtbdoennkalnkcaaOpen
import Derived.Test.YtbdoennkalnkcaaP0
namespace Go.Proofs.Ytbdoennkalnkcaa.P
open Go.RowKit Go.Proofs.YtbdoennkalnkcaaW.PrintWords
def G30 (x : S30) : Prop := (Lit.int .i64 x.f0).wf = true ∧ (Lit.int .i64 x.f1).wf = true ∧ x.f2.size ≤ 140737488351232
def m30 (x : S30) : Nat := 1 + (1 + ((x.f2.size + 1))) + 1
theorem open30 (fuel : Nat) : Opens.At Try.prog fuel k30 30 G30 m30 :=
  Opens.iso_ (fun x : S30 => (x.f0, x.f1, x.f2)) (fun a => ⟨a.1, a.2.1, a.2.2⟩) (fun _ => rfl) (Opens.struct_ Try.underlying30 (fun n _ => Opens.cons_ (by kernel_rfl) (Opens.int_ Try.underlying3) (Opens.cons_ (by kernel_rfl) (Opens.int_ Try.underlying2) (Opens.last_ (by kernel_rfl) (by kernel_rfl) (Opens.string_ Try.underlying9)))))
def G49 (x : S49) : Prop := (Lit.int .i64 x.f0).wf = true ∧ (Lit.int .i64 x.f1).wf = true ∧ (Lit.int .i64 x.f2).wf = true ∧ (Lit.int .i64 x.f3).wf = true ∧ (Lit.int .i64 x.f4).wf = true ∧ G30 x.f5
def m49 (x : S49) : Nat := 1 + (1 + (1 + (1 + (1 + ((m30 x.f5)))))) + 1
theorem open49 (fuel : Nat) : Opens.At Try.prog fuel k49 49 G49 m49 :=
  Opens.iso_ (fun x : S49 => (x.f0, x.f1, x.f2, x.f3, x.f4, x.f5)) (fun a => ⟨a.1, a.2.1, a.2.2.1, a.2.2.2.1, a.2.2.2.2.1, a.2.2.2.2.2⟩) (fun _ => rfl) (Opens.struct_ Try.underlying49 (fun n _ => Opens.cons_ (by kernel_rfl) (Opens.int_ Try.underlying3) (Opens.cons_ (by kernel_rfl) (Opens.int_ Try.underlying3) (Opens.cons_ (by kernel_rfl) (Opens.int_ Try.underlying3) (Opens.cons_ (by kernel_rfl) (Opens.int_ Try.underlying3) (Opens.cons_ (by kernel_rfl) (Opens.int_ Try.underlying3) (Opens.last_ (by kernel_rfl) (by kernel_rfl) (open30 _))))))))
def G22 (xs : List (S49)) : Prop := (∀ x ∈ xs, G49 x) ∧ xs.length * 72 ≤ 140737488351232
def m22 (xs : List (S49)) : Nat := (xs.map fun x => (m49 x)).sum + 1
theorem open22 (fuel : Nat) : Opens.At Try.prog fuel (Kd.slice 49 k49) 22 G22 m22 :=
  Opens.slice_ Try.underlying22 (by kernel_rfl) (by kernel_rfl) (fun n _ => (open49 _))
end Go.Proofs.Ytbdoennkalnkcaa.P
