/- What the laws' arguments are as data, opened: of each kind of argument what is known of its values. No condition. -/
import Derived.Test.YtbpnmmakodaakaaOpen
import Derived.Test.YtbpnmmakodaakaaP0
namespace Go.Proofs.Ytbpnmmakodaakaa.P
open Go.RowKit Go.Proofs.YtbpnmmakodaakaaW.PrintWords
def G43 (x : S43) : Prop := (Lit.int .i64 x.f0).wf = true ∧ (Lit.int .i64 x.f1).wf = true ∧ x.f2.size ≤ 140737488351232
def m43 (x : S43) : Nat := 1 + (1 + ((x.f2.size + 1))) + 1
theorem open43 (fuel : Nat) : Opens.At Try.prog fuel k43 43 G43 m43 :=
  Opens.iso_ (fun x : S43 => (x.f0, x.f1, x.f2)) (fun a => ⟨a.1, a.2.1, a.2.2⟩) (fun _ => rfl) (Opens.struct_ Try.underlying43 (fun n _ => Opens.cons_ (by kernel_rfl) (Opens.int_ Try.underlying3) (Opens.cons_ (by kernel_rfl) (Opens.int_ Try.underlying2) (Opens.last_ (by kernel_rfl) (by kernel_rfl) (Opens.string_ Try.underlying9)))))
def G22 (xs : List (S43)) : Prop := (∀ x ∈ xs, G43 x) ∧ xs.length * 32 ≤ 140737488351232
def m22 (xs : List (S43)) : Nat := (xs.map fun x => (m43 x)).sum + 1
theorem open22 (fuel : Nat) : Opens.At Try.prog fuel (Kd.slice 43 k43) 22 G22 m22 :=
  Opens.slice_ Try.underlying22 (by kernel_rfl) (by kernel_rfl) (fun n _ => (open43 _))
def G23 (xs : List (Bool)) : Prop := (∀ x ∈ xs, True) ∧ xs.length * 1 ≤ 140737488351232
def m23 (xs : List (Bool)) : Nat := (xs.map fun _ => 1).sum + 1
theorem open23 (fuel : Nat) : Opens.At Try.prog fuel (Kd.slice 4 Kd.bool) 23 G23 m23 :=
  Opens.slice_ Try.underlying23 (by kernel_rfl) (by kernel_rfl) (fun n _ => (Opens.bool_ Try.underlying4))
def G24 (xs : List (Int)) : Prop := (∀ x ∈ xs, (Lit.int .u8 x).wf = true) ∧ xs.length * 1 ≤ 140737488351232
def m24 (xs : List (Int)) : Nat := (xs.map fun _ => 1).sum + 1
theorem open24 (fuel : Nat) : Opens.At Try.prog fuel (Kd.slice 5 (Kd.int .u8)) 24 G24 m24 :=
  Opens.slice_ Try.underlying24 (by kernel_rfl) (by kernel_rfl) (fun n _ => (Opens.int_ Try.underlying5))
end Go.Proofs.Ytbpnmmakodaakaa.P
