/-
  No cell of these rows narrows 'for every input' (looked for: loops, veiled, ifaces, maps, wideKeys, modest, calm, conditions, laid).
  DERIVED. THE GIVEN ROWS OF THIS SEAT. 6 by the template 'for every input the law returns true; each argument reads behind the call as it read before'; 0 by the template 'total and deterministic' (their statements: YtlnpefcclhmokaaTotals.lean).
  GIVEN WITH THE SEED: the statements are not yours to turn. If you find one false, say at which input.
  Laid BY PROGRAM, IN A SANDBOX (cutbox-rows.mjs): the forced cells as the released guide's own fill.sh prints them over the translation 103159a636ee51b1… (all of the seat's roots in one cut). By AI agents, Wed Nov 11 2026. No macro, syntax, notation, axiom, sorry.
-/
import Derived.Test.YtlnpefcclhmokaaChecked
import GoSem.Claim
import GoSem.ClaimJoined
import GoSem.ClaimMapViews
import Derived.JoinedTies
import Derived.KernelRfl
namespace Go.Proofs.Ytlnpefcclhmokaa
/- THE CELL 'sum', in the pinned program and in every row, IS THE sha256 OF THE DUMP (.gsa) THAT YtlnpefcclhmokaaProg.lean LOADS. Nothing in Lean hashes anything: it is a label: what it is worth is what the hold of that sum in a sandbox is worth. -/
noncomputable def Try.pinned : Pinned := { name := "ytlnpefcclhmokaa", sum := "103159a636ee51b1cd2e3b52c6fac6f2c1c697f7e9463c852ea8c6c34f219b51", checked := Try.checked }
namespace Rows
def none {H : Type} : Left H := { results := [], args := [] }

/-- 'quarrylaw04.RowsWrites': WHATEVER THE INPUT: true; the input reads as it did. -/
def rowsWritesSpec : ChangeSpec := { name := "rowsWrites", fn := fun _ => fun
  | [d] => { results := [.lit (.bool true)], args := [d] }
  | _ => none }
def rowsWritesRow : OpenClaim := { program := "ytlnpefcclhmokaa", sum := "103159a636ee51b1cd2e3b52c6fac6f2c1c697f7e9463c852ea8c6c34f219b51", func := "quarry/quarrylaw04.RowsWrites", spec := "rowsWrites", apart := false }
def RowsWritesSaid : Prop := rowsWritesRow.holds Try.pinned (OpenSpec.ofChange rowsWritesSpec)

/-- ITS FALSE NEIGHBOUR: 'it returns false'. Refute it at one input. -/
def rowsWritesWrong : ChangeSpec := { name := "rowsWrites", fn := fun _ => fun
  | [d] => { results := [.lit (.bool false)], args := [d] }
  | _ => none }
def RowsWritesWrongFalsely : Prop := rowsWritesRow.holds Try.pinned (OpenSpec.ofChange rowsWritesWrong)

/-- 'quarrylaw04.RowsReads': WHATEVER THE INPUT: true; the input reads as it did. -/
def rowsReadsSpec : ChangeSpec := { name := "rowsReads", fn := fun _ => fun
  | [d] => { results := [.lit (.bool true)], args := [d] }
  | _ => none }
def rowsReadsRow : OpenClaim := { program := "ytlnpefcclhmokaa", sum := "103159a636ee51b1cd2e3b52c6fac6f2c1c697f7e9463c852ea8c6c34f219b51", func := "quarry/quarrylaw04.RowsReads", spec := "rowsReads", unfollowed := true, recurses := true, apart := false }
def RowsReadsSaid : Prop := rowsReadsRow.holds Try.pinned (OpenSpec.ofChange rowsReadsSpec)

/-- ITS FALSE NEIGHBOUR: 'it returns false'. Refute it at one input. -/
def rowsReadsWrong : ChangeSpec := { name := "rowsReads", fn := fun _ => fun
  | [d] => { results := [.lit (.bool false)], args := [d] }
  | _ => none }
def RowsReadsWrongFalsely : Prop := rowsReadsRow.holds Try.pinned (OpenSpec.ofChange rowsReadsWrong)

/-- 'quarrylaw04.RowsBack': WHATEVER THE INPUT: true; the input reads as it did. -/
def rowsBackSpec : ChangeSpec := { name := "rowsBack", fn := fun _ => fun
  | [d1, d2] => { results := [.lit (.bool true)], args := [d1, d2] }
  | _ => none }
def rowsBackRow : OpenClaim := { program := "ytlnpefcclhmokaa", sum := "103159a636ee51b1cd2e3b52c6fac6f2c1c697f7e9463c852ea8c6c34f219b51", func := "quarry/quarrylaw04.RowsBack", spec := "rowsBack", unfollowed := true, recurses := true, apart := false }
def RowsBackSaid : Prop := rowsBackRow.holds Try.pinned (OpenSpec.ofChange rowsBackSpec)

/-- ITS FALSE NEIGHBOUR: 'it returns false'. Refute it at one input. -/
def rowsBackWrong : ChangeSpec := { name := "rowsBack", fn := fun _ => fun
  | [d1, d2] => { results := [.lit (.bool false)], args := [d1, d2] }
  | _ => none }
def RowsBackWrongFalsely : Prop := rowsBackRow.holds Try.pinned (OpenSpec.ofChange rowsBackWrong)

/-- 'quarrylaw04.RowsApart': WHATEVER THE INPUT: true; the input reads as it did. -/
def rowsApartSpec : ChangeSpec := { name := "rowsApart", fn := fun _ => fun
  | [d1, d2] => { results := [.lit (.bool true)], args := [d1, d2] }
  | _ => none }
def rowsApartRow : OpenClaim := { program := "ytlnpefcclhmokaa", sum := "103159a636ee51b1cd2e3b52c6fac6f2c1c697f7e9463c852ea8c6c34f219b51", func := "quarry/quarrylaw04.RowsApart", spec := "rowsApart", unfollowed := true, recurses := true, apart := false }
def RowsApartSaid : Prop := rowsApartRow.holds Try.pinned (OpenSpec.ofChange rowsApartSpec)

/-- ITS FALSE NEIGHBOUR: 'it returns false'. Refute it at one input. -/
def rowsApartWrong : ChangeSpec := { name := "rowsApart", fn := fun _ => fun
  | [d1, d2] => { results := [.lit (.bool false)], args := [d1, d2] }
  | _ => none }
def RowsApartWrongFalsely : Prop := rowsApartRow.holds Try.pinned (OpenSpec.ofChange rowsApartWrong)

/-- 'quarrylaw04.RowsSizes': WHATEVER THE INPUT: true; the input reads as it did. -/
def rowsSizesSpec : ChangeSpec := { name := "rowsSizes", fn := fun _ => fun
  | [d1, d2] => { results := [.lit (.bool true)], args := [d1, d2] }
  | _ => none }
def rowsSizesRow : OpenClaim := { program := "ytlnpefcclhmokaa", sum := "103159a636ee51b1cd2e3b52c6fac6f2c1c697f7e9463c852ea8c6c34f219b51", func := "quarry/quarrylaw04.RowsSizes", spec := "rowsSizes", unfollowed := true, recurses := true, apart := false }
def RowsSizesSaid : Prop := rowsSizesRow.holds Try.pinned (OpenSpec.ofChange rowsSizesSpec)

/-- ITS FALSE NEIGHBOUR: 'it returns false'. Refute it at one input. -/
def rowsSizesWrong : ChangeSpec := { name := "rowsSizes", fn := fun _ => fun
  | [d1, d2] => { results := [.lit (.bool false)], args := [d1, d2] }
  | _ => none }
def RowsSizesWrongFalsely : Prop := rowsSizesRow.holds Try.pinned (OpenSpec.ofChange rowsSizesWrong)

/-- 'quarrylaw04.RowsCuts': WHATEVER THE INPUT: true; the input reads as it did. -/
def rowsCutsSpec : ChangeSpec := { name := "rowsCuts", fn := fun _ => fun
  | [d1, d2, d3] => { results := [.lit (.bool true)], args := [d1, d2, d3] }
  | _ => none }
def rowsCutsRow : OpenClaim := { program := "ytlnpefcclhmokaa", sum := "103159a636ee51b1cd2e3b52c6fac6f2c1c697f7e9463c852ea8c6c34f219b51", func := "quarry/quarrylaw04.RowsCuts", spec := "rowsCuts", unfollowed := true, recurses := true, apart := false }
def RowsCutsSaid : Prop := rowsCutsRow.holds Try.pinned (OpenSpec.ofChange rowsCutsSpec)

/-- ITS FALSE NEIGHBOUR: 'it returns false'. Refute it at one input. -/
def rowsCutsWrong : ChangeSpec := { name := "rowsCuts", fn := fun _ => fun
  | [d1, d2, d3] => { results := [.lit (.bool false)], args := [d1, d2, d3] }
  | _ => none }
def RowsCutsWrongFalsely : Prop := rowsCutsRow.holds Try.pinned (OpenSpec.ofChange rowsCutsWrong)

/- THE SECOND FORM. 'bulk': how many values and letters a reading holds, each counted each time it is reached (what is shared counts as often as it is met; a slice's spare places count too). A statement '..UptoSaid' is the law's where the arguments, and the package variables that the reading takes, are together of bulk at most 1048576: NARROWER than '..Said'. Prove '..Said' where nothing that the law and all that it calls make is longer than what came in: it says more and counts as full. Else prove '..UptoSaid'. A law counts once. -/
mutual
def uptoBulk {H : Type} : DataW H → Nat
  | .lit (.string bytes) => bytes.length + 1
  | .lit _ => 1
  | .nil => 1
  | .ptr d => uptoBulk d + 1
  | .slice elems spare => uptoBulkAll elems + uptoBulkAll spare + 1
  | .agg parts => uptoBulkAll parts + 1
  | .iface _ d => uptoBulk d + 1
  | .map entries => uptoBulkEntries entries + 1
  | .held _ => 1
def uptoBulkAll {H : Type} : List (DataW H) → Nat
  | [] => 0
  | d :: r => uptoBulk d + uptoBulkAll r
def uptoBulkEntries {H : Type} : List (Lit × DataW H) → Nat
  | [] => 0
  | x :: r => uptoBulkEntry x + uptoBulkEntries r
def uptoBulkEntry {H : Type} : Lit × DataW H → Nat
  | (.string bytes, d) => bytes.length + uptoBulk d + 1
  | (_, d) => uptoBulk d + 1
 end
def uptoSmall : (H : Type) → List (DataW H) → Bool := fun _ ds => decide (uptoBulkAll ds ≤ 1048576)
def OpenSpec.upto (s : _root_.Go.ChangeSpec) : _root_.Go.OpenSpec := { _root_.Go.OpenSpec.ofChange s with cond := some uptoSmall }

/-- 'quarrylaw04.RowsWrites', WHERE WHAT IT READS IS OF BULK AT MOST 1048576: true; the input reads as it did. -/
def rowsWritesUptoRow : OpenClaim := { program := "ytlnpefcclhmokaa", sum := "103159a636ee51b1cd2e3b52c6fac6f2c1c697f7e9463c852ea8c6c34f219b51", func := "quarry/quarrylaw04.RowsWrites", spec := "rowsWrites", apart := false, narrowed := true }
def RowsWritesUptoSaid : Prop := rowsWritesUptoRow.holds Try.pinned (OpenSpec.upto rowsWritesSpec)

/-- 'quarrylaw04.RowsReads', WHERE WHAT IT READS IS OF BULK AT MOST 1048576: true; the input reads as it did. -/
def rowsReadsUptoRow : OpenClaim := { program := "ytlnpefcclhmokaa", sum := "103159a636ee51b1cd2e3b52c6fac6f2c1c697f7e9463c852ea8c6c34f219b51", func := "quarry/quarrylaw04.RowsReads", spec := "rowsReads", unfollowed := true, recurses := true, apart := false, narrowed := true }
def RowsReadsUptoSaid : Prop := rowsReadsUptoRow.holds Try.pinned (OpenSpec.upto rowsReadsSpec)

/-- 'quarrylaw04.RowsBack', WHERE WHAT IT READS IS OF BULK AT MOST 1048576: true; the input reads as it did. -/
def rowsBackUptoRow : OpenClaim := { program := "ytlnpefcclhmokaa", sum := "103159a636ee51b1cd2e3b52c6fac6f2c1c697f7e9463c852ea8c6c34f219b51", func := "quarry/quarrylaw04.RowsBack", spec := "rowsBack", unfollowed := true, recurses := true, apart := false, narrowed := true }
def RowsBackUptoSaid : Prop := rowsBackUptoRow.holds Try.pinned (OpenSpec.upto rowsBackSpec)

/-- 'quarrylaw04.RowsApart', WHERE WHAT IT READS IS OF BULK AT MOST 1048576: true; the input reads as it did. -/
def rowsApartUptoRow : OpenClaim := { program := "ytlnpefcclhmokaa", sum := "103159a636ee51b1cd2e3b52c6fac6f2c1c697f7e9463c852ea8c6c34f219b51", func := "quarry/quarrylaw04.RowsApart", spec := "rowsApart", unfollowed := true, recurses := true, apart := false, narrowed := true }
def RowsApartUptoSaid : Prop := rowsApartUptoRow.holds Try.pinned (OpenSpec.upto rowsApartSpec)

/-- 'quarrylaw04.RowsSizes', WHERE WHAT IT READS IS OF BULK AT MOST 1048576: true; the input reads as it did. -/
def rowsSizesUptoRow : OpenClaim := { program := "ytlnpefcclhmokaa", sum := "103159a636ee51b1cd2e3b52c6fac6f2c1c697f7e9463c852ea8c6c34f219b51", func := "quarry/quarrylaw04.RowsSizes", spec := "rowsSizes", unfollowed := true, recurses := true, apart := false, narrowed := true }
def RowsSizesUptoSaid : Prop := rowsSizesUptoRow.holds Try.pinned (OpenSpec.upto rowsSizesSpec)

/-- 'quarrylaw04.RowsCuts', WHERE WHAT IT READS IS OF BULK AT MOST 1048576: true; the input reads as it did. -/
def rowsCutsUptoRow : OpenClaim := { program := "ytlnpefcclhmokaa", sum := "103159a636ee51b1cd2e3b52c6fac6f2c1c697f7e9463c852ea8c6c34f219b51", func := "quarry/quarrylaw04.RowsCuts", spec := "rowsCuts", unfollowed := true, recurses := true, apart := false, narrowed := true }
def RowsCutsUptoSaid : Prop := rowsCutsUptoRow.holds Try.pinned (OpenSpec.upto rowsCutsSpec)

end Rows
end Go.Proofs.Ytlnpefcclhmokaa
