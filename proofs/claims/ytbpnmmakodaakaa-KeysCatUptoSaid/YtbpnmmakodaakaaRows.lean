/-
  No cell of these rows narrows 'for every input' (looked for: loops, veiled, ifaces, maps, wideKeys, modest, calm, conditions, laid).
  DERIVED. THE GIVEN ROWS OF THIS SEAT. 7 by the template 'for every input the law returns true; each argument reads behind the call as it read before'; 0 by the template 'total and deterministic' (their statements: YtbpnmmakodaakaaTotals.lean).
  GIVEN WITH THE SEED: the statements are not yours to turn. If you find one false, say at which input.
  Laid BY PROGRAM, IN A SANDBOX (cutbox-rows.mjs): the forced cells as the released guide's own fill.sh prints them over the translation 51abb809d9ec1ef9… (all of the seat's roots in one cut). By AI agents, Wed Nov 11 2026. No macro, syntax, notation, axiom, sorry.
-/
import Derived.Test.YtbpnmmakodaakaaChecked
import GoSem.Claim
import GoSem.ClaimJoined
import GoSem.ClaimMapViews
import Derived.JoinedTies
import Derived.KernelRfl
namespace Go.Proofs.Ytbpnmmakodaakaa
/- THE CELL 'sum', in the pinned program and in every row, IS THE sha256 OF THE DUMP (.gsa) THAT YtbpnmmakodaakaaProg.lean LOADS. Nothing in Lean hashes anything: it is a label: what it is worth is what the hold of that sum in a sandbox is worth. -/
noncomputable def Try.pinned : Pinned := { name := "ytbpnmmakodaakaa", sum := "51abb809d9ec1ef935c63e580b494cf69a2d77526687643d8c0d18cb5b7146b8", checked := Try.checked }
namespace Rows
def none {H : Type} : Left H := { results := [], args := [] }

/-- 'quarrylaw03.KeysWrites': WHATEVER THE INPUT: true; the input reads as it did. -/
def keysWritesSpec : ChangeSpec := { name := "keysWrites", fn := fun _ => fun
  | [d1, d2] => { results := [.lit (.bool true)], args := [d1, d2] }
  | _ => none }
def keysWritesRow : OpenClaim := { program := "ytbpnmmakodaakaa", sum := "51abb809d9ec1ef935c63e580b494cf69a2d77526687643d8c0d18cb5b7146b8", func := "quarry/quarrylaw03.KeysWrites", spec := "keysWrites", apart := false }
def KeysWritesSaid : Prop := keysWritesRow.holds Try.pinned (OpenSpec.ofChange keysWritesSpec)

/-- ITS FALSE NEIGHBOUR: 'it returns false'. Refute it at one input. -/
def keysWritesWrong : ChangeSpec := { name := "keysWrites", fn := fun _ => fun
  | [d1, d2] => { results := [.lit (.bool false)], args := [d1, d2] }
  | _ => none }
def KeysWritesWrongFalsely : Prop := keysWritesRow.holds Try.pinned (OpenSpec.ofChange keysWritesWrong)

/-- 'quarrylaw03.KeysReads': WHATEVER THE INPUT: true; the input reads as it did. -/
def keysReadsSpec : ChangeSpec := { name := "keysReads", fn := fun _ => fun
  | [d1, d2] => { results := [.lit (.bool true)], args := [d1, d2] }
  | _ => none }
def keysReadsRow : OpenClaim := { program := "ytbpnmmakodaakaa", sum := "51abb809d9ec1ef935c63e580b494cf69a2d77526687643d8c0d18cb5b7146b8", func := "quarry/quarrylaw03.KeysReads", spec := "keysReads", unfollowed := true, recurses := true, apart := false }
def KeysReadsSaid : Prop := keysReadsRow.holds Try.pinned (OpenSpec.ofChange keysReadsSpec)

/-- ITS FALSE NEIGHBOUR: 'it returns false'. Refute it at one input. -/
def keysReadsWrong : ChangeSpec := { name := "keysReads", fn := fun _ => fun
  | [d1, d2] => { results := [.lit (.bool false)], args := [d1, d2] }
  | _ => none }
def KeysReadsWrongFalsely : Prop := keysReadsRow.holds Try.pinned (OpenSpec.ofChange keysReadsWrong)

/-- 'quarrylaw03.KeysOrder': WHATEVER THE INPUT: true; the input reads as it did. -/
def keysOrderSpec : ChangeSpec := { name := "keysOrder", fn := fun _ => fun
  | [d1, d2, d3] => { results := [.lit (.bool true)], args := [d1, d2, d3] }
  | _ => none }
def keysOrderRow : OpenClaim := { program := "ytbpnmmakodaakaa", sum := "51abb809d9ec1ef935c63e580b494cf69a2d77526687643d8c0d18cb5b7146b8", func := "quarry/quarrylaw03.KeysOrder", spec := "keysOrder", unfollowed := true, recurses := true, apart := false }
def KeysOrderSaid : Prop := keysOrderRow.holds Try.pinned (OpenSpec.ofChange keysOrderSpec)

/-- ITS FALSE NEIGHBOUR: 'it returns false'. Refute it at one input. -/
def keysOrderWrong : ChangeSpec := { name := "keysOrder", fn := fun _ => fun
  | [d1, d2, d3] => { results := [.lit (.bool false)], args := [d1, d2, d3] }
  | _ => none }
def KeysOrderWrongFalsely : Prop := keysOrderRow.holds Try.pinned (OpenSpec.ofChange keysOrderWrong)

/-- 'quarrylaw03.KeysBack': WHATEVER THE INPUT: true; the input reads as it did. -/
def keysBackSpec : ChangeSpec := { name := "keysBack", fn := fun _ => fun
  | [d1, d2, d3] => { results := [.lit (.bool true)], args := [d1, d2, d3] }
  | _ => none }
def keysBackRow : OpenClaim := { program := "ytbpnmmakodaakaa", sum := "51abb809d9ec1ef935c63e580b494cf69a2d77526687643d8c0d18cb5b7146b8", func := "quarry/quarrylaw03.KeysBack", spec := "keysBack", unfollowed := true, recurses := true, apart := false }
def KeysBackSaid : Prop := keysBackRow.holds Try.pinned (OpenSpec.ofChange keysBackSpec)

/-- ITS FALSE NEIGHBOUR: 'it returns false'. Refute it at one input. -/
def keysBackWrong : ChangeSpec := { name := "keysBack", fn := fun _ => fun
  | [d1, d2, d3] => { results := [.lit (.bool false)], args := [d1, d2, d3] }
  | _ => none }
def KeysBackWrongFalsely : Prop := keysBackRow.holds Try.pinned (OpenSpec.ofChange keysBackWrong)

/-- 'quarrylaw03.KeysNext': WHATEVER THE INPUT: true; the input reads as it did. -/
def keysNextSpec : ChangeSpec := { name := "keysNext", fn := fun _ => fun
  | [d1, d2] => { results := [.lit (.bool true)], args := [d1, d2] }
  | _ => none }
def keysNextRow : OpenClaim := { program := "ytbpnmmakodaakaa", sum := "51abb809d9ec1ef935c63e580b494cf69a2d77526687643d8c0d18cb5b7146b8", func := "quarry/quarrylaw03.KeysNext", spec := "keysNext", unfollowed := true, recurses := true, apart := false }
def KeysNextSaid : Prop := keysNextRow.holds Try.pinned (OpenSpec.ofChange keysNextSpec)

/-- ITS FALSE NEIGHBOUR: 'it returns false'. Refute it at one input. -/
def keysNextWrong : ChangeSpec := { name := "keysNext", fn := fun _ => fun
  | [d1, d2] => { results := [.lit (.bool false)], args := [d1, d2] }
  | _ => none }
def KeysNextWrongFalsely : Prop := keysNextRow.holds Try.pinned (OpenSpec.ofChange keysNextWrong)

/-- 'quarrylaw03.KeysCat': WHATEVER THE INPUT: true; the input reads as it did. -/
def keysCatSpec : ChangeSpec := { name := "keysCat", fn := fun _ => fun
  | [d1, d2] => { results := [.lit (.bool true)], args := [d1, d2] }
  | _ => none }
def keysCatRow : OpenClaim := { program := "ytbpnmmakodaakaa", sum := "51abb809d9ec1ef935c63e580b494cf69a2d77526687643d8c0d18cb5b7146b8", func := "quarry/quarrylaw03.KeysCat", spec := "keysCat", unfollowed := true, recurses := true, apart := false }
def KeysCatSaid : Prop := keysCatRow.holds Try.pinned (OpenSpec.ofChange keysCatSpec)

/-- ITS FALSE NEIGHBOUR: 'it returns false'. Refute it at one input. -/
def keysCatWrong : ChangeSpec := { name := "keysCat", fn := fun _ => fun
  | [d1, d2] => { results := [.lit (.bool false)], args := [d1, d2] }
  | _ => none }
def KeysCatWrongFalsely : Prop := keysCatRow.holds Try.pinned (OpenSpec.ofChange keysCatWrong)

/-- 'quarrylaw03.KeysTurned': WHATEVER THE INPUT: true; the input reads as it did. -/
def keysTurnedSpec : ChangeSpec := { name := "keysTurned", fn := fun _ => fun
  | [d1, d2] => { results := [.lit (.bool true)], args := [d1, d2] }
  | _ => none }
def keysTurnedRow : OpenClaim := { program := "ytbpnmmakodaakaa", sum := "51abb809d9ec1ef935c63e580b494cf69a2d77526687643d8c0d18cb5b7146b8", func := "quarry/quarrylaw03.KeysTurned", spec := "keysTurned", unfollowed := true, recurses := true, apart := false }
def KeysTurnedSaid : Prop := keysTurnedRow.holds Try.pinned (OpenSpec.ofChange keysTurnedSpec)

/-- ITS FALSE NEIGHBOUR: 'it returns false'. Refute it at one input. -/
def keysTurnedWrong : ChangeSpec := { name := "keysTurned", fn := fun _ => fun
  | [d1, d2] => { results := [.lit (.bool false)], args := [d1, d2] }
  | _ => none }
def KeysTurnedWrongFalsely : Prop := keysTurnedRow.holds Try.pinned (OpenSpec.ofChange keysTurnedWrong)

/- THE SECOND FORM. 'bulk': how many values and letters a reading holds, each counted each time it is reached (what is shared counts as often as it is met; a slice's spare places count too). A statement '..UptoSaid' is the law's where the arguments, and the package variables that the reading takes, are together of bulk at most 1048576: NARROWER than '..Said'. Prove '..Said' where nothing that the law and all that it calls make is longer than what came in: it says more and counts as full. Else prove '..UptoSaid'. A law counts once. -/
mutual
def uptoBulk {H : Type} : DataW H → Nat
  | .lit (.string bytes) => bytes.length + 1
  | .lit _ => 1
  | .nil => 1
  | .ptr d => uptoBulk d + 1
  | .slice elems spare => uptoBulkAll elems + uptoBulkAll spare + 1
  | .agg parts => uptoBulkAll parts + 1
  | .iface _ d => uptoBulk d + 1
  | .map entries => uptoBulkEntries entries + 1
  | .held _ => 1
def uptoBulkAll {H : Type} : List (DataW H) → Nat
  | [] => 0
  | d :: r => uptoBulk d + uptoBulkAll r
def uptoBulkEntries {H : Type} : List (Lit × DataW H) → Nat
  | [] => 0
  | x :: r => uptoBulkEntry x + uptoBulkEntries r
def uptoBulkEntry {H : Type} : Lit × DataW H → Nat
  | (.string bytes, d) => bytes.length + uptoBulk d + 1
  | (_, d) => uptoBulk d + 1
 end
def uptoSmall : (H : Type) → List (DataW H) → Bool := fun _ ds => decide (uptoBulkAll ds ≤ 1048576)
def OpenSpec.upto (s : _root_.Go.ChangeSpec) : _root_.Go.OpenSpec := { _root_.Go.OpenSpec.ofChange s with cond := some uptoSmall }

/-- 'quarrylaw03.KeysWrites', WHERE WHAT IT READS IS OF BULK AT MOST 1048576: true; the input reads as it did. -/
def keysWritesUptoRow : OpenClaim := { program := "ytbpnmmakodaakaa", sum := "51abb809d9ec1ef935c63e580b494cf69a2d77526687643d8c0d18cb5b7146b8", func := "quarry/quarrylaw03.KeysWrites", spec := "keysWrites", apart := false, narrowed := true }
def KeysWritesUptoSaid : Prop := keysWritesUptoRow.holds Try.pinned (OpenSpec.upto keysWritesSpec)

/-- 'quarrylaw03.KeysReads', WHERE WHAT IT READS IS OF BULK AT MOST 1048576: true; the input reads as it did. -/
def keysReadsUptoRow : OpenClaim := { program := "ytbpnmmakodaakaa", sum := "51abb809d9ec1ef935c63e580b494cf69a2d77526687643d8c0d18cb5b7146b8", func := "quarry/quarrylaw03.KeysReads", spec := "keysReads", unfollowed := true, recurses := true, apart := false, narrowed := true }
def KeysReadsUptoSaid : Prop := keysReadsUptoRow.holds Try.pinned (OpenSpec.upto keysReadsSpec)

/-- 'quarrylaw03.KeysOrder', WHERE WHAT IT READS IS OF BULK AT MOST 1048576: true; the input reads as it did. -/
def keysOrderUptoRow : OpenClaim := { program := "ytbpnmmakodaakaa", sum := "51abb809d9ec1ef935c63e580b494cf69a2d77526687643d8c0d18cb5b7146b8", func := "quarry/quarrylaw03.KeysOrder", spec := "keysOrder", unfollowed := true, recurses := true, apart := false, narrowed := true }
def KeysOrderUptoSaid : Prop := keysOrderUptoRow.holds Try.pinned (OpenSpec.upto keysOrderSpec)

/-- 'quarrylaw03.KeysBack', WHERE WHAT IT READS IS OF BULK AT MOST 1048576: true; the input reads as it did. -/
def keysBackUptoRow : OpenClaim := { program := "ytbpnmmakodaakaa", sum := "51abb809d9ec1ef935c63e580b494cf69a2d77526687643d8c0d18cb5b7146b8", func := "quarry/quarrylaw03.KeysBack", spec := "keysBack", unfollowed := true, recurses := true, apart := false, narrowed := true }
def KeysBackUptoSaid : Prop := keysBackUptoRow.holds Try.pinned (OpenSpec.upto keysBackSpec)

/-- 'quarrylaw03.KeysNext', WHERE WHAT IT READS IS OF BULK AT MOST 1048576: true; the input reads as it did. -/
def keysNextUptoRow : OpenClaim := { program := "ytbpnmmakodaakaa", sum := "51abb809d9ec1ef935c63e580b494cf69a2d77526687643d8c0d18cb5b7146b8", func := "quarry/quarrylaw03.KeysNext", spec := "keysNext", unfollowed := true, recurses := true, apart := false, narrowed := true }
def KeysNextUptoSaid : Prop := keysNextUptoRow.holds Try.pinned (OpenSpec.upto keysNextSpec)

/-- 'quarrylaw03.KeysCat', WHERE WHAT IT READS IS OF BULK AT MOST 1048576: true; the input reads as it did. -/
def keysCatUptoRow : OpenClaim := { program := "ytbpnmmakodaakaa", sum := "51abb809d9ec1ef935c63e580b494cf69a2d77526687643d8c0d18cb5b7146b8", func := "quarry/quarrylaw03.KeysCat", spec := "keysCat", unfollowed := true, recurses := true, apart := false, narrowed := true }
def KeysCatUptoSaid : Prop := keysCatUptoRow.holds Try.pinned (OpenSpec.upto keysCatSpec)

/-- 'quarrylaw03.KeysTurned', WHERE WHAT IT READS IS OF BULK AT MOST 1048576: true; the input reads as it did. -/
def keysTurnedUptoRow : OpenClaim := { program := "ytbpnmmakodaakaa", sum := "51abb809d9ec1ef935c63e580b494cf69a2d77526687643d8c0d18cb5b7146b8", func := "quarry/quarrylaw03.KeysTurned", spec := "keysTurned", unfollowed := true, recurses := true, apart := false, narrowed := true }
def KeysTurnedUptoSaid : Prop := keysTurnedUptoRow.holds Try.pinned (OpenSpec.upto keysTurnedSpec)

end Rows
end Go.Proofs.Ytbpnmmakodaakaa
