/-
  No cell of these rows narrows 'for every input' (looked for: loops, veiled, ifaces, maps, wideKeys, modest, calm, conditions, laid).
  DERIVED. THE GIVEN ROWS OF THIS SEAT. 5 by the template 'for every input the law returns true; each argument reads behind the call as it read before'; 0 by the template 'total and deterministic' (their statements: YtgjfciohmgpohaaTotals.lean).
  GIVEN WITH THE SEED: the statements are not yours to turn. If you find one false, say at which input.
  Laid BY PROGRAM, IN A SANDBOX (cutbox-rows.mjs): the forced cells as the released guide's own fill.sh prints them over the translation 3331c7b5988d95de… (all of the seat's roots in one cut). By AI agents, Wed Nov 11 2026. No macro, syntax, notation, axiom, sorry.
-/
import Derived.Test.YtgjfciohmgpohaaChecked
import GoSem.Claim
import GoSem.ClaimJoined
import GoSem.ClaimMapViews
import Derived.JoinedTies
import Derived.KernelRfl
namespace Go.Proofs.Ytgjfciohmgpohaa
/- THE CELL 'sum', in the pinned program and in every row, IS THE sha256 OF THE DUMP (.gsa) THAT YtgjfciohmgpohaaProg.lean LOADS. Nothing in Lean hashes anything: it is a label: what it is worth is what the hold of that sum in a sandbox is worth. -/
noncomputable def Try.pinned : Pinned := { name := "ytgjfciohmgpohaa", sum := "3331c7b5988d95de3d9cf23837531ce96b0a02041f6ea82aad80f4acde7e40b4", checked := Try.checked }
namespace Rows
def none {H : Type} : Left H := { results := [], args := [] }

/-- 'quarrylaw17.AggPlays': WHATEVER THE INPUT: true; the input reads as it did. -/
def aggPlaysSpec : ChangeSpec := { name := "aggPlays", fn := fun _ => fun
  | [d1, d2, d3] => { results := [.lit (.bool true)], args := [d1, d2, d3] }
  | _ => none }
def aggPlaysRow : OpenClaim := { program := "ytgjfciohmgpohaa", sum := "3331c7b5988d95de3d9cf23837531ce96b0a02041f6ea82aad80f4acde7e40b4", func := "quarry/quarrylaw17.AggPlays", spec := "aggPlays", unfollowed := true, recurses := true, apart := false }
def AggPlaysSaid : Prop := aggPlaysRow.holds Try.pinned (OpenSpec.ofChange aggPlaysSpec)

/-- ITS FALSE NEIGHBOUR: 'it returns false'. Refute it at one input. -/
def aggPlaysWrong : ChangeSpec := { name := "aggPlays", fn := fun _ => fun
  | [d1, d2, d3] => { results := [.lit (.bool false)], args := [d1, d2, d3] }
  | _ => none }
def AggPlaysWrongFalsely : Prop := aggPlaysRow.holds Try.pinned (OpenSpec.ofChange aggPlaysWrong)

/-- 'quarrylaw17.AggOrder': WHATEVER THE INPUT: true; the input reads as it did. -/
def aggOrderSpec : ChangeSpec := { name := "aggOrder", fn := fun _ => fun
  | [d1, d2, d3] => { results := [.lit (.bool true)], args := [d1, d2, d3] }
  | _ => none }
def aggOrderRow : OpenClaim := { program := "ytgjfciohmgpohaa", sum := "3331c7b5988d95de3d9cf23837531ce96b0a02041f6ea82aad80f4acde7e40b4", func := "quarry/quarrylaw17.AggOrder", spec := "aggOrder", unfollowed := true, recurses := true, apart := false }
def AggOrderSaid : Prop := aggOrderRow.holds Try.pinned (OpenSpec.ofChange aggOrderSpec)

/-- ITS FALSE NEIGHBOUR: 'it returns false'. Refute it at one input. -/
def aggOrderWrong : ChangeSpec := { name := "aggOrder", fn := fun _ => fun
  | [d1, d2, d3] => { results := [.lit (.bool false)], args := [d1, d2, d3] }
  | _ => none }
def AggOrderWrongFalsely : Prop := aggOrderRow.holds Try.pinned (OpenSpec.ofChange aggOrderWrong)

/-- 'quarrylaw17.AggBounds': WHATEVER THE INPUT: true; the input reads as it did. -/
def aggBoundsSpec : ChangeSpec := { name := "aggBounds", fn := fun _ => fun
  | [d] => { results := [.lit (.bool true)], args := [d] }
  | _ => none }
def aggBoundsRow : OpenClaim := { program := "ytgjfciohmgpohaa", sum := "3331c7b5988d95de3d9cf23837531ce96b0a02041f6ea82aad80f4acde7e40b4", func := "quarry/quarrylaw17.AggBounds", spec := "aggBounds", unfollowed := true, recurses := true, apart := false }
def AggBoundsSaid : Prop := aggBoundsRow.holds Try.pinned (OpenSpec.ofChange aggBoundsSpec)

/-- ITS FALSE NEIGHBOUR: 'it returns false'. Refute it at one input. -/
def aggBoundsWrong : ChangeSpec := { name := "aggBounds", fn := fun _ => fun
  | [d] => { results := [.lit (.bool false)], args := [d] }
  | _ => none }
def AggBoundsWrongFalsely : Prop := aggBoundsRow.holds Try.pinned (OpenSpec.ofChange aggBoundsWrong)

/-- 'quarrylaw17.AggParts': WHATEVER THE INPUT: true; the input reads as it did. -/
def aggPartsSpec : ChangeSpec := { name := "aggParts", fn := fun _ => fun
  | [d1, d2] => { results := [.lit (.bool true)], args := [d1, d2] }
  | _ => none }
def aggPartsRow : OpenClaim := { program := "ytgjfciohmgpohaa", sum := "3331c7b5988d95de3d9cf23837531ce96b0a02041f6ea82aad80f4acde7e40b4", func := "quarry/quarrylaw17.AggParts", spec := "aggParts", unfollowed := true, recurses := true, apart := false }
def AggPartsSaid : Prop := aggPartsRow.holds Try.pinned (OpenSpec.ofChange aggPartsSpec)

/-- ITS FALSE NEIGHBOUR: 'it returns false'. Refute it at one input. -/
def aggPartsWrong : ChangeSpec := { name := "aggParts", fn := fun _ => fun
  | [d1, d2] => { results := [.lit (.bool false)], args := [d1, d2] }
  | _ => none }
def AggPartsWrongFalsely : Prop := aggPartsRow.holds Try.pinned (OpenSpec.ofChange aggPartsWrong)

/-- 'quarrylaw17.AggRows': WHATEVER THE INPUT: true; the input reads as it did. -/
def aggRowsSpec : ChangeSpec := { name := "aggRows", fn := fun _ => fun
  | [d] => { results := [.lit (.bool true)], args := [d] }
  | _ => none }
def aggRowsRow : OpenClaim := { program := "ytgjfciohmgpohaa", sum := "3331c7b5988d95de3d9cf23837531ce96b0a02041f6ea82aad80f4acde7e40b4", func := "quarry/quarrylaw17.AggRows", spec := "aggRows", unfollowed := true, recurses := true, apart := false }
def AggRowsSaid : Prop := aggRowsRow.holds Try.pinned (OpenSpec.ofChange aggRowsSpec)

/-- ITS FALSE NEIGHBOUR: 'it returns false'. Refute it at one input. -/
def aggRowsWrong : ChangeSpec := { name := "aggRows", fn := fun _ => fun
  | [d] => { results := [.lit (.bool false)], args := [d] }
  | _ => none }
def AggRowsWrongFalsely : Prop := aggRowsRow.holds Try.pinned (OpenSpec.ofChange aggRowsWrong)

/- THE SECOND FORM. 'bulk': how many values and letters a reading holds, each counted each time it is reached (what is shared counts as often as it is met; a slice's spare places count too). A statement '..UptoSaid' is the law's where the arguments, and the package variables that the reading takes, are together of bulk at most 1048576: NARROWER than '..Said'. Prove '..Said' where nothing that the law and all that it calls make is longer than what came in: it says more and counts as full. Else prove '..UptoSaid'. A law counts once. -/
mutual
def uptoBulk {H : Type} : DataW H → Nat
  | .lit (.string bytes) => bytes.length + 1
  | .lit _ => 1
  | .nil => 1
  | .ptr d => uptoBulk d + 1
  | .slice elems spare => uptoBulkAll elems + uptoBulkAll spare + 1
  | .agg parts => uptoBulkAll parts + 1
  | .iface _ d => uptoBulk d + 1
  | .map entries => uptoBulkEntries entries + 1
  | .held _ => 1
def uptoBulkAll {H : Type} : List (DataW H) → Nat
  | [] => 0
  | d :: r => uptoBulk d + uptoBulkAll r
def uptoBulkEntries {H : Type} : List (Lit × DataW H) → Nat
  | [] => 0
  | x :: r => uptoBulkEntry x + uptoBulkEntries r
def uptoBulkEntry {H : Type} : Lit × DataW H → Nat
  | (.string bytes, d) => bytes.length + uptoBulk d + 1
  | (_, d) => uptoBulk d + 1
 end
def uptoSmall : (H : Type) → List (DataW H) → Bool := fun _ ds => decide (uptoBulkAll ds ≤ 1048576)
def OpenSpec.upto (s : _root_.Go.ChangeSpec) : _root_.Go.OpenSpec := { _root_.Go.OpenSpec.ofChange s with cond := some uptoSmall }

/-- 'quarrylaw17.AggPlays', WHERE WHAT IT READS IS OF BULK AT MOST 1048576: true; the input reads as it did. -/
def aggPlaysUptoRow : OpenClaim := { program := "ytgjfciohmgpohaa", sum := "3331c7b5988d95de3d9cf23837531ce96b0a02041f6ea82aad80f4acde7e40b4", func := "quarry/quarrylaw17.AggPlays", spec := "aggPlays", unfollowed := true, recurses := true, apart := false, narrowed := true }
def AggPlaysUptoSaid : Prop := aggPlaysUptoRow.holds Try.pinned (OpenSpec.upto aggPlaysSpec)

/-- 'quarrylaw17.AggOrder', WHERE WHAT IT READS IS OF BULK AT MOST 1048576: true; the input reads as it did. -/
def aggOrderUptoRow : OpenClaim := { program := "ytgjfciohmgpohaa", sum := "3331c7b5988d95de3d9cf23837531ce96b0a02041f6ea82aad80f4acde7e40b4", func := "quarry/quarrylaw17.AggOrder", spec := "aggOrder", unfollowed := true, recurses := true, apart := false, narrowed := true }
def AggOrderUptoSaid : Prop := aggOrderUptoRow.holds Try.pinned (OpenSpec.upto aggOrderSpec)

/-- 'quarrylaw17.AggBounds', WHERE WHAT IT READS IS OF BULK AT MOST 1048576: true; the input reads as it did. -/
def aggBoundsUptoRow : OpenClaim := { program := "ytgjfciohmgpohaa", sum := "3331c7b5988d95de3d9cf23837531ce96b0a02041f6ea82aad80f4acde7e40b4", func := "quarry/quarrylaw17.AggBounds", spec := "aggBounds", unfollowed := true, recurses := true, apart := false, narrowed := true }
def AggBoundsUptoSaid : Prop := aggBoundsUptoRow.holds Try.pinned (OpenSpec.upto aggBoundsSpec)

/-- 'quarrylaw17.AggParts', WHERE WHAT IT READS IS OF BULK AT MOST 1048576: true; the input reads as it did. -/
def aggPartsUptoRow : OpenClaim := { program := "ytgjfciohmgpohaa", sum := "3331c7b5988d95de3d9cf23837531ce96b0a02041f6ea82aad80f4acde7e40b4", func := "quarry/quarrylaw17.AggParts", spec := "aggParts", unfollowed := true, recurses := true, apart := false, narrowed := true }
def AggPartsUptoSaid : Prop := aggPartsUptoRow.holds Try.pinned (OpenSpec.upto aggPartsSpec)

/-- 'quarrylaw17.AggRows', WHERE WHAT IT READS IS OF BULK AT MOST 1048576: true; the input reads as it did. -/
def aggRowsUptoRow : OpenClaim := { program := "ytgjfciohmgpohaa", sum := "3331c7b5988d95de3d9cf23837531ce96b0a02041f6ea82aad80f4acde7e40b4", func := "quarry/quarrylaw17.AggRows", spec := "aggRows", unfollowed := true, recurses := true, apart := false, narrowed := true }
def AggRowsUptoSaid : Prop := aggRowsUptoRow.holds Try.pinned (OpenSpec.upto aggRowsSpec)

end Rows
end Go.Proofs.Ytgjfciohmgpohaa
