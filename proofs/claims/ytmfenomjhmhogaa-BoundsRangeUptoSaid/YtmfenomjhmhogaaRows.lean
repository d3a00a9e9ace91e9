/-
  NARROWER THAN 'FOR EVERY INPUT', by the rows' own cells (each row's printed sentence says how): BoundsTerms: loops.
  DERIVED. THE GIVEN ROWS OF THIS SEAT. 5 by the template 'for every input the law returns true; each argument reads behind the call as it read before'; 0 by the template 'total and deterministic' (their statements: YtmfenomjhmhogaaTotals.lean).
  GIVEN WITH THE SEED: the statements are not yours to turn. If you find one false, say at which input.
  Laid BY PROGRAM, IN A SANDBOX (cutbox-rows.mjs): the forced cells as the released guide's own fill.sh prints them over the translation 952f749f61e3357d… (all of the seat's roots in one cut). By AI agents, Wed Nov 11 2026. No macro, syntax, notation, axiom, sorry.
-/
import Derived.Test.YtmfenomjhmhogaaChecked
import GoSem.Claim
import GoSem.ClaimJoined
import GoSem.ClaimMapViews
import Derived.JoinedTies
import Derived.KernelRfl
namespace Go.Proofs.Ytmfenomjhmhogaa
/- THE CELL 'sum', in the pinned program and in every row, IS THE sha256 OF THE DUMP (.gsa) THAT YtmfenomjhmhogaaProg.lean LOADS. Nothing in Lean hashes anything: it is a label: what it is worth is what the hold of that sum in a sandbox is worth. -/
noncomputable def Try.pinned : Pinned := { name := "ytmfenomjhmhogaa", sum := "952f749f61e3357d5f1a7e03ee0b62c5090c6c3d235a93e5d5d47814575f8826", checked := Try.checked }
namespace Rows
def none {H : Type} : Left H := { results := [], args := [] }

/-- 'quarrylaw19.BoundsTerms': WHATEVER THE INPUT: true; the input reads as it did. -/
def boundsTermsSpec : ChangeSpec := { name := "boundsTerms", fn := fun _ => fun
  | [d] => { results := [.lit (.bool true)], args := [d] }
  | _ => none }
def boundsTermsRow : OpenClaim := { program := "ytmfenomjhmhogaa", sum := "952f749f61e3357d5f1a7e03ee0b62c5090c6c3d235a93e5d5d47814575f8826", func := "quarry/quarrylaw19.BoundsTerms", spec := "boundsTerms", unfollowed := true, recurses := true, loops := true, apart := false }
def BoundsTermsSaid : Prop := boundsTermsRow.holds Try.pinned (OpenSpec.ofChange boundsTermsSpec)

/-- ITS FALSE NEIGHBOUR: 'it returns false'. Refute it at one input. -/
def boundsTermsWrong : ChangeSpec := { name := "boundsTerms", fn := fun _ => fun
  | [d] => { results := [.lit (.bool false)], args := [d] }
  | _ => none }
def BoundsTermsWrongFalsely : Prop := boundsTermsRow.holds Try.pinned (OpenSpec.ofChange boundsTermsWrong)

/-- 'quarrylaw19.BoundsRange': WHATEVER THE INPUT: true; the input reads as it did. -/
def boundsRangeSpec : ChangeSpec := { name := "boundsRange", fn := fun _ => fun
  | [d1, d2, d3] => { results := [.lit (.bool true)], args := [d1, d2, d3] }
  | _ => none }
def boundsRangeRow : OpenClaim := { program := "ytmfenomjhmhogaa", sum := "952f749f61e3357d5f1a7e03ee0b62c5090c6c3d235a93e5d5d47814575f8826", func := "quarry/quarrylaw19.BoundsRange", spec := "boundsRange", unfollowed := true, recurses := true, apart := false }
def BoundsRangeSaid : Prop := boundsRangeRow.holds Try.pinned (OpenSpec.ofChange boundsRangeSpec)

/-- ITS FALSE NEIGHBOUR: 'it returns false'. Refute it at one input. -/
def boundsRangeWrong : ChangeSpec := { name := "boundsRange", fn := fun _ => fun
  | [d1, d2, d3] => { results := [.lit (.bool false)], args := [d1, d2, d3] }
  | _ => none }
def BoundsRangeWrongFalsely : Prop := boundsRangeRow.holds Try.pinned (OpenSpec.ofChange boundsRangeWrong)

/-- 'quarrylaw19.BoundsAll': WHATEVER THE INPUT: true; the input reads as it did. -/
def boundsAllSpec : ChangeSpec := { name := "boundsAll", fn := fun _ => fun
  | [d1, d2, d3, d4] => { results := [.lit (.bool true)], args := [d1, d2, d3, d4] }
  | _ => none }
def boundsAllRow : OpenClaim := { program := "ytmfenomjhmhogaa", sum := "952f749f61e3357d5f1a7e03ee0b62c5090c6c3d235a93e5d5d47814575f8826", func := "quarry/quarrylaw19.BoundsAll", spec := "boundsAll", unfollowed := true, recurses := true, apart := false }
def BoundsAllSaid : Prop := boundsAllRow.holds Try.pinned (OpenSpec.ofChange boundsAllSpec)

/-- ITS FALSE NEIGHBOUR: 'it returns false'. Refute it at one input. -/
def boundsAllWrong : ChangeSpec := { name := "boundsAll", fn := fun _ => fun
  | [d1, d2, d3, d4] => { results := [.lit (.bool false)], args := [d1, d2, d3, d4] }
  | _ => none }
def BoundsAllWrongFalsely : Prop := boundsAllRow.holds Try.pinned (OpenSpec.ofChange boundsAllWrong)

/-- 'quarrylaw19.BoundsPoint': WHATEVER THE INPUT: true; the input reads as it did. -/
def boundsPointSpec : ChangeSpec := { name := "boundsPoint", fn := fun _ => fun
  | [d1, d2, d3] => { results := [.lit (.bool true)], args := [d1, d2, d3] }
  | _ => none }
def boundsPointRow : OpenClaim := { program := "ytmfenomjhmhogaa", sum := "952f749f61e3357d5f1a7e03ee0b62c5090c6c3d235a93e5d5d47814575f8826", func := "quarry/quarrylaw19.BoundsPoint", spec := "boundsPoint", unfollowed := true, recurses := true, apart := false }
def BoundsPointSaid : Prop := boundsPointRow.holds Try.pinned (OpenSpec.ofChange boundsPointSpec)

/-- ITS FALSE NEIGHBOUR: 'it returns false'. Refute it at one input. -/
def boundsPointWrong : ChangeSpec := { name := "boundsPoint", fn := fun _ => fun
  | [d1, d2, d3] => { results := [.lit (.bool false)], args := [d1, d2, d3] }
  | _ => none }
def BoundsPointWrongFalsely : Prop := boundsPointRow.holds Try.pinned (OpenSpec.ofChange boundsPointWrong)

/-- 'quarrylaw19.BoundsMore': WHATEVER THE INPUT: true; the input reads as it did. -/
def boundsMoreSpec : ChangeSpec := { name := "boundsMore", fn := fun _ => fun
  | [d1, d2, d3] => { results := [.lit (.bool true)], args := [d1, d2, d3] }
  | _ => none }
def boundsMoreRow : OpenClaim := { program := "ytmfenomjhmhogaa", sum := "952f749f61e3357d5f1a7e03ee0b62c5090c6c3d235a93e5d5d47814575f8826", func := "quarry/quarrylaw19.BoundsMore", spec := "boundsMore", unfollowed := true, recurses := true, apart := false }
def BoundsMoreSaid : Prop := boundsMoreRow.holds Try.pinned (OpenSpec.ofChange boundsMoreSpec)

/-- ITS FALSE NEIGHBOUR: 'it returns false'. Refute it at one input. -/
def boundsMoreWrong : ChangeSpec := { name := "boundsMore", fn := fun _ => fun
  | [d1, d2, d3] => { results := [.lit (.bool false)], args := [d1, d2, d3] }
  | _ => none }
def BoundsMoreWrongFalsely : Prop := boundsMoreRow.holds Try.pinned (OpenSpec.ofChange boundsMoreWrong)

/- THE SECOND FORM. 'bulk': how many values and letters a reading holds, each counted each time it is reached (what is shared counts as often as it is met; a slice's spare places count too). A statement '..UptoSaid' is the law's where the arguments, and the package variables that the reading takes, are together of bulk at most 1048576: NARROWER than '..Said'. Prove '..Said' where nothing that the law and all that it calls make is longer than what came in: it says more and counts as full. Else prove '..UptoSaid'. A law counts once. -/
mutual
def uptoBulk {H : Type} : DataW H → Nat
  | .lit (.string bytes) => bytes.length + 1
  | .lit _ => 1
  | .nil => 1
  | .ptr d => uptoBulk d + 1
  | .slice elems spare => uptoBulkAll elems + uptoBulkAll spare + 1
  | .agg parts => uptoBulkAll parts + 1
  | .iface _ d => uptoBulk d + 1
  | .map entries => uptoBulkEntries entries + 1
  | .held _ => 1
def uptoBulkAll {H : Type} : List (DataW H) → Nat
  | [] => 0
  | d :: r => uptoBulk d + uptoBulkAll r
def uptoBulkEntries {H : Type} : List (Lit × DataW H) → Nat
  | [] => 0
  | x :: r => uptoBulkEntry x + uptoBulkEntries r
def uptoBulkEntry {H : Type} : Lit × DataW H → Nat
  | (.string bytes, d) => bytes.length + uptoBulk d + 1
  | (_, d) => uptoBulk d + 1
 end
def uptoSmall : (H : Type) → List (DataW H) → Bool := fun _ ds => decide (uptoBulkAll ds ≤ 1048576)
def OpenSpec.upto (s : _root_.Go.ChangeSpec) : _root_.Go.OpenSpec := { _root_.Go.OpenSpec.ofChange s with cond := some uptoSmall }

/-- 'quarrylaw19.BoundsTerms', WHERE WHAT IT READS IS OF BULK AT MOST 1048576: true; the input reads as it did. -/
def boundsTermsUptoRow : OpenClaim := { program := "ytmfenomjhmhogaa", sum := "952f749f61e3357d5f1a7e03ee0b62c5090c6c3d235a93e5d5d47814575f8826", func := "quarry/quarrylaw19.BoundsTerms", spec := "boundsTerms", unfollowed := true, recurses := true, loops := true, apart := false, narrowed := true }
def BoundsTermsUptoSaid : Prop := boundsTermsUptoRow.holds Try.pinned (OpenSpec.upto boundsTermsSpec)

/-- 'quarrylaw19.BoundsRange', WHERE WHAT IT READS IS OF BULK AT MOST 1048576: true; the input reads as it did. -/
def boundsRangeUptoRow : OpenClaim := { program := "ytmfenomjhmhogaa", sum := "952f749f61e3357d5f1a7e03ee0b62c5090c6c3d235a93e5d5d47814575f8826", func := "quarry/quarrylaw19.BoundsRange", spec := "boundsRange", unfollowed := true, recurses := true, apart := false, narrowed := true }
def BoundsRangeUptoSaid : Prop := boundsRangeUptoRow.holds Try.pinned (OpenSpec.upto boundsRangeSpec)

/-- 'quarrylaw19.BoundsAll', WHERE WHAT IT READS IS OF BULK AT MOST 1048576: true; the input reads as it did. -/
def boundsAllUptoRow : OpenClaim := { program := "ytmfenomjhmhogaa", sum := "952f749f61e3357d5f1a7e03ee0b62c5090c6c3d235a93e5d5d47814575f8826", func := "quarry/quarrylaw19.BoundsAll", spec := "boundsAll", unfollowed := true, recurses := true, apart := false, narrowed := true }
def BoundsAllUptoSaid : Prop := boundsAllUptoRow.holds Try.pinned (OpenSpec.upto boundsAllSpec)

/-- 'quarrylaw19.BoundsPoint', WHERE WHAT IT READS IS OF BULK AT MOST 1048576: true; the input reads as it did. -/
def boundsPointUptoRow : OpenClaim := { program := "ytmfenomjhmhogaa", sum := "952f749f61e3357d5f1a7e03ee0b62c5090c6c3d235a93e5d5d47814575f8826", func := "quarry/quarrylaw19.BoundsPoint", spec := "boundsPoint", unfollowed := true, recurses := true, apart := false, narrowed := true }
def BoundsPointUptoSaid : Prop := boundsPointUptoRow.holds Try.pinned (OpenSpec.upto boundsPointSpec)

/-- 'quarrylaw19.BoundsMore', WHERE WHAT IT READS IS OF BULK AT MOST 1048576: true; the input reads as it did. -/
def boundsMoreUptoRow : OpenClaim := { program := "ytmfenomjhmhogaa", sum := "952f749f61e3357d5f1a7e03ee0b62c5090c6c3d235a93e5d5d47814575f8826", func := "quarry/quarrylaw19.BoundsMore", spec := "boundsMore", unfollowed := true, recurses := true, apart := false, narrowed := true }
def BoundsMoreUptoSaid : Prop := boundsMoreUptoRow.holds Try.pinned (OpenSpec.upto boundsMoreSpec)

end Rows
end Go.Proofs.Ytmfenomjhmhogaa
