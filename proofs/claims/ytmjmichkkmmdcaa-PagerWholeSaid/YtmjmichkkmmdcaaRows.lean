/-
  No cell of these rows narrows 'for every input' (looked for: loops, veiled, ifaces, maps, wideKeys, modest, calm, conditions, laid).
  DERIVED. THE GIVEN ROWS OF THIS SEAT. 6 by the template 'for every input the law returns true; each argument reads behind the call as it read before'; 0 by the template 'total and deterministic' (their statements: YtmjmichkkmmdcaaTotals.lean).
  GIVEN WITH THE SEED: the statements are not yours to turn. If you find one false, say at which input.
  Laid BY PROGRAM, IN A SANDBOX (cutbox-rows.mjs): the forced cells as the released guide's own fill.sh prints them over the translation 0027532708b7071b… (all of the seat's roots in one cut). By AI agents, Wed Nov 11 2026. No macro, syntax, notation, axiom, sorry.
-/
import Derived.Test.YtmjmichkkmmdcaaChecked
import GoSem.Claim
import GoSem.ClaimJoined
import GoSem.ClaimMapViews
import Derived.JoinedTies
import Derived.KernelRfl
namespace Go.Proofs.Ytmjmichkkmmdcaa
/- THE CELL 'sum', in the pinned program and in every row, IS THE sha256 OF THE DUMP (.gsa) THAT YtmjmichkkmmdcaaProg.lean LOADS. Nothing in Lean hashes anything: it is a label: what it is worth is what the hold of that sum in a sandbox is worth. -/
noncomputable def Try.pinned : Pinned := { name := "ytmjmichkkmmdcaa", sum := "0027532708b7071b0e13a0951eb222f60f91b773430c9da502c01d97fb90d2d9", checked := Try.checked }
namespace Rows
def none {H : Type} : Left H := { results := [], args := [] }

/-- 'quarrylaw06.PagerSums': WHATEVER THE INPUT: true; the input reads as it did. -/
def pagerSumsSpec : ChangeSpec := { name := "pagerSums", fn := fun _ => fun
  | [d] => { results := [.lit (.bool true)], args := [d] }
  | _ => none }
def pagerSumsRow : OpenClaim := { program := "ytmjmichkkmmdcaa", sum := "0027532708b7071b0e13a0951eb222f60f91b773430c9da502c01d97fb90d2d9", func := "quarry/quarrylaw06.PagerSums", spec := "pagerSums", apart := false }
def PagerSumsSaid : Prop := pagerSumsRow.holds Try.pinned (OpenSpec.ofChange pagerSumsSpec)

/-- ITS FALSE NEIGHBOUR: 'it returns false'. Refute it at one input. -/
def pagerSumsWrong : ChangeSpec := { name := "pagerSums", fn := fun _ => fun
  | [d] => { results := [.lit (.bool false)], args := [d] }
  | _ => none }
def PagerSumsWrongFalsely : Prop := pagerSumsRow.holds Try.pinned (OpenSpec.ofChange pagerSumsWrong)

/-- 'quarrylaw06.PagerRises': WHATEVER THE INPUT: true; the input reads as it did. -/
def pagerRisesSpec : ChangeSpec := { name := "pagerRises", fn := fun _ => fun
  | [d] => { results := [.lit (.bool true)], args := [d] }
  | _ => none }
def pagerRisesRow : OpenClaim := { program := "ytmjmichkkmmdcaa", sum := "0027532708b7071b0e13a0951eb222f60f91b773430c9da502c01d97fb90d2d9", func := "quarry/quarrylaw06.PagerRises", spec := "pagerRises", unfollowed := true, recurses := true, apart := false }
def PagerRisesSaid : Prop := pagerRisesRow.holds Try.pinned (OpenSpec.ofChange pagerRisesSpec)

/-- ITS FALSE NEIGHBOUR: 'it returns false'. Refute it at one input. -/
def pagerRisesWrong : ChangeSpec := { name := "pagerRises", fn := fun _ => fun
  | [d] => { results := [.lit (.bool false)], args := [d] }
  | _ => none }
def PagerRisesWrongFalsely : Prop := pagerRisesRow.holds Try.pinned (OpenSpec.ofChange pagerRisesWrong)

/-- 'quarrylaw06.PagerTells': WHATEVER THE INPUT: true; the input reads as it did. -/
def pagerTellsSpec : ChangeSpec := { name := "pagerTells", fn := fun _ => fun
  | [d1, d2, d3, d4] => { results := [.lit (.bool true)], args := [d1, d2, d3, d4] }
  | _ => none }
def pagerTellsRow : OpenClaim := { program := "ytmjmichkkmmdcaa", sum := "0027532708b7071b0e13a0951eb222f60f91b773430c9da502c01d97fb90d2d9", func := "quarry/quarrylaw06.PagerTells", spec := "pagerTells", unfollowed := true, recurses := true, apart := false }
def PagerTellsSaid : Prop := pagerTellsRow.holds Try.pinned (OpenSpec.ofChange pagerTellsSpec)

/-- ITS FALSE NEIGHBOUR: 'it returns false'. Refute it at one input. -/
def pagerTellsWrong : ChangeSpec := { name := "pagerTells", fn := fun _ => fun
  | [d1, d2, d3, d4] => { results := [.lit (.bool false)], args := [d1, d2, d3, d4] }
  | _ => none }
def PagerTellsWrongFalsely : Prop := pagerTellsRow.holds Try.pinned (OpenSpec.ofChange pagerTellsWrong)

/-- 'quarrylaw06.PagerImages': WHATEVER THE INPUT: true; the input reads as it did. -/
def pagerImagesSpec : ChangeSpec := { name := "pagerImages", fn := fun _ => fun
  | [d1, d2, d3] => { results := [.lit (.bool true)], args := [d1, d2, d3] }
  | _ => none }
def pagerImagesRow : OpenClaim := { program := "ytmjmichkkmmdcaa", sum := "0027532708b7071b0e13a0951eb222f60f91b773430c9da502c01d97fb90d2d9", func := "quarry/quarrylaw06.PagerImages", spec := "pagerImages", unfollowed := true, recurses := true, apart := false }
def PagerImagesSaid : Prop := pagerImagesRow.holds Try.pinned (OpenSpec.ofChange pagerImagesSpec)

/-- ITS FALSE NEIGHBOUR: 'it returns false'. Refute it at one input. -/
def pagerImagesWrong : ChangeSpec := { name := "pagerImages", fn := fun _ => fun
  | [d1, d2, d3] => { results := [.lit (.bool false)], args := [d1, d2, d3] }
  | _ => none }
def PagerImagesWrongFalsely : Prop := pagerImagesRow.holds Try.pinned (OpenSpec.ofChange pagerImagesWrong)

/-- 'quarrylaw06.PagerWhole': WHATEVER THE INPUT: true; the input reads as it did. -/
def pagerWholeSpec : ChangeSpec := { name := "pagerWhole", fn := fun _ => fun
  | [d1, d2, d3, d4, d5, d6] => { results := [.lit (.bool true)], args := [d1, d2, d3, d4, d5, d6] }
  | _ => none }
def pagerWholeRow : OpenClaim := { program := "ytmjmichkkmmdcaa", sum := "0027532708b7071b0e13a0951eb222f60f91b773430c9da502c01d97fb90d2d9", func := "quarry/quarrylaw06.PagerWhole", spec := "pagerWhole", unfollowed := true, recurses := true, apart := false }
def PagerWholeSaid : Prop := pagerWholeRow.holds Try.pinned (OpenSpec.ofChange pagerWholeSpec)

/-- ITS FALSE NEIGHBOUR: 'it returns false'. Refute it at one input. -/
def pagerWholeWrong : ChangeSpec := { name := "pagerWhole", fn := fun _ => fun
  | [d1, d2, d3, d4, d5, d6] => { results := [.lit (.bool false)], args := [d1, d2, d3, d4, d5, d6] }
  | _ => none }
def PagerWholeWrongFalsely : Prop := pagerWholeRow.holds Try.pinned (OpenSpec.ofChange pagerWholeWrong)

/-- 'quarrylaw06.PagerPlays': WHATEVER THE INPUT: true; the input reads as it did. -/
def pagerPlaysSpec : ChangeSpec := { name := "pagerPlays", fn := fun _ => fun
  | [d1, d2] => { results := [.lit (.bool true)], args := [d1, d2] }
  | _ => none }
def pagerPlaysRow : OpenClaim := { program := "ytmjmichkkmmdcaa", sum := "0027532708b7071b0e13a0951eb222f60f91b773430c9da502c01d97fb90d2d9", func := "quarry/quarrylaw06.PagerPlays", spec := "pagerPlays", inPlace := ["maps.clone"], unfollowed := true, recurses := true, apart := false }
def PagerPlaysSaid : Prop := pagerPlaysRow.holds Try.pinned (OpenSpec.ofChange pagerPlaysSpec)

/-- ITS FALSE NEIGHBOUR: 'it returns false'. Refute it at one input. -/
def pagerPlaysWrong : ChangeSpec := { name := "pagerPlays", fn := fun _ => fun
  | [d1, d2] => { results := [.lit (.bool false)], args := [d1, d2] }
  | _ => none }
def PagerPlaysWrongFalsely : Prop := pagerPlaysRow.holds Try.pinned (OpenSpec.ofChange pagerPlaysWrong)

/- THE SECOND FORM. 'bulk': how many values and letters a reading holds, each counted each time it is reached (what is shared counts as often as it is met; a slice's spare places count too). A statement '..UptoSaid' is the law's where the arguments, and the package variables that the reading takes, are together of bulk at most 1048576: NARROWER than '..Said'. Prove '..Said' where nothing that the law and all that it calls make is longer than what came in: it says more and counts as full. Else prove '..UptoSaid'. A law counts once. -/
mutual
def uptoBulk {H : Type} : DataW H → Nat
  | .lit (.string bytes) => bytes.length + 1
  | .lit _ => 1
  | .nil => 1
  | .ptr d => uptoBulk d + 1
  | .slice elems spare => uptoBulkAll elems + uptoBulkAll spare + 1
  | .agg parts => uptoBulkAll parts + 1
  | .iface _ d => uptoBulk d + 1
  | .map entries => uptoBulkEntries entries + 1
  | .held _ => 1
def uptoBulkAll {H : Type} : List (DataW H) → Nat
  | [] => 0
  | d :: r => uptoBulk d + uptoBulkAll r
def uptoBulkEntries {H : Type} : List (Lit × DataW H) → Nat
  | [] => 0
  | x :: r => uptoBulkEntry x + uptoBulkEntries r
def uptoBulkEntry {H : Type} : Lit × DataW H → Nat
  | (.string bytes, d) => bytes.length + uptoBulk d + 1
  | (_, d) => uptoBulk d + 1
 end
def uptoSmall : (H : Type) → List (DataW H) → Bool := fun _ ds => decide (uptoBulkAll ds ≤ 1048576)
def OpenSpec.upto (s : _root_.Go.ChangeSpec) : _root_.Go.OpenSpec := { _root_.Go.OpenSpec.ofChange s with cond := some uptoSmall }

/-- 'quarrylaw06.PagerSums', WHERE WHAT IT READS IS OF BULK AT MOST 1048576: true; the input reads as it did. -/
def pagerSumsUptoRow : OpenClaim := { program := "ytmjmichkkmmdcaa", sum := "0027532708b7071b0e13a0951eb222f60f91b773430c9da502c01d97fb90d2d9", func := "quarry/quarrylaw06.PagerSums", spec := "pagerSums", apart := false, narrowed := true }
def PagerSumsUptoSaid : Prop := pagerSumsUptoRow.holds Try.pinned (OpenSpec.upto pagerSumsSpec)

/-- 'quarrylaw06.PagerRises', WHERE WHAT IT READS IS OF BULK AT MOST 1048576: true; the input reads as it did. -/
def pagerRisesUptoRow : OpenClaim := { program := "ytmjmichkkmmdcaa", sum := "0027532708b7071b0e13a0951eb222f60f91b773430c9da502c01d97fb90d2d9", func := "quarry/quarrylaw06.PagerRises", spec := "pagerRises", unfollowed := true, recurses := true, apart := false, narrowed := true }
def PagerRisesUptoSaid : Prop := pagerRisesUptoRow.holds Try.pinned (OpenSpec.upto pagerRisesSpec)

/-- 'quarrylaw06.PagerTells', WHERE WHAT IT READS IS OF BULK AT MOST 1048576: true; the input reads as it did. -/
def pagerTellsUptoRow : OpenClaim := { program := "ytmjmichkkmmdcaa", sum := "0027532708b7071b0e13a0951eb222f60f91b773430c9da502c01d97fb90d2d9", func := "quarry/quarrylaw06.PagerTells", spec := "pagerTells", unfollowed := true, recurses := true, apart := false, narrowed := true }
def PagerTellsUptoSaid : Prop := pagerTellsUptoRow.holds Try.pinned (OpenSpec.upto pagerTellsSpec)

/-- 'quarrylaw06.PagerImages', WHERE WHAT IT READS IS OF BULK AT MOST 1048576: true; the input reads as it did. -/
def pagerImagesUptoRow : OpenClaim := { program := "ytmjmichkkmmdcaa", sum := "0027532708b7071b0e13a0951eb222f60f91b773430c9da502c01d97fb90d2d9", func := "quarry/quarrylaw06.PagerImages", spec := "pagerImages", unfollowed := true, recurses := true, apart := false, narrowed := true }
def PagerImagesUptoSaid : Prop := pagerImagesUptoRow.holds Try.pinned (OpenSpec.upto pagerImagesSpec)

/-- 'quarrylaw06.PagerWhole', WHERE WHAT IT READS IS OF BULK AT MOST 1048576: true; the input reads as it did. -/
def pagerWholeUptoRow : OpenClaim := { program := "ytmjmichkkmmdcaa", sum := "0027532708b7071b0e13a0951eb222f60f91b773430c9da502c01d97fb90d2d9", func := "quarry/quarrylaw06.PagerWhole", spec := "pagerWhole", unfollowed := true, recurses := true, apart := false, narrowed := true }
def PagerWholeUptoSaid : Prop := pagerWholeUptoRow.holds Try.pinned (OpenSpec.upto pagerWholeSpec)

/-- 'quarrylaw06.PagerPlays', WHERE WHAT IT READS IS OF BULK AT MOST 1048576: true; the input reads as it did. -/
def pagerPlaysUptoRow : OpenClaim := { program := "ytmjmichkkmmdcaa", sum := "0027532708b7071b0e13a0951eb222f60f91b773430c9da502c01d97fb90d2d9", func := "quarry/quarrylaw06.PagerPlays", spec := "pagerPlays", inPlace := ["maps.clone"], unfollowed := true, recurses := true, apart := false, narrowed := true }
def PagerPlaysUptoSaid : Prop := pagerPlaysUptoRow.holds Try.pinned (OpenSpec.upto pagerPlaysSpec)

end Rows
end Go.Proofs.Ytmjmichkkmmdcaa
