/-
  No cell of these rows narrows 'for every input' (looked for: loops, veiled, ifaces, maps, wideKeys, modest, calm, conditions, laid).
  DERIVED. THE GIVEN ROWS OF THIS SEAT. 8 by the template 'for every input the law returns true; each argument reads behind the call as it read before'; 0 by the template 'total and deterministic' (their statements: YtfbeklbjlkgbnaaTotals.lean).
  GIVEN WITH THE SEED: the statements are not yours to turn. If you find one false, say at which input.
  Laid BY PROGRAM, IN A SANDBOX (cutbox-rows.mjs): the forced cells as the released guide's own fill.sh prints them over the translation 9ae5370f71f60766… (all of the seat's roots in one cut). By AI agents, Wed Nov 11 2026. No macro, syntax, notation, axiom, sorry.
-/
import Derived.Test.YtfbeklbjlkgbnaaChecked
import GoSem.Claim
import GoSem.ClaimJoined
import GoSem.ClaimMapViews
import Derived.JoinedTies
import Derived.KernelRfl
namespace Go.Proofs.Ytfbeklbjlkgbnaa
/- THE CELL 'sum', in the pinned program and in every row, IS THE sha256 OF THE DUMP (.gsa) THAT YtfbeklbjlkgbnaaProg.lean LOADS. Nothing in Lean hashes anything: it is a label: what it is worth is what the hold of that sum in a sandbox is worth. -/
noncomputable def Try.pinned : Pinned := { name := "ytfbeklbjlkgbnaa", sum := "9ae5370f71f60766a9bbbc45257f8d888d14db66175584430432fa1a50919f66", checked := Try.checked }
namespace Rows
def none {H : Type} : Left H := { results := [], args := [] }

/-- 'quarrylaw02.CalcCalls': WHATEVER THE INPUT: true; the input reads as it did. -/
def calcCallsSpec : ChangeSpec := { name := "calcCalls", fn := fun _ => fun
  | [d1, d2] => { results := [.lit (.bool true)], args := [d1, d2] }
  | _ => none }
def calcCallsRow : OpenClaim := { program := "ytfbeklbjlkgbnaa", sum := "9ae5370f71f60766a9bbbc45257f8d888d14db66175584430432fa1a50919f66", func := "quarry/quarrylaw02.CalcCalls", spec := "calcCalls", inPlace := ["internal/abi.NoEscape"], unfollowed := true, recurses := true, apart := false }
def CalcCallsSaid : Prop := calcCallsRow.holds Try.pinned (OpenSpec.ofChange calcCallsSpec)

/-- ITS FALSE NEIGHBOUR: 'it returns false'. Refute it at one input. -/
def calcCallsWrong : ChangeSpec := { name := "calcCalls", fn := fun _ => fun
  | [d1, d2] => { results := [.lit (.bool false)], args := [d1, d2] }
  | _ => none }
def CalcCallsWrongFalsely : Prop := calcCallsRow.holds Try.pinned (OpenSpec.ofChange calcCallsWrong)

/-- 'quarrylaw02.CalcDoes': WHATEVER THE INPUT: true; the input reads as it did. -/
def calcDoesSpec : ChangeSpec := { name := "calcDoes", fn := fun _ => fun
  | [d1, d2, d3] => { results := [.lit (.bool true)], args := [d1, d2, d3] }
  | _ => none }
def calcDoesRow : OpenClaim := { program := "ytfbeklbjlkgbnaa", sum := "9ae5370f71f60766a9bbbc45257f8d888d14db66175584430432fa1a50919f66", func := "quarry/quarrylaw02.CalcDoes", spec := "calcDoes", inPlace := ["internal/bytealg.abigen_runtime_cmpstring"], unfollowed := true, recurses := true, apart := false }
def CalcDoesSaid : Prop := calcDoesRow.holds Try.pinned (OpenSpec.ofChange calcDoesSpec)

/-- ITS FALSE NEIGHBOUR: 'it returns false'. Refute it at one input. -/
def calcDoesWrong : ChangeSpec := { name := "calcDoes", fn := fun _ => fun
  | [d1, d2, d3] => { results := [.lit (.bool false)], args := [d1, d2, d3] }
  | _ => none }
def CalcDoesWrongFalsely : Prop := calcDoesRow.holds Try.pinned (OpenSpec.ofChange calcDoesWrong)

/-- 'quarrylaw02.CalcDivides': WHATEVER THE INPUT: true; the input reads as it did. -/
def calcDividesSpec : ChangeSpec := { name := "calcDivides", fn := fun _ => fun
  | [d1, d2] => { results := [.lit (.bool true)], args := [d1, d2] }
  | _ => none }
def calcDividesRow : OpenClaim := { program := "ytfbeklbjlkgbnaa", sum := "9ae5370f71f60766a9bbbc45257f8d888d14db66175584430432fa1a50919f66", func := "quarry/quarrylaw02.CalcDivides", spec := "calcDivides", inPlace := ["internal/bytealg.abigen_runtime_cmpstring", "internal/abi.NoEscape"], unfollowed := true, recurses := true, apart := false }
def CalcDividesSaid : Prop := calcDividesRow.holds Try.pinned (OpenSpec.ofChange calcDividesSpec)

/-- ITS FALSE NEIGHBOUR: 'it returns false'. Refute it at one input. -/
def calcDividesWrong : ChangeSpec := { name := "calcDivides", fn := fun _ => fun
  | [d1, d2] => { results := [.lit (.bool false)], args := [d1, d2] }
  | _ => none }
def CalcDividesWrongFalsely : Prop := calcDividesRow.holds Try.pinned (OpenSpec.ofChange calcDividesWrong)

/-- 'quarrylaw02.CalcSums': WHATEVER THE INPUT: true; the input reads as it did. -/
def calcSumsSpec : ChangeSpec := { name := "calcSums", fn := fun _ => fun
  | [d1, d2] => { results := [.lit (.bool true)], args := [d1, d2] }
  | _ => none }
def calcSumsRow : OpenClaim := { program := "ytfbeklbjlkgbnaa", sum := "9ae5370f71f60766a9bbbc45257f8d888d14db66175584430432fa1a50919f66", func := "quarry/quarrylaw02.CalcSums", spec := "calcSums", inPlace := ["internal/bytealg.abigen_runtime_cmpstring", "internal/abi.NoEscape"], unfollowed := true, recurses := true, apart := false }
def CalcSumsSaid : Prop := calcSumsRow.holds Try.pinned (OpenSpec.ofChange calcSumsSpec)

/-- ITS FALSE NEIGHBOUR: 'it returns false'. Refute it at one input. -/
def calcSumsWrong : ChangeSpec := { name := "calcSums", fn := fun _ => fun
  | [d1, d2] => { results := [.lit (.bool false)], args := [d1, d2] }
  | _ => none }
def CalcSumsWrongFalsely : Prop := calcSumsRow.holds Try.pinned (OpenSpec.ofChange calcSumsWrong)

/-- 'quarrylaw02.CalcTexts': WHATEVER THE INPUT: true; the input reads as it did. -/
def calcTextsSpec : ChangeSpec := { name := "calcTexts", fn := fun _ => fun
  | [d1, d2] => { results := [.lit (.bool true)], args := [d1, d2] }
  | _ => none }
def calcTextsRow : OpenClaim := { program := "ytfbeklbjlkgbnaa", sum := "9ae5370f71f60766a9bbbc45257f8d888d14db66175584430432fa1a50919f66", func := "quarry/quarrylaw02.CalcTexts", spec := "calcTexts", inPlace := ["internal/bytealg.abigen_runtime_cmpstring", "internal/abi.NoEscape"], unfollowed := true, recurses := true, apart := false }
def CalcTextsSaid : Prop := calcTextsRow.holds Try.pinned (OpenSpec.ofChange calcTextsSpec)

/-- ITS FALSE NEIGHBOUR: 'it returns false'. Refute it at one input. -/
def calcTextsWrong : ChangeSpec := { name := "calcTexts", fn := fun _ => fun
  | [d1, d2] => { results := [.lit (.bool false)], args := [d1, d2] }
  | _ => none }
def CalcTextsWrongFalsely : Prop := calcTextsRow.holds Try.pinned (OpenSpec.ofChange calcTextsWrong)

/-- 'quarrylaw02.CalcOne': WHATEVER THE INPUT: true; the input reads as it did. -/
def calcOneSpec : ChangeSpec := { name := "calcOne", fn := fun _ => fun
  | [d1, d2] => { results := [.lit (.bool true)], args := [d1, d2] }
  | _ => none }
def calcOneRow : OpenClaim := { program := "ytfbeklbjlkgbnaa", sum := "9ae5370f71f60766a9bbbc45257f8d888d14db66175584430432fa1a50919f66", func := "quarry/quarrylaw02.CalcOne", spec := "calcOne", inPlace := ["internal/bytealg.abigen_runtime_cmpstring", "internal/abi.NoEscape"], unfollowed := true, recurses := true, apart := false }
def CalcOneSaid : Prop := calcOneRow.holds Try.pinned (OpenSpec.ofChange calcOneSpec)

/-- ITS FALSE NEIGHBOUR: 'it returns false'. Refute it at one input. -/
def calcOneWrong : ChangeSpec := { name := "calcOne", fn := fun _ => fun
  | [d1, d2] => { results := [.lit (.bool false)], args := [d1, d2] }
  | _ => none }
def CalcOneWrongFalsely : Prop := calcOneRow.holds Try.pinned (OpenSpec.ofChange calcOneWrong)

/-- 'quarrylaw02.CalcTurns': WHATEVER THE INPUT: true; the input reads as it did. -/
def calcTurnsSpec : ChangeSpec := { name := "calcTurns", fn := fun _ => fun
  | [d1, d2] => { results := [.lit (.bool true)], args := [d1, d2] }
  | _ => none }
def calcTurnsRow : OpenClaim := { program := "ytfbeklbjlkgbnaa", sum := "9ae5370f71f60766a9bbbc45257f8d888d14db66175584430432fa1a50919f66", func := "quarry/quarrylaw02.CalcTurns", spec := "calcTurns", inPlace := ["internal/bytealg.abigen_runtime_cmpstring", "internal/abi.NoEscape"], unfollowed := true, recurses := true, apart := false }
def CalcTurnsSaid : Prop := calcTurnsRow.holds Try.pinned (OpenSpec.ofChange calcTurnsSpec)

/-- ITS FALSE NEIGHBOUR: 'it returns false'. Refute it at one input. -/
def calcTurnsWrong : ChangeSpec := { name := "calcTurns", fn := fun _ => fun
  | [d1, d2] => { results := [.lit (.bool false)], args := [d1, d2] }
  | _ => none }
def CalcTurnsWrongFalsely : Prop := calcTurnsRow.holds Try.pinned (OpenSpec.ofChange calcTurnsWrong)

/-- 'quarrylaw02.CalcNulls': WHATEVER THE INPUT: true; the input reads as it did. -/
def calcNullsSpec : ChangeSpec := { name := "calcNulls", fn := fun _ => fun
  | [d1, d2] => { results := [.lit (.bool true)], args := [d1, d2] }
  | _ => none }
def calcNullsRow : OpenClaim := { program := "ytfbeklbjlkgbnaa", sum := "9ae5370f71f60766a9bbbc45257f8d888d14db66175584430432fa1a50919f66", func := "quarry/quarrylaw02.CalcNulls", spec := "calcNulls", inPlace := ["internal/bytealg.abigen_runtime_cmpstring", "internal/abi.NoEscape"], unfollowed := true, recurses := true, apart := false }
def CalcNullsSaid : Prop := calcNullsRow.holds Try.pinned (OpenSpec.ofChange calcNullsSpec)

/-- ITS FALSE NEIGHBOUR: 'it returns false'. Refute it at one input. -/
def calcNullsWrong : ChangeSpec := { name := "calcNulls", fn := fun _ => fun
  | [d1, d2] => { results := [.lit (.bool false)], args := [d1, d2] }
  | _ => none }
def CalcNullsWrongFalsely : Prop := calcNullsRow.holds Try.pinned (OpenSpec.ofChange calcNullsWrong)

/- THE SECOND FORM. 'bulk': how many values and letters a reading holds, each counted each time it is reached (what is shared counts as often as it is met; a slice's spare places count too). A statement '..UptoSaid' is the law's where the arguments, and the package variables that the reading takes, are together of bulk at most 1048576: NARROWER than '..Said'. Prove '..Said' where nothing that the law and all that it calls make is longer than what came in: it says more and counts as full. Else prove '..UptoSaid'. A law counts once. -/
mutual
def uptoBulk {H : Type} : DataW H → Nat
  | .lit (.string bytes) => bytes.length + 1
  | .lit _ => 1
  | .nil => 1
  | .ptr d => uptoBulk d + 1
  | .slice elems spare => uptoBulkAll elems + uptoBulkAll spare + 1
  | .agg parts => uptoBulkAll parts + 1
  | .iface _ d => uptoBulk d + 1
  | .map entries => uptoBulkEntries entries + 1
  | .held _ => 1
def uptoBulkAll {H : Type} : List (DataW H) → Nat
  | [] => 0
  | d :: r => uptoBulk d + uptoBulkAll r
def uptoBulkEntries {H : Type} : List (Lit × DataW H) → Nat
  | [] => 0
  | x :: r => uptoBulkEntry x + uptoBulkEntries r
def uptoBulkEntry {H : Type} : Lit × DataW H → Nat
  | (.string bytes, d) => bytes.length + uptoBulk d + 1
  | (_, d) => uptoBulk d + 1
 end
def uptoSmall : (H : Type) → List (DataW H) → Bool := fun _ ds => decide (uptoBulkAll ds ≤ 1048576)
def OpenSpec.upto (s : _root_.Go.ChangeSpec) : _root_.Go.OpenSpec := { _root_.Go.OpenSpec.ofChange s with cond := some uptoSmall }

/-- 'quarrylaw02.CalcCalls', WHERE WHAT IT READS IS OF BULK AT MOST 1048576: true; the input reads as it did. -/
def calcCallsUptoRow : OpenClaim := { program := "ytfbeklbjlkgbnaa", sum := "9ae5370f71f60766a9bbbc45257f8d888d14db66175584430432fa1a50919f66", func := "quarry/quarrylaw02.CalcCalls", spec := "calcCalls", inPlace := ["internal/abi.NoEscape"], unfollowed := true, recurses := true, apart := false, narrowed := true }
def CalcCallsUptoSaid : Prop := calcCallsUptoRow.holds Try.pinned (OpenSpec.upto calcCallsSpec)

/-- 'quarrylaw02.CalcDoes', WHERE WHAT IT READS IS OF BULK AT MOST 1048576: true; the input reads as it did. -/
def calcDoesUptoRow : OpenClaim := { program := "ytfbeklbjlkgbnaa", sum := "9ae5370f71f60766a9bbbc45257f8d888d14db66175584430432fa1a50919f66", func := "quarry/quarrylaw02.CalcDoes", spec := "calcDoes", inPlace := ["internal/bytealg.abigen_runtime_cmpstring"], unfollowed := true, recurses := true, apart := false, narrowed := true }
def CalcDoesUptoSaid : Prop := calcDoesUptoRow.holds Try.pinned (OpenSpec.upto calcDoesSpec)

/-- 'quarrylaw02.CalcDivides', WHERE WHAT IT READS IS OF BULK AT MOST 1048576: true; the input reads as it did. -/
def calcDividesUptoRow : OpenClaim := { program := "ytfbeklbjlkgbnaa", sum := "9ae5370f71f60766a9bbbc45257f8d888d14db66175584430432fa1a50919f66", func := "quarry/quarrylaw02.CalcDivides", spec := "calcDivides", inPlace := ["internal/bytealg.abigen_runtime_cmpstring", "internal/abi.NoEscape"], unfollowed := true, recurses := true, apart := false, narrowed := true }
def CalcDividesUptoSaid : Prop := calcDividesUptoRow.holds Try.pinned (OpenSpec.upto calcDividesSpec)

/-- 'quarrylaw02.CalcSums', WHERE WHAT IT READS IS OF BULK AT MOST 1048576: true; the input reads as it did. -/
def calcSumsUptoRow : OpenClaim := { program := "ytfbeklbjlkgbnaa", sum := "9ae5370f71f60766a9bbbc45257f8d888d14db66175584430432fa1a50919f66", func := "quarry/quarrylaw02.CalcSums", spec := "calcSums", inPlace := ["internal/bytealg.abigen_runtime_cmpstring", "internal/abi.NoEscape"], unfollowed := true, recurses := true, apart := false, narrowed := true }
def CalcSumsUptoSaid : Prop := calcSumsUptoRow.holds Try.pinned (OpenSpec.upto calcSumsSpec)

/-- 'quarrylaw02.CalcTexts', WHERE WHAT IT READS IS OF BULK AT MOST 1048576: true; the input reads as it did. -/
def calcTextsUptoRow : OpenClaim := { program := "ytfbeklbjlkgbnaa", sum := "9ae5370f71f60766a9bbbc45257f8d888d14db66175584430432fa1a50919f66", func := "quarry/quarrylaw02.CalcTexts", spec := "calcTexts", inPlace := ["internal/bytealg.abigen_runtime_cmpstring", "internal/abi.NoEscape"], unfollowed := true, recurses := true, apart := false, narrowed := true }
def CalcTextsUptoSaid : Prop := calcTextsUptoRow.holds Try.pinned (OpenSpec.upto calcTextsSpec)

/-- 'quarrylaw02.CalcOne', WHERE WHAT IT READS IS OF BULK AT MOST 1048576: true; the input reads as it did. -/
def calcOneUptoRow : OpenClaim := { program := "ytfbeklbjlkgbnaa", sum := "9ae5370f71f60766a9bbbc45257f8d888d14db66175584430432fa1a50919f66", func := "quarry/quarrylaw02.CalcOne", spec := "calcOne", inPlace := ["internal/bytealg.abigen_runtime_cmpstring", "internal/abi.NoEscape"], unfollowed := true, recurses := true, apart := false, narrowed := true }
def CalcOneUptoSaid : Prop := calcOneUptoRow.holds Try.pinned (OpenSpec.upto calcOneSpec)

/-- 'quarrylaw02.CalcTurns', WHERE WHAT IT READS IS OF BULK AT MOST 1048576: true; the input reads as it did. -/
def calcTurnsUptoRow : OpenClaim := { program := "ytfbeklbjlkgbnaa", sum := "9ae5370f71f60766a9bbbc45257f8d888d14db66175584430432fa1a50919f66", func := "quarry/quarrylaw02.CalcTurns", spec := "calcTurns", inPlace := ["internal/bytealg.abigen_runtime_cmpstring", "internal/abi.NoEscape"], unfollowed := true, recurses := true, apart := false, narrowed := true }
def CalcTurnsUptoSaid : Prop := calcTurnsUptoRow.holds Try.pinned (OpenSpec.upto calcTurnsSpec)

/-- 'quarrylaw02.CalcNulls', WHERE WHAT IT READS IS OF BULK AT MOST 1048576: true; the input reads as it did. -/
def calcNullsUptoRow : OpenClaim := { program := "ytfbeklbjlkgbnaa", sum := "9ae5370f71f60766a9bbbc45257f8d888d14db66175584430432fa1a50919f66", func := "quarry/quarrylaw02.CalcNulls", spec := "calcNulls", inPlace := ["internal/bytealg.abigen_runtime_cmpstring", "internal/abi.NoEscape"], unfollowed := true, recurses := true, apart := false, narrowed := true }
def CalcNullsUptoSaid : Prop := calcNullsUptoRow.holds Try.pinned (OpenSpec.upto calcNullsSpec)

end Rows
end Go.Proofs.Ytfbeklbjlkgbnaa
