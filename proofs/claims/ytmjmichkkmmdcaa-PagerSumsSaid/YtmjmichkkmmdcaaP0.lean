-- Laid by a program of this session (its own copy of a print, with functions proved by hand): checked by Lean.
import Derived.Test.YtmjmichkkmmdcaaProg
import Derived.Below
import Derived.Deep.Draws
import Derived.Deep.AppendLies
import Derived.Maps.AppendAt
import Derived.OwnWalk
import Derived.Laws.BytesArg
import Derived.Laws.MakeOwn
import Derived.Laws.OwnMore
import Derived.Deep.OwnRows
import Derived.Tactics
import Derived.Lib.ConvBytes
import Derived.Laws.Slices
import Derived.WalkKit
import Derived.KernelRfl
import Derived.RowKit3
import Derived.Deep.LoopGhost
import Derived.Deep.QuietTactic
import Derived.BigQuiet
import Derived.WideLaws
import Derived.Deep.DeepCutAuto
import Derived.Deep.CutBlock
import Derived.Deep.RegionHeld3
import Derived.Laws.Rows
import Derived.Lib.AppendStr
import Derived.ArgAppend
import Derived.Laws.IdiomCopy
import Derived.OrdersHeld
import Derived.Laws.BitsLemmas
import Derived.RowKit
import Derived.Test.YtmjmichkkmmdcaaWWords
import Derived.Test.YtmjmichkkmmdcaaWLast
import Derived.Test.YtmjmichkkmmdcaaWTab
import Derived.Test.YtmjmichkkmmdcaaWFour
import Derived.Test.YtmjmichkkmmdcaaWQPut
import Derived.Test.YtmjmichkkmmdcaaWApart
import Derived.Test.YtmjmichkkmmdcaaWArr
import Derived.Test.YtmjmichkkmmdcaaWZeros
import Derived.Test.YtmjmichkkmmdcaaWFoot
import Derived.Test.YtmjmichkkmmdcaaWKept
import Derived.Test.YtmjmichkkmmdcaaWShare
import Derived.Test.YtmjmichkkmmdcaaWN
import Derived.Test.YtmjmichkkmmdcaaWFootNe
import Derived.Test.YtmjmichkkmmdcaaWAt
import Derived.Test.YtmjmichkkmmdcaaWEqStruct
import Derived.Test.YtmjmichkkmmdcaaWRepsOne
import Derived.Test.YtmjmichkkmmdcaaWInv
import Derived.Test.YtmjmichkkmmdcaaWInvWords
import Derived.Test.YtmjmichkkmmdcaaWGuard
import Derived.Test.YtmjmichkkmmdcaaWNEv
import Derived.Test.YtmjmichkkmmdcaaWMore
namespace Go.Proofs.Ytmjmichkkmmdcaa.P
open Go.RowKit Go.Proofs.YtmjmichkkmmdcaaW.PrintWords Go.Proofs.YtmjmichkkmmdcaaW.PrintLast Go.Proofs.YtmjmichkkmmdcaaW.PrintMore
attribute [local go_sem] max2_int min2_int max_two min_two max_three min_three max_four min_four   -- for this text's walks alone
set_option linter.unusedVariables false
set_option linter.unusedSimpArgs false



def errW : Option Int → Value
  | none => .nilIface
  | some c => .iface 0 (.int .i64 c)
theorem errW_none : errW none = .nilIface := rfl
theorem errW_some (c : Int) : errW (some c) = .iface 0 (.int .i64 c) := rfl

theorem info5 : (Try.prog.info? 5).map (fun i => (i.zero, i.size, i.bytes)) = some (some (.int .u8 0), 1, 1) := by kernel_rfl
-- the values' own types

end Go.Proofs.Ytmjmichkkmmdcaa.P
