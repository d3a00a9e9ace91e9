-- Laid by a program of this session (its own copy of a print, with functions proved by hand): checked by Lean.
import Derived.Test.YtbdoennkalnkcaaP0
import Derived.Test.YtbdoennkalnkcaaP1
import Derived.Test.YtbdoennkalnkcaaP2
import Derived.Test.YtbdoennkalnkcaaP3
import Derived.Test.YtbdoennkalnkcaaP4
import Derived.Test.YtbdoennkalnkcaaP5
import Derived.Test.YtbdoennkalnkcaaP6
import Derived.Test.YtbdoennkalnkcaaP7
namespace Go.Proofs.Ytbdoennkalnkcaa.P
open Go.RowKit Go.Proofs.YtbdoennkalnkcaaW.PrintWords Go.Proofs.YtbdoennkalnkcaaW.PrintLast Go.Proofs.YtbdoennkalnkcaaW.PrintMore
attribute [local go_sem] max2_int min2_int max_two min_two max_three min_three max_four min_four   -- for this text's walks alone
set_option linter.unusedVariables false
set_option linter.unusedSimpArgs false

end Go.Proofs.Ytbdoennkalnkcaa.P
