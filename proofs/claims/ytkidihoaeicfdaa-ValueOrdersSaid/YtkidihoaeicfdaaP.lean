-- Laid by a program of this session (its own copy of a print, with functions proved by hand): checked by Lean.
import Derived.Test.YtkidihoaeicfdaaP0
import Derived.Test.YtkidihoaeicfdaaP1
import Derived.Test.YtkidihoaeicfdaaP2
import Derived.Test.YtkidihoaeicfdaaP3
import Derived.Test.YtkidihoaeicfdaaP4
import Derived.Test.YtkidihoaeicfdaaP5
import Derived.Test.YtkidihoaeicfdaaP6
import Derived.Test.YtkidihoaeicfdaaP7
namespace Go.Proofs.Ytkidihoaeicfdaa.P
open Go.RowKit Go.Proofs.YtkidihoaeicfdaaW.PrintWords Go.Proofs.YtkidihoaeicfdaaW.PrintLast Go.Proofs.YtkidihoaeicfdaaW.PrintMore
attribute [local go_sem] max2_int min2_int max_two min_two max_three min_three max_four min_four   -- for this text's walks alone
set_option linter.unusedVariables false
set_option linter.unusedSimpArgs false

end Go.Proofs.Ytkidihoaeicfdaa.P
