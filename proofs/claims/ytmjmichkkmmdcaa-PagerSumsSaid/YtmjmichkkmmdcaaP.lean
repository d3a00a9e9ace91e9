-- Laid by a program of this session (its own copy of a print, with functions proved by hand): checked by Lean.
import Derived.Test.YtmjmichkkmmdcaaP0
import Derived.Test.YtmjmichkkmmdcaaP1
namespace Go.Proofs.Ytmjmichkkmmdcaa.P
open Go.RowKit Go.Proofs.YtmjmichkkmmdcaaW.PrintWords Go.Proofs.YtmjmichkkmmdcaaW.PrintLast Go.Proofs.YtmjmichkkmmdcaaW.PrintMore
attribute [local go_sem] max2_int min2_int max_two min_two max_three min_three max_four min_four   -- for this text's walks alone
set_option linter.unusedVariables false
set_option linter.unusedSimpArgs false

end Go.Proofs.Ytmjmichkkmmdcaa.P
