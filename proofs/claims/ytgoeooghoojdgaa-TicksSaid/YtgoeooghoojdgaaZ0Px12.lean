-- written by wip/prt.py of this repo, by the kit's print, over contracts that are proved here by hand
import Derived.Test.YtgoeooghoojdgaaZ0Px0
import Derived.Test.YtgoeooghoojdgaaZ0Px5
import Derived.Test.YtgoeooghoojdgaaZ0Px6
import Derived.Test.YtgoeooghoojdgaaZ0Px7
import Derived.Test.YtgoeooghoojdgaaZ0Px8
namespace Go.Proofs.Ytgoeooghoojdgaa.P
open Go.RowKit Go.Proofs.YtgoeooghoojdgaaW.PrintWords Go.Proofs.YtgoeooghoojdgaaW.PrintLast Go.Proofs.YtgoeooghoojdgaaW.PrintMore
attribute [local go_sem] max2_int min2_int max_two min_two max_three min_three max_four min_four   -- for this text's walks alone
set_option linter.unusedVariables false
set_option linter.unusedSimpArgs false

/-! ### skifflaw18_TickIdle: function 6 -/

end Go.Proofs.Ytgoeooghoojdgaa.P
