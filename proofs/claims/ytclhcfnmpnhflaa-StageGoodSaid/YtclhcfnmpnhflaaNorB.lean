
/- nor.Torn, Program, Worn, Erase. -/
import Derived.Test.YtclhcfnmpnhflaaNorA
set_option linter.unusedVariables false
set_option linter.unusedSimpArgs false
set_option maxHeartbeats 4000000
namespace Go.Proofs.Ytclhcfnmpnhflaa
open Go.RowKit Skiff



end Go.Proofs.Ytclhcfnmpnhflaa
