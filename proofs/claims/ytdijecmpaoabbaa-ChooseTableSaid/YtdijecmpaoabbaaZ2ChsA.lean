/- The laws' own look: awake, held. -/
import Derived.Test.YtdijecmpaoabbaaZ2ActP
import Derived.Test.YtdijecmpaoabbaaZ2Px5
set_option linter.unusedVariables false
set_option linter.unusedSimpArgs false
set_option maxHeartbeats 4000000
namespace Go.Proofs.Ytdijecmpaoabbaa
open Go.RowKit Skiff Go.Proofs.YtdijecmpaoabbaaW.PrintWords

theorem awake7_f : P.skifflaw7_awake.f 300 = some true := by kernel_rfl

end Go.Proofs.Ytdijecmpaoabbaa
