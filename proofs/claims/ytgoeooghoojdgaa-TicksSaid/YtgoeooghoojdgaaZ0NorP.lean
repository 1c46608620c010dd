/- Plain laws of the flash. -/
import Derived.Test.YtgoeooghoojdgaaZ0HandA
set_option linter.unusedVariables false
set_option linter.unusedSimpArgs false
set_option maxHeartbeats 4000000
namespace Skiff

end Skiff
