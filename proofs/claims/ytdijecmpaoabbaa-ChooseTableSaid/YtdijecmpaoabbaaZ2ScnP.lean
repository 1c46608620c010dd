/- The records of a flash: journal.Scan, place.Next, stage.Record, and the reference's. -/
import Derived.Test.YtdijecmpaoabbaaZ2ImgP
import Derived.Test.YtdijecmpaoabbaaZ2ScnA
import Derived.Test.YtdijecmpaoabbaaZ2Px2
import Derived.Test.YtdijecmpaoabbaaZ2Px4
set_option linter.unusedVariables false
set_option linter.unusedSimpArgs false
set_option maxHeartbeats 4000000
namespace Go.Proofs.Ytdijecmpaoabbaa
open Go.RowKit Skiff Go.Proofs.YtdijecmpaoabbaaW.PrintWords

theorem sums_small {s : ByteArray} (h : s.size ≤ 768) : sums s = some ((crcSum (bl s) : Nat) : Int) := by unfold sums; rw [if_pos (by omega)]

end Go.Proofs.Ytdijecmpaoabbaa
