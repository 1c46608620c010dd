-- out of what the kit's print.sh wrote, without what this claim does not need
import Derived.Test.YtdijecmpaoabbaaZ2WInv
import Derived.Test.YtdijecmpaoabbaaZ2WFootNe
namespace Go.Proofs.YtdijecmpaoabbaaW.PrintWords
open Go.RowKit
end Go.Proofs.YtdijecmpaoabbaaW.PrintWords
namespace Go.Proofs.YtdijecmpaoabbaaW.PrintLast
section
variable {ops : Array Oper} {a : Act} {o og : Oper} {g : Nat} {t : Tmp} {u : Bool}
end
end Go.Proofs.YtdijecmpaoabbaaW.PrintLast
