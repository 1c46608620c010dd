-- out of what the kit's print.sh wrote, without what this claim does not need
import Derived.Test.YtgoeooghoojdgaaZ2WInv
import Derived.Test.YtgoeooghoojdgaaZ2WFootNe
namespace Go.Proofs.YtgoeooghoojdgaaW.PrintWords
open Go.RowKit
end Go.Proofs.YtgoeooghoojdgaaW.PrintWords
namespace Go.Proofs.YtgoeooghoojdgaaW.PrintLast
section
variable {ops : Array Oper} {a : Act} {o og : Oper} {g : Nat} {t : Tmp} {u : Bool}
end
end Go.Proofs.YtgoeooghoojdgaaW.PrintLast
