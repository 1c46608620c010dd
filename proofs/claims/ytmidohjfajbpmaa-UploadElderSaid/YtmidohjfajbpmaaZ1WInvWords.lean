-- out of what the kit's print.sh wrote, without what this claim does not need
import Derived.Test.YtmidohjfajbpmaaZ1WFootNe
import Derived.Test.YtmidohjfajbpmaaZ1WInv
namespace Go.Proofs.YtmidohjfajbpmaaW.PrintWords
open Go.RowKit
end Go.Proofs.YtmidohjfajbpmaaW.PrintWords
namespace Go.Proofs.YtmidohjfajbpmaaW.PrintLast
section
variable {ops : Array Oper} {a : Act} {o og : Oper} {g : Nat} {t : Tmp} {u : Bool}
end
end Go.Proofs.YtmidohjfajbpmaaW.PrintLast
