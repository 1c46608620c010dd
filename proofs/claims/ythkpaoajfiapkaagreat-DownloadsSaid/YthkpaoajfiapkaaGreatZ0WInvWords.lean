-- out of what the kit's print.sh wrote, without what this claim does not need
import Derived.Test.YthkpaoajfiapkaaGreatZ0WFootNe
import Derived.Test.YthkpaoajfiapkaaGreatZ0WInv
namespace Go.Proofs.YthkpaoajfiapkaaGreatW.PrintWords
open Go.RowKit
end Go.Proofs.YthkpaoajfiapkaaGreatW.PrintWords
namespace Go.Proofs.YthkpaoajfiapkaaGreatW.PrintLast
section
variable {ops : Array Oper} {a : Act} {o og : Oper} {g : Nat} {t : Tmp} {u : Bool}
end
end Go.Proofs.YthkpaoajfiapkaaGreatW.PrintLast
