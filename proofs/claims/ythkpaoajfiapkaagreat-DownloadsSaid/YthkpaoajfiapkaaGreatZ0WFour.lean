-- out of what the kit's print.sh wrote, without what this claim does not need
import Derived.Test.YthkpaoajfiapkaaGreatZ0WTab
/-! ### 56. Four, five, six operations that may come up next, in any order -/
namespace Go.Proofs.YthkpaoajfiapkaaGreatW.PrintLast
section
variable {P : Program} {ops : Array Oper} {Q : Exit → Act → World → Prop} {md : Region.Mode} {S : World → Prop} {ds : List Nat} {T : Bool × List (List Nat × List Nat)}
end
end Go.Proofs.YthkpaoajfiapkaaGreatW.PrintLast
