-- out of what the kit's print.sh wrote, without what this claim does not need
import Derived.Test.YthkpaoajfiapkaaGreatZ0WWords
/-! ### 55. Reps told from the front, no append: for rows of one-cell elements and of wider ones -/
namespace Go.Proofs.YthkpaoajfiapkaaGreatW.PrintWords
end Go.Proofs.YthkpaoajfiapkaaGreatW.PrintWords
