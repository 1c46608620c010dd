-- out of what the kit's print.sh wrote, without what this claim does not need
import Derived.Test.YthkpaoajfiapkaaGreatZ0WN
/-! ### 52. A row that stays read whatever happens to a block (a set of blocks) doesn't lie there -/
namespace Go.Proofs.YthkpaoajfiapkaaGreatW.PrintWords
open Go.RowKit
namespace Kd
section
variable {α : Type} {d : Kd α} {W : World} {g n : Nat} {S ok : Nat → Prop} {A : Option Addr} {ad : Addr} {xs : List α}
end
end Kd
end Go.Proofs.YthkpaoajfiapkaaGreatW.PrintWords
