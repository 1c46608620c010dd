/- entry.Get. -/
import Derived.Test.YtbibmdnjidmchaaEntW
set_option linter.unusedVariables false
set_option linter.unusedSimpArgs false
set_option maxHeartbeats 4000000
namespace Go.Proofs.Ytbibmdnjidmchaa
open Go.RowKit Skiff

def getRes (l : List UInt8) : Value := match Skiff.get l with
  | some r => .tuple #[recV r, .int .i64 0]
  | none => .tuple #[recV Rec.zero, .int .i64 400]
theorem getRes_some {l : List UInt8} {r : Rec} (h : Skiff.get l = some r) : getRes l = .tuple #[recV r, .int .i64 0] := by unfold getRes; rw [h]
theorem getRes_none {l : List UInt8} (h : Skiff.get l = none) : getRes l = .tuple #[recV Rec.zero, .int .i64 400] := by unfold getRes; rw [h]


end Go.Proofs.Ytbibmdnjidmchaa
