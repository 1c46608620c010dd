
/- nor.Torn, Program. -/
import Derived.Test.YtclhcfnmpnhflaaNorB
set_option linter.unusedVariables false
set_option linter.unusedSimpArgs false
set_option maxHeartbeats 4000000
namespace Go.Proofs.Ytclhcfnmpnhflaa
open Go.RowKit Skiff

theorem and_byte (a b : UInt8) : bits .and .u8 (a.toNat : Int) (b.toNat : Int) = ((a &&& b).toNat : Int) := by
  have ha := a.toNat_lt
  have hb := b.toNat_lt
  have e : (BitVec.ofInt 8 (a.toNat : Int) &&& BitVec.ofInt 8 (b.toNat : Int)).toNat = (a &&& b).toNat := by
    rw [BitVec.toNat_and, BitVec.ofInt_natCast, BitVec.ofInt_natCast, BitVec.toNat_ofNat, BitVec.toNat_ofNat, Nat.mod_eq_of_lt (by omega), Nat.mod_eq_of_lt (by omega), UInt8.toNat_and]
  show IntKind.u8.wrap (((BitVec.ofInt 8 (a.toNat : Int)) &&& (BitVec.ofInt 8 (b.toNat : Int))).toNat : Int) = _
  rw [e]
  have hv := (a &&& b).toNat_lt
  generalize (a &&& b).toNat = v at hv ⊢
  simp [IntKind.wrap, IntKind.bits, IntKind.signed]
  omega

theorem take_set (T b : List UInt8) (c : Nat) (h1 : c < T.length) (h2 : c < b.length) : (T.take c ++ b.drop c).set c (T.getD c 0) = T.take (c + 1) ++ b.drop (c + 1) := by
  have hl : (T.take c).length = c := by simp; omega
  rw [List.set_append_right _ _ (by omega), hl, Nat.sub_self, List.drop_eq_getElem_cons h2, List.set_cons_zero, List.take_succ_eq_append_getElem h1, List.append_assoc, List.getD_eq_getElem?_getD, List.getElem?_eq_getElem h1]
  rfl



end Go.Proofs.Ytclhcfnmpnhflaa
