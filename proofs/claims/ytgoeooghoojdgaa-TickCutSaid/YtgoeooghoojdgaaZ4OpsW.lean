/- Words written, steps done again, steps apart: plain laws. -/
import Derived.Test.YtgoeooghoojdgaaZ4OpsP
set_option linter.unusedVariables false
set_option linter.unusedSimpArgs false
set_option maxHeartbeats 4000000
namespace Go.Proofs.Ytgoeooghoojdgaa.O
open Go.RowKit Skiff Go.Proofs.YtgoeooghoojdgaaW.PrintWords Go.Proofs.YtgoeooghoojdgaaW.PrintMore

theorem bt_bl (s : ByteArray) (i : Nat) (h : i < s.size) : bt s (i : Int) = (((bl s).getD i 0).toNat : Int) := by
  unfold bt
  rw [dif_pos (by rw [Int.toNat_natCast]; exact h)]
  simp only [Int.toNat_natCast]
  rw [List.getD_eq_getElem?_getD, List.getElem?_eq_getElem (by rw [bl_length]; exact h)]
  simp [bl]; rfl
theorem wf_lt {a : Int} (h : (Lit.int .i64 a).wf = true) : -9223372036854775808 ≤ a ∧ a < 9223372036854775808 := by
  simp [Lit.wf, IntKind.min, IntKind.max, IntKind.bits, IntKind.signed] at h; omega
theorem opF_at (l : List UInt8) (e : Bool) (a : Int) (t : List UInt8) (c i : Nat) (hl : l.length = 768) (hm : opMay e a t = true) (hc : c ≤ 96) :
    (opF l e a t c).getD i 0 = if e = true then (if a.toNat ≤ i ∧ i < a.toNat + c then 255 else l.getD i 0) else (if a.toNat ≤ i ∧ i < a.toNat + 4 then tornB (l.getD i 0) (t.getD (i - a.toNat) 0) (min c 32 - 8 * (i - a.toNat)) else l.getD i 0) := by
  unfold opF
  cases e
  · have h := opMay_false.1 hm
    rw [if_neg Bool.false_ne_true, if_neg Bool.false_ne_true, tornF_at _ _ _ _ _ (by omega) (by omega)]
  · have h := opMay_true.1 hm
    rw [if_pos rfl, if_pos rfl, wornF_at _ _ _ _ (by omega)]

end Go.Proofs.Ytgoeooghoojdgaa.O
