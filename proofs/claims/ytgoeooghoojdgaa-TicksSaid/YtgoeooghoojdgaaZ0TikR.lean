/- What the laws of chapter 18 share. -/
import Derived.Test.YtgoeooghoojdgaaZ0TikP
import Derived.Test.YtgoeooghoojdgaaZ0Px6
import Derived.Test.YtgoeooghoojdgaaZ0Px7
import Derived.Test.YtgoeooghoojdgaaZ0Px8
set_option linter.unusedVariables false
set_option linter.unusedSimpArgs false
set_option maxHeartbeats 4000000
namespace Go.Proofs.Ytgoeooghoojdgaa
open Go.RowKit Skiff Go.Proofs.YtgoeooghoojdgaaW.PrintWords Go.Proofs.YtgoeooghoojdgaaW.PrintMore O

def sentT : List UInt8 := [48, 49, 50, 51, 52, 53, 54, 55, 56, 57, 97, 98, 99, 100, 101, 102, 48, 49, 50, 51, 52, 53, 54, 55, 56, 57, 97, 98, 99, 100, 101, 102]
def erase0 : List Opn := [⟨true, 192, ⟨#[]⟩⟩, ⟨true, 288, ⟨#[]⟩⟩, ⟨true, 384, ⟨#[]⟩⟩]
def sentL : List Opn := erase0 ++ wordOps 192 sentT 8
theorem sent_len : sentL.length = 11 := by unfold sentL; rw [List.length_append, wordOps_length]; rfl
theorem sent18_f : P.skifflaw18_sent.f 250 = some (1, 0, 1, 32, 0, sentL) := by kernel_rfl
theorem sent18_up : ∀ j, P.skifflaw18_sent.f (250 + j) = some (1, 0, 1, 32, 0, sentL)
  | 0 => sent18_f
  | j + 1 => P.skifflaw18_sent.mono (250 + j) _ (sent18_up j)
theorem sent18 (k : Nat) (hk : 250 ≤ k) : P.skifflaw18_sent.f k = some (1, 0, 1, 32, 0, sentL) := by
  obtain ⟨j, rfl⟩ : ∃ j, k = 250 + j := ⟨k - 250, by omega⟩
  exact sent18_up j
theorem sameDev_f (s st n g sl : Int) (l : List Opn) (k : Nat) (hl : l.length < 1000000) (hk : l.length < k) : P.skifflaw0_SameDevice.f k s st n g sl l s st n g sl l = some true := by
  unfold P.skifflaw0_SameDevice.f
  rw [if_pos rfl, if_pos rfl, if_pos rfl, if_pos rfl, if_pos rfl, same_f l hl k hk]; rfl
def abcd : List UInt8 := [97, 98, 99, 100]
theorem fl_size : (mk flash0).size = 768 := by rw [mk_size, flash0_length]
theorem okOps_all {l : List Opn} (h : opsMayB l = true) : OkOps l := fun o ho => by
  have := opMay_lt (List.all_eq_true.1 h o ho); omega
theorem awake18_f : P.skifflaw18_awake.f 300 = some true := by
  have lA : (tornF flash0 192 abcd 32).length = 768 := by rw [tornF_length _ _ _ _ (by rw [flash0_length]; omega), flash0_length]
  have lB : (tornF flash0 192 abcd 3).length = 768 := by rw [tornF_length _ _ _ _ (by rw [flash0_length]; omega), flash0_length]
  have oy : opsMayB [⟨false, 192, ⟨#[97, 98, 99, 100]⟩⟩] = true := by decide +kernel
  have os : opsMayB sentL = true := by decide +kernel
  have dy : devMayB 2 0 0 0 0 [⟨false, 192, ⟨#[97, 98, 99, 100]⟩⟩] = true := by unfold devMayB; rw [oy]; rfl
  have ds : devMayB 1 0 1 32 0 sentL = true := by unfold devMayB; rw [os, sent_len]; rfl
  have c1 : cutPair (mk flash0) false 192 ⟨#[97, 98, 99, 100]⟩ 96 = (mk (tornF flash0 192 abcd 32), 0) := by
    rw [cutPair_ok (cutMay_iff.2 ⟨fl_size, by decide +kernel, by omega⟩), bl_mk]; rfl
  have c2 : cutPair (mk flash0) false 192 ⟨#[97, 98, 99, 100]⟩ 3 = (mk (tornF flash0 192 abcd 3), 0) := by
    rw [cutPair_ok (cutMay_iff.2 ⟨fl_size, by decide +kernel, by omega⟩), bl_mk]; rfl
  have t1 : P.tick_Step.f 300 (mk flash0) 2 0 0 0 0 [⟨false, 192, ⟨#[97, 98, 99, 100]⟩⟩] = some (mk (tornF flash0 192 abcd 32), 1, 0, 0, 0, 0, [], 0) := by
    rw [step_f _ _ _ _ _ _ _ 300 (by omega) (okOps_all oy), stepTup, dy, decide_eq_true fl_size, Bool.and_self, if_pos rfl, if_pos (by rfl), stepped, c1, if_pos rfl, if_neg (by omega)]
  have t2 : P.tick_Cut.f 300 (mk flash0) 2 0 0 0 0 [⟨false, 192, ⟨#[97, 98, 99, 100]⟩⟩] 3 = some (mk (tornF flash0 192 abcd 3), 0, 0, 0, 0, 0, [], 0) := by
    rw [tcut_f _ _ _ _ _ _ _ _ 300 (by omega) (okOps_all oy), cutTup, dy, decide_eq_true fl_size, if_pos (by rfl), cutted, if_pos (by rfl), c2]
  have t3 : P.tick_Step.f 300 (mk flash0) 1 0 1 32 0 sentL = some (mk flash0, 1, 0, 1, 32, 0, sentL, 0) := by
    rw [step_f _ _ _ _ _ _ _ 300 (by omega) (okOps_all os), stepTup, ds, decide_eq_true fl_size, Bool.and_self, if_pos rfl, if_neg (by decide)]
  have t4 : P.tick_Step.f 300 ⟨#[]⟩ 2 0 0 0 0 [⟨false, 192, ⟨#[97, 98, 99, 100]⟩⟩] = some (⟨#[]⟩, 0, 0, 0, 0, 0, [], 1800) := by
    rw [step_f _ _ _ _ _ _ _ 300 (by omega) (okOps_all oy), stepTup, if_neg (by decide)]
  have x1 : ((mk (tornF flash0 192 abcd 32)).extract 192 196).toList = [97, 98, 99, 100] := by
    rw [toList_bl, bl_extract, bl_mk]; decide +kernel
  have x2 : bt (mk (tornF flash0 192 abcd 3)) 192 = 249 := by
    rw [show (192 : Int) = ((192 : Nat) : Int) from rfl, bt_bl _ _ (by rw [mk_size, lB]; omega), bl_mk]; decide +kernel
  have s1 := sent18 300 (by omega)
  have s2 := sent18 299 (by omega)
  have d1 := sameDev_f 0 0 0 0 0 [] 299 (by simp) (by simp)
  have d2 := sameDev_f 1 0 1 32 0 sentL 299 (by rw [sent_len]; omega) (by rw [sent_len]; omega)
  have zA : (mk (tornF flash0 192 abcd 32)).size = 768 := by rw [mk_size, lA]
  have zB : (mk (tornF flash0 192 abcd 3)).size = 768 := by rw [mk_size, lB]
  generalize mk (tornF flash0 192 abcd 32) = A at *
  generalize mk (tornF flash0 192 abcd 3) = B at *
  clear c1 c2 os ds oy dy lA lB
  generalize sentL = L at *
  unfold P.skifflaw18_awake.f
  rw [P.skiffref1_Blank.f, Option.bind_some, Option.bind_some]
  generalize mk flash0 = F at *
  rw [t1, Option.bind_some, t2, Option.bind_some, s1, Option.bind_some]
  dsimp only
  rw [t3, Option.bind_some, t4, Option.bind_some]
  dsimp only
  rw [zA, if_pos (by rfl), zB]
  show P.skifflaw18_awake.j0 (299 + 1) F A 0 B 0 F 0 1800 false 1 0 0 0 0 [] 0 0 0 0 0 [] 1 0 1 32 0 L = some true
  rw [P.skifflaw18_awake.j0, if_neg Bool.false_ne_true, if_pos (by decide), zA, if_pos (by decide), if_pos x1, if_pos rfl, if_pos (by rfl)]
  unfold P.skifflaw0_Num.f
  simp only [Option.bind_some, if_true]
  rw [zB, if_pos (by decide), if_pos x2, d1, Option.bind_some, if_pos rfl, s2, Option.bind_some]
  dsimp only
  rw [d2]
  rfl

end Go.Proofs.Ytgoeooghoojdgaa
