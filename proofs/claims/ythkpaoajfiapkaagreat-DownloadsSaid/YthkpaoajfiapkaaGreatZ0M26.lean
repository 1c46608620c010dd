/- Texts of this claim, laid together. -/
import Derived.Deep.SlicePairs
import Derived.Laws.OwnMore
import Derived.Lib.SmallJoins
import Derived.SizedLaws
import Derived.Test.YthkpaoajfiapkaaGreatZ0M22
import Derived.Test.YthkpaoajfiapkaaGreatZ0M23
import Derived.Test.YthkpaoajfiapkaaGreatZ0M24
import Derived.Test.YthkpaoajfiapkaaGreatZ0M25
import Derived.Test.YthkpaoajfiapkaaGreatZ0WMore
import Derived.Test.YthkpaoajfiapkaaGreatZ0WWords
import Derived.WideLaws
section
set_option linter.unusedVariables false
set_option linter.unusedSimpArgs false
set_option maxHeartbeats 4000000
namespace Go.Proofs.YthkpaoajfiapkaaGreat.O
open Go.RowKit Skiff Go.Proofs.YthkpaoajfiapkaaGreatW.PrintWords Go.Proofs.YthkpaoajfiapkaaGreatW.PrintMore

/-- All places of steps are numbers that an int bears. -/
def OkOps (l : List Opn) : Prop := ∀ o ∈ l, o.f1 < 9223372036854775808
def opsMayB (l : List Opn) : Bool := l.all fun o => opMay o.f0 o.f1 (bl o.f2)
def devMayB (s st n g sl : Int) (l : List Opn) : Bool := within s 0 7 && (within st 0 6 && (within n 0 16 && (within g 0 288 && (within sl 0 1 && (decide (l.length ≤ 768) && opsMayB l)))))
theorem any_odd {l : List Opn} (h : OkOps l) : (l.any fun o => !((P.ops_May.f o.f0 o.f1 o.f2).getD true)) = !opsMayB l := by
  induction l with
  | nil => rfl
  | cons o l ih =>
    have h1 := opsMay_f o.f0 o.f1 o.f2 (h o (List.mem_cons_self ..))
    rw [List.any_cons, ih (fun p hp => h p (List.mem_cons_of_mem _ hp)), h1]
    unfold opsMayB
    rw [List.all_cons, Option.getD_some, Bool.not_and]
theorem in_f (x a b : Int) : P.entry_in.f x a b = some (within x a b) := by
  unfold P.entry_in.f within
  by_cases h : a ≤ x
  · rw [if_pos h, decide_eq_true h]; rfl
  · rw [if_neg h, decide_eq_false h]; rfl
theorem state_f (x : Int) : P.answer_State.f x = some (within x 0 7) := by
  unfold P.answer_State.f within
  by_cases h : 0 ≤ x
  · rw [if_pos h, decide_eq_true h]; rfl
  · rw [if_neg h, decide_eq_false h]; rfl
theorem status_f (x : Int) : P.answer_Status.f x = some (within x 0 6) := by
  unfold P.answer_Status.f within
  by_cases h : 0 ≤ x
  · rw [if_pos h, decide_eq_true h]; rfl
  · rw [if_neg h, decide_eq_false h]; rfl
theorem contains_f (l : List Opn) (h : OkOps l) (hl : l.length ≤ 768) : P.slices_ContainsFunc_Op.f l = some (!opsMayB l) := by
  unfold P.slices_ContainsFunc_Op.f
  rw [if_pos (by omega), any_odd h]
theorem devMay_f (s st n g sl : Int) (l : List Opn) (h : OkOps l) : P.device_May.f s st n g sl l = some (devMayB s st n g sl l) := by
  unfold P.device_May.f devMayB P.entry_Size.f P.entry_Slot.f
  rw [state_f, status_f, in_f, in_f, Option.bind_some, Option.bind_some]
  cases within s 0 7
  · rfl
  rw [if_pos rfl]
  cases within st 0 6
  · rfl
  rw [if_pos rfl, Bool.true_and, Bool.true_and]
  by_cases h1 : n ≥ 0
  case neg =>
    rw [if_neg h1, show within n 0 16 = false by unfold within; rw [decide_eq_false (by omega : ¬ 0 ≤ n)]; rfl]; rfl
  rw [if_pos h1]
  by_cases h2 : n ≤ 16
  case neg =>
    rw [if_neg h2, show within n 0 16 = false by unfold within; rw [decide_eq_false (by omega : ¬ n ≤ 16), Bool.and_false]]; rfl
  rw [if_pos h2, Skiff.within_iff.2 (by omega : (0 : Int) ≤ n ∧ n ≤ 16), Bool.true_and]
  have key : ∀ b : Bool, ((some (within sl 0 1)).bind fun t => if t = true then (if (l.length : Int) ≤ 768 then (P.slices_ContainsFunc_Op.f l).bind fun t => some (!t) else some false) else some false) = some (within sl 0 1 && (decide (l.length ≤ 768) && opsMayB l)) := by
    intro _
    rw [Option.bind_some]
    cases within sl 0 1
    · rfl
    rw [if_pos rfl, Bool.true_and]
    by_cases h4 : l.length ≤ 768
    · rw [if_pos (by omega), decide_eq_true h4, contains_f l h h4, Option.bind_some, Bool.not_not, Bool.true_and]
    · rw [if_neg (by omega), decide_eq_false h4]; rfl
  by_cases h3 : g = 0
  · rw [if_pos h3, Skiff.within_iff.2 (by omega : (0 : Int) ≤ g ∧ g ≤ 288), Bool.true_and]
    exact key true
  · rw [if_neg h3, Option.bind_some]
    have e : within g 1 288 = within g 0 288 := by unfold within; rw [Bool.eq_iff_iff]; simp; omega
    rw [e]
    cases within g 0 288
    · rfl
    rw [Bool.true_and]
    exact key true
theorem copy_f (s st n g sl : Int) (l : List Opn) (h : l.length ≤ 768) : P.device_Copy.f s st n g sl l = some (s, st, n, g, sl, l) := by
  unfold P.device_Copy.f P.slices_Clone_Op.f
  rw [if_pos (by omega)]; rfl

theorem same_big0 (l : List Opn) (hl : l.length < 9223372036854775807) (d : Nat) : ∀ (k i : Nat), i + d = l.length → d < k → P.skifflaw0_SameOps.l0 k l l (i : Int) = some true := by
  induction d with
  | zero =>
    intro k i h1 h2
    obtain ⟨k, rfl⟩ : ∃ m, k = m + 1 := ⟨k - 1, by omega⟩
    rw [P.skifflaw0_SameOps.l0, if_neg (by omega)]
  | succ d ih =>
    intro k i h1 h2
    obtain ⟨k, rfl⟩ : ∃ m, k = m + 1 := ⟨k - 1, by omega⟩
    have e2 : wrap64 ((i : Int) + 1) = ((i + 1 : Nat) : Int) := by simp only [wrap64]; omega
    have hr := ih k (i + 1) (by omega) (by omega)
    rw [P.skifflaw0_SameOps.l0, if_pos (by omega), if_pos (by omega), if_pos (by omega), e2, hr]
    simp
theorem sameDev_big (s st n g sl : Int) (l : List Opn) (k : Nat) (hl : l.length < 9223372036854775807) (hk : l.length < k) : P.skifflaw0_SameDevice.f k s st n g sl l s st n g sl l = some true := by
  unfold P.skifflaw0_SameDevice.f P.skifflaw0_SameOps.f
  rw [if_pos rfl, if_pos rfl, if_pos rfl, if_pos rfl, if_pos rfl, if_pos rfl, show (0 : Int) = ((0 : Nat) : Int) from rfl, same_big0 l hl l.length k 0 (by omega) hk]; rfl
theorem rstate_f (x : Int) : P.skiffref1_StateMay.f x = some (within x 0 7) := by unfold P.skiffref1_StateMay.f; rw [upTo_f]; rfl
theorem rstatus_f (x : Int) : P.skiffref1_StatusMay.f x = some (within x 0 6) := by unfold P.skiffref1_StatusMay.f; rw [upTo_f]; rfl
theorem rupTo_f (x a b : Int) : P.skiffref16_upTo.f x a b = some (within x a b) := by
  unfold P.skiffref16_upTo.f within
  by_cases h : a ≤ x
  · rw [if_pos h, decide_eq_true h]; rfl
  · rw [if_neg h, decide_eq_false h]; rfl
theorem rdev_l0 (s st n g sl : Int) (l : List Opn) (hl : l.length ≤ 9223372036854775807) (d : Nat) : ∀ (k i : Nat), i + d = l.length → d < k → P.skiffref16_DeviceMay.l0 k (i : Int) s st n g sl l = some (opsMayB (l.drop i) && (within s 0 7 && (within st 0 6 && (within n 0 16 && (within g 0 288 && (within sl 0 1 && decide (l.length ≤ 768))))))) := by
  induction d with
  | zero =>
    intro k i h1 h2
    obtain ⟨k, rfl⟩ : ∃ m, k = m + 1 := ⟨k - 1, by omega⟩
    have e : decide ((l.length : Int) ≤ 768) = decide (l.length ≤ 768) := by rw [Bool.eq_iff_iff]; simp; omega
    rw [P.skiffref16_DeviceMay.l0, if_neg (by omega), List.drop_of_length_le (by omega), rstate_f, rstatus_f, rupTo_f, rupTo_f, rupTo_f, e]
    show _ = some (true && _)
    rw [Bool.true_and]
    simp only [Option.bind_some]
    cases within s 0 7 <;> cases within st 0 6 <;> cases within n 0 16 <;> cases within g 0 288 <;> cases within sl 0 1 <;> rfl
  | succ d ih =>
    intro k i h1 h2
    obtain ⟨k, rfl⟩ : ∃ m, k = m + 1 := ⟨k - 1, by omega⟩
    have e2 : wrap64 ((i : Int) + 1) = ((i + 1 : Nat) : Int) := by simp only [wrap64]; omega
    have hd := List.drop_eq_getElem_cons (show i < l.length by omega)
    rw [P.skiffref16_DeviceMay.l0, if_pos (by omega), if_pos (by omega), rd_at l i (by omega), ropMay_f, Option.bind_some, e2, ih k (i + 1) (by omega) (by omega), hd]
    have e3 : opsMayB (l[i]'(by omega) :: l.drop (i + 1)) = (opMay (l[i]'(by omega)).f0 (l[i]'(by omega)).f1 (bl (l[i]'(by omega)).f2) && opsMayB (l.drop (i + 1))) := rfl
    rw [e3]
    cases opMay (l[i]'(by omega)).f0 (l[i]'(by omega)).f1 (bl (l[i]'(by omega)).f2)
    · rfl
    · rfl
theorem rdevMay_f (s st n g sl : Int) (l : List Opn) (k : Nat) (hl : l.length ≤ 9223372036854775807) (hk : l.length < k) : P.skiffref16_DeviceMay.f k s st n g sl l = some (devMayB s st n g sl l) := by
  unfold P.skiffref16_DeviceMay.f
  have h := rdev_l0 s st n g sl l hl l.length k 0 (by omega) hk
  rw [List.drop_zero] at h
  rw [show ((0 : Nat) : Int) = 0 from rfl] at h
  rw [h]
  unfold devMayB
  congr 1
  cases opsMayB l <;> cases within s 0 7 <;> cases within st 0 6 <;> cases within n 0 16 <;> cases within g 0 288 <;> cases within sl 0 1 <;> cases decide (l.length ≤ 768) <;> rfl

theorem both_f (f : ByteArray) (s st n g sl : Int) (l : List Opn) (k : Nat) (hl : l.length ≤ 9223372036854775807) (hk : l.length < k) : P.skiffref16_both.f k f s st n g sl l = some (decide (f.size = 768) && devMayB s st n g sl l) := by
  unfold P.skiffref16_both.f
  rw [flashMay_f, Option.bind_some, rdevMay_f s st n g sl l k hl hk]
  cases decide (f.size = 768) <;> rfl
theorem rcopy_f (s st n g sl : Int) (l : List Opn) (hl : l.length < 4398046511104) : P.skiffref16_copyDevice.f s st n g sl l = some (s, st, n, g, sl, l) := by
  unfold P.skiffref16_copyDevice.f
  rw [Option.bind_some, if_pos (by simpa using hl)]; rfl
theorem lcopy_f (s st n g sl : Int) (l : List Opn) (hl : l.length < 4398046511104) : P.skifflaw0_CopyDevice.f s st n g sl l = some (s, st, n, g, sl, l) := by
  unfold P.skifflaw0_CopyDevice.f
  rw [Option.bind_some, if_pos (by simpa using hl)]; rfl
theorem ok_of_wf {l : List Opn} (h : ∀ o ∈ l, (Lit.int .i64 o.f1).wf = true) : OkOps l := fun o ho => (wf_lt (h o ho)).2
theorem okOps_all {l : List Opn} (h : opsMayB l = true) : OkOps l := fun o ho => by
  have := opMay_lt (List.all_eq_true.1 h o ho); omega
theorem fl_size : (mk flash0).size = 768 := by rw [mk_size, flash0_length]

end Go.Proofs.YthkpaoajfiapkaaGreat.O
end
section
set_option linter.unusedVariables false
set_option linter.unusedSimpArgs false
set_option maxHeartbeats 4000000
namespace Go.Proofs.YthkpaoajfiapkaaGreat
open Go.RowKit Skiff Go.Proofs.YthkpaoajfiapkaaGreatW.PrintWords O

def eraseOp (s : Int) (i : Nat) : Opn := ⟨true, 192 + 288 * s + 96 * (i : Int), ⟨#[]⟩⟩
def eraseOps (s : Int) : List Opn := [eraseOp s 0, eraseOp s 1, eraseOp s 2]
def erasePair (s : Int) : List Opn × Int := if within s 0 1 = true then (eraseOps s, 0) else ([], 900)
theorem erases_step (s : Int) (hs : 0 ≤ s ∧ s ≤ 1) (acc : List Opn) (i k : Nat) (hi : i < 3) (hl : acc.length < 1000) : P.stage_Erases.l0 (k + 1) s acc (i : Int) = P.stage_Erases.l0 k s (acc ++ [eraseOp s i]) ((i + 1 : Nat) : Int) := by
  have e1 : wrap64 ((wrap64 (wrap64 (2 + wrap64 (3 * s)) + (i : Int))) * 96) = 192 + 288 * s + 96 * (i : Int) := by simp only [wrap64]; omega
  have e2 : wrap64 ((i : Int) + 1) = ((i + 1 : Nat) : Int) := by simp only [wrap64]; omega
  simp only [P.stage_Erases.l0, P.image_Sector.f, P.journal_Begin.f, Option.bind_some]
  rw [if_pos (by omega), e1, if_pos (by omega), e2]
  rfl
theorem erases_f (s : Int) (k : Nat) (hk : 4 < k) : P.stage_Erases.f k s = some (erasePair s) := by
  unfold P.stage_Erases.f erasePair
  rw [slot_f]
  simp only [Option.bind_some]
  cases h : within s 0 1
  · rfl
  · have hs := Skiff.within_iff.1 h
    obtain ⟨k, rfl⟩ : ∃ m, k = m + 1 + 1 + 1 + 1 := ⟨k - 4, by omega⟩
    have h0 := erases_step s hs [] 0 (k + 1 + 1 + 1) (by omega) (by simp)
    have h1 := erases_step s hs [eraseOp s 0] 1 (k + 1 + 1) (by omega) (by simp)
    have h2 := erases_step s hs [eraseOp s 0, eraseOp s 1] 2 (k + 1) (by omega) (by simp)
    simp only [if_true]
    refine (h0.trans (h1.trans h2)).trans ?_
    simp only [P.stage_Erases.l0]
    rw [if_neg (by omega)]
    rfl
theorem rerases_step (s : Int) (hs : 0 ≤ s ∧ s ≤ 1) (acc : List Opn) (i k : Nat) (hi : i < 3) (hl : acc.length < 1000) : P.skiffref1_Erases.l0 (k + 1) (192 + 288 * s) acc (i : Int) = P.skiffref1_Erases.l0 k (192 + 288 * s) (acc ++ [eraseOp s i]) ((i + 1 : Nat) : Int) := by
  have e1 : wrap64 (192 + 288 * s + wrap64 ((i : Int) * 96)) = 192 + 288 * s + 96 * (i : Int) := by simp only [wrap64]; omega
  have e2 : wrap64 ((i : Int) + 1) = ((i + 1 : Nat) : Int) := by simp only [wrap64]; omega
  simp only [P.skiffref1_Erases.l0]
  rw [if_pos (by omega), if_pos (by omega), e1, e2]
  rfl
theorem rerases_f (s : Int) (k : Nat) (hk : 4 < k) : P.skiffref1_Erases.f k s = some (erasePair s) := by
  unfold P.skiffref1_Erases.f erasePair
  rw [rbase_f]
  simp only [Option.bind_some]
  unfold baseOf
  cases h : within s 0 1
  · rfl
  · have hs := Skiff.within_iff.1 h
    obtain ⟨k, rfl⟩ : ∃ m, k = m + 1 + 1 + 1 + 1 := ⟨k - 4, by omega⟩
    have h0 := rerases_step s hs [] 0 (k + 1 + 1 + 1) (by omega) (by simp)
    have h1 := rerases_step s hs [eraseOp s 0] 1 (k + 1 + 1) (by omega) (by simp)
    have h2 := rerases_step s hs [eraseOp s 0, eraseOp s 1] 2 (k + 1) (by omega) (by simp)
    simp only [if_true]
    refine (h0.trans (h1.trans h2)).trans ?_
    simp only [P.skiffref1_Erases.l0]
    rw [if_neg (by omega)]
    rfl

end Go.Proofs.YthkpaoajfiapkaaGreat
end
section
set_option linter.unusedVariables false
set_option linter.unusedSimpArgs false
set_option maxHeartbeats 4000000
namespace Go.Proofs.YthkpaoajfiapkaaGreat
open Go.RowKit Skiff Go.Proofs.YthkpaoajfiapkaaGreatW.PrintWords Go.Proofs.YthkpaoajfiapkaaGreatW.PrintMore O

abbrev DwnT := Int × Int × Int × Int × Int × List Opn × Int
abbrev DevT := Int × Int × Int × Int × Int × List Opn
def dwnMay (f : ByteArray) (s st n g sl : Int) (l : List Opn) (b z : Int) : Bool := decide (f.size = 768) && (devMayB s st n g sl l && ((s == 0 || s == 3) && (within b 0 65535 && within z 0 32)))
def wordsAt (a : Int) (data : ByteArray) : List Opn := wordOps a (bl data) (manyL (bl data))
def failedT (x : Int) : DevT := (7, x, 0, 0, 0, [])
def otherOf (f : ByteArray) : Int := (othOf (best f)).1
def beginT (f : ByteArray) (st b : Int) (data : ByteArray) : DevT :=
  if data.size = 0 then failedT 5 else if b = 0 then (1, st, 1, (data.size : Int), otherOf f, eraseOps (otherOf f) ++ wordsAt (192 + 288 * otherOf f) data) else failedT 4
def moreT (st n g sl : Int) (l : List Opn) (b : Int) (data : ByteArray) : DevT :=
  if b = n - 1 then (1, st, n, g, sl, l) else if b = n then (if data.size = 0 then (4, st, n, g, sl, l) else if g % 32 = 0 ∧ g + (data.size : Int) ≤ 288 ∧ n ≠ 16 then (1, st, n + 1, g + (data.size : Int), sl, wordsAt (192 + 288 * sl + g) data) else failedT 4) else failedT 4
def dwnDev (f : ByteArray) (s st n g sl : Int) (l : List Opn) (b : Int) (data : ByteArray) : DevT := if s = 0 then beginT f st b data else moreT st n g sl l b data
def withE (d : DevT) (e : Int) : DwnT := (d.1, d.2.1, d.2.2.1, d.2.2.2.1, d.2.2.2.2.1, d.2.2.2.2.2, e)
def dwnTup (f : ByteArray) (s st n g sl : Int) (l : List Opn) (b : Int) (data : ByteArray) : DwnT :=
  if dwnMay f s st n g sl l b (data.size : Int) = true then withE (dwnDev f s st n g sl l b data) 0 else (0, 0, 0, 0, 0, [], 1700)
theorem dvalue_f (x : Int) : P.setup_Value.f x = some (within x 0 65535) := by
  unfold P.setup_Value.f within
  by_cases h : 0 ≤ x
  · rw [if_pos h, decide_eq_true h]; rfl
  · rw [if_neg h, decide_eq_false h]; rfl
theorem dlength_f (x : Int) : P.setup_Length.f x = some (within x 0 32) := by
  unfold P.setup_Length.f within
  by_cases h : 0 ≤ x
  · rw [if_pos h, decide_eq_true h]; rfl
  · rw [if_neg h, decide_eq_false h]; rfl
theorem dfailed_f (x : Int) : P.device_Failed.f x = some (failedT x) := by
  unfold P.device_Failed.f P.device_New.f; rfl
theorem empty_iff (t : ByteArray) : t.toList = ([] : List UInt8) ↔ t.size = 0 := by
  rw [toList_bl, ← List.length_eq_zero_iff, bl_length]
theorem othOf_range (f : ByteArray) : 0 ≤ otherOf f ∧ otherOf f ≤ 1 := by
  unfold otherOf othOf
  cases h : best f with
  | none => exact ⟨by show (0 : Int) ≤ 0; omega, by show (0 : Int) ≤ 1; omega⟩
  | some p =>
    have := best_slot f (some p) h p rfl
    show 0 ≤ 1 - p.f1.f1 ∧ 1 - p.f1.f1 ≤ 1
    omega
theorem wordsMay_ok {a : Int} {t : ByteArray} (h0 : 0 ≤ a) (h1 : a % 4 = 0) (h2 : a + (t.size : Int) ≤ 768) : wordsMay a (bl t) = true := by
  unfold wordsMay
  rw [Skiff.within_iff.2 (by omega), decide_eq_true h1, bl_length, decide_eq_true (by omega)]; rfl
theorem dwords_f (sl a : Int) (data : ByteArray) (k : Nat) (hk : 194 < k) (hs : 0 ≤ sl ∧ sl ≤ 1) (ha : 0 ≤ a) (h4 : a % 4 = 0) (hz : a + (data.size : Int) ≤ 288) : P.download_words.f k sl a data = some (wordsAt (192 + 288 * sl + a) data) := by
  have e : wrap64 (192 + 288 * sl + a) = 192 + 288 * sl + a := by simp only [wrap64]; omega
  unfold P.download_words.f
  rw [base_f, baseOf, if_pos (Skiff.within_iff.2 hs), Option.bind_some]
  dsimp only
  rw [e, words_f _ _ k hk (by omega), Option.bind_some, wordsPair, if_pos (wordsMay_ok (by omega) (by omega) (by omega))]
  rfl
theorem wordsAt_len (a : Int) (data : ByteArray) (h : data.size ≤ 32) : (wordsAt a data).length ≤ 8 := by
  unfold wordsAt
  rw [wordOps_length, manyL, bl_length]; omega
theorem begin_f (f : ByteArray) (hf : f.size = 768) (s st n g sl : Int) (l : List Opn) (hl : l.length ≤ 768) (b : Int) (data : ByteArray) (hd : data.size ≤ 32) (k : Nat) (hk : 194 < k) : P.download_begin.f k f s st n g sl l b data = some (beginT f st b data) := by
  unfold P.download_begin.f beginT
  by_cases h0 : data.size = 0
  · rw [if_pos ((empty_iff data).2 h0), if_pos h0, dfailed_f]; rfl
  · rw [if_neg (fun h => h0 ((empty_iff data).1 h)), if_neg h0]
    by_cases hb : b = 0
    · have ho := othOf_range f
      rw [if_pos hb, if_pos hb, copy_f _ _ _ _ _ _ hl, Option.bind_some, other_f, otherPair, if_pos hf, Option.bind_some]
      show ((P.stage_Erases.f k (otherOf f)).bind fun bt217 => ((P.download_words.f k (otherOf f) 0 data).bind fun t221 => _)) = _
      rw [erases_f _ k (by omega), erasePair, if_pos (Skiff.within_iff.2 ho), Option.bind_some, dwords_f _ 0 data k hk ho (by omega) (by omega) (by omega), Option.bind_some, Int.add_zero]
      have hw := wordsAt_len (192 + 288 * otherOf f) data hd
      have he : (eraseOps (otherOf f)).length = 3 := rfl
      dsimp only
      rw [if_pos (by omega)]; rfl
    · rw [if_neg hb, if_neg hb, dfailed_f]; rfl
theorem more_f (s st n g sl : Int) (l : List Opn) (hl : l.length ≤ 768) (hn : 0 ≤ n ∧ n ≤ 16) (hg : 0 ≤ g ∧ g ≤ 288) (hs : 0 ≤ sl ∧ sl ≤ 1) (b : Int) (data : ByteArray) (hd : data.size ≤ 32) (k : Nat) (hk : 195 < k) : P.download_more.f k s st n g sl l b data = some (moreT st n g sl l b data) := by
  obtain ⟨k, rfl⟩ : ∃ m, k = m + 1 := ⟨k - 1, by omega⟩
  have e1 : wrap64 (n - 1) = n - 1 := by simp only [wrap64]; omega
  have e2 : wrap64 (g + (data.size : Int)) = g + (data.size : Int) := by simp only [wrap64]; omega
  have e3 : wrap64 (n + 1) = n + 1 := by simp only [wrap64]; omega
  have e4 : Int.tmod g 32 = g % 32 := Int.tmod_eq_emod_of_nonneg hg.1
  have jt : ∀ a c d e h i j m o p q r, P.download_more.j0 (k + 1) data true a c d e h i j m o p q r = some (failedT 4) := by
    intro a c d e h i j m o p q r
    rw [P.download_more.j0, if_pos rfl, dfailed_f]; rfl
  unfold P.download_more.f moreT
  rw [copy_f _ _ _ _ _ _ hl, Option.bind_some, e1]
  by_cases h1 : b = n - 1
  · rw [if_pos h1, if_pos h1]
  rw [if_neg h1, if_neg h1]
  by_cases h2 : b = n
  case neg => rw [if_neg h2, if_neg h2, dfailed_f]; rfl
  rw [if_pos h2, if_pos h2]
  by_cases h3 : data.size = 0
  · rw [if_pos ((empty_iff data).2 h3), if_pos h3]
  rw [if_neg (fun h => h3 ((empty_iff data).1 h)), if_neg h3, e4, e2]
  by_cases h4 : g % 32 = 0
  case neg => rw [if_neg h4, if_neg (fun h => h4 h.1), jt]
  rw [if_pos h4]
  by_cases h5 : g + (data.size : Int) > 288
  · rw [if_pos h5, if_neg (fun h => by omega), jt]
  rw [if_neg h5]
  by_cases h6 : n = 16
  · rw [beq_iff_eq.2 h6, if_neg (fun h => h.2.2 h6), jt]
  rw [beq_eq_false_iff_ne.2 h6, if_pos ⟨h4, by omega, h6⟩, P.download_more.j0, if_neg Bool.false_ne_true, dwords_f sl g data k (by omega) hs hg.1 (by omega) (by omega), Option.bind_some, e2, e3]
theorem dmayB_parts {s st n g sl : Int} {l : List Opn} (h : devMayB s st n g sl l = true) : (0 ≤ s ∧ s ≤ 7) ∧ (0 ≤ st ∧ st ≤ 6) ∧ (0 ≤ n ∧ n ≤ 16) ∧ (0 ≤ g ∧ g ≤ 288) ∧ (0 ≤ sl ∧ sl ≤ 1) ∧ l.length ≤ 768 ∧ opsMayB l = true := by
  unfold devMayB at h
  simp only [Bool.and_eq_true, Skiff.within_iff, decide_eq_true_iff] at h
  exact ⟨h.1, h.2.1, h.2.2.1, h.2.2.2.1, h.2.2.2.2.1, h.2.2.2.2.2.1, h.2.2.2.2.2.2⟩
theorem take_j0 (f : ByteArray) (s st n g sl : Int) (l : List Opn) (b : Int) (data : ByteArray) (k : Nat) (hk : 195 < k) (x : Bool) (hx : x = !(dwnMay f s st n g sl l b (data.size : Int))) : P.download_Take.j0 (k + 1) f b data x s st n g sl l = some (dwnTup f s st n g sl l b data) := by
  subst hx
  rw [P.download_Take.j0]
  unfold dwnTup
  cases hm : dwnMay f s st n g sl l b (data.size : Int)
  · rfl
  unfold dwnMay at hm
  simp only [Bool.and_eq_true, decide_eq_true_iff, Skiff.within_iff, Bool.or_eq_true, beq_iff_eq] at hm
  obtain ⟨hf, hd, hs, hb, hz⟩ := hm
  obtain ⟨_, _, hn, hg, hsl, hl, _⟩ := dmayB_parts hd
  rw [if_neg (by decide), if_pos rfl]
  unfold dwnDev
  by_cases h0 : s = 0
  · rw [if_pos h0, if_pos h0, begin_f f hf s st n g sl l hl b data (by omega) k (by omega)]; rfl
  · rw [if_neg h0, if_neg h0, more_f s st n g sl l hl hn hg hsl b data (by omega) k hk]; rfl
theorem take_f (f : ByteArray) (s st n g sl : Int) (l : List Opn) (b : Int) (data : ByteArray) (k : Nat) (hk : 196 < k) (h : OkOps l) : P.download_Take.f k f s st n g sl l b data = some (dwnTup f s st n g sl l b data) := by
  obtain ⟨k, rfl⟩ : ∃ m, k = m + 1 := ⟨k - 1, by omega⟩
  have j := fun x => take_j0 f s st n g sl l b data k (by omega) x
  unfold P.download_Take.f
  rw [may_f, Option.bind_some, devMay_f _ _ _ _ _ _ h]
  unfold dwnMay at j
  by_cases h1 : f.size = 768
  case neg => rw [decide_eq_false h1] at j ⊢; rw [if_neg Bool.false_ne_true]; exact j _ rfl
  rw [decide_eq_true h1] at j ⊢
  rw [if_pos rfl, Option.bind_some]
  cases h2 : devMayB s st n g sl l
  · rw [h2] at j; rw [if_neg Bool.false_ne_true]; exact j _ rfl
  rw [h2] at j
  rw [if_pos rfl, dvalue_f, dlength_f]
  by_cases h3 : s = 0
  · rw [if_pos h3, Option.bind_some, beq_iff_eq.2 h3] at *
    cases h4 : within b 0 65535
    · rw [h4] at j; rw [if_neg Bool.false_ne_true]; exact j _ rfl
    · rw [h4] at j; rw [if_pos rfl, Option.bind_some]; exact j _ (by simp)
  · rw [if_neg h3]
    rw [beq_eq_false_iff_ne.2 h3] at j
    by_cases h5 : s = 3
    · rw [if_pos h5, Option.bind_some]
      rw [beq_iff_eq.2 h5] at j
      cases h4 : within b 0 65535
      · rw [h4] at j; rw [if_neg Bool.false_ne_true]; exact j _ rfl
      · rw [h4] at j; rw [if_pos rfl, Option.bind_some]; exact j _ (by simp)
    · rw [if_neg h5]
      rw [beq_eq_false_iff_ne.2 h5] at j
      exact j _ rfl

end Go.Proofs.YthkpaoajfiapkaaGreat
end
section
set_option linter.unusedVariables false
set_option linter.unusedSimpArgs false
set_option maxHeartbeats 4000000
namespace Go.Proofs.YthkpaoajfiapkaaGreat
open Go.RowKit Go.Proofs.YthkpaoajfiapkaaGreatW.PrintWords

theorem Ext.box {w w1 : World} {cs : Array Value} {t : TypeId} {r : Nat × Nat} (h : Ext (w.alloc (.cells cs t r)) w1) : w1.heap[w.heap.size]? = some (.cells cs t r) := (h.below.block _ (by simp)).trans (heap_alloc_new w _)
theorem Ext.blk {w w1 : World} {g : Nat} {o : Obj} (h : Ext w w1) (k : w.heap[g]? = some o) : w1.heap[g]? = some o := (h.below.block _ (blk_lt k)).trans k
theorem Ext.pre {w w1 : World} {o : Obj} (h : Ext (w.alloc o) w1) : Ext w w1 := ((Ext.refl w).alloc o).trans h
theorem Kd.C_none {α : Type} (d : Kd α) (w : World) (A : Option Addr) : d.C w A ([] : List α).length [] := ⟨rfl, by simp, fun h => absurd h (Nat.lt_irrefl 0)⟩

theorem Kd.C_single {α : Type} (d : Kd α) {W : World} {g t : Nat} {cs : List Value} {x : α} (hk : d.K W x cs) (h : W.heap[g]? = some (.cells cs.toArray t (0, 0))) : d.C W (some ⟨g, 0, none⟩) [x].length [x] := by
  refine ⟨rfl, by simp, fun _ => ⟨_, rfl, fun j p hj => ?_⟩⟩
  obtain ⟨rfl, rfl⟩ : j = 0 ∧ x = p := by
    cases j with
    | zero => exact ⟨rfl, Option.some.inj hj⟩
    | succ j => simp at hj
  refine ⟨cs, d.K_len hk, hk, fun i u hu => ?_⟩
  rw [Nat.zero_mul, Nat.zero_add, add_plain, blk_cell h i]
  simpa using hu

theorem Ext.boxE (t : TypeId) {w w1 : World} {cs : Array Value} {r : Nat × Nat} {o : Obj} (h : Ext ((w.alloc (.cells cs t r)).alloc o) w1) : w1.heap[w.heap.size]? = some (.cells cs t r) := h.pre.box
theorem Ext.boxS (t : TypeId) {w w1 : World} {cs : Array Value} {r : Nat × Nat} {o : Obj} (h : Ext ((w.alloc o).alloc (.cells cs t r)) w1) : w1.heap[w.heap.size + 1]? = some (.cells cs t r) := by have := h.box; simpa using this

theorem Kd.R_empty {α : Type} (d : Kd α) (e : Nat) (W : World) : d.R e (W.alloc (.cells #[] e)) W.heap.size (fun _ => True) (.slice (some ⟨W.heap.size, 0, none⟩) 0 0) [] :=
  ⟨fun _ _ => trivial, [], World.ownsRow_lit (base := W.heap.size) (e := e) (size := d.sz) W #[] 0 (Nat.le_refl _) (Nat.zero_le _) (by simp), Reps.none _ _⟩

theorem blk_at {W : World} {o : Obj} {n : Nat} (h : n = W.heap.size) : (W.alloc o).heap[n]? = some o := by subst h; exact blk_new W o

theorem box6 {w : World} {g t : Nat} {v0 v1 v2 v3 v4 v5 : Value} (h : w.heap[g]? = some (.cells #[v0, v1, v2, v3, v4, v5] t (0, 0))) : w.cell? ⟨g, 0, none⟩ = some v0 ∧ w.cell? ⟨g, 1, none⟩ = some v1 ∧ w.cell? ⟨g, 2, none⟩ = some v2 ∧ w.cell? ⟨g, 3, none⟩ = some v3 ∧ w.cell? ⟨g, 4, none⟩ = some v4 ∧ w.cell? ⟨g, 5, none⟩ = some v5 := ⟨(blk_cell h 0).trans rfl, (blk_cell h 1).trans rfl, (blk_cell h 2).trans rfl, (blk_cell h 3).trans rfl, (blk_cell h 4).trans rfl, (blk_cell h 5).trans rfl⟩
theorem fro6 {w : World} {g t : Nat} {cs : Array Value} (h : w.heap[g]? = some (.cells cs t (0, 0))) : w.frozen? ⟨g, 0, none⟩ = false ∧ w.frozen? ⟨g, 1, none⟩ = false ∧ w.frozen? ⟨g, 2, none⟩ = false ∧ w.frozen? ⟨g, 3, none⟩ = false ∧ w.frozen? ⟨g, 4, none⟩ = false ∧ w.frozen? ⟨g, 5, none⟩ = false := ⟨blk_frozen h 0, blk_frozen h 1, blk_frozen h 2, blk_frozen h 3, blk_frozen h 4, blk_frozen h 5⟩
section
variable {P : Program} {ops : Array Oper} {rest : List Oper} {o : Oper} {a : Act} {Q : Exit → Act → World → Prop}
end
end Go.Proofs.YthkpaoajfiapkaaGreat
end
section
set_option linter.unusedVariables false
set_option linter.unusedSimpArgs false
set_option maxHeartbeats 4000000
namespace Go.Proofs.YthkpaoajfiapkaaGreat
open Go.RowKit Skiff Go.Proofs.YthkpaoajfiapkaaGreatW.PrintWords Go.Proofs.YthkpaoajfiapkaaGreatW.PrintMore O

def DwnPost (w : World) (t : DwnT) (e : Ending) (w' : World) : Prop :=
  ∃ v : Value, e = .returned (.tuple #[.agg #[.int .i64 t.1, .int .i64 t.2.1, .int .i64 t.2.2.1, .int .i64 t.2.2.2.1, .int .i64 t.2.2.2.2.1, v], .int .i64 t.2.2.2.2.2.2]) ∧ Kd.R P.k41 41 w' w.heap.size (fun _ => True) v t.2.2.2.2.2.1 ∧ Ext w w'
theorem within_nod {x a b : Int} (h : x < a ∨ x > b) : within x a b = false := by
  unfold within
  rcases h with h | h
  · rw [decide_eq_false (by omega), Bool.false_and]
  · rw [decide_eq_false (show ¬ x ≤ b by omega), Bool.and_false]
theorem rupTo_c (x a b : Int) (w : World) : Calls Tryz.prog 26 #[.int .i64 x, .int .i64 a, .int .i64 b] w fun e w' => e = .returned (.bool (within x a b)) ∧ Ext w w' :=
  (P.skiffref16_upTo.calls x a b _ w (rupTo_f x a b)).mono fun e w' ⟨he, hd⟩ => ⟨he, hd.below⟩
theorem rbase_c (x : Int) (w : World) : Calls Tryz.prog 18 #[.int .i64 x] w fun e w' => e = .returned (.tuple #[.int .i64 (baseOf x).1, .int .i64 (baseOf x).2]) ∧ Ext w w' :=
  (P.skiffref1_Base.calls x _ _ w (rbase_f x)).mono fun e w' ⟨he, hd⟩ => ⟨he, hd.below⟩
set_option maxRecDepth 100000 in
theorem rdw_fail (f : ByteArray) (s st n g sl : Int) (A : Option Addr) (c : Nat) (l : List Opn) (b : Int) (data : ByteArray) (w : World) (hC : Kd.C P.k41 w A l.length l) (hc : l.length ≤ c) (hz : data.size ≤ 140737488351232)
    (h : dwnMay f s st n g sl l b (data.size : Int) = false) :
    Calls Tryz.prog 9 #[.string f, .agg #[.int .i64 s, .int .i64 st, .int .i64 n, .int .i64 g, .int .i64 sl, .slice A l.length c], .int .i64 b, .string data] w (DwnPost w (0, 0, 0, 0, 0, [], 1700)) := by
  have CB := Lib.hid (fun w h => P.skiffref16_both.calls (l.length + 1) f s st n g sl A c l _ w h hc (both_f f s st n g sl l (l.length + 1) (Kd.C_max hC) (by omega)))
  have CU := Lib.hid (fun w => rupTo_c b 0 65535 w)
  have HC := Lib.hid hC
  have E1 : ∀ w' : World, Ext w w' → DwnPost w (0, 0, 0, 0, 0, [], 1700) (.returned (.tuple #[.agg #[.int .i64 0, .int .i64 0, .int .i64 0, .int .i64 0, .int .i64 0, .slice none 0 0], .int .i64 1700])) w' := fun w' h => ⟨_, rfl, Kd.R_nil _ _ _ _ _, h⟩
  have E1 := Lib.hid E1
  have h8 : within (data.size : Int) 0 32 = !(decide ((data.size : Int) > 32)) := by
    by_cases h : (data.size : Int) > 32
    · rw [decide_eq_true h]; exact within_nod (by omega)
    · rw [decide_eq_false h]; exact Skiff.within_iff.2 (by omega)
  unfold dwnMay at h
  rw [h8] at h
  clear h8 hC
  generalize (within b 0 65535) = u at *
  cases hm : (decide (f.size = 768) && devMayB s st n g sl l)
  · rw [hm] at CB
    clear h hm
    go_enter Tryz.func9, Tryz.ntmps9
    go_wp2_with fail
    refine (CB.out _ ?hh).mono ?_
    case hh => exact Kd.C_below HC.out (show Ext w _ from (by repeat (first | (with_reducible exact Ext.refl _) | (with_reducible assumption) | (with_reducible refine Ext.drewN ?_ _) | (with_reducible refine Ext.drew ?_) | (with_reducible refine Ext.alloc ?_ _) | (with_reducible refine Ext.setCell ?_ (by first | exact Nat.le_refl _ | (simp <;> omega)) _) | (with_reducible refine Ext.trans ?_ (by with_reducible assumption)))))
    rintro e w1 ⟨rfl, B1⟩
    have B1 : Ext _ _ := B1
    have q5 := Ext.boxE 24 B1
    have q8 := Ext.boxS 24 B1
    have F1 : Ext w w1 := (by repeat (first | (with_reducible exact Ext.refl _) | (with_reducible assumption) | (with_reducible refine Ext.drewN ?_ _) | (with_reducible refine Ext.drew ?_) | (with_reducible refine Ext.alloc ?_ _) | (with_reducible refine Ext.setCell ?_ (by first | exact Nat.le_refl _ | (simp <;> omega)) _) | (with_reducible refine Ext.trans ?_ (by with_reducible assumption))))
    have hS := F1.size
    have l5 := blk_lt q5
    have l8 := blk_lt q8
    obtain ⟨y0, y1, y2, y3, y4, y5⟩ := box6 q5
    obtain ⟨z0, z1, z2, z3, z4, z5⟩ := box6 q8
    obtain ⟨x0, x1, x2, x3, x4, x5⟩ := fro6 q8
    go_wp2
    refine bodyPost_ret (v := .tuple #[.agg #[.int .i64 0, .int .i64 0, .int .i64 0, .int .i64 0, .int .i64 0, .slice none 0 0], .int .i64 1700]) ?_ rfl (E1.out _ ?_)
    · simp [results, Tryz.results9, go_sem, z0, z1, z2, z3, z4, z5]
    · exact (by repeat (first | (with_reducible exact Ext.refl _) | (with_reducible assumption) | (with_reducible refine Ext.drewN ?_ _) | (with_reducible refine Ext.drew ?_) | (with_reducible refine Ext.alloc ?_ _) | (with_reducible refine Ext.setCell ?_ (by first | exact Nat.le_refl _ | (simp <;> omega)) _) | (with_reducible refine Ext.trans ?_ (by with_reducible assumption))))
  rw [hm] at CB
  rw [← Bool.and_assoc, hm, Bool.true_and] at h
  clear hm
  by_cases h0 : s = 0
  · subst h0
    cases u
    · clear h
      go_enter Tryz.func9, Tryz.ntmps9
      go_wp2_with fail
      refine (CB.out _ ?hh).mono ?_
      case hh => exact Kd.C_below HC.out (show Ext w _ from (by repeat (first | (with_reducible exact Ext.refl _) | (with_reducible assumption) | (with_reducible refine Ext.drewN ?_ _) | (with_reducible refine Ext.drew ?_) | (with_reducible refine Ext.alloc ?_ _) | (with_reducible refine Ext.setCell ?_ (by first | exact Nat.le_refl _ | (simp <;> omega)) _) | (with_reducible refine Ext.trans ?_ (by with_reducible assumption)))))
      rintro e w1 ⟨rfl, B1⟩
      have B1 : Ext _ _ := B1
      have q5 := Ext.boxE 24 B1
      have q8 := Ext.boxS 24 B1
      have F1 : Ext w w1 := (by repeat (first | (with_reducible exact Ext.refl _) | (with_reducible assumption) | (with_reducible refine Ext.drewN ?_ _) | (with_reducible refine Ext.drew ?_) | (with_reducible refine Ext.alloc ?_ _) | (with_reducible refine Ext.setCell ?_ (by first | exact Nat.le_refl _ | (simp <;> omega)) _) | (with_reducible refine Ext.trans ?_ (by with_reducible assumption))))
      have hS := F1.size
      have l5 := blk_lt q5
      have l8 := blk_lt q8
      obtain ⟨y0, y1, y2, y3, y4, y5⟩ := box6 q5
      obtain ⟨z0, z1, z2, z3, z4, z5⟩ := box6 q8
      obtain ⟨x0, x1, x2, x3, x4, x5⟩ := fro6 q8
      go_wp2_with fail
      refine (CU.out _).mono ?_
      rintro e w2 ⟨rfl, B2⟩
      clear y0 y1 y2 y3 y4 y5 z0 z1 z2 z3 z4 z5 x0 x1 x2 x3 x4 x5
      obtain ⟨z0, z1, z2, z3, z4, z5⟩ := box6 (B2.blk q8)
      obtain ⟨x0, x1, x2, x3, x4, x5⟩ := fro6 (B2.blk q8)
      go_wp2
      refine bodyPost_ret (v := .tuple #[.agg #[.int .i64 0, .int .i64 0, .int .i64 0, .int .i64 0, .int .i64 0, .slice none 0 0], .int .i64 1700]) ?_ rfl (E1.out _ ?_)
      · simp [results, Tryz.results9, go_sem, z0, z1, z2, z3, z4, z5]
      · exact (by repeat (first | (with_reducible exact Ext.refl _) | (with_reducible assumption) | (with_reducible refine Ext.drewN ?_ _) | (with_reducible refine Ext.drew ?_) | (with_reducible refine Ext.alloc ?_ _) | (with_reducible refine Ext.setCell ?_ (by first | exact Nat.le_refl _ | (simp <;> omega)) _) | (with_reducible refine Ext.trans ?_ (by with_reducible assumption))))
    · have t4 : decide ((data.size : Int) > 32) = true := by cases hh : decide ((data.size : Int) > 32) <;> rw [hh] at h <;> simp_all
      clear h
      go_enter Tryz.func9, Tryz.ntmps9
      go_wp2_with fail
      refine (CB.out _ ?hh).mono ?_
      case hh => exact Kd.C_below HC.out (show Ext w _ from (by repeat (first | (with_reducible exact Ext.refl _) | (with_reducible assumption) | (with_reducible refine Ext.drewN ?_ _) | (with_reducible refine Ext.drew ?_) | (with_reducible refine Ext.alloc ?_ _) | (with_reducible refine Ext.setCell ?_ (by first | exact Nat.le_refl _ | (simp <;> omega)) _) | (with_reducible refine Ext.trans ?_ (by with_reducible assumption)))))
      rintro e w1 ⟨rfl, B1⟩
      have B1 : Ext _ _ := B1
      have q5 := Ext.boxE 24 B1
      have q8 := Ext.boxS 24 B1
      have F1 : Ext w w1 := (by repeat (first | (with_reducible exact Ext.refl _) | (with_reducible assumption) | (with_reducible refine Ext.drewN ?_ _) | (with_reducible refine Ext.drew ?_) | (with_reducible refine Ext.alloc ?_ _) | (with_reducible refine Ext.setCell ?_ (by first | exact Nat.le_refl _ | (simp <;> omega)) _) | (with_reducible refine Ext.trans ?_ (by with_reducible assumption))))
      have hS := F1.size
      have l5 := blk_lt q5
      have l8 := blk_lt q8
      obtain ⟨y0, y1, y2, y3, y4, y5⟩ := box6 q5
      obtain ⟨z0, z1, z2, z3, z4, z5⟩ := box6 q8
      obtain ⟨x0, x1, x2, x3, x4, x5⟩ := fro6 q8
      go_wp2_with fail
      refine (CU.out _).mono ?_
      rintro e w2 ⟨rfl, B2⟩
      clear y0 y1 y2 y3 y4 y5 z0 z1 z2 z3 z4 z5 x0 x1 x2 x3 x4 x5
      obtain ⟨z0, z1, z2, z3, z4, z5⟩ := box6 (B2.blk q8)
      obtain ⟨x0, x1, x2, x3, x4, x5⟩ := fro6 (B2.blk q8)
      go_wp2
      refine bodyPost_ret (v := .tuple #[.agg #[.int .i64 0, .int .i64 0, .int .i64 0, .int .i64 0, .int .i64 0, .slice none 0 0], .int .i64 1700]) ?_ rfl (E1.out _ ?_)
      · simp [results, Tryz.results9, go_sem, z0, z1, z2, z3, z4, z5]
      · exact (by repeat (first | (with_reducible exact Ext.refl _) | (with_reducible assumption) | (with_reducible refine Ext.drewN ?_ _) | (with_reducible refine Ext.drew ?_) | (with_reducible refine Ext.alloc ?_ _) | (with_reducible refine Ext.setCell ?_ (by first | exact Nat.le_refl _ | (simp <;> omega)) _) | (with_reducible refine Ext.trans ?_ (by with_reducible assumption))))
  by_cases h3 : s = 3
  · subst h3
    clear h0
    cases u
    · clear h
      go_enter Tryz.func9, Tryz.ntmps9
      go_wp2_with fail
      refine (CB.out _ ?hh).mono ?_
      case hh => exact Kd.C_below HC.out (show Ext w _ from (by repeat (first | (with_reducible exact Ext.refl _) | (with_reducible assumption) | (with_reducible refine Ext.drewN ?_ _) | (with_reducible refine Ext.drew ?_) | (with_reducible refine Ext.alloc ?_ _) | (with_reducible refine Ext.setCell ?_ (by first | exact Nat.le_refl _ | (simp <;> omega)) _) | (with_reducible refine Ext.trans ?_ (by with_reducible assumption)))))
      rintro e w1 ⟨rfl, B1⟩
      have B1 : Ext _ _ := B1
      have q5 := Ext.boxE 24 B1
      have q8 := Ext.boxS 24 B1
      have F1 : Ext w w1 := (by repeat (first | (with_reducible exact Ext.refl _) | (with_reducible assumption) | (with_reducible refine Ext.drewN ?_ _) | (with_reducible refine Ext.drew ?_) | (with_reducible refine Ext.alloc ?_ _) | (with_reducible refine Ext.setCell ?_ (by first | exact Nat.le_refl _ | (simp <;> omega)) _) | (with_reducible refine Ext.trans ?_ (by with_reducible assumption))))
      have hS := F1.size
      have l5 := blk_lt q5
      have l8 := blk_lt q8
      obtain ⟨y0, y1, y2, y3, y4, y5⟩ := box6 q5
      obtain ⟨z0, z1, z2, z3, z4, z5⟩ := box6 q8
      obtain ⟨x0, x1, x2, x3, x4, x5⟩ := fro6 q8
      go_wp2_with fail
      refine (CU.out _).mono ?_
      rintro e w2 ⟨rfl, B2⟩
      clear y0 y1 y2 y3 y4 y5 z0 z1 z2 z3 z4 z5 x0 x1 x2 x3 x4 x5
      obtain ⟨z0, z1, z2, z3, z4, z5⟩ := box6 (B2.blk q8)
      obtain ⟨x0, x1, x2, x3, x4, x5⟩ := fro6 (B2.blk q8)
      go_wp2
      refine bodyPost_ret (v := .tuple #[.agg #[.int .i64 0, .int .i64 0, .int .i64 0, .int .i64 0, .int .i64 0, .slice none 0 0], .int .i64 1700]) ?_ rfl (E1.out _ ?_)
      · simp [results, Tryz.results9, go_sem, z0, z1, z2, z3, z4, z5]
      · exact (by repeat (first | (with_reducible exact Ext.refl _) | (with_reducible assumption) | (with_reducible refine Ext.drewN ?_ _) | (with_reducible refine Ext.drew ?_) | (with_reducible refine Ext.alloc ?_ _) | (with_reducible refine Ext.setCell ?_ (by first | exact Nat.le_refl _ | (simp <;> omega)) _) | (with_reducible refine Ext.trans ?_ (by with_reducible assumption))))
    · have t4 : decide ((data.size : Int) > 32) = true := by cases hh : decide ((data.size : Int) > 32) <;> rw [hh] at h <;> simp_all
      clear h
      go_enter Tryz.func9, Tryz.ntmps9
      go_wp2_with fail
      refine (CB.out _ ?hh).mono ?_
      case hh => exact Kd.C_below HC.out (show Ext w _ from (by repeat (first | (with_reducible exact Ext.refl _) | (with_reducible assumption) | (with_reducible refine Ext.drewN ?_ _) | (with_reducible refine Ext.drew ?_) | (with_reducible refine Ext.alloc ?_ _) | (with_reducible refine Ext.setCell ?_ (by first | exact Nat.le_refl _ | (simp <;> omega)) _) | (with_reducible refine Ext.trans ?_ (by with_reducible assumption)))))
      rintro e w1 ⟨rfl, B1⟩
      have B1 : Ext _ _ := B1
      have q5 := Ext.boxE 24 B1
      have q8 := Ext.boxS 24 B1
      have F1 : Ext w w1 := (by repeat (first | (with_reducible exact Ext.refl _) | (with_reducible assumption) | (with_reducible refine Ext.drewN ?_ _) | (with_reducible refine Ext.drew ?_) | (with_reducible refine Ext.alloc ?_ _) | (with_reducible refine Ext.setCell ?_ (by first | exact Nat.le_refl _ | (simp <;> omega)) _) | (with_reducible refine Ext.trans ?_ (by with_reducible assumption))))
      have hS := F1.size
      have l5 := blk_lt q5
      have l8 := blk_lt q8
      obtain ⟨y0, y1, y2, y3, y4, y5⟩ := box6 q5
      obtain ⟨z0, z1, z2, z3, z4, z5⟩ := box6 q8
      obtain ⟨x0, x1, x2, x3, x4, x5⟩ := fro6 q8
      go_wp2_with fail
      refine (CU.out _).mono ?_
      rintro e w2 ⟨rfl, B2⟩
      clear y0 y1 y2 y3 y4 y5 z0 z1 z2 z3 z4 z5 x0 x1 x2 x3 x4 x5
      obtain ⟨z0, z1, z2, z3, z4, z5⟩ := box6 (B2.blk q8)
      obtain ⟨x0, x1, x2, x3, x4, x5⟩ := fro6 (B2.blk q8)
      go_wp2
      refine bodyPost_ret (v := .tuple #[.agg #[.int .i64 0, .int .i64 0, .int .i64 0, .int .i64 0, .int .i64 0, .slice none 0 0], .int .i64 1700]) ?_ rfl (E1.out _ ?_)
      · simp [results, Tryz.results9, go_sem, z0, z1, z2, z3, z4, z5]
      · exact (by repeat (first | (with_reducible exact Ext.refl _) | (with_reducible assumption) | (with_reducible refine Ext.drewN ?_ _) | (with_reducible refine Ext.drew ?_) | (with_reducible refine Ext.alloc ?_ _) | (with_reducible refine Ext.setCell ?_ (by first | exact Nat.le_refl _ | (simp <;> omega)) _) | (with_reducible refine Ext.trans ?_ (by with_reducible assumption))))
  · have t1 : (s != 0) = true := bne_iff_ne.2 h0
    have t2 : (s != 3) = true := bne_iff_ne.2 h3
    clear h h0 h3
    go_enter Tryz.func9, Tryz.ntmps9
    go_wp2_with fail
    refine (CB.out _ ?hh).mono ?_
    case hh => exact Kd.C_below HC.out (show Ext w _ from (by repeat (first | (with_reducible exact Ext.refl _) | (with_reducible assumption) | (with_reducible refine Ext.drewN ?_ _) | (with_reducible refine Ext.drew ?_) | (with_reducible refine Ext.alloc ?_ _) | (with_reducible refine Ext.setCell ?_ (by first | exact Nat.le_refl _ | (simp <;> omega)) _) | (with_reducible refine Ext.trans ?_ (by with_reducible assumption)))))
    rintro e w1 ⟨rfl, B1⟩
    have B1 : Ext _ _ := B1
    have q5 := Ext.boxE 24 B1
    have q8 := Ext.boxS 24 B1
    have F1 : Ext w w1 := (by repeat (first | (with_reducible exact Ext.refl _) | (with_reducible assumption) | (with_reducible refine Ext.drewN ?_ _) | (with_reducible refine Ext.drew ?_) | (with_reducible refine Ext.alloc ?_ _) | (with_reducible refine Ext.setCell ?_ (by first | exact Nat.le_refl _ | (simp <;> omega)) _) | (with_reducible refine Ext.trans ?_ (by with_reducible assumption))))
    have hS := F1.size
    have l5 := blk_lt q5
    have l8 := blk_lt q8
    obtain ⟨y0, y1, y2, y3, y4, y5⟩ := box6 q5
    obtain ⟨z0, z1, z2, z3, z4, z5⟩ := box6 q8
    obtain ⟨x0, x1, x2, x3, x4, x5⟩ := fro6 q8
    go_wp2
    refine bodyPost_ret (v := .tuple #[.agg #[.int .i64 0, .int .i64 0, .int .i64 0, .int .i64 0, .int .i64 0, .slice none 0 0], .int .i64 1700]) ?_ rfl (E1.out _ ?_)
    · simp [results, Tryz.results9, go_sem, z0, z1, z2, z3, z4, z5]
    · exact (by repeat (first | (with_reducible exact Ext.refl _) | (with_reducible assumption) | (with_reducible refine Ext.drewN ?_ _) | (with_reducible refine Ext.drew ?_) | (with_reducible refine Ext.alloc ?_ _) | (with_reducible refine Ext.setCell ?_ (by first | exact Nat.le_refl _ | (simp <;> omega)) _) | (with_reducible refine Ext.trans ?_ (by with_reducible assumption))))

theorem failed_c (x : Int) (w : World) : Calls Tryz.prog 28 #[.int .i64 x] w fun e w' => ∃ A c, e = .returned (.agg #[.int .i64 7, .int .i64 x, .int .i64 0, .int .i64 0, .int .i64 0, .slice A 0 c]) ∧ Kd.R P.k41 41 w' w.heap.size (fun _ => True) (.slice A 0 c) ([] : List Opn) ∧ Ext w w' :=
  (P.skiffref16_failed.calls x 7 x 0 0 0 [] w rfl).mono fun e w' ⟨v, he, hr, hb⟩ => by
    obtain ⟨A, c, rfl, _⟩ := Kd.R_slice hr
    exact ⟨A, c, he, hr, hb⟩
theorem copy_c (s st n g sl : Int) (A : Option Addr) (c : Nat) (l : List Opn) (w : World) (hC : Kd.C P.k41 w A l.length l) (hc : l.length ≤ c) (hl : l.length < 4398046511104) :
    Calls Tryz.prog 27 #[.agg #[.int .i64 s, .int .i64 st, .int .i64 n, .int .i64 g, .int .i64 sl, .slice A l.length c]] w fun e w' => ∃ A' c', e = .returned (.agg #[.int .i64 s, .int .i64 st, .int .i64 n, .int .i64 g, .int .i64 sl, .slice A' l.length c']) ∧ Kd.R P.k41 41 w' w.heap.size (fun _ => True) (.slice A' l.length c') l ∧ Ext w w' :=
  (P.skiffref16_copyDevice.calls s st n g sl A c l _ _ _ _ _ _ w hC hc (rcopy_f s st n g sl l hl)).mono fun e w' ⟨v, he, hr, hb⟩ => by
    obtain ⟨A', c', rfl, _⟩ := Kd.R_slice hr
    exact ⟨A', c', he, hr, hb⟩
theorem rbase_ok (x : Int) (h : 0 ≤ x ∧ x ≤ 1) (w : World) : Calls Tryz.prog 18 #[.int .i64 x] w fun e w' => e = .returned (.tuple #[.int .i64 (192 + 288 * x), .int .i64 0]) ∧ Ext w w' := by
  have := rbase_c x w
  unfold baseOf at this
  rw [if_pos (Skiff.within_iff.2 h)] at this
  exact this
theorem rwords_ok (a : Int) (data : ByteArray) (h : wordsMay a (bl data) = true) (hz : data.size ≤ 140737488351232) (w : World) : Calls Tryz.prog 30 #[.int .i64 a, .string data] w fun e w' => ∃ A c, e = .returned (.tuple #[.slice A (wordsAt a data).length c, .int .i64 0]) ∧ Kd.R P.k41 41 w' w.heap.size (fun _ => True) (.slice A (wordsAt a data).length c) (wordsAt a data) ∧ Ext w w' :=
  (P.skiffref1_Words.calls 300 a data (wordsAt a data) 0 w ((rwords_f a data 300 (by omega) hz).trans (by rw [wordsPair, if_pos h]; rfl))).mono fun e w' ⟨v, he, hr, hb⟩ => by
    obtain ⟨A, c, rfl, _⟩ := Kd.R_slice hr
    exact ⟨A, c, he, hr, hb⟩
theorem rerases_ok (x : Int) (h : 0 ≤ x ∧ x ≤ 1) (w : World) : Calls Tryz.prog 29 #[.int .i64 x] w fun e w' => ∃ A c, e = .returned (.tuple #[.slice A 3 c, .int .i64 0]) ∧ Kd.R P.k41 41 w' w.heap.size (fun _ => True) (.slice A 3 c) (eraseOps x) ∧ Ext w w' :=
  (P.skiffref1_Erases.calls 300 x (eraseOps x) 0 w ((rerases_f x 300 (by omega)).trans (by rw [erasePair, if_pos (Skiff.within_iff.2 h)]))).mono fun e w' ⟨v, he, hr, hb⟩ => by
    obtain ⟨A, c, rfl, _⟩ := Kd.R_slice hr
    exact ⟨A, c, he, hr, hb⟩
theorem rother_ok (f : ByteArray) (hf : f.size = 768) (w : World) : Calls Tryz.prog 17 #[.string f] w fun e w' => e = .returned (.tuple #[.int .i64 (otherOf f), .int .i64 0]) ∧ Ext w w' := by
  have h2 : (othOf (best f)).2 = 0 := by unfold othOf; split <;> rfl
  refine (P.skiffref1_Other.calls 300 f (otherOf f) 0 w ((rother_f f 300 (by omega)).trans ?_)).mono fun e w' ⟨he, hb⟩ => ⟨he, hb⟩
  unfold otherPair otherOf
  rw [if_pos hf, ← h2]
set_option maxRecDepth 100000 in
theorem rdw_ok (f : ByteArray) (s st n g sl : Int) (A : Option Addr) (c : Nat) (l : List Opn) (b : Int) (data : ByteArray) (w : World) (hC : Kd.C P.k41 w A l.length l) (hc : l.length ≤ c) (hz : data.size ≤ 140737488351232)
    (h : dwnMay f s st n g sl l b (data.size : Int) = true) :
    Calls Tryz.prog 9 #[.string f, .agg #[.int .i64 s, .int .i64 st, .int .i64 n, .int .i64 g, .int .i64 sl, .slice A l.length c], .int .i64 b, .string data] w (DwnPost w (withE (dwnDev f s st n g sl l b data) 0)) := by
  unfold dwnMay at h
  simp only [Bool.and_eq_true, Bool.or_eq_true, beq_iff_eq, decide_eq_true_iff, Skiff.within_iff] at h
  obtain ⟨hf, hm, hs, hb, hd⟩ := h
  obtain ⟨_, _, hn, hg, hsl, hl, _⟩ := dmayB_parts hm
  have CB := Lib.hid (fun w h => P.skiffref16_both.calls (l.length + 1) f s st n g sl A c l _ w h hc (both_f f s st n g sl l (l.length + 1) (Kd.C_max hC) (by omega)))
  rw [decide_eq_true hf, hm, Bool.and_self] at CB
  have CU := Lib.hid (fun w => rupTo_c b 0 65535 w)
  rw [Skiff.within_iff.2 hb] at CU
  have CC := Lib.hid (fun w h => copy_c s st n g sl A c l w h hc (by omega))
  have CF := Lib.hid (fun x w => failed_c x w)
  have HC := Lib.hid hC
  have t4 : decide ((data.size : Int) > 32) = false := decide_eq_false (by omega)
  have HN := Lib.hid (And.intro hn (And.intro hg (And.intro hsl (And.intro hl (And.intro hb (And.intro hd hf))))))
  clear hC hm hn hg hsl hl hb hd hf
  obtain ⟨⟨hn1, hn2⟩, ⟨hg1, hg2⟩, ⟨hs1, hs2⟩, hl, ⟨hb1, hb2⟩, ⟨hd1, hd2⟩, hf⟩ := HN.out
  rcases hs with rfl | rfl
  · by_cases h0 : data.size = 0
    · rw [show dwnDev f 0 st n g sl l b data = failedT 5 by unfold dwnDev beginT; rw [if_pos rfl, if_pos h0]]
      have t5 : (data.toList == ([] : List UInt8)) = true := beq_iff_eq.2 ((empty_iff data).2 h0)
      clear h0 hf
      go_enter Tryz.func9, Tryz.ntmps9
      go_wp2_with fail
      refine (CB.out _ ?hh).mono ?_
      case hh => exact Kd.C_below HC.out (show Ext w _ from (by repeat (first | (with_reducible exact Ext.refl _) | (with_reducible assumption) | (with_reducible refine Ext.drewN ?_ _) | (with_reducible refine Ext.drew ?_) | (with_reducible refine Ext.alloc ?_ _) | (with_reducible refine Ext.setCell ?_ (by first | exact Nat.le_refl _ | (simp <;> omega)) _) | (with_reducible refine Ext.trans ?_ (by with_reducible assumption)))))
      rintro e w1 ⟨rfl, B1⟩
      have B1 : Ext _ _ := B1
      have q5 := Ext.boxE 24 B1
      have q8 := Ext.boxS 24 B1
      have F1 : Ext w w1 := (by repeat (first | (with_reducible exact Ext.refl _) | (with_reducible assumption) | (with_reducible refine Ext.drewN ?_ _) | (with_reducible refine Ext.drew ?_) | (with_reducible refine Ext.alloc ?_ _) | (with_reducible refine Ext.setCell ?_ (by first | exact Nat.le_refl _ | (simp <;> omega)) _) | (with_reducible refine Ext.trans ?_ (by with_reducible assumption))))
      have hS := F1.size
      obtain ⟨y0, y1, y2, y3, y4, y5⟩ := box6 q5
      go_wp2_with fail
      refine (CU.out _).mono ?_
      rintro e w2 ⟨rfl, B2⟩
      clear y0 y1 y2 y3 y4 y5
      replace q5 := B2.blk q5
      replace q8 := B2.blk q8
      obtain ⟨y0, y1, y2, y3, y4, y5⟩ := box6 q5
      go_wp2_with fail
      refine (CC.out _ ?hh).mono ?_
      case hh => exact Kd.C_below HC.out (show Ext w _ from (by repeat (first | (with_reducible exact Ext.refl _) | (with_reducible assumption) | (with_reducible refine Ext.drewN ?_ _) | (with_reducible refine Ext.drew ?_) | (with_reducible refine Ext.alloc ?_ _) | (with_reducible refine Ext.setCell ?_ (by first | exact Nat.le_refl _ | (simp <;> omega)) _) | (with_reducible refine Ext.trans ?_ (by with_reducible assumption)))))
      rintro e w3 ⟨A3, c3, rfl, R3, B3⟩
      clear y0 y1 y2 y3 y4 y5
      replace q5 := B3.blk q5
      replace q8 := B3.blk q8
      obtain ⟨y0, y1, y2, y3, y4, y5⟩ := box6 q5
      have l5 := blk_lt q5
      have l8 := blk_lt q8
      have F3 : Ext w w3 := (by repeat (first | (with_reducible exact Ext.refl _) | (with_reducible assumption) | (with_reducible refine Ext.drewN ?_ _) | (with_reducible refine Ext.drew ?_) | (with_reducible refine Ext.alloc ?_ _) | (with_reducible refine Ext.setCell ?_ (by first | exact Nat.le_refl _ | (simp <;> omega)) _) | (with_reducible refine Ext.trans ?_ (by with_reducible assumption))))
      have hS3 := F3.size
      go_wp2_with fail
      refine (CF.out _ _).mono ?_
      rintro e w4 ⟨A4, c4, rfl, R4, B4⟩
      replace q8 := B4.pre.blk q8
      clear y0 y1 y2 y3 y4 y5
      obtain ⟨z0, z1, z2, z3, z4, z5⟩ := box6 q8
      obtain ⟨x0, x1, x2, x3, x4, x5⟩ := fro6 q8
      go_wp2
      refine bodyPost_ret (v := .tuple #[.agg #[.int .i64 7, .int .i64 5, .int .i64 0, .int .i64 0, .int .i64 0, .slice A4 0 c4], .int .i64 0]) ?_ rfl ?_
      · simp [results, Tryz.results9, go_sem, z0, z1, z2, z3, z4, z5]
      · have R5 := Kd.R_types (Kd.R_lower R4 (Ext.size (show Ext w _ from (by repeat (first | (with_reducible exact Ext.refl _) | (with_reducible assumption) | (with_reducible refine Ext.drewN ?_ _) | (with_reducible refine Ext.drew ?_) | (with_reducible refine Ext.alloc ?_ _) | (with_reducible refine Ext.setCell ?_ (by first | exact Nat.le_refl _ | (simp <;> omega)) _) | (with_reducible refine Ext.trans ?_ (by with_reducible assumption))))))) q8 (by decide)
        refine ⟨_, rfl, Kd.R_mono (ok := fun k => True ∧ k ≠ w.heap.size + 1) ?_ (fun _ _ => trivial), ?_⟩
        · show Kd.R P.k41 41 _ _ _ _ ([] : List Opn)
          repeat (first | (with_reducible exact R5) | (with_reducible refine Kd.R_far ?_ (fun _ hk => hk.2) _))
        · exact (by repeat (first | (with_reducible exact Ext.refl _) | (with_reducible assumption) | (with_reducible refine Ext.drewN ?_ _) | (with_reducible refine Ext.drew ?_) | (with_reducible refine Ext.alloc ?_ _) | (with_reducible refine Ext.setCell ?_ (by first | exact Nat.le_refl _ | (simp <;> omega)) _) | (with_reducible refine Ext.trans ?_ (by with_reducible assumption))))
    have t5 : (data.toList == ([] : List UInt8)) = false := beq_eq_false_iff_ne.2 (fun hh => h0 ((empty_iff data).1 hh))
    by_cases hb0 : b = 0
    case neg =>
      rw [show dwnDev f 0 st n g sl l b data = failedT 4 by unfold dwnDev beginT; rw [if_pos rfl, if_neg h0, if_neg hb0]]
      have t6 : (b != 0) = true := bne_iff_ne.2 hb0
      clear h0 hb0 hf
      go_enter Tryz.func9, Tryz.ntmps9
      go_wp2_with fail
      refine (CB.out _ ?hh).mono ?_
      case hh => exact Kd.C_below HC.out (show Ext w _ from (by repeat (first | (with_reducible exact Ext.refl _) | (with_reducible assumption) | (with_reducible refine Ext.drewN ?_ _) | (with_reducible refine Ext.drew ?_) | (with_reducible refine Ext.alloc ?_ _) | (with_reducible refine Ext.setCell ?_ (by first | exact Nat.le_refl _ | (simp <;> omega)) _) | (with_reducible refine Ext.trans ?_ (by with_reducible assumption)))))
      rintro e w1 ⟨rfl, B1⟩
      have B1 : Ext _ _ := B1
      have q5 := Ext.boxE 24 B1
      have q8 := Ext.boxS 24 B1
      have F1 : Ext w w1 := (by repeat (first | (with_reducible exact Ext.refl _) | (with_reducible assumption) | (with_reducible refine Ext.drewN ?_ _) | (with_reducible refine Ext.drew ?_) | (with_reducible refine Ext.alloc ?_ _) | (with_reducible refine Ext.setCell ?_ (by first | exact Nat.le_refl _ | (simp <;> omega)) _) | (with_reducible refine Ext.trans ?_ (by with_reducible assumption))))
      have hS := F1.size
      obtain ⟨y0, y1, y2, y3, y4, y5⟩ := box6 q5
      go_wp2_with fail
      refine (CU.out _).mono ?_
      rintro e w2 ⟨rfl, B2⟩
      clear y0 y1 y2 y3 y4 y5
      replace q5 := B2.blk q5
      replace q8 := B2.blk q8
      obtain ⟨y0, y1, y2, y3, y4, y5⟩ := box6 q5
      go_wp2_with fail
      refine (CC.out _ ?hh).mono ?_
      case hh => exact Kd.C_below HC.out (show Ext w _ from (by repeat (first | (with_reducible exact Ext.refl _) | (with_reducible assumption) | (with_reducible refine Ext.drewN ?_ _) | (with_reducible refine Ext.drew ?_) | (with_reducible refine Ext.alloc ?_ _) | (with_reducible refine Ext.setCell ?_ (by first | exact Nat.le_refl _ | (simp <;> omega)) _) | (with_reducible refine Ext.trans ?_ (by with_reducible assumption)))))
      rintro e w3 ⟨A3, c3, rfl, R3, B3⟩
      clear y0 y1 y2 y3 y4 y5
      replace q5 := B3.blk q5
      replace q8 := B3.blk q8
      obtain ⟨y0, y1, y2, y3, y4, y5⟩ := box6 q5
      have l5 := blk_lt q5
      have l8 := blk_lt q8
      have F3 : Ext w w3 := (by repeat (first | (with_reducible exact Ext.refl _) | (with_reducible assumption) | (with_reducible refine Ext.drewN ?_ _) | (with_reducible refine Ext.drew ?_) | (with_reducible refine Ext.alloc ?_ _) | (with_reducible refine Ext.setCell ?_ (by first | exact Nat.le_refl _ | (simp <;> omega)) _) | (with_reducible refine Ext.trans ?_ (by with_reducible assumption))))
      have hS3 := F3.size
      go_wp2_with fail
      refine (CF.out _ _).mono ?_
      rintro e w4 ⟨A4, c4, rfl, R4, B4⟩
      replace q8 := B4.pre.blk q8
      clear y0 y1 y2 y3 y4 y5
      obtain ⟨z0, z1, z2, z3, z4, z5⟩ := box6 q8
      obtain ⟨x0, x1, x2, x3, x4, x5⟩ := fro6 q8
      go_wp2
      refine bodyPost_ret (v := .tuple #[.agg #[.int .i64 7, .int .i64 4, .int .i64 0, .int .i64 0, .int .i64 0, .slice A4 0 c4], .int .i64 0]) ?_ rfl ?_
      · simp [results, Tryz.results9, go_sem, z0, z1, z2, z3, z4, z5]
      · have R5 := Kd.R_types (Kd.R_lower R4 (Ext.size (show Ext w _ from (by repeat (first | (with_reducible exact Ext.refl _) | (with_reducible assumption) | (with_reducible refine Ext.drewN ?_ _) | (with_reducible refine Ext.drew ?_) | (with_reducible refine Ext.alloc ?_ _) | (with_reducible refine Ext.setCell ?_ (by first | exact Nat.le_refl _ | (simp <;> omega)) _) | (with_reducible refine Ext.trans ?_ (by with_reducible assumption))))))) q8 (by decide)
        refine ⟨_, rfl, Kd.R_mono (ok := fun k => True ∧ k ≠ w.heap.size + 1) ?_ (fun _ _ => trivial), ?_⟩
        · show Kd.R P.k41 41 _ _ _ _ ([] : List Opn)
          repeat (first | (with_reducible exact R5) | (with_reducible refine Kd.R_far ?_ (fun _ hk => hk.2) _))
        · exact (by repeat (first | (with_reducible exact Ext.refl _) | (with_reducible assumption) | (with_reducible refine Ext.drewN ?_ _) | (with_reducible refine Ext.drew ?_) | (with_reducible refine Ext.alloc ?_ _) | (with_reducible refine Ext.setCell ?_ (by first | exact Nat.le_refl _ | (simp <;> omega)) _) | (with_reducible refine Ext.trans ?_ (by with_reducible assumption))))
    have ho := othOf_range f
    rw [show dwnDev f 0 st n g sl l b data = (1, st, 1, (data.size : Int), otherOf f, eraseOps (otherOf f) ++ wordsAt (192 + 288 * otherOf f) data) by unfold dwnDev beginT; rw [if_pos rfl, if_neg h0, if_pos hb0]]
    have t6 : (b != 0) = false := bne_eq_false_iff_eq.2 hb0
    have CO := Lib.hid (fun w => rother_ok f hf w)
    have CV := Lib.hid (fun w => rbase_ok (otherOf f) ho w)
    have CE := Lib.hid (fun w => rerases_ok (otherOf f) ho w)
    have CW := Lib.hid (fun w => rwords_ok (192 + 288 * otherOf f) data (wordsMay_ok (by omega) (by omega) (by omega)) hz w)
    have hw8 := wordsAt_len (192 + 288 * otherOf f) data (by omega)
    have he3 : (eraseOps (otherOf f)).length = 3 := rfl
    clear h0 hb0 hf
    generalize wordsAt (192 + 288 * otherOf f) data = ws at *
    generalize eraseOps (otherOf f) = es at *
    generalize otherOf f = o at *
    have HW := Lib.hid hw8
    have HE3 := Lib.hid he3
    clear hw8 he3
    go_enter Tryz.func9, Tryz.ntmps9
    go_wp2_with fail
    refine (CB.out _ ?hh).mono ?_
    case hh => exact Kd.C_below HC.out (show Ext w _ from (by repeat (first | (with_reducible exact Ext.refl _) | (with_reducible assumption) | (with_reducible refine Ext.drewN ?_ _) | (with_reducible refine Ext.drew ?_) | (with_reducible refine Ext.alloc ?_ _) | (with_reducible refine Ext.setCell ?_ (by first | exact Nat.le_refl _ | (simp <;> omega)) _) | (with_reducible refine Ext.trans ?_ (by with_reducible assumption)))))
    rintro e w1 ⟨rfl, B1⟩
    have B1 : Ext _ _ := B1
    have q5 := Ext.boxE 24 B1
    have q8 := Ext.boxS 24 B1
    have F1 : Ext w w1 := (by repeat (first | (with_reducible exact Ext.refl _) | (with_reducible assumption) | (with_reducible refine Ext.drewN ?_ _) | (with_reducible refine Ext.drew ?_) | (with_reducible refine Ext.alloc ?_ _) | (with_reducible refine Ext.setCell ?_ (by first | exact Nat.le_refl _ | (simp <;> omega)) _) | (with_reducible refine Ext.trans ?_ (by with_reducible assumption))))
    have hS := F1.size
    obtain ⟨y0, y1, y2, y3, y4, y5⟩ := box6 q5
    go_wp2_with fail
    refine (CU.out _).mono ?_
    rintro e w2 ⟨rfl, B2⟩
    clear y0 y1 y2 y3 y4 y5
    replace q5 := B2.blk q5
    replace q8 := B2.blk q8
    obtain ⟨y0, y1, y2, y3, y4, y5⟩ := box6 q5
    go_wp2_with fail
    refine (CC.out _ ?hh).mono ?_
    case hh => exact Kd.C_below HC.out (show Ext w _ from (by repeat (first | (with_reducible exact Ext.refl _) | (with_reducible assumption) | (with_reducible refine Ext.drewN ?_ _) | (with_reducible refine Ext.drew ?_) | (with_reducible refine Ext.alloc ?_ _) | (with_reducible refine Ext.setCell ?_ (by first | exact Nat.le_refl _ | (simp <;> omega)) _) | (with_reducible refine Ext.trans ?_ (by with_reducible assumption)))))
    rintro e w3 ⟨A3, c3, rfl, R3, B3⟩
    clear y0 y1 y2 y3 y4 y5
    replace q5 := B3.blk q5
    replace q8 := B3.blk q8
    obtain ⟨y0, y1, y2, y3, y4, y5⟩ := box6 q5
    have l5 := blk_lt q5
    have l8 := blk_lt q8
    have F3 : Ext w w3 := (by repeat (first | (with_reducible exact Ext.refl _) | (with_reducible assumption) | (with_reducible refine Ext.drewN ?_ _) | (with_reducible refine Ext.drew ?_) | (with_reducible refine Ext.alloc ?_ _) | (with_reducible refine Ext.setCell ?_ (by first | exact Nat.le_refl _ | (simp <;> omega)) _) | (with_reducible refine Ext.trans ?_ (by with_reducible assumption))))
    have hS3 := F3.size
    go_wp2_with fail
    refine (CO.out _).mono ?_
    rintro e w4 ⟨rfl, B4⟩
    have q10 := B4.box
    replace q8 := B4.pre.blk q8
    clear y0 y1 y2 y3 y4 y5
    go_wp2_with fail
    refine (CV.out _).mono ?_
    rintro e w5 ⟨rfl, B5⟩
    go_wp2_with fail
    refine (CE.out _).mono ?_
    rintro e w6 ⟨A6, c6, rfl, R6, B6⟩
    go_wp2_with fail
    refine (CW.out _).mono ?_
    rintro e w7 ⟨A7, c7, rfl, R7, B7⟩
    replace q8 := B7.blk (B6.blk (B5.blk q8))
    replace q10 := B7.blk (B6.blk (B5.blk q10))
    have hC6 : Kd.C P.k41 w7 A6 3 es := by have h_ := (Kd.R_reads' R6).2.2; rw [HE3.out] at h_; exact Kd.C_below h_ B7
    have hC7 := (Kd.R_reads' R7).2.2
    have n1 : w3.heap.size ≠ w.heap.size + 1 := by omega
    have n2 : w.heap.size + 1 ≠ w3.heap.size := by omega
    have F7 : Ext w w7 := (by repeat (first | (with_reducible exact Ext.refl _) | (with_reducible assumption) | (with_reducible refine Ext.drewN ?_ _) | (with_reducible refine Ext.drew ?_) | (with_reducible refine Ext.alloc ?_ _) | (with_reducible refine Ext.setCell ?_ (by first | exact Nat.le_refl _ | (simp <;> omega)) _) | (with_reducible refine Ext.trans ?_ (by with_reducible assumption))))
    have HC6 := Lib.hid hC6
    have HC7 := Lib.hid hC7
    clear hC6 hC7
    go_wp2_with (first | ((with_reducible refine gate_builtin (b := .append) (xs := #[.tmp 82, .tmp 83]) rfl ?_); at_builtin; refine Kd.R_append_rows P.k41 (w0 := w7) w7.heap.size rfl (.tmp 82) (.tmp 83) 22 41 (.agg #[(.bool false), (.int .i64 0), (.string ⟨#[]⟩)]) 32 rfl Tryz.underlying22 P.info41 rfl (by decide) (by omega) (.slice (some ⟨w7.heap.size, 0, none⟩) 0 0) [] es A6 3 _ (fun _ => True) (fun _ => False) rfl rfl ?aO ?aR (fun _ _ h => h) (fun _ h => h.elim) ?aF ?aB ?aS ?aL ?_; (case aR => exact (Kd.C_below HC6.out ((Ext.refl w7).alloc _))); (case aO => exact (Kd.R_empty P.k41 41 w7)); (case aF => exact (fun _ _ => trivial)); (case aB => exact ((Ext.refl w7).alloc _)); (case aS => exact ((Ext.refl w7).alloc _).size); (case aL => simp); intro v8 w8 ho8 hb8 hg8 hat8) | ((with_reducible refine gate_builtin (b := .append) (xs := #[.tmp 85, .tmp 86]) rfl ?_); at_builtin; refine Kd.R_append_rows P.k41 (w0 := w7) w7.heap.size rfl (.tmp 85) (.tmp 86) 22 41 (.agg #[(.bool false), (.int .i64 0), (.string ⟨#[]⟩)]) 32 rfl Tryz.underlying22 P.info41 rfl (by decide) (by omega) v8 es ws A7 ws.length _ (fun _ => True) (fun _ => False) rfl rfl ?aO ?aR (fun _ _ h => h) (fun _ h => h.elim) ?aF ?aB ?aS ?aL ?_; (case aR => exact (Kd.C_below HC7.out hb8)); (case aO => exact ho8); (case aF => exact (fun _ _ => trivial)); (case aB => exact hb8); (case aS => exact hb8.size); (case aL => have h1_ := HE3.out; have h2_ := HW.out; omega); intro v9 w9 ho9 hb9 hg9 hat9; obtain ⟨A9, c9, rfl, _⟩ := Kd.R_slice ho9; obtain ⟨z0, z1, z2, z3, z4, z5⟩ := box6 (Ext.blk (show Ext w7 w9 from hb9) q8); obtain ⟨x0, x1, x2, x3, x4, x5⟩ := fro6 (Ext.blk (show Ext w7 w9 from hb9) q8); obtain ⟨u0, u1, u2, u3, u4, u5⟩ := box6 (Ext.blk (show Ext w7 w9 from hb9) q10); obtain ⟨v0, v1, v2, v3, v4, v5⟩ := fro6 (Ext.blk (show Ext w7 w9 from hb9) q10)))
    refine bodyPost_ret (v := .tuple #[.agg #[.int .i64 1, .int .i64 st, .int .i64 1, .int .i64 (data.size : Int), .int .i64 o, .slice A9 (es.length + ws.length) c9], .int .i64 0]) ?_ rfl ?_
    · simp [results, Tryz.results9, go_sem, z0, z1, z2, z3, z4, z5, n1, n2]
    · rw [List.length_append] at ho9
      have ho9 : Kd.R P.k41 41 w9 w7.heap.size (fun _ => True) (.slice A9 (es.length + ws.length) c9) (es ++ ws) := ho9
      have R9 := Kd.R_types (Kd.R_types (Kd.R_lower ho9 F7.size) (Ext.blk (show Ext w7 w9 from hb9) q8) (by decide)) (Ext.blk (show Ext w7 w9 from hb9) q10) (by decide)
      have F9 : Ext w w9 := F7.trans hb9
      refine ⟨_, rfl, Kd.R_mono (ok := fun k => (True ∧ k ≠ w.heap.size + 1) ∧ k ≠ w3.heap.size) ?_ (fun _ _ => trivial), ?_⟩
      · show Kd.R P.k41 41 _ _ _ _ (es ++ ws)
        repeat (first | (with_reducible exact R9) | (with_reducible refine Kd.R_far ?_ (fun _ hk => by first | exact hk.2 | exact hk.1.2) _))
      · exact (by repeat (first | (with_reducible exact Ext.refl _) | (with_reducible assumption) | (with_reducible refine Ext.drewN ?_ _) | (with_reducible refine Ext.drew ?_) | (with_reducible refine Ext.alloc ?_ _) | (with_reducible refine Ext.setCell ?_ (by first | exact Nat.le_refl _ | (simp <;> omega)) _) | (with_reducible refine Ext.trans ?_ (by with_reducible assumption))))
  · have hD : dwnDev f 3 st n g sl l b data = moreT st n g sl l b data := by unfold dwnDev; rw [if_neg (by decide)]
    rw [hD]
    clear hD hf
    unfold moreT
    by_cases hb3 : b = n - 1
    · rw [if_pos hb3]
      have t7 : (b == n - 1) = true := beq_iff_eq.2 hb3
      clear hb3
      go_enter Tryz.func9, Tryz.ntmps9
      go_wp2_with fail
      refine (CB.out _ ?hh).mono ?_
      case hh => exact Kd.C_below HC.out (show Ext w _ from (by repeat (first | (with_reducible exact Ext.refl _) | (with_reducible assumption) | (with_reducible refine Ext.drewN ?_ _) | (with_reducible refine Ext.drew ?_) | (with_reducible refine Ext.alloc ?_ _) | (with_reducible refine Ext.setCell ?_ (by first | exact Nat.le_refl _ | (simp <;> omega)) _) | (with_reducible refine Ext.trans ?_ (by with_reducible assumption)))))
      rintro e w1 ⟨rfl, B1⟩
      have B1 : Ext _ _ := B1
      have q5 := Ext.boxE 24 B1
      have q8 := Ext.boxS 24 B1
      have F1 : Ext w w1 := (by repeat (first | (with_reducible exact Ext.refl _) | (with_reducible assumption) | (with_reducible refine Ext.drewN ?_ _) | (with_reducible refine Ext.drew ?_) | (with_reducible refine Ext.alloc ?_ _) | (with_reducible refine Ext.setCell ?_ (by first | exact Nat.le_refl _ | (simp <;> omega)) _) | (with_reducible refine Ext.trans ?_ (by with_reducible assumption))))
      have hS := F1.size
      obtain ⟨y0, y1, y2, y3, y4, y5⟩ := box6 q5
      go_wp2_with fail
      refine (CU.out _).mono ?_
      rintro e w2 ⟨rfl, B2⟩
      clear y0 y1 y2 y3 y4 y5
      replace q5 := B2.blk q5
      replace q8 := B2.blk q8
      obtain ⟨y0, y1, y2, y3, y4, y5⟩ := box6 q5
      go_wp2_with fail
      refine (CC.out _ ?hh).mono ?_
      case hh => exact Kd.C_below HC.out (show Ext w _ from (by repeat (first | (with_reducible exact Ext.refl _) | (with_reducible assumption) | (with_reducible refine Ext.drewN ?_ _) | (with_reducible refine Ext.drew ?_) | (with_reducible refine Ext.alloc ?_ _) | (with_reducible refine Ext.setCell ?_ (by first | exact Nat.le_refl _ | (simp <;> omega)) _) | (with_reducible refine Ext.trans ?_ (by with_reducible assumption)))))
      rintro e w3 ⟨A3, c3, rfl, R3, B3⟩
      clear y0 y1 y2 y3 y4 y5
      replace q5 := B3.blk q5
      replace q8 := B3.blk q8
      obtain ⟨y0, y1, y2, y3, y4, y5⟩ := box6 q5
      have l5 := blk_lt q5
      have l8 := blk_lt q8
      have F3 : Ext w w3 := (by repeat (first | (with_reducible exact Ext.refl _) | (with_reducible assumption) | (with_reducible refine Ext.drewN ?_ _) | (with_reducible refine Ext.drew ?_) | (with_reducible refine Ext.alloc ?_ _) | (with_reducible refine Ext.setCell ?_ (by first | exact Nat.le_refl _ | (simp <;> omega)) _) | (with_reducible refine Ext.trans ?_ (by with_reducible assumption))))
      have hS3 := F3.size
      obtain ⟨z0, z1, z2, z3, z4, z5⟩ := box6 q8
      obtain ⟨x0, x1, x2, x3, x4, x5⟩ := fro6 q8
      go_wp2
      refine bodyPost_ret (v := .tuple #[.agg #[.int .i64 1, .int .i64 st, .int .i64 n, .int .i64 g, .int .i64 sl, .slice A3 l.length c3], .int .i64 0]) ?_ rfl ?_
      · simp [results, Tryz.results9, go_sem, z0, z1, z2, z3, z4, z5, l8]
      · have R5 := Kd.R_types (Kd.R_lower R3 (Ext.size (show Ext w _ from (by repeat (first | (with_reducible exact Ext.refl _) | (with_reducible assumption) | (with_reducible refine Ext.drewN ?_ _) | (with_reducible refine Ext.drew ?_) | (with_reducible refine Ext.alloc ?_ _) | (with_reducible refine Ext.setCell ?_ (by first | exact Nat.le_refl _ | (simp <;> omega)) _) | (with_reducible refine Ext.trans ?_ (by with_reducible assumption))))))) q8 (by decide)
        refine ⟨_, rfl, Kd.R_mono (ok := fun k => True ∧ k ≠ w.heap.size + 1) ?_ (fun _ _ => trivial), ?_⟩
        · show Kd.R P.k41 41 _ _ _ _ l
          repeat (first | (with_reducible exact R5) | (with_reducible refine Kd.R_far ?_ (fun _ hk => hk.2) _) | (with_reducible refine Kd.R_alloc ?_ _))
        · exact (by repeat (first | (with_reducible exact Ext.refl _) | (with_reducible assumption) | (with_reducible refine Ext.drewN ?_ _) | (with_reducible refine Ext.drew ?_) | (with_reducible refine Ext.alloc ?_ _) | (with_reducible refine Ext.setCell ?_ (by first | exact Nat.le_refl _ | (simp <;> omega)) _) | (with_reducible refine Ext.trans ?_ (by with_reducible assumption))))
    rw [if_neg hb3]
    have t7 : (b == n - 1) = false := beq_eq_false_iff_ne.2 hb3
    by_cases hb4 : b = n
    case neg =>
      rw [if_neg hb4]
      have t8 : (b != n) = true := bne_iff_ne.2 hb4
      clear hb3 hb4
      go_enter Tryz.func9, Tryz.ntmps9
      go_wp2_with fail
      refine (CB.out _ ?hh).mono ?_
      case hh => exact Kd.C_below HC.out (show Ext w _ from (by repeat (first | (with_reducible exact Ext.refl _) | (with_reducible assumption) | (with_reducible refine Ext.drewN ?_ _) | (with_reducible refine Ext.drew ?_) | (with_reducible refine Ext.alloc ?_ _) | (with_reducible refine Ext.setCell ?_ (by first | exact Nat.le_refl _ | (simp <;> omega)) _) | (with_reducible refine Ext.trans ?_ (by with_reducible assumption)))))
      rintro e w1 ⟨rfl, B1⟩
      have B1 : Ext _ _ := B1
      have q5 := Ext.boxE 24 B1
      have q8 := Ext.boxS 24 B1
      have F1 : Ext w w1 := (by repeat (first | (with_reducible exact Ext.refl _) | (with_reducible assumption) | (with_reducible refine Ext.drewN ?_ _) | (with_reducible refine Ext.drew ?_) | (with_reducible refine Ext.alloc ?_ _) | (with_reducible refine Ext.setCell ?_ (by first | exact Nat.le_refl _ | (simp <;> omega)) _) | (with_reducible refine Ext.trans ?_ (by with_reducible assumption))))
      have hS := F1.size
      obtain ⟨y0, y1, y2, y3, y4, y5⟩ := box6 q5
      go_wp2_with fail
      refine (CU.out _).mono ?_
      rintro e w2 ⟨rfl, B2⟩
      clear y0 y1 y2 y3 y4 y5
      replace q5 := B2.blk q5
      replace q8 := B2.blk q8
      obtain ⟨y0, y1, y2, y3, y4, y5⟩ := box6 q5
      go_wp2_with fail
      refine (CC.out _ ?hh).mono ?_
      case hh => exact Kd.C_below HC.out (show Ext w _ from (by repeat (first | (with_reducible exact Ext.refl _) | (with_reducible assumption) | (with_reducible refine Ext.drewN ?_ _) | (with_reducible refine Ext.drew ?_) | (with_reducible refine Ext.alloc ?_ _) | (with_reducible refine Ext.setCell ?_ (by first | exact Nat.le_refl _ | (simp <;> omega)) _) | (with_reducible refine Ext.trans ?_ (by with_reducible assumption)))))
      rintro e w3 ⟨A3, c3, rfl, R3, B3⟩
      clear y0 y1 y2 y3 y4 y5
      replace q5 := B3.blk q5
      replace q8 := B3.blk q8
      obtain ⟨y0, y1, y2, y3, y4, y5⟩ := box6 q5
      have l5 := blk_lt q5
      have l8 := blk_lt q8
      have F3 : Ext w w3 := (by repeat (first | (with_reducible exact Ext.refl _) | (with_reducible assumption) | (with_reducible refine Ext.drewN ?_ _) | (with_reducible refine Ext.drew ?_) | (with_reducible refine Ext.alloc ?_ _) | (with_reducible refine Ext.setCell ?_ (by first | exact Nat.le_refl _ | (simp <;> omega)) _) | (with_reducible refine Ext.trans ?_ (by with_reducible assumption))))
      have hS3 := F3.size
      go_wp2_with fail
      refine (CF.out _ _).mono ?_
      rintro e w4 ⟨A4, c4, rfl, R4, B4⟩
      replace q8 := B4.pre.blk q8
      clear y0 y1 y2 y3 y4 y5
      obtain ⟨z0, z1, z2, z3, z4, z5⟩ := box6 q8
      obtain ⟨x0, x1, x2, x3, x4, x5⟩ := fro6 q8
      go_wp2
      refine bodyPost_ret (v := .tuple #[.agg #[.int .i64 7, .int .i64 4, .int .i64 0, .int .i64 0, .int .i64 0, .slice A4 0 c4], .int .i64 0]) ?_ rfl ?_
      · simp [results, Tryz.results9, go_sem, z0, z1, z2, z3, z4, z5]
      · have R5 := Kd.R_types (Kd.R_lower R4 (Ext.size (show Ext w _ from (by repeat (first | (with_reducible exact Ext.refl _) | (with_reducible assumption) | (with_reducible refine Ext.drewN ?_ _) | (with_reducible refine Ext.drew ?_) | (with_reducible refine Ext.alloc ?_ _) | (with_reducible refine Ext.setCell ?_ (by first | exact Nat.le_refl _ | (simp <;> omega)) _) | (with_reducible refine Ext.trans ?_ (by with_reducible assumption))))))) q8 (by decide)
        refine ⟨_, rfl, Kd.R_mono (ok := fun k => True ∧ k ≠ w.heap.size + 1) ?_ (fun _ _ => trivial), ?_⟩
        · show Kd.R P.k41 41 _ _ _ _ ([] : List Opn)
          repeat (first | (with_reducible exact R5) | (with_reducible refine Kd.R_far ?_ (fun _ hk => hk.2) _))
        · exact (by repeat (first | (with_reducible exact Ext.refl _) | (with_reducible assumption) | (with_reducible refine Ext.drewN ?_ _) | (with_reducible refine Ext.drew ?_) | (with_reducible refine Ext.alloc ?_ _) | (with_reducible refine Ext.setCell ?_ (by first | exact Nat.le_refl _ | (simp <;> omega)) _) | (with_reducible refine Ext.trans ?_ (by with_reducible assumption))))
    rw [if_pos hb4]
    have t8 : (b != n) = false := bne_eq_false_iff_eq.2 hb4
    clear hb3 hb4
    by_cases h0 : data.size = 0
    · rw [if_pos h0]
      have t5 : (data.toList == ([] : List UInt8)) = true := beq_iff_eq.2 ((empty_iff data).2 h0)
      clear h0
      go_enter Tryz.func9, Tryz.ntmps9
      go_wp2_with fail
      refine (CB.out _ ?hh).mono ?_
      case hh => exact Kd.C_below HC.out (show Ext w _ from (by repeat (first | (with_reducible exact Ext.refl _) | (with_reducible assumption) | (with_reducible refine Ext.drewN ?_ _) | (with_reducible refine Ext.drew ?_) | (with_reducible refine Ext.alloc ?_ _) | (with_reducible refine Ext.setCell ?_ (by first | exact Nat.le_refl _ | (simp <;> omega)) _) | (with_reducible refine Ext.trans ?_ (by with_reducible assumption)))))
      rintro e w1 ⟨rfl, B1⟩
      have B1 : Ext _ _ := B1
      have q5 := Ext.boxE 24 B1
      have q8 := Ext.boxS 24 B1
      have F1 : Ext w w1 := (by repeat (first | (with_reducible exact Ext.refl _) | (with_reducible assumption) | (with_reducible refine Ext.drewN ?_ _) | (with_reducible refine Ext.drew ?_) | (with_reducible refine Ext.alloc ?_ _) | (with_reducible refine Ext.setCell ?_ (by first | exact Nat.le_refl _ | (simp <;> omega)) _) | (with_reducible refine Ext.trans ?_ (by with_reducible assumption))))
      have hS := F1.size
      obtain ⟨y0, y1, y2, y3, y4, y5⟩ := box6 q5
      go_wp2_with fail
      refine (CU.out _).mono ?_
      rintro e w2 ⟨rfl, B2⟩
      clear y0 y1 y2 y3 y4 y5
      replace q5 := B2.blk q5
      replace q8 := B2.blk q8
      obtain ⟨y0, y1, y2, y3, y4, y5⟩ := box6 q5
      go_wp2_with fail
      refine (CC.out _ ?hh).mono ?_
      case hh => exact Kd.C_below HC.out (show Ext w _ from (by repeat (first | (with_reducible exact Ext.refl _) | (with_reducible assumption) | (with_reducible refine Ext.drewN ?_ _) | (with_reducible refine Ext.drew ?_) | (with_reducible refine Ext.alloc ?_ _) | (with_reducible refine Ext.setCell ?_ (by first | exact Nat.le_refl _ | (simp <;> omega)) _) | (with_reducible refine Ext.trans ?_ (by with_reducible assumption)))))
      rintro e w3 ⟨A3, c3, rfl, R3, B3⟩
      clear y0 y1 y2 y3 y4 y5
      replace q5 := B3.blk q5
      replace q8 := B3.blk q8
      obtain ⟨y0, y1, y2, y3, y4, y5⟩ := box6 q5
      have l5 := blk_lt q5
      have l8 := blk_lt q8
      have F3 : Ext w w3 := (by repeat (first | (with_reducible exact Ext.refl _) | (with_reducible assumption) | (with_reducible refine Ext.drewN ?_ _) | (with_reducible refine Ext.drew ?_) | (with_reducible refine Ext.alloc ?_ _) | (with_reducible refine Ext.setCell ?_ (by first | exact Nat.le_refl _ | (simp <;> omega)) _) | (with_reducible refine Ext.trans ?_ (by with_reducible assumption))))
      have hS3 := F3.size
      obtain ⟨z0, z1, z2, z3, z4, z5⟩ := box6 q8
      obtain ⟨x0, x1, x2, x3, x4, x5⟩ := fro6 q8
      go_wp2
      refine bodyPost_ret (v := .tuple #[.agg #[.int .i64 4, .int .i64 st, .int .i64 n, .int .i64 g, .int .i64 sl, .slice A3 l.length c3], .int .i64 0]) ?_ rfl ?_
      · simp [results, Tryz.results9, go_sem, z0, z1, z2, z3, z4, z5, l8]
      · have R5 := Kd.R_types (Kd.R_lower R3 (Ext.size (show Ext w _ from (by repeat (first | (with_reducible exact Ext.refl _) | (with_reducible assumption) | (with_reducible refine Ext.drewN ?_ _) | (with_reducible refine Ext.drew ?_) | (with_reducible refine Ext.alloc ?_ _) | (with_reducible refine Ext.setCell ?_ (by first | exact Nat.le_refl _ | (simp <;> omega)) _) | (with_reducible refine Ext.trans ?_ (by with_reducible assumption))))))) q8 (by decide)
        refine ⟨_, rfl, Kd.R_mono (ok := fun k => True ∧ k ≠ w.heap.size + 1) ?_ (fun _ _ => trivial), ?_⟩
        · show Kd.R P.k41 41 _ _ _ _ l
          repeat (first | (with_reducible exact R5) | (with_reducible refine Kd.R_far ?_ (fun _ hk => hk.2) _) | (with_reducible refine Kd.R_alloc ?_ _))
        · exact (by repeat (first | (with_reducible exact Ext.refl _) | (with_reducible assumption) | (with_reducible refine Ext.drewN ?_ _) | (with_reducible refine Ext.drew ?_) | (with_reducible refine Ext.alloc ?_ _) | (with_reducible refine Ext.setCell ?_ (by first | exact Nat.le_refl _ | (simp <;> omega)) _) | (with_reducible refine Ext.trans ?_ (by with_reducible assumption))))
    rw [if_neg h0]
    have t5 : (data.toList == ([] : List UInt8)) = false := beq_eq_false_iff_ne.2 (fun hh => h0 ((empty_iff data).1 hh))
    clear h0
    by_cases h1 : g % 32 = 0
    case neg =>
      rw [if_neg (fun h => h1 h.1)]
      have r1 : (g % 32 != 0) = true := bne_iff_ne.2 h1
      clear h1
      go_enter Tryz.func9, Tryz.ntmps9
      go_wp2_with fail
      refine (CB.out _ ?hh).mono ?_
      case hh => exact Kd.C_below HC.out (show Ext w _ from (by repeat (first | (with_reducible exact Ext.refl _) | (with_reducible assumption) | (with_reducible refine Ext.drewN ?_ _) | (with_reducible refine Ext.drew ?_) | (with_reducible refine Ext.alloc ?_ _) | (with_reducible refine Ext.setCell ?_ (by first | exact Nat.le_refl _ | (simp <;> omega)) _) | (with_reducible refine Ext.trans ?_ (by with_reducible assumption)))))
      rintro e w1 ⟨rfl, B1⟩
      have B1 : Ext _ _ := B1
      have q5 := Ext.boxE 24 B1
      have q8 := Ext.boxS 24 B1
      have F1 : Ext w w1 := (by repeat (first | (with_reducible exact Ext.refl _) | (with_reducible assumption) | (with_reducible refine Ext.drewN ?_ _) | (with_reducible refine Ext.drew ?_) | (with_reducible refine Ext.alloc ?_ _) | (with_reducible refine Ext.setCell ?_ (by first | exact Nat.le_refl _ | (simp <;> omega)) _) | (with_reducible refine Ext.trans ?_ (by with_reducible assumption))))
      have hS := F1.size
      obtain ⟨y0, y1, y2, y3, y4, y5⟩ := box6 q5
      go_wp2_with fail
      refine (CU.out _).mono ?_
      rintro e w2 ⟨rfl, B2⟩
      clear y0 y1 y2 y3 y4 y5
      replace q5 := B2.blk q5
      replace q8 := B2.blk q8
      obtain ⟨y0, y1, y2, y3, y4, y5⟩ := box6 q5
      go_wp2_with fail
      refine (CC.out _ ?hh).mono ?_
      case hh => exact Kd.C_below HC.out (show Ext w _ from (by repeat (first | (with_reducible exact Ext.refl _) | (with_reducible assumption) | (with_reducible refine Ext.drewN ?_ _) | (with_reducible refine Ext.drew ?_) | (with_reducible refine Ext.alloc ?_ _) | (with_reducible refine Ext.setCell ?_ (by first | exact Nat.le_refl _ | (simp <;> omega)) _) | (with_reducible refine Ext.trans ?_ (by with_reducible assumption)))))
      rintro e w3 ⟨A3, c3, rfl, R3, B3⟩
      clear y0 y1 y2 y3 y4 y5
      replace q5 := B3.blk q5
      replace q8 := B3.blk q8
      obtain ⟨y0, y1, y2, y3, y4, y5⟩ := box6 q5
      have l5 := blk_lt q5
      have l8 := blk_lt q8
      have F3 : Ext w w3 := (by repeat (first | (with_reducible exact Ext.refl _) | (with_reducible assumption) | (with_reducible refine Ext.drewN ?_ _) | (with_reducible refine Ext.drew ?_) | (with_reducible refine Ext.alloc ?_ _) | (with_reducible refine Ext.setCell ?_ (by first | exact Nat.le_refl _ | (simp <;> omega)) _) | (with_reducible refine Ext.trans ?_ (by with_reducible assumption))))
      have hS3 := F3.size
      go_wp2_with fail
      refine (CF.out _ _).mono ?_
      rintro e w4 ⟨A4, c4, rfl, R4, B4⟩
      replace q8 := B4.pre.blk q8
      clear y0 y1 y2 y3 y4 y5
      obtain ⟨z0, z1, z2, z3, z4, z5⟩ := box6 q8
      obtain ⟨x0, x1, x2, x3, x4, x5⟩ := fro6 q8
      go_wp2
      refine bodyPost_ret (v := .tuple #[.agg #[.int .i64 7, .int .i64 4, .int .i64 0, .int .i64 0, .int .i64 0, .slice A4 0 c4], .int .i64 0]) ?_ rfl ?_
      · simp [results, Tryz.results9, go_sem, z0, z1, z2, z3, z4, z5]
      · have R5 := Kd.R_types (Kd.R_lower R4 (Ext.size (show Ext w _ from (by repeat (first | (with_reducible exact Ext.refl _) | (with_reducible assumption) | (with_reducible refine Ext.drewN ?_ _) | (with_reducible refine Ext.drew ?_) | (with_reducible refine Ext.alloc ?_ _) | (with_reducible refine Ext.setCell ?_ (by first | exact Nat.le_refl _ | (simp <;> omega)) _) | (with_reducible refine Ext.trans ?_ (by with_reducible assumption))))))) q8 (by decide)
        refine ⟨_, rfl, Kd.R_mono (ok := fun k => True ∧ k ≠ w.heap.size + 1) ?_ (fun _ _ => trivial), ?_⟩
        · show Kd.R P.k41 41 _ _ _ _ ([] : List Opn)
          repeat (first | (with_reducible exact R5) | (with_reducible refine Kd.R_far ?_ (fun _ hk => hk.2) _))
        · exact (by repeat (first | (with_reducible exact Ext.refl _) | (with_reducible assumption) | (with_reducible refine Ext.drewN ?_ _) | (with_reducible refine Ext.drew ?_) | (with_reducible refine Ext.alloc ?_ _) | (with_reducible refine Ext.setCell ?_ (by first | exact Nat.le_refl _ | (simp <;> omega)) _) | (with_reducible refine Ext.trans ?_ (by with_reducible assumption))))
    have r1 : (g % 32 != 0) = false := bne_eq_false_iff_eq.2 h1
    by_cases h2 : g + (data.size : Int) ≤ 288
    case neg =>
      rw [if_neg (fun h => h2 h.2.1)]
      have r2 : decide (g + (data.size : Int) > 288) = true := decide_eq_true (by omega)
      clear h1 h2
      go_enter Tryz.func9, Tryz.ntmps9
      go_wp2_with fail
      refine (CB.out _ ?hh).mono ?_
      case hh => exact Kd.C_below HC.out (show Ext w _ from (by repeat (first | (with_reducible exact Ext.refl _) | (with_reducible assumption) | (with_reducible refine Ext.drewN ?_ _) | (with_reducible refine Ext.drew ?_) | (with_reducible refine Ext.alloc ?_ _) | (with_reducible refine Ext.setCell ?_ (by first | exact Nat.le_refl _ | (simp <;> omega)) _) | (with_reducible refine Ext.trans ?_ (by with_reducible assumption)))))
      rintro e w1 ⟨rfl, B1⟩
      have B1 : Ext _ _ := B1
      have q5 := Ext.boxE 24 B1
      have q8 := Ext.boxS 24 B1
      have F1 : Ext w w1 := (by repeat (first | (with_reducible exact Ext.refl _) | (with_reducible assumption) | (with_reducible refine Ext.drewN ?_ _) | (with_reducible refine Ext.drew ?_) | (with_reducible refine Ext.alloc ?_ _) | (with_reducible refine Ext.setCell ?_ (by first | exact Nat.le_refl _ | (simp <;> omega)) _) | (with_reducible refine Ext.trans ?_ (by with_reducible assumption))))
      have hS := F1.size
      obtain ⟨y0, y1, y2, y3, y4, y5⟩ := box6 q5
      go_wp2_with fail
      refine (CU.out _).mono ?_
      rintro e w2 ⟨rfl, B2⟩
      clear y0 y1 y2 y3 y4 y5
      replace q5 := B2.blk q5
      replace q8 := B2.blk q8
      obtain ⟨y0, y1, y2, y3, y4, y5⟩ := box6 q5
      go_wp2_with fail
      refine (CC.out _ ?hh).mono ?_
      case hh => exact Kd.C_below HC.out (show Ext w _ from (by repeat (first | (with_reducible exact Ext.refl _) | (with_reducible assumption) | (with_reducible refine Ext.drewN ?_ _) | (with_reducible refine Ext.drew ?_) | (with_reducible refine Ext.alloc ?_ _) | (with_reducible refine Ext.setCell ?_ (by first | exact Nat.le_refl _ | (simp <;> omega)) _) | (with_reducible refine Ext.trans ?_ (by with_reducible assumption)))))
      rintro e w3 ⟨A3, c3, rfl, R3, B3⟩
      clear y0 y1 y2 y3 y4 y5
      replace q5 := B3.blk q5
      replace q8 := B3.blk q8
      obtain ⟨y0, y1, y2, y3, y4, y5⟩ := box6 q5
      have l5 := blk_lt q5
      have l8 := blk_lt q8
      have F3 : Ext w w3 := (by repeat (first | (with_reducible exact Ext.refl _) | (with_reducible assumption) | (with_reducible refine Ext.drewN ?_ _) | (with_reducible refine Ext.drew ?_) | (with_reducible refine Ext.alloc ?_ _) | (with_reducible refine Ext.setCell ?_ (by first | exact Nat.le_refl _ | (simp <;> omega)) _) | (with_reducible refine Ext.trans ?_ (by with_reducible assumption))))
      have hS3 := F3.size
      go_wp2_with fail
      refine (CF.out _ _).mono ?_
      rintro e w4 ⟨A4, c4, rfl, R4, B4⟩
      replace q8 := B4.pre.blk q8
      clear y0 y1 y2 y3 y4 y5
      obtain ⟨z0, z1, z2, z3, z4, z5⟩ := box6 q8
      obtain ⟨x0, x1, x2, x3, x4, x5⟩ := fro6 q8
      go_wp2
      refine bodyPost_ret (v := .tuple #[.agg #[.int .i64 7, .int .i64 4, .int .i64 0, .int .i64 0, .int .i64 0, .slice A4 0 c4], .int .i64 0]) ?_ rfl ?_
      · simp [results, Tryz.results9, go_sem, z0, z1, z2, z3, z4, z5]
      · have R5 := Kd.R_types (Kd.R_lower R4 (Ext.size (show Ext w _ from (by repeat (first | (with_reducible exact Ext.refl _) | (with_reducible assumption) | (with_reducible refine Ext.drewN ?_ _) | (with_reducible refine Ext.drew ?_) | (with_reducible refine Ext.alloc ?_ _) | (with_reducible refine Ext.setCell ?_ (by first | exact Nat.le_refl _ | (simp <;> omega)) _) | (with_reducible refine Ext.trans ?_ (by with_reducible assumption))))))) q8 (by decide)
        refine ⟨_, rfl, Kd.R_mono (ok := fun k => True ∧ k ≠ w.heap.size + 1) ?_ (fun _ _ => trivial), ?_⟩
        · show Kd.R P.k41 41 _ _ _ _ ([] : List Opn)
          repeat (first | (with_reducible exact R5) | (with_reducible refine Kd.R_far ?_ (fun _ hk => hk.2) _))
        · exact (by repeat (first | (with_reducible exact Ext.refl _) | (with_reducible assumption) | (with_reducible refine Ext.drewN ?_ _) | (with_reducible refine Ext.drew ?_) | (with_reducible refine Ext.alloc ?_ _) | (with_reducible refine Ext.setCell ?_ (by first | exact Nat.le_refl _ | (simp <;> omega)) _) | (with_reducible refine Ext.trans ?_ (by with_reducible assumption))))
    have r2 : decide (g + (data.size : Int) > 288) = false := decide_eq_false (by omega)
    by_cases h3 : n = 16
    · rw [if_neg (fun h => h.2.2 h3)]
      have r3 : decide (n ≥ 16) = true := decide_eq_true (by omega)
      clear h1 h2 h3
      go_enter Tryz.func9, Tryz.ntmps9
      go_wp2_with fail
      refine (CB.out _ ?hh).mono ?_
      case hh => exact Kd.C_below HC.out (show Ext w _ from (by repeat (first | (with_reducible exact Ext.refl _) | (with_reducible assumption) | (with_reducible refine Ext.drewN ?_ _) | (with_reducible refine Ext.drew ?_) | (with_reducible refine Ext.alloc ?_ _) | (with_reducible refine Ext.setCell ?_ (by first | exact Nat.le_refl _ | (simp <;> omega)) _) | (with_reducible refine Ext.trans ?_ (by with_reducible assumption)))))
      rintro e w1 ⟨rfl, B1⟩
      have B1 : Ext _ _ := B1
      have q5 := Ext.boxE 24 B1
      have q8 := Ext.boxS 24 B1
      have F1 : Ext w w1 := (by repeat (first | (with_reducible exact Ext.refl _) | (with_reducible assumption) | (with_reducible refine Ext.drewN ?_ _) | (with_reducible refine Ext.drew ?_) | (with_reducible refine Ext.alloc ?_ _) | (with_reducible refine Ext.setCell ?_ (by first | exact Nat.le_refl _ | (simp <;> omega)) _) | (with_reducible refine Ext.trans ?_ (by with_reducible assumption))))
      have hS := F1.size
      obtain ⟨y0, y1, y2, y3, y4, y5⟩ := box6 q5
      go_wp2_with fail
      refine (CU.out _).mono ?_
      rintro e w2 ⟨rfl, B2⟩
      clear y0 y1 y2 y3 y4 y5
      replace q5 := B2.blk q5
      replace q8 := B2.blk q8
      obtain ⟨y0, y1, y2, y3, y4, y5⟩ := box6 q5
      go_wp2_with fail
      refine (CC.out _ ?hh).mono ?_
      case hh => exact Kd.C_below HC.out (show Ext w _ from (by repeat (first | (with_reducible exact Ext.refl _) | (with_reducible assumption) | (with_reducible refine Ext.drewN ?_ _) | (with_reducible refine Ext.drew ?_) | (with_reducible refine Ext.alloc ?_ _) | (with_reducible refine Ext.setCell ?_ (by first | exact Nat.le_refl _ | (simp <;> omega)) _) | (with_reducible refine Ext.trans ?_ (by with_reducible assumption)))))
      rintro e w3 ⟨A3, c3, rfl, R3, B3⟩
      clear y0 y1 y2 y3 y4 y5
      replace q5 := B3.blk q5
      replace q8 := B3.blk q8
      obtain ⟨y0, y1, y2, y3, y4, y5⟩ := box6 q5
      have l5 := blk_lt q5
      have l8 := blk_lt q8
      have F3 : Ext w w3 := (by repeat (first | (with_reducible exact Ext.refl _) | (with_reducible assumption) | (with_reducible refine Ext.drewN ?_ _) | (with_reducible refine Ext.drew ?_) | (with_reducible refine Ext.alloc ?_ _) | (with_reducible refine Ext.setCell ?_ (by first | exact Nat.le_refl _ | (simp <;> omega)) _) | (with_reducible refine Ext.trans ?_ (by with_reducible assumption))))
      have hS3 := F3.size
      go_wp2_with fail
      refine (CF.out _ _).mono ?_
      rintro e w4 ⟨A4, c4, rfl, R4, B4⟩
      replace q8 := B4.pre.blk q8
      clear y0 y1 y2 y3 y4 y5
      obtain ⟨z0, z1, z2, z3, z4, z5⟩ := box6 q8
      obtain ⟨x0, x1, x2, x3, x4, x5⟩ := fro6 q8
      go_wp2
      refine bodyPost_ret (v := .tuple #[.agg #[.int .i64 7, .int .i64 4, .int .i64 0, .int .i64 0, .int .i64 0, .slice A4 0 c4], .int .i64 0]) ?_ rfl ?_
      · simp [results, Tryz.results9, go_sem, z0, z1, z2, z3, z4, z5]
      · have R5 := Kd.R_types (Kd.R_lower R4 (Ext.size (show Ext w _ from (by repeat (first | (with_reducible exact Ext.refl _) | (with_reducible assumption) | (with_reducible refine Ext.drewN ?_ _) | (with_reducible refine Ext.drew ?_) | (with_reducible refine Ext.alloc ?_ _) | (with_reducible refine Ext.setCell ?_ (by first | exact Nat.le_refl _ | (simp <;> omega)) _) | (with_reducible refine Ext.trans ?_ (by with_reducible assumption))))))) q8 (by decide)
        refine ⟨_, rfl, Kd.R_mono (ok := fun k => True ∧ k ≠ w.heap.size + 1) ?_ (fun _ _ => trivial), ?_⟩
        · show Kd.R P.k41 41 _ _ _ _ ([] : List Opn)
          repeat (first | (with_reducible exact R5) | (with_reducible refine Kd.R_far ?_ (fun _ hk => hk.2) _))
        · exact (by repeat (first | (with_reducible exact Ext.refl _) | (with_reducible assumption) | (with_reducible refine Ext.drewN ?_ _) | (with_reducible refine Ext.drew ?_) | (with_reducible refine Ext.alloc ?_ _) | (with_reducible refine Ext.setCell ?_ (by first | exact Nat.le_refl _ | (simp <;> omega)) _) | (with_reducible refine Ext.trans ?_ (by with_reducible assumption))))
    have r3 : decide (n ≥ 16) = false := decide_eq_false (by omega)
    rw [if_pos ⟨h1, h2, h3⟩]
    have CV := Lib.hid (fun w => rbase_ok sl ⟨hs1, hs2⟩ w)
    have CW := Lib.hid (fun w => rwords_ok (192 + 288 * sl + g) data (wordsMay_ok (by omega) (by omega) (by omega)) hz w)
    clear h1 h2 h3
    generalize wordsAt (192 + 288 * sl + g) data = ws at *
    go_enter Tryz.func9, Tryz.ntmps9
    go_wp2_with fail
    refine (CB.out _ ?hh).mono ?_
    case hh => exact Kd.C_below HC.out (show Ext w _ from (by repeat (first | (with_reducible exact Ext.refl _) | (with_reducible assumption) | (with_reducible refine Ext.drewN ?_ _) | (with_reducible refine Ext.drew ?_) | (with_reducible refine Ext.alloc ?_ _) | (with_reducible refine Ext.setCell ?_ (by first | exact Nat.le_refl _ | (simp <;> omega)) _) | (with_reducible refine Ext.trans ?_ (by with_reducible assumption)))))
    rintro e w1 ⟨rfl, B1⟩
    have B1 : Ext _ _ := B1
    have q5 := Ext.boxE 24 B1
    have q8 := Ext.boxS 24 B1
    have F1 : Ext w w1 := (by repeat (first | (with_reducible exact Ext.refl _) | (with_reducible assumption) | (with_reducible refine Ext.drewN ?_ _) | (with_reducible refine Ext.drew ?_) | (with_reducible refine Ext.alloc ?_ _) | (with_reducible refine Ext.setCell ?_ (by first | exact Nat.le_refl _ | (simp <;> omega)) _) | (with_reducible refine Ext.trans ?_ (by with_reducible assumption))))
    have hS := F1.size
    obtain ⟨y0, y1, y2, y3, y4, y5⟩ := box6 q5
    go_wp2_with fail
    refine (CU.out _).mono ?_
    rintro e w2 ⟨rfl, B2⟩
    clear y0 y1 y2 y3 y4 y5
    replace q5 := B2.blk q5
    replace q8 := B2.blk q8
    obtain ⟨y0, y1, y2, y3, y4, y5⟩ := box6 q5
    go_wp2_with fail
    refine (CC.out _ ?hh).mono ?_
    case hh => exact Kd.C_below HC.out (show Ext w _ from (by repeat (first | (with_reducible exact Ext.refl _) | (with_reducible assumption) | (with_reducible refine Ext.drewN ?_ _) | (with_reducible refine Ext.drew ?_) | (with_reducible refine Ext.alloc ?_ _) | (with_reducible refine Ext.setCell ?_ (by first | exact Nat.le_refl _ | (simp <;> omega)) _) | (with_reducible refine Ext.trans ?_ (by with_reducible assumption)))))
    rintro e w3 ⟨A3, c3, rfl, R3, B3⟩
    clear y0 y1 y2 y3 y4 y5
    replace q5 := B3.blk q5
    replace q8 := B3.blk q8
    obtain ⟨y0, y1, y2, y3, y4, y5⟩ := box6 q5
    have l5 := blk_lt q5
    have l8 := blk_lt q8
    have F3 : Ext w w3 := (by repeat (first | (with_reducible exact Ext.refl _) | (with_reducible assumption) | (with_reducible refine Ext.drewN ?_ _) | (with_reducible refine Ext.drew ?_) | (with_reducible refine Ext.alloc ?_ _) | (with_reducible refine Ext.setCell ?_ (by first | exact Nat.le_refl _ | (simp <;> omega)) _) | (with_reducible refine Ext.trans ?_ (by with_reducible assumption))))
    have hS3 := F3.size
    go_wp2_with fail
    refine (CV.out _).mono ?_
    rintro e w4 ⟨rfl, B4⟩
    have q10 := B4.box
    replace q8 := B4.pre.blk q8
    clear y0 y1 y2 y3 y4 y5
    obtain ⟨y0, y1, y2, y3, y4, y5⟩ := box6 (B4.pre.blk q5)
    go_wp2_with fail
    refine (CW.out _).mono ?_
    rintro e w6 ⟨A6, c6, rfl, R6, B6⟩
    clear y0 y1 y2 y3 y4 y5
    replace q5 := B6.blk (B4.pre.blk q5)
    replace q8 := B6.blk q8
    replace q10 := B6.blk q10
    have n1 : w3.heap.size ≠ w.heap.size + 1 := by omega
    have n2 : w.heap.size + 1 ≠ w3.heap.size := by omega
    have n3 : w3.heap.size ≠ w.heap.size := by omega
    have n4 : w.heap.size ≠ w3.heap.size := by omega
    obtain ⟨y0, y1, y2, y3, y4, y5⟩ := box6 q5
    obtain ⟨z0, z1, z2, z3, z4, z5⟩ := box6 q8
    obtain ⟨x0, x1, x2, x3, x4, x5⟩ := fro6 q8
    obtain ⟨u0, u1, u2, u3, u4, u5⟩ := box6 q10
    obtain ⟨v0, v1, v2, v3, v4, v5⟩ := fro6 q10
    go_wp2
    refine bodyPost_ret (v := .tuple #[.agg #[.int .i64 1, .int .i64 st, .int .i64 (n + 1), .int .i64 (g + (data.size : Int)), .int .i64 sl, .slice A6 ws.length c6], .int .i64 0]) ?_ rfl ?_
    · simp [results, Tryz.results9, go_sem, z0, z1, z2, z3, z4, z5, n1, n2]
    · have R7 := Kd.R_types (Kd.R_types (Kd.R_lower R6 (Ext.size (show Ext w _ from (by repeat (first | (with_reducible exact Ext.refl _) | (with_reducible assumption) | (with_reducible refine Ext.drewN ?_ _) | (with_reducible refine Ext.drew ?_) | (with_reducible refine Ext.alloc ?_ _) | (with_reducible refine Ext.setCell ?_ (by first | exact Nat.le_refl _ | (simp <;> omega)) _) | (with_reducible refine Ext.trans ?_ (by with_reducible assumption))))))) q8 (by decide)) q10 (by decide)
      refine ⟨_, rfl, Kd.R_mono (ok := fun k => (True ∧ k ≠ w.heap.size + 1) ∧ k ≠ w3.heap.size) ?_ (fun _ _ => trivial), ?_⟩
      · show Kd.R P.k41 41 _ _ _ _ ws
        repeat (first | (with_reducible exact R7) | (with_reducible refine Kd.R_far ?_ (fun _ hk => by first | exact hk.2 | exact hk.1.2) _))
      · exact (by repeat (first | (with_reducible exact Ext.refl _) | (with_reducible assumption) | (with_reducible refine Ext.drewN ?_ _) | (with_reducible refine Ext.drew ?_) | (with_reducible refine Ext.alloc ?_ _) | (with_reducible refine Ext.setCell ?_ (by first | exact Nat.le_refl _ | (simp <;> omega)) _) | (with_reducible refine Ext.trans ?_ (by with_reducible assumption))))

/-- What the reference's Download gives. -/
theorem rdw_calls (f : ByteArray) (s st n g sl : Int) (A : Option Addr) (c : Nat) (l : List Opn) (b : Int) (data : ByteArray) (w : World) (hC : Kd.C P.k41 w A l.length l) (hc : l.length ≤ c) (hz : data.size ≤ 140737488351232) :
    Calls Tryz.prog 9 #[.string f, .agg #[.int .i64 s, .int .i64 st, .int .i64 n, .int .i64 g, .int .i64 sl, .slice A l.length c], .int .i64 b, .string data] w (DwnPost w (dwnTup f s st n g sl l b data)) := by
  unfold dwnTup
  cases h : dwnMay f s st n g sl l b (data.size : Int)
  · rw [if_neg Bool.false_ne_true]
    exact rdw_fail f s st n g sl A c l b data w hC hc hz h
  · rw [if_pos rfl]
    exact rdw_ok f s st n g sl A c l b data w hC hc hz h

end Go.Proofs.YthkpaoajfiapkaaGreat
end
section
set_option linter.unusedVariables false
set_option linter.unusedSimpArgs false
set_option maxHeartbeats 4000000
namespace Go.Proofs.YthkpaoajfiapkaaGreat
open Go.RowKit Skiff Go.Proofs.YthkpaoajfiapkaaGreatW.PrintWords Go.Proofs.YthkpaoajfiapkaaGreatW.PrintMore O

theorem take_ok (f : ByteArray) (s st n g sl : Int) (A : Option Addr) (c : Nat) (l : List Opn) (b : Int) (data : ByteArray) (s' st' n' g' sl' : Int) (ops : List Opn) (code : Int) (hd : dwnTup f s st n g sl l b data = (s', st', n', g', sl', ops, code)) (ho : OkOps l) (w : World) (hC : Kd.C P.k41 w A l.length l) (hc : l.length ≤ c) :
    Calls Tryz.prog 8 #[.string f, .agg #[.int .i64 s, .int .i64 st, .int .i64 n, .int .i64 g, .int .i64 sl, .slice A l.length c], .int .i64 b, .string data] w fun e w' => ∃ A' c', e = .returned (.tuple #[.agg #[.int .i64 s', .int .i64 st', .int .i64 n', .int .i64 g', .int .i64 sl', .slice A' ops.length c'], .int .i64 code]) ∧ Kd.R P.k41 41 w' w.heap.size (fun _ => True) (.slice A' ops.length c') ops ∧ ops.length ≤ c' ∧ Ext w w' :=
  (P.download_Take.calls 300 f s st n g sl A c l b data s' st' n' g' sl' ops code w hC hc ((take_f f s st n g sl l b data 300 (by omega) ho).trans (congrArg some hd))).mono fun e w' ⟨v, he, hr, hb⟩ => by
    obtain ⟨A', c', rfl, hcc, _⟩ := Kd.R_reads hr
    exact ⟨A', c', he, hr, hcc, hb⟩
theorem rdw_eq (f : ByteArray) (s st n g sl : Int) (A : Option Addr) (c : Nat) (l : List Opn) (b : Int) (data : ByteArray) (s' st' n' g' sl' : Int) (ops : List Opn) (code : Int) (hd : dwnTup f s st n g sl l b data = (s', st', n', g', sl', ops, code)) (hz : data.size ≤ 140737488351232) (w : World) (hC : Kd.C P.k41 w A l.length l) (hc : l.length ≤ c) :
    Calls Tryz.prog 9 #[.string f, .agg #[.int .i64 s, .int .i64 st, .int .i64 n, .int .i64 g, .int .i64 sl, .slice A l.length c], .int .i64 b, .string data] w fun e w' => ∃ A' c', e = .returned (.tuple #[.agg #[.int .i64 s', .int .i64 st', .int .i64 n', .int .i64 g', .int .i64 sl', .slice A' ops.length c'], .int .i64 code]) ∧ Kd.R P.k41 41 w' w.heap.size (fun _ => True) (.slice A' ops.length c') ops ∧ ops.length ≤ c' ∧ Ext w w' :=
  (rdw_calls f s st n g sl A c l b data w hC hc hz).mono fun e w' ⟨v, he, hr, hb⟩ => by
    rw [hd] at he hr
    obtain ⟨A', c', rfl, hcc, _⟩ := Kd.R_reads hr
    exact ⟨A', c', he, hr, hcc, hb⟩
theorem fl_size : (mk flash0).size = 768 := by rw [mk_size, flash0_length]
theorem new_c (w : World) : Calls Tryz.prog 35 #[] w fun e w' => ∃ A c, e = .returned (.agg #[.int .i64 0, .int .i64 0, .int .i64 0, .int .i64 0, .int .i64 0, .slice A 0 c]) ∧ Ext w w' :=
  (P.skiffref16_NewDevice.calls 0 0 0 0 0 [] w rfl).mono fun e w' ⟨v, he, hr, hb⟩ => by
    obtain ⟨A', c', rfl, _⟩ := Kd.R_slice hr
    exact ⟨A', c', he, hb⟩
def sentB : ByteArray := ⟨#[48, 49, 50, 51, 52, 53, 54, 55, 56, 57, 97, 98, 99, 100, 101, 102, 48, 49, 50, 51, 52, 53, 54, 55, 56, 57, 97, 98, 99, 100, 101, 102]⟩
def sentL : List Opn := eraseOps 0 ++ wordsAt 192 sentB
theorem other_blank : otherOf (mk flash0) = 0 := by kernel_rfl
theorem sentL_len : sentL.length = 11 := by kernel_rfl
theorem okOps_nil : OkOps ([] : List Opn) := fun o h => by cases h
theorem okOps_all {l : List Opn} (h : opsMayB l = true) : OkOps l := fun o ho => by
  have := opMay_lt (List.all_eq_true.1 h o ho); omega
theorem sent_may : opsMayB sentL = true := by kernel_rfl
theorem sent_t : dwnTup (mk flash0) 0 0 0 0 0 [] 0 sentB = (1, 0, 1, 32, 0, sentL, 0) := by
  unfold dwnTup dwnMay
  rw [decide_eq_true fl_size, if_pos (by kernel_rfl)]
  unfold dwnDev beginT
  rw [if_pos rfl, if_neg (by decide), if_pos rfl, other_blank]
  rfl
set_option maxRecDepth 100000 in
theorem sent_c (w : World) : Calls Tryz.prog 16 #[] w fun e w' => ∃ A c, e = .returned (.agg #[.int .i64 1, .int .i64 0, .int .i64 1, .int .i64 32, .int .i64 0, .slice A 11 c]) ∧ Kd.R P.k41 41 w' w.heap.size (fun _ => True) (.slice A 11 c) sentL ∧ 11 ≤ c ∧ Ext w w' := by
  have PB := Lib.hid (fun w => P.skiffref1_Blank.calls (mk flash0) w rfl)
  have CN := Lib.hid (fun w => new_c w)
  have CD := Lib.hid (fun A c w => rdw_eq (mk flash0) 0 0 0 0 0 A c [] 0 sentB 1 0 1 32 0 sentL 0 sent_t (by decide) w (Kd.C_none _ _ _) (Nat.zero_le _))
  unfold sentB at CD
  have HL := Lib.hid sentL_len
  rw [sentL_len] at CD
  simp only [List.length_nil] at CD
  generalize sentL = sl at *
  generalize mk flash0 = F at *
  go_enter Tryz.func16, Tryz.ntmps16
  go_wp2_with fail
  refine (PB.out _).mono ?_
  rintro e w1 ⟨rfl, B1⟩; have B1 : Ext _ _ := B1
  go_wp2_with fail
  refine (CN.out _).mono ?_
  rintro e w2 ⟨A2, c2, rfl, B2⟩
  go_wp2_with fail
  refine (CD.out _ _ _).mono ?_
  rintro e w3 ⟨A3, c3, rfl, R3, hc3, B3⟩
  have q0 := B3.blk (B2.blk (B1.box))
  obtain ⟨z0, z1, z2, z3, z4, z5⟩ := box6 q0
  obtain ⟨x0, x1, x2, x3, x4, x5⟩ := fro6 q0
  have l0 := blk_lt q0
  have F3 : Ext w w3 := (by repeat (first | (with_reducible exact Ext.refl _) | (with_reducible assumption) | (with_reducible refine Ext.drewN ?_ _) | (with_reducible refine Ext.drew ?_) | (with_reducible refine Ext.alloc ?_ _) | (with_reducible refine Ext.setCell ?_ (by first | exact Nat.le_refl _ | (simp <;> omega)) _) | (with_reducible refine Ext.trans ?_ (by with_reducible assumption))))
  go_wp2
  refine bodyPost_ret (v := .agg #[.int .i64 1, .int .i64 0, .int .i64 1, .int .i64 32, .int .i64 0, .slice A3 11 c3]) ?_ rfl ?_
  · simp [results, Tryz.results16, go_sem, z0, z1, z2, z3, z4, z5, l0]
  · have R5 := Kd.R_types (Kd.R_lower R3 (Ext.size (show Ext w _ from (by repeat (first | (with_reducible exact Ext.refl _) | (with_reducible assumption) | (with_reducible refine Ext.drewN ?_ _) | (with_reducible refine Ext.drew ?_) | (with_reducible refine Ext.alloc ?_ _) | (with_reducible refine Ext.setCell ?_ (by first | exact Nat.le_refl _ | (simp <;> omega)) _) | (with_reducible refine Ext.trans ?_ (by with_reducible assumption))))))) q0 (by decide)
    refine ⟨A3, c3, rfl, Kd.R_mono (ok := fun k => True ∧ k ≠ w.heap.size) ?_ (fun _ _ => trivial), hc3, (by repeat (first | (with_reducible exact Ext.refl _) | (with_reducible assumption) | (with_reducible refine Ext.drewN ?_ _) | (with_reducible refine Ext.drew ?_) | (with_reducible refine Ext.alloc ?_ _) | (with_reducible refine Ext.setCell ?_ (by first | exact Nat.le_refl _ | (simp <;> omega)) _) | (with_reducible refine Ext.trans ?_ (by with_reducible assumption))))⟩
    repeat (first | (with_reducible exact R5) | (with_reducible refine Kd.R_far ?_ (fun _ hk => hk.2) _) | (with_reducible refine Kd.R_alloc ?_ _))
theorem numd_c (x : Int) (w : World) : Calls Tryz.prog 11 #[.int .i64 x] w fun e w' => e = .returned (.int .i64 x) ∧ ∃ k, w' = w.drewN k :=
  (P.skifflaw0_Num.calls x x w rfl).mono fun e w' ⟨he, hd⟩ => ⟨he, hd.out⟩
def xyB : ByteArray := ⟨#[120, 121]⟩
def abcdB : ByteArray := ⟨#[97, 98, 99, 100]⟩
def xB : ByteArray := ⟨#[120]⟩
def opsA : List Opn := eraseOps 0 ++ wordsAt 192 abcdB
def opC : Opn := ⟨false, 224, ⟨#[120, 121, 255, 255]⟩⟩
theorem aw_a : dwnTup (mk flash0) 0 0 0 0 0 [] 0 abcdB = (1, 0, 1, 4, 0, opsA, 0) := by kernel_rfl
theorem aw_b : dwnTup (mk flash0) 3 0 1 32 0 [] 0 xB = (1, 0, 1, 32, 0, [], 0) := by kernel_rfl
theorem aw_c : dwnTup (mk flash0) 3 0 1 32 0 [] 1 xyB = (1, 0, 2, 34, 0, [opC], 0) := by kernel_rfl
theorem aw_p : dwnTup (mk flash0) 3 0 1 32 0 [] 1 ⟨#[]⟩ = (4, 0, 1, 32, 0, [], 0) := by kernel_rfl
theorem aw_q : dwnTup (mk flash0) 3 0 1 32 0 [] 2 xyB = (7, 4, 0, 0, 0, [], 0) := by kernel_rfl
theorem aw_k : dwnTup (mk flash0) 1 0 1 32 0 sentL 1 xyB = (0, 0, 0, 0, 0, [], 1700) := by kernel_rfl
theorem opsA_len : opsA.length = 4 := by kernel_rfl
set_option maxRecDepth 100000 in
theorem awake17_c (w : World) : Calls Tryz.prog 13 #[] w fun e w' => e = .returned (.bool true) ∧ Ext w w' := by
  have PB := Lib.hid (fun w => P.skiffref1_Blank.calls (mk flash0) w rfl)
  have CS := Lib.hid (fun w => sent_c w)
  have Ta := Lib.hid (fun A c w => take_ok (mk flash0) 0 0 0 0 0 A c [] 0 abcdB _ _ _ _ _ _ _ aw_a okOps_nil w (Kd.C_none _ _ _) (Nat.zero_le _))
  have Tb := Lib.hid (fun A c w => take_ok (mk flash0) 3 0 1 32 0 A c [] 0 xB _ _ _ _ _ _ _ aw_b okOps_nil w (Kd.C_none _ _ _) (Nat.zero_le _))
  have Tc := Lib.hid (fun A c w => take_ok (mk flash0) 3 0 1 32 0 A c [] 1 xyB _ _ _ _ _ _ _ aw_c okOps_nil w (Kd.C_none _ _ _) (Nat.zero_le _))
  have Tp := Lib.hid (fun A c w => take_ok (mk flash0) 3 0 1 32 0 A c [] 1 ⟨#[]⟩ _ _ _ _ _ _ _ aw_p okOps_nil w (Kd.C_none _ _ _) (Nat.zero_le _))
  have Tq := Lib.hid (fun A c w => take_ok (mk flash0) 3 0 1 32 0 A c [] 2 xyB _ _ _ _ _ _ _ aw_q okOps_nil w (Kd.C_none _ _ _) (Nat.zero_le _))
  have Tk := Lib.hid (fun A c w h1 h2 => take_ok (mk flash0) 1 0 1 32 0 A c sentL 1 xyB _ _ _ _ _ _ _ aw_k (okOps_all sent_may) w h1 h2)
  have SO := Lib.hid (fun A c A' c' w h1 h2 h3 h4 => P.skifflaw0_SameOps.calls 300 A c [opC] A' c' [opC] true w h1 h2 h3 h4 (same_f [opC] (by simp) 300 (by simp)))
  unfold abcdB at Ta
  unfold xB at Tb
  unfold xyB at Tc Tq Tk
  rw [opsA_len] at Ta
  rw [sentL_len] at Tk
  simp only [List.length_nil, List.length_singleton] at Ta Tb Tc Tp Tq Tk SO
  have hF : (mk flash0).size = 768 := fl_size
  have HL := Lib.hid sentL_len
  generalize sentL = sl at *
  generalize opsA = la at *
  have HF := Lib.hid hF
  clear hF
  generalize mk flash0 = F at *
  go_enter Tryz.func13, Tryz.ntmps13
  go_wp2_with fail
  refine (PB.out _).mono ?_
  rintro e w1 ⟨rfl, B1⟩; have B1 : Ext _ _ := B1
  go_wp2_with fail
  refine (Ta.out _ _ _).mono ?_
  rintro e w2 ⟨A2, c2, rfl, R2, hc2, B2⟩
  go_wp2_with fail
  refine (CS.out _).mono ?_
  rintro e w3 ⟨A3, c3, rfl, R3, hc3, B3⟩
  have qa := B3.box
  go_wp2_with fail
  refine (Tb.out _ _ _).mono ?_
  rintro e w4 ⟨A4, c4, rfl, R4, hc4, B4⟩
  replace qa := B4.pre.blk qa
  have qd := B4.box
  have ld := blk_lt qd
  obtain ⟨d0, d1, d2, d3, d4, d5⟩ := box6 qd
  go_wp2_with fail
  refine (Tc.out _ _ _).mono ?_
  rintro e w5 ⟨A5, c5, rfl, R5, hc5, B5⟩
  clear d0 d1 d2 d3 d4 d5 ld
  replace qa := B5.pre.blk qa
  replace qd := B5.pre.blk qd
  have qb := B5.box
  have ld := blk_lt qd
  obtain ⟨d0, d1, d2, d3, d4, d5⟩ := box6 qd
  go_wp2_with fail
  refine (Tp.out _ _ _).mono ?_
  rintro e w6 ⟨A6, c6, rfl, R6, hc6, B6⟩
  clear d0 d1 d2 d3 d4 d5 ld
  replace qa := B6.pre.blk qa
  replace qd := B6.pre.blk qd
  replace qb := B6.pre.blk qb
  have qc := B6.box
  have ld := blk_lt qd
  obtain ⟨d0, d1, d2, d3, d4, d5⟩ := box6 qd
  go_wp2_with fail
  refine (Tq.out _ _ _).mono ?_
  rintro e w7 ⟨A7, c7, rfl, R7, hc7, B7⟩
  clear d0 d1 d2 d3 d4 d5 ld
  replace qa := B7.pre.blk qa
  replace qb := B7.pre.blk qb
  replace qc := B7.pre.blk qc
  have qp := B7.box
  go_wp2_with fail
  refine (CS.out _).mono ?_
  rintro e w8 ⟨A8, c8, rfl, R8, hc8, B8⟩
  have qq := B8.box
  have hC8 : Kd.C P.k41 w8 A8 11 sl := by have h_ := (Kd.R_reads' R8).2.2; rw [HL.out] at h_; exact h_
  go_wp2_with fail
  refine (Tk.out _ _ _ hC8 hc8).mono ?_
  rintro e w9 ⟨A9, c9, rfl, R9, hc9, B9⟩
  replace qa := B9.blk (B8.pre.blk qa)
  replace qb := B9.blk (B8.pre.blk qb)
  replace qc := B9.blk (B8.pre.blk qc)
  replace qp := B9.blk (B8.pre.blk qp)
  replace qq := B9.blk qq
  have la' := blk_lt qa
  have lb := blk_lt qb
  have lc := blk_lt qc
  have lp := blk_lt qp
  have lq := blk_lt qq
  obtain ⟨a0, a1, a2, a3, a4, a5⟩ := box6 qa
  obtain ⟨b0, b1, b2, b3, b4, b5⟩ := box6 qb
  obtain ⟨f0, f1, f2, f3, f4, f5⟩ := box6 qc
  obtain ⟨p0, p1, p2, p3, p4, p5⟩ := box6 qp
  obtain ⟨g0, g1, g2, g3, g4, g5⟩ := box6 qq
  go_wp2_with ((go_at_call 11; (with_reducible refine (numd_c _ _).mono ?_); rintro e w' ⟨rfl, k, rfl⟩))
  refine (SO.out A5 c5 _ 1 _ ?h1 hc5 ?h3 (Nat.le_refl _)).mono ?_
  case h1 => exact Kd.C_below (show Kd.C P.k41 w5 A5 1 [opC] from (Kd.R_reads' R5).2.2) (show Ext w5 _ from (by repeat (first | (with_reducible exact Ext.refl _) | (with_reducible assumption) | (with_reducible refine Ext.drewN ?_ _) | (with_reducible refine Ext.drew ?_) | (with_reducible refine Ext.alloc ?_ _) | (with_reducible refine Ext.setCell ?_ (by first | exact Nat.le_refl _ | (simp <;> omega)) _) | (with_reducible refine Ext.trans ?_ (by with_reducible assumption)))))
  case h3 => exact Kd.C_single P.k41 (t := 41) (P.k41_mk _ opC) (blk_at (by simp))
  rintro e w10 ⟨rfl, B10⟩
  have B10 : Ext _ _ := B10.below
  have F10 : Ext w9 w10 := (by repeat (first | (with_reducible exact Ext.refl _) | (with_reducible assumption) | (with_reducible refine Ext.drewN ?_ _) | (with_reducible refine Ext.drew ?_) | (with_reducible refine Ext.alloc ?_ _) | (with_reducible refine Ext.setCell ?_ (by first | exact Nat.le_refl _ | (simp <;> omega)) _) | (with_reducible refine Ext.trans ?_ (by with_reducible assumption))))
  clear a0 a1 a2 a3 a4 a5 b0 b1 b2 b3 b4 b5 f0 f1 f2 f3 f4 f5 p0 p1 p2 p3 p4 p5 g0 g1 g2 g3 g4 g5 la' lb lc lp lq
  obtain ⟨p0, p1, p2, p3, p4, p5⟩ := box6 (F10.blk qp)
  obtain ⟨g0, g1, g2, g3, g4, g5⟩ := box6 (F10.blk qq)
  go_wp2_with ((go_at_call 11; (with_reducible refine (numd_c _ _).mono ?_); rintro e w' ⟨rfl, k, rfl⟩))
  go_ret
  exact ⟨rfl, (by repeat (first | (with_reducible exact Ext.refl _) | (with_reducible assumption) | (with_reducible refine Ext.drewN ?_ _) | (with_reducible refine Ext.drew ?_) | (with_reducible refine Ext.alloc ?_ _) | (with_reducible refine Ext.setCell ?_ (by first | exact Nat.le_refl _ | (simp <;> omega)) _) | (with_reducible refine Ext.trans ?_ (by with_reducible assumption))))⟩

end Go.Proofs.YthkpaoajfiapkaaGreat
end
section
set_option linter.unusedVariables false
set_option linter.unusedSimpArgs false
set_option maxHeartbeats 4000000
namespace Go.Proofs.YthkpaoajfiapkaaGreat.P
open Go.RowKit Go.Deep Go.ChangeShapes Go.WideShapes Go.Proofs.YthkpaoajfiapkaaGreatW.PrintWords

theorem list3 {α : Type} {l : List α} (h : l.length = 3) : ∃ a b c, l = [a, b, c] := by
  match l, h with
  | [a, b, c], _ => exact ⟨a, b, c, rfl⟩
theorem list5 {α : Type} {l : List α} (h : l.length = 5) : ∃ a b c d e, l = [a, b, c, d, e] := by
  match l, h with
  | [a, b, c, d, e], _ => exact ⟨a, b, c, d, e, rfl⟩
theorem list6 {α : Type} {l : List α} (h : l.length = 6) : ∃ a b c d e f, l = [a, b, c, d, e, f] := by
  match l, h with
  | [a, b, c, d, e, f], _ => exact ⟨a, b, c, d, e, f, rfl⟩
section
variable {H : Type} {enc : TypeId × Value → H} {W : World} {base : Nat} {spare : Nat → Bool} {held : Bool}
theorem cells_bool : Tryz.prog.cellsOf 4 = 1 := by kernel_rfl
theorem cells_int : Tryz.prog.cellsOf 3 = 1 := by kernel_rfl
theorem cells_string : Tryz.prog.cellsOf 9 = 1 := by kernel_rfl
theorem cells_ops : Tryz.prog.cellsOf 22 = 1 := by kernel_rfl
theorem cells_op : Tryz.prog.cellsOf 41 = 3 := by kernel_rfl
theorem cells_device : Tryz.prog.cellsOf 24 = 6 := by kernel_rfl
set_option maxRecDepth 100000 in
theorem open_op {n : Nat} {cs : List Value} {x : DataW H × List MemPlace} (h : DataW.trod enc Tryz.prog W base spare held n 41 cs = some x) :
    ∃ o : S41, cs = [.bool o.f0, .int .i64 o.f1, .string o.f2] ∧ (Lit.int .i64 o.f1).wf = true := by
  obtain ⟨xs, k, _, _, hcl, hxl, hf⟩ := DataW.trod_struct Tryz.underlying41 h
  rw [cells_op] at hcl
  obtain ⟨y0, y1, y2, rfl⟩ := list3 hxl
  obtain ⟨v0, v1, v2, rfl⟩ := list3 hcl
  have g0 := hf 0 _ rfl
  have g1 := hf 1 _ rfl
  have g2 := hf 2 _ rfl
  simp [cells_bool, cells_int, cells_string] at g0 g1 g2
  obtain ⟨b, e0, _⟩ := DataW.trod_bool Tryz.underlying4 g0
  obtain ⟨i, e1, _, hw⟩ := DataW.trod_int Tryz.underlying3 g1
  obtain ⟨s, e2, _, _⟩ := DataW.trod_string Tryz.underlying9 g2
  obtain rfl := List.singleton_inj.1 e0
  obtain rfl := List.singleton_inj.1 e1
  obtain rfl := List.singleton_inj.1 e2
  exact ⟨⟨b, i, s⟩, rfl, hw⟩
theorem open_ops {n : Nat} {cs : List Value} {x : DataW H × List MemPlace} (h : DataW.trod enc Tryz.prog W base spare held n 22 cs = some x) :
    ∃ (A : Option Addr) (cap : Nat) (l : List (S41)), cs = [.slice A l.length cap] ∧ l.length ≤ cap ∧ Kd.C k41 W A l.length l ∧ ∀ o ∈ l, (Lit.int .i64 o.f1).wf = true := by
  rcases open_slice Tryz.underlying22 h with ⟨rfl, _⟩ | ⟨a, len, cap, m, k, D, Pl, rfl, _, hl, hm, hmm, _, hx⟩
  · exact ⟨none, 0, [], rfl, Nat.le_refl _, Kd.C_nil _ _, fun o ho => by cases ho⟩
  have hlm : len ≤ m := by rw [hmm]; split <;> omega
  have each : ∀ i, i < len → ∃ o : S41, (W.cell? (a.add (i * 3)) = some (.bool o.f0) ∧ W.cell? ((a.add (i * 3)).add 1) = some (.int .i64 o.f1) ∧ W.cell? ((a.add (i * 3)).add 2) = some (.string o.f2)) ∧ (Lit.int .i64 o.f1).wf = true := by
    intro i hi
    obtain ⟨cs', h1, h2⟩ := hx i (by omega)
    rw [cells_op] at h1
    obtain ⟨_, hlen, hcell⟩ := World.cells?_some h1
    obtain ⟨o, rfl, hw⟩ := open_op h2
    have e0 := hcell 0 (by omega)
    have e1 := hcell 1 (by omega)
    have e2 := hcell 2 (by omega)
    refine ⟨o, ⟨?_, ?_, ?_⟩, hw⟩
    · rw [Addr.add_zero'] at e0; simpa using e0
    · simpa using e1
    · simpa using e2
  haveI : Inhabited (S41) := ⟨z41⟩
  obtain ⟨q, hq⟩ := choose_lt each
  have hlen : ((List.range len).map q).length = len := by simp
  refine ⟨some a, cap, (List.range len).map q, by rw [hlen], by rw [hlen]; exact hl, ?_, ?_⟩
  · rw [hlen]
    refine ⟨hlen, by unfold maxLen at hm; omega, fun _ => ⟨a, rfl, fun j p hj => ?_⟩⟩
    have hjl : j < len := by
      have := (List.getElem?_eq_some_iff.1 hj).1
      rw [hlen] at this; exact this
    have hp : q j = p := by
      rw [List.getElem?_map, List.getElem?_range hjl] at hj
      exact Option.some.inj hj
    subst hp
    obtain ⟨⟨e0, e1, e2⟩, _⟩ := hq j hjl
    refine ⟨_, rfl, k41_mk W (q j), fun i u hu => ?_⟩
    have ha : ∀ i, (a.add (j * 3)).add i = a.add (j * 3 + i) := fun i => Go.Deep.add_add _ _ _
    match i, hu with
    | 0, hu => obtain rfl := Option.some.inj hu; exact e0
    | 1, hu => obtain rfl := Option.some.inj hu; exact (congrArg W.cell? (ha 1)).symm.trans e1
    | 2, hu => obtain rfl := Option.some.inj hu; exact (congrArg W.cell? (ha 2)).symm.trans e2
  · intro o ho
    obtain ⟨j, hj, rfl⟩ := List.mem_map.1 ho
    exact (hq j (List.mem_range.1 hj)).2
set_option maxRecDepth 100000 in
theorem open_device {r : Reach} {b0 : Nat} {v : Value} {d : DataW H} {p : List MemPlace} (hv : Value.okWide Tryz.prog W r b0 24 v) (h : DataW.Trod enc Tryz.prog W base spare held 24 v d p) :
    ∃ (x0 x1 x2 x3 x4 : Int) (A : Option Addr) (cap : Nat) (l : List (S41)), v = .agg #[.int .i64 x0, .int .i64 x1, .int .i64 x2, .int .i64 x3, .int .i64 x4, .slice A l.length cap] ∧ l.length ≤ cap ∧ Kd.C k41 W A l.length l ∧ (∀ o ∈ l, (Lit.int .i64 o.f1).wf = true) ∧
      (Lit.int .i64 x0).wf = true ∧ (Lit.int .i64 x1).wf = true ∧ (Lit.int .i64 x2).wf = true ∧ (Lit.int .i64 x3).wf = true ∧ (Lit.int .i64 x4).wf = true := by
  obtain ⟨cs, rfl, hsz⟩ := okWide_struct Tryz.underlying24 hv
  obtain ⟨fuel, hf⟩ := h
  obtain ⟨cs⟩ := cs
  obtain ⟨xs, k, _, _, _, hxl, hf⟩ := DataW.trod_struct Tryz.underlying24 hf
  rw [cells_device] at hsz
  obtain ⟨y0, y1, y2, y3, y4, y5, rfl⟩ := list6 hxl
  obtain ⟨v0, v1, v2, v3, v4, v5, rfl⟩ := list6 (l := cs) hsz
  have g0 := hf 0 _ rfl
  have g1 := hf 1 _ rfl
  have g2 := hf 2 _ rfl
  have g3 := hf 3 _ rfl
  have g4 := hf 4 _ rfl
  have g5 := hf 5 _ rfl
  simp [Value.cells, cells_int, cells_ops] at g0 g1 g2 g3 g4 g5
  obtain ⟨x0, e0, _, w0⟩ := DataW.trod_int Tryz.underlying3 g0
  obtain ⟨x1, e1, _, w1⟩ := DataW.trod_int Tryz.underlying3 g1
  obtain ⟨x2, e2, _, w2⟩ := DataW.trod_int Tryz.underlying3 g2
  obtain ⟨x3, e3, _, w3⟩ := DataW.trod_int Tryz.underlying3 g3
  obtain ⟨x4, e4, _, w4⟩ := DataW.trod_int Tryz.underlying3 g4
  obtain ⟨A, cap, l, e5, hl, hc, hw⟩ := open_ops g5
  obtain rfl := List.singleton_inj.1 e0
  obtain rfl := List.singleton_inj.1 e1
  obtain rfl := List.singleton_inj.1 e2
  obtain rfl := List.singleton_inj.1 e3
  obtain rfl := List.singleton_inj.1 e4
  obtain rfl := List.singleton_inj.1 e5
  exact ⟨x0, x1, x2, x3, x4, A, cap, l, rfl, hl, hc, hw, w0, w1, w2, w3, w4⟩
/-- How many steps a device that came in may have. -/
theorem dev_len {v : List Value} {n cap : Nat} {A : Option Addr} {d : DataW H} {p : List MemPlace} (h : DataW.Trod enc Tryz.prog W base spare held 24 (.agg ⟨v ++ [.slice A n cap]⟩) d p) (h5 : v.length = 5)
    (hs : ∀ m ∈ d.weights Tryz.prog 24, m ≤ reachBytes) : n * 32 ≤ reachBytes := by
  obtain ⟨fuel, hf⟩ := h
  obtain ⟨xs, k, _, hx, _, hxl, hf⟩ := DataW.trod_struct Tryz.underlying24 hf
  obtain ⟨y0, y1, y2, y3, y4, y5, rfl⟩ := list6 hxl
  obtain ⟨v0, v1, v2, v3, v4, rfl⟩ := list5 h5
  have g5 := hf 5 _ rfl
  simp [Value.cells, cells_ops] at g5
  have hd : d = .agg [y0.1, y1.1, y2.1, y3.1, y4.1, y5.1] := (Prod.mk.inj hx).1
  subst hd
  have hw : ∀ m ∈ DataW.weights Tryz.prog 22 y5.1, m ≤ reachBytes := fun m hm => hs m (by
    rw [DataW.weights, Tryz.underlying24]
    exact DataW.weights_mem_each (j := 5) (t := 22) rfl rfl m hm)
  rcases open_slice Tryz.underlying22 g5 with ⟨e, _⟩ | ⟨a, len, cap, m, k, D, Pl, e, _, hl, hm, hmm, hy, _⟩
  · have e := List.singleton_inj.1 e
    injection e with _ e _
    subst e
    omega
  · have e := List.singleton_inj.1 e
    injection e with _ e _
    subst e
    have e1 : y5.1 = .slice ((List.range n).map D) ((List.range (m - n)).map fun j => D (n + j)) := congrArg Prod.fst hy
    have := hw ((((List.range n).map D).length + ((List.range (m - n)).map fun j => D (n + j)).length) * Tryz.prog.bytesOf 41) (by
      rw [e1, DataW.weights, Tryz.underlying22]
      exact List.mem_cons_self ..)
    rw [show Tryz.prog.bytesOf 41 = 32 by kernel_rfl] at this
    simp only [List.length_map, List.length_range] at this
    omega
end

end Go.Proofs.YthkpaoajfiapkaaGreat.P
end
section
set_option linter.unusedVariables false
set_option linter.unusedSimpArgs false
set_option maxHeartbeats 4000000
namespace Go.Proofs.YthkpaoajfiapkaaGreat
open Go.RowKit Skiff Go.Proofs.YthkpaoajfiapkaaGreatW.PrintWords Go.Proofs.YthkpaoajfiapkaaGreatW.PrintMore O

theorem dwn_len (f : ByteArray) (s st n g sl : Int) (l : List Opn) (b : Int) (data : ByteArray) : (dwnTup f s st n g sl l b data).2.2.2.2.2.1.length ≤ 768 := by
  unfold dwnTup
  cases h : dwnMay f s st n g sl l b (data.size : Int)
  · rw [if_neg Bool.false_ne_true]; exact Nat.zero_le _
  rw [if_pos rfl]
  unfold dwnMay at h
  simp only [Bool.and_eq_true, Bool.or_eq_true, beq_iff_eq, decide_eq_true_iff, Skiff.within_iff] at h
  obtain ⟨hf, hm, hs, hb, hd⟩ := h
  obtain ⟨_, _, _, _, _, hl, _⟩ := dmayB_parts hm
  show (dwnDev f s st n g sl l b data).2.2.2.2.2.length ≤ 768
  have h8 : ∀ a, (wordsAt a data).length ≤ 8 := fun a => wordsAt_len a data (by omega)
  have hz : ∀ x, (failedT x).2.2.2.2.2.length = 0 := fun x => rfl
  unfold dwnDev beginT moreT
  split
  · split
    · rw [hz]; omega
    · split
      · show (eraseOps (otherOf f) ++ wordsAt _ data).length ≤ 768
        have := h8 (192 + 288 * otherOf f)
        have he : (eraseOps (otherOf f)).length = 3 := rfl
        rw [List.length_append]; omega
      · rw [hz]; omega
  · split
    · exact hl
    · split
      · split
        · exact hl
        · split
          · show (wordsAt _ data).length ≤ 768
            have := h8 (192 + 288 * sl + g)
            omega
          · rw [hz]; omega
      · rw [hz]; omega
theorem dspoil_f (a b c d e : Int) (l : List Opn) (hl : l.length < 1000000) : ∃ r, P.skifflaw0_SpoilDevice.f 2000 a b c d e l = some r ∨ ¬ l.length < 2000 := by
  by_cases h : l.length < 2000
  · obtain ⟨r, hr⟩ := O.spoil_f l hl 2000 h
    exact ⟨r, .inl (by unfold P.skifflaw0_SpoilDevice.f; rw [hr]; rfl)⟩
  · exact ⟨[], .inr h⟩
set_option maxRecDepth 100000 in
theorem downloads_walk (f : ByteArray) (s st n g sl : Int) (A : Option Addr) (cap : Nat) (l : List Opn) (b : Int) (data : ByteArray) (hf : f.size ≤ 140737488351232) (f1 : (Lit.int .i64 s).wf = true) (hl : l.length ≤ cap) (ho : ∀ o ∈ l, (Lit.int .i64 o.f1).wf = true) (hs : l.length * 32 ≤ reachBytes) (f2 : (Lit.int .i64 b).wf = true) (hz : data.size ≤ 140737488351232) (w : World) (hc : Kd.C P.k41 w A l.length l) :
    Calls Tryz.prog 3 #[.string f, .agg #[.int .i64 s, .int .i64 st, .int .i64 n, .int .i64 g, .int .i64 sl, .slice A l.length cap], .int .i64 b, .string data] w fun e w' => e = .returned (.bool true) ∧ Ext w w' := by
  have hlen : l.length < 4398046511104 := by unfold reachBytes at hs; omega
  obtain ⟨a0, a1, a2, a3, a4, la, ae, hd⟩ : ∃ a0 a1 a2 a3 a4 la ae, dwnTup f s st n g sl l b data = (a0, a1, a2, a3, a4, la, ae) := ⟨_, _, _, _, _, _, _, rfl⟩
  have hla : la.length ≤ 768 := by have := dwn_len f s st n g sl l b data; rw [hd] at this; exact this
  obtain ⟨r, hr⟩ := dspoil_f a0 a1 a2 a3 a4 la (by omega)
  have hr : P.skifflaw0_SpoilDevice.f 2000 a0 a1 a2 a3 a4 la = some r := hr.resolve_right (by omega)
  have CA := Lib.hid (fun w => awake17_c w)
  have CC := Lib.hid (fun w h => P.skifflaw0_CopyDevice.calls s st n g sl A cap l _ _ _ _ _ _ w h hl (lcopy_f s st n g sl l hlen))
  have CT := Lib.hid (fun A c w h1 h2 => take_ok f s st n g sl A c l b data a0 a1 a2 a3 a4 la ae hd (ok_of_wf ho) w h1 h2)
  have CR := Lib.hid (fun w h1 => rdw_eq f s st n g sl A cap l b data a0 a1 a2 a3 a4 la ae hd hz w h1 hl)
  have SA := Lib.hid (fun A c A' c' w h1 h2 h3 h4 => P.skifflaw0_SameDevice.calls 2000 a0 a1 a2 a3 a4 A c la a0 a1 a2 a3 a4 A' c' la true w h1 h2 h3 h4 (sameDev_big a0 a1 a2 a3 a4 la 2000 (by omega) (by omega)))
  have SX := Lib.hid (fun A1 c1 w h1 h2 h3 => P.skifflaw0_SameDevice.calls (l.length + 1) s st n g sl A1 c1 l s st n g sl A cap l true w h1 h2 h3 hl (sameDev_big s st n g sl l (l.length + 1) (by omega) (by omega)))
  have SP := Lib.hid (fun v w0 w hB ho0 => P.skifflaw0_SpoilDevice.calls 2000 a0 a1 a2 a3 a4 (fun _ => True) v la r w0 w hB ho0 hr)
  have HC := Lib.hid hc
  clear hd hr ho hs hc hf f1 f2 hz
  go_enter Tryz.func3, Tryz.ntmps3
  go_wp2_with fail
  refine (CC.out _ ?h1).mono ?_
  case h1 => exact Kd.C_below HC.out (show Ext w _ from (by repeat (first | (with_reducible exact Ext.refl _) | (with_reducible assumption) | (with_reducible refine Ext.drewN ?_ _) | (with_reducible refine Ext.drew ?_) | (with_reducible refine Ext.alloc ?_ _) | (with_reducible refine Ext.setCell ?_ (by first | exact Nat.le_refl _ | (simp <;> omega)) _) | (with_reducible refine Ext.trans ?_ (by with_reducible assumption)))))
  rintro e w1 ⟨v1, rfl, R1, B1⟩
  have B1 : Ext _ _ := B1
  obtain ⟨A1, c1, rfl, hc1, D1⟩ := Kd.R_reads R1
  have HD1 := Lib.hid D1
  clear D1
  have q5 := B1.box
  go_wp2_with fail
  refine (CT.out _ _ _ ?h1 hc1).mono ?_
  case h1 => exact Kd.C_below HD1.out (show Ext w1 _ from (by repeat (first | (with_reducible exact Ext.refl _) | (with_reducible assumption) | (with_reducible refine Ext.drewN ?_ _) | (with_reducible refine Ext.drew ?_) | (with_reducible refine Ext.alloc ?_ _) | (with_reducible refine Ext.setCell ?_ (by first | exact Nat.le_refl _ | (simp <;> omega)) _) | (with_reducible refine Ext.trans ?_ (by with_reducible assumption)))))
  rintro e w2 ⟨A2, c2, rfl, R2, hc2, B2⟩
  have q9 := B2.box
  replace q5 := B2.pre.blk q5
  have l5 := blk_lt q5
  obtain ⟨y0, y1, y2, y3, y4, y5⟩ := box6 q5
  go_wp2_with fail
  refine (CR.out _ ?h1).mono ?_
  case h1 => exact Kd.C_below HC.out (show Ext w _ from (by repeat (first | (with_reducible exact Ext.refl _) | (with_reducible assumption) | (with_reducible refine Ext.drewN ?_ _) | (with_reducible refine Ext.drew ?_) | (with_reducible refine Ext.alloc ?_ _) | (with_reducible refine Ext.setCell ?_ (by first | exact Nat.le_refl _ | (simp <;> omega)) _) | (with_reducible refine Ext.trans ?_ (by with_reducible assumption)))))
  rintro e w3 ⟨A3, c3, rfl, R3, hc3, B3⟩
  clear y0 y1 y2 y3 y4 y5 l5
  have q10 := B3.box
  replace q5 := B3.pre.blk q5
  replace q9 := B3.pre.blk q9
  have l10 := blk_lt q10
  obtain ⟨y0, y1, y2, y3, y4, y5⟩ := box6 q10
  go_wp2_with fail
  refine (SA.out _ _ _ _ _ ?h1 hc2 ?h3 hc3).mono ?_
  case h1 => exact Kd.C_below (Kd.R_reads' R2).2.2 (show Ext w2 _ from (by repeat (first | (with_reducible exact Ext.refl _) | (with_reducible assumption) | (with_reducible refine Ext.drewN ?_ _) | (with_reducible refine Ext.drew ?_) | (with_reducible refine Ext.alloc ?_ _) | (with_reducible refine Ext.setCell ?_ (by first | exact Nat.le_refl _ | (simp <;> omega)) _) | (with_reducible refine Ext.trans ?_ (by with_reducible assumption)))))
  case h3 => exact Kd.C_below (Kd.R_reads' R3).2.2 (show Ext w3 _ from (by repeat (first | (with_reducible exact Ext.refl _) | (with_reducible assumption) | (with_reducible refine Ext.drewN ?_ _) | (with_reducible refine Ext.drew ?_) | (with_reducible refine Ext.alloc ?_ _) | (with_reducible refine Ext.setCell ?_ (by first | exact Nat.le_refl _ | (simp <;> omega)) _) | (with_reducible refine Ext.trans ?_ (by with_reducible assumption)))))
  rintro e w4 ⟨rfl, B4⟩
  have B4 : Ext _ _ := B4
  clear y0 y1 y2 y3 y4 y5 l10
  replace q5 := B4.pre.blk q5
  replace q9 := B4.pre.blk q9
  replace q10 := B4.pre.blk q10
  obtain ⟨y0, y1, y2, y3, y4, y5⟩ := box6 q10
  go_wp2_with ((go_at_call 11; (with_reducible refine (numd_c _ _).mono ?_); rintro e w' ⟨rfl, k, rfl⟩))
  clear y0 y1 y2 y3 y4 y5
  refine (SP.out _ _ _ ?hB (Kd.R_below R2 ?hE)).mono ?_
  case hB => exact (show Ext _ _ from (by repeat (first | (with_reducible exact Ext.refl _) | (with_reducible assumption) | (with_reducible refine Ext.drewN ?_ _) | (with_reducible refine Ext.drew ?_) | (with_reducible refine Ext.alloc ?_ _) | (with_reducible refine Ext.setCell ?_ (by first | exact Nat.le_refl _ | (simp <;> omega)) _) | (with_reducible refine Ext.trans ?_ (by with_reducible assumption)))))
  case hE => exact (show Ext w2 _ from (by repeat (first | (with_reducible exact Ext.refl _) | (with_reducible assumption) | (with_reducible refine Ext.drewN ?_ _) | (with_reducible refine Ext.drew ?_) | (with_reducible refine Ext.alloc ?_ _) | (with_reducible refine Ext.setCell ?_ (by first | exact Nat.le_refl _ | (simp <;> omega)) _) | (with_reducible refine Ext.trans ?_ (by with_reducible assumption)))))
  rintro e w5 ⟨rfl, R5, B5, K5⟩
  have B5 : Ext _ _ := B5
  clear R5 K5 q5 q9 q10
  have q9 := B5.box
  have q5 := B5.pre.blk B1.box
  obtain ⟨y0, y1, y2, y3, y4, y5⟩ := box6 q5
  obtain ⟨z0, z1, z2, z3, z4, z5⟩ := box6 q9
  go_wp2_with fail
  refine (SX.out A1 c1 _ ?h1 hc1 ?h3).mono ?_
  case h1 => exact Kd.C_below HD1.out B5.pre
  case h3 => exact Kd.C_below HC.out (B1.pre.trans B5.pre)
  rintro e w6 ⟨rfl, B6⟩
  have B6 : Ext _ _ := B6
  go_wp2_with fail
  refine (CA.out _).mono ?_
  rintro e w7 ⟨rfl, B7⟩; have B7 : Ext _ _ := B7
  go_wp2
  go_ret
  exact ⟨rfl, ((B1.pre.trans B5.pre).trans B6).trans B7⟩

end Go.Proofs.YthkpaoajfiapkaaGreat
end
