/- TickIdle, TickCut. -/
import Derived.Test.YtgoeooghoojdgaaZ4TikR
import Derived.Test.YtgoeooghoojdgaaZ4DevW
import Derived.Test.YtgoeooghoojdgaaZ4Px12
import Derived.Test.YtgoeooghoojdgaaZ4Px13
import Derived.Test.YtgoeooghoojdgaaZ4Px5
set_option linter.unusedVariables false
set_option linter.unusedSimpArgs false
set_option maxHeartbeats 4000000
namespace Go.Proofs.Ytgoeooghoojdgaa
open Go.RowKit Skiff Go.Proofs.YtgoeooghoojdgaaW.PrintWords Go.Proofs.YtgoeooghoojdgaaW.PrintMore O

theorem awake18 (k : Nat) (hk : 300 ≤ k) : P.skifflaw18_awake.f k = some true := by
  have up : ∀ j, P.skifflaw18_awake.f (300 + j) = some true := fun j => by
    induction j with
    | zero => exact awake18_f
    | succ j ih => exact P.skifflaw18_awake.mono (300 + j) _ ih
  obtain ⟨j, rfl⟩ : ∃ j, k = 300 + j := ⟨k - 300, by omega⟩
  exact up j
theorem empty_l : (⟨#[]⟩ : ByteArray).toList = ([] : List UInt8) := by decide +kernel
theorem ok_of_wf {l : List Opn} (h : ∀ o ∈ l, (Lit.int .i64 o.f1).wf = true) : OkOps l := fun o ho => (wf_lt (h o ho)).2

theorem rstate_f (x : Int) : P.skiffref1_StateMay.f x = some (within x 0 7) := by unfold P.skiffref1_StateMay.f; rw [upTo_f]; rfl
theorem rstatus_f (x : Int) : P.skiffref1_StatusMay.f x = some (within x 0 6) := by unfold P.skiffref1_StatusMay.f; rw [upTo_f]; rfl
theorem rupTo_f (x a b : Int) : P.skiffref16_upTo.f x a b = some (within x a b) := by
  unfold P.skiffref16_upTo.f within
  by_cases h : a ≤ x
  · rw [if_pos h, decide_eq_true h]; rfl
  · rw [if_neg h, decide_eq_false h]; rfl
theorem rdev_l0 (s st n g sl : Int) (l : List Opn) (hl : l.length ≤ 9223372036854775807) (d : Nat) : ∀ (k i : Nat), i + d = l.length → d < k → P.skiffref16_DeviceMay.l0 k (i : Int) s st n g sl l = some (opsMayB (l.drop i) && (within s 0 7 && (within st 0 6 && (within n 0 16 && (within g 0 288 && (within sl 0 1 && decide (l.length ≤ 768))))))) := by
  induction d with
  | zero =>
    intro k i h1 h2
    obtain ⟨k, rfl⟩ : ∃ m, k = m + 1 := ⟨k - 1, by omega⟩
    have e : decide ((l.length : Int) ≤ 768) = decide (l.length ≤ 768) := by rw [Bool.eq_iff_iff]; simp; omega
    rw [P.skiffref16_DeviceMay.l0, if_neg (by omega), List.drop_of_length_le (by omega), rstate_f, rstatus_f, rupTo_f, rupTo_f, rupTo_f, e]
    show _ = some (true && _)
    rw [Bool.true_and]
    simp only [Option.bind_some]
    cases within s 0 7 <;> cases within st 0 6 <;> cases within n 0 16 <;> cases within g 0 288 <;> cases within sl 0 1 <;> rfl
  | succ d ih =>
    intro k i h1 h2
    obtain ⟨k, rfl⟩ : ∃ m, k = m + 1 := ⟨k - 1, by omega⟩
    have e2 : wrap64 ((i : Int) + 1) = ((i + 1 : Nat) : Int) := by simp only [wrap64]; omega
    have hd := List.drop_eq_getElem_cons (show i < l.length by omega)
    rw [P.skiffref16_DeviceMay.l0, if_pos (by omega), if_pos (by omega), O.rd_at l i (by omega), ropMay_f, Option.bind_some, e2, ih k (i + 1) (by omega) (by omega), hd]
    have e3 : opsMayB (l[i]'(by omega) :: l.drop (i + 1)) = (opMay (l[i]'(by omega)).f0 (l[i]'(by omega)).f1 (bl (l[i]'(by omega)).f2) && opsMayB (l.drop (i + 1))) := rfl
    rw [e3]
    cases opMay (l[i]'(by omega)).f0 (l[i]'(by omega)).f1 (bl (l[i]'(by omega)).f2)
    · rfl
    · rfl
theorem rdevMay_f (s st n g sl : Int) (l : List Opn) (k : Nat) (hl : l.length ≤ 9223372036854775807) (hk : l.length < k) : P.skiffref16_DeviceMay.f k s st n g sl l = some (devMayB s st n g sl l) := by
  unfold P.skiffref16_DeviceMay.f
  have h := rdev_l0 s st n g sl l hl l.length k 0 (by omega) hk
  rw [List.drop_zero] at h
  rw [show ((0 : Nat) : Int) = 0 from rfl] at h
  rw [h]
  unfold devMayB
  congr 1
  cases opsMayB l <;> cases within s 0 7 <;> cases within st 0 6 <;> cases within n 0 16 <;> cases within g 0 288 <;> cases within sl 0 1 <;> cases decide (l.length ≤ 768) <;> rfl

theorem u8_or (a b : UInt8) : bits .or .u8 (a.toNat : Int) (b.toNat : Int) = ((a ||| b).toNat : Int) := by
  rw [(bits_nat .u8 8 (by decide) wraps_u8 a.toNat b.toNat a.toNat_lt b.toNat_lt).2, UInt8.toNat_or]
theorem u8_and (a b : UInt8) : bits .and .u8 (a.toNat : Int) (b.toNat : Int) = ((a &&& b).toNat : Int) := by
  rw [(bits_nat .u8 8 (by decide) wraps_u8 a.toNat b.toNat a.toNat_lt b.toNat_lt).1, UInt8.toNat_and]
theorem u8_andNot (a b : UInt8) : bits .andNot .u8 (a.toNat : Int) (b.toNat : Int) = ((a &&& ~~~ b).toNat : Int) := by
  have ha := a.toNat_lt
  have hb := b.toNat_lt
  have e : a &&& ~~~ b = UInt8.ofBitVec (a.toBitVec &&& ~~~ b.toBitVec) := rfl
  have e1 : BitVec.ofInt 8 (a.toNat : Int) = a.toBitVec := by rw [BitVec.ofInt_natCast]; apply BitVec.eq_of_toNat_eq; simp
  have e2 : BitVec.ofInt 8 (b.toNat : Int) = b.toBitVec := by rw [BitVec.ofInt_natCast]; apply BitVec.eq_of_toNat_eq; simp
  show IntKind.u8.wrap ((BitVec.ofInt 8 (a.toNat : Int) &&& ~~~ BitVec.ofInt 8 (b.toNat : Int)).toNat : Int) = _
  rw [e1, e2, e]
  have h := (a.toBitVec &&& ~~~ b.toBitVec).isLt
  exact wraps_u8 _ (by omega) (by omega)
/-- Between what was and what would be. -/
def Between (x y z : UInt8) : Prop := z &&& ~~~ (x ||| y) = 0 ∧ z ||| (x &&& y) = z
theorem between_x (x y : UInt8) : Between x y x := by
  constructor
  · apply UInt8.toBitVec_inj.1; ext i hi; simp; cases x.toBitVec[i] <;> simp
  · apply UInt8.toBitVec_inj.1; ext i hi; simp; cases x.toBitVec[i] <;> simp
theorem between_y (x y : UInt8) : Between x y y := by
  constructor
  · apply UInt8.toBitVec_inj.1; ext i hi; simp; cases x.toBitVec[i] <;> cases y.toBitVec[i] <;> simp
  · apply UInt8.toBitVec_inj.1; ext i hi; simp
theorem between_torn (x w : UInt8) (m : Nat) (n : Nat) (h : 8 ≤ n) : Between x (tornB x w n) (tornB x w m) := by
  unfold tornB
  rw [maskB_full w n h]
  unfold maskB
  generalize UInt8.ofNat (255 <<< min m 8) = q
  constructor
  · apply UInt8.toBitVec_inj.1; ext i hi; simp; cases x.toBitVec[i] <;> simp
  · apply UInt8.toBitVec_inj.1; ext i hi; simp; cases x.toBitVec[i] <;> cases w.toBitVec[i] <;> simp
theorem between_op (l : List UInt8) (hl : l.length = 768) (e : Bool) (a : Int) (t : List UInt8) (hm : opMay e a t = true) (c : Nat) (hc : c ≤ 96) (i : Nat) : Between (l.getD i 0) ((opF l e a t 96).getD i 0) ((opF l e a t c).getD i 0) := by
  rw [opF_at _ _ _ _ _ _ hl hm (by omega), opF_at _ _ _ _ _ _ hl hm hc]
  cases e
  · simp only [Bool.false_eq_true, if_false]
    by_cases h : a.toNat ≤ i ∧ i < a.toNat + 4
    · rw [if_pos h, if_pos h]
      exact between_torn _ _ _ _ (by omega)
    · rw [if_neg h, if_neg h]
      exact between_x _ _
  · simp only [if_true]
    by_cases h : a.toNat ≤ i ∧ i < a.toNat + c
    · rw [if_pos h, if_pos (by omega)]
      exact between_y _ _
    · rw [if_neg h]
      exact between_x _ _
theorem cut_l0 (f g h : ByteArray) (hf : f.size = 768) (hg : g.size = 768) (hh : h.size = 768) (hB : ∀ i, Between ((bl f).getD i 0) ((bl h).getD i 0) ((bl g).getD i 0)) (d : Nat) : ∀ (k i : Nat), i + d = 768 → d + 250 < k → P.skifflaw18_TickCut.l0 k f g h (i : Int) = some true := by
  induction d with
  | zero =>
    intro k i h1 h2
    obtain ⟨k, rfl⟩ : ∃ m, k = m + 1 := ⟨k - 1, by omega⟩
    have hs := sent18 k (by omega)
    have hl := sent_len
    generalize sentL = L at hs hl
    rw [P.skifflaw18_TickCut.l0, hf, if_neg (by omega), hs, Option.bind_some]
    dsimp only
    rw [hl]; rfl
  | succ d ih =>
    intro k i h1 h2
    obtain ⟨k, rfl⟩ : ∃ m, k = m + 1 := ⟨k - 1, by omega⟩
    have e2 : wrap64 ((i : Int) + 1) = ((i + 1 : Nat) : Int) := by simp only [wrap64]; omega
    have hr := ih k (i + 1) (by omega) (by omega)
    obtain ⟨b1, b2⟩ := hB i
    rw [P.skifflaw18_TickCut.l0, hf, hg, hh, if_pos (by omega), if_pos (by omega), if_pos (by omega), if_pos (by omega), bt_bl f i (by omega), bt_bl g i (by omega), bt_bl h i (by omega), u8_or, u8_and, u8_andNot, u8_or, b1, b2, if_pos (by rfl), if_pos rfl, e2]
    exact hr
theorem tickCut_f (f : ByteArray) (s st n g sl : Int) (l : List Opn) (c : Int) (h : OkOps l) (hll : l.length ≤ 9223372036854775807) (k : Nat) (hk : l.length + 1500 < k) : P.skifflaw18_TickCut.f k f s st n g sl l c = some true := by
  obtain ⟨k, rfl⟩ : ∃ m, k = m + 3 := ⟨k - 3, by omega⟩
  obtain ⟨b, hb, hb2⟩ : ∃ k : Nat, wrap64 ((IntKind.u64.wrap c).tmod 97) = (k : Int) ∧ k < 97 := mod_nat c 97 (by omega) (by omega)
  unfold P.skifflaw18_TickCut.f
  rw [awake18 (k + 3) (by omega), Option.bind_some, if_pos rfl, hb, tcut_f f s st n g sl l b (k + 3) (by omega) h, Option.bind_some, step_f f s st n g sl l (k + 3) (by omega) h, Option.bind_some]
  unfold stepTup cutTup
  rw [Skiff.within_iff.2 (by omega : (0 : Int) ≤ b ∧ (b : Int) ≤ 96), Bool.and_true]
  have d2 : ∀ j, 0 < j → P.skifflaw0_SameDevice.f j 0 0 0 0 0 [] 0 0 0 0 0 [] = some true := fun j hj => sameDev_f 0 0 0 0 0 [] j (by simp) hj
  cases hm : (decide (f.size = 768) && devMayB s st n g sl l)
  · have he := empty_l
    show P.skifflaw18_TickCut.j0 ((k + 2) + 1) f ⟨#[]⟩ ⟨#[]⟩ true s st n g sl l 0 0 0 0 0 [] = _
    rw [P.skifflaw18_TickCut.j0, if_pos rfl, if_pos he, d2 (k + 2) (by omega), Option.bind_some, if_pos rfl, rdevMay_f s st n g sl l (k + 2) hll (by omega), Option.bind_some]
    cases hd : devMayB s st n g sl l
    · rfl
    · rw [hd, Bool.and_true] at hm
      rw [if_pos rfl, flashMay_f, hm]; rfl
  · obtain ⟨hf, hd⟩ := Bool.and_eq_true_iff.1 hm
    have hf := of_decide_eq_true hf
    have hl := devMayB_len hd
    rw [if_pos rfl, if_pos rfl]
    -- the flashes
    have key : ∃ (H G : ByteArray) (s' st' n' g' sl' : Int) (l' : List Opn), (if works s = true then stepped f s st n g sl l else (f, s, st, n, g, sl, l, 0)) = (H, s', st', n', g', sl', l', 0) ∧ cutted f s b l = G ∧ H.size = 768 ∧ G.size = 768 ∧ ∀ i, Between ((bl f).getD i 0) ((bl H).getD i 0) ((bl G).getD i 0) := by
      cases hw : works s
      · refine ⟨f, f, s, st, n, g, sl, l, by rw [if_neg Bool.false_ne_true], ?_, hf, hf, fun i => between_x _ _⟩
        cases l with
        | nil => rfl
        | cons o r => rw [cutted, hw, if_neg Bool.false_ne_true]
      · rw [if_pos rfl]
        cases l with
        | nil =>
          by_cases h5 : s = 5
          · exact ⟨f, f, 0, 0, 0, 0, 0, [], by rw [stepped, if_pos h5], rfl, hf, hf, fun i => between_x _ _⟩
          · exact ⟨f, f, 1, st, n, g, sl, [], by rw [stepped, if_neg h5], rfl, hf, hf, fun i => between_x _ _⟩
        | cons o r =>
          have ho : opMay o.f0 o.f1 (bl o.f2) = true := List.all_eq_true.1 hl.2 o (List.mem_cons_self ..)
          have lf : (bl f).length = 768 := by rw [bl_length, hf]
          have e1 : cutPair f o.f0 o.f1 o.f2 96 = (mk (opF (bl f) o.f0 o.f1 (bl o.f2) 96), 0) := cutPair_ok (cutMay_iff.2 ⟨hf, ho, by omega⟩)
          have e2 : cutPair f o.f0 o.f1 o.f2 b = (mk (opF (bl f) o.f0 o.f1 (bl o.f2) b), 0) := cutPair_ok (cutMay_iff.2 ⟨hf, ho, by omega⟩)
          have z1 : (mk (opF (bl f) o.f0 o.f1 (bl o.f2) 96)).size = 768 := by rw [mk_size, opF_length lf ho (by omega)]
          have z2 : (mk (opF (bl f) o.f0 o.f1 (bl o.f2) b)).size = 768 := by rw [mk_size, opF_length lf ho (by omega)]
          have hB : ∀ i, Between ((bl f).getD i 0) ((bl (mk (opF (bl f) o.f0 o.f1 (bl o.f2) 96))).getD i 0) ((bl (mk (opF (bl f) o.f0 o.f1 (bl o.f2) b))).getD i 0) := fun i => by
            rw [bl_mk, bl_mk]; exact between_op (bl f) lf _ _ _ ho b (by omega) i
          have hG : cutted f s b (o :: r) = mk (opF (bl f) o.f0 o.f1 (bl o.f2) b) := by rw [cutted, hw, if_pos rfl, e2]
          by_cases hr : r = []
          · by_cases h5 : s = 5
            · exact ⟨_, _, 0, 0, 0, 0, 0, [], by rw [stepped, if_pos hr, if_pos h5, e1], hG, z1, z2, hB⟩
            · exact ⟨_, _, 1, st, n, g, sl, [], by rw [stepped, if_pos hr, if_neg h5, e1], hG, z1, z2, hB⟩
          · exact ⟨_, _, s, st, n, g, sl, r, by rw [stepped, if_neg hr, e1], hG, z1, z2, hB⟩
    obtain ⟨H, G, s', st', n', g', sl', l', k1, k2, zH, zG, hB⟩ := key
    rw [k1, k2]
    show P.skifflaw18_TickCut.j0 ((k + 2) + 1) f G H false s st n g sl l 0 0 0 0 0 [] = _
    rw [P.skifflaw18_TickCut.j0, if_neg Bool.false_ne_true, zG, zH, hf, if_pos rfl, if_pos rfl, d2 (k + 2) (by omega), Option.bind_some]
    show P.skifflaw18_TickCut.j1 ((k + 1) + 1) f G H false = _
    rw [P.skifflaw18_TickCut.j1, if_neg Bool.false_ne_true]
    exact cut_l0 f G H hf zG zH hB 768 (k + 1) 0 (by omega) (by omega)
theorem tickCut_walk (f : ByteArray) (s st n g sl : Int) (A : Option Addr) (cap : Nat) (l : List Opn) (c : Int) (hf : f.size ≤ 140737488351232) (f1 : (Lit.int .i64 s).wf = true) (hl : l.length ≤ cap) (ho : ∀ o ∈ l, (Lit.int .i64 o.f1).wf = true) (f2 : (Lit.int .i64 c).wf = true) (w : World) (hc : Kd.C P.k40 w A l.length l) :
    Calls Try.prog 7 #[.string f, .agg #[.int .i64 s, .int .i64 st, .int .i64 n, .int .i64 g, .int .i64 sl, .slice A l.length cap], .int .i64 c] w fun e w' => e = .returned (.bool true) ∧ Ext w w' :=
  P.skifflaw18_TickCut.calls (l.length + 1501) f s st n g sl A cap l c true w hc hl (tickCut_f f s st n g sl l c (ok_of_wf ho) hc.2.1 (l.length + 1501) (by omega))

end Go.Proofs.Ytgoeooghoojdgaa
