/- The other slot turned: what stays active. ChooseOther, ChooseStays. -/
import Derived.Test.YtdijecmpaoabbaaZ0ActP
import Derived.Test.YtdijecmpaoabbaaZ0ChsA
import Derived.Test.YtdijecmpaoabbaaZ0Px10
import Derived.Test.YtdijecmpaoabbaaZ0Px5
import Derived.Test.YtdijecmpaoabbaaZ0Px9
set_option linter.unusedVariables false
set_option linter.unusedSimpArgs false
set_option maxHeartbeats 4000000
namespace Go.Proofs.Ytdijecmpaoabbaa
open Go.RowKit Skiff Go.Proofs.YtdijecmpaoabbaaW.PrintWords

/-- The same bytes from a to b. -/
def Pt (x f : ByteArray) (a b : Nat) : Prop := ∀ q, a ≤ q → q < b → (bl x).getD q 0 = (bl f).getD q 0
theorem Pt.extract {x f : ByteArray} {a b : Nat} (h : Pt x f a b) (hx : x.size = 768) (hf : f.size = 768) {i j : Nat} (hi : a ≤ i) (hj : j ≤ b) : x.extract i j = f.extract i j := by
  refine bl_inj ?_
  rw [bl_extract, bl_extract]
  refine List.ext_getElem? fun n => ?_
  rw [List.getElem?_take, List.getElem?_take]
  by_cases hn : n < j - i
  · rw [if_pos hn, if_pos hn, List.getElem?_drop, List.getElem?_drop]
    have hlx : (bl x).length = 768 := by rw [bl_length, hx]
    have hlf : (bl f).length = 768 := by rw [bl_length, hf]
    by_cases hb : i + n < 768
    · have := h (i + n) (by omega) (by omega)
      rw [List.getD_eq_getElem?_getD, List.getD_eq_getElem?_getD, List.getElem?_eq_getElem (by omega), List.getElem?_eq_getElem (by omega)] at this
      rw [List.getElem?_eq_getElem (by omega), List.getElem?_eq_getElem (by omega)]
      exact congrArg some this
    · rw [List.getElem?_eq_none (by omega), List.getElem?_eq_none (by omega)]
  · rw [if_neg hn, if_neg hn]
theorem scan_pt {x f : ByteArray} (h : Pt x f 0 192) (hx : x.size = 768) (hf : f.size = 768) : ∀ n, n ≤ 8 → scanTo x n = scanTo f n
  | 0, _ => rfl
  | n + 1, hn => by
    rw [scanTo, scanTo, scan_pt h hx hf n (by omega)]
    congr 1
    unfold pls slotAt
    rw [h.extract hx hf (Nat.zero_le _) (by omega)]
theorem good_pt {x f : ByteArray} {s : Nat} (h : Pt x f (192 + 288 * s) (480 + 288 * s)) (hx : x.size = 768) (hf : f.size = 768) {q : Plc} (hq : imageMay f (recOf q) = true) (hs : q.f1.f1 = (s : Int)) : goodAt x q = goodAt f q := by
  have hm := recMay_iff.1 (Bool.and_eq_true_iff.1 hq).2
  have e : (recOf q).slot = (s : Int) := hs
  unfold goodAt goodB image
  rw [h.extract hx hf (by rw [e]; omega) (by rw [e]; omega)]
/-- What was active stays so, if all that is good now is it, or less. -/
theorem stays {x f : ByteArray} {s : Nat} {p : Plc} (h0 : Pt x f 0 192) (h : Pt x f (192 + 288 * s) (480 + 288 * s)) (hx : x.size = 768) (hf : f.size = 768) (hp : best f = some p) (hs : p.f1.f1 = (s : Int)) (hq : ∀ q ∈ scanTo x 8, goodAt x q = true → pkey q ≤ pkey p) : best x = some p := by
  have hB := best_of f _ _ rfl hp
  have hX := best_of x
  have hsc := scan_pt h0 hx hf 8 (Nat.le_refl _)
  have hats := ats_scan x
  have hasc := scanTo_asc x 8
  have hpx : goodAt x p = true := by rw [good_pt h hx hf (scan_may hf hB.1) hs]; exact hB.2.1
  have hpm : p ∈ scanTo x 8 := by rw [hsc]; exact hB.1
  generalize scanTo x 8 = l at hX hats hasc hq hpm
  generalize best x = b at hX
  exact best_unique hats hasc (hX l b rfl rfl) (show Hp.Best pkey (goodAt x) l (some p) from ⟨hpm, hpx, hq⟩)
theorem good_other {x f : ByteArray} {s : Nat} {p : Plc} (h0 : Pt x f 0 192) (h : Pt x f (192 + 288 * s) (480 + 288 * s)) (hx : x.size = 768) (hf : f.size = 768) (hp : best f = some p) {q : Plc} (hq : q ∈ scanTo x 8) (hs : q.f1.f1 = (s : Int)) (hg : goodAt x q = true) : pkey q ≤ pkey p := by
  have hB := best_of f _ _ rfl hp
  rw [scan_pt h0 hx hf 8 (Nat.le_refl _)] at hq
  exact hB.2.2 q hq (by rw [← good_pt h hx hf (scan_may hf hq) hs]; exact hg)

/-- A piece of a flash turned. -/
def turnX (f s : ByteArray) (b : Nat) : ByteArray := (f.extract 0 b ++ s) ++ f.extract (b + s.size) f.size
theorem turnX_size {f s : ByteArray} {b : Nat} (hf : f.size = 768) (h : b + s.size ≤ 768) : (turnX f s b).size = 768 := by
  unfold turnX
  rw [ByteArray.size_append, ByteArray.size_append, ByteArray.size_extract, ByteArray.size_extract]
  omega
theorem turnX_bl {f s : ByteArray} {b : Nat} (hf : f.size = 768) : bl (turnX f s b) = ((bl f).take b ++ bl s) ++ (bl f).drop (b + s.size) := by
  have hlf : (bl f).length = 768 := by rw [bl_length, hf]
  unfold turnX
  rw [← mk_bl (f.extract 0 b), ← mk_bl (f.extract (b + s.size) f.size)]
  conv => lhs; rw [← mk_bl s]
  rw [← mk_append, ← mk_append, bl_mk, bl_extract, bl_extract, List.drop_zero, Nat.sub_zero, hf, List.take_of_length_le (l := (bl f).drop _) (by rw [List.length_drop]; omega), mk_bl]
theorem turnX_pt {f s : ByteArray} {b : Nat} (hf : f.size = 768) (h : b + s.size ≤ 768) (c d : Nat) (hcd : d ≤ b ∨ b + s.size ≤ c) : Pt (turnX f s b) f c d := fun q h1 h2 => by
  have hlf : (bl f).length = 768 := by rw [bl_length, hf]
  have hls : (bl s).length = s.size := bl_length s
  rw [turnX_bl hf, List.getD_eq_getElem?_getD, List.getD_eq_getElem?_getD]
  congr 1
  rcases hcd with hd | hd
  · rw [List.append_assoc, List.getElem?_append_left (by rw [List.length_take]; omega), List.getElem?_take, if_pos (by omega)]
  · rw [List.getElem?_append_right (by rw [List.length_append, List.length_take]; omega), List.length_append, List.length_take, List.getElem?_drop]
    congr 1
    omega

def neP (q p : Plc) : Bool := !(q.f0 == p.f0) || (!(q.f1.f0 == p.f1.f0) || (!(q.f1.f1 == p.f1.f1) || (!(q.f1.f2 == p.f1.f2) || !(q.f1.f3 == p.f1.f3))))
theorem neP_false {q p : Plc} (h : neP q p = false) : q = p := by
  obtain ⟨a, b, c, d, e⟩ := q
  obtain ⟨a', b', c', d', e'⟩ := p
  unfold neP at h
  simp at h
  obtain ⟨rfl, rfl, rfl, rfl, rfl⟩ := h
  rfl
theorem cother_l0 (x : ByteArray) (hx : x.size = 768) (o : Int) (p : Plc) (ho : o = wrap64 (1 - p.f1.f1)) (l : List Plc) (hl : l.length ≤ 8) (hm : ∀ q ∈ l, imageMay x (recOf q) = true)
    (hend : (∀ q ∈ l, goodAt x q = true → q = p ∨ q.f1.f0 < p.f1.f0) → actTup x = P.actOut (some p)) (m : Nat) : ∀ (k i : Nat), i + m = l.length → m < k → (∀ q ∈ l.take i, goodAt x q = true → q = p ∨ q.f1.f0 < p.f1.f0) →
    P.skifflaw7_ChooseOther.l0 k o x l (i : Int) p.f0 p.f1.f0 p.f1.f1 p.f1.f2 p.f1.f3 = some true := by
  induction m with
  | zero =>
    intro k i h1 h2 h3
    obtain ⟨k, rfl⟩ : ∃ m, k = m + 1 := ⟨k - 1, by omega⟩
    rw [List.take_of_length_le (by omega)] at h3
    simp only [P.skifflaw7_ChooseOther.l0, P.skifflaw0_Num.f]
    rw [if_neg (by omega), act_f, hend h3]
    simp only [Option.bind_some, P.actOut, beq_self_eq_true, Bool.and_self, if_true, ho]
  | succ m ih =>
    intro k i h1 h2 h3
    obtain ⟨k, rfl⟩ : ∃ m, k = m + 1 := ⟨k - 1, by omega⟩
    have hi : i < l.length := by omega
    have e2 : wrap64 ((i : Int) + 1) = ((i + 1 : Nat) : Int) := by simp only [wrap64]; omega
    have hgd := rgood_f x (recOf l[i])
    unfold goodPair at hgd
    rw [hm _ (List.getElem_mem hi), if_pos rfl] at hgd
    have next : (goodAt x l[i] = true → l[i] = p ∨ l[i].f1.f0 < p.f1.f0) → P.skifflaw7_ChooseOther.l0 k o x l ((i + 1 : Nat) : Int) p.f0 p.f1.f0 p.f1.f1 p.f1.f2 p.f1.f3 = some true := fun hh =>
      ih k (i + 1) (by omega) (by omega) (fun q hq => by
        rw [List.take_add_one, List.getElem?_eq_getElem hi] at hq
        rcases List.mem_append.1 hq with h | h
        · exact h3 q h
        · rw [Option.toList_some, List.mem_singleton] at h
          rw [h]; exact hh)
    simp only [P.skifflaw7_ChooseOther.l0]
    rw [if_pos (by omega), if_pos (by omega), rd_at l i hi, show P.skiffref1_Good.f x l[i].f1.f0 l[i].f1.f1 l[i].f1.f2 l[i].f1.f3 = _ from hgd, e2]
    simp only [Option.bind_some]
    have hga : goodAt x l[i] = goodB x (recOf l[i]) := rfl
    cases hb : goodB x (recOf l[i]) with
    | false => rw [if_neg (by decide)]; exact next (fun h => by rw [hga, hb] at h; cases h)
    | true =>
      rw [if_pos rfl]
      show (if neP l[i] p = true then (if l[i].f1.f0 ≥ p.f1.f0 then some true else _) else _) = _
      cases hn : neP l[i] p with
      | false => rw [if_neg (by decide)]; exact next (fun _ => .inl (neP_false hn))
      | true =>
        rw [if_pos rfl]
        by_cases hs : l[i].f1.f0 ≥ p.f1.f0
        · rw [if_pos hs]
        · rw [if_neg hs]; exact next (fun _ => .inr (by omega))

theorem co_x (x f : ByteArray) (hx : x.size = 768) (hf : f.size = 768) {n : Nat} (h0 : Pt x f 0 192) (hP : Pt x f (192 + 288 * n) (480 + 288 * n)) (p : Plc) (hp : best f = some p) (o : Int) (hpn : p.f1.f1 = (n : Int)) (ho : o = 1 - (n : Int)) :
    ((P.skiffref1_Scan.f 299 x).bind fun bt => P.skifflaw7_ChooseOther.l0 299 o x bt.1 0 p.f0 p.f1.f0 p.f1.f1 p.f1.f2 p.f1.f3) = some true := by
  have hn : 0 ≤ p.f1.f1 ∧ p.f1.f1 ≤ 1 := best_slot f _ hp p rfl
  have hl := scanTo_len x 8
  have hends := stays (p := p) h0 hP hx hf hp hpn
  have hmx := fun q (hq : q ∈ scanTo x 8) => scan_may hx hq
  have hats := ats_scan x
  have hpat : 0 ≤ p.f0 ∧ p.f0 < 192 := by have hB := best_of f _ _ rfl hp; exact ats_scan f p hB.1
  have hact : actTup x = P.actOut (best x) := by unfold actTup; rw [if_pos hx]
  rw [rscan_f x 299 (by omega), if_pos hx, Option.bind_some]
  generalize scanTo x 8 = l at hl hends hmx hats ⊢
  refine cother_l0 x hx o p (by rw [hpn, ho]; simp only [wrap64]; omega) l hl hmx (fun h => ?_) l.length 299 0 (by omega) (by omega) (by rw [List.take_zero]; exact fun q hq => by cases hq)
  rw [hact, hends (fun q hq hg => ?_)]
  rcases h q hq hg with rfl | h1
  · exact Int.le_refl _
  · have h2 := hats q hq
    unfold pkey
    omega
theorem co_main (f s : ByteArray) (hf : f.size = 768) (hs : s.size ≤ 288) (p : Plc) (hp : best f = some p) (o : Int) (n b : Nat) (hn : n < 2) (hpn : p.f1.f1 = (n : Int)) (ho : o = 1 - (n : Int)) (hb : b = 480 - 288 * n) (hbit : Go.bits .and .i64 o 1 = o) (hrd : rd [192, 480] o = (b : Int)) :
    P.skifflaw7_ChooseOther.j0 300 f s 0 o 0 false p.f0 p.f1.f0 p.f1.f1 p.f1.f2 p.f1.f3 = some true := by
  have e1 : wrap64 ((b : Int) + (s.size : Int)) = ((b + s.size : Nat) : Int) := by simp only [wrap64]; omega
  have hx := turnX_size (b := b) hf (show b + s.size ≤ 768 by omega)
  have h0 := turnX_pt (b := b) hf (show b + s.size ≤ 768 by omega) 0 192 (by omega)
  have hP := turnX_pt (b := b) hf (show b + s.size ≤ 768 by omega) (192 + 288 * n) (480 + 288 * n) (by omega)
  show P.skifflaw7_ChooseOther.j0 (299 + 1) f s 0 o 0 false p.f0 p.f1.f0 p.f1.f1 p.f1.f2 p.f1.f3 = some true
  simp only [P.skifflaw7_ChooseOther.j0]
  rw [if_neg (by decide), Option.bind_some, hbit, hrd, if_pos (by omega), if_pos (by simp only [List.length_cons, List.length_nil]; omega), if_pos (by omega), if_pos (by omega), if_pos (by rw [ByteArray.size_extract]; omega), e1, if_pos (by omega), if_pos (by omega), Int.toNat_natCast, Int.toNat_natCast,
    if_pos (by rw [ByteArray.size_append, ByteArray.size_extract, ByteArray.size_extract]; omega)]
  exact co_x (turnX f s b) f hx hf h0 hP p hp o hpn ho
theorem chooseOther_f (f s : ByteArray) : P.skifflaw7_ChooseOther.f 300 f s = some true := by
  have hj : ∀ e o g a b c d h, (e = 0 → g = 0) → P.skifflaw7_ChooseOther.j0 300 f s e o g true a b c d h = some true := fun e o g a b c d h hg => by
    show P.skifflaw7_ChooseOther.j0 (299 + 1) f s e o g true a b c d h = some true
    simp only [P.skifflaw7_ChooseOther.j0, P.skifflaw0_Num.f]
    rw [if_pos trivial, Option.bind_some]
    by_cases he : e = 0
    · rw [if_pos he, Option.bind_some, hg he]; rfl
    · rw [if_neg he]
  unfold P.skifflaw7_ChooseOther.f P.skifflaw0_Num.f
  rw [awake7_f, act_f, other_f]
  simp only [Option.bind_some, if_true]
  unfold actTup otherPair
  by_cases hf : f.size = 768
  · simp only [if_pos hf]
    have hsl := best_slot f
    have hmn := fun p hp hs2 => co_main f s hf hs2 p hp
    generalize best f = bb at hsl hmn ⊢
    cases bb with
    | none =>
      show (if (701 : Int) = 0 then _ else P.skifflaw7_ChooseOther.j0 300 f s 701 0 0 true 0 0 0 0 0) = some true
      rw [if_neg (by decide)]
      exact hj 701 0 0 0 0 0 0 0 (fun h => by omega)
    | some p =>
      have h1 := hsl _ rfl p rfl
      show (if (0 : Int) = 0 then (if (0 : Int) = 0 then (if (s.size : Int) > 288 then P.skifflaw7_ChooseOther.j0 300 f s 0 (1 - p.f1.f1) 0 true p.f0 p.f1.f0 p.f1.f1 p.f1.f2 p.f1.f3 else P.skifflaw7_ChooseOther.j0 300 f s 0 (1 - p.f1.f1) 0 ((f.size : Int) != 768) p.f0 p.f1.f0 p.f1.f1 p.f1.f2 p.f1.f3) else _) else _) = some true
      rw [if_pos rfl, if_pos rfl]
      by_cases hs : (s.size : Int) > 288
      · rw [if_pos hs]; exact hj _ _ _ _ _ _ _ _ (fun _ => rfl)
      · rw [if_neg hs, hf]
        show P.skifflaw7_ChooseOther.j0 300 f s 0 (1 - p.f1.f1) 0 false p.f0 p.f1.f0 p.f1.f1 p.f1.f2 p.f1.f3 = some true
        rcases (show p.f1.f1 = 0 ∨ p.f1.f1 = 1 by omega) with h | h
        · have := hmn p rfl (by omega) (1 - p.f1.f1) 0 480 (by omega) h (by rw [h]; rfl) rfl (by rw [h]; rfl) (by rw [h]; rfl)
          exact this
        · have := hmn p rfl (by omega) (1 - p.f1.f1) 1 192 (by omega) h (by rw [h]; rfl) rfl (by rw [h]; rfl) (by rw [h]; rfl)
          exact this
  · simp only [if_neg hf]
    exact hj 700 0 700 0 0 0 0 0 (fun h => by omega)
theorem chooseOther_walk (f s : ByteArray) (hf : f.size ≤ 140737488351232) (hs : s.size ≤ 140737488351232) (w : World) : Calls Try.prog 6 #[.string f, .string s] w fun e w' => e = .returned (.bool true) ∧ Ext w w' :=
  P.skifflaw7_ChooseOther.calls 300 f s true w (chooseOther_f f s)

end Go.Proofs.Ytdijecmpaoabbaa
