/- ChooseStays: a word of the other slot programmed and cut. -/
import Derived.Test.YtdijecmpaoabbaaZ0ChsO
import Derived.Test.YtdijecmpaoabbaaZ0ChsA
import Derived.Test.YtdijecmpaoabbaaZ0Px10
set_option linter.unusedVariables false
set_option linter.unusedSimpArgs false
set_option maxHeartbeats 4000000
namespace Go.Proofs.Ytdijecmpaoabbaa
open Go.RowKit Skiff Go.Proofs.YtdijecmpaoabbaaW.PrintWords

theorem cstays_l0 (x : ByteArray) (hx : x.size = 768) (o er : Int) (p : Plc) (y0 y1 y2 y3 y4 : Int) (l : List Plc) (hl : l.length ≤ 8) (hm : ∀ q ∈ l, imageMay x (recOf q) = true)
    (hend : (∀ q ∈ l, goodAt x q = true → q.f1.f1 ≠ o) → er = 0 ∧ y0 = p.f0 ∧ y1 = p.f1.f0 ∧ y2 = p.f1.f1 ∧ y3 = p.f1.f2 ∧ y4 = p.f1.f3) (hsome : ∀ q ∈ l, goodAt x q = true → er = 0) (m : Nat) : ∀ (k i : Nat), i + m = l.length → 260 + m < k → (∀ q ∈ l.take i, goodAt x q = true → q.f1.f1 ≠ o) →
    P.skifflaw7_ChooseStays.l0 k o x er l (i : Int) p.f0 p.f1.f0 p.f1.f1 p.f1.f2 p.f1.f3 y0 y1 y2 y3 y4 = some true := by
  induction m with
  | zero =>
    intro k i h1 h2 h3
    obtain ⟨k, rfl⟩ : ∃ m, k = m + 1 := ⟨k - 1, by omega⟩
    rw [List.take_of_length_le (by omega)] at h3
    obtain ⟨rfl, rfl, rfl, rfl, rfl, rfl⟩ := hend h3
    obtain ⟨H, hH, hs⟩ := held7 k (by omega)
    simp only [P.skifflaw7_ChooseStays.l0, P.skifflaw0_Num.f]
    rw [if_neg (by omega), hH]
    simp only [Option.bind_some, beq_self_eq_true, Bool.and_self, if_true, hs]
    rfl
  | succ m ih =>
    intro k i h1 h2 h3
    obtain ⟨k, rfl⟩ : ∃ m, k = m + 1 := ⟨k - 1, by omega⟩
    have hi : i < l.length := by omega
    have e2 : wrap64 ((i : Int) + 1) = ((i + 1 : Nat) : Int) := by simp only [wrap64]; omega
    have hgd := rgood_f x (recOf l[i])
    unfold goodPair at hgd
    rw [hm _ (List.getElem_mem hi), if_pos rfl] at hgd
    have hse := hsome _ (List.getElem_mem hi)
    have next : (goodAt x l[i] = true → l[i].f1.f1 ≠ o) → P.skifflaw7_ChooseStays.l0 k o x er l ((i + 1 : Nat) : Int) p.f0 p.f1.f0 p.f1.f1 p.f1.f2 p.f1.f3 y0 y1 y2 y3 y4 = some true := fun hh =>
      ih k (i + 1) (by omega) (by omega) (fun q hq => by
        rw [List.take_add_one, List.getElem?_eq_getElem hi] at hq
        rcases List.mem_append.1 hq with h | h
        · exact h3 q h
        · rw [Option.toList_some, List.mem_singleton] at h
          rw [h]; exact hh)
    simp only [P.skifflaw7_ChooseStays.l0, P.skifflaw0_Num.f]
    rw [if_pos (by omega), if_pos (by omega), rd_at l i hi, show P.skiffref1_Good.f x l[i].f1.f0 l[i].f1.f1 l[i].f1.f2 l[i].f1.f3 = _ from hgd, e2]
    simp only [Option.bind_some]
    have hga : goodAt x l[i] = goodB x (recOf l[i]) := rfl
    rw [hga] at hse
    cases hb : goodB x (recOf l[i]) with
    | false => rw [if_neg (by decide)]; exact next (fun h => by rw [hga, hb] at h; cases h)
    | true =>
      rw [if_pos rfl, hse hb]
      by_cases hs : l[i].f1.f1 = o
      · rw [if_pos hs]; rfl
      · rw [if_neg hs]
        have := next (fun _ => hs)
        rw [hse hb] at this
        exact this
theorem tornF_pt {f w : ByteArray} {a n : Nat} (hf : f.size = 768) (h : a + 4 ≤ 768) (hw : w.size = 4) (c d : Nat) (hcd : d ≤ a ∨ a + 4 ≤ c) : Pt (mk (tornF (bl f) a (bl w) n)) f c d := fun q h1 h2 => by
  rw [bl_mk, tornF_at (bl f) (bl w) a n q (by rw [bl_length, hf]; exact h) (by rw [bl_length]; exact hw), if_neg (by omega)]
theorem cst_main (f : ByteArray) (hf : f.size = 768) (p : Plc) (hp : best f = some p) (o : Int) (n a c : Nat) (w : ByteArray) (hw : w.size = 4) (hn : n < 2) (hpn : p.f1.f1 = (n : Int)) (ho : o = 1 - (n : Int)) (ha : 480 - 288 * n ≤ a ∧ a + 4 ≤ 768 - 288 * n) :
    P.skifflaw7_ChooseStays.j1 300 o 0 (mk (tornF (bl f) a (bl w) c)) false p.f0 p.f1.f0 p.f1.f1 p.f1.f2 p.f1.f3 = some true := by
  have hx : (mk (tornF (bl f) a (bl w) c)).size = 768 := by rw [mk_size, tornF_length _ _ _ _ (by rw [bl_length, hf]; omega), bl_length, hf]
  have h0 := tornF_pt (n := c) hf (show a + 4 ≤ 768 by omega) hw 0 192 (by omega)
  have hP := tornF_pt (n := c) hf (show a + 4 ≤ 768 by omega) hw (192 + 288 * n) (480 + 288 * n) (by omega)
  have hB := best_of (mk (tornF (bl f) a (bl w) c))
  have hl := scanTo_len (mk (tornF (bl f) a (bl w) c)) 8
  have hends := stays (p := p) h0 hP hx hf hp hpn
  have hgo := fun q => good_other (p := p) (q := q) h0 hP hx hf hp
  have hmx := fun q (hq : q ∈ scanTo (mk (tornF (bl f) a (bl w) c)) 8) => scan_may hx hq
  show P.skifflaw7_ChooseStays.j1 (299 + 1) o 0 (mk (tornF (bl f) a (bl w) c)) false p.f0 p.f1.f0 p.f1.f1 p.f1.f2 p.f1.f3 = some true
  generalize mk (tornF (bl f) a (bl w) c) = x at *
  simp only [P.skifflaw7_ChooseStays.j1]
  rw [if_neg (by decide), act_f, rscan_f _ 299 (by omega), if_pos hx]
  simp only [Option.bind_some]
  unfold actTup
  simp only [if_pos hx]
  generalize best x = b at *
  generalize scanTo x 8 = l at *
  have hB := hB l b rfl rfl
  refine cstays_l0 x hx o _ p _ _ _ _ _ l hl hmx (fun h => ?_) (fun q hq hg => ?_) l.length 299 0 (by omega) (by omega) (by rw [List.take_zero]; exact fun q hq => by cases hq)
  · have hb : b = some p := hends (fun q hq hg => by
      have h1 := h q hq hg
      have h2 := recMay_iff.1 (Bool.and_eq_true_iff.1 (hmx q hq)).2
      have h3 : (recOf q).slot = q.f1.f1 := rfl
      rw [h3] at h2
      exact hgo q hq (by omega) hg)
    subst hb
    exact ⟨rfl, rfl, rfl, rfl, rfl, rfl⟩
  · cases b with
    | none => have := hB q hq; rw [hg] at this; cases this
    | some q2 => rfl
theorem chooseStays_f (f : ByteArray) (wd : Int) (w : ByteArray) (bits : Int) : P.skifflaw7_ChooseStays.f 301 f wd w bits = some true := by
  have hj : ∀ e o a b c d h, e ≠ 0 → P.skifflaw7_ChooseStays.j0 301 f wd w bits e o true a b c d h = some true := fun e o a b c d h he => by
    show P.skifflaw7_ChooseStays.j0 (300 + 1) f wd w bits e o true a b c d h = some true
    simp only [P.skifflaw7_ChooseStays.j0, P.skifflaw0_Num.f]
    rw [if_pos trivial, Option.bind_some, bne_iff_ne.2 he]
  have hj1 : ∀ o x a b c d h, P.skifflaw7_ChooseStays.j1 300 o 0 x true a b c d h = some true := fun o x a b c d h => by
    show P.skifflaw7_ChooseStays.j1 (299 + 1) o 0 x true a b c d h = some true
    simp only [P.skifflaw7_ChooseStays.j1]
    rfl
  unfold P.skifflaw7_ChooseStays.f P.skifflaw0_Num.f
  rw [awake7 301 (by omega), act_f, other_f]
  simp only [Option.bind_some, if_true]
  unfold actTup otherPair
  by_cases hf : f.size = 768
  · simp only [if_pos hf]
    have hsl := best_slot f
    have hmn := cst_main f hf
    generalize best f = bb at hsl hmn ⊢
    cases bb with
    | none =>
      show (if (701 : Int) = 0 then _ else P.skifflaw7_ChooseStays.j0 301 f wd w bits 701 0 true 0 0 0 0 0) = some true
      rw [if_neg (by decide)]
      exact hj 701 0 0 0 0 0 0 (by decide)
    | some p =>
      have h1 := hsl _ rfl p rfl
      show (if (0 : Int) = 0 then P.skifflaw7_ChooseStays.j0 301 f wd w bits 0 (1 - p.f1.f1) false p.f0 p.f1.f0 p.f1.f1 p.f1.f2 p.f1.f3 else _) = some true
      rw [if_pos rfl]
      show P.skifflaw7_ChooseStays.j0 (300 + 1) f wd w bits 0 (1 - p.f1.f1) false p.f0 p.f1.f0 p.f1.f1 p.f1.f2 p.f1.f3 = some true
      simp only [P.skifflaw7_ChooseStays.j0, P.skiffref1_Torn.f]
      obtain ⟨v, hv, hv2⟩ : ∃ k : Nat, wrap64 ((IntKind.u64.wrap wd).tmod 72) = (k : Int) ∧ k < 72 := mod_nat wd 72 (by omega) (by omega)
      obtain ⟨c, hc, hc2⟩ : ∃ k : Nat, wrap64 ((IntKind.u64.wrap bits).tmod 33) = (k : Int) ∧ k < 33 := mod_nat bits 33 (by omega) (by omega)
      have hbo : baseOf (1 - p.f1.f1) = (192 + 288 * (1 - p.f1.f1), 0) := by unfold baseOf; rw [if_pos (Skiff.within_iff.2 (by omega))]
      rw [if_neg (by decide), rbase_f, hbo, hv, hc]
      simp only [Option.bind_some, if_true]
      have e4 : wrap64 (4 * (v : Int)) = 4 * (v : Int) := by simp only [wrap64]; omega
      obtain ⟨n, hn, hpn⟩ : ∃ n : Nat, n < 2 ∧ p.f1.f1 = (n : Int) := ⟨p.f1.f1.toNat, by omega, by omega⟩
      have e5 : wrap64 (192 + 288 * (1 - p.f1.f1) + 4 * (v : Int)) = ((480 - 288 * n + 4 * v : Nat) : Int) := by simp only [wrap64]; omega
      rw [e4, e5]
      by_cases hw : w.size = 4
      · have ht : torn (bl f) ((480 - 288 * n + 4 * v : Nat) : Int) (bl w) (c : Int) = some (tornF (bl f) (480 - 288 * n + 4 * v) (bl w) c) := by
          unfold torn tornMay wordAt
          rw [if_pos]
          · rfl
          · rw [bl_length, bl_length, hf, hw, Skiff.within_iff.2 (by omega), Skiff.within_iff.2 (by omega), decide_eq_true (show ((480 - 288 * n + 4 * v : Nat) : Int) % 4 = 0 by omega)]
            rfl
        rw [ht]
        exact hmn p rfl _ n _ c w hw hn hpn (by omega) (by omega)
      · have ht : torn (bl f) ((480 - 288 * n + 4 * v : Nat) : Int) (bl w) (c : Int) = none := by
          unfold torn tornMay
          rw [if_neg]
          rw [show decide ((bl w).length = 4) = false from decide_eq_false (by rw [bl_length]; exact hw), Bool.and_false, Bool.false_and]
          decide
        rw [ht]
        exact hj1 _ _ _ _ _ _ _
  · simp only [if_neg hf]
    exact hj 700 0 0 0 0 0 0 (by decide)
theorem chooseStays_walk (f : ByteArray) (wd : Int) (w : ByteArray) (bits : Int) (hf : f.size ≤ 140737488351232) (h1 : (Lit.int .i64 wd).wf = true) (h2 : w.size ≤ 140737488351232) (h3 : (Lit.int .i64 bits).wf = true) (W : World) : Calls Try.prog 7 #[.string f, .int .i64 wd, .string w, .int .i64 bits] W fun e w' => e = .returned (.bool true) ∧ Ext W w' :=
  P.skifflaw7_ChooseStays.calls 301 f wd w bits true W (chooseStays_f f wd w bits)

end Go.Proofs.Ytdijecmpaoabbaa
