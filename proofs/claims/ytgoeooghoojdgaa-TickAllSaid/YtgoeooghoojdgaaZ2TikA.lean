/- TickAll: as many ticks as there are steps do all of them. -/
import Derived.Test.YtgoeooghoojdgaaZ2TikR
import Derived.Test.YtgoeooghoojdgaaZ2Px11
set_option linter.unusedVariables false
set_option linter.unusedSimpArgs false
set_option maxHeartbeats 4000000
namespace Go.Proofs.Ytgoeooghoojdgaa
open Go.RowKit Skiff Go.Proofs.YtgoeooghoojdgaaW.PrintWords Go.Proofs.YtgoeooghoojdgaaW.PrintMore O

def sM (m : Bool) : Int := if m = true then 5 else 2
theorem all_end (m : Bool) (f g : ByteArray) (os : List Opn) (K : Nat) (hK : 0 < K) : P.skifflaw18_TickAll.l0 (K + 1) f m os g (os.length : Int) (if m = true then 0 else 1) 0 0 (if m = true then 0 else 5) 0 [] = some true := by
  rw [P.skifflaw18_TickAll.l0, if_neg (by omega)]
  cases m
  · rw [if_neg Bool.false_ne_true]
    have := sameDev_f 1 0 0 5 0 [] K (by simp) (by simpa using hK)
    rw [if_neg Bool.false_ne_true, if_neg Bool.false_ne_true, this]; rfl
  · rw [if_pos rfl, if_pos rfl, if_pos rfl]
    have := sameDev_f 0 0 0 0 0 [] K (by simp) (by simpa using hK)
    rw [this]; rfl
theorem sM_may (m : Bool) (os : List Opn) (h : opsMayB os = true) (hs : os.length ≤ 768) : devMayB (sM m) 0 0 5 0 os = true := by
  unfold devMayB sM
  rw [h, decide_eq_true hs]
  cases m <;> rfl
theorem opsMayB_drop {os : List Opn} (h : opsMayB os = true) (i : Nat) : opsMayB (os.drop i) = true :=
  List.all_eq_true.2 fun o ho => List.all_eq_true.1 h o (List.mem_of_mem_drop ho)
theorem all_l0 (m : Bool) (os : List Opn) (h : opsMayB os = true) (hs : os.length ≤ 768) (d : Nat) : ∀ (K i : Nat) (f : ByteArray), i + d + 1 = os.length → 2 * d + 10 < K → f.size = 768 →
    P.skifflaw18_TickAll.l0 K f m os f (i : Int) (sM m) 0 0 5 0 (os.drop i) = some true := by
  induction d with
  | zero =>
    intro K i f h1 h2 hf
    obtain ⟨K, rfl⟩ : ∃ n, K = n + 3 := ⟨K - 3, by omega⟩
    have hd := List.drop_eq_getElem_cons (show i < os.length by omega)
    have hn : os.drop (i + 1) = [] := List.drop_of_length_le (by omega)
    rw [hn] at hd
    have hm := sM_may m (os.drop i) (opsMayB_drop h i) (by rw [List.length_drop]; omega)
    have hk := okOps_all (opsMayB_drop h i)
    have e1 : wrap64 (wrap64 ((os.length : Int) - 1) - (i : Int)) = 0 := by simp only [wrap64]; omega
    have e3 : wrap64 ((os.length : Int) - 1) = (os.length : Int) - 1 := by simp only [wrap64]; omega
    have e2 : wrap64 ((i : Int) + 1) = (os.length : Int) := by simp only [wrap64]; omega
    show P.skifflaw18_TickAll.l0 ((K + 2) + 1) _ _ _ _ _ _ _ _ _ _ _ = _
    rw [P.skifflaw18_TickAll.l0, if_pos (by omega), if_pos (by omega), rd_at os i (by omega), rdo_f _ _ _ _ (K + 2) (by omega), Option.bind_some, step_f _ _ _ _ _ _ _ (K + 2) (by omega) hk, stepTup, hm, decide_eq_true hf, Bool.and_self, if_pos rfl, if_pos (by unfold sM; cases m <;> rfl), hd, stepped, if_pos rfl]
    generalize (cutPair f (os[i]'(by omega)).f0 (os[i]'(by omega)).f1 (os[i]'(by omega)).f2 96) = B
    cases m
    · rw [if_neg (by decide), Option.bind_some]
      dsimp only
      rw [P.skifflaw0_Num.f, Option.bind_some, if_pos rfl, if_pos rfl, e1]
      show P.skifflaw18_TickAll.j3 ((K + 1) + 1) _ _ _ _ _ false _ _ _ _ _ _ _ _ _ _ _ _ = _
      rw [P.skifflaw18_TickAll.j3, if_neg Bool.false_ne_true, e3, if_neg (by omega), e2]
      exact all_end false B.1 B.1 os K (by omega)
    · rw [if_pos (by decide), Option.bind_some]
      dsimp only
      rw [P.skifflaw0_Num.f, Option.bind_some, if_pos rfl, if_pos rfl, e1]
      show P.skifflaw18_TickAll.j3 ((K + 1) + 1) _ _ _ _ _ false _ _ _ _ _ _ _ _ _ _ _ _ = _
      rw [P.skifflaw18_TickAll.j3, if_neg Bool.false_ne_true, e3, if_neg (by omega), e2]
      exact all_end true B.1 B.1 os K (by omega)
  | succ d ih =>
    intro K i f h1 h2 hf
    obtain ⟨K, rfl⟩ : ∃ n, K = n + 3 := ⟨K - 3, by omega⟩
    have hd := List.drop_eq_getElem_cons (show i < os.length by omega)
    have hne : os.drop (i + 1) ≠ [] := by
      intro e
      have := congrArg List.length e
      rw [List.length_drop] at this
      simp at this
      omega
    have hm := sM_may m (os.drop i) (opsMayB_drop h i) (by rw [List.length_drop]; omega)
    have hk := okOps_all (opsMayB_drop h i)
    have hl : (os.drop (i + 1)).length = d + 1 := by rw [List.length_drop]; omega
    have e1 : wrap64 (wrap64 ((os.length : Int) - 1) - (i : Int)) = ((d + 1 : Nat) : Int) := by simp only [wrap64]; omega
    have e3 : wrap64 ((os.length : Int) - 1) = (os.length : Int) - 1 := by simp only [wrap64]; omega
    have e2 : wrap64 ((i : Int) + 1) = ((i + 1 : Nat) : Int) := by simp only [wrap64]; omega
    have ho : opMay (os[i]'(by omega)).f0 (os[i]'(by omega)).f1 (bl (os[i]'(by omega)).f2) = true := List.all_eq_true.1 h _ (List.getElem_mem ..)
    have hz : (cutPair f (os[i]'(by omega)).f0 (os[i]'(by omega)).f1 (os[i]'(by omega)).f2 96).1.size = 768 := by
      rw [cutPair_ok (cutMay_iff.2 ⟨hf, ho, by omega⟩), mk_size, opF_length (by rw [bl_length]; exact hf) ho (by decide)]
    have hi := ih (K + 1) (i + 1) _ (by omega) (by omega) hz
    show P.skifflaw18_TickAll.l0 ((K + 2) + 1) _ _ _ _ _ _ _ _ _ _ _ = _
    rw [P.skifflaw18_TickAll.l0, if_pos (by omega), if_pos (by omega), rd_at os i (by omega), rdo_f _ _ _ _ (K + 2) (by omega), Option.bind_some, step_f _ _ _ _ _ _ _ (K + 2) (by omega) hk, stepTup, hm, decide_eq_true hf, Bool.and_self, if_pos rfl, if_pos (by unfold sM; cases m <;> rfl), hd, stepped, if_neg hne, Option.bind_some]
    generalize (cutPair f (os[i]'(by omega)).f0 (os[i]'(by omega)).f1 (os[i]'(by omega)).f2 96) = B at hi hz ⊢
    dsimp only
    rw [P.skifflaw0_Num.f, Option.bind_some, if_pos rfl, if_pos rfl, e1, hl]
    have hb : (((d + 1 : Nat) : Int) != ((d + 1 : Nat) : Int)) = false := by simp
    rw [hb]
    show P.skifflaw18_TickAll.j3 ((K + 1) + 1) _ _ _ _ _ false _ _ _ _ _ _ _ _ _ _ _ _ = _
    rw [P.skifflaw18_TickAll.j3, if_neg Bool.false_ne_true, e3, if_pos (by omega), if_pos rfl, if_pos rfl, e2]
    exact hi
theorem words_may {a : Int} {t : List UInt8} (h : wordsMay a t = true) : opsMayB (wordOps a t (manyL t)) = true := by
  obtain ⟨h1, h2, h3⟩ := wordsMay_iff.1 h
  refine List.all_eq_true.2 fun o ho => ?_
  obtain ⟨i, hi, rfl⟩ := word_mem ho
  have hw := wordL_length hi
  have hi2 : 4 * i + 1 ≤ t.length := by unfold manyL at hi; omega
  show opMay false (a + 4 * (i : Int)) (bl (mk (wordL t i))) = true
  rw [bl_mk, opMay_false]
  omega
theorem tickAll_f (f : ByteArray) (m : Bool) (a : Int) (t : ByteArray) (ht : t.size ≤ 140737488351232) : P.skifflaw18_TickAll.f 3000 f m a t = some true := by
  have aw : P.skifflaw18_awake.f 3000 = some true := by
    have up : ∀ j, P.skifflaw18_awake.f (300 + j) = some true := fun j => by
      induction j with
      | zero => exact awake18_f
      | succ j ih => exact P.skifflaw18_awake.mono (300 + j) _ ih
    exact up 2700
  unfold P.skifflaw18_TickAll.f
  rw [aw, Option.bind_some, if_pos rfl, rwords_f _ t 3000 (by omega) ht, Option.bind_some]
  generalize bits .and .i64 a 1020 = b
  unfold wordsPair
  cases hm : wordsMay b (bl t)
  · rw [if_neg Bool.false_ne_true, if_neg (by decide)]
    show P.skifflaw18_TickAll.j0 (2999 + 1) _ _ _ true = _
    rw [P.skifflaw18_TickAll.j0, if_pos rfl]
  rw [if_pos rfl, if_pos rfl]
  dsimp only
  have hO := words_may hm
  have hl : (wordOps b (bl t) (manyL (bl t))).length ≤ 768 := by
    rw [wordOps_length]
    obtain ⟨h1, h2, h3⟩ := wordsMay_iff.1 hm
    unfold manyL; omega
  generalize wordOps b (bl t) (manyL (bl t)) = os at hO hl
  by_cases hf : (f.size : Int) = 768
  case neg =>
    rw [if_neg hf]
    show P.skifflaw18_TickAll.j0 (2999 + 1) _ _ _ true = _
    rw [P.skifflaw18_TickAll.j0, if_pos rfl]
  rw [if_pos hf]
  show P.skifflaw18_TickAll.j0 (2999 + 1) _ _ _ _ = _
  rw [P.skifflaw18_TickAll.j0]
  cases os with
  | nil => rfl
  | cons o r =>
    rw [if_neg (by rw [List.length_cons, beq_iff_eq]; omega)]
    have key := all_l0 m (o :: r) hO hl r.length 2998 0 f (by simp) (by simp only [List.length_cons] at hl; omega) (by omega)
    rw [List.drop_zero] at key
    cases m
    · rw [if_neg Bool.false_ne_true]
      show P.skifflaw18_TickAll.j1 (2998 + 1) _ _ _ _ _ _ _ _ _ = _
      rw [P.skifflaw18_TickAll.j1]; exact key
    · rw [if_pos rfl]
      show P.skifflaw18_TickAll.j1 (2998 + 1) _ _ _ _ _ _ _ _ _ = _
      rw [P.skifflaw18_TickAll.j1]; exact key
theorem tickAll_walk (f : ByteArray) (m : Bool) (a : Int) (t : ByteArray) (hf : f.size ≤ 140737488351232) (f1 : (Lit.int .i64 a).wf = true) (ht : t.size ≤ 140737488351232) (w : World) :
    Calls Try.prog 5 #[.string f, .bool m, .int .i64 a, .string t] w fun e w' => e = .returned (.bool true) ∧ Ext w w' :=
  P.skifflaw18_TickAll.calls 3000 f m a t true w (tickAll_f f m a t ht)

end Go.Proofs.Ytgoeooghoojdgaa
