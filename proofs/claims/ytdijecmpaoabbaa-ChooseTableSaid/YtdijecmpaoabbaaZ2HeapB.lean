/- What the heap hands out first among the good ones is what one walk over the row finds: plain Lean. -/
import Derived.Test.YtdijecmpaoabbaaZ2HeapW
set_option linter.unusedVariables false
set_option linter.unusedSimpArgs false
set_option maxHeartbeats 4000000
namespace Go.Proofs.Ytdijecmpaoabbaa

abbrev Asc (l : List Plc) : Prop := l.Pairwise (fun p q => p.f0 < q.f0)
def stepB (good : Plc → Bool) (b : Option Plc) (p : Plc) : Option Plc := if (good p && (b.all fun q => decide (q.f1.f0 ≤ p.f1.f0))) = true then some p else b
theorem step_best (good : Plc → Bool) (l : List Plc) (p : Plc) (b : Option Plc) (hl : Ats (l ++ [p])) (ha : Asc (l ++ [p])) (hb : Hp.Best pkey good l b) : Hp.Best pkey good (l ++ [p]) (stepB good b p) := by
  have hp := hl p (by simp)
  unfold stepB
  cases hg : good p with
  | false =>
    simp only [Bool.false_and, Bool.false_eq_true, if_false]
    cases b with
    | none =>
      intro x hx
      rcases List.mem_append.1 hx with h | h
      · exact hb x h
      · rw [List.mem_singleton.1 h]; exact hg
    | some q =>
      refine ⟨List.mem_append_left _ hb.1, hb.2.1, fun x hx hgx => ?_⟩
      rcases List.mem_append.1 hx with h | h
      · exact hb.2.2 x h hgx
      · rw [List.mem_singleton.1 h, hg] at hgx; cases hgx
  | true =>
    simp only [Bool.true_and]
    cases b with
    | none =>
      simp only [Option.all_none, if_true]
      refine ⟨by simp, hg, fun x hx hgx => ?_⟩
      rcases List.mem_append.1 hx with h | h
      · have := hb x h; rw [hgx] at this; cases this
      · rw [List.mem_singleton.1 h]; exact Int.le_refl _
    | some q =>
      have hq := hl q (List.mem_append_left _ hb.1)
      have hqp : q.f0 < p.f0 := (List.pairwise_append.1 ha).2.2 q hb.1 p (by simp)
      simp only [Option.all_some]
      by_cases hs : q.f1.f0 ≤ p.f1.f0
      · rw [if_pos (decide_eq_true hs)]
        have hk : pkey q ≤ pkey p := by unfold pkey; omega
        refine ⟨by simp, hg, fun x hx hgx => ?_⟩
        rcases List.mem_append.1 hx with h | h
        · exact Int.le_trans (hb.2.2 x h hgx) hk
        · rw [List.mem_singleton.1 h]; exact Int.le_refl _
      · rw [if_neg (fun h => hs (of_decide_eq_true h))]
        have hk : pkey p ≤ pkey q := by unfold pkey; omega
        refine ⟨List.mem_append_left _ hb.1, hb.2.1, fun x hx hgx => ?_⟩
        rcases List.mem_append.1 hx with h | h
        · exact hb.2.2 x h hgx
        · rw [List.mem_singleton.1 h]; exact hk
theorem fold_best (good : Plc → Bool) : ∀ (l2 l1 : List Plc) (b : Option Plc), Ats (l1 ++ l2) → Asc (l1 ++ l2) → Hp.Best pkey good l1 b → Hp.Best pkey good (l1 ++ l2) (l2.foldl (stepB good) b)
  | [], l1, b, _, _, hb => by rw [List.append_nil]; exact hb
  | p :: l2, l1, b, hl, ha, hb => by
    rw [List.append_cons] at hl ha ⊢
    rw [List.foldl_cons]
    exact fold_best good l2 (l1 ++ [p]) _ hl ha (step_best good l1 p b (fun x hx => hl x (List.mem_append_left _ hx)) (List.pairwise_append.1 ha).1 hb)
theorem asc_inj : ∀ {l : List Plc}, Asc l → ∀ {p q}, p ∈ l → q ∈ l → p.f0 = q.f0 → p = q
  | [], _, _, _, h, _, _ => by cases h
  | x :: l, ha, p, q, hp, hq, he => by
    have h1 := List.pairwise_cons.1 ha
    rcases List.mem_cons.1 hp with rfl | hp'
    · rcases List.mem_cons.1 hq with rfl | hq'
      · rfl
      · have := h1.1 q hq'; omega
    · rcases List.mem_cons.1 hq with rfl | hq'
      · have := h1.1 p hp'; omega
      · exact asc_inj h1.2 hp' hq' he
theorem best_unique {good : Plc → Bool} {l : List Plc} (hl : Ats l) (ha : Asc l) {o1 o2 : Option Plc} (h1 : Hp.Best pkey good l o1) (h2 : Hp.Best pkey good l o2) : o1 = o2 := by
  cases o1 with
  | none =>
    cases o2 with
    | none => rfl
    | some q => have := h1 q h2.1; rw [h2.2.1] at this; cases this
  | some p =>
    cases o2 with
    | none => have := h2 p h1.1; rw [h1.2.1] at this; cases this
    | some q =>
      have e1 := h1.2.2 q h2.1 h2.2.1
      have e2 := h2.2.2 p h1.1 h1.2.1
      have b1 := hl p h1.1
      have b2 := hl q h2.1
      rw [asc_inj ha h1.1 h2.1 (by unfold pkey at e1 e2; omega)]
theorem best_perm {good : Plc → Bool} {l l' : List Plc} (hp : l'.Perm l) {o : Option Plc} (h : Hp.Best pkey good l' o) : Hp.Best pkey good l o := by
  cases o with
  | none => exact fun x hx => h x (hp.mem_iff.2 hx)
  | some p => exact ⟨hp.mem_iff.1 h.1, h.2.1, fun x hx hg => h.2.2 x (hp.mem_iff.2 hx) hg⟩
theorem foldM_some (G : Plc → Option (Bool × Int)) : ∀ (l : List Plc) (b r : Option Plc), l.foldlM (fun (b : Option Plc) p => (G p).bind fun g => some (if g.1 && (b.all fun q => decide (q.f1.f0 ≤ p.f1.f0)) then some p else b)) b = some r →
    (∀ p ∈ l, ∃ g, G p = some g) ∧ r = l.foldl (stepB (fun p => ((G p).map (·.1)).getD false)) b
  | [], b, r, h => by
    rw [List.foldlM_nil] at h
    exact ⟨fun p hp => (by cases hp), (Option.some.inj h).symm⟩
  | p :: l, b, r, h => by
    rw [List.foldlM_cons] at h
    cases hg : G p with
    | none => rw [hg] at h; cases h
    | some g =>
      rw [hg] at h
      have := foldM_some G l _ r h
      refine ⟨fun q hq => ?_, ?_⟩
      · rcases List.mem_cons.1 hq with rfl | hq'
        · exact ⟨g, hg⟩
        · exact this.1 q hq'
      · rw [this.2, List.foldl_cons]
        congr 1
        unfold stepB
        show _ = if (((G p).map (·.1)).getD false && (b.all fun q => decide (q.f1.f0 ≤ p.f1.f0))) = true then some p else b
        rw [hg]
        rfl
theorem pick_fold (good : Plc → Bool) (l : List Plc) (hl : Ats l) (ha : Asc l) : Hp.pick pz pkey good l.length (Hp.init pz pkey l.length (l.length / 2) l) = l.foldl (stepB good) none := by
  have hlen := Hp.init_length pz pkey l.length (l.length / 2) l
  have hh := Hp.init_heap pz pkey l.length (l.length / 2) l (Nat.le_refl _) (by omega) (fun k hk c hc hn => by omega)
  refine best_unique hl ha (best_perm (Hp.init_perm pz pkey l.length (l.length / 2) l (Nat.le_refl _) (by omega)) (Hp.pick_best pz pkey good l.length _ (by omega) (by rw [hlen]; exact hh))) ?_
  exact fold_best good l [] none (by simpa using hl) (by simpa using ha) (fun x hx => by cases hx)
end Go.Proofs.Ytdijecmpaoabbaa
