/- Texts of this claim, laid together. -/
import Derived.Test.YtmidohjfajbpmaaZ0M0
import Derived.Test.YtmidohjfajbpmaaZ0M1
section
set_option linter.unusedVariables false
set_option linter.unusedSimpArgs false
set_option maxHeartbeats 4000000
namespace Go.Proofs.Ytmidohjfajbpmaa.Hp
variable {α : Type} (z : α) (K : α → Int)

def swp (l : List α) (i j : Nat) : List α := (l.set i (l.getD j z)).set j (l.getD i z)
theorem swp_length (l : List α) (i j : Nat) : (swp z l i j).length = l.length := by unfold swp; rw [List.length_set, List.length_set]
theorem swp_at (l : List α) (i j k : Nat) (hi : i < l.length) (hj : j < l.length) : (swp z l i j).getD k z = if k = j then l.getD i z else if k = i then l.getD j z else l.getD k z := by
  unfold swp
  rw [List.getD_eq_getElem?_getD, List.getElem?_set]
  by_cases h : j = k
  · subst h; rw [if_pos rfl, if_pos rfl, if_pos (by rw [List.length_set]; exact hj)]; rfl
  · rw [if_neg h, if_neg (fun e => h e.symm), List.getElem?_set]
    by_cases h2 : i = k
    · subst h2; rw [if_pos rfl, if_pos rfl, if_pos hi]; rfl
    · rw [if_neg h2, if_neg (fun e => h2 e.symm), List.getD_eq_getElem?_getD]
theorem swp_perm (l : List α) (i j : Nat) (hi : i < l.length) (hj : j < l.length) : (swp z l i j).Perm l := by
  have h := Array.swap_perm (xs := l.toArray) (i := i) (j := j) (by simpa using hi) (by simpa using hj)
  rw [Array.perm_iff_toList_perm, Array.toList_swap] at h
  simp only [List.getElem_toArray] at h
  unfold swp
  rw [List.getD_eq_getElem?_getD, List.getD_eq_getElem?_getD, List.getElem?_eq_getElem hi, List.getElem?_eq_getElem hj]
  exact h

/-- The greater child. -/
def child (n i : Nat) (l : List α) : Nat := if 2 * i + 2 < n ∧ K (l.getD (2 * i + 2) z) > K (l.getD (2 * i + 1) z) then 2 * i + 2 else 2 * i + 1
def down (n : Nat) : Nat → Nat → List α → List α
  | 0, _, l => l
  | f + 1, i, l => if n ≤ 2 * i + 1 then l else if K (l.getD (child z K n i l) z) > K (l.getD i z) then down n f (child z K n i l) (swp z l i (child z K n i l)) else l
theorem child_le (n i : Nat) (l : List α) (h : ¬ n ≤ 2 * i + 1) : child z K n i l < n ∧ (child z K n i l = 2 * i + 1 ∨ child z K n i l = 2 * i + 2) := by
  unfold child
  split <;> omega
theorem child_max (n i : Nat) (l : List α) (c : Nat) (hc : c = 2 * i + 1 ∨ c = 2 * i + 2) (hn : c < n) : K (l.getD c z) ≤ K (l.getD (child z K n i l) z) := by
  unfold child
  split
  · rename_i h
    rcases hc with rfl | rfl <;> omega
  · rename_i h
    rcases hc with rfl | rfl
    · omega
    · by_cases h2 : K (l.getD (2 * i + 2) z) > K (l.getD (2 * i + 1) z)
      · exact absurd ⟨hn, h2⟩ h
      · omega
theorem down_length (n : Nat) : ∀ f i (l : List α), (down z K n f i l).length = l.length
  | 0, _, _ => rfl
  | f + 1, i, l => by
    rw [down]
    split
    · rfl
    split
    · rw [down_length n f, swp_length]
    · rfl
theorem down_perm (n : Nat) : ∀ f i (l : List α), n ≤ l.length → i < n → (down z K n f i l).Perm l
  | 0, _, l, _, _ => List.Perm.refl l
  | f + 1, i, l, h, hi => by
    rw [down]
    split
    · exact List.Perm.refl l
    rename_i h1
    have hc := child_le z K n i l h1
    split
    · exact (down_perm n f _ _ (by rw [swp_length]; exact h) hc.1).trans (swp_perm z l i _ (by omega) (by omega))
    · exact List.Perm.refl l
theorem down_out (n : Nat) : ∀ f i (l : List α) k, n ≤ l.length → i < n → n ≤ k → (down z K n f i l).getD k z = l.getD k z
  | 0, _, _, _, _, _, _ => rfl
  | f + 1, i, l, k, h, hi, hk => by
    rw [down]
    split
    · rfl
    rename_i h1
    have hc := child_le z K n i l h1
    split
    · rw [down_out n f _ _ k (by rw [swp_length]; exact h) hc.1 hk, swp_at z l i _ k (by omega) (by omega), if_neg (by omega), if_neg (by omega)]
    · rfl
/-- No child is greater. -/
def At (l : List α) (n k : Nat) : Prop := ∀ c, (c = 2 * k + 1 ∨ c = 2 * k + 2) → c < n → K (l.getD c z) ≤ K (l.getD k z)
theorem down_heap (n lo : Nat) : ∀ f i (l : List α), n ≤ l.length → i < n → lo ≤ i → n ≤ i + f → (∀ k, lo ≤ k → k ≠ i → At z K l n k) →
    (∀ p, lo ≤ p → (i = 2 * p + 1 ∨ i = 2 * p + 2) → ∀ c, (c = 2 * i + 1 ∨ c = 2 * i + 2) → c < n → K (l.getD c z) ≤ K (l.getD p z)) → ∀ k, lo ≤ k → At z K (down z K n f i l) n k
  | 0, i, l, _, hi, _, hf, _, _, _, _ => by omega
  | f + 1, i, l, h, hi, hlo, hf, h1, h2, k, hk => by
    rw [down]
    by_cases hc : n ≤ 2 * i + 1
    · rw [if_pos hc]
      by_cases hki : k = i
      · subst hki; intro c hcc hcn; omega
      · exact h1 k hk hki
    rw [if_neg hc]
    have hch := child_le z K n i l hc
    have hmx := child_max z K n i l
    generalize child z K n i l = j at hch hmx
    by_cases hg : K (l.getD j z) > K (l.getD i z)
    · rw [if_pos hg]
      have hs := fun k => swp_at z l i j k (by omega) (by omega)
      refine down_heap n lo f j (swp z l i j) (by rw [swp_length]; exact h) hch.1 (by omega) (by omega) ?_ ?_ k hk
      · intro k hk hkj c hcc hcn
        rw [hs c, hs k, if_neg hkj]
        by_cases hki : k = i
        · rw [if_pos hki]
          subst hki
          by_cases hcj : c = j
          · rw [if_pos hcj]; omega
          · rw [if_neg hcj, if_neg (by omega)]
            exact hmx c hcc hcn
        · rw [if_neg hki, if_neg (by omega)]
          by_cases hci : c = i
          · rw [if_pos hci]
            subst hci
            exact h2 k hk hcc j hch.2 hch.1
          · rw [if_neg hci]
            exact h1 k hk hki c hcc hcn
      · intro p hp hpj c hcc hcn
        have : p = i := by omega
        subst this
        rw [hs c, hs p, if_neg (by omega), if_neg (by omega), if_neg (by omega), if_pos rfl]
        exact h1 j (by omega) (by omega) c hcc hcn
    · rw [if_neg hg]
      by_cases hki : k = i
      · subst hki
        intro c hcc hcn
        have := hmx c hcc hcn
        omega
      · exact h1 k hk hki
theorem down_stop (n f i : Nat) (l : List α) (h : n ≤ 2 * i + 1) : down z K n f i l = l := by
  cases f with
  | zero => rfl
  | succ f => rw [down, if_pos h]
theorem down_go (n f i : Nat) (l : List α) (j : Nat) (h : ¬ n ≤ 2 * i + 1) (hj : child z K n i l = j) (hg : K (l.getD j z) > K (l.getD i z)) : down z K n (f + 1) i l = down z K n f j (swp z l i j) := by
  rw [down, if_neg h, hj, if_pos hg]
theorem down_halt (n f i : Nat) (l : List α) (j : Nat) (h : ¬ n ≤ 2 * i + 1) (hj : child z K n i l = j) (hg : ¬ K (l.getD j z) > K (l.getD i z)) : down z K n (f + 1) i l = l := by
  rw [down, if_neg h, hj, if_neg hg]
theorem child_right (n i : Nat) (l : List α) (h : 2 * i + 2 < n) (hg : decide (K (l.getD (2 * i + 2) z) > K (l.getD (2 * i + 1) z)) = true) : child z K n i l = 2 * i + 2 := if_pos ⟨h, of_decide_eq_true hg⟩
theorem child_left (n i : Nat) (l : List α) (hg : 2 * i + 2 < n → decide (K (l.getD (2 * i + 2) z) > K (l.getD (2 * i + 1) z)) = false) : child z K n i l = 2 * i + 1 := if_neg fun h => of_decide_eq_false (hg h.1) h.2
/-- heap.Init: the places below i are still to do. -/
def init (n : Nat) : Nat → List α → List α
  | 0, l => l
  | i + 1, l => init n i (down z K n n i l)
theorem init_length (n : Nat) : ∀ i (l : List α), (init z K n i l).length = l.length
  | 0, _ => rfl
  | i + 1, l => by rw [init, init_length n i, down_length]
theorem init_perm (n : Nat) : ∀ i (l : List α), n ≤ l.length → i ≤ n → (init z K n i l).Perm l
  | 0, l, _, _ => List.Perm.refl l
  | i + 1, l, h, hi => by rw [init]; exact (init_perm n i _ (by rw [down_length]; exact h) (by omega)).trans (down_perm z K n n i l h (by omega))
theorem init_heap (n : Nat) : ∀ i (l : List α), n ≤ l.length → i ≤ n → (∀ k, i ≤ k → At z K l n k) → ∀ k, At z K (init z K n i l) n k
  | 0, _, _, _, h, k => h k (Nat.zero_le _)
  | i + 1, l, h, hi, h1, k => by
    rw [init]
    exact init_heap n i _ (by rw [down_length]; exact h) (by omega) (fun k hk => down_heap z K n i n i l h (by omega) (Nat.le_refl _) (by omega) (fun k hk hki => h1 k (by omega)) (fun p hp hpi => by omega) k hk) k
theorem root_max (l : List α) (n : Nat) (h : ∀ k, At z K l n k) (c : Nat) : c < n → K (l.getD c z) ≤ K (l.getD 0 z) := by
  induction c using Nat.strongRecOn with
  | ind c ih =>
    intro hc
    by_cases h0 : c = 0
    · rw [h0]; omega
    have h1 := h ((c - 1) / 2) c (by omega) hc
    have h2 := ih ((c - 1) / 2) (by omega) (by omega)
    omega
/-- heap.Pop: what is left, behind it what is handed back. -/
def popped (l : List α) : List α := down z K (l.length - 1) (l.length - 1) 0 (swp z l 0 (l.length - 1))
def rest (l : List α) : List α := (popped z K l).take (l.length - 1)
theorem popped_length (l : List α) : (popped z K l).length = l.length := by unfold popped; rw [down_length, swp_length]
theorem rest_length (l : List α) : (rest z K l).length = l.length - 1 := by unfold rest; rw [List.length_take, popped_length]; omega
theorem pop_facts (l : List α) (hl : l ≠ []) (h : ∀ k, At z K l l.length k) : (popped z K l).getD (l.length - 1) z = l.getD 0 z ∧ l.Perm (l.getD 0 z :: rest z K l) ∧ ∀ k, At z K (rest z K l) (rest z K l).length k := by
  have h0 : 0 < l.length := List.length_pos_iff.2 hl
  by_cases h1 : l.length = 1
  · obtain ⟨x, rfl⟩ := List.length_eq_one_iff.1 h1
    refine ⟨rfl, List.Perm.refl _, fun k c hc hn => ?_⟩
    rw [rest_length] at hn
    simp at hn
  have hs := fun k => swp_at z l 0 (l.length - 1) k (by omega) (by omega)
  have e1 : (popped z K l).getD (l.length - 1) z = l.getD 0 z := by
    unfold popped
    rw [down_out z K _ _ _ _ _ (by rw [swp_length]; omega) (by omega) (Nat.le_refl _), hs, if_pos rfl]
  have e2 : ∀ k, At z K (popped z K l) (l.length - 1) k := fun k => by
    unfold popped
    refine down_heap z K (l.length - 1) 0 (l.length - 1) 0 _ (by rw [swp_length]; omega) (by omega) (Nat.le_refl _) (by omega) (fun k _ hk c hc hn => ?_) (fun p _ hp => by omega) k (Nat.zero_le _)
    rw [hs, hs, if_neg (by omega), if_neg (by omega), if_neg (by omega), if_neg (by omega)]
    exact h k c hc (by omega)
  refine ⟨e1, ?_, fun k c hc hn => ?_⟩
  · have p1 : (popped z K l).Perm l := by
      unfold popped
      exact (down_perm z K _ _ _ _ (by rw [swp_length]; omega) (by omega)).trans (swp_perm z l 0 _ h0 (by omega))
    have e3 : popped z K l = rest z K l ++ [l.getD 0 z] := by
      have hp := popped_length z K l
      have hlt : l.length - 1 < (popped z K l).length := by omega
      rw [← e1]
      unfold rest
      rw [List.getD_eq_getElem?_getD, List.getElem?_eq_getElem hlt, Option.getD_some, List.take_append_getElem, List.take_of_length_le (by omega)]
    rw [e3] at p1
    exact p1.symm.trans (List.perm_append_singleton _ _)
  · rw [rest_length] at hn
    have e4 : ∀ c, c < l.length - 1 → (rest z K l).getD c z = (popped z K l).getD c z := fun c hc => by
      unfold rest
      rw [List.getD_eq_getElem?_getD, List.getElem?_take, if_pos hc, List.getD_eq_getElem?_getD]
    rw [e4 c hn, e4 k (by omega)]
    exact e2 k c hc hn
theorem popped_last (l : List α) (hl : l ≠ []) : (popped z K l).getD (l.length - 1) z = l.getD 0 z := by
  have h0 : 0 < l.length := List.length_pos_iff.2 hl
  have hs := fun k => swp_at z l 0 (l.length - 1) k (by omega) (by omega)
  unfold popped
  by_cases h1 : l.length = 1
  · rw [h1]
    show (swp z l 0 0).getD 0 z = l.getD 0 z
    have h2 := hs 0
    rw [h1] at h2
    rw [h2, if_pos rfl]
  · rw [down_out z K _ _ _ _ _ (by rw [swp_length]; omega) (by omega) (Nat.le_refl _), hs, if_pos rfl]
theorem rest_sub (l : List α) (hl : l ≠ []) : ∀ x, x ∈ rest z K l → x ∈ l := by
  have h0 : 0 < l.length := List.length_pos_iff.2 hl
  intro x hx
  have h1 : x ∈ popped z K l := List.mem_of_mem_take hx
  have hp : (popped z K l).Perm l := by
    unfold popped
    by_cases h2 : l.length = 1
    · rw [h2]; exact swp_perm z l 0 0 h0 h0
    · exact (down_perm z K _ _ _ _ (by rw [swp_length]; omega) (by omega)).trans (swp_perm z l 0 _ h0 (by omega))
  exact hp.mem_iff.1 h1
/-- The first one that is good. -/
def pick (good : α → Bool) : Nat → List α → Option α
  | 0, _ => none
  | f + 1, l => if l.length = 0 then none else if good (l.getD 0 z) then some (l.getD 0 z) else pick good f (rest z K l)
/-- The greatest good one. -/
def Best (good : α → Bool) (l : List α) : Option α → Prop
  | none => ∀ x ∈ l, good x = false
  | some p => p ∈ l ∧ good p = true ∧ ∀ x ∈ l, good x = true → K x ≤ K p
theorem pick_best (good : α → Bool) : ∀ f (l : List α), l.length ≤ f → (∀ k, At z K l l.length k) → Best K good l (pick z K good f l)
  | 0, l, hf, _ => by
    have : l = [] := List.length_eq_zero_iff.1 (by omega)
    subst this
    intro x hx; cases hx
  | f + 1, l, hf, h => by
    rw [pick]
    by_cases h0 : l.length = 0
    · rw [if_pos h0]
      have : l = [] := List.length_eq_zero_iff.1 h0
      subst this
      intro x hx; cases hx
    rw [if_neg h0]
    have hl : l ≠ [] := fun e => h0 (by rw [e]; rfl)
    obtain ⟨_, hp, hr⟩ := pop_facts z K l hl h
    have hm : l.getD 0 z ∈ l := hp.mem_iff.2 (List.mem_cons_self ..)
    by_cases hg : good (l.getD 0 z) = true
    · rw [if_pos hg]
      refine ⟨hm, hg, fun x hx _ => ?_⟩
      obtain ⟨c, hc, rfl⟩ := List.getElem_of_mem hx
      have := root_max z K l l.length h c hc
      rw [List.getD_eq_getElem?_getD, List.getElem?_eq_getElem hc] at this
      exact this
    · rw [if_neg hg]
      have ih := pick_best good f (rest z K l) (by rw [rest_length]; omega) hr
      generalize pick z K good f (rest z K l) = o at ih
      have back : ∀ x, x ∈ l → good x = true → x ∈ rest z K l := fun x hx hgx => by
        rcases List.mem_cons.1 (hp.mem_iff.1 hx) with rfl | h
        · exact absurd hgx hg
        · exact h
      cases o with
      | none =>
        intro x hx
        cases hgx : good x
        · rfl
        · have := ih x (back x hx hgx); rw [hgx] at this; exact this
      | some p => exact ⟨hp.mem_iff.2 (List.mem_cons_of_mem _ ih.1), ih.2.1, fun x hx hgx => ih.2.2 x (back x hx hgx) hgx⟩

end Go.Proofs.Ytmidohjfajbpmaa.Hp
end
section
set_option linter.unusedVariables false
set_option linter.unusedSimpArgs false
set_option maxHeartbeats 4000000
namespace Go.Proofs.Ytmidohjfajbpmaa
open Go.RowKit Skiff Go.Proofs.YtmidohjfajbpmaaW.PrintWords

abbrev Plc := P.S43
def slotAt (f : ByteArray) (i : Nat) : Option Rec := Skiff.get (bl (f.extract (24 * i) (24 * i + 24)))
def mkPl (i : Nat) (r : Rec) : Plc := ⟨24 * (i : Int), ⟨r.seq, r.slot, r.size, r.sum⟩⟩
def pls (f : ByteArray) (i : Nat) : List Plc := ((slotAt f i).map (mkPl i)).toList
def scanTo (f : ByteArray) : Nat → List Plc
  | 0 => []
  | n + 1 => scanTo f n ++ pls f n
theorem scanTo_len (f : ByteArray) : ∀ n, (scanTo f n).length ≤ n
  | 0 => Nat.le_refl _
  | n + 1 => by
    have := scanTo_len f n
    rw [scanTo, List.length_append]
    have : (pls f n).length ≤ 1 := by unfold pls; cases slotAt f n <;> simp
    omega
theorem scanTo_mem {f : ByteArray} {p : Plc} : ∀ {n}, p ∈ scanTo f n → ∃ i r, i < n ∧ slotAt f i = some r ∧ p = mkPl i r
  | 0, h => by simp [scanTo] at h
  | n + 1, h => by
    rw [scanTo, List.mem_append] at h
    rcases h with h | h
    · obtain ⟨i, r, h1, h2⟩ := scanTo_mem h
      exact ⟨i, r, by omega, h2⟩
    · unfold pls at h
      cases hs : slotAt f n with
      | none => rw [hs] at h; simp at h
      | some r => rw [hs] at h; simp at h; exact ⟨n, r, by omega, hs, h⟩
theorem scanTo_asc (f : ByteArray) : ∀ n, (scanTo f n).Pairwise (fun p q => p.f0 < q.f0)
  | 0 => List.Pairwise.nil
  | n + 1 => by
    rw [scanTo, List.pairwise_append]
    refine ⟨scanTo_asc f n, ?_, fun p hp q hq => ?_⟩
    · unfold pls; cases slotAt f n <;> simp
    · obtain ⟨i, r, hi, _, rfl⟩ := scanTo_mem hp
      unfold pls at hq
      cases hs : slotAt f n with
      | none => rw [hs] at hq; simp at hq
      | some r2 =>
        rw [hs] at hq
        simp at hq
        subst hq
        show 24 * (i : Int) < 24 * (n : Int)
        omega
theorem scanTo_at {f : ByteArray} {p : Plc} {n : Nat} (h : p ∈ scanTo f n) : 0 ≤ p.f0 ∧ p.f0 < 24 * (n : Int) := by
  obtain ⟨i, r, hi, _, rfl⟩ := scanTo_mem h
  show 0 ≤ 24 * (i : Int) ∧ 24 * (i : Int) < 24 * (n : Int)
  omega
theorem slotAt_may {f : ByteArray} {i : Nat} {r : Rec} (h : slotAt f i = some r) : recMay r = true := (get_some h).1

theorem getTup_some {l : List UInt8} {r : Rec} (h : Skiff.get l = some r) : getTup l = (r.seq, r.slot, r.size, r.sum, 0) := by unfold getTup; rw [h]
theorem getTup_none {l : List UInt8} (h : Skiff.get l = none) : getTup l = (0, 0, 0, 0, 400) := by unfold getTup; rw [h]

theorem nmay_f (f : ByteArray) : P.nor_May.f f = some (decide (f.size = 768)) := by
  unfold P.nor_May.f
  congr 1
  rw [Bool.eq_iff_iff]; simp; omega
theorem at_f (f : ByteArray) (hf : f.size = 768) (i : Nat) (hi : i < 8) : P.journal_at.f f (24 * (i : Int)) = some (f.extract (24 * i) (24 * i + 24)) := by
  unfold P.journal_at.f
  have e : wrap64 (24 * (i : Int) + 24) = 24 * (i : Int) + 24 := by simp only [wrap64]; omega
  rw [e, if_pos (by omega), if_pos (by omega), if_pos (by omega)]
  rw [show (24 * (i : Int)).toNat = 24 * i by omega, show (24 * (i : Int) + 24).toNat = 24 * i + 24 by omega]
theorem scan_l0 (f : ByteArray) (hf : f.size = 768) (d : Nat) : ∀ (k i : Nat), i + d = 8 → d < k → P.journal_Scan.l0 k f (scanTo f i) (i : Int) = some (scanTo f 8, 0) := by
  induction d with
  | zero =>
    intro k i h1 h2
    obtain ⟨k, rfl⟩ : ∃ m, k = m + 1 := ⟨k - 1, by omega⟩
    obtain rfl : i = 8 := by omega
    simp only [P.journal_Scan.l0]
    rw [if_neg (by omega)]
  | succ d ih =>
    intro k i h1 h2
    obtain ⟨k, rfl⟩ : ∃ m, k = m + 1 := ⟨k - 1, by omega⟩
    have hr := ih k (i + 1) (by omega) (by omega)
    have hl := scanTo_len f i
    have e1 : wrap64 ((i : Int) * 24) = 24 * (i : Int) := by simp only [wrap64]; omega
    have e2 : wrap64 ((i : Int) + 1) = ((i + 1 : Nat) : Int) := by simp only [wrap64]; omega
    simp only [P.journal_Scan.l0, P.entry_Get.f]
    rw [if_pos (by omega), e1, at_f f hf i (by omega), e2]
    simp only [Option.bind_some]
    cases hs : slotAt f i with
    | none =>
      rw [getTup_none hs]
      simp only
      rw [if_neg (by omega)]
      rw [scanTo, pls, hs] at hr
      simpa using hr
    | some r =>
      rw [getTup_some hs]
      simp only [if_true]
      rw [if_pos (by omega)]
      rw [scanTo, pls, hs] at hr
      exact hr
theorem scan_f (f : ByteArray) (k : Nat) (hk : 8 < k) : P.journal_Scan.f k f = some (if f.size = 768 then (scanTo f 8, 0) else ([], 500)) := by
  unfold P.journal_Scan.f
  rw [nmay_f]
  simp only [Option.bind_some]
  by_cases h : f.size = 768
  · rw [decide_eq_true h, if_pos h, if_pos rfl]
    exact scan_l0 f h 8 k 0 (by omega) hk
  · rw [decide_eq_false h, if_neg h]; rfl

end Go.Proofs.Ytmidohjfajbpmaa
end
