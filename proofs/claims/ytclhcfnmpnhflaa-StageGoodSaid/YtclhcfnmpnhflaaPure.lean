/- Plain words: bytes as lists, numbers in bytes, records. -/
import Derived.Test.YtclhcfnmpnhflaaCrc
import Derived.Laws.Strings
set_option linter.unusedVariables false
set_option linter.unusedSimpArgs false
set_option maxHeartbeats 4000000
namespace Skiff

/-- A string's bytes; a string of bytes. -/
def bl (s : ByteArray) : List UInt8 := s.data.toList
def mk (l : List UInt8) : ByteArray := ⟨l.toArray⟩
@[simp] theorem bl_mk (l : List UInt8) : bl (mk l) = l := by simp [bl, mk]
@[simp] theorem mk_bl (s : ByteArray) : mk (bl s) = s := rfl
@[simp] theorem bl_append (s t : ByteArray) : bl (s ++ t) = bl s ++ bl t := by simp [bl]
@[simp] theorem bl_length (s : ByteArray) : (bl s).length = s.size := by simp [bl]
@[simp] theorem mk_size (l : List UInt8) : (mk l).size = l.length := by simp [mk, ByteArray.size]
theorem bl_extract (s : ByteArray) (a b : Nat) : bl (s.extract a b) = ((bl s).drop a).take (b - a) := by
  simp [bl, List.extract_eq_take_drop]
theorem mk_append (a b : List UInt8) : mk (a ++ b) = mk a ++ mk b := by
  have : bl (mk a ++ mk b) = a ++ b := by simp
  rw [← mk_bl (mk a ++ mk b), this]
theorem bl_inj {s t : ByteArray} (h : bl s = bl t) : s = t := by rw [← mk_bl s, ← mk_bl t, h]
theorem mk_inj {s t : List UInt8} (h : mk s = mk t) : s = t := by rw [← bl_mk s, ← bl_mk t, h]

theorem toList_bl (s : ByteArray) : s.toList = bl s := Go.ByteArray.toList_eq s
theorem beq_bl (a b : ByteArray) : (a.toList == b.toList) = decide (bl a = bl b) := by
  rw [toList_bl, toList_bl]
  by_cases h : bl a = bl b
  · simp [h]
  · simp [h]

/-- The lowest byte of a number; so many bytes, the lowest first; bytes' number. -/
def lowByte (x : Int) : UInt8 := UInt8.ofNat (x % 256).toNat
def low (x : Int) : Nat → List UInt8
  | 0 => []
  | k + 1 => lowByte x :: low (x / 256) k
def num : List UInt8 → Nat
  | [] => 0
  | b :: l => b.toNat + 256 * num l
theorem lowByte_toNat (x : Int) : ((lowByte x).toNat : Int) = x % 256 := by
  have h := Int.emod_nonneg x (show (256 : Int) ≠ 0 by decide)
  have h2 := Int.emod_lt_of_pos x (show (0 : Int) < 256 by decide)
  unfold lowByte
  rw [UInt8.toNat_ofNat']
  omega
@[simp] theorem low_length (k : Nat) : ∀ x, (low x k).length = k := by
  induction k with
  | zero => intro x; rfl
  | succ k ih => intro x; simp [low, ih]
theorem num_lt : ∀ l : List UInt8, num l < 256 ^ l.length
  | [] => by simp [num]
  | b :: l => by
    have h := num_lt l
    have hb := b.toNat_lt
    simp only [num, List.length_cons, Nat.pow_succ]
    have : 256 * num l + 256 ≤ 256 ^ l.length * 256 := by
      have := Nat.mul_le_mul_left 256 (Nat.succ_le_of_lt h)
      rw [Nat.mul_comm (256 ^ l.length)]
      omega
    omega
theorem num_low (k : Nat) : ∀ x : Int, 0 ≤ x → x < 256 ^ k → (num (low x k) : Int) = x := by
  induction k with
  | zero => intro x h0 h1; simp [low, num] at *; omega
  | succ k ih =>
    intro x h0 h1
    have h2 : x / 256 < 256 ^ k := by
      rw [Int.pow_succ] at h1
      exact Int.ediv_lt_of_lt_mul (by decide) h1
    have h3 := ih (x / 256) (by omega) h2
    simp only [low, num, Int.natCast_add, Int.natCast_mul, lowByte_toNat, h3]
    omega
theorem lowByte_cat (b : UInt8) (n : Nat) : lowByte ((b.toNat + 256 * n : Nat) : Int) = b := by
  apply UInt8.toNat_inj.1
  have h := lowByte_toNat ((b.toNat + 256 * n : Nat) : Int)
  have hb := b.toNat_lt
  omega
theorem low_num : ∀ l : List UInt8, low (num l : Int) l.length = l
  | [] => rfl
  | b :: l => by
    have h : ((num (b :: l) : Nat) : Int) / 256 = (num l : Int) := by
      have hb := b.toNat_lt
      simp only [num]
      omega
    show lowByte ((num (b :: l) : Nat) : Int) :: low (((num (b :: l) : Nat) : Int) / 256) l.length = _
    rw [h, low_num l, show (num (b :: l)) = b.toNat + 256 * num l from rfl, lowByte_cat]

theorem low_snoc (x : Int) : ∀ j : Nat, low x (j + 1) = low x j ++ [lowByte (x / 256 ^ j)]
  | 0 => by simp [low]
  | j + 1 => by
    have h := low_snoc (x / 256) j
    rw [show low x (j + 1 + 1) = lowByte x :: low (x / 256) (j + 1) from rfl, h, Int.ediv_ediv_of_nonneg (by decide)]
    rw [show (256 : Int) * 256 ^ j = 256 ^ (j + 1) by rw [Int.pow_succ, Int.mul_comm]]
    rfl

theorem low_set (x : Int) (j m : Nat) : (low x j ++ List.replicate (m + 1) 0).set j (lowByte (x / 256 ^ j)) = low x (j + 1) ++ List.replicate m 0 := by
  rw [List.set_append_right _ _ (by simp), low_length, Nat.sub_self, List.replicate_succ, List.set_cons_zero, low_snoc]
  simp

/-- A record. -/
structure Rec where
  seq : Int
  slot : Int
  size : Int
  sum : Int
  deriving DecidableEq
def Rec.zero : Rec := ⟨0, 0, 0, 0⟩
def within (x a b : Int) : Bool := decide (a ≤ x) && decide (x ≤ b)
def recMay (r : Rec) : Bool := within r.seq 1 1048576 && within r.slot 0 1 && within r.size 1 288 && within r.sum 0 4294967295
theorem within_iff {x a b : Int} : within x a b = true ↔ a ≤ x ∧ x ≤ b := by simp [within]
theorem recMay_iff {r : Rec} : recMay r = true ↔ (1 ≤ r.seq ∧ r.seq ≤ 1048576) ∧ (0 ≤ r.slot ∧ r.slot ≤ 1) ∧ (1 ≤ r.size ∧ r.size ≤ 288) ∧ 0 ≤ r.sum ∧ r.sum ≤ 4294967295 := by
  simp [recMay, within_iff, and_assoc]
def compl (l : List UInt8) : List UInt8 := l.map fun b => ~~~ b
@[simp] theorem compl_length (l : List UInt8) : (compl l).length = l.length := by simp [compl]
theorem compl_at (l : List UInt8) (j : Nat) (h : j < l.length) : (compl (l.take j) ++ l.drop j).getD j 0 = l[j] := by
  have hl : (compl (l.take j)).length = j := by simp; omega
  rw [List.getD_eq_getElem?_getD, List.getElem?_append_right (by omega), hl]
  simp [h]
theorem compl_set (l : List UInt8) (j : Nat) (h : j < l.length) : (compl (l.take j) ++ l.drop j).set j (~~~ l[j]) = compl (l.take (j + 1)) ++ l.drop (j + 1) := by
  have hl : (compl (l.take j)).length = j := by simp; omega
  rw [List.set_append_right _ _ (by omega), hl, Nat.sub_self, List.drop_eq_getElem_cons h, List.set_cons_zero, List.take_succ_eq_append_getElem h]
  simp only [compl, List.map_append, List.map_cons, List.map_nil, List.append_assoc, List.cons_append, List.nil_append]
def half (r : Rec) : List UInt8 := low r.seq 4 ++ (low r.slot 2 ++ (low r.size 2 ++ low r.sum 4))
def put (r : Rec) : List UInt8 := half r ++ compl (half r)
@[simp] theorem half_length (r : Rec) : (half r).length = 12 := by simp [half]
@[simp] theorem put_length (r : Rec) : (put r).length = 24 := by simp [put]
/-- The record that these bytes tell, whatever they are. -/
def told (l : List UInt8) : Rec := ⟨num (l.take 4), num ((l.drop 4).take 2), num ((l.drop 6).take 2), num ((l.drop 8).take 4)⟩
def get (l : List UInt8) : Option Rec := if l.length = 24 ∧ compl (l.take 12) = l.drop 12 ∧ recMay (told l) = true then some (told l) else none

theorem told_put {r : Rec} (h : recMay r = true) (l : List UInt8) : told (half r ++ l) = r := by
  obtain ⟨h1, h2, h3, h4⟩ := recMay_iff.1 h
  have e1 := num_low 4 r.seq (by omega) (by omega)
  have e2 := num_low 2 r.slot (by omega) (by omega)
  have e3 := num_low 2 r.size (by omega) (by omega)
  have e4 := num_low 4 r.sum (by omega) (by omega)
  have t1 : (half r ++ l).take 4 = low r.seq 4 := by simp [half, List.take_append]
  have t2 : ((half r ++ l).drop 4).take 2 = low r.slot 2 := by simp [half, List.take_append, List.drop_append]
  have t3 : ((half r ++ l).drop 6).take 2 = low r.size 2 := by simp [half, List.take_append, List.drop_append]
  have t4 : ((half r ++ l).drop 8).take 4 = low r.sum 4 := by simp [half, List.take_append, List.drop_append, List.drop_of_length_le]
  unfold told
  rw [t1, t2, t3, t4, e1, e2, e3, e4]
theorem get_put {r : Rec} (h : recMay r = true) : get (put r) = some r := by
  have e : told (put r) = r := told_put h _
  unfold get
  rw [e, if_pos ⟨put_length r, by simp [put, List.take_append, List.drop_append], h⟩]
theorem half_told (l : List UInt8) (h : 12 ≤ l.length) : half (told l) = l.take 12 := by
  have e1 := low_num (l.take 4)
  have e2 := low_num ((l.drop 4).take 2)
  have e3 := low_num ((l.drop 6).take 2)
  have e4 := low_num ((l.drop 8).take 4)
  rw [show (l.take 4).length = 4 by simp; omega] at e1
  rw [show ((l.drop 4).take 2).length = 2 by simp; omega] at e2
  rw [show ((l.drop 6).take 2).length = 2 by simp; omega] at e3
  rw [show ((l.drop 8).take 4).length = 4 by simp; omega] at e4
  unfold half told
  simp only
  rw [e1, e2, e3, e4]
  have s3 : (l.drop 6).take 6 = (l.drop 6).take 2 ++ (l.drop 8).take 4 := by
    rw [show 6 = 2 + 4 from rfl, List.take_add, List.drop_drop]
  have s2 : (l.drop 4).take 8 = (l.drop 4).take 2 ++ (l.drop 6).take 6 := by
    rw [show 8 = 2 + 6 from rfl, List.take_add, List.drop_drop]
  have s1 : l.take 12 = l.take 4 ++ (l.drop 4).take 8 := by
    rw [show 12 = 4 + 8 from rfl, List.take_add]
  rw [← s3, ← s2, ← s1]
theorem put_told {l : List UInt8} (h : l.length = 24) (hc : compl (l.take 12) = l.drop 12) : put (told l) = l := by
  unfold put
  rw [half_told l (by omega), hc, List.take_append_drop]
theorem get_some {l : List UInt8} {r : Rec} (h : get l = some r) : recMay r = true ∧ put r = l := by
  unfold get at h
  split at h
  · rename_i hc
    obtain rfl := Option.some.inj h
    exact ⟨hc.2.2, put_told hc.1 hc.2.1⟩
  · cases h
theorem get_none {l : List UInt8} (h : get l = none) (r : Rec) (hr : recMay r = true) : put r ≠ l := by
  intro e
  rw [← e, get_put hr] at h
  cases h
theorem put_inj {a b : Rec} (ha : recMay a = true) (hb : recMay b = true) (h : put a = put b) : a = b := by
  have h1 := get_put ha
  rw [h, get_put hb] at h1
  exact (Option.some.inj h1).symm

end Skiff
