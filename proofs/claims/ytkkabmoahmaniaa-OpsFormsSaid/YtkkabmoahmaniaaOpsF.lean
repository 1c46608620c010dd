/- OpsForms. -/
import Derived.Test.YtkkabmoahmaniaaOpsL
import Derived.Test.YtkkabmoahmaniaaPx5
set_option linter.unusedVariables false
set_option linter.unusedSimpArgs false
set_option maxHeartbeats 4000000
namespace Go.Proofs.Ytkkabmoahmaniaa
open Go.RowKit Skiff Go.Proofs.YtkkabmoahmaniaaW.PrintWords Go.Proofs.YtkkabmoahmaniaaW.PrintMore O

/-- The steps that may not be. -/
def badOps (d : Int) : List Opn := [⟨true, -96 * d, ⟨#[]⟩⟩, ⟨true, 672 + 96 * d, ⟨#[]⟩⟩, ⟨true, 4, ⟨#[]⟩⟩, ⟨true, 0, ⟨#[97, 98, 99, 100]⟩⟩, ⟨false, -4 * d, ⟨#[97, 98, 99, 100]⟩⟩, ⟨false, 764 + 4 * d, ⟨#[97, 98, 99, 100]⟩⟩, ⟨false, 2, ⟨#[97, 98, 99, 100]⟩⟩, ⟨false, 0, ⟨#[97, 98, 99]⟩⟩, ⟨false, 0, ⟨#[]⟩⟩, ⟨false, 0, ⟨#[97, 98, 99, 100, 101]⟩⟩]
theorem not_erase {a : Int} {t : List UInt8} (h : ¬ ((0 ≤ a ∧ a ≤ 672) ∧ a % 96 = 0 ∧ t.length = 0)) : opMay true a t = false := by
  rw [Bool.eq_false_iff]; exact fun hm => h (opMay_true.1 hm)
theorem not_word {a : Int} {t : List UInt8} (h : ¬ ((0 ≤ a ∧ a ≤ 764) ∧ a % 4 = 0 ∧ t.length = 4)) : opMay false a t = false := by
  rw [Bool.eq_false_iff]; exact fun hm => h (opMay_false.1 hm)
theorem bad_all (d : Int) (h1 : 1 ≤ d) (h2 : d ≤ 1024) : ∀ o ∈ badOps d, opMay o.f0 o.f1 (bl o.f2) = false ∧ o.f1 < 9223372036854775808 := by
  intro o ho
  unfold badOps at ho
  simp only [List.mem_cons, List.not_mem_nil, or_false] at ho
  rcases ho with rfl | rfl | rfl | rfl | rfl | rfl | rfl | rfl | rfl | rfl
  · dsimp only; exact ⟨not_erase (by omega), by omega⟩
  · dsimp only; exact ⟨not_erase (by omega), by omega⟩
  · dsimp only; exact ⟨not_erase (by omega), by omega⟩
  · dsimp only; rw [show (⟨#[97, 98, 99, 100]⟩ : ByteArray) = mk [97, 98, 99, 100] from rfl, bl_mk]; exact ⟨not_erase (by simp), by omega⟩
  · dsimp only; exact ⟨not_word (by omega), by omega⟩
  · dsimp only; exact ⟨not_word (by omega), by omega⟩
  · dsimp only; exact ⟨not_word (by omega), by omega⟩
  · dsimp only; rw [show (⟨#[97, 98, 99]⟩ : ByteArray) = mk [97, 98, 99] from rfl, bl_mk]; exact ⟨not_word (by simp), by omega⟩
  · dsimp only; rw [show (⟨#[]⟩ : ByteArray) = mk [] from rfl, bl_mk]; exact ⟨not_word (by simp), by omega⟩
  · dsimp only; rw [show (⟨#[97, 98, 99, 100, 101]⟩ : ByteArray) = mk [97, 98, 99, 100, 101] from rfl, bl_mk]; exact ⟨not_word (by simp), by omega⟩
theorem wordsPair_no {a : Int} {t : ByteArray} (h : ¬ ((0 ≤ a ∧ a ≤ 768) ∧ a % 4 = 0 ∧ ((bl t).length : Int) ≤ 768 - a)) : wordsPair a t = ([], 300) := by
  unfold wordsPair
  rw [if_neg (fun hm => h (wordsMay_iff.1 hm))]
theorem w64 {x : Int} (h : -9223372036854775808 ≤ x ∧ x < 9223372036854775808) : wrap64 x = x := by simp only [wrap64]; omega
theorem forms_wraps (d g : Nat) (hd : d < 1024) (hg : g < 2) : wrap64 (1 + (d : Int)) = 1 + (d : Int) ∧
    wrap64 (-96 * (1 + (d : Int))) = -96 * (1 + (d : Int)) ∧
    wrap64 (96 * (1 + (d : Int))) = 96 * (1 + (d : Int)) ∧
    wrap64 (672 + 96 * (1 + (d : Int))) = 672 + 96 * (1 + (d : Int)) ∧
    wrap64 (-4 * (1 + (d : Int))) = -4 * (1 + (d : Int)) ∧
    wrap64 (4 * (1 + (d : Int))) = 4 * (1 + (d : Int)) ∧
    wrap64 (764 + 4 * (1 + (d : Int))) = 764 + 4 * (1 + (d : Int)) ∧
    wrap64 (-(1 + (d : Int))) = -(1 + (d : Int)) ∧
    wrap64 (96 + (1 + (d : Int))) = 96 + (1 + (d : Int)) ∧
    wrap64 (768 + 4 * (1 + (d : Int))) = 768 + 4 * (1 + (d : Int)) ∧
    wrap64 (1 + (g : Int)) = 1 + (g : Int) :=
  ⟨w64 (by omega), w64 (by omega), w64 (by omega), w64 (by omega), w64 (by omega), w64 (by omega), w64 (by omega), w64 (by omega), w64 (by omega), w64 (by omega), w64 (by omega)⟩
theorem opsForms_f (x y : Int) (f1 : (Lit.int .i64 x).wf = true) (f2 : (Lit.int .i64 y).wf = true) : P.skifflaw3_OpsForms.f 300 x y = some true := by
  obtain ⟨d, hd, hd2⟩ : ∃ k : Nat, bits .and .i64 y 1023 = (k : Int) ∧ k < 1024 := and_mask y f2 10 (by omega)
  obtain ⟨b, hb, hb2⟩ : ∃ k : Nat, bits .and .i64 x 1 = (k : Int) ∧ k < 2 := and_mask x f1 1 (by omega)
  obtain ⟨g, hg, hg2⟩ : ∃ k : Nat, bits .and .i64 y 1 = (k : Int) ∧ k < 2 := and_mask y f2 1 (by omega)
  obtain ⟨v, hv, hv2⟩ : ∃ k : Nat, wrap64 ((IntKind.u64.wrap x).tmod 10) = (k : Int) ∧ k < 10 := mod_nat x 10 (by omega) (by omega)
  obtain ⟨F, hF, z0⟩ : ∃ F : ByteArray, P.skiffref1_Blank.f = some F ∧ F.size = 768 := ⟨mk flash0, rfl, by rw [mk_size, flash0_length]⟩
  have E := Lib.hid (forms_wraps d g hd2 hg2)
  have hlen : (badOps (1 + (d : Int))).length = 10 := rfl
  obtain ⟨o, ho⟩ : ∃ o, P.rd_T23 (badOps (1 + (d : Int))) (v : Int) = o := ⟨_, rfl⟩
  have hm : opMay o.f0 o.f1 (bl o.f2) = false ∧ o.f1 < 9223372036854775808 := by
    have hv3 : v < (badOps (1 + (d : Int))).length := by rw [hlen]; exact hv2
    rw [O.rd_at _ v hv3] at ho
    have hmem := List.getElem_mem hv3
    rw [ho] at hmem
    clear hlen hv3 ho
    exact bad_all (1 + (d : Int)) (by omega) (by omega) o hmem
  have hc1 : ∀ c, cutPair F o.f0 o.f1 o.f2 c = (⟨#[]⟩, 300) := fun c => cutPair_no (by unfold cutMay; rw [hm.1, Bool.false_and, Bool.and_false])
  have hc2 : cutPair (F.extract 1 768) true 0 ⟨#[]⟩ 96 = (⟨#[]⟩, 300) := cutPair_no (by rw [Bool.eq_false_iff]; intro h; have h := (cutMay_iff.1 h).1; rw [ByteArray.size_extract, z0] at h; omega)
  have r1 : rd [-(1 + (d : Int)), 96 + (1 + (d : Int))] (b : Int) < 0 ∨ rd [-(1 + (d : Int)), 96 + (1 + (d : Int))] (b : Int) > 96 := by
    have : b = 0 ∨ b = 1 := by omega
    rcases this with rfl | rfl
    · left; show -(1 + (d : Int)) < 0; omega
    · right; show 96 + (1 + (d : Int)) > 96; omega
  have hc3 : cutPair F true 0 ⟨#[]⟩ (rd [-(1 + (d : Int)), 96 + (1 + (d : Int))] (b : Int)) = (⟨#[]⟩, 300) := cutPair_no (by rw [Bool.eq_false_iff]; intro h; have h := (cutMay_iff.1 h).2.2; omega)
  have r2 : rd [-4 * (1 + (d : Int)), 768 + 4 * (1 + (d : Int))] (b : Int) < 0 ∨ rd [-4 * (1 + (d : Int)), 768 + 4 * (1 + (d : Int))] (b : Int) > 768 := by
    have : b = 0 ∨ b = 1 := by omega
    rcases this with rfl | rfl
    · left; show -4 * (1 + (d : Int)) < 0; omega
    · right; show 768 + 4 * (1 + (d : Int)) > 768; omega
  have w1 : wordsPair (rd [-4 * (1 + (d : Int)), 768 + 4 * (1 + (d : Int))] (b : Int)) ⟨#[]⟩ = ([], 300) := wordsPair_no (by omega)
  have w2 : wordsPair (1 + (g : Int)) ⟨#[97, 98, 99, 100]⟩ = ([], 300) := wordsPair_no (by omega)
  have w3 : wordsPair 764 ⟨#[97, 98, 99, 100, 101]⟩ = ([], 300) := wordsPair_no (by rw [show (bl (⟨#[97, 98, 99, 100, 101]⟩ : ByteArray)).length = 5 from rfl]; omega)
  have w4 : wordsPair 768 ⟨#[]⟩ = ([], 0) := by kernel_rfl
  unfold P.skifflaw3_OpsForms.f
  rw [awake3_f, Option.bind_some, if_pos rfl, hF, Option.bind_some, hd, E.out.1, E.out.2.1, E.out.2.2.1, E.out.2.2.2.1, E.out.2.2.2.2.1, E.out.2.2.2.2.2.1, E.out.2.2.2.2.2.2.1, E.out.2.2.2.2.2.2.2.1, E.out.2.2.2.2.2.2.2.2.1, E.out.2.2.2.2.2.2.2.2.2.1, hv, hb, hg, E.out.2.2.2.2.2.2.2.2.2.2]
  rw [Option.bind_some]
  show (if 0 ≤ (v : Int) then if (v : Int) < ((badOps (1 + (d : Int))).length : Int) then (P.ops_Do.f 300 F (P.rd_T23 (badOps (1 + (d : Int))) (v : Int)).f0 (P.rd_T23 (badOps (1 + (d : Int))) (v : Int)).f1 (P.rd_T23 (badOps (1 + (d : Int))) (v : Int)).f2).bind _ else _ else _) = _
  rw [if_pos (by omega), hlen, if_pos (by omega), ho, do_f _ _ _ _ 300 (by omega) hm.2, hc1, Option.bind_some]
  show (P.ops_Cut.f 300 F (P.rd_T23 (badOps (1 + (d : Int))) (v : Int)).f0 (P.rd_T23 (badOps (1 + (d : Int))) (v : Int)).f1 (P.rd_T23 (badOps (1 + (d : Int))) (v : Int)).f2 3).bind _ = _
  rw [ho, cut_f _ _ _ _ _ 300 (by omega) hm.2, hc1, Option.bind_some, z0, if_pos (by omega), do_f _ _ _ _ 300 (by omega) (by omega), hc2, Option.bind_some, Option.bind_some, if_pos (by omega), if_pos (show (b : Int) < (([-(1 + (d : Int)), 96 + (1 + (d : Int))] : List Int).length : Int) by show (b : Int) < ((2 : Nat) : Int); omega),
    cut_f _ _ _ _ _ 300 (by omega) (by omega), hc3, Option.bind_some, Option.bind_some, if_pos (show (b : Int) < (([-4 * (1 + (d : Int)), 768 + 4 * (1 + (d : Int))] : List Int).length : Int) by show (b : Int) < ((2 : Nat) : Int); omega), words_f _ _ 300 (by omega) (by decide), w1, Option.bind_some, words_f _ _ 300 (by omega) (by decide), w2, Option.bind_some,
    words_f _ _ 300 (by omega) (by decide), w3, Option.bind_some, words_f _ _ 300 (by omega) (by decide), w4, Option.bind_some]
  show (P.ops_May.f (P.rd_T23 (badOps (1 + (d : Int))) (v : Int)).f0 (P.rd_T23 (badOps (1 + (d : Int))) (v : Int)).f1 (P.rd_T23 (badOps (1 + (d : Int))) (v : Int)).f2).bind _ = _
  rw [ho, opsMay_f _ _ _ hm.2, hm.1, Option.bind_some, if_neg Bool.false_ne_true]
  rfl
theorem opsForms_walk (x y : Int) (f1 : (Lit.int .i64 x).wf = true) (f2 : (Lit.int .i64 y).wf = true) (w : World) :
    Calls Try.prog 5 #[.int .i64 x, .int .i64 y] w fun e w' => e = .returned (.bool true) ∧ Ext w w' :=
  P.skifflaw3_OpsForms.calls 300 x y true w (opsForms_f x y f1 f2)

end Go.Proofs.Ytkkabmoahmaniaa
