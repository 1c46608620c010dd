/- container/heap.Init, (*queue).Pop and container/heap.Pop over *choose.queue. -/
import Derived.Test.YtdijecmpaoabbaaZ2HeapD
set_option linter.unusedVariables false
set_option linter.unusedSimpArgs false
set_option maxHeartbeats 4000000
namespace Go.Proofs.Ytdijecmpaoabbaa
open Go.RowKit Go.Proofs.YtdijecmpaoabbaaW.PrintWords Go.Proofs.YtdijecmpaoabbaaW.PrintMore Go.Proofs.YtdijecmpaoabbaaW.PrintLast

theorem down_ats (l : List Plc) (hl : Ats l) (n f i : Nat) (hn : n ≤ l.length) (hi : i < n) : Ats (Hp.down pz pkey n f i l) := fun p hp => hl p ((Hp.down_perm pz pkey n f i l hn hi).mem_iff.1 hp)
theorem hinit_calls {w0 g A c l w} (h : StH w0 g A c l w) (hl : Ats l) (hc : l.length < 4611686018427387904) :
    Calls Try.prog 23 #[.iface 58 (.pointer (some ⟨g, 0, none⟩))] w fun e w' => e = .returned (.tuple #[]) ∧ StH w0 g A c (Hp.init pz pkey l.length (l.length / 2) l) w' := by
  go_enter Try.func23, Try.ntmps23
  have S : Aside _ := h
  clear h
  go_wp2_with (first | ((with_reducible refine gate_dst (N := 5) rfl ?_); refine inv_len rfl rfl rfl S.out ?_; intro w1 S1; have T1 : Aside _ := S1; clear S S1; have S := T1; clear T1))
  go_loopg [3] (l.length / 2) (fun kx s3 wr => ∃ (lk : List Plc), s3 = .int .i64 ((kx : Int) - 1) ∧ kx ≤ l.length / 2 ∧ lk.length = l.length ∧ Ats lk ∧ Aside (StH w0 g A c lk wr) ∧ Hid (Hp.init pz pkey l.length kx lk = Hp.init pz pkey l.length (l.length / 2) l))
  case atStart => exact ⟨l, by congr 1, Nat.le_refl _, rfl, hl, S, rfl⟩
  case round =>
    obtain ⟨lk, rfl, hk, hll, hal, S, HE⟩ := hrel
    cases gk with
    | zero =>
      have HE3 := Lib.hid (show lk = _ from HE.out)
      clear HE
      go_wp2
      go_end0
      exact ⟨rfl, by rw [← HE3.out]; exact S.out⟩
    | succ kx =>
      have e1 : ((kx + 1 : Nat) : Int) - 1 = (kx : Int) := by omega
      rw [e1]
      clear e1
      have hz : (0 : Int) ≤ (kx : Int) := by omega
      have HE3 := Lib.hid (show Hp.init pz pkey l.length kx (Hp.down pz pkey l.length l.length kx lk) = _ from HE.out)
      clear HE
      go_wp2_with ((go_at_call 42); refine (hdown_calls S.out hal (by omega) kx l.length (by omega) (by omega)).mono ?_; rintro e w' ⟨⟨b, rfl⟩, S1⟩; have T1 : Aside _ := S1; clear S S1; have S := T1; clear T1)
      go_roundg kx
      case measure => omega
      case rel => exact ⟨Hp.down pz pkey l.length l.length kx lk, rfl, by omega, by rw [Hp.down_length]; exact hll, down_ats lk hal _ _ _ (by omega) (by omega), S, HE3⟩

end Go.Proofs.Ytdijecmpaoabbaa
