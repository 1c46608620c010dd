/- What every layer calls: the reference's upTo, skifflaw0.Num, a made row of bytes. -/
import Derived.Test.YtbpmmjfibnkmeaaProg
import Derived.Test.YtbpmmjfibnkmeaaPure
import Derived.Test.YtbpmmjfibnkmeaaRow
import Derived.LoopTactic
import Derived.Outline
import Derived.Lib.Hide
import Derived.IntWalk
import Derived.WalkLawsBesides
import Derived.Laws.BitsAllLaws
import Derived.RegionTactic
import Derived.Deep.RegionHeld3
import Derived.Deep.QuietTactic
import Derived.BigQuiet
set_option linter.unusedVariables false
set_option linter.unusedSimpArgs false
set_option maxHeartbeats 4000000
namespace Go.Proofs.Ytbpmmjfibnkmeaa
open Go.RowKit Skiff

theorem info_u8 : (Try.prog.info? 5).map (fun i => (i.zero, i.size, i.bytes)) = some (some (.int .u8 0), 1, 1) := by kernel_rfl

theorem upTo_calls (x a b : Int) (w : World) :
    Calls Try.prog 28 #[.int .i64 x, .int .i64 a, .int .i64 b] w fun e w' => e = .returned (.bool (within x a b)) ∧ w = w' := by
  have hw : Hid (within x a b = (decide (a ≤ x) && decide (x ≤ b))) := rfl
  by_cases h : a ≤ x
  · have h1 : decide (a ≤ x) = true := by simpa using h
    go_enter Try.func28, Try.ntmps28
    go_wp2
    go_ret
    exact ⟨by rw [hw.out, h1]; rfl, rfl⟩
  · have h1 : decide (a ≤ x) = false := by simpa using h
    go_enter Try.func28, Try.ntmps28
    go_wp2
    go_ret
    exact ⟨by rw [hw.out, h1]; rfl, rfl⟩

theorem made_u8 (n : Nat) (h : n ≤ 140737488351232) (w : World) :
    (Instr.makeSlice 46 (.int .i64 (n : Int)) (.int .i64 (n : Int))).run Try.prog w = .ok (.slice (some ⟨w.heap.size, 0, none⟩) n n) (w.alloc (.cells (madeCells #[.int .u8 0] n) 5)) := by
  obtain ⟨i0, hi, hz0, hz1, hz2⟩ := info_parts info_u8
  have hr := run_make (P := Try.prog) w 46 5 i0 _ Try.underlying46 hi hz0 .i64 .i64 (n : Int) (n : Int) (by omega) (by omega) (by rw [hz2]; omega) (by omega)
  rw [hz1] at hr
  simp only [Nat.mul_one, Int.toNat_natCast] at hr
  exact hr

theorem num0_calls (x : Int) (w : World) :
    Calls Try.prog 18 #[.int .i64 x] w fun e w' => e = .returned (.int .i64 x) ∧ w = w' := by
  go_enter Try.func18, Try.ntmps18
  go_wp2
  go_ret
  exact ⟨rfl, rfl⟩

end Go.Proofs.Ytbpmmjfibnkmeaa
