-- written by wip/prt.py of this repo, by the kit's print, over contracts that are proved here by hand
import Derived.Test.YtfjoekpgaiaifaaPx0
namespace Go.Proofs.Ytfjoekpgaiaifaa.P
open Go.RowKit Go.Proofs.YtfjoekpgaiaifaaW.PrintWords Go.Proofs.YtfjoekpgaiaifaaW.PrintLast Go.Proofs.YtfjoekpgaiaifaaW.PrintMore
attribute [local go_sem] max2_int min2_int max_two min_two max_three min_three max_four min_four   -- for this text's walks alone
set_option linter.unusedVariables false
set_option linter.unusedSimpArgs false

/-! ### skiffref1_Erase: function 18 -/
def skiffref1_Erase.f (a0 : ByteArray) (a1 : Int) : Option (ByteArray × Int) := some (Skiff.tornPair (Skiff.worn (Skiff.bl a0) a1 96))
theorem skiffref1_Erase.calls (a0 : ByteArray) (a1 : Int) (r1 : ByteArray) (r2 : Int) (w : World) (h : skiffref1_Erase.f a0 a1 = some (r1, r2)) :
  Calls Try.prog 18 #[.string a0, .int .i64 a1] w fun e w' => e = .returned (.tuple #[.string r1, .int .i64 r2]) ∧ Below w.heap.size w w' :=
 Go.Proofs.Ytfjoekpgaiaifaa.g_skiffref1_Erase a0 a1 r1 r2 w h

end Go.Proofs.Ytfjoekpgaiaifaa.P
