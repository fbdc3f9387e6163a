/- A closed call in pieces (Fk): piece 5. -/
import Derived.Test.YthcaafhpnmmfmaaGreatDoorK09
import Derived.KernelRfl
namespace Go.Proofs.YthcaafhpnmmfmaaGreatDoor
set_option linter.unusedVariables false
set_option maxRecDepth 100000
open Go
theorem Fk_5 : pieceB FkEnv (drawA FkEnv) 1000000 173 (tkL (dpL (flatC (bodyOf Tryz.f4)) 13) 2) FkT5 FkB5 3911 .ret FkT6 FkB6 4741 = true := by kernel_rfl
end Go.Proofs.YthcaafhpnmmfmaaGreatDoor
