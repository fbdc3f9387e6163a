/- A closed call in pieces (Fk): piece 0. -/
import Derived.Test.YthcaafhpnmmfmaaGreatDoorK09
import Derived.KernelRfl
namespace Go.Proofs.YthcaafhpnmmfmaaGreatDoor
set_option linter.unusedVariables false
set_option maxRecDepth 100000
open Go
theorem Fk_0 : pieceB FkEnv (drawA FkEnv) 1000000 173 (tkL (dpL (flatC (bodyOf Tryz.f4)) 0) 2) FkT0 FkB0 0 .nrm FkT1 FkB1 426 = true := by kernel_rfl
end Go.Proofs.YthcaafhpnmmfmaaGreatDoor
