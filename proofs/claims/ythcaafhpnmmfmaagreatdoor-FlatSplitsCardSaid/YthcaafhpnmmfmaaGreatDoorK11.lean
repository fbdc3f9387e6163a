/- A closed call in pieces (Fk): piece 1. -/
import Derived.Test.YthcaafhpnmmfmaaGreatDoorK09
import Derived.KernelRfl
namespace Go.Proofs.YthcaafhpnmmfmaaGreatDoor
set_option linter.unusedVariables false
set_option maxRecDepth 100000
open Go
theorem Fk_1 : pieceB FkEnv (drawA FkEnv) 1000000 173 (tkL (dpL (flatC (bodyOf Tryz.f4)) 2) 1) FkT1 FkB1 426 .nrm FkT2 FkB2 935 = true := by kernel_rfl
end Go.Proofs.YthcaafhpnmmfmaaGreatDoor
