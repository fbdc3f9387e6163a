/- A closed call in pieces (Fk): piece 4. -/
import Derived.Test.YthcaafhpnmmfmaaGreatDoorK09
import Derived.KernelRfl
namespace Go.Proofs.YthcaafhpnmmfmaaGreatDoor
set_option linter.unusedVariables false
set_option maxRecDepth 100000
open Go
theorem Fk_4 : pieceB FkEnv (drawA FkEnv) 1000000 173 (tkL (dpL (flatC (bodyOf Tryz.f4)) 5) 8) FkT4 FkB4 2907 .nrm FkT5 FkB5 3911 = true := by kernel_rfl
end Go.Proofs.YthcaafhpnmmfmaaGreatDoor
