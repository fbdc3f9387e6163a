/- A closed call in pieces (Fk): piece 3. -/
import Derived.Test.YthcaafhpnmmfmaaGreatDoorK09
import Derived.KernelRfl
namespace Go.Proofs.YthcaafhpnmmfmaaGreatDoor
set_option linter.unusedVariables false
set_option maxRecDepth 100000
open Go
theorem Fk_3 : pieceB FkEnv (drawA FkEnv) 1000000 173 (tkL (dpL (flatC (bodyOf Tryz.f4)) 4) 1) FkT3 FkB3 1922 .nrm FkT4 FkB4 2907 = true := by kernel_rfl
end Go.Proofs.YthcaafhpnmmfmaaGreatDoor
