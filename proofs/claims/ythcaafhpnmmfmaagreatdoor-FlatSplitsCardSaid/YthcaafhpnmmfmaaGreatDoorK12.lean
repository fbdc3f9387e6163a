/- A closed call in pieces (Fk): piece 2. -/
import Derived.Test.YthcaafhpnmmfmaaGreatDoorK09
import Derived.KernelRfl
namespace Go.Proofs.YthcaafhpnmmfmaaGreatDoor
set_option linter.unusedVariables false
set_option maxRecDepth 100000
open Go
theorem Fk_2 : pieceB FkEnv (drawA FkEnv) 1000000 173 (tkL (dpL (flatC (bodyOf Tryz.f4)) 3) 1) FkT2 FkB2 935 .nrm FkT3 FkB3 1922 = true := by kernel_rfl
end Go.Proofs.YthcaafhpnmmfmaaGreatDoor
