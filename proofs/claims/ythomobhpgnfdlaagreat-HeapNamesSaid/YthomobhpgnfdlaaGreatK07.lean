/- A closed call in pieces (Aw): piece 0. -/
import Derived.Test.YthomobhpgnfdlaaGreatK06
import Derived.KernelRfl
namespace Go.Proofs.YthomobhpgnfdlaaGreat
set_option linter.unusedVariables false
set_option maxRecDepth 100000
open Go
theorem Aw_0 : pieceB AwEnv (drawA AwEnv) 1000000 122 (tkL (dpL (flatC (bodyOf Tryz.f8)) 0) 4) AwT0 AwB0 0 .nrm AwT1 AwB1 286 = true := by kernel_rfl
end Go.Proofs.YthomobhpgnfdlaaGreat
