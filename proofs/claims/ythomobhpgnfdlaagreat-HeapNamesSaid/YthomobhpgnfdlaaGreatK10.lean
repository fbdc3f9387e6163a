/- A closed call in pieces (Hn): piece 0. -/
import Derived.Test.YthomobhpgnfdlaaGreatK09
import Derived.KernelRfl
namespace Go.Proofs.YthomobhpgnfdlaaGreat
set_option linter.unusedVariables false
set_option maxRecDepth 100000
open Go
theorem Hn_0 : pieceB HnEnv (drawA HnEnv) 1000000 285 (tkL (dpL (flatC (bodyOf Tryz.f4)) 0) 4) HnT0 HnB0 0 .nrm HnT1 HnB1 329 = true := by kernel_rfl
end Go.Proofs.YthomobhpgnfdlaaGreat
