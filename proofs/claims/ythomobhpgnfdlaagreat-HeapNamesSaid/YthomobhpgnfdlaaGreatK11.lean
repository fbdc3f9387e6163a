/- A closed call in pieces (Hn): piece 1. -/
import Derived.Test.YthomobhpgnfdlaaGreatK09
import Derived.KernelRfl
namespace Go.Proofs.YthomobhpgnfdlaaGreat
set_option linter.unusedVariables false
set_option maxRecDepth 100000
open Go
theorem Hn_1 : pieceB HnEnv (drawA HnEnv) 1000000 285 (tkL (dpL (flatC (bodyOf Tryz.f4)) 4) 4) HnT1 HnB1 329 .nrm HnT2 HnB2 669 = true := by kernel_rfl
end Go.Proofs.YthomobhpgnfdlaaGreat
