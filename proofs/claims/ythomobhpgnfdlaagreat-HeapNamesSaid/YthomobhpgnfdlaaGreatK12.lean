/- A closed call in pieces (Hn): piece 2. -/
import Derived.Test.YthomobhpgnfdlaaGreatK09
import Derived.KernelRfl
namespace Go.Proofs.YthomobhpgnfdlaaGreat
set_option linter.unusedVariables false
set_option maxRecDepth 100000
open Go
theorem Hn_2 : pieceB HnEnv (drawA HnEnv) 1000000 285 (tkL (dpL (flatC (bodyOf Tryz.f4)) 8) 4) HnT2 HnB2 669 .nrm HnT3 HnB3 1037 = true := by kernel_rfl
end Go.Proofs.YthomobhpgnfdlaaGreat
