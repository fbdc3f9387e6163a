/- A closed call in pieces (Hn): piece 3. -/
import Derived.Test.YthomobhpgnfdlaaGreatK09
import Derived.KernelRfl
namespace Go.Proofs.YthomobhpgnfdlaaGreat
set_option linter.unusedVariables false
set_option maxRecDepth 100000
open Go
theorem Hn_3 : pieceB HnEnv (drawA HnEnv) 1000000 285 (tkL (dpL (flatC (bodyOf Tryz.f4)) 12) 1) HnT3 HnB3 1037 .nrm HnT4 HnB4 1452 = true := by kernel_rfl
end Go.Proofs.YthomobhpgnfdlaaGreat
