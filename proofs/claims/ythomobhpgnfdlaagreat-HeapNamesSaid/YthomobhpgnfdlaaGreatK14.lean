/- A closed call in pieces (Hn): piece 4. -/
import Derived.Test.YthomobhpgnfdlaaGreatK09
import Derived.KernelRfl
namespace Go.Proofs.YthomobhpgnfdlaaGreat
set_option linter.unusedVariables false
set_option maxRecDepth 100000
open Go
theorem Hn_4 : pieceB HnEnv (drawA HnEnv) 1000000 285 (tkL (dpL (flatC (bodyOf Tryz.f4)) 13) 10) HnT4 HnB4 1452 .ret HnT5 HnB5 1523 = true := by kernel_rfl
end Go.Proofs.YthomobhpgnfdlaaGreat
