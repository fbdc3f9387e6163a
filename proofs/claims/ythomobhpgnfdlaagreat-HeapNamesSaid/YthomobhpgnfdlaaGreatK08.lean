/- A closed call in pieces (Aw): piece 1. -/
import Derived.Test.YthomobhpgnfdlaaGreatK06
import Derived.KernelRfl
namespace Go.Proofs.YthomobhpgnfdlaaGreat
set_option linter.unusedVariables false
set_option maxRecDepth 100000
open Go
theorem Aw_1 : pieceB AwEnv (drawA AwEnv) 1000000 122 (tkL (dpL (flatC (bodyOf Tryz.f8)) 4) 7) AwT1 AwB1 286 .ret AwT2 AwB2 700 = true := by kernel_rfl
end Go.Proofs.YthomobhpgnfdlaaGreat
