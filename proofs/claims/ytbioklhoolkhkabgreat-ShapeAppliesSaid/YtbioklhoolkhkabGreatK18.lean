/- A closed call in pieces (Sh): piece 0. -/
import Derived.Test.YtbioklhoolkhkabGreatK17
import Derived.KernelRfl
namespace Go.Proofs.YtbioklhoolkhkabGreat
set_option linter.unusedVariables false
set_option maxRecDepth 100000
open Go
theorem Sh_0 : pieceK ShEnv 1000000 132 (tkL (dpL (flatC (bodyOf Tryz.f6)) 0) 5) ShT0 ShB0 0 .nrm ShT1 ShB1 601 = true := by kernel_rfl
end Go.Proofs.YtbioklhoolkhkabGreat
