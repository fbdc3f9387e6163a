/- A closed call in pieces (Sh): piece 1. -/
import Derived.Test.YtbioklhoolkhkabGreatK17
import Derived.KernelRfl
namespace Go.Proofs.YtbioklhoolkhkabGreat
set_option linter.unusedVariables false
set_option maxRecDepth 100000
open Go
theorem Sh_1 : pieceK ShEnv 1000000 132 (tkL (dpL (flatC (bodyOf Tryz.f6)) 5) 2) ShT1 ShB1 601 .nrm ShT2 ShB2 1348 = true := by kernel_rfl
end Go.Proofs.YtbioklhoolkhkabGreat
