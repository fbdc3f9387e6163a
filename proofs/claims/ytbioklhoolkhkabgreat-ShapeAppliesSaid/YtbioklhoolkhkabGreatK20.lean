/- A closed call in pieces (Sh): piece 2. -/
import Derived.Test.YtbioklhoolkhkabGreatK17
import Derived.KernelRfl
namespace Go.Proofs.YtbioklhoolkhkabGreat
set_option linter.unusedVariables false
set_option maxRecDepth 100000
open Go
theorem Sh_2 : pieceK ShEnv 1000000 132 (tkL (dpL (flatC (bodyOf Tryz.f6)) 7) 1) ShT2 ShB2 1348 .nrm ShT3 ShB3 2990 = true := by kernel_rfl
end Go.Proofs.YtbioklhoolkhkabGreat
