/- A closed call in pieces (Sh): piece 3. -/
import Derived.Test.YtbioklhoolkhkabGreatK17
import Derived.KernelRfl
namespace Go.Proofs.YtbioklhoolkhkabGreat
set_option linter.unusedVariables false
set_option maxRecDepth 100000
open Go
theorem Sh_3 : pieceK ShEnv 1000000 132 (tkL (dpL (flatC (bodyOf Tryz.f6)) 8) 3) ShT3 ShB3 2990 .nrm ShT4 ShB4 3035 = true := by kernel_rfl
end Go.Proofs.YtbioklhoolkhkabGreat
