/- A closed call in pieces (Sh): piece 4. -/
import Derived.Test.YtbioklhoolkhkabGreatK17
import Derived.KernelRfl
namespace Go.Proofs.YtbioklhoolkhkabGreat
set_option linter.unusedVariables false
set_option maxRecDepth 100000
open Go
theorem Sh_4 : pieceK ShEnv 1000000 132 (tkL (dpL (flatC (bodyOf Tryz.f6)) 11) 3) ShT4 ShB4 3035 .ret ShT5 ShB5 3484 = true := by kernel_rfl
end Go.Proofs.YtbioklhoolkhkabGreat
