/- A closed call in pieces (Av): piece 2. -/
import Derived.Test.YtbioklhoolkhkadGreatDoorK24
import Derived.KernelRfl
namespace Go.Proofs.YtbioklhoolkhkadGreatDoor
set_option linter.unusedVariables false
set_option maxRecDepth 100000
open Go
theorem Av_2 : pieceK AvEnv 1000000 121 (tkL (dpL (flatC (bodyOf Tryz.f14)) 3) 5) AvT2 AvB2 3031 .nrm AvT3 AvB3 4466 = true := by kernel_rfl
end Go.Proofs.YtbioklhoolkhkadGreatDoor
