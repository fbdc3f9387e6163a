/- A closed call in pieces (Av): piece 0. -/
import Derived.Test.YtbioklhoolkhkadGreatDoorK24
import Derived.KernelRfl
namespace Go.Proofs.YtbioklhoolkhkadGreatDoor
set_option linter.unusedVariables false
set_option maxRecDepth 100000
open Go
theorem Av_0 : pieceK AvEnv 1000000 121 (tkL (dpL (flatC (bodyOf Tryz.f14)) 0) 2) AvT0 AvB0 0 .nrm AvT1 AvB1 1650 = true := by kernel_rfl
end Go.Proofs.YtbioklhoolkhkadGreatDoor
