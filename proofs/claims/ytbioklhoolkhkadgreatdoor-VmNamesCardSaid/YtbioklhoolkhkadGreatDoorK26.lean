/- A closed call in pieces (Av): piece 1. -/
import Derived.Test.YtbioklhoolkhkadGreatDoorK24
import Derived.KernelRfl
namespace Go.Proofs.YtbioklhoolkhkadGreatDoor
set_option linter.unusedVariables false
set_option maxRecDepth 100000
open Go
theorem Av_1 : pieceK AvEnv 1000000 121 (tkL (dpL (flatC (bodyOf Tryz.f14)) 2) 1) AvT1 AvB1 1650 .nrm AvT2 AvB2 3031 = true := by kernel_rfl
end Go.Proofs.YtbioklhoolkhkadGreatDoor
