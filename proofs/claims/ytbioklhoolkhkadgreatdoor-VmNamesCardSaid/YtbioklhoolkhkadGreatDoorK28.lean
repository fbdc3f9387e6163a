/- A closed call in pieces (Av): piece 3. -/
import Derived.Test.YtbioklhoolkhkadGreatDoorK24
import Derived.KernelRfl
namespace Go.Proofs.YtbioklhoolkhkadGreatDoor
set_option linter.unusedVariables false
set_option maxRecDepth 100000
open Go
theorem Av_3 : pieceK AvEnv 1000000 121 (tkL (dpL (flatC (bodyOf Tryz.f14)) 8) 1) AvT3 AvB3 4466 .nrm AvT4 AvB4 5865 = true := by kernel_rfl
end Go.Proofs.YtbioklhoolkhkadGreatDoor
