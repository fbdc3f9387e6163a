/- A closed call in pieces (Av): piece 4. -/
import Derived.Test.YtbioklhoolkhkadGreatDoorK24
import Derived.KernelRfl
namespace Go.Proofs.YtbioklhoolkhkadGreatDoor
set_option linter.unusedVariables false
set_option maxRecDepth 100000
open Go
theorem Av_4 : pieceK AvEnv 1000000 121 (tkL (dpL (flatC (bodyOf Tryz.f14)) 9) 3) AvT4 AvB4 5865 .ret AvT5 AvB5 7419 = true := by kernel_rfl
end Go.Proofs.YtbioklhoolkhkadGreatDoor
