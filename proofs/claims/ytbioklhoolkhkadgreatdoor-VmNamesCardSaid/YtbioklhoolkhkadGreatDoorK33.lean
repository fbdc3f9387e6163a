/- A closed call in pieces (Vn): piece 2. -/
import Derived.Test.YtbioklhoolkhkadGreatDoorK30
import Derived.KernelRfl
namespace Go.Proofs.YtbioklhoolkhkadGreatDoor
set_option linter.unusedVariables false
set_option maxRecDepth 100000
open Go
theorem Vn_2 : pieceK VnEnv 1000000 190 (tkL (dpL (flatC (bodyOf Tryz.f3)) 8) 1) VnT2 VnB2 1140 .nrm VnT3 VnB3 3418 = true := by kernel_rfl
end Go.Proofs.YtbioklhoolkhkadGreatDoor
