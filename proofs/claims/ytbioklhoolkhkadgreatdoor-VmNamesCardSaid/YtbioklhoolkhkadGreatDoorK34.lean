/- A closed call in pieces (Vn): piece 3. -/
import Derived.Test.YtbioklhoolkhkadGreatDoorK30
import Derived.KernelRfl
namespace Go.Proofs.YtbioklhoolkhkadGreatDoor
set_option linter.unusedVariables false
set_option maxRecDepth 100000
open Go
theorem Vn_3 : pieceK VnEnv 1000000 190 (tkL (dpL (flatC (bodyOf Tryz.f3)) 9) 3) VnT3 VnB3 3418 .nrm VnT4 VnB4 6209 = true := by kernel_rfl
end Go.Proofs.YtbioklhoolkhkadGreatDoor
