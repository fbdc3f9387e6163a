/- A closed call in pieces (Vn): piece 4. -/
import Derived.Test.YtbioklhoolkhkadGreatDoorK30
import Derived.KernelRfl
namespace Go.Proofs.YtbioklhoolkhkadGreatDoor
set_option linter.unusedVariables false
set_option maxRecDepth 100000
open Go
theorem Vn_4 : pieceK VnEnv 1000000 190 (tkL (dpL (flatC (bodyOf Tryz.f3)) 12) 4) VnT4 VnB4 6209 .nrm VnT5 VnB5 9881 = true := by kernel_rfl
end Go.Proofs.YtbioklhoolkhkadGreatDoor
