/- A closed call in pieces (Vn): piece 0. -/
import Derived.Test.YtbioklhoolkhkadGreatDoorK30
import Derived.KernelRfl
namespace Go.Proofs.YtbioklhoolkhkadGreatDoor
set_option linter.unusedVariables false
set_option maxRecDepth 100000
open Go
theorem Vn_0 : pieceK VnEnv 1000000 190 (tkL (dpL (flatC (bodyOf Tryz.f3)) 0) 7) VnT0 VnB0 0 .nrm VnT1 VnB1 846 = true := by kernel_rfl
end Go.Proofs.YtbioklhoolkhkadGreatDoor
