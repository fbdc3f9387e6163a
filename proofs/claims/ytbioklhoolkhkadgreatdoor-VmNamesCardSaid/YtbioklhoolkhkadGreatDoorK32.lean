/- A closed call in pieces (Vn): piece 1. -/
import Derived.Test.YtbioklhoolkhkadGreatDoorK30
import Derived.KernelRfl
namespace Go.Proofs.YtbioklhoolkhkadGreatDoor
set_option linter.unusedVariables false
set_option maxRecDepth 100000
open Go
theorem Vn_1 : pieceK VnEnv 1000000 190 (tkL (dpL (flatC (bodyOf Tryz.f3)) 7) 1) VnT1 VnB1 846 .nrm VnT2 VnB2 1140 = true := by kernel_rfl
end Go.Proofs.YtbioklhoolkhkadGreatDoor
