/- A call evaluated ahead, in pieces (Vr): piece 6. -/
import Derived.Test.YtbioklhoolkhkadGreatDoorK11
import Derived.KernelRfl
namespace Go.Proofs.YtbioklhoolkhkadGreatDoor
set_option linter.unusedVariables false
set_option maxRecDepth 100000
open Go
theorem Vr_6 : pieceX VrEnv 1000000 65 (rpt 50 (flatC VrRound)) VrT6 VrB6 2657 .nrm VrT7 VrB7 2807 = true := by kernel_rfl
end Go.Proofs.YtbioklhoolkhkadGreatDoor
