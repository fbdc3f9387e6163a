/- A call evaluated ahead, in pieces (Vr): piece 11. -/
import Derived.Test.YtbioklhoolkhkadGreatDoorK11
import Derived.KernelRfl
namespace Go.Proofs.YtbioklhoolkhkadGreatDoor
set_option linter.unusedVariables false
set_option maxRecDepth 100000
open Go
theorem Vr_11 : pieceX VrEnv 1000000 65 (rpt 40 (flatC VrRound)) VrT11 VrB11 3287 .nrm VrT12 VrB12 3407 = true := by kernel_rfl
end Go.Proofs.YtbioklhoolkhkadGreatDoor
