/- A call evaluated ahead, in pieces (Vr): piece 12. -/
import Derived.Test.YtbioklhoolkhkadGreatDoorK11
import Derived.KernelRfl
namespace Go.Proofs.YtbioklhoolkhkadGreatDoor
set_option linter.unusedVariables false
set_option maxRecDepth 100000
open Go
theorem Vr_12 : pieceX VrEnv 1000000 65 (rpt 1 (flatC VrRound)) VrT12 VrB12 3407 .nrm VrT13 VrB13 3412 = true := by kernel_rfl
end Go.Proofs.YtbioklhoolkhkadGreatDoor
