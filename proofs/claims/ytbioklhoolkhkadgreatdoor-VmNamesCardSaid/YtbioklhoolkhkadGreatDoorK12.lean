/- A call evaluated ahead, in pieces (Vr): piece 1. -/
import Derived.Test.YtbioklhoolkhkadGreatDoorK11
import Derived.KernelRfl
namespace Go.Proofs.YtbioklhoolkhkadGreatDoor
set_option linter.unusedVariables false
set_option maxRecDepth 100000
open Go
theorem Vr_1 : pieceX VrEnv 1000000 65 (rpt 90 (flatC VrRound)) VrT1 VrB1 1584 .nrm VrT2 VrB2 1877 = true := by kernel_rfl
end Go.Proofs.YtbioklhoolkhkadGreatDoor
