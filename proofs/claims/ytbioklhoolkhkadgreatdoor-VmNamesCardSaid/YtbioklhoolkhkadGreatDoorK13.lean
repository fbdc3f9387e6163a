/- A call evaluated ahead, in pieces (Vr): piece 2. -/
import Derived.Test.YtbioklhoolkhkadGreatDoorK11
import Derived.KernelRfl
namespace Go.Proofs.YtbioklhoolkhkadGreatDoor
set_option linter.unusedVariables false
set_option maxRecDepth 100000
open Go
theorem Vr_2 : pieceX VrEnv 1000000 65 (rpt 80 (flatC VrRound)) VrT2 VrB2 1877 .nrm VrT3 VrB3 2117 = true := by kernel_rfl
end Go.Proofs.YtbioklhoolkhkadGreatDoor
