/- A call evaluated ahead, in pieces (Vr): piece 3. -/
import Derived.Test.YtbioklhoolkhkadGreatDoorK11
import Derived.KernelRfl
namespace Go.Proofs.YtbioklhoolkhkadGreatDoor
set_option linter.unusedVariables false
set_option maxRecDepth 100000
open Go
theorem Vr_3 : pieceX VrEnv 1000000 65 (rpt 70 (flatC VrRound)) VrT3 VrB3 2117 .nrm VrT4 VrB4 2327 = true := by kernel_rfl
end Go.Proofs.YtbioklhoolkhkadGreatDoor
