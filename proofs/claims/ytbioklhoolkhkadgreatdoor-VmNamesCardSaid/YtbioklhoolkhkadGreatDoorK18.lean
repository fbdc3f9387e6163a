/- A call evaluated ahead, in pieces (Vr): piece 7. -/
import Derived.Test.YtbioklhoolkhkadGreatDoorK11
import Derived.KernelRfl
namespace Go.Proofs.YtbioklhoolkhkadGreatDoor
set_option linter.unusedVariables false
set_option maxRecDepth 100000
open Go
theorem Vr_7 : pieceX VrEnv 1000000 65 (rpt 40 (flatC VrRound)) VrT7 VrB7 2807 .nrm VrT8 VrB8 2927 = true := by kernel_rfl
end Go.Proofs.YtbioklhoolkhkadGreatDoor
