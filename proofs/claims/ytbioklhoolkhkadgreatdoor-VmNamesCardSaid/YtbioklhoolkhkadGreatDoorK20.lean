/- A call evaluated ahead, in pieces (Vr): piece 9. -/
import Derived.Test.YtbioklhoolkhkadGreatDoorK11
import Derived.KernelRfl
namespace Go.Proofs.YtbioklhoolkhkadGreatDoor
set_option linter.unusedVariables false
set_option maxRecDepth 100000
open Go
theorem Vr_9 : pieceX VrEnv 1000000 65 (rpt 40 (flatC VrRound)) VrT9 VrB9 3047 .nrm VrT10 VrB10 3167 = true := by kernel_rfl
end Go.Proofs.YtbioklhoolkhkadGreatDoor
