/- A call evaluated ahead, in pieces (Vr): piece 5. -/
import Derived.Test.YtbioklhoolkhkadGreatDoorK11
import Derived.KernelRfl
namespace Go.Proofs.YtbioklhoolkhkadGreatDoor
set_option linter.unusedVariables false
set_option maxRecDepth 100000
open Go
theorem Vr_5 : pieceX VrEnv 1000000 65 (rpt 50 (flatC VrRound)) VrT5 VrB5 2507 .nrm VrT6 VrB6 2657 = true := by kernel_rfl
end Go.Proofs.YtbioklhoolkhkadGreatDoor
