/- A call evaluated ahead, in pieces (Vr): piece 4. -/
import Derived.Test.YtbioklhoolkhkadGreatDoorK11
import Derived.KernelRfl
namespace Go.Proofs.YtbioklhoolkhkadGreatDoor
set_option linter.unusedVariables false
set_option maxRecDepth 100000
open Go
theorem Vr_4 : pieceX VrEnv 1000000 65 (rpt 60 (flatC VrRound)) VrT4 VrB4 2327 .nrm VrT5 VrB5 2507 = true := by kernel_rfl
end Go.Proofs.YtbioklhoolkhkadGreatDoor
