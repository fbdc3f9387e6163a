/- A call evaluated ahead, in pieces (Vr): piece 8. -/
import Derived.Test.YtbioklhoolkhkadGreatDoorK11
import Derived.KernelRfl
namespace Go.Proofs.YtbioklhoolkhkadGreatDoor
set_option linter.unusedVariables false
set_option maxRecDepth 100000
open Go
theorem Vr_8 : pieceX VrEnv 1000000 65 (rpt 40 (flatC VrRound)) VrT8 VrB8 2927 .nrm VrT9 VrB9 3047 = true := by kernel_rfl
end Go.Proofs.YtbioklhoolkhkadGreatDoor
