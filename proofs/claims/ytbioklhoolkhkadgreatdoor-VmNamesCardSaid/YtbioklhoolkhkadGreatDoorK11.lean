/- A call evaluated ahead, in pieces (Vr): the table. A call evaluated ahead, in pieces (Vr): piece 0. -/
import Derived.Test.YtbioklhoolkhkadGreatDoorK10
import Derived.KernelRfl
namespace Go.Proofs.YtbioklhoolkhkadGreatDoor
set_option linter.unusedVariables false
set_option maxRecDepth 100000
open Go
noncomputable def VrEnv : Env := envOf Tryz.prog [(314, [.int .i64, .int .i64, .int .i64, .int .i64]), (84, [.int .i64, .int .i64, .string]), (69, [.int .i64, .int .i64, .string])] (treeOf []) []
end Go.Proofs.YtbioklhoolkhkadGreatDoor
namespace Go.Proofs.YtbioklhoolkhkadGreatDoor
set_option linter.unusedVariables false
set_option maxRecDepth 100000
open Go
theorem Vr_0 : pieceX VrEnv 1000000 65 (tkL (flatC (bodyOf Tryz.f59)) 4) VrT0 VrB0 1581 .nrm VrT1 VrB1 1584 = true := by kernel_rfl
end Go.Proofs.YtbioklhoolkhkadGreatDoor
