/- The closed facts of the row FlatSplits. -/
import Derived.Test.YthcaafhpnmmfmaaGreatDoorRows
import Derived.Test.YthcaafhpnmmfmaaGreatDoorCards
import Derived.KernelRfl
import Derived.JoinedOf
import Derived.SevenTiedAt
namespace Go.Proofs.YthcaafhpnmmfmaaGreatDoor
set_option linter.unusedVariables false
set_option linter.unusedSimpArgs false
set_option maxRecDepth 100000
open Go

theorem fs_facts : joinedFacts Tryz.prog 3 Tryz.f3 Rows.flatSplitsSpec Rows.flatSplitsRow = true := by kernel_rfl
theorem fs_named0 : Tryz.prog.funcNamed "lode/lodelaw09.FlatSplits" = some 3 := by kernel_rfl
theorem fs_goes : false = Rows.flatSplitsRow.goesBy Tryz.prog := by kernel_rfl
theorem fs_wf : Rows.flatSplitsRow.wfByText (OpenSpec.ofChange Rows.flatSplitsSpec) = true := by kernel_rfl
theorem fs_looks : true = Tryz.prog.looks [] := by kernel_rfl
end Go.Proofs.YthcaafhpnmmfmaaGreatDoor
