/- The closed facts of the card VmNames, each by itself. -/
import Derived.Test.YtbioklhoolkhkadGreatDoorK38
import Derived.Test.YtbioklhoolkhkadGreatDoorCards
import Derived.SevenTiedAt
namespace Go.Proofs.YtbioklhoolkhkadGreatDoor
set_option linter.unusedVariables false
set_option linter.unusedSimpArgs false
set_option maxRecDepth 100000
open Go

theorem vn_named0 : Tryz.prog.funcNamed "lode/lodelaw14.VmNames" = some 3 := by kernel_rfl
theorem vn_goes0 : Tryz.prog.goes 3 = false := by
  unfold Program.goes
  rw [vn_clos, vn_unfollowed]
  kernel_rfl
theorem goesBy_false {P : Program} {c : OpenClaim} {f : FuncId} (hs : c.start = .entering) (hn : P.funcNamed c.func = some f) (hg : P.goes f = false) : false = c.goesBy P := by
  unfold OpenClaim.goesBy Program.goesAt Program.goesFrom
  rw [hs, hn, Option.any_some, hg]
  rfl
theorem vn_goes : false = Rows.vmNamesRow.goesBy Tryz.prog := goesBy_false rfl vn_named0 vn_goes0
theorem vn_wf : Rows.vmNamesRow.wfByText (OpenSpec.ofChange Rows.vmNamesSpec) = true := by kernel_rfl
theorem vn_looks : true = Tryz.prog.looks [] := by kernel_rfl
end Go.Proofs.YtbioklhoolkhkadGreatDoor
