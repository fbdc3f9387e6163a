/- The closed facts of the row ShapeApplies. -/
import Derived.Test.YtbioklhoolkhkabGreatRows
import Derived.KernelRfl
import Derived.JoinedOf
namespace Go.Proofs.YtbioklhoolkhkabGreat
set_option linter.unusedVariables false
set_option linter.unusedSimpArgs false
set_option maxRecDepth 100000
open Go

theorem sh_facts : joinedFacts Tryz.prog 3 Tryz.f3 Rows.shapeAppliesSpec Rows.shapeAppliesRow = true := by kernel_rfl
end Go.Proofs.YtbioklhoolkhkabGreat
