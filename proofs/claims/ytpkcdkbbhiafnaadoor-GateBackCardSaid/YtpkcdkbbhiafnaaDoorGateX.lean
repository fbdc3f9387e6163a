/- The walks: the laws GateAcks, GatePuts, GateOffers, GateTakes, GateInputs. -/
import Derived.Test.YtpkcdkbbhiafnaaDoorGateW
namespace Go.Proofs.YtpkcdkbbhiafnaaDoor
set_option linter.unusedVariables false
set_option linter.unusedSimpArgs false
open Go.RowKit

theorem GateM.eqv_refl (g : GateM) : g.eqv g = true := by unfold GateM.eqv; simp
/-- What each law does. -/
def Lawful (w0 : World) (H : Hp) (L : List (Nat × Obj)) (e : Ending) (w' : World) : Prop := e = .returned (.bool true) ∧ Mem w0 H L w'

end Go.Proofs.YtpkcdkbbhiafnaaDoor
