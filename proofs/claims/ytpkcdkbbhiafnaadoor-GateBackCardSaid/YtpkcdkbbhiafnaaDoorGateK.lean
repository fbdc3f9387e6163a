/- The walks: the reference's Take; the statements' Thin. -/
import Derived.Test.YtpkcdkbbhiafnaaDoorGateJ
namespace Go.Proofs.YtpkcdkbbhiafnaaDoor
set_option linter.unusedVariables false
set_option linter.unusedSimpArgs false
open Go.RowKit

theorem takeR_err {l l' : List ByteArray} {n k : Int} {s : ByteArray} (h : takeM l n s = (k, l')) (hk : k ≠ 0) : takeR l n s = ([], 0, k) := by unfold takeR; rw [h, if_pos hk]
theorem takeR_ok {l l' : List ByteArray} {n : Int} {s : ByteArray} (h : takeM l n s = (0, l')) : takeR l n s = (l', (l'.length : Int), 0) := by unfold takeR; rw [h, if_neg (by simp)]

def thinB (g : GateM) : Bool := decide (g.queue.length ≤ 70) && g.queue.all fun s => decide (s.size ≤ 300)
end Go.Proofs.YtpkcdkbbhiafnaaDoor
