/- A closed call in pieces (Vn): piece 5. -/
import Derived.Test.YtbioklhoolkhkadGreatDoorK30
import Derived.KernelRfl
namespace Go.Proofs.YtbioklhoolkhkadGreatDoor
set_option linter.unusedVariables false
set_option maxRecDepth 100000
open Go
theorem Vn_5 : pieceK VnEnv 1000000 190 (tkL (dpL (flatC (bodyOf Tryz.f3)) 16) 5) VnT5 VnB5 9881 .nrm VnT6 VnB6 10060 = true := by kernel_rfl
end Go.Proofs.YtbioklhoolkhkadGreatDoor
