/-
  No cell of these rows narrows 'for every input' (looked for: loops, veiled, ifaces, maps, wideKeys, modest, calm, conditions, laid).
  DERIVED. THE GIVEN ROWS OF THIS SEAT. 7 by the template 'for every input the law returns true; each argument reads behind the call as it read before'; 0 by the template 'total and deterministic' (their statements: YtpkcdkbbhiafnaaTotals.lean).
  GIVEN WITH THE SEED: the statements are not yours to turn. If you find one false, say at which input.
  Laid BY PROGRAM, IN A SANDBOX (cutbox-rows.mjs): the forced cells as the released guide's own fill.sh prints them over the translation 3918ba8b178bbc61… (all of the seat's roots in one cut). By AI agents, Wed Nov 11 2026. No macro, syntax, notation, axiom, sorry.
-/
import Derived.Test.YtpkcdkbbhiafnaaChecked
import GoSem.Claim
import GoSem.ClaimJoined
import GoSem.ClaimMapViews
import Derived.JoinedTies
import Derived.KernelRfl
namespace Go.Proofs.Ytpkcdkbbhiafnaa
/- THE CELL 'sum', in the pinned program and in every row, IS THE sha256 OF THE DUMP (.gsa) THAT YtpkcdkbbhiafnaaProg.lean LOADS. Nothing in Lean hashes anything: it is a label: what it is worth is what the hold of that sum in a sandbox is worth. -/
noncomputable def Try.pinned : Pinned := { name := "ytpkcdkbbhiafnaa", sum := "3918ba8b178bbc6108a1541f361dcf7ccb322e6e932445f6206082e5d5e670f8", checked := Try.checked }
namespace Rows
def none {H : Type} : Left H := { results := [], args := [] }

/-- 'lodelaw24.GateAcks': WHATEVER THE INPUT: true; the input reads as it did. -/
def gateAcksSpec : ChangeSpec := { name := "gateAcks", fn := fun _ => fun
  | [d1, d2] => { results := [.lit (.bool true)], args := [d1, d2] }
  | _ => none }
def gateAcksRow : OpenClaim := { program := "ytpkcdkbbhiafnaa", sum := "3918ba8b178bbc6108a1541f361dcf7ccb322e6e932445f6206082e5d5e670f8", func := "lode/lodelaw24.GateAcks", spec := "gateAcks", unfollowed := true, recurses := true, apart := false }
def GateAcksSaid : Prop := gateAcksRow.holds Try.pinned (OpenSpec.ofChange gateAcksSpec)

/-- ITS FALSE NEIGHBOUR: 'it returns false'. Refute it at one input. -/
def gateAcksWrong : ChangeSpec := { name := "gateAcks", fn := fun _ => fun
  | [d1, d2] => { results := [.lit (.bool false)], args := [d1, d2] }
  | _ => none }
def GateAcksWrongFalsely : Prop := gateAcksRow.holds Try.pinned (OpenSpec.ofChange gateAcksWrong)

/-- 'lodelaw24.GateOffers': WHATEVER THE INPUT: true; the input reads as it did. -/
def gateOffersSpec : ChangeSpec := { name := "gateOffers", fn := fun _ => fun
  | [d1, d2, d3] => { results := [.lit (.bool true)], args := [d1, d2, d3] }
  | _ => none }
def gateOffersRow : OpenClaim := { program := "ytpkcdkbbhiafnaa", sum := "3918ba8b178bbc6108a1541f361dcf7ccb322e6e932445f6206082e5d5e670f8", func := "lode/lodelaw24.GateOffers", spec := "gateOffers", unfollowed := true, recurses := true, apart := false }
def GateOffersSaid : Prop := gateOffersRow.holds Try.pinned (OpenSpec.ofChange gateOffersSpec)

/-- ITS FALSE NEIGHBOUR: 'it returns false'. Refute it at one input. -/
def gateOffersWrong : ChangeSpec := { name := "gateOffers", fn := fun _ => fun
  | [d1, d2, d3] => { results := [.lit (.bool false)], args := [d1, d2, d3] }
  | _ => none }
def GateOffersWrongFalsely : Prop := gateOffersRow.holds Try.pinned (OpenSpec.ofChange gateOffersWrong)

/-- 'lodelaw24.GateTakes': WHATEVER THE INPUT: true; the input reads as it did. -/
def gateTakesSpec : ChangeSpec := { name := "gateTakes", fn := fun _ => fun
  | [d1, d2, d3] => { results := [.lit (.bool true)], args := [d1, d2, d3] }
  | _ => none }
def gateTakesRow : OpenClaim := { program := "ytpkcdkbbhiafnaa", sum := "3918ba8b178bbc6108a1541f361dcf7ccb322e6e932445f6206082e5d5e670f8", func := "lode/lodelaw24.GateTakes", spec := "gateTakes", unfollowed := true, recurses := true, apart := false }
def GateTakesSaid : Prop := gateTakesRow.holds Try.pinned (OpenSpec.ofChange gateTakesSpec)

/-- ITS FALSE NEIGHBOUR: 'it returns false'. Refute it at one input. -/
def gateTakesWrong : ChangeSpec := { name := "gateTakes", fn := fun _ => fun
  | [d1, d2, d3] => { results := [.lit (.bool false)], args := [d1, d2, d3] }
  | _ => none }
def GateTakesWrongFalsely : Prop := gateTakesRow.holds Try.pinned (OpenSpec.ofChange gateTakesWrong)

/-- 'lodelaw24.GatePlays': WHATEVER THE INPUT: true; the input reads as it did. -/
def gatePlaysSpec : ChangeSpec := { name := "gatePlays", fn := fun _ => fun
  | [d] => { results := [.lit (.bool true)], args := [d] }
  | _ => none }
def gatePlaysRow : OpenClaim := { program := "ytpkcdkbbhiafnaa", sum := "3918ba8b178bbc6108a1541f361dcf7ccb322e6e932445f6206082e5d5e670f8", func := "lode/lodelaw24.GatePlays", spec := "gatePlays", unfollowed := true, recurses := true, apart := false }
def GatePlaysSaid : Prop := gatePlaysRow.holds Try.pinned (OpenSpec.ofChange gatePlaysSpec)

/-- ITS FALSE NEIGHBOUR: 'it returns false'. Refute it at one input. -/
def gatePlaysWrong : ChangeSpec := { name := "gatePlays", fn := fun _ => fun
  | [d] => { results := [.lit (.bool false)], args := [d] }
  | _ => none }
def GatePlaysWrongFalsely : Prop := gatePlaysRow.holds Try.pinned (OpenSpec.ofChange gatePlaysWrong)

/-- 'lodelaw24.GateInputs': WHATEVER THE INPUT: true; the input reads as it did. -/
def gateInputsSpec : ChangeSpec := { name := "gateInputs", fn := fun _ => fun
  | [d] => { results := [.lit (.bool true)], args := [d] }
  | _ => none }
def gateInputsRow : OpenClaim := { program := "ytpkcdkbbhiafnaa", sum := "3918ba8b178bbc6108a1541f361dcf7ccb322e6e932445f6206082e5d5e670f8", func := "lode/lodelaw24.GateInputs", spec := "gateInputs", unfollowed := true, recurses := true, apart := false }
def GateInputsSaid : Prop := gateInputsRow.holds Try.pinned (OpenSpec.ofChange gateInputsSpec)

/-- ITS FALSE NEIGHBOUR: 'it returns false'. Refute it at one input. -/
def gateInputsWrong : ChangeSpec := { name := "gateInputs", fn := fun _ => fun
  | [d] => { results := [.lit (.bool false)], args := [d] }
  | _ => none }
def GateInputsWrongFalsely : Prop := gateInputsRow.holds Try.pinned (OpenSpec.ofChange gateInputsWrong)

/-- 'lodelaw24.GatePuts': WHATEVER THE INPUT: true; the input reads as it did. -/
def gatePutsSpec : ChangeSpec := { name := "gatePuts", fn := fun _ => fun
  | [d1, d2] => { results := [.lit (.bool true)], args := [d1, d2] }
  | _ => none }
def gatePutsRow : OpenClaim := { program := "ytpkcdkbbhiafnaa", sum := "3918ba8b178bbc6108a1541f361dcf7ccb322e6e932445f6206082e5d5e670f8", func := "lode/lodelaw24.GatePuts", spec := "gatePuts", unfollowed := true, recurses := true, apart := false }
def GatePutsSaid : Prop := gatePutsRow.holds Try.pinned (OpenSpec.ofChange gatePutsSpec)

/-- ITS FALSE NEIGHBOUR: 'it returns false'. Refute it at one input. -/
def gatePutsWrong : ChangeSpec := { name := "gatePuts", fn := fun _ => fun
  | [d1, d2] => { results := [.lit (.bool false)], args := [d1, d2] }
  | _ => none }
def GatePutsWrongFalsely : Prop := gatePutsRow.holds Try.pinned (OpenSpec.ofChange gatePutsWrong)

/-- 'lodelaw24.GateBytes': WHATEVER THE INPUT: true; the input reads as it did. -/
def gateBytesSpec : ChangeSpec := { name := "gateBytes", fn := fun _ => fun
  | [d1, d2] => { results := [.lit (.bool true)], args := [d1, d2] }
  | _ => none }
def gateBytesRow : OpenClaim := { program := "ytpkcdkbbhiafnaa", sum := "3918ba8b178bbc6108a1541f361dcf7ccb322e6e932445f6206082e5d5e670f8", func := "lode/lodelaw24.GateBytes", spec := "gateBytes", unfollowed := true, recurses := true, apart := false }
def GateBytesSaid : Prop := gateBytesRow.holds Try.pinned (OpenSpec.ofChange gateBytesSpec)

/-- ITS FALSE NEIGHBOUR: 'it returns false'. Refute it at one input. -/
def gateBytesWrong : ChangeSpec := { name := "gateBytes", fn := fun _ => fun
  | [d1, d2] => { results := [.lit (.bool false)], args := [d1, d2] }
  | _ => none }
def GateBytesWrongFalsely : Prop := gateBytesRow.holds Try.pinned (OpenSpec.ofChange gateBytesWrong)

/- THE SECOND FORM. 'bulk': how many values and letters a reading holds, each counted each time it is reached (what is shared counts as often as it is met; a slice's spare places count too). A statement '..UptoSaid' is the law's where the arguments, and the package variables that the reading takes, are together of bulk at most 1048576: NARROWER than '..Said'. Prove '..Said' where nothing that the law and all that it calls make is longer than what came in: it says more and counts as full. Else prove '..UptoSaid'. A law counts once. -/
mutual
def uptoBulk {H : Type} : DataW H → Nat
  | .lit (.string bytes) => bytes.length + 1
  | .lit _ => 1
  | .nil => 1
  | .ptr d => uptoBulk d + 1
  | .slice elems spare => uptoBulkAll elems + uptoBulkAll spare + 1
  | .agg parts => uptoBulkAll parts + 1
  | .iface _ d => uptoBulk d + 1
  | .map entries => uptoBulkEntries entries + 1
  | .held _ => 1
def uptoBulkAll {H : Type} : List (DataW H) → Nat
  | [] => 0
  | d :: r => uptoBulk d + uptoBulkAll r
def uptoBulkEntries {H : Type} : List (Lit × DataW H) → Nat
  | [] => 0
  | x :: r => uptoBulkEntry x + uptoBulkEntries r
def uptoBulkEntry {H : Type} : Lit × DataW H → Nat
  | (.string bytes, d) => bytes.length + uptoBulk d + 1
  | (_, d) => uptoBulk d + 1
 end
def uptoSmall : (H : Type) → List (DataW H) → Bool := fun _ ds => decide (uptoBulkAll ds ≤ 1048576)
def OpenSpec.upto (s : _root_.Go.ChangeSpec) : _root_.Go.OpenSpec := { _root_.Go.OpenSpec.ofChange s with cond := some uptoSmall }

/-- 'lodelaw24.GateAcks', WHERE WHAT IT READS IS OF BULK AT MOST 1048576: true; the input reads as it did. -/
def gateAcksUptoRow : OpenClaim := { program := "ytpkcdkbbhiafnaa", sum := "3918ba8b178bbc6108a1541f361dcf7ccb322e6e932445f6206082e5d5e670f8", func := "lode/lodelaw24.GateAcks", spec := "gateAcks", unfollowed := true, recurses := true, apart := false, narrowed := true }
def GateAcksUptoSaid : Prop := gateAcksUptoRow.holds Try.pinned (OpenSpec.upto gateAcksSpec)

/-- 'lodelaw24.GateOffers', WHERE WHAT IT READS IS OF BULK AT MOST 1048576: true; the input reads as it did. -/
def gateOffersUptoRow : OpenClaim := { program := "ytpkcdkbbhiafnaa", sum := "3918ba8b178bbc6108a1541f361dcf7ccb322e6e932445f6206082e5d5e670f8", func := "lode/lodelaw24.GateOffers", spec := "gateOffers", unfollowed := true, recurses := true, apart := false, narrowed := true }
def GateOffersUptoSaid : Prop := gateOffersUptoRow.holds Try.pinned (OpenSpec.upto gateOffersSpec)

/-- 'lodelaw24.GateTakes', WHERE WHAT IT READS IS OF BULK AT MOST 1048576: true; the input reads as it did. -/
def gateTakesUptoRow : OpenClaim := { program := "ytpkcdkbbhiafnaa", sum := "3918ba8b178bbc6108a1541f361dcf7ccb322e6e932445f6206082e5d5e670f8", func := "lode/lodelaw24.GateTakes", spec := "gateTakes", unfollowed := true, recurses := true, apart := false, narrowed := true }
def GateTakesUptoSaid : Prop := gateTakesUptoRow.holds Try.pinned (OpenSpec.upto gateTakesSpec)

/-- 'lodelaw24.GatePlays', WHERE WHAT IT READS IS OF BULK AT MOST 1048576: true; the input reads as it did. -/
def gatePlaysUptoRow : OpenClaim := { program := "ytpkcdkbbhiafnaa", sum := "3918ba8b178bbc6108a1541f361dcf7ccb322e6e932445f6206082e5d5e670f8", func := "lode/lodelaw24.GatePlays", spec := "gatePlays", unfollowed := true, recurses := true, apart := false, narrowed := true }
def GatePlaysUptoSaid : Prop := gatePlaysUptoRow.holds Try.pinned (OpenSpec.upto gatePlaysSpec)

/-- 'lodelaw24.GateInputs', WHERE WHAT IT READS IS OF BULK AT MOST 1048576: true; the input reads as it did. -/
def gateInputsUptoRow : OpenClaim := { program := "ytpkcdkbbhiafnaa", sum := "3918ba8b178bbc6108a1541f361dcf7ccb322e6e932445f6206082e5d5e670f8", func := "lode/lodelaw24.GateInputs", spec := "gateInputs", unfollowed := true, recurses := true, apart := false, narrowed := true }
def GateInputsUptoSaid : Prop := gateInputsUptoRow.holds Try.pinned (OpenSpec.upto gateInputsSpec)

/-- 'lodelaw24.GatePuts', WHERE WHAT IT READS IS OF BULK AT MOST 1048576: true; the input reads as it did. -/
def gatePutsUptoRow : OpenClaim := { program := "ytpkcdkbbhiafnaa", sum := "3918ba8b178bbc6108a1541f361dcf7ccb322e6e932445f6206082e5d5e670f8", func := "lode/lodelaw24.GatePuts", spec := "gatePuts", unfollowed := true, recurses := true, apart := false, narrowed := true }
def GatePutsUptoSaid : Prop := gatePutsUptoRow.holds Try.pinned (OpenSpec.upto gatePutsSpec)

/-- 'lodelaw24.GateBytes', WHERE WHAT IT READS IS OF BULK AT MOST 1048576: true; the input reads as it did. -/
def gateBytesUptoRow : OpenClaim := { program := "ytpkcdkbbhiafnaa", sum := "3918ba8b178bbc6108a1541f361dcf7ccb322e6e932445f6206082e5d5e670f8", func := "lode/lodelaw24.GateBytes", spec := "gateBytes", unfollowed := true, recurses := true, apart := false, narrowed := true }
def GateBytesUptoSaid : Prop := gateBytesUptoRow.holds Try.pinned (OpenSpec.upto gateBytesSpec)

end Rows
end Go.Proofs.Ytpkcdkbbhiafnaa
