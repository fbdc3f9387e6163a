/-
  DERIVED. GIVEN WITH THE SEED: THE CARDS: each row of YtpkcdkbbhiafnaaDoorRows.lean that lists a variable, with what it lists TIED to the program's text (the seventh form; the later family's looks); each row that meets fmt, with fmt's text TOLD by the authors' own Lean function (tested against real Go, not proved from fmt's source: count such statements apart). THE CARD IS WHAT COUNTS. Prove the row's statement (the work); the ties are given (YtpkcdkbbhiafnaaDoorTie.lean); close each card by the builder's one call (the guide's Derived/Test/ToyasCard.lean, 'card_holds'). Laid BY PROGRAM, IN A SANDBOX (cutbox-door.mjs). By AI agents, Wed Nov 11 2026. No macro, syntax, notation, axiom, sorry.
-/
import Derived.Test.YtpkcdkbbhiafnaaDoorRows
import GoSem.ClaimSeven
namespace Go.Proofs.YtpkcdkbbhiafnaaDoor
namespace Rows

/-- THE TIED CARD OF 'lodelaw24.GateOnce'. -/
def gateOnceCard : Claim7 := { stood := { row := gateOnceRow, standIns := [], harness := (true, "122739ddb7afb86fe22f63ebf24047735ddc40723c3489c5f5580053885121bd"), looks := false }, kinds := [], alts := [], laidByText := true, laidKinds := [.data, .data, .data], laidTests := true, laidLooks := .later }
def GateOnceCardSaid : Prop := Claim7.holds Tryd.pinned (.plain (OpenSpec.ofChange gateOnceSpec)) gateOnceCard

/-- THE TIED CARD OF 'lodelaw24.GateLast'. -/
def gateLastCard : Claim7 := { stood := { row := gateLastRow, standIns := [], harness := (true, "122739ddb7afb86fe22f63ebf24047735ddc40723c3489c5f5580053885121bd"), looks := false }, kinds := [], alts := [], laidByText := true, laidKinds := [.data, .data, .data], laidTests := true, laidLooks := .later }
def GateLastCardSaid : Prop := Claim7.holds Tryd.pinned (.plain (OpenSpec.ofChange gateLastSpec)) gateLastCard

/-- THE TIED CARD OF 'lodelaw24.GateWaits'. -/
def gateWaitsCard : Claim7 := { stood := { row := gateWaitsRow, standIns := [], harness := (true, "122739ddb7afb86fe22f63ebf24047735ddc40723c3489c5f5580053885121bd"), looks := false }, kinds := [], alts := [], laidByText := true, laidKinds := [.data, .data, .data], laidTests := true, laidLooks := .later }
def GateWaitsCardSaid : Prop := Claim7.holds Tryd.pinned (.plain (OpenSpec.ofChange gateWaitsSpec)) gateWaitsCard

/-- THE TIED CARD OF 'lodelaw24.GateBack'. -/
def gateBackCard : Claim7 := { stood := { row := gateBackRow, standIns := [], harness := (true, "122739ddb7afb86fe22f63ebf24047735ddc40723c3489c5f5580053885121bd"), looks := false }, kinds := [], alts := [], laidByText := true, laidKinds := [.data, .data, .data], laidTests := true, laidLooks := .later }
def GateBackCardSaid : Prop := Claim7.holds Tryd.pinned (.plain (OpenSpec.ofChange gateBackSpec)) gateBackCard

/-- THE SECOND FORM's CARD OF 'lodelaw24.GateOnce'. -/
def gateOnceUptoCard : Claim7 := { stood := { row := gateOnceUptoRow, standIns := [], harness := (true, "122739ddb7afb86fe22f63ebf24047735ddc40723c3489c5f5580053885121bd"), looks := false }, kinds := [], alts := [], laidByText := true, laidKinds := [.data, .data, .data], laidTests := true, laidLooks := .later }
def GateOnceUptoCardSaid : Prop := Claim7.holds Tryd.pinned (.plain (OpenSpec.upto gateOnceSpec)) gateOnceUptoCard

/-- THE SECOND FORM's CARD OF 'lodelaw24.GateLast'. -/
def gateLastUptoCard : Claim7 := { stood := { row := gateLastUptoRow, standIns := [], harness := (true, "122739ddb7afb86fe22f63ebf24047735ddc40723c3489c5f5580053885121bd"), looks := false }, kinds := [], alts := [], laidByText := true, laidKinds := [.data, .data, .data], laidTests := true, laidLooks := .later }
def GateLastUptoCardSaid : Prop := Claim7.holds Tryd.pinned (.plain (OpenSpec.upto gateLastSpec)) gateLastUptoCard

/-- THE SECOND FORM's CARD OF 'lodelaw24.GateWaits'. -/
def gateWaitsUptoCard : Claim7 := { stood := { row := gateWaitsUptoRow, standIns := [], harness := (true, "122739ddb7afb86fe22f63ebf24047735ddc40723c3489c5f5580053885121bd"), looks := false }, kinds := [], alts := [], laidByText := true, laidKinds := [.data, .data, .data], laidTests := true, laidLooks := .later }
def GateWaitsUptoCardSaid : Prop := Claim7.holds Tryd.pinned (.plain (OpenSpec.upto gateWaitsSpec)) gateWaitsUptoCard

/-- THE SECOND FORM's CARD OF 'lodelaw24.GateBack'. -/
def gateBackUptoCard : Claim7 := { stood := { row := gateBackUptoRow, standIns := [], harness := (true, "122739ddb7afb86fe22f63ebf24047735ddc40723c3489c5f5580053885121bd"), looks := false }, kinds := [], alts := [], laidByText := true, laidKinds := [.data, .data, .data], laidTests := true, laidLooks := .later }
def GateBackUptoCardSaid : Prop := Claim7.holds Tryd.pinned (.plain (OpenSpec.upto gateBackSpec)) gateBackUptoCard
end Rows
end Go.Proofs.YtpkcdkbbhiafnaaDoor
