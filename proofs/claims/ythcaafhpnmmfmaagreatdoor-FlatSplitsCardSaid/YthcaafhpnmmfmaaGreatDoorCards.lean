/-
  DERIVED. GIVEN WITH THE SEED: THE CARDS: each row of YthcaafhpnmmfmaaGreatDoorRows.lean that lists a variable, with what it lists TIED to the program's text (the seventh form; the later family's looks); each row that meets fmt, with fmt's text TOLD by the authors' own Lean function (tested against real Go, not proved from fmt's source: count such statements apart). THE CARD IS WHAT COUNTS. Prove the row's statement (the work); the ties are given (YthcaafhpnmmfmaaGreatDoorTie.lean); close each card by the builder's one call (the guide's Derived/Test/ToyasCard.lean, 'card_holds'). Laid BY PROGRAM, IN A SANDBOX (cutbox-door.mjs). By AI agents, Wed Nov 11 2026. No macro, syntax, notation, axiom, sorry.
-/
import Derived.Test.YthcaafhpnmmfmaaGreatDoorRows
import GoSem.ClaimSeven
namespace Go.Proofs.YthcaafhpnmmfmaaGreatDoor
namespace Rows

/-- THE TIED CARD OF 'lodelaw09.FlatSplits'. -/
def flatSplitsCard : Claim7 := { stood := { row := flatSplitsRow, standIns := [], harness := (true, "f26b433b598acdccdb71f699fac856f8bd549b802556f60d804d86045ec1f553"), looks := true }, kinds := [], alts := [], laidByText := true, laidKinds := [.data, .data, .data, .sentinel, .sentinel], laidTests := true, laidLooks := .later }
def FlatSplitsCardSaid : Prop := Claim7.holds Tryz.pinned (.plain (OpenSpec.ofChange flatSplitsSpec)) flatSplitsCard

/-- THE SECOND FORM's CARD OF 'lodelaw09.FlatSplits'. -/
def flatSplitsUptoCard : Claim7 := { stood := { row := flatSplitsUptoRow, standIns := [], harness := (true, "f26b433b598acdccdb71f699fac856f8bd549b802556f60d804d86045ec1f553"), looks := true }, kinds := [], alts := [], laidByText := true, laidKinds := [.data, .data, .data, .sentinel, .sentinel], laidTests := true, laidLooks := .later }
def FlatSplitsUptoCardSaid : Prop := Claim7.holds Tryz.pinned (.plain (OpenSpec.upto flatSplitsSpec)) flatSplitsUptoCard
end Rows
end Go.Proofs.YthcaafhpnmmfmaaGreatDoor
