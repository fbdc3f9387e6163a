/-
  DERIVED. GIVEN WITH THE SEED: THE CARDS: each row of YtbioklhoolkhkadGreatDoorRows.lean that lists a variable, with what it lists TIED to the program's text (the seventh form; the later family's looks); each row that meets fmt, with fmt's text TOLD by the authors' own Lean function (tested against real Go, not proved from fmt's source: count such statements apart). THE CARD IS WHAT COUNTS. Prove the row's statement (the work); the ties are given (YtbioklhoolkhkadGreatDoorTie.lean); close each card by the builder's one call (the guide's Derived/Test/ToyasCard.lean, 'card_holds'). Laid BY PROGRAM, IN A SANDBOX (cutbox-door.mjs). By AI agents, Wed Nov 11 2026. No macro, syntax, notation, axiom, sorry.
-/
import Derived.Test.YtbioklhoolkhkadGreatDoorRows
import GoSem.ClaimSeven
namespace Go.Proofs.YtbioklhoolkhkadGreatDoor
namespace Rows

/-- THE TIED CARD OF 'lodelaw14.VmNames'. -/
def vmNamesCard : Claim7 := { stood := { row := vmNamesRow, standIns := [], harness := (true, "574260142c95a5d874a4b63c590b86d70d029476a348813350a68c155079ee1f"), looks := true }, kinds := [], alts := [], laidByText := true, laidKinds := [.data, .data, .data, .sentinel, .sentinel], laidTests := true, laidLooks := .later }
def VmNamesCardSaid : Prop := Claim7.holds Tryz.pinned (.plain (OpenSpec.ofChange vmNamesSpec)) vmNamesCard

/-- THE SECOND FORM's CARD OF 'lodelaw14.VmNames'. -/
def vmNamesUptoCard : Claim7 := { stood := { row := vmNamesUptoRow, standIns := [], harness := (true, "574260142c95a5d874a4b63c590b86d70d029476a348813350a68c155079ee1f"), looks := true }, kinds := [], alts := [], laidByText := true, laidKinds := [.data, .data, .data, .sentinel, .sentinel], laidTests := true, laidLooks := .later }
def VmNamesUptoCardSaid : Prop := Claim7.holds Tryz.pinned (.plain (OpenSpec.upto vmNamesSpec)) vmNamesUptoCard
end Rows
end Go.Proofs.YtbioklhoolkhkadGreatDoor
