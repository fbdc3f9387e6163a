/-
  No cell of these rows narrows 'for every input' (looked for: loops, veiled, ifaces, maps, wideKeys, modest, calm, conditions, laid).
  DERIVED. THE GIVEN ROWS OF THIS SEAT. 8 by the template 'for every input the law returns true; each argument reads behind the call as it read before'; 0 by the template 'total and deterministic' (their statements: YtpjbcplpdjobjaaGreatTotals.lean).
  GIVEN WITH THE SEED: the statements are not yours to turn. If you find one false, say at which input.
  Laid BY PROGRAM, IN A SANDBOX (cutbox-rows.mjs): the forced cells as the released guide's own fill.sh prints them over the translation d452259b92eb3313… (all of the seat's roots in one cut). By AI agents, Wed Nov 11 2026. No macro, syntax, notation, axiom, sorry.
-/
import Derived.Test.YtpjbcplpdjobjaaGreatChecked
import GoSem.Claim
import GoSem.ClaimJoined
import GoSem.ClaimMapViews
import Derived.JoinedTies
import Derived.KernelRfl
namespace Go.Proofs.YtpjbcplpdjobjaaGreat
/- THE CELL 'sum', in the pinned program and in every row, IS THE sha256 OF THE DUMP (.gsa) THAT YtpjbcplpdjobjaaGreatProg.lean LOADS. Nothing in Lean hashes anything: it is a label: what it is worth is what the hold of that sum in a sandbox is worth. -/
noncomputable def Tryz.pinned : Pinned := { name := "ytpjbcplpdjobjaagreat", sum := "d452259b92eb33135e79b7e3704bd5aa2b0b72650eec97c8893395dacf3fcf22", checked := Tryz.checked }
namespace Rows
def none {H : Type} : Left H := { results := [], args := [] }

/-- 'lodelaw23.ShapeChecks': WHATEVER THE INPUT: true; the input reads as it did. -/
def shapeChecksSpec : ChangeSpec := { name := "shapeChecks", fn := fun _ => fun
  | [d1, d2] => { results := [.lit (.bool true)], args := [d1, d2] }
  | _ => none }
def shapeChecksRow : OpenClaim := { program := "ytpjbcplpdjobjaagreat", sum := "d452259b92eb33135e79b7e3704bd5aa2b0b72650eec97c8893395dacf3fcf22", func := "lode/lodelaw23.ShapeChecks", spec := "shapeChecks", unfollowed := true, recurses := true, apart := false }
def ShapeChecksSaid : Prop := shapeChecksRow.holds Tryz.pinned (OpenSpec.ofChange shapeChecksSpec)

/-- ITS FALSE NEIGHBOUR: 'it returns false'. Refute it at one input. -/
def shapeChecksWrong : ChangeSpec := { name := "shapeChecks", fn := fun _ => fun
  | [d1, d2] => { results := [.lit (.bool false)], args := [d1, d2] }
  | _ => none }
def ShapeChecksWrongFalsely : Prop := shapeChecksRow.holds Tryz.pinned (OpenSpec.ofChange shapeChecksWrong)

/-- 'lodelaw23.ShapeObjects': WHATEVER THE INPUT: true; the input reads as it did. -/
def shapeObjectsSpec : ChangeSpec := { name := "shapeObjects", fn := fun _ => fun
  | [d1, d2, d3] => { results := [.lit (.bool true)], args := [d1, d2, d3] }
  | _ => none }
def shapeObjectsRow : OpenClaim := { program := "ytpjbcplpdjobjaagreat", sum := "d452259b92eb33135e79b7e3704bd5aa2b0b72650eec97c8893395dacf3fcf22", func := "lode/lodelaw23.ShapeObjects", spec := "shapeObjects", unfollowed := true, recurses := true, apart := false }
def ShapeObjectsSaid : Prop := shapeObjectsRow.holds Tryz.pinned (OpenSpec.ofChange shapeObjectsSpec)

/-- ITS FALSE NEIGHBOUR: 'it returns false'. Refute it at one input. -/
def shapeObjectsWrong : ChangeSpec := { name := "shapeObjects", fn := fun _ => fun
  | [d1, d2, d3] => { results := [.lit (.bool false)], args := [d1, d2, d3] }
  | _ => none }
def ShapeObjectsWrongFalsely : Prop := shapeObjectsRow.holds Tryz.pinned (OpenSpec.ofChange shapeObjectsWrong)

/-- 'lodelaw23.ShapeStates': WHATEVER THE INPUT: true; the input reads as it did. -/
def shapeStatesSpec : ChangeSpec := { name := "shapeStates", fn := fun _ => fun
  | [d1, d2, d3] => { results := [.lit (.bool true)], args := [d1, d2, d3] }
  | _ => none }
def shapeStatesRow : OpenClaim := { program := "ytpjbcplpdjobjaagreat", sum := "d452259b92eb33135e79b7e3704bd5aa2b0b72650eec97c8893395dacf3fcf22", func := "lode/lodelaw23.ShapeStates", spec := "shapeStates", unfollowed := true, recurses := true, apart := false }
def ShapeStatesSaid : Prop := shapeStatesRow.holds Tryz.pinned (OpenSpec.ofChange shapeStatesSpec)

/-- ITS FALSE NEIGHBOUR: 'it returns false'. Refute it at one input. -/
def shapeStatesWrong : ChangeSpec := { name := "shapeStates", fn := fun _ => fun
  | [d1, d2, d3] => { results := [.lit (.bool false)], args := [d1, d2, d3] }
  | _ => none }
def ShapeStatesWrongFalsely : Prop := shapeStatesRow.holds Tryz.pinned (OpenSpec.ofChange shapeStatesWrong)

/-- 'lodelaw23.ShapeGuesses': WHATEVER THE INPUT: true; the input reads as it did. -/
def shapeGuessesSpec : ChangeSpec := { name := "shapeGuesses", fn := fun _ => fun
  | [d] => { results := [.lit (.bool true)], args := [d] }
  | _ => none }
def shapeGuessesRow : OpenClaim := { program := "ytpjbcplpdjobjaagreat", sum := "d452259b92eb33135e79b7e3704bd5aa2b0b72650eec97c8893395dacf3fcf22", func := "lode/lodelaw23.ShapeGuesses", spec := "shapeGuesses", unfollowed := true, recurses := true, apart := false }
def ShapeGuessesSaid : Prop := shapeGuessesRow.holds Tryz.pinned (OpenSpec.ofChange shapeGuessesSpec)

/-- ITS FALSE NEIGHBOUR: 'it returns false'. Refute it at one input. -/
def shapeGuessesWrong : ChangeSpec := { name := "shapeGuesses", fn := fun _ => fun
  | [d] => { results := [.lit (.bool false)], args := [d] }
  | _ => none }
def ShapeGuessesWrongFalsely : Prop := shapeGuessesRow.holds Tryz.pinned (OpenSpec.ofChange shapeGuessesWrong)

/-- 'lodelaw23.ShapeEach': WHATEVER THE INPUT: true; the input reads as it did. -/
def shapeEachSpec : ChangeSpec := { name := "shapeEach", fn := fun _ => fun
  | [d1, d2, d3] => { results := [.lit (.bool true)], args := [d1, d2, d3] }
  | _ => none }
def shapeEachRow : OpenClaim := { program := "ytpjbcplpdjobjaagreat", sum := "d452259b92eb33135e79b7e3704bd5aa2b0b72650eec97c8893395dacf3fcf22", func := "lode/lodelaw23.ShapeEach", spec := "shapeEach", unfollowed := true, recurses := true, apart := false }
def ShapeEachSaid : Prop := shapeEachRow.holds Tryz.pinned (OpenSpec.ofChange shapeEachSpec)

/-- ITS FALSE NEIGHBOUR: 'it returns false'. Refute it at one input. -/
def shapeEachWrong : ChangeSpec := { name := "shapeEach", fn := fun _ => fun
  | [d1, d2, d3] => { results := [.lit (.bool false)], args := [d1, d2, d3] }
  | _ => none }
def ShapeEachWrongFalsely : Prop := shapeEachRow.holds Tryz.pinned (OpenSpec.ofChange shapeEachWrong)

/-- 'lodelaw23.ShapeKeeps': WHATEVER THE INPUT: true; the input reads as it did. -/
def shapeKeepsSpec : ChangeSpec := { name := "shapeKeeps", fn := fun _ => fun
  | [d1, d2, d3] => { results := [.lit (.bool true)], args := [d1, d2, d3] }
  | _ => none }
def shapeKeepsRow : OpenClaim := { program := "ytpjbcplpdjobjaagreat", sum := "d452259b92eb33135e79b7e3704bd5aa2b0b72650eec97c8893395dacf3fcf22", func := "lode/lodelaw23.ShapeKeeps", spec := "shapeKeeps", unfollowed := true, recurses := true, apart := false }
def ShapeKeepsSaid : Prop := shapeKeepsRow.holds Tryz.pinned (OpenSpec.ofChange shapeKeepsSpec)

/-- ITS FALSE NEIGHBOUR: 'it returns false'. Refute it at one input. -/
def shapeKeepsWrong : ChangeSpec := { name := "shapeKeeps", fn := fun _ => fun
  | [d1, d2, d3] => { results := [.lit (.bool false)], args := [d1, d2, d3] }
  | _ => none }
def ShapeKeepsWrongFalsely : Prop := shapeKeepsRow.holds Tryz.pinned (OpenSpec.ofChange shapeKeepsWrong)

/-- 'lodelaw23.ShapeAfter': WHATEVER THE INPUT: true; the input reads as it did. -/
def shapeAfterSpec : ChangeSpec := { name := "shapeAfter", fn := fun _ => fun
  | [d1, d2, d3] => { results := [.lit (.bool true)], args := [d1, d2, d3] }
  | _ => none }
def shapeAfterRow : OpenClaim := { program := "ytpjbcplpdjobjaagreat", sum := "d452259b92eb33135e79b7e3704bd5aa2b0b72650eec97c8893395dacf3fcf22", func := "lode/lodelaw23.ShapeAfter", spec := "shapeAfter", unfollowed := true, recurses := true, apart := false }
def ShapeAfterSaid : Prop := shapeAfterRow.holds Tryz.pinned (OpenSpec.ofChange shapeAfterSpec)

/-- ITS FALSE NEIGHBOUR: 'it returns false'. Refute it at one input. -/
def shapeAfterWrong : ChangeSpec := { name := "shapeAfter", fn := fun _ => fun
  | [d1, d2, d3] => { results := [.lit (.bool false)], args := [d1, d2, d3] }
  | _ => none }
def ShapeAfterWrongFalsely : Prop := shapeAfterRow.holds Tryz.pinned (OpenSpec.ofChange shapeAfterWrong)

/-- 'lodelaw23.ShapeNone': WHATEVER THE INPUT: true; the input reads as it did. -/
def shapeNoneSpec : ChangeSpec := { name := "shapeNone", fn := fun _ => fun
  | [d1, d2] => { results := [.lit (.bool true)], args := [d1, d2] }
  | _ => none }
def shapeNoneRow : OpenClaim := { program := "ytpjbcplpdjobjaagreat", sum := "d452259b92eb33135e79b7e3704bd5aa2b0b72650eec97c8893395dacf3fcf22", func := "lode/lodelaw23.ShapeNone", spec := "shapeNone", unfollowed := true, recurses := true, apart := false }
def ShapeNoneSaid : Prop := shapeNoneRow.holds Tryz.pinned (OpenSpec.ofChange shapeNoneSpec)

/-- ITS FALSE NEIGHBOUR: 'it returns false'. Refute it at one input. -/
def shapeNoneWrong : ChangeSpec := { name := "shapeNone", fn := fun _ => fun
  | [d1, d2] => { results := [.lit (.bool false)], args := [d1, d2] }
  | _ => none }
def ShapeNoneWrongFalsely : Prop := shapeNoneRow.holds Tryz.pinned (OpenSpec.ofChange shapeNoneWrong)

/- THE SECOND FORM. 'bulk': how many values and letters a reading holds, each counted each time it is reached (what is shared counts as often as it is met; a slice's spare places count too). A statement '..UptoSaid' is the law's where the arguments, and the package variables that the reading takes, are together of bulk at most 1048576: NARROWER than '..Said'. Prove '..Said' where nothing that the law and all that it calls make is longer than what came in: it says more and counts as full. Else prove '..UptoSaid'. A law counts once. -/
mutual
def uptoBulk {H : Type} : DataW H → Nat
  | .lit (.string bytes) => bytes.length + 1
  | .lit _ => 1
  | .nil => 1
  | .ptr d => uptoBulk d + 1
  | .slice elems spare => uptoBulkAll elems + uptoBulkAll spare + 1
  | .agg parts => uptoBulkAll parts + 1
  | .iface _ d => uptoBulk d + 1
  | .map entries => uptoBulkEntries entries + 1
  | .held _ => 1
def uptoBulkAll {H : Type} : List (DataW H) → Nat
  | [] => 0
  | d :: r => uptoBulk d + uptoBulkAll r
def uptoBulkEntries {H : Type} : List (Lit × DataW H) → Nat
  | [] => 0
  | x :: r => uptoBulkEntry x + uptoBulkEntries r
def uptoBulkEntry {H : Type} : Lit × DataW H → Nat
  | (.string bytes, d) => bytes.length + uptoBulk d + 1
  | (_, d) => uptoBulk d + 1
 end
def uptoSmall : (H : Type) → List (DataW H) → Bool := fun _ ds => decide (uptoBulkAll ds ≤ 1048576)
def OpenSpec.upto (s : _root_.Go.ChangeSpec) : _root_.Go.OpenSpec := { _root_.Go.OpenSpec.ofChange s with cond := some uptoSmall }

/-- 'lodelaw23.ShapeChecks', WHERE WHAT IT READS IS OF BULK AT MOST 1048576: true; the input reads as it did. -/
def shapeChecksUptoRow : OpenClaim := { program := "ytpjbcplpdjobjaagreat", sum := "d452259b92eb33135e79b7e3704bd5aa2b0b72650eec97c8893395dacf3fcf22", func := "lode/lodelaw23.ShapeChecks", spec := "shapeChecks", unfollowed := true, recurses := true, apart := false, narrowed := true }
def ShapeChecksUptoSaid : Prop := shapeChecksUptoRow.holds Tryz.pinned (OpenSpec.upto shapeChecksSpec)

/-- 'lodelaw23.ShapeObjects', WHERE WHAT IT READS IS OF BULK AT MOST 1048576: true; the input reads as it did. -/
def shapeObjectsUptoRow : OpenClaim := { program := "ytpjbcplpdjobjaagreat", sum := "d452259b92eb33135e79b7e3704bd5aa2b0b72650eec97c8893395dacf3fcf22", func := "lode/lodelaw23.ShapeObjects", spec := "shapeObjects", unfollowed := true, recurses := true, apart := false, narrowed := true }
def ShapeObjectsUptoSaid : Prop := shapeObjectsUptoRow.holds Tryz.pinned (OpenSpec.upto shapeObjectsSpec)

/-- 'lodelaw23.ShapeStates', WHERE WHAT IT READS IS OF BULK AT MOST 1048576: true; the input reads as it did. -/
def shapeStatesUptoRow : OpenClaim := { program := "ytpjbcplpdjobjaagreat", sum := "d452259b92eb33135e79b7e3704bd5aa2b0b72650eec97c8893395dacf3fcf22", func := "lode/lodelaw23.ShapeStates", spec := "shapeStates", unfollowed := true, recurses := true, apart := false, narrowed := true }
def ShapeStatesUptoSaid : Prop := shapeStatesUptoRow.holds Tryz.pinned (OpenSpec.upto shapeStatesSpec)

/-- 'lodelaw23.ShapeGuesses', WHERE WHAT IT READS IS OF BULK AT MOST 1048576: true; the input reads as it did. -/
def shapeGuessesUptoRow : OpenClaim := { program := "ytpjbcplpdjobjaagreat", sum := "d452259b92eb33135e79b7e3704bd5aa2b0b72650eec97c8893395dacf3fcf22", func := "lode/lodelaw23.ShapeGuesses", spec := "shapeGuesses", unfollowed := true, recurses := true, apart := false, narrowed := true }
def ShapeGuessesUptoSaid : Prop := shapeGuessesUptoRow.holds Tryz.pinned (OpenSpec.upto shapeGuessesSpec)

/-- 'lodelaw23.ShapeEach', WHERE WHAT IT READS IS OF BULK AT MOST 1048576: true; the input reads as it did. -/
def shapeEachUptoRow : OpenClaim := { program := "ytpjbcplpdjobjaagreat", sum := "d452259b92eb33135e79b7e3704bd5aa2b0b72650eec97c8893395dacf3fcf22", func := "lode/lodelaw23.ShapeEach", spec := "shapeEach", unfollowed := true, recurses := true, apart := false, narrowed := true }
def ShapeEachUptoSaid : Prop := shapeEachUptoRow.holds Tryz.pinned (OpenSpec.upto shapeEachSpec)

/-- 'lodelaw23.ShapeKeeps', WHERE WHAT IT READS IS OF BULK AT MOST 1048576: true; the input reads as it did. -/
def shapeKeepsUptoRow : OpenClaim := { program := "ytpjbcplpdjobjaagreat", sum := "d452259b92eb33135e79b7e3704bd5aa2b0b72650eec97c8893395dacf3fcf22", func := "lode/lodelaw23.ShapeKeeps", spec := "shapeKeeps", unfollowed := true, recurses := true, apart := false, narrowed := true }
def ShapeKeepsUptoSaid : Prop := shapeKeepsUptoRow.holds Tryz.pinned (OpenSpec.upto shapeKeepsSpec)

/-- 'lodelaw23.ShapeAfter', WHERE WHAT IT READS IS OF BULK AT MOST 1048576: true; the input reads as it did. -/
def shapeAfterUptoRow : OpenClaim := { program := "ytpjbcplpdjobjaagreat", sum := "d452259b92eb33135e79b7e3704bd5aa2b0b72650eec97c8893395dacf3fcf22", func := "lode/lodelaw23.ShapeAfter", spec := "shapeAfter", unfollowed := true, recurses := true, apart := false, narrowed := true }
def ShapeAfterUptoSaid : Prop := shapeAfterUptoRow.holds Tryz.pinned (OpenSpec.upto shapeAfterSpec)

/-- 'lodelaw23.ShapeNone', WHERE WHAT IT READS IS OF BULK AT MOST 1048576: true; the input reads as it did. -/
def shapeNoneUptoRow : OpenClaim := { program := "ytpjbcplpdjobjaagreat", sum := "d452259b92eb33135e79b7e3704bd5aa2b0b72650eec97c8893395dacf3fcf22", func := "lode/lodelaw23.ShapeNone", spec := "shapeNone", unfollowed := true, recurses := true, apart := false, narrowed := true }
def ShapeNoneUptoSaid : Prop := shapeNoneUptoRow.holds Tryz.pinned (OpenSpec.upto shapeNoneSpec)

end Rows
end Go.Proofs.YtpjbcplpdjobjaaGreat
