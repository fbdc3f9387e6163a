/-
  No cell of these rows narrows 'for every input' (looked for: loops, veiled, ifaces, maps, wideKeys, modest, calm, conditions, laid).
  DERIVED. THE GIVEN ROWS OF THIS SEAT. 3 by the template 'for every input the law returns true; each argument reads behind the call as it read before'; 0 by the template 'total and deterministic' (their statements: YthomobhpgnfdlaaGreatTotals.lean).
  GIVEN WITH THE SEED: the statements are not yours to turn. If you find one false, say at which input.
  Laid BY PROGRAM, IN A SANDBOX (cutbox-rows.mjs): the forced cells as the released guide's own fill.sh prints them over the translation 041749b064dbbdd7… (all of the seat's roots in one cut). By AI agents, Wed Nov 11 2026. No macro, syntax, notation, axiom, sorry.
-/
import Derived.Test.YthomobhpgnfdlaaGreatChecked
import GoSem.Claim
import GoSem.ClaimJoined
import GoSem.ClaimMapViews
import Derived.JoinedTies
import Derived.KernelRfl
namespace Go.Proofs.YthomobhpgnfdlaaGreat
/- THE CELL 'sum', in the pinned program and in every row, IS THE sha256 OF THE DUMP (.gsa) THAT YthomobhpgnfdlaaGreatProg.lean LOADS. Nothing in Lean hashes anything: it is a label: what it is worth is what the hold of that sum in a sandbox is worth. -/
noncomputable def Tryz.pinned : Pinned := { name := "ythomobhpgnfdlaagreat", sum := "041749b064dbbdd765dc86d63c3ff4c099bfbc7b01d74563b4772301db31995d", checked := Tryz.checked }
namespace Rows
def none {H : Type} : Left H := { results := [], args := [] }

/-- 'lodelaw15.HeapBacks': WHATEVER THE INPUT: true; the input reads as it did. -/
def heapBacksSpec : ChangeSpec := { name := "heapBacks", fn := fun _ => fun
  | [d1, d2, d3] => { results := [.lit (.bool true)], args := [d1, d2, d3] }
  | _ => none }
def heapBacksRow : OpenClaim := { program := "ythomobhpgnfdlaagreat", sum := "041749b064dbbdd765dc86d63c3ff4c099bfbc7b01d74563b4772301db31995d", func := "lode/lodelaw15.HeapBacks", spec := "heapBacks", unfollowed := true, recurses := true, apart := false }
def HeapBacksSaid : Prop := heapBacksRow.holds Tryz.pinned (OpenSpec.ofChange heapBacksSpec)

/-- ITS FALSE NEIGHBOUR: 'it returns false'. Refute it at one input. -/
def heapBacksWrong : ChangeSpec := { name := "heapBacks", fn := fun _ => fun
  | [d1, d2, d3] => { results := [.lit (.bool false)], args := [d1, d2, d3] }
  | _ => none }
def HeapBacksWrongFalsely : Prop := heapBacksRow.holds Tryz.pinned (OpenSpec.ofChange heapBacksWrong)

/-- 'lodelaw15.HeapNames': WHATEVER THE INPUT: true; the input reads as it did. -/
def heapNamesSpec : ChangeSpec := { name := "heapNames", fn := fun _ => fun
  | [] => { results := [.lit (.bool true)], args := [] }
  | _ => none }
def heapNamesRow : OpenClaim := { program := "ythomobhpgnfdlaagreat", sum := "041749b064dbbdd765dc86d63c3ff4c099bfbc7b01d74563b4772301db31995d", func := "lode/lodelaw15.HeapNames", spec := "heapNames", unfollowed := true, recurses := true, apart := false }
def HeapNamesSaid : Prop := heapNamesRow.holds Tryz.pinned (OpenSpec.ofChange heapNamesSpec)

/-- ITS FALSE NEIGHBOUR: 'it returns false'. Refute it at one input. -/
def heapNamesWrong : ChangeSpec := { name := "heapNames", fn := fun _ => fun
  | [] => { results := [.lit (.bool false)], args := [] }
  | _ => none }
def HeapNamesWrongFalsely : Prop := heapNamesRow.holds Tryz.pinned (OpenSpec.ofChange heapNamesWrong)

/-- 'lodelaw15.HeapLoads': WHATEVER THE INPUT: true; the input reads as it did. -/
def heapLoadsSpec : ChangeSpec := { name := "heapLoads", fn := fun _ => fun
  | [d1, d2] => { results := [.lit (.bool true)], args := [d1, d2] }
  | _ => none }
def heapLoadsRow : OpenClaim := { program := "ythomobhpgnfdlaagreat", sum := "041749b064dbbdd765dc86d63c3ff4c099bfbc7b01d74563b4772301db31995d", func := "lode/lodelaw15.HeapLoads", spec := "heapLoads", unfollowed := true, recurses := true, apart := false }
def HeapLoadsSaid : Prop := heapLoadsRow.holds Tryz.pinned (OpenSpec.ofChange heapLoadsSpec)

/-- ITS FALSE NEIGHBOUR: 'it returns false'. Refute it at one input. -/
def heapLoadsWrong : ChangeSpec := { name := "heapLoads", fn := fun _ => fun
  | [d1, d2] => { results := [.lit (.bool false)], args := [d1, d2] }
  | _ => none }
def HeapLoadsWrongFalsely : Prop := heapLoadsRow.holds Tryz.pinned (OpenSpec.ofChange heapLoadsWrong)

/- THE SECOND FORM. 'bulk': how many values and letters a reading holds, each counted each time it is reached (what is shared counts as often as it is met; a slice's spare places count too). A statement '..UptoSaid' is the law's where the arguments, and the package variables that the reading takes, are together of bulk at most 1048576: NARROWER than '..Said'. Prove '..Said' where nothing that the law and all that it calls make is longer than what came in: it says more and counts as full. Else prove '..UptoSaid'. A law counts once. -/
mutual
def uptoBulk {H : Type} : DataW H → Nat
  | .lit (.string bytes) => bytes.length + 1
  | .lit _ => 1
  | .nil => 1
  | .ptr d => uptoBulk d + 1
  | .slice elems spare => uptoBulkAll elems + uptoBulkAll spare + 1
  | .agg parts => uptoBulkAll parts + 1
  | .iface _ d => uptoBulk d + 1
  | .map entries => uptoBulkEntries entries + 1
  | .held _ => 1
def uptoBulkAll {H : Type} : List (DataW H) → Nat
  | [] => 0
  | d :: r => uptoBulk d + uptoBulkAll r
def uptoBulkEntries {H : Type} : List (Lit × DataW H) → Nat
  | [] => 0
  | x :: r => uptoBulkEntry x + uptoBulkEntries r
def uptoBulkEntry {H : Type} : Lit × DataW H → Nat
  | (.string bytes, d) => bytes.length + uptoBulk d + 1
  | (_, d) => uptoBulk d + 1
 end
def uptoSmall : (H : Type) → List (DataW H) → Bool := fun _ ds => decide (uptoBulkAll ds ≤ 1048576)
def OpenSpec.upto (s : _root_.Go.ChangeSpec) : _root_.Go.OpenSpec := { _root_.Go.OpenSpec.ofChange s with cond := some uptoSmall }

/-- 'lodelaw15.HeapBacks', WHERE WHAT IT READS IS OF BULK AT MOST 1048576: true; the input reads as it did. -/
def heapBacksUptoRow : OpenClaim := { program := "ythomobhpgnfdlaagreat", sum := "041749b064dbbdd765dc86d63c3ff4c099bfbc7b01d74563b4772301db31995d", func := "lode/lodelaw15.HeapBacks", spec := "heapBacks", unfollowed := true, recurses := true, apart := false, narrowed := true }
def HeapBacksUptoSaid : Prop := heapBacksUptoRow.holds Tryz.pinned (OpenSpec.upto heapBacksSpec)

/-- 'lodelaw15.HeapNames', WHERE WHAT IT READS IS OF BULK AT MOST 1048576: true; the input reads as it did. -/
def heapNamesUptoRow : OpenClaim := { program := "ythomobhpgnfdlaagreat", sum := "041749b064dbbdd765dc86d63c3ff4c099bfbc7b01d74563b4772301db31995d", func := "lode/lodelaw15.HeapNames", spec := "heapNames", unfollowed := true, recurses := true, apart := false, narrowed := true }
def HeapNamesUptoSaid : Prop := heapNamesUptoRow.holds Tryz.pinned (OpenSpec.upto heapNamesSpec)

/-- 'lodelaw15.HeapLoads', WHERE WHAT IT READS IS OF BULK AT MOST 1048576: true; the input reads as it did. -/
def heapLoadsUptoRow : OpenClaim := { program := "ythomobhpgnfdlaagreat", sum := "041749b064dbbdd765dc86d63c3ff4c099bfbc7b01d74563b4772301db31995d", func := "lode/lodelaw15.HeapLoads", spec := "heapLoads", unfollowed := true, recurses := true, apart := false, narrowed := true }
def HeapLoadsUptoSaid : Prop := heapLoadsUptoRow.holds Tryz.pinned (OpenSpec.upto heapLoadsSpec)

end Rows
end Go.Proofs.YthomobhpgnfdlaaGreat
