/-
  No cell of these rows narrows 'for every input' (looked for: loops, veiled, ifaces, maps, wideKeys, modest, calm, conditions, laid).
  DERIVED. THE GIVEN ROWS OF THIS SEAT. 7 by the template 'for every input the law returns true; each argument reads behind the call as it read before'; 0 by the template 'total and deterministic' (their statements: YthipkmmdjhpklaaTotals.lean).
  GIVEN WITH THE SEED: the statements are not yours to turn. If you find one false, say at which input.
  Laid BY PROGRAM, IN A SANDBOX (cutbox-rows.mjs): the forced cells as the released guide's own fill.sh prints them over the translation 97f60ddca290b279… (all of the seat's roots in one cut). By AI agents, Wed Nov 11 2026. No macro, syntax, notation, axiom, sorry.
-/
import Derived.Test.YthipkmmdjhpklaaChecked
import GoSem.Claim
import GoSem.ClaimJoined
import GoSem.ClaimMapViews
import Derived.JoinedTies
import Derived.KernelRfl
namespace Go.Proofs.Ythipkmmdjhpklaa
/- THE CELL 'sum', in the pinned program and in every row, IS THE sha256 OF THE DUMP (.gsa) THAT YthipkmmdjhpklaaProg.lean LOADS. Nothing in Lean hashes anything: it is a label: what it is worth is what the hold of that sum in a sandbox is worth. -/
noncomputable def Try.pinned : Pinned := { name := "ythipkmmdjhpklaa", sum := "97f60ddca290b279ff6add95e8a5d7aec421e4288defb97ef88a148f05bd1557", checked := Try.checked }
namespace Rows
def none {H : Type} : Left H := { results := [], args := [] }

/-- 'lodelaw15.HeapPlays': WHATEVER THE INPUT: true; the input reads as it did. -/
def heapPlaysSpec : ChangeSpec := { name := "heapPlays", fn := fun _ => fun
  | [d] => { results := [.lit (.bool true)], args := [d] }
  | _ => none }
def heapPlaysRow : OpenClaim := { program := "ythipkmmdjhpklaa", sum := "97f60ddca290b279ff6add95e8a5d7aec421e4288defb97ef88a148f05bd1557", func := "lode/lodelaw15.HeapPlays", spec := "heapPlays", unfollowed := true, recurses := true, apart := false }
def HeapPlaysSaid : Prop := heapPlaysRow.holds Try.pinned (OpenSpec.ofChange heapPlaysSpec)

/-- ITS FALSE NEIGHBOUR: 'it returns false'. Refute it at one input. -/
def heapPlaysWrong : ChangeSpec := { name := "heapPlays", fn := fun _ => fun
  | [d] => { results := [.lit (.bool false)], args := [d] }
  | _ => none }
def HeapPlaysWrongFalsely : Prop := heapPlaysRow.holds Try.pinned (OpenSpec.ofChange heapPlaysWrong)

/-- 'lodelaw15.HeapUnseen': WHATEVER THE INPUT: true; the input reads as it did. -/
def heapUnseenSpec : ChangeSpec := { name := "heapUnseen", fn := fun _ => fun
  | [d1, d2] => { results := [.lit (.bool true)], args := [d1, d2] }
  | _ => none }
def heapUnseenRow : OpenClaim := { program := "ythipkmmdjhpklaa", sum := "97f60ddca290b279ff6add95e8a5d7aec421e4288defb97ef88a148f05bd1557", func := "lode/lodelaw15.HeapUnseen", spec := "heapUnseen", unfollowed := true, recurses := true, apart := false }
def HeapUnseenSaid : Prop := heapUnseenRow.holds Try.pinned (OpenSpec.ofChange heapUnseenSpec)

/-- ITS FALSE NEIGHBOUR: 'it returns false'. Refute it at one input. -/
def heapUnseenWrong : ChangeSpec := { name := "heapUnseen", fn := fun _ => fun
  | [d1, d2] => { results := [.lit (.bool false)], args := [d1, d2] }
  | _ => none }
def HeapUnseenWrongFalsely : Prop := heapUnseenRow.holds Try.pinned (OpenSpec.ofChange heapUnseenWrong)

/-- 'lodelaw15.HeapRoom': WHATEVER THE INPUT: true; the input reads as it did. -/
def heapRoomSpec : ChangeSpec := { name := "heapRoom", fn := fun _ => fun
  | [d] => { results := [.lit (.bool true)], args := [d] }
  | _ => none }
def heapRoomRow : OpenClaim := { program := "ythipkmmdjhpklaa", sum := "97f60ddca290b279ff6add95e8a5d7aec421e4288defb97ef88a148f05bd1557", func := "lode/lodelaw15.HeapRoom", spec := "heapRoom", unfollowed := true, recurses := true, apart := false }
def HeapRoomSaid : Prop := heapRoomRow.holds Try.pinned (OpenSpec.ofChange heapRoomSpec)

/-- ITS FALSE NEIGHBOUR: 'it returns false'. Refute it at one input. -/
def heapRoomWrong : ChangeSpec := { name := "heapRoom", fn := fun _ => fun
  | [d] => { results := [.lit (.bool false)], args := [d] }
  | _ => none }
def HeapRoomWrongFalsely : Prop := heapRoomRow.holds Try.pinned (OpenSpec.ofChange heapRoomWrong)

/-- 'lodelaw15.HeapExact': WHATEVER THE INPUT: true; the input reads as it did. -/
def heapExactSpec : ChangeSpec := { name := "heapExact", fn := fun _ => fun
  | [d] => { results := [.lit (.bool true)], args := [d] }
  | _ => none }
def heapExactRow : OpenClaim := { program := "ythipkmmdjhpklaa", sum := "97f60ddca290b279ff6add95e8a5d7aec421e4288defb97ef88a148f05bd1557", func := "lode/lodelaw15.HeapExact", spec := "heapExact", unfollowed := true, recurses := true, apart := false }
def HeapExactSaid : Prop := heapExactRow.holds Try.pinned (OpenSpec.ofChange heapExactSpec)

/-- ITS FALSE NEIGHBOUR: 'it returns false'. Refute it at one input. -/
def heapExactWrong : ChangeSpec := { name := "heapExact", fn := fun _ => fun
  | [d] => { results := [.lit (.bool false)], args := [d] }
  | _ => none }
def HeapExactWrongFalsely : Prop := heapExactRow.holds Try.pinned (OpenSpec.ofChange heapExactWrong)

/-- 'lodelaw15.HeapFloats': WHATEVER THE INPUT: true; the input reads as it did. -/
def heapFloatsSpec : ChangeSpec := { name := "heapFloats", fn := fun _ => fun
  | [d1, d2] => { results := [.lit (.bool true)], args := [d1, d2] }
  | _ => none }
def heapFloatsRow : OpenClaim := { program := "ythipkmmdjhpklaa", sum := "97f60ddca290b279ff6add95e8a5d7aec421e4288defb97ef88a148f05bd1557", func := "lode/lodelaw15.HeapFloats", spec := "heapFloats", unfollowed := true, recurses := true, apart := false }
def HeapFloatsSaid : Prop := heapFloatsRow.holds Try.pinned (OpenSpec.ofChange heapFloatsSpec)

/-- ITS FALSE NEIGHBOUR: 'it returns false'. Refute it at one input. -/
def heapFloatsWrong : ChangeSpec := { name := "heapFloats", fn := fun _ => fun
  | [d1, d2] => { results := [.lit (.bool false)], args := [d1, d2] }
  | _ => none }
def HeapFloatsWrongFalsely : Prop := heapFloatsRow.holds Try.pinned (OpenSpec.ofChange heapFloatsWrong)

/-- 'lodelaw15.HeapEnds': WHATEVER THE INPUT: true; the input reads as it did. -/
def heapEndsSpec : ChangeSpec := { name := "heapEnds", fn := fun _ => fun
  | [d] => { results := [.lit (.bool true)], args := [d] }
  | _ => none }
def heapEndsRow : OpenClaim := { program := "ythipkmmdjhpklaa", sum := "97f60ddca290b279ff6add95e8a5d7aec421e4288defb97ef88a148f05bd1557", func := "lode/lodelaw15.HeapEnds", spec := "heapEnds", unfollowed := true, recurses := true, apart := false }
def HeapEndsSaid : Prop := heapEndsRow.holds Try.pinned (OpenSpec.ofChange heapEndsSpec)

/-- ITS FALSE NEIGHBOUR: 'it returns false'. Refute it at one input. -/
def heapEndsWrong : ChangeSpec := { name := "heapEnds", fn := fun _ => fun
  | [d] => { results := [.lit (.bool false)], args := [d] }
  | _ => none }
def HeapEndsWrongFalsely : Prop := heapEndsRow.holds Try.pinned (OpenSpec.ofChange heapEndsWrong)

/-- 'lodelaw15.HeapDoes': WHATEVER THE INPUT: true; the input reads as it did. -/
def heapDoesSpec : ChangeSpec := { name := "heapDoes", fn := fun _ => fun
  | [d1, d2] => { results := [.lit (.bool true)], args := [d1, d2] }
  | _ => none }
def heapDoesRow : OpenClaim := { program := "ythipkmmdjhpklaa", sum := "97f60ddca290b279ff6add95e8a5d7aec421e4288defb97ef88a148f05bd1557", func := "lode/lodelaw15.HeapDoes", spec := "heapDoes", unfollowed := true, recurses := true, apart := false }
def HeapDoesSaid : Prop := heapDoesRow.holds Try.pinned (OpenSpec.ofChange heapDoesSpec)

/-- ITS FALSE NEIGHBOUR: 'it returns false'. Refute it at one input. -/
def heapDoesWrong : ChangeSpec := { name := "heapDoes", fn := fun _ => fun
  | [d1, d2] => { results := [.lit (.bool false)], args := [d1, d2] }
  | _ => none }
def HeapDoesWrongFalsely : Prop := heapDoesRow.holds Try.pinned (OpenSpec.ofChange heapDoesWrong)

/- THE SECOND FORM. 'bulk': how many values and letters a reading holds, each counted each time it is reached (what is shared counts as often as it is met; a slice's spare places count too). A statement '..UptoSaid' is the law's where the arguments, and the package variables that the reading takes, are together of bulk at most 1048576: NARROWER than '..Said'. Prove '..Said' where nothing that the law and all that it calls make is longer than what came in: it says more and counts as full. Else prove '..UptoSaid'. A law counts once. -/
mutual
def uptoBulk {H : Type} : DataW H → Nat
  | .lit (.string bytes) => bytes.length + 1
  | .lit _ => 1
  | .nil => 1
  | .ptr d => uptoBulk d + 1
  | .slice elems spare => uptoBulkAll elems + uptoBulkAll spare + 1
  | .agg parts => uptoBulkAll parts + 1
  | .iface _ d => uptoBulk d + 1
  | .map entries => uptoBulkEntries entries + 1
  | .held _ => 1
def uptoBulkAll {H : Type} : List (DataW H) → Nat
  | [] => 0
  | d :: r => uptoBulk d + uptoBulkAll r
def uptoBulkEntries {H : Type} : List (Lit × DataW H) → Nat
  | [] => 0
  | x :: r => uptoBulkEntry x + uptoBulkEntries r
def uptoBulkEntry {H : Type} : Lit × DataW H → Nat
  | (.string bytes, d) => bytes.length + uptoBulk d + 1
  | (_, d) => uptoBulk d + 1
 end
def uptoSmall : (H : Type) → List (DataW H) → Bool := fun _ ds => decide (uptoBulkAll ds ≤ 1048576)
def OpenSpec.upto (s : _root_.Go.ChangeSpec) : _root_.Go.OpenSpec := { _root_.Go.OpenSpec.ofChange s with cond := some uptoSmall }

/-- 'lodelaw15.HeapPlays', WHERE WHAT IT READS IS OF BULK AT MOST 1048576: true; the input reads as it did. -/
def heapPlaysUptoRow : OpenClaim := { program := "ythipkmmdjhpklaa", sum := "97f60ddca290b279ff6add95e8a5d7aec421e4288defb97ef88a148f05bd1557", func := "lode/lodelaw15.HeapPlays", spec := "heapPlays", unfollowed := true, recurses := true, apart := false, narrowed := true }
def HeapPlaysUptoSaid : Prop := heapPlaysUptoRow.holds Try.pinned (OpenSpec.upto heapPlaysSpec)

/-- 'lodelaw15.HeapUnseen', WHERE WHAT IT READS IS OF BULK AT MOST 1048576: true; the input reads as it did. -/
def heapUnseenUptoRow : OpenClaim := { program := "ythipkmmdjhpklaa", sum := "97f60ddca290b279ff6add95e8a5d7aec421e4288defb97ef88a148f05bd1557", func := "lode/lodelaw15.HeapUnseen", spec := "heapUnseen", unfollowed := true, recurses := true, apart := false, narrowed := true }
def HeapUnseenUptoSaid : Prop := heapUnseenUptoRow.holds Try.pinned (OpenSpec.upto heapUnseenSpec)

/-- 'lodelaw15.HeapRoom', WHERE WHAT IT READS IS OF BULK AT MOST 1048576: true; the input reads as it did. -/
def heapRoomUptoRow : OpenClaim := { program := "ythipkmmdjhpklaa", sum := "97f60ddca290b279ff6add95e8a5d7aec421e4288defb97ef88a148f05bd1557", func := "lode/lodelaw15.HeapRoom", spec := "heapRoom", unfollowed := true, recurses := true, apart := false, narrowed := true }
def HeapRoomUptoSaid : Prop := heapRoomUptoRow.holds Try.pinned (OpenSpec.upto heapRoomSpec)

/-- 'lodelaw15.HeapExact', WHERE WHAT IT READS IS OF BULK AT MOST 1048576: true; the input reads as it did. -/
def heapExactUptoRow : OpenClaim := { program := "ythipkmmdjhpklaa", sum := "97f60ddca290b279ff6add95e8a5d7aec421e4288defb97ef88a148f05bd1557", func := "lode/lodelaw15.HeapExact", spec := "heapExact", unfollowed := true, recurses := true, apart := false, narrowed := true }
def HeapExactUptoSaid : Prop := heapExactUptoRow.holds Try.pinned (OpenSpec.upto heapExactSpec)

/-- 'lodelaw15.HeapFloats', WHERE WHAT IT READS IS OF BULK AT MOST 1048576: true; the input reads as it did. -/
def heapFloatsUptoRow : OpenClaim := { program := "ythipkmmdjhpklaa", sum := "97f60ddca290b279ff6add95e8a5d7aec421e4288defb97ef88a148f05bd1557", func := "lode/lodelaw15.HeapFloats", spec := "heapFloats", unfollowed := true, recurses := true, apart := false, narrowed := true }
def HeapFloatsUptoSaid : Prop := heapFloatsUptoRow.holds Try.pinned (OpenSpec.upto heapFloatsSpec)

/-- 'lodelaw15.HeapEnds', WHERE WHAT IT READS IS OF BULK AT MOST 1048576: true; the input reads as it did. -/
def heapEndsUptoRow : OpenClaim := { program := "ythipkmmdjhpklaa", sum := "97f60ddca290b279ff6add95e8a5d7aec421e4288defb97ef88a148f05bd1557", func := "lode/lodelaw15.HeapEnds", spec := "heapEnds", unfollowed := true, recurses := true, apart := false, narrowed := true }
def HeapEndsUptoSaid : Prop := heapEndsUptoRow.holds Try.pinned (OpenSpec.upto heapEndsSpec)

/-- 'lodelaw15.HeapDoes', WHERE WHAT IT READS IS OF BULK AT MOST 1048576: true; the input reads as it did. -/
def heapDoesUptoRow : OpenClaim := { program := "ythipkmmdjhpklaa", sum := "97f60ddca290b279ff6add95e8a5d7aec421e4288defb97ef88a148f05bd1557", func := "lode/lodelaw15.HeapDoes", spec := "heapDoes", unfollowed := true, recurses := true, apart := false, narrowed := true }
def HeapDoesUptoSaid : Prop := heapDoesUptoRow.holds Try.pinned (OpenSpec.upto heapDoesSpec)

end Rows
end Go.Proofs.Ythipkmmdjhpklaa
