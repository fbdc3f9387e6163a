/- The door seat's own texts: Itoa of a small number; what a storm's bytes mean. -/
import Derived.Test.YtpkcdkbbhiafnaaDoorGateX
namespace Go.Proofs.YtpkcdkbbhiafnaaDoor
set_option linter.unusedVariables false
set_option linter.unusedSimpArgs false
open Go.RowKit

/-- One digit, as a text. -/
def digitB (d : Nat) : ByteArray := ⟨#[UInt8.ofNat (48 + d)]⟩

set_option maxRecDepth 10000 in
set_option maxHeartbeats 4000000 in
theorem Itoa_any (d : Nat) (h : d < 3) (w : World) : Calls Tryd.prog 13 #[.int .i64 d] w fun e w' => e = .returned (.string (digitB d)) ∧ w = w' := by
  have hd : d = 0 ∨ d = 1 ∨ d = 2 := by omega
  have small : Calls Tryd.prog 49 #[.int .i64 d] w fun e w' => e = .returned (.string (digitB d)) ∧ w = w' := by
    rcases hd with rfl | rfl | rfl
    all_goals
      go_enter Tryd.func49, Tryd.ntmps49
      go_wp2_with fail
      go_ret
      exact ⟨rfl, rfl⟩
  have fmt : Calls Tryd.prog 43 #[.int .i64 d, .int .i64 10] w fun e w' => e = .returned (.string (digitB d)) ∧ w = w' := by
    go_enter Tryd.func43, Tryd.ntmps43
    go_wp2_with fail
    refine small.mono ?_
    rintro e w' ⟨rfl, rfl⟩
    go_wp2_with fail
    go_ret
    exact ⟨rfl, rfl⟩
  have itoa : Calls Tryd.prog 26 #[.int .i64 d] w fun e w' => e = .returned (.string (digitB d)) ∧ w = w' := by
    go_enter Tryd.func26, Tryd.ntmps26
    go_wp2_with fail
    refine fmt.mono ?_
    rintro e w' ⟨rfl, rfl⟩
    go_wp2_with fail
    go_ret
    exact ⟨rfl, rfl⟩
  go_enter Tryd.func13, Tryd.ntmps13
  go_wp2_with fail
  refine itoa.mono ?_
  rintro e w' ⟨rfl, rfl⟩
  go_wp2_with fail
  go_ret
  exact ⟨rfl, rfl⟩

/-! ### What a storm's bytes mean -/
structure StormS where
  out : List ActM
  put : List ByteArray
  inputs : Nat
def outB (d : Nat) : ByteArray := ⟨#[111, UInt8.ofNat (48 + d)]⟩
def inB (d : Nat) : ByteArray := ⟨#[105, UInt8.ofNat (48 + d)]⟩
def bare (k : UInt8) : ActM := ⟨k, 0, ByteArray.empty⟩
def StormS.step (s : StormS) (x : UInt8) : StormS :=
  if x.toNat % 8 ≤ 1 then
    if s.put.length = 50 then s else ⟨s.out ++ [⟨1, 0, outB (x.toNat / 8 % 3)⟩, bare 6], s.put ++ [outB (x.toNat / 8 % 3)], s.inputs⟩
  else if x.toNat % 8 = 5 then ⟨s.out ++ [⟨5, (s.inputs : Int) + ((x.toNat / 8 % 4 : Nat) : Int) - 2, inB (x.toNat / 8 % 3)⟩], s.put, s.inputs + 1⟩
  else if x.toNat % 8 = 2 then ⟨s.out ++ [bare 2], s.put, s.inputs⟩
  else if x.toNat % 8 = 3 then ⟨s.out ++ [bare 3], s.put, s.inputs⟩
  else if x.toNat % 8 = 4 then ⟨s.out ++ [bare 4], s.put, s.inputs⟩
  else if x.toNat % 8 = 6 then ⟨s.out ++ [bare 6], s.put, s.inputs⟩
  else ⟨s.out ++ [bare 7], s.put, s.inputs⟩
def StormS.zero : StormS := ⟨[], [], 0⟩
def stormM (l : List UInt8) : StormS := (l.take 90).foldl StormS.step .zero
end Go.Proofs.YtpkcdkbbhiafnaaDoor
