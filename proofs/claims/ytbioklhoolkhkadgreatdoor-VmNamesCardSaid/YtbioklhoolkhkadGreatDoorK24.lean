/- A call evaluated ahead, in pieces (Vr): piece 13. A call evaluated ahead, in pieces (Vr): piece 14. The call of vm's run whose fuel is out, evaluated ahead. A closed call in pieces (Av): what there is between them. A closed call in pieces (Av): the table. -/
import Derived.Test.YtbioklhoolkhkadGreatDoorK11
import Derived.KernelRfl
import Derived.Test.YtbioklhoolkhkadGreatDoorK08
import Derived.Test.YtbioklhoolkhkadGreatDoorK12
import Derived.Test.YtbioklhoolkhkadGreatDoorK13
import Derived.Test.YtbioklhoolkhkadGreatDoorK14
import Derived.Test.YtbioklhoolkhkadGreatDoorK15
import Derived.Test.YtbioklhoolkhkadGreatDoorK16
import Derived.Test.YtbioklhoolkhkadGreatDoorK17
import Derived.Test.YtbioklhoolkhkadGreatDoorK18
import Derived.Test.YtbioklhoolkhkadGreatDoorK19
import Derived.Test.YtbioklhoolkhkadGreatDoorK20
import Derived.Test.YtbioklhoolkhkadGreatDoorK21
import Derived.Test.YtbioklhoolkhkadGreatDoorK22
import Derived.Test.YtbioklhoolkhkadGreatDoorK23
import Derived.Test.YtbioklhoolkhkadGreatDoorK09
import Derived.Test.YtbioklhoolkhkadGreatDoorProg
namespace Go.Proofs.YtbioklhoolkhkadGreatDoor
set_option linter.unusedVariables false
set_option maxRecDepth 100000
open Go
theorem Vr_13 : pieceX VrEnv 1000000 65 (flatC VrRound) VrT13 VrB13 3412 (.exit 0) VrT14 VrB14 3412 = true := by kernel_rfl
end Go.Proofs.YtbioklhoolkhkadGreatDoor
namespace Go.Proofs.YtbioklhoolkhkadGreatDoor
set_option linter.unusedVariables false
set_option maxRecDepth 100000
open Go
theorem Vr_14 : pieceX VrEnv 1000000 65 (dpL (flatC (bodyOf Tryz.f59)) 5) VrT14 VrB14 3412 .ret VrT15 VrB15 3412 = true := by kernel_rfl
end Go.Proofs.YtbioklhoolkhkadGreatDoor
namespace Go.Proofs.YtbioklhoolkhkadGreatDoor
set_option linter.unusedVariables false
set_option linter.unusedSimpArgs false
open Go.ChangeShapes Go.WideShapes Go.ChangeAt Go.RowKit Go.Joins Go.Deep

theorem vn_eq1 : EqOK Tryz.prog 314 (List.replicate 4 (.int .i64)) := by
  obtain ⟨i, hi⟩ : ∃ i, Tryz.prog.info? 149 = some i := Option.isSome_iff_exists.1 (by kernel_rfl)
  exact eqOK_arr (e := 149) (dd := .int .u64) (by kernel_rfl) hi (by kernel_rfl) (by kernel_rfl) (by kernel_rfl) (by kernel_rfl)
theorem vn_eq2 : EqOK Tryz.prog 84 [.int .i64, .int .i64, .string] := eqOK_of (by kernel_rfl) (by kernel_rfl) (by kernel_rfl) (by kernel_rfl)
theorem vn_eq3 : EqOK Tryz.prog 69 [.int .i64, .int .i64, .string] := eqOK_of (by kernel_rfl) (by kernel_rfl) (by kernel_rfl) (by kernel_rfl)
theorem vn_eqs : ∀ e ∈ [((314 : Nat), [TK.int .i64, .int .i64, .int .i64, .int .i64]), (84, [.int .i64, .int .i64, .string]), (69, [.int .i64, .int .i64, .string])], EqOK Tryz.prog e.1 e.2 := fun e he => by
  simp only [List.mem_cons, List.not_mem_nil, or_false] at he
  rcases he with rfl | rfl | rfl
  · exact vn_eq1
  · exact vn_eq2
  · exact vn_eq3
theorem vr_env : EnvOK Tryz.prog VrEnv := env_ok names_ok vn_eqs (fun f x h => by
    simp only [treeOf, Tree.get_leaf] at h
    cases h) fun c hc => by cases hc
theorem vr_lit : LitOK Tryz.prog VrLit := by
  have h0 := pieceX_ok vr_env (draw_ok follows_ok vr_env) Vr_0
  have h1 := pieceX_ok vr_env (draw_ok follows_ok vr_env) Vr_1
  have h2 := pieceX_ok vr_env (draw_ok follows_ok vr_env) Vr_2
  have h3 := pieceX_ok vr_env (draw_ok follows_ok vr_env) Vr_3
  have h4 := pieceX_ok vr_env (draw_ok follows_ok vr_env) Vr_4
  have h5 := pieceX_ok vr_env (draw_ok follows_ok vr_env) Vr_5
  have h6 := pieceX_ok vr_env (draw_ok follows_ok vr_env) Vr_6
  have h7 := pieceX_ok vr_env (draw_ok follows_ok vr_env) Vr_7
  have h8 := pieceX_ok vr_env (draw_ok follows_ok vr_env) Vr_8
  have h9 := pieceX_ok vr_env (draw_ok follows_ok vr_env) Vr_9
  have h10 := pieceX_ok vr_env (draw_ok follows_ok vr_env) Vr_10
  have h11 := pieceX_ok vr_env (draw_ok follows_ok vr_env) Vr_11
  have h12 := pieceX_ok vr_env (draw_ok follows_ok vr_env) Vr_12
  have h13 := pieceX_ok vr_env (draw_ok follows_ok vr_env) Vr_13
  have h14 := pieceX_ok vr_env (draw_ok follows_ok vr_env) Vr_14
  have l := LoopOK.last h13 (by simp)
  have l := LoopOK.rounds h12 l
  have l := LoopOK.rounds h11 l
  have l := LoopOK.rounds h10 l
  have l := LoopOK.rounds h9 l
  have l := LoopOK.rounds h8 l
  have l := LoopOK.rounds h7 l
  have l := LoopOK.rounds h6 l
  have l := LoopOK.rounds h5 l
  have l := LoopOK.rounds h4 l
  have l := LoopOK.rounds h3 l
  have l := LoopOK.rounds h2 l
  have l := LoopOK.rounds h1 l
  have hb := l.block
  have e : flatC (bodyOf Tryz.f59) = tkL (flatC (bodyOf Tryz.f59)) 4 ++ ([.block 0 (.loop VrRound)] ++ dpL (flatC (bodyOf Tryz.f59)) 5) := by kernel_rfl
  have h := (h0.from (a := laidA (VrLit.fst ++ (VrLit.xs ++ VrLit.caps)) 0 .leaf) (by kernel_rfl)).append (hb.append h14)
  rw [← e] at h
  exact lit_of_piece vr_env Tryz.func59 (by kernel_rfl) (by kernel_rfl) (by kernel_rfl) h (.inr rfl) (l := [.p 1583 0]) (by kernel_rfl) (by kernel_rfl)
end Go.Proofs.YtbioklhoolkhkadGreatDoor
namespace Go.Proofs.YtbioklhoolkhkadGreatDoor
set_option linter.unusedVariables false
set_option maxRecDepth 100000
open Go
def AvLits : List LitC := []
def AvT0 : List (Nat × AV) := []
def AvB0 : List (Nat × Blk) := []
def AvT1 : List (Nat × AV) := [(2, .i .i64 (.ofNat 0)), (1, .p 1649 0), (0, .b false)]
def AvB1 : List (Nat × Blk) := [(336, .cells 9 [.s [110]]),
  (356, .cells 3 [.i .i64 (.ofNat 2)]),
  (371, .cells 3 [.i .i64 (.ofNat 0)]),
  (377, .cells 3 [.i .i64 (.ofNat 3)]),
  (394, .cells 3 [.i .i64 (.ofNat 0)]),
  (400, .cells 3 [.i .i64 (.ofNat 3)]),
  (430, .cells 3 [.i .i64 (.ofNat 2)]),
  (435, .cells 3 [.i .i64 (.ofNat 1)]),
  (439, .cells 32 [.i .u8 (.ofNat 4), .i .i64 (.ofNat 0), .ns, .i .i64 (.ofNat 0), .i .i64 (.ofNat 0), .s [], .ns, .ns, .i .u8 (.ofNat 33), .i .i64 (.ofNat 2), .ns, .i .i64 (.ofNat 0), .i .i64 (.ofNat 0), .s [], .ns, .ns, .i .u8 (.ofNat 60), .i .i64 (.ofNat 0), .sl 356 0 1 1 true 1, .i .i64 (.ofNat 0), .i .i64 (.ofNat 0), .s [], .ns, .ns, .i .u8 (.ofNat 60), .i .i64 (.ofNat 3), .sl 371 0 1 1 true 1, .i .i64 (.ofNat 0), .i .i64 (.ofNat 0), .s [], .ns, .ns, .i .u8 (.ofNat 32), .i .i64 (.negSucc 0), .sl 377 0 1 1 false 1, .i .i64 (.ofNat 0), .i .i64 (.ofNat 0), .s [], .ns, .ns, .i .u8 (.ofNat 4), .i .i64 (.ofNat 2), .ns, .i .i64 (.ofNat 0), .i .i64 (.ofNat 0), .s [], .ns, .ns, .i .u8 (.ofNat 60), .i .i64 (.ofNat 3), .sl 394 0 1 1 true 1, .i .i64 (.ofNat 0), .i .i64 (.ofNat 0), .s [], .ns, .ns, .i .u8 (.ofNat 38), .i .i64 (.negSucc 0), .sl 400 0 1 1 false 1, .i .i64 (.ofNat 0), .i .i64 (.ofNat 0), .s [110], .ns, .ns, .i .u8 (.ofNat 4), .i .i64 (.ofNat 2), .ns, .i .i64 (.ofNat 0), .i .i64 (.ofNat 0), .s [], .ns, .ns, .i .u8 (.ofNat 31), .i .i64 (.negSucc 0), .ns, .i .i64 (.ofNat 0), .i .i64 (.ofNat 0), .s [], .ns, .ns, .i .u8 (.ofNat 4), .i .i64 (.ofNat 2), .ns, .i .i64 (.ofNat 0), .i .i64 (.ofNat 0), .s [], .ns, .ns, .i .u8 (.ofNat 3), .i .i64 (.ofNat 2), .ns, .i .i64 (.ofNat 0), .i .i64 (.ofNat 0), .s [120], .ns, .ns, .i .u8 (.ofNat 21), .i .i64 (.negSucc 0), .sl 430 0 1 1 true 1, .i .i64 (.ofNat 0), .i .i64 (.ofNat 0), .s [], .ns, .ns, .i .u8 (.ofNat 69), .i .i64 (.negSucc 0), .sl 435 0 1 1 true 1, .i .i64 (.ofNat 0), .i .i64 (.ofNat 0), .s [], .ns, .ns]),
  (459, .cells 3 [.i .i64 (.ofNat 1)]),
  (464, .cells 3 [.i .i64 (.ofNat 0)]),
  (468, .cells 32 [.i .u8 (.ofNat 11), .i .i64 (.ofNat 1), .ns, .i .i64 (.ofNat 0), .i .i64 (.ofNat 0), .s [109, 97, 105, 110], .ns, .ns, .i .u8 (.ofNat 13), .i .i64 (.ofNat 0), .sl 459 0 1 1 false 1, .i .i64 (.ofNat 0), .i .i64 (.ofNat 0), .s [], .ns, .ns, .i .u8 (.ofNat 69), .i .i64 (.negSucc 0), .sl 464 0 1 1 true 1, .i .i64 (.ofNat 0), .i .i64 (.ofNat 0), .s [], .ns, .ns]),
  (470, .cells 35 [.s [109, 97, 105, 110], .i .i64 (.ofNat 0), .i .i64 (.ofNat 4), .sl 439 0 14 14 false 8, .s [115, 116, 97, 114, 116], .i .i64 (.ofNat 0), .i .i64 (.ofNat 2), .sl 468 0 3 3 false 8]),
  (1649, .cells 27 [.ns, .ns, .sl 336 0 1 1 false 1, .sl 470 0 2 2 false 4])]
def AvT2 : List (Nat × AV) := [(2, .i .i64 (.ofNat 0)), (1, .p 1649 0), (4, .i .i64 (.ofNat 0)), (3, .sl 3029 0 4 4 false 1), (0, .b false)]
def AvB2 : List (Nat × Blk) := [(336, .cells 9 [.s [110]]),
  (356, .cells 3 [.i .i64 (.ofNat 2)]),
  (371, .cells 3 [.i .i64 (.ofNat 0)]),
  (377, .cells 3 [.i .i64 (.ofNat 3)]),
  (394, .cells 3 [.i .i64 (.ofNat 0)]),
  (400, .cells 3 [.i .i64 (.ofNat 3)]),
  (430, .cells 3 [.i .i64 (.ofNat 2)]),
  (435, .cells 3 [.i .i64 (.ofNat 1)]),
  (439, .cells 32 [.i .u8 (.ofNat 4), .i .i64 (.ofNat 0), .ns, .i .i64 (.ofNat 0), .i .i64 (.ofNat 0), .s [], .ns, .ns, .i .u8 (.ofNat 33), .i .i64 (.ofNat 2), .ns, .i .i64 (.ofNat 0), .i .i64 (.ofNat 0), .s [], .ns, .ns, .i .u8 (.ofNat 60), .i .i64 (.ofNat 0), .sl 356 0 1 1 true 1, .i .i64 (.ofNat 0), .i .i64 (.ofNat 0), .s [], .ns, .ns, .i .u8 (.ofNat 60), .i .i64 (.ofNat 3), .sl 371 0 1 1 true 1, .i .i64 (.ofNat 0), .i .i64 (.ofNat 0), .s [], .ns, .ns, .i .u8 (.ofNat 32), .i .i64 (.negSucc 0), .sl 377 0 1 1 false 1, .i .i64 (.ofNat 0), .i .i64 (.ofNat 0), .s [], .ns, .ns, .i .u8 (.ofNat 4), .i .i64 (.ofNat 2), .ns, .i .i64 (.ofNat 0), .i .i64 (.ofNat 0), .s [], .ns, .ns, .i .u8 (.ofNat 60), .i .i64 (.ofNat 3), .sl 394 0 1 1 true 1, .i .i64 (.ofNat 0), .i .i64 (.ofNat 0), .s [], .ns, .ns, .i .u8 (.ofNat 38), .i .i64 (.negSucc 0), .sl 400 0 1 1 false 1, .i .i64 (.ofNat 0), .i .i64 (.ofNat 0), .s [110], .ns, .ns, .i .u8 (.ofNat 4), .i .i64 (.ofNat 2), .ns, .i .i64 (.ofNat 0), .i .i64 (.ofNat 0), .s [], .ns, .ns, .i .u8 (.ofNat 31), .i .i64 (.negSucc 0), .ns, .i .i64 (.ofNat 0), .i .i64 (.ofNat 0), .s [], .ns, .ns, .i .u8 (.ofNat 4), .i .i64 (.ofNat 2), .ns, .i .i64 (.ofNat 0), .i .i64 (.ofNat 0), .s [], .ns, .ns, .i .u8 (.ofNat 3), .i .i64 (.ofNat 2), .ns, .i .i64 (.ofNat 0), .i .i64 (.ofNat 0), .s [120], .ns, .ns, .i .u8 (.ofNat 21), .i .i64 (.negSucc 0), .sl 430 0 1 1 true 1, .i .i64 (.ofNat 0), .i .i64 (.ofNat 0), .s [], .ns, .ns, .i .u8 (.ofNat 69), .i .i64 (.negSucc 0), .sl 435 0 1 1 true 1, .i .i64 (.ofNat 0), .i .i64 (.ofNat 0), .s [], .ns, .ns]),
  (459, .cells 3 [.i .i64 (.ofNat 1)]),
  (464, .cells 3 [.i .i64 (.ofNat 0)]),
  (468, .cells 32 [.i .u8 (.ofNat 11), .i .i64 (.ofNat 1), .ns, .i .i64 (.ofNat 0), .i .i64 (.ofNat 0), .s [109, 97, 105, 110], .ns, .ns, .i .u8 (.ofNat 13), .i .i64 (.ofNat 0), .sl 459 0 1 1 false 1, .i .i64 (.ofNat 0), .i .i64 (.ofNat 0), .s [], .ns, .ns, .i .u8 (.ofNat 69), .i .i64 (.negSucc 0), .sl 464 0 1 1 true 1, .i .i64 (.ofNat 0), .i .i64 (.ofNat 0), .s [], .ns, .ns]),
  (470, .cells 35 [.s [109, 97, 105, 110], .i .i64 (.ofNat 0), .i .i64 (.ofNat 4), .sl 439 0 14 14 false 8, .s [115, 116, 97, 114, 116], .i .i64 (.ofNat 0), .i .i64 (.ofNat 2), .sl 468 0 3 3 false 8]),
  (1649, .cells 27 [.ns, .ns, .sl 336 0 1 1 false 1, .sl 470 0 2 2 false 4]),
  (2930, .cells 69 [.i .u8 (.ofNat 4), .i .i64 (.ofNat 0), .s []]),
  (2997, .cells 69 [.i .u8 (.ofNat 2), .i .i64 (.ofNat 0), .s [97], .i .u8 (.ofNat 1), .i .i64 (.ofNat 0), .s [97], .i .u8 (.ofNat 5), .i .i64 (.ofNat 0), .s []]),
  (3024, .cells 69 [.i .u8 (.ofNat 7), .i .i64 (.ofNat 0), .s [120]]),
  (3029, .cells 53 [.sl 2930 0 1 1 false 3, .sl 2997 0 3 3 false 3, .sl 3024 0 1 1 false 3, .ns])]
def AvT3 : List (Nat × AV) := [(8, .p 4465 0), (3, .sl 3029 0 4 4 false 1), (7, .sl 4455 0 4 4 true 1), (5, .p 4380 0), (0, .b false)]
def AvB3 : List (Nat × Blk) := [(2930, .cells 69 [.i .u8 (.ofNat 4), .i .i64 (.ofNat 0), .s []]),
  (2997, .cells 69 [.i .u8 (.ofNat 2), .i .i64 (.ofNat 0), .s [97], .i .u8 (.ofNat 1), .i .i64 (.ofNat 0), .s [97], .i .u8 (.ofNat 5), .i .i64 (.ofNat 0), .s []]),
  (3024, .cells 69 [.i .u8 (.ofNat 7), .i .i64 (.ofNat 0), .s [120]]),
  (3029, .cells 53 [.sl 2930 0 1 1 false 3, .sl 2997 0 3 3 false 3, .sl 3024 0 1 1 false 3, .ns]),
  (4257, .cells 84 [.i .u8 (.ofNat 0), .i .i64 (.ofNat 0), .s [], .i .u8 (.ofNat 4), .i .i64 (.ofNat 0), .s [109, 97, 105, 110]]),
  (4261, .cells 84 [.i .u8 (.ofNat 3), .i .i64 (.ofNat 0), .s [97]]),
  (4263, .cells 95 [.i .i64 (.ofNat 0), .sl 4296 0 2 2 false 4]),
  (4292, .cells 84 [.i .u8 (.ofNat 3), .i .i64 (.ofNat 0), .s [97], .i .u8 (.ofNat 0), .i .i64 (.ofNat 0), .s [], .i .u8 (.ofNat 0), .i .i64 (.ofNat 0), .s [], .i .u8 (.ofNat 3), .i .i64 (.ofNat 0), .s [97]]),
  (4296, .cells 99 [.s [115, 116, 97, 114, 116], .i .i64 (.ofNat 1), .sl 4257 0 2 2 false 3, .ns, .s [109, 97, 105, 110], .i .i64 (.ofNat 10), .sl 4292 0 4 4 false 3, .ns]),
  (4380, .cells 41 [.i .i64 (.ofNat 1), .sl 4263 0 1 1 true 2, .sl 4261 0 1 1 true 3, .ns]),
  (4452, .cells 69 [.i .u8 (.ofNat 4), .i .i64 (.ofNat 0), .s []]),
  (4453, .cells 69 [.i .u8 (.ofNat 2), .i .i64 (.ofNat 0), .s [97], .i .u8 (.ofNat 1), .i .i64 (.ofNat 0), .s [97], .i .u8 (.ofNat 5), .i .i64 (.ofNat 0), .s []]),
  (4454, .cells 69 [.i .u8 (.ofNat 7), .i .i64 (.ofNat 0), .s [120]]),
  (4455, .cells 53 [.sl 4452 0 1 1 true 3, .sl 4453 0 3 3 true 3, .sl 4454 0 1 1 true 3, .ns]),
  (4457, .cells 84 [.i .u8 (.ofNat 0), .i .i64 (.ofNat 0), .s [], .i .u8 (.ofNat 4), .i .i64 (.ofNat 0), .s [109, 97, 105, 110]]),
  (4460, .cells 84 [.i .u8 (.ofNat 3), .i .i64 (.ofNat 0), .s [97], .i .u8 (.ofNat 0), .i .i64 (.ofNat 0), .s [], .i .u8 (.ofNat 0), .i .i64 (.ofNat 0), .s [], .i .u8 (.ofNat 3), .i .i64 (.ofNat 0), .s [97]]),
  (4461, .cells 99 [.s [115, 116, 97, 114, 116], .i .i64 (.ofNat 1), .sl 4457 0 2 2 true 3, .ns, .s [109, 97, 105, 110], .i .i64 (.ofNat 10), .sl 4460 0 4 4 true 3, .ns]),
  (4462, .cells 95 [.i .i64 (.ofNat 0), .sl 4461 0 2 2 true 4]),
  (4464, .cells 84 [.i .u8 (.ofNat 3), .i .i64 (.ofNat 0), .s [97]]),
  (4465, .cells 41 [.i .i64 (.ofNat 1), .sl 4462 0 1 1 true 2, .sl 4464 0 1 1 true 3, .ns])]
def AvT4 : List (Nat × AV) := [(9, .sl 5864 0 32 32 false 1), (3, .sl 3029 0 4 4 false 1), (7, .sl 4455 0 4 4 true 1), (5, .p 4380 0), (8, .p 4465 0), (10, .i .i64 (.ofNat 0)), (0, .b false)]
def AvB4 : List (Nat × Blk) := [(2930, .cells 69 [.i .u8 (.ofNat 4), .i .i64 (.ofNat 0), .s []]),
  (2997, .cells 69 [.i .u8 (.ofNat 2), .i .i64 (.ofNat 0), .s [97], .i .u8 (.ofNat 1), .i .i64 (.ofNat 0), .s [97], .i .u8 (.ofNat 5), .i .i64 (.ofNat 0), .s []]),
  (3024, .cells 69 [.i .u8 (.ofNat 7), .i .i64 (.ofNat 0), .s [120]]),
  (3029, .cells 53 [.sl 2930 0 1 1 false 3, .sl 2997 0 3 3 false 3, .sl 3024 0 1 1 false 3, .ns]),
  (4257, .cells 84 [.i .u8 (.ofNat 0), .i .i64 (.ofNat 0), .s [], .i .u8 (.ofNat 4), .i .i64 (.ofNat 0), .s [109, 97, 105, 110]]),
  (4261, .cells 84 [.i .u8 (.ofNat 3), .i .i64 (.ofNat 0), .s [97]]),
  (4263, .cells 95 [.i .i64 (.ofNat 0), .sl 4296 0 2 2 false 4]),
  (4292, .cells 84 [.i .u8 (.ofNat 3), .i .i64 (.ofNat 0), .s [97], .i .u8 (.ofNat 0), .i .i64 (.ofNat 0), .s [], .i .u8 (.ofNat 0), .i .i64 (.ofNat 0), .s [], .i .u8 (.ofNat 3), .i .i64 (.ofNat 0), .s [97]]),
  (4296, .cells 99 [.s [115, 116, 97, 114, 116], .i .i64 (.ofNat 1), .sl 4257 0 2 2 false 3, .ns, .s [109, 97, 105, 110], .i .i64 (.ofNat 10), .sl 4292 0 4 4 false 3, .ns]),
  (4380, .cells 41 [.i .i64 (.ofNat 1), .sl 4263 0 1 1 true 2, .sl 4261 0 1 1 true 3, .ns]),
  (4452, .cells 69 [.i .u8 (.ofNat 4), .i .i64 (.ofNat 0), .s []]),
  (4453, .cells 69 [.i .u8 (.ofNat 2), .i .i64 (.ofNat 0), .s [97], .i .u8 (.ofNat 1), .i .i64 (.ofNat 0), .s [97], .i .u8 (.ofNat 5), .i .i64 (.ofNat 0), .s []]),
  (4454, .cells 69 [.i .u8 (.ofNat 7), .i .i64 (.ofNat 0), .s [120]]),
  (4455, .cells 53 [.sl 4452 0 1 1 true 3, .sl 4453 0 3 3 true 3, .sl 4454 0 1 1 true 3, .ns]),
  (4457, .cells 84 [.i .u8 (.ofNat 0), .i .i64 (.ofNat 0), .s [], .i .u8 (.ofNat 4), .i .i64 (.ofNat 0), .s [109, 97, 105, 110]]),
  (4460, .cells 84 [.i .u8 (.ofNat 3), .i .i64 (.ofNat 0), .s [97], .i .u8 (.ofNat 0), .i .i64 (.ofNat 0), .s [], .i .u8 (.ofNat 0), .i .i64 (.ofNat 0), .s [], .i .u8 (.ofNat 3), .i .i64 (.ofNat 0), .s [97]]),
  (4461, .cells 99 [.s [115, 116, 97, 114, 116], .i .i64 (.ofNat 1), .sl 4457 0 2 2 true 3, .ns, .s [109, 97, 105, 110], .i .i64 (.ofNat 10), .sl 4460 0 4 4 true 3, .ns]),
  (4462, .cells 95 [.i .i64 (.ofNat 0), .sl 4461 0 2 2 true 4]),
  (4464, .cells 84 [.i .u8 (.ofNat 3), .i .i64 (.ofNat 0), .s [97]]),
  (4465, .cells 41 [.i .i64 (.ofNat 1), .sl 4462 0 1 1 true 2, .sl 4464 0 1 1 true 3, .ns]),
  (5864, .cells 5 [.i .u8 (.ofNat 83), .i .u8 (.ofNat 49), .i .u8 (.ofNat 1), .i .u8 (.ofNat 1), .i .u8 (.ofNat 3), .i .u8 (.ofNat 1), .i .u8 (.ofNat 97), .i .u8 (.ofNat 0), .i .u8 (.ofNat 1), .i .u8 (.ofNat 0), .i .u8 (.ofNat 2), .i .u8 (.ofNat 1), .i .u8 (.ofNat 1), .i .u8 (.ofNat 2), .i .u8 (.ofNat 0), .i .u8 (.ofNat 4), .i .u8 (.ofNat 0), .i .u8 (.ofNat 0), .i .u8 (.ofNat 0), .i .u8 (.ofNat 10), .i .u8 (.ofNat 4), .i .u8 (.ofNat 3), .i .u8 (.ofNat 1), .i .u8 (.ofNat 97), .i .u8 (.ofNat 0), .i .u8 (.ofNat 0), .i .u8 (.ofNat 3), .i .u8 (.ofNat 1), .i .u8 (.ofNat 97), .i .u8 (.ofNat 0), .i .u8 (.ofNat 134), .i .u8 (.ofNat 107)])]
def AvT5 : List (Nat × AV) := [(0, .b true)]
def AvB5 : List (Nat × Blk) := []
end Go.Proofs.YtbioklhoolkhkadGreatDoor
namespace Go.Proofs.YtbioklhoolkhkadGreatDoor
set_option linter.unusedVariables false
set_option maxRecDepth 100000
open Go
noncomputable def AvEnv : Env := envOf Tryz.prog [(314, [.int .i64, .int .i64, .int .i64, .int .i64]), (84, [.int .i64, .int .i64, .string]), (69, [.int .i64, .int .i64, .string])] (treeOf []) AvLits
end Go.Proofs.YtbioklhoolkhkadGreatDoor
