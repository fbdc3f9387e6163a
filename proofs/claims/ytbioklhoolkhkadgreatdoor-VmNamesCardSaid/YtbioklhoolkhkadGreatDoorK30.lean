/- The closed function awake (lodelaw14) comes to true. A closed call in pieces (Vn): what there is between them. A closed call in pieces (Vn): the table. -/
import Derived.Test.YtbioklhoolkhkadGreatDoorK24
import Derived.Test.YtbioklhoolkhkadGreatDoorK25
import Derived.Test.YtbioklhoolkhkadGreatDoorK26
import Derived.Test.YtbioklhoolkhkadGreatDoorK27
import Derived.Test.YtbioklhoolkhkadGreatDoorK28
import Derived.Test.YtbioklhoolkhkadGreatDoorK29
import Derived.Test.YtbioklhoolkhkadGreatDoorK10
import Derived.Test.YtbioklhoolkhkadGreatDoorProg
namespace Go.Proofs.YtbioklhoolkhkadGreatDoor
set_option linter.unusedVariables false
set_option linter.unusedSimpArgs false
open Go.ChangeShapes Go.WideShapes Go.ChangeAt Go.RowKit Go.Joins Go.Deep

theorem av_env : EnvOK Tryz.prog AvEnv := env_ok names_ok vn_eqs (fun f x h => by
    simp only [treeOf, Tree.get_leaf] at h
    cases h) fun c hc => by cases hc
theorem av_known : KnownOK Tryz.prog 14 (.b true) := by
  have h0 := piece_ok av_env (draw_ok follows_ok av_env) (pieceK_eq ▸ Av_0)
  have h1 := piece_ok av_env (draw_ok follows_ok av_env) (pieceK_eq ▸ Av_1)
  have h2 := piece_ok av_env (draw_ok follows_ok av_env) (pieceK_eq ▸ Av_2)
  have h3 := piece_ok av_env (draw_ok follows_ok av_env) (pieceK_eq ▸ Av_3)
  have h4 := piece_ok av_env (draw_ok follows_ok av_env) (pieceK_eq ▸ Av_4)
  have e : flatC (bodyOf Tryz.f14) = tkL (dpL (flatC (bodyOf Tryz.f14)) 0) 2 ++ (tkL (dpL (flatC (bodyOf Tryz.f14)) 2) 1 ++ (tkL (dpL (flatC (bodyOf Tryz.f14)) 3) 5 ++ (tkL (dpL (flatC (bodyOf Tryz.f14)) 8) 1 ++ (tkL (dpL (flatC (bodyOf Tryz.f14)) 9) 3)))) := by kernel_rfl
  have h := h0.append (h1.append (h2.append (h3.append h4)))
  rw [← e] at h
  exact known_ok Tryz.func14 (by kernel_rfl) (by kernel_rfl) av_env h (.inr rfl) (by kernel_rfl)
end Go.Proofs.YtbioklhoolkhkadGreatDoor
namespace Go.Proofs.YtbioklhoolkhkadGreatDoor
set_option linter.unusedVariables false
set_option maxRecDepth 100000
open Go
noncomputable def VnLits : List LitC := [VrLit]
def VnT0 : List (Nat × AV) := []
def VnB0 : List (Nat × Blk) := []
def VnT1 : List (Nat × AV) := [(2, .p 125 0), (3, .p 126 0), (4, .p 127 0), (6, .i .i64 (.ofNat 9)), (0, .b false)]
def VnB1 : List (Nat × Blk) := [(55, .cells 3 [.i .i64 (.ofNat 1)]),
  (57, .cells 3 [.i .i64 (.ofNat 0)]),
  (59, .cells 32 [.i .u8 (.ofNat 11), .i .i64 (.ofNat 1), .ns, .i .i64 (.ofNat 0), .i .i64 (.ofNat 0), .s [109, 97, 105, 110], .ns, .ns, .i .u8 (.ofNat 13), .i .i64 (.ofNat 0), .sl 55 0 1 1 true 1, .i .i64 (.ofNat 0), .i .i64 (.ofNat 0), .s [], .ns, .ns, .i .u8 (.ofNat 69), .i .i64 (.negSucc 0), .sl 57 0 1 1 true 1, .i .i64 (.ofNat 0), .i .i64 (.ofNat 0), .s [], .ns, .ns]),
  (60, .cells 9 [.s [110]]),
  (61, .cells 35 [.s [109, 97, 105, 110], .i .i64 (.ofNat 0), .i .i64 (.ofNat 4), .sl 129 0 1 1 true 8, .s [115, 116, 97, 114, 116], .i .i64 (.ofNat 0), .i .i64 (.ofNat 2), .sl 59 0 3 3 true 8]),
  (86, .cells 3 [.i .i64 (.ofNat 1)]),
  (88, .cells 3 [.i .i64 (.ofNat 0)]),
  (90, .cells 32 [.i .u8 (.ofNat 11), .i .i64 (.ofNat 1), .ns, .i .i64 (.ofNat 0), .i .i64 (.ofNat 0), .s [109, 97, 105, 110], .ns, .ns, .i .u8 (.ofNat 13), .i .i64 (.ofNat 0), .sl 86 0 1 1 true 1, .i .i64 (.ofNat 0), .i .i64 (.ofNat 0), .s [], .ns, .ns, .i .u8 (.ofNat 69), .i .i64 (.negSucc 0), .sl 88 0 1 1 true 1, .i .i64 (.ofNat 0), .i .i64 (.ofNat 0), .s [], .ns, .ns]),
  (91, .cells 9 [.s [110]]),
  (92, .cells 35 [.s [109, 97, 105, 110], .i .i64 (.ofNat 0), .i .i64 (.ofNat 4), .sl 131 0 2 2 true 8, .s [115, 116, 97, 114, 116], .i .i64 (.ofNat 0), .i .i64 (.ofNat 2), .sl 90 0 3 3 true 8]),
  (117, .cells 3 [.i .i64 (.ofNat 1)]),
  (119, .cells 3 [.i .i64 (.ofNat 0)]),
  (121, .cells 32 [.i .u8 (.ofNat 11), .i .i64 (.ofNat 1), .ns, .i .i64 (.ofNat 0), .i .i64 (.ofNat 0), .s [109, 97, 105, 110], .ns, .ns, .i .u8 (.ofNat 13), .i .i64 (.ofNat 0), .sl 117 0 1 1 true 1, .i .i64 (.ofNat 0), .i .i64 (.ofNat 0), .s [], .ns, .ns, .i .u8 (.ofNat 69), .i .i64 (.negSucc 0), .sl 119 0 1 1 true 1, .i .i64 (.ofNat 0), .i .i64 (.ofNat 0), .s [], .ns, .ns]),
  (122, .cells 9 [.s [110]]),
  (123, .cells 35 [.s [109, 97, 105, 110], .i .i64 (.ofNat 0), .i .i64 (.ofNat 4), .sl 134 0 2 2 true 8, .s [115, 116, 97, 114, 116], .i .i64 (.ofNat 0), .i .i64 (.ofNat 2), .sl 121 0 3 3 true 8]),
  (125, .cells 27 [.ns, .ns, .sl 60 0 1 1 true 1, .sl 61 0 2 2 true 4]),
  (126, .cells 27 [.ns, .ns, .sl 91 0 1 1 true 1, .sl 92 0 2 2 true 4]),
  (127, .cells 27 [.ns, .ns, .sl 122 0 1 1 true 1, .sl 123 0 2 2 true 4]),
  (128, .cells 3 [.i .i64 (.ofNat 0)]),
  (129, .cells 32 [.i .u8 (.ofNat 61), .i .i64 (.negSucc 0), .ns, .i .i64 (.ofNat 0), .i .i64 (.ofNat 0), .s [], .sl 128 0 1 1 true 1, .ns]),
  (130, .cells 3 [.i .i64 (.ofNat 0)]),
  (131, .cells 32 [.i .u8 (.ofNat 39), .i .i64 (.negSucc 0), .ns, .i .i64 (.ofNat 0), .i .i64 (.ofNat 0), .s [], .ns, .ns, .i .u8 (.ofNat 61), .i .i64 (.negSucc 0), .ns, .i .i64 (.ofNat 0), .i .i64 (.ofNat 0), .s [], .sl 130 0 1 1 true 1, .ns]),
  (132, .cells 3 [.i .i64 (.ofNat 0)]),
  (134, .cells 32 [.i .u8 (.ofNat 13), .i .i64 (.ofNat 0), .ns, .i .i64 (.ofNat 0), .i .i64 (.ofNat 1), .s [109, 97, 105, 110], .ns, .ns, .i .u8 (.ofNat 69), .i .i64 (.negSucc 0), .sl 132 0 1 1 true 1, .i .i64 (.ofNat 0), .i .i64 (.ofNat 0), .s [], .ns, .ns])]
def VnT2 : List (Nat × AV) := [(3, .p 126 0), (4, .p 127 0), (6, .i .i64 (.ofNat 9)), (8, .i .i64 (.ofNat 5)), (0, .b false)]
def VnB2 : List (Nat × Blk) := [(86, .cells 3 [.i .i64 (.ofNat 1)]),
  (88, .cells 3 [.i .i64 (.ofNat 0)]),
  (90, .cells 32 [.i .u8 (.ofNat 11), .i .i64 (.ofNat 1), .ns, .i .i64 (.ofNat 0), .i .i64 (.ofNat 0), .s [109, 97, 105, 110], .ns, .ns, .i .u8 (.ofNat 13), .i .i64 (.ofNat 0), .sl 86 0 1 1 true 1, .i .i64 (.ofNat 0), .i .i64 (.ofNat 0), .s [], .ns, .ns, .i .u8 (.ofNat 69), .i .i64 (.negSucc 0), .sl 88 0 1 1 true 1, .i .i64 (.ofNat 0), .i .i64 (.ofNat 0), .s [], .ns, .ns]),
  (91, .cells 9 [.s [110]]),
  (92, .cells 35 [.s [109, 97, 105, 110], .i .i64 (.ofNat 0), .i .i64 (.ofNat 4), .sl 131 0 2 2 true 8, .s [115, 116, 97, 114, 116], .i .i64 (.ofNat 0), .i .i64 (.ofNat 2), .sl 90 0 3 3 true 8]),
  (117, .cells 3 [.i .i64 (.ofNat 1)]),
  (119, .cells 3 [.i .i64 (.ofNat 0)]),
  (121, .cells 32 [.i .u8 (.ofNat 11), .i .i64 (.ofNat 1), .ns, .i .i64 (.ofNat 0), .i .i64 (.ofNat 0), .s [109, 97, 105, 110], .ns, .ns, .i .u8 (.ofNat 13), .i .i64 (.ofNat 0), .sl 117 0 1 1 true 1, .i .i64 (.ofNat 0), .i .i64 (.ofNat 0), .s [], .ns, .ns, .i .u8 (.ofNat 69), .i .i64 (.negSucc 0), .sl 119 0 1 1 true 1, .i .i64 (.ofNat 0), .i .i64 (.ofNat 0), .s [], .ns, .ns]),
  (122, .cells 9 [.s [110]]),
  (123, .cells 35 [.s [109, 97, 105, 110], .i .i64 (.ofNat 0), .i .i64 (.ofNat 4), .sl 134 0 2 2 true 8, .s [115, 116, 97, 114, 116], .i .i64 (.ofNat 0), .i .i64 (.ofNat 2), .sl 121 0 3 3 true 8]),
  (126, .cells 27 [.ns, .ns, .sl 91 0 1 1 true 1, .sl 92 0 2 2 true 4]),
  (127, .cells 27 [.ns, .ns, .sl 122 0 1 1 true 1, .sl 123 0 2 2 true 4]),
  (130, .cells 3 [.i .i64 (.ofNat 0)]),
  (131, .cells 32 [.i .u8 (.ofNat 39), .i .i64 (.negSucc 0), .ns, .i .i64 (.ofNat 0), .i .i64 (.ofNat 0), .s [], .ns, .ns, .i .u8 (.ofNat 61), .i .i64 (.negSucc 0), .ns, .i .i64 (.ofNat 0), .i .i64 (.ofNat 0), .s [], .sl 130 0 1 1 true 1, .ns]),
  (132, .cells 3 [.i .i64 (.ofNat 0)]),
  (134, .cells 32 [.i .u8 (.ofNat 13), .i .i64 (.ofNat 0), .ns, .i .i64 (.ofNat 0), .i .i64 (.ofNat 1), .s [109, 97, 105, 110], .ns, .ns, .i .u8 (.ofNat 69), .i .i64 (.negSucc 0), .sl 132 0 1 1 true 1, .i .i64 (.ofNat 0), .i .i64 (.ofNat 0), .s [], .ns, .ns])]
def VnT3 : List (Nat × AV) := [(4, .p 127 0), (6, .i .i64 (.ofNat 9)), (8, .i .i64 (.ofNat 5)), (10, .i .i64 (.ofNat 0)), (9, .sl 3416 0 2 2 false 1), (0, .b false)]
def VnB3 : List (Nat × Blk) := [(117, .cells 3 [.i .i64 (.ofNat 1)]),
  (119, .cells 3 [.i .i64 (.ofNat 0)]),
  (121, .cells 32 [.i .u8 (.ofNat 11), .i .i64 (.ofNat 1), .ns, .i .i64 (.ofNat 0), .i .i64 (.ofNat 0), .s [109, 97, 105, 110], .ns, .ns, .i .u8 (.ofNat 13), .i .i64 (.ofNat 0), .sl 117 0 1 1 true 1, .i .i64 (.ofNat 0), .i .i64 (.ofNat 0), .s [], .ns, .ns, .i .u8 (.ofNat 69), .i .i64 (.negSucc 0), .sl 119 0 1 1 true 1, .i .i64 (.ofNat 0), .i .i64 (.ofNat 0), .s [], .ns, .ns]),
  (122, .cells 9 [.s [110]]),
  (123, .cells 35 [.s [109, 97, 105, 110], .i .i64 (.ofNat 0), .i .i64 (.ofNat 4), .sl 134 0 2 2 true 8, .s [115, 116, 97, 114, 116], .i .i64 (.ofNat 0), .i .i64 (.ofNat 2), .sl 121 0 3 3 true 8]),
  (127, .cells 27 [.ns, .ns, .sl 122 0 1 1 true 1, .sl 123 0 2 2 true 4]),
  (132, .cells 3 [.i .i64 (.ofNat 0)]),
  (134, .cells 32 [.i .u8 (.ofNat 13), .i .i64 (.ofNat 0), .ns, .i .i64 (.ofNat 0), .i .i64 (.ofNat 1), .s [109, 97, 105, 110], .ns, .ns, .i .u8 (.ofNat 69), .i .i64 (.negSucc 0), .sl 132 0 1 1 true 1, .i .i64 (.ofNat 0), .i .i64 (.ofNat 0), .s [], .ns, .ns]),
  (3411, .cells 69 [.i .u8 (.ofNat 7), .i .i64 (.ofNat 0), .s [102, 117, 101, 108]]),
  (3416, .cells 53 [.sl 3411 0 1 1 false 3, .ns])]
def VnT4 : List (Nat × AV) := [(6, .i .i64 (.ofNat 9)), (8, .i .i64 (.ofNat 5)), (10, .i .i64 (.ofNat 0)), (9, .sl 3416 0 2 2 false 1), (12, .i .i64 (.ofNat 5)), (14, .i .i64 (.ofNat 3)), (16, .i .i64 (.ofNat 2)), (0, .b false)]
def VnB4 : List (Nat × Blk) := [(3411, .cells 69 [.i .u8 (.ofNat 7), .i .i64 (.ofNat 0), .s [102, 117, 101, 108]]),
  (3416, .cells 53 [.sl 3411 0 1 1 false 3, .ns])]
def VnT5 : List (Nat × AV) := [(6, .i .i64 (.ofNat 9)), (8, .i .i64 (.ofNat 5)), (10, .i .i64 (.ofNat 0)), (9, .sl 3416 0 2 2 false 1), (12, .i .i64 (.ofNat 5)), (14, .i .i64 (.ofNat 3)), (16, .i .i64 (.ofNat 2)), (18, .i .i64 (.ofNat 4)), (20, .i .i64 (.ofNat 0)), (23, .i .i64 (.ofNat 4)), (0, .b false)]
def VnB5 : List (Nat × Blk) := [(3411, .cells 69 [.i .u8 (.ofNat 7), .i .i64 (.ofNat 0), .s [102, 117, 101, 108]]),
  (3416, .cells 53 [.sl 3411 0 1 1 false 3, .ns])]
def VnT6 : List (Nat × AV) := [(0, .b true)]
def VnB6 : List (Nat × Blk) := []
def VnT7 : List (Nat × AV) := [(0, .b true)]
def VnB7 : List (Nat × Blk) := []
end Go.Proofs.YtbioklhoolkhkadGreatDoor
namespace Go.Proofs.YtbioklhoolkhkadGreatDoor
set_option linter.unusedVariables false
set_option maxRecDepth 100000
open Go
noncomputable def VnEnv : Env := envOf Tryz.prog [(314, [.int .i64, .int .i64, .int .i64, .int .i64]), (84, [.int .i64, .int .i64, .string]), (69, [.int .i64, .int .i64, .string])] (treeOf [(14, .b true)]) VnLits
end Go.Proofs.YtbioklhoolkhkadGreatDoor
