/- A closed call in pieces (Hn): what there is between them. A closed call in pieces (Hn): the table. -/
import Derived.Test.YthomobhpgnfdlaaGreatK06
import Derived.Test.YthomobhpgnfdlaaGreatProg
namespace Go.Proofs.YthomobhpgnfdlaaGreat
set_option linter.unusedVariables false
set_option maxRecDepth 100000
open Go
def HnT0 : List (Nat × AV) := []
def HnB0 : List (Nat × Blk) := []
def HnT1 : List (Nat × AV) := [(1, .p 9 0), (2, .i .i64 (.ofNat 0)), (4, .i .i64 (.ofNat 0)), (6, .i .i64 (.ofNat 0)), (5, .sl 328 0 3 3 false 3), (0, .b false)]
def HnB1 : List (Nat × Blk) := [(9, .cells 35 [.i .i64 (.ofNat 20), .i .i64 (.ofNat 1), .i .i64 (.ofNat 0), .b true, .sl 293 0 3 3 false 5, .sl 304 0 1 1 false 4, .sl 245 0 3 3 false 3]),
  (245, .cells 62 [.i .u8 (.ofNat 5), .i .i64 (.ofNat 1), .s [], .i .u8 (.ofNat 0), .i .i64 (.ofNat 0), .s [], .i .u8 (.ofNat 0), .i .i64 (.ofNat 0), .s []]),
  (255, .cells 62 [.i .u8 (.ofNat 5), .i .i64 (.ofNat 0), .s [], .i .u8 (.ofNat 5), .i .i64 (.ofNat 0), .s []]),
  (262, .cells 62 [.i .u8 (.ofNat 5), .i .i64 (.ofNat 2), .s []]),
  (293, .cells 88 [.i .u8 (.ofNat 1), .s [97], .i .i64 (.ofNat 0), .ns, .i .i64 (.negSucc 0), .i .u8 (.ofNat 1), .s [98], .i .i64 (.ofNat 0), .sl 255 0 2 2 false 3, .i .i64 (.negSucc 0), .i .u8 (.ofNat 1), .s [97], .i .i64 (.ofNat 0), .sl 262 0 1 1 false 3, .i .i64 (.ofNat 0)]),
  (302, .cells 62 [.i .u8 (.ofNat 5), .i .i64 (.ofNat 2), .s []]),
  (304, .cells 60 [.i .u8 (.ofNat 1), .s [97], .i .i64 (.ofNat 0), .sl 302 0 1 1 false 3]),
  (328, .cells 62 [.i .u8 (.ofNat 0), .i .i64 (.ofNat 0), .s [], .i .u8 (.ofNat 0), .i .i64 (.ofNat 0), .s [], .i .u8 (.ofNat 1), .i .i64 (.negSucc 8), .s []])]
def HnT2 : List (Nat × AV) := [(11, .p 667 0), (2, .i .i64 (.ofNat 0)), (12, .p 668 0), (4, .i .i64 (.ofNat 0)), (7, .i .i64 (.ofNat 2)), (8, .i .i64 (.ofNat 4)), (5, .sl 328 0 3 3 false 3), (6, .i .i64 (.ofNat 0)), (0, .b false)]
def HnB2 : List (Nat × Blk) := [(328, .cells 62 [.i .u8 (.ofNat 0), .i .i64 (.ofNat 0), .s [], .i .u8 (.ofNat 0), .i .i64 (.ofNat 0), .s [], .i .u8 (.ofNat 1), .i .i64 (.negSucc 8), .s []]),
  (613, .cells 62 [.i .u8 (.ofNat 5), .i .i64 (.ofNat 1), .s [], .i .u8 (.ofNat 5), .i .i64 (.ofNat 3), .s [], .i .u8 (.ofNat 0), .i .i64 (.ofNat 0), .s []]),
  (618, .cells 62 [.i .u8 (.ofNat 5), .i .i64 (.ofNat 3), .s []]),
  (630, .cells 62 [.i .u8 (.ofNat 5), .i .i64 (.ofNat 0), .s [], .i .u8 (.ofNat 5), .i .i64 (.ofNat 0), .s []]),
  (637, .cells 62 [.i .u8 (.ofNat 5), .i .i64 (.ofNat 2), .s []]),
  (639, .cells 88 [.i .u8 (.ofNat 1), .s [97], .i .i64 (.ofNat 0), .ns, .i .i64 (.negSucc 0), .i .u8 (.ofNat 1), .s [98], .i .i64 (.ofNat 0), .sl 630 0 2 2 false 3, .i .i64 (.ofNat 1), .i .u8 (.ofNat 1), .s [97], .i .i64 (.ofNat 0), .sl 637 0 1 1 false 3, .i .i64 (.ofNat 0)]),
  (661, .cells 62 [.i .u8 (.ofNat 5), .i .i64 (.ofNat 0), .s [], .i .u8 (.ofNat 5), .i .i64 (.ofNat 0), .s []]),
  (663, .cells 60 [.i .u8 (.ofNat 1), .s [97], .i .i64 (.ofNat 0), .sl 618 0 1 1 false 3, .i .u8 (.ofNat 1), .s [98], .i .i64 (.ofNat 0), .sl 661 0 2 2 false 3]),
  (667, .cells 35 [.i .i64 (.ofNat 20), .i .i64 (.ofNat 1), .i .i64 (.ofNat 0), .b true, .sl 639 0 3 3 false 5, .sl 663 0 2 2 false 4, .sl 613 0 3 3 false 3]),
  (668, .cells 62 [.i .u8 (.ofNat 0), .i .i64 (.ofNat 0), .s []])]
def HnT3 : List (Nat × AV) := [(11, .p 667 0), (2, .i .i64 (.ofNat 0)), (13, .i .i64 (.ofNat 3)), (4, .i .i64 (.ofNat 0)), (5, .sl 328 0 3 3 false 3), (6, .i .i64 (.ofNat 0)), (0, .b false)]
def HnB3 : List (Nat × Blk) := [(328, .cells 62 [.i .u8 (.ofNat 0), .i .i64 (.ofNat 0), .s [], .i .u8 (.ofNat 0), .i .i64 (.ofNat 0), .s [], .i .u8 (.ofNat 1), .i .i64 (.negSucc 8), .s []]),
  (667, .cells 35 [.i .i64 (.ofNat 20), .i .i64 (.ofNat 1), .i .i64 (.ofNat 0), .b false, .ns, .sl 1029 0 3 3 false 4, .sl 981 0 3 3 false 3]),
  (981, .cells 62 [.i .u8 (.ofNat 5), .i .i64 (.ofNat 1), .s [], .i .u8 (.ofNat 5), .i .i64 (.ofNat 3), .s [], .i .u8 (.ofNat 0), .i .i64 (.ofNat 0), .s []]),
  (986, .cells 62 [.i .u8 (.ofNat 5), .i .i64 (.ofNat 3), .s []]),
  (993, .cells 62 [.i .u8 (.ofNat 5), .i .i64 (.ofNat 5), .s [], .i .u8 (.ofNat 5), .i .i64 (.ofNat 5), .s []]),
  (1029, .cells 60 [.i .u8 (.ofNat 1), .s [97], .i .i64 (.ofNat 0), .sl 986 0 1 1 false 3, .i .u8 (.ofNat 1), .s [98], .i .i64 (.ofNat 0), .sl 993 0 2 2 false 3, .i .u8 (.ofNat 1), .s [97], .i .i64 (.ofNat 0), .ns])]
def HnT4 : List (Nat × AV) := [(2, .i .i64 (.ofNat 0)), (13, .i .i64 (.ofNat 3)), (4, .i .i64 (.ofNat 0)), (5, .sl 1451 0 14 14 false 3), (6, .i .i64 (.ofNat 0)), (0, .b false)]
def HnB4 : List (Nat × Blk) := [(1451, .cells 62 [.i .u8 (.ofNat 0), .i .i64 (.ofNat 0), .s [], .i .u8 (.ofNat 0), .i .i64 (.ofNat 0), .s [], .i .u8 (.ofNat 0), .i .i64 (.ofNat 0), .s [], .i .u8 (.ofNat 1), .i .i64 (.ofNat 0), .s [], .i .u8 (.ofNat 1), .i .i64 (.ofNat 0), .s [], .i .u8 (.ofNat 0), .i .i64 (.ofNat 0), .s [], .i .u8 (.ofNat 1), .i .i64 (.negSucc 7), .s [], .i .u8 (.ofNat 0), .i .i64 (.ofNat 0), .s [], .i .u8 (.ofNat 1), .i .i64 (.negSucc 10), .s [], .i .u8 (.ofNat 1), .i .i64 (.negSucc 6), .s [], .i .u8 (.ofNat 1), .i .i64 (.negSucc 2), .s [], .i .u8 (.ofNat 1), .i .i64 (.negSucc 3), .s [], .i .u8 (.ofNat 1), .i .i64 (.negSucc 2), .s [], .i .u8 (.ofNat 1), .i .i64 (.negSucc 1), .s []])]
def HnT5 : List (Nat × AV) := [(0, .b true)]
def HnB5 : List (Nat × Blk) := []
end Go.Proofs.YthomobhpgnfdlaaGreat
namespace Go.Proofs.YthomobhpgnfdlaaGreat
set_option linter.unusedVariables false
set_option maxRecDepth 100000
open Go
noncomputable def HnEnv : Env := envOf Tryz.prog [(62, [.int .i64, .int .i64, .string])] (treeOf [(8, .b true)])
end Go.Proofs.YthomobhpgnfdlaaGreat
