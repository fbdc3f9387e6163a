/- Part 9: SkD SkE SkP0 SkP1 SkP2 SkP3 SkP4 SkK LES. -/
import Derived.Test.YtbioklhoolkhkacGreatJ02
import Derived.Test.YtbioklhoolkhkacGreatProg
import Derived.Test.YtbioklhoolkhkacGreatRows
namespace Go.Proofs.YtbioklhoolkhkacGreat
set_option maxRecDepth 100000
set_option maxHeartbeats 0
set_option linter.unusedVariables false
set_option linter.unusedSimpArgs false
set_option linter.unusedSectionVars false
open Go Go.RowKit
open _root_.Go.Proofs.Tryz renaming prog→uh
open _root_.Go.Proofs.Tryz
open Option renaming some→O,none→X
open Bool renaming true→B,false→G
open Decidable renaming decide→T
open _root_.Go renaming Value→V_,World→W_,Calls→K_,execOp→x_,Operand→O_,Program→P_,TypeId→T_,run_underlying→u_,bodyPost_ret→b_,Ending→E_
open _root_.Go.Value renaming slice→V,int→Y,pointer→M,string→U,bool→N
open _root_.Go.IntKind renaming i64→I
open _root_.Go.Obj renaming cells→C
set_option maxRecDepth 100000
def qg:List (Nat×AV):=[]
def qh:List (Nat×Fk):=[]
def qM:List (Nat×AV):=[(35,.b G),(1,.p 22 0),(2,.sl 25 0 5 5 B 7),(3,.p 29 0),(0,.b G)]
def qH:List (Nat×Fk):=[(1,.cells 9 [.s [120],.s [121]]),
 (2,.cells 84 [.s [80],.sl 1 0 2 2 B 1]),
 (3,.cells 9 [.s [97],.s [98]]),
 (5,.cells 3 [.i .i64 (.ofNat 0)]),
 (6,.cells 82 [.i .u8 (.ofNat 4),.i .i64 (.ofNat 0),.ns,.i .i64 (.ofNat 0),.i .i64 (.ofNat 0),.s [],.ns,.ns,.i .u8 (.ofNat 69),.i .i64 (.negSucc 0),.sl 5 0 1 1 B 1,.i .i64 (.ofNat 0),.i .i64 (.ofNat 0),.s [],.ns,.ns]),
 (8,.cells 3 [.i .i64 (.ofNat 0)]),
 (9,.cells 82 [.i .u8 (.ofNat 4),.i .i64 (.ofNat 0),.ns,.i .i64 (.ofNat 0),.i .i64 (.ofNat 0),.s [],.ns,.ns,.i .u8 (.ofNat 69),.i .i64 (.negSucc 0),.sl 8 0 1 1 B 1,.i .i64 (.ofNat 0),.i .i64 (.ofNat 0),.s [],.ns,.ns]),
 (10,.cells 78 [.s [109,97,105,110],.i .i64 (.ofNat 0),.i .i64 (.ofNat 1),.sl 6 0 2 2 B 8,.s [115,116,97,114,116],.i .i64 (.ofNat 0),.i .i64 (.ofNat 1),.sl 9 0 2 2 B 8]),
 (12,.cells 9 [.s [121],.s [122]]),
 (13,.cells 84 [.s [81],.sl 12 0 2 2 B 1]),
 (14,.cells 9 [.s [99],.s [98],.s [100]]),
 (16,.cells 3 [.i .i64 (.ofNat 0)]),
 (17,.cells 82 [.i .u8 (.ofNat 4),.i .i64 (.ofNat 0),.ns,.i .i64 (.ofNat 0),.i .i64 (.ofNat 0),.s [],.ns,.ns,.i .u8 (.ofNat 69),.i .i64 (.negSucc 0),.sl 16 0 1 1 B 1,.i .i64 (.ofNat 0),.i .i64 (.ofNat 0),.s [],.ns,.ns]),
 (19,.cells 3 [.i .i64 (.ofNat 0)]),
 (20,.cells 82 [.i .u8 (.ofNat 4),.i .i64 (.ofNat 0),.ns,.i .i64 (.ofNat 0),.i .i64 (.ofNat 0),.s [],.ns,.ns,.i .u8 (.ofNat 69),.i .i64 (.negSucc 0),.sl 19 0 1 1 B 1,.i .i64 (.ofNat 0),.i .i64 (.ofNat 0),.s [],.ns,.ns]),
 (21,.cells 78 [.s [109,97,105,110],.i .i64 (.ofNat 0),.i .i64 (.ofNat 1),.sl 17 0 2 2 B 8,.s [115,116,97,114,116],.i .i64 (.ofNat 0),.i .i64 (.ofNat 1),.sl 20 0 2 2 B 8]),
 (22,.cells 29 [.sl 2 0 1 1 B 2,.ns,.sl 3 0 2 2 B 1,.sl 10 0 2 2 B 4,.sl 13 0 1 1 B 2,.ns,.sl 14 0 3 3 B 1,.sl 21 0 2 2 B 4]),
 (25,.cells 45 [.i .u8 (.ofNat 4),.s [80],.s [],.s [81],.i .u8 (.ofNat 0),.i .i64 (.ofNat 0),.s [],.i .u8 (.ofNat 2),.s [81],.s [120],.s [],.i .u8 (.ofNat 0),.i .i64 (.ofNat 0),.s [],.i .u8 (.ofNat 1),.s [81],.s [122],.s [],.i .u8 (.ofNat 1),.i .i64 (.ofNat 7),.s [],.i .u8 (.ofNat 7),.s [97],.s [],.s [99],.i .u8 (.ofNat 0),.i .i64 (.ofNat 0),.s [],.i .u8 (.ofNat 5),.s [100],.s [],.s [],.i .u8 (.ofNat 2),.i .i64 (.ofNat 1),.s []]),
 (28,.cells 43 [.i .u8 (.ofNat 1),.i .i64 (.ofNat 1),.s [],.i .u8 (.ofNat 1),.i .i64 (.ofNat 2),.s []]),
 (29,.cells 50 [.i .u8 (.ofNat 1),.s [80],.i .i64 (.ofNat 0),.sl 28 0 2 2 B 3])]
def pY:List (Nat×AV):=[(1,.p 22 0),(2,.sl 25 0 5 5 B 7),(3,.p 29 0),(5,.i .i64 (.ofNat 0)),(4,.p 1347 0),(0,.b G)]
def pZ:List (Nat×Fk):=[(1,.cells 9 [.s [120],.s [121]]),
 (2,.cells 84 [.s [80],.sl 1 0 2 2 B 1]),
 (3,.cells 9 [.s [97],.s [98]]),
 (5,.cells 3 [.i .i64 (.ofNat 0)]),
 (6,.cells 82 [.i .u8 (.ofNat 4),.i .i64 (.ofNat 0),.ns,.i .i64 (.ofNat 0),.i .i64 (.ofNat 0),.s [],.ns,.ns,.i .u8 (.ofNat 69),.i .i64 (.negSucc 0),.sl 5 0 1 1 B 1,.i .i64 (.ofNat 0),.i .i64 (.ofNat 0),.s [],.ns,.ns]),
 (8,.cells 3 [.i .i64 (.ofNat 0)]),
 (9,.cells 82 [.i .u8 (.ofNat 4),.i .i64 (.ofNat 0),.ns,.i .i64 (.ofNat 0),.i .i64 (.ofNat 0),.s [],.ns,.ns,.i .u8 (.ofNat 69),.i .i64 (.negSucc 0),.sl 8 0 1 1 B 1,.i .i64 (.ofNat 0),.i .i64 (.ofNat 0),.s [],.ns,.ns]),
 (10,.cells 78 [.s [109,97,105,110],.i .i64 (.ofNat 0),.i .i64 (.ofNat 1),.sl 6 0 2 2 B 8,.s [115,116,97,114,116],.i .i64 (.ofNat 0),.i .i64 (.ofNat 1),.sl 9 0 2 2 B 8]),
 (12,.cells 9 [.s [121],.s [122]]),
 (13,.cells 84 [.s [81],.sl 12 0 2 2 B 1]),
 (14,.cells 9 [.s [99],.s [98],.s [100]]),
 (16,.cells 3 [.i .i64 (.ofNat 0)]),
 (17,.cells 82 [.i .u8 (.ofNat 4),.i .i64 (.ofNat 0),.ns,.i .i64 (.ofNat 0),.i .i64 (.ofNat 0),.s [],.ns,.ns,.i .u8 (.ofNat 69),.i .i64 (.negSucc 0),.sl 16 0 1 1 B 1,.i .i64 (.ofNat 0),.i .i64 (.ofNat 0),.s [],.ns,.ns]),
 (19,.cells 3 [.i .i64 (.ofNat 0)]),
 (20,.cells 82 [.i .u8 (.ofNat 4),.i .i64 (.ofNat 0),.ns,.i .i64 (.ofNat 0),.i .i64 (.ofNat 0),.s [],.ns,.ns,.i .u8 (.ofNat 69),.i .i64 (.negSucc 0),.sl 19 0 1 1 B 1,.i .i64 (.ofNat 0),.i .i64 (.ofNat 0),.s [],.ns,.ns]),
 (21,.cells 78 [.s [109,97,105,110],.i .i64 (.ofNat 0),.i .i64 (.ofNat 1),.sl 17 0 2 2 B 8,.s [115,116,97,114,116],.i .i64 (.ofNat 0),.i .i64 (.ofNat 1),.sl 20 0 2 2 B 8]),
 (22,.cells 29 [.sl 2 0 1 1 B 2,.ns,.sl 3 0 2 2 B 1,.sl 10 0 2 2 B 4,.sl 13 0 1 1 B 2,.ns,.sl 14 0 3 3 B 1,.sl 21 0 2 2 B 4]),
 (25,.cells 45 [.i .u8 (.ofNat 4),.s [80],.s [],.s [81],.i .u8 (.ofNat 0),.i .i64 (.ofNat 0),.s [],.i .u8 (.ofNat 2),.s [81],.s [120],.s [],.i .u8 (.ofNat 0),.i .i64 (.ofNat 0),.s [],.i .u8 (.ofNat 1),.s [81],.s [122],.s [],.i .u8 (.ofNat 1),.i .i64 (.ofNat 7),.s [],.i .u8 (.ofNat 7),.s [97],.s [],.s [99],.i .u8 (.ofNat 0),.i .i64 (.ofNat 0),.s [],.i .u8 (.ofNat 5),.s [100],.s [],.s [],.i .u8 (.ofNat 2),.i .i64 (.ofNat 1),.s []]),
 (28,.cells 43 [.i .u8 (.ofNat 1),.i .i64 (.ofNat 1),.s [],.i .u8 (.ofNat 1),.i .i64 (.ofNat 2),.s []]),
 (29,.cells 50 [.i .u8 (.ofNat 1),.s [80],.i .i64 (.ofNat 0),.sl 28 0 2 2 B 3]),
 (1327,.cells 43 [.i .u8 (.ofNat 1),.i .i64 (.ofNat 2),.s [],.i .u8 (.ofNat 1),.i .i64 (.ofNat 7),.s []]),
 (1347,.cells 50 [.i .u8 (.ofNat 1),.s [81],.i .i64 (.ofNat 0),.sl 1327 0 2 2 G 3])]
def qJ:List (Nat×AV):=[(5,.i .i64 (.ofNat 0)),(4,.p 1347 0),(7,.i .i64 (.ofNat 0)),(6,.p 2989 0),(1,.p 22 0),(0,.b G)]
def pi:List (Nat×Fk):=[(1,.cells 9 [.s [120],.s [121]]),
 (2,.cells 84 [.s [80],.sl 1 0 2 2 B 1]),
 (3,.cells 9 [.s [97],.s [98]]),
 (5,.cells 3 [.i .i64 (.ofNat 0)]),
 (6,.cells 82 [.i .u8 (.ofNat 4),.i .i64 (.ofNat 0),.ns,.i .i64 (.ofNat 0),.i .i64 (.ofNat 0),.s [],.ns,.ns,.i .u8 (.ofNat 69),.i .i64 (.negSucc 0),.sl 5 0 1 1 B 1,.i .i64 (.ofNat 0),.i .i64 (.ofNat 0),.s [],.ns,.ns]),
 (8,.cells 3 [.i .i64 (.ofNat 0)]),
 (9,.cells 82 [.i .u8 (.ofNat 4),.i .i64 (.ofNat 0),.ns,.i .i64 (.ofNat 0),.i .i64 (.ofNat 0),.s [],.ns,.ns,.i .u8 (.ofNat 69),.i .i64 (.negSucc 0),.sl 8 0 1 1 B 1,.i .i64 (.ofNat 0),.i .i64 (.ofNat 0),.s [],.ns,.ns]),
 (10,.cells 78 [.s [109,97,105,110],.i .i64 (.ofNat 0),.i .i64 (.ofNat 1),.sl 6 0 2 2 B 8,.s [115,116,97,114,116],.i .i64 (.ofNat 0),.i .i64 (.ofNat 1),.sl 9 0 2 2 B 8]),
 (12,.cells 9 [.s [121],.s [122]]),
 (13,.cells 84 [.s [81],.sl 12 0 2 2 B 1]),
 (14,.cells 9 [.s [99],.s [98],.s [100]]),
 (16,.cells 3 [.i .i64 (.ofNat 0)]),
 (17,.cells 82 [.i .u8 (.ofNat 4),.i .i64 (.ofNat 0),.ns,.i .i64 (.ofNat 0),.i .i64 (.ofNat 0),.s [],.ns,.ns,.i .u8 (.ofNat 69),.i .i64 (.negSucc 0),.sl 16 0 1 1 B 1,.i .i64 (.ofNat 0),.i .i64 (.ofNat 0),.s [],.ns,.ns]),
 (19,.cells 3 [.i .i64 (.ofNat 0)]),
 (20,.cells 82 [.i .u8 (.ofNat 4),.i .i64 (.ofNat 0),.ns,.i .i64 (.ofNat 0),.i .i64 (.ofNat 0),.s [],.ns,.ns,.i .u8 (.ofNat 69),.i .i64 (.negSucc 0),.sl 19 0 1 1 B 1,.i .i64 (.ofNat 0),.i .i64 (.ofNat 0),.s [],.ns,.ns]),
 (21,.cells 78 [.s [109,97,105,110],.i .i64 (.ofNat 0),.i .i64 (.ofNat 1),.sl 17 0 2 2 B 8,.s [115,116,97,114,116],.i .i64 (.ofNat 0),.i .i64 (.ofNat 1),.sl 20 0 2 2 B 8]),
 (22,.cells 29 [.sl 2 0 1 1 B 2,.ns,.sl 3 0 2 2 B 1,.sl 10 0 2 2 B 4,.sl 13 0 1 1 B 2,.ns,.sl 14 0 3 3 B 1,.sl 21 0 2 2 B 4]),
 (1327,.cells 43 [.i .u8 (.ofNat 1),.i .i64 (.ofNat 2),.s [],.i .u8 (.ofNat 1),.i .i64 (.ofNat 7),.s []]),
 (1347,.cells 50 [.i .u8 (.ofNat 1),.s [81],.i .i64 (.ofNat 0),.sl 1327 0 2 2 G 3]),
 (2512,.cells 43 [.i .u8 (.ofNat 1),.i .i64 (.ofNat 5),.s [],.i .u8 (.ofNat 3),.i .i64 (.ofNat 0),.s [120],.i .u8 (.ofNat 2),.i .i64 (.ofNat 1),.s []]),
 (2519,.cells 43 [.i .u8 (.ofNat 1),.i .i64 (.ofNat 2),.s [],.i .u8 (.ofNat 1),.i .i64 (.ofNat 7),.s []]),
 (2540,.cells 50 [.i .u8 (.ofNat 1),.s [81],.i .i64 (.ofNat 0),.sl 2519 0 2 2 G 3]),
 (2541,.cells 43 [.i .u8 (.ofNat 0),.i .i64 (.ofNat 0),.s []]),
 (2543,.cells 98 [.s [109,97,105,110],.i .i64 (.ofNat 0),.sl 2541 0 1 1 B 3,.ns]),
 (2544,.cells 101 [.i .i64 (.ofNat 1),.sl 2543 0 1 1 B 4]),
 (2989,.cells 56 [.i .i64 (.ofNat 2),.sl 2544 0 1 1 B 2,.sl 2512 0 3 3 B 3,.sl 2540 0 1 1 G 4])]
def pw:List (Nat×AV):=[(1,.p 22 0),(10,.i .i64 (.ofNat 1)),(11,.i .i64 (.ofNat 6)),(0,.b G)]
def pU:List (Nat×Fk):=[(1,.cells 9 [.s [120],.s [121]]),
 (2,.cells 84 [.s [80],.sl 1 0 2 2 B 1]),
 (3,.cells 9 [.s [97],.s [98]]),
 (5,.cells 3 [.i .i64 (.ofNat 0)]),
 (6,.cells 82 [.i .u8 (.ofNat 4),.i .i64 (.ofNat 0),.ns,.i .i64 (.ofNat 0),.i .i64 (.ofNat 0),.s [],.ns,.ns,.i .u8 (.ofNat 69),.i .i64 (.negSucc 0),.sl 5 0 1 1 B 1,.i .i64 (.ofNat 0),.i .i64 (.ofNat 0),.s [],.ns,.ns]),
 (8,.cells 3 [.i .i64 (.ofNat 0)]),
 (9,.cells 82 [.i .u8 (.ofNat 4),.i .i64 (.ofNat 0),.ns,.i .i64 (.ofNat 0),.i .i64 (.ofNat 0),.s [],.ns,.ns,.i .u8 (.ofNat 69),.i .i64 (.negSucc 0),.sl 8 0 1 1 B 1,.i .i64 (.ofNat 0),.i .i64 (.ofNat 0),.s [],.ns,.ns]),
 (10,.cells 78 [.s [109,97,105,110],.i .i64 (.ofNat 0),.i .i64 (.ofNat 1),.sl 6 0 2 2 B 8,.s [115,116,97,114,116],.i .i64 (.ofNat 0),.i .i64 (.ofNat 1),.sl 9 0 2 2 B 8]),
 (12,.cells 9 [.s [121],.s [122]]),
 (13,.cells 84 [.s [81],.sl 12 0 2 2 B 1]),
 (14,.cells 9 [.s [99],.s [98],.s [100]]),
 (16,.cells 3 [.i .i64 (.ofNat 0)]),
 (17,.cells 82 [.i .u8 (.ofNat 4),.i .i64 (.ofNat 0),.ns,.i .i64 (.ofNat 0),.i .i64 (.ofNat 0),.s [],.ns,.ns,.i .u8 (.ofNat 69),.i .i64 (.negSucc 0),.sl 16 0 1 1 B 1,.i .i64 (.ofNat 0),.i .i64 (.ofNat 0),.s [],.ns,.ns]),
 (19,.cells 3 [.i .i64 (.ofNat 0)]),
 (20,.cells 82 [.i .u8 (.ofNat 4),.i .i64 (.ofNat 0),.ns,.i .i64 (.ofNat 0),.i .i64 (.ofNat 0),.s [],.ns,.ns,.i .u8 (.ofNat 69),.i .i64 (.negSucc 0),.sl 19 0 1 1 B 1,.i .i64 (.ofNat 0),.i .i64 (.ofNat 0),.s [],.ns,.ns]),
 (21,.cells 78 [.s [109,97,105,110],.i .i64 (.ofNat 0),.i .i64 (.ofNat 1),.sl 17 0 2 2 B 8,.s [115,116,97,114,116],.i .i64 (.ofNat 0),.i .i64 (.ofNat 1),.sl 20 0 2 2 B 8]),
 (22,.cells 29 [.sl 2 0 1 1 B 2,.ns,.sl 3 0 2 2 B 1,.sl 10 0 2 2 B 4,.sl 13 0 1 1 B 2,.ns,.sl 14 0 3 3 B 1,.sl 21 0 2 2 B 4])]
def qt:List (Nat×AV):=[(0,.b B)]
def qq:List (Nat×Fk):=[]
set_option maxRecDepth 100000
noncomputable def JV:CF:=cU uh [(240,[.int .i64,.int .i64,.int .i64,.int .i64]),(43,[.int .i64,.int .i64,.string])]
set_option maxRecDepth 100000
theorem qm:Lt JV (JE JV) 1000000 132 (Qg (Qi (Ft (Gb f5)) 0) 5) qg qh 0 .nrm qM qH 601=true:=by kernel_rfl
set_option maxRecDepth 100000
theorem qp:Lt JV (JE JV) 1000000 132 (Qg (Qi (Ft (Gb f5)) 5) 2) qM qH 601 .nrm pY pZ 1348=true:=by kernel_rfl
set_option maxRecDepth 100000
theorem qj:Lt JV (JE JV) 1000000 132 (Qg (Qi (Ft (Gb f5)) 7) 1) pY pZ 1348 .nrm qJ pi 2990=true:=by kernel_rfl
set_option maxRecDepth 100000
theorem qu:Lt JV (JE JV) 1000000 132 (Qg (Qi (Ft (Gb f5)) 8) 3) qJ pi 2990 .nrm pw pU 3035=true:=by kernel_rfl
set_option maxRecDepth 100000
theorem qa:Lt JV (JE JV) 1000000 132 (Qg (Qi (Ft (Gb f5)) 11) 3) pw pU 3035 .ret qt qq 3484=true:=by kernel_rfl
section
open Go.ChangeShapes Go.WideShapes Go.ChangeAt Go.Joins Go.Deep
theorem oQ:X7 uh 240 (List.replicate 4 (.int .i64)):=by obtain⟨i,hi⟩:∃i,Tryz.prog.info? 238=O i:=Option.isSome_iff_exists.1 A7;exact iH (e:=238) (dd:= .int .u64) A7 hi A7 A7 A7 A7
theorem pE:X7 uh 43 [.int .i64,.int .i64,.string]:=kr A7 A7 A7 A7
theorem oR:∀e∈[((240:Nat),[TK.int .i64,.int .i64,.int .i64,.int .i64]),(43,[.int .i64,.int .i64,.string])],X7 uh e.1 e.2:=λe he=>by
 simp only[List.mem_cons,List.not_mem_nil,or_false] at he
 rcases he with rfl|rfl
 .exact oQ
 .exact pE
theorem Gf:Ap uh JV:=dS VW oR
theorem dV:Oo uh 5 (.b B):=by have h0:=JI Gf (KO FG Gf) qm;have h1:=JI Gf (KO FG Gf) qp;have h2:=JI Gf (KO FG Gf) qj;have h3:=JI Gf (KO FG Gf) qu;have h4:=JI Gf (KO FG Gf) qa;have e:Ft (Gb f5)=Qg (Qi (Ft (Gb f5)) 0) 5++(Qg (Qi (Ft (Gb f5)) 5) 2++(Qg (Qi (Ft (Gb f5)) 7) 1++(Qg (Qi (Ft (Gb f5)) 8) 3++(Qg (Qi (Ft (Gb f5)) 11) 3)))):=A7;have h:=h0.append (h1.append (h2.append (h3.append h4)));rw[<-e] at h;exact rQ func5 A7 A7 Gf h (.inr Z) A7
end
set_option maxRecDepth 100000
theorem XV:Tryz.prog.inPlace 3=[]:=by unfold Program.inPlace;kernel_rfl
theorem Kj:Tryz.prog.unfollowed 3=true:=by unfold Program.unfollowed;kernel_rfl
theorem Vc:Tryz.prog.recurses 3=true:=by unfold Program.recurses;rw[Kj];rfl
theorem rY:Tryz.prog.varsNamed 3=[]:=by unfold Program.varsNamed;kernel_rfl
theorem iR:joinedFacts uh 3 f3 Rows.shapeChecksSpec Rows.shapeChecksRow=true:=by unfold joinedFacts;rw[XV,Kj,Vc,rY];kernel_rfl
