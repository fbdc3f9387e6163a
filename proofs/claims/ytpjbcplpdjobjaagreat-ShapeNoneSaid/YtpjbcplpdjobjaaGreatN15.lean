/- Part 15: LFK. -/
import Derived.Test.YtpjbcplpdjobjaaGreatN13
import Derived.Test.YtpjbcplpdjobjaaGreatN14
import Derived.Test.YtpjbcplpdjobjaaGreatRows
namespace Go.Proofs.YtpjbcplpdjobjaaGreat
set_option maxRecDepth 100000
set_option maxHeartbeats 0
set_option linter.unusedVariables false
set_option linter.unusedSimpArgs false
set_option linter.unusedSectionVars false
open Go Go.RowKit
open _root_.Go.Proofs.Tryz renaming prog→yA,checked→yB
open _root_.Go.Value renaming okWide→uA
open _root_.List renaming mem_append_left→uB,mem_append_right→uC
open _root_.Go.Proofs.Tryz
open Option renaming some→O,none→X
open Bool renaming true→B,false→G
open Decidable renaming decide→T
open _root_.Go renaming Value→V_,World→W_,Calls→K_,execOp→x_,Operand→O_,Program→P_,TypeId→T_,run_underlying→u_,bodyPost_ret→b_,Ending→E_
open _root_.Go.Value renaming slice→V,int→Y,pointer→M,string→U,bool→N
open _root_.Go.IntKind renaming i64→I
open _root_.Go.Obj renaming cells→C
section
open Go.ChangeShapes Go.WideShapes Go.ChangeAt Go.Joins Go.Deep
section
variable {H:Type} {enc:T_×V_->H} {W:W_} {base:Nat} {spare:Nat->Bool} {held:Bool} {fuel:Nat} {v:V_} {x:DataW H×List MemPlace}
theorem tB {cs:List V_} (h:DataW.trod enc yA W base spare held fuel 69 cs=O x):∃z:Bk,Q9.rep (CL W) cs z:=by
 obtain⟨hl,n,hf⟩:=Ou underlying69 A7 A7 h
 match cs,hl with
 |[c0,c1,c2],_=>obtain⟨_,g0,k0⟩:=hf 0 _ c0 Z Z;obtain⟨_,g1,k1⟩:=hf 1 _ c1 Z Z;obtain⟨_,g2,k2⟩:=hf 2 _ c2 Z Z;obtain⟨z0,rfl,w0⟩:=dF g0;obtain⟨z1,rfl,w1⟩:=FM g1;obtain⟨z2,rfl,w2⟩:=Ol g2;exact⟨⟨z0,z1,z2⟩,Z,⟨w0,w1,w2⟩⟩
theorem sa (h:DataW.trod enc yA W base spare held fuel 39 [v]=O x):∃l,AX Q9 (CL W) v l:=
 have:Inhabited Bk:=⟨⟨0,0,ByteArray.empty⟩⟩
 GH Q9 AD underlying39 A7 (λcs n y hy=>tB hy) h
theorem ss {cs:List V_} (h:DataW.trod enc yA W base spare held fuel 41 cs=O x):∃z:LA,oM.rep (CL W) cs z:=by
 obtain⟨hl,n,hf⟩:=Ou underlying41 A7 A7 h
 match cs,hl with
 |[c0,c1,c2,c3],_=>obtain⟨_,g0,k0⟩:=hf 0 _ c0 Z Z;obtain⟨_,g1,k1⟩:=hf 1 _ c1 Z Z;obtain⟨_,g2,k2⟩:=hf 2 _ c2 Z Z;obtain⟨_,g3,k3⟩:=hf 3 _ c3 Z Z;obtain⟨z0,rfl,w0⟩:=dF g0;obtain⟨z1,rfl,w1⟩:=Ol g1;obtain⟨z2,rfl,w2⟩:=FM g2;obtain⟨l3,h3⟩:=sa g3;exact⟨⟨z0,z1,z2,l3⟩,_,Z,⟨w0,w2,w1⟩,h3⟩
theorem tW {r:_root_.Go.Reach} {b0:Nat} {d:DataW H} {p:List MemPlace} (hv:uA yA W r b0 41 v) (h:DataW.Trod enc yA W base spare held 41 v d p):∃(k:Nat) (nm:ByteArray) (n:Int) (sl:List Bk) (so:V_),v= .agg #[Y .u8 k,U nm,Y I n,so]/\(⟨k,nm,n,sl⟩:LA).fit/\AX Q9 (CL W) so sl:=by obtain⟨cs,rfl,lg⟩:=okWide_struct underlying41 hv;obtain⟨fuel,hf⟩:=h;obtain⟨⟨k,nm,n,sl⟩,so,e1,lf,hs⟩:=ss hf;refine⟨k,nm,n,sl,so,?_,lf,hs⟩;have h3:cs.toList=[Y .u8 k,U nm,Y I n,so]:=e1;rw[<-Array.toArray_toList (xs:=cs),h3]
end
theorem eQ (w0 w:W_) (H:Hp) (L:List (Nat×Obj)) (m:AC w0 H L w):K_ yA 12 #[] w (Bv w0 H L (N B)):=
 (dV.below w).mono λe w' ⟨he,hb⟩=>by
  obtain⟨b1,b2,b3,b4,b5⟩:=hb
  refine⟨he,⟨b1.trans m.os,b2.trans m.tape,b3.trans m.output,λk o hk=>?_,λp hp=>?_,m.nd⟩⟩
  .rw[b5 k (Af (m.imm k o hk))]
   exact m.imm k o hk
  .obtain⟨h1,h2⟩:=m.loc p hp
   exact⟨by rw[b5 _ (Af h1)];exact h1,h2⟩
theorem rp (os:Os) (started:os.Started) (H:Type) (enc:T_×V_->H):ReturnsInHanded {} yB os 10 .any (Rows.shapeNoneSpec.pre6 enc yA f10 Rows.shapeNoneRow.domain G) (Rows.shapeNoneSpec.post enc yA f10 G B G G):=by
 refine returnsInHanded_of_change_sized (C:=yB) Tryz.own started A7 func10 (ChangeSpec.witness6 (enc:=enc) (C:=yB) G ⟨#[],#[.agg #[V X 0 0,V X 0 0,V X 0 0,V X 0 0,V X 0 0,V X 0 0,V X 0 0,V X 0 0],.agg #[Y .u8 0,U ⟨#[]⟩,Y I 0,V X 0 0]],[]⟩ 8 A7 A7 A7 A7) ?_;intro W base args ds gs before aa hW ao ah _;have ad:∀(j:Nat) t v,f10.params[j]?=O t->args[j]?=O v->uA yA W .any base t v:=aa;have ae:=hW;obtain⟨p,q,ag,hV,rfl,ar,aq⟩:=hW;have hA:DataW.TrodAll enc yA W 0 (λ_=>B) B f10.params.toList args.toList ds p:=ag;rw[params10] at hA ad;obtain⟨v0,v1,d0,d1,p0,p1,rfl,rfl,rfl,h0,h1⟩:=trodAll_two hA;obtain⟨rfl,rfl⟩:=trodVars_none hV
 obtain⟨x,y,a1,a2,a3,a4,b1,b2,b3,b4,rfl,hx,hy,aj,ai⟩:=Zk (ad 0 29 v0 Z Z) h0 (λk hk=>by
  have:=List.all_eq_true.1 ah k (DataW.weights_mem_each (j:=0) (t:=29) (d:=d0) Z Z k hk)
  simpa using this)
 have lg:QP x/\QP y:=⟨aj,ai⟩;obtain⟨k,nm,n,sl,so,rfl,al,ak⟩:=tW (ad 1 41 v1 Z Z) h1;clear ag aa;simp only[List.append_nil] at ae;(refine(sF eQ x y k nm n sl al _ _ _ _ _ _ _ _ _ lg (AC.start W) hx hy ak).mono λe W' ⟨H',he,lQ,hm⟩=>?_);subst he;have hb:=hm.below lQ;(have eP:∀p∈p0++p1,p.block<W.heap.size:=λp hp=>ae.lt p hp);exact⟨_,Z,RW (pa:=p0++p1) (pv:=[]) ae (λ_ _ _=>trodAll_mk1 (shut_bool underlying4 B)) (λsp af=>trodAll_mk2 (WideElems.Trod_stays Tryz.laidOut A7 (o_ A7) h0 (λp hp=>hb.same (eP p (uB _ hp))) (λp hp=>af p (uB _ hp))) (WideElems.Trod_stays Tryz.laidOut A7 (o_ A7) h1 (λp hp=>hb.same (eP p (uC _ hp))) (λp hp=>af p (uC _ hp)))) (λ_ _=>rfl) (by simp) hb (ok_one A7 Z (okWide_bool_mk underlying4 B))⟩
theorem shapeNone_holds:Rows.ShapeNoneSaid:=
 OpenClaim.holds_of_wide 10 f10 Z Z Z Z Z Z Z ⟨Z,Z,Z,Z,Z⟩ Z Z Z Z Z A7 func10 tZ
  (o_ A7) (by unfold Func.isWrapper;first|(rw[p_ (by decide+kernel)];kernel_rfl)|(rw[n_ (by decide+kernel)];exact⟨Z,Z⟩))
  (λos started H enc _=>rp os started H enc)
end
