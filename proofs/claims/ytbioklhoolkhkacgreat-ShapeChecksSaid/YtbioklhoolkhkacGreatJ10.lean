/- Part 10: LET. -/
import Derived.Test.YtbioklhoolkhkacGreatJ08
import Derived.Test.YtbioklhoolkhkacGreatJ09
import Derived.Test.YtbioklhoolkhkacGreatRows
namespace Go.Proofs.YtbioklhoolkhkacGreat
set_option maxRecDepth 100000
set_option maxHeartbeats 0
set_option linter.unusedVariables false
set_option linter.unusedSimpArgs false
set_option linter.unusedSectionVars false
open Go Go.RowKit
open _root_.Go.Proofs.Tryz renaming prog→uh,checked→ui
open _root_.List renaming mem_append_left→uj,mem_append_right→ul
open _root_.Go.Proofs.Tryz
open Option renaming some→O,none→X
open Bool renaming true→B,false→G
open Decidable renaming decide→T
open _root_.Go renaming Value→V_,World→W_,Calls→K_,execOp→x_,Operand→O_,Program→P_,TypeId→T_,run_underlying→u_,bodyPost_ret→b_,Ending→E_
open _root_.Go.Value renaming slice→V,int→Y,pointer→M,string→U,bool→N
open _root_.Go.IntKind renaming i64→I
open _root_.Go.Obj renaming cells→C
section
open Go.ChangeShapes Go.WideShapes Go.ChangeAt Go.Joins Go.Deep
theorem eQ (w0 w:W_) (H:Hp) (L:List (Nat×Obj)) (m:AC w0 H L w):K_ uh 5 #[] w (Bv w0 H L (N B)):=
 (dV.below w).mono λe w' ⟨he,hb⟩=>by
  obtain⟨b1,b2,b3,b4,b5⟩:=hb
  refine⟨he,⟨b1.trans m.os,b2.trans m.tape,b3.trans m.output,λk o hk=>?_,λp hp=>?_,m.nd⟩⟩
  .rw[b5 k (Af (m.imm k o hk))]
   exact m.imm k o hk
  .obtain⟨h1,h2⟩:=m.loc p hp
   exact⟨by rw[b5 _ (Af h1)];exact h1,h2⟩
theorem Lo (os:Os) (started:os.Started) (H:Type) (enc:T_×V_->H):ReturnsInHanded {} ui os 3 .any (Rows.shapeChecksSpec.pre6 enc uh f3 Rows.shapeChecksRow.domain G) (Rows.shapeChecksSpec.post enc uh f3 G B G G):=by
 refine returnsInHanded_of_change_sized (C:=ui) Tryz.own started A7 func3 (ChangeSpec.witness6 (enc:=enc) (C:=ui) G ⟨#[],#[.agg #[V X 0 0,V X 0 0,V X 0 0,V X 0 0,V X 0 0,V X 0 0,V X 0 0,V X 0 0],V X 0 0],[]⟩ 8 A7 A7 A7 A7) ?_;intro W base args ds gs before aa hW ak ah _;have ad:∀(j:Nat) t v,f3.params[j]?=O t->args[j]?=O v->Value.okWide uh W .any base t v:=aa;have ae:=hW;obtain⟨p,q,ag,hV,rfl,ao,an⟩:=hW;have hA:DataW.TrodAll enc uh W 0 (λ_=>B) B f3.params.toList args.toList ds p:=ag;rw[params3] at hA ad;obtain⟨v0,v1,d0,d1,p0,p1,rfl,rfl,rfl,h0,h1⟩:=trodAll_two hA;obtain⟨rfl,rfl⟩:=trodVars_none hV
 obtain⟨x,y,a1,a2,a3,a4,b1,b2,b3,b4,rfl,hx,hy,hs1,hs2⟩:=Zk (ad 0 29 v0 Z Z) h0 (λk hk=>by
  have:=List.all_eq_true.1 ah k (DataW.weights_mem_each (j:=0) (t:=29) (d:=d0) Z Z k hk)
  simpa using this)
 have lC:QP x/\QP y:=⟨hs1,hs2⟩;have h1':=h1;obtain⟨la,ln,lc,rfl⟩:=Go.WideShapes.okWide_slice underlying30 (ad 1 30 v1 Z Z);obtain⟨nf,ai⟩:=h1';obtain⟨cs,aj⟩:∃l,AX CB (CL W) (V la ln lc) l:=Sw ai;clear ag aa;simp only[List.append_nil] at ae;(refine(OQ eQ x y cs _ _ _ _ _ _ _ _ _ lC (AC.start W) hx hy aj).mono λe W' ⟨H',he,mN,hm⟩=>?_);subst he;have hb:=hm.below mN;(have lg:∀p∈p0++p1,p.block<W.heap.size:=λp hp=>ae.lt p hp);exact⟨_,Z,RW (pa:=p0++p1) (pv:=[]) ae (λ_ _ _=>trodAll_mk1 (shut_bool underlying4 B)) (λsp af=>trodAll_mk2 (WideElems.Trod_stays Tryz.laidOut A7 (o_ A7) h0 (λp hp=>hb.same (lg p (uj _ hp))) (λp hp=>af p (uj _ hp))) (WideElems.Trod_stays Tryz.laidOut A7 (o_ A7) h1 (λp hp=>hb.same (lg p (ul _ hp))) (λp hp=>af p (ul _ hp)))) (λ_ _=>rfl) (by simp) hb (ok_one A7 Z (okWide_bool_mk underlying4 B))⟩
theorem shapeChecks_holds:Rows.ShapeChecksSaid:=
 OpenClaim.holds_of_wide 3 f3 Z Z Z Z Z Z Z ⟨Z,Z,Z,Z,Z⟩ Z Z Z Z Z A7 func3 iR
  (o_ A7) (by unfold Func.isWrapper;first|(rw[p_ (by decide+kernel)];kernel_rfl)|(rw[n_ (by decide+kernel)];exact⟨Z,Z⟩))
  (λos started H enc _=>Lo os started H enc)
end
