/- Part 8: LEE LEO LEF LEG LDH LDK LDJ SSA LEP. -/
import Derived.Test.YtbioklhoolkhkacGreatJ07
namespace Go.Proofs.YtbioklhoolkhkacGreat
set_option maxRecDepth 100000
set_option maxHeartbeats 0
set_option linter.unusedVariables false
set_option linter.unusedSimpArgs false
set_option linter.unusedSectionVars false
open Go Go.RowKit
open _root_.Go.Proofs.Tryz renaming prog→uh
open _root_.ByteArray renaming empty→ui
open _root_.List renaming getElem?_eq_getElem→uj,nil_append→un,set_cons_zero→uq,set_cons_succ→ur,nodup_cons→ut,mem_cons→uu,cons_append→uv,setIfInBounds_toArray→uz,getElem_mem→vA,mem_iff_getElem→vB,not_mem_nil→vD,flatMap_cons→vF,flatMap_nil→vG,append_nil→vH,take_succ_eq_append_getElem→vI,take_of_length_le→vJ,length_cons→vN,length_nil→vP,toList_toArray→vQ,drop_succ_cons→vR,drop_zero→vS,pairwise_mergeSort→vU,mergeSort_perm→vV,mem_cons_of_mem→vW
open _root_.Nat renaming zero_le→ul,le_refl→uy,not_lt_zero→vL,lt_succ_iff_lt_or_eq→vM
open _root_.Bool renaming and_eq_true→um,eq_iff_iff→vE
open _root_.Go.Proofs.Tryz
open Option renaming some→O,none→X
open Bool renaming true→B,false→G
open Decidable renaming decide→T
open _root_.Go renaming Value→V_,World→W_,Calls→K_,execOp→x_,Operand→O_,Program→P_,TypeId→T_,run_underlying→u_,bodyPost_ret→b_,Ending→E_
open _root_.Go.Value renaming slice→V,int→Y,pointer→M,string→U,bool→N
open _root_.Go.IntKind renaming i64→I
open _root_.Go.Obj renaming cells→C
variable {H:Hp} {L:List (Nat×Obj)} {w w0:World}
theorem UN {H:Hp} {cs:List V_} {xs:List Aj} (h:Ai CV H cs xs):∀u∈cs,u.oneCell'=true:=
 h.oneCell λcs x hx u hu=>by
  have:=hx.1
  subst this
  simp only[Aj.cs,uu,vD,or_false] at hu
  rcases hu with rfl|rfl|rfl<;>rfl
def oG (x:AI) (w0:W_) (H:Hp) (L:List (Nat×Obj)) (e:E_) (w':W_):Prop:=∃H' vc vk vr vd,Bl H H'/\e= .returned (.agg #[vc,vk,vr,vd])/\Bz H' x vc vk vr vd/\AC w0 H' L w'
structure Re (x:AI):Prop where
 n:x.k.length<=4096/\x.c.length<=4096/\x.r.length<=4096/\x.d.length<=4096
 c:∀c∈x.k,c.f.length<=4096
 d:∀c∈x.d,c.i.length<=4096
 i:∀c∈x.d,∀i∈c.i,i.args.length<=4096/\i.go.length<=4096/\i.w.length<=4096
theorem Vt (x:AI) (vc vk vr vd:V_) (ah:Re x) (m:AC w0 H L w) (hx:Bz H x vc vk vr vd):K_ uh 24 #[.agg #[vc,vk,vr,vd]] w (oG x w0 H L):=by
 have HX:=A5 hx;have aa:=A5 ah.n;have bt:=A5 ah.c;have br:=A5 ah.d;have bq:=A5 ah.i;obtain⟨p1,q1,p2,q2,p3,q3,p4,q4,rfl,rfl,rfl,rfl,l1,l2,l3,l4⟩:=hx.shapes;clear hx ah;have m1:=m.alloc (IB x p1 q1 p2 q2 p3 q3 p4 q4);have m2:=m1.alloc (D6 (V X 0 0) (V X 0 0) (V X 0 0) (V X 0 0));generalize cn:(w.alloc (IB x p1 q1 p2 q2 p3 q3 p4 q4)).heap.size=zb at*;generalize cw:w.heap.size=ib at*;clear m1;have es:=m2.e1;go_enter func24,ntmps24;go_wp2_with fail;clear es;refine Da (F:=λw'=>Code.wp _ _ _ _ w') m2 ?_;clear m2 m;intro wr mr;refine B1 mr [⟨[0],λzb=> V (O ⟨(zb.getD 0 Ax).b,0,X⟩) 0 0,O ([],[],λzb d=>d.bl=[(d.b,C #[] 122)]),G⟩,VK (M (O ⟨ib,1,X⟩)),VK (V p2 x.c.length q2),⟨[3],λzb=>(zb.getD 0 Ax).v,O ([0],[],λzb d=>∃sb sc news,d.v= V sb x.c.length sc/\Ai CV H news x.c/\Ba 122 3 d.v x.c.length news d.bl),G⟩,⟨[4],λzb=> V (O ⟨(zb.getD 0 Ax).b,0,X⟩) 0 0,O ([],[],λzb d=>d.bl=[(d.b,C #[] 9)]),G⟩,VK (M (O ⟨ib,2,X⟩)),VK (V p3 x.r.length q3),⟨[7],λzb=>(zb.getD 0 Ax).v,O ([4],[],λzb d=>∃sb sc news,d.v= V sb x.r.length sc/\Ai Aq H news x.r/\Ba 9 1 d.v x.r.length news d.bl),G⟩,⟨[3,7],λzb=> .agg #[V X 0 0,(zb.getD 0 Ax).v,(zb.getD 1 Ax).v,V X 0 0],X,G⟩,⟨[9],λzb=> M (O ⟨(zb.getD 0 Ax).b,0,X⟩),O ([],[],λzb d=>d.bl=[(d.b,C #[V X 0 0,V X 0 0,V X 0 0,V X 0 0] 27)]),G⟩] (nf 3++[B]++nf 3++[B]++nf 1++[B]) ?_ ?_
 .refine⟨?_,AA,FH,?_,jr,AA,FH,?_,?_,?_,trivial⟩
  ·(refine Al.make _ _ Z Z Z λbs w hb m=>?_);show(x_ _ _).run _ _= .ok (.value (V (O ⟨w.heap.size,0,X⟩) 0 0)) (w.alloc (C #[] 122));exact Cp
  ·(refine Al.gen _ Z Z Z λbs w L2 hb m=>?_);have h0:(bs 0).bl=[((bs 0).b,C #[] 122)]:=hb.at 0 A7 Z Z;simp only[vF,vG,vH,h0,uv,un] at m;obtain⟨news,hch,lM⟩:=HX.out.k.src m;obtain⟨ii,i1,i2,i3,i4⟩:=info_parts (P:=uh) (e:=122) (z:= .agg #[U ui,U ui,Y I 0]) (size:=3) (bytes:=40) A7;obtain⟨v',w',hr,kF⟩:=Bn (P:=uh) 23 23 122 ii (.agg #[U ui,U ui,Y I 0]) 3 40 underlying23 i1 i2 i3 i4 Z AD (.slice (O ⟨(bs 0).b,0,X⟩) 0 0) 0 [] (AP.row m (uy _) AD Z Z) (V p2 x.c.length q2) x.c.length news lM Jh (UN hch) (by have:=aa.out.2.1;omega) (by have:=aa.out.2.1;unfold maxLen;omega);exact cJ
  ·(refine Al.gen _ Z Z Z λbs w L2 hb m=>?_);have h4:(bs 4).bl=[((bs 4).b,C #[] 9)]:=hb.at 4 A7 Z Z;simp only[vF,vG,vH,h4,uv,un] at m;obtain⟨news,hch,lM⟩:=HX.out.r.src m;obtain⟨ii,i1,i2,i3,i4⟩:=info_parts (P:=uh) (e:=9) (z:= U ui) (size:=1) (bytes:=16) A7;obtain⟨v',w',hr,kF⟩:=Bn (P:=uh) 24 24 9 ii (U ui) 1 16 underlying24 i1 i2 i3 i4 Z AD (.slice (O ⟨(bs 4).b,0,X⟩) 0 0) 0 [] (AP.row m (uy _) AD Z Z) (V p3 x.r.length q3) x.r.length news lM Jh dI (by have:=aa.out.2.2.1;omega) (by have:=aa.out.2.2.1;unfold maxLen;omega);exact cJ
  ·(refine Al.val Z Z Z λbs w hb m=>?_);show(x_ _ _).run _ _= .ok (.value (.agg #[V X 0 0,(bs 3).v,(bs 7).v,V X 0 0])) w;obtain⟨ch,cd,ck,e3,-,-⟩:∃sb sc news,(bs 3).v= V sb x.c.length sc/\Ai CV H news x.c/\Ba 122 3 (bs 3).v x.c.length news (bs 3).bl:=hb.at 3 A7 Z Z;obtain⟨cg,ca,cj,e7,-,-⟩:∃sb sc news,(bs 7).v= V sb x.r.length sc/\Ai Aq H news x.r/\Ba 9 1 (bs 7).v x.r.length news (bs 7).bl:=hb.at 7 A7 Z Z;rw[e3,e7];exact AT
  ·(refine Al.make _ _ Z Z Z λbs w hb m=>?_);show(x_ _ _).run _ _= .ok (.value (M (O ⟨w.heap.size,0,X⟩))) (w.alloc (C #[V X 0 0,V X 0 0,V X 0 0,V X 0 0] 27));exact Cp
 .intro bs wd hb md;replace md:=AC.like3 mr (bs 3).bl (bs 7).bl (bs 9).bl md;have bm:(bs 0).bl=[((bs 0).b,C #[] 122)]:=hb 0 _ _ Z Z;have bk:∃sb sc news,(bs 3).v= V sb x.c.length sc/\Ai CV H news x.c/\Ba 122 3 (bs 3).v x.c.length news (bs 3).bl:=hb 3 _ _ Z Z;have bj:(bs 4).bl=[((bs 4).b,C #[] 9)]:=hb 4 _ _ Z Z;have bh:∃sb sc news,(bs 7).v= V sb x.r.length sc/\Ai Aq H news x.r/\Ba 9 1 (bs 7).v x.r.length news (bs 7).bl:=hb 7 _ _ Z Z;have bf:(bs 9).bl=[((bs 9).b,C #[V X 0 0,V X 0 0,V X 0 0,V X 0 0] 27)]:=hb 9 _ _ Z Z;rw[bf] at md;(try simp only[uv,un] at md);simp only[vN,vP,Nat.reduceAdd,vQ,vR,vS];clear hb mr;obtain⟨x3,y3,n3,e3,ba,a3⟩:=bk;obtain⟨x7,y7,n7,e7,az,a7⟩:=bh;generalize (bs 9).b=ob at*;rw[e3,e7];rw[e3] at a3;rw[e7] at a7;obtain⟨H1,k1,g1,s3⟩:=(a3.join md).done ba Z Z;obtain⟨H2,k2,g2,s7⟩:=(a7.join k1).done (az.mono g1) Z Z;have Gq:=A5 (g1.trans g2);have S3:=A5 (s3.mono g2);have S7:=A5 s7;clear md k1 a3 a7 ba az s3 s7 g1 g2 bm bj e3 e7;have m4:=(((k2.set (i:=0) (v:= V X 0 0) .head).set (i:=1) (v:= V x3 x.c.length y3) .head).set (i:=2) (v:= V x7 x.r.length y7) .head).set (i:=3) (v:= V X 0 0) .head;simp only[uz,uq,ur] at m4;have es:=k2.eqs;simp only[BS,IB,D6,and_true] at es;have e4:=m4.eqs;simp only[BS,IB,D6,and_true] at e4;go_wp2_with fail;clear es e4;(go_loopw [4] (λi wr=>∃(k:Nat) (H2:Hp) (cv:V_) (cs:List V_) (Lc:List (Nat×Obj)),k<=x.k.length/\i= Y I k/\Hid (Bl H H2)/\Hid (AX CV H2 (V x3 x.c.length y3) x.c)/\Hid (AX Aq H2 (V x7 x.r.length y7) x.r)/\Ba 84 2 cv k cs Lc/\Hid (Ai B2 H2 cs (x.k.take k))/\AC w0 H2 ((ob,D6 cv (V x3 x.c.length y3) (V x7 x.r.length y7) (V X 0 0))::(zb,D6 (V X 0 0) (V X 0 0) (V X 0 0) (V X 0 0))::(ib,IB x p1 q1 p2 q2 p3 q3 p4 q4)::(Lc++L)) wr) (λi _=>x.k.length-(intOf i).toNat));case atStart=>exact⟨0,H2,_,[],[],ul _,Z,Gq,S3,S7,Ba.nil,A5 .nil,m4⟩
  case round=>
   clear m4 k2 Gq S3 S7;obtain⟨k,H2,cv,cs,Lc,hk,rfl,Gq,S3,S7,ar,af,mk⟩:=hrel;obtain⟨b,c',rfl,cu,cr⟩:=ar.shape;have HAC:=A5 ar;clear ar;have es:=mk.e1;by_cases lg:k<x.k.length
   .have lJ:(k:Int)<x.k.length:=A0;obtain⟨lu,off,sc,rfl,d1,d2,d3,hnm⟩:=(HX.out.mono Gq.out).c.getClass lg;have HTK:=A5 (vI lg);have HCF:=A5 (bt.out _ (vA lg));have HNM:=A5 hnm;generalize x.k[k]=c at*;obtain⟨sb,sk,rfl,_⟩:=d3.shape2;have D1:=A5 d1;have D2:=A5 d2;have D3:=A5 d3;clear d1 d2 d3 hnm;go_wp2_with fail;clear es;refine Da (F:=λw'=>Code.wp _ _ _ _ w') mk ?_;clear mk;intro bz mr;refine B1 mr [VK (M (O ⟨ob,0,X⟩)),VK (V b k c'),VK (M (O ⟨ib,0,X⟩)),VK (V (O ⟨lu,off,X⟩) x.k.length q1),VK (Y I k),VK (M (O ⟨lu,off+k*2,X⟩)),VK (M (O ⟨lu,off+k*2,X⟩)),VK (U c.name),⟨[8],λzb=> V (O ⟨(zb.getD 0 Ax).b,0,X⟩) 0 0,O ([],[],λzb d=>d.bl=[(d.b,C #[] 9)]),G⟩,VK (M (O ⟨ib,0,X⟩)),VK (V (O ⟨lu,off,X⟩) x.k.length q1),VK (Y I k),VK (M (O ⟨lu,off+k*2,X⟩)),VK (M (O ⟨lu,off+k*2+1,X⟩)),VK (V sb c.f.length sk),⟨[15],λzb=>(zb.getD 0 Ax).v,O ([8],[],λzb d=>∃sb sc news,d.v= V sb c.f.length sc/\Ai Aq H2 news c.f/\Ba 9 1 d.v c.f.length news d.bl),G⟩,⟨[15],λzb=> .agg #[U c.name,(zb.getD 0 Ax).v],X,G⟩,⟨[17],λzb=> V (O ⟨(zb.getD 0 Ax).b,0,X⟩) 1 1,O ([],[15],λzb d=>d.bl=[(d.b,C #[U c.name,(zb.getD 0 Ax).v] 84)]),G⟩] (nf 15++[B]++nf 1++[B]) ?_ ?_
    .refine⟨AA,FH,AA,FH,AA,AA,AA,LX,jr,AA,FH,AA,AA,AA,YM,?_,?_,?_,trivial⟩
     ·(refine Al.gen _ Z Z Z λbs w L2 hb m=>?_);have h8:(bs 8).bl=[((bs 8).b,C #[] 9)]:=hb.at 8 A7 Z Z;simp only[vF,vG,vH,h8,uv,un] at m;obtain⟨news,hch,lM⟩:=D3.out.src m;obtain⟨ii,i1,i2,i3,i4⟩:=info_parts (P:=uh) (e:=9) (z:= U ui) (size:=1) (bytes:=16) A7;obtain⟨v',w',hr,kF⟩:=Bn (P:=uh) 24 24 9 ii (U ui) 1 16 underlying24 i1 i2 i3 i4 Z AD (.slice (O ⟨(bs 8).b,0,X⟩) 0 0) 0 [] (AP.row m (uy _) AD Z Z) (V sb c.f.length sk) c.f.length news lM Jh dI (by have:=HCF.out;omega) (by have:=HCF.out;unfold maxLen;omega);exact cJ
     ·(refine Al.val Z Z Z λbs w hb m=>?_);show(x_ _ _).run _ _= .ok (.value (.agg #[U c.name,(bs 15).v])) w;exact nw
     ·(refine Al.make _ _ Z Z Z λbs w hb m=>?_);show(x_ _ _).run _ _= .ok (.value (V (O ⟨w.heap.size,0,X⟩) 1 1)) (w.alloc (C #[U c.name,(bs 15).v] 84));exact nw
    .intro bs wd hb md;replace md:=AC.like2 mr (bs 15).bl (bs 17).bl md;have bg:(bs 8).bl=[((bs 8).b,C #[] 9)]:=hb 8 _ _ Z Z;have aj:∃sb sc news,(bs 15).v= V sb c.f.length sc/\Ai Aq H2 news c.f/\Ba 9 1 (bs 15).v c.f.length news (bs 15).bl:=hb 15 _ _ Z Z;have ag:(bs 17).bl=[((bs 17).b,C #[U c.name,(bs 15).v] 84)]:=hb 17 _ _ Z Z;rw[ag] at md;(try simp only[uv,un] at md);simp only[vN,vP,Nat.reduceAdd,vQ,vR,vS];clear hb mr bg;obtain⟨ae,ad,cm,e15,ai,av⟩:=aj;generalize (bs 17).b=rb at*;rw[e15];rw[e15] at md av;clear ag e15;obtain⟨H3,k1,g1,ax⟩:=(av.join md).done ai Z Z;have G1:=A5 g1;have bo:=A5 ax;clear md av ai g1 ax;have mp:=(k1.perm Ah:AC _ _ (Lc++((rb,C #[U c.name,V ae c.f.length ad] 84)::(ob,D6 (V b k c') (V x3 x.c.length y3) (V x7 x.r.length y7) (V X 0 0))::(zb,D6 (V X 0 0) (V X 0 0) (V X 0 0) (V X 0 0))::(ib,IB x (O ⟨lu,off,X⟩) q1 p2 q2 p3 q3 p4 q4)::L)) _);clear k1;go_wp2_with (at_builtin;go_must (refine AG (w0:=w0) (H:=H3) (L:=(rb,C #[U c.name,V ae c.f.length ad] 84)::(ob,D6 (V b k c') (V x3 x.c.length y3) (V x7 x.r.length y7) (V X 0 0))::(zb,D6 (V X 0 0) (V X 0 0) (V X 0 0) (V X 0 0))::(ib,IB x (O ⟨lu,off,X⟩) q1 p2 q2 p3 q3 p4 q4)::L) Z _ _ 22 Z 84 2 40 (.agg #[U ui,V X 0 0]) underlying22 A7 Z AD (.slice b k c') k cs ?kF Z (V (O ⟨rb,0,X⟩) 1 1) 1 [U c.name,V ae c.f.length ad] ?lM Z ?hl ?h1 ?hb ?h63 ?_));(case kF=>exact HAC.out.join mp);(case lM=>exact Fr.loc (e:=84) (cs:=[U c.name,V ae c.f.length ad]) mp (by simp));(case hl=>rfl);(case h1=>intro u hu;simp only[uu,vD,or_false] at hu;rcases hu with rfl|rfl<;>rfl);(case hb=>have:=aa.out;omega);(case h63=>unfold maxLen;have:=aa.out;omega);intro v' w' kF;obtain⟨b5,c5,rfl,_,_⟩:=kF.shape;obtain⟨L5,h5,m5⟩:=kF.drop.split;have H5:=A5 h5;clear kF mp h5;have m6:=(m5.perm Ah:AC _ _ ((ob,D6 (V b k c') (V x3 x.c.length y3) (V x7 x.r.length y7) (V X 0 0))::(zb,D6 (V X 0 0) (V X 0 0) (V X 0 0) (V X 0 0))::(ib,IB x (O ⟨lu,off,X⟩) q1 p2 q2 p3 q3 p4 q4)::(L5++L)) _);clear m5;have m7:=m6.set (i:=0) (v:= V b5 (k+1) c5) .head;simp only[uz,uq,ur] at m7;have es:=m6.e1;go_wp2_with fail;clear es;go_roundw;(case rel=>exact⟨k+1,H3,_,cs++[U c.name,V ae c.f.length ad],L5,by omega,by go_num,A5 (Gq.out.trans G1.out),A5 (S3.out.mono G1.out),A5 (S7.out.mono G1.out),H5.out,A5 (by rw[HTK.out];exact(af.out.mono G1.out).append (Ai.cons (cs:=[U c.name,V ae c.f.length ad]) ⟨_,Z,HNM.out,bo.out⟩ Z .nil)),m7⟩);case measure=>exact BW
   .have hge:¬(k:Int)<x.k.length:=A0;have hch:=af.out;rw[vJ A0] at hch;obtain rfl:k=x.k.length:=A0;go_wp2_with fail;clear es;have mp:=(mk.perm Ah:AC _ _ (Lc++((ob,D6 (V b x.k.length c') (V x3 x.c.length y3) (V x7 x.r.length y7) (V X 0 0))::(zb,D6 (V X 0 0) (V X 0 0) (V X 0 0) (V X 0 0))::(ib,IB x p1 q1 p2 q2 p3 q3 p4 q4)::L)) _);obtain⟨H3,k1,g1,sC⟩:=(HAC.out.join mp).done hch Z Z;have G1:=A5 (Gq.out.trans g1);have SC:=A5 sC;have T3:=A5 (S3.out.mono g1);have T7:=A5 (S7.out.mono g1);clear mp mk hch g1 sC HAC af Gq S3 S7;obtain⟨r1,r2,r3,r4⟩:=aa.out;clear aa;(go_loopw [5] (λi wr=>∃(k:Nat) (H2:Hp) (dv:V_) (ds:List V_) (Ld:List (Nat×Obj)),k<=x.d.length/\i= Y I k/\Hid (Bl H H2)/\Hid (AX B2 H2 (V b x.k.length c') x.k)/\Hid (AX CV H2 (V x3 x.c.length y3) x.c)/\Hid (AX Aq H2 (V x7 x.r.length y7) x.r)/\Ba 78 4 dv k ds Ld/\Hid (Ai Ch H2 ds (x.d.take k))/\AC w0 H2 ((ob,D6 (V b x.k.length c') (V x3 x.c.length y3) (V x7 x.r.length y7) (dv))::(zb,D6 (V X 0 0) (V X 0 0) (V X 0 0) (V X 0 0))::(ib,IB x p1 q1 p2 q2 p3 q3 p4 q4)::(Ld++L)) wr) (λi _=>x.d.length-(intOf i).toNat));case atStart=>exact⟨0,H3,_,[],[],ul _,Z,G1,SC,T3,T7,Ba.nil,A5 .nil,k1⟩
    case round=>
     clear k1 G1 SC T3 T7;obtain⟨k,H2,dv,ds,Ld,hk,rfl,Gq,SC,T3,T7,aq,af,mk⟩:=hrel;obtain⟨b8,c8,rfl,da,cz⟩:=aq.shape;have bd:=A5 aq;clear aq;have es:=mk.e1;by_cases lg:k<x.d.length
     .have lJ:(k:Int)<x.d.length:=A0;obtain⟨lu,off,sc,rfl,d1,d2,d3,d4,d5,ay⟩:=(HX.out.mono Gq.out).d.getCode (uj lg);have HTK:=A5 (vI lg);have HCD:=A5 (br.out _ (vA lg));have bx:=A5 (bq.out _ (vA lg));have bw:=A5 ay;generalize x.d[k]=c at*;have cq:=d5.len63;obtain⟨sb,sk,rfl,_⟩:=d5.shape2;have D5:=A5 d5;have d1:=d1.cell mk;have d2:=d2.cell mk;have d3:=d3.cell mk;have d4:=d4.cell mk;have mA:=mk.alloc (C #[U c.name,Y I c.params,Y I c.g,V sb c.i.length sk] 78);have mB:=mA.alloc (C #[] 82);go_wp2_with fail;clear es;generalize bn:wr.heap.size=cb at*;rw[World.size_alloc,bn] at mB;obtain⟨La,ha,mC⟩:=(AP.row mB (uy _) AD Z Z:AP w0 H2 _ 82 8 (V (O ⟨cb+1,0,X⟩) 0 0) 0 [] _).split;clear mB mA mk d1 d2 d3 d4 d5 ay;have mD:=(mC.perm Ah:AC _ _ ((cb,C #[U c.name,Y I c.params,Y I c.g,V sb c.i.length sk] 78)::(ob,D6 (V b x.k.length c') (V x3 x.c.length y3) (V x7 x.r.length y7) (V b8 k c8))::(zb,D6 (V X 0 0) (V X 0 0) (V X 0 0) (V X 0 0))::(ib,IB x p1 q1 p2 q2 p3 q3 (O ⟨lu,off,X⟩) q4)::(La++(Ld++L))) _);clear mC;(go_loopw [7,8] (λv i8 wr=>∃(j:Nat) (H4:Hp) (ls:List V_) (Ll:List (Nat×Obj)),j<=c.i.length/\i8= Y I j/\Hid (Bl H2 H4)/\Ba 82 8 v j ls Ll/\Hid (Ai C1 H4 ls (c.i.take j))/\AC w0 H4 ((cb,C #[U c.name,Y I c.params,Y I c.g,V sb c.i.length sk] 78)::(ob,D6 (V b x.k.length c') (V x3 x.c.length y3) (V x7 x.r.length y7) (V b8 k c8))::(zb,D6 (V X 0 0) (V X 0 0) (V X 0 0) (V X 0 0))::(ib,IB x p1 q1 p2 q2 p3 q3 (O ⟨lu,off,X⟩) q4)::(Ll++(Ld++L))) wr) (λ_ i8 _=>c.i.length-(intOf i8).toNat));case atStart=>exact⟨0,H2,[],La,ul _,Z,A5 (Bl.refl _),ha,A5 .nil,mD⟩
      case round=>
       clear mD ha;obtain⟨j,H4,ls,Ll,hj,rfl,GJ,ao,bb,mj⟩:=hrel;obtain⟨g9,k9,rfl,hq1,hq2⟩:=ao.shape;have bc:=A5 ao;clear ao;have es:=mj.e1;by_cases hlj:j<c.i.length
       .have hljI:(j:Int)<c.i.length:=A0;obtain⟨pb,po,va,vg,vw,rfl,d0,d1,d2,d3,d4,d5,d6,d7,hr⟩:=(D5.out.mono GJ.out).getIns (uj hlj);have bp:=A5 (vI hlj);have bu:=A5 (bx.out _ (vA hlj));generalize c.i[j]=i at*;have HR:=A5 hr;obtain⟨t5,s5,t6,s6,t7,s7,rfl,rfl,rfl,-,-,-⟩:=hr.shapes;have d0:=d0.cell mj;have d1:=d1.cell mj;have d2:=d2.cell mj;have d3:=d3.cell mj;have d4:=d4.cell mj;have d5:=d5.cell mj;have d6:=d6.cell mj;have d7:=d7.cell mj;go_wp2_with fail;refine(UX i _ _ _ bu.out mj HR.out).mono ?_;rintro e wc ⟨H5,ua,ug,uw,g5,rfl,an,m5⟩;have G5:=A5 g5;have RI:=A5 an;obtain⟨x5,y5,x6,y6,x8,y8,rfl,rfl,rfl,-,-,-⟩:=an.shapes;clear es d0 d1 d2 d3 d4 d5 d6 d7 hr an g5 mj;unfold Ec;have mE:=m5.alloc (C #[Y .u8 i.op,Y I i.to,V x5 i.args.length y5,Y I i.n,Y I i.m,U i.name,V x6 i.go.length y6,V x8 i.w.length y8] 82);generalize cy:wc.heap.size=au at*;have mF:=(mE.perm Ah:AC _ _ (Ll++((au,C #[Y .u8 i.op,Y I i.to,V x5 i.args.length y5,Y I i.n,Y I i.m,U i.name,V x6 i.go.length y6,V x8 i.w.length y8] 82)::(cb,C #[U c.name,Y I c.params,Y I c.g,V (O ⟨pb,po,X⟩) c.i.length sk] 78)::(ob,D6 (V b x.k.length c') (V x3 x.c.length y3) (V x7 x.r.length y7) (V b8 k c8))::(zb,D6 (V X 0 0) (V X 0 0) (V X 0 0) (V X 0 0))::(ib,IB x p1 q1 p2 q2 p3 q3 (O ⟨lu,off,X⟩) q4)::(Ld++L))) _);go_wp2_with (at_builtin;go_must (refine AG (w0:=w0) (H:=H5) (L:=(au,C #[Y .u8 i.op,Y I i.to,V x5 i.args.length y5,Y I i.n,Y I i.m,U i.name,V x6 i.go.length y6,V x8 i.w.length y8] 82)::(cb,C #[U c.name,Y I c.params,Y I c.g,V (O ⟨pb,po,X⟩) c.i.length sk] 78)::(ob,D6 (V b x.k.length c') (V x3 x.c.length y3) (V x7 x.r.length y7) (V b8 k c8))::(zb,D6 (V X 0 0) (V X 0 0) (V X 0 0) (V X 0 0))::(ib,IB x p1 q1 p2 q2 p3 q3 (O ⟨lu,off,X⟩) q4)::(Ld++L)) Z _ _ 76 Z 82 8 120 (.agg #[Y .u8 0,Y I 0,V X 0 0,Y I 0,Y I 0,U ui,V X 0 0,V X 0 0]) underlying76 A7 Z AD (.slice g9 j k9) j ls ?kF Z (V (O ⟨au,0,X⟩) 1 1) 1 [Y .u8 i.op,Y I i.to,V x5 i.args.length y5,Y I i.n,Y I i.m,U i.name,V x6 i.go.length y6,V x8 i.w.length y8] ?lM Z ?hl ?h1 ?hb ?h63 ?_));(case kF=>exact bc.out.join mF);(case lM=>exact Fr.loc (e:=82) (cs:=[Y .u8 i.op,Y I i.to,V x5 i.args.length y5,Y I i.n,Y I i.m,U i.name,V x6 i.go.length y6,V x8 i.w.length y8]) mF (by simp));(case hl=>rfl);(case h1=>intro u hu;simp only[uu,vD,or_false] at hu;rcases hu with rfl|rfl|rfl|rfl|rfl|rfl|rfl|rfl<;>rfl);(case hb=>have:=HCD.out;omega);(case h63=>unfold maxLen;have:=HCD.out;omega);intro v' w' kF;obtain⟨b5,c5,rfl,_,_⟩:=kF.shape;obtain⟨L5,h5,m6⟩:=kF.drop.split;have aw:=A5 h5;clear kF mF mE m5 h5;have m7:=(m6.perm Ah:AC _ _ ((cb,C #[U c.name,Y I c.params,Y I c.g,V (O ⟨pb,po,X⟩) c.i.length sk] 78)::(ob,D6 (V b x.k.length c') (V x3 x.c.length y3) (V x7 x.r.length y7) (V b8 k c8))::(zb,D6 (V X 0 0) (V X 0 0) (V X 0 0) (V X 0 0))::(ib,IB x p1 q1 p2 q2 p3 q3 (O ⟨lu,off,X⟩) q4)::(L5++(Ld++L))) _);clear m6;go_wp2_with fail;go_roundw;(case rel=>exact⟨j+1,H5,ls++[Y .u8 i.op,Y I i.to,V x5 i.args.length y5,Y I i.n,Y I i.m,U i.name,V x6 i.go.length y6,V x8 i.w.length y8],L5,by omega,by go_num,A5 (GJ.out.trans G5.out),aw.out,A5 (by rw[bp.out];exact(bb.out.mono G5.out).append (Ai.cons (cs:=[Y .u8 i.op,Y I i.to,V x5 i.args.length y5,Y I i.n,Y I i.m,U i.name,V x6 i.go.length y6,V x8 i.w.length y8]) ⟨_,_,_,Z,RI.out⟩ Z .nil)),m7⟩);case measure=>exact BW
       .have cx:¬(j:Int)<c.i.length:=A0;have ak:=bb.out;rw[vJ A0] at ak;obtain rfl:j=c.i.length:=A0;have mp:=(mj.perm Ah:AC _ _ (Ll++((cb,C #[U c.name,Y I c.params,Y I c.g,V sb c.i.length sk] 78)::(ob,D6 (V b x.k.length c') (V x3 x.c.length y3) (V x7 x.r.length y7) (V b8 k c8))::(zb,D6 (V X 0 0) (V X 0 0) (V X 0 0) (V X 0 0))::(ib,IB x p1 q1 p2 q2 p3 q3 (O ⟨lu,off,X⟩) q4)::(Ld++L))) _);obtain⟨H5,k5,g5,sL⟩:=(bc.out.join mp).done ak Z Z;have G5:=A5 (GJ.out.trans g5);have SL:=A5 sL;have m6:=k5.set (i:=3) (v:= V g9 c.i.length k9) .head;simp only[uz,uq,ur] at m6;clear mp mj ak g5 sL;have e6:=m6.e1;have mE:=m6.alloc (C #[U c.name,Y I c.params,Y I c.g,V g9 c.i.length k9] 78);have lC:(wr.setCell ⟨cb,3,X⟩ (V g9 c.i.length k9)).heap.size=wr.heap.size:=(by simp[World.setCell]);rw[lC] at mE;generalize cp:wr.heap.size=rb at*;have mF:=(mE.perm Ah:AC _ _ (Ld++((rb,C #[U c.name,Y I c.params,Y I c.g,V g9 c.i.length k9] 78)::(cb,C #[U c.name,Y I c.params,Y I c.g,V g9 c.i.length k9] 78)::(ob,D6 (V b x.k.length c') (V x3 x.c.length y3) (V x7 x.r.length y7) (V b8 k c8))::(zb,D6 (V X 0 0) (V X 0 0) (V X 0 0) (V X 0 0))::(ib,IB x p1 q1 p2 q2 p3 q3 (O ⟨lu,off,X⟩) q4)::L)) _);go_wp2_with (at_builtin;go_must (refine AG (w0:=w0) (H:=H5) (L:=(rb,C #[U c.name,Y I c.params,Y I c.g,V g9 c.i.length k9] 78)::(cb,C #[U c.name,Y I c.params,Y I c.g,V g9 c.i.length k9] 78)::(ob,D6 (V b x.k.length c') (V x3 x.c.length y3) (V x7 x.r.length y7) (V b8 k c8))::(zb,D6 (V X 0 0) (V X 0 0) (V X 0 0) (V X 0 0))::(ib,IB x p1 q1 p2 q2 p3 q3 (O ⟨lu,off,X⟩) q4)::L) Z _ _ 25 Z 78 4 56 (.agg #[U ui,Y I 0,Y I 0,V X 0 0]) underlying25 A7 Z AD (.slice b8 k c8) k ds ?kF Z _ 1 [U c.name,Y I c.params,Y I c.g,V g9 c.i.length k9] ?lM Z ?hl ?h1 ?hb ?h63 ?_));(case kF=>exact bd.out.join mF);(case lM=>exact Fr.loc (e:=78) (cs:=[U c.name,Y I c.params,Y I c.g,V g9 c.i.length k9]) mF (by simp));(case h1=>exact⟨Z,Z,Z,Z⟩);(case hb=>omega);(case h63=>unfold maxLen;omega);intro v' w' kF;obtain⟨b5,c5,rfl,_,_⟩:=kF.shape;obtain⟨L5,h5,m7⟩:=kF.drop.drop.split;have aw:=A5 h5;clear kF mF mE m6 k5 h5 es e6;have m8:=(m7.perm Ah:AC _ _ ((ob,D6 (V b x.k.length c') (V x3 x.c.length y3) (V x7 x.r.length y7) (V b8 k c8))::(zb,D6 (V X 0 0) (V X 0 0) (V X 0 0) (V X 0 0))::(ib,IB x p1 q1 p2 q2 p3 q3 (O ⟨lu,off,X⟩) q4)::(L5++L)) _);have m9:=m8.set (i:=3) (v:= V b5 (k+1) c5) .head;simp only[uz,uq,ur] at m9;have es:=m8.e1;go_wp2_with fail;clear es;go_roundw;(case rel=>exact⟨k+1,H5,_,ds++[U c.name,Y I c.params,Y I c.g,V g9 c.i.length k9],L5,by omega,by go_num,A5 (Gq.out.trans G5.out),A5 (SC.out.mono G5.out),A5 (T3.out.mono G5.out),A5 (T7.out.mono G5.out),aw.out,A5 (by rw[HTK.out];exact(af.out.mono G5.out).append (Ai.cons (cs:=[U c.name,Y I c.params,Y I c.g,V g9 c.i.length k9]) ⟨_,Z,bw.out,SL.out⟩ Z .nil)),m9⟩);case measure=>exact BW
     .have hge:¬(k:Int)<x.d.length:=A0;have hch:=af.out;rw[vJ A0] at hch;obtain rfl:k=x.d.length:=A0;have mp:=mk.perm (Ah:((ob,IB x b c' x3 y3 x7 y7 b8 c8)::(zb,D6 (V X 0 0) (V X 0 0) (V X 0 0) (V X 0 0))::(ib,IB x p1 q1 p2 q2 p3 q3 p4 q4)::(Ld++L)).Perm (Ld++((ob,IB x b c' x3 y3 x7 y7 b8 c8)::(zb,D6 (V X 0 0) (V X 0 0) (V X 0 0) (V X 0 0))::(ib,IB x p1 q1 p2 q2 p3 q3 p4 q4)::L)));obtain⟨H5,k5,g5,sD⟩:=(bd.out.join mp).done hch Z Z;have R:=A5 (show Bz H5 x (V b x.k.length c') (V x3 x.c.length y3) (V x7 x.r.length y7) (V b8 x.d.length c8) from⟨SC.out.mono g5,T3.out.mono g5,T7.out.mono g5,sD⟩);have G5:=A5 (Gq.out.trans g5);have ns:=k5.n9;clear mp mk hch g5 sD;go_wp2_with fail;refine b_ (v:= .agg #[V b x.k.length c',V x3 x.c.length y3,V x7 x.r.length y7,V b8 x.d.length c8]) (by simp[results,results24,go_sem,es,ns];try rfl) Z ?_;exact⟨H5,_,_,_,_,G5.out,Z,R.out,Jp.done (ks:=[ob,zb,ib]) (by repeat (first|refine Jp.set (by simp) ?_|exact⟨[_,_,_],Z,k5⟩))⟩
def kj (x:AI) (w0:W_) (H:Hp) (L:List (Nat×Obj)) (e:E_) (w':W_):Prop:=∃H' t,Bl H H'/\e= .returned (N t)/\(t=B->Re x/\HJ x)/\AC w0 H' L w'
def QP (x:AI):Prop:=∀c∈x.d,c.i.length<=140737488351232
def MH (i:Bu):Prop:=i.args.length<=12/\i.go.length<=12/\i.w.length<=12
theorem QY (x:AI) (vc vk vr vd:V_) (lC:QP x) (m:AC w0 H L w) (hx:Bz H x vc vk vr vd):K_ uh 11 #[.agg #[vc,vk,vr,vd]] w (kj x w0 H L):=by
 have HX:=A5 hx;have bk:=A5 lC;clear lC;obtain⟨p1,q1,p2,q2,p3,q3,p4,q4,rfl,rfl,rfl,rfl,l1,l2,l3,l4⟩:=hx.shapes;clear hx;have m1:=m.alloc (IB x p1 q1 p2 q2 p3 q3 p4 q4);have es:=m1.e1;generalize bq:w.heap.size=ib at*;go_enter func11,ntmps11;by_cases h4:(16:Int)<x.d.length
 .go_wp2_with fail;exact UJ
 by_cases h1:(16:Int)<x.k.length
 .go_wp2_with fail;exact UJ
 by_cases h2:(16:Int)<x.c.length
 .go_wp2_with fail;exact UJ
 by_cases h3:(16:Int)<x.r.length
 .go_wp2_with fail;exact UJ
 have HN:=A5 (A0:x.d.length<=16/\x.k.length<=16/\x.c.length<=16/\x.r.length<=16);go_wp2_with fail;clear es h1 h2 h3 h4;(go_loopw [3,4] (λv3 v4 wr=>∃(k s:Nat),k<=x.d.length/\v4= Y I k/\v3= Y I s/\s<=2500/\Hid (∀j c,j<k->x.d[j]?=O c->c.i.length<=2500/\∀i∈c.i,MH i)/\AC w0 H ((ib,IB x p1 q1 p2 q2 p3 q3 p4 q4)::L) wr) (λ_ v4 _=>x.d.length-(intOf v4).toNat));case atStart=>exact⟨0,0,ul _,Z,Z,ul _,A5 (λj c hj=>a_ hj (vL _)),m1⟩
 case round=>
  clear m1;obtain⟨k,s,hk,rfl,rfl,hs,HB,mk⟩:=hrel;have es:=mk.e1;by_cases lg:k<x.d.length
  .have lJ:(k:Int)<x.d.length:=A0;obtain⟨pb,po,si,rfl,a1,a2,a3,a4,ao,-⟩:=HX.out.d.getCode (uj lg);have aj:=A5 (uj lg);have br:=bk.out _ (vA lg);generalize x.d[k]=c at*;have bm:=A5 ao;obtain⟨sb,sk,rfl,hl0,bd,-⟩:=ao;unfold maxLen at bd;have au:(c.i.length:Int)<=9223372036854775807:=A0;have a1:=a1.cell mk;have a2:=a2.cell mk;have a3:=a3.cell mk;have a4:=a4.cell mk;have mc:=mk.alloc (At c (V sb c.i.length sk));have az:=mc.e11;generalize bh:wr.heap.size=cb at*;have an:IntKind.i64.wrap ((s:Int)+(c.i.length:Int))=((s+c.i.length:Nat):Int):=(by rw[(A0:((s+c.i.length:Nat):Int)=(s:Int)+c.i.length)];exact IntWalk.i64_in _ A0);have HS:=A5 hs;obtain⟨s2,hs2⟩:∃s2,s+c.i.length=s2:=⟨_,Z⟩;have bn:=A5 hs2;rw[hs2] at an;clear hs2 hs;by_cases hA:(2500:Int)<s2
   .go_wp2_with fail;go_ret;exact⟨H,G,Bl.refl _,Z,(λh=>by cases h),mc.drop.drop⟩
   have ag:(¬(150:Int)<c.g\/((150:Int)<c.g/\¬c.g<=(250:Int)))\/((150:Int)<c.g/\c.g<=(250:Int)):=A0;(rcases ag with ag|⟨r1,r2⟩);rotate_left
   .go_wp2_with fail;go_ret;exact⟨H,G,Bl.refl _,Z,(λh=>by cases h),mc.drop.drop⟩
   rcases ag with r1|⟨r1,r2⟩
   all_goals (
    by_cases hD:(300:Int)<c.name.size
    .go_wp2_with fail;go_ret;exact⟨H,G,Bl.refl _,Z,(λh=>by cases h),mc.drop.drop⟩
    go_wp2_with fail
    clear es a1 a2 a3 a4 mk az an bh
    go_loopw [6] (λv6 wr=>∃(j:Nat),j<=c.i.length/\v6= Y I j/\Hid (∀t i,t<j->c.i[t]?=O i->MH i)/\AC w0 H ((cb,At c (V sb c.i.length sk))::(ib,IB x p1 q1 p2 q2 p3 q3 (O ⟨pb,po,X⟩) q4)::L) wr) (λv6 _=>c.i.length-(intOf v6).toNat)
    case atStart=>exact⟨0,ul _,Z,A5 (λt i ht=>a_ ht (vL _)),mc⟩
    case round=>
     clear mc
     obtain⟨j,hj,rfl,HT,mj⟩:=hrel
     have es:=mj.eqs
     simp only[BS,IB,D6,At] at es
     by_cases hlt2:j<c.i.length
     .have ad:(j:Int)<c.i.length:=A0;obtain⟨ub,uo,va,vg,vw,rfl,d0,d1,d2,d3,d4,d5,d6,d7,av⟩:=bm.out.getIns (uj hlt2);have bo:=A5 (uj hlt2);generalize c.i[j]=i at*;obtain⟨b5,c5,b6,c6,b7,c7,rfl,rfl,rfl,l5,l6,l7⟩:=av.shapes;clear av;have d0:=d0.cell mj;have d1:=d1.cell mj;have d2:=d2.cell mj;have d3:=d3.cell mj;have d4:=d4.cell mj;have d5:=d5.cell mj;have d6:=d6.cell mj;have d7:=d7.cell mj;have my:=mj.alloc (SB i b5 c5 b6 c6 b7 c7);have ay:=my.eqs;simp only[BS,SB,S8,EC,IB,D6,At] at ay;by_cases e1:(12:Int)<i.args.length
      .go_wp2_with fail;go_ret;exact⟨H,G,Bl.refl _,Z,(λh=>by cases h),my.drop.drop.drop⟩
      by_cases e2:(12:Int)<i.go.length
      .go_wp2_with fail;go_ret;exact⟨H,G,Bl.refl _,Z,(λh=>by cases h),my.drop.drop.drop⟩
      by_cases e3:(12:Int)<i.w.length
      .go_wp2_with fail;go_ret;exact⟨H,G,Bl.refl _,Z,(λh=>by cases h),my.drop.drop.drop⟩
      by_cases e4:(300:Int)<i.name.size
      .go_wp2_with fail;go_ret;exact⟨H,G,Bl.refl _,Z,(λh=>by cases h),my.drop.drop.drop⟩
      have HI:=A5 (show MH i from⟨by omega,by omega,by omega⟩);go_wp2_with fail;clear es ay d0 d1 d2 d3 d4 d5 d6 d7;go_roundw;(case rel=>exact⟨j+1,by omega,by go_num,A5 (λt i' ht aa=>by rcases vM.1 ht with ht|rfl;exact HT.out t i' ht aa;rw[bo.out] at aa;cases aa;exact HI.out),my.drop⟩);case measure=>exact BW
     .have ah:¬(j:Int)<c.i.length:=A0;go_wp2_with fail;clear es;go_roundw;case rel=>exact⟨k+1,s2,by omega,by go_num,Z,by omega,A5 (λt c' ht ai=>by rcases vM.1 ht with ht|rfl;exact HB.out t c' ht ai;rw[aj.out] at ai;cases ai;exact⟨by have:=bn.out;omega,λi hi=>by obtain⟨t,ht,rfl⟩:=vB.1 hi;exact HT.out t _ A0 (uj ht)⟩),mj.drop⟩
      case measure=>exact BW)
  .have hge:¬(k:Int)<x.d.length:=A0;have HALL:=A5 (show ∀c∈x.d,c.i.length<=2500/\∀i∈c.i,MH i from λc hc=>by obtain⟨t,ht,rfl⟩:=vB.1 hc;exact HB.out t _ A0 (uj ht));go_wp2_with fail;clear es HB;(go_loopw [8] (λv8 wr=>∃(j:Nat),j<=x.k.length/\v8= Y I j/\Hid (∀t c,t<j->x.k[t]?=O c->c.f.length<=8)/\AC w0 H ((ib,IB x p1 q1 p2 q2 p3 q3 p4 q4)::L) wr) (λv8 _=>x.k.length-(intOf v8).toNat));case atStart=>exact⟨0,ul _,Z,A5 (λt i ht=>a_ ht (vL _)),mk⟩
   case round=>
    clear mk;obtain⟨j,hj,rfl,HT,mj⟩:=hrel;have es:=mj.e1;by_cases hlt2:j<x.k.length
    .have ad:(j:Int)<x.k.length:=A0;obtain⟨pb,po,vf,rfl,d0,d1,hf,-⟩:=HX.out.c.getClassQ (uj hlt2);have aj:=A5 (uj hlt2);generalize x.k[j]=y at*;have bg:=hf.len63;obtain⟨fb,fk,rfl⟩:=hf.shape;have d1:=d1.cell mj;clear hf d0;by_cases e1:(8:Int)<y.f.length
     .go_wp2_with fail;go_ret;exact⟨H,G,Bl.refl _,Z,(λh=>by cases h),mj.drop⟩
     have HI:=A5 (A0:y.f.length<=8);go_wp2_with fail;clear es d1;go_roundw;(case rel=>exact⟨j+1,by omega,by go_num,A5 (λt i' ht aa=>by rcases vM.1 ht with ht|rfl;exact HT.out t i' ht aa;rw[aj.out] at aa;cases aa;exact HI.out),mj⟩);case measure=>exact BW
    .have ah:¬(j:Int)<x.k.length:=A0;have af:=A5 (show HJ x from λc hc i hi=>by have:=((HALL.out c hc).2 i hi).1;omega);have bb:=A5 (show Re x from⟨by have:=HN.out;omega,λc hc=>by obtain⟨t,ht,rfl⟩:=vB.1 hc;have:=HT.out t _ A0 (uj ht);omega,λc hc=>by have:=(HALL.out c hc).1;omega,λc hc i hi=>by have:=(HALL.out c hc).2 i hi;unfold MH at this;omega⟩);clear HT HALL;go_wp2_with (first|(go_at_call 26;refine(Iv x _ _ _ _ af.out mj HX.out).mono ?_;rintro e w2 ⟨H1,er,mN,rfl,ax,m2⟩;have bc:=A5 ax;have HLE:=A5 mN;clear ax mN es mj;have es:=m2.e1;cases aq:(er==0))|(go_at_call 30;have aw:=(show Gi x 0 from(eq_of_beq aq)▸bc.out).good14;have ba:=A5 (HX.out.mono HLE.out);refine(SS x _ _ _ _ aw.1 m2 ba.out).mono ?_;rintro e w5 ⟨ob,zs,rfl,ak,m5⟩;have HZ:=A5 ak;clear es m2 ak aq bc aw))
     .go_ret;exact⟨H1,B,HLE.out,Z,λ_=>⟨bb.out,af.out⟩,m2.drop⟩
     have bp:(x.d.length:Int)<=16:=EU;(go_loopw [10] (λv10 wr=>∃(i:Nat) (H3:Hp),i<=x.d.length/\v10= Y I i/\Hid (Bl H1 H3)/\AC w0 H3 ((ob,rI zs)::(ib,IB x p1 q1 p2 q2 p3 q3 p4 q4)::L) wr) (λv10 _=>x.d.length-(intOf v10).toNat));case atStart=>exact⟨0,H1,ul _,Z,A5 (Bl.refl _),m5⟩
     case round=>
      clear m5;obtain⟨t,H3,ht,rfl,HL3,mt⟩:=hrel;have es:=mt.e1;by_cases hlt3:t<x.d.length
      .have ar:(t:Int)<x.d.length:=A0;have hza:=ZH (zs:=zs) (a:=t) Sb;generalize zs[t]'Sb=u at*;by_cases hgt:(6000:Int)<u
       .go_wp2_with (go_at_call 31;refine(PJ x _ _ _ _ af.out mt (ba.out.mono HL3.out)).mono ?_;rintro e w6 ⟨H4,bj,ae,rfl,m6⟩;have HL4:=A5 ae;clear ae es mt;cases hq4:(bj==0))
        .go_roundw;(case rel=>exact⟨t+1,H4,by omega,by go_num,A5 (HL3.out.trans HL4.out),m6⟩);case measure=>exact BW
        .go_ret;exact⟨H4,G,HLE.out.trans (HL3.out.trans HL4.out),Z,(λh=>by cases h),m6.drop.drop⟩
       .go_wp2_with fail;clear es hza;go_roundw;(case rel=>exact⟨t+1,H3,by omega,by go_num,HL3,mt⟩);case measure=>exact BW
      .have bf:¬(t:Int)<x.d.length:=A0;go_wp2_with fail;go_ret;exact⟨H3,B,HLE.out.trans HL3.out,Z,λ_=>⟨bb.out,af.out⟩,mt.drop.drop⟩
def lE (x y:AI) (w0:W_) (H:Hp) (L:List (Nat×Obj)) (e:E_) (w':W_):Prop:=∃H' a1 a2 a3 a4 b1 b2 b3 b4,Bl H H'/\e= .returned (.agg #[a1,a2,a3,a4,b1,b2,b3,b4])/\Bz H' x a1 a2 a3 a4/\Bz H' y b1 b2 b3 b4/\AC w0 H' L w'
theorem Wj (x y:AI) (a1 a2 a3 a4 b1 b2 b3 b4:V_) (af:Re x) (ae:Re y) (m:AC w0 H L w) (hx:Bz H x a1 a2 a3 a4) (hy:Bz H y b1 b2 b3 b4):K_ uh 6 #[.agg #[a1,a2,a3,a4,b1,b2,b3,b4]] w (lE x y w0 H L):=by have HX:=A5 hx;have HY:=A5 hy;obtain⟨p1,q1,p2,q2,p3,q3,p4,q4,rfl,rfl,rfl,rfl,-,-,-,-⟩:=hx.shapes;obtain⟨p5,q5,p6,q6,p7,q7,p8,q8,rfl,rfl,rfl,rfl,-,-,-,-⟩:=hy.shapes;clear hx hy;have m1:=m.alloc (C #[(V p1 x.k.length q1),(V p2 x.c.length q2),(V p3 x.r.length q3),(V p4 x.d.length q4),(V p5 y.k.length q5),(V p6 y.c.length q6),(V p7 y.r.length q7),(V p8 y.d.length q8)] 29);have m2:=m1.alloc (C #[V X 0 0,V X 0 0,V X 0 0,V X 0 0,V X 0 0,V X 0 0,V X 0 0,V X 0 0] 33);generalize ag:(w.alloc (C #[(V p1 x.k.length q1),(V p2 x.c.length q2),(V p3 x.r.length q3),(V p4 x.d.length q4),(V p5 y.k.length q5),(V p6 y.c.length q6),(V p7 y.r.length q7),(V p8 y.d.length q8)] 29)).heap.size=zb at*;generalize ah:w.heap.size=pb at*;have m3:=(m2.perm Ah:AC _ _ ((pb,C #[(V p1 x.k.length q1),(V p2 x.c.length q2),(V p3 x.r.length q3),(V p4 x.d.length q4),(V p5 y.k.length q5),(V p6 y.c.length q6),(V p7 y.r.length q7),(V p8 y.d.length q8)] 29)::(zb,C #[V X 0 0,V X 0 0,V X 0 0,V X 0 0,V X 0 0,V X 0 0,V X 0 0,V X 0 0] 33)::L) _);clear m1 m2 m;have es:=m3.e0;go_enter func6,ntmps6;go_wp2_with fail;clear es;refine Da (F:=λw'=>Code.wp _ _ _ _ w') m3 ?_;clear m3;intro wr mr;refine A6.start (λw'=>∃H9 L9,AC w0 H9 ((pb,C #[(V p1 x.k.length q1),(V p2 x.c.length q2),(V p3 x.r.length q3),(V p4 x.d.length q4),(V p5 y.k.length q5),(V p6 y.c.length q6),(V p7 y.r.length q7),(V p8 y.d.length q8)] 29)::L9) w') 8 A7 ?_;have md:=mr.drew;clear mr;generalize wr.drew=W at*;have HS:∃H9 L9,AC w0 H9 ((pb,C #[(V p1 x.k.length q1),(V p2 x.c.length q2),(V p3 x.r.length q3),(V p4 x.d.length q4),(V p5 y.k.length q5),(V p6 y.c.length q6),(V p7 y.r.length q7),(V p8 y.d.length q8)] 29)::L9) W:=⟨_,_,md⟩;refine A6.tk (i:=0) Z HS Yo ?_;simp only[AO];refine A6.tk (i:=1) Z HS Yo ?_;simp only[AO];refine A6.tk (i:=3) Z HS Yo ?_;simp only[AO];refine A6.tk (i:=4) Z HS Yo ?_;simp only[AO];(refine A6.call (i:=2) A7 Z A7 λK hK=>?_);go_simp;refine(Vt x _ _ _ _ af md HX.out).mono ?_;rintro e w2 ⟨H2,c1,c2,c3,c4,g2,rfl,ad,m2⟩;have I2:=A5 ad;obtain⟨u1,r1,u2,r2,u3,r3,u4,r4,rfl,rfl,rfl,rfl,-,-,-,-⟩:=ad.shapes;clear md HS ad;refine hK _ _ (.inr ⟨_,_,m2⟩) ?_;clear hK K;(try simp only[AO]);(refine A6.call (i:=5) A7 Z A7 λK hK=>?_);go_simp;refine(Vt y _ _ _ _ ae m2 (HY.out.mono g2)).mono ?_;rintro e w3 ⟨H3,d1,d2,d3,d4,g3,rfl,aa,m3⟩;have I3:=A5 aa;obtain⟨t1,s1,t2,s2,t3,s3,t4,s4,rfl,rfl,rfl,rfl,-,-,-,-⟩:=aa.shapes;clear m2 aa;refine hK _ _ (.inr ⟨_,_,m3⟩) ?_;clear hK K;(try simp only[AO]);refine A6.one (i:=6) A7 (A6.op Z A7 λK hK=>?_);go_simp;refine hK _ _ (.inr ⟨_,_,m3⟩) ?_;clear hK K;(try simp only[AO]);have m4:=(m3.perm Ah:AC _ _ ((zb,C #[V X 0 0,V X 0 0,V X 0 0,V X 0 0,V X 0 0,V X 0 0,V X 0 0,V X 0 0] 33)::(pb,C #[(V p1 x.k.length q1),(V p2 x.c.length q2),(V p3 x.r.length q3),(V p4 x.d.length q4),(V p5 y.k.length q5),(V p6 y.c.length q6),(V p7 y.r.length q7),(V p8 y.d.length q8)] 29)::L) _);have es:=m4.e0;have ns:=m4.n9;refine A6.one (i:=7) A7 (A6.op Z A7 λK hK=>?_);go_simp;have m5:=((((((((m4.set (i:=0) (v:= V u1 x.k.length r1) .head).set (i:=1) (v:= V u2 x.c.length r2) .head).set (i:=2) (v:= V u3 x.r.length r3) .head).set (i:=3) (v:= V u4 x.d.length r4) .head).set (i:=4) (v:= V t1 y.k.length s1) .head).set (i:=5) (v:= V t2 y.c.length s2) .head).set (i:=6) (v:= V t3 y.r.length s3) .head).set (i:=7) (v:= V t4 y.d.length s4) .head);simp only[uz,uq,ur] at m5;have m6:=(m5.perm Ah:AC _ _ ((pb,C #[(V p1 x.k.length q1),(V p2 x.c.length q2),(V p3 x.r.length q3),(V p4 x.d.length q4),(V p5 y.k.length q5),(V p6 y.c.length q6),(V p7 y.r.length q7),(V p8 y.d.length q8)] 29)::(zb,C #[V u1 x.k.length r1,V u2 x.c.length r2,V u3 x.r.length r3,V u4 x.d.length r4,V t1 y.k.length s1,V t2 y.c.length s2,V t3 y.r.length s3,V t4 y.d.length s4] 33)::L) _);refine hK _ _ (.inr ⟨_,_,m6⟩) ?_;clear hK K;(try simp only[AO]);refine A6.done A7 ?_ _;have e5:=m5.e0;go_wp2_with fail;refine b_ (v:= .agg #[V u1 x.k.length r1,V u2 x.c.length r2,V u3 x.r.length r3,V u4 x.d.length r4,V t1 y.k.length s1,V t2 y.c.length s2,V t3 y.r.length s3,V t4 y.d.length s4]) (by simp[results,results6,go_sem,e5];try rfl) Z ?_;exact⟨H3,_,_,_,_,_,_,_,_,g2.trans g3,Z,I2.out.mono g3,I3.out,m5.drop.drop⟩
theorem RD (x y:AI) (a1 a2 a3 a4 b1 b2 b3 b4 c1 c2 c3 c4 d1 d2 d3 d4:V_) (m:AC w0 H L w) (hx:Bz H x a1 a2 a3 a4) (hy:Bz H y b1 b2 b3 b4) (ad:Bz H x c1 c2 c3 c4) (aa:Bz H y d1 d2 d3 d4):K_ uh 9 #[.agg #[a1,a2,a3,a4,b1,b2,b3,b4],.agg #[c1,c2,c3,c4,d1,d2,d3,d4]] w (Bv w0 H L (N B)):=by have HX:=A5 hx;have HY:=A5 hy;have KX:=A5 ad;have KY:=A5 aa;obtain⟨p1,q1,p2,q2,p3,q3,p4,q4,rfl,rfl,rfl,rfl,-,-,-,-⟩:=hx.shapes;obtain⟨p5,q5,p6,q6,p7,q7,p8,q8,rfl,rfl,rfl,rfl,-,-,-,-⟩:=hy.shapes;obtain⟨n1,z1,n2,z2,n3,z3,n4,z4,rfl,rfl,rfl,rfl,-,-,-,-⟩:=ad.shapes;obtain⟨n5,z5,n6,z6,n7,z7,n8,z8,rfl,rfl,rfl,rfl,-,-,-,-⟩:=aa.shapes;clear hx hy ad aa;have m1:=m.alloc (C #[(V p1 x.k.length q1),(V p2 x.c.length q2),(V p3 x.r.length q3),(V p4 x.d.length q4),(V p5 y.k.length q5),(V p6 y.c.length q6),(V p7 y.r.length q7),(V p8 y.d.length q8)] 29);have m2:=m1.alloc (C #[(V n1 x.k.length z1),(V n2 x.c.length z2),(V n3 x.r.length z3),(V n4 x.d.length z4),(V n5 y.k.length z5),(V n6 y.c.length z6),(V n7 y.r.length z7),(V n8 y.d.length z8)] 33);generalize ae:(w.alloc (C #[(V p1 x.k.length q1),(V p2 x.c.length q2),(V p3 x.r.length q3),(V p4 x.d.length q4),(V p5 y.k.length q5),(V p6 y.c.length q6),(V p7 y.r.length q7),(V p8 y.d.length q8)] 29)).heap.size=zb at*;generalize af:w.heap.size=pb at*;clear m1 m;have es:=m2.e0;go_enter func9,ntmps9;go_wp2_with fail;refine(Pu x _ _ _ _ _ _ _ _ m2 KX.out HX.out).mono ?_;rintro e w3 ⟨rfl,m3⟩;clear es m2;have es:=m3.e0;go_wp2_with fail;refine(Pu y _ _ _ _ _ _ _ _ m3 KY.out HY.out).mono ?_;rintro e w4 ⟨rfl,m4⟩;clear es m3;go_wp2_with fail;go_ret;exact⟨Z,m4.drop.drop⟩
theorem Tw (v1 v2:V_) (xs:List AE) (m:AC w0 H L w) (h1:AX CB H v1 xs) (h2:AX CB H v2 xs):K_ uh 10 #[v1,v2] w (Bv w0 H L (N B)):=by
 have H1:=A5 h1;have H2:=A5 h2;obtain⟨b1,c1,rfl,_,hx1,_,_⟩:=h1;obtain⟨b2,c2,rfl,_,aa,_,_⟩:=h2;have hx1:=A9 hx1;have aa:=A9 aa;go_enter func10,ntmps10;go_wp2_with fail;(go_loopw [5] (λi wr=>∃k:Nat,k<=xs.length/\i= Y I k/\AC w0 H L wr) (λi _=>xs.length-(intOf i).toNat));case atStart=>exact⟨0,ul _,Z,m⟩
 case round=>
  obtain⟨k,hk,rfl,mk⟩:=hrel;by_cases lg:k<xs.length
  .obtain⟨q1,o1,rfl,d1,_⟩:=H1.out.getChange lg;obtain⟨q2,o2,rfl,d2,_⟩:=H2.out.getChange lg;have lJ:(k:Int)<xs.length:=A0;generalize xs[k]=c at*;have ad:=(d1 0 _ Z).cell mk;rw[Nat.add_zero] at ad;have ao:=(d1 1 _ Z).cell mk;have a12:=(d1 2 _ Z).cell mk;have an:=(d1 3 _ Z).cell mk;have ak:=(d1 4 _ Z).cell mk;have aj:=(d1 5 _ Z).cell mk;have ai:=(d1 6 _ Z).cell mk;have a20:=(d2 0 _ Z).cell mk;rw[Nat.add_zero] at a20;have a21:=(d2 1 _ Z).cell mk;have ah:=(d2 2 _ Z).cell mk;have ag:=(d2 3 _ Z).cell mk;have a24:=(d2 4 _ Z).cell mk;have af:=(d2 5 _ Z).cell mk;have ae:=(d2 6 _ Z).cell mk;clear d1 d2;go_wp2_with fail;go_quiet (fail);go_wp2_with fail;go_roundw;(case rel=>exact⟨k+1,by omega,by go_num,mk.drewN _⟩);case measure=>exact BW
  .exact Wn
def Sk (x y:AI) (cs:List AE) (w0:W_) (H:Hp) (L:List (Nat×Obj)) (e:E_) (w':W_):Prop:=
 ∃H' er,Bl H H'/\e= .returned (Y I er)/\UZ x y cs er/\AC w0 H' L w'
theorem Uk (x y:AI) (cs:List AE) (a1 a2 a3 a4 vc vk vr vd vl:V_) (ht:HJ x/\HJ y) (ho:(∀c∈x.d,∀i∈c.i,i.op<256)/\∀c∈y.d,∀i∈c.i,i.op<256) (m:AC w0 H L w) (hx:Bz H x a1 a2 a3 a4) (hy:Bz H y vc vk vr vd) (hl:AX CB H vl cs):K_ uh 7 #[.agg #[a1,a2,a3,a4],.agg #[vc,vk,vr,vd],vl] w (Sk x y cs w0 H L):=by
 have HX:=A5 hx;have HY:=A5 hy;have HV:=A5 hl;obtain⟨vb,ad,rfl,_⟩:=hl.shape2;obtain⟨p1,q1,p2,q2,p3,q3,p4,q4,rfl,rfl,rfl,rfl,_⟩:=hx.shapes;obtain⟨p5,q5,p6,q6,p7,q7,p8,q8,rfl,rfl,rfl,rfl,_⟩:=hy.shapes;have m1:=m.alloc (IB x p1 q1 p2 q2 p3 q3 p4 q4);have m2:=m1.alloc (IB y p5 q5 p6 q6 p7 q7 p8 q8);clear m1 hx hy hl;have es:=m2.e1;go_enter func7,ntmps7;go_wp2_with fail;refine(jd x y cs _ _ _ _ _ _ _ _ _ ht ho m2 HX.out HY.out HV.out).mono ?_;rintro e w2 ⟨H2,er,v,hg,rfl,aa,hv,m3⟩;have HO:=A5 aa;clear es aa ht ho
 obtain⟨s1,n1,k1,s2,n2,k2,s3,n3,k3,s4,n4,k4,s5,n5,k5,s6,n6,k6,s7,n7,k7,s8,n8,k8,s9,n9,k9,rfl⟩:∃s1 n1 k1 s2 n2 k2 s3 n3 k3 s4 n4 k4 s5 n5 k5 s6 n6 k6 s7 n7 k7 s8 n8 k8 s9 n9 k9,v= .agg #[V s1 n1 k1,V s2 n2 k2,V s3 n3 k3,V s4 n4 k4,V s5 n5 k5,V s6 n6 k6,V s7 n7 k7,V s8 n8 k8,V s9 n9 k9]:=by
  rcases hv with ⟨_,rfl⟩|⟨_,rfl⟩
  .exact eM
  .exact eM
 have m4:=m3.alloc (C #[V s1 n1 k1,V s2 n2 k2,V s3 n3 k3,V s4 n4 k4,V s5 n5 k5,V s6 n6 k6,V s7 n7 k7,V s8 n8 k8,V s9 n9 k9] 68);clear hv;go_wp2_with fail;go_ret;exact⟨H2,er,hg,Z,HO.out,m4.drop.drop.drop⟩
variable {α:Type} {xs:List α}
theorem KA (a b:ByteArray):(a.toList==b.toList)=T (a=b):=by rw[vE,beq_iff_eq,decide_eq_true_iff];exact AW a b
theorem Pt {α:Type} (f:α->ByteArray) (q:α->Bool) (a:ByteArray):∀l:List α,(l.map f).Nodup->l.any (λd=>T (f d=a)&&q d)=((l.find? (λd=>T (f d=a))).map q).getD G
 |[],_=>rfl
 |x::l,h=>by
  rw[List.map_cons,ut] at h
  rw[List.any_cons,List.find?_cons]
  by_cases hx:f x=a
  .simp only[hx,decide_true,Bool.true_and]
   have:l.any (λd=>T (f d=a)&&q d)=false:=by
    rw[List.any_eq_false]
    intro d hd he
    rw[um,decide_eq_true_iff] at he
    exact h.1 (by rw[hx,<-he.1];exact List.mem_map_of_mem hd)
   rw[this,Bool.or_false];rfl
  .simp only[hx,decide_false,Bool.false_and,Bool.false_or]
   exact Pt f q a l h.2
theorem Xn [DecidableEq α]:∀xs ys:List α,Fi (λa b=>T (a=b)) xs ys=T (xs=ys):=by
 intro xs ys;rw[vE,decide_eq_true_iff];constructor
 .intro h
  induction xs generalizing ys with
  |nil=>cases ys with
   |nil=>rfl
   |cons y ys=>cases h
  |cons x xs ih=>cases ys with
   |nil=>cases h
   |cons y ys=>
    unfold Fi at h
    rw[um,decide_eq_true_iff] at h
    rw[h.1,ih ys h.2]
 .rintro rfl;exact FW Z λk h1 h2=>by simp
theorem Xf (y:AI) (hy:(y.k.map AK.name).Nodup) (c:AK):Fy y c=IE y c:=by
 unfold Fy IE;have h:=Pt AK.name (λd=>Hl d.f c.f) c.name y.k hy;refine Eq.trans (?_:_=y.k.any (λd=>T (d.name=c.name)&&Hl d.f c.f)) (h.trans (by cases y.k.find? (λd=>T (d.name=c.name))<;>rfl));congr 1;funext d;unfold IT Hl;rw[KA,Xn];congr 1
 .exact decide_eq_decide.2 ⟨Eq.symm,Eq.symm⟩
 .exact decide_eq_decide.2 ⟨Eq.symm,Eq.symm⟩
theorem Qb (a b:Aj):DH a b=B↔a.kind=b.kind/\a.name=b.name/\a.parts=b.parts:=by unfold DH;rw[KA,KA,um,um,decide_eq_true_iff,decide_eq_true_iff,beq_iff_eq]
theorem ZQ (y:AI) (hy:(y.c.map Aj.name).Nodup) (c:Aj):Ic y c=FD y c:=by
 unfold Ic FD;have h:=Pt Aj.name (λd=>DH d c) c.name y.c hy;refine Eq.trans (?_:_=y.c.any (λd=>T (d.name=c.name)&&DH d c)) (h.trans (by cases y.c.find? (λd=>T (d.name=c.name))<;>rfl));congr 1;funext d;rw[vE,um,decide_eq_true_iff,Qb,Qb];constructor
 .rintro⟨h1,h2,h3⟩;exact⟨h2.symm,h1.symm,h2.symm,h3.symm⟩
 .rintro⟨_,h1,h2,h3⟩;exact⟨h1.symm,h2.symm,h3.symm⟩
theorem aN (y:AI) (c:AF):Hv y c=F5 y c:=by unfold Hv F5;rw[show(λd:AF=>d.name.toList==c.name.toList)=(λd:AF=>T (d.name=c.name)) from funext λd=>KA _ _];try rfl
theorem T9 (xs ys:List ByteArray):Cz xs=Cz ys↔xs.Perm ys:=by
 constructor
 .intro h;exact((LJ xs).symm.trans (by rw[h])).trans (LJ ys)
 .intro h;unfold Cz;congr 1;(have hp:=h.map λs:ByteArray=>s.data.toList);(have aa:∀a b c:List UInt8,T (a<=b)=B->T (b<=c)=B->T (a<=c)=true:=λa b c h1 h2=>t_ (List.le_trans (o_ h1) (o_ h2)));(have ad:∀a b:List UInt8,(T (a<=b)||T (b<=a))=true:=λa b=>by rw[Bool.or_eq_true,decide_eq_true_iff,decide_eq_true_iff];exact List.le_total a b);refine List.Perm.eq_of_pairwise (le:=λa b=>T (a<=b)=B) ?_ (vU aa ad _) (vU aa ad _) ((vV _ _).trans (hp.trans (vV _ _).symm));intro a b _ _ h1 h2;exact List.le_antisymm (o_ h1) (o_ h2)
theorem UU [DecidableEq α] {ys:List α} (hn:xs.Nodup) (hl:xs.length=ys.length) (hs:∀x∈xs,x∈ys):xs.Perm ys:=by
 induction xs generalizing ys with
 |nil=>rw[List.eq_nil_of_length_eq_zero hl.symm]
 |cons x xs ih=>
  rw[ut] at hn;have hx:=hs x List.mem_cons_self;refine(List.Perm.cons x (ih hn.2 ?_ λz hz=>?_)).trans (List.perm_cons_erase hx).symm
  .rw[List.length_erase_of_mem hx,<-hl];simp
  .exact(List.mem_erase_of_ne λe=>hn.1 (by rw[<-e];exact hz)).2 (hs z (vW _ hz))
theorem bZ (y:AI) (rs:List ByteArray) (hr:rs.Nodup):T (Cz rs=Cz y.r)=(T (rs.length=y.r.length)&&rs.all (Hq y)):=by
 rw[vE,um,decide_eq_true_iff,decide_eq_true_iff,T9,List.all_eq_true]
 have hm:∀s,Hq y s=B↔s∈y.r:=λs=>by
  unfold Hq;rw[decide_eq_true_iff];have:=Dq y.r s;constructor
  .intro h;exact Classical.byContradiction λhc=>by have:=this.2 hc;omega
  .intro h;exact Int.not_lt.1 λhc=>this.1 hc h
 constructor
 .intro h;exact⟨h.length_eq,λs hs=>(hm s).2 (h.mem_iff.1 hs)⟩
 .rintro⟨h1,h2⟩;exact UU hr h1 λs hs=>(hm s).1 (h2 s hs)
theorem dH (x y:AI) (hy:DL y=B) (cs:List AK) (rs:List ByteArray) (hr:rs.Nodup):Lu x y cs rs=GQ x y cs rs:=by unfold DL at hy;simp only[um] at hy;unfold Lu GQ;rw[bZ y rs hr,show Fy y=IE y from funext (Xf y (EJ hy.2.2.1)),show Ic y=FD y from funext (ZQ y (EJ hy.2.2.2.1)),show Hv y=F5 y from funext (aN y)];cases cs.all (IE y)<;>cases x.c.all (FD y)<;>cases x.d.all (F5 y)<;>simp
theorem SI {α:Type} [DecidableEq α]:∀(l:List α) (i:Nat) (a:α),l.Nodup->a ∉ l->(l.set i a).Nodup
 |[],_,_,_,_=>by simp
 |x::l,0,a,h,ha=>by
  rw[uq,ut]
  exact⟨λhm=>ha (vW _ hm),(ut.1 h).2⟩
 |x::l,i+1,a,h,ha=>by
  rw[ut] at h
  rw[uu,not_or] at ha
  rw[ur,ut]
  refine⟨λhm=>?_,SI l i a h.2 ha.2⟩
  rcases List.mem_or_eq_of_mem_set hm with hm|hm
  .exact h.1 hm
  .exact ha.1 hm.symm
theorem OH {aa:List ByteArray} (h:aa.Nodup) (c:AE):(Ar aa c).2.Nodup:=by
 unfold Ar;by_cases h1:0<=Aw aa c.name
 .have h1':¬Aw aa c.name<0:=A0;simp only[h1,h1',and_true,if_false];split
  .exact h
  split
  .exact h.sublist (List.eraseIdx_sublist _ _)
  split
  .exact h
  .rename_i h5;exact SI _ _ _ h ((Dq aa c.to).1 A0)
 .have h2:=(Dq aa c.name).1 A0;have h1':Aw aa c.name<0:=A0;simp only[h1,h1',and_false,if_false,if_true];split
  .rw[List.nodup_append];exact⟨h,by simp,λa ha b hb=>by rw[List.mem_singleton] at hb;subst hb;exact λe=>h2 (e▸ha)⟩
  .exact h
theorem BZ.done_nodup {x:BZ} (h:x.r.Nodup) (c:AE):(x.done c).2.r.Nodup:=by
 unfold BZ.done;split
 .exact h
 split
 .rw[LM];exact OH h c
 .rw[If];exact h
theorem BZ.apply_nodup:∀(cs:List AE) (x:BZ) (k:Nat),x.r.Nodup->(x.apply k cs).1.r.Nodup
 |[],x,k,h=>h
 |c::l,x,k,h=>by
  unfold BZ.apply
  split
  .exact h
  .exact BZ.apply_nodup l _ _ (BZ.done_nodup h c)
theorem U8 {x:BZ} (h:x.r.Nodup) (cs:List AE):(DA x cs).lay.r.Nodup:=by
 unfold DA;split
 .exact List.nodup_nil
 .exact BZ.apply_nodup cs x 0 h
def TA (x y:AI) (cs:List AE):Int:=if (DA ⟨x.k,x.r⟩ cs).e≠0 then (DA ⟨x.k,x.r⟩ cs).e else if GQ x y (DA ⟨x.k,x.r⟩ cs).lay.k (DA ⟨x.k,x.r⟩ cs).lay.r then 0 else 12
theorem Xt (x y:AI) (cs:List AE) (hx:DL x=B) (hy:DL y=B):TA x y cs=OD x y cs:=by unfold TA OD;unfold DL at hx;simp only[um] at hx;rw[dH x y hy _ _ (U8 (x:=⟨x.k,x.r⟩) (EJ hx.2.2.2.2.1) cs)]
theorem XO (x y:AI) (cs:List AE) (a1 a2 a3 a4 vc vk vr vd vl:V_) (ht:HJ x/\HJ y) (m:AC w0 H L w) (hx:Bz H x a1 a2 a3 a4) (hy:Bz H y vc vk vr vd) (hl:AX CB H vl cs):K_ uh 8 #[.agg #[a1,a2,a3,a4],.agg #[vc,vk,vr,vd],vl] w (Sk x y cs w0 H L):=by
 have HT:=A5 ht;have HX:=A5 hx;have HY:=A5 hy;have HV:=A5 hl;obtain⟨vb,ak,rfl,_⟩:=hl.shape2;obtain⟨p1,q1,p2,q2,p3,q3,p4,q4,rfl,rfl,rfl,rfl,_⟩:=hx.shapes;obtain⟨p5,q5,p6,q6,p7,q7,p8,q8,rfl,rfl,rfl,rfl,_⟩:=hy.shapes;have m1:=m.alloc (IB x p1 q1 p2 q2 p3 q3 p4 q4);have m2:=m1.alloc (IB y p5 q5 p6 q6 p7 q7 p8 q8);generalize an:(w.alloc (IB x p1 q1 p2 q2 p3 q3 p4 q4)).heap.size=yb at*;generalize ao:w.heap.size=xb at*;clear m1 hx hy hl ht;have es:=m2.e1;go_enter func8,ntmps8;go_wp2_with fail;refine(Iv x _ _ _ _ HT.out.1 m2 HX.out).mono ?_;rintro e w2 ⟨H1,e1,ai,rfl,af,m3⟩;have G1:=A5 ai;have K1:=A5 af;clear es ai af;by_cases he:e1=0;rotate_left
 .have aj:(e1 !=0)=true:=bne_iff_ne.2 he;have NE:=A5 he;clear he;go_wp2_with fail;go_ret;exact⟨H1,e1,G1.out,Z,.inl ⟨K1.out,NE.out⟩,m3.drop.drop⟩
 subst he;have es:=m3.e2;go_wp2_with fail;refine(Iv y _ _ _ _ HT.out.2 m3 (HY.out.mono G1.out)).mono ?_;rintro e w3 ⟨H2,e2,ah,rfl,ae,m4⟩;have G2:=A5 (G1.out.trans ah);have K2:=A5 ae;clear es ah ae;by_cases he:e2=0;rotate_left
 .have aj:(e2 !=0)=true:=bne_iff_ne.2 he;have NE:=A5 he;clear he;go_wp2_with fail;go_ret;exact⟨H2,e2,G2.out,Z,.inr (.inl ⟨K1.out,K2.out,NE.out⟩),m4.drop.drop⟩
 subst he;have es:=m4.e2;go_wp2_with fail;refine(Xc ⟨x.k,x.r⟩ _ _ _ cs (let h:=K1.out.lay;⟨Nat.le_trans h.r AD,h.k,h.f⟩) m4 (HX.out.mono G2.out).c (HX.out.mono G2.out).r (HV.out.mono G2.out)).mono ?_;rintro e w4 ⟨H3,v1,v2,rfl,ag,hs1,hs2,m5⟩;have aa:Hid (TA x y cs=if (DA ⟨x.k,x.r⟩ cs).e≠0 then (DA ⟨x.k,x.r⟩ cs).e else if GQ x y (DA ⟨x.k,x.r⟩ cs).lay.k (DA ⟨x.k,x.r⟩ cs).lay.r then 0 else 12):=A5 Z;have ad:=A5 (Xt x y cs K1.out.good.2 K2.out.good.2);generalize DA ⟨x.k,x.r⟩ cs=r at*;obtain⟨lay,n,er⟩:=r;have G3:=A5 (G2.out.trans ag);have S1:=A5 hs1;have S2:=A5 hs2;obtain⟨b1,k1,rfl,_⟩:=hs1.shape2;obtain⟨b2,k2,rfl,_⟩:=hs2.shape2;clear es ag hs1 hs2;dsimp only at*;by_cases he:er=0;rotate_left
 .have aj:(er !=0)=true:=bne_iff_ne.2 he;have NE:=A5 he;clear he;go_wp2_with fail;go_ret;exact⟨H3,er,G3.out,Z,.inr (.inr ⟨K1.out,K2.out,by rw[<-ad.out,aa.out,p_ NE.out]⟩),m5.drop.drop⟩
 subst he;have es:=m5.e2;go_wp2_with fail;refine(Wu x y lay.k lay.r _ _ _ _ _ _ _ _ _ _ m5 S1.out S2.out (HX.out.mono G3.out) (HY.out.mono G3.out)).mono ?_;rintro e w5 ⟨rfl,m6⟩;generalize GQ x y lay.k lay.r=q at*;clear es;cases q
 .go_wp2_with fail;go_ret;exact⟨H3,12,G3.out,Z,.inr (.inr ⟨K1.out,K2.out,by rw[<-ad.out,aa.out];rfl⟩),m6.drop.drop⟩
 .go_wp2_with fail;go_ret;exact⟨H3,0,G3.out,Z,.inr (.inr ⟨K1.out,K2.out,by rw[<-ad.out,aa.out];rfl⟩),m6.drop.drop⟩
def qw (w0:W_) (H:Hp) (L:List (Nat×Obj)) (p:Bool->Prop) (e:E_) (w':W_):Prop:=∃b,p b/\Bv w0 H L (N b) e w'
theorem OF (v:V_) (cs:List AE) (m:AC w0 H L w) (h1:AX CB H v cs):K_ uh 12 #[v] w (qw w0 H L λb=>b=B->cs.length<=64):=by
 have H1:=A5 h1;obtain⟨b1,c1,rfl,ad,hx1,_,_⟩:=h1;have hx1:=A9 hx1;go_enter func12,ntmps12;go_wp2_with fail;(go_loopw [3] (λi wr=>∃(k:Nat),k<=cs.length/\i= Y I k/\AC w0 H L wr) (λi _=>cs.length-(intOf i).toNat));case atStart=>exact⟨0,ul _,Z,m⟩
 case round=>
  clear m;obtain⟨k,hk,rfl,m⟩:=hrel;by_cases lg:k<cs.length
  .have lJ:(k:Int)<cs.length:=A0;obtain⟨lu,off,rfl,lx,hcf⟩:=H1.out.getChange lg;generalize cs[k]=c at*;have HCF:=A5 hcf;have z1:=hcf.name;have z2:=hcf.field;have z3:=hcf.to;have z4:=hcf.v.s;clear hcf;have a1:=(lx 1 _ Z).cell m;have a2:=(lx 2 _ Z).cell m;have a3:=(lx 3 _ Z).cell m;have a6:=(lx 6 _ Z).cell m;clear lx;by_cases g1:300<c.name.size
   .have ai:(300:Int)<c.name.size:=A0;go_wp2_with fail;exact TP
   have ai:¬(300:Int)<c.name.size:=A0;by_cases g2:300<c.field.size
   .have ah:(300:Int)<c.field.size:=A0;go_wp2_with fail;exact TP
   have ah:¬(300:Int)<c.field.size:=A0;by_cases g3:300<c.to.size
   .have ag:(300:Int)<c.to.size:=A0;go_wp2_with fail;exact TP
   have ag:¬(300:Int)<c.to.size:=A0;by_cases g4:300<c.v.s.size
   .have af:(300:Int)<c.v.s.size:=A0;go_wp2_with fail;exact TP
   have af:¬(300:Int)<c.v.s.size:=A0;go_wp2_with fail;go_roundw;(case rel=>exact⟨k+1,by omega,by go_num,m⟩);case measure=>exact BW
  .have hge:¬(k:Int)<cs.length:=A0;by_cases ae:cs.length<=64
   .have aa:(cs.length:Int)<=64:=A0;go_wp2_with fail;go_ret;exact⟨B,(by first|trivial|exact λ_=>ae),⟨Z,m⟩⟩
   have aa:¬(cs.length:Int)<=64:=A0;go_wp2_with fail;go_ret;exact⟨G,(by first|rfl|(intro h;cases h)),⟨Z,m⟩⟩
def qf (w0:W_) (H:Hp) (L:List (Nat×Obj)) (e:E_) (w':W_):Prop:=∃H',e= .returned (N B)/\Bl H H'/\AC w0 H' L w'
def na (x:AI):Prop:=Re x/\HJ x
theorem V8 {H:Hp} {vs:List V_} {xs:List AE} (h:Ai CB H vs xs):∀u∈vs,u.oneCell'=true:=
 h.oneCell λvs x hx u hu=>by
  obtain⟨rfl,_⟩:=hx
  simp only[AE.cs,uu,vD,or_false] at hu
  rcases hu with rfl|rfl|rfl|rfl|rfl|rfl|rfl<;>rfl
theorem Bz.ops {x:AI} {vc vk vr vd:V_} (h:Bz H x vc vk vr vd):∀c∈x.d,∀i∈c.i,i.op<256:=by intro c hc i hi;obtain⟨k,hk,rfl⟩:=vB.1 hc;obtain⟨b4,c4,e4,_⟩:=h.d.shape2;have hd:=h.d;rw[e4] at hd;obtain⟨pb,po,si,_,_,_,_,_,aa,_⟩:=hd.getCode (uj hk);obtain⟨j,hj,rfl⟩:=vB.1 hi;obtain⟨b5,c5,e5,_⟩:=aa.shape2;rw[e5] at aa;obtain⟨ub,uo,va,vg,vw,_,_,_,_,_,_,_,_,_,ad⟩:=aa.getIns (uj hj);exact ad.1.1
def cR (x y:AI) (cs:List AE) (w0:W_) (H:Hp) (L:List (Nat×Obj)) (e:E_) (w':W_):Prop:=∃H' t,Bl H H'/\e= .returned (N t)/\(t=B->na x/\na y/\cs.length<=64)/\AC w0 H' L w'
theorem Y7 (x y:AI) (cs:List AE) (a1 a2 a3 a4 b1 b2 b3 b4 vl:V_) (lC:QP x/\QP y) (m:AC w0 H L w) (hx:Bz H x a1 a2 a3 a4) (hy:Bz H y b1 b2 b3 b4) (hl:AX CB H vl cs):K_ uh 4 #[.agg #[a1,a2,a3,a4,b1,b2,b3,b4],vl] w (cR x y cs w0 H L):=by
 have HX:=A5 hx;have HY:=A5 hy;have HV:=A5 hl;have ae:=A5 lC;clear lC;obtain⟨p1,q1,p2,q2,p3,q3,p4,q4,rfl,rfl,rfl,rfl,-,-,-,-⟩:=hx.shapes;obtain⟨p5,q5,p6,q6,p7,q7,p8,q8,rfl,rfl,rfl,rfl,-,-,-,-⟩:=hy.shapes;clear hx hy hl;have m1:=m.alloc (C #[(V p1 x.k.length q1),(V p2 x.c.length q2),(V p3 x.r.length q3),(V p4 x.d.length q4),(V p5 y.k.length q5),(V p6 y.c.length q6),(V p7 y.r.length q7),(V p8 y.d.length q8)] 29);have es:=m1.e0;generalize ag:w.heap.size=pb at*;go_enter func4,ntmps4;go_wp2_with (first|(go_at_call 11;refine(QY x _ _ _ _ ae.out.1 m1 HX.out).mono ?_;rintro e w2 ⟨H1,t1,mN,rfl,ht,m2⟩;have HT:=A5 ht;have HLE:=A5 mN;clear ht mN es m1;have es:=m2.e0;cases t1)|(go_at_call 11;refine(QY y _ _ _ _ ae.out.2 m2 (HY.out.mono HLE.out)).mono ?_;rintro e w3 ⟨H2,t2,aa,rfl,ad,m3⟩;have af:=A5 ad;have HLE2:=A5 aa;clear ad aa es m2;have es:=m3.e0;cases t2)|(go_at_call 12;refine(OF _ cs m3 (HV.out.mono (HLE.out.trans HLE2.out))).mono ?_;rintro e w4 ⟨g,hg,rfl,m4⟩;have HG:=A5 hg;clear hg es m3))
 .go_ret;exact⟨H1,G,HLE.out,Z,(λh=>by cases h),m2.drop⟩
 .go_ret;exact⟨H2,G,HLE.out.trans HLE2.out,Z,(λh=>by cases h),m3.drop⟩
 go_ret;exact⟨H2,g,HLE.out.trans HLE2.out,Z,λh=>⟨HT.out (by trivial),af.out (by trivial),HG.out h⟩,m4.drop⟩
theorem OQ (af:∀(w0 w:W_) (H:Hp) (L:List (Nat×Obj)),AC w0 H L w->K_ uh 5 #[] w (Bv w0 H L (N B))) (x y:AI) (cs:List AE) (a1 a2 a3 a4 b1 b2 b3 b4 vl:V_) (lC:QP x/\QP y) (m:AC w0 H L w) (hx:Bz H x a1 a2 a3 a4) (hy:Bz H y b1 b2 b3 b4) (hl:AX CB H vl cs):K_ uh 3 #[.agg #[a1,a2,a3,a4,b1,b2,b3,b4],vl] w (qf w0 H L):=by
 have bc:=A5 af;have HX:=A5 hx;have HY:=A5 hy;have HV:=A5 hl;have bg:=A5 lC;clear lC;obtain⟨p1,q1,p2,q2,p3,q3,p4,q4,rfl,rfl,rfl,rfl,-,-,-,-⟩:=hx.shapes;obtain⟨p5,q5,p6,q6,p7,q7,p8,q8,rfl,rfl,rfl,rfl,-,-,-,-⟩:=hy.shapes;obtain⟨lb,lc,rfl,_⟩:=hl.shape2;clear hx hy hl af;have m1:=m.alloc (C #[(V p1 x.k.length q1),(V p2 x.c.length q2),(V p3 x.r.length q3),(V p4 x.d.length q4),(V p5 y.k.length q5),(V p6 y.c.length q6),(V p7 y.r.length q7),(V p8 y.d.length q8)] 29);have es:=m1.e0;generalize bm:w.heap.size=pb at*;go_enter func3,ntmps3;go_wp2_with (go_at_call 4;refine(Y7 x y cs _ _ _ _ _ _ _ _ _ bg.out m1 HX.out HY.out HV.out).mono ?_;rintro e w2 ⟨H1,t,mN,rfl,ht,m2⟩;have HT:=A5 ht;have HLE:=A5 mN;clear ht mN es m1;have es:=m2.e0;cases t)
 .go_wp2_with (go_at_call 5;refine(bc.out _ _ _ _ m2).mono ?_;rintro e w3 ⟨rfl,m3⟩);go_ret;exact⟨H1,Z,HLE.out,m3.drop⟩
 have ak:=HT.out (by trivial);have au:=A5 ak.1;have ar:=A5 ak.2.1;have bn:=ak.2.2;have bf:(cs.length:Int)<=64:=A0;clear ak HT;go_wp2_with (first|(go_at_call 6;refine(Wj x y _ _ _ _ _ _ _ _ au.out.1 ar.out.1 m2 (HX.out.mono HLE.out) (HY.out.mono HLE.out)).mono ?_;rintro e w3 ⟨H2,u1,u2,u3,u4,u5,u6,u7,u8,aj,rfl,aq,ao,m3⟩;have HLE2:=A5 (HLE.out.trans aj);have I1:=A5 aq;have I2:=A5 ao;obtain⟨g1,k1,g2,k2,g3,k3,g4,k4,rfl,rfl,rfl,rfl,-,-,-,-⟩:=aq.shapes;obtain⟨g5,k5,g6,k6,g7,k7,g8,k8,rfl,rfl,rfl,rfl,-,-,-,-⟩:=ao.shapes;clear aq ao aj es m2;have ma:=m3.alloc (C #[] 45);obtain⟨vs,hch,lM⟩:=(HV.out.mono HLE2.out).src ma;have an:=A5 hch;have HSR:=A5 lM;clear hch lM)|(at_builtin;go_must (refine AG (w0:=w0) (H:=H2) (L:=(pb,C #[(V p1 x.k.length q1),(V p2 x.c.length q2),(V p3 x.r.length q3),(V p4 x.d.length q4),(V p5 y.k.length q5),(V p6 y.c.length q6),(V p7 y.r.length q7),(V p8 y.d.length q8)] 29)::L) Z _ _ 30 Z 45 7 88 (.agg #[Y .u8 0,U ui,U ui,U ui,Y .u8 0,Y I 0,U ui]) underlying30 A7 Z AD (.slice (O ⟨w3.heap.size,0,X⟩) 0 0) 0 [] (AP.row ma (uy _) AD Z Z) Z (V lb cs.length lc) cs.length vs HSR.out Z (by rw[an.out.length];rfl) (V8 an.out) A0 CJ ?_)));intro v' W kF;(try simp only[Nat.zero_add,un] at kF);obtain⟨d3,e3,rfl,_,_⟩:=kF.shape;obtain⟨H3,m5,ai,av⟩:=kF.done (E:=CB) an.out Z Z;have bb:=A5 av;have aa:=A5 ai;clear kF av ai ma m3 HSR an;have m6:=m5.alloc (C #[V g1 x.k.length k1,V g2 x.c.length k2,V g3 x.r.length k3,V g4 x.d.length k4,V g5 y.k.length k5,V g6 y.c.length k6,V g7 y.r.length k7,V g8 y.d.length k8] 33);have es:=m6.e0;go_wp2_with (go_at_call 7;refine(Uk x y cs _ _ _ _ _ _ _ _ _ ⟨au.out.2,ar.out.2⟩ ⟨I1.out.ops,I2.out.ops⟩ m6 (I1.out.mono aa.out) (I2.out.mono aa.out) bb.out).mono ?_;rintro e w7 ⟨H7,er,ah,rfl,ax,m7⟩;have bh:=A5 ax;have ae:=A5 ah;clear ax ah es m6 m5;have es:=m7.e0);have az:=A5 (HX.out.mono (HLE2.out.trans (aa.out.trans ae.out)));have ay:=A5 (HY.out.mono (HLE2.out.trans (aa.out.trans ae.out)));have ba:=A5 (HV.out.mono (HLE2.out.trans (aa.out.trans ae.out)));go_wp2_with (go_at_call 8;refine(XO x y cs _ _ _ _ _ _ _ _ _ ⟨au.out.2,ar.out.2⟩ m7 az.out ay.out ba.out).mono ?_;rintro e w8 ⟨H8,bo,ag,rfl,aw,m8⟩;obtain rfl:=bh.out.unique aw;have ad:=A5 ag;clear aw ag es m7;have es:=m8.e0);go_wp2_with (go_at_call 9;refine(RD x y _ _ _ _ _ _ _ _ _ _ _ _ _ _ _ _ m8 (az.out.mono ad.out) (ay.out.mono ad.out) (I1.out.mono (aa.out.trans (ae.out.trans ad.out))) (I2.out.mono (aa.out.trans (ae.out.trans ad.out)))).mono ?_;rintro e w9 ⟨rfl,m9⟩;clear es m8;have es:=m9.e0);go_wp2_with (go_at_call 10;refine(Tw _ _ cs m9 (bb.out.mono (ae.out.trans ad.out)) (ba.out.mono ad.out)).mono ?_;rintro e bk ⟨rfl,m10⟩;clear es m9;have es:=m10.e0);go_wp2_with (go_at_call 5;refine(bc.out _ _ _ _ m10).mono ?_;rintro e bj ⟨rfl,bd⟩;clear es m10);go_ret;exact⟨H8,Z,HLE2.out.trans (aa.out.trans (ae.out.trans ad.out)),bd.drop.drop⟩
