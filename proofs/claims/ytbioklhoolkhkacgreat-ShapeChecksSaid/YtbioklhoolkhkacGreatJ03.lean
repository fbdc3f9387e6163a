/- Part 3: RCE RCF FLM RCG RCH SPH SPO FLF RegionK RCJ FLK RKA RKB RKC RKD RCI RKE PCA PCB PCC PCD PCE PCF PCG RegionL. -/
import Derived.Test.YtbioklhoolkhkacGreatJ02
namespace Go.Proofs.YtbioklhoolkhkacGreat
set_option maxRecDepth 100000
set_option maxHeartbeats 0
set_option linter.unusedVariables false
set_option linter.unusedSimpArgs false
set_option linter.unusedSectionVars false
open Go Go.RowKit
open _root_.Go.Proofs.Tryz renaming prog→uh
open _root_.List renaming getElem?_eq_getElem→ui,replicate→uj,range→ul,nil_append→um,append_assoc→uq,cons_append→ut,all_eq_true→uu,getD_eq_getElem?_getD→uv,drop_succ_cons→uz,drop_zero→vA,mem_range→vB,mem_of_getElem?→vE,getElem?_eq_some_iff→vF,mem_singleton→vG,toList_toArray→vJ,length_map→vM,take_of_length_le→vQ,flatMap_cons→vR,take_succ_eq_append_getElem→vS,map→vV,take_succ_cons→vW,take_zero→vX,getElem_mem→vY,mem_cons→vZ,getElem?_map→vh,range_succ→vp,ext_getElem→vq,mem_map→vt,length_append→vu,length_set→vz,append_nil→wA,not_mem_nil→wC,mem_append_left→wF,length_take→wG,map_append→wH,singleton_append→wJ,all_eq_false→wK,mem_or_eq_of_mem_set→wM,mem_iff_getElem→wN,map_congr_left→wP,mem_append→wQ,foldl_append→wS,all_append→wT,getElem_take→wU,filter_eq_self→wW,eq_of_mem_replicate→wX,map_set→wY,nodup_cons→wh,mem_append_right→wj,mem_filter→wl,filter_append→wo,filter_congr→wt,flatMap_nil→wu,getElem?_append_right→wv,getElem?_replicate→ww
open _root_.Nat renaming zero_le→un,le_refl→vD,zero_add→vI,add_zero→vv,not_lt_zero→vx,lt_succ_iff_lt_or_eq→vy,lt_or_ge→wB,sub_self→wI,lt_succ_self→wR,strongRecOn→wm
open _root_.Bool renaming and_eq_true→ur,true_and→vL,false_and→ve,eq_iff_iff→vm,or_eq_true→wD,and_false→wL,not_eq_true'→wV
open _root_.ByteArray renaming empty→uy
open _root_.Go.Region renaming wanted→vH,binds→wO,noSelect→wZ,waitsFor→we,seqB→wg,ready→wi
open _root_.Int renaming toNat_natCast→vN
open _root_.Go.World renaming size_alloc→vP
open _root_.Array renaming replicate→vU,getElem?_setIfInBounds_ne→wE
open _root_.Go.Obj renaming map→vj
open _root_.Go.Proofs.Tryz
open Option renaming some→O,none→X
open Bool renaming true→B,false→G
open Decidable renaming decide→T
open _root_.Go renaming Value→V_,World→W_,Calls→K_,execOp→x_,Operand→O_,Program→P_,TypeId→T_,run_underlying→u_,bodyPost_ret→b_,Ending→E_
open _root_.Go.Value renaming slice→V,int→Y,pointer→M,string→U,bool→N
open _root_.Go.IntKind renaming i64→I
open _root_.Go.Obj renaming cells→C
variable {H:Hp} {L:List (Nat×Obj)} {w w0:World}
abbrev At (c:AF) (v:V_):Obj:= C #[U c.name,Y I c.params,Y I c.g,v] 78
def Gm (c:AF) (v:V_):V_:= .agg #[U c.name,Y I c.params,Y I c.g,v]
theorem ke (a b:Int):(a==b)=T (a=b):=by rw[vm];simp
theorem Ty (t:Array V_) (h:t.size=162):∃u:Nat->V_,t=#[u 0,u 1,u 2,u 3,u 4,u 5,u 6,u 7,u 8,u 9,u 10,u 11,u 12,u 13,u 14,u 15,u 16,u 17,u 18,u 19,u 20,u 21,u 22,u 23,u 24,u 25,u 26,u 27,u 28,u 29,u 30,u 31,u 32,u 33,u 34,u 35,u 36,u 37,u 38,u 39,u 40,u 41,u 42,u 43,u 44,u 45,u 46,u 47,u 48,u 49,u 50,u 51,u 52,u 53,u 54,u 55,u 56,u 57,u 58,u 59,u 60,u 61,u 62,u 63,u 64,u 65,u 66,u 67,u 68,u 69,u 70,u 71,u 72,u 73,u 74,u 75,u 76,u 77,u 78,u 79,u 80,u 81,u 82,u 83,u 84,u 85,u 86,u 87,u 88,u 89,u 90,u 91,u 92,u 93,u 94,u 95,u 96,u 97,u 98,u 99,u 100,u 101,u 102,u 103,u 104,u 105,u 106,u 107,u 108,u 109,u 110,u 111,u 112,u 113,u 114,u 115,u 116,u 117,u 118,u 119,u 120,u 121,u 122,u 123,u 124,u 125,u 126,u 127,u 128,u 129,u 130,u 131,u 132,u 133,u 134,u 135,u 136,u 137,u 138,u 139,u 140,u 141,u 142,u 143,u 144,u 145,u 146,u 147,u 148,u 149,u 150,u 151,u 152,u 153,u 154,u 155,u 156,u 157,u 158,u 159,u 160,u 161]:=by obtain⟨u,hu⟩:=Ii t h;exact⟨u,hu⟩
theorem XT (x:AI) (c:AF) (i:Bu) (vc vk vr vd vi va vg vw:V_) (hreg:0<=c.g/\c.g<=9223372036854775807) (m:AC w0 H L w) (hx:Bz H x vc vk vr vd) (hd:AX C1 H vi c.i) (hi:Gj H i va vg vw):K_ uh 139 #[.agg #[vc,vk,vr,vd],Gm c vi,Ec i va vg vw] w (Bv w0 H L (N (Fh x c i))):=by
 have HX:=A5 hx;have HI:=A5 hi;obtain⟨b1,c1,b2,c2,b3,c3,b4,c4,rfl,rfl,rfl,rfl,l1,l2,l3,l4⟩:=hx.shapes;clear hx;obtain⟨b5,c5,b6,c6,b7,c7,rfl,rfl,rfl,l5,l6,l7⟩:=hi.shapes;clear hi;obtain⟨b8,c8,rfl,bg,l8,ax⟩:=hd;clear ax;have l8:(c.i.length:Int)<=9223372036854775807:=(by have:=A9 l8;omega);have m3:=((m.alloc (IB x b1 c1 b2 c2 b3 c3 b4 c4)).alloc (At c (V b8 c.i.length c8))).alloc (SB i b5 c5 b6 c6 b7 c7);simp only[vP] at m3;generalize bb:w.heap.size=xb at*;unfold Gm Ec;generalize hq:CR i.op i.m=q;obtain⟨bB,hB⟩:∃b,(if q.to=B then T (0<=i.to/\i.to<=c.g-1) else i.to== -1)=b:=⟨_,Z⟩;obtain⟨bC,hC⟩:∃b,(if q.number=B then T (q.low<=i.n/\i.n<=q.high) else i.n==0)=b:=⟨_,Z⟩;obtain⟨bD,hD⟩:∃b,(T (i.m=0\/(i.op=13/\i.m=1))&&((i.go.length:Int)==q.places))=b:=⟨_,Z⟩;obtain⟨bE,hE⟩:∃b,(i.args.all (λr=>T (0<=r/\r<=c.g-1))&&(i.go.all (λp=>T (0<=p/\p<=(c.i.length:Int)-1))&&(Eu i.w c.g c.i.length&&(if i.op=66 then T ((1:Int)<=i.w.length/\(i.w.length:Int)<=4) else T (i.w.length=0)))))=b:=⟨_,Z⟩;have hins:Fh x c i=((T (q.word≠uy)&&Ca x i q)&&(bB&&(bC&&(bD&&bE)))):=(by rw[<-hB,<-hC,<-hD,<-hE,<-hq];unfold Fh F6;simp only[ke]);rw[hins];clear hins;have HB:=A5 hB;have HC:=A5 hC;have HD:=A5 hD;have HE:=A5 hE;clear hB hC hD hE;generalize ak:((T (q.word≠uy)&&Ca x i q)&&(bB&&(bC&&(bD&&bE))))=res;have HRES:=A5 ak;clear ak;have es:=m3.e5;go_enter func139,ntmps139;refine TS (De 4) (λa W=>a.defers=[]/\a.tmps.size=162/\∃xq:Nat,a.tmps[3]?=O (M (O ⟨xb,0,X⟩))/\a.tmps[4]?=O (M (O ⟨xb+1,0,X⟩))/\a.tmps[5]?=O (M (O ⟨xb+1+1,0,X⟩))/\a.tmps[6]?=O (N G)/\a.tmps[7]?=O (M (O ⟨xq,0,X⟩))/\res=(bB&&(bC&&(bD&&bE)))/\AC w0 H ((xq,Ew q)::(xb+1+1,SB i b5 c5 b6 c6 b7 c7)::(xb+1,At c (V b8 c.i.length c8))::(xb,IB x b1 c1 b2 c2 b3 c3 b4 c4)::L) W) ?_ ?_
 .intro K key;simp only[CN,uq,ut,um,vW,vX];intro K1 an;go_wp2_with fail;intro K2 aj;go_wp2_with fail;refine(R9 i.op HI.out.1.op i.m m3).mono ?_;rintro e w4 ⟨rfl,m4⟩;clear es;rw[hq];have m5:=m4.alloc (Ew q);have es:=m4.e5;unfold UV.val;go_wp2_with fail;intro K3 hK3;by_cases aa:q.word=uy
  .have hl:q.word.toList=[]:=(B5 _).2 aa;have hb:(q.word.toList==[])=true:=(by rw[hl];rfl);go_wp2_with fail;intro K4 hK4;go_wp2_with fail;all_goals (go_ret;exact⟨A8 (by rw[<-HRES.out];simp[aa]),(m4.alloc _).drop.drop.drop.drop⟩)
  (have hl:¬q.word.toList=[]:=λe=>aa ((B5 _).1 e));have hb:(q.word.toList==[])=false:=bF hl;have HW:=A5 aa;clear aa hl;go_wp2_with fail;refine(Zc x i q _ _ _ _ _ _ _ m5 HX.out HI.out).mono ?_;rintro e w6 ⟨rfl,m6⟩;clear es;have es:=m6.e5;cases lz:Ca x i q
  .go_wp2_with fail;intro K4 hK4;go_wp2_with fail;all_goals (go_ret;exact⟨A8 (by rw[<-HRES.out,lz];simp),m6.drop.drop.drop.drop⟩)
  .have ba:=A5 lz;clear lz;have av:res=(bB&&(bC&&(bD&&bE))):=(by rw[<-HRES.out,ba.out,t_ HW.out];rfl);go_wp2_with fail;intro K4 hK4;go_wp2_with fail;exact key _ _ ⟨Z,Z,w4.heap.size,by first|rfl|(simp only[a3];rfl)|(simp[a3];done),by first|rfl|(simp only[a4];rfl)|(simp[a4];done),by first|rfl|(simp only[a5];rfl)|(simp[a5];done),by first|rfl|(simp only[a6];rfl)|(simp[a6];done),by first|rfl|(simp only[a7];rfl)|(simp[a7];done),av,m6⟩
 rintro⟨tm,df⟩ W ⟨af,lC,xq,a3,a4,a5,a6,a7,ae,m6⟩;simp only at af lC a3 a4 a5 a6 a7;subst af;obtain⟨u,rfl⟩:=Ty tm lC;clear lC;have a3:u 3= M (O ⟨xb,0,X⟩):=Option.some.inj a3;have a4:u 4= M (O ⟨xb+1,0,X⟩):=Option.some.inj a4;have a5:u 5= M (O ⟨xb+1+1,0,X⟩):=Option.some.inj a5;have a6:u 6= N false:=Option.some.inj a6;have a7:u 7= M (O ⟨xq,0,X⟩):=Option.some.inj a7;have ad:=A5 ae;clear ae;have es:=m6.e5;simp only[CN,uq,ut,um,uz,vA];refine M9 2 (λa W=>a.defers=[]/\a.tmps.size=162/\∃xq:Nat,a.tmps[3]?=O (M (O ⟨xb,0,X⟩))/\a.tmps[4]?=O (M (O ⟨xb+1,0,X⟩))/\a.tmps[5]?=O (M (O ⟨xb+1+1,0,X⟩))/\a.tmps[6]?=O (N G)/\a.tmps[7]?=O (M (O ⟨xq,0,X⟩))/\res=(bC&&(bD&&bE))/\AC w0 H ((xq,Ew q)::(xb+1+1,SB i b5 c5 b6 c6 b7 c7)::(xb+1,At c (V b8 c.i.length c8))::(xb,IB x b1 c1 b2 c2 b3 c3 b4 c4)::L) W) ?_ ?_
 .intro K key;simp only[vW,vX];intro K1 an;go_wp2_with (go_at_call 137;refine BQ (AH _ _ _ _) ?_);all_goals (intro K2 aj;go_wp2_with (go_at_call 137;refine BQ (AH _ _ _ _) ?_))
  all_goals first
   |(simp only[LK];exact key _ _ ⟨Z,Z,xq,by first|rfl|(simp only[a3];rfl)|(simp[a3];done),by first|rfl|(simp only[a4];rfl)|(simp[a4];done),by first|rfl|(simp only[a5];rfl)|(simp[a5];done),by first|rfl|(simp only[a6];rfl)|(simp[a6];done),by first|rfl|(simp only[a7];rfl)|(simp[a7];done),(ad.out.trans (by rw[show bB=B by(have hz:=HB.out;rw[<-hz];clear hz;clear key es m6 m3 m HX HI HB HC HD HE HRES ad;first|(simp_all;done)|(simp_all;omega)|(simp_all;intros;omega)),vL])),m6⟩)
   |(go_ret;exact⟨A8 (by rw[ad.out,show bB=G by(have hz:=HB.out;rw[<-hz];clear hz;clear key es m6 m3 m HX HI HB HC HD HE HRES ad;first|(simp_all;done)|(simp_all;omega)|(simp_all;intros;omega)),ve]),m6.drop.drop.drop.drop⟩)
 clear es m6 ad;rintro⟨tm,df⟩ W ⟨af,lC,xq,a3,a4,a5,a6,a7,ae,m6⟩;simp only at af lC a3 a4 a5 a6 a7;subst af;obtain⟨u,rfl⟩:=Ty tm lC;clear lC;have a3:u 3= M (O ⟨xb,0,X⟩):=Option.some.inj a3;have a4:u 4= M (O ⟨xb+1,0,X⟩):=Option.some.inj a4;have a5:u 5= M (O ⟨xb+1+1,0,X⟩):=Option.some.inj a5;have a6:u 6= N false:=Option.some.inj a6;have a7:u 7= M (O ⟨xq,0,X⟩):=Option.some.inj a7;have ad:=A5 ae;clear ae;have es:=m6.e5;simp only[CN,uq,ut,um,uz,vA];refine M9 2 (λa W=>a.defers=[]/\a.tmps.size=162/\∃xq:Nat,a.tmps[3]?=O (M (O ⟨xb,0,X⟩))/\a.tmps[4]?=O (M (O ⟨xb+1,0,X⟩))/\a.tmps[5]?=O (M (O ⟨xb+1+1,0,X⟩))/\a.tmps[6]?=O (N G)/\a.tmps[7]?=O (M (O ⟨xq,0,X⟩))/\res=(bD&&bE)/\AC w0 H ((xq,Ew q)::(xb+1+1,SB i b5 c5 b6 c6 b7 c7)::(xb+1,At c (V b8 c.i.length c8))::(xb,IB x b1 c1 b2 c2 b3 c3 b4 c4)::L) W) ?_ ?_
 .intro K key;simp only[vW,vX];intro K1 an;go_wp2_with (go_at_call 137;refine BQ (AH _ _ _ _) ?_);all_goals (intro K2 aj;go_wp2_with (go_at_call 137;refine BQ (AH _ _ _ _) ?_))
  all_goals first
   |(simp only[LK];exact key _ _ ⟨Z,Z,xq,by first|rfl|(simp only[a3];rfl)|(simp[a3];done),by first|rfl|(simp only[a4];rfl)|(simp[a4];done),by first|rfl|(simp only[a5];rfl)|(simp[a5];done),by first|rfl|(simp only[a6];rfl)|(simp[a6];done),by first|rfl|(simp only[a7];rfl)|(simp[a7];done),(ad.out.trans (by rw[show bC=B by(have hz:=HC.out;rw[<-hz];clear hz;clear key es m6 m3 m HX HI HB HC HD HE HRES ad;first|(simp_all;done)|(simp_all;omega)|(simp_all;intros;omega)),vL])),m6⟩)
   |(go_ret;exact⟨A8 (by rw[ad.out,show bC=G by(have hz:=HC.out;rw[<-hz];clear hz;clear key es m6 m3 m HX HI HB HC HD HE HRES ad;first|(simp_all;done)|(simp_all;omega)|(simp_all;intros;omega)),ve]),m6.drop.drop.drop.drop⟩)
 clear es m6 ad;rintro⟨tm,df⟩ W ⟨af,lC,xq,a3,a4,a5,a6,a7,ae,m6⟩;simp only at af lC a3 a4 a5 a6 a7;subst af;obtain⟨u,rfl⟩:=Ty tm lC;clear lC;have a3:u 3= M (O ⟨xb,0,X⟩):=Option.some.inj a3;have a4:u 4= M (O ⟨xb+1,0,X⟩):=Option.some.inj a4;have a5:u 5= M (O ⟨xb+1+1,0,X⟩):=Option.some.inj a5;have a6:u 6= N false:=Option.some.inj a6;have a7:u 7= M (O ⟨xq,0,X⟩):=Option.some.inj a7;have ad:=A5 ae;clear ae;have es:=m6.e5;simp only[CN,uq,ut,um,uz,vA];refine M9 2 (λa W=>a.defers=[]/\a.tmps.size=162/\∃xq:Nat,a.tmps[3]?=O (M (O ⟨xb,0,X⟩))/\a.tmps[4]?=O (M (O ⟨xb+1,0,X⟩))/\a.tmps[5]?=O (M (O ⟨xb+1+1,0,X⟩))/\a.tmps[6]?=O (N G)/\a.tmps[7]?=O (M (O ⟨xq,0,X⟩))/\res=(bE)/\AC w0 H ((xq,Ew q)::(xb+1+1,SB i b5 c5 b6 c6 b7 c7)::(xb+1,At c (V b8 c.i.length c8))::(xb,IB x b1 c1 b2 c2 b3 c3 b4 c4)::L) W) ?_ ?_
 .intro K key;simp only[vW,vX];intro K1 an;go_wp2_with (go_at_call 137;refine BQ (AH _ _ _ _) ?_);all_goals (intro K2 aj;go_wp2_with (go_at_call 137;refine BQ (AH _ _ _ _) ?_))
  all_goals first
   |(simp only[LK];exact key _ _ ⟨Z,Z,xq,by first|rfl|(simp only[a3];rfl)|(simp[a3];done),by first|rfl|(simp only[a4];rfl)|(simp[a4];done),by first|rfl|(simp only[a5];rfl)|(simp[a5];done),by first|rfl|(simp only[a6];rfl)|(simp[a6];done),by first|rfl|(simp only[a7];rfl)|(simp[a7];done),(ad.out.trans (by rw[show bD=B by(have hz:=HD.out;rw[<-hz];clear hz;clear key es m6 m3 m HX HI HB HC HD HE HRES ad;first|(simp_all;done)|(simp_all;omega)|(simp_all;intros;omega)),vL])),m6⟩)
   |(go_ret;exact⟨A8 (by rw[ad.out,show bD=G by(have hz:=HD.out;rw[<-hz];clear hz;clear key es m6 m3 m HX HI HB HC HD HE HRES ad;first|(simp_all;done)|(simp_all;omega)|(simp_all;intros;omega)),ve]),m6.drop.drop.drop.drop⟩)
 clear es m6 ad;rintro⟨tm,df⟩ W ⟨af,lC,xq,a3,a4,a5,a6,a7,ae,m6⟩;simp only at af lC a3 a4 a5 a6 a7;subst af;obtain⟨u,rfl⟩:=Ty tm lC;clear lC;have a3:u 3= M (O ⟨xb,0,X⟩):=Option.some.inj a3;have a4:u 4= M (O ⟨xb+1,0,X⟩):=Option.some.inj a4;have a5:u 5= M (O ⟨xb+1+1,0,X⟩):=Option.some.inj a5;have a6:u 6= N false:=Option.some.inj a6;have a7:u 7= M (O ⟨xq,0,X⟩):=Option.some.inj a7;have es:=m6.e5;simp only[CN,uq,ut,um,uz,vA];have ag:=A5 (ae.trans HE.out.symm);clear ae HE;have bf:IntKind.i64.wrap (c.g-1)=c.g-1:=IntWalk.i64_in _ A0;have bd:IntKind.i64.wrap ((c.i.length:Int)-1)=(c.i.length:Int)-1:=IntWalk.i64_in _ A0;have bc:IntKind.i64.wrap ((i.w.length:Int)-1)=(i.w.length:Int)-1:=IntWalk.i64_in _ A0;intro K1 an;go_wp2_with fail;clear es;intro K2 aj;go_wp2_with fail;(go_loopw [8] (λi8 wr=>∃k:Nat,k<=i.args.length/\i8= Y I k/\(i.args.take k).all (λr=>T (0<=r/\r<=c.g-1))=B/\AC w0 H ((xq,Ew q)::(xb+1+1,SB i b5 c5 b6 c6 b7 c7)::(xb+1,At c (V b8 c.i.length c8))::(xb,IB x b1 c1 b2 c2 b3 c3 b4 c4)::L) wr) (λi8 _=>i.args.length-(intOf i8).toNat));case atStart=>exact⟨0,un _,Z,Z,m6⟩
 case round=>
  clear m6;obtain⟨k,hk,rfl,ly,m6⟩:=hrel;have HA:=A5 ly;clear ly;have es:=m6.e5;by_cases lg:k<i.args.length
  .have lJ:(k:Int)<i.args.length:=A0;obtain⟨lu,off,au,lx,-⟩:=HI.out.2.1.getI (ui lg);have HC:=A5 lx;clear lx;go_wp2_with fail;clear es;refine A6.start (λw'=>AC w0 H ((xq,Ew q)::(xb+1+1,SB i b5 c5 b6 c6 b7 c7)::(xb+1,At c (V b8 c.i.length c8))::(xb,IB x b1 c1 b2 c2 b3 c3 b4 c4)::L) w') 10 A7 ?_;have md:=m6.drew;clear m6;generalize wr.drew=W at*;have HS:AC w0 H ((xq,Ew q)::(xb+1+1,SB i b5 c5 b6 c6 b7 c7)::(xb+1,At c (V b8 c.i.length c8))::(xb,IB x b1 c1 b2 c2 b3 c3 b4 c4)::L) W:=md;refine A6.tk (i:=0) Z HS FV ?_;simp only[AO];refine A6.tk (i:=1) Z HS FV ?_;simp only[AO];refine A6.tk (i:=2) Z HS FV ?_;simp only[AO];refine A6.tk (i:=3) Z HS FV ?_;simp only[AO];refine A6.tk (i:=4) Z HS FV ?_;simp only[AO];refine A6.tk (i:=5) Z HS FV ?_;simp only[AO];refine A6.tk (i:=6) Z HS FV ?_;simp only[AO];refine A6.tk (i:=7) Z HS FV ?_;simp only[AO];(refine A6.call (i:=8) A7 Z A7 λK hK=>?_);go_simp;refine(AH _ _ _ _).mono ?_;rintro e w2 ⟨rfl,rfl⟩;generalize hb:T (0<=i.args[k]/\i.args[k]<=c.g-1)=b;refine hK _ _ (.inr md) ?_;clear hK K;(try simp only[AO]);refine A6.pu (i:=9) Z HS As ?_;simp only[AO];refine A6.done A7 ?_ _;clear HS;cases b
   .go_wp2_with fail;go_ret;exact⟨A8 (by rw[ag.out,B4 _ i.args k lg hb];first|rfl|simp),md.drop.drop.drop.drop⟩
   .go_wp2_with fail;exact gI
  .have hge:¬(k:Int)<i.args.length:=A0;have ah:i.args.all (λr=>T (0<=r/\r<=c.g-1))=true:=(by exact Xb);have ai:=A5 (ag.out.trans (by rw[ah,vL]));clear ag ah;have ag:=ai;clear ai HA;go_wp2_with fail;intro K3 hK3;go_wp2_with fail;clear es;clear hk lg hge;intro K2 aj;go_wp2_with fail;(go_loopw [9] (λi8 wr=>∃k:Nat,k<=i.go.length/\i8= Y I k/\(i.go.take k).all (λr=>T (0<=r/\r<=(c.i.length:Int)-1))=B/\AC w0 H ((xq,Ew q)::(xb+1+1,SB i b5 c5 b6 c6 b7 c7)::(xb+1,At c (V b8 c.i.length c8))::(xb,IB x b1 c1 b2 c2 b3 c3 b4 c4)::L) wr) (λi8 _=>i.go.length-(intOf i8).toNat));case atStart=>exact⟨0,un _,Z,Z,m6⟩
   case round=>
    clear m6;obtain⟨k,hk,rfl,ly,m6⟩:=hrel;have HA:=A5 ly;clear ly;have es:=m6.e5;by_cases lg:k<i.go.length
    .have lJ:(k:Int)<i.go.length:=A0;obtain⟨lu,off,au,lx,-⟩:=HI.out.2.2.1.getI (ui lg);have HC:=A5 lx;clear lx;go_wp2_with fail;clear es;refine A6.start (λw'=>AC w0 H ((xq,Ew q)::(xb+1+1,SB i b5 c5 b6 c6 b7 c7)::(xb+1,At c (V b8 c.i.length c8))::(xb,IB x b1 c1 b2 c2 b3 c3 b4 c4)::L) w') 11 A7 ?_;have md:=m6.drew;clear m6;generalize wr.drew=W at*;have HS:AC w0 H ((xq,Ew q)::(xb+1+1,SB i b5 c5 b6 c6 b7 c7)::(xb+1,At c (V b8 c.i.length c8))::(xb,IB x b1 c1 b2 c2 b3 c3 b4 c4)::L) W:=md;refine A6.tk (i:=0) Z HS FV ?_;simp only[AO];refine A6.tk (i:=1) Z HS FV ?_;simp only[AO];refine A6.tk (i:=2) Z HS FV ?_;simp only[AO];refine A6.tk (i:=3) Z HS FV ?_;simp only[AO];refine A6.tk (i:=4) Z HS FV ?_;simp only[AO];refine A6.tk (i:=5) Z HS FV ?_;simp only[AO];refine A6.tk (i:=6) Z HS FV ?_;simp only[AO];refine A6.tk (i:=7) Z HS FV ?_;simp only[AO];refine A6.tk (i:=8) Z HS FV ?_;simp only[AO];(refine A6.call (i:=9) A7 Z A7 λK hK=>?_);go_simp;refine(AH _ _ _ _).mono ?_;rintro e w2 ⟨rfl,rfl⟩;generalize hb:T (0<=i.go[k]/\i.go[k]<=(c.i.length:Int)-1)=b;refine hK _ _ (.inr md) ?_;clear hK K;(try simp only[AO]);refine A6.pu (i:=10) Z HS As ?_;simp only[AO];refine A6.done A7 ?_ _;clear HS;cases b
     .go_wp2_with fail;go_ret;exact⟨A8 (by rw[ag.out,B4 _ i.go k lg hb];first|rfl|simp),md.drop.drop.drop.drop⟩
     .go_wp2_with fail;exact gI
    .have hge:¬(k:Int)<i.go.length:=A0;have ah:i.go.all (λr=>T (0<=r/\r<=(c.i.length:Int)-1))=true:=(by exact Xb);have ai:=A5 (ag.out.trans (by rw[ah,vL]));clear ag ah;have ag:=ai;clear ai HA;go_wp2_with fail;intro K3 hK3;go_wp2_with fail;clear es;clear hk lg hge;intro K2 aj;go_wp2_with fail;(go_loopw [10] (λi8 wr=>∃k:Nat,k<=i.w.length/\i8= Y I k/\(ul k).all (λj=>match i.w[j]? with|some w=>Mu w c.g c.i.length (T (j+1=i.w.length))|none=>B)=B/\AC w0 H ((xq,Ew q)::(xb+1+1,SB i b5 c5 b6 c6 b7 c7)::(xb+1,At c (V b8 c.i.length c8))::(xb,IB x b1 c1 b2 c2 b3 c3 b4 c4)::L) wr) (λi8 _=>i.w.length-(intOf i8).toNat));case atStart=>exact⟨0,un _,Z,Z,m6⟩
     case round=>
      clear m6;obtain⟨k,hk,rfl,ly,m6⟩:=hrel;have HA:=A5 ly;clear ly;have es:=m6.e5;by_cases lg:k<i.w.length
      .have lJ:(k:Int)<i.w.length:=A0;obtain⟨lu,off,au,d0,d1,d2,d3,d4,lz⟩:=HI.out.2.2.2.getWay (ui lg);have D0:=A5 d0;have D1:=A5 d1;have D2:=A5 d2;have D3:=A5 d3;have D4:=A5 d4;have az:=A5 lz;clear d0 d1 d2 d3 d4 lz;go_wp2_with fail;clear es;refine A6.start (λw'=>AC w0 H ((xq,Ew q)::(xb+1+1,SB i b5 c5 b6 c6 b7 c7)::(xb+1,At c (V b8 c.i.length c8))::(xb,IB x b1 c1 b2 c2 b3 c3 b4 c4)::L) w') 18 A7 ?_;have md:=m6.drew;clear m6;generalize wr.drew=W at*;have HS:AC w0 H ((xq,Ew q)::(xb+1+1,SB i b5 c5 b6 c6 b7 c7)::(xb+1,At c (V b8 c.i.length c8))::(xb,IB x b1 c1 b2 c2 b3 c3 b4 c4)::L) W:=md;refine A6.tk (i:=0) Z HS KP ?_;simp only[AO];refine A6.tk (i:=1) Z HS KP ?_;simp only[AO];refine A6.tk (i:=2) Z HS KP ?_;simp only[AO];refine A6.tk (i:=3) Z HS KP ?_;simp only[AO];refine A6.tk (i:=4) Z HS KP ?_;simp only[AO];refine A6.tk (i:=5) Z HS KP ?_;simp only[AO];refine A6.tk (i:=6) Z HS KP ?_;simp only[AO];refine A6.tk (i:=7) Z HS KP ?_;simp only[AO];refine A6.tk (i:=8) Z HS KP ?_;simp only[AO];refine A6.tk (i:=9) Z HS KP ?_;simp only[AO];refine A6.tk (i:=10) Z HS KP ?_;simp only[AO];refine A6.tk (i:=11) Z HS KP ?_;simp only[AO];refine A6.tk (i:=12) Z HS KP ?_;simp only[AO];refine A6.tk (i:=13) Z HS KP ?_;simp only[AO];refine A6.tk (i:=14) Z HS KP ?_;simp only[AO];refine A6.tk (i:=15) Z HS KP ?_;simp only[AO];(refine A6.call (i:=16) A7 Z A7 λK hK=>?_);go_simp;refine(XY i.w[k] az.out c.g c.i.length _ hreg ⟨by omega,by omega⟩ md).mono ?_;rintro e w2 ⟨rfl,m2⟩;clear HS md;have aw:((k:Int)==(i.w.length:Int)-1)=T (k+1=i.w.length):=SQ;rw[aw];generalize hb:Mu i.w[k] c.g c.i.length (T (k+1=i.w.length))=b;refine hK _ _ (.inr m2) ?_;clear hK K;(try simp only[AO]);have HS:AC w0 H ((xq,Ew q)::(xb+1+1,SB i b5 c5 b6 c6 b7 c7)::(xb+1,At c (V b8 c.i.length c8))::(xb,IB x b1 c1 b2 c2 b3 c3 b4 c4)::L) w2:=m2;refine A6.pu (i:=17) Z HS As ?_;simp only[AO];refine A6.done A7 ?_ _;clear HS;have ar:i.w[k]?=O i.w[k]:=ui lg;cases b
       .go_wp2_with fail;go_ret;refine⟨A8 ?_,m2.drop.drop.drop.drop⟩;have hw:Eu i.w c.g c.i.length=false:=(by unfold Eu;rw[wK];refine⟨k,vB.2 lg,?_⟩;rw[ar];simp[hb]);rw[ag.out,hw];first|rfl|simp
       .go_wp2_with fail;go_roundw;(case rel=>exact⟨k+1,by omega,by go_num,by rw[vp,wT,HA.out];simp[ar,hb],m2⟩);case measure=>exact BW
      .have hge:¬(k:Int)<i.w.length:=A0;have ah:Eu i.w c.g c.i.length=true:=(by have:=HA.out;rw[(A0:k=i.w.length)] at this;exact this);have ai:=A5 (ag.out.trans (by rw[ah,vL]));clear ag ah HA;go_wp2_with fail;intro K3 hK3;by_cases aq:i.op=66
       .have ao:((i.op:Int)==66)=true:=(by rw[aq];rfl);have ay:(i.op:Int)=66:=A0;go_wp2_with (go_at_call 137;refine BQ (AH _ _ _ _) ?_);intro K4 hK4;go_wp2_with (go_at_call 137;refine BQ (AH _ _ _ _) ?_);go_ret;exact⟨A8 (by rw[ai.out,p_ aq];first|rfl|(rw[vm];simp)),m6.drop.drop.drop.drop⟩
       .have ao:((i.op:Int)==66)=false:=bF A0;go_wp2_with (go_at_call 137;refine BQ (AH _ _ _ _) ?_);intro K4 hK4;go_wp2_with (go_at_call 137;refine BQ (AH _ _ _ _) ?_);intro K5 bj;go_wp2_with (go_at_call 137;refine BQ (AH _ _ _ _) ?_);intro K6 bh;go_wp2_with (go_at_call 137;refine BQ (AH _ _ _ _) ?_);go_ret;exact⟨A8 (by rw[ai.out,n_ aq];rw[vm];simp),m6.drop.drop.drop.drop⟩
variable {c k:Nat}
theorem AX.strsTake {b:Option Addr} {xs:List ByteArray} (h:AX Aq H (V b xs.length c) xs) (m:AC w0 H L w) (hk:k<=xs.length):Ir w (V b k c) (xs.take k):=by have hl:(xs.take k).length=k:=Nn;have h':=h;obtain⟨b',c',e,h1,h2,_,_⟩:=h';cases e;refine⟨b,c,by rw[hl],by omega,λi hi=>?_⟩;rw[hl] at hi;obtain⟨lu,off,e,hc,_⟩:=h.getStr (A0:i<xs.length);refine⟨lu,off,e,?_⟩;rw[wU];exact hc.cell m
theorem Dt (v:V_) (xs:List ByteArray) (m:AC w0 H L w) (h:AX Aq H v xs):K_ uh 135 #[v] w (Bv w0 H L (N (B9 xs))):=by
 have af:=A5 h;obtain⟨b,c,rfl,aj,hx,aa⟩:=h;clear aa;have ai:(xs.length:Int)<=9223372036854775807:=(by have:=A9 hx;omega);have ah:=A9 hx;go_enter func135,ntmps135;go_wp2_with fail;(go_loopw [3] (λi wr=>∃k:Nat,k<=xs.length/\i= Y I k/\(ul k).all (λk=>match xs[k]? with|some s=>B3 s&&T (Aw (xs.take k) s<0)|none=>B)=B/\AC w0 H L wr) (λi _=>xs.length-(intOf i).toNat));case atStart=>exact⟨0,un _,Z,Z,m⟩
 case round=>
  clear m;obtain⟨k,hk,rfl,ly,m⟩:=hrel;have HA:=A5 ly;clear ly;by_cases lg:k<xs.length
  .have lJ:(k:Int)<xs.length:=A0;have ak:k<=c:=A0;have ae:xs[k]?=O xs[k]:=ui lg;obtain⟨lu,off,ag,lx,lC⟩:=af.out.getStr lg;have HC:=A5 lx;have ad:=A5 ae;clear lx ae;go_wp2_with fail;refine A6.start (λw'=>AC w0 H L w') 17 A7 ?_;have md:=m.drew;clear m;generalize wr.drew=W at*;have HS:AC w0 H L W:=md;refine A6.tk (i:=0) Z HS JZ ?_;simp only[AO];refine A6.tk (i:=1) Z HS JZ ?_;simp only[AO];refine A6.tk (i:=2) Z HS JZ ?_;simp only[AO];refine A6.tk (i:=3) Z HS JZ ?_;simp only[AO];(refine A6.call (i:=4) A7 Z A7 λK hK=>?_);go_simp;refine(Bp xs[k] lC _).mono ?_;rintro e w2 ⟨rfl,rfl⟩;generalize hb:B3 xs[k]=bn;refine hK _ _ (.inr md) ?_;clear hK K;(try simp only[AO]);cases bn
   .refine A6.pu (i:=5) Z HS As ?_;simp only[AO];refine A6.pu (i:=6) Z HS As ?_;simp only[AO];refine A6.skip (i:=7) Z A7 A7 A7 AD (λ_ _ _ h=>h) A7 HS ?_;simp only[AO];refine A6.skip (i:=8) Z A7 A7 A7 AD (λ_ _ _ h=>h) A7 HS ?_;simp only[AO];refine A6.skip (i:=9) Z A7 A7 A7 AD (λ_ _ _ h=>h) A7 HS ?_;simp only[AO];refine A6.skip (i:=10) Z A7 A7 A7 AD (λ_ _ _ h=>h) A7 HS ?_;simp only[AO];refine A6.skip (i:=11) Z A7 A7 A7 AD (λ_ _ _ h=>h) A7 HS ?_;simp only[AO];refine A6.skip (i:=12) Z A7 A7 A7 AD (λ_ _ _ h=>h) A7 HS ?_;simp only[AO];refine A6.skip (i:=13) Z A7 A7 A7 AD (λ_ _ _ h=>h) A7 HS ?_;simp only[AO];refine A6.skip (i:=14) Z A7 A7 A7 AD (λ_ _ _ h=>h) A7 HS ?_;simp only[AO];refine A6.skip (i:=15) Z A7 A7 A7 AD (λ_ _ _ h=>h) A7 HS ?_;simp only[AO];refine A6.pu (i:=16) Z HS As ?_;simp only[AO];refine A6.done A7 ?_ _;clear HS;go_wp2_with fail;go_ret;refine⟨A8 ?_,md⟩;unfold B9;symm;rw[wK];exact⟨k,vB.2 lg,by rw[ad.out];simp[hb]⟩
   .refine A6.pu (i:=5) Z HS As ?_;simp only[AO];refine A6.pu (i:=6) Z HS As ?_;simp only[AO];refine A6.tk (i:=7) Z HS JZ ?_;simp only[AO];refine A6.tk (i:=8) Z HS JZ ?_;simp only[AO];refine A6.tk (i:=9) Z HS JZ ?_;simp only[AO];refine A6.tk (i:=10) Z HS JZ ?_;simp only[AO];refine A6.tk (i:=11) Z HS JZ ?_;simp only[AO];refine A6.tk (i:=12) Z HS JZ ?_;simp only[AO];refine A6.tk (i:=13) Z HS JZ ?_;simp only[AO];(refine A6.call (i:=14) A7 Z A7 λK hK=>?_);go_simp;(first|rw[<-ag]|skip);refine(Ge _ (xs.take k) xs[k] (af.out.strsTake md hk)).mono ?_;rintro e w2 ⟨rfl,rfl⟩;refine hK _ _ (.inr md) ?_;clear hK K;(try simp only[AO]);refine A6.pu (i:=15) Z HS As ?_;simp only[AO];refine A6.pu (i:=16) Z HS As ?_;simp only[AO];refine A6.done A7 ?_ _;clear HS;by_cases hp:Aw (xs.take k) xs[k]<0
    .have HP:=A5 hp;go_wp2_with fail;go_roundw;(case rel=>exact⟨k+1,by omega,by go_num,by rw[vp,wT,HA.out];simp only[List.all_cons,List.all_nil,ad.out,hb,t_ HP.out];rfl,md⟩);case measure=>exact BW
    .have HP:=A5 hp;go_wp2_with fail;go_ret;refine⟨A8 ?_,md⟩;unfold B9;symm;rw[wK];exact⟨k,vB.2 lg,by rw[ad.out];simp only[f_ (show ¬Aw (xs.take k) xs[k]<0 by have:=HP.out;omega),wL];simp⟩
  .have hge:¬(k:Int)<xs.length:=A0;go_wp2_with fail;go_ret;refine⟨A8 ?_,m⟩;have:=HA.out;rw[(A0:k=xs.length)] at this;exact this.symm
theorem Ub (x:AI) (vc vk vr vd:V_) (m:AC w0 H L w) (hx:Bz H x vc vk vr vd):K_ uh 99 #[.agg #[vc,vk,vr,vd]] w (Bv w0 H L (N (Cg x))):=by
 have HX:=A5 hx;obtain⟨b1,c1,b2,c2,b3,c3,b4,c4,rfl,rfl,rfl,rfl,l1,l2,l3,l4⟩:=hx.shapes;clear hx;have m1:=m.alloc (IB x b1 c1 b2 c2 b3 c3 b4 c4);have es:=m1.e1;generalize af:w.heap.size=xb at*;unfold Cg;by_cases hl:x.k.length<=40/\x.c.length<=40/\x.r.length<=40/\x.d.length<=80
 .obtain⟨g1,g2,g3,g4⟩:=hl;rw[t_ ⟨g1,g2,g3,g4⟩,vL];generalize aa:(x.d.all λc=>T (c.i.length<=2000/\c.g<=250))=res;have HRES:=A5 aa;clear aa;go_enter func99,ntmps99;have ak:¬(x.k.length:Int)>40:=A0;have aj:¬(x.c.length:Int)>40:=A0;have ai:¬(x.r.length:Int)>40:=A0;have ah:¬(x.d.length:Int)>80:=A0;go_wp2_with fail;(go_loopw [3] (λi wr=>∃k:Nat,k<=x.d.length/\i= Y I k/\(x.d.take k).all (λc=>T (c.i.length<=2000/\c.g<=250))=B/\AC w0 H ((xb,IB x b1 c1 b2 c2 b3 c3 b4 c4)::L) wr) (λi _=>x.d.length-(intOf i).toNat));case atStart=>exact⟨0,un _,Z,Z,m1⟩
  case round=>
   clear m1 es;obtain⟨k,hk,rfl,ly,m1⟩:=hrel;have es:=m1.e1;have HA:=A5 ly;clear ly;by_cases lg:k<x.d.length
   .have lJ:(k:Int)<x.d.length:=A0;obtain⟨lu,off,sv,ag,-,-,hr,hv,hs,hf⟩:=HX.out.d.getCode (ui lg);obtain⟨sb,sc,rfl,-,hm,-⟩:=hs;have hm:=A9 hm;have hr:=hr.cell m1;have hv:=hv.cell m1;by_cases q1:x.d[k].i.length<=2000
    .have ae:¬(x.d[k].i.length:Int)>2000:=A0;by_cases q2:x.d[k].g<=250
     .have ad:¬x.d[k].g>250:=A0;have HQ:=A5 (show T (x.d[k].i.length<=2000/\x.d[k].g<=250)=B from t_ ⟨q1,q2⟩);go_wp2_with fail;go_roundw;(case rel=>exact⟨k+1,by omega,by go_num,by rw[Bi _ _ _ lg,HA.out,HQ.out];rfl,m1⟩);case measure=>exact BW
     .have ad:x.d[k].g>250:=A0;have HQ:=A5 (show T (x.d[k].i.length<=2000/\x.d[k].g<=250)=G from f_ λh=>q2 h.2);go_wp2_with fail;exact jK
    .have ae:(x.d[k].i.length:Int)>2000:=A0;have HQ:=A5 (show T (x.d[k].i.length<=2000/\x.d[k].g<=250)=G from f_ λh=>q1 h.1);go_wp2_with fail;exact jK
   .have hge:¬(k:Int)<x.d.length:=A0;go_wp2_with fail;go_ret;refine⟨A8 ?_,m1.drop⟩;have:=HA.out;rw[vQ A0] at this;rw[<-HRES.out];exact this.symm
 .rw[f_ hl,ve];have hl2:(x.k.length:Int)>40\/(x.c.length:Int)>40\/(x.r.length:Int)>40\/(x.d.length:Int)>80:=A0;have HL:=A5 hl2;clear hl hl2;go_enter func99,ntmps99;go_wp2_with fail
  all_goals first
   |(go_ret;exact⟨Z,m1.drop⟩)
   |(exfalso;have:=HL.out;omega)
variable {m n:Nat} {α:Type}
structure Av where
 at':Int
 to:Int
 t:List Int
 deriving DecidableEq
def Bu.go0 (i:Bu):Int:=i.go.getD 0 0
def Bu.go1 (i:Bu):Int:=i.go.getD 1 0
def B6 (i:Bu) (at':Int) (eJ:List Int):List Av:=
 if i.op=21\/i.op=69\/i.op=70 then []
 else if i.op=61 then [⟨i.go0,-1,eJ⟩]
 else if i.op=62\/i.op=63 then [⟨i.go0,-1,eJ⟩,⟨i.go1,-1,eJ⟩]
 else if i.op=65 then [⟨i.go0,i.to,eJ⟩,⟨i.go1,-1,eJ⟩]
 else if i.op=66 then i.w.map λw=>⟨w.go,w.to,eJ⟩
 else if i.op=67 then [⟨at'+1,-1,eJ++[at']⟩,⟨i.go0,i.to,eJ⟩]
 else if i.op=68 then [⟨at'+1,-1,eJ.dropLast⟩]
 else [⟨at'+1,i.to,eJ⟩]
structure Dw (c:AF):Prop where
 pos:0<c.i.length
 len:c.i.length<=2000
 par:0<=c.params/\c.params<=c.g/\c.g<=250
 next:∀(k:Nat) (i:Bu) (eJ:List Int),c.i[k]?=O i->∀y∈B6 i k eJ,(0<=y.at'/\y.at'<c.i.length)/\ -1<=y.to/\y.to<c.g
 go0:∀(k:Nat) (i:Bu),c.i[k]?=O i->i.op=61\/i.op=62\/i.op=63\/i.op=65\/i.op=67->0<i.go.length
 go1:∀(k:Nat) (i:Bu),c.i[k]?=O i->i.op=62\/i.op=63\/i.op=65->1<i.go.length
 w:∀(k:Nat) (i:Bu),c.i[k]?=O i->i.w.length<=4
structure ES where
 e:List Bool
 t:List (List Int)
 other:List Bool
 done:List Bool
def ES.init (n:Nat):ES:=⟨(uj n G).set 0 B,uj n [],uj n G,uj n G⟩
def Cb (s:ES) (y:Av):ES:=
 if s.e.getD y.at'.toNat G=G then {s with e:=s.e.set y.at'.toNat B,t:=s.t.set y.at'.toNat y.t}
 else if s.t.getD y.at'.toNat []≠y.t then {s with other:=s.other.set y.at'.toNat B}
 else s
def CU (c:AF) (k:Nat) (eJ:List Int):List Av:=match c.i[k]? with
 |some i=>B6 i k eJ
 |none=>[]
def ES.step (c:AF) (s:ES) (k:Nat):ES:=(CU c k (s.t.getD k [])).foldl Cb {s with done:=s.done.set k B}
def ES.undone (s:ES):Nat:=(s.done.filter (λb=> !b)).length
def ES.small (s:ES):Option Nat:=(ul s.e.length).find? λk=>s.e.getD k G&& !(s.done.getD k G)
def Db (c:AF):Nat->ES->ES
 |0,s=>s
 |f+1,s=>match s.small with
  |none=>s
  |some k=>Db c f (s.step c k)
def AB (c:AF):ES:=Db c c.i.length (ES.init c.i.length)
structure ES.Fit (n:Nat) (s:ES):Prop where
 e:s.e.length=n
 t:s.t.length=n
 other:s.other.length=n
 done:s.done.length=n
theorem NY {s:ES} (h:s.Fit n) (y:Av):(Cb s y).Fit n:=by
 unfold Cb;split
 .exact⟨by simp[h.e],by simp[h.t],h.other,h.done⟩
 .split
  .exact⟨h.e,h.t,by simp[h.other],h.done⟩
  .exact h
theorem Lk {n:Nat}:∀(l:List Av) {s:ES},s.Fit n->(l.foldl Cb s).Fit n
 |[],_,h=>h
 |y::l,_,h=>Lk l (NY h y)
theorem ES.step_fit {c:AF} {n:Nat} {s:ES} (h:s.Fit n) (k:Nat):(s.step c k).Fit n:=
 Lk _ ⟨h.e,h.t,h.other,by simp[h.done]⟩
theorem ES.init_fit (n:Nat):(ES.init n).Fit n:=⟨by simp[ES.init],by simp[ES.init],by simp[ES.init],by simp[ES.init]⟩
theorem Xk (s:ES) (y:Av):(Cb s y).done=s.done:=by
 unfold Cb;split
 .rfl
 .split<;>rfl
theorem He:∀(l:List Av) (s:ES),(l.foldl Cb s).done=s.done
 |[],_=>rfl
 |y::l,s=>(He l _).trans (Xk s y)
theorem ES.small_some {s:ES} (h:s.small=O k):k<s.e.length/\s.e.getD k G=B/\s.done.getD k G=false:=by unfold ES.small at h;have h1:=List.find?_some h;have h2:=List.mem_of_find?_eq_some h;simp only[ur,wV] at h1;exact⟨by simpa using h2,h1.1,h1.2⟩
theorem JC:∀(l:List Bool) (k:Nat),k<l.length->l.getD k G=G->((l.set k B).filter (λb=> !b)).length+1=(l.filter (λb=> !b)).length
 |[],k,h,_=>by simp at h
 |b::l,0,_,h=>by
  simp at h
  subst h
  simp
 |b::l,k+1,h,hk=>by
  have ih:=JC l k CE (by simpa using hk)
  cases b<;>simp[ih]<;>omega
theorem ES.undone_step {c:AF} {s:ES} (hf:s.Fit n) (h:s.small=O k):(s.step c k).undone+1=s.undone:=by obtain⟨h1,_,h3⟩:=ES.small_some h;unfold ES.undone ES.step;rw[He];exact JC s.done k (by rw[hf.done,<-hf.e];exact h1) h3
theorem MD {c:AF} {s:ES} (hf:s.Fit n) (h:s.small=O k):Db c s.undone s=Db c (s.step c k).undone (s.step c k):=by rw[<-ES.undone_step (c:=c) hf h];generalize (s.step c k).undone=u;show(match s.small with|none=>s|some k=>Db c u (s.step c k))=_;rw[h]
theorem Nm {c:AF} {s:ES} (h:s.small=X):Db c s.undone s=s:=by
 cases hu:s.undone with
 |zero=>rfl
 |succ f=>unfold Db;rw[h]
theorem ES.init_undone (n:Nat):(ES.init n).undone=n:=by unfold ES.undone ES.init;simp only;rw[wW.2 (by intro b hb;rw[wX hb];rfl),List.length_replicate]
theorem Kw (c:AF):AB c=Db c (ES.init c.i.length).undone (ES.init c.i.length):=by unfold AB;rw[ES.init_undone]
def GB (mV:Nat) (k:Nat) (K:List (List Bool)) (y:Av):List (List Bool):=
 K.set y.at'.toNat ((ul mV).map λr=>(K.getD y.at'.toNat []).getD r G&&((K.getD k []).getD r G||T (y.to=r)))
def FO (c:AF) (fin:ES) (mV:Nat) (K:List (List Bool)) (k:Nat):List (List Bool):=
 if fin.e.getD k G=B then (CU c k (fin.t.getD k [])).foldl (GB mV k) K else K
def Jo (c:AF) (fin:ES) (mV:Nat) (K:List (List Bool)):List (List Bool):=(ul c.i.length).foldl (FO c fin mV) K
def Fb (c:AF) (mV:Nat):List (List Bool):=(ul c.i.length).map λk=>(ul mV).map fun(r:Nat)=>T (0<k)||T ((r:Int)<c.params)
def Ct {α:Type} (f:α->α):Nat->α->α
 |0,a=>a
 |n+1,a=>Ct f n (f a)
theorem NW {α:Type} {f:α->α} {a:α} (h:f a=a):∀n,Ct f n a=a
 |0=>rfl
 |n+1=>by unfold Ct;rw[h];exact NW h n
theorem F4 {α:Type} (f:α->α):∀(m n:Nat) (a:α),Ct f (m+n) a=Ct f n (Ct f m a)
 |0,n,a=>by rw[vI];rfl
 |m+1,n,a=>by
  rw[(A0:m+1+n=(m+n)+1)]
  show Ct f (m+n) (f a)=Ct f n (Ct f m (f a))
  exact F4 f m n (f a)
theorem U5 {f:α->α} {a:α} (hm:f (Ct f m a)=Ct f m a) (hn:f (Ct f n a)=Ct f n a):Ct f m a=Ct f n a:=by
 rcases Nat.le_total m n with h|h
 .obtain⟨d,rfl⟩:=Nat.le.dest h;rw[F4,NW hm]
 .obtain⟨d,rfl⟩:=Nat.le.dest h;rw[F4,NW hn]
def G8 (c:AF) (K:List (List Bool)):Prop:=∃m,K=Ct (Jo c (AB c) c.g.toNat) m (Fb c c.g.toNat)/\Jo c (AB c) c.g.toNat K=K
theorem G8.unique {c:AF} {K K':List (List Bool)} (h:G8 c K) (h':G8 c K'):K=K':=by obtain⟨m,rfl,h1⟩:=h;obtain⟨n,rfl,h2⟩:=h';exact U5 h1 h2
def CM (i:Bu):List Int:=i.args++i.w.flatMap λw=>(if w.kind=3 then [] else [w.chan])++(if w.kind=1 then [w.value] else [])
def Dp (c:AF) (fin:ES) (K:List (List Bool)) (k:Nat) (i:Bu):Bool:=
 fin.e.getD k G&&(fin.other.getD k G||(T (i.op=68)&&T ((fin.t.getD k []).length=0))||(T (i.op=69)&&T (0<(fin.t.getD k []).length))|| !((CM i).all λr=>(K.getD k []).getD r.toNat G))
def Qz (c:AF) (K:List (List Bool)):Int:=DG (λp=>Dp c (AB c) K p.2 p.1) c.i.zipIdx
def TF (w:W_) (v:V_) (bs:List Bool):Prop:=∃b c,v= V b bs.length c/\bs.length<=maxLen/\∀i,(h:i<bs.length)->∃lu off,b=O ⟨lu,off,X⟩/\w.cell? ⟨lu,off+i,X⟩=O (N bs[i])
theorem Xh {p:Nat->Bool} (hk:k<n) (hp:p k=B) (h:∀j,j<k->p j=G):(ul n).find? p=O k:=by rw[List.find?_eq_some_iff_getElem];refine⟨hp,k,by simpa using hk,by simp,λj hj=>?_⟩;simp[h j hj]
theorem OV {p:Nat->Bool} (h:∀j,j<n->p j=G):(ul n).find? p=none:=by rw[List.find?_eq_none];intro j hj;rw[h j (vB.1 hj)];simp
def GT (come done:List Bool):Int:=match (ul come.length).find? λk=>come.getD k G&& !(done.getD k G) with
 |some k=>(k:Int)
 |none=> -1
theorem Ui {l:List α} (h:k<l.length) (d:α):l.getD k d=l[k]:=by simp[List.getD,ui h]
theorem Km (v1 v2:V_) (come done:List Bool) (hl:come.length=done.length) (h1:TF w v1 come) (h2:TF w v2 done):K_ uh 143 #[v1,v2] w λe w'=>e= .returned (Y I (GT come done))/\w=w':=by
 obtain⟨b1,c1,rfl,hm1,ad⟩:=h1;obtain⟨b2,c2,rfl,ai,aa⟩:=h2;have hm1:=A9 hm1;have A1:=A5 ad;have A2:=A5 aa;have HL:=A5 hl;have ag:(come.length:Int)=done.length:=A0;clear ad aa hl;go_enter func143,ntmps143;go_wp2_with fail;go_loop [5] (λi=>∃k:Nat,k<=come.length/\i= Y I k/\Hid (∀j,j<k->(come.getD j G&& !(done.getD j G))=G)) (λi=>come.length-(intOf i).toNat);case atStart=>exact⟨0,un _,Z,A5 λj hj=>a_ hj (vx _)⟩
 case round=>
  obtain⟨k,hk,rfl,HA⟩:=hrel;by_cases lg:k<come.length
  .have hlt2:k<done.length:=ZC;have lJ:(k:Int)<come.length:=A0;have af:(k:Int)<done.length:=A0;obtain⟨q1,o1,ak,d1⟩:=A1.out k lg;obtain⟨q2,o2,aj,d2⟩:=A2.out k hlt2;have ae:=A5 (Ui lg G);have ah:=A5 (Ui hlt2 G);clear ag;generalize come[k]=x at*;generalize done[k]=y at*;cases x
   .go_wp2_with fail;go_round
    case rel=>
     refine⟨k+1,by omega,by go_num,A5 λj hj=>?_⟩;rcases vy.1 hj with hj|rfl
     .exact HA.out j hj
     .rw[ae.out];rfl
    case measure=>exact BW
   .cases y
    .go_wp2_with fail;go_ret;refine⟨CH ?_,Z⟩;unfold GT;rw[Xh lg (by rw[ae.out,ah.out];rfl) HA.out]
    .go_wp2_with fail;go_round
     case rel=>
      refine⟨k+1,by omega,by go_num,A5 λj hj=>?_⟩;rcases vy.1 hj with hj|rfl
      .exact HA.out j hj
      .rw[ae.out,ah.out];rfl
     case measure=>exact BW
  .have hge:¬(k:Int)<come.length:=A0;clear ag;go_wp2_with fail;go_ret;refine⟨CH ?_,Z⟩;unfold GT;rw[OV (λj hj=>HA.out j A0)]
theorem Rz (v1 v2:V_) (xs ys:List Int) (m:AC w0 H L w) (h1:AX AY H v1 xs) (h2:AX AY H v2 ys):K_ uh 142 #[v1,v2] w (Bv w0 H L (N (T (xs=ys)))):=by
 have H1:=A5 h1;have H2:=A5 h2;obtain⟨b1,c1,rfl,aj,hx1,ag⟩:=h1;obtain⟨b2,c2,rfl,ai,ad,af⟩:=h2;clear ag af;have hx1:=A9 hx1;have ad:=A9 ad;go_enter func142,ntmps142;by_cases hl:xs.length=ys.length
 .have HL:=A5 hl;have ah:((xs.length:Int) !=(ys.length:Int))=false:=(by simp[hl]);clear hl;generalize aa:T (xs=ys)=res;have HRES:=A5 aa;clear aa;go_wp2_with fail;(go_loopw [5] (λi wr=>∃k:Nat,k<=xs.length/\i= Y I k/\Hid (∀j (q1:j<xs.length) (q2:j<ys.length),j<k->xs[j]=ys[j])/\AC w0 H L wr) (λi _=>xs.length-(intOf i).toNat));case atStart=>exact⟨0,un _,Z,A5 (λj _ _ h=>a_ h (vx _)),m⟩
  case round=>
   obtain⟨k,hk,rfl,ly,mk⟩:=hrel;by_cases lg:k<xs.length
   .have hlt2:k<ys.length:=(by rw[<-HL.out];exact lg);obtain⟨q1,o1,an,d1,_⟩:=H1.out.getI (ui lg);obtain⟨q2,o2,ak,d2,_⟩:=H2.out.getI (ui hlt2);have d1:=d1.cell mk;have d2:=d2.cell mk;have lJ:(k:Int)<xs.length:=A0;have ae:(k:Int)<ys.length:=A0;by_cases hq:xs[k]=ys[k]
    .have HQ:=A5 hq;have hb:(xs[k] !=ys[k])=false:=(by rw[hq];simp);exact ll
    .have HQ:=A5 hq;have hb:(xs[k] !=ys[k])=true:=QH;clear hq;go_wp2_with fail;go_quiet (fail);go_wp2_with fail;go_ret;exact⟨A8 (by rw[<-HRES.out];exact(f_ λe=>HQ.out (by simp only[e])).symm),mk.drewN _⟩
   .have hge:¬(k:Int)<xs.length:=A0;go_wp2_with fail;go_ret;refine⟨A8 ?_,mk⟩;rw[<-HRES.out];refine(t_ ?_).symm;exact vq HL.out λj q1 q2=>ly.out j q1 q2 A0
 .have ah:((xs.length:Int) !=(ys.length:Int))=true:=BL;have HQ:=A5 hl;clear hl;rw[f_ (show ¬xs=ys from λe=>HQ.out (by rw[e]))];go_wp2_with fail;go_ret;exact⟨Z,m⟩
variable {zs:List Int}
structure Fo (v:V_) (zs:List Int) (L0:List (Nat×Obj)):Prop where
 acc:Ba 3 1 v zs.length (zs.map (Y I)) L0
 fit:∀z∈zs,EH z
theorem Cv:∀(zs:List Int),(∀z∈zs,EH z)->Ai AY H (zs.map (Y I)) zs:=λzs h=>Ai.ofV (f:=Y I) (p:=EH) zs h
theorem Fo.freeze {w0 w:W_} {H:Hp} {L L0:List (Nat×Obj)} {v:V_} {zs:List Int} (h:Fo v zs L0) (m:AC w0 H (L0++L) w):∃H',AC w0 H' L w/\Bl H H'/\AX AY H' v zs:=
 (h.acc.join m).done (Cv zs h.fit) Z Z
theorem Id {cs:List V_} (h:Ai AY H cs zs):cs=zs.map (Y I)/\∀z∈zs,EH z:=by
 induction h with
 |nil=>exact⟨Z,by simp⟩
 |cons h1 _ _ ih=>exact eE
theorem Dn:∀u∈zs.map (Y I),u.oneCell'=true:=by intro u hu;obtain⟨z,_,rfl⟩:=vt.1 hu;rfl
theorem Fo.snoc {v:V_} {x:Int} (h:AP w0 H L 3 1 v (zs.length+1) (zs.map (Y I)++[Y I x]) w) (hz:∀z∈zs,EH z) (hx:EH x):∃L1,Fo v (zs++[x]) L1/\AC w0 H (L1++L) w:=by exact iO
def Tz (w0:W_) (H:Hp) (L:List (Nat×Obj)) (zs:List Int) (e:E_) (w':W_):Prop:=∃v L1,e= .returned v/\Fo v zs L1/\AC w0 H (L1++L) w'
def DD (w:FF):List Int:=(if w.kind=3 then [] else [w.chan])++(if w.kind=1 then [w.value] else [])
theorem Sd (i:Bu):CM i=i.args++i.w.flatMap DD:=Z
theorem UT (w:FF):(DD w).length<=2:=by unfold DD;split<;>split<;>simp
theorem aQ (l:List FF):(l.flatMap DD).length<=2*l.length:=by
 induction l with
 |nil=>simp
 |cons w l ih=>have:=UT w;simp only[vR,vu,List.length_cons];omega
theorem Le (i:Bu) (va vg vw:V_) (ha:i.args.length<=4096) (hw:i.w.length<=4) (m:AC w0 H L w) (hi:Gj H i va vg vw):K_ uh 140 #[Ec i va vg vw] w (Tz w0 H L (CM i)):=by
 have HI:=A5 hi;obtain⟨b5,c5,b6,c6,b7,c7,rfl,rfl,rfl,l5,l6,l7⟩:=hi.shapes;clear hi;unfold Ec;have m1:=m.alloc (SB i b5 c5 b6 c6 b7 c7);have es:=m1.e6;have m2:=m1.alloc (C #[] 3);(try simp only[vP] at m2);generalize aw:w.heap.size=xb at*;obtain⟨news,hch,lM⟩:=HI.out.2.1.src m2;obtain⟨lU,ai⟩:=Id hch;have HSR:=A5 lM;have an:=A5 hch.length;clear lM hch;go_enter func140,ntmps140;go_wp2_with (at_builtin;refine AG (w0:=w0) (H:=H) (L:=(xb,SB i b5 c5 b6 c6 b7 c7)::L) Z _ _ 79 Z 3 1 8 (Y I 0) underlying79 A7 Z AD _ 0 [] ?kF Z _ i.args.length news ?lM Z ?hl ?h1 ?hb ?h63 ?_);(case kF=>exact AP.row m2 (vD _) AD Z Z);(case lM=>exact HSR.out);(case hl=>rw[an.out];rfl);(case h1=>rw[lU];exact Dn);(case hb=>omega);(case h63=>unfold maxLen;omega);intro v' w' kF;(try simp only[vI,um] at kF);obtain⟨L0,h0,m3⟩:=kF.split;subst lU;have ad:Fo v' i.args L0:=⟨h0,ai⟩;clear kF HSR an m2 m1 es h0 ai;go_wp2_with fail;(go_loopw [3,4] (λv3 i8 wr=>∃(k:Nat) (zs:List Int) (L3:List (Nat×Obj)),k<=i.w.length/\i8= Y I k/\Hid (zs=i.args++(i.w.take k).flatMap DD)/\Hid (Fo v3 zs L3)/\AC w0 H (L3++((xb,SB i b5 c5 b6 c6 b7 c7)::L)) wr) (λ_ i8 _=>i.w.length-(intOf i8).toNat));case atStart=>exact⟨0,_,L0,un _,Z,A5 (by simp),A5 ad,m3⟩
 case round=>
  clear m3 ad;obtain⟨k,zs,L3,hk,rfl,HZ,HO,m3⟩:=hrel;obtain⟨pb,pc,rfl,bc,bb⟩:=HO.out.acc.shape;have mk:=(m3.perm Ah:AC _ _ ((xb,SB i b5 c5 b6 c6 b7 c7)::(L3++L)) _);have es:=mk.e6;by_cases lg:k<i.w.length
  .have lJ:(k:Int)<i.w.length:=A0;obtain⟨lu,off,rfl,d0,d1,d2,d3,d4,lz⟩:=HI.out.2.2.2.getWay (ui lg);have htk:i.w.take (k+1)=i.w.take k++[i.w[k]]:=vS lg;have HTK:=A5 htk;clear htk d3 d4;have ah:zs.length<=4096+2*k:=(by exact eV);have af:=A5 ah;clear ah;generalize i.w[k]=y at*;have D0:=A5 d0;have D1:=A5 d1;have D2:=A5 d2;clear d0 d1 d2;have d0:=D0.out.cell mk;have d1:=D1.out.cell mk;have d2:=D2.out.cell mk;clear m3;by_cases k3:y.kind=3
   .have ar:((y.kind:Int) !=3)=false:=(by simp[k3]);have ag:((y.kind:Int)==1)=false:=bF A0;have aa:DD y=[]:=(by simp[DD,k3]);have ae:=A5 aa;clear aa;go_wp2_with fail;go_roundw;(case rel=>exact⟨k+1,zs,L3,by omega,by go_num,A5 (by rw[HTK.out,List.flatMap_append,<-uq,<-HZ.out];simp[ae.out]),HO,mk.perm Ah⟩);case measure=>exact BW
   .have ar:((y.kind:Int) !=3)=true:=BL;have mA:=mk.alloc (C #[Y I y.chan] 3);have mB:=mA.perm (Ah:(((wr.heap.size,C #[Y I y.chan] 3)::(xb,SB i b5 c5 b6 c6 (O ⟨lu,off,X⟩) c7)::(L3++L)).Perm (L3++((wr.heap.size,C #[Y I y.chan] 3)::(xb,SB i b5 c5 b6 c6 (O ⟨lu,off,X⟩) c7)::L))));go_wp2_with (at_builtin;refine AG (w0:=w0) (H:=H) (L:=(wr.heap.size,C #[Y I y.chan] 3)::(xb,SB i b5 c5 b6 c6 (O ⟨lu,off,X⟩) c7)::L) Z _ _ 79 Z 3 1 8 (Y I 0) underlying79 A7 Z AD (.slice pb zs.length pc) zs.length (zs.map (Y I)) (HO.out.acc.join mB) Z _ 1 [Y I y.chan] (Fr.loc (e:=3) (cs:=[Y I y.chan]) mB (by simp)) Z Z Fu (by have:=af.out;omega) (by unfold maxLen;have:=af.out;omega) ?_);intro v' w6 kF;obtain⟨L5,h5,m5⟩:=Fo.snoc kF.drop HO.out.fit lz.chan;clear kF mA mB;obtain⟨aq,ao,rfl,ba,az⟩:=h5.acc.shape;have H5:=A5 h5;have mk5:=(m5.perm Ah:AC _ _ ((xb,SB i b5 c5 b6 c6 (O ⟨lu,off,X⟩) c7)::(L5++L)) _);clear h5 mk es d0 d1 d2;have es:=mk5.e6;have d0:=D0.out.cell mk5;have d2:=D2.out.cell mk5;have ak:=A5 (show(zs++[y.chan]).length<=4097+2*k by rw[vu];have:=af.out;simp;omega);generalize hzz:zs++[y.chan]=z5 at*;have aj:=A5 hzz;clear hzz;by_cases k1:y.kind=1
    .have ag:((y.kind:Int)==1)=true:=(by simp[k1]);have mA:=mk5.alloc (C #[Y I y.value] 3);have mB:=mA.perm (Ah:(((w6.heap.size,C #[Y I y.value] 3)::(xb,SB i b5 c5 b6 c6 (O ⟨lu,off,X⟩) c7)::(L5++L)).Perm (L5++((w6.heap.size,C #[Y I y.value] 3)::(xb,SB i b5 c5 b6 c6 (O ⟨lu,off,X⟩) c7)::L))));go_wp2_with (at_builtin;refine AG (w0:=w0) (H:=H) (L:=(w6.heap.size,C #[Y I y.value] 3)::(xb,SB i b5 c5 b6 c6 (O ⟨lu,off,X⟩) c7)::L) Z _ _ 79 Z 3 1 8 (Y I 0) underlying79 A7 Z AD (.slice aq z5.length ao) z5.length (z5.map (Y I)) (H5.out.acc.join mB) Z _ 1 [Y I y.value] (Fr.loc (e:=3) (cs:=[Y I y.value]) mB (by simp)) Z Z Fu (by have:=ak.out;omega) (by unfold maxLen;have:=ak.out;omega) ?_);intro v' w7 kF;obtain⟨L7,h7,m7⟩:=Fo.snoc kF.drop H5.out.fit lz.value;clear kF mA mB;obtain⟨av,au,rfl,ay,ax⟩:=h7.acc.shape;have H7:=A5 h7;have aa:DD y=[y.chan,y.value]:=(by simp[DD,k3,k1]);have ae:=A5 aa;clear aa h7;go_wp2_with fail;go_roundw;(case rel=>exact⟨k+1,z5++[y.value],L7,by omega,by go_num,A5 nj,H7,m7⟩);case measure=>exact BW
    .have ag:((y.kind:Int)==1)=false:=bF A0;have aa:DD y=[y.chan]:=(by simp[DD,k3,k1]);have ae:=A5 aa;clear aa;go_wp2_with fail;go_roundw;(case rel=>exact⟨k+1,z5,L5,by omega,by go_num,A5 nj,H5,m5⟩);case measure=>exact BW
  .have hge:¬(k:Int)<i.w.length:=A0;go_wp2_with fail;go_ret;refine⟨_,L3,Z,?_,mk.drop⟩;have hz:zs=CM i:=(by rw[HZ.out,Sd,vQ A0]);rw[<-hz];exact HO.out
theorem UP (c:AE) (hf:c.fit) (hk:c.kind=1) (hv:c.v=C0) (m:AC w0 H L w):K_ uh 102 #[c.val] w (Bv w0 H L (N c.form)):=by
 have HF:=A5 hf;clear hf;obtain⟨ck,cn,cf,ct,⟨vk,vn,vs⟩⟩:=c;simp only at hk;subst hk;simp only at hv;obtain⟨rfl,rfl,rfl⟩:=(Bk.ext_iff' _ _).1 hv;(have he:∀w:W_,(binOp .eql 43 (.agg #[Y .u8 0,Y I 0,U ⟨#[]⟩]) (.agg #[Y .u8 0,Y I 0,U ⟨#[]⟩])).run uh w= .ok (N B) w:=λw=>DO 0 0 0 0 ⟨#[]⟩ ⟨#[]⟩ w);unfold C0 at*;simp only at*;have m1:=m.alloc (Bs ⟨1,cn,cf,ct,⟨0,0,uy⟩⟩);unfold Bs at m1;have es:=m1.e2;unfold AE.val AE.form;simp only[Nat.reduceEqDiff,if_true,if_false,reduceIte];have hvv:=hv;go_enter func102,ntmps102;go_wp2_with fail;refine(Bp _ HF.out.field _).mono ?_;rintro e w1 ⟨rfl,rfl⟩;cases hn:B3 cf
 .go_wp2_with fail;exact NH
 exact nZ
theorem T6 (c:AE) (hf:c.fit) (hk:c.kind=1) (hv:¬c.v=C0) (m:AC w0 H L w):K_ uh 102 #[c.val] w (Bv w0 H L (N c.form)):=by
 have HF:=A5 hf;clear hf;obtain⟨ck,cn,cf,ct,⟨vk,vn,vs⟩⟩:=c;simp only at hk;subst hk;simp only at hv;have hdv:=f_ hv;(have he:∀w:W_,(binOp .eql 43 (.agg #[Y .u8 vk,Y I vn,U vs]) (.agg #[Y .u8 0,Y I 0,U ⟨#[]⟩])).run uh w= .ok (N G) w:=λw=>(DO vk 0 vn 0 vs ⟨#[]⟩ w).trans PX);have m1:=m.alloc (Bs ⟨1,cn,cf,ct,⟨vk,vn,vs⟩⟩);unfold Bs at m1;have es:=m1.e2;unfold AE.val AE.form;simp only[Nat.reduceEqDiff,if_true,if_false,reduceIte];have hvv:=hv;go_enter func102,ntmps102;go_wp2_with fail;refine(Bp _ HF.out.field _).mono ?_;rintro e w1 ⟨rfl,rfl⟩;cases hn:B3 cf
 .go_wp2_with fail;exact NH
 exact li
theorem TQ (c:AE) (hf:c.fit) (hk:c.kind=2) (hv:c.v=C0) (m:AC w0 H L w):K_ uh 102 #[c.val] w (Bv w0 H L (N c.form)):=by have HF:=A5 hf;clear hf;obtain⟨ck,cn,cf,ct,⟨vk,vn,vs⟩⟩:=c;simp only at hk;subst hk;simp only at hv;obtain⟨rfl,rfl,rfl⟩:=(Bk.ext_iff' _ _).1 hv;(have he:∀w:W_,(binOp .eql 43 (.agg #[Y .u8 0,Y I 0,U ⟨#[]⟩]) (.agg #[Y .u8 0,Y I 0,U ⟨#[]⟩])).run uh w= .ok (N B) w:=λw=>DO 0 0 0 0 ⟨#[]⟩ ⟨#[]⟩ w);unfold C0 at*;simp only at*;have m1:=m.alloc (Bs ⟨2,cn,cf,ct,⟨0,0,uy⟩⟩);unfold Bs at m1;have es:=m1.e2;unfold AE.val AE.form;simp only[Nat.reduceEqDiff,if_true,if_false,reduceIte];have hvv:=hv;go_enter func102,ntmps102;exact nM
theorem UG (c:AE) (hf:c.fit) (hk:c.kind=2) (hv:¬c.v=C0) (m:AC w0 H L w):K_ uh 102 #[c.val] w (Bv w0 H L (N c.form)):=by have HF:=A5 hf;clear hf;obtain⟨ck,cn,cf,ct,⟨vk,vn,vs⟩⟩:=c;simp only at hk;subst hk;simp only at hv;have hdv:=f_ hv;(have he:∀w:W_,(binOp .eql 43 (.agg #[Y .u8 vk,Y I vn,U vs]) (.agg #[Y .u8 0,Y I 0,U ⟨#[]⟩])).run uh w= .ok (N G) w:=λw=>(DO vk 0 vn 0 vs ⟨#[]⟩ w).trans PX);have m1:=m.alloc (Bs ⟨2,cn,cf,ct,⟨vk,vn,vs⟩⟩);unfold Bs at m1;have es:=m1.e2;unfold AE.val AE.form;simp only[Nat.reduceEqDiff,if_true,if_false,reduceIte];have hvv:=hv;go_enter func102,ntmps102;exact lX
theorem US (c:AE) (hf:c.fit) (hk:c.kind=3) (hv:c.v=C0) (m:AC w0 H L w):K_ uh 102 #[c.val] w (Bv w0 H L (N c.form)):=by
 have HF:=A5 hf;clear hf;obtain⟨ck,cn,cf,ct,⟨vk,vn,vs⟩⟩:=c;simp only at hk;subst hk;simp only at hv;obtain⟨rfl,rfl,rfl⟩:=(Bk.ext_iff' _ _).1 hv;(have he:∀w:W_,(binOp .eql 43 (.agg #[Y .u8 0,Y I 0,U ⟨#[]⟩]) (.agg #[Y .u8 0,Y I 0,U ⟨#[]⟩])).run uh w= .ok (N B) w:=λw=>DO 0 0 0 0 ⟨#[]⟩ ⟨#[]⟩ w);unfold C0 at*;simp only at*;have m1:=m.alloc (Bs ⟨3,cn,cf,ct,⟨0,0,uy⟩⟩);unfold Bs at m1;have es:=m1.e2;unfold AE.val AE.form;simp only[Nat.reduceEqDiff,if_true,if_false,reduceIte];have hvv:=hv;go_enter func102,ntmps102;go_wp2_with fail;refine(Bp _ HF.out.to _).mono ?_;rintro e w1 ⟨rfl,rfl⟩;cases hn:B3 ct
 .go_wp2_with fail;exact NH
 go_wp2_with fail;go_ret;exact⟨A8 (by simp[hn,C0]),m1.drop⟩
theorem Tc (c:AE) (hf:c.fit) (hk:c.kind=3) (hv:¬c.v=C0) (m:AC w0 H L w):K_ uh 102 #[c.val] w (Bv w0 H L (N c.form)):=by
 have HF:=A5 hf;clear hf;obtain⟨ck,cn,cf,ct,⟨vk,vn,vs⟩⟩:=c;simp only at hk;subst hk;simp only at hv;have hdv:=f_ hv;(have he:∀w:W_,(binOp .eql 43 (.agg #[Y .u8 vk,Y I vn,U vs]) (.agg #[Y .u8 0,Y I 0,U ⟨#[]⟩])).run uh w= .ok (N G) w:=λw=>(DO vk 0 vn 0 vs ⟨#[]⟩ w).trans PX);have m1:=m.alloc (Bs ⟨3,cn,cf,ct,⟨vk,vn,vs⟩⟩);unfold Bs at m1;have es:=m1.e2;unfold AE.val AE.form;simp only[Nat.reduceEqDiff,if_true,if_false,reduceIte];have hvv:=hv;go_enter func102,ntmps102;go_wp2_with fail;refine(Bp _ HF.out.to _).mono ?_;rintro e w1 ⟨rfl,rfl⟩;cases hn:B3 ct
 .go_wp2_with fail;exact NH
 go_wp2_with fail;go_ret;exact⟨A8 (by simp[hn,hdv]),m1.drop⟩
theorem UL (c:AE) (hf:c.fit) (hk:c.kind=4) (hv:c.v=C0) (m:AC w0 H L w):K_ uh 102 #[c.val] w (Bv w0 H L (N c.form)):=by have HF:=A5 hf;clear hf;obtain⟨ck,cn,cf,ct,⟨vk,vn,vs⟩⟩:=c;simp only at hk;subst hk;simp only at hv;obtain⟨rfl,rfl,rfl⟩:=(Bk.ext_iff' _ _).1 hv;(have he:∀w:W_,(binOp .eql 43 (.agg #[Y .u8 0,Y I 0,U ⟨#[]⟩]) (.agg #[Y .u8 0,Y I 0,U ⟨#[]⟩])).run uh w= .ok (N B) w:=λw=>DO 0 0 0 0 ⟨#[]⟩ ⟨#[]⟩ w);unfold C0 at*;simp only at*;have m1:=m.alloc (Bs ⟨4,cn,cf,ct,⟨0,0,uy⟩⟩);exact uB
theorem UM (c:AE) (hf:c.fit) (hk:c.kind=4) (hv:¬c.v=C0) (m:AC w0 H L w):K_ uh 102 #[c.val] w (Bv w0 H L (N c.form)):=by have HF:=A5 hf;clear hf;obtain⟨ck,cn,cf,ct,⟨vk,vn,vs⟩⟩:=c;simp only at hk;subst hk;simp only at hv;have hdv:=f_ hv;(have he:∀w:W_,(binOp .eql 43 (.agg #[Y .u8 vk,Y I vn,U vs]) (.agg #[Y .u8 0,Y I 0,U ⟨#[]⟩])).run uh w= .ok (N G) w:=λw=>(DO vk 0 vn 0 vs ⟨#[]⟩ w).trans PX);have m1:=m.alloc (Bs ⟨4,cn,cf,ct,⟨vk,vn,vs⟩⟩);exact uI
theorem T1 (c:AE) (hf:c.fit) (hk:c.kind=5) (hv:c.v=C0) (m:AC w0 H L w):K_ uh 102 #[c.val] w (Bv w0 H L (N c.form)):=by
 have HF:=A5 hf;clear hf;obtain⟨ck,cn,cf,ct,⟨vk,vn,vs⟩⟩:=c;simp only at hk;subst hk;simp only at hv;obtain⟨rfl,rfl,rfl⟩:=(Bk.ext_iff' _ _).1 hv;(have he:∀w:W_,(binOp .eql 43 (.agg #[Y .u8 0,Y I 0,U ⟨#[]⟩]) (.agg #[Y .u8 0,Y I 0,U ⟨#[]⟩])).run uh w= .ok (N B) w:=λw=>DO 0 0 0 0 ⟨#[]⟩ ⟨#[]⟩ w);unfold C0 at*;simp only at*;have m1:=m.alloc (Bs ⟨5,cn,cf,ct,⟨0,0,uy⟩⟩);unfold Bs at m1;have es:=m1.e2;unfold AE.val AE.form;simp only[Nat.reduceEqDiff,if_true,if_false,reduceIte];have hvv:=hv;go_enter func102,ntmps102;go_wp2_with fail;refine(Bp _ HF.out.name _).mono ?_;rintro e w1 ⟨rfl,rfl⟩;cases hn:B3 cn
 .go_wp2_with fail;exact NH
 by_cases hcf:cf=uy;rotate_left
 .exact lf
 subst hcf;exact nZ
theorem TN (c:AE) (hf:c.fit) (hk:c.kind=5) (hv:¬c.v=C0) (m:AC w0 H L w):K_ uh 102 #[c.val] w (Bv w0 H L (N c.form)):=by
 have HF:=A5 hf;clear hf;obtain⟨ck,cn,cf,ct,⟨vk,vn,vs⟩⟩:=c;simp only at hk;subst hk;simp only at hv;have hdv:=f_ hv;(have he:∀w:W_,(binOp .eql 43 (.agg #[Y .u8 vk,Y I vn,U vs]) (.agg #[Y .u8 0,Y I 0,U ⟨#[]⟩])).run uh w= .ok (N G) w:=λw=>(DO vk 0 vn 0 vs ⟨#[]⟩ w).trans PX);have m1:=m.alloc (Bs ⟨5,cn,cf,ct,⟨vk,vn,vs⟩⟩);unfold Bs at m1;have es:=m1.e2;unfold AE.val AE.form;simp only[Nat.reduceEqDiff,if_true,if_false,reduceIte];have hvv:=hv;go_enter func102,ntmps102;go_wp2_with fail;refine(Bp _ HF.out.name _).mono ?_;rintro e w1 ⟨rfl,rfl⟩;cases hn:B3 cn
 .go_wp2_with fail;exact NH
 by_cases hcf:cf=uy;rotate_left
 .exact lf
 subst hcf;exact li
theorem T4 (c:AE) (hf:c.fit) (hk:c.kind=6) (hv:c.v=C0) (m:AC w0 H L w):K_ uh 102 #[c.val] w (Bv w0 H L (N c.form)):=by
 have HF:=A5 hf;clear hf;obtain⟨ck,cn,cf,ct,⟨vk,vn,vs⟩⟩:=c;simp only at hk;subst hk;simp only at hv;obtain⟨rfl,rfl,rfl⟩:=(Bk.ext_iff' _ _).1 hv;(have he:∀w:W_,(binOp .eql 43 (.agg #[Y .u8 0,Y I 0,U ⟨#[]⟩]) (.agg #[Y .u8 0,Y I 0,U ⟨#[]⟩])).run uh w= .ok (N B) w:=λw=>DO 0 0 0 0 ⟨#[]⟩ ⟨#[]⟩ w);unfold C0 at*;simp only at*;have m1:=m.alloc (Bs ⟨6,cn,cf,ct,⟨0,0,uy⟩⟩);unfold Bs at m1;have es:=m1.e2;unfold AE.val AE.form;simp only[Nat.reduceEqDiff,if_true,if_false,reduceIte];have hvv:=hv;go_enter func102,ntmps102;by_cases hcf:cf=uy;rotate_left
 .exact lS
 subst hcf;exact nM
theorem Tj (c:AE) (hf:c.fit) (hk:c.kind=6) (hv:¬c.v=C0) (m:AC w0 H L w):K_ uh 102 #[c.val] w (Bv w0 H L (N c.form)):=by
 have HF:=A5 hf;clear hf;obtain⟨ck,cn,cf,ct,⟨vk,vn,vs⟩⟩:=c;simp only at hk;subst hk;simp only at hv;have hdv:=f_ hv;(have he:∀w:W_,(binOp .eql 43 (.agg #[Y .u8 vk,Y I vn,U vs]) (.agg #[Y .u8 0,Y I 0,U ⟨#[]⟩])).run uh w= .ok (N G) w:=λw=>(DO vk 0 vn 0 vs ⟨#[]⟩ w).trans PX);have m1:=m.alloc (Bs ⟨6,cn,cf,ct,⟨vk,vn,vs⟩⟩);unfold Bs at m1;have es:=m1.e2;unfold AE.val AE.form;simp only[Nat.reduceEqDiff,if_true,if_false,reduceIte];have hvv:=hv;go_enter func102,ntmps102;by_cases hcf:cf=uy;rotate_left
 .exact lS
 subst hcf;exact lX
theorem Tp (c:AE) (hf:c.fit) (hk:c.kind=7) (hv:c.v=C0) (m:AC w0 H L w):K_ uh 102 #[c.val] w (Bv w0 H L (N c.form)):=by have HF:=A5 hf;clear hf;obtain⟨ck,cn,cf,ct,⟨vk,vn,vs⟩⟩:=c;simp only at hk;subst hk;simp only at hv;obtain⟨rfl,rfl,rfl⟩:=(Bk.ext_iff' _ _).1 hv;(have he:∀w:W_,(binOp .eql 43 (.agg #[Y .u8 0,Y I 0,U ⟨#[]⟩]) (.agg #[Y .u8 0,Y I 0,U ⟨#[]⟩])).run uh w= .ok (N B) w:=λw=>DO 0 0 0 0 ⟨#[]⟩ ⟨#[]⟩ w);unfold C0 at*;simp only at*;have m1:=m.alloc (Bs ⟨7,cn,cf,ct,⟨0,0,uy⟩⟩);exact uB
theorem TD (c:AE) (hf:c.fit) (hk:c.kind=7) (hv:¬c.v=C0) (m:AC w0 H L w):K_ uh 102 #[c.val] w (Bv w0 H L (N c.form)):=by have HF:=A5 hf;clear hf;obtain⟨ck,cn,cf,ct,⟨vk,vn,vs⟩⟩:=c;simp only at hk;subst hk;simp only at hv;have hdv:=f_ hv;(have he:∀w:W_,(binOp .eql 43 (.agg #[Y .u8 vk,Y I vn,U vs]) (.agg #[Y .u8 0,Y I 0,U ⟨#[]⟩])).run uh w= .ok (N G) w:=λw=>(DO vk 0 vn 0 vs ⟨#[]⟩ w).trans PX);have m1:=m.alloc (Bs ⟨7,cn,cf,ct,⟨vk,vn,vs⟩⟩);exact uI
theorem WV (c:AE) (hf:c.fit) (m:AC w0 H L w):K_ uh 102 #[c.val] w (Bv w0 H L (N c.form)):=by
 by_cases h1:c.kind=1
 .by_cases hv:c.v=C0
  .exact UP c hf h1 hv m
  .exact T6 c hf h1 hv m
 by_cases h2:c.kind=2
 .by_cases hv:c.v=C0
  .exact TQ c hf h2 hv m
  .exact UG c hf h2 hv m
 by_cases h3:c.kind=3
 .by_cases hv:c.v=C0
  .exact US c hf h3 hv m
  .exact Tc c hf h3 hv m
 by_cases h4:c.kind=4
 .by_cases hv:c.v=C0
  .exact UL c hf h4 hv m
  .exact UM c hf h4 hv m
 by_cases h5:c.kind=5
 .by_cases hv:c.v=C0
  .exact T1 c hf h5 hv m
  .exact TN c hf h5 hv m
 by_cases h6:c.kind=6
 .by_cases hv:c.v=C0
  .exact T4 c hf h6 hv m
  .exact Tj c hf h6 hv m
 by_cases h7:c.kind=7
 .by_cases hv:c.v=C0
  .exact Tp c hf h7 hv m
  .exact TD c hf h7 hv m
 have hfm:c.form=false:=(by exact cY);rw[hfm];have m1:=m.alloc (Bs c);unfold Bs at m1;have es:=m1.e2;have hk:=hf.k;(have he:=λw:W_=>DO c.v.kind 0 c.v.n 0 c.v.s ⟨#[]⟩ w);unfold AE.val;generalize ad:c.kind=k at*;have e1:((k:Int)==1)=false:=BL;have e2:((k:Int)==2)=false:=BL;have e3:((k:Int)==3)=false:=BL;have e4:((k:Int)==4)=false:=BL;have e5:((k:Int)==5)=false:=BL;have e6:((k:Int)==6)=false:=BL;have e7:((k:Int)==7)=false:=BL;generalize hz:T ((⟨c.v.kind,c.v.n,c.v.s⟩:Bk)=⟨0,0,⟨#[]⟩⟩)=z at*;have aa:∀w:W_,(binOp .eql 43 (.agg #[Y .u8 c.v.kind,Y I c.v.n,U c.v.s]) (.agg #[Y .u8 0,Y I 0,U ⟨#[]⟩])).run uh w= .ok (N z) w:=he;clear he;go_enter func102,ntmps102;go_wp2_with fail;exact GS
section
variable {H':Hp} {L0:List (Nat×Obj)} {g i:Nat} {rs:List (ByteArray×Value)}
section
variable {w0 w:W_} {H H':Hp} {L L0:List (Nat×Obj)} {e:T_} {size n:Nat} {v:V_} {cs:List V_}
theorem Ba.at {b:Option Addr} (h:Ba e size (V b n c) n cs L0) (hp:0<cs.length) (m:AC w0 H L w) (hs:∀p,p∈L0->p∈L):∃g,b=O ⟨g,0,X⟩/\(∀i u,cs[i]?=O u->w.cell? ⟨g,i,X⟩=O u)/\(∀i,w.frozen? ⟨g,i,X⟩=G)/\g<w.heap.size/\n<=c/\c<=maxLen:=by
 rcases h.2 with ⟨_,h2,_⟩|⟨g,cap,nB,h1,h2,h3,h4,h5,rfl⟩
 .have:=h.1;rw[h2,Nat.zero_mul] at this;omega
 .cases h1;have hg:=(m.loc _ (hs _ (.head _))).1;refine⟨g,Z,λi u hu=>?_,Bx hg,Af hg,h2,h3⟩;rw[AU hg];rw[<-h5,List.getElem?_take] at hu;split at hu
  .simpa using hu
  .cases hu
theorem Vu (l:List α) (n k:Nat) (x:α) (h:k<n):(l.set k x).take n=(l.take n).set k x:=by rw[List.take_set]
theorem Ba.set1 {x:V_} (h:Ba e size (V (O ⟨g,0,X⟩) n c) n cs L0) (hk:k<cs.length) (m:AC w0 H (L0++L) w):∃aa,Ba e size (V (O ⟨g,0,X⟩) n c) n (cs.set k x) aa/\AC w0 H (aa++L) (w.setCell ⟨g,k,X⟩ x):=by
 rcases h.2 with ⟨h1,_⟩|⟨g',cap,nB,h1,h2,h3,h4,h5,rfl⟩
 .cases h1
 .cases h1;have m':=m.set (i:=k) (v:=x) (.head (o':= C (nB.setIfInBounds k x) e (0,0)));have nC:=h.1;refine⟨[(g,C (nB.setIfInBounds k x) e (0,0))],⟨by rw[vz];exact h.1,.inr ⟨g,c,_,Z,h2,h3,by simpa using h4,?_,Z⟩⟩,m'⟩;rw[Array.toList_setIfInBounds,Vu _ _ _ _ A0,h5]
theorem AC.dropL:∀(L0:List (Nat×Obj)),AC w0 H (L0++L) w->AC w0 H L w
 |[],m=>m
 |_::L0,m=>AC.dropL L0 m.drop
end
structure BT (sv:V_) (xs:List ByteArray) (L0:List (Nat×Obj)):Prop where
 acc:Ba 9 1 sv xs.length (xs.map U) L0
 fit:∀x∈xs,x.size<=maxLen
theorem BT.nil:BT (V X 0 0) [] []:=⟨Ba.nil,λ_ h=>CZ⟩
theorem Gz (xs:List ByteArray) (h:∀x∈xs,x.size<=maxLen):Ai Aq H (xs.map U) xs:=Ai.ofV (f:=U) (p:=λs=>s.size<=maxLen) xs h
theorem Gx {cs:List V_} {l:List ByteArray} (h:Ai Aq H cs l):cs=l.map U/\∀v∈l,v.size<=maxLen:=by
 induction h with
 |nil=>exact⟨Z,λ_ h=>CZ⟩
 |cons h1 _ _ ih=>exact eE
theorem Cu {xs:List ByteArray}:∀u∈xs.map U,u.oneCell'=true:=by intro u hu;obtain⟨x,_,rfl⟩:=vt.1 hu;rfl
section
variable {w0 w:W_} {H:Hp} {L L0:List (Nat×Obj)} {v:V_} {xs:List ByteArray}
theorem BT.of {cs:List V_} (h:AP w0 H L 9 1 v xs.length cs w) (hc:Ai Aq H' cs xs):∃L0,BT v xs L0/\AC w0 H (L0++L) w:=by obtain⟨L0,h1,h2⟩:=h.split;obtain⟨rfl,hf⟩:=Gx hc;exact⟨L0,⟨h1,hf⟩,h2⟩
theorem BT.freeze (h:BT v xs L0) (m:AC w0 H (L0++L) w):∃H',AC w0 H' L w/\Bl H H'/\AX Aq H' v xs:=
 (h.acc.join m).done (Gz xs h.fit) Z Z
theorem BT.shape (h:BT v xs L0):∃b c,v= V b xs.length c/\xs.length<=c/\c<=maxLen:=h.acc.shape
theorem BT.at {b:Option Addr} (h:BT (V b xs.length c) xs L0) (hi:i<xs.length) (m:AC w0 H L w) (hs:∀p,p∈L0->p∈L):∃g,b=O ⟨g,0,X⟩/\w.cell? ⟨g,i,X⟩=O (U xs[i])/\(∀i,w.frozen? ⟨g,i,X⟩=G)/\g<w.heap.size/\xs.length<=c/\c<=maxLen:=by obtain⟨g,h1,h2,h3,h4,h5,h6⟩:=h.acc.at (by rw[vM];omega) m hs;exact⟨g,h1,h2 i _ (by simp[hi]),h3,h4,h5,h6⟩
theorem BT.strsAt (h:BT v xs L0) (m:AC w0 H L w) (hs:∀p,p∈L0->p∈L):Ir w v xs:=by obtain⟨b,c,rfl,h1,h2⟩:=h.shape;refine⟨b,c,Z,by omega,λi hi=>?_⟩;obtain⟨g,rfl,hc,_⟩:=h.at hi m hs;exact⟨g,0,Z,by rw[vI];exact hc⟩
theorem BT.set (h:BT (V (O ⟨g,0,X⟩) xs.length c) xs L0) (hi:i<xs.length) (x:ByteArray) (hx:x.size<=maxLen) (m:AC w0 H (L0++L) w):∃aa,BT (V (O ⟨g,0,X⟩) xs.length c) (xs.set i x) aa/\AC w0 H (aa++L) (w.setCell ⟨g,i,X⟩ (U x)):=by
 obtain⟨L1,h1,m1⟩:=h.acc.set1 (k:=i) (x:= U x) ND m;refine⟨L1,⟨by rw[vz,<-wY] at*;exact h1,λv hv=>?_⟩,m1⟩;rcases wM hv with hv|rfl
 .exact h.fit v hv
 .exact hx
end
def CO:List (ByteArray×V_)->List V_
 |[]=>[]
 |r::l=>[U r.1,r.2]++CO l
theorem GA:∀l:List (ByteArray×V_),(CO l).length=l.length*2
 |[]=>rfl
 |r::l=>by simp[CO,GA l];omega
theorem II:∀(l:List (ByteArray×V_)) (i:Nat) (h:i<l.length),(CO l)[i*2]?=O (U l[i].1)/\(CO l)[i*2+1]?=O l[i].2
 |r::l,0,_=>by simp[CO]
 |r::l,i+1,h=>by
  have:=II l i CE
  have e:(i+1)*2+1=i*2+1+2:=by omega
  have e0:(i+1)*2=i*2+2:=by omega
  simpa[CO,e,e0] using this
theorem LQ:∀(l:List (ByteArray×V_)) (i:Nat) (h:i<l.length) (x:ByteArray),(CO l).set (i*2) (U x)=CO (l.set i (x,l[i].2))
 |r::l,0,_,x=>by simp[CO]
 |r::l,i+1,h,x=>by
  have:=LQ l i CE x
  have e0:(i+1)*2=i*2+2:=by omega
  simpa[CO,e0] using this
theorem F7:∀(l:List (ByteArray×V_)) (i:Nat) (h:i<l.length) (x:V_),(CO l).set (i*2+1) x=CO (l.set i (l[i].1,x))
 |r::l,0,_,x=>by simp[CO]
 |r::l,i+1,h,x=>by
  have:=F7 l i CE x
  have e:(i+1)*2+1=i*2+1+2:=by omega
  simpa[CO,e] using this
theorem Sx (l l':List (ByteArray×V_)):CO (l++l')=CO l++CO l':=by
 induction l with
 |nil=>rfl
 |cons r l ih=>simp[CO,ih]
inductive Dg:List (ByteArray×V_)->List AK->List (Nat×Obj)->Prop
 |nil:Dg [] [] []
 |cons {r:ByteArray×V_} {c:AK} {rs:List (ByteArray×V_)} {cs:List AK} {L0 L:List (Nat×Obj)}:r.1=c.name->c.name.size<=maxLen->BT r.2 c.f L0->Dg rs cs L->Dg (r::rs) (c::cs) (L0++L)
theorem Dg.length {cs:List AK} (h:Dg rs cs L):rs.length=cs.length:=by
 induction h with
 |nil=>rfl
 |cons _ _ _ _ ih=>simp[ih]
theorem Dg.append {aa:List (ByteArray×V_)} {cs ad:List AK} {L':List (Nat×Obj)} (h:Dg rs cs L) (h':Dg aa ad L'):Dg (rs++aa) (cs++ad) (L++L'):=by
 induction h with
 |nil=>exact h'
 |cons a b c _ ih=>rw[uq];exact .cons a b c ih
theorem Dg.one {r:ByteArray×V_} {c:AK} (a:r.1=c.name) (b:c.name.size<=maxLen) (d:BT r.2 c.f L0):Dg [r] [c] L0:=by have:=Dg.cons a b d .nil;rwa [wA] at this
theorem Dg.at {cs:List AK} {Ls:List (Nat×Obj)} (h:Dg rs cs Ls):∀(i:Nat) (hi:i<rs.length) (hj:i<cs.length),(rs[i].1=cs[i].name/\cs[i].name.size<=maxLen)/\∃L1 L0 L2,Ls=L1++(L0++L2)/\BT rs[i].2 cs[i].f L0/\∀nm sv fs aa,nm.size<=maxLen->BT sv fs aa->Dg (rs.set i (nm,sv)) (cs.set i ⟨nm,fs⟩) (L1++(aa++L2)):=by
 induction h with
 |nil=>intro i hi;simp at hi
 |@cons r c rs cs L0 L a b d h ih=>
  intro i hi hj
  cases i with
  |zero=>exact⟨⟨a,b⟩,[],L0,L,Z,d,λnm sv fs aa h1 h2=>Dg.cons (r:=(nm,sv)) (c:=⟨nm,fs⟩) (L0:=aa) (L:=L) Z h1 h2 h⟩
  |succ i=>obtain⟨h1,L1,aa,L2,rfl,h2,h3⟩:=ih i ND Mn;refine⟨h1,L0++L1,aa,L2,by rw[uq],h2,λnm sv fs ad g1 g2=>?_⟩;rw[uq];exact .cons a b d (h3 nm sv fs ad g1 g2)
inductive Dz (H:Hp):List (ByteArray×V_)->List AK->Prop
 |nil:Dz H [] []
 |cons {r:ByteArray×V_} {c:AK} {rs:List (ByteArray×V_)} {cs:List AK}:r.1=c.name->c.name.size<=maxLen->AX Aq H r.2 c.f->Dz H rs cs->Dz H (r::rs) (c::cs)
theorem Dz.mono {cs:List AK} (h:Dz H rs cs) (hl:Bl H H'):Dz H' rs cs:=by
 induction h with
 |nil=>exact .nil
 |cons a b d _ ih=>exact .cons a b (d.mono hl) ih
theorem Dz.length {cs:List AK} (h:Dz H rs cs):rs.length=cs.length:=by
 induction h with
 |nil=>rfl
 |cons _ _ _ _ ih=>simp[ih]
theorem Dz.chunks {cs:List AK} (h:Dz H rs cs):Ai B2 H (CO rs) cs:=by
 induction h with
 |nil=>exact .nil
 |@cons r c rs cs a b d _ ih=>exact .cons (E:=B2) ⟨r.2,by rw[a],b,d⟩ Z ih
theorem Dz.of {xs:List V_} {cs:List AK} (h:Ai B2 H xs cs):∃rs,xs=CO rs/\Dz H rs cs:=by
 induction h with
 |nil=>exact⟨[],Z,.nil⟩
 |@cons ys c xs cs h1 _ _ ih=>obtain⟨rs,rfl,hr⟩:=ih;obtain⟨sv,rfl,h2,h3⟩:=h1;exact⟨(c.name,sv)::rs,Z,.cons Z h2 h3 hr⟩
theorem Dz.get {cs:List AK} (h:Dz H rs cs):∀(i:Nat) (hi:i<rs.length) (hj:i<cs.length),rs[i].1=cs[i].name/\cs[i].name.size<=maxLen/\AX Aq H rs[i].2 cs[i].f:=by
 induction h with
 |nil=>intro i hi;simp at hi
 |cons a b d _ ih=>
  intro i hi hj
  cases i with
  |zero=>exact⟨a,b,d⟩
  |succ i=>exact ih i ND Mn
theorem Dz.drop {cs:List AK} (h:Dz H rs cs):∀k,Dz H (rs.drop k) (cs.drop k):=by
 induction h with
 |nil=>intro k;simp;exact .nil
 |cons a b d h ih=>
  intro k
  cases k with
  |zero=>exact .cons a b d h
  |succ k=>exact ih k
theorem Dg.freeze {cs:List AK} {Ls:List (Nat×Obj)} (h:Dg rs cs Ls):∀{w0 w:W_} {H:Hp} {L:List (Nat×Obj)},AC w0 H (Ls++L) w->∃H',AC w0 H' L w/\Bl H H'/\Dz H' rs cs:=by
 induction h with
 |nil=>intro w0 w H L m;exact⟨H,m,Bl.refl H,.nil⟩
 |cons a b d _ ih=>intro w0 w H L m;rw[uq] at m;obtain⟨H1,m1,hl1,s1⟩:=d.freeze m;obtain⟨H2,m2,hl2,s2⟩:=ih m1;exact⟨H2,m2,hl1.trans hl2,.cons a b (s1.mono hl2) s2⟩
abbrev BY (Tq:T_) (vc vr:V_):Obj:= C #[vc,vr] Tq
abbrev rH:T_:=107
def NJ (Tq:T_) (b:Nat) (x:BZ) (w0:W_) (H:Hp) (L:List (Nat×Obj)) (w:W_):Prop:=
 ∃vc vr rs Lc Lf Lr,Ba 84 2 vc rs.length (CO rs) Lc/\Dg rs x.k Lf/\BT vr x.r Lr/\AC w0 H ((b,BY Tq vc vr)::(Lc++(Lf++(Lr++L)))) w
end
theorem D7 {n a b:Int}:F6 n a b=B↔a<=n/\n<=b:=by unfold F6;simp
theorem EM {x:AI} {c:AF} {i:Bu} (hr:0<=c.g) (h:Fh x c i=B):(-1<=i.to/\i.to<c.g)/\(i.go.length:Int)=(CR i.op i.m).places/\(∀p∈i.go,0<=p/\p<c.i.length)/\(∀w∈i.w,(0<=w.go/\w.go<c.i.length)/\ -1<=w.to/\w.to<c.g)/\i.w.length<=4/\(∀r∈i.args,0<=r/\r<c.g):=by
 unfold Fh at h;simp only[ur] at h;obtain⟨_,h1,_,⟨_,h3⟩,h4,h5,h6,h7⟩:=h;refine⟨?_,o_ h3,?_,?_,?_,?_⟩
 .split at h1
  .have:=D7.1 h1;omega
  .have:=o_ h1;omega
 .intro p hp;have:=D7.1 (uu.1 h5 p hp);omega
 .intro w hw;obtain⟨k,hk,rfl⟩:=wN.1 hw;unfold Eu at h6;have h8:=uu.1 h6 k (vB.2 hk);rw[ui hk] at h8;simp only at h8;unfold Mu at h8;simp only[ur] at h8;obtain⟨h9,aa⟩:=h8;have h9:=D7.1 h9;refine⟨by omega,?_⟩;split at aa
  .simp only[ur,decide_eq_true_eq] at aa;have:=aa.2.2;omega
  .split at aa
   .simp only[ur,decide_eq_true_eq] at aa;have:=D7.1 aa.2.2;omega
   .simp only[ur,decide_eq_true_eq] at aa;have:=aa.2.2.2.1;omega
 .split at h7
  .have:=D7.1 h7;omega
  .have:=o_ h7;omega
 .intro r ad;have:=D7.1 (uu.1 h4 r ad);omega
theorem GK {op:Nat} {m:Int} (h:op≠13):(CR op m).places=(SJ op).places:=by unfold CR;rw[n_ (λh'=>h h'.1)]
theorem LO {x:AI} {c:AF} (hl:c.i.length<=2000/\c.g<=250) (h:DM x c=B):Dw c:=by
 unfold DM at h;simp only[ur] at h;obtain⟨⟨h1,h2,h3⟩,h4⟩:=h;have h1:=D7.1 h1;have h2:c.i.length≠0:=o_ h2;have hreg:0<=c.g:=A0;have all:∀(k:Nat) (i:Bu),c.i[k]?=O i->Fh x c i=true:=λk i hk=>uu.1 h4 i (vE hk)
 have last:∀(k:Nat) (i:Bu),c.i[k]?=O i->J4 i.op=G->(k:Int)+1<c.i.length:=by
  intro k i hk he;have lg:k<c.i.length:=(vF.1 hk).1;rcases wB (k+1) c.i.length with h|h
  .omega
  .have:k=c.i.length-1:=A0;subst this;unfold Fg at h3;rw[hk] at h3;simp only at h3;rw[he] at h3;cases h3
 refine⟨by omega,hl.1,by omega,?_,?_,?_,?_⟩
 .intro k i eJ hk y hy;obtain⟨f1,f2,f3,f4,_,_⟩:=EM hreg (all k i hk);have g0:∀n:Nat,n<i.go.length->0<=i.go.getD n 0/\i.go.getD n 0<c.i.length:=(by intro n hn;have:i.go.getD n 0=i.go[n]:=(by simp[List.getD,ui hn]);rw[this];exact f3 _ (vY hn));have aa:=last k i hk;unfold B6 at hy;split at hy
  .cases hy
  split at hy
  .rename_i _ ho;rw[GK A0,ho] at f2;have f2:(i.go.length:Int)=1:=f2;have:=g0 0 A0;simp only[vG] at hy;subst hy;exact⟨this,by simp only;omega,by simp only;omega⟩
  split at hy
  .rename_i _ _ ho;have f2:(i.go.length:Int)=2:=(by rw[f2,GK A0];rcases ho with ho|ho<;>rw[ho]<;>rfl);have a0:=g0 0 A0;have a1:=g0 1 A0;simp only[vZ,wC,or_false] at hy;rcases hy with rfl|rfl
   .exact⟨a0,by simp only;omega,by simp only;omega⟩
   .exact⟨a1,by simp only;omega,by simp only;omega⟩
  split at hy
  .rename_i _ _ _ ho;have f2:(i.go.length:Int)=2:=(by rw[f2,GK A0,ho];rfl);have a0:=g0 0 A0;have a1:=g0 1 A0;simp only[vZ,wC,or_false] at hy;rcases hy with rfl|rfl
   .exact⟨a0,f1.1,f1.2⟩
   .exact⟨a1,by simp only;omega,by simp only;omega⟩
  split at hy
  .obtain⟨w,hw,rfl⟩:=vt.1 hy;obtain⟨a,b1,b2⟩:=f4 w hw;exact⟨a,b1,b2⟩
  split at hy
  .rename_i _ _ _ _ _ ho;have f2:(i.go.length:Int)=1:=(by rw[f2,GK A0,ho];rfl);have a0:=g0 0 A0;have a1:=aa (by rw[ho];rfl);simp only[vZ,wC,or_false] at hy;rcases hy with rfl|rfl
   .exact⟨by simp only;omega,by simp only;omega,by simp only;omega⟩
   .exact⟨a0,f1.1,f1.2⟩
  split at hy
  .rename_i _ _ _ _ _ _ ho;have a1:=aa (by rw[ho];rfl);simp only[vG] at hy;subst hy;exact⟨by simp only;omega,by simp only;omega,by simp only;omega⟩
  .rename_i n1 n2 n3 n4 n5 n6 n7;have a1:=aa (by unfold J4;exact f_ A0);simp only[vG] at hy;subst hy;exact⟨by simp only;omega,f1.1,f1.2⟩
 .intro k i hk ho;obtain⟨_,f2,_⟩:=EM hreg (all k i hk);rw[GK A0] at f2;rcases ho with ho|ho|ho|ho|ho<;>rw[ho] at f2
  .have f2:(i.go.length:Int)=1:=f2;omega
  .have f2:(i.go.length:Int)=2:=f2;omega
  .have f2:(i.go.length:Int)=2:=f2;omega
  .have f2:(i.go.length:Int)=2:=f2;omega
  .have f2:(i.go.length:Int)=1:=f2;omega
 .intro k i hk ho;obtain⟨_,f2,_⟩:=EM hreg (all k i hk);rw[GK A0] at f2;rcases ho with ho|ho|ho<;>rw[ho] at f2<;>(have f2:(i.go.length:Int)=2:=f2;omega)
 .intro k i hk;exact(EM hreg (all k i hk)).2.2.2.2.1
section
variable {K:Act->World->Prop} {f:FuncId} {i:Nat} {ls:Array Bool} {o:Oper} {t:TypeId} {w':World} {ρ:Operand->Value}
abbrev nf (n:Nat):List Bool:=uj n G
structure C2 where
 b:Nat
 c:Nat
 v:V_
 bl:List (Nat×Obj)
structure Du where
 ds:List Nat
 v:List C2->V_
 new:Option (List Nat×List Nat×(List C2->C2->Prop))
 skip:Bool
def Du.value (s:Du) (bs:Nat->C2):V_:=s.v (s.ds.map bs)
def Du.cons (s:Du):List Nat:=match s.new with|some p=>p.1|none=>[]
def KU (bs:Nat->C2) (i:Nat) (d:C2):Nat->C2:=λj=>if j=i then d else bs j
def DY (sp:List Du) (ls:Array Bool) (k:Nat):Bool:=ls.getD k G&&(sp[k]?.map λs=>s.new.isSome).getD G&&(ul sp.length).all λj=> !ls.getD j G|| !((sp[j]?.map λs=>s.cons).getD []).contains k
def Oz (sp:List Du) (ls:Array Bool) (bs:Nat->C2):List (Nat×Obj):=(ul sp.length).flatMap λk=>if DY sp ls k=B then (bs k).bl else []
def BU (P:P_) (ρ:O_->V_) (o:Oper) (w:W_) (R:V_->W_->Prop):Prop:=
 (∃v w',(x_ ρ o).run P w= .ok (.value v) w'/\R v w')\/(∃w',(x_ ρ o).run P w= .ok .skip w'/\R undef w')\/
 (∃f args w1,(x_ ρ o).run P w= .ok (.enter f args) w1/\K_ P f args w1 λe w'=>∃v,e= .returned v/\R v w')
section
variable {P:P_} {ops:Array Oper} {Q:Exit->Act->W_->Prop} {sp:List Du} {a0:Act} {w0:W_} {H:Hp} {L:List (Nat×Obj)} {Sh:Array Bool->(Nat->C2)->List (Nat×Obj)->Prop}
theorem BU.wp {a:Act} {R:V_->W_->Prop} (h:BU P a.eval o w R) (hK:∀v w',R v w'->K (a.put o.dst v) w'):Oper.wp P o a w K Q:=by
 unfold Oper.wp;rcases h with ⟨v,w',h1,h2⟩|⟨w',h1,h2⟩|⟨f,args,w1,h1,h2⟩
 .rw[h1];exact hK _ _ h2
 .rw[h1];exact hK _ _ h2
 .rw[h1];(refine Calls.mono h2 λe w' ⟨v,he,hr⟩=>?_);subst he;exact hK _ _ hr
def DK (ops:Array Oper) (sp:List Du) (bs:Nat->C2):Nat->Act->Act
 |0,a=>a
 |n+1,a=>(DK ops sp bs n a).put ((ops[n]?).bind (·.dst)) ((sp[n]?.map λs=>s.value bs).getD undef)
def Ht (ops:Array Oper) (i:Nat):Option Tmp:=(ops[i]?).bind (·.dst)
def qG (ops:Array Oper) (n i:Nat) (t:Tmp):Bool:=(ul n).all λj=>Ht ops j !=O t||KS ops j ops.size i
def Nu (ops:Array Oper) (sp:List Du) (size:Nat):Bool:=
 wZ ops&&T (sp.length<=ops.size)&&
 ((ul sp.length).all λi=>
  (match ops[i]? with
   |some o=>(match o.dst with|some d=>T (d<size)|none=>B)&&(o.after.all λe=> !wO .any e||T (e.on<i))&&
    ((o.looksAt ops).all λt=>qG ops sp.length i t)
   |none=>G)&&
  ((ul i).all λj=>(Ht ops j).isNone||Ht ops j !=Ht ops i)&&
  (match sp[i]? with
   |some s=>(s.ds.all λj=>(j==i&&s.new.isSome)||KS ops j ops.size i)&&(match s.new with
    |some p=>(p.1.all λj=>KS ops j ops.size i&&(sp[j]?.map λs=>s.new.isSome).getD G&&(ul sp.length).all λj'=>j'==i|| !((sp[j']?.map λs=>s.cons).getD []).contains j)&&decide p.1.Nodup&&(p.2.1.all λj=>KS ops j ops.size i)
    |none=>B)
   |none=>G)&&
  (sp.length==ops.size||KS ops i ops.size sp.length))&&
 ((ul ops.size).all λt=>T (t<=sp.length)||we .any ops t (t-1))&&
 wg .any ops (ops.size-sp.length) sp.length ((ul ops.size).map λi=>T (i<sp.length)).toArray
structure Yb (ops:Array Oper) (sp:List Du) (size:Nat):Prop where
 sel:wZ ops=B
 lt:sp.length<=ops.size
 op:∀i,i<sp.length->∃o s,ops[i]?=O o/\sp[i]?=O s/\(∀d,o.dst=O d->d<size)/\(∀e∈o.after,wO .any e=B->e.on<i)/\
  (∀t∈o.looksAt ops,∀j,j<sp.length->Ht ops j=O t->KS ops j ops.size i=B)/\
  (∀j,j<i->∀d,Ht ops j=O d->Ht ops i≠O d)/\
  (∀j∈s.ds,(j=i/\s.new.isSome=B)\/KS ops j ops.size i=B)/\
  (∀p,s.new=O p->(∀j∈p.1,KS ops j ops.size i=B/\(∃sj,sp[j]?=O sj/\sj.new.isSome=B)/\∀j',j'≠i->∀s',sp[j']?=O s'->j ∉ s'.cons)/\p.1.Nodup/\∀j∈p.2.1,KS ops j ops.size i=B)/\
  (sp.length<ops.size->KS ops i ops.size sp.length=B)
 chain:∀t,t<ops.size->sp.length<t->we .any ops t (t-1)=B
 seq:wg .any ops (ops.size-sp.length) sp.length ((ul ops.size).map λi=>T (i<sp.length)).toArray=B
theorem Y0 {size:Nat} (h:Nu ops sp size=B):Yb ops sp size:=by
 unfold Nu at h;simp only[ur] at h;obtain⟨⟨⟨⟨h1,h2⟩,h3⟩,h4⟩,h5⟩:=h;refine⟨h1,o_ h2,λi hi=>?_,λt ht aq=>?_,h5⟩
 .have h:=uu.1 h3 i (vB.2 hi);simp only[ur] at h;obtain⟨⟨⟨h6,h7⟩,h8⟩,h9⟩:=h
  cases ho:ops[i]? with
  |none=>rw[ho] at h6;cases h6
  |some o=>
   cases hs:sp[i]? with
   |none=>rw[hs] at h8;cases h8
   |some s=>
    rw[ho] at h6;rw[hs] at h8;simp only[ur] at h6 h8;obtain⟨⟨ah,ao⟩,an⟩:=h6
    refine⟨o,s,Z,Z,?_,?_,?_,?_,?_,?_,λlg=>by
     rw[wD,beq_iff_eq] at h9;rcases h9 with h9|h9
     .omega
     .exact h9⟩
    .intro d hd;rw[hd] at ah;exact o_ ah
    .intro e he hb;have:=Array.all_eq_true'.1 ao e he;rw[hb] at this;simpa using this
    .intro t ht j hj ad;have:=uu.1 an t ht;have:=uu.1 this j (vB.2 hj);rw[ad] at this;simpa using this
    .intro j hj d ad he;have:=uu.1 h7 j (vB.2 hj);rw[ad,he] at this;simp at this
    .intro j hj;have:=uu.1 h8.1 j hj;simp only[wD,ur,beq_iff_eq] at this;exact this
    .intro p hp;have ae:=h8.2;rw[hp] at ae;simp only[ur] at ae;obtain⟨⟨ak,aj⟩,ai⟩:=ae;refine⟨λj hj=>?_,o_ aj,λj hj=>uu.1 ai j hj⟩;have aa:=uu.1 ak j hj;simp only[ur] at aa;refine⟨aa.1.1,?_,λj' lU s' af=>?_⟩
     .cases hsj:sp[j]? with
      |none=>rw[hsj] at aa;simp at aa
      |some sj=>rw[hsj] at aa;exact⟨sj,Z,by simpa using aa.1.2⟩
     .have ag:=uu.1 aa.2 j' (vB.2 (vF.1 af).1);rw[af] at ag;simpa[lU] using ag
 .have h:=uu.1 h4 t (vB.2 ht);simp only[wD,decide_eq_true_eq] at h;exact h.resolve_left A0
theorem GI {α:Type} {f g:Nat->List α}:∀(l:List Nat),(∀k∈l,f k=g k)->l.flatMap f=l.flatMap g
 |[],_=>rfl
 |x::l,h=>by rw[vR,vR,h x (.head _),GI l λk hk=>h k (.tail _ hk)]
theorem LS {α:Type} (f:Nat->List α) (c:Nat):∀(l:List Nat),l.Nodup->c∈l->(l.flatMap f).Perm (f c++l.flatMap λk=>if k=c then [] else f k)
 |[],_,h=>by cases h
 |x::l,hn,h=>by
  obtain⟨h1,h2⟩:=wh.1 hn
  rw[vR,vR]
  by_cases e:x=c
  .subst e
   rw[p_ Z,um,GI (f:=λk=>if k=x then [] else f k) (g:=f) l λk hk=>n_ fun(e2:k=x)=>h1 (e2▸hk)]
  .rw[n_ e]
   have hc:c∈l:=by cases h with
    |head=>exact a_ Z e
    |tail _ h=>exact h
   refine((LS f c l h2 hc).append_left (f x)).trans ?_
   rw[<-uq,<-uq]
   exact List.perm_append_comm.append_right _
theorem Rn {α:Type} (l:List Nat) (hl:l.Nodup):∀(cs:List Nat) (f:Nat->List α),cs.Nodup->(∀c∈cs,c∈l)->(l.flatMap f).Perm (cs.flatMap f++l.flatMap λk=>if k∈cs then [] else f k)
 |[],f,_,_=>by
  rw[GI (f:=λk=>if k∈[] then [] else f k) (g:=f) l λk _=>n_ (by simp)]
  exact .refl _
 |c::cs,f,hn,hs=>by
  obtain⟨h1,h2⟩:=wh.1 hn
  have ih:=Rn l hl cs f h2 λc hc=>hs c (.tail _ hc)
  have h3:=LS (λk=>if k∈cs then [] else f k) c l hl (hs c (.head _))
  simp only[n_ h1] at h3
  rw[vR,uq]
  refine ih.trans ((h3.append_left _).trans ?_)
  rw[<-uq]
  refine(List.perm_append_comm.append_right _).trans ?_
  rw[uq]
  refine(List.Perm.append_left _ (List.Perm.append_left _ ?_))
  rw[GI (f:=λk=>if k=c then [] else if k∈cs then [] else f k) (g:=λk=>if k∈c::cs then [] else f k) l λk _=>by
   by_cases e:k=c
   .rw[p_ e,p_ (by rw[e];exact .head _)]
   .rw[n_ e]
    by_cases e2:k∈cs
    .rw[p_ e2,p_ (.tail _ e2)]
    .rw[n_ e2,n_ (by simp[e,e2])]]
theorem VZ {size:Nat} (hf:Yb ops sp size) (hz:a0.tmps.size=size) (bs:Nat->C2):∀m,m<=sp.length->(∀j s d,j<m->sp[j]?=O s->Ht ops j=O d->(DK ops sp bs m a0).tmps[d]?=O (s.value bs))/\(∀t,(∀j,j<m->Ht ops j≠O t)->(DK ops sp bs m a0).tmps[t]?=a0.tmps[t]?)/\(DK ops sp bs m a0).tmps.size=size/\(DK ops sp bs m a0).defers=a0.defers:=by
 intro m
 induction m with
 |zero=>exact λ_=>⟨λj s d h=>a_ h (vx _),λ_ _=>rfl,hz,Z⟩
 |succ m ih=>
  intro hm;obtain⟨i1,i2,i3,i4⟩:=ih A0;obtain⟨o,s,ho,hs,lg,_,_,af,_,_,_⟩:=hf.op m A0;have hp:DK ops sp bs (m+1) a0=(DK ops sp bs m a0).put o.dst (s.value bs):=(by show(DK ops sp bs m a0).put ((ops[m]?).bind (·.dst)) ((sp[m]?.map λs=>s.value bs).getD undef)=_;rw[ho,hs];rfl);rw[hp]
  cases hd:o.dst with
  |none=>have ae:Ht ops m=none:=(by unfold Ht;rw[ho];exact hd);refine⟨λj sj dj hj ad aa=>?_,λt ht=>i2 t λj hj=>ht j A0,i3,i4⟩;(have:j≠m:=λe=>by subst e;rw[ae] at aa;cases aa);exact i1 j sj dj A0 ad aa
  |some d=>
   have ae:Ht ops m=O d:=(by unfold Ht;rw[ho];exact hd);have lg:=lg d hd;refine⟨λj sj dj hj ad aa=>?_,λt ht=>?_,by simp[Act.put,i3],i4⟩
   .by_cases e:j=m
    .subst e;rw[hs] at ad;cases ad;rw[ae] at aa;cases aa;simp[Act.put,i3,lg]
    ·(have lU:d≠dj:=λe2=>af j A0 dj aa (by rw[ae,e2]));simp only[Act.put];rw[wE lU];exact i1 j sj dj A0 ad aa
   ·(have lU:d≠t:=λe=>ht m A0 (by rw[ae,e]));simp only[Act.put];rw[wE lU];exact i2 t λj hj=>ht j A0
structure JL (ops:Array Oper) (sp:List Du) (a0:Act) (w0:W_) (H:Hp) (L:List (Nat×Obj)) (Sh:Array Bool->(Nat->C2)->List (Nat×Obj)->Prop) (bs:Nat->C2) (ls:Array Bool) (a:Act) (w:W_):Prop where
 size:ls.size=ops.size
 closed:Iu ops ls
 tail:∀t,sp.length<=t->ls.getD t G=G
 val:∀i s d,sp[i]?=O s->ls.getD i G=B->Ht ops i=O d->a.tmps[d]?=O (s.value bs)
 old:∀t,(∀i,i<sp.length->ls.getD i G=B->Ht ops i≠O t)->a.tmps[t]?=a0.tmps[t]?
 asize:a.tmps.size=a0.tmps.size
 defers:a.defers=a0.defers
 ok:∀i s p,sp[i]?=O s->ls.getD i G=B->s.new=O p->p.2.2 (p.2.1.map bs) (bs i)
 mem:∃Ls,Sh ls bs Ls/\AC w0 H (Oz sp ls bs++(Ls++L)) w
def GP (ops:Array Oper) (sp:List Du) (bs:Nat->C2) (i:Nat):Prop:=∀j s' p,KS ops j ops.size i=B->sp[j]?=O s'->s'.new=O p->p.2.2 (p.2.1.map bs) (bs j)
def Al (P:P_) (ops:Array Oper) (sp:List Du) (w0:W_) (H:Hp) (L:List (Nat×Obj)) (fin:(Nat->C2)->Act) (o:Oper) (s:Du) (i:Nat):Prop:=
 ∀bs:Nat->C2,(∀j s' p,KS ops j ops.size i=B->sp[j]?=O s'->s'.new=O p->p.2.2 (p.2.1.map bs) (bs j))->
  (s.skip=B/\vH o (yielded ops (fin bs).tmps)=G/\s.new=X/\s.value bs=undef)\/
  (s.skip=G/\vH o (yielded ops (fin bs).tmps)=B/\∀(w:W_) (L':List (Nat×Obj)),AC w0 H ((s.cons.flatMap λk=>(bs k).bl)++(L'++L)) w->BU P (fin bs).eval o w λv w'=>
   match s.new with
   |none=>v=s.value bs/\AC w0 H (L'++L) w'
   |some p=>∃d,p.2.2 (p.2.1.map bs) d/\v=s.value (KU bs i d)/\AC w0 H (d.bl++(L'++L)) w')
def Nw (P:P_) (ops:Array Oper) (sp:List Du) (w0:W_) (H:Hp) (L:List (Nat×Obj)) (Sh:Array Bool->(Nat->C2)->List (Nat×Obj)->Prop) (fin:(Nat->C2)->Act) (o:Oper) (s:Du) (i:Nat):Prop:=
 ∀(bs:Nat->C2) (ls:Array Bool) (Ls:List (Nat×Obj)),ls.getD i G=G->i<ls.size->(∀k,k<sp.length->ls.getD k G=B->∀j,KS ops j ops.size k=B->ls.getD j G=B)->(∀j,KS ops j ops.size i=B->ls.getD j G=B)->GP ops sp bs i->Sh ls bs Ls->
  (s.skip=B/\vH o (yielded ops (fin bs).tmps)=G/\s.new=X/\s.value bs=undef/\Sh (ls.setIfInBounds i B) bs Ls)\/
  (s.skip=G/\vH o (yielded ops (fin bs).tmps)=B/\∀(w:W_) (L':List (Nat×Obj)),AC w0 H ((s.cons.flatMap λk=>(bs k).bl)++(L'++(Ls++L))) w->BU P (fin bs).eval o w λv w'=>
   match s.new with
   |none=>v=s.value bs/\∃Ls',Sh (ls.setIfInBounds i B) bs Ls'/\AC w0 H (L'++(Ls'++L)) w'
   |some p=>∃d,p.2.2 (p.2.1.map bs) d/\v=s.value (KU bs i d)/\∃Ls',Sh (ls.setIfInBounds i B) (KU bs i d) Ls'/\AC w0 H (d.bl++(L'++(Ls'++L))) w')
theorem DI (h:i<ls.size):(ls.setIfInBounds i B).getD i G=true:=by simp[h]
theorem F9:DY sp ls k=B↔ls.getD k G=B/\(∃s,sp[k]?=O s/\s.new.isSome=B)/\∀j s,sp[j]?=O s->ls.getD j G=B->k ∉ s.cons:=by
 unfold DY;simp only[ur];constructor
 .rintro⟨⟨h1,h2⟩,h3⟩;refine⟨h1,?_,λj s hs hl hm=>?_⟩
  .cases hk:sp[k]? with
   |none=>rw[hk] at h2;simp at h2
   |some s=>rw[hk] at h2;exact⟨s,Z,by simpa using h2⟩
  .have:=uu.1 h3 j (vB.2 (vF.1 hs).1);rw[hs,hl] at this;simp at this;exact this hm
 .rintro⟨h1,⟨s,hs,h2⟩,h3⟩;refine⟨⟨h1,by rw[hs];simpa using h2⟩,uu.2 λj hj=>?_⟩;have hj:=vB.1 hj;have aa:sp[j]?=O sp[j]:=ui hj;rw[aa];by_cases hl:ls.getD j G=B
  .have:=h3 j _ aa hl;simp[hl,this]
  .simp[hl]
theorem JL.step {size:Nat} (hf:Yb ops sp size) (hz:a0.tmps.size=size) {bs:Nat->C2} {a:Act} (j:JL ops sp a0 w0 H L Sh bs ls a w) (hi:i∈wi .any ops ls) (cj:i<sp.length) (da:∀o s,ops[i]?=O o->sp[i]?=O s->Nw P ops sp w0 H L Sh (λbs=>DK ops sp bs sp.length a0) o s i) (K:Act->W_->Prop) (hK:∀bs a w,JL ops sp a0 w0 H L Sh bs (ls.setIfInBounds i B) a w->K a w):wpOp P ops Q i K a w:=by
 obtain⟨o,s,ho,hs,lg,cw,bm,bw,hds,az,_⟩:=hf.op i cj;have bh:Ht ops i=o.dst:=(by unfold Ht;rw[ho];rfl);have av:=DS hi;have ax:∀e∈o.after,wO .any e=B->ls.getD e.on G=true:=Ib hi ho;(have an:∀k,KS ops k ops.size i=B->ls.getD k G=true:=λk hk=>Ga j.closed _ _ _ ho ax hk);(have cd:∀k,KS ops k ops.size i=B->k≠i:=λk hk e=>by have:=an k hk;rw[e,av] at this;cases this);have lC:i<ls.size:=jM;obtain⟨p1,p2,p3,p4⟩:=VZ hf hz bs sp.length (vD _)
 have au:∀t∈o.looksAt ops,a.tmps[t]?=(DK ops sp bs sp.length a0).tmps[t]?:=λt ht=>by
  by_cases hh:∃k,k<sp.length/\Ht ops k=O t
  .obtain⟨k,hk,ch⟩:=hh;have hl:=an k (bm t ht k hk ch);have aa:sp[k]?=O sp[k]:=ui hk;rw[j.val k _ t aa hl ch,p1 k _ t hk aa ch]
  .exact jB
 have df:x_ a.eval o=x_ (DK ops sp bs sp.length a0).eval o:=by
  (refine execOp_congr o (λcs b=>Region.noSelect_spec hf.sel i o cs b ho) λx hx=>?_)
  cases x with
  |tmp t=>have hq:=au t (wF _ (List.mem_filterMap.2 ⟨.tmp t,by simpa using hx,Z⟩));simp only[Act.eval,Array.getD_eq_getD_getElem?,hq]
  |_=>rfl
 have cy:vH o (yielded ops a.tmps)=vH o (yielded ops (DK ops sp bs sp.length a0).tmps):=by
  unfold vH
  cases hg:o.guard with
  |none=>rfl
  |some gw=>
   obtain⟨g,want⟩:=gw
   have hy:yielded ops a.tmps g=yielded ops (DK ops sp bs sp.length a0).tmps g:=by
    unfold yielded
    cases ht:(ops[g]?).bind (·.dst) with
    |none=>rfl
    |some t=>have:=au t (wj _ (by rw[hg];simp[ht]));simp only[Option.bind_some,this]
   simp only[hy]
 (have ca:∀j' s' p,KS ops j' ops.size i=B->sp[j']?=O s'->s'.new=O p->p.2.2 (p.2.1.map bs) (bs j'):=λj' s' p ha ag hp=>j.ok j' s' p ag (an j' ha) hp);have ah:Iu ops (ls.setIfInBounds i B):=j.closed.set hi;(have ar:∀t,sp.length<=t->(ls.setIfInBounds i B).getD t G=false:=λt ht=>by rw[Bo A0];exact j.tail t ht);have ae:∀k,(ls.setIfInBounds i B).getD k G=B->k≠i->ls.getD k G=true:=λk hk lU=>by rw[Bo (Ne.symm lU)] at hk;exact hk
 have bu:∀k sk,sp[k]?=O sk->ls.getD k G=B->i ∉ sk.ds/\∀p,sk.new=O p->i ∉ p.2.1:=by
  intro k sk aa hl;have cg:k<sp.length:=(vF.1 aa).1;obtain⟨ok,dh,bo,bj,_,_,_,_,ck,bq,_⟩:=hf.op k cg;rw[aa] at bj;cases bj;(have hno:¬KS ops i ops.size k=true:=λe=>by have:=Ga j.closed _ _ _ bo (j.closed k ok bo hl) e;rw[av] at this;cases this);refine⟨λhm=>?_,λp hp hm=>hno ((bq p hp).2.2 i hm)⟩;rcases ck i hm with ⟨e,_⟩|e
  .subst e;rw[av] at hl;cases hl
  .exact hno e
 have bf:∀(af:Nat->C2) (v:V_) (w':W_),v=s.value af->(∀k,k≠i->af k=bs k)->(∀p,s.new=O p->p.2.2 (p.2.1.map bs) (af i))->(∃Ls,Sh (ls.setIfInBounds i B) af Ls/\AC w0 H (Oz sp (ls.setIfInBounds i B) af++(Ls++L)) w')->JL ops sp a0 w0 H L Sh af (ls.setIfInBounds i B) (a.put o.dst v) w':=by
  intro af v w' hv ad ay hm;(have hmap:∀ds:List Nat,i ∉ ds->ds.map af=ds.map bs:=λds hn=>wP λk hk=>ad k λe=>hn (e▸hk));have cp:∀k sk,sp[k]?=O sk->ls.getD k G=B->sk.value af=sk.value bs:=λk sk aa hl=>by unfold Du.value;rw[hmap _ (bu k sk aa hl).1]
  have bn:∀k sk p,sp[k]?=O sk->(ls.setIfInBounds i B).getD k G=B->sk.new=O p->p.2.2 (p.2.1.map af) (af k):=λk sk p aa hl hp=>by
   by_cases e:k=i
   .subst e;rw[hs] at aa;cases aa;rw[hmap _ (λbt=>cd _ ((az p hp).2.2 _ bt) Z)];exact ay p hp
   .have cv:=ae k hl e;rw[hmap _ ((bu k sk aa cv).2 p hp),ad k e];exact j.ok k sk p aa cv hp
  cases hd:o.dst with
  |none=>refine⟨by simp[j.size],ah,ar,λk sk dk aa hl aq=>?_,λt ht=>j.old t λk hk hl=>ht k hk (getD_set_true hl),j.asize,j.defers,bn,hm⟩;(have e:k≠i:=λe=>by subst e;rw[bh,hd] at aq;cases aq);show a.tmps[dk]?=_;rw[j.val k sk dk aa (ae k hl e) aq,cp k sk aa (ae k hl e)]
  |some d=>
   have lg:=lg d hd;have bh:Ht ops i=O d:=bh.trans hd;refine⟨by simp[j.size],ah,ar,λk sk dk aa hl aq=>?_,λt ht=>?_,by simp[Act.put,j.asize],j.defers,bn,hm⟩
   .by_cases e:k=i
    .subst e;rw[hs] at aa;cases aa;rw[bh] at aq;cases aq;simp[Act.put,hv,j.asize,hz,lg]
    .have cg:k<sp.length:=(vF.1 aa).1
     have lU:d≠dk:=by
      intro e2;subst e2;rcases Nat.lt_or_gt_of_ne e with h|h
      .exact bw k h d aq bh
      .obtain⟨_,_,_,_,_,_,_,bg,_⟩:=hf.op k cg;exact bg i h d bh aq
     simp only[Act.put];rw[wE lU,j.val k sk dk aa (ae k hl e) aq,cp k sk aa (ae k hl e)]
   ·(have lU:d≠t:=λe=>ht i cj (DI lC) (by rw[bh,e]));simp only[Act.put];rw[wE lU];exact j.old t λk hk hl=>ht k hk (getD_set_true hl)
 (refine wpOp_step ho λK' cn=>?_);rw[cy];have cu:(ul sp.length).Nodup:=List.nodup_range
 have ak:∀c∈s.cons,KS ops c ops.size i=B/\(∃sj,sp[c]?=O sj/\sj.new.isSome=B)/\∀j',j'≠i->∀s',sp[j']?=O s'->c ∉ s'.cons:=λc hc=>by
  unfold Du.cons at hc
  cases hn:s.new with
  |none=>rw[hn] at hc;cases hc
  |some p=>rw[hn] at hc;exact(az p hn).1 c hc
 have cm:s.cons.Nodup:=by
  unfold Du.cons
  cases hn:s.new with
  |none=>exact List.nodup_nil
  |some p=>exact(az p hn).2.1
 have hcl:∀c∈s.cons,c∈ul sp.length:=λc hc=>by obtain⟨_,⟨sj,bz,_⟩,_⟩:=ak c hc;exact vB.2 (vF.1 bz).1
 have bd:∀c∈s.cons,DY sp ls c=true:=λc hc=>by
  obtain⟨h1,h2,h3⟩:=ak c hc;refine F9.2 ⟨an c h1,h2,λj' s' ag hl hm=>?_⟩;by_cases e:j'=i
  .subst e;rw[av] at hl;cases hl
  .exact h3 j' e s' ag hm
 have bb:∀k,k≠i->k ∉ s.cons->DY sp (ls.setIfInBounds i B) k=DY sp ls k:=λk hk de=>by
  rw[vm,F9,F9,Bo (Ne.symm hk)];(refine and_congr_right λ_=>and_congr_right λ_=>⟨λh j' s' ag hl=>h j' s' ag (getD_set_true hl),λh j' s' ag hl=>?_⟩);by_cases e:j'=i
  .subst e;rw[hs] at ag;cases ag;exact de
  .exact h j' s' ag (ae j' hl e)
 have ba:∀c∈s.cons,DY sp (ls.setIfInBounds i B) c=false:=λc hc=>by
  cases hb:DY sp (ls.setIfInBounds i B) c with
  |false=>rfl
  |true=>exact a_ hc ((F9.1 hb).2.2 i s hs (DI lC))
 have bc:DY sp (ls.setIfInBounds i B) i=s.new.isSome:=by
  rw[vm,F9];constructor
  .rintro⟨_,⟨s',ag,h⟩,_⟩;rw[hs] at ag;cases ag;exact h
  .intro h;refine⟨DI lC,⟨s,hs,h⟩,λj' s' ag hl hm=>?_⟩;have hjl:j'<sp.length:=(vF.1 ag).1;obtain⟨oj,sj,cr,bz,_,_,_,_,_,bp,_⟩:=hf.op j' hjl;rw[ag] at bz;cases bz;unfold Du.cons at hm
   cases hn:s'.new with
   |none=>rw[hn] at hm;cases hm
   |some p=>
    rw[hn] at hm;have ha:=((bp p hn).1 i hm).1;by_cases e:j'=i
    .subst e;exact cd _ ha Z
    .have:=Ga j.closed _ _ _ cr (j.closed j' oj cr (ae j' hl e)) ha;rw[av] at this;cases this
 have ao:DY sp ls i=false:=by
  cases hb:DY sp ls i with
  |false=>rfl
  |true=>have:=(F9.1 hb).1;rw[av] at this;cases this
 (obtain⟨R,hR⟩:∃R,R=(ul sp.length).flatMap λk=>if k∈s.cons then [] else if DY sp ls k=B then (bs k).bl else []:=⟨_,Z⟩);have bk:(Oz sp ls bs).Perm ((s.cons.flatMap λk=>(bs k).bl)++R):=(by have:=Rn (ul sp.length) cu s.cons (λk=>if DY sp ls k=B then (bs k).bl else []) cm hcl;rw[GI (f:=λk=>if DY sp ls k=B then (bs k).bl else []) (g:=λk=>(bs k).bl) s.cons λk hk=>p_ (bd k hk)] at this;rw[hR];exact this)
 have ai:∀af:Nat->C2,(∀k,k≠i->af k=bs k)->(Oz sp (ls.setIfInBounds i B) af).Perm ((if s.new.isSome=B then (af i).bl else [])++R):=by
  intro af ad;have h1:=LS (λk=>if DY sp (ls.setIfInBounds i B) k=B then (af k).bl else []) i (ul sp.length) cu (vB.2 cj);simp only[bc] at h1;refine h1.trans (List.Perm.append_left _ ?_);rw[hR]
  rw[GI (f:=λk=>if k=i then [] else if DY sp (ls.setIfInBounds i B) k=B then (af k).bl else []) (g:=λk=>if k∈s.cons then [] else if DY sp ls k=B then (bs k).bl else []) (ul sp.length) λk _=>by
   by_cases e:k=i
   .rw[p_ e];subst e;rw[n_ (λhc=>cd _ (ak _ hc).1 Z),n_ (by rw[ao];simp)]
   .rw[n_ e];by_cases e2:k∈s.cons
    .rw[p_ e2,n_ (by rw[ba k e2];simp)]
    .rw[n_ e2,bb k e e2,ad k e]]
 obtain⟨Ls,cz,br⟩:=j.mem
 rcases da o s ho hs bs ls Ls av lC (λk hk hl j' ha=>by
  obtain⟨ok,_,bo,_⟩:=hf.op k hk
  exact Ga j.closed _ _ _ bo (j.closed k ok bo hl) ha) an ca cz with ⟨_,hw,hn,hv,aa⟩|⟨_,hw,dg⟩
 .rw[n_ (by rw[hw];simp)];refine cn _ _ (hK bs _ _ (bf bs undef w hv.symm (λ_ _=>rfl) (λp hp=>by rw[hn] at hp;cases hp) ⟨Ls,aa,?_⟩));(have h1:=ai bs λ_ _=>rfl);rw[hn] at h1;have h2:=bk;unfold Du.cons at h2;rw[hn] at h2;have h3:(Oz sp (ls.setIfInBounds i B) bs).Perm (Oz sp ls bs):=(by simpa using h1:(Oz sp (ls.setIfInBounds i B) bs).Perm R).trans (by simpa using h2:(Oz sp ls bs).Perm R).symm;exact br.perm (h3.symm.append_right (Ls++L))
 rw[p_ hw];have hm:=br.perm (bk.append_right (Ls++L));rw[uq] at hm;have aj:=dg w R hm;unfold BU at aj;rw[<-df] at aj;(refine BU.wp aj λv w' hv=>?_)
 cases hn:s.new with
 |none=>rw[hn] at hv;obtain⟨rfl,bx,aw,bt⟩:=hv;refine cn _ _ (hK bs _ _ (bf bs _ _ Z (λ_ _=>rfl) (λp hp=>by rw[hn] at hp;cases hp) ⟨bx,aw,?_⟩));(have h1:=ai bs λ_ _=>rfl);rw[hn] at h1;exact bt.perm ((by simpa using h1:(Oz sp (ls.setIfInBounds i B) bs).Perm R).symm.append_right (bx++L))
 |some p=>rw[hn] at hv;obtain⟨d,ay,rfl,bx,aw,bt⟩:=hv;(have ad:∀k,k≠i->KU bs i d k=bs k:=λk hk=>n_ hk);have cx:KU bs i d i=d:=p_ Z;refine cn _ _ (hK (KU bs i d) _ _ (bf _ _ _ Z ad (λp' cq=>by rw[hn] at cq;cases cq;rw[cx];exact ay) ⟨bx,aw,?_⟩));have h1:=ai _ ad;rw[hn,cx] at h1;have h2:=(h1.append_right (bx++L)).symm;simp only[Option.isSome_some,↓reduceIte,uq] at h2;exact bt.perm h2
def Ss (P:P_) (ops:Array Oper) (sp:List Du) (w0:W_) (H:Hp) (L:List (Nat×Obj)) (fin:(Nat->C2)->Act):List Oper->List Du->Nat->Prop
 |o::l,s::r,i=>Al P ops sp w0 H L fin o s i/\Ss P ops sp w0 H L fin l r (i+1)
 |_,_,_=>True
def OK (P:P_) (ops:Array Oper) (sp:List Du) (w0:W_) (H:Hp) (L:List (Nat×Obj)) (Sh:Array Bool->(Nat->C2)->List (Nat×Obj)->Prop) (fin:(Nat->C2)->Act):List Oper->List Du->Nat->Prop
 |o::l,s::r,i=>Nw P ops sp w0 H L Sh fin o s i/\OK P ops sp w0 H L Sh fin l r (i+1)
 |_,_,_=>True
theorem OK.at {fin:(Nat->C2)->Act}:∀(l:List Oper) (r:List Du) (k i:Nat) (o:Oper) (s:Du),OK P ops sp w0 H L Sh fin l r k->l[i]?=O o->r[i]?=O s->Nw P ops sp w0 H L Sh fin o s (k+i)
 |[],_,_,_,_,_,_,h,_=>by cases h
 |_::_,[],_,_,_,_,_,_,h=>by cases h
 |o'::l,s'::r,k,0,o,s,h,h1,h2=>by
  cases h1
  cases h2
  exact h.1
 |o'::l,s'::r,k,i+1,o,s,h,h1,h2=>by
  have:=OK.at l r (k+1) i o s h.2 IV GW
  rwa [(A0:k+(i+1)=k+1+i)]
def NI (bs:Nat->C2) (L:List (Nat×Obj)):List Bool->Nat->List (Nat×Obj)
 |[],_=>L
 |true::r,k=>(bs k).bl++NI bs L r (k+1)
 |false::r,k=>NI bs L r (k+1)
theorem ZD (bs:Nat->C2) (L:List (Nat×Obj)) (f:Nat->Bool):∀(n k:Nat),NI bs L ((List.range' k n).map f) k=((List.range' k n).flatMap λj=>if f j=B then (bs j).bl else [])++L
 |0,k=>rfl
 |n+1,k=>by
  rw[List.range'_succ,List.map_cons,vR]
  have ih:=ZD bs L f n (k+1)
  cases hb:f k with
  |true=>
   show(bs k).bl++NI bs L _ (k+1)=_
   rw[ih,p_ Z,uq]
  |false=>
   show NI bs L _ (k+1)=_
   rw[ih,n_ (by simp),um]
def I7 (ops:Array Oper) (sp:List Du):Array Bool:=((ul ops.size).map λi=>T (i<sp.length)).toArray
theorem JL.any {size:Nat} (hf:Yb ops sp size) (hz:a0.tmps.size=size) (fin:(Nat->C2)->Act) (ad:∀bs,DK ops sp bs sp.length a0=fin bs) (af:OK P ops sp w0 H L Sh fin ops.toList sp 0) (hs:List Bool) (bc:(ul sp.length).map (DY sp (I7 ops sp))=hs) (h:∀bs w' Ls,(∀(j:Nat) (s:Du) p,sp[j]?=O s->s.new=O p->p.2.2 (p.2.1.map bs) (bs j))->Sh (I7 ops sp) bs Ls->AC w0 H (NI bs (Ls++L) hs 0) w'->wpList P ops Q (ops.toList.drop sp.length) (fin bs) w'):∀(k:Nat) (ls:Array Bool) (bs:Nat->C2) (a:Act) (w:W_),JL ops sp a0 w0 H L Sh bs ls a w->((ul sp.length).filter λi=> !ls.getD i G).length=k->wpAny P .any ops Q (k+(ops.size-sp.length)) ls a w:=by
 intro k
 induction k with
 |zero=>
  intro ls bs a w j hk
  have ly:∀i,i<sp.length->ls.getD i G=true:=by
   intro i hi;have h1:=List.eq_nil_of_length_eq_zero hk
   cases hb:ls.getD i G with
   |true=>rfl
   |false=>(have h2:i∈(ul sp.length).filter λi=> !ls.getD i false:=(by rw[wl];exact⟨vB.2 hi,by rw[hb];rfl⟩));rw[h1] at h2;cases h2
  have ah:ls=I7 ops sp:=by
   unfold I7;(refine Array.ext (by simp[j.size]) λi h1 h2=>?_);have h3:ls.getD i G=ls[i]:=(by simp[h1]);rw[<-h3];by_cases hi:i<sp.length
   .rw[ly i hi];simp[hi]
   .rw[j.tail i A0];simp[hi]
  have ai:a=fin bs:=by
   rw[<-ad bs];obtain⟨p1,p2,p3,p4⟩:=VZ hf hz bs sp.length (vD _)
   have h1:a.tmps=(DK ops sp bs sp.length a0).tmps:=by
    (refine Array.ext_getElem? λt=>?_);by_cases hh:∃k,k<sp.length/\Ht ops k=O t
    .obtain⟨k,hk,au⟩:=hh;have ak:sp[k]?=O sp[k]:=ui hk;rw[j.val k _ t ak (ly k hk) au,p1 k _ t hk ak au]
    .exact jB
   have h2:a.defers=(DK ops sp bs sp.length a0).defers:=(by rw[j.defers,p4]);cases a;cases hp:DK ops sp bs sp.length a0;rw[hp] at h1 h2;simp only at h1 h2;rw[h1,h2]
  obtain⟨Ls,ba,bb⟩:=j.mem;have ag:AC w0 H (NI bs (Ls++L) hs 0) w:=(by have h1:=ZD bs (Ls++L) (DY sp (I7 ops sp)) sp.length 0;rw[<-List.range_eq_range',bc] at h1;rw[h1,<-ah];exact bb);have hr:=h bs w Ls (λj' s' p an hp=>j.ok j' s' p an (ly j' (vF.1 an).1) hp) (by rw[<-ah];exact ba) ag;rw[<-ai] at hr;have nC:(ops.toList.drop sp.length).length=ops.size-sp.length:=(by simp);rw[vI,<-nC];refine wpAny_of_seq (ops.toList.drop sp.length) sp.length ls a w (λj=>by simp[List.getElem?_drop]) ?_ hr;rw[nC,ah];exact hf.seq
 |succ k ih=>
  intro ls bs a w j hk;rw[(A0:k+1+(ops.size-sp.length)=(k+(ops.size-sp.length))+1)]
  have hex:∃i,i<sp.length/\ls.getD i G=G/\∀i',i'<i->ls.getD i' G=true:=by
   have h1:∃i,i<sp.length/\ls.getD i G=false:=by
    cases hl:(ul sp.length).filter λi=> !ls.getD i G with
    |nil=>rw[hl] at hk;simp at hk
    |cons x l=>(have h2:x∈(ul sp.length).filter λi=> !ls.getD i false:=(by rw[hl];exact .head _));rw[wl] at h2;exact⟨x,vB.1 h2.1,by simpa using h2.2⟩
   obtain⟨i,h2,h3⟩:=h1
   induction i using wm with
   |_ i ih2=>
    by_cases h4:∃i',i'<i/\ls.getD i' G=G
    .obtain⟨i',h5,h6⟩:=h4;exact ih2 i' h5 A0 h6
    .refine⟨i,h2,h3,λi' h5=>?_⟩
     cases hb:ls.getD i' G with
     |true=>rfl
     |false=>exact a_ ⟨i',h5,hb⟩ h4
  obtain⟨i0,ax,aj,aa⟩:=hex;have aq:i0∈wi .any ops ls:=(by obtain⟨o,s,ho,_,_,ae,_⟩:=hf.op i0 ax;refine mem_ready.2 ⟨?_,o,ho,λe he hb=>aa _ (ae e he hb)⟩;have:i0<ls.size:=jM;exact getD_in this aj);refine⟨λh0=>(by rw[h0] at aq;cases aq),λi hi=>?_⟩
  have aw:i<sp.length:=by
   rcases wB i sp.length with h1|h1
   .exact h1
   .exfalso;obtain⟨_,o,ho,ao⟩:=mem_ready.1 hi;have av:i<ops.size:=(Array.getElem?_eq_some_iff.1 ho).1;rcases Nat.lt_or_eq_of_le h1 with h2|h2
    .have h3:=hf.chain i av h2;obtain⟨o',ar,e,he,hb,bg⟩:=Region.waitsFor_spec h3;rw[ho] at ar;cases ar;have h4:=ao e he hb;rw[bg,j.tail _ A0] at h4;cases h4
    .subst h2;obtain⟨_,_,_,_,_,_,_,_,_,_,hw⟩:=hf.op i0 ax;have:=Ga j.closed _ _ _ ho ao (hw av);rw[aj] at this;cases this
  refine j.step hf hz hi aw (λo s ho hs=>?_) _ λbh a' w' j'=>?_
  .have:=OK.at ops.toList sp 0 i o s af (by simpa using ho) hs;rw[vI] at this;have bf:(λbs=>DK ops sp bs sp.length a0)=fin:=funext ad;rw[bf];exact this
  .refine ih _ bh a' w' j' ?_;have az:=DS hi;have lC:i<ls.size:=jM
   have bd:∀n,i<n->((ul n).filter λk=> !(ls.setIfInBounds i B).getD k G).length+1=((ul n).filter λk=> !ls.getD k G).length:=by
    intro n
    induction n with
    |zero=>intro h;omega
    |succ n ay=>
     intro hin;rw[vp,wo,wo,vu,vu];by_cases e:i=n
     .subst e;(have h1:(ul i).filter (λk=> !(ls.setIfInBounds i B).getD k G)=(ul i).filter λk=> !ls.getD k false:=(by(refine wt λx hx=>?_);rw[Bo (by have:=vB.1 hx;omega)]));rw[h1];simp only[List.filter_cons,DI lC,az];simp
     .have:=ay A0;(have h1:[n].filter (λk=> !(ls.setIfInBounds i B).getD k G)=[n].filter λk=> !ls.getD k false:=(by(refine wt λx hx=>?_);rw[vG] at hx;rw[Bo A0]));rw[h1];omega
   have:=bd sp.length aw;omega
theorem JL.all {a:Act} (sp:List Du) (hs:List Bool) (fin:(Nat->C2)->Act) (hB:Nu ops sp a.tmps.size=B) (ae:(ul sp.length).map (DY sp (I7 ops sp))=hs) (ad:∀bs,DK ops sp bs sp.length a=fin bs) (m:AC w0 H L w) (af:Sh (vU ops.size G) (λ_=>⟨0,0,undef,[]⟩) []) (aa:OK P ops sp w0 H L Sh fin ops.toList sp 0) (h:∀bs w' Ls,(∀(j:Nat) (s:Du) p,sp[j]?=O s->s.new=O p->p.2.2 (p.2.1.map bs) (bs j))->Sh (I7 ops sp) bs Ls->AC w0 H (NI bs (Ls++L) hs 0) w'->wpList P ops Q (ops.toList.drop sp.length) (fin bs) w'):wpAny P .any ops Q ops.size (vU ops.size G) a w.drew:=by
 have hf:=Y0 hB;have hk:ops.size=sp.length+(ops.size-sp.length):=(by have:=hf.lt;omega)
 have hF:∀t,(vU ops.size G).getD t G=false:=λt=>by
  rcases wB t ops.size with h|h
  .simp[h]
  .simp[h]
 have j0:JL ops sp a w0 H L Sh (λ_=>⟨0,0,undef,[]⟩) (vU ops.size G) a w.drew:=(by refine⟨by simp,λj o _ hl=>(by rw[hF] at hl;cases hl),λt _=>hF t,λi s d _ hl=>(by rw[hF] at hl;cases hl),λ_ _=>rfl,Z,Z,λi s p _ hl=>(by rw[hF] at hl;cases hl),[],af,?_⟩;have:Oz sp (vU ops.size G) (λ_=>⟨0,0,undef,[]⟩)=[]:=(by unfold Oz;(refine List.flatMap_eq_nil_iff.2 λx _=>?_);rw[n_];intro hx;have:=(F9.1 hx).1;rw[hF] at this;cases this);rw[this];exact m.drew);(have:=JL.any hf Z fin ad aa hs ae h sp.length _ _ _ _ j0 (by rw[wW.2 (by intro t _;rw[hF];rfl),List.length_range]));rw[<-hk] at this;exact this
theorem Nw.ofK {fin:(Nat->C2)->Act} {s:Du} (h:Al P ops sp w0 H L fin o s i) (hp:∀(ls:Array Bool) (bs af:Nat->C2) (Ls:List (Nat×Obj)),ls.getD i G=G->(∀k,k<sp.length->ls.getD k G=B->∀j,KS ops j ops.size k=B->ls.getD j G=B)->(∀k,k≠i->af k=bs k)->Sh ls bs Ls->Sh (ls.setIfInBounds i B) af Ls):Nw P ops sp w0 H L Sh fin o s i:=by
 intro bs ls Ls ad lC hcl ai ag ae;rcases h bs ag with ⟨h1,h2,h3,h4⟩|⟨hk,hw,ah⟩
 .exact .inl ⟨h1,h2,h3,h4,hp ls bs bs Ls ad hcl (λ_ _=>rfl) ae⟩
 .refine .inr ⟨hk,hw,λw L' m=>?_⟩;have h2:=ah w (L'++Ls) (by rw[uq];exact m)
  have hR:∀v w',(match s.new with
   |none=>v=s.value bs/\AC w0 H ((L'++Ls)++L) w'
   |some p=>∃d,p.2.2 (p.2.1.map bs) d/\v=s.value (KU bs i d)/\AC w0 H (d.bl++((L'++Ls)++L)) w')->
   (match s.new with
   |none=>v=s.value bs/\∃aa,Sh (ls.setIfInBounds i B) bs aa/\AC w0 H (L'++(aa++L)) w'
   |some p=>∃d,p.2.2 (p.2.1.map bs) d/\v=s.value (KU bs i d)/\∃aa,Sh (ls.setIfInBounds i B) (KU bs i d) aa/\AC w0 H (d.bl++(L'++(aa++L))) w'):=by
   intro v w' hv
   cases hn:s.new with
   |none=>
    rw[hn] at hv
    exact⟨hv.1,Ls,hp ls bs bs Ls ad hcl (λ_ _=>rfl) ae,by have:=hv.2;rwa [uq] at this⟩
   |some p=>
    rw[hn] at hv
    obtain⟨d,hd,hv,hm⟩:=hv
    exact⟨d,hd,hv,Ls,hp ls bs (KU bs i d) Ls ad hcl (λk hk=>n_ hk) ae,by rwa [uq] at hm⟩
  rcases h2 with ⟨v,w',h3,h4⟩|⟨w',h3,h4⟩|⟨f,args,w1,h3,h4⟩
  .exact .inl ⟨v,w',h3,hR _ _ h4⟩
  .exact .inr (.inl ⟨w',h3,hR _ _ h4⟩)
  .exact .inr (.inr ⟨f,args,w1,h3,h4.mono λe w' ⟨v,he,hr⟩=>⟨v,he,hR _ _ hr⟩⟩)
theorem OK.ofK {fin:(Nat->C2)->Act}:∀(l:List Oper) (r:List Du) (i:Nat),Ss P ops sp w0 H L fin l r i->OK P ops sp w0 H L (λ_ _ Ls=>Ls=[]) fin l r i
 |[],_,_,_=>trivial
 |_::_,[],_,_=>trivial
 |_::l,_::r,i,h=>⟨Nw.ofK h.1 λ_ _ _ _ _ _ _ h=>h,OK.ofK l r (i+1) h.2⟩
theorem JK.all {a:Act} {w:W_} (sp:List Du) (hs:List Bool) (fin:(Nat->C2)->Act) (hB:Nu ops sp a.tmps.size=B) (hhs:(ul sp.length).map (DY sp (I7 ops sp))=hs) (hfin:∀bs,DK ops sp bs sp.length a=fin bs)
  (m:AC w0 H L w) (hops:Ss P ops sp w0 H L fin ops.toList sp 0)
  (h:∀bs w',(∀(j:Nat) (s:Du) p,sp[j]?=O s->s.new=O p->p.2.2 (p.2.1.map bs) (bs j))->AC w0 H (NI bs L hs 0) w'->wpList P ops Q (ops.toList.drop sp.length) (fin bs) w'):wpAny P .any ops Q ops.size (vU ops.size G) a w.drew:=
 JL.all (Sh:=λ_ _ Ls=>Ls=[]) sp hs fin hB hhs hfin m Z (OK.ofK _ _ _ hops) λbs w' Ls h1 h2 h3=>h bs w' h1 (by rw[h2] at h3;exact h3)
theorem Ns {id:Nat} {a:Act} {w:W_} (sp:List Du) (hs:List Bool) (fin:(Nat->C2)->Act) (hm:P.follows .mixedOrders=B) (hB:Nu ops sp a.tmps.size=B) (hhs:(ul sp.length).map (DY sp (I7 ops sp))=hs) (hfin:∀bs,DK ops sp bs sp.length a=fin bs)
  (m:AC w0 H L w) (hops:Ss P ops sp w0 H L fin ops.toList sp 0)
  (h:∀bs w',(∀(j:Nat) (s:Du) p,sp[j]?=O s->s.new=O p->p.2.2 (p.2.1.map bs) (bs j))->AC w0 H (NI bs L hs 0) w'->wpList P ops Q (ops.toList.drop sp.length) (fin bs) w'):(Code.region id ops B).wp P Q a w:=
 wp_region_any hm (JK.all sp hs fin hB hhs hfin m hops h)
def Ax:C2:=⟨0,0,undef,[]⟩
theorem AC.dropLK:∀(L0:List (Nat×Obj)) {w:W_},AC w0 H (L0++L) w->AC w0 H L w
 |[],_,m=>m
 |_::L0,_,m=>AC.dropLK L0 m.drop
theorem GP.at {bs:Nat->C2} (h:GP ops sp bs i) (j:Nat) {s':Du} {p:List Nat×List Nat×(List C2->C2->Prop)} (ha:KS ops j ops.size i=B) (hs:sp[j]?=O s') (hp:s'.new=O p):p.2.2 (p.2.1.map bs) (bs j):=h j s' p ha hs hp
theorem Al.val {fin:(Nat->C2)->Act} {s:Du} (hk:s.skip=G) (hn:s.new=X) (hg:o.guard=X) (h:∀bs w,GP ops sp bs i->AC w0 H L w->(x_ (fin bs).eval o).run P w= .ok (.value (s.value bs)) w):Al P ops sp w0 H L fin o s i:=by
 intro bs hb;refine .inr ⟨hk,by simp[vH,hg],λw L' m=> .inl ⟨_,_,h bs w hb ?_,?_⟩⟩
 .unfold Du.cons at m;rw[hn] at m;exact AC.dropLK L' m
 .unfold Du.cons at m;rw[hn] at m⊢;exact⟨Z,m⟩
theorem Al.make {fin:(Nat->C2)->Act} {s:Du} (dz:List Nat) (ob:List C2->Obj) (hk:s.skip=G) (hn:s.new=O ([],dz,λl d=>d.bl=[(d.b,ob l)])) (hg:o.guard=X) (h:∀bs w,GP ops sp bs i->AC w0 H L w->(x_ (fin bs).eval o).run P w= .ok (.value (s.value (KU bs i ⟨w.heap.size,0,undef,[(w.heap.size,ob (dz.map bs))]⟩))) (w.alloc (ob (dz.map bs)))):Al P ops sp w0 H L fin o s i:=by intro bs hb;refine .inr ⟨hk,by simp[vH,hg],λw L' m=>?_⟩;unfold Du.cons at m;rw[hn] at m⊢;have m':AC w0 H (L'++L) w:=m;exact .inl ⟨_,_,h bs w hb (AC.dropLK L' m'),⟨w.heap.size,0,undef,[(w.heap.size,ob (dz.map bs))]⟩,Z,Z,m'.alloc _⟩
theorem Al.gen {fin:(Nat->C2)->Act} {s:Du} (p:List Nat×List Nat×(List C2->C2->Prop)) (hk:s.skip=G) (hn:s.new=O p) (hg:o.guard=X) (h:∀bs w L',GP ops sp bs i->AC w0 H ((p.1.flatMap λk=>(bs k).bl)++(L'++L)) w->BU P (fin bs).eval o w λv w'=>∃d,p.2.2 (p.2.1.map bs) d/\v=s.value (KU bs i d)/\AC w0 H (d.bl++(L'++L)) w'):Al P ops sp w0 H L fin o s i:=by exact gS
theorem Al.call {fin:(Nat->C2)->Act} {s:Du} (hk:s.skip=G) (hn:s.new=X) (hg:o.guard=X) (h:∀bs w L',GP ops sp bs i->AC w0 H (L'++L) w->BU P (fin bs).eval o w λv w'=>v=s.value bs/\AC w0 H (L'++L) w'):Al P ops sp w0 H L fin o s i:=by exact gS
theorem Al.skip {fin:(Nat->C2)->Act} {o:Oper} {s:Du} {i:Nat} (hk:s.skip=B) (hn:s.new=X) (hv:∀bs,s.value bs=undef) (h:∀bs,vH o (yielded ops (fin bs).tmps)=G):Al P ops sp w0 H L fin o s i:=
 λbs _=> .inl ⟨hk,h bs,hn,hv bs⟩
theorem Al.wantV {fin:(Nat->C2)->Act} {s:Du} (hk:s.skip=G) (hn:s.new=X) (hg:∀bs,vH o (yielded ops (fin bs).tmps)=B) (h:∀bs w,GP ops sp bs i->AC w0 H L w->(x_ (fin bs).eval o).run P w= .ok (.value (s.value bs)) w):Al P ops sp w0 H L fin o s i:=by
 intro bs hb;refine .inr ⟨hk,hg bs,λw L' m=> .inl ⟨_,_,h bs w hb ?_,?_⟩⟩
 .unfold Du.cons at m;rw[hn] at m;exact AC.dropLK L' m
 .unfold Du.cons at m;rw[hn] at m⊢;exact⟨Z,m⟩
theorem BU.ofSkip {R:V_->W_->Prop} (h:(x_ ρ o).run P w= .ok .skip w') (hr:R undef w'):BU P ρ o w R:= .inr (.inl ⟨w',h,hr⟩)
theorem BU.ofCall {args:Array V_} {R:V_->W_->Prop} (h:(x_ ρ o).run P w= .ok (.enter f args) w) (hr:K_ P f args w λe w'=>∃v,e= .returned v/\R v w'):BU P ρ o w R:= .inr (.inr ⟨f,args,w,h,hr⟩)
theorem BU.append {R:V_->W_->Prop} {s x:O_} {v xv v':V_} (ho:o.op= .call {callee:= .builtin .append,args:=#[s,x],argTypes:=#[t,t]}) (hs:ρ s=v) (hx:ρ x=xv) (hr:(Builtin.append_ #[t,t] o.type #[v,xv]).run P w= .ok v' w') (h:R v' w'):BU P ρ o w R:=by refine .inl ⟨v',w',?_,h⟩;unfold x_;simp only[ho,resolve,invoke,builtin,Sem.run_bind,Sem.run_pure,Result.andThen_ok,List.map_toArray,List.map_cons,List.map_nil,hs,hx,hr]
abbrev VK (v:V_):Du:=⟨[],λ_=>v,X,G⟩
abbrev SK:Du:=⟨[],λ_=>undef,X,B⟩
theorem Al.vk {fin:(Nat->C2)->Act} {o:Oper} {v:V_} {i:Nat} (hg:o.guard=X)
  (h:∀bs w,GP ops sp bs i->AC w0 H L w->(x_ (fin bs).eval o).run P w= .ok (.value v) w):Al P ops sp w0 H L fin o (VK v) i:=Al.val Z Z hg h
theorem Al.wk {fin:(Nat->C2)->Act} {o:Oper} {v:V_} {i:Nat} (hg:∀bs,vH o (yielded ops (fin bs).tmps)=B)
  (h:∀bs w,GP ops sp bs i->AC w0 H L w->(x_ (fin bs).eval o).run P w= .ok (.value v) w):Al P ops sp w0 H L fin o (VK v) i:=Al.wantV Z Z hg h
theorem AC.like0 (_:AC w0 H L w) (h:AC w0 H L w'):AC w0 H L w':=h
theorem AC.like1 (_:AC w0 H L w) (A:List (Nat×Obj)) (h:AC w0 H (A++L) w'):AC w0 H (A++L) w':=h
theorem AC.like2 (_:AC w0 H L w) (A Bq:List (Nat×Obj)) (h:AC w0 H (A++(Bq++L)) w'):AC w0 H (A++(Bq++L)) w':=h
theorem AC.like3 (_:AC w0 H L w) (A Bq Cq:List (Nat×Obj)) (h:AC w0 H (A++(Bq++(Cq++L))) w'):AC w0 H (A++(Bq++(Cq++L))) w':=h
theorem AC.like4 (_:AC w0 H L w) (A Bq Cq D:List (Nat×Obj)) (h:AC w0 H (A++(Bq++(Cq++(D++L)))) w'):AC w0 H (A++(Bq++(Cq++(D++L)))) w':=h
theorem B1 {id:Nat} {a:Act} {w:W_} {fin:(Nat->C2)->Act} (m:AC w0 H L w) (sp:List Du) (hs:List Bool)
  (hops:Ss P ops sp w0 H L fin ops.toList sp 0)
  (h:∀bs w',(∀(j:Nat) (s:Du) p,sp[j]?=O s->s.new=O p->p.2.2 (p.2.1.map bs) (bs j))->AC w0 H (NI bs L hs 0) w'->wpList P ops Q (ops.toList.drop sp.length) (fin bs) w')
  (hfin:∀bs,DK ops sp bs sp.length a=fin bs:=by intro bs;simp only[DK,VK,SK,List.length_cons,List.length_nil,Nat.reduceAdd,List.getElem?_toArray,List.getElem?_cons_succ,List.getElem?_cons_zero,Option.bind_some,Option.map_some,Option.getD_some,Du.value,List.map_cons,List.map_nil,Act.put,List.setIfInBounds_toArray,List.set_cons_succ,List.set_cons_zero,List.getD_cons_zero,List.getD_cons_succ];exact Z)
  (hm:P.follows .mixedOrders=true:=by kernel_rfl) (hB:Nu ops sp a.tmps.size=true:=by kernel_rfl) (hhs:(ul sp.length).map (DY sp (I7 ops sp))=hs:=by kernel_rfl):(Code.region id ops B).wp P Q a w:=
 Ns sp hs fin hm hB hhs hfin m hops h
end
end
variable {L0:List (Nat×Obj)} {e:TypeId} {i:Nat} {E:Kc α}
theorem AX.takeV {b:Option Addr} {ys:List α} (h:AX E H (V b n c) ys) (hk:k<=ys.length):AX E H (V b k c) (ys.take k):=by obtain⟨b',c',hv,h1,h2,h3,h4⟩:=h;cases hv;have hl:(ys.take k).length=k:=Nn;refine⟨b,c,by rw[hl],by omega,h2,h3,λi hi=>?_⟩;obtain⟨lu,off,cs,e1,e2,e3⟩:=h4 i A0;refine⟨lu,off,cs,e1,?_,e3⟩;rw[wU];exact e2
theorem Ba.pos {size:Nat} {v:V_} {xs:List V_} (h:Ba e size v n xs L0) (hn:0<n):∃g c,v= V (O ⟨g,0,X⟩) n c:=by
 rcases h.2 with ⟨_,h2,_⟩|⟨g,cap,nB,h1,_⟩
 .omega
 .exact⟨g,cap,h1⟩
theorem EA {F:W_->Prop} (m:AC w0 H L w) (h:∀w',AC w0 H L w'->F w'):F w:=h w m
theorem Sl:EH (-1):=⟨by decide,by decide⟩
def On:Kc Av:=⟨3,λH cs y=>∃tv,cs=[Y I y.at',Y I y.to,tv]/\EH y.at'/\EH y.to/\AX AY H tv y.t,λhl ⟨a,h1,h2,h3,h4⟩=>⟨a,h1,h2,h3,h4.mono hl⟩,λ⟨a,h1,_⟩=>by rw[h1];rfl⟩
theorem AX.getNext {b:Option Addr} {xs:List Av} (h:AX On H (V b n c) xs) {x:Av} (hi:xs[i]?=O x):∃lu off tv,b=O ⟨lu,off,X⟩/\Bm H lu (off+i*3) (Y I x.at')/\Bm H lu (off+i*3+1) (Y I x.to)/\Bm H lu (off+i*3+2) tv/\EH x.at'/\EH x.to/\AX AY H tv x.t:=by obtain⟨hl,rfl⟩:=vF.1 hi;obtain⟨b',c',hv,_,_,_,hc⟩:=h;cases hv;obtain⟨lu,off,cs,e1,e2,e3⟩:=hc i hl;obtain⟨tv,rfl,e4,e5,e6⟩:=e2;exact⟨lu,off,tv,e1,e3 0 _ Z,e3 1 _ Z,e3 2 _ Z,e4,e5,e6⟩
def JF (w0:W_) (H:Hp) (L:List (Nat×Obj)) (l:List Av) (e:E_) (w':W_):Prop:=∃v H',e= .returned v/\Bl H H'/\AX On H' v l/\AC w0 H' L w'
def EX:List (Av×V_)->List V_
 |[]=>[]
 |y::l=> Y I y.1.at':: Y I y.1.to::y.2::EX l
theorem VJ (l l':List (Av×V_)):EX (l++l')=EX l++EX l':=by
 induction l with
 |nil=>rfl
 |cons y l ih=>simp[EX,ih]
def OL (H:Hp) (y:Av×V_):Prop:=EH y.1.at'/\EH y.1.to/\AX AY H y.2 y.1.t
theorem O4 {H:Hp}:∀(l:List (Av×V_)),(∀y∈l,OL H y)->Ai On H (EX l) (l.map Prod.fst)
 |[],_=> .nil
 |y::l,h=>by
  have h1:=h y (.head _)
  have hr:On.rep H [Y I y.1.at',Y I y.1.to,y.2] y.1:=⟨y.2,Z,h1.1,h1.2.1,h1.2.2⟩
  exact Ai.cons hr Z (O4 l λz hz=>h z (.tail _ hz))
theorem Es {H:Hp}:∀(l:List (Av×V_)),(∀y∈l,OL H y)->∀u∈EX l,u.oneCell'=B
 |[],_=>λu hu=>by cases hu
 |y::l,h=>by
  intro u hu
  have h1:=h y (.head _)
  obtain⟨_,_,h2,_⟩:=h1.2.2
  simp only[EX,vZ] at hu
  rcases hu with rfl|rfl|rfl|hu
  .rfl
  .rfl
  .rw[h2];rfl
  .exact Es l (λz hz=>h z (.tail _ hz)) u hu
theorem JF.of {H1:Hp} {v:V_} {l:List (Av×V_)} {ys:List Av} (h:AP w0 H1 L 167 3 v l.length (EX l) w) (hH:Bl H H1) (hl:∀y∈l,OL H1 y) (hy:l.map Prod.fst=ys):JF w0 H L ys (.returned v) w:=by subst hy;obtain⟨H',m,h1,h2⟩:=h.done (O4 l hl) Z (by simp);exact⟨v,H',Z,hH.trans h1,h2,m⟩
theorem AX.getID {b:Option Addr} {xs:List Int} (h:AX AY H (V b n c) xs) (hi:i<xs.length):∃x lu off,xs.getD i 0=x/\b=O ⟨lu,off,X⟩/\Bm H lu (off+i) (Y I x)/\EH x:=by obtain⟨lu,off,h1,h2,h3⟩:=h.getI (ui hi);exact⟨xs[i],lu,off,by simp[hi],h1,h2,h3⟩
theorem LW (c:AF) (vi tv:V_) (k:Nat) (i:Bu) (eJ:List Int) (hk:c.i[k]?=O i) (df:c.i.length<=2000) (ht:eJ.length<=4096) (hw:i.w.length<=4) (ca:i.op=61\/i.op=62\/i.op=63\/i.op=65\/i.op=67->0<i.go.length) (bz:i.op=62\/i.op=63\/i.op=65->1<i.go.length) (m:AC w0 H L w) (hd:AX C1 H vi c.i) (br:AX AY H tv eJ):K_ uh 107 #[Gm c vi,Y I k,tv] w (JF w0 H L (B6 i k eJ)):=by
 have HD:=A5 hd;have HT:=A5 br;obtain⟨ib,ic,rfl,-,hm1,-⟩:=hd;obtain⟨tb,tc,rfl,cv,bu,-⟩:=br;have hm1:=A9 hm1;have bu:=A9 bu;obtain⟨lu,off,va,vg,vw,rfl,d0,d1,d2,d3,d4,d5,d6,d7,hi⟩:=HD.out.getIns hk;have dg:k<c.i.length:=(vF.1 hk).1;have dh:(k:Int)<c.i.length:=A0;clear hk;have HI:=A5 hi;obtain⟨b5,c5,b6,c6,b7,c7,rfl,rfl,rfl,l5,l6,l7⟩:=hi.shapes;clear hi;obtain⟨op,to,args,n,mm,name,go,ways⟩:=i;simp only at*;unfold Gm;have m1:=m.alloc (At c (V (O ⟨lu,off,X⟩) c.i.length ic));have m2:=m1.alloc (C #[] 167);have m3:=m2.alloc (S8 op to args n mm name go ways b5 c5 b6 c6 b7 c7);simp only[vP] at m3;have es:=m3.e8;have d0:=d0.cell m1;have d1:=d1.cell m1;have d2:=d2.cell m1;have d3:=d3.cell m1;have d4:=d4.cell m1;have d5:=d5.cell m1;have d6:=d6.cell m1;have d7:=d7.cell m1;generalize au:w.heap.size=xb at*;go_enter func107,ntmps107;have ad:=A5 ca;have ak:=A5 bz;clear ca bz;have ai:EH to:=HI.out.1.to;by_cases oo:op=21
 .skip;have aa:((op:Int)==21)=true:=B8;exact j5
 have bo:=oo;clear oo;by_cases oo:op=69
 .skip;have aa:((op:Int)==21)=false:=bF A0;have ae:((op:Int)==69)=true:=B8;exact j5
 have bd:=oo;clear oo;by_cases oo:op=70
 .skip;have aa:((op:Int)==21)=false:=bF A0;have ae:((op:Int)==69)=false:=bF A0;have af:((op:Int)==70)=true:=B8;exact j5
 have bc:=oo;clear oo;by_cases oo:op=61
 .skip;obtain⟨x0,g0,go0,hx0,rfl,e0,hf0⟩:=HI.out.2.2.1.getID (ad.out B8);rw[vv] at e0;have E0:=A5 e0;have e0:=e0.cell m3;have av:0<go.length:=ad.out B8;have aw:(0:Int)<go.length:=A0;have aa:((op:Int)==21)=false:=bF A0;have ae:((op:Int)==69)=false:=bF A0;have af:((op:Int)==70)=false:=bF A0;have ag:((op:Int)==61)=true:=B8;have OO:=A5 oo;have X0:=A5 hx0;clear oo hx0;have hnx:Hid (∀y∈([(⟨x0,(-1),eJ⟩,(V tb eJ.length tc))]:List (Av×V_)),OL H y):=A5 (by intro y hy;rw[vG.1 hy];exact⟨hf0,Sl,HT.out⟩);have m4:=m3.alloc (C #[Y I x0,Y I (-1),(V tb eJ.length tc)] 167);(try simp only[au,vP] at m4);have m5:=(m4.perm Ah:AC _ _ ((xb+1,C #[] 167)::(xb+1+1+1,C #[Y I x0,Y I (-1),(V tb eJ.length tc)] 167)::(xb+1+1,S8 op to args n mm name go ways b5 c5 (O ⟨g0,go0,X⟩) c6 b7 c7)::(xb,At c (V (O ⟨lu,off,X⟩) c.i.length ic))::L) _);go_wp2_with (at_builtin;refine AG (w0:=w0) (H:=H) Z _ _ 164 Z 167 3 40 (.agg #[Y I 0,Y I 0,V X 0 0]) underlying164 A7 Z AD _ 0 [] (AP.row m5 (vD _) AD Z Z) Z _ 1 (EX [(⟨x0,(-1),eJ⟩,(V tb eJ.length tc))]) (Fr.loc (cs:=EX [(⟨x0,(-1),eJ⟩,(V tb eJ.length tc))]) m5 (.tail _ (.head _))) Z Z (Es (H:=H) _ hnx.out) A0 CJ ?_);intro v' w' kF;(try simp only[vI,um] at kF);obtain⟨pb,pc,rfl,-,-⟩:=kF.shape;clear m4 m5 es;go_wp2_with fail;go_ret;exact JF.of (l:=[(⟨x0,(-1),eJ⟩,(V tb eJ.length tc))]) kF.drop.drop.drop (Bl.refl _) hnx.out Z2
 have bn:=oo;clear oo;by_cases oo:op=62
 .skip;obtain⟨x0,g0,go0,hx0,rfl,e0,hf0⟩:=HI.out.2.2.1.getID (ad.out B8);obtain⟨x1,g1,go1,hx1,ao,e1,hf1⟩:=HI.out.2.2.1.getID (ak.out B8);cases ao;rw[vv] at e0;have E0:=A5 e0;have e0:=e0.cell m3;have av:0<go.length:=ad.out B8;have aw:(0:Int)<go.length:=A0;have bw:1<go.length:=ak.out B8;have bx:(1:Int)<go.length:=A0;have E1:=A5 e1;clear e1;have aa:((op:Int)==21)=false:=bF A0;have ae:((op:Int)==69)=false:=bF A0;have af:((op:Int)==70)=false:=bF A0;have ag:((op:Int)==61)=false:=bF A0;have aj:((op:Int)==62)=true:=B8;exact uc
 have bm:=oo;clear oo;by_cases oo:op=63
 .skip;obtain⟨x0,g0,go0,hx0,rfl,e0,hf0⟩:=HI.out.2.2.1.getID (ad.out B8);obtain⟨x1,g1,go1,hx1,ao,e1,hf1⟩:=HI.out.2.2.1.getID (ak.out B8);cases ao;rw[vv] at e0;have E0:=A5 e0;have e0:=e0.cell m3;have av:0<go.length:=ad.out B8;have aw:(0:Int)<go.length:=A0;have bw:1<go.length:=ak.out B8;have bx:(1:Int)<go.length:=A0;have E1:=A5 e1;clear e1;have aa:((op:Int)==21)=false:=bF A0;have ae:((op:Int)==69)=false:=bF A0;have af:((op:Int)==70)=false:=bF A0;have ag:((op:Int)==61)=false:=bF A0;have aj:((op:Int)==62)=false:=bF A0;have an:((op:Int)==63)=true:=B8;exact uc
 have bk:=oo;clear oo;by_cases oo:op=65
 .skip;obtain⟨x0,g0,go0,hx0,rfl,e0,hf0⟩:=HI.out.2.2.1.getID (ad.out B8);obtain⟨x1,g1,go1,hx1,ao,e1,hf1⟩:=HI.out.2.2.1.getID (ak.out B8);cases ao;rw[vv] at e0;have E0:=A5 e0;have e0:=e0.cell m3;have av:0<go.length:=ad.out B8;have aw:(0:Int)<go.length:=A0;have bw:1<go.length:=ak.out B8;have bx:(1:Int)<go.length:=A0;have E1:=A5 e1;clear e1;have aa:((op:Int)==21)=false:=bF A0;have ae:((op:Int)==69)=false:=bF A0;have af:((op:Int)==70)=false:=bF A0;have ag:((op:Int)==61)=false:=bF A0;have aj:((op:Int)==62)=false:=bF A0;have an:((op:Int)==63)=false:=bF A0;have ar:((op:Int)==65)=true:=B8;have OO:=A5 oo;have X0:=A5 hx0;clear oo hx0;have X1:=A5 hx1;clear hx1;clear e0;go_wp2_with fail;refine EA (F:=λw'=>Code.wp _ _ _ _ w') m3 ?_;clear es m1 m2 m3 d0 d1 d2 d3 d4 d5 d6 d7;intro wr mr;refine B1 mr [VK (V (O ⟨xb+1,0,X⟩) 0 0),VK (M (O ⟨xb+1+1,6,X⟩)),VK (V (O ⟨g0,go0,X⟩) go.length c6),VK (M (O ⟨g0,go0,X⟩)),VK (Y I x0),VK (M (O ⟨xb+1+1,1,X⟩)),VK (Y I to),VK (V tb eJ.length tc),VK (.agg #[Y I x0,Y I to,(V tb eJ.length tc)]),VK (M (O ⟨xb+1+1,6,X⟩)),VK (V (O ⟨g0,go0,X⟩) go.length c6),VK (M (O ⟨g0,go0+1,X⟩)),VK (Y I x1),VK (V tb eJ.length tc),VK (.agg #[Y I x1,Y I (-1),(V tb eJ.length tc)]),⟨[15],λzb=> V (O ⟨(zb.getD 0 Ax).b,0,X⟩) 2 2,O ([],[],λzb d=>d.bl=[(d.b,C #[Y I x0,Y I to,(V tb eJ.length tc),Y I x1,Y I (-1),(V tb eJ.length tc)] 167)]),G⟩] (nf 15++[B]) ?_ ?_
  .refine⟨Gc,Gc,Gc,Gc,Gc,Gc,Gc,Gc,Gc,Gc,Gc,Gc,Gc,Gc,Gc,?_,trivial⟩
   ·(refine Al.make _ _ Z Z Z λbs w hb m=>?_);show(x_ _ _).run _ _= .ok (.value (V (O ⟨w.heap.size,0,X⟩) 2 2)) (w.alloc (C #[Y I x0,Y I to,(V tb eJ.length tc),Y I x1,Y I (-1),(V tb eJ.length tc)] 167));have es:=m.e8;have e0:=E0.out.cell m;have e1:=E1.out.cell m;exact AT
  .intro bs wd hb md;replace md:=AC.like1 mr (bs 15).bl md;have ah:(bs 15).bl=[((bs 15).b,C #[Y I x0,Y I to,(V tb eJ.length tc),Y I x1,Y I (-1),(V tb eJ.length tc)] 167)]:=hb 15 _ _ Z Z;rw[ah] at md;(try simp only[ut,um] at md);simp only[List.length_cons,List.length_nil,Nat.reduceAdd,vJ,uz,vA];have hnx:Hid (∀y∈([(⟨x0,to,eJ⟩,(V tb eJ.length tc)),(⟨x1,(-1),eJ⟩,(V tb eJ.length tc))]:List (Av×V_)),OL H y):=A5 (by intro y hy;rcases vZ.1 hy with rfl|hy<;>first|exact⟨hf0,ai,HT.out⟩|(rw[vG.1 hy];exact⟨hf1,Sl,HT.out⟩));have m5:=(md.perm Ah:AC _ _ ((xb+1,C #[] 167)::((bs 15).b,C #[Y I x0,Y I to,(V tb eJ.length tc),Y I x1,Y I (-1),(V tb eJ.length tc)] 167)::(xb+1+1,S8 op to args n mm name go ways b5 c5 (O ⟨g0,go0,X⟩) c6 b7 c7)::(xb,At c (V (O ⟨lu,off,X⟩) c.i.length ic))::L) _);go_wp2_with (at_builtin;refine AG (w0:=w0) (H:=H) Z _ _ 164 Z 167 3 40 (.agg #[Y I 0,Y I 0,V X 0 0]) underlying164 A7 Z AD _ 0 [] (AP.row m5 (vD _) AD Z Z) Z _ 2 (EX [(⟨x0,to,eJ⟩,(V tb eJ.length tc)),(⟨x1,(-1),eJ⟩,(V tb eJ.length tc))]) (Fr.loc (cs:=EX [(⟨x0,to,eJ⟩,(V tb eJ.length tc)),(⟨x1,(-1),eJ⟩,(V tb eJ.length tc))]) m5 (.tail _ (.head _))) Z Z (Es (H:=H) _ hnx.out) A0 CJ ?_);intro v' w' kF;(try simp only[vI,um] at kF);obtain⟨pb,pc,rfl,-,-⟩:=kF.shape;clear m5 md;go_wp2_with fail;go_ret;exact JF.of (l:=[(⟨x0,to,eJ⟩,(V tb eJ.length tc)),(⟨x1,(-1),eJ⟩,(V tb eJ.length tc))]) kF.drop.drop.drop (Bl.refl _) hnx.out Yl
 have bj:=oo;clear oo;by_cases oo:op=66
 .skip;have aa:((op:Int)==21)=false:=bF A0;have ae:((op:Int)==69)=false:=bF A0;have af:((op:Int)==70)=false:=bF A0;have ag:((op:Int)==61)=false:=bF A0;have aj:((op:Int)==62)=false:=bF A0;have an:((op:Int)==63)=false:=bF A0;have ar:((op:Int)==65)=false:=bF A0;have ax:((op:Int)==66)=true:=B8;have OO:=A5 oo;clear oo;go_wp2_with fail;refine EA (F:=λw'=>Code.wp _ _ _ _ w') m3 ?_;clear es m1 m2 m3 d0 d1 d2 d3 d4 d5 d6 d7;intro cj bq;have bp:=(bq.perm Ah:AC _ _ ([(xb+1,C #[] 167)]++((xb+1+1,S8 op to args n mm name go ways b5 c5 b6 c6 b7 c7)::(xb,At c (V (O ⟨lu,off,X⟩) c.i.length ic))::L)) _);have bt:Hid (Ba 167 3 (V (O ⟨xb+1,0,X⟩) 0 0) ([]:List (Av×V_)).length (EX []) [(xb+1,C #[] 167)]):=A5 ⟨by simp[EX],.inr ⟨xb+1,0,#[],Z,vD _,by decide,Z,Z,Z⟩⟩;clear bq;(go_loopw [8,9] (λv8 i9 wr=>∃(j:Nat) (l:List (Av×V_)) (L3:List (Nat×Obj)),j<=ways.length/\i9= Y I j/\Hid (l=(ways.take j).map λy=>(⟨y.go,y.to,eJ⟩,(V tb eJ.length tc)))/\Hid (∀y∈l,OL H y)/\Hid (Ba 167 3 v8 l.length (EX l) L3)/\AC w0 H (L3++((xb+1+1,S8 op to args n mm name go ways b5 c5 b6 c6 b7 c7)::(xb,At c (V (O ⟨lu,off,X⟩) c.i.length ic))::L)) wr) (λ_ i9 _=>ways.length-(intOf i9).toNat));case atStart=>exact⟨0,[],_,un _,Z,A5 (by simp),A5 (λ_ h=>by cases h),bt,bp⟩
  case round=>
   clear bp bt;obtain⟨j,l,L3,hj,rfl,HL,HN,HO,m5⟩:=hrel;obtain⟨pb,pc,rfl,cz,cy⟩:=HO.out.shape;have mk:=(m5.perm Ah:AC _ _ ((xb+1+1,S8 op to args n mm name go ways b5 c5 b6 c6 b7 c7)::(xb,At c (V (O ⟨lu,off,X⟩) c.i.length ic))::(L3++L)) _);clear m5;have es:=mk.e8;by_cases lg:j<ways.length
   .have lJ:(j:Int)<ways.length:=A0;obtain⟨w7,o7,rfl,f0,f1,f2,f3,f4,lz⟩:=HI.out.2.2.2.getWay (ui lg);have HTK:=A5 (show ways.take (j+1)=ways.take j++[ways[j]] from vS lg);clear f0 f1 f2;have D3:=A5 f3;have D4:=A5 f4;clear f3 f4;have de:l.length<=4:=(by rw[HL.out,vM,wG];omega);generalize ways[j]=y at*;go_wp2_with fail;clear es;refine B1 mk [VK (V pb l.length pc),VK (M (O ⟨xb+1+1,7,X⟩)),VK (V (O ⟨w7,o7,X⟩) ways.length c7),VK (Y I j),VK (M (O ⟨w7,o7+j*5,X⟩)),VK (M (O ⟨w7,o7+j*5+4,X⟩)),VK (Y I y.go),VK (M (O ⟨xb+1+1,7,X⟩)),VK (V (O ⟨w7,o7,X⟩) ways.length c7),VK (Y I j),VK (M (O ⟨w7,o7+j*5,X⟩)),VK (M (O ⟨w7,o7+j*5+3,X⟩)),VK (Y I y.to),VK (V tb eJ.length tc),VK (.agg #[Y I y.go,Y I y.to,(V tb eJ.length tc)]),⟨[15],λzb=> V (O ⟨(zb.getD 0 Ax).b,0,X⟩) 1 1,O ([],[],λzb d=>d.bl=[(d.b,C #[Y I y.go,Y I y.to,(V tb eJ.length tc)] 167)]),G⟩] (nf 15++[B]) ?_ ?_
    .refine⟨GX,GX,GX,GX,GX,GX,GX,GX,GX,GX,GX,GX,GX,GX,GX,?_,trivial⟩
     ·(refine Al.make _ _ Z Z Z λbs w hb m=>?_);show(x_ _ _).run _ _= .ok (.value (V (O ⟨w.heap.size,0,X⟩) 1 1)) (w.alloc (C #[Y I y.go,Y I y.to,(V tb eJ.length tc)] 167));have es:=m.e8;have f3:=D3.out.cell m;have f4:=D4.out.cell m;exact AT
    .intro bs wd hb md;replace md:=AC.like1 mk (bs 15).bl md;have ah:(bs 15).bl=[((bs 15).b,C #[Y I y.go,Y I y.to,(V tb eJ.length tc)] 167)]:=hb 15 _ _ Z Z;rw[ah] at md;(try simp only[ut,um] at md);simp only[List.length_cons,List.length_nil,Nat.reduceAdd,vJ,uz,vA];have hnx:Hid (∀z∈([(⟨y.go,y.to,eJ⟩,(V tb eJ.length tc))]:List (Av×V_)),OL H z):=A5 (by intro z hz;rw[vG.1 hz];exact⟨lz.go,lz.to,HT.out⟩);have m6:=(md.perm Ah:AC _ _ (L3++(((bs 15).b,C #[Y I y.go,Y I y.to,(V tb eJ.length tc)] 167)::(xb+1+1,S8 op to args n mm name go ways b5 c5 b6 c6 (O ⟨w7,o7,X⟩) c7)::(xb,At c (V (O ⟨lu,off,X⟩) c.i.length ic))::L)) _);go_wp2_with (at_builtin;refine AG (w0:=w0) (H:=H) (L:=((bs 15).b,C #[Y I y.go,Y I y.to,(V tb eJ.length tc)] 167)::(xb+1+1,S8 op to args n mm name go ways b5 c5 b6 c6 (O ⟨w7,o7,X⟩) c7)::(xb,At c (V (O ⟨lu,off,X⟩) c.i.length ic))::L) Z _ _ 164 Z 167 3 40 (.agg #[Y I 0,Y I 0,V X 0 0]) underlying164 A7 Z AD (.slice pb l.length pc) l.length (EX l) (HO.out.join m6) Z _ 1 (EX [(⟨y.go,y.to,eJ⟩,(V tb eJ.length tc))]) (Fr.loc (cs:=EX [(⟨y.go,y.to,eJ⟩,(V tb eJ.length tc))]) (md) (.head _)) Z Z (Es (H:=H) _ hnx.out) A0 CJ ?_);intro v' w' kF;rw[<-VJ] at kF;obtain⟨L5,h5,m7⟩:=kF.drop.split;obtain⟨cm,ck,rfl,cx,cw⟩:=h5.shape;have H5:=A5 h5;clear h5 m6 md kF;go_wp2_with fail;go_roundw;(case rel=>refine⟨j+1,l++[(⟨y.go,y.to,eJ⟩,(V tb eJ.length tc))],L5,by omega,by go_num,A5 (by rw[HTK.out,wH,<-HL.out];rfl),A5 (λz hz=>by rcases wQ.1 hz with hz|hz;exact HN.out z hz;exact hnx.out z hz),A5 ju,m7⟩);case measure=>exact BW
   .have hge:¬(j:Int)<ways.length:=A0;go_wp2_with fail;go_ret;exact JF.of (HO.out.join ((mk.perm Ah:AC _ _ (L3++((xb+1+1,S8 op to args n mm name go ways b5 c5 b6 c6 b7 c7)::(xb,At c (V (O ⟨lu,off,X⟩) c.i.length ic))::L)) _))).drop.drop (Bl.refl _) HN.out (by rw[HL.out,vQ A0,List.map_map];unfold B6;simp only[OO.out];simp)
 have bh:=oo;clear oo;by_cases oo:op=67
 .skip;obtain⟨x0,g0,go0,hx0,rfl,e0,hf0⟩:=HI.out.2.2.1.getID (ad.out B8);rw[vv] at e0;have E0:=A5 e0;have e0:=e0.cell m3;have av:0<go.length:=ad.out B8;have aw:(0:Int)<go.length:=A0;have aa:((op:Int)==21)=false:=bF A0;have ae:((op:Int)==69)=false:=bF A0;have af:((op:Int)==70)=false:=bF A0;have ag:((op:Int)==61)=false:=bF A0;have aj:((op:Int)==62)=false:=bF A0;have an:((op:Int)==63)=false:=bF A0;have ar:((op:Int)==65)=false:=bF A0;have ax:((op:Int)==66)=false:=bF A0;have ba:((op:Int)==67)=true:=B8;have OO:=A5 oo;have X0:=A5 hx0;clear oo hx0;clear e0;go_wp2_with fail;refine EA (F:=λw'=>Code.wp _ _ _ _ w') m3 ?_;clear es m1 m2 m3 d0 d1 d2 d3 d4 d5 d6 d7;intro wr mr;refine B1 mr [VK (V (O ⟨xb+1,0,X⟩) 0 0),VK (Y I (k:Int)),VK (Y I ((k:Int)+1)),⟨[3],λzb=> V (O ⟨(zb.getD 0 Ax).b,0,X⟩) 0 0,O ([],[],λzb d=>d.bl=[(d.b,C #[] 3)]),G⟩,VK (V tb eJ.length tc),⟨[5],λzb=>(zb.getD 0 Ax).v,O ([3],[],λzb d=>Ba 3 1 d.v eJ.length (eJ.map (Y I)) d.bl),G⟩,VK (Y I (k:Int)),⟨[7],λzb=> V (O ⟨(zb.getD 0 Ax).b,0,X⟩) 1 1,O ([],[],λzb d=>d.bl=[(d.b,C #[Y I (k:Int)] 3)]),G⟩,⟨[8],λzb=> V (O ⟨(zb.getD 0 Ax).b,0,X⟩) (eJ.length+1) (zb.getD 0 Ax).c,O ([5,7],[],λzb d=>d.v= V (O ⟨d.b,0,X⟩) (eJ.length+1) d.c/\Ba 3 1 d.v (eJ.length+1) (eJ.map (Y I)++[Y I (k:Int)]) d.bl),G⟩,⟨[8],λzb=> .agg #[Y I ((k:Int)+1),Y I (-1),(V (O ⟨(zb.getD 0 Ax).b,0,X⟩) (eJ.length+1) (zb.getD 0 Ax).c)],X,G⟩,VK (M (O ⟨xb+1+1,6,X⟩)),VK (V (O ⟨g0,go0,X⟩) go.length c6),VK (M (O ⟨g0,go0,X⟩)),VK (Y I x0),VK (M (O ⟨xb+1+1,1,X⟩)),VK (Y I to),VK (V tb eJ.length tc),VK (.agg #[Y I x0,Y I to,(V tb eJ.length tc)]),⟨[18],λzb=> V (O ⟨(zb.getD 0 Ax).b,0,X⟩) 2 2,O ([],[8],λzb d=>d.bl=[(d.b,C #[Y I ((k:Int)+1),Y I (-1),(V (O ⟨(zb.getD 0 Ax).b,0,X⟩) (eJ.length+1) (zb.getD 0 Ax).c),Y I x0,Y I to,(V tb eJ.length tc)] 167)]),G⟩] (nf 8++[B]++nf 9++[B]) ?_ ?_
  .refine⟨Fq,Fq,?_,?_,Fq,?_,Fq,?_,?_,?_,Fq,Fq,Fq,Fq,Fq,Fq,Fq,Fq,?_,trivial⟩
   ·(refine Al.vk Z λbs w hb m=>?_);have cu:IntKind.i64.wrap ((k:Int)+1)=(k:Int)+1:=IntWalk.i64_in _ A0;exact AT
   ·(refine Al.make _ _ Z Z Z λbs w hb m=>?_);show(x_ _ _).run _ _= .ok (.value (V (O ⟨w.heap.size,0,X⟩) 0 0)) (w.alloc (C #[] 3));exact UI
   ·(refine Al.gen _ Z Z Z λbs w L2 hb m=>?_);have h3:(bs 3).bl=[((bs 3).b,C #[] 3)]:=hb.at 3 A7 Z Z;simp only[vR,wu,wA,h3,ut,um] at m;obtain⟨news,hch,lM⟩:=HT.out.src m;obtain⟨lU,da⟩:=Id hch;obtain⟨ii,i1,i2,i3,i4⟩:=info_parts (P:=uh) (e:=3) (z:= Y I 0) (size:=1) (bytes:=8) A7;obtain⟨v',w',hr,kF⟩:=Bn (P:=uh) 79 79 3 ii (Y I 0) 1 8 underlying79 i1 i2 i3 i4 Z AD (.slice (O ⟨(bs 3).b,0,X⟩) 0 0) 0 [] (AP.row m (vD _) AD Z Z) (V tb eJ.length tc) eJ.length news lM Jh (by rw[lU];exact Dn) A0 CJ;obtain⟨L5,h5,m5⟩:=kF.split;rw[lU,vI,um] at h5;exact BU.append Z Z Z hr ⟨⟨0,0,v',L5⟩,h5,Z,m5⟩
   ·(refine Al.make _ _ Z Z Z λbs w hb m=>?_);show(x_ _ _).run _ _= .ok (.value (V (O ⟨w.heap.size,0,X⟩) 1 1)) (w.alloc (C #[Y I (k:Int)] 3));exact UI
   ·(refine Al.gen _ Z Z Z λbs w L2 hb m=>?_);have h5:Ba 3 1 (bs 5).v eJ.length (eJ.map (Y I)) (bs 5).bl:=hb.at 5 A7 Z Z;have h7:(bs 7).bl=[((bs 7).b,C #[Y I (k:Int)] 3)]:=hb.at 7 A7 Z Z;simp only[vR,wu,wA,h7,uq,ut,um] at m;obtain⟨ii,i1,i2,i3,i4⟩:=info_parts (P:=uh) (e:=3) (z:= Y I 0) (size:=1) (bytes:=8) A7;obtain⟨v',w',hr,kF⟩:=Bn (P:=uh) 79 79 3 ii (Y I 0) 1 8 underlying79 i1 i2 i3 i4 Z AD (bs 5).v eJ.length (eJ.map (Y I)) (h5.join m) (V (O ⟨(bs 7).b,0,X⟩) 1 1) 1 [Y I (k:Int)] (Fr.loc (cs:=[Y I (k:Int)]) m (wj _ (.head _))) Z Fu A0 CJ;obtain⟨L8,h8,m8⟩:=kF.drop.split;exact eN
   ·(refine Al.val Z Z Z λbs w hb m=>?_);show(x_ _ _).run _ _= .ok (.value (.agg #[Y I ((k:Int)+1),Y I (-1),(V (O ⟨(bs 8).b,0,X⟩) (eJ.length+1) (bs 8).c)])) w;exact UI
   ·(refine Al.make _ _ Z Z Z λbs w hb m=>?_);show(x_ _ _).run _ _= .ok (.value (V (O ⟨w.heap.size,0,X⟩) 2 2)) (w.alloc (C #[Y I ((k:Int)+1),Y I (-1),(V (O ⟨(bs 8).b,0,X⟩) (eJ.length+1) (bs 8).c),Y I x0,Y I to,(V tb eJ.length tc)] 167));exact UI
  .intro bs wd hb md;replace md:=AC.like2 mr (bs 8).bl (bs 18).bl md;have cq:(bs 3).bl=[((bs 3).b,C #[] 3)]:=hb 3 _ _ Z Z;have cp:Ba 3 1 (bs 5).v eJ.length (eJ.map (Y I)) (bs 5).bl:=hb 5 _ _ Z Z;have cn:(bs 7).bl=[((bs 7).b,C #[Y I (k:Int)] 3)]:=hb 7 _ _ Z Z;have bb:(bs 8).v= V (O ⟨(bs 8).b,0,X⟩) (eJ.length+1) (bs 8).c/\Ba 3 1 (bs 8).v (eJ.length+1) (eJ.map (Y I)++[Y I (k:Int)]) (bs 8).bl:=hb 8 _ _ Z Z;have ay:(bs 18).bl=[((bs 18).b,C #[Y I ((k:Int)+1),Y I (-1),(V (O ⟨(bs 8).b,0,X⟩) (eJ.length+1) (bs 8).c),Y I x0,Y I to,(V tb eJ.length tc)] 167)]:=hb 18 _ _ Z Z;rw[ay] at md;(try simp only[ut,um] at md);simp only[List.length_cons,List.length_nil,Nat.reduceAdd,vJ,uz,vA];have az:EH (k:Int):=(by unfold EH;omega);obtain⟨H8,m8,mN,h8⟩:=(bb.2.join md).done (ys:=eJ++[(k:Int)]) (by have:=Cv (H:=H) (eJ++[(k:Int)]) (λz hz=>by rcases wQ.1 hz with hz|hz;exact HT.out.all z hz;rw[vG.1 hz];exact az);rw[wH] at this;exact this) Z (by simp);rw[bb.1] at h8;clear md;have md:=m8;have hnx:Hid (∀y∈([(⟨((k:Int)+1),(-1),(eJ++[(k:Int)])⟩,(V (O ⟨(bs 8).b,0,X⟩) (eJ.length+1) (bs 8).c)),(⟨x0,to,eJ⟩,(V tb eJ.length tc))]:List (Av×V_)),OL H8 y):=A5 (by intro y hy;rcases vZ.1 hy with rfl|hy;exact⟨by unfold EH;simp only;omega,Sl,h8⟩;rw[vG.1 hy];exact⟨hf0,ai,HT.out.mono mN⟩);have m5:=(md.perm Ah:AC _ _ ((xb+1,C #[] 167)::((bs 18).b,C #[Y I ((k:Int)+1),Y I (-1),(V (O ⟨(bs 8).b,0,X⟩) (eJ.length+1) (bs 8).c),Y I x0,Y I to,(V tb eJ.length tc)] 167)::(xb+1+1,S8 op to args n mm name go ways b5 c5 (O ⟨g0,go0,X⟩) c6 b7 c7)::(xb,At c (V (O ⟨lu,off,X⟩) c.i.length ic))::L) _);go_wp2_with (at_builtin;refine AG (w0:=w0) (H:=H8) Z _ _ 164 Z 167 3 40 (.agg #[Y I 0,Y I 0,V X 0 0]) underlying164 A7 Z AD _ 0 [] (AP.row m5 (vD _) AD Z Z) Z _ 2 (EX [(⟨((k:Int)+1),(-1),(eJ++[(k:Int)])⟩,(V (O ⟨(bs 8).b,0,X⟩) (eJ.length+1) (bs 8).c)),(⟨x0,to,eJ⟩,(V tb eJ.length tc))]) (Fr.loc (cs:=EX [(⟨((k:Int)+1),(-1),(eJ++[(k:Int)])⟩,(V (O ⟨(bs 8).b,0,X⟩) (eJ.length+1) (bs 8).c)),(⟨x0,to,eJ⟩,(V tb eJ.length tc))]) m5 (.tail _ (.head _))) Z Z (Es (H:=H8) _ hnx.out) A0 CJ ?_);intro v' w' kF;(try simp only[vI,um] at kF);obtain⟨pb,pc,rfl,-,-⟩:=kF.shape;clear m5 md;go_wp2_with fail;go_ret;exact JF.of (l:=[(⟨((k:Int)+1),(-1),(eJ++[(k:Int)])⟩,(V (O ⟨(bs 8).b,0,X⟩) (eJ.length+1) (bs 8).c)),(⟨x0,to,eJ⟩,(V tb eJ.length tc))]) kF.drop.drop.drop mN hnx.out Z2
 have bg:=oo;clear oo;by_cases oo:op=68
 .skip;have aa:((op:Int)==21)=false:=bF A0;have ae:((op:Int)==69)=false:=bF A0;have af:((op:Int)==70)=false:=bF A0;have ag:((op:Int)==61)=false:=bF A0;have aj:((op:Int)==62)=false:=bF A0;have an:((op:Int)==63)=false:=bF A0;have ar:((op:Int)==65)=false:=bF A0;have ax:((op:Int)==66)=false:=bF A0;have ba:((op:Int)==67)=false:=bF A0;have cd:((op:Int)==68)=true:=B8;have OO:=A5 oo;clear oo;have cr:IntKind.i64.wrap ((eJ.length:Int)-1)=(eJ.length:Int)-1:=IntWalk.i64_in _ A0;have N8:B6 ⟨op,to,args,n,mm,name,go,ways⟩ k eJ=[⟨(k:Int)+1,-1,eJ.take (eJ.length-1)⟩]:=ld;have aq:AX AY H (V tb (eJ.length-1) tc) (eJ.take (eJ.length-1)):=HT.out.takeV A0;have N8:=A5 N8;have aq:=A5 aq;by_cases ht1:1<eJ.length
  .have cg:(1:Int)<eJ.length:=A0;have hnx:Hid (∀y∈([(⟨((k:Int)+1),(-1),(eJ.take (eJ.length-1))⟩,(V tb (eJ.length-1) tc))]:List (Av×V_)),OL H y):=A5 ri;have m4:=m3.alloc (C #[Y I ((k:Int)+1),Y I (-1),(V tb (eJ.length-1) tc)] 167);(try simp only[au,vP] at m4);have m5:=(m4.perm Ah:AC _ _ ((xb+1,C #[] 167)::(xb+1+1+1,C #[Y I ((k:Int)+1),Y I (-1),(V tb (eJ.length-1) tc)] 167)::(xb+1+1,S8 op to args n mm name go ways b5 c5 b6 c6 b7 c7)::(xb,At c (V (O ⟨lu,off,X⟩) c.i.length ic))::L) _);go_wp2_with (at_builtin;refine AG (w0:=w0) (H:=H) Z _ _ 164 Z 167 3 40 (.agg #[Y I 0,Y I 0,V X 0 0]) underlying164 A7 Z AD _ 0 [] (AP.row m5 (vD _) AD Z Z) Z _ 1 (EX [(⟨((k:Int)+1),(-1),(eJ.take (eJ.length-1))⟩,(V tb (eJ.length-1) tc))]) (Fr.loc (cs:=EX [(⟨((k:Int)+1),(-1),(eJ.take (eJ.length-1))⟩,(V tb (eJ.length-1) tc))]) m5 (.tail _ (.head _))) Z Z (Es (H:=H) _ hnx.out) A0 CJ ?_);intro v' w' kF;(try simp only[vI,um] at kF);obtain⟨pb,pc,rfl,-,-⟩:=kF.shape;clear m4 m5 es;go_wp2_with fail;go_ret;exact JF.of (l:=[(⟨((k:Int)+1),(-1),(eJ.take (eJ.length-1))⟩,(V tb (eJ.length-1) tc))]) kF.drop.drop.drop (Bl.refl _) hnx.out (by rw[N8.out];rfl)
  .have ch:eJ.length-1=0:=A0;rw[ch] at aq N8;have hnx:Hid (∀y∈([(⟨((k:Int)+1),(-1),(eJ.take 0)⟩,(V tb 0 tc))]:List (Av×V_)),OL H y):=A5 ri;have m4:=m3.alloc (C #[Y I ((k:Int)+1),Y I (-1),(V tb 0 tc)] 167);(try simp only[au,vP] at m4);have m5:=(m4.perm Ah:AC _ _ ((xb+1,C #[] 167)::(xb+1+1+1,C #[Y I ((k:Int)+1),Y I (-1),(V tb 0 tc)] 167)::(xb+1+1,S8 op to args n mm name go ways b5 c5 b6 c6 b7 c7)::(xb,At c (V (O ⟨lu,off,X⟩) c.i.length ic))::L) _);go_wp2_with (at_builtin;refine AG (w0:=w0) (H:=H) Z _ _ 164 Z 167 3 40 (.agg #[Y I 0,Y I 0,V X 0 0]) underlying164 A7 Z AD _ 0 [] (AP.row m5 (vD _) AD Z Z) Z _ 1 (EX [(⟨((k:Int)+1),(-1),(eJ.take 0)⟩,(V tb 0 tc))]) (Fr.loc (cs:=EX [(⟨((k:Int)+1),(-1),(eJ.take 0)⟩,(V tb 0 tc))]) m5 (.tail _ (.head _))) Z Z (Es (H:=H) _ hnx.out) A0 CJ ?_);intro v' w' kF;(try simp only[vI,um] at kF);obtain⟨pb,pc,rfl,-,-⟩:=kF.shape;clear m4 m5 es;go_wp2_with fail;go_ret;exact JF.of (l:=[(⟨((k:Int)+1),(-1),(eJ.take 0)⟩,(V tb 0 tc))]) kF.drop.drop.drop (Bl.refl _) hnx.out (by rw[N8.out];rfl)
 have bf:=oo;clear oo;have aa:((op:Int)==21)=false:=bF A0;have ae:((op:Int)==69)=false:=bF A0;have af:((op:Int)==70)=false:=bF A0;have ag:((op:Int)==61)=false:=bF A0;have aj:((op:Int)==62)=false:=bF A0;have an:((op:Int)==63)=false:=bF A0;have ar:((op:Int)==65)=false:=bF A0;have ax:((op:Int)==66)=false:=bF A0;have ba:((op:Int)==67)=false:=bF A0;have cd:((op:Int)==68)=false:=bF A0;have N9:=A5 (show B6 ⟨op,to,args,n,mm,name,go,ways⟩ k eJ=[⟨(k:Int)+1,to,eJ⟩] by unfold B6;simp[bo,bd,bc,bn,bm,bk,bj,bh,bg,bf]);clear bo bd bc bn bm bk bj bh bg bf;have hnx:Hid (∀y∈([(⟨((k:Int)+1),to,eJ⟩,(V tb eJ.length tc))]:List (Av×V_)),OL H y):=A5 (by intro y hy;rw[vG.1 hy];exact⟨(by unfold EH;simp only;omega),ai,HT.out⟩);have m4:=m3.alloc (C #[Y I ((k:Int)+1),Y I to,(V tb eJ.length tc)] 167);(try simp only[au,vP] at m4);have m5:=(m4.perm Ah:AC _ _ ((xb+1,C #[] 167)::(xb+1+1+1,C #[Y I ((k:Int)+1),Y I to,(V tb eJ.length tc)] 167)::(xb+1+1,S8 op to args n mm name go ways b5 c5 b6 c6 b7 c7)::(xb,At c (V (O ⟨lu,off,X⟩) c.i.length ic))::L) _);go_wp2_with (at_builtin;refine AG (w0:=w0) (H:=H) Z _ _ 164 Z 167 3 40 (.agg #[Y I 0,Y I 0,V X 0 0]) underlying164 A7 Z AD _ 0 [] (AP.row m5 (vD _) AD Z Z) Z _ 1 (EX [(⟨((k:Int)+1),to,eJ⟩,(V tb eJ.length tc))]) (Fr.loc (cs:=EX [(⟨((k:Int)+1),to,eJ⟩,(V tb eJ.length tc))]) m5 (.tail _ (.head _))) Z Z (Es (H:=H) _ hnx.out) A0 CJ ?_);intro v' w' kF;(try simp only[vI,um] at kF);obtain⟨pb,pc,rfl,-,-⟩:=kF.shape;clear m4 m5 es;go_wp2_with fail;go_ret;exact JF.of (l:=[(⟨((k:Int)+1),to,eJ⟩,(V tb eJ.length tc))]) kF.drop.drop.drop (Bl.refl _) hnx.out (by rw[N9.out];rfl)
variable {mV:Nat} {s:ES} {y:Av}
def iC (row:List Bool):Nat:=(row.filter λb=>b).length
def OS:List (List Bool)->Nat
 |[]=>0
 |r::l=>iC r+OS l
theorem VC:∀(row:List Bool) (r:Nat),row.getD r G=B->iC (row.set r G)+1=iC row
 |[],r,h=>by simp at h
 |b::row,0,h=>by
  simp at h
  subst h
  simp[iC]
 |b::row,r+1,h=>by
  have ih:=VC row r CE
  unfold iC at*
  cases b<;>simp<;>omega
theorem VT:∀(K:List (List Bool)) (x r:Nat),(K.getD x []).getD r G=B->OS (K.set x ((K.getD x []).set r G))+1=OS K
 |[],x,r,h=>by simp at h
 |row::K,0,r,h=>by
  have:=VC row r CE
  simp[OS]
  omega
 |row::K,x+1,r,h=>by
  have ih:=VT K x r CE
  simp[OS] at ih⊢
  omega
structure EB (n mV:Nat) (K:List (List Bool)):Prop where
 len:K.length=n
 row:∀r∈K,r.length=mV
theorem EB.at {K:List (List Bool)} (h:EB n mV K) {x:Nat} (hx:x<n):(K.getD x []).length=mV:=by have aa:x<K.length:=(by rw[h.len];exact hx);rw[uv,ui aa];exact h.row _ (vY aa)
theorem EB.set {n mV:Nat} {K:List (List Bool)} (h:EB n mV K) (x:Nat) {row:List Bool} (hr:row.length=mV):EB n mV (K.set x row):=
 ⟨by rw[vz];exact h.len,λr hm=>by
  rcases wM hm with hm|rfl
  .exact h.row r hm
  .exact hr⟩
theorem C4 (K:List α) (x y:Nat) (v d:α) (hx:x<K.length):(K.set x v).getD y d=if y=x then v else K.getD y d:=by
 rw[uv,uv];by_cases e:y=x
 .subst e;rw[List.getElem?_set_self hx,p_ Z];rfl
 .rw[List.getElem?_set_ne (Ne.symm e),n_ e]
def JD (k:Nat) (K:List (List Bool)) (y:Av) (r:Nat):Bool:=(K.getD y.at'.toNat []).getD r G&&(!(K.getD k []).getD r G&&T (y.to≠r))
def GN (k:Nat) (K:List (List Bool)) (y:Av) (r:Nat):List (List Bool):=if JD k K y r=B then K.set y.at'.toNat ((K.getD y.at'.toNat []).set r G) else K
def CT (k:Nat) (y:Av):Nat->List (List Bool)->List (List Bool)
 |0,K=>K
 |r+1,K=>GN k (CT k y r K) y r
theorem Rj {K:List (List Bool)} (h:EB n mV K) (hy:y.at'.toNat<n) (r:Nat):EB n mV (GN k K y r):=by
 unfold GN;split
 .exact h.set _ (by rw[vz];exact h.at hy)
 .exact h
theorem Lh {n mV k:Nat} {K:List (List Bool)} {y:Av} (h:EB n mV K) (hy:y.at'.toNat<n):∀r,EB n mV (CT k y r K)
 |0=>h
 |r+1=>Rj (Lh h hy r) hy r
theorem bN {K:List (List Bool)} {r:Nat} (h:JD k K y r=B):OS (GN k K y r)+1=OS K:=by unfold GN;rw[p_ h];unfold JD at h;rw[ur] at h;exact VT K _ r h.1
theorem XG {K:List (List Bool)} (h:EB n mV K) (hy:y.at'.toNat<n):∀r,r<=mV->∀x q,((CT k y r K).getD x []).getD q G=if x=y.at'.toNat/\q<r then ((K.getD x []).getD q G&&((K.getD k []).getD q G||T (y.to=q))) else (K.getD x []).getD q false:=by
 intro r
 induction r with
 |zero=>intro _ x q;rw[n_ A0];rfl
 |succ r ih=>
  intro hr x q;have ih:=ih A0;have hf:=Lh (k:=k) h hy r;have hl1:((CT k y r K).getD y.at'.toNat []).getD r G=(K.getD y.at'.toNat []).getD r false:=(by rw[ih,n_ A0]);have hl2:((CT k y r K).getD k []).getD r G=(K.getD k []).getD r false:=(by rw[ih,n_ A0]);have nC:y.at'.toNat<(CT k y r K).length:=(by rw[hf.len];exact hy);have ad:((CT k y r K).getD y.at'.toNat []).length=mV:=hf.at hy;have hS:CT k y (r+1) K=GN k (CT k y r K) y r:=Z
  cases hlost:JD k (CT k y r K) y r with
  |false=>
   have aa:CT k y (r+1) K=CT k y r K:=(by rw[hS];unfold GN;rw[hlost];rfl);rw[aa,ih];by_cases hx:x=y.at'.toNat/\q=r
   .obtain⟨rfl,rfl⟩:=hx;rw[n_ (λh=>Nat.lt_irrefl _ h.2),p_ ⟨Z,wR _⟩];unfold JD at hlost;rw[hl1,hl2] at hlost;cases h1:(K.getD y.at'.toNat []).getD q G
    .rfl
    .rw[h1] at hlost;cases h2:(K.getD k []).getD q G
     .rw[h2] at hlost;simp at hlost;simp[hlost]
     .rfl
   .by_cases h3:x=y.at'.toNat/\q<r
    .rw[p_ h3,p_ ⟨h3.1,by omega⟩]
    .rw[n_ h3,n_ (λh4=>by
      rcases vy.1 h4.2 with h5|h5
      .exact h3 ⟨h4.1,h5⟩
      .exact hx ⟨h4.1,h5⟩)]
  |true=>
   have aa:CT k y (r+1) K=(CT k y r K).set y.at'.toNat (((CT k y r K).getD y.at'.toNat []).set r G):=(by rw[hS];unfold GN;rw[hlost];rfl);rw[aa,C4 _ _ _ _ _ nC];by_cases hx:x=y.at'.toNat
   .subst hx;have e0:(if y.at'.toNat=y.at'.toNat then ((CT k y r K).getD y.at'.toNat []).set r G else (CT k y r K).getD y.at'.toNat [])=((CT k y r K).getD y.at'.toNat []).set r false:=p_ Z;rw[e0,C4 _ _ _ _ _ A0];by_cases hq:q=r
    .subst hq;have e2:(if q=q then G else ((CT k y q K).getD y.at'.toNat []).getD q G)=false:=p_ Z;rw[e2,p_ ⟨Z,wR _⟩];unfold JD at hlost;rw[hl1,hl2] at hlost;simp only[ur,wV,decide_eq_true_eq] at hlost;rw[hlost.2.1,f_ hlost.2.2];simp
    .have e2:(if q=r then G else ((CT k y r K).getD y.at'.toNat []).getD q G)=((CT k y r K).getD y.at'.toNat []).getD q false:=n_ hq;rw[e2,ih];by_cases h3:q<r
     .rw[p_ ⟨Z,h3⟩,p_ ⟨Z,by omega⟩]
     .rw[n_ (λh=>h3 h.2),n_ (λh=>by have:=h.2;omega)]
   .have e0:(if x=y.at'.toNat then ((CT k y r K).getD y.at'.toNat []).set r G else (CT k y r K).getD x [])=(CT k y r K).getD x []:=n_ hx;rw[e0,ih,n_ (λh=>hx h.1),n_ (λh=>hx h.1)]
theorem V9 {K K':List (List Bool)} (h:EB n mV K) (h':EB n mV K') (he:∀x q,x<n->q<mV->(K.getD x []).getD q G=(K'.getD x []).getD q G):K=K':=by(refine vq (by rw[h.len,h'.len]) λx h1 h2=>?_);have hx:x<n:=(by rw[<-h.len];exact h1);have r1:=h.row _ (vY h1);have r2:=h'.row _ (vY h2);(refine vq (by rw[r1,r2]) λq q1 q2=>?_);have:=he x q hx A0;simpa[uv,ui,h1,h2,q1,q2] using this
theorem YA {K:List (List Bool)} (h:EB n mV K) (hy:y.at'.toNat<n):CT k y mV K=GB mV k K y:=by
 have aa:EB n mV (GB mV k K y):=h.set _ (by simp);(refine V9 (Lh h hy mV) aa λx q hx hq=>?_);rw[XG h hy mV (vD _)];unfold GB;rw[C4 _ _ _ _ _ (by rw[h.len];exact hy)];by_cases e:x=y.at'.toNat
 .subst e;rw[p_ ⟨Z,hq⟩,p_ Z,uv (l:=vV _ _),vh,List.getElem?_range hq];rfl
 .rw[n_ (λh=>e h.1),n_ e]
theorem No {K:List (List Bool)} (h:EB n mV K):EB n mV (GB mV k K y):=h.set _ (by simp)
theorem Ni {n mV k:Nat}:∀(l:List Av) {K:List (List Bool)},EB n mV K->EB n mV (l.foldl (GB mV k) K)
 |[],_,h=>h
 |y::l,_,h=>Ni l (No h)
theorem UF {c:AF} {fin:ES} {K:List (List Bool)} (h:EB n mV K) (k:Nat):EB n mV (FO c fin mV K k):=by
 unfold FO;split
 .exact Ni _ h
 .exact h
theorem NB (c:AF) (mV:Nat):EB c.i.length mV (Fb c mV):=
 ⟨by simp[Fb],λr hr=>by
  unfold Fb at hr
  obtain⟨k,_,rfl⟩:=vt.1 hr
  simp⟩
def RF (K0 K:List (List Bool)) (again:Bool):Prop:=(again=G/\K=K0)\/(again=B/\OS K<OS K0)
theorem RF.start (K:List (List Bool)):RF K K false:= .inl ⟨Z,Z⟩
theorem RF.lost {K0 K:List (List Bool)} {again:Bool} (h:RF K0 K again) {r:Nat} (hl:JD k K y r=B):RF K0 (GN k K y r) true:=by
 have:=bN hl;rcases h with ⟨_,rfl⟩|⟨_,h⟩
 .exact .inr ⟨Z,by omega⟩
 .exact .inr ⟨Z,by omega⟩
def Cc (n:Nat) (s:ES):Prop:=∀t∈s.t,t.length+s.undone<=n
theorem Vl (i:Bu) (k:Int) (eJ:List Int):∀y∈B6 i k eJ,y.t.length<=eJ.length+1:=by
 intro y hy;unfold B6 at hy;split at hy
 .cases hy
 split at hy
 .rw[vG.1 hy];simp
 split at hy
 .exact XM
 split at hy
 .exact XM
 split at hy
 .obtain⟨w,_,rfl⟩:=vt.1 hy;simp
 split at hy
 .exact XM
 split at hy
 .rw[vG.1 hy];simp;omega
 .rw[vG.1 hy];simp
theorem Lv {b:Nat}:∀(l:List Av) (s:ES),(∀t∈s.t,t.length<=b)->(∀y∈l,y.t.length<=b)->∀t∈(l.foldl Cb s).t,t.length<=b
 |[],_,h,_=>h
 |y::l,s,h,hl=>by
  refine Lv l _ ?_ λz hz=>hl z (.tail _ hz)
  intro t ht
  unfold Cb at ht
  split at ht
  .rcases wM ht with ht|rfl
   .exact h t ht
   .exact hl y (.head _)
  .split at ht
   .exact h t ht
   .exact h t ht
theorem Cc.init (n:Nat):Cc n (ES.init n):=by intro t ht;rw[ES.init_undone];unfold ES.init at ht;rw[wX ht];simp
theorem Cc.step {c:AF} (hf:s.Fit n) (h:Cc n s) (hs:s.small=O k):Cc n (s.step c k):=by
 have hu:=ES.undone_step (c:=c) hf hs;intro t ht
 have aa:(s.t.getD k []).length+s.undone<=n:=by
  by_cases hk:k<s.t.length
  .rw[uv,ui hk];exact h _ (vY hk)
  .exfalso;have:=(ES.small_some hs).1;rw[hf.e] at this;rw[hf.t] at hk;omega
 have:=Lv (b:=n-(s.step c k).undone) (CU c k (s.t.getD k [])) {s with done:=s.done.set k B} (λt ht=>by have:=h t ht;omega) (λy hy=>by
  unfold CU at hy;split at hy
  .have:=Vl _ _ _ y hy;omega
  .cases hy) t ht
 omega
variable {P:Program} {Q:Exit->Act->World->Prop} {b:Nat} {o:Oper} {o':Obj} {t:TypeId} {ρ:Operand->Value}
def EV:Kc Bool:=TL N (λ_=>True)
theorem RZ (z:V_) (n:Nat):madeCells #[z] (n*1)=(uj n z).toArray:=by
 apply Array.ext
 .simp[madeCells]
 .intro i h1 h2;simp[madeCells,Nat.mod_one]
theorem FI {l:O_} {z:V_} {bytes:Nat} (ho:o.op= .makeSlice t l l) (hl:ρ l= Y I n) (ht:P.underlying t=O (.slice e)) (hi:(P.info? e).map (λi=>(i.zero,i.size,i.bytes))=O (O z,1,bytes)) (hz:z.cells=#[z]) (hb:(bytes:Int)*n<=281474976710656) (hn:(n:Int)<=9223372036854775807):(x_ ρ o).run P w= .ok (.value (V (O ⟨w.heap.size,0,X⟩) n n)) (w.alloc (C (uj n z).toArray e)):=by obtain⟨i,af,ae,ad,aa⟩:=info_parts hi;have hr:=run_make w t e i z ht af ae I I (n:Int) (n:Int) A0 (Int.le_refl _) (by rw[aa];exact hb) hn;rw[hz,ad,vN,RZ] at hr;exact fK
abbrev Cs:T_:=162
abbrev BO (bs:List Bool):Obj:= C (bs.map N).toArray 4
abbrev TO (vs:List V_):Obj:= C vs.toArray 79
abbrev Rb (vs:List V_):Obj:= C vs.toArray 158
abbrev IH (n cb tb ob kb:Nat):Obj:= C #[V (O ⟨cb,0,X⟩) n n,V (O ⟨tb,0,X⟩) n n,V (O ⟨ob,0,X⟩) n n,V (O ⟨kb,0,X⟩) n n] Cs (0,0)
def MG (H:Hp) (vs:List V_) (ts:List (List Int)):Prop:=vs.length=ts.length/\∀(i:Nat) (t:List Int),ts[i]?=O t->∃v,vs[i]?=O v/\AX AY H v t
theorem MG.mono {H H':Hp} {vs:List V_} {ts:List (List Int)} (h:MG H vs ts) (hl:Bl H H'):MG H' vs ts:=
 ⟨h.1,λi t hi=>let ⟨v,h1,h2⟩:=h.2 i t hi;⟨v,h1,h2.mono hl⟩⟩
theorem MG.set {vs:List V_} {ts:List (List Int)} (h:MG H vs ts) (k:Nat) {v:V_} {t:List Int} (hv:AX AY H v t):MG H (vs.set k v) (ts.set k t):=by
 refine⟨by simp[h.1],λi t' hi=>?_⟩;rw[List.getElem?_set] at hi⊢;by_cases e:k=i
 .rw[p_ e] at hi⊢;split at hi
  .cases hi;rw[p_ (by rw[h.1];assumption)];exact⟨v,Z,hv⟩
  .cases hi
 .rw[n_ e] at hi⊢;exact h.2 i t' hi
theorem BO.at {bs:List Bool} (m:AC w0 H L w) (hm:(b,BO bs)∈L) (hl:bs.length<=maxLen) (c:Nat):TF w (V (O ⟨b,0,X⟩) bs.length c) bs:=by refine⟨_,_,Z,hl,λi hi=>⟨b,0,Z,?_⟩⟩;rw[AU (m.loc _ hm).1,vI];simp[hi]
theorem Ho (bs:List Bool) (a:Nat) (b:Bool):((bs.map N).toArray).setIfInBounds a (N b)=((bs.set a b).map N).toArray:=by rw[List.setIfInBounds_toArray,wY]
theorem jz (vs:List V_) (a:Nat) (v:V_):(vs.toArray).setIfInBounds a v=(vs.set a v).toArray:=by rw[List.setIfInBounds_toArray]
theorem Eg {ops:Array Oper} {rest:List Oper} {a:Act} {l:O_} {z:V_} {bytes:Nat} (aa:o.guard=X) (m:AC w0 H L w) (ho:o.op= .makeSlice t l l) (hl:a.eval l= Y I n) (ht:P.underlying t=O (.slice e)) (hi:(P.info? e).map (λi=>(i.zero,i.size,i.bytes))=O (O z,1,bytes)) (hz:z.cells=#[z]) (hb:(bytes:Int)*n<=281474976710656) (hn:(n:Int)<=9223372036854775807) (h:∀b w',AC w0 H ((b,C (uj n z).toArray e)::L) w'->wpList P ops Q rest (a.put o.dst (V (O ⟨b,0,X⟩) n n)) w'):wpList P ops Q (o::rest) a w:=by(refine wpList_plain aa λK hK=>?_);unfold Oper.wp;rw[FI ho hl ht hi hz hb hn];exact hK _ _ (h _ _ (m.alloc _))
theorem LC (h:s.small=O k):GT s.e s.done=(k:Int):=by unfold ES.small at h;unfold GT;rw[h]
theorem Ti (h:s.small=X):GT s.e s.done= -1:=by unfold ES.small at h;unfold GT;rw[h]
theorem VE {R:Nat->Prop}:∀m,R m->∃k,R k/\∀j,R j->k<=j:=by
 intro m
 induction m using wm with
 |_ m ih=>
  intro h;by_cases h2:∃j,j<m/\R j
  .obtain⟨j,h3,h4⟩:=h2;exact ih j h3 h4
  .exact⟨m,h,λj hj=>by
    rcases wB j m with h3|h3
    .exact a_ ⟨j,h3,hj⟩ h2
    .exact h3⟩
noncomputable def Qj (R:Nat->Prop):Nat:=by classical exact if h:∃k,R k/\∀j,R j->k<=j then Classical.choose h else 0
theorem Mo {R:Nat->Prop} (h:∃m,R m):R (Qj R):=by obtain⟨m,h⟩:=h;have h2:=VE m h;unfold Qj;rw[dif_pos h2];exact(Classical.choose_spec h2).1
theorem TW {R:Nat->Prop} (h:R m):Qj R<=m:=by have h2:=VE m h;unfold Qj;rw[dif_pos h2];exact(Classical.choose_spec h2).2 m h
structure Fl where
 n:Nat
 xb:Nat
 cb:Nat
 tb:Nat
 ob:Nat
 db:Nat
 kb:Nat
 fb:Nat
 ib:Option Addr
 ic:Nat
abbrev Fl.Lb (f:Fl) (c:AF) (L:List (Nat×Obj)):List (Nat×Obj):=(f.fb,IH f.n f.cb f.tb f.ob f.kb)::(f.xb+1,C #[V X 0 0,V X 0 0,V X 0 0,V X 0 0] Cs (0,0))::(f.xb,At c (V f.ib f.n f.ic))::L
abbrev Fl.L1 (f:Fl) (c:AF) (s:ES) (vs ks:List V_) (L:List (Nat×Obj)):List (Nat×Obj):=(f.cb,BO s.e)::(f.tb,TO vs)::(f.ob,BO s.other)::(f.db,BO s.done)::(f.kb,Rb ks)::f.Lb c L
def fO (f:Fl) (c:AF) (w0:W_) (H:Hp) (L:List (Nat×Obj)) (v6:V_) (wr:W_) (u:Nat):Prop:=∃(s:ES) (H1:Hp) (vs:List V_),u=s.undone/\s.Fit f.n/\Cc f.n s/\Db c s.undone s=AB c/\v6= Y I (GT s.e s.done)/\Bl H H1/\MG H1 vs s.t/\AC w0 H1 (f.L1 c s vs (uj f.n (V X 0 0)) L) wr
def EE:List Nat->List (List Bool)->List (Nat×Obj)
 |b::ids,r::K=>(b,BO r)::EE ids K
 |_,_=>[]
theorem Ro:∀(ids:List Nat) (K:List (List Bool)) (b:Nat) (r:List Bool),ids.length=K.length->EE (ids++[b]) (K++[r])=EE ids K++[(b,BO r)]
 |[],[],b,r,_=>rfl
 |_::_,[],_,_,h=>by simp at h
 |[],_::_,_,_,h=>by simp at h
 |b'::ids,r'::K,b,r,h=>by
  show(b',BO r')::EE (ids++[b]) (K++[r])=_
  rw[Ro ids K b r CE]
  rfl
theorem KB:∀(ids:List Nat) (K:List (List Bool)) (a b:Nat) (r:List Bool),ids[a]?=O b->K[a]?=O r->(b,BO r)∈EE ids K
 |[],_,_,_,_,h,_=>by simp at h
 |_::_,[],_,_,_,_,h=>by simp at h
 |b'::ids,r'::K,0,b,r,h,h2=>by
  simp at h h2
  subst h
  subst h2
  exact .head _
 |b'::ids,r'::K,a+1,b,r,h,h2=> .tail _ (KB ids K a b r CE GW)
theorem Sf:∀(ids:List Nat) (K:List (List Bool)) (a b:Nat) (r r':List Bool),ids[a]?=O b->K[a]?=O r->DU (EE ids K) b (BO r) (BO r') (EE ids (K.set a r'))
 |[],_,_,_,_,_,h,_=>by simp at h
 |_::_,[],_,_,_,_,_,h=>by simp at h
 |b'::ids,r0::K,0,b,r,r',h,h2=>by
  simp at h h2
  subst h
  subst h2
  exact .head
 |b'::ids,r0::K,a+1,b,r,r',h,h2=> .tail (Sf ids K a b r r' CE GW)
theorem DU.appL {o:Obj} {L':List (Nat×Obj)} (h:DU L k o o' L'):∀(L2:List (Nat×Obj)),DU (L++L2) k o o' (L'++L2):=by
 induction h with
 |head=>exact λ_=> .head
 |tail _ ih=>exact λL2=> .tail (ih L2)
def Mr (rg:Nat) (b:Nat):V_:= V (O ⟨b,0,X⟩) rg rg
def DN (n rg:Nat) (ids:List Nat):List V_:=ids.map (Mr rg)++uj (n-ids.length) (V X 0 0)
theorem Zz {rg:Nat} {ids:List Nat} (h:ids.length<n) (b:Nat):(DN n rg ids).set ids.length (Mr rg b)=DN n rg (ids++[b]):=by unfold DN;obtain⟨d,hd⟩:∃d,n-ids.length=d+1:=⟨n-ids.length-1,by omega⟩;rw[wH,vu,uq,List.set_append_right _ _ (by simp),vM,wI,hd];rw[show n-(ids.length+[b].length)=d by simp;omega,List.replicate_succ];rfl
theorem Pe {rg:Nat} {ids:List Nat} {a:Nat} (h:ids[a]?=O b):(DN n rg ids)[a]?=O (Mr rg b):=by unfold DN;have lg:=(vF.1 h).1;rw[List.getElem?_append_left (by simpa using lg),vh,h];rfl
def Hn (c:AF) (rg k r:Nat):List Bool:=(ul rg).map λq=>T (q<r)&&(T (0<k)||T ((q:Int)<c.params))
theorem aP (c:AF) (rg k:Nat):Hn c rg k 0=uj rg false:=by unfold Hn;refine vq (by simp) λq h1 h2=>by simp
theorem eY (c:AF) (rg k:Nat):Hn c rg k rg=(ul rg).map fun(q:Nat)=>T (0<k)||T ((q:Int)<c.params):=by unfold Hn;(refine wP λq hq=>?_);rw[t_ (vB.1 hq),vL]
theorem Ru (c:AF) (rg k r:Nat) (h:r<rg):(Hn c rg k r).set r (T (0<k)||T ((r:Int)<c.params))=Hn c rg k (r+1):=by
 unfold Hn;(refine vq (by simp) λq h1 h2=>?_);simp only[List.getElem_set,List.getElem_map,List.getElem_range];by_cases e:r=q
 .subst e;rw[p_ Z,t_ (wR r),vL]
 .rw[n_ e];have:T (q<r)=T (q<r+1):=(by exact We);rw[this]
theorem Xw (c:AF) (rg k:Nat):((ul (k+1)).map λj=>Hn c rg j rg)=((ul k).map λj=>Hn c rg j rg)++[Hn c rg k rg]:=by rw[vp,wH];rfl
theorem iB (c:AF) (rg:Nat):Fb c rg=(ul c.i.length).map λj=>Hn c rg j rg:=by unfold Fb;(refine wP λj _=>?_);rw[eY]
def qL (f:Fl) (c:AF) (rg:Nat) (vs ks:List V_) (ids:List Nat) (w0:W_) (H:Hp) (L:List (Nat×Obj)) (v11:V_) (wr:W_) (u:Nat):Prop:=∃(K:List (List Bool)) (H1:Hp) (again:Bool) (mm:Nat),u=2*OS K+(if again=B then 1 else 0)/\EB f.n rg K/\K=Ct (Jo c (AB c) rg) mm (Fb c rg)/\(again=G->Jo c (AB c) rg K=K)/\v11= N again/\Bl H H1/\AC w0 H1 (f.L1 c (AB c) vs ks (EE ids K++L)) wr
theorem IN (bs:List Bool):Ai EV H (bs.map N) bs:=Ai.ofV (f:=N) (p:=λ_=>True) bs λ_ _=>trivial
theorem MG.chunks {H:Hp}:∀{vs:List V_} {ts:List (List Int)},MG H vs ts->Ai (Kp AY) H vs ts
 |[],[],_=> .nil
 |_::_,[],h=>by have:=h.1;simp at this
 |[],_::_,h=>by have:=h.1;simp at this
 |v::vs,t::ts,h=>by
  obtain⟨v',h1,h2⟩:=h.2 0 t Z
  have hv:v=v':=by simpa using h1
  subst hv
  have hr:(Kp AY).rep H [v] t:=⟨v,Z,h2⟩
  exact Ai.cons hr Z (MG.chunks ⟨by have:=h.1;simpa using this,λi t hi=>h.2 (i+1) t ND⟩)
theorem O2 {w0 w:W_} {rg:Nat}:∀(ids:List Nat) (K:List (List Bool)) {H:Hp} {L:List (Nat×Obj)},ids.length=K.length->(∀r∈K,r.length=rg)->rg<=maxLen->AC w0 H (EE ids K++L) w->∃H',AC w0 H' L w/\Bl H H'/\Ai (Kp EV) H' (ids.map (Mr rg)) K
 |[],[],H,L,_,_,_,m=>⟨H,m,Bl.refl _,.nil⟩
 |_::_,[],_,_,h,_,_,_=>by simp at h
 |[],_::_,_,_,h,_,_,_=>by simp at h
 |b::ids,r::K,H,L,h,hr,hm,m=>by
  have hrl:=hr r (.head _)
  obtain⟨H1,m1,hl1,hs1⟩:=AC.lit (E:=EV) (ys:=r) (cs:=r.map N) m (IN r) (by rw[hrl];exact hm)
  obtain⟨H2,m2,hl2,hc⟩:=O2 ids K CE (λr' hr'=>hr r' (.tail _ hr')) hm m1
  refine⟨H2,m2,hl1.trans hl2,?_⟩
  rw[hrl] at hs1
  have hrep:(Kp EV).rep H2 [Mr rg b] r:=⟨Mr rg b,Z,hs1.mono hl2⟩
  exact Ai.cons hrep Z hc
theorem Wi {rg:Nat} {ids:List Nat} (h:ids.length=n):DN n rg ids=ids.map (Mr rg):=by unfold DN;rw[h,wI];simp
noncomputable def QS:Code:=(f106.body).getD .skip
def dG (n xb fb:Nat) (a:Act):Prop:=a.defers=[]/\a.tmps.size=225/\a.tmps[1]?=O (M (O ⟨xb,0,X⟩))/\a.tmps[2]?=O (M (O ⟨xb+1,0,X⟩))/\a.tmps[3]?=O (Y I (n:Int))/\a.tmps[4]?=O (M (O ⟨fb,0,X⟩))
def qC (n xb cb tb ob db kb fb:Nat) (ib:Option Addr) (ic:Nat) (c:AF) (w0:W_) (H:Hp) (L:List (Nat×Obj)) (a:Act) (W:W_):Prop:=dG n xb fb a/\∃(H1:Hp) (vs:List V_),(AB c).Fit n/\Cc n (AB c)/\Bl H H1/\MG H1 vs (AB c).t/\AC w0 H1 (Fl.L1 ⟨n,xb,cb,tb,ob,db,kb,fb,ib,ic⟩ c (AB c) vs (uj n (V X 0 0)) L) W
def pH (n xb cb tb ob db kb fb:Nat) (ib:Option Addr) (ic:Nat) (c:AF) (rg:Nat) (w0:W_) (H:Hp) (L:List (Nat×Obj)) (a:Act) (W:W_):Prop:=dG n xb fb a/\∃(H1:Hp) (vs:List V_) (ids:List Nat),(AB c).Fit n/\Cc n (AB c)/\ids.length=n/\Bl H H1/\MG H1 vs (AB c).t/\AC w0 H1 (Fl.L1 ⟨n,xb,cb,tb,ob,db,kb,fb,ib,ic⟩ c (AB c) vs (DN n rg ids) (EE ids (Fb c rg)++L)) W
def Sn (w0:W_) (H:Hp) (L:List (Nat×Obj)) (c:AF) (e:E_) (w':W_):Prop:=∃H' K vC vT vO vK,e= .returned (.agg #[vC,vT,vO,vK])/\Bl H H'/\G8 c K/\AX EV H' vC (AB c).e/\AX (Kp AY) H' vT (AB c).t/\AX EV H' vO (AB c).other/\AX (Kp EV) H' vK K/\AC w0 H' L w'
theorem Zm (n xb cb tb ob db kb fb:Nat) (ib:Option Addr) (ic:Nat) (c:AF) (rg:Nat) (de:AX C1 H (V ib n ic) c.i) (lz:Dw c) (hN:c.i.length=n) (da:c.g=(rg:Int)) (hm1:(ic:Int)<=9223372036854775807):∀a W,pH n xb cb tb ob db kb fb ib ic c rg w0 H L a W->LK uh (bodyPost uh f106 (Sn w0 H L c)) ((CN QS).drop 9) (bodyPost uh f106 (Sn w0 H L c) .normal) a W:=by
 have HD:=A5 de;have HF:=A5 lz;have HN:=A5 hN;have HRG:=A5 da;have hn1:0<n:=(by rw[<-hN];exact lz.pos);have ez:n<=2000:=(by rw[<-hN];exact lz.len);have ec:=lz.par;have ea:rg<=250:=A0;have ey:(n:Int)<=2000:=A0;have hn0:(0:Int)<n:=A0;clear lz hN da de;rintro a wr ⟨eh,H1,vs,ids,cy,cn,aw,mN,af,mk⟩;have an:=A5 cy;have ek:=A5 cn;have bk:=A5 aw;have HLE:=A5 mN;have dh:=A5 af;clear cy cn aw mN af;simp only[Fl.L1,Fl.Lb] at mk;obtain⟨cz,lC,a1,a2,a3,a4⟩:=eh;obtain⟨tm,df⟩:=a;simp only at cz lC a1 a2 a3 a4;subst cz;obtain⟨u,hu⟩:=Ii tm lC;simp only[ul,List.range.loop,vV] at hu;subst hu;clear lC;replace a1:u 1= M (O ⟨xb,0,X⟩):=Option.some.inj a1;generalize u 1=z1 at a1⊢;subst a1;replace a2:u 2= M (O ⟨xb+1,0,X⟩):=Option.some.inj a2;generalize u 2=z2 at a2⊢;subst a2;replace a3:u 3= Y I (n:Int):=Option.some.inj a3;generalize u 3=z3 at a3⊢;subst a3;replace a4:u 4= M (O ⟨fb,0,X⟩):=Option.some.inj a4;generalize u 4=z4 at a4⊢;subst a4;simp only[QS,f106,Option.getD_some,CN,uq,ut,um,uz,vA,vW,vX];obtain⟨f,hf⟩:∃f:Fl,f=⟨n,xb,cb,tb,ob,db,kb,fb,ib,ic⟩:=⟨_,Z⟩;have hx0:qL f c rg vs (DN n rg ids) ids w0 H1 L (N B) wr (2*OS (Fb c rg)+1):=(by subst hf;exact⟨Fb c rg,H1,B,0,by simp,by have:=NB c rg;rw[HN.out] at this;exact this,Z,(λh=>by cases h),Z,Bl.refl _,mk⟩);have du:=A5 hf;have dg:=A5 hx0;clear hf hx0 mk;intro K1 fg;go_wp2_with fail;intro K2 ff;go_wp2_with fail;(go_loopw [11] (λv11 wr=>Hid (∃u,qL f c rg vs (DN n rg ids) ids w0 H1 L v11 wr u)) (λv11 wr=>Qj (qL f c rg vs (DN n rg ids) ids w0 H1 L v11 wr)));case atStart=>exact A5 ⟨_,dg.out⟩
 case round=>
  have dy:=Mo hrel.out;clear hrel dg;generalize hg:Qj (qL f c rg vs (DN n rg ids) ids w0 H1 L u11 wr)=g at*;have HG:=A5 hg;clear hg;obtain⟨K,H2,again,mm,rfl,bg,hit,ax,rfl,mN,mk⟩:=dy;obtain rfl:=du.out;simp only[Fl.L1,Fl.Lb] at mk;have bb:=A5 (show EB n rg K from bg);have dr:=A5 hit;have dt:=A5 ax;have aa:=A5 mN;clear bg hit ax mN du
  cases again with
  |false=>
   have es:=mk.e3;go_wp2_with fail;intro K3 hK3;go_wp2_with fail;intro K4 hK4;go_wp2_with fail;refine b_ (v:= .agg #[V (O ⟨cb,0,X⟩) n n,V (O ⟨tb,0,X⟩) n n,V (O ⟨ob,0,X⟩) n n,V (O ⟨kb,0,X⟩) n n]) (by simp[results,results106,go_sem,es]) Z ?_;have ao:=an.out;have m1:=AC.setL [V (O ⟨cb,0,X⟩) n n,V (O ⟨tb,0,X⟩) n n,V (O ⟨ob,0,X⟩) n n,V (O ⟨kb,0,X⟩) n n] 0 ((mk.perm Ah:AC _ _ ((xb+1,C #[V X 0 0,V X 0 0,V X 0 0,V X 0 0] Cs (0,0))::(cb,BO (AB c).e)::(tb,TO vs)::(ob,BO (AB c).other)::(db,BO (AB c).done)::(kb,Rb (DN n rg ids))::(fb,IH n cb tb ob kb)::(xb,At c (V ib n ic))::(EE ids K++L)) _));have m2:=m1.drop;have m3:=((m2.perm Ah:AC _ _ ((db,BO (AB c).done)::(fb,IH n cb tb ob kb)::(xb,At c (V ib n ic))::(EE ids K++((cb,BO (AB c).e)::(tb,TO vs)::(ob,BO (AB c).other)::(kb,Rb (DN n rg ids))::L))) _)).drop.drop.drop;obtain⟨H3,m4,cx,hch⟩:=O2 ids K (by rw[bk.out,bb.out.len]) bb.out.row CJ m3;obtain⟨H4,m5,br,cu⟩:=AC.lit (E:=EV) (ys:=(AB c).e) (cs:=(AB c).e.map N) m4 (IN _) (by rw[ao.e];unfold maxLen;omega);obtain⟨H5,m6,bq,cr⟩:=AC.lit (E:=Kp AY) (ys:=(AB c).t) (cs:=vs) m5 (dh.out.mono (aa.out.trans (cx.trans br))).chunks (by rw[ao.t];unfold maxLen;omega);obtain⟨H6,m7,bf,cq⟩:=AC.lit (E:=EV) (ys:=(AB c).other) (cs:=(AB c).other.map N) m6 (IN _) (by rw[ao.other];unfold maxLen;omega);rw[Wi bk.out] at m7;obtain⟨H7,m8,bd,cp⟩:=AC.lit (E:=Kp EV) (ys:=K) (cs:=ids.map (Mr rg)) m7 (hch.mono (br.trans (bq.trans bf))) (by rw[bb.out.len];unfold maxLen;omega);rw[ao.e] at cu;rw[ao.t] at cr;rw[ao.other] at cq;rw[bb.out.len] at cp;refine⟨H7,K,_,_,_,_,Z,HLE.out.trans (aa.out.trans (cx.trans (br.trans (bq.trans (bf.trans bd))))),⟨mm,?_,?_⟩,cu.mono (bq.trans (bf.trans bd)),cr.mono (bf.trans bd),cq.mono bd,cp,m8⟩
   .rw[show c.g.toNat=rg by rw[HRG.out,vN]];exact dr.out
   .rw[show c.g.toNat=rg by rw[HRG.out,vN]];first|exact dt.out rfl|exact dt.out trivial
  |true=>
   go_wp2_with fail;(go_loopw [11,12] (λv11 v12 wr=>∃(k:Nat) (K1:List (List Bool)) (H3:Hp) (ag:Bool),k<=n/\v12= Y I k/\v11= N ag/\Hid (K1=(ul k).foldl (FO c (AB c) rg) K)/\Hid (RF K K1 ag)/\Hid (EB n rg K1)/\Hid (Bl H2 H3)/\AC w0 H3 ((cb,BO ((AB c).e))::(tb,TO (vs))::(ob,BO ((AB c).other))::(db,BO ((AB c).done))::(kb,Rb (DN n rg ids))::(fb,IH n cb tb ob kb)::(xb+1,C #[V X 0 0,V X 0 0,V X 0 0,V X 0 0] Cs (0,0))::(xb,At c (V ib n ic))::(EE ids K1++L)) wr) (λ_ v12 _=>n-(intOf v12).toNat));case atStart=>exact⟨0,K,H2,G,un _,Z,Z,A5 Z,A5 (RF.start K),bb,A5 (Bl.refl _),mk⟩
   case round=>
    clear mk;obtain⟨k,K1,H3,ag,hk,rfl,rfl,dn,HTK,ba,ad,mk⟩:=hrel;have es:=mk.e3;by_cases lg:k<n
    .have lJ:(k:Int)<n:=A0;have ed:k<c.i.length:=(by rw[HN.out];exact lg);obtain⟨i,hi⟩:∃i,c.i[k]?=O i:=⟨_,ui ed⟩;obtain⟨tr,af⟩:∃tr,(AB c).t[k]?=O tr:=⟨_,ui (by rw[an.out.t];exact lg)⟩;obtain⟨tv,dw,aq⟩:=dh.out.2 k tr af;have HI:=A5 hi;have bw:=A5 af;have ei:tr.length<=4096:=(by have:=ek.out tr (vE af);omega);have ej:=A5 aq;obtain⟨ch,cg,rfl,-,-,-⟩:=aq;clear hi af;go_wp2_with fail;clear es;refine B1 mk [VK (.agg #[U c.name,Y I c.params,Y I c.g,V ib n ic]),VK (Y I (k:Int)),VK (M (O ⟨fb,1,X⟩)),VK (V (O ⟨tb,0,X⟩) n n),VK (Y I (k:Int)),VK (M (O ⟨tb,k,X⟩)),VK (V ch tr.length cg)] (nf 7) ?_ ?_
     .exact pq
     .intro bs wd hb md;replace md:=AC.like0 mk md;(try simp only[ut,um] at md);simp only[List.length_cons,List.length_nil,Nat.reduceAdd,vJ,uz,vA];clear mk hb;go_wp2_with (go_at_call 107;refine(LW c (V ib n ic) (V ch tr.length cg) k i tr HI.out HF.out.len ei (HF.out.w k i HI.out) (HF.out.go0 k i HI.out) (HF.out.go1 k i HI.out) md (HD.out.mono (HLE.out.trans (aa.out.trans ad.out))) (ej.out.mono (aa.out.trans ad.out))).mono ?_;rintro e w' ⟨vl,H4,rfl,au,hsl,m3⟩);have HSL:=A5 hsl;obtain⟨q,lc,rfl,-,cw,-⟩:=hsl;have cw:=A9 cw;have bz:=A5 au;have en:=A5 (show CU c k ((AB c).t.getD k [])=B6 i k tr by unfold CU;rw[HI.out,uv,bw.out];rfl);have el:=A5 (λy hy=>HF.out.next k i tr HI.out y hy);have fa:(B6 i k tr).length<=4:=(by exact fG);generalize B6 i (k:Int) tr=l at*;have fc:(l.length:Int)<=4:=A0;obtain⟨ck,bh⟩:∃x,(AB c).e[k]?=O x:=⟨_,ui (by rw[an.out.e];exact lg)⟩;have ee:=A5 (show(AB c).e.getD k G=ck by rw[uv,bh];rfl);have er:=A5 (show(vV N (AB c).e)[k]?=O (N ck) by rw[vh,bh];rfl);clear md au bh;go_wp2_with fail;(go_loopw [11,14] (λv11 bn wr=>∃(j:Nat) (K2:List (List Bool)) (ag:Bool),j<=l.length/\bn= Y I j/\v11= N ag/\Hid (K2=if ck=B then (l.take j).foldl (GB rg k) K1 else K1)/\Hid (RF K K2 ag)/\Hid (EB n rg K2)/\AC w0 H4 ((cb,BO ((AB c).e))::(tb,TO (vs))::(ob,BO ((AB c).other))::(db,BO ((AB c).done))::(kb,Rb (DN n rg ids))::(fb,IH n cb tb ob kb)::(xb+1,C #[V X 0 0,V X 0 0,V X 0 0,V X 0 0] Cs (0,0))::(xb,At c (V ib n ic))::(EE ids K2++L)) wr) (λ_ bn _=>l.length-(intOf bn).toNat));case atStart=>exact⟨0,K1,ag,un _,Z,Z,A5 (by split<;>rfl),HTK,ba,m3⟩
      case round=>
       clear m3;obtain⟨j,K2,bu,hj,rfl,rfl,dm,ay,ak,m4⟩:=hrel;have es:=m4.e3;have bh:=er.out;by_cases hlt2:j<l.length/\ck=B
       .obtain⟨hjl,rfl⟩:=hlt2;have av:(j:Int)<l.length:=A0;obtain⟨qb,qo,ew,rfl,f0,f1,f2,i0,i1,dx⟩:=HSL.out.getNext (ui hjl);have dv:=el.out l[j] (vY hjl);have bx:=A5 (show l.take (j+1)=l.take j++[l[j]] from vS hjl);generalize l[j]=y at*;obtain⟨a,ha⟩:∃a:Nat,y.at'=(a:Int):=⟨y.at'.toNat,by omega⟩;have HA:=A5 ha;rw[ha] at f0;have bt:a<n:=(by have:=dv.1.2;rw[HN.out] at this;omega);have cm:y.at'.toNat<n:=(by rw[ha,vN];exact bt);have eg:(a:Int)<n:=A0;have F0:=A5 f0;have F1:=A5 f1;clear f0 f1 f2 ha dx;obtain⟨ae,aj⟩:∃b,ids[a]?=O b:=⟨_,ui (by rw[bk.out];exact bt)⟩;obtain⟨cj,ai⟩:∃b,ids[k]?=O b:=⟨_,ui (by rw[bk.out];exact lg)⟩;have HKA:=A5 (Pe (n:=n) (rg:=rg) aj);have eo:=A5 (Pe (n:=n) (rg:=rg) ai);have ca:=A5 aj;have ep:=A5 ai;clear aj ai;go_wp2_with fail;clear es;(go_loopw [11,15] (λv11 bm wr=>∃(r:Nat) (K3:List (List Bool)) (ag:Bool),r<=rg/\bm= Y I r/\v11= N ag/\Hid (K3=CT k y r K2)/\Hid (RF K K3 ag)/\Hid (EB n rg K3)/\AC w0 H4 ((cb,BO ((AB c).e))::(tb,TO (vs))::(ob,BO ((AB c).other))::(db,BO ((AB c).done))::(kb,Rb (DN n rg ids))::(fb,IH n cb tb ob kb)::(xb+1,C #[V X 0 0,V X 0 0,V X 0 0,V X 0 0] Cs (0,0))::(xb,At c (V ib n ic))::(EE ids K3++L)) wr) (λ_ bm _=>rg-(intOf bm).toNat));case atStart=>exact⟨0,K2,bu,un _,Z,Z,A5 Z,ay,ak,m4⟩
        case round=>
         clear m4;obtain⟨r,K3,ag3,hr,rfl,rfl,dj,HTK3,HKF3,m5⟩:=hrel;have es:=m5.e3;by_cases hlr:r<rg
         .have bp:(r:Int)<c.g:=Sv;obtain⟨ra,hra⟩:∃x,K3[a]?=O x:=⟨_,ui (by rw[HKF3.out.len];exact bt)⟩;obtain⟨rk,bc⟩:∃x,K3[k]?=O x:=⟨_,ui (by rw[HKF3.out.len];exact lg)⟩;obtain⟨x1,hx1⟩:∃x,ra[r]?=O x:=⟨_,ui (by rw[HKF3.out.row _ (vE hra)];exact hlr)⟩;obtain⟨x2,bo⟩:∃x,rk[r]?=O x:=⟨_,ui (by rw[HKF3.out.row _ (vE bc)];exact hlr)⟩;have ah:=(m5.loc _ (.tail _ (.tail _ (.tail _ (.tail _ (.tail _ (.tail _ (.tail _ (.tail _ (wF _ (KB ids K3 a ae ra ca.out hra))))))))))).1;have cv:=(m5.loc _ (.tail _ (.tail _ (.tail _ (.tail _ (.tail _ (.tail _ (.tail _ (.tail _ (wF _ (KB ids K3 k cj rk ep.out bc))))))))))).1;have eu:=A5 (show wr.cell? ⟨ae,r,X⟩=O (N x1) by rw[AU ah];simp[hx1]);have et:=A5 (show wr.cell? ⟨cj,r,X⟩=O (N x2) by rw[AU cv];simp[bo]);have fh:=A5 (Bx ah);have HRA:=A5 hra
          have HLO:=A5 (show JD k K3 y r=(x1&&(!x2&&T (y.to≠r))) by
           unfold JD;rw[HA.out,vN,uv,uv,uv,uv,hra,bc]
           simp only[Option.getD_some,hx1,bo])
          have HSR:=A5 (show CT k y (r+1) K2=GN k K3 y r by rw[dj.out];rfl);clear ah cv hra bc hx1 bo;have c1:=eu.out;have c2:=et.out;have ka:=HKA.out;have kk:=eo.out;unfold Mr at ka kk;have f0:=F0.out.cell m5;have f1:=F1.out.cell m5
          cases x1 with
          |false=>exact mL
          |true=>
           cases x2 with
           |true=>exact mL
           |false=>
            by_cases hq:y.to=(r:Int)
            .have hl0:=A5 (show JD k K3 y r=G by rw[HLO.out,hq];simp);have eb:(y.to !=(r:Int))=false:=(by rw[hq];simp);clear hq;go_wp2_with fail;go_quiet (fail);go_wp2_with fail;go_roundw;(case rel=>exact⟨r+1,K3,ag3,by omega,by go_num,Z,A5 (by rw[HSR.out];unfold GN;rw[hl0.out];rfl),HTK3,HKF3,m5.drewN _⟩);case measure=>exact BW
            .have hl1:=A5 (show JD k K3 y r=B by rw[HLO.out,t_ hq];rfl);have eb:(y.to !=(r:Int))=true:=QH;clear hq;go_wp2_with fail;go_quiet (fail);go_wp2_with fail;refine EA (F:=λw'=>Code.wp _ _ _ _ w') (m5.drewN _) ?_;clear es m5 f0 f1 c1 c2 ka kk;intro wb mb;refine B1 mb [VK (M (O ⟨fb,3,X⟩)),VK (V (O ⟨kb,0,X⟩) n n),VK (V (O ⟨qb,qo,X⟩) l.length lc),VK (Y I (j:Int)),VK (M (O ⟨qb,qo+j*3,X⟩)),VK (M (O ⟨qb,qo+j*3,X⟩)),VK (Y I (a:Int)),VK (M (O ⟨kb,a,X⟩)),VK (V (O ⟨ae,0,X⟩) rg rg),VK (Y I (r:Int))] (nf 10) ?_ ?_
             .exact⟨Kg,Kg,Kg,Kg,Kg,Kg,Kg,Kg,Kg,Kg,trivial⟩
             .intro bs wd hb md;replace md:=AC.like0 mb md;(try simp only[ut,um] at md);simp only[List.length_cons,List.length_nil,Nat.reduceAdd,vJ,uz,vA];clear mb hb;have ah:=(md.loc _ (.tail _ (.tail _ (.tail _ (.tail _ (.tail _ (.tail _ (.tail _ (.tail _ (wF _ (KB ids K3 a ae ra ca.out HRA.out))))))))))).1;have dz:r<ra.length:=(by rw[HKF3.out.row _ (vE HRA.out)];exact hlr);have hc:∃x,wd.cell? ⟨ae,r,X⟩=O x:=⟨_,by rw[AU ah];simp[dz];rfl⟩;obtain⟨xc,hc⟩:=hc;have fe:=Bx ah r;have hst:GN k K3 y r=K3.set a (ra.set r G):=(by unfold GN;rw[hl1.out,HA.out,vN,uv,HRA.out];rfl);have hu:DU ((cb,BO ((AB c).e))::(tb,TO (vs))::(ob,BO ((AB c).other))::(db,BO ((AB c).done))::(kb,Rb (DN n rg ids))::(fb,IH n cb tb ob kb)::(xb+1,C #[V X 0 0,V X 0 0,V X 0 0,V X 0 0] Cs (0,0))::(xb,At c (V ib n ic))::(EE ids K3++L)) ae (BO ra) (C ((ra.map N).toArray.setIfInBounds r (N G)) 4) ((cb,BO ((AB c).e))::(tb,TO (vs))::(ob,BO ((AB c).other))::(db,BO ((AB c).done))::(kb,Rb (DN n rg ids))::(fb,IH n cb tb ob kb)::(xb+1,C #[V X 0 0,V X 0 0,V X 0 0,V X 0 0] Cs (0,0))::(xb,At c (V ib n ic))::(EE ids (K3.set a (ra.set r G))++L)):=(by rw[Ho];exact .tail (.tail (.tail (.tail (.tail (.tail (.tail (.tail ((Sf ids K3 a ae ra (ra.set r G) ca.out HRA.out).appL L)))))))));have m6:=md.set (i:=r) (v:= N G) hu;rw[<-hst] at m6;have bg:=A5 (Rj (k:=k) HKF3.out cm r);clear hst hu ah;go_wp2_with fail;go_roundw;(case rel=>exact⟨r+1,GN k K3 y r,B,by omega,by go_num,Z,A5 HSR.out.symm,A5 (HTK3.out.lost hl1.out),bg,m6⟩);case measure=>exact BW
         .have bp:¬(r:Int)<c.g:=Sv;have hrr:r=rg:=A0;have hK4:=A5 (show K3=GB rg k K2 y by rw[dj.out,hrr];exact YA ak.out cm);clear hrr;go_wp2_with fail;go_roundw
          case rel=>exact⟨j+1,K3,ag3,by omega,by go_num,Z,A5 (by
           have h2:=dm.out;simp only[↓reduceIte] at h2⊢;rw[bx.out,wS,<-h2]
           exact hK4.out),HTK3,HKF3,m5⟩
          case measure=>exact BW
       .have hend:K2=FO c (AB c) rg K1 k:=by
         unfold FO;rw[ee.out,en.out,dm.out];cases ck
         .rfl
         .simp only[↓reduceIte];rw[vQ (by simp at hlt2;omega)]
        have cd:=A5 hend;have HREL:=A5 (show ∃(k':Nat) (K1:List (List Bool)) (H3:Hp) (ag:Bool),k'<=n/\Y I ((k:Int)+1)= Y I k'/\N bu= N ag/\Hid (K1=(ul k').foldl (FO c (AB c) rg) K)/\Hid (RF K K1 ag)/\Hid (EB n rg K1)/\Hid (Bl H2 H3)/\AC w0 H3 ((cb,BO ((AB c).e))::(tb,TO (vs))::(ob,BO ((AB c).other))::(db,BO ((AB c).done))::(kb,Rb (DN n rg ids))::(fb,IH n cb tb ob kb)::(xb+1,C #[V X 0 0,V X 0 0,V X 0 0,V X 0 0] Cs (0,0))::(xb,At c (V ib n ic))::(EE ids K1++L)) wr from⟨k+1,K2,H4,bu,by omega,by go_num,Z,A5 (by rw[vp,wS,<-dn.out];exact cd.out),ay,ak,A5 (ad.out.trans bz.out),m4⟩);by_cases hjl:j<l.length
        .have av:(j:Int)<l.length:=A0;have hcf:ck=false:=(by cases ck;rfl;exact a_ ⟨hjl,Z⟩ hlt2);subst hcf;exact tP
        .have av:¬(j:Int)<l.length:=A0;exact tP
    .have hge:¬(k:Int)<n:=A0;have bj:K1=Jo c (AB c) rg K:=(by unfold Jo;rw[HN.out,dn.out,(A0:k=n)])
     have ar:qL ⟨n,xb,cb,tb,ob,db,kb,fb,ib,ic⟩ c rg vs (DN n rg ids) ids w0 H1 L (N ag) wr (2*OS K1+(if ag=B then 1 else 0)):=by
      refine⟨K1,H3,ag,mm+1,Z,ba.out,?_,λha=>?_,Z,aa.out.trans ad.out,mk⟩
      .rw[bj,dr.out,F4];rfl
      .rcases HTK.out with ⟨_,h⟩|⟨h,_⟩
       .rw[<-h] at bj;rw[<-bj]
       .rw[ha] at h;cases h
     have az:=A5 ar;clear ar bj;go_wp2_with fail;go_roundw;case rel=>exact A5 ⟨_,az.out⟩
     case measure=>
      have h1:=TW az.out;have h2:=HG.out;have h3:=HTK.out;simp only[↓reduceIte] at h2;rcases h3 with ⟨rfl,h4⟩|⟨rfl,h4⟩
      .rw[h4] at h1;simp at h1;omega
      .simp at h1;omega
theorem aT (n xb cb tb ob db kb fb:Nat) (ib:Option Addr) (ic:Nat) (c:AF) (rg:Nat) (ar:AX C1 H (V ib n ic) c.i) (lz:Dw c) (hN:c.i.length=n) (aq:c.g=(rg:Int)) (hm1:(ic:Int)<=9223372036854775807) (Q:Exit->Act->W_->Prop) (K:Act->W_->Prop) (hC:∀a W,pH n xb cb tb ob db kb fb ib ic c rg w0 H L a W->LK uh Q ((CN QS).drop 9) K a W):∀a W,qC n xb cb tb ob db kb fb ib ic c w0 H L a W->LK uh Q ((CN QS).drop 7) K a W:=by
 have HD:=A5 ar;have HF:=A5 lz;have HN:=A5 hN;have HRG:=A5 aq;have hn1:0<n:=(by rw[<-hN];exact lz.pos);have bc:n<=2000:=(by rw[<-hN];exact lz.len);have av:=lz.par;have au:rg<=250:=A0;have bb:(n:Int)<=2000:=A0;have hn0:(0:Int)<n:=A0;clear lz hN aq ar;rintro a wr ⟨ax,H1,vs,an,ak,mN,aj,mk⟩;have ah:=A5 an;have az:=A5 ak;have HLE:=A5 mN;have ay:=A5 aj;clear an ak mN aj;simp only[Fl.L1,Fl.Lb] at mk;have ba:=A5 hC;clear hC;obtain⟨ao,lC,a1,a2,a3,a4⟩:=ax;obtain⟨tm,df⟩:=a;simp only at ao lC a1 a2 a3 a4;subst ao;obtain⟨u,hu⟩:=Ii tm lC;simp only[ul,List.range.loop,vV] at hu;subst hu;clear lC;replace a1:u 1= M (O ⟨xb,0,X⟩):=Option.some.inj a1;generalize u 1=z1 at a1⊢;subst a1;replace a2:u 2= M (O ⟨xb+1,0,X⟩):=Option.some.inj a2;generalize u 2=z2 at a2⊢;subst a2;replace a3:u 3= Y I (n:Int):=Option.some.inj a3;generalize u 3=z3 at a3⊢;subst a3;replace a4:u 4= M (O ⟨fb,0,X⟩):=Option.some.inj a4;generalize u 4=z4 at a4⊢;subst a4;refine M9 2 (pH n xb cb tb ob db kb fb ib ic c rg w0 H L) ?_ ba.out;intro K0 key;simp only[QS,f106,Option.getD_some,CN,uq,ut,um,uz,vA,vW,vX];intro K1 bf;go_wp2_with fail;intro K2 bd;go_wp2_with fail;(go_loopw [9] (λv9 wr=>∃(k:Nat) (ids:List Nat),k<=n/\v9= Y I k/\Hid (ids.length=k)/\AC w0 H1 ((cb,BO ((AB c).e))::(tb,TO (vs))::(ob,BO ((AB c).other))::(db,BO ((AB c).done))::(kb,Rb (DN n rg ids))::(fb,IH n cb tb ob kb)::(xb+1,C #[V X 0 0,V X 0 0,V X 0 0,V X 0 0] Cs (0,0))::(xb,At c (V ib n ic))::(EE ids ((ul k).map λj=>Hn c rg j rg)++L)) wr) (λv9 _=>n-(intOf v9).toNat));case atStart=>exact⟨0,[],un _,Z,A5 Z,mk⟩
 case round=>
  clear mk;obtain⟨k,ids,hk,rfl,aa,mk⟩:=hrel;have es:=mk.e3;by_cases lg:k<n
  .have lJ:(k:Int)<n:=A0;go_wp2_with fail;clear es;refine B1 mk [VK (M (O ⟨fb,3,X⟩)),VK (V (O ⟨kb,0,X⟩) n n),VK (Y I (k:Int)),VK (M (O ⟨xb,2,X⟩)),VK (Y I c.g),⟨[5],λzb=> V (O ⟨(zb.getD 0 Ax).b,0,X⟩) rg rg,O ([],[],λzb d=>d.bl=[(d.b,C (uj rg (N G)).toArray 4)]),G⟩] (nf 5++[B]) ?_ ?_
   .refine⟨Pc,Pc,Pc,Pc,Pc,?_,trivial⟩
    ·(refine Al.make _ _ Z Z Z λbs w hb m=>?_);show(x_ _ _).run _ _= .ok (.value (V (O ⟨w.heap.size,0,X⟩) rg rg)) (w.alloc (C (uj rg (N G)).toArray 4));exact FI (bytes:=1) Z (by show Y I c.g= Y I (rg:Int);rw[HRG.out]) underlying158 A7 Z A0 A0
   .intro bs wd hb md;replace md:=AC.like1 mk (bs 5).bl md;have ai:(bs 5).bl=[((bs 5).b,C (uj rg (N G)).toArray 4)]:=hb 5 _ _ Z Z;rw[ai] at md;(try simp only[ut,um] at md);simp only[List.length_cons,List.length_nil,Nat.reduceAdd,vJ,uz,vA];generalize (bs 5).b=rb at*;rw[show uj rg (N G)=(Hn c rg k 0).map N by rw[aP];simp] at md;have hkv:(DN n rg ids)[k]?=O (V X 0 0):=(by unfold DN;rw[wv (by simp[aa.out]),vM,aa.out,wI,ww,p_ A0]);have m2:=md.set (i:=k) (v:=Mr rg rb) (.tail (.tail (.tail (.tail (.tail .head)))));rw[jz,<-aa.out,Zz (by rw[aa.out];exact lg),aa.out] at m2;have es:=md.e3;clear hb ai mk;go_wp2_with fail;refine EA (F:=λw'=>Code.wp _ _ _ _ w') m2 ?_;clear es md m2 hkv;intro wc mc;(go_loopw [10] (λv10 wr=>∃r:Nat,r<=rg/\v10= Y I r/\AC w0 H1 ((rb,BO (Hn c rg k r))::(cb,BO ((AB c).e))::(tb,TO (vs))::(ob,BO ((AB c).other))::(db,BO ((AB c).done))::(kb,Rb (DN n rg (ids++[rb])))::(fb,IH n cb tb ob kb)::(xb+1,C #[V X 0 0,V X 0 0,V X 0 0,V X 0 0] Cs (0,0))::(xb,At c (V ib n ic))::(EE ids ((ul k).map λj=>Hn c rg j rg)++L)) wr) (λv10 _=>rg-(intOf v10).toNat));case atStart=>exact⟨0,un _,Z,mc⟩
    case round=>
     clear mc;obtain⟨r,hr,rfl,mr⟩:=hrel;have es:=mr.e3;by_cases ae:r<rg
     .have af:(r:Int)<c.g:=Sv;have hkv:=A5 (Pe (n:=n) (rg:=rg) (ids:=ids++[rb]) (a:=k) (b:=rb) (by rw[wv (by rw[aa.out];exact vD _),aa.out,wI];rfl));have ad:=A5 (show((Hn c rg k r).map N)[r]?=O (N ((Hn c rg k r).getD r G)) by rw[vh,ui (by simp[Hn];exact ae),uv,ui (by simp[Hn];exact ae)];rfl);by_cases hk0:0<k
      .have ag:(0:Int)<k:=A0;go_wp2_with fail;clear es;refine B1 mr [VK (M (O ⟨fb,3,X⟩)),VK (V (O ⟨kb,0,X⟩) n n),VK (Y I (k:Int)),VK (M (O ⟨kb,k,X⟩)),VK (V (O ⟨rb,0,X⟩) rg rg),VK (Y I (r:Int)),VK (Y I (k:Int)),VK (N B),VK (N B),SK,SK,SK,SK,VK (N B)] (nf 14) ?_ ?_
       .exact⟨DF,DF,DF,DF,DF,DF,DF,DF,DF,Ak,Ak,Ak,Ak,DF,trivial⟩
       .intro bs wd hb md;replace md:=AC.like0 mr md;(try simp only[ut,um] at md);simp only[List.length_cons,List.length_nil,Nat.reduceAdd,vJ,uz,vA];clear hb mr;have ad:=ad.out;have m3:=md.set (i:=r) (v:= N B) .head;have hst:=Ru c rg k r ae;rw[t_ hk0,Bool.true_or] at hst;exact lh
      .have ag:¬(0:Int)<k:=A0;go_wp2_with fail;clear es;refine B1 mr [VK (M (O ⟨fb,3,X⟩)),VK (V (O ⟨kb,0,X⟩) n n),VK (Y I (k:Int)),VK (M (O ⟨kb,k,X⟩)),VK (V (O ⟨rb,0,X⟩) rg rg),VK (Y I (r:Int)),VK (Y I (k:Int)),VK (N G),VK (N G),VK (Y I (r:Int)),VK (M (O ⟨xb,1,X⟩)),VK (Y I c.params),VK (N (T ((r:Int)<c.params))),VK (N (T ((r:Int)<c.params)))] (nf 14) ?_ ?_
       .exact⟨DF,DF,DF,DF,DF,DF,DF,DF,DF,YT,YT,YT,YT,DF,trivial⟩
       .intro bs wd hb md;replace md:=AC.like0 mr md;(try simp only[ut,um] at md);simp only[List.length_cons,List.length_nil,Nat.reduceAdd,vJ,uz,vA];clear hb mr;have ad:=ad.out;have m3:=md.set (i:=r) (v:= N (T ((r:Int)<c.params))) .head;have hst:=Ru c rg k r ae;rw[f_ hk0,Bool.false_or] at hst;exact lh
     .have af:¬(r:Int)<c.g:=Sv;have hrr:r=rg:=A0;rw[hrr] at mr
      have HM:=A5 (show AC w0 H1 ((cb,BO ((AB c).e))::(tb,TO (vs))::(ob,BO ((AB c).other))::(db,BO ((AB c).done))::(kb,Rb (DN n rg (ids++[rb])))::(fb,IH n cb tb ob kb)::(xb+1,C #[V X 0 0,V X 0 0,V X 0 0,V X 0 0] Cs (0,0))::(xb,At c (V ib n ic))::(EE (ids++[rb]) ((ul (k+1)).map λj=>Hn c rg j rg)++L)) wr by
       rw[Xw,Ro ids _ rb _ (by simp[aa.out])]
       exact mr.perm Ah)
      go_wp2_with fail;go_roundw;(case rel=>exact⟨k+1,ids++[rb],by omega,by go_num,A5 (by simp[aa.out]),HM.out⟩);case measure=>exact BW
  .have hge:¬(k:Int)<n:=A0;have aw:k=n:=A0;rw[aw] at mk aa;rw[show(ul n).map (λj=>Hn c rg j rg)=Fb c rg by rw[iB,HN.out]] at mk;have HM:=A5 mk;clear mk;go_wp2_with fail;simp only[LK];exact key _ _ ⟨⟨Z,Z,Z,Z,Z,Z⟩,H1,vs,ids,ah.out,az.out,aa.out,HLE.out,ay.out,HM.out⟩
theorem Nz (c:AF) (vi:V_) (lz:Dw c) (m:AC w0 H L w) (hd:AX C1 H vi c.i):K_ uh 106 #[Gm c vi] w (Sn w0 H L c):=by
 have HD:=A5 hd;obtain⟨ib,ic,rfl,-,hm1,-⟩:=hd;have hm1:=A9 hm1;have HF:=A5 lz;have hn1:=lz.pos;have ea:=lz.len;have df:=lz.par;clear lz;unfold Gm;have m1:=m.alloc (At c (V ib c.i.length ic));have m2:=m1.alloc (C #[V X 0 0,V X 0 0,V X 0 0,V X 0 0] Cs);simp only[vP] at m2;have es:=m2.e14;generalize dx:w.heap.size=xb at*;generalize hn:c.i.length=n at*;have HN:=A5 hn;clear hn;have dz:(n:Int)<=2000:=A0;obtain⟨rg,ch⟩:∃rg:Nat,c.g=(rg:Int):=⟨c.g.toNat,by omega⟩;have aw:=A5 ch;clear ch;go_enter func106,ntmps106;refine TS (De 7) (λa W=>∃cb tb ob db kb fb,qC n xb cb tb ob db kb fb ib ic c w0 H L a W) ?_ ?_;rotate_left
 .rintro a W ⟨cb,tb,ob,db,kb,fb,hS⟩;exact aT n xb cb tb ob db kb fb ib ic c rg HD.out HF.out HN.out aw.out A0 _ _ (Zm n xb cb tb ob db kb fb ib ic c rg HD.out HF.out HN.out aw.out A0) a W hS
 intro K0 key;simp only[CN,uq,ut,um,uz,vA,vW,vX];intro K1 ej;go_wp2_with fail;intro K2 ei;go_wp2_with fail;intro K3 hK3;refine EA (F:=λw'=>Code.wp _ _ _ _ w') m2 ?_;clear es m1 m2;intro wr mr;refine B1 mr [VK (Y I (n:Int)),⟨[1],λzb=> V (O ⟨(zb.getD 0 Ax).b,0,X⟩) n n,O ([],[],λzb d=>d.bl=[(d.b,C (uj n (N G)).toArray 4)]),G⟩,VK (Y I (n:Int)),⟨[3],λzb=> V (O ⟨(zb.getD 0 Ax).b,0,X⟩) n n,O ([],[],λzb d=>d.bl=[(d.b,C (uj n (V X 0 0)).toArray 79)]),G⟩,VK (Y I (n:Int)),⟨[5],λzb=> V (O ⟨(zb.getD 0 Ax).b,0,X⟩) n n,O ([],[],λzb d=>d.bl=[(d.b,C (uj n (N G)).toArray 4)]),G⟩,VK (Y I (n:Int)),⟨[7],λzb=> V (O ⟨(zb.getD 0 Ax).b,0,X⟩) n n,O ([],[],λzb d=>d.bl=[(d.b,C (uj n (V X 0 0)).toArray 158)]),G⟩,⟨[1,3,5,7],λzb=> .agg #[V (O ⟨(zb.getD 0 Ax).b,0,X⟩) n n,V (O ⟨(zb.getD 1 Ax).b,0,X⟩) n n,V (O ⟨(zb.getD 2 Ax).b,0,X⟩) n n,V (O ⟨(zb.getD 3 Ax).b,0,X⟩) n n],X,G⟩,⟨[9],λzb=> M (O ⟨(zb.getD 0 Ax).b,0,X⟩),O ([],[],λzb d=>d.bl=[(d.b,C #[V X 0 0,V X 0 0,V X 0 0,V X 0 0] Cs (0,0))]),G⟩] (nf 1++[B]++nf 1++[B]++nf 1++[B]++nf 1++[B]++nf 1++[B]) ?_ ?_
 .refine⟨AA,u9,AA,?_,AA,u9,AA,?_,?_,?_,trivial⟩
  ·(refine Al.make _ _ Z Z Z λbs w hb m=>?_);show(x_ _ _).run _ _= .ok (.value (V (O ⟨w.heap.size,0,X⟩) n n)) (w.alloc (C (uj n (V X 0 0)).toArray 79));exact FI (bytes:=24) Z Z underlying159 A7 Z A0 A0
  ·(refine Al.make _ _ Z Z Z λbs w hb m=>?_);show(x_ _ _).run _ _= .ok (.value (V (O ⟨w.heap.size,0,X⟩) n n)) (w.alloc (C (uj n (V X 0 0)).toArray 158));exact FI (bytes:=24) Z Z underlying160 A7 Z A0 A0
  ·(refine Al.val Z Z Z λbs w hb m=>?_);show(x_ _ _).run _ _= .ok (.value (.agg #[V (O ⟨(bs 1).b,0,X⟩) n n,V (O ⟨(bs 3).b,0,X⟩) n n,V (O ⟨(bs 5).b,0,X⟩) n n,V (O ⟨(bs 7).b,0,X⟩) n n])) w;exact Cp
  ·(refine Al.make _ _ Z Z Z λbs w hb m=>?_);show(x_ _ _).run _ _= .ok (.value (M (O ⟨w.heap.size,0,X⟩))) (w.alloc (C #[V X 0 0,V X 0 0,V X 0 0,V X 0 0] Cs (0,0)));exact Cp
 .intro bs wd hb md;replace md:AC w0 H ((bs 1).bl++((bs 3).bl++((bs 5).bl++((bs 7).bl++((bs 9).bl++((xb+1,C #[V X 0 0,V X 0 0,V X 0 0,V X 0 0] Cs (0,0))::(xb,At c (V ib n ic))::L)))))) wd:=md;have bw:(bs 1).bl=[((bs 1).b,C (uj n (N G)).toArray 4)]:=hb 1 _ _ Z Z;rw[bw] at md;have bu:(bs 3).bl=[((bs 3).b,C (uj n (V X 0 0)).toArray 79)]:=hb 3 _ _ Z Z;rw[bu] at md;have bt:(bs 5).bl=[((bs 5).b,C (uj n (N G)).toArray 4)]:=hb 5 _ _ Z Z;rw[bt] at md;have br:(bs 7).bl=[((bs 7).b,C (uj n (V X 0 0)).toArray 158)]:=hb 7 _ _ Z Z;rw[br] at md;have bq:(bs 9).bl=[((bs 9).b,C #[V X 0 0,V X 0 0,V X 0 0,V X 0 0] Cs (0,0))]:=hb 9 _ _ Z Z;rw[bq] at md;(try simp only[ut,um] at md);simp only[List.length_cons,List.length_nil,Nat.reduceAdd,vJ,uz,vA];generalize (bs 1).b=cb at*;generalize (bs 3).b=tb at*;generalize (bs 5).b=ob at*;generalize (bs 7).b=kb at*;generalize (bs 9).b=fb at*;rw[((by simp):uj n (N G)=(uj n G).map N)] at md;have ms:=AC.setL [V (O ⟨cb,0,X⟩) n n,V (O ⟨tb,0,X⟩) n n,V (O ⟨ob,0,X⟩) n n,V (O ⟨kb,0,X⟩) n n] 0 (md.perm (Ah:((cb,BO (uj n G))::(tb,TO (uj n (V X 0 0)))::(ob,BO (uj n G))::(kb,Rb (uj n (V X 0 0)))::(fb,C #[V X 0 0,V X 0 0,V X 0 0,V X 0 0] Cs (0,0))::(xb+1,C #[V X 0 0,V X 0 0,V X 0 0,V X 0 0] Cs (0,0))::(xb,At c (V ib n ic))::L).Perm ((fb,C #[V X 0 0,V X 0 0,V X 0 0,V X 0 0] Cs (0,0))::(cb,BO (uj n G))::(tb,TO (uj n (V X 0 0)))::(ob,BO (uj n G))::(kb,Rb (uj n (V X 0 0)))::(xb+1,C #[V X 0 0,V X 0 0,V X 0 0,V X 0 0] Cs (0,0))::(xb,At c (V ib n ic))::L)));have es:=md.e14;have ns:=md.n9;clear hb bw bu bt br bq mr;go_wp2_with fail;intro K4 hK4;go_wp2_with (refine Eg (bytes:=1) (z:= N G) Z ms Z Z underlying158 A7 Z A0 A0 ?_);intro db wz mz;clear es ns ms md;rw[((by simp):vU n (N G)=((uj n G).map N).toArray)] at mz;replace mz:AC w0 H ((cb,BO (uj n G))::(tb,TO (uj n (V X 0 0)))::(ob,BO (uj n G))::(db,BO (uj n G))::(kb,Rb (uj n (V X 0 0)))::(fb,IH n cb tb ob kb)::(xb+1,C #[V X 0 0,V X 0 0,V X 0 0,V X 0 0] Cs (0,0))::(xb,At c (V ib n ic))::L) wz:=mz.perm (Ah:((db,BO (uj n G))::(fb,IH n cb tb ob kb)::(cb,BO (uj n G))::(tb,TO (uj n (V X 0 0)))::(ob,BO (uj n G))::(kb,Rb (uj n (V X 0 0)))::(xb+1,C #[V X 0 0,V X 0 0,V X 0 0,V X 0 0] Cs (0,0))::(xb,At c (V ib n ic))::L).Perm ((cb,BO (uj n G))::(tb,TO (uj n (V X 0 0)))::(ob,BO (uj n G))::(db,BO (uj n G))::(kb,Rb (uj n (V X 0 0)))::(fb,IH n cb tb ob kb)::(xb+1,C #[V X 0 0,V X 0 0,V X 0 0,V X 0 0] Cs (0,0))::(xb,At c (V ib n ic))::L));have an:=mz.set (i:=0) (v:= N B) .head;rw[Ho] at an
  have au:Hid (K_ uh 143 #[V (O ⟨cb,0,X⟩) n n,V (O ⟨db,0,X⟩) n n] (wz.setCell ⟨cb,0,X⟩ (N B)) λe w'=>e= .returned (Y I (GT (ES.init n).e (ES.init n).done))/\(wz.setCell ⟨cb,0,X⟩ (N B))=w'):=A5 (by
   refine Km _ _ (ES.init n).e (ES.init n).done (by simp[ES.init]) ?_ ?_
   .have:=BO.at an (.head _) (by simp[maxLen];omega) n;simpa[ES.init] using this
   .have:=BO.at an (bs:=uj n G) (b:=db) (by simp) (by simp[maxLen];omega) n
    simpa[ES.init] using this)
  have es:=mz.e3;have hn0:(0:Int)<n:=A0;have cn:=an.e3;go_wp2_with fail;intro K5 eh;go_wp2_with fail;intro K6 eg;go_wp2_with (go_at_call 143;refine au.out.mono ?_;rintro e w' ⟨rfl,rfl⟩);intro K7 ee;go_wp2_with fail;refine EA (F:=λw'=>Code.wp _ _ _ _ w') an ?_;clear es cn au mz;intro wy my;clear an;have cg:MG H (uj n (V X 0 0)) (ES.init n).t:=(by refine⟨by simp[ES.init],λi t hi=>?_⟩;have lg:i<n:=(by have:=(vF.1 hi).1;simpa[ES.init] using this);refine⟨V X 0 0,by simp[lg],?_⟩;simp only[ES.init,ww,lg,↓reduceIte,Option.some.injEq] at hi;subst hi;exact AX.nil _ _);obtain⟨f,hf⟩:∃f:Fl,f=⟨n,xb,cb,tb,ob,db,kb,fb,ib,ic⟩:=⟨_,Z⟩;have hx0:fO f c w0 H L (Y I (GT (ES.init n).e (ES.init n).done)) wy (ES.init n).undone:=(by subst hf;exact⟨ES.init n,H,uj n (V X 0 0),Z,ES.init_fit n,Cc.init n,by have:=Kw c;rw[HN.out] at this;exact this.symm,Z,Bl.refl _,cg,my⟩);have cu:=A5 hf;have cp:=A5 hx0;clear hf hx0 cg my;(go_loopw [6] (λv6 wr=>Hid (∃u,fO f c w0 H L v6 wr u)) (λv6 wr=>Qj (fO f c w0 H L v6 wr)));case atStart=>exact A5 ⟨_,cp.out⟩
  case round=>
   have da:=Mo hrel.out;clear hrel cp;generalize hg:Qj (fO f c w0 H L u6 wr)=g at*;have HG:=A5 hg;clear hg;obtain⟨s,H1,vs,rfl,lz,bz,hex,rfl,mN,aj,mk⟩:=da;obtain rfl:=cu.out;simp only[Fl.L1,Fl.Lb] at mk;have aa:=A5 (show s.Fit n from lz);have bj:=A5 (show Cc n s from bz);have cv:=A5 hex;have HLE:=A5 mN;have bh:=A5 aj;clear lz bz hex mN aj cu
   cases hs:s.small with
   |none=>have hI:=Ti hs;rw[hI] at*;have HS:=A5 hs;clear hs hI;have de:=A5 (show s=AB c by rw[<-cv.out];exact(Nm HS.out).symm);obtain rfl:=de.out;have HM:=A5 mk;clear mk;go_wp2_with fail;simp only[LK];exact key _ _ ⟨cb,tb,ob,db,kb,fb,⟨⟨Z,Z,Z,Z,Z,Z⟩,H1,vs,aa.out,bj.out,HLE.out,bh.out,HM.out⟩⟩
   |some k=>
    have hI:=LC hs;rw[hI] at*;have HS:=A5 hs;have hk:=(ES.small_some hs).1;rw[aa.out.e] at hk;clear hs hI;have ed:(k:Int)<n:=A0;have dg:k<c.i.length:=(by rw[HN.out];exact hk);obtain⟨i,hi⟩:∃i,c.i[k]?=O i:=⟨_,ui dg⟩;obtain⟨tr,aj⟩:∃tr,s.t[k]?=O tr:=⟨_,ui (by rw[aa.out.t];exact hk)⟩;obtain⟨tv,cz,ar⟩:=bh.out.2 k tr aj;have HI:=A5 hi;have bg:=A5 aj;have dm:tr.length<=4096:=(by have:=bj.out tr (vE aj);omega);have dn:=A5 ar;obtain⟨bp,bo,rfl,-,-,-⟩:=ar;clear hi aj;have dh:∃x,(vV N s.done)[k]?=O x:=⟨_,ui (by rw[vM,aa.out.done];exact hk)⟩;obtain⟨xd,cy⟩:=dh;have es:=mk.e3;go_wp2_with fail;have m2:=mk.set (i:=k) (v:= N B) (.tail (.tail (.tail .head)));rw[Ho] at m2;refine EA (F:=λw'=>Code.wp _ _ _ _ w') m2 ?_;clear es mk m2 cy;intro wa ma;refine B1 ma [VK (.agg #[U c.name,Y I c.params,Y I c.g,V ib n ic]),VK (Y I (k:Int)),VK (M (O ⟨fb,1,X⟩)),VK (V (O ⟨tb,0,X⟩) n n),VK (Y I (k:Int)),VK (M (O ⟨tb,k,X⟩)),VK (V bp tr.length bo)] (nf 7) ?_ ?_
    .exact pq
    .intro bs wd hb md;replace md:=AC.like0 ma md;(try simp only[ut,um] at md);simp only[List.length_cons,List.length_nil,Nat.reduceAdd,vJ,uz,vA];clear ma hb;go_wp2_with (go_at_call 107;refine(LW c (V ib n ic) (V bp tr.length bo) k i tr HI.out HF.out.len dm (HF.out.w k i HI.out) (HF.out.go0 k i HI.out) (HF.out.go1 k i HI.out) md (HD.out.mono HLE.out) dn.out).mono ?_;rintro e w' ⟨vl,H2,rfl,av,hsl,m3⟩);have HSL:=A5 hsl;obtain⟨q,lc,rfl,-,cj,-⟩:=hsl;have cj:=A9 cj;have HLE2:=A5 av;have dt:=A5 (show CU c k (s.t.getD k [])=B6 i k tr by unfold CU;rw[HI.out,uv,bg.out];rfl);have dr:=A5 (λy hy=>HF.out.next k i tr HI.out y hy);have eb:(B6 i k tr).length<=4:=(by exact fG);generalize B6 i (k:Int) tr=l at*;have ec:(l.length:Int)<=4:=A0;clear md av;go_wp2_with fail;(go_loopw [8] (λv8 wr=>∃(j:Nat) (s2:ES) (af:List V_),j<=l.length/\v8= Y I j/\Hid (s2=(l.take j).foldl Cb {s with done:=s.done.set k B})/\Hid (MG H2 af s2.t)/\AC w0 H2 ((cb,BO (s2.e))::(tb,TO (af))::(ob,BO (s2.other))::(db,BO (s2.done))::(kb,Rb (uj n (V X 0 0)))::(fb,IH n cb tb ob kb)::(xb+1,C #[V X 0 0,V X 0 0,V X 0 0,V X 0 0] Cs (0,0))::(xb,At c (V ib n ic))::L) wr) (λv8 _=>l.length-(intOf v8).toNat));case atStart=>exact⟨0,{s with done:=s.done.set k B},vs,un _,Z,A5 Z,A5 (bh.out.mono HLE2.out),m3⟩
     case round=>
      clear m3;obtain⟨j,s2,af,hj,rfl,aq,ao,m4⟩:=hrel;have ah:=A5 (show s2.Fit n by rw[aq.out];exact Lk _ ⟨aa.out.e,aa.out.t,aa.out.other,by simp[aa.out.done]⟩);have ek:=A5 (show s2.done=s.done.set k B by rw[aq.out,He]);have es:=m4.e3;by_cases lg:j<l.length
      .have lJ:(j:Int)<l.length:=A0;obtain⟨qb,qo,dv,rfl,f0,f1,f2,i0,i1,cd⟩:=HSL.out.getNext (ui lg);have cw:=dr.out l[j] (vY lg);have HTK:=A5 (show l.take (j+1)=l.take j++[l[j]] from vS lg);generalize l[j]=y at*;obtain⟨a,ha⟩:∃a:Nat,y.at'=(a:Int):=⟨y.at'.toNat,by omega⟩;have HA:=A5 ha;rw[ha] at f0;have az:a<n:=(by have:=cw.1.2;rw[HN.out] at this;omega);have dj:(a:Int)<n:=A0;have bk:=A5 cd;obtain⟨ay,ax,rfl,-,-,-⟩:=cd;obtain⟨cx,bd⟩:∃cx,s2.e[a]?=O cx:=⟨_,ui (by rw[ah.out.e];exact az)⟩;have bb:=A5 bd;have F0:=A5 f0;have F2:=A5 f2;clear f0 f1 f2 ha;have f0:=F0.out.cell m4;have ae:(vV N s2.e)[a]?=O (N cx):=(by rw[vh,bd];rfl);clear bd
       cases cx with
       |false=>
        go_wp2_with fail;go_quiet (fail)
        have ag:=A5 (show Cb s2 y={s2 with e:=s2.e.set a B,t:=s2.t.set a y.t} by
         unfold Cb;rw[HA.out,vN,uv,bb.out]
         exact p_ Z)
        go_wp2_with fail;refine EA (F:=λw'=>Code.wp _ _ _ _ w') (m4.drewN _) ?_;clear es m4 f0 ae;intro wb mb;have ae:(vV N s2.e)[a]?=O (N G):=(by rw[vh,bb.out];rfl);obtain⟨du,ai⟩:∃v,af[a]?=O v:=⟨_,ui (by rw[ao.out.1,ah.out.t];exact az)⟩;have bn:=A5 ae;have bf:=A5 ai;clear ae ai;refine A6.start (λw'=>∃cs,AC w0 H2 ((cb,C cs 4)::(tb,TO (af))::(ob,BO (s2.other))::(db,BO (s2.done))::(kb,Rb (uj n (V X 0 0)))::(fb,IH n cb tb ob kb)::(xb+1,C #[V X 0 0,V X 0 0,V X 0 0,V X 0 0] Cs (0,0))::(xb,At c (V ib n ic))::L) w') 22 A7 ?_;have mW:=mb.drew;generalize World.drew wb=W at*;clear mb;have HS:(λw'=>∃cs,AC w0 H2 ((cb,C cs 4)::(tb,TO (af))::(ob,BO (s2.other))::(db,BO (s2.done))::(kb,Rb (uj n (V X 0 0)))::(fb,IH n cb tb ob kb)::(xb+1,C #[V X 0 0,V X 0 0,V X 0 0,V X 0 0] Cs (0,0))::(xb,At c (V ib n ic))::L) w') W:=⟨_,mW⟩;refine A6.tk (i:=0) (v:=(M (O ⟨fb,0,X⟩))) Z HS Eb ?_;simp only[AO];refine A6.tk (i:=1) (v:=(V (O ⟨cb,0,X⟩) n n)) Z HS Eb ?_;simp only[AO];refine A6.tk (i:=2) (v:=(V (O ⟨qb,qo,X⟩) l.length lc)) Z HS Eb ?_;simp only[AO];refine A6.tk (i:=3) (v:=(Y I (j:Int))) Z HS Eb ?_;simp only[AO];refine A6.tk (i:=4) (v:=(M (O ⟨qb,qo+j*3,X⟩))) Z HS Eb ?_;simp only[AO];refine A6.tk (i:=5) (v:=(M (O ⟨qb,qo+j*3,X⟩))) Z HS Eb ?_;simp only[AO];refine A6.tk (i:=6) (v:=(Y I (a:Int))) Z HS Eb ?_;simp only[AO];refine A6.tk (i:=7) (v:=(M (O ⟨fb,1,X⟩))) Z HS Eb ?_;simp only[AO];refine A6.tk (i:=8) (v:=(V (O ⟨tb,0,X⟩) n n)) Z HS Eb ?_;simp only[AO];refine A6.tk (i:=9) (v:=(V (O ⟨qb,qo,X⟩) l.length lc)) Z HS Eb ?_;simp only[AO];refine A6.tk (i:=10) (v:=(Y I (j:Int))) Z HS Eb ?_;simp only[AO];refine A6.tk (i:=11) (v:=(M (O ⟨qb,qo+j*3,X⟩))) Z HS Eb ?_;simp only[AO];refine A6.tk (i:=12) (v:=(M (O ⟨qb,qo+j*3,X⟩))) Z HS Eb ?_;simp only[AO];refine A6.tk (i:=13) (v:=(Y I (a:Int))) Z HS Eb ?_;simp only[AO];refine A6.tk (i:=14) (v:=(V (O ⟨qb,qo,X⟩) l.length lc)) Z HS Eb ?_;simp only[AO];refine A6.tk (i:=15) (v:=(Y I (j:Int))) Z HS Eb ?_;simp only[AO];refine A6.tk (i:=16) (v:=(M (O ⟨qb,qo+j*3,X⟩))) Z HS Eb ?_;simp only[AO];refine A6.tk (i:=17) (v:=(M (O ⟨qb,qo+j*3+2,X⟩))) Z HS Eb ?_;simp only[AO];refine A6.tk (i:=18) (v:=(V ay y.t.length ax)) Z HS Eb ?_;simp only[AO];refine A6.pu (i:=19) (v:=(M (O ⟨cb,a,X⟩))) Z HS As ?_;simp only[AO];have es:=mW.e3;have ae:=bn.out;have m5:=mW.set (i:=a) (v:= N B) .head;rw[Ho] at m5;refine A6.one (i:=20) A7 (A6.op Z A7 λK hK=>?_);go_simp;refine hK _ _ (.inr ⟨_,m5⟩) ?_;clear hK K HS es ae;(try simp only[AO]);generalize W.setCell _ _=W2 at*;have HS:(λw'=>∃cs,AC w0 H2 ((cb,C cs 4)::(tb,TO (af))::(ob,BO (s2.other))::(db,BO (s2.done))::(kb,Rb (uj n (V X 0 0)))::(fb,IH n cb tb ob kb)::(xb+1,C #[V X 0 0,V X 0 0,V X 0 0,V X 0 0] Cs (0,0))::(xb,At c (V ib n ic))::L) w') W2:=⟨_,m5⟩;refine A6.pu (i:=21) (v:=(M (O ⟨tb,a,X⟩))) Z HS As ?_;simp only[AO];have es:=m5.e3;have ai:=bf.out;have m6:=m5.set (i:=a) (v:= V ay y.t.length ax) (.tail .head);rw[jz] at m6;refine A6.one (i:=22) A7 (A6.op Z A7 λK hK=>?_);go_simp;refine hK _ _ (.inl ⟨22,by decide,by rfl⟩) ?_;clear hK K HS es ai;(try simp only[AO]);refine A6.done A7 ?_ _;go_wp2_with fail;go_roundw;(case rel=>exact⟨j+1,{s2 with e:=s2.e.set a B,t:=s2.t.set a y.t},af.set a (V ay y.t.length ax),by omega,by go_num,A5 co,A5 (ao.out.set a bk.out),m6⟩);case measure=>exact BW
       |true=>
        obtain⟨ta,bc⟩:∃t,s2.t[a]?=O t:=⟨_,ui (by rw[ah.out.t];exact az)⟩;obtain⟨va,dy,bx⟩:=ao.out.2 a ta bc;have cr:=A5 bc;have cq:=A5 bx;obtain⟨ba,ca,rfl,-,-,-⟩:=bx;clear bc;go_wp2_with fail;go_quiet (fail);go_wp2_with fail;refine EA (F:=λw'=>Code.wp _ _ _ _ w') (m4.drewN _) ?_;clear es m4 f0 ae;intro wb mb;refine B1 mb [VK (M (O ⟨fb,1,X⟩)),VK (V (O ⟨tb,0,X⟩) n n),VK (V (O ⟨qb,qo,X⟩) l.length lc),VK (Y I (j:Int)),VK (M (O ⟨qb,qo+j*3,X⟩)),VK (M (O ⟨qb,qo+j*3,X⟩)),VK (Y I (a:Int)),VK (M (O ⟨tb,a,X⟩)),VK (V ba ta.length ca),VK (V (O ⟨qb,qo,X⟩) l.length lc),VK (Y I (j:Int)),VK (M (O ⟨qb,qo+j*3,X⟩)),VK (M (O ⟨qb,qo+j*3+2,X⟩)),VK (V ay y.t.length ax)] (nf 14) ?_ ?_
        .exact⟨EF,EF,EF,EF,EF,EF,EF,EF,EF,EF,EF,EF,EF,EF,trivial⟩
        .intro bs wd hb md;replace md:=AC.like0 mb md;(try simp only[ut,um] at md);simp only[List.length_cons,List.length_nil,Nat.reduceAdd,vJ,uz,vA];clear mb hb;by_cases ad:ta=y.t
         .have ag:=A5 (show Cb s2 y=s2 by
           unfold Cb
           rw[HA.out,vN,uv,bb.out,n_ (by simp),uv,cr.out,n_ (by simp[ad])])
          have ak:=A5 (t_ ad);clear ad;go_wp2_with (go_at_call 142;refine(Rz _ _ _ _ md cq.out bk.out).mono ?_;rw[ak.out];rintro e w' ⟨rfl,m5⟩);go_roundw;(case rel=>exact⟨j+1,s2,af,by omega,by go_num,A5 co,ao,m5⟩);case measure=>exact BW
         .have ag:=A5 (show Cb s2 y={s2 with other:=s2.other.set a B} by
           unfold Cb
           rw[HA.out,vN,uv,bb.out,n_ (by simp),uv,cr.out,p_ (by simpa using ad)])
          have ak:=A5 (f_ ad);clear ad;go_wp2_with (go_at_call 142;refine(Rz _ _ _ _ md cq.out bk.out).mono ?_;rw[ak.out];rintro e w' ⟨rfl,m5⟩);refine EA (F:=λw'=>Code.wp _ _ _ _ w') m5 ?_;clear md m5;intro wc mc;refine B1 mc [VK (M (O ⟨fb,2,X⟩)),VK (V (O ⟨ob,0,X⟩) n n),VK (V (O ⟨qb,qo,X⟩) l.length lc),VK (Y I (j:Int)),VK (M (O ⟨qb,qo+j*3,X⟩)),VK (M (O ⟨qb,qo+j*3,X⟩)),VK (Y I (a:Int))] (nf 7) ?_ ?_
          .exact⟨EF,EF,EF,EF,EF,EF,EF,trivial⟩
          .intro bs wd hb md;replace md:=AC.like0 mc md;(try simp only[ut,um] at md);simp only[List.length_cons,List.length_nil,Nat.reduceAdd,vJ,uz,vA];clear mc hb;obtain⟨xo,dw⟩:∃x,(vV N s2.other)[a]?=O x:=⟨_,ui (by rw[vM,ah.out.other];exact az)⟩;have m6:=md.set (i:=a) (v:= N B) (.tail (.tail .head));rw[Ho] at m6;have es:=md.e3;go_wp2_with fail;go_roundw;(case rel=>exact⟨j+1,{s2 with other:=s2.other.set a B},af,by omega,by go_num,A5 co,ao,m6⟩);case measure=>exact BW
      .have hge:¬(j:Int)<l.length:=A0;have bm:=A5 (show s2=s.step c k by rw[aq.out,vQ A0];unfold ES.step;rw[dt.out]);have cm:=A5 (BO.at m4 (b:=cb) (bs:=s2.e) (.head _) (by rw[ah.out.e];unfold maxLen;omega) n);have ck:=A5 (BO.at m4 (b:=db) (bs:=s2.done) (.tail _ (.tail _ (.tail _ (.head _)))) (by rw[ah.out.done];unfold maxLen;omega) n);rw[ah.out.e] at cm;rw[ah.out.done] at ck;go_wp2_with (go_at_call 143;refine BQ (Km _ _ s2.e s2.done (by rw[ah.out.e,ah.out.done]) cm.out ck.out) ?_);have HR:=A5 (show fO ⟨n,xb,cb,tb,ob,db,kb,fb,ib,ic⟩ c w0 H L (Y I (GT s2.e s2.done)) wr (s.step c k).undone from⟨s2,H2,af,by rw[bm.out],ah.out,by rw[bm.out];exact bj.out.step aa.out HS.out,by rw[bm.out,<-MD aa.out HS.out];exact cv.out,Z,HLE.out.trans HLE2.out,ao.out,m4⟩);go_roundw;case rel=>exact A5 ⟨_,HR.out⟩
       case measure=>
        have h1:=TW HR.out;have h2:=ES.undone_step (c:=c) aa.out HS.out;have h3:=HG.out
        first
         |omega
         |(rw[LC HS.out] at h3;omega)
         |(rw[LC HS.out];omega)
variable {xs:List α}
def Yu (c:AF):Prop:=∀i∈c.i,i.args.length<=4096/\∀r∈CM i,0<=r/\r<c.g
theorem AX.getB {b:Option Addr} {xs:List Bool} (h:AX EV H (V b n c) xs) {x:Bool} (hi:xs[i]?=O x):∃lu off,b=O ⟨lu,off,X⟩/\Bm H lu (off+i) (N x):=by obtain⟨hl,rfl⟩:=vF.1 hi;obtain⟨lu,off,h1,h2,_⟩:=h.cellV hl;exact⟨lu,off,h1,h2⟩
theorem AX.getSl {b:Option Addr} {xs:List (List α)} (h:AX (Kp E) H (V b n c) xs) {x:List α} (hi:xs[i]?=O x):∃lu off v,b=O ⟨lu,off,X⟩/\Bm H lu (off+i) v/\AX E H v x:=by obtain⟨hl,rfl⟩:=vF.1 hi;obtain⟨b',c',hv,_,_,_,hc⟩:=h;cases hv;obtain⟨lu,off,cs,e1,e2,e3⟩:=hc i hl;obtain⟨v,rfl,e4⟩:=e2;refine⟨lu,off,v,e1,?_,e4⟩;have:=e3 0 v Z;rwa [show off+i*(Kp E).size+0=off+i by show off+i*1+0=off+i;omega] at this
theorem AX.shape {v:V_} (h:AX E H v xs):∃b c,v= V b xs.length c:=by obtain⟨b,c,hv,_⟩:=h;exact⟨b,c,hv⟩
abbrev Fv (a b c d:V_):Obj:= C #[a,b,c,d] Cs (0,0)
theorem G8.len {c:AF} {K:List (List Bool)} (h:G8 c K):EB c.i.length c.g.toNat K:=by
 obtain⟨m,rfl,_⟩:=h
 have:∀m K,EB c.i.length c.g.toNat K->EB c.i.length c.g.toNat (Ct (Jo c (AB c) c.g.toNat) m K):=by
  intro m
  induction m with
  |zero=>exact λK h=>h
  |succ m ih=>
   intro K h;refine ih _ ?_;unfold Jo
   have:∀(l:List Nat) K,EB c.i.length c.g.toNat K->EB c.i.length c.g.toNat (l.foldl (FO c (AB c) c.g.toNat) K):=by
    intro l
    induction l with
    |nil=>exact λK h=>h
    |cons x l ih=>exact λK h=>ih _ (UF h x)
   exact this _ K h
 exact this m _ (NB c c.g.toNat)
theorem Nr {c:AF} {n:Nat}:∀(f:Nat) {s:ES},s.Fit n->(Db c f s).Fit n
 |0,_,h=>h
 |f+1,s,h=>by
  unfold Db
  split
  .exact h
  .exact Nr f (ES.step_fit h _)
theorem Jb (c:AF):(AB c).Fit c.i.length:=Nr _ (ES.init_fit _)
def od (w0:W_) (H:Hp) (L:List (Nat×Obj)) (c:AF) (e:E_) (w':W_):Prop:=∃H' K,G8 c K/\Bl H H'/\e= .returned (Y I (Qz c K))/\AC w0 H' L w'
theorem oK (l:List α) (k:Nat) (h:k<l.length):l.zipIdx[k]'CE=(l[k],k):=by simp
theorem gD (c:AF) (vi:V_) (lz:Dw c) (bn:Yu c) (m:AC w0 H L w) (hd:AX C1 H vi c.i):K_ uh 101 #[Gm c vi] w (od w0 H L c):=by
 have HD:=A5 hd;have HRD:=A5 bn;obtain⟨ib,ic,rfl,-,hm1,-⟩:=hd;have hm1:=A9 hm1;have HF:=A5 lz;have cu:=lz.len;clear lz bn;unfold Gm;have m1:=m.alloc (At c (V ib c.i.length ic));have es:=m1.e14;generalize cq:w.heap.size=xb at*;generalize hn:c.i.length=n at*;have HN:=A5 hn;clear hn;have cr:(n:Int)<=2000:=A0;go_enter func101,ntmps101;go_wp2_with (go_at_call 106;refine(Nz c (V ib n ic) HF.out m1 HD.out).mono ?_;rintro e w' ⟨H',K,vC,vT,vO,vK,rfl,mN,ba,hC,hT,hO,hK,m2⟩;have ai:=Jb c;rw[HN.out] at ai;have ag:=ba.len;rw[HN.out] at ag;obtain⟨bC,cC,eC⟩:=hC.shape;obtain⟨bT,cT,eT⟩:=hT.shape;obtain⟨bO,cO,eO⟩:=hO.shape;obtain⟨bK,cK,eK⟩:=hK.shape;rw[ai.e] at eC;rw[ai.t] at eT;rw[ai.other] at eO;rw[ag.len] at eK;subst eC;subst eT;subst eO;subst eK);have m3:=m2.alloc (Fv (V bC n cC) (V bT n cT) (V bO n cO) (V bK n cK));refine EA (F:=λw'=>Code.wp _ _ _ _ w') m3 ?_;generalize bz:w'.heap.size=fb at*;clear es m1 m2 m3 bz;intro wr mr;have bh:=A5 ai;have HKN:=A5 ba;have bu:=A5 ag;have HLE:=A5 mN;have HC:=A5 hC;have HT:=A5 hT;have HO:=A5 hO;have HK:=A5 hK;clear ai ba ag mN hC hT hO hK;obtain⟨rg,bm⟩:∃rg:Nat,c.g=(rg:Int):=⟨c.g.toNat,by have:=HF.out.par;omega⟩;have bx:rg<=250:=(by have:=HF.out.par;omega);have HRG:=A5 bm;clear bm;have hz:c.i.zipIdx.length=n:=(by rw[List.length_zipIdx,HN.out]);have HZ:=A5 hz;clear hz;(go_loopw [4] (λv4 wr=>∃k:Nat,k<=n/\v4= Y I k/\Hid ((c.i.zipIdx.take k).all (λp=> !Dp c (AB c) K p.2 p.1)=B)/\AC w0 H' ((fb,Fv (V bC n cC) (V bT n cT) (V bO n cO) (V bK n cK))::(xb,At c (V ib n ic))::L) wr) (λv4 _=>n-(intOf v4).toNat));case atStart=>exact⟨0,un _,Z,A5 Z,mr⟩
 case round=>
  clear mr;obtain⟨k,hk,rfl,HALL,mr⟩:=hrel;have es:=mr.e15;by_cases lg:k<n
  .have lJ:(k:Int)<n:=A0;have ag:k<c.i.length:=(by rw[HN.out];exact lg);have bp:k<c.i.zipIdx.length:=(by rw[HZ.out];exact lg);obtain⟨i,hi⟩:∃i,c.i[k]?=O i:=⟨_,ui ag⟩;have bk:c.i.zipIdx[k]=(i,k):=(by rw[oK _ _ ag];congr 1;rw[ui ag] at hi;exact Option.some.inj hi);have bt:=A5 bk;have HI:=A5 hi;obtain⟨ck,bc⟩:∃x,(AB c).e[k]?=O x:=⟨_,ui (by rw[bh.out.e];exact lg)⟩;obtain⟨ok,az⟩:∃x,(AB c).other[k]?=O x:=⟨_,ui (by rw[bh.out.other];exact lg)⟩;obtain⟨tr,aw⟩:∃x,(AB c).t[k]?=O x:=⟨_,ui (by rw[bh.out.t];exact lg)⟩;obtain⟨rk,aq⟩:∃x,K[k]?=O x:=⟨_,ui (by rw[bu.out.len];exact lg)⟩;have ah:rk.length=rg:=(by have:=bu.out.row _ (vE aq);rw[HRG.out,vN] at this;exact this);obtain⟨c1,c2,rfl,dC⟩:=HC.out.getB bc;obtain⟨o1,o2,rfl,dO⟩:=HO.out.getB az;obtain⟨t1,t2,tv,rfl,dT,bq⟩:=HT.out.getSl aw;obtain⟨k1,k2,kv,rfl,dK,br⟩:=HK.out.getSl aq;obtain⟨cm,cj,rfl⟩:=bq.shape;have HKV:=A5 br;obtain⟨cp,cn,rfl⟩:=br.shape;rw[ah] at dK HKV
   have HBAD:=A5 (show Dp c (AB c) K k i=(ck&&(ok||(T (i.op=68)&&T (tr.length=0))||(T (i.op=69)&&T (0<tr.length))|| !((CM i).all λr=>rk.getD r.toNat G))) by
    unfold Dp
    simp only[uv,bc,az,aw,aq,Option.getD_some])
   have HRK:=A5 ah;have ch:=A5 dC;have cg:=A5 dO;have cd:=A5 dT;have HDK:=A5 dK;clear bc az aw aq bq dC dO dT dK ah bk hi;have dC:=ch.out.cell mr
   have HNXT:=A5 (fun(hb:Dp c (AB c) K k i=G)=>show(c.i.zipIdx.take (k+1)).all (λp=> !Dp c (AB c) K p.2 p.1)=B by
    refine Ea bp HALL.out ?_
    rw[bt.out];exact hb)
   have HGOT:=A5 (fun(hb:Dp c (AB c) K k i=B)=>show Qz c K=(k:Int) by
    unfold Qz;refine KF (p:=fun(p:Bu×Nat)=>Dp c (AB c) K p.2 p.1) k bp ?_ HALL.out
    rw[bt.out];exact hb)
   cases ck with
   |false=>have hb:=A5 (show Dp c (AB c) K k i=G by rw[HBAD.out];rfl);go_wp2_with fail;go_roundw;(case rel=>exact⟨k+1,by omega,by go_num,A5 (HNXT.out hb.out),mr⟩);case measure=>exact BW
   |true=>
    obtain⟨lu,off,va,vg,vw,rfl,d0,d1,d2,d3,d4,d5,d6,d7,bb⟩:=HD.out.getIns HI.out;have bg:=A5 bb;obtain⟨b5,c5,b6,c6,b7,c7,rfl,rfl,rfl,l5,l6,l7⟩:=bb.shapes;clear bb;have d0:=(d0.mono HLE.out).cell mr;have d1:=(d1.mono HLE.out).cell mr;have d2:=(d2.mono HLE.out).cell mr;have d3:=(d3.mono HLE.out).cell mr;have d4:=(d4.mono HLE.out).cell mr;have d5:=(d5.mono HLE.out).cell mr;have d6:=(d6.mono HLE.out).cell mr;have d7:=(d7.mono HLE.out).cell mr;have mi:=mr.alloc (SB i b5 c5 b6 c6 b7 c7);have dO:=cg.out.cell mi;have dT:=cd.out.cell mi;have ar:=mi.eqs;simp only[BS,SB,S8,EC,Fv,At] at ar
    cases ok with
    |true=>have hb:=A5 (show Dp c (AB c) K k i=B by rw[HBAD.out];rfl);go_wp2_with fail;exact X3
    |false=>
     by_cases ak:i.op=68
     .have bw:((i.op:Int)==68)=true:=(by rw[ak];rfl);have bj:((i.op:Int)==69)=false:=bF A0;have av:=A5 ak;clear ak;by_cases an:tr.length=0
      .have ay:((tr.length:Int)==0)=true:=(by rw[an];rfl);have bf:=A5 an;clear an;have hb:=A5 (show Dp c (AB c) K k i=B by rw[HBAD.out];rw[av.out,bf.out];rfl);go_wp2_with fail;exact X3
      .have ay:((tr.length:Int)==0)=false:=bF A0;have bf:=A5 an;clear an;have aa:=(HRD.out i (vE HI.out)).1;go_wp2_with (go_at_call 140;refine(Le i (V b5 i.args.length c5) (V b6 i.go.length c6) (V b7 i.w.length c7) aa (HF.out.w k i HI.out) mi (bg.out.mono HLE.out)).mono ?_;rintro e w' ⟨v,L1,rfl,ad,m7⟩;obtain⟨H2,m8,ae,hsl⟩:=ad.freeze m7;have HSL:=A5 hsl;have HLE2:=A5 ae;obtain⟨pb,pc,rfl,bo,af,-⟩:=hsl;clear m7 ad ae es ar mi d0 d1 d2 d3 d4 d5 d6 d7 dO dT dC aa);have af:=A9 af;have HZS:=A5 (HRD.out i (vE HI.out)).2;have HB2:=A5 (show Dp c (AB c) K k i= !((CM i).all λr=>rk.getD r.toNat G) by rw[HBAD.out];rw[av.out,f_ bf.out];rfl);exact pI
     .have bw:((i.op:Int)==68)=false:=bF A0;have av:=A5 ak;clear ak;by_cases aj:i.op=69
      .have bj:((i.op:Int)==69)=true:=(by rw[aj];rfl);have au:=A5 aj;clear aj;by_cases ao:0<tr.length
       .have ax:(0:Int)<tr.length:=A0;have bd:=A5 ao;clear ao;have hb:=A5 (show Dp c (AB c) K k i=B by rw[HBAD.out];rw[au.out,t_ bd.out];simp);go_wp2_with fail;exact X3
       .have ax:¬(0:Int)<tr.length:=A0;have bd:=A5 ao;clear ao;have aa:=(HRD.out i (vE HI.out)).1;go_wp2_with (go_at_call 140;refine(Le i (V b5 i.args.length c5) (V b6 i.go.length c6) (V b7 i.w.length c7) aa (HF.out.w k i HI.out) mi (bg.out.mono HLE.out)).mono ?_;rintro e w' ⟨v,L1,rfl,ad,m7⟩;obtain⟨H2,m8,ae,hsl⟩:=ad.freeze m7;have HSL:=A5 hsl;have HLE2:=A5 ae;obtain⟨pb,pc,rfl,bo,af,-⟩:=hsl;clear m7 ad ae es ar mi d0 d1 d2 d3 d4 d5 d6 d7 dO dT dC aa);have af:=A9 af;have HZS:=A5 (HRD.out i (vE HI.out)).2;have HB2:=A5 (show Dp c (AB c) K k i= !((CM i).all λr=>rk.getD r.toNat G) by rw[HBAD.out];rw[au.out,f_ bd.out];simp);exact pI
      .have bj:((i.op:Int)==69)=false:=bF A0;have au:=A5 aj;clear aj;have aa:=(HRD.out i (vE HI.out)).1;go_wp2_with (go_at_call 140;refine(Le i (V b5 i.args.length c5) (V b6 i.go.length c6) (V b7 i.w.length c7) aa (HF.out.w k i HI.out) mi (bg.out.mono HLE.out)).mono ?_;rintro e w' ⟨v,L1,rfl,ad,m7⟩;obtain⟨H2,m8,ae,hsl⟩:=ad.freeze m7;have HSL:=A5 hsl;have HLE2:=A5 ae;obtain⟨pb,pc,rfl,bo,af,-⟩:=hsl;clear m7 ad ae es ar mi d0 d1 d2 d3 d4 d5 d6 d7 dO dT dC aa);have af:=A9 af;have HZS:=A5 (HRD.out i (vE HI.out)).2;have HB2:=A5 (show Dp c (AB c) K k i= !((CM i).all λr=>rk.getD r.toNat G) by rw[HBAD.out];rw[f_ av.out,f_ au.out];simp);exact pI
  .have hge:¬(k:Int)<n:=A0
   have ca:=A5 (show Qz c K= -1 by
    unfold Qz
    exact EQ (p:=fun(p:Bu×Nat)=>Dp c (AB c) K p.2 p.1) k (by rw[HZ.out];omega) HALL.out)
   go_wp2_with fail;go_ret;exact⟨H',K,HKN.out,HLE.out,CH ca.out.symm,mr.drop.drop⟩
theorem BT.snoc {v:V_} {zs:List ByteArray} {x:ByteArray} (h:AP w0 H L 9 1 v (zs.length+1) (zs.map U++[U x]) w) (hz:∀z∈zs,z.size<=maxLen) (hx:x.size<=maxLen):∃L1,BT v (zs++[x]) L1/\AC w0 H (L1++L) w:=by exact iO
theorem BT.blank {w0 w:W_} {H:Hp} {L:List (Nat×Obj)} {b:Nat} (m:AC w0 H ((b,C #[] 9)::L) w):BT (V (O ⟨b,0,X⟩) 0 0) [] [(b,C #[] 9)]:=
 ⟨⟨by simp,.inr ⟨b,0,#[],Z,vD _,by decide,Z,Z,Z⟩⟩,λ_ h=>CZ⟩
theorem aJ (x:AI) (vc vk vr vd:V_) (g1:x.k.length<=40) (g2:x.c.length<=40) (g3:x.r.length<=40) (g4:x.d.length<=80) (m:AC w0 H L w) (hx:Bz H x vc vk vr vd):K_ uh 100 #[.agg #[vc,vk,vr,vd]] w (Bv w0 H L (N (DL x))):=by
 have HX:=A5 hx;obtain⟨b1,c1,b2,c2,b3,c3,b4,c4,rfl,rfl,rfl,rfl,l1,l2,l3,l4⟩:=hx.shapes;clear hx;have m1:=m.alloc (IB x b1 c1 b2 c2 b3 c3 b4 c4);have m4:=((m1.alloc (C #[] 9)).alloc (C #[] 9)).alloc (C #[] 9);simp only[vP] at m4;generalize dv:w.heap.size=xb at*;generalize aq:DL x=res;have HRES:=A5 aq;clear aq;go_enter func100,ntmps100;go_wp2_with fail;have m5:=(m4.perm Ah:AC _ _ ([(xb+1,C #[] 9)]++((xb,IB x b1 c1 b2 c2 b3 c3 b4 c4)::(xb+1+1,C #[] 9)::(xb+1+1+1,C #[] 9)::L)) _);have o3:=A5 (BT.blank (m4.drop.drop));clear m4 m1;(go_loopw [3,6] (λv3 i8 wr=>∃(k:Nat) (zs:List ByteArray) (L3:List (Nat×Obj)),k<=x.k.length/\i8= Y I k/\Hid (zs=(x.k.take k).map AK.name)/\Hid ((x.k.take k).all Fj=B)/\Hid (BT v3 zs L3)/\AC w0 H (L3++((xb,IB x b1 c1 b2 c2 b3 c3 b4 c4)::(xb+1+1,C #[] 9)::(xb+1+1+1,C #[] 9)::L)) wr) (λ_ i8 _=>x.k.length-(intOf i8).toNat));case atStart=>exact⟨0,[],_,un _,Z,A5 (by simp),A5 (by simp),o3,m5⟩
 case round=>
  clear m5 o3;obtain⟨k,zs,L3,hk,rfl,HZ,HA,HO,m5⟩:=hrel;obtain⟨pb,pc,rfl,bw,bu⟩:=HO.out.shape;have mk:=(m5.perm Ah:AC _ _ ((xb,IB x b1 c1 b2 c2 b3 c3 b4 c4)::(L3++((xb+1+1,C #[] 9)::(xb+1+1+1,C #[] 9)::L))) _);clear m5;have es:=mk.e1;by_cases lg:k<x.k.length
  .have lJ:(k:Int)<x.k.length:=A0;obtain⟨lu,off,sv,rfl,d0,d1,hs,lC⟩:=HX.out.c.getClassQ (ui lg);have HS:=A5 hs;obtain⟨sb,sc,rfl,-,bz,-⟩:=hs;have bz:=A9 bz;have htk:x.k.take (k+1)=x.k.take k++[x.k[k]]:=vS lg;have HTK:=A5 htk;clear htk;have ai:=A5 (show zs.length<=40 by rw[HZ.out,vM,wG];omega);have D1:=A5 d1;clear d1;have d0:=d0.cell mk;have d1:=D1.out.cell mk;have av:Fj x.k[k]=(T (x.k[k].f.length<=6)&&B9 x.k[k].f):=Z;have ak:=A5 av;clear av;have mA:=mk.alloc (C #[U x.k[k].name] 9);have mB:=mA.perm (Ah:(((wr.heap.size,C #[U x.k[k].name] 9)::(xb,IB x (O ⟨lu,off,X⟩) c1 b2 c2 b3 c3 b4 c4)::(L3++((xb+1+1,C #[] 9)::(xb+1+1+1,C #[] 9)::L))).Perm (L3++((wr.heap.size,C #[U x.k[k].name] 9)::(xb,IB x (O ⟨lu,off,X⟩) c1 b2 c2 b3 c3 b4 c4)::(xb+1+1,C #[] 9)::(xb+1+1+1,C #[] 9)::L))));go_wp2_with (at_builtin;refine AG (w0:=w0) (H:=H) (L:=(wr.heap.size,C #[U x.k[k].name] 9)::(xb,IB x (O ⟨lu,off,X⟩) c1 b2 c2 b3 c3 b4 c4)::(xb+1+1,C #[] 9)::(xb+1+1+1,C #[] 9)::L) Z _ _ 24 Z 9 1 16 (U uy) underlying24 A7 Z AD (.slice pb zs.length pc) zs.length (zs.map U) (HO.out.acc.join mB) Z _ 1 [U x.k[k].name] (Fr.loc (e:=9) (cs:=[U x.k[k].name]) mB (by simp)) Z Z Fu (by have:=ai.out;omega) eA ?_);intro v' w6 kF;obtain⟨L5,h5,m5⟩:=BT.snoc kF.drop HO.out.fit lC;clear kF mA mB;obtain⟨bh,bg,rfl,bt,br⟩:=h5.shape;have H5:=A5 h5;have mk5:=(m5.perm Ah:AC _ _ ((xb,IB x (O ⟨lu,off,X⟩) c1 b2 c2 b3 c3 b4 c4)::(L5++((xb+1+1,C #[] 9)::(xb+1+1+1,C #[] 9)::L))) _);clear h5 mk es d0 d1;generalize hzz:zs++[x.k[k].name]=z5 at*;have ax:=A5 hzz;clear hzz;have es:=mk5.e1;have d1:=D1.out.cell mk5;by_cases q6:x.k[k].f.length<=6
   .have cw:¬(x.k[k].f.length:Int)>6:=A0;go_wp2_with fail;refine(Dt _ _ mk5 HS.out).mono ?_;rintro e w7 ⟨rfl,m7⟩;cases hd:B9 x.k[k].f
    .have hcf:Fj x.k[k]=false:=(by rw[ak.out,hd,wL]);have HCF:=A5 hcf;clear hcf;go_wp2_with fail;go_ret;have hcf:=HCF.out;exact⟨A8 lH,(AC.dropL _ (m7.drop)).drop.drop⟩
    .have hct:Fj x.k[k]=true:=(by rw[ak.out,hd,t_ q6];rfl);have ba:=A5 hct;clear hct;go_wp2_with fail;go_roundw;(case rel=>exact⟨k+1,z5,L5,by omega,by go_num,A5 ge,A5 em,H5,m7.perm Ah⟩);case measure=>exact BW
   .have cw:(x.k[k].f.length:Int)>6:=A0;have hcf:Fj x.k[k]=false:=(by rw[ak.out,f_ q6,ve]);have HCF:=A5 hcf;clear hcf;go_wp2_with fail;go_ret;have hcf:=HCF.out;exact⟨A8 lH,(AC.dropL _ (mk5.drop)).drop.drop⟩
  .have hge:¬(k:Int)<x.k.length:=A0;have bq:zs=x.k.map AK.name:=eH;have ch:x.k.all Fj=true:=nS;have cn:=A5 bq;have HA3:=A5 ch;clear bq ch HZ HA;go_wp2_with fail;clear es;obtain⟨pb,pc,e3,-,-⟩:=HO.out.shape;have m5:=(mk.perm Ah:AC _ _ ([(xb+1+1,C #[] 9)]++((xb,IB x b1 c1 b2 c2 b3 c3 b4 c4)::(L3++((xb+1+1+1,C #[] 9)::L)))) _);have o4:=A5 (BT.blank (AC.dropL _ mk.drop));clear mk;(go_loopw [4,7] (λv4 i8 wr=>∃(k:Nat) (ad:List ByteArray) (L4:List (Nat×Obj)),k<=x.c.length/\i8= Y I k/\Hid (ad=(x.c.take k).map Aj.name)/\Hid ((x.c.take k).all DX=B)/\Hid (BT v4 ad L4)/\AC w0 H (L4++((xb,IB x b1 c1 b2 c2 b3 c3 b4 c4)::(L3++((xb+1+1+1,C #[] 9)::L)))) wr) (λ_ i8 _=>x.c.length-(intOf i8).toNat));case atStart=>exact⟨0,[],_,un _,Z,A5 (by simp),A5 (by simp),o4,m5⟩
   case round=>
    clear m5 o4;clear hk lg hge;obtain⟨k,ad,L4,hk,rfl,HZ,HA,az,m5⟩:=hrel;obtain⟨cy,cx,rfl,bw,bu⟩:=az.out.shape;have mk:=(m5.perm Ah:AC _ _ ((xb,IB x b1 c1 b2 c2 b3 c3 b4 c4)::(L4++(L3++((xb+1+1+1,C #[] 9)::L)))) _);clear m5;have es:=mk.e1;by_cases lg:k<x.c.length
    .have lJ:(k:Int)<x.c.length:=A0;obtain⟨lu,off,rfl,d0,d1,d2,lz⟩:=HX.out.k.getCase (ui lg);have htk:x.c.take (k+1)=x.c.take k++[x.c[k]]:=vS lg;have HTK:=A5 htk;clear htk;have ai:=A5 (show ad.length<=40 by rw[HZ.out,vM,wG];omega);have D0:=A5 d0;have D2:=A5 d2;clear d0 d2;have d1:=d1.cell mk;have av:DX x.c[k]=(B3 x.c[k].kind&&T (0<=x.c[k].parts/\x.c[k].parts<=4)):=Z;have ak:=A5 av;clear av;have mA:=mk.alloc (C #[U x.c[k].name] 9);have mB:=mA.perm (Ah:(((wr.heap.size,C #[U x.c[k].name] 9)::(xb,IB x b1 c1 (O ⟨lu,off,X⟩) c2 b3 c3 b4 c4)::(L4++(L3++((xb+1+1+1,C #[] 9)::L)))).Perm (L4++((wr.heap.size,C #[U x.c[k].name] 9)::(xb,IB x b1 c1 (O ⟨lu,off,X⟩) c2 b3 c3 b4 c4)::L3++((xb+1+1+1,C #[] 9)::L)))));go_wp2_with (at_builtin;refine AG (w0:=w0) (H:=H) (L:=(wr.heap.size,C #[U x.c[k].name] 9)::(xb,IB x b1 c1 (O ⟨lu,off,X⟩) c2 b3 c3 b4 c4)::L3++((xb+1+1+1,C #[] 9)::L)) Z _ _ 24 Z 9 1 16 (U uy) underlying24 A7 Z AD (.slice cy ad.length cx) ad.length (ad.map U) (az.out.acc.join mB) Z _ 1 [U x.c[k].name] (Fr.loc (e:=9) (cs:=[U x.c[k].name]) mB (by simp)) Z Z Fu (by have:=ai.out;omega) eA ?_);intro v' w6 kF;obtain⟨L5,h5,m5⟩:=BT.snoc kF.drop az.out.fit lz.name;clear kF mA mB;obtain⟨bh,bg,rfl,bt,br⟩:=h5.shape;have H5:=A5 h5;have mk5:=(m5.perm Ah:AC _ _ ((xb,IB x b1 c1 (O ⟨lu,off,X⟩) c2 b3 c3 b4 c4)::(L5++(L3++((xb+1+1+1,C #[] 9)::L)))) _);clear h5 mk es d1;generalize hzz:ad++[x.c[k].name]=z5 at*;have ax:=A5 hzz;clear hzz;have es:=mk5.e1;have d0:=D0.out.cell mk5;have d2:=D2.out.cell mk5;cases hnm:B3 x.c[k].kind
     .have hcf:DX x.c[k]=false:=(by rw[ak.out,hnm,ve]);have HCF:=A5 hcf;clear hcf;go_wp2_with (go_at_call 136;refine BQ (Bp _ lz.kind _) ?_;rw[hnm]);exact cQ
     .cases bc:T (0<=x.c[k].parts/\x.c[k].parts<=4)
      .have hcf:DX x.c[k]=false:=(by rw[ak.out,bc,wL]);have HCF:=A5 hcf;clear hcf;go_wp2_with (first|(go_at_call 136;refine BQ (Bp _ lz.kind _) ?_;rw[hnm])|(go_at_call 137;refine BQ (AH _ _ _ _) ?_;rw[bc]));exact cQ
      .have hct:DX x.c[k]=true:=(by rw[ak.out,hnm,bc];rfl);have ba:=A5 hct;clear hct;go_wp2_with (first|(go_at_call 136;refine BQ (Bp _ lz.kind _) ?_;rw[hnm])|(go_at_call 137;refine BQ (AH _ _ _ _) ?_;rw[bc]));go_roundw;(case rel=>exact⟨k+1,z5,L5,by omega,by go_num,A5 ge,A5 em,H5,mk5.perm Ah⟩);case measure=>exact BW
    .have hge:¬(k:Int)<x.c.length:=A0;have bp:ad=x.c.map Aj.name:=eH;have cg:x.c.all DX=true:=nS;have cm:=A5 bp;have cq:=A5 cg;clear bp cg HZ HA;go_wp2_with fail;clear es;have m5:=(mk.perm Ah:AC _ _ ([(xb+1+1+1,C #[] 9)]++((xb,IB x b1 c1 b2 c2 b3 c3 b4 c4)::(L4++(L3++L)))) _);have o5:=A5 (BT.blank ((mk.drop.perm Ah:AC _ _ ((xb+1+1+1,C #[] 9)::(L4++(L3++L))) _)));clear mk;(go_loopw [5,8] (λv5 i8 wr=>∃(k:Nat) (aa:List ByteArray) (L5:List (Nat×Obj)),k<=x.d.length/\i8= Y I k/\Hid (aa=(x.d.take k).map AF.name)/\Hid (BT v5 aa L5)/\AC w0 H (L5++((xb,IB x b1 c1 b2 c2 b3 c3 b4 c4)::(L4++(L3++L)))) wr) (λ_ i8 _=>x.d.length-(intOf i8).toNat));case atStart=>exact⟨0,[],_,un _,Z,A5 (by simp),o5,m5⟩
     case round=>
      clear m5 o5;clear hk lg hge;obtain⟨k,aa,L5,hk,rfl,HZ,ay,m5⟩:=hrel;obtain⟨bh,bg,rfl,bw,bu⟩:=ay.out.shape;have mk:=(m5.perm Ah:AC _ _ ((xb,IB x b1 c1 b2 c2 b3 c3 b4 c4)::(L5++(L4++(L3++L)))) _);clear m5;have es:=mk.e1;by_cases lg:k<x.d.length
      .have lJ:(k:Int)<x.d.length:=A0;obtain⟨lu,off,sv,rfl,d0,-,-,-,-,lz⟩:=HX.out.d.getCode (ui lg);have htk:x.d.take (k+1)=x.d.take k++[x.d[k]]:=vS lg;have HTK:=A5 htk;clear htk;have ai:=A5 (show aa.length<=80 by rw[HZ.out,vM,wG];omega);have d0:=d0.cell mk;have mA:=mk.alloc (C #[U x.d[k].name] 9);have mB:=mA.perm (Ah:(((wr.heap.size,C #[U x.d[k].name] 9)::(xb,IB x b1 c1 b2 c2 b3 c3 (O ⟨lu,off,X⟩) c4)::(L5++(L4++(L3++L)))).Perm (L5++((wr.heap.size,C #[U x.d[k].name] 9)::(xb,IB x b1 c1 b2 c2 b3 c3 (O ⟨lu,off,X⟩) c4)::L4++(L3++L)))));go_wp2_with (at_builtin;refine AG (w0:=w0) (H:=H) (L:=(wr.heap.size,C #[U x.d[k].name] 9)::(xb,IB x b1 c1 b2 c2 b3 c3 (O ⟨lu,off,X⟩) c4)::L4++(L3++L)) Z _ _ 24 Z 9 1 16 (U uy) underlying24 A7 Z AD (.slice bh aa.length bg) aa.length (aa.map U) (ay.out.acc.join mB) Z _ 1 [U x.d[k].name] (Fr.loc (e:=9) (cs:=[U x.d[k].name]) mB (by simp)) Z Z Fu (by have:=ai.out;omega) eA ?_);intro v' w6 kF;obtain⟨L6,h6,m6⟩:=BT.snoc kF.drop ay.out.fit lz.name;clear kF mA mB;obtain⟨dt,dr,rfl,bt,br⟩:=h6.shape;have H6:=A5 h6;clear h6 mk es d0;generalize hzz:aa++[x.d[k].name]=z6 at*;have ax:=A5 hzz;clear hzz;go_wp2_with fail;go_roundw;(case rel=>exact⟨k+1,z6,L6,by omega,by go_num,A5 ge,H6,m6⟩);case measure=>exact BW
      .have hge:¬(k:Int)<x.d.length:=A0;have bo:aa=x.d.map AF.name:=eH;have ck:=A5 bo;clear bo HZ;have ag:res=(B9 (x.k.map AK.name)&&(B9 (x.c.map Aj.name)&&(B9 x.r&&(B9 (x.d.map AF.name)&&x.d.all (DM x))))):=(by rw[<-HRES.out];unfold DL;rw[HA3.out,cq.out,vL,vL]);have ao:=A5 ag;clear ag HRES HA3 cq;obtain⟨H5,n5,au,s5⟩:=ay.out.freeze ((mk.perm Ah:AC _ _ (L5++((xb,IB x b1 c1 b2 c2 b3 c3 b4 c4)::(L4++(L3++L)))) _));obtain⟨H4,n4,aj,s4⟩:=az.out.freeze ((n5.perm Ah:AC _ _ (L4++((xb,IB x b1 c1 b2 c2 b3 c3 b4 c4)::(L3++L))) _));obtain⟨H3,n3,ae,s3⟩:=HO.out.freeze ((n4.perm Ah:AC _ _ (L3++((xb,IB x b1 c1 b2 c2 b3 c3 b4 c4)::L)) _));have s5:=(s5.mono aj).mono ae;have s4:=s4.mono ae;have mN:=(au.trans aj).trans ae;have bk:=A5 (HX.out.mono mN);have e5:=ck.out;have e4:=cm.out;have de:=cn.out;subst e5 e4 de;rw[vM] at s5 s4 s3;have S5:=A5 s5;have S4:=A5 s4;have S3:=A5 s3;clear s5 s4 s3 n5 n4 mk HO az ay cn cm ck au aj ae;(try simp only[vM]);have es:=n3.e1;go_wp2_with fail;refine(Dt _ _ n3 S3.out).mono ?_;rintro e w7 ⟨rfl,m7⟩;clear es;have es:=m7.e1;cases q3:B9 (x.k.map AK.name)
       .go_wp2_with fail;go_ret;exact⟨A8 (by rw[ao.out,q3];rfl),(m7.drop).weaken mN⟩
       go_wp2_with fail;refine(Dt _ _ m7 S4.out).mono ?_;rintro e w8 ⟨rfl,m8⟩;clear es;have es:=m8.e1;cases q4:B9 (x.c.map Aj.name)
       .go_wp2_with fail;go_ret;exact⟨A8 (by rw[ao.out,q3,q4];rfl),(m8.drop).weaken mN⟩
       go_wp2_with fail;refine(Dt _ _ m8 bk.out.r).mono ?_;rintro e w9 ⟨rfl,m9⟩;clear es;have es:=m9.e1;cases qr:B9 x.r
       .go_wp2_with fail;go_ret;exact⟨A8 (by rw[ao.out,q3,q4,qr];rfl),(m9.drop).weaken mN⟩
       go_wp2_with fail;refine(Dt _ _ m9 S5.out).mono ?_;rintro e dj ⟨rfl,m10⟩;clear es;have es:=m10.e1;cases q5:B9 (x.d.map AF.name)
       .go_wp2_with fail;go_ret;exact⟨A8 (by rw[ao.out,q3,q4,qr,q5];rfl),(m10.drop).weaken mN⟩
       have HR:=A5 (ao.out.trans (by rw[q3,q4,qr,q5];rfl:_=x.d.all (DM x)));clear ao m7 m8 m9 n3 S3 S4 S5;go_wp2_with fail;clear es;clear hk lg hge;(go_loopw [9] (λi8 wr=>∃k:Nat,k<=x.d.length/\i8= Y I k/\Hid ((x.d.take k).all (DM x)=B)/\AC w0 H3 ((xb,IB x b1 c1 b2 c2 b3 c3 b4 c4)::L) wr) (λi8 _=>x.d.length-(intOf i8).toNat));case atStart=>exact⟨0,un _,Z,A5 (by simp),m10⟩
       case round=>
        clear m10;obtain⟨k,hk,rfl,HA,mk⟩:=hrel;have es:=mk.e1;by_cases lg:k<x.d.length
        .have lJ:(k:Int)<x.d.length:=A0;obtain⟨lu,off,sv,rfl,d0,d1,d2,d3,hs,lz⟩:=bk.out.d.getCode (ui lg);have bm:=A5 hs;obtain⟨sb,sc,rfl,dw,bx,cz⟩:=hs;clear cz;have bx:=A9 bx;have htk:x.d.take (k+1)=x.d.take k++[x.d[k]]:=vS lg;have HTK:=A5 htk;clear htk;(have aw:DM x x.d[k]=G->x.d.all (DM x)=false:=λh=>B4 _ x.d k lg h);have bf:=A5 aw;clear aw;generalize x.d[k]=c at*;have d0:=d0.cell mk;have d1:=d1.cell mk;have d2:=d2.cell mk;have d3:=d3.cell mk;have ar:=lz.params;have af:=lz.g;have dx:=A5 ar;have HRG:=A5 af;clear ar af;have mB:=mk.alloc (At c (V sb c.i.length sc));have ah:DM x c=((T (0<=c.params/\c.params<=c.g)&&(T (c.i.length≠0)&&J4 (Fg c)))&&c.i.all (Fh x c)):=Z;have bd:=A5 ah;clear ah;cases hP:T (0<=c.params/\c.params<=c.g)
         .have HCF:=A5 (show DM x c=G by rw[bd.out,hP];rfl);go_wp2_with (go_at_call 137;refine BQ (AH _ _ _ _) ?_;rw[hP]);go_ret;exact⟨A8 am,(mk.alloc _).drop.drop.weaken mN⟩
         have cj:=o_ hP;by_cases hn:c.i.length=0
         .have HCF:=A5 (show DM x c=G by rw[bd.out,hP,f_ (λh=>h hn)];rfl);have bj:(c.i.length:Int)=0:=A0;go_wp2_with (go_at_call 137;refine BQ (AH _ _ _ _) ?_;rw[hP])
          all_goals first
           |(go_ret;exact⟨A8 am,(mk.alloc _).drop.drop.weaken mN⟩)
           |(exfalso;omega)
         have bj:¬(c.i.length:Int)=0:=A0;have hn0:((c.i.length:Int)==0)=false:=bF bj;have hn1:c.i.length-1<c.i.length:=A0;obtain⟨qb,qo,va,vg,vw,rfl,p0,-,-,-,-,-,-,-,an⟩:=bm.out.getIns (ui hn1);have cd:Fg c=c.i[c.i.length-1].op:=(by unfold Fg;rw[ui hn1]);have HLO:=A5 cd;have dg:=A5 an.1.op;clear cd an;generalize c.i[c.i.length-1].op=bn at*;have p0:=p0.cell mB;go_wp2_with (go_at_call 137;refine BQ (AH _ _ _ _) ?_;rw[hP]);refine(aH bn dg.out mB).mono ?_;rintro e w6 ⟨rfl,m6⟩;clear mB p0 d0 d1 d2 d3 es mk;generalize du:wr.heap.size=xk at*;have es:=m6.e11;cases he:J4 bn
         .have HCF:=A5 (show DM x c=G by rw[bd.out,hP,HLO.out,he,t_ hn];rfl);go_wp2_with fail;go_ret;exact⟨A8 am,m6.drop.drop.weaken mN⟩
         have cp:=A5 (show DM x c=c.i.all (Fh x c) by rw[bd.out,hP,HLO.out,he,t_ hn];rfl);go_wp2_with fail;have df:=A5 cj;clear es hP he cj hn bj hn1 hn0;(go_loopw [11] (λi8 cu=>∃j:Nat,j<=c.i.length/\i8= Y I j/\Hid ((c.i.take j).all (Fh x c)=B)/\AC w0 H3 ((xk,At c (V (O ⟨qb,qo,X⟩) c.i.length sc))::(xb,IB x b1 c1 b2 c2 b3 c3 (O ⟨lu,off,X⟩) c4)::L) cu) (λi8 _=>c.i.length-(intOf i8).toNat));case atStart=>exact⟨0,un _,Z,A5 (by simp),m6⟩
         case round=>
          clear m6;obtain⟨j,hj,rfl,cr,m6⟩:=hrel;have es:=m6.e11;by_cases hlt2:j<c.i.length
          .have ca:(j:Int)<c.i.length:=A0;obtain⟨dn,dm,va,vg,vw,e9,p0,p1,p2,p3,p4,p5,p6,p7,an⟩:=bm.out.getIns (ui hlt2);cases e9;have dh:=A5 an;obtain⟨s1,t1,s2,t2,s3,t3,rfl,rfl,rfl,-,-,-⟩:=an.shapes;clear an;have P0:=A5 p0;have P1:=A5 p1;have P2:=A5 p2;have P3:=A5 p3;have P4:=A5 p4;have P5:=A5 p5;have P6:=A5 p6;have P7:=A5 p7;clear p0 p1 p2 p3 p4 p5 p6 p7;go_wp2_with fail;clear es;refine A6.start (λw'=>AC w0 H3 ((xk,At c (V (O ⟨qb,qo,X⟩) c.i.length sc))::(xb,IB x b1 c1 b2 c2 b3 c3 (O ⟨lu,off,X⟩) c4)::L) w') 9 A7 ?_;have md:=m6.drew;clear m6;generalize wr.drew=W at*;have HS:AC w0 H3 ((xk,At c (V (O ⟨qb,qo,X⟩) c.i.length sc))::(xb,IB x b1 c1 b2 c2 b3 c3 (O ⟨lu,off,X⟩) c4)::L) W:=md;refine A6.tk (i:=0) Z HS WZ ?_;simp only[AO];refine A6.tk (i:=1) Z HS WZ ?_;simp only[AO];refine A6.tk (i:=2) Z HS WZ ?_;simp only[AO];refine A6.tk (i:=3) Z HS WZ ?_;simp only[AO];refine A6.tk (i:=4) Z HS WZ ?_;simp only[AO];refine A6.tk (i:=5) Z HS WZ ?_;simp only[AO];refine A6.tk (i:=6) Z HS WZ ?_;simp only[AO];(refine A6.call (i:=7) A7 Z A7 λK hK=>?_);go_simp;refine(XT x c c.i[j] _ _ _ _ _ _ _ _ ⟨by have:=df.out;omega,by have:=HRG.out;unfold EH at this;omega⟩ md bk.out bm.out dh.out).mono ?_;rintro e cv ⟨rfl,bb⟩;clear HS md;generalize hb:Fh x c c.i[j]=b;refine hK _ _ (.inr bb) ?_;clear hK K;(try simp only[AO]);have HS:AC w0 H3 ((xk,At c (V (O ⟨qb,qo,X⟩) c.i.length sc))::(xb,IB x b1 c1 b2 c2 b3 c3 (O ⟨lu,off,X⟩) c4)::L) cv:=bb;refine A6.pu (i:=8) Z HS As ?_;simp only[AO];refine A6.done A7 ?_ _;clear HS;cases b
           .have HCF:=A5 (show DM x c=G by rw[cp.out,B4 _ c.i j hlt2 hb]);go_wp2_with fail;go_ret;exact⟨A8 am,bb.drop.drop.weaken mN⟩
           .go_wp2_with fail;go_roundw;(case rel=>exact⟨j+1,by omega,by go_num,A5 (by rw[Bi _ _ _ hlt2,cr.out,hb];rfl),bb⟩);case measure=>exact BW
          .have da:¬(j:Int)<c.i.length:=A0;have hct:DM x c=true:=(by rw[cp.out];have:=cr.out;rw[vQ A0] at this;exact this);have ba:=A5 hct;clear hct;go_wp2_with fail;go_roundw;(case rel=>exact⟨k+1,by omega,by go_num,A5 em,m6.drop⟩);case measure=>exact BW
        .have hge:¬(k:Int)<x.d.length:=A0;go_wp2_with fail;go_ret;refine⟨A8 ?_,mk.drop.weaken mN⟩;rw[HR.out];have:=HA.out;rw[vQ A0] at this;exact this.symm
def JS (c:AF) (b:Int):Prop:=∃K,G8 c K/\b=Qz c K
theorem JS.unique {c:AF} {b b':Int} (h:JS c b) (h':JS c b'):b=b':=by obtain⟨K,h1,rfl⟩:=h;obtain⟨K',h1',rfl⟩:=h';rw[h1.unique h1']
def Gi (x:AI) (e:Int):Prop:=
 (Cg x=G/\e=5)\/(Cg x=B/\DL x=G/\e=4)\/(Cg x=B/\DL x=B/\((e=9/\∃c∈x.d,∃b,JS c b/\0<=b)\/(e=0/\∀c∈x.d,∃b,JS c b/\b<0)))
theorem Gi.unique {x:AI} {e e':Int} (h:Gi x e) (h':Gi x e'):e=e':=by
 rcases h with ⟨h1,rfl⟩|⟨h1,h2,rfl⟩|⟨h1,h2,h3⟩
 .rcases h' with ⟨_,rfl⟩|⟨h1',_⟩|⟨h1',_⟩
  .rfl
  .rw[h1] at h1';cases h1'
  .rw[h1] at h1';cases h1'
 .rcases h' with ⟨h1',_⟩|⟨_,_,rfl⟩|⟨_,h2',_⟩
  .rw[h1] at h1';cases h1'
  .rfl
  .rw[h2] at h2';cases h2'
 .rcases h' with ⟨h1',_⟩|⟨_,h2',_⟩|⟨_,_,h3'⟩
  .rw[h1] at h1';cases h1'
  .rw[h2] at h2';cases h2'
  .rcases h3 with ⟨rfl,c,hc,b,hb,h0⟩|⟨rfl,ly⟩
   .rcases h3' with ⟨rfl,_⟩|⟨rfl,ly⟩
    .rfl
    .obtain⟨b',hb',aa⟩:=ly c hc;have:=hb.unique hb';omega
   .rcases h3' with ⟨rfl,c,hc,b,hb,h0⟩|⟨rfl,_⟩
    .obtain⟨b',hb',aa⟩:=ly c hc;have:=hb.unique hb';omega
    .rfl
def HJ (x:AI):Prop:=∀c∈x.d,∀i∈c.i,i.args.length<=4096
theorem Wm {x:AI} {c:AF} (ht:∀i∈c.i,i.args.length<=4096) (h:DM x c=B):Yu c:=by
 unfold DM at h;simp only[ur] at h;obtain⟨⟨h1,_⟩,h4⟩:=h;have h1:=D7.1 h1;intro i hi;refine⟨ht i hi,λr hr=>?_⟩;have hins:=uu.1 h4 i hi;have hf:=EM A0 hins;unfold CM at hr;rcases wQ.1 hr with hr|hr
 .exact hf.2.2.2.2.2 r hr
 .obtain⟨w,hw,ad⟩:=List.mem_flatMap.1 hr;unfold Fh at hins;simp only[ur] at hins;obtain⟨_,_,_,_,_,_,h6,_⟩:=hins;obtain⟨k,hk,rfl⟩:=wN.1 hw;unfold Eu at h6;have h8:=uu.1 h6 k (vB.2 hk);rw[ui hk] at h8;simp only at h8;unfold Mu at h8;simp only[ur] at h8;obtain⟨_,aa⟩:=h8;split at aa
  .rename_i ae;simp only[ur,decide_eq_true_eq] at aa;have a:=D7.1 aa.1;have b:=D7.1 aa.2.1;rw[n_ A0,p_ ae] at ad;simp only[wJ,vZ,wC,or_false] at ad;rcases ad with rfl|rfl<;>omega
  .split at aa
   .rename_i ae af;simp only[ur,decide_eq_true_eq] at aa;have a:=D7.1 aa.1;rw[n_ A0,n_ ae] at ad;simp only[wA,vG] at ad;subst ad;omega
   .rename_i ae af;simp only[ur,decide_eq_true_eq] at aa;rw[p_ aa.1,n_ ae] at ad;simp at ad
def js (w0:W_) (H:Hp) (L:List (Nat×Obj)) (x:AI) (e:E_) (w':W_):Prop:=∃H' a b er,Bl H H'/\e= .returned (.tuple #[Y I a,Y I b,Y I er])/\Gi x er/\AC w0 H' L w'
theorem XR (x:AI) (vc vk vr vd:V_) (af:HJ x) (m:AC w0 H L w) (hx:Bz H x vc vk vr vd):K_ uh 49 #[.agg #[vc,vk,vr,vd]] w (js w0 H L x):=by
 have HX:=A5 hx;have aw:=A5 af;obtain⟨b1,c1,b2,c2,b3,c3,b4,c4,rfl,rfl,rfl,rfl,l1,l2,l3,l4⟩:=hx.shapes;clear hx af;have m1:=m.alloc (IB x b1 c1 b2 c2 b3 c3 b4 c4);have es:=m1.e1;generalize ba:w.heap.size=xb at*;go_enter func49,ntmps49;go_wp2_with fail;refine(Ub x _ _ _ _ m1 HX.out).mono ?_;rintro e w2 ⟨rfl,m2⟩;clear es m1
 cases ae:Cg x with
 |false=>have aa:=A5 ae;clear ae;go_wp2_with fail;refine b_ (v:= .tuple #[Y I 0,Y I 0,Y I 5]) i7 Z ?_;exact⟨H,0,0,5,Bl.refl _,Z,.inl ⟨aa.out,Z⟩,m2.drop⟩
 |true=>
  have aa:=A5 ae;clear ae;have hl2:=aa.out;unfold Cg at hl2;rw[ur] at hl2;have ai:=o_ hl2.1;have HALL:=A5 hl2.2;clear hl2;have es:=m2.e1;go_wp2_with fail;refine(aJ x _ _ _ _ ai.1 ai.2.1 ai.2.2.1 ai.2.2.2 m2 HX.out).mono ?_;rintro e w3 ⟨rfl,m3⟩;clear es m2
  cases hfm:DL x with
  |false=>have aj:=A5 hfm;clear hfm;go_wp2_with fail;refine b_ (v:= .tuple #[Y I 0,Y I 0,Y I 4]) i7 Z ?_;exact⟨H,0,0,4,Bl.refl _,Z,.inr (.inl ⟨aa.out,aj.out,Z⟩),m3.drop⟩
  |true=>
   have aj:=A5 hfm;have ad:∀c∈x.d,DM x c=true:=(by exact fM);have au:=A5 ad;clear hfm ad;go_wp2_with fail;(go_loopw [5] (λv5 wr=>∃(k:Nat) (H1:Hp),k<=x.d.length/\v5= Y I k/\Hid (∀j c,j<k->x.d[j]?=O c->∃b,JS c b/\b<0)/\Hid (Bl H H1)/\AC w0 H1 ((xb,IB x b1 c1 b2 c2 b3 c3 b4 c4)::L) wr) (λv5 _=>x.d.length-(intOf v5).toNat));case atStart=>exact⟨0,H,un _,Z,A5 (λj c hj=>a_ hj (vx _)),A5 (Bl.refl _),m3⟩
   case round=>
    clear m3;obtain⟨k,H1,hk,rfl,HB,HLE,m4⟩:=hrel;have es:=m4.e1;by_cases lg:k<x.d.length
    .have lJ:(k:Int)<x.d.length:=A0;obtain⟨c,hc⟩:∃c,x.d[k]?=O c:=⟨_,ui lg⟩;obtain⟨lu,off,vi,rfl,d0,d1,d2,d3,hins,hcf⟩:=HX.out.d.getCode hc;have HC:=A5 hc;have ah:=A5 (vE hc);have ay:=A5 hins;obtain⟨ib,ic,rfl⟩:=hins.shape;clear hc hins;have d0:=(d0.mono HLE.out).cell m4;have d1:=(d1.mono HLE.out).cell m4;have d2:=(d2.mono HLE.out).cell m4;have d3:=(d3.mono HLE.out).cell m4;have lC:=o_ (uu.1 HALL.out c ah.out);have az:=A5 (LO lC (au.out c ah.out));have ax:=A5 (Wm (aw.out c ah.out) (au.out c ah.out));clear lC;go_wp2_with (go_at_call 101;refine(gD c (V ib c.i.length ic) az.out ax.out m4 (ay.out.mono HLE.out)).mono ?_;rintro e w5 ⟨H2,K,aq,ag,rfl,m5⟩;generalize ar:Qz c K=bb;have av:=A5 (show JS c bb from⟨K,aq,ar.symm⟩);have HLE2:=A5 ag;clear ar aq ag m4 es d0 d1 d2 d3;by_cases ak:bb<0)
     .have ao:=A5 ak;go_roundw
      case rel=>
       refine⟨k+1,H2,by omega,by go_num,A5 (λj c' hj an=>?_),A5 (HLE.out.trans HLE2.out),m5⟩;rcases vy.1 hj with hj|rfl
       .exact HB.out j c' hj an
       .rw[HC.out] at an;cases an;exact⟨bb,av.out,ao.out⟩
      case measure=>exact BW
     .refine b_ (v:= .tuple #[Y I k,Y I bb,Y I 9]) i7 Z ?_;exact⟨H2,k,bb,9,HLE.out.trans HLE2.out,Z,.inr (.inr ⟨aa.out,aj.out,.inl ⟨Z,c,ah.out,bb,av.out,by omega⟩⟩),m5.drop⟩
    .have hge:¬(k:Int)<x.d.length:=A0;go_wp2_with fail;refine b_ (v:= .tuple #[Y I 0,Y I 0,Y I 0]) i7 Z ?_;refine⟨H1,0,0,0,HLE.out,Z,.inr (.inr ⟨aa.out,aj.out,.inr ⟨Z,λc hc=>?_⟩⟩),m4.drop⟩;obtain⟨j,hj,rfl⟩:=wN.1 hc;exact HB.out j _ A0 (ui hj)
def Xs (w0:W_) (H:Hp) (L:List (Nat×Obj)) (x:AI) (e:E_) (w':W_):Prop:=∃H' er,Bl H H'/\e= .returned (Y I er)/\Gi x er/\AC w0 H' L w'
theorem Iv (x:AI) (vc vk vr vd:V_) (aa:HJ x) (m:AC w0 H L w) (hx:Bz H x vc vk vr vd):K_ uh 26 #[.agg #[vc,vk,vr,vd]] w (Xs w0 H L x):=by have HX:=A5 hx;obtain⟨b1,c1,b2,c2,b3,c3,b4,c4,rfl,rfl,rfl,rfl,l1,l2,l3,l4⟩:=hx.shapes;clear hx;have m1:=m.alloc (IB x b1 c1 b2 c2 b3 c3 b4 c4);have es:=m1.e1;generalize ae:w.heap.size=xb at*;go_enter func26,ntmps26;go_wp2_with (go_at_call 49;refine(XR x _ _ _ _ aa m1 HX.out).mono ?_;rintro e w2 ⟨H',a,b,er,mN,rfl,ad,m2⟩);go_ret;exact⟨H',er,mN,Z,ad,m2.drop⟩
theorem Ad (n lo hi:Int) (w:W_):K_ uh 229 #[Y I n,Y I lo,Y I hi] w λe w'=>e= .returned (N (T (lo<=n/\n<=hi)))/\w=w':=by
 by_cases h1:lo<=n
 .by_cases h2:n<=hi
  .rw[t_ ⟨h1,h2⟩];go_enter func229,ntmps229;go_wp2_with fail;all_goals (go_ret;exact⟨by first|rfl|simp[h1,h2],Z⟩)
  .rw[f_ (λh=>h2 h.2)];go_enter func229,ntmps229;go_wp2_with fail;all_goals (go_ret;exact⟨by first|rfl|(simp;omega),Z⟩)
 .rw[f_ (λh=>h1 h.1)];go_enter func229,ntmps229;go_wp2_with fail;all_goals (go_ret;exact⟨by first|rfl|(simp;omega),Z⟩)
theorem GF (s:ByteArray) (hs:s.size<=maxLen) (w:W_):K_ uh 226 #[U s] w λe w'=>e= .returned (N (B3 s))/\w=w':=by
 have hs:=A9 hs;by_cases hl:1<=s.size/\s.size<=40
 .have hin0:T ((1:Int)<=(s.size:Int)/\(s.size:Int)<=40)=true:=t_ A0;go_enter func226,ntmps226;go_wp2_with fail;refine BQ (Ad _ _ _ _) ?_;rw[hin0];clear hin0;go_wp2_with fail;go_loop [3,10] (λ_ i=>∃k:Nat,k<=s.size/\i= Y I k/\(s.data.toList.take k).all BN=B) (λ_ i=>s.size-(intOf i).toNat);case atStart=>exact⟨0,un _,Z,Z⟩
  case round=>
   obtain⟨k,hk,rfl,ly⟩:=hrel;have HA:=A5 ly;clear ly;by_cases lg:k<s.size
   .have lJ:(k:Int)<s.size:=A0;have aa:s[k].toNat<256:=s[k].toNat_lt;cases ho:BN s[k]
    .have hb:=(Fx _).1 ho;have HO:=A5 ho;clear ho;by_cases hr:33<=s[k].toNat/\s[k].toNat<=126
     .have hin:T ((33:Int)<=(s[k].toNat:Int)/\(s[k].toNat:Int)<=126)=true:=t_ A0;have hx:((s[k].toNat:Int)==34)=true:=d8;go_wp2_with fail;exact jt
     .have hin:T ((33:Int)<=(s[k].toNat:Int)/\(s[k].toNat:Int)<=126)=false:=f_ A0;go_wp2_with fail;exact jt
    .have hb:=(Ef _).1 ho;have HO:=A5 ho;clear ho;have hx:((s[k].toNat:Int)==34)=false:=bF A0;have hin:T ((33:Int)<=(s[k].toNat:Int)/\(s[k].toNat:Int)<=126)=true:=t_ A0;go_wp2_with fail;refine(Ad _ _ _ _).mono ?_;exact YL
   .go_wp2_with fail;go_ret;exact⟨A8 (by rw[Ny s k lg hl HA.out]),Z⟩
 .have hin0:T ((1:Int)<=(s.size:Int)/\(s.size:Int)<=40)=false:=f_ A0;go_enter func226,ntmps226;go_wp2_with fail;refine(Ad _ _ _ _).mono ?_;exact eP
theorem UA (s:ByteArray) (hs:s.size<=maxLen) (w:W_):K_ uh 290 #[U s] w λe w'=>e= .returned (N (DC s))/\w=w':=by
 have hs:=A9 hs;go_enter func290,ntmps290;go_wp2_with fail;go_loop [3,6] (λ_ i=>∃k:Nat,k<=s.size/\i= Y I k/\(s.data.toList.take k).all CG=B) (λ_ i=>s.size-(intOf i).toNat);case atStart=>exact⟨0,un _,Z,Z⟩
 case round=>
  obtain⟨k,hk,rfl,ly⟩:=hrel;have HA:=A5 ly;clear ly;by_cases lg:k<s.size
  .have lJ:(k:Int)<s.size:=A0;have aa:s[k].toNat<256:=s[k].toNat_lt;cases ho:CG s[k]
   .have hb:=(IS _).1 ho;have HO:=A5 ho;clear ho;have hx:((s[k].toNat:Int) !=10)=true:=SE;have hin:T ((32:Int)<=(s[k].toNat:Int)/\(s[k].toNat:Int)<=126)=false:=f_ A0;go_wp2_with fail;refine(Ad _ _ _ _).mono ?_;exact Wf
   .have hb:=(GY _).1 ho;have HO:=A5 ho;clear ho;by_cases ad:s[k].toNat=10
    .have hx:((s[k].toNat:Int) !=10)=false:=(by rw[ad];rfl);have hin:T ((32:Int)<=(s[k].toNat:Int)/\(s[k].toNat:Int)<=126)=false:=f_ A0;go_wp2_with fail;refine(Ad _ _ _ _).mono ?_;exact cL
    .have hin:T ((32:Int)<=(s[k].toNat:Int)/\(s[k].toNat:Int)<=126)=true:=t_ A0;go_wp2_with fail;refine(Ad _ _ _ _).mono ?_;exact YE
  .exact tj
theorem O9 (c:ByteArray) (hc:c.size<=maxLen) (bf:Nat) (w:W_) (hf:w.cell? ⟨bf,0,X⟩=O (.func (.func 226) #[] #[])):K_ uh 268 #[U c,M (O ⟨bf,0,X⟩)] w λe w'=>e= .returned (N (!B3 c))/\w=w':=by go_enter func268,ntmps268;go_wp2_with (go_at_call 226;refine BQ (GF c hc _) ?_);go_ret;exact⟨Z,Z⟩
theorem NS (v:V_) (xs:List ByteArray) (bf:Nat) (m:AC w0 H L w) (hv:AX Aq H v xs) (hf:w.cell? ⟨bf,0,X⟩=O (.func (.func 226) #[] #[])):K_ uh 288 #[v,.func (.func 268) #[] #[M (O ⟨bf,0,X⟩)]] w (KI (!xs.all B3) w):=by
 have HV:=A5 hv;obtain⟨b,c,rfl,ad,aa,_,_⟩:=hv;have aa:=A9 aa;go_enter func288,ntmps288;go_wp2;go_loop [5,8] (λ_ i=>∃k:Nat,k<=xs.length/\i= Y I k/\(xs.take k).all B3=B) (λ_ i=>xs.length-(intOf i).toNat);case atStart=>exact⟨0,un _,Z,Z⟩
 case round=>
  obtain⟨k,hk,rfl,ly⟩:=hrel;have HA:=A5 ly;clear ly;by_cases lg:k<xs.length
  .obtain⟨lu,off,rfl,lx,hp⟩:=HV.out.cellV lg;have lx:=lx.cell m;cases hq:B3 xs[k]
   .have HQ:=A5 hq;go_wp2_with (go_at_call 268;refine(O9 _ hp bf _ hf).mono ?_;rw[HQ.out];rintro e w' ⟨rfl,rfl⟩);go_ret;refine⟨_,Z,?_,Z⟩;rw[show xs.all B3=G from B4 _ xs k lg HQ.out];simp
   .have HQ:=A5 hq;go_wp2_with (go_at_call 268;refine(O9 _ hp bf _ hf).mono ?_;rw[HQ.out];rintro e w' ⟨rfl,rfl⟩);go_round;(case rel=>exact⟨k+1,by omega,by go_num,by rw[Bi _ _ _ lg,HA.out,HQ.out];rfl⟩);case measure=>exact BW
  .go_wp2;exact NA
theorem KZ (v:V_) (xs:List ByteArray) (bf:Nat) (m:AC w0 H L w) (hv:AX Aq H v xs) (hf:w.cell? ⟨bf,0,X⟩=O (.func (.func 226) #[] #[])):K_ uh 267 #[v,.func (.func 268) #[] #[M (O ⟨bf,0,X⟩)]] w λe w'=>e= .returned (N (!xs.all B3))/\w=w':=by go_enter func267,ntmps267;go_wp2_with (go_at_call 288;refine(NS v xs bf m hv hf).mono ?_;rintro e w' ⟨k,rfl,hk,rfl⟩;have HK:=A5 hk;clear hk);exact Mv
theorem X5 (v:V_) (xs:List ByteArray) (m:AC w0 H L w) (hv:AX Aq H v xs):K_ uh 225 #[v,.func (.func 226) #[] #[]] w (Bv w0 H L (N (xs.all B3))):=by have HV:=A5 hv;clear hv;go_enter func225,ntmps225;have m1:=m.alloc (C #[.func (.func 226) #[] #[]] 147);have es:=m1.e0;go_wp2_with fail;refine(KZ v xs _ m1 HV.out Gd).mono ?_;exact NU
def DW (l:List ByteArray):List (ByteArray×V_):=l.foldl (λm s=>FT m s (N B)) []
theorem NM (l:List ByteArray) (s:ByteArray):DW (l++[s])=FT (DW l) s (N B):=by unfold DW;rw[wS];rfl
def Cf (l:List ByteArray):Bool:=T ((DW l).length=l.length)&&l.all B3
theorem IZ:Jt uh 9 U:=ov underlying9
def oW (w0:W_) (H:Hp) (L:List (Nat×Obj)) (xs:List ByteArray) (e:E_) (w':W_):Prop:=∃b es cl,e= .returned (.map (O b))/\Bt U es (DW xs)/\AC w0 H ((b,.map es cl)::L) w'
theorem S0 (v:V_) (xs:List ByteArray) (m:AC w0 H L w) (h:AX Aq H v xs):K_ uh 173 #[v] w (oW w0 H L xs):=by
 have HS:=A5 h;obtain⟨b,c,rfl,ag,hx,hr⟩:=h;clear hr;have ae:=A9 hx;have m1:=m.alloc (.map #[] 0);have aa:=@run_makeMap uh;generalize af:w.heap.size=mb at*;go_enter func173,ntmps173;go_wp2_with fail;clear aa;generalize w.alloc (vj #[] 0)=w1 at*;(go_loopw [5,9] (λ_ i8 wr=>∃(k:Nat) (es:Array MapEntry) (cl:Nat),k<=xs.length/\i8= Y I k/\Hid (Bt U es (DW (xs.take k)))/\AC w0 H ((mb,.map es cl)::L) wr) (λ_ i8 _=>xs.length-(intOf i8).toNat));case atStart=>exact⟨0,#[],0,un _,Z,A5 Bt.nil,m1⟩
 case round=>
  clear m1;obtain⟨k,es,cl,hk,rfl,HL,m1⟩:=hrel;by_cases lg:k<xs.length
  .exact uC
  .have hge:¬(k:Int)<xs.length:=A0;have ad:=A5 (show Bt U es (DW xs) by have:=HL.out;rw[vQ A0] at this;exact this);go_wp2_with fail;go_ret;exact⟨mb,es,cl,Z,ad.out,m1⟩
theorem Fc (v:V_) (xs:List ByteArray) (m:AC w0 H L w) (h:AX Aq H v xs):K_ uh 177 #[v] w (Bv w0 H L (N (Cf xs))):=by
 have HS:=A5 h;obtain⟨b,c,rfl,an,hx,hr⟩:=h;clear hr;have aj:=A9 hx;have m1:=m.alloc (.map #[] 0);have ah:=@run_makeMap uh;generalize ak:w.heap.size=mb at*;generalize aa:Cf xs=res;have HRES:=A5 aa;clear aa;go_enter func177,ntmps177;go_wp2_with fail;clear ah;generalize w.alloc (vj #[] 0)=w1 at*;(go_loopw [5,9] (λ_ i8 wr=>∃(k:Nat) (es:Array MapEntry) (cl:Nat),k<=xs.length/\i8= Y I k/\Hid (Bt U es (DW (xs.take k)))/\AC w0 H ((mb,.map es cl)::L) wr) (λ_ i8 _=>xs.length-(intOf i8).toNat));case atStart=>exact⟨0,#[],0,un _,Z,A5 Bt.nil,m1⟩
 case round=>
  clear m1;obtain⟨k,es,cl,hk,rfl,HL,m1⟩:=hrel;by_cases lg:k<xs.length
  .exact uC
  .have hge:¬(k:Int)<xs.length:=A0;have ae:Bt U es (DW xs):=(by have:=HL.out;rw[vQ A0] at this;exact this);have ai:=A5 ae.len;clear ae;have ad:wr.heap[mb]?=O (.map es cl):=(m1.loc _ (.head _)).1;have af:=run_len_map (P:=uh) (w:=wr) 229 3 mb es cl underlying229 ad;rw[ai.out] at af;clear ad;by_cases hn:(DW xs).length=xs.length
   .have ag:((DW xs).length:Int)=xs.length:=A0;rw[hn] at af;go_wp2_with (refine(X5 (V b xs.length c) xs m1 HS.out).mono ?_;rintro e w2 ⟨rfl,m2⟩);have hr:xs.all B3=res:=(by rw[<-HRES.out];simp[Cf,hn]);go_ret;exact⟨A8 hr,m2.drop⟩
   .have ag:¬((DW xs).length:Int)=xs.length:=A0;go_wp2_with fail;have hr:G=res:=(by rw[<-HRES.out];simp[Cf,hn]);go_ret;exact⟨A8 hr,m1.drop⟩
def D8 (c:AK):Bool:=T ((c.f.length:Int)<=6)&&Cf c.f
theorem Qv (c:AK) (sv:V_) (m:AC w0 H L w) (h:AX Aq H sv c.f):K_ uh 179 #[.agg #[U c.name,sv]] w (Bv w0 H L (N (D8 c))):=by
 have HS:=A5 h;obtain⟨b,n,rfl,ad,hx,hr⟩:=h;clear hr;have aa:=A9 hx;have m1:=m.alloc (C #[U c.name,V b c.f.length n] 84);have es:=m1.e0;unfold D8;by_cases hn:(c.f.length:Int)<=6
 .rw[t_ hn];go_enter func179,ntmps179;go_wp2_with fail;refine(Fc (V b c.f.length n) c.f m1 HS.out).mono ?_;rintro e w2 ⟨rfl,m2⟩;go_wp2_with fail;go_ret;exact⟨A8 (by simp),m2.drop⟩
 .rw[f_ hn];go_enter func179,ntmps179;go_wp2_with fail;go_ret;exact⟨A8 (by simp),m1.drop⟩
theorem U1 (c:Aj) (hc:c.fit) (m:AC w0 H L w):K_ uh 181 #[.agg #[U c.kind,U c.name,Y I c.parts]] w (Bv w0 H L (N (DX c))):=by
 have hk:=hc.kind;have hp:=hc.parts;clear hc;have m1:=m.alloc (C #[U c.kind,U c.name,Y I c.parts] 122);have es:=m1.e0;unfold DX F6;cases hn:B3 c.kind
 .go_enter func181,ntmps181;go_wp2_with (refine(GF c.kind hk _).mono ?_;rw[hn];rintro e w2 ⟨rfl,rfl⟩);go_ret;exact⟨A8 (by simp),m1.drop⟩
 .go_enter func181,ntmps181
  go_wp2_with first
   |(go_at_call 226;refine(GF c.kind hk _).mono ?_;rw[hn];rintro e w2 ⟨rfl,rfl⟩)
   |(go_at_call 229;refine(Ad _ _ _ _).mono ?_;rintro e w3 ⟨rfl,rfl⟩)
  go_ret;exact⟨A8 (by simp),m1.drop⟩
def Me (w0:W_) (H:Hp) (L:List (Nat×Obj)) (p:Bool) (e:E_) (w':W_):Prop:=∃k:Int,e= .returned (Y I k)/\T (0<=k)=p/\AC w0 H L w'
theorem J8 (c:AK) (sv:V_) (bf:Nat) (m:AC w0 H ((bf,C #[.func (.func 179) #[] #[]] 127)::L) w) (h:AX Aq H sv c.f):K_ uh 227 #[.agg #[U c.name,sv],M (O ⟨bf,0,X⟩)] w (Bv w0 H ((bf,C #[.func (.func 179) #[] #[]] 127)::L) (N (!D8 c))):=by have HH:=A5 h;clear h;have m1:=m.alloc (C #[U c.name,sv] 84);generalize hq:D8 c=q;have HQ:=A5 hq;clear hq;have es:=m1.e0;go_enter func227,ntmps227;go_wp2_with fail;refine(Qv c sv m1 HH.out).mono ?_;exact PY
theorem Ja (v:V_) (xs:List AK) (bf:Nat) (m:AC w0 H ((bf,C #[.func (.func 179) #[] #[]] 127)::L) w) (hv:AX B2 H v xs):K_ uh 84 #[v,.func (.func 227) #[] #[M (O ⟨bf,0,X⟩)]] w (Me w0 H ((bf,C #[.func (.func 179) #[] #[]] 127)::L) (!xs.all D8)):=by
 have HV:=A5 hv;obtain⟨b,c,rfl,ad,aa,_,_⟩:=hv;have aa:=A9 aa;go_enter func84,ntmps84;go_wp2_with fail;(go_loopw [5,8] (λ_ i wr=>∃k:Nat,k<=xs.length/\i= Y I k/\(xs.take k).all D8=B/\AC w0 H ((bf,C #[.func (.func 179) #[] #[]] 127)::L) wr) (λ_ i _=>xs.length-(intOf i).toNat));case atStart=>exact⟨0,un _,Z,Z,m⟩
 case round=>
  clear m;obtain⟨k,hk,rfl,ly,m⟩:=hrel;have HA:=A5 ly;clear ly;by_cases lg:k<xs.length
  .have hx:=ui lg;generalize hy:xs[k]=y at hx;obtain⟨lu,off,sv,rfl,q1,q2,q3,q4⟩:=HV.out.getClassQ hx;clear hx;have ad:=q1.cell m;have aa:=q2.cell m;cases hq:D8 y
   .have HQ:=A5 hq;clear hq;have HY:=A5 hy;clear hy;go_wp2_with fail;refine(J8 y sv bf m q3).mono ?_;rw[HQ.out];rintro e w2 ⟨rfl,m2⟩;go_wp2_with fail;go_ret;refine⟨_,Z,?_,m2⟩;rw[show xs.all D8=G from B4 _ xs k lg Rc];simp
   .have HQ:=A5 hq;clear hq;have HY:=A5 hy;clear hy;go_wp2_with fail;refine(J8 y sv bf m q3).mono ?_;exact Rt
  .go_wp2_with fail;exact NO
theorem I5 (v:V_) (xs:List AK) (bf:Nat) (m:AC w0 H ((bf,C #[.func (.func 179) #[] #[]] 127)::L) w) (hv:AX B2 H v xs):K_ uh 62 #[v,.func (.func 227) #[] #[M (O ⟨bf,0,X⟩)]] w (Bv w0 H ((bf,C #[.func (.func 179) #[] #[]] 127)::L) (N (!xs.all D8))):=by go_enter func62,ntmps62;go_wp2_with (go_at_call 84;refine(Ja v xs bf m hv).mono ?_;rintro e w' ⟨k,rfl,hk,m2⟩;have HK:=A5 hk;clear hk);exact IW
theorem Qe (v:V_) (xs:List AK) (m:AC w0 H L w) (hv:AX B2 H v xs):K_ uh 178 #[v,.func (.func 179) #[] #[]] w (Bv w0 H L (N (xs.all D8))):=by have HV:=A5 hv;clear hv;go_enter func178,ntmps178;have m1:=m.alloc (C #[.func (.func 179) #[] #[]] 127);go_wp2_with fail;refine(I5 v xs _ m1 HV.out).mono ?_;exact Ms
theorem JM (c:Aj) (bf:Nat) (m:AC w0 H ((bf,C #[.func (.func 181) #[] #[]] 129)::L) w) (h:c.fit):K_ uh 228 #[.agg #[U c.kind,U c.name,Y I c.parts],M (O ⟨bf,0,X⟩)] w (Bv w0 H ((bf,C #[.func (.func 181) #[] #[]] 129)::L) (N (!DX c))):=by have HH:=A5 h;clear h;have m1:=m.alloc (C #[U c.kind,U c.name,Y I c.parts] 122);generalize hq:DX c=q;have HQ:=A5 hq;clear hq;have es:=m1.e0;go_enter func228,ntmps228;go_wp2_with fail;refine(U1 c HH.out m1).mono ?_;exact PY
theorem KR (v:V_) (xs:List Aj) (bf:Nat) (m:AC w0 H ((bf,C #[.func (.func 181) #[] #[]] 129)::L) w) (hv:AX CV H v xs):K_ uh 109 #[v,.func (.func 228) #[] #[M (O ⟨bf,0,X⟩)]] w (Me w0 H ((bf,C #[.func (.func 181) #[] #[]] 129)::L) (!xs.all DX)):=by
 have HV:=A5 hv;obtain⟨b,c,rfl,ad,aa,_,_⟩:=hv;have aa:=A9 aa;go_enter func109,ntmps109;go_wp2_with fail;(go_loopw [5,8] (λ_ i wr=>∃k:Nat,k<=xs.length/\i= Y I k/\(xs.take k).all DX=B/\AC w0 H ((bf,C #[.func (.func 181) #[] #[]] 129)::L) wr) (λ_ i _=>xs.length-(intOf i).toNat));case atStart=>exact⟨0,un _,Z,Z,m⟩
 case round=>
  clear m;obtain⟨k,hk,rfl,ly,m⟩:=hrel;have HA:=A5 ly;clear ly;by_cases lg:k<xs.length
  .have hx:=ui lg;generalize hy:xs[k]=y at hx;obtain⟨lu,off,rfl,q1,q2,q3,q4⟩:=HV.out.getCase hx;clear hx;have ad:=q1.cell m;have aa:=q2.cell m;have ae:=q3.cell m;cases hq:DX y
   .have HQ:=A5 hq;clear hq;have HY:=A5 hy;clear hy;go_wp2_with fail;refine(JM y bf m q4).mono ?_;rw[HQ.out];rintro e w2 ⟨rfl,m2⟩;go_wp2_with fail;go_ret;refine⟨_,Z,?_,m2⟩;rw[show xs.all DX=G from B4 _ xs k lg Rc];simp
   .have HQ:=A5 hq;clear hq;have HY:=A5 hy;clear hy;go_wp2_with fail;refine(JM y bf m q4).mono ?_;exact Rt
  .go_wp2_with fail;exact NO
theorem Ia (v:V_) (xs:List Aj) (bf:Nat) (m:AC w0 H ((bf,C #[.func (.func 181) #[] #[]] 129)::L) w) (hv:AX CV H v xs):K_ uh 64 #[v,.func (.func 228) #[] #[M (O ⟨bf,0,X⟩)]] w (Bv w0 H ((bf,C #[.func (.func 181) #[] #[]] 129)::L) (N (!xs.all DX))):=by go_enter func64,ntmps64;go_wp2_with (go_at_call 109;refine(KR v xs bf m hv).mono ?_;rintro e w' ⟨k,rfl,hk,m2⟩;have HK:=A5 hk;clear hk);exact IW
theorem R4 (v:V_) (xs:List Aj) (m:AC w0 H L w) (hv:AX CV H v xs):K_ uh 180 #[v,.func (.func 181) #[] #[]] w (Bv w0 H L (N (xs.all DX))):=by have HV:=A5 hv;clear hv;go_enter func180,ntmps180;have m1:=m.alloc (C #[.func (.func 181) #[] #[]] 129);go_wp2_with fail;refine(Ia v xs _ m1 HV.out).mono ?_;exact Ms
theorem BT.snocT {v:V_} {zs:List ByteArray} {x:ByteArray} (h:AP w0 H L 9 1 v (zs.length+1) (zs.map U++[U x]) w) (hz:∀z∈zs,z.size<=maxLen) (hx:x.size<=maxLen):∃L1,BT v (zs++[x]) L1/\AC w0 H (L1++L) w:=by exact iO
theorem BT.none:BT (V X 0 0) [] []:=⟨⟨by simp,.inl ⟨Z,Z,Z⟩⟩,λ_ h=>CZ⟩
def G6 (w0:W_) (H:Hp) (L:List (Nat×Obj)) (zs:List ByteArray) (e:E_) (w':W_):Prop:=∃v L1,e= .returned v/\BT v zs L1/\AC w0 H (L1++L) w'
theorem Mi (c:AK) (sv:V_) (m:AC w0 H L w):K_ uh 220 #[.agg #[U c.name,sv]] w (Bv w0 H L (U c.name)):=by have m1:=m.alloc (C #[U c.name,sv] 84);have es:=m1.e0;go_enter func220,ntmps220;go_wp2_with fail;exact GS
theorem I4 (v:V_) (xs:List AK) (ah:xs.length<=4096) (m:AC w0 H L w) (hv:AX B2 H v xs):K_ uh 219 #[v,.func (.func 220) #[] #[]] w (G6 w0 H L (xs.map AK.name)):=by
 have HV:=A5 hv;obtain⟨b,cc,rfl,af,aa,_,_⟩:=hv;have aa:=A9 aa;go_enter func219,ntmps219;go_wp2_with fail;(go_loopw [4,9] (λv4 i wr=>∃(k:Nat) (L3:List (Nat×Obj)),k<=xs.length/\i= Y I k/\Hid (BT v4 ((xs.take k).map AK.name) L3)/\AC w0 H (L3++L) wr) (λ_ i _=>xs.length-(intOf i).toNat));case atStart=>exact⟨0,[],un _,Z,A5 BT.none,m⟩
 case round=>
  clear m;obtain⟨k,L3,hk,rfl,HO,m⟩:=hrel;have ae:((xs.take k).map AK.name).length=k:=VP;have ag:=A5 ae;clear ae;generalize ad:(xs.take k).map AK.name=zs at*;have HZ:=A5 ad;clear ad;obtain⟨pb,pc,rfl,aj,ai⟩:=HO.out.shape;by_cases lg:k<xs.length
  .have lJ:(k:Int)<xs.length:=A0;have htk:(xs.take (k+1)).map AK.name=(xs.take k).map AK.name++[xs[k].name]:=fV;have HTK:=A5 htk;clear htk;have hx:=ui lg;generalize xs[k]=y at*;obtain⟨lu,off,sv,rfl,q1,q2,q3,q4⟩:=HV.out.getClassQ hx;clear hx;have af:=q1.cell m;have aa:=q2.cell m;obtain⟨fb,fc,rfl,_,_,_,_⟩:=q3;have mS:=m.alloc (C #[U y.name,V fb y.f.length fc] 84);have es:=mS.e0;go_wp2_with fail;refine(Mi y (V fb y.f.length fc) mS).mono ?_;rintro e w2 ⟨rfl,m2⟩;clear es af aa;have mA:=m2.alloc (C #[U y.name] 9);have mB:=(mA.perm Ah:AC _ _ (L3++((w2.heap.size,C #[U y.name] 9)::(wr.heap.size,C #[U y.name,V fb y.f.length fc] 84)::L)) _);go_wp2_with (at_builtin;refine AG (w0:=w0) (H:=H) (L:=(w2.heap.size,C #[U y.name] 9)::(wr.heap.size,C #[U y.name,V fb y.f.length fc] 84)::L) Z _ _ 24 Z 9 1 16 (U uy) underlying24 A7 Z AD (.slice pb zs.length pc) zs.length (zs.map U) (HO.out.acc.join mB) Z _ 1 [U y.name] (Fr.loc (e:=9) (cs:=[U y.name]) mB (by simp)) Z Z Fu (by have:=ag.out;omega) cM ?_);intro v' w6 kF;obtain⟨L5,h5,m5⟩:=BT.snocT kF.drop.drop HO.out.fit q4;exact tU
  .have hge:¬(k:Int)<xs.length:=A0;have ly:zs=xs.map AK.name:=dB;exact Xx
theorem OZ (c:Aj) (m:AC w0 H L w):K_ uh 222 #[.agg #[U c.kind,U c.name,Y I c.parts]] w (Bv w0 H L (U c.name)):=by have m1:=m.alloc (C #[U c.kind,U c.name,Y I c.parts] 122);have es:=m1.e0;go_enter func222,ntmps222;go_wp2_with fail;exact GS
theorem J6 (v:V_) (xs:List Aj) (ah:xs.length<=4096) (m:AC w0 H L w) (hv:AX CV H v xs):K_ uh 221 #[v,.func (.func 222) #[] #[]] w (G6 w0 H L (xs.map Aj.name)):=by
 have HV:=A5 hv;obtain⟨b,cc,rfl,af,aa,_,_⟩:=hv;have aa:=A9 aa;go_enter func221,ntmps221;go_wp2_with fail;(go_loopw [4,9] (λv4 i wr=>∃(k:Nat) (L3:List (Nat×Obj)),k<=xs.length/\i= Y I k/\Hid (BT v4 ((xs.take k).map Aj.name) L3)/\AC w0 H (L3++L) wr) (λ_ i _=>xs.length-(intOf i).toNat));case atStart=>exact⟨0,[],un _,Z,A5 BT.none,m⟩
 case round=>
  clear m;obtain⟨k,L3,hk,rfl,HO,m⟩:=hrel;have ae:((xs.take k).map Aj.name).length=k:=VP;have ag:=A5 ae;clear ae;generalize ad:(xs.take k).map Aj.name=zs at*;have HZ:=A5 ad;clear ad;obtain⟨pb,pc,rfl,aj,ai⟩:=HO.out.shape;by_cases lg:k<xs.length
  .have lJ:(k:Int)<xs.length:=A0;have htk:(xs.take (k+1)).map Aj.name=(xs.take k).map Aj.name++[xs[k].name]:=fV;have HTK:=A5 htk;clear htk;have hx:=ui lg;generalize xs[k]=y at*;obtain⟨lu,off,rfl,q1,q2,q3,q4⟩:=HV.out.getCase hx;clear hx;have af:=q1.cell m;have aa:=q2.cell m;have ak:=q3.cell m;have mS:=m.alloc (C #[U y.kind,U y.name,Y I y.parts] 122);have es:=mS.e0;go_wp2_with fail;refine(OZ y mS).mono ?_;rintro e w2 ⟨rfl,m2⟩;clear es af aa;have mA:=m2.alloc (C #[U y.name] 9);have mB:=(mA.perm Ah:AC _ _ (L3++((w2.heap.size,C #[U y.name] 9)::(wr.heap.size,C #[U y.kind,U y.name,Y I y.parts] 122)::L)) _);go_wp2_with (at_builtin;refine AG (w0:=w0) (H:=H) (L:=(w2.heap.size,C #[U y.name] 9)::(wr.heap.size,C #[U y.kind,U y.name,Y I y.parts] 122)::L) Z _ _ 24 Z 9 1 16 (U uy) underlying24 A7 Z AD (.slice pb zs.length pc) zs.length (zs.map U) (HO.out.acc.join mB) Z _ 1 [U y.name] (Fr.loc (e:=9) (cs:=[U y.name]) mB (by simp)) Z Z Fu (by have:=ag.out;omega) cM ?_);intro v' w6 kF;obtain⟨L5,h5,m5⟩:=BT.snocT kF.drop.drop HO.out.fit q4.name;exact tU
  .have hge:¬(k:Int)<xs.length:=A0;have ly:zs=xs.map Aj.name:=dB;exact Xx
theorem OR (c:AF) (sv:V_) (m:AC w0 H L w):K_ uh 224 #[.agg #[U c.name,Y I c.params,Y I c.g,sv]] w (Bv w0 H L (U c.name)):=by have m1:=m.alloc (C #[U c.name,Y I c.params,Y I c.g,sv] 78);have es:=m1.e0;go_enter func224,ntmps224;go_wp2_with fail;exact GS
theorem J7 (v:V_) (xs:List AF) (ah:xs.length<=4096) (m:AC w0 H L w) (hv:AX Ch H v xs):K_ uh 223 #[v,.func (.func 224) #[] #[]] w (G6 w0 H L (xs.map AF.name)):=by
 have HV:=A5 hv;obtain⟨b,cc,rfl,af,aa,_,_⟩:=hv;have aa:=A9 aa;go_enter func223,ntmps223;go_wp2_with fail;(go_loopw [4,9] (λv4 i wr=>∃(k:Nat) (L3:List (Nat×Obj)),k<=xs.length/\i= Y I k/\Hid (BT v4 ((xs.take k).map AF.name) L3)/\AC w0 H (L3++L) wr) (λ_ i _=>xs.length-(intOf i).toNat));case atStart=>exact⟨0,[],un _,Z,A5 BT.none,m⟩
 case round=>
  clear m;obtain⟨k,L3,hk,rfl,HO,m⟩:=hrel;have ae:((xs.take k).map AF.name).length=k:=VP;have ag:=A5 ae;clear ae;generalize ad:(xs.take k).map AF.name=zs at*;have HZ:=A5 ad;clear ad;obtain⟨pb,pc,rfl,aj,ai⟩:=HO.out.shape;by_cases lg:k<xs.length
  .have lJ:(k:Int)<xs.length:=A0;have htk:(xs.take (k+1)).map AF.name=(xs.take k).map AF.name++[xs[k].name]:=fV;have HTK:=A5 htk;clear htk;have hx:=ui lg;generalize xs[k]=y at*;obtain⟨lu,off,sv,rfl,q1,q2,q3,q4,q5,q6⟩:=HV.out.getCode hx;clear hx;have af:=q1.cell m;have aa:=q2.cell m;have an:=q3.cell m;have ak:=q4.cell m;obtain⟨fb,fc,rfl,_,_,_,_⟩:=q5;have mS:=m.alloc (C #[U y.name,Y I y.params,Y I y.g,V fb y.i.length fc] 78);have es:=mS.e0;go_wp2_with fail;refine(OR y (V fb y.i.length fc) mS).mono ?_;rintro e w2 ⟨rfl,m2⟩;clear es af aa;have mA:=m2.alloc (C #[U y.name] 9);have mB:=(mA.perm Ah:AC _ _ (L3++((w2.heap.size,C #[U y.name] 9)::(wr.heap.size,C #[U y.name,Y I y.params,Y I y.g,V fb y.i.length fc] 78)::L)) _);go_wp2_with (at_builtin;refine AG (w0:=w0) (H:=H) (L:=(w2.heap.size,C #[U y.name] 9)::(wr.heap.size,C #[U y.name,Y I y.params,Y I y.g,V fb y.i.length fc] 78)::L) Z _ _ 24 Z 9 1 16 (U uy) underlying24 A7 Z AD (.slice pb zs.length pc) zs.length (zs.map U) (HO.out.acc.join mB) Z _ 1 [U y.name] (Fr.loc (e:=9) (cs:=[U y.name]) mB (by simp)) Z Z Fu (by have:=ag.out;omega) cM ?_);intro v' w6 kF;obtain⟨L5,h5,m5⟩:=BT.snocT kF.drop.drop HO.out.fit q6.name;exact tU
  .have hge:¬(k:Int)<xs.length:=A0;have ly:zs=xs.map AF.name:=dB;exact Xx
def Bc (vc vk vr vd v1 v2 v3 v4 v5:V_):Obj:= C #[vc,vk,vr,vd,v1,v2,v3,v4,v5] 227
theorem NP (x:AI) (vc vk vr vd v1 v2 v3 v4 v5:V_) (fb:Nat) (aa:x.k.length<=4096) (m:AC w0 H ((fb,Bc vc vk vr vd v1 v2 v3 v4 v5)::L) w) (hx:Bz H x vc vk vr vd):K_ uh 174 #[M (O ⟨fb,0,X⟩)] w (G6 w0 H ((fb,Bc vc vk vr vd v1 v2 v3 v4 v5)::L) (x.k.map AK.name)):=by have HX:=A5 hx;obtain⟨b1,c1,b2,c2,b3,c3,b4,c4,rfl,rfl,rfl,rfl,l1,l2,l3,l4⟩:=hx.shapes;clear hx;have es:=m.eqs;simp only[BS,Bc] at es;go_enter func174,ntmps174;go_wp2_with (go_at_call 219;refine(I4 _ x.k aa m HX.out.c).mono ?_;rintro e w2 ⟨v,L1,rfl,h1,m1⟩);exact Nb
theorem OI (x:AI) (vc vk vr vd v1 v2 v3 v4 v5:V_) (fb:Nat) (aa:x.c.length<=4096) (m:AC w0 H ((fb,Bc vc vk vr vd v1 v2 v3 v4 v5)::L) w) (hx:Bz H x vc vk vr vd):K_ uh 175 #[M (O ⟨fb,0,X⟩)] w (G6 w0 H ((fb,Bc vc vk vr vd v1 v2 v3 v4 v5)::L) (x.c.map Aj.name)):=by have HX:=A5 hx;obtain⟨b1,c1,b2,c2,b3,c3,b4,c4,rfl,rfl,rfl,rfl,l1,l2,l3,l4⟩:=hx.shapes;clear hx;have es:=m.eqs;simp only[BS,Bc] at es;go_enter func175,ntmps175;go_wp2_with (go_at_call 221;refine(J6 _ x.c aa m HX.out.k).mono ?_;rintro e w2 ⟨v,L1,rfl,h1,m1⟩);exact Nb
theorem Oa (x:AI) (vc vk vr vd v1 v2 v3 v4 v5:V_) (fb:Nat) (aa:x.d.length<=4096) (m:AC w0 H ((fb,Bc vc vk vr vd v1 v2 v3 v4 v5)::L) w) (hx:Bz H x vc vk vr vd):K_ uh 176 #[M (O ⟨fb,0,X⟩)] w (G6 w0 H ((fb,Bc vc vk vr vd v1 v2 v3 v4 v5)::L) (x.d.map AF.name)):=by have HX:=A5 hx;obtain⟨b1,c1,b2,c2,b3,c3,b4,c4,rfl,rfl,rfl,rfl,l1,l2,l3,l4⟩:=hx.shapes;clear hx;have es:=m.eqs;simp only[BS,Bc] at es;go_enter func176,ntmps176;go_wp2_with (go_at_call 223;refine(J7 _ x.d aa m HX.out.d).mono ?_;rintro e w2 ⟨v,L1,rfl,h1,m1⟩);exact Nb
section
variable {fin:(Nat->C2)->Act} {ls:Array Bool}
section
variable {P:P_} {ops:Array Oper} {Q:Exit->Act->W_->Prop} {sp:List Du} {a0:Act} {w0:W_} {H:Hp} {L:List (Nat×Obj)}
def Gs (ls:Array Bool) (bs:Nat->C2):List (Int×Nat×Nat)->Int->Option V_
 |[],_=>X
 |e::r,x=>if e.1=x/\ls.getD e.2.1 G=B then O (.map (O (bs e.2.2).b)) else Gs ls bs r x
def EY (mk:Nat) (q:List (Int×Nat×Nat)) (ls:Array Bool) (bs:Nat->C2) (Ls:List (Nat×Obj)):Prop:=
 (ls.getD mk G=G/\Ls=[])\/(ls.getD mk G=B/\∃es cl l,Ls=[((bs mk).b,.map es cl)]/\Bt (Y .u8) es l/\∀x,BX l x=Gs ls bs q x)
def mX (ops:Array Oper) (n mk:Nat) (q:List (Int×Nat×Nat)) (i:Nat):Bool:=i !=mk&&q.all λe=>e.2.1 !=i&&T (e.2.1<n)&&(e.2.2 !=i||KS ops i ops.size e.2.1)
theorem LL {ls ls':Array Bool} {bs bs':Nat->C2}:∀(q:List (Int×Nat×Nat)),(∀e∈q,ls'.getD e.2.1 G=ls.getD e.2.1 G)->(∀e∈q,ls.getD e.2.1 G=B->bs' e.2.2=bs e.2.2)->∀x,Gs ls' bs' q x=Gs ls bs q x
 |[],_,_,_=>rfl
 |e::r,h1,h2,x=>by
  unfold Gs
  rw[h1 e (.head _),LL r (λe he=>h1 e (.tail _ he)) (λe he=>h2 e (.tail _ he)) x]
  by_cases h:e.1=x/\ls.getD e.2.1 G=B
  .rw[p_ h,p_ h,h2 e (.head _) h.2]
  .rw[n_ h,n_ h]
theorem Py {ls:Array Bool} {bs:Nat->C2}:∀(q:List (Int×Nat×Nat)),(∀e∈q,ls.getD e.2.1 G=G)->∀x,Gs ls bs q x=X
 |[],_,_=>rfl
 |e::r,h1,x=>by
  unfold Gs
  rw[h1 e (.head _),n_ (λh=>by cases h.2),Py r (λe he=>h1 e (.tail _ he)) x]
theorem NZ {ls ls':Array Bool} {bs:Nat->C2} {key:Int} {ii jj:Nat} (hii:ls'.getD ii G=B) (hot:∀k,k≠ii->ls'.getD k G=ls.getD k G):∀(q:List (Int×Nat×Nat)),(key,ii,jj)∈q->(∀e∈q,e.2.1=ii\/e.1=key->e=(key,ii,jj))->∀x,Gs ls' bs q x=if key=x then O (.map (O (bs jj).b)) else Gs ls bs q x
 |[],h,_,_=>by cases h
 |e::r,h,hu,x=>by
  unfold Gs
  by_cases he:e=(key,ii,jj)
  .subst he
   by_cases hx:key=x
   .rw[p_ ⟨hx,hii⟩,p_ hx]
   .rw[n_ (λh=>hx h.1),n_ hx,n_ (λh=>hx h.1)]
    by_cases hr:(key,ii,jj)∈r
    .rw[NZ hii hot r hr (λe he=>hu e (.tail _ he)) x,n_ hx]
    .exact LL r (λe he=>hot _ λh2=>hr ((hu e (.tail _ he) (.inl h2))▸he)) (λ_ _ _=>rfl) x
  .have h1:e.2.1≠ii:=λh2=>he (hu e (.head _) (.inl h2))
   have h2:e.1≠key:=λh2=>he (hu e (.head _) (.inr h2))
   have hr:(key,ii,jj)∈r:=by
    cases h with
    |head=>exact a_ Z he
    |tail _ h=>exact h
   rw[hot _ h1,NZ hii hot r hr (λe he=>hu e (.tail _ he)) x]
   by_cases hx:key=x
   .rw[n_ (λh3=>h2 (h3.1.trans hx.symm)),p_ hx,p_ hx]
   .rw[n_ hx,n_ hx]
theorem EY.keep {mk:Nat} {q:List (Int×Nat×Nat)} (hk:mX ops sp.length mk q i=B):∀(ls:Array Bool) (bs ad:Nat->C2) (Ls:List (Nat×Obj)),ls.getD i G=G->(∀k,k<sp.length->ls.getD k G=B->∀j,KS ops j ops.size k=B->ls.getD j G=B)->(∀k,k≠i->ad k=bs k)->EY mk q ls bs Ls->EY mk q (ls.setIfInBounds i B) ad Ls:=by
 intro ls bs ad Ls ae hcl aa h;unfold mX at hk;simp only[ur,bne_iff_ne,ne_eq,uu,wD,decide_eq_true_eq] at hk;obtain⟨lU,hq⟩:=hk
 have hins:∀x,Gs (ls.setIfInBounds i B) ad q x=Gs ls bs q x:=LL q (λe he=>Bo (Ne.symm (hq e he).1.1)) λe he hl=>by
  (refine aa _ λaf=>?_);rcases(hq e he).2 with h1|h1
  .exact h1 af
  .have:=hcl _ (hq e he).1.2 hl i h1;rw[ae] at this;cases this
 rcases h with ⟨h1,h2⟩|⟨h1,es,cl,l,h2,h3,h4⟩
 .exact .inl ⟨by rw[Bo lU];exact h1,h2⟩
 .exact .inr ⟨getD_set_true h1,es,cl,l,by rw[aa _ (Ne.symm lU)];exact h2,h3,λx=>by rw[hins];exact h4 x⟩
def Uz (bs:Nat->C2):List (Int×Nat×Nat)->Int->Option V_
 |[],_=>X
 |e::r,x=>if e.1=x then O (.map (O (bs e.2.2).b)) else Uz bs r x
theorem SG {ls:Array Bool} {bs:Nat->C2}:∀(q:List (Int×Nat×Nat)),(∀e∈q,ls.getD e.2.1 G=B)->∀x,Gs ls bs q x=Uz bs q x
 |[],_,_=>rfl
 |e::r,h1,x=>by
  unfold Gs Uz
  rw[SG r (λe he=>h1 e (.tail _ he)) x,h1 e (.head _)]
  simp
theorem EY.full {mk:Nat} {q:List (Int×Nat×Nat)} {bs:Nat->C2} {Ls:List (Nat×Obj)} (h:EY mk q ls bs Ls) (hk:(ls.getD mk G&&q.all λe=>ls.getD e.2.1 G)=B):∃es cl l,Ls=[((bs mk).b,.map es cl)]/\Bt (Y .u8) es l/\∀x,BX l x=Uz bs q x:=by
 rw[ur,uu] at hk;rcases h with ⟨h1,_⟩|⟨_,es,cl,l,h2,h3,h4⟩
 .rw[hk.1] at h1;cases h1
 .exact⟨es,cl,l,h2,h3,λx=>by rw[h4,SG q hk.2]⟩
theorem Nw.makeM {s:Du} {mk:Nat} {q:List (Int×Nat×Nat)} (hk:s.skip=G) (hn:s.new=O ([],[],λ_ d=>d.bl=[])) (hg:o.guard=X) (hq:(q.all λe=>e.2.1 !=mk&&T (e.2.1<sp.length)&&KS ops mk ops.size e.2.1)=B) (h:∀bs w,(x_ (fin bs).eval o).run P w= .ok (.value (s.value (KU bs mk ⟨w.heap.size,0,undef,[]⟩))) (w.alloc (.map #[] 0))):Nw P ops sp w0 H L (EY mk q) fin o s mk:=by
 intro bs ls Ls aa lC hcl af ae ad;refine .inr ⟨hk,by simp[vH,hg],λw L' m=>?_⟩;unfold Du.cons at m;rw[hn] at m⊢;simp only[uu,ur,bne_iff_ne,ne_eq,decide_eq_true_eq] at hq;rcases ad with ⟨h1,rfl⟩|⟨h1,_⟩
 .have m':AC w0 H (L'++L) w:=m;refine .inl ⟨_,_,h bs w,⟨w.heap.size,0,undef,[]⟩,Z,Z,[(w.heap.size,.map #[] 0)],.inr ⟨DI lC,#[],0,[],?_,Bt.nil,λx=>?_⟩,?_⟩
  .show[(w.heap.size,vj #[] 0)]=[((KU bs mk ⟨w.heap.size,0,undef,[]⟩ mk).b,vj #[] 0)];unfold KU;rw[p_ Z]
  .refine(Py q (λe he=>?_) x).symm;rw[Bo (Ne.symm (hq e he).1.1)]
   cases hb:ls.getD e.2.1 G with
   |false=>rfl
   |true=>have:=hcl _ (hq e he).1.2 hb mk (hq e he).2;rw[aa] at this;cases this
  .show AC w0 H ([]++(L'++([(w.heap.size,vj #[] 0)]++L))) _;rw[um];refine(m'.alloc (.map #[] 0)).perm ?_;rw[wJ];exact List.perm_middle.symm
 .rw[aa] at h1;cases h1
theorem Nw.insertM {s:Du} {mk ii jj:Nat} {key:Int} {q:List (Int×Nat×Nat)} {kt et:T_} {mo ko vo:O_} (hk:s.skip=G) (hn:s.new=X) (hg:o.guard=X) (hv:∀bs,s.value bs=undef) (ha:KS ops mk ops.size ii=B) (hm:ii≠mk) (hq1:(key,ii,jj)∈q) (hq2:∀e∈q,e.2.1=ii\/e.1=key->e=(key,ii,jj)) (K:Jt P kt (Y .u8)) (ht:P.underlying t=O (.map kt et)) (ho:o.op= .insert t mo ko vo) (h1:∀bs,(fin bs).eval mo= .map (O (bs mk).b)) (h2:∀bs,(fin bs).eval ko= Y .u8 key) (h3:∀bs,(fin bs).eval vo= .map (O (bs jj).b)):Nw P ops sp w0 H L (EY mk q) fin o s ii:=by
 intro bs ls Ls ag lC hcl af ah ad;refine .inr ⟨hk,by simp[vH,hg],λw L' m=>?_⟩;unfold Du.cons at m;rw[hn] at m⊢;rcases ad with ⟨h4,_⟩|⟨h4,es,cl,l,rfl,h5,h6⟩
 .rw[af _ ha] at h4;cases h4
 .have m':AC w0 H (((bs mk).b,.map es cl)::(L'++L)) w:=AC.perm (by exact m) (by show(([]:List (Nat×Obj))++(L'++([((bs mk).b,vj es cl)]++L))).Perm _;rw[um,wJ];exact List.perm_middle);obtain⟨es',aa,W',hup,ae,m2⟩:=AC.update (P:=P) (t:=t) K ht m' h5 key (.map (O (bs jj).b));refine .inr (.inl ⟨W',?_,(hv bs).symm,[((bs mk).b,.map es' aa)],.inr ⟨getD_set_true h4,es',aa,_,Z,ae,λx=>?_⟩,?_⟩)
  .unfold x_;simp only[ho,h1,h2,h3,Sem.run_bind,hup,Result.andThen_ok,Sem.run_pure]
  .rw[Is,NZ (DI lC) (λk hk=>Bo (Ne.symm hk)) q hq1 hq2 x,h6]
  .rw[wJ];exact m2.perm List.perm_middle.symm
theorem V0 {Sh:Array Bool->(Nat->C2)->List (Nat×Obj)->Prop} {id:Nat} {a:Act} {w:W_} (sp:List Du) (hs:List Bool) (fin:(Nat->C2)->Act) (hm:P.follows .mixedOrders=B) (hB:Nu ops sp a.tmps.size=B) (hhs:(ul sp.length).map (DY sp (I7 ops sp))=hs) (hfin:∀bs,DK ops sp bs sp.length a=fin bs)
  (m:AC w0 H L w) (hS0:Sh (vU ops.size G) (λ_=>⟨0,0,undef,[]⟩) []) (hops:OK P ops sp w0 H L Sh fin ops.toList sp 0)
  (h:∀bs w' Ls,(∀(j:Nat) (s:Du) p,sp[j]?=O s->s.new=O p->p.2.2 (p.2.1.map bs) (bs j))->Sh (I7 ops sp) bs Ls->AC w0 H (NI bs (Ls++L) hs 0) w'->wpList P ops Q (ops.toList.drop sp.length) (fin bs) w'):(Code.region id ops B).wp P Q a w:=
 wp_region_any hm (JL.all sp hs fin hB hhs hfin m hS0 hops h)
end
end
