/- Part 6: PPA PPC PCN PCO PCH PCI PCJ PCP PCQ PCR PCS PPB PPD. -/
import Derived.Test.YtpjbcplpdjobjaaGreatN03
namespace Go.Proofs.YtpjbcplpdjobjaaGreat
set_option maxRecDepth 100000
set_option maxHeartbeats 0
set_option linter.unusedVariables false
set_option linter.unusedSimpArgs false
set_option linter.unusedSectionVars false
open Go Go.RowKit
open _root_.Go.Proofs.Tryz renaming prog→yA
open _root_.Bool renaming true_and→yB,and_eq_true→uB,eq_iff_iff→uM,not_eq_true'→uQ,or_eq_true→uW
open _root_.List renaming nil_append→uA,mem_singleton→uD,cons_append→uE,all_eq_true→uF,getElem?_eq_getElem→uH,reverse_reverse→uI,length_cons→uJ,drop_succ_cons→uK,drop_zero→uL,length_nil→uN,toList_toArray→uO,getElem_mem→uR,mem_cons→uS,mem_range→uT,flatMap_nil→uU,reverse_cons→uX,length_map→uY,mem_map→ud,mem_append→uh,mem_take_iff_getElem→ui,map_cons→uj,map_map→ul,append_assoc→um
open _root_.ByteArray renaming empty→uC
open _root_.Prod renaming fst→uG
open _root_.Nat renaming zero_le→uP,lt_succ_iff_lt_or_eq→uV
open _root_.Go.World renaming size_alloc→uZ
open _root_.Int renaming toNat_natCast→un
open _root_.Go.Proofs.Tryz
open Option renaming some→O,none→X
open Bool renaming true→B,false→G
open Decidable renaming decide→T
open _root_.Go renaming Value→V_,World→W_,Calls→K_,execOp→x_,Operand→O_,Program→P_,TypeId→T_,run_underlying→u_,bodyPost_ret→b_,Ending→E_
open _root_.Go.Value renaming slice→V,int→Y,pointer→M,string→U,bool→N
open _root_.Go.IntKind renaming i64→I
open _root_.Go.Obj renaming cells→C
theorem GD:∀(r:List ByteArray) (s:ByteArray),s∈(DW r.reverse).map uG↔s∈r
 |[],s=>by simp[DW]
 |a::r,s=>by
  have ih:=GD r
  rw[uX,NM,Rg]
  by_cases h:BX (DW r.reverse) a=X
  .rw[p_ h,uh,ih s,uD,uS]
   exact Or.comm
  .rw[n_ h,ih s,uS]
   rw[IX,ih a] at h
   constructor
   .exact .inr
   .rintro(rfl|h')
    .exact Classical.not_not.1 h
    .exact h'
theorem cA (l:List ByteArray) (s:ByteArray):s∈(DW l).map uG↔s∈l:=by have:=GD l.reverse s;rw[uI,List.mem_reverse] at this;exact this
theorem Ma:∀r:List ByteArray,(DW r.reverse).length<=r.length/\((DW r.reverse).length=r.length↔r.Nodup)
 |[]=>by simp[DW]
 |a::r=>by
  have ih:=Ma r
  rw[uX,NM,<-uY (f:=uG),Rg,uJ,List.nodup_cons]
  by_cases h:a∈r
  .rw[n_ (by rw[IX,GD];exact λh2=>h2 h),uY]
   refine⟨by omega,⟨λe=>by omega,λe=>a_ h e.1⟩⟩
  .rw[p_ (by rw[IX,GD];exact h),List.length_append,uY,List.length_singleton]
   refine⟨by omega,⟨λe=>⟨h,ih.2.1 A0⟩,λe=>by rw[ih.2.2 e.2]⟩⟩
theorem WF (l:List ByteArray):(DW l).length=l.length↔l.Nodup:=by have:=(Ma l.reverse).2;rw[uI,List.length_reverse] at this;rw[this];(have hp:∀r:List ByteArray,r.Nodup↔List.Pairwise (·≠·) r:=λ_=>Iff.rfl);rw[hp,hp,List.pairwise_reverse];constructor<;>exact λh=>h.imp λh=>Ne.symm h
theorem Dq (xs:List ByteArray) (s:ByteArray):Aw xs s<0↔s ∉ xs:=by
 unfold Aw;rcases Cy (λx=>T (x=s)) xs with ⟨h1,h2⟩|⟨k,hk,h1,h2⟩
 .rw[h1];refine⟨λ_ h=>?_,λ_=>by omega⟩;have:=h2 s h;simp at this
 .rw[h1];refine⟨λh=>by omega,λh=>a_ ?_ h⟩;rw[<-o_ h2];exact uR hk
theorem GG (l:List ByteArray):Cf l=B9 l:=by
 rw[uM];unfold Cf B9;rw[uB,decide_eq_true_eq,WF,uF,uF];have aa:l.Nodup↔∀(i j:Nat) (hi:i<l.length) (hj:j<l.length),i<j->l[i]≠l[j]:=List.pairwise_iff_getElem;rw[aa];constructor
 .rintro⟨h1,h2⟩ k hk;have hk:=uT.1 hk;rw[uH hk];simp only[uB,decide_eq_true_eq];refine⟨h2 _ (uR hk),(Dq _ _).2 λh=>?_⟩;obtain⟨j,hj,e⟩:=ui.1 h;exact h1 j k A0 hk A0 e
 .intro h;(have hh:∀k (hk:k<l.length),B3 l[k]=B/\l[k] ∉ l.take k:=λk hk=>by have:=h k (uT.2 hk);rw[uH hk] at this;simp only[uB,decide_eq_true_eq] at this;exact⟨this.1,(Dq _ _).1 this.2⟩);refine⟨λi j hi hj ad e=>(hh j hj).2 ?_,λs hs=>?_⟩
  .rw[<-e];exact ui.2 ⟨i,by omega,Z⟩
  .obtain⟨k,hk,rfl⟩:=List.getElem_of_mem hs;exact(hh k hk).1
theorem Up (xs:List ByteArray) (s:ByteArray):T (0<=Aw xs s)=(BX (DW xs) s).isSome:=by
 rw[uM,decide_eq_true_eq,Option.isSome_iff_ne_none,ne_eq,IX,cA];constructor
 .intro h1 h2;have:=(Dq xs s).2 h2;omega
 .intro h1;have:=mt (Dq xs s).1 h1;omega
variable {α:Type}
theorem Pf {α:Type} [DecidableEq α] {p:V_->Prop} {k:α} {v:V_} (hv:p v):∀(l:List (α×V_)),(∀e∈l,p e.2)->∀e∈FT l k v,p e.2
 |[],_,e,he=>by rw[FT,uD] at he;rw[he];exact hv
 |q::l,h,e,he=>by
  unfold FT at he
  split at he
  .rcases uS.1 he with rfl|he
   .exact hv
   .exact h e (.tail _ he)
  .rcases uS.1 he with rfl|he
   .exact h _ (.head _)
   .exact Pf hv l (λe he=>h e (.tail _ he)) e he
theorem Mw {α:Type} [DecidableEq α] {k:α} {v:V_}:∀{l:List (α×V_)},BX l k=O v->∃e∈l,e.2=v
 |[],h=>by cases h
 |q::l,h=>by
  unfold BX at h
  split at h
  .cases h;exact⟨q,.head _,Z⟩
  .obtain⟨e,he,hv⟩:=Mw h
   exact⟨e,.tail _ he,hv⟩
def Fw {α:Type} [DecidableEq α] (l:List (α×V_)) (k:α):Int:=match BX l k with
 |some (Y _ n)=>n
 |_=>0
def QO {α:Type} (l:List (α×V_)):Prop:=∀e∈l,∃n:Int,e.2= Y I n
theorem V3 [DecidableEq α] {l:List (α×V_)} (h:QO l) (k:α):(BX l k).getD (Y I 0)= Y I (Fw l k):=by
 unfold Fw
 cases hl:BX l k with
 |none=>rfl
 |some v=>obtain⟨e,he,rfl⟩:=Mw hl;obtain⟨n,hn⟩:=h e he;rw[hn];rfl
theorem Tl (l:List AK):QO (DQ l):=by unfold DQ;suffices h:∀(l:List AK) (m:List (ByteArray×V_)),QO m->QO (l.foldl (λm c=>FT m c.name (Y I c.f.length)) m) from h l [] (λ_ h=>CZ);exact fJ
theorem Um (l:List Aj):QO (EL l):=by unfold EL;suffices h:∀(l:List Aj) (m:List (ByteArray×V_)),QO m->QO (l.foldl (λm c=>FT m c.name (Y I c.parts)) m) from h l [] (λ_ h=>CZ);exact fJ
theorem ZO (l:List ByteArray):∀e∈DW l,e.2= N true:=by
 unfold DW;suffices h:∀(l:List ByteArray) (m:List (ByteArray×V_)),(∀e∈m,e.2= N B)->∀e∈l.foldl (λm s=>FT m s (N B)) m,e.2= N B from h l [] (λ_ h=>CZ);intro l
 induction l with
 |nil=>exact λm h=>h
 |cons c l ih=>exact λm h=>ih _ (Pf (p:=λv=>v= N B) Z m h)
def IU (l:List ByteArray) (s:ByteArray):Bool:=T (0<=Aw l s)
theorem ZS (l:List ByteArray) (s:ByteArray):(BX (DW l) s).getD (N G)= N (IU l s):=by
 unfold IU;rw[Up]
 cases hl:BX (DW l) s with
 |none=>rfl
 |some v=>obtain⟨e,he,rfl⟩:=Mw hl;rw[ZO l e he];rfl
theorem PE {α β:Type} [DecidableEq α] (f:β->V_) (k:α):∀l:List (α×β),BX (l.map λp=>(p.1,f p.2)) k=(l.find? λp=>T (p.1=k)).map λp=>f p.2
 |[]=>rfl
 |q::l=>by
  rw[uj,BX,List.find?_cons]
  by_cases h:q.1=k
  .rw[p_ h,t_ h];rfl
  .rw[n_ h,f_ h];exact PE f k l
theorem Vd:(Jm.map uG).Nodup:=by have:Jm.map uG=Ek.map uG:=(by unfold Jm;rw[ul];rfl);rw[this];decide
theorem l9 {om:List (ByteArray×V_)} (h:om.Perm Jm) (s:ByteArray):(BX om s).getD (Y I 0)= Y I (Ev s):=by rw[PQ h Vd];unfold Jm Ev;rw[PE (λn:Int=>Y I n) s Ek];cases Ek.find? (λp=>T (p.1=s))<;>rfl
def PG (x:AI) (s:Qh) (n:ByteArray):Bool:=
 if s.name=0 then T (n=uC) else if s.name=1 then DC n else if s.name=3 then T (0<Ev n) else if s.name=5 then B3 n
 else if s.name=4 then IU (x.k.map AK.name) n else if s.name=6 then IU (x.c.map Aj.name) n else if s.name=7 then IU x.r n else IU (x.d.map AF.name) n
def Nc (s:Qh) (n:ByteArray):Int:=if s.name=3 then Ev n else s.args
def Ed (x:AI) (s:Qh) (i:Bu):Bool:=
 if i.op=15 then PG x s i.name&&(T (Fw (DQ x.k) i.name= -1)||T ((i.args.length:Int)=Fw (DQ x.k) i.name))
 else if i.op=18 then PG x s i.name&&(T (Fw (EL x.c) i.name= -1)||T ((i.args.length:Int)=Fw (EL x.c) i.name))
 else if i.op=13 then (if i.m=1 then IU (x.d.map AF.name) i.name&&T (i.args.length<=6) else PG x s i.name&&F6 i.args.length 1 7)
 else PG x s i.name&&(T (Nc s i.name= -1)||T ((i.args.length:Int)=Nc s i.name))
variable {H:Hp} {L:List (Nat×Obj)} {w w0:World}
theorem kp (s:ByteArray):s.toList.isEmpty=T (s=uC):=by
 by_cases h:s=uC
 .rw[t_ h,(B5 _).2 h];rfl
 .rw[f_ h];cases hl:s.toList with
  |nil=>exact a_ ((B5 _).1 hl) h
  |cons a l=>rfl
abbrev TE (s:Qh):Obj:= C #[U s.word,N s.to,Y I s.args,Y .u8 s.name,N s.number,Y I s.low,Y I s.high,Y I s.places,N s.w,N s.stops] 306
theorem W8 (x:AI) (s:Qh) (hs:s.name=0\/s.name=1\/s.name=3\/s.name=5\/s.name=4\/s.name=6\/s.name=7\/s.name=2) (i:Bu) (va vg vw:V_) (fb:Nat) (m:AC w0 H L w) (hf:FQ H x fb) (hi:Gj H i va vg vw):K_ yA 311 #[M (O ⟨fb,0,X⟩),s.val,Ec i va vg vw] w (Bv w0 H L (N (Ed x s i))):=by
 have HI:=A5 hi;obtain⟨b5,c5,b6,c6,b7,c7,rfl,rfl,rfl,l5,l6,l7⟩:=hi.shapes;clear hi;obtain⟨vc,vk,vr,vd,v1,v2,v3,v4,v5,mc,mk,ax,md0,sm,om,kn,al,aw,h1,h2,h3,az,g1,g2,g3,g4,h4,bc,h5,ay⟩:=hf.box;have HFB:=A5 al;clear hf al aw h4 bc;(have HL1:Hid (∀W:W_,∀L',AC w0 H L' W->(Instr.lookup 229 v1 (U i.name) G).run yA W= .ok (Y I (Fw (DQ x.k) i.name)) W):=A5 λW L' mW=>by have:=h1.look (P:=yA) (t:=229) (et:=3) (z:= Y I 0) IZ underlying229 (by go_simp) mW i.name G;rw[V3 (Tl _)] at this;exact this);(have bh:Hid (∀W:W_,∀L',AC w0 H L' W->(Instr.lookup 229 v2 (U i.name) G).run yA W= .ok (Y I (Fw (EL x.c) i.name)) W):=A5 λW L' mW=>by have:=h2.look (P:=yA) (t:=229) (et:=3) (z:= Y I 0) IZ underlying229 (by go_simp) mW i.name G;rw[V3 (Um _)] at this;exact this);(have HL5:Hid (∀W:W_,∀L',AC w0 H L' W->(Instr.lookup 229 v5 (U i.name) G).run yA W= .ok (Y I (Ev i.name)) W):=A5 λW L' mW=>by have:=h5.look (P:=yA) (t:=229) (et:=3) (z:= Y I 0) IZ underlying229 (by go_simp) mW i.name G;rw[l9 ay] at this;exact this);(have HL3:Hid (∀nm u:Int,∀v,u=nm->BX kn nm=O v->∀W:W_,∀L',AC w0 H L' W->(Instr.lookup 251 v3 (Y .u8 u) G).run yA W= .ok v W):=A5 λnm u v hu hv W L' mW=>by subst hu;have:=h3.look (P:=yA) (t:=251) (et:=255) (z:= .map X) Pi underlying251 (by go_simp) mW u G;rw[hv] at this;exact this);(have HL4:Hid (∀(v:V_) (l:List ByteArray),Kb H U v (DW l)->∀W:W_,∀L',AC w0 H L' W->(Instr.lookup 255 v (U i.name) G).run yA W= .ok (N (IU l i.name)) W):=A5 λv l hv W L' mW=>by have:=hv.look (P:=yA) (t:=255) (et:=4) (z:= N G) IZ underlying255 (by go_simp) mW i.name G;rw[ZS] at this;exact this);have HG:=A5 (And.intro g1 (And.intro g2 (And.intro g3 g4)));have HKN:=A5 az;obtain⟨q1,e1,k1,rfl,-⟩:=h1;obtain⟨q2,e2,k2,rfl,-⟩:=h2;obtain⟨q3,e3,k3,rfl,-⟩:=h3;obtain⟨q5,e5,k5,rfl,-⟩:=h5;clear g1 g2 g3 g4 az ay;have m3:=(m.alloc (TE s)).alloc (SB i b5 c5 b6 c6 b7 c7);simp only[uZ] at m3;generalize bj:w.heap.size=xb at*;unfold Ec Qh.val;generalize aj:Ed x s i=res;have HRES:=A5 aj;clear aj;obtain⟨many,ad⟩:∃n,Nc s i.name=n:=⟨_,Z⟩;obtain⟨is,ba⟩:∃b,PG x s i.name=b:=⟨_,Z⟩;have HMANY:=A5 ad;have HIS:=A5 ba;clear ad ba;have es:=m3.e16;go_enter func311,ntmps311;refine TS (De 4) (λa W=>a.defers=[]/\a.tmps.size=113/\a.tmps[0]?=O (M (O ⟨fb,0,X⟩))/\a.tmps[4]?=O (M (O ⟨xb,0,X⟩))/\a.tmps[5]?=O (M (O ⟨xb+1,0,X⟩))/\a.tmps[6]?=O (N G)/\a.tmps[7]?=O (Y I many)/\a.tmps[8]?=O (N is)/\AC w0 H ((xb+1,SB i b5 c5 b6 c6 b7 c7)::(xb,TE s)::L) W) ?_ ?_
 .intro K key;simp only[CN,um,uE,uA,List.take_succ_cons,List.take_zero];intro K1 bf;go_wp2_with fail;intro K2 bd;go_wp2_with fail;intro K3 hK3;go_wp2_with fail;intro K4 hK4;refine Da (F:=λw'=>Code.wp _ _ _ _ w') m3 ?_;clear es m3;intro wr mr;have es:=mr.e16;have HS:=A5 hs;clear hs;have HKEY:=A5 key;clear key;rcases HS.out with hn|HS
  .clear HS;have ae:((s.name:Int)==0)=true:=Fp;have HN:=A5 hn;clear hn;go_wp2_with fail;(try simp only[LK]);exact HKEY.out _ _ ⟨Z,Z,Z,Z,Z,Z,congrArg (λz=>O (Y I z)) iA,congrArg (λz=>O (N z)) (by have h1:=HIS.out;have h2:=HN.out;unfold PG at h1;simp only[h2] at h1;exact(kp i.name).trans h1),mr⟩
  rcases HS with hn|HS
  .clear HS;have ae:((s.name:Int)==0)=false:=bF A0;have ag:((s.name:Int)==1)=true:=Fp;have HN:=A5 hn;clear hn;go_wp2_with (go_at_call 329;refine(UA _ HI.out.1.name _).mono ?_;rintro e w4 ⟨rfl,rfl⟩);(try simp only[LK]);exact lT
  rcases HS with hn|HS
  .clear HS;have ae:((s.name:Int)==0)=false:=bF A0;have ag:((s.name:Int)==1)=false:=bF A0;have ah:((s.name:Int)==3)=true:=Fp;have HN:=A5 hn;clear hn;go_wp2_with fail;clear es;refine B1 mr [VK (M (O ⟨fb,0,X⟩)),VK (M (O ⟨fb,0,X⟩)),VK (M (O ⟨fb,8,X⟩)),VK (.map (O q5)),VK (M (O ⟨xb+1,5,X⟩)),VK (U i.name),VK (Y I (Ev i.name)),VK (M (O ⟨fb,0,X⟩)),VK (M (O ⟨fb,0,X⟩)),VK (M (O ⟨fb,8,X⟩)),VK (.map (O q5)),VK (M (O ⟨xb+1,5,X⟩)),VK (U i.name),VK (Y I (Ev i.name)),VK (N (T (0<Ev i.name))),VK (Y I (Ev i.name))] (nf 16) ?_ ?_
   .exact⟨AA,AA,AA,Kn,AA,EZ,jT,AA,AA,AA,Kn,AA,EZ,jT,AA,AA,trivial⟩
   .intro bs wd hb md;replace md:=AC.like0 mr md;(try simp only[uE,uA] at md);simp only[uJ,uN,Nat.reduceAdd,uO,uK,uL];clear hb;go_wp2_with fail;(try simp only[LK]);exact HKEY.out _ _ ⟨Z,Z,Z,Z,Z,Z,congrArg (λz=>O (Y I z)) (by have h1:=HMANY.out;have h2:=HN.out;unfold Nc at h1;rw[p_ h2] at h1;exact h1),congrArg (λz=>O (N z)) fU,md⟩
  rcases HS with hn|HS
  .clear HS;have ae:((s.name:Int)==0)=false:=bF A0;have ag:((s.name:Int)==1)=false:=bF A0;have ah:((s.name:Int)==3)=false:=bF A0;have aq:((s.name:Int)==5)=true:=Fp;have HN:=A5 hn;clear hn;go_wp2_with (go_at_call 267;refine(GF _ HI.out.1.name _).mono ?_;rintro e w4 ⟨rfl,rfl⟩);(try simp only[LK]);exact lT
  rcases HS with hn|HS
  .clear HS;have ae:((s.name:Int)==0)=false:=bF A0;have ag:((s.name:Int)==1)=false:=bF A0;have ah:((s.name:Int)==3)=false:=bF A0;have aq:((s.name:Int)==5)=false:=bF A0;have HN:=A5 hn;clear hn;go_wp2_with fail;clear es;refine B1 mr [VK (M (O ⟨fb,0,X⟩)),VK (M (O ⟨fb,0,X⟩)),VK (M (O ⟨fb,6,X⟩)),VK (.map (O q3)),VK (M (O ⟨xb,3,X⟩)),VK (Y .u8 s.name),VK (mc),VK (M (O ⟨xb+1,5,X⟩)),VK (U i.name),VK (N (IU (x.k.map AK.name) i.name))] (nf 10) ?_ ?_
   .refine⟨AA,AA,AA,Kn,AA,EZ,?_,AA,EZ,?_,trivial⟩
    ·(refine Al.vk Z λbs w hb m=>?_);have hl:=HL3.out 4 s.name mc EU Pn w _ m;exact AT
    ·(refine Al.vk Z λbs w hb m=>?_);have hl:=HL4.out _ _ (HG.out.1) w _ m;exact AT
   .exact Yf
  rcases HS with hn|HS
  .clear HS;have ae:((s.name:Int)==0)=false:=bF A0;have ag:((s.name:Int)==1)=false:=bF A0;have ah:((s.name:Int)==3)=false:=bF A0;have aq:((s.name:Int)==5)=false:=bF A0;have HN:=A5 hn;clear hn;go_wp2_with fail;clear es;refine B1 mr [VK (M (O ⟨fb,0,X⟩)),VK (M (O ⟨fb,0,X⟩)),VK (M (O ⟨fb,6,X⟩)),VK (.map (O q3)),VK (M (O ⟨xb,3,X⟩)),VK (Y .u8 s.name),VK (mk),VK (M (O ⟨xb+1,5,X⟩)),VK (U i.name),VK (N (IU (x.c.map Aj.name) i.name))] (nf 10) ?_ ?_
   .refine⟨AA,AA,AA,Kn,AA,EZ,?_,AA,EZ,?_,trivial⟩
    ·(refine Al.vk Z λbs w hb m=>?_);have hl:=HL3.out 6 s.name mk EU Pn w _ m;exact AT
    ·(refine Al.vk Z λbs w hb m=>?_);have hl:=HL4.out _ _ (HG.out.2.1) w _ m;exact AT
   .exact Yf
  rcases HS with hn|HS
  .clear HS;have ae:((s.name:Int)==0)=false:=bF A0;have ag:((s.name:Int)==1)=false:=bF A0;have ah:((s.name:Int)==3)=false:=bF A0;have aq:((s.name:Int)==5)=false:=bF A0;have HN:=A5 hn;clear hn;go_wp2_with fail;clear es;refine B1 mr [VK (M (O ⟨fb,0,X⟩)),VK (M (O ⟨fb,0,X⟩)),VK (M (O ⟨fb,6,X⟩)),VK (.map (O q3)),VK (M (O ⟨xb,3,X⟩)),VK (Y .u8 s.name),VK (ax),VK (M (O ⟨xb+1,5,X⟩)),VK (U i.name),VK (N (IU (x.r) i.name))] (nf 10) ?_ ?_
   .refine⟨AA,AA,AA,Kn,AA,EZ,?_,AA,EZ,?_,trivial⟩
    ·(refine Al.vk Z λbs w hb m=>?_);have hl:=HL3.out 7 s.name ax EU Pn w _ m;exact AT
    ·(refine Al.vk Z λbs w hb m=>?_);have hl:=HL4.out _ _ (HG.out.2.2.1) w _ m;exact AT
   .exact Yf
  have hn:=HS;clear HS;have ae:((s.name:Int)==0)=false:=bF A0;have ag:((s.name:Int)==1)=false:=bF A0;have ah:((s.name:Int)==3)=false:=bF A0;have aq:((s.name:Int)==5)=false:=bF A0;have HN:=A5 hn;clear hn;go_wp2_with fail;clear es;refine B1 mr [VK (M (O ⟨fb,0,X⟩)),VK (M (O ⟨fb,0,X⟩)),VK (M (O ⟨fb,6,X⟩)),VK (.map (O q3)),VK (M (O ⟨xb,3,X⟩)),VK (Y .u8 s.name),VK (md0),VK (M (O ⟨xb+1,5,X⟩)),VK (U i.name),VK (N (IU (x.d.map AF.name) i.name))] (nf 10) ?_ ?_
  .refine⟨AA,AA,AA,Kn,AA,EZ,?_,AA,EZ,?_,trivial⟩
   ·(refine Al.vk Z λbs w hb m=>?_);have hl:=HL3.out 2 s.name md0 EU Pn w _ m;exact AT
   ·(refine Al.vk Z λbs w hb m=>?_);have hl:=HL4.out _ _ (HG.out.2.2.2) w _ m;exact AT
  .exact Yf
 .rintro⟨tm,df⟩ W ⟨bb,lg,a0,a4,a5,a6,a7,a8,m6⟩;simp only at bb lg a0 a4 a5 a6 a7 a8;subst bb;obtain⟨u,hu⟩:=Ii tm lg;simp only[List.range,List.range.loop,List.map] at hu;subst hu;clear lg;have a0:u 0= M (O ⟨fb,0,X⟩):=Option.some.inj a0;have a4:u 4= M (O ⟨xb,0,X⟩):=Option.some.inj a4;have a5:u 5= M (O ⟨xb+1,0,X⟩):=Option.some.inj a5;have a6:u 6= N false:=Option.some.inj a6;have a7:u 7= Y I many:=Option.some.inj a7;have a8:u 8= N is:=Option.some.inj a8;clear es m3;have es:=m6.e16;simp only[CN,um,uE,uA,uK,uL];intro K1 bf;go_wp2_with fail;intro K2 bd;have bk:=A5 HI.out.1;by_cases hn:i.op=15
  .have aa:=HRES.out;unfold Ed at aa;rw[p_ hn,HIS.out] at aa;have af:((i.op:Int)==15)=true:=Fp;have HN:=A5 hn;clear hn;generalize ak:Fw (DQ x.k) i.name=mz at*;have HR:=A5 aa;have bg:=A5 ak;clear aa ak;go_wp2_with fail;clear es;refine B1 m6 [VK (M (O ⟨fb,0,X⟩)),VK (M (O ⟨fb,0,X⟩)),VK (M (O ⟨fb,4,X⟩)),VK (.map (O q1)),VK (M (O ⟨xb+1,5,X⟩)),VK (U i.name),VK (Y I mz)] (nf 7) ?_ ?_
   .refine⟨AA,AA,AA,Kn,AA,EZ,?_,trivial⟩
    ·(refine Al.vk Z λbs w hb m=>?_);have hl:=HL1.out w _ m;exact AT
   .exact pg
  have ao:=hn;clear hn;by_cases hn:i.op=18
  .have aa:=HRES.out;unfold Ed at aa;rw[n_ ao,p_ hn,HIS.out] at aa;have af:((i.op:Int)==15)=false:=bF A0;have ai:((i.op:Int)==18)=true:=Fp;have HN:=A5 hn;clear hn;generalize ak:Fw (EL x.c) i.name=mz at*;have HR:=A5 aa;have bg:=A5 ak;clear aa ak;go_wp2_with fail;clear es;refine B1 m6 [VK (M (O ⟨fb,0,X⟩)),VK (M (O ⟨fb,0,X⟩)),VK (M (O ⟨fb,5,X⟩)),VK (.map (O q2)),VK (M (O ⟨xb+1,5,X⟩)),VK (U i.name),VK (Y I mz)] (nf 7) ?_ ?_
   .refine⟨AA,AA,AA,Kn,AA,EZ,?_,trivial⟩
    ·(refine Al.vk Z λbs w hb m=>?_);have hl:=bh.out w _ m;exact AT
   .exact pg
  have au:=hn;clear hn;by_cases hn:i.op=13
  .have aa:=HRES.out;unfold Ed at aa;rw[n_ ao,n_ au,p_ hn,HIS.out] at aa;have af:((i.op:Int)==15)=false:=bF A0;have ai:((i.op:Int)==18)=false:=bF A0;have av:((i.op:Int)==13)=true:=Fp;clear hn ao au;by_cases hm:i.m=1
   .rw[p_ hm] at aa;have z0:(i.m==1)=true:=beq_iff_eq.2 hm;clear hm;have HR:=A5 aa;clear aa;go_wp2_with fail;clear es;cases ar:IU (x.d.map AF.name) i.name
    .have HCD:=A5 ar;clear ar;refine B1 m6 [VK (M (O ⟨fb,0,X⟩)),VK (M (O ⟨fb,0,X⟩)),VK (M (O ⟨fb,6,X⟩)),VK (.map (O q3)),VK (md0),VK (M (O ⟨xb+1,5,X⟩)),VK (U i.name),VK (N G),VK (N G),SK,SK,SK,SK,VK (N G)] (nf 14) ?_ ?_
     .exact⟨AA,AA,AA,Kn,hM,AA,EZ,jl,AA,Ak,Ak,Ak,Ak,AA,trivial⟩
     .intro bs wd hb md;replace md:=AC.like0 m6 md;(try simp only[uE,uA] at md);simp only[uJ,uN,Nat.reduceAdd,uO,uK,uL];clear hb;go_wp2_with fail;go_ret;exact⟨A8 (by rw[<-HR.out,HCD.out];rfl),md.drop.drop⟩
    .have HCD:=A5 ar;clear ar;refine B1 m6 [VK (M (O ⟨fb,0,X⟩)),VK (M (O ⟨fb,0,X⟩)),VK (M (O ⟨fb,6,X⟩)),VK (.map (O q3)),VK (md0),VK (M (O ⟨xb+1,5,X⟩)),VK (U i.name),VK (N B),VK (N B),VK (M (O ⟨xb+1,2,X⟩)),VK (V b5 i.args.length c5),VK (Y I i.args.length),VK (N (T ((i.args.length:Int)<=6))),VK (N (T ((i.args.length:Int)<=6)))] (nf 14) ?_ ?_
     .exact⟨AA,AA,AA,Kn,hM,AA,EZ,jl,AA,Yh,Yh,Yh,Yh,AA,trivial⟩
     .intro bs wd hb md;replace md:=AC.like0 m6 md;(try simp only[uE,uA] at md);simp only[uJ,uN,Nat.reduceAdd,uO,uK,uL];clear hb;go_wp2_with fail;go_ret;exact⟨A8 (by rw[<-HR.out,HCD.out];rw[yB];exact decide_eq_decide.2 A0),md.drop.drop⟩
   .rw[n_ hm] at aa;have z0:(i.m==1)=false:=bF hm;clear hm;have HR:=A5 aa;clear aa;cases is
    .go_wp2_with fail;go_ret;exact⟨A8 (by rw[<-HR.out];rfl),m6.drop.drop⟩
    .go_wp2_with (go_at_call 270;refine(Ad _ _ _ _).mono ?_;rintro e w3 ⟨rfl,rfl⟩);go_ret;exact⟨A8 (by rw[<-HR.out,yB];simp[F6]),m6.drop.drop⟩
  have aa:=HRES.out;unfold Ed at aa;rw[n_ ao,n_ au,n_ hn,HIS.out,HMANY.out] at aa;have af:((i.op:Int)==15)=false:=bF A0;have ai:((i.op:Int)==18)=false:=bF A0;have av:((i.op:Int)==13)=false:=bF A0;clear hn ao au;have HR:=A5 aa;clear aa;go_wp2_with fail;intro K3 hK3;cases is
  .go_wp2_with fail;intro K4 hK4;go_wp2_with fail;go_ret;exact⟨A8 (by rw[<-HR.out];rfl),m6.drop.drop⟩
  .by_cases hm1:many= -1
   .have z1:(many== -1)=true:=beq_iff_eq.2 hm1;have HM1:=A5 hm1;clear hm1;go_wp2_with fail;intro K4 hK4;go_wp2_with fail;go_ret;exact⟨A8 (by rw[<-HR.out,HM1.out];rfl),m6.drop.drop⟩
   .have z1:(many== -1)=false:=bF hm1;have HM1:=A5 hm1;clear hm1;go_wp2_with fail;intro K4 hK4;go_wp2_with fail;go_ret;exact⟨A8 nQ,m6.drop.drop⟩
variable {k:Nat}
def SX (l:List FF) (lS many:Int) (k:Nat):Bool:=match l[k]? with
 |some w=>Mu w lS many (T (k+1=l.length))
 |none=>B
theorem gE {l:List FF} {lS many:Int} (hk:k<l.length) (h:SX l lS many k=G):Eu l lS many=false:=by unfold Eu;exact List.all_eq_false.2 ⟨k,uT.2 hk,by show ¬SX l lS many k=B;rw[h];simp⟩
theorem aD {l:List FF} {lS many:Int} (h:∀j,j<l.length->SX l lS many j=B):Eu l lS many=true:=by unfold Eu;exact uF.2 λj hj=>h j (uT.1 hj)
theorem Qr (c:AF) (l:List FF) (b8:Option Addr) (c8:Nat) (vw:V_) (fv:V_) (hreg:0<=c.g/\c.g<=9223372036854775807) (hins:(c.i.length:Int)<=9223372036854775807) (m:AC w0 H L w) (hv:AX Iw H vw l):K_ yA 312 #[fv,Gm c (V b8 c.i.length c8),vw] w (Bv w0 H L (N (Eu l c.g c.i.length&&F6 l.length 1 4))):=by
 have HV:=A5 hv;obtain⟨b,cc,rfl,bd,au,_,_⟩:=hv;have au:=A9 au;have m1:=m.alloc (At c (V b8 c.i.length c8));generalize az:w.heap.size=xb at*;unfold Gm;have bc:IntKind.i64.wrap (c.g-1)=c.g-1:=IntWalk.i64_in _ A0;have bb:IntKind.i64.wrap ((c.i.length:Int)-1)=(c.i.length:Int)-1:=IntWalk.i64_in _ A0;have ba:IntKind.i64.wrap ((l.length:Int)-1)=(l.length:Int)-1:=IntWalk.i64_in _ A0;generalize ae:(Eu l c.g c.i.length&&F6 l.length 1 4)=res;have HRES:=A5 ae;clear ae;have es:=m1.e14;go_enter func312,ntmps312;go_wp2_with fail;clear es;(go_loopw [12] (λah wr=>∃k:Nat,k<=l.length/\ah= Y I k/\Hid (∀j,j<k->SX l c.g c.i.length j=B)/\AC w0 H ((xb,At c (V b8 c.i.length c8))::L) wr) (λah _=>l.length-(intOf ah).toNat));case atStart=>exact⟨0,uP _,Z,A5 (λj hj=>a_ hj A0),m1⟩
 case round=>
  clear m1;obtain⟨k,hk,rfl,HA,mk⟩:=hrel;by_cases eP:k<l.length
  .have ll:(k:Int)<l.length:=A0;have hx:=uH eP;have HW:=A5 (show SX l c.g c.i.length k=Mu l[k] c.g c.i.length (T (k+1=l.length)) by unfold SX;rw[hx]);generalize l[k]=y at*;obtain⟨kA,off,rfl,f0,f1,f2,f3,f4,lf⟩:=HV.out.getWay hx;clear hx;have d0:=f0.cell mk;have d1:=f1.cell mk;have d2:=f2.cell mk;have d3:=f3.cell mk;have d4:=f4.cell mk;clear f0 f1 f2 f3 f4;have mS:=mk.alloc (C #[Y .u8 y.kind,Y I y.chan,Y I y.value,Y I y.to,Y I y.go] 228);have es:=mS.e14;obtain⟨g1,ar⟩:∃b,T (0<=y.go/\y.go<=(c.i.length:Int)-1)=b:=⟨_,Z⟩;obtain⟨g2,aq⟩:∃b,T (0<=y.chan/\y.chan<=c.g-1)=b:=⟨_,Z⟩;obtain⟨g3,ao⟩:∃b,T (0<=y.value/\y.value<=c.g-1)=b:=⟨_,Z⟩;obtain⟨g4,al⟩:∃b,T (0<=y.to/\y.to<=c.g-1)=b:=⟨_,Z⟩;have G1:=A5 ar;have G2:=A5 aq;have G3:=A5 ao;have G4:=A5 al;clear ar aq ao al;unfold Mu F6 at HW;by_cases hn:y.kind=1
   .have ag:((y.kind:Int)==1)=true:=Fp;have HN:=A5 hn;clear hn;cases g1
    .exact dR
    .skip;cases g2
     .exact dR
     .skip;cases g3
      .exact dR
      .skip;by_cases zto:y.to= -1;rotate_left
       .have aj:(y.to== -1)=false:=bF zto;have HB:Hid ((T (0<=y.go/\y.go<=(c.i.length:Int)-1)&&(if y.kind=1 then T (0<=y.chan/\y.chan<=c.g-1)&&(T (0<=y.value/\y.value<=c.g-1)&&T (y.to= -1)) else if y.kind=2 then T (0<=y.chan/\y.chan<=c.g-1)&&(T (y.value=0)&&T (0<=y.to/\y.to<=c.g-1)) else T (y.kind=3)&&(T (y.chan=0)&&(T (y.value=0)&&(T (y.to= -1)&&T (k+1=l.length))))))=G):=A5 (by rw[G1.out,G2.out,G3.out,G4.out];rw[p_ HN.out];simp[zto]);exact nH
       have aj:(y.to== -1)=true:=beq_iff_eq.2 zto;have Zto:=A5 zto;clear zto;have HB:Hid ((T (0<=y.go/\y.go<=(c.i.length:Int)-1)&&(if y.kind=1 then T (0<=y.chan/\y.chan<=c.g-1)&&(T (0<=y.value/\y.value<=c.g-1)&&T (y.to= -1)) else if y.kind=2 then T (0<=y.chan/\y.chan<=c.g-1)&&(T (y.value=0)&&T (0<=y.to/\y.to<=c.g-1)) else T (y.kind=3)&&(T (y.chan=0)&&(T (y.value=0)&&(T (y.to= -1)&&T (k+1=l.length))))))=B):=A5 (by rw[G1.out,G2.out,G3.out,G4.out];rw[p_ HN.out];simp[Zto.out]);go_wp2_with (go_at_call 270;refine(Ad _ _ _ _).mono ?_;rintro e w3 ⟨rfl,rfl⟩;first|rw[G1.out]|rw[G2.out]|rw[G3.out]|rw[G4.out]);exact jG
   have N1:=hn;clear hn;by_cases hn:y.kind=2
   .have ag:((y.kind:Int)==1)=false:=bF A0;have ak:((y.kind:Int)==2)=true:=Fp;have HN:=A5 hn;clear hn;cases g1
    .exact qI
    .skip;cases g2
     .exact qI
     .skip;by_cases zva:y.value=0;rotate_left
      .have ai:(y.value==0)=false:=bF zva;have HB:Hid ((T (0<=y.go/\y.go<=(c.i.length:Int)-1)&&(if y.kind=1 then T (0<=y.chan/\y.chan<=c.g-1)&&(T (0<=y.value/\y.value<=c.g-1)&&T (y.to= -1)) else if y.kind=2 then T (0<=y.chan/\y.chan<=c.g-1)&&(T (y.value=0)&&T (0<=y.to/\y.to<=c.g-1)) else T (y.kind=3)&&(T (y.chan=0)&&(T (y.value=0)&&(T (y.to= -1)&&T (k+1=l.length))))))=G):=A5 (by rw[G1.out,G2.out,G3.out,G4.out];rw[n_ EU,p_ HN.out];simp[zva]);exact mN
      have ai:(y.value==0)=true:=beq_iff_eq.2 zva;have Zva:=A5 zva;clear zva;cases g4
      .have HB:Hid ((T (0<=y.go/\y.go<=(c.i.length:Int)-1)&&(if y.kind=1 then T (0<=y.chan/\y.chan<=c.g-1)&&(T (0<=y.value/\y.value<=c.g-1)&&T (y.to= -1)) else if y.kind=2 then T (0<=y.chan/\y.chan<=c.g-1)&&(T (y.value=0)&&T (0<=y.to/\y.to<=c.g-1)) else T (y.kind=3)&&(T (y.chan=0)&&(T (y.value=0)&&(T (y.to= -1)&&T (k+1=l.length))))))=G):=A5 nz;go_wp2_with (go_at_call 270;refine(Ad _ _ _ _).mono ?_;rintro e w3 ⟨rfl,rfl⟩;first|rw[G1.out]|rw[G2.out]|rw[G3.out]|rw[G4.out]);exact QF
      .skip;have HB:Hid ((T (0<=y.go/\y.go<=(c.i.length:Int)-1)&&(if y.kind=1 then T (0<=y.chan/\y.chan<=c.g-1)&&(T (0<=y.value/\y.value<=c.g-1)&&T (y.to= -1)) else if y.kind=2 then T (0<=y.chan/\y.chan<=c.g-1)&&(T (y.value=0)&&T (0<=y.to/\y.to<=c.g-1)) else T (y.kind=3)&&(T (y.chan=0)&&(T (y.value=0)&&(T (y.to= -1)&&T (k+1=l.length))))))=B):=A5 nz;go_wp2_with (go_at_call 270;refine(Ad _ _ _ _).mono ?_;rintro e w3 ⟨rfl,rfl⟩;first|rw[G1.out]|rw[G2.out]|rw[G3.out]|rw[G4.out]);exact jG
   have N2:=hn;clear hn;by_cases hn:y.kind=3
   .have ag:((y.kind:Int)==1)=false:=bF A0;have ak:((y.kind:Int)==2)=false:=bF A0;have aw:((y.kind:Int)==3)=true:=Fp;have HN:=A5 hn;clear hn;cases g1
    .have HB:Hid ((T (0<=y.go/\y.go<=(c.i.length:Int)-1)&&(if y.kind=1 then T (0<=y.chan/\y.chan<=c.g-1)&&(T (0<=y.value/\y.value<=c.g-1)&&T (y.to= -1)) else if y.kind=2 then T (0<=y.chan/\y.chan<=c.g-1)&&(T (y.value=0)&&T (0<=y.to/\y.to<=c.g-1)) else T (y.kind=3)&&(T (y.chan=0)&&(T (y.value=0)&&(T (y.to= -1)&&T (k+1=l.length))))))=G):=A5 (by rw[G1.out,G2.out,G3.out,G4.out];rw[n_ EU,n_ EU,t_ HN.out];simp[]);go_wp2_with (go_at_call 270;refine(Ad _ _ _ _).mono ?_;rintro e w3 ⟨rfl,rfl⟩;first|rw[G1.out]|rw[G2.out]|rw[G3.out]|rw[G4.out]);exact QF
    .skip;by_cases aa:y.chan=0;rotate_left
     .have ay:(y.chan==0)=false:=bF aa;have HB:Hid ((T (0<=y.go/\y.go<=(c.i.length:Int)-1)&&(if y.kind=1 then T (0<=y.chan/\y.chan<=c.g-1)&&(T (0<=y.value/\y.value<=c.g-1)&&T (y.to= -1)) else if y.kind=2 then T (0<=y.chan/\y.chan<=c.g-1)&&(T (y.value=0)&&T (0<=y.to/\y.to<=c.g-1)) else T (y.kind=3)&&(T (y.chan=0)&&(T (y.value=0)&&(T (y.to= -1)&&T (k+1=l.length))))))=G):=A5 (by rw[G1.out,G2.out,G3.out,G4.out];rw[n_ EU,n_ EU,t_ HN.out];simp[aa]);have af:=A5 aa;clear aa;go_wp2_with (go_at_call 270;refine(Ad _ _ _ _).mono ?_;rintro e w3 ⟨rfl,rfl⟩;first|rw[G1.out]|rw[G2.out]|rw[G3.out]|rw[G4.out]);exact QF
     have ay:(y.chan==0)=true:=beq_iff_eq.2 aa;have af:=A5 aa;clear aa;by_cases zva:y.value=0;rotate_left
     .have ai:(y.value==0)=false:=bF zva;have HB:Hid ((T (0<=y.go/\y.go<=(c.i.length:Int)-1)&&(if y.kind=1 then T (0<=y.chan/\y.chan<=c.g-1)&&(T (0<=y.value/\y.value<=c.g-1)&&T (y.to= -1)) else if y.kind=2 then T (0<=y.chan/\y.chan<=c.g-1)&&(T (y.value=0)&&T (0<=y.to/\y.to<=c.g-1)) else T (y.kind=3)&&(T (y.chan=0)&&(T (y.value=0)&&(T (y.to= -1)&&T (k+1=l.length))))))=G):=A5 (by rw[G1.out,G2.out,G3.out,G4.out];rw[n_ EU,n_ EU,t_ HN.out];simp[af.out,zva]);exact mN
     have ai:(y.value==0)=true:=beq_iff_eq.2 zva;have Zva:=A5 zva;clear zva;by_cases zto:y.to= -1;rotate_left
     .have aj:(y.to== -1)=false:=bF zto;have HB:Hid ((T (0<=y.go/\y.go<=(c.i.length:Int)-1)&&(if y.kind=1 then T (0<=y.chan/\y.chan<=c.g-1)&&(T (0<=y.value/\y.value<=c.g-1)&&T (y.to= -1)) else if y.kind=2 then T (0<=y.chan/\y.chan<=c.g-1)&&(T (y.value=0)&&T (0<=y.to/\y.to<=c.g-1)) else T (y.kind=3)&&(T (y.chan=0)&&(T (y.value=0)&&(T (y.to= -1)&&T (k+1=l.length))))))=G):=A5 (by rw[G1.out,G2.out,G3.out,G4.out];rw[n_ EU,n_ EU,t_ HN.out];simp[af.out,Zva.out,zto]);exact nH
     have aj:(y.to== -1)=true:=beq_iff_eq.2 zto;have Zto:=A5 zto;clear zto;by_cases ad:k+1=l.length;rotate_left
     .have ax:((k:Int)==(l.length:Int)-1)=false:=bF (λe=>ad A0);have HB:Hid ((T (0<=y.go/\y.go<=(c.i.length:Int)-1)&&(if y.kind=1 then T (0<=y.chan/\y.chan<=c.g-1)&&(T (0<=y.value/\y.value<=c.g-1)&&T (y.to= -1)) else if y.kind=2 then T (0<=y.chan/\y.chan<=c.g-1)&&(T (y.value=0)&&T (0<=y.to/\y.to<=c.g-1)) else T (y.kind=3)&&(T (y.chan=0)&&(T (y.value=0)&&(T (y.to= -1)&&T (k+1=l.length))))))=G):=A5 (by rw[G1.out,G2.out,G3.out,G4.out];rw[n_ EU,n_ EU,t_ HN.out];simp[af.out,Zva.out,Zto.out,ad]);have av:=A5 ad;clear ad;go_wp2_with (go_at_call 270;refine(Ad _ _ _ _).mono ?_;rintro e w3 ⟨rfl,rfl⟩;first|rw[G1.out]|rw[G2.out]|rw[G3.out]|rw[G4.out]);exact QF
     have ax:((k:Int)==(l.length:Int)-1)=true:=beq_iff_eq.2 A0;have av:=A5 ad;clear ad;have HB:Hid ((T (0<=y.go/\y.go<=(c.i.length:Int)-1)&&(if y.kind=1 then T (0<=y.chan/\y.chan<=c.g-1)&&(T (0<=y.value/\y.value<=c.g-1)&&T (y.to= -1)) else if y.kind=2 then T (0<=y.chan/\y.chan<=c.g-1)&&(T (y.value=0)&&T (0<=y.to/\y.to<=c.g-1)) else T (y.kind=3)&&(T (y.chan=0)&&(T (y.value=0)&&(T (y.to= -1)&&T (k+1=l.length))))))=B):=A5 (by rw[G1.out,G2.out,G3.out,G4.out];rw[n_ EU,n_ EU,t_ HN.out];simp[af.out,Zva.out,Zto.out,av.out]);go_wp2_with (go_at_call 270;refine(Ad _ _ _ _).mono ?_;rintro e w3 ⟨rfl,rfl⟩;first|rw[G1.out]|rw[G2.out]|rw[G3.out]|rw[G4.out]);exact jG
   have N3:=hn;clear hn;have ag:((y.kind:Int)==1)=false:=bF A0;have ak:((y.kind:Int)==2)=false:=bF A0;have aw:((y.kind:Int)==3)=false:=bF A0;have HB:Hid ((T (0<=y.go/\y.go<=(c.i.length:Int)-1)&&(if y.kind=1 then T (0<=y.chan/\y.chan<=c.g-1)&&(T (0<=y.value/\y.value<=c.g-1)&&T (y.to= -1)) else if y.kind=2 then T (0<=y.chan/\y.chan<=c.g-1)&&(T (y.value=0)&&T (0<=y.to/\y.to<=c.g-1)) else T (y.kind=3)&&(T (y.chan=0)&&(T (y.value=0)&&(T (y.to= -1)&&T (k+1=l.length))))))=G):=A5 (by rw[G1.out,G2.out,G3.out,G4.out];rw[n_ N1,n_ N2,f_ N3];simp);clear N1 N2 N3;go_wp2_with (go_at_call 270;refine(Ad _ _ _ _).mono ?_;rintro e w3 ⟨rfl,rfl⟩;first|rw[G1.out]|rw[G2.out]|rw[G3.out]|rw[G4.out]);exact QF
  .have hge:¬(k:Int)<l.length:=A0;have HY:=A5 (aD (l:=l) (lS:=c.g) (many:=c.i.length) λj hj=>HA.out j A0);have es:=mk.e14;go_wp2_with (go_at_call 270;refine(Ad _ _ _ _).mono ?_;rintro e w3 ⟨rfl,rfl⟩);go_ret;exact⟨A8 (by rw[<-HRES.out,HY.out,yB];simp[F6]),mk.drop⟩
def EK (c:AF):Bool:=T ((c.i.length:Int)<=2000)&&T (c.g<=250)
theorem UB (c:AF) (sv:V_) (m:AC w0 H L w) (h:AX C1 H sv c.i):K_ yA 207 #[.agg #[U c.name,Y I c.params,Y I c.g,sv]] w (Bv w0 H L (N (EK c))):=by
 obtain⟨b,n,rfl,ad,hx,hr⟩:=h;clear hr;have aa:=A9 hx;have m1:=m.alloc (C #[U c.name,Y I c.params,Y I c.g,V b c.i.length n] 111);have es:=m1.e0;unfold EK;by_cases hn:(c.i.length:Int)<=2000
 .by_cases hr:c.g<=250
  .go_enter func207,ntmps207;go_wp2_with fail;go_ret;exact⟨A8 (by simp[hn,hr]),m1.drop⟩
  .go_enter func207,ntmps207;go_wp2_with fail;go_ret;exact⟨A8 (by simp[hn,hr]),m1.drop⟩
 .go_enter func207,ntmps207;go_wp2_with fail;go_ret;exact⟨A8 (by rw[show T ((c.i.length:Int)<=2000)=G from f_ A0,Bool.false_and]),m1.drop⟩
theorem Jq (c:AF) (sv:V_) (bf:Nat) (m:AC w0 H ((bf,C #[.func (.func 207) #[] #[]] 167)::L) w) (h:AX C1 H sv c.i):K_ yA 259 #[.agg #[U c.name,Y I c.params,Y I c.g,sv],M (O ⟨bf,0,X⟩)] w (Bv w0 H ((bf,C #[.func (.func 207) #[] #[]] 167)::L) (N (!EK c))):=by have HH:=A5 h;clear h;have m1:=m.alloc (C #[U c.name,Y I c.params,Y I c.g,sv] 111);generalize hq:EK c=q;have HQ:=A5 hq;clear hq;have es:=m1.e0;go_enter func259,ntmps259;go_wp2_with fail;refine(UB c sv m1 HH.out).mono ?_;exact PY
theorem KV (v:V_) (xs:List AF) (bf:Nat) (m:AC w0 H ((bf,C #[.func (.func 207) #[] #[]] 167)::L) w) (hv:AX Ch H v xs):K_ yA 104 #[v,.func (.func 259) #[] #[M (O ⟨bf,0,X⟩)]] w (Me w0 H ((bf,C #[.func (.func 207) #[] #[]] 167)::L) (!xs.all EK)):=by
 have HV:=A5 hv;obtain⟨b,c,rfl,ad,aa,_,_⟩:=hv;have aa:=A9 aa;go_enter func104,ntmps104;go_wp2_with fail;(go_loopw [5,8] (λ_ i wr=>∃k:Nat,k<=xs.length/\i= Y I k/\(xs.take k).all EK=B/\AC w0 H ((bf,C #[.func (.func 207) #[] #[]] 167)::L) wr) (λ_ i _=>xs.length-(intOf i).toNat));case atStart=>exact⟨0,uP _,Z,Z,m⟩
 case round=>
  clear m;obtain⟨k,hk,rfl,kH,m⟩:=hrel;have HA:=A5 kH;clear kH;by_cases eP:k<xs.length
  .have hx:=uH eP;generalize hy:xs[k]=y at hx;obtain⟨kA,off,sv,rfl,q1,q2,q3,q4,q5,q6⟩:=HV.out.getCode hx;clear hx;have ad:=q1.cell m;have aa:=q2.cell m;have af:=q3.cell m;have ae:=q4.cell m;cases hq:EK y
   .have HQ:=A5 hq;clear hq;have HY:=A5 hy;clear hy;go_wp2_with fail;refine(Jq y sv bf m q5).mono ?_;rw[HQ.out];rintro e w2 ⟨rfl,m2⟩;go_wp2_with fail;go_ret;refine⟨_,Z,?_,m2⟩;rw[show xs.all EK=G from B4 _ xs k eP Rc];simp
   .have HQ:=A5 hq;clear hq;have HY:=A5 hy;clear hy;go_wp2_with fail;refine(Jq y sv bf m q5).mono ?_;exact Rt
  .go_wp2_with fail;exact NO
theorem IP (v:V_) (xs:List AF) (bf:Nat) (m:AC w0 H ((bf,C #[.func (.func 207) #[] #[]] 167)::L) w) (hv:AX Ch H v xs):K_ yA 177 #[v,.func (.func 259) #[] #[M (O ⟨bf,0,X⟩)]] w (Bv w0 H ((bf,C #[.func (.func 207) #[] #[]] 167)::L) (N (!xs.all EK))):=by go_enter func177,ntmps177;go_wp2_with (go_at_call 104;refine(KV v xs bf m hv).mono ?_;rintro e w' ⟨k,rfl,hk,m2⟩;have HK:=A5 hk;clear hk);exact IW
theorem RQ (v:V_) (xs:List AF) (m:AC w0 H L w) (hv:AX Ch H v xs):K_ yA 206 #[v,.func (.func 207) #[] #[]] w (Bv w0 H L (N (xs.all EK))):=by have HV:=A5 hv;clear hv;go_enter func206,ntmps206;have m1:=m.alloc (C #[.func (.func 207) #[] #[]] 167);go_wp2_with fail;refine(IP v xs _ m1 HV.out).mono ?_;exact Ms
def IM (x:AI):Bool:=T ((x.k.length:Int)>40)||(T ((x.c.length:Int)>40)||(T ((x.r.length:Int)>40)||(T ((x.d.length:Int)>80)|| !x.d.all EK)))
theorem WC (x:AI) (vc vk vr vd:V_) (m:AC w0 H L w) (hx:Bz H x vc vk vr vd):K_ yA 160 #[.agg #[vc,vk,vr,vd]] w (Bv w0 H L (N (IM x))):=by
 have HX:=A5 hx;obtain⟨b1,c1,b2,c2,b3,c3,b4,c4,rfl,rfl,rfl,rfl,l1,l2,l3,l4⟩:=hx.shapes;clear hx;have m1:=m.alloc (IB x b1 c1 b2 c2 b3 c3 b4 c4);have es:=m1.e1;generalize aa:IM x=res;have HRES:=A5 aa;clear aa;go_enter func160,ntmps160;by_cases h1:(x.k.length:Int)>40
 .go_wp2_with fail;go_ret;exact⟨A8 (by rw[<-HRES.out];simp[IM,h1]),m1.drop⟩
 by_cases h2:(x.c.length:Int)>40
 .go_wp2_with fail;go_ret;exact⟨A8 (by rw[<-HRES.out];simp[IM,h2]),m1.drop⟩
 by_cases h3:(x.r.length:Int)>40
 .go_wp2_with fail;go_ret;exact⟨A8 (by rw[<-HRES.out];simp[IM,h3]),m1.drop⟩
 by_cases h4:(x.d.length:Int)>80
 .go_wp2_with fail;go_ret;exact⟨A8 (by rw[<-HRES.out];simp[IM,h4]),m1.drop⟩
 .have hr:(!x.d.all EK)=res:=(by rw[<-HRES.out];simp[IM,h1,h2,h3,h4]);have HR:=A5 hr;clear hr;go_wp2_with (refine(RQ (V b4 x.d.length c4) x.d m1 HX.out.d).mono ?_;rintro e w2 ⟨rfl,m2⟩);go_ret;exact⟨A8 HR.out,m2.drop⟩
theorem ST (n lS:Int) (cb:Nat) (hr:0<=lS/\lS<=9223372036854775807) (w:W_) (h:w.cell? ⟨cb,2,X⟩=O (Y I lS)):K_ yA 309 #[Y I n,M (O ⟨cb,0,X⟩)] w λe w'=>e= .returned (N (F6 n 0 (lS-1)))/\w=w':=by have hw:IntKind.i64.wrap (lS-1)=lS-1:=IntWalk.i64_in _ A0;go_enter func309,ntmps309;go_wp2_with (go_at_call 270;refine(Ad _ _ _ _).mono ?_;rintro e w3 ⟨rfl,rfl⟩);go_ret;exact⟨A8 (by simp[F6]),Z⟩
theorem Vx (n:Int) (many:Nat) (sb:Option Addr) (sc:Nat) (cb:Nat) (hm:many<=9223372036854775807) (w:W_) (h:w.cell? ⟨cb,3,X⟩=O (V sb many sc)):K_ yA 310 #[Y I n,M (O ⟨cb,0,X⟩)] w λe w'=>e= .returned (N (F6 n 0 (many-1)))/\w=w':=by have hw:IntKind.i64.wrap ((many:Int)-1)=(many:Int)-1:=IntWalk.i64_in _ A0;go_enter func310,ntmps310;go_wp2_with (go_at_call 270;refine(Ad _ _ _ _).mono ?_;rintro e w3 ⟨rfl,rfl⟩);go_ret;exact⟨A8 (by simp[F6]),Z⟩
theorem MB (p:Int->Bool) (n:Int) (cb bf:Nat) (w:W_) (hf:w.cell? ⟨bf,0,X⟩=O (.func (.func 309) #[] #[M (O ⟨cb,0,X⟩)])) (hp:K_ yA 309 #[Y I n,M (O ⟨cb,0,X⟩)] w λe w'=>e= .returned (N (p n))/\w=w'):K_ yA 277 #[Y I n,M (O ⟨bf,0,X⟩)] w λe w'=>e= .returned (N (!p n))/\w=w':=by go_enter func277,ntmps277;go_wp2_with (go_at_call 309;refine hp.mono ?_;rintro e w' ⟨rfl,rfl⟩);go_ret;exact⟨Z,Z⟩
theorem MO (p:Int->Bool) (v:V_) (xs:List Int) (cb bf:Nat) (m:AC w0 H L w) (hv:AX AY H v xs) (hf:w.cell? ⟨bf,0,X⟩=O (.func (.func 309) #[] #[M (O ⟨cb,0,X⟩)])) (hp:∀n,K_ yA 309 #[Y I n,M (O ⟨cb,0,X⟩)] w λe w'=>e= .returned (N (p n))/\w=w'):K_ yA 245 #[v,.func (.func 277) #[] #[M (O ⟨bf,0,X⟩)]] w (KI (!xs.all p) w):=by
 have HV:=A5 hv;have HP:=A5 hp;clear hp;obtain⟨b,c,rfl,ad,aa,_,_⟩:=hv;have aa:=A9 aa;go_enter func245,ntmps245;go_wp2;go_loop [5,8] (λ_ i=>∃k:Nat,k<=xs.length/\i= Y I k/\(xs.take k).all p=B) (λ_ i=>xs.length-(intOf i).toNat);case atStart=>exact⟨0,uP _,Z,Z⟩
 case round=>
  obtain⟨k,hk,rfl,kH⟩:=hrel;have HA:=A5 kH;clear kH;by_cases eP:k<xs.length
  .obtain⟨kA,off,rfl,kF,lf⟩:=HV.out.cellV eP;have kF:=kF.cell m;cases hq:p xs[k]
   .have HQ:=A5 hq;go_wp2_with (go_at_call 277;refine(MB p _ cb bf _ hf (HP.out _)).mono ?_;rw[HQ.out];rintro e w' ⟨rfl,rfl⟩);exact cG
   .have HQ:=A5 hq;go_wp2_with (go_at_call 277;refine(MB p _ cb bf _ hf (HP.out _)).mono ?_;rw[HQ.out];rintro e w' ⟨rfl,rfl⟩);go_round;(case rel=>exact⟨k+1,by omega,by go_num,by rw[Bi _ _ _ eP,HA.out,HQ.out];rfl⟩);case measure=>exact BW
  .go_wp2;exact NA
theorem Ji (p:Int->Bool) (v:V_) (xs:List Int) (cb bf:Nat) (m:AC w0 H L w) (hv:AX AY H v xs) (hf:w.cell? ⟨bf,0,X⟩=O (.func (.func 309) #[] #[M (O ⟨cb,0,X⟩)])) (hp:∀n,K_ yA 309 #[Y I n,M (O ⟨cb,0,X⟩)] w λe w'=>e= .returned (N (p n))/\w=w'):K_ yA 185 #[v,.func (.func 277) #[] #[M (O ⟨bf,0,X⟩)]] w λe w'=>e= .returned (N (!xs.all p))/\w=w':=by go_enter func185,ntmps185;go_wp2_with (go_at_call 245;refine(MO p v xs cb bf m hv hf hp).mono ?_;rintro e w' ⟨k,rfl,hk,rfl⟩;have HK:=A5 hk;clear hk);exact Mv
theorem MN (p:Int->Bool) (n:Int) (cb bf:Nat) (w:W_) (hf:w.cell? ⟨bf,0,X⟩=O (.func (.func 310) #[] #[M (O ⟨cb,0,X⟩)])) (hp:K_ yA 310 #[Y I n,M (O ⟨cb,0,X⟩)] w λe w'=>e= .returned (N (p n))/\w=w'):K_ yA 277 #[Y I n,M (O ⟨bf,0,X⟩)] w λe w'=>e= .returned (N (!p n))/\w=w':=by go_enter func277,ntmps277;go_wp2_with (go_at_call 310;refine hp.mono ?_;rintro e w' ⟨rfl,rfl⟩);go_ret;exact⟨Z,Z⟩
theorem MR (p:Int->Bool) (v:V_) (xs:List Int) (cb bf:Nat) (m:AC w0 H L w) (hv:AX AY H v xs) (hf:w.cell? ⟨bf,0,X⟩=O (.func (.func 310) #[] #[M (O ⟨cb,0,X⟩)])) (hp:∀n,K_ yA 310 #[Y I n,M (O ⟨cb,0,X⟩)] w λe w'=>e= .returned (N (p n))/\w=w'):K_ yA 245 #[v,.func (.func 277) #[] #[M (O ⟨bf,0,X⟩)]] w (KI (!xs.all p) w):=by
 have HV:=A5 hv;have HP:=A5 hp;clear hp;obtain⟨b,c,rfl,ad,aa,_,_⟩:=hv;have aa:=A9 aa;go_enter func245,ntmps245;go_wp2;go_loop [5,8] (λ_ i=>∃k:Nat,k<=xs.length/\i= Y I k/\(xs.take k).all p=B) (λ_ i=>xs.length-(intOf i).toNat);case atStart=>exact⟨0,uP _,Z,Z⟩
 case round=>
  obtain⟨k,hk,rfl,kH⟩:=hrel;have HA:=A5 kH;clear kH;by_cases eP:k<xs.length
  .obtain⟨kA,off,rfl,kF,lf⟩:=HV.out.cellV eP;have kF:=kF.cell m;cases hq:p xs[k]
   .have HQ:=A5 hq;go_wp2_with (go_at_call 277;refine(MN p _ cb bf _ hf (HP.out _)).mono ?_;rw[HQ.out];rintro e w' ⟨rfl,rfl⟩);exact cG
   .have HQ:=A5 hq;go_wp2_with (go_at_call 277;refine(MN p _ cb bf _ hf (HP.out _)).mono ?_;rw[HQ.out];rintro e w' ⟨rfl,rfl⟩);go_round;(case rel=>exact⟨k+1,by omega,by go_num,by rw[Bi _ _ _ eP,HA.out,HQ.out];rfl⟩);case measure=>exact BW
  .go_wp2;exact NA
theorem Ju (p:Int->Bool) (v:V_) (xs:List Int) (cb bf:Nat) (m:AC w0 H L w) (hv:AX AY H v xs) (hf:w.cell? ⟨bf,0,X⟩=O (.func (.func 310) #[] #[M (O ⟨cb,0,X⟩)])) (hp:∀n,K_ yA 310 #[Y I n,M (O ⟨cb,0,X⟩)] w λe w'=>e= .returned (N (p n))/\w=w'):K_ yA 185 #[v,.func (.func 277) #[] #[M (O ⟨bf,0,X⟩)]] w λe w'=>e= .returned (N (!xs.all p))/\w=w':=by go_enter func185,ntmps185;go_wp2_with (go_at_call 245;refine(MR p v xs cb bf m hv hf hp).mono ?_;rintro e w' ⟨k,rfl,hk,rfl⟩;have HK:=A5 hk;clear hk);exact Mv
theorem Ua (p:Int->Bool) (v:V_) (xs:List Int) (cb:Nat) (m:AC w0 H L w) (hv:AX AY H v xs) (hp:∀n w',AC w0 H ((w.heap.size,C #[.func (.func 309) #[] #[M (O ⟨cb,0,X⟩)]] 189)::L) w'->K_ yA 309 #[Y I n,M (O ⟨cb,0,X⟩)] w' λe w2=>e= .returned (N (p n))/\w'=w2):K_ yA 227 #[v,.func (.func 309) #[] #[M (O ⟨cb,0,X⟩)]] w (Bv w0 H L (N (xs.all p))):=by have HV:=A5 hv;clear hv;have m1:=m.alloc (C #[.func (.func 309) #[] #[M (O ⟨cb,0,X⟩)]] 189);have HP:=A5 (λn=>hp n _ m1);clear hp;have es:=m1.e0;go_enter func227,ntmps227;go_wp2_with fail;refine(Ji p v xs cb _ m1 HV.out Gd HP.out).mono ?_;exact NU
theorem Ux (p:Int->Bool) (v:V_) (xs:List Int) (cb:Nat) (m:AC w0 H L w) (hv:AX AY H v xs) (hp:∀n w',AC w0 H ((w.heap.size,C #[.func (.func 310) #[] #[M (O ⟨cb,0,X⟩)]] 189)::L) w'->K_ yA 310 #[Y I n,M (O ⟨cb,0,X⟩)] w' λe w2=>e= .returned (N (p n))/\w'=w2):K_ yA 227 #[v,.func (.func 310) #[] #[M (O ⟨cb,0,X⟩)]] w (Bv w0 H L (N (xs.all p))):=by have HV:=A5 hv;clear hv;have m1:=m.alloc (C #[.func (.func 310) #[] #[M (O ⟨cb,0,X⟩)]] 189);have HP:=A5 (λn=>hp n _ m1);clear hp;have es:=m1.e0;go_enter func227,ntmps227;go_wp2_with fail;refine(Ju p v xs cb _ m1 HV.out Gd HP.out).mono ?_;exact NU
theorem PT {β:Type} (f:β->V_) (k:Int):∀l:List (Int×β),BX (l.map λp=>(p.1,f p.2)) k=(PF l k).map f
 |[]=>rfl
 |p::l=>by
  rw[uj,BX,PF]
  by_cases h:p.1=k
  .rw[p_ h,p_ h];rfl
  .rw[n_ h,n_ h];exact PT f k l
theorem Rm {β:Type} {p:β->Bool} {k:Int} {s:β}:∀{l:List (Int×β)},(l.all λe=>p e.2)=B->PF l k=O s->p s=B
 |[],_,h=>by cases h
 |e::l,ha,h=>by
  rw[List.all_cons,uB] at ha
  unfold PF at h
  split at h
  .cases h;exact ha.1
  .exact Rm ha.2 h
theorem V4:(Kq.map uG).Nodup:=by have:Kq.map uG=Uu.map uG:=(by unfold Kq;rw[ul];rfl);rw[this];decide
theorem Yi {sm:List (Int×V_)} (h:sm.Perm Kq) (op:Nat):BX sm (op:Int)=(SM op).map Qh.val:=by rw[PQ h V4];exact PT Qh.val op Uu
theorem jp {op:Nat} {s:Qh} (h:SM op=O s):s.name=0\/s.name=1\/s.name=3\/s.name=5\/s.name=4\/s.name=6\/s.name=7\/s.name=2:=by have:=Rm (p:=λs=>T (s.name=0\/s.name=1\/s.name=3\/s.name=5\/s.name=4\/s.name=6\/s.name=7\/s.name=2)) AD h;simpa using this
theorem r9 (n:Nat):((n:Int)==0)=T (n=0):=by
 by_cases h:n=0
 .subst h;rfl
 .rw[f_ h];exact bF A0
def Uj (s:Qh) (x:AI) (c:AF) (i:Bu):Bool:=
 Ed x s i&&(i.args.all (λr=>F6 r 0 (c.g-1))&&(i.go.all (λp=>F6 p 0 (c.i.length-1))&&(T ((i.go.length:Int)=s.places)&&
 ((if s.to=B then F6 i.to 0 (c.g-1) else T (i.to= -1))&&((if s.number=B then F6 i.n s.low s.high else T (i.n=0))&&
 (T (i.m=0\/(i.op=13/\i.m=1))&&(if s.w=B then Eu i.w c.g c.i.length&&F6 i.w.length 1 4 else T (i.w.length=0))))))))
def FU (x:AI) (c:AF) (i:Bu):Bool:=(SM i.op).isSome&&Uj ((SM i.op).getD GO) x c i
theorem WJ (x:AI) (c:AF) (i:Bu) (b8:Option Addr) (c8:Nat) (va vg vw:V_) (fb:Nat) (hreg:0<=c.g/\c.g<=9223372036854775807) (hins:(c.i.length:Int)<=9223372036854775807) (m:AC w0 H L w) (hf:FQ H x fb) (hi:Gj H i va vg vw):K_ yA 273 #[M (O ⟨fb,0,X⟩),Gm c (V b8 c.i.length c8),Ec i va vg vw] w (Bv w0 H L (N (FU x c i))):=by
 have HI:=A5 hi;obtain⟨b5,c5,b6,c6,b7,c7,rfl,rfl,rfl,l5,l6,l7⟩:=hi.shapes;clear hi;have HF:=A5 hf;obtain⟨vc,vk,vr,vd,v1,v2,v3,v4,v5,mc,mk,bp,md0,sm,om,kn,aw,bb,h1,h2,h3,bn,g1,g2,g3,g4,h4,bk,h5,bm⟩:=hf.box;have HFB:=A5 aw;clear hf aw bb h1 h2 h3 g1 g2 g3 g4 h5 bm bn;obtain⟨sp,au⟩:∃s,(SM i.op).getD GO=s:=⟨_,Z⟩;obtain⟨al,ao⟩:∃b,(SM i.op).isSome=b:=⟨_,Z⟩;(have HNM:Hid (al=B->sp.name=0\/sp.name=1\/sp.name=3\/sp.name=5\/sp.name=4\/sp.name=6\/sp.name=7\/sp.name=2):=A5 λh=>by rw[<-ao] at h;obtain⟨s,hs⟩:=Option.isSome_iff_exists.1 h;rw[hs] at au;cases au;exact jp hs);(have HL4:Hid (∀W:W_,∀L',AC w0 H L' W->(Instr.lookup 248 v4 (Y .u8 i.op) B).run yA W= .ok (.tuple #[.agg #[U sp.word,N sp.to,Y I sp.args,Y .u8 sp.name,N sp.number,Y I sp.low,Y I sp.high,Y I sp.places,N sp.w,N sp.stops],N al]) W):=A5 λW L' mW=>by have:=h4.look (P:=yA) (t:=248) (et:=306) (z:=GO.val) ZM underlying248 (by go_simp;rfl) mW (i.op:Int) B;rw[Yi bk] at this;rw[show((SM i.op).map Qh.val).getD GO.val=sp.val by rw[<-au];cases SM i.op<;>rfl,show((SM i.op).map Qh.val).isSome=al by rw[<-ao];cases SM i.op<;>rfl] at this;exact this);have aq:FU x c i=(al&&Uj sp x c i):=(by unfold FU;rw[au,ao]);rw[aq];clear aq au ao bk;obtain⟨sw,af,ak,aj,ai,aa,ad,ah,ae,ag⟩:=sp;obtain⟨q4,e4,k4,rfl,-⟩:=h4;generalize av:(al&&Uj ⟨sw,af,ak,aj,ai,aa,ad,ah,ae,ag⟩ x c i)=res;have HRES:=A5 av;clear av;unfold Uj at HRES;dsimp only at HRES HL4 HNM;obtain⟨nb,ba⟩:∃b,Ed x ⟨sw,af,ak,aj,ai,aa,ad,ah,ae,ag⟩ i=b:=⟨_,Z⟩;obtain⟨ab,bd⟩:∃b,i.args.all (λr=>F6 r 0 (c.g-1))=b:=⟨_,Z⟩;obtain⟨gb,bc⟩:∃b,i.go.all (λp=>F6 p 0 (c.i.length-1))=b:=⟨_,Z⟩;obtain⟨tb,ay⟩:∃b,F6 i.to 0 (c.g-1)=b:=⟨_,Z⟩;obtain⟨nu,az⟩:∃b,F6 i.n aa ad=b:=⟨_,Z⟩;have bh:=A5 ba;have HAB:=A5 bd;have bj:=A5 bc;have bf:=A5 ay;have bg:=A5 az;rw[ba,bd,bc,ay,az] at HRES;clear ba bd bc ay az;have m2:=(m.alloc (At c (V b8 c.i.length c8))).alloc (SB i b5 c5 b6 c6 b7 c7);simp only[uZ] at m2;generalize bq:w.heap.size=xb at*;unfold Gm Ec;go_enter func273,ntmps273;go_wp2_with fail;refine Da (F:=λw'=>Code.wp _ _ _ _ w') m2 ?_;clear m2;intro wr mr;refine B1 mr [VK (M (O ⟨fb,0,X⟩)),VK (M (O ⟨fb,0,X⟩)),VK (M (O ⟨fb,7,X⟩)),VK (.map (O q4)),VK (M (O ⟨xb+1,0,X⟩)),VK (Y .u8 i.op),VK (.tuple #[.agg #[U sw,N af,Y I ak,Y .u8 aj,N ai,Y I aa,Y I ad,Y I ah,N ae,N ag],N al]),VK (.tuple #[.agg #[U sw,N af,Y I ak,Y .u8 aj,N ai,Y I aa,Y I ad,Y I ah,N ae,N ag],N al]),VK (.agg #[U sw,N af,Y I ak,Y .u8 aj,N ai,Y I aa,Y I ad,Y I ah,N ae,N ag]),VK (N al),⟨[10],λzb=> M (O ⟨(zb.getD 0 Ax).b,0,X⟩),O ([],[],λzb d=>d.bl=[(d.b,C #[U uC,N G,Y I 0,Y .u8 0,N G,Y I 0,Y I 0,Y I 0,N G,N G] 306)]),G⟩,⟨[],λzb=>undef,O ([10],[10],λzb d=>d.bl=[((zb.getD 0 Ax).b,C #[U sw,N af,Y I ak,Y .u8 aj,N ai,Y I aa,Y I ad,Y I ah,N ae,N ag] 306)]),G⟩] (nf 11++[B]) ?_ ?_
 .refine⟨AA,AA,AA,?_,AA,?_,?_,AA,AA,AA,?_,?_,trivial⟩
  ·(refine Al.vk Z λbs w hb m=>?_);have es:=m.e8;have ef:=Bw (w:=w) (L:=[(fb,Bc vc vk vr vd v1 v2 v3 (.map (O q4)) v5)]) (λp hp=>by rw[uD.1 hp];exact m.imm _ _ HFB.out);simp only[BS,Bc] at ef;exact AT
  ·(refine Al.vk Z λbs w hb m=>?_);have es:=m.e8;exact AT
  ·(refine Al.vk Z λbs w hb m=>?_);have hl:=HL4.out w _ m;exact AT
  ·(refine Al.make _ _ Z Z Z λbs w hb m=>?_);show(x_ _ _).run _ _= .ok (.value (M (O ⟨w.heap.size,0,X⟩))) (w.alloc (C #[U uC,N G,Y I 0,Y .u8 0,N G,Y I 0,Y I 0,Y I 0,N G,N G] 306));exact Cp
  ·(refine Al.gen _ Z Z Z λbs w L2 hb m=>?_);have bo:(bs 10).bl=[((bs 10).b,C #[U uC,N G,Y I 0,Y .u8 0,N G,Y I 0,Y I 0,Y I 0,N G,N G] 306)]:=hb.at 10 A7 Z Z;simp only[List.flatMap_cons,uU,List.append_nil,bo,uE,uA] at m;have es:=m.e8;have h2:=AC.setL [U sw,N af,Y I ak,Y .u8 aj,N ai,Y I aa,Y I ad,Y I ah,N ae,N ag] 0 m;simp only[TU,List.setIfInBounds_toArray,List.set_cons_zero,List.set_cons_succ,Nat.reduceAdd] at h2;have h3:∃d:C2,(d.bl=[((bs 10).b,C #[U sw,N af,Y I ak,Y .u8 aj,N ai,Y I aa,Y I ad,Y I ah,N ae,N ag] 306)])/\(undef:V_)=undef/\AC w0 H (d.bl++(L2++((xb+1,SB i b5 c5 b6 c6 b7 c7)::(xb,At c (V b8 c.i.length c8))::L))) (Ff w (bs 10).b 0 [U sw,N af,Y I ak,Y .u8 aj,N ai,Y I aa,Y I ad,Y I ah,N ae,N ag]):=⟨⟨(bs 10).b,0,undef,[((bs 10).b,C #[U sw,N af,Y I ak,Y .u8 aj,N ai,Y I aa,Y I ad,Y I ah,N ae,N ag] 306)]⟩,Z,Z,h2⟩;clear h2;refine BU.ofSkip (w':=Ff w (bs 10).b 0 [U sw,N af,Y I ak,Y .u8 aj,N ai,Y I aa,Y I ad,Y I ah,N ae,N ag]) ?_ h3;clear h3;simp only[Ff];go_simp
 .intro bs wd hb md;replace md:=AC.like1 mr (bs 11).bl md;have ax:(bs 10).bl=[((bs 10).b,C #[U uC,N G,Y I 0,Y .u8 0,N G,Y I 0,Y I 0,Y I 0,N G,N G] 306)]:=hb 10 _ _ Z Z;have ar:(bs 11).bl=[((bs 10).b,C #[U sw,N af,Y I ak,Y .u8 aj,N ai,Y I aa,Y I ad,Y I ah,N ae,N ag] 306)]:=hb 11 _ _ Z Z;(try simp only[uE,uA] at md);simp only[uJ,uN,Nat.reduceAdd,uO,uK,uL];clear hb ax;rw[ar] at md;simp only[uE,uA] at md;clear ar;generalize (bs 10).b=qb at*;have es:=md.e20;cases al
  .skip;go_wp2_with fail;go_ret;exact⟨A8 Yc,md.drop.drop.drop⟩
  replace HNM:=A5 (HNM.out Z);go_wp2_with fail;refine(W8 x ⟨sw,af,ak,aj,ai,aa,ad,ah,ae,ag⟩ HNM.out i _ _ _ fb md HF.out HI.out).mono ?_;rintro e w4 ⟨rfl,m4⟩;rw[bh.out];clear es md;have es:=m4.e20;cases nb
  .skip;go_wp2_with fail;go_ret;exact⟨A8 Yc,m4.drop.drop.drop⟩
  go_wp2_with fail;refine(Ua (λr=>F6 r 0 (c.g-1)) _ i.args xb m4 HI.out.2.1 (λn w' hm=>ST n c.g xb hreg w' lO)).mono ?_;rintro e w5 ⟨rfl,m5⟩;rw[HAB.out];clear es m4;have es:=m5.e20;cases ab
  .skip;go_wp2_with fail;go_ret;exact⟨A8 Yc,m5.drop.drop.drop⟩
  go_wp2_with fail;refine(Ux (λp=>F6 p 0 (c.i.length-1)) _ i.go xb m5 HI.out.2.2.1 (λn w' hm=>Vx n c.i.length b8 c8 xb A0 w' lO)).mono ?_;rintro e w6 ⟨rfl,m6⟩;rw[bj.out];clear es m5;have es:=m6.e20;cases gb
  .skip;go_wp2_with fail;go_ret;exact⟨A8 Yc,m6.drop.drop.drop⟩
  go_wp2_with (first|(go_at_call 309;refine(ST i.to c.g xb hreg _ Gd).mono ?_;rintro e w7 ⟨rfl,rfl⟩;rw[bf.out])|(go_at_call 270;refine(Ad _ _ _ _).mono ?_;rintro e w8 ⟨rfl,rfl⟩;first|rw[show T (aa<=i.n/\i.n<=ad)=nu from bg.out]|skip)|(go_at_call 312;refine(Qr c i.w _ _ _ _ hreg hins m6 HI.out.2.2.2).mono ?_;rintro e w9 ⟨rfl,m9⟩))
  all_goals first
   |(go_ret;exact⟨A8 (by have hz:=HRES.out;rw[<-hz];clear hz HRES HI HF HFB HL4 HNM bh HAB bj bf bg es mr m6 m;(try rw[r9 i.w.length]);first|(simp_all;done)|(simp_all;omega)|(simp_all;intros;omega)),m6.drop.drop.drop⟩)
   |(go_ret;exact⟨A8 (by clear m9;have hz:=HRES.out;rw[<-hz];clear hz HRES HI HF HFB HL4 HNM bh HAB bj bf bg es mr m6 m;(try rw[r9 i.w.length]);first|(simp_all;done)|(simp_all;omega)|(simp_all;intros;omega)),m9.drop.drop.drop⟩)
abbrev Pb (fb:Nat):Obj:= C #[M (O ⟨fb,0,X⟩)] 200
theorem Qq (x:AI) (cc:AF) (b8:Option Addr) (c8:Nat) (fb pf pc:Nat) (i:Bu) (va vg vw:V_) (hreg:0<=cc.g/\cc.g<=9223372036854775807) (hins:(cc.i.length:Int)<=9223372036854775807) (m:AC w0 H L w) (aa:(pf,Pb fb)∈L) (ad:(pc,At cc (V b8 cc.i.length c8))∈L) (hf:FQ H x fb) (hi:Gj H i va vg vw):K_ yA 272 #[Ec i va vg vw,M (O ⟨pf,0,X⟩),M (O ⟨pc,0,X⟩)] w (Bv w0 H L (N (FU x cc i))):=by
 have HI:=A5 hi;have HF:=A5 hf;clear hf;obtain⟨b5,c5,b6,c6,b7,c7,rfl,rfl,rfl,l5,l6,l7⟩:=hi.shapes;clear hi;have m1:=m.alloc (SB i b5 c5 b6 c6 b7 c7)
 have e1:=Bw (L:=[(pf,Pb fb),(pc,At cc (V b8 cc.i.length c8))]) (w:=w.alloc (SB i b5 c5 b6 c6 b7 c7)) (λp hp=>by
  rcases uS.1 hp with rfl|hp
  .exact(m1.loc _ (.tail _ aa)).1
  .rw[uD.1 hp];exact(m1.loc _ (.tail _ ad)).1)
 simp only[BS,At,Pb] at e1;have es:=m1.e6;unfold Ec;go_enter func272,ntmps272;go_wp2_with fail;refine(WJ x cc i b8 c8 _ _ _ fb hreg hins m1 HF.out HI.out).mono ?_;rintro e w2 ⟨rfl,m2⟩;go_wp2_with fail;go_ret;exact⟨Z,m2.drop⟩
theorem Kt (x:AI) (cc:AF) (b8:Option Addr) (c8:Nat) (fb pf pc:Nat) (hreg:0<=cc.g/\cc.g<=9223372036854775807) (hins:(cc.i.length:Int)<=9223372036854775807) (c:Bu) (va vg vw:V_) (bf:Nat) (m:AC w0 H ((bf,C #[.func (.func 272) #[] #[M (O ⟨pf,0,X⟩),M (O ⟨pc,0,X⟩)]] 313)::L) w) (aa:(pf,Pb fb)∈L) (ad:(pc,At cc (V b8 cc.i.length c8))∈L) (hf:FQ H x fb) (h:Gj H c va vg vw):K_ yA 308 #[Ec c va vg vw,M (O ⟨bf,0,X⟩)] w (Bv w0 H ((bf,C #[.func (.func 272) #[] #[M (O ⟨pf,0,X⟩),M (O ⟨pc,0,X⟩)]] 313)::L) (N (!FU x cc c))):=by have HH:=A5 h;clear h;unfold Ec;have m1:=m.alloc (C #[Y .u8 c.op,Y I c.to,va,Y I c.n,Y I c.m,U c.name,vg,vw] 141);generalize hq:FU x cc c=q;have HQ:=A5 hq;clear hq;have es:=m1.e0;go_enter func308,ntmps308;go_wp2_with fail;refine(Qq x cc b8 c8 fb pf pc c va vg vw hreg hins m1 (.tail _ (.tail _ aa)) (.tail _ (.tail _ ad)) hf HH.out).mono ?_;exact PY
theorem Ln (x:AI) (cc:AF) (b8:Option Addr) (c8:Nat) (fb pf pc:Nat) (hreg:0<=cc.g/\cc.g<=9223372036854775807) (hins:(cc.i.length:Int)<=9223372036854775807) (v:V_) (xs:List Bu) (bf:Nat) (m:AC w0 H ((bf,C #[.func (.func 272) #[] #[M (O ⟨pf,0,X⟩),M (O ⟨pc,0,X⟩)]] 313)::L) w) (hv:AX C1 H v xs) (ad:(pf,Pb fb)∈L) (ae:(pc,At cc (V b8 cc.i.length c8))∈L) (hf:FQ H x fb):K_ yA 328 #[v,.func (.func 308) #[] #[M (O ⟨bf,0,X⟩)]] w (Me w0 H ((bf,C #[.func (.func 272) #[] #[M (O ⟨pf,0,X⟩),M (O ⟨pc,0,X⟩)]] 313)::L) (!xs.all (FU x cc))):=by
 have HV:=A5 hv;obtain⟨b,c,rfl,af,aa,_,_⟩:=hv;have aa:=A9 aa;go_enter func328,ntmps328;go_wp2_with fail;(go_loopw [5,8] (λ_ i wr=>∃k:Nat,k<=xs.length/\i= Y I k/\(xs.take k).all (FU x cc)=B/\AC w0 H ((bf,C #[.func (.func 272) #[] #[M (O ⟨pf,0,X⟩),M (O ⟨pc,0,X⟩)]] 313)::L) wr) (λ_ i _=>xs.length-(intOf i).toNat));case atStart=>exact⟨0,uP _,Z,Z,m⟩
 case round=>
  clear m;obtain⟨k,hk,rfl,kH,m⟩:=hrel;have HA:=A5 kH;clear kH;by_cases eP:k<xs.length
  .have hx:=uH eP;generalize hy:xs[k]=y at hx;obtain⟨kA,off,va,vg,vw,rfl,q1,q2,q3,q4,q5,q6,q7,q8,q9⟩:=HV.out.getIns hx;clear hx;have af:=q1.cell m;have aa:=q2.cell m;have al:=q3.cell m;have ak:=q4.cell m;have aj:=q5.cell m;have ai:=q6.cell m;have ah:=q7.cell m;have ag:=q8.cell m;cases hq:FU x cc y
   .have HQ:=A5 hq;clear hq;have HY:=A5 hy;clear hy;go_wp2_with fail;refine(Kt x cc b8 c8 fb pf pc hreg hins y va vg vw bf m ad ae hf q9).mono ?_;rw[HQ.out];rintro e w2 ⟨rfl,m2⟩;go_wp2_with fail;go_ret;refine⟨_,Z,?_,m2⟩;rw[show xs.all (FU x cc)=G from B4 _ xs k eP Rc];simp
   .have HQ:=A5 hq;clear hq;have HY:=A5 hy;clear hy;go_wp2_with fail;refine(Kt x cc b8 c8 fb pf pc hreg hins y va vg vw bf m ad ae hf q9).mono ?_;exact Rt
  .go_wp2_with fail;exact NO
theorem JH (x:AI) (cc:AF) (b8:Option Addr) (c8:Nat) (fb pf pc:Nat) (hreg:0<=cc.g/\cc.g<=9223372036854775807) (hins:(cc.i.length:Int)<=9223372036854775807) (v:V_) (xs:List Bu) (bf:Nat) (m:AC w0 H ((bf,C #[.func (.func 272) #[] #[M (O ⟨pf,0,X⟩),M (O ⟨pc,0,X⟩)]] 313)::L) w) (hv:AX C1 H v xs) (aa:(pf,Pb fb)∈L) (ad:(pc,At cc (V b8 cc.i.length c8))∈L) (hf:FQ H x fb):K_ yA 307 #[v,.func (.func 308) #[] #[M (O ⟨bf,0,X⟩)]] w (Bv w0 H ((bf,C #[.func (.func 272) #[] #[M (O ⟨pf,0,X⟩),M (O ⟨pc,0,X⟩)]] 313)::L) (N (!xs.all (FU x cc)))):=by go_enter func307,ntmps307;go_wp2_with (go_at_call 328;refine(Ln x cc b8 c8 fb pf pc hreg hins v xs bf m hv aa ad hf).mono ?_;rintro e w' ⟨k,rfl,hk,m2⟩;have HK:=A5 hk;clear hk);exact IW
theorem UD (x:AI) (cc:AF) (b8:Option Addr) (c8:Nat) (fb pf pc:Nat) (hreg:0<=cc.g/\cc.g<=9223372036854775807) (hins:(cc.i.length:Int)<=9223372036854775807) (v:V_) (xs:List Bu) (m:AC w0 H L w) (hv:AX C1 H v xs) (aa:(pf,Pb fb)∈L) (ad:(pc,At cc (V b8 cc.i.length c8))∈L) (hf:FQ H x fb):K_ yA 271 #[v,.func (.func 272) #[] #[M (O ⟨pf,0,X⟩),M (O ⟨pc,0,X⟩)]] w (Bv w0 H L (N (xs.all (FU x cc)))):=by have HV:=A5 hv;clear hv;go_enter func271,ntmps271;have m1:=m.alloc (C #[.func (.func 272) #[] #[M (O ⟨pf,0,X⟩),M (O ⟨pc,0,X⟩)]] 313);go_wp2_with fail;refine(JH x cc b8 c8 fb pf pc hreg hins v xs _ m1 HV.out aa ad hf).mono ?_;exact Ms
def E8 (x:AI) (c:AF):Bool:=F6 c.params 0 c.g&&(T (c.i.length≠0)&&(c.i.all (FU x c)&&((SM (Fg c)).getD GO).stops))
theorem UE (x:AI) (c:AF) (sv:V_) (fb:Nat) (lf:c.fit) (m:AC w0 H L w) (hf:FQ H x fb) (hi:AX C1 H sv c.i):K_ yA 219 #[M (O ⟨fb,0,X⟩),.agg #[U c.name,Y I c.params,Y I c.g,sv]] w (Bv w0 H L (N (E8 x c))):=by
 have HI:=A5 hi;obtain⟨b8,c8,rfl,az,au,_,_⟩:=hi;have hins:=A9 au;have hins:(c.i.length:Int)<=9223372036854775807:=A0;have HF:=A5 hf;obtain⟨vc,vk,vr,vd,v1,v2,v3,v4,v5,mc,mk,ax,md0,sm,om,kn,ae,ah,h1,h2,h3,aq,g1,g2,g3,g4,h4,al,h5,ao⟩:=hf.box;have HFB:=A5 ae;clear hf ae ah h1 h2 h3 g1 g2 g3 g4 h5 ao aq;have m2:=(m.alloc (Pb fb)).alloc (At c (V b8 c.i.length c8));simp only[uZ] at m2;generalize ay:w.heap.size=xb at*;obtain⟨pb,ag⟩:∃b,T (0<=c.params/\c.params<=c.g)=b:=⟨_,Z⟩;obtain⟨ab,ai⟩:∃b,c.i.all (FU x c)=b:=⟨_,Z⟩;generalize aa:E8 x c=res;unfold E8 F6 at aa;rw[ag,ai] at aa;have HRES:=A5 aa;have af:=A5 ag;have HAB:=A5 ai;clear aa ag ai;have es:=m2.eqs;simp only[BS,At,Pb] at es
 have HW:=A5 (show ∀W:W_,∀L',AC w0 H L' W->∀k,(Instr.lookup 248 v4 (Y .u8 k) G).run yA W= .ok ((BX sm k).getD GO.val) W from λW L' mW k=>
  h4.look (P:=yA) (t:=248) (et:=306) (z:=GO.val) ZM underlying248 (by go_simp;rfl) mW k G)
 obtain⟨q4,e4,k4,rfl,-⟩:=h4;cases pb
 .go_enter func219,ntmps219;go_wp2_with (go_at_call 270;refine(Ad _ _ _ _).mono ?_;rintro e w3 ⟨rfl,rfl⟩;rw[af.out]);go_ret;exact⟨A8 (by rw[<-HRES.out];rfl),m2.drop.drop⟩
 have hreg:0<=c.g/\c.g<=9223372036854775807:=(by have h1:=o_ af.out;have h2:=lf.g;unfold EH at h2;omega);by_cases hl:c.i.length=0
 .have hl0:((c.i.length:Int)==0)=true:=(by rw[hl];rfl);have HL:=A5 hl;clear hl;go_enter func219,ntmps219;go_wp2_with (go_at_call 270;refine(Ad _ _ _ _).mono ?_;rintro e w3 ⟨rfl,rfl⟩;rw[af.out]);go_ret;exact⟨A8 (by rw[<-HRES.out,f_ (λh=>h HL.out)];rfl),m2.drop.drop⟩
 have hl0:((c.i.length:Int)==0)=false:=bF A0;have ar:c.i.length-1<c.i.length:=A0;have HL:=A5 hl;clear hl;go_enter func219,ntmps219;go_wp2_with (go_at_call 270;refine(Ad _ _ _ _).mono ?_;rintro e w3 ⟨rfl,rfl⟩;rw[af.out]);refine Da (F:=λw'=>Code.wp _ _ _ _ w') m2 ?_;clear es m2;intro wr mr;have hx:=uH ar;generalize hy:c.i[c.i.length-1]=y at hx;obtain⟨kA,off,va,vg,vw,rfl,q1,-,-,-,-,-,-,-,-⟩:=HI.out.getIns hx;have aw:=A5 (show Fg c=y.op by unfold Fg;rw[hx]);clear hx hy;have Q1:=A5 q1;clear q1;obtain⟨sp,aj⟩:∃s,(SM y.op).getD GO=s:=⟨_,Z⟩;have ak:=A5 aj;clear aj;(have HL4:Hid (∀W:W_,∀L',AC w0 H L' W->(Instr.lookup 248 (.map (O q4)) (Y .u8 y.op) G).run yA W= .ok (.agg #[U sp.word,N sp.to,Y I sp.args,Y .u8 sp.name,N sp.number,Y I sp.low,Y I sp.high,Y I sp.places,N sp.w,N sp.stops]) W):=A5 λW L' mW=>by have:=HW.out W L' mW y.op;rw[Yi al,show((SM y.op).map Qh.val).getD GO.val=sp.val by rw[<-ak.out];cases SM y.op<;>rfl] at this;exact this);have ad:((c.i.length:Int)-1)=((c.i.length-1:Nat):Int):=A0;have hw:IntKind.i64.wrap ((c.i.length:Int)-1)=((c.i.length-1:Nat):Int):=(by rw[<-ad];exact IntWalk.i64_in _ A0);have av:=A5 hw;clear hw ad;generalize hn1:c.i.length-1=n1 at*;have ba:=A5 hn1;clear hn1;cases ab
 .skip;refine B1 mr [VK (M (O ⟨xb+1,3,X⟩)),VK (V (O ⟨kA,off,X⟩) c.i.length c8),VK (.func (.func 272) #[] #[M (O ⟨xb,0,X⟩),M (O ⟨xb+1,0,X⟩)]),VK (N G),VK (N G),SK,SK,SK,SK,SK,SK,SK,SK,SK,SK,SK,SK,SK,SK,SK,VK (N G)] (nf 21) ?_ ?_
  .exact⟨AA,fB,AA,nO,AA,Ak,Ak,Ak,Ak,Ak,Ak,Ak,Ak,Ak,Ak,Ak,Ak,Ak,Ak,Ak,AA,trivial⟩
  .intro bs wd hb md;replace md:=AC.like0 mr md;(try simp only[uE,uA] at md);simp only[uJ,uN,Nat.reduceAdd,uO,uK,uL];clear hb;go_wp2_with fail;go_ret;exact⟨A8 (by rw[<-HRES.out];simp[HL.out]),md.drop.drop⟩
 .skip;refine B1 mr [VK (M (O ⟨xb+1,3,X⟩)),VK (V (O ⟨kA,off,X⟩) c.i.length c8),VK (.func (.func 272) #[] #[M (O ⟨xb,0,X⟩),M (O ⟨xb+1,0,X⟩)]),VK (N B),VK (N B),VK (M (O ⟨fb,0,X⟩)),VK (M (O ⟨fb,0,X⟩)),VK (M (O ⟨fb,7,X⟩)),VK (.map (O q4)),VK (M (O ⟨xb+1,3,X⟩)),VK (V (O ⟨kA,off,X⟩) c.i.length c8),VK (M (O ⟨xb+1,3,X⟩)),VK (V (O ⟨kA,off,X⟩) c.i.length c8),VK (Y I c.i.length),VK (Y I (n1:Int)),VK (M (O ⟨kA,off+n1*8,X⟩)),VK (M (O ⟨kA,off+n1*8,X⟩)),VK (Y .u8 y.op),VK (.agg #[U sp.word,N sp.to,Y I sp.args,Y .u8 sp.name,N sp.number,Y I sp.low,Y I sp.high,Y I sp.places,N sp.w,N sp.stops]),VK (N sp.stops),VK (N sp.stops)] (nf 21) ?_ ?_
  .refine⟨AA,fB,AA,nO,AA,Xj,nq,Bb,nq,Bb,Xj,Bb,Xj,Bb,?_,Bb,Bb,?_,?_,Bb,AA,trivial⟩
   ·(refine Al.wk (λbs=>by first|rfl|(go_simp;done)) λbs w hb m=>?_);have hw:=av.out;exact AT
   ·(refine Al.wk (λbs=>by first|rfl|(go_simp;done)) λbs w hb m=>?_);have q1:=Q1.out.cell m;exact AT
   ·(refine Al.wk (λbs=>by first|rfl|(go_simp;done)) λbs w hb m=>?_);have hl:=HL4.out w _ m;exact AT
  .intro bs wd hb md;replace md:=AC.like0 mr md;(try simp only[uE,uA] at md);simp only[uJ,uN,Nat.reduceAdd,uO,uK,uL];clear hb;go_wp2_with fail;go_ret;exact⟨A8 (by rw[<-HRES.out,aw.out,ak.out];simp[HL.out]),md.drop.drop⟩
variable {H':Hp}
theorem FQ.mono {x:AI} {fb:Nat} (h:FQ H x fb) (hl:Bl H H'):FQ H' x fb:=by obtain⟨vc,vk,vr,vd,v1,v2,v3,v4,v5,mc,mk,ae,md0,sm,om,kn,ad,aa,h1,h2,h3,ah,g1,g2,g3,g4,h4,af,h5,ag⟩:=h.box;exact⟨vc,vk,vr,vd,v1,v2,v3,v4,v5,mc,mk,ae,md0,sm,om,kn,hl _ _ ad,aa.mono hl,h1.mono hl,h2.mono hl,h3.mono hl,ah,g1.mono hl,g2.mono hl,g3.mono hl,g4.mono hl,h4.mono hl,af,h5.mono hl,ag⟩
theorem Md (x:AI) (vc vk vr vd v1 v2 v3 v4 v5:V_) (fb:Nat) (ad:x.k.length<=4096) (m:AC w0 H L w) (aa:H fb=O (Bc vc vk vr vd v1 v2 v3 v4 v5)) (hx:Bz H x vc vk vr vd):K_ yA 211 #[M (O ⟨fb,0,X⟩)] w (G6 w0 H L (x.k.map AK.name)):=by have HX:=A5 hx;obtain⟨b1,c1,b2,c2,b3,c3,b4,c4,rfl,rfl,rfl,rfl,l1,l2,l3,l4⟩:=hx.shapes;clear hx;have es:=Bw (w:=w) (L:=[(fb,Bc (V b1 x.k.length c1) (V b2 x.c.length c2) (V b3 x.r.length c3) (V b4 x.d.length c4) v1 v2 v3 v4 v5)]) (λp hp=>by rw[uD.1 hp];exact m.imm _ _ aa);simp only[BS,Bc] at es;clear aa;go_enter func211,ntmps211;go_wp2_with (go_at_call 260;refine(la _ x.k ad m HX.out.c).mono ?_;rintro e w2 ⟨v,L1,rfl,h1,m1⟩);exact Nb
theorem NF (x:AI) (vc vk vr vd v1 v2 v3 v4 v5:V_) (fb:Nat) (ad:x.c.length<=4096) (m:AC w0 H L w) (aa:H fb=O (Bc vc vk vr vd v1 v2 v3 v4 v5)) (hx:Bz H x vc vk vr vd):K_ yA 212 #[M (O ⟨fb,0,X⟩)] w (G6 w0 H L (x.c.map Aj.name)):=by have HX:=A5 hx;obtain⟨b1,c1,b2,c2,b3,c3,b4,c4,rfl,rfl,rfl,rfl,l1,l2,l3,l4⟩:=hx.shapes;clear hx;have es:=Bw (w:=w) (L:=[(fb,Bc (V b1 x.k.length c1) (V b2 x.c.length c2) (V b3 x.r.length c3) (V b4 x.d.length c4) v1 v2 v3 v4 v5)]) (λp hp=>by rw[uD.1 hp];exact m.imm _ _ aa);simp only[BS,Bc] at es;clear aa;go_enter func212,ntmps212;go_wp2_with (go_at_call 262;refine(J6 _ x.c ad m HX.out.k).mono ?_;rintro e w2 ⟨v,L1,rfl,h1,m1⟩);exact Nb
theorem Mm (x:AI) (vc vk vr vd v1 v2 v3 v4 v5:V_) (fb:Nat) (ad:x.d.length<=4096) (m:AC w0 H L w) (aa:H fb=O (Bc vc vk vr vd v1 v2 v3 v4 v5)) (hx:Bz H x vc vk vr vd):K_ yA 213 #[M (O ⟨fb,0,X⟩)] w (G6 w0 H L (x.d.map AF.name)):=by have HX:=A5 hx;obtain⟨b1,c1,b2,c2,b3,c3,b4,c4,rfl,rfl,rfl,rfl,l1,l2,l3,l4⟩:=hx.shapes;clear hx;have es:=Bw (w:=w) (L:=[(fb,Bc (V b1 x.k.length c1) (V b2 x.c.length c2) (V b3 x.r.length c3) (V b4 x.d.length c4) v1 v2 v3 v4 v5)]) (λp hp=>by rw[uD.1 hp];exact m.imm _ _ aa);simp only[BS,Bc] at es;clear aa;go_enter func213,ntmps213;go_wp2_with (go_at_call 264;refine(J7 _ x.d ad m HX.out.d).mono ?_;rintro e w2 ⟨v,L1,rfl,h1,m1⟩);exact Nb
theorem J2 (x:AI) (fb:Nat) (c:AF) (sv:V_) (bf:Nat) (m:AC w0 H ((bf,C #[.func (.func 219) #[M (O ⟨fb,0,X⟩)] #[]] 167)::L) w) (hf:FQ H x fb) (h:AX C1 H sv c.i/\c.fit):K_ yA 259 #[.agg #[U c.name,Y I c.params,Y I c.g,sv],M (O ⟨bf,0,X⟩)] w (Bv w0 H ((bf,C #[.func (.func 219) #[M (O ⟨fb,0,X⟩)] #[]] 167)::L) (N (!E8 x c))):=by have HH:=A5 h;clear h;have m1:=m.alloc (C #[U c.name,Y I c.params,Y I c.g,sv] 111);generalize hq:E8 x c=q;have HQ:=A5 hq;clear hq;have es:=m1.e0;go_enter func259,ntmps259;go_wp2_with fail;refine(UE x c sv fb HH.out.2 m1 hf HH.out.1).mono ?_;exact PY
theorem JO (x:AI) (fb:Nat) (v:V_) (xs:List AF) (bf:Nat) (m:AC w0 H ((bf,C #[.func (.func 219) #[M (O ⟨fb,0,X⟩)] #[]] 167)::L) w) (hv:AX Ch H v xs) (hf:FQ H x fb):K_ yA 104 #[v,.func (.func 259) #[] #[M (O ⟨bf,0,X⟩)]] w (Me w0 H ((bf,C #[.func (.func 219) #[M (O ⟨fb,0,X⟩)] #[]] 167)::L) (!xs.all (E8 x))):=by
 have HV:=A5 hv;obtain⟨b,c,rfl,ad,aa,_,_⟩:=hv;have aa:=A9 aa;go_enter func104,ntmps104;go_wp2_with fail;(go_loopw [5,8] (λ_ i wr=>∃k:Nat,k<=xs.length/\i= Y I k/\(xs.take k).all (E8 x)=B/\AC w0 H ((bf,C #[.func (.func 219) #[M (O ⟨fb,0,X⟩)] #[]] 167)::L) wr) (λ_ i _=>xs.length-(intOf i).toNat));case atStart=>exact⟨0,uP _,Z,Z,m⟩
 case round=>
  clear m;obtain⟨k,hk,rfl,kH,m⟩:=hrel;have HA:=A5 kH;clear kH;by_cases eP:k<xs.length
  .have hx:=uH eP;generalize hy:xs[k]=y at hx;obtain⟨kA,off,sv,rfl,q1,q2,q3,q4,q5,q6⟩:=HV.out.getCode hx;clear hx;have ad:=q1.cell m;have aa:=q2.cell m;have af:=q3.cell m;have ae:=q4.cell m;cases hq:E8 x y
   .have HQ:=A5 hq;clear hq;have HY:=A5 hy;clear hy;go_wp2_with fail;refine(J2 x fb y sv bf m hf ⟨q5,q6⟩).mono ?_;rw[HQ.out];rintro e w2 ⟨rfl,m2⟩;go_wp2_with fail;go_ret;refine⟨_,Z,?_,m2⟩;rw[show xs.all (E8 x)=G from B4 _ xs k eP Rc];simp
   .have HQ:=A5 hq;clear hq;have HY:=A5 hy;clear hy;go_wp2_with fail;refine(J2 x fb y sv bf m hf ⟨q5,q6⟩).mono ?_;exact Rt
  .go_wp2_with fail;exact NO
theorem IJ (x:AI) (fb:Nat) (v:V_) (xs:List AF) (bf:Nat) (m:AC w0 H ((bf,C #[.func (.func 219) #[M (O ⟨fb,0,X⟩)] #[]] 167)::L) w) (hv:AX Ch H v xs) (hf:FQ H x fb):K_ yA 177 #[v,.func (.func 259) #[] #[M (O ⟨bf,0,X⟩)]] w (Bv w0 H ((bf,C #[.func (.func 219) #[M (O ⟨fb,0,X⟩)] #[]] 167)::L) (N (!xs.all (E8 x)))):=by go_enter func177,ntmps177;go_wp2_with (go_at_call 104;refine(JO x fb v xs bf m hv hf).mono ?_;rintro e w' ⟨k,rfl,hk,m2⟩;have HK:=A5 hk;clear hk);exact IW
theorem PW (x:AI) (fb:Nat) (v:V_) (xs:List AF) (m:AC w0 H L w) (hv:AX Ch H v xs) (hf:FQ H x fb):K_ yA 206 #[v,.func (.func 219) #[M (O ⟨fb,0,X⟩)] #[]] w (Bv w0 H L (N (xs.all (E8 x)))):=by have HV:=A5 hv;clear hv;go_enter func206,ntmps206;have m1:=m.alloc (C #[.func (.func 219) #[M (O ⟨fb,0,X⟩)] #[]] 167);go_wp2_with fail;refine(IJ x fb v xs _ m1 HV.out hf).mono ?_;exact Ms
def N0 (x:AI):Bool:=(Cf (x.k.map AK.name)&&(Cf (x.c.map Aj.name)&&(Cf x.r&&Cf (x.d.map AF.name))))&&(x.k.all D8&&(x.c.all DX&&x.d.all (E8 x)))
theorem UY (x:AI) (fb:Nat) (hm1:x.k.length<=4096) (az:x.c.length<=4096) (ay:x.d.length<=4096) (m:AC w0 H L w) (hf:FQ H x fb):K_ yA 162 #[M (O ⟨fb,0,X⟩)] w λe w'=>∃H',Bl H H'/\Bv w0 H' L (N (N0 x)) e w':=by
 have HF:=A5 hf;obtain⟨vc,vk,vr,vd,v1,v2,v3,v4,v5,mc,mk,bg,md0,sm,om,kn,ah,aa,h1,h2,h3,ba,g1,g2,g3,g4,h4,aw,h5,ax⟩:=hf.box;clear h1 h2 h3 g1 g2 g3 g4 h5 ax ba h4 aw hf;have HX:=A5 aa;obtain⟨b1,c1,b2,c2,b3,c3,b4,c4,rfl,rfl,rfl,rfl,l1,l2,l3,l4⟩:=aa.shapes;clear aa;have HFB:=A5 ah;clear ah;generalize ag:N0 x=res;have HRES:=A5 ag;clear ag;go_enter func162,ntmps162;go_wp2_with fail;refine B1 m [VK (M (O ⟨fb,0,X⟩)),⟨[1],λzb=>(zb.getD 0 Ax).v,O ([],[],λzb d=>BT d.v (x.k.map AK.name) d.bl),G⟩,VK (M (O ⟨fb,0,X⟩)),⟨[3],λzb=>(zb.getD 0 Ax).v,O ([],[],λzb d=>BT d.v (x.c.map Aj.name) d.bl),G⟩,VK (M (O ⟨fb,0,X⟩)),VK (M (O ⟨fb,0,X⟩)),VK (M (O ⟨fb,0,X⟩)),VK (M (O ⟨fb,2,X⟩)),VK (V b3 x.r.length c3),VK (M (O ⟨fb,0,X⟩)),⟨[10],λzb=>(zb.getD 0 Ax).v,O ([],[],λzb d=>BT d.v (x.d.map AF.name) d.bl),G⟩,⟨[11],λzb=> V (O ⟨(zb.getD 0 Ax).b,0,X⟩) 4 4,O ([],[1,3,10],λzb d=>d.bl=[(d.b,C #[(zb.getD 0 Ax).v,(zb.getD 1 Ax).v,V b3 x.r.length c3,(zb.getD 2 Ax).v] 24)]),G⟩,VK (Y I 4),VK (Y I 0)] (nf 1++[B]++nf 1++[B]++nf 6++[B,B]++nf 2) ?_ ?_
 .refine⟨AA,?_,AA,?_,AA,nh,AA,AA,nh,AA,?_,?_,AA,AA,trivial⟩
  ·(refine Al.gen _ Z Z Z λbs w L2 hb m=>?_);simp only[uU,uA] at m;refine BU.ofCall (f:=211) (args:=#[M (O ⟨fb,0,X⟩)]) Br ?_;refine(Md x _ _ _ _ _ _ _ _ _ fb hm1 m HFB.out HX.out).mono ?_;exact UO
  ·(refine Al.gen _ Z Z Z λbs w L2 hb m=>?_);simp only[uU,uA] at m;refine BU.ofCall (f:=212) (args:=#[M (O ⟨fb,0,X⟩)]) Br ?_;refine(NF x _ _ _ _ _ _ _ _ _ fb az m HFB.out HX.out).mono ?_;exact UO
  ·(refine Al.gen _ Z Z Z λbs w L2 hb m=>?_);simp only[uU,uA] at m;refine BU.ofCall (f:=213) (args:=#[M (O ⟨fb,0,X⟩)]) Br ?_;refine(Mm x _ _ _ _ _ _ _ _ _ fb ay m HFB.out HX.out).mono ?_;exact UO
  ·(refine Al.make _ _ Z Z Z λbs w hb m=>?_);show(x_ _ _).run _ _= .ok (.value (V (O ⟨w.heap.size,0,X⟩) 4 4)) (w.alloc (C #[(bs 1).v,(bs 3).v,V b3 x.r.length c3,(bs 10).v] 24));have h1:BT (bs 1).v (x.k.map AK.name) (bs 1).bl:=hb.at 1 A7 Z Z;have h3:BT (bs 3).v (x.c.map Aj.name) (bs 3).bl:=hb.at 3 A7 Z Z;have au:BT (bs 10).v (x.d.map AF.name) (bs 10).bl:=hb.at 10 A7 Z Z;obtain⟨y1,z1,e1,_⟩:=h1.shape;obtain⟨y3,z3,e3,_⟩:=h3.shape;obtain⟨bf,bd,av,_⟩:=au.shape;rw[e1,e3,av];clear h1 h3 au e1 e3 av m;exact AT
 .intro bs wd hb md;replace md:=AC.like4 m (bs 1).bl (bs 3).bl (bs 10).bl (bs 11).bl md;have ar:BT (bs 1).v (x.k.map AK.name) (bs 1).bl:=hb 1 _ _ Z Z;have aq:BT (bs 3).v (x.c.map Aj.name) (bs 3).bl:=hb 3 _ _ Z Z;have af:BT (bs 10).v (x.d.map AF.name) (bs 10).bl:=hb 10 _ _ Z Z;have ae:(bs 11).bl=[((bs 11).b,C #[(bs 1).v,(bs 3).v,V b3 x.r.length c3,(bs 10).v] 24)]:=hb 11 _ _ Z Z;rw[ae] at md;(try simp only[uE,uA] at md);simp only[uJ,uN,Nat.reduceAdd,uO,uK,uL];clear hb;obtain⟨H1,n1,g1,f1⟩:=ar.freeze md;obtain⟨H2,n2,g2,f3⟩:=aq.freeze n1;obtain⟨H3,n3,g3,f10⟩:=af.freeze n2;have k2:=g2.trans g3;have k1:=g1.trans k2;have f1:=f1.mono k2;have f3:=f3.mono g3;have f2:=HX.out.r.mono k1;have bb:=A5 (HF.out.mono k1);have ak:=A5 (HX.out.mono k1);have ad:=A5 (k1 _ _ HFB.out);clear ar aq af ae n1 n2 g1 g2 g3 k2 md HF HX HFB;generalize (bs 11).b=qb at*;generalize (bs 1).v=u1 at*;generalize (bs 3).v=u3 at*;generalize (bs 10).v=u10 at*;have K1:=A5 k1;have F1:=A5 f1;have F3:=A5 f3;have F2:=A5 f2;have bc:=A5 f10;clear k1 f1 f3 f2 f10;(have Nq:=λb=>Cf b);(obtain⟨nm,hnm⟩:∃f:Nat->Bool,f=λj=>match j with|0=>Cf (x.k.map AK.name)|1=>Cf (x.c.map Aj.name)|2=>Cf x.r|_=>Cf (x.d.map AF.name):=⟨_,Z⟩);have HNM:=A5 hnm;clear hnm Nq;go_wp2_with fail;(go_loopw [18] (λaj wr=>∃k:Nat,k<=4/\aj= Y I k/\Hid (∀j,j<k->nm j=B)/\AC w0 H3 ((qb,C #[u1,u3,V b3 x.r.length c3,u10] 24)::L) wr) (λaj _=>4-(intOf aj).toNat));case atStart=>exact⟨0,uP _,Z,A5 (λj hj=>a_ hj A0),n3⟩
  case round=>
   clear n3;obtain⟨k,hk,rfl,HA,mk⟩:=hrel;have es:=mk.e0;by_cases eP:k<4
   .rcases(by omega:k=0\/k=1\/k=2\/k=3) with rfl|rfl|rfl|rfl
    .go_wp2_with fail;refine(Fc _ (x.k.map AK.name) mk F1.out).mono ?_;rintro e w4 ⟨rfl,m4⟩;clear es mk;cases hq:Cf (x.k.map AK.name)
     .exact T5
     .have HQ:=A5 hq;clear hq;go_wp2_with fail;go_roundw;(case rel=>exact⟨0+1,by omega,by go_num,A5 (λj hj=>by rcases uV.1 hj with h|h;exact HA.out j h;subst h;rw[HNM.out];exact HQ.out),m4⟩);case measure=>simp[intOf]
    .go_wp2_with fail;refine(Fc _ (x.c.map Aj.name) mk F3.out).mono ?_;rintro e w4 ⟨rfl,m4⟩;clear es mk;cases hq:Cf (x.c.map Aj.name)
     .exact T5
     .have HQ:=A5 hq;clear hq;go_wp2_with fail;go_roundw;(case rel=>exact⟨1+1,by omega,by go_num,A5 (λj hj=>by rcases uV.1 hj with h|h;exact HA.out j h;subst h;rw[HNM.out];exact HQ.out),m4⟩);case measure=>simp[intOf]
    .go_wp2_with fail;refine(Fc _ (x.r) mk F2.out).mono ?_;rintro e w4 ⟨rfl,m4⟩;clear es mk;cases hq:Cf (x.r)
     .exact T5
     .have HQ:=A5 hq;clear hq;go_wp2_with fail;go_roundw;(case rel=>exact⟨2+1,by omega,by go_num,A5 (λj hj=>by rcases uV.1 hj with h|h;exact HA.out j h;subst h;rw[HNM.out];exact HQ.out),m4⟩);case measure=>simp[intOf]
    .go_wp2_with fail;refine(Fc _ (x.d.map AF.name) mk bc.out).mono ?_;rintro e w4 ⟨rfl,m4⟩;clear es mk;cases hq:Cf (x.d.map AF.name)
     .exact T5
     .have HQ:=A5 hq;clear hq;go_wp2_with fail;go_roundw;(case rel=>exact⟨3+1,by omega,by go_num,A5 (λj hj=>by rcases uV.1 hj with h|h;exact HA.out j h;subst h;rw[HNM.out];exact HQ.out),m4⟩);case measure=>simp[intOf]
   .have h4:k=4:=A0;subst h4
    have ai:Hid (Cf (x.k.map AK.name)=B/\Cf (x.c.map Aj.name)=B/\Cf x.r=B/\Cf (x.d.map AF.name)=B):=A5 (by
     have h0:=HA.out 0 A0;have h1:=HA.out 1 A0;have h2:=HA.out 2 A0;have h3:=HA.out 3 A0;rw[HNM.out] at h0 h1 h2 h3
     exact⟨h0,h1,h2,h3⟩)
    clear HA es;have ml:=mk.drop;clear mk;have al:Hid ((x.k.all D8&&(x.c.all DX&&x.d.all (E8 x)))=res):=A5 (by rw[<-HRES.out];unfold N0;rw[ai.out.1,ai.out.2.1,ai.out.2.2.1,ai.out.2.2.2];rfl);clear ai HRES HNM;have ef:=Bw (L:=[(fb,Bc (V b1 x.k.length c1) (V b2 x.c.length c2) (V b3 x.r.length c3) (V b4 x.d.length c4) v1 v2 v3 v4 v5)]) (λp hp=>by rw[uD.1 hp];exact ml.imm _ _ ad.out);simp only[BS,Bc] at ef;go_wp2_with fail;refine(Qe _ x.k ml ak.out.c).mono ?_;rintro e w5 ⟨rfl,m5⟩;clear ef ml;cases hq:x.k.all D8
    .have HQ:=A5 hq;clear hq;go_wp2_with fail;go_ret;exact⟨H3,K1.out,A8 (by rw[<-al.out,HQ.out];rfl),m5⟩
    have HQ:=A5 hq;clear hq;have ef:=Bw (L:=[(fb,Bc (V b1 x.k.length c1) (V b2 x.c.length c2) (V b3 x.r.length c3) (V b4 x.d.length c4) v1 v2 v3 v4 v5)]) (λp hp=>by rw[uD.1 hp];exact m5.imm _ _ ad.out);simp only[BS,Bc] at ef;go_wp2_with fail;refine(R4 _ x.c m5 ak.out.k).mono ?_;rintro e w6 ⟨rfl,m6⟩;clear ef m5;cases hq:x.c.all DX
    .have ao:=A5 hq;clear hq;go_wp2_with fail;go_ret;exact⟨H3,K1.out,A8 (by rw[<-al.out,HQ.out,ao.out];rfl),m6⟩
    have ao:=A5 hq;clear hq;have ef:=Bw (L:=[(fb,Bc (V b1 x.k.length c1) (V b2 x.c.length c2) (V b3 x.r.length c3) (V b4 x.d.length c4) v1 v2 v3 v4 v5)]) (λp hp=>by rw[uD.1 hp];exact m6.imm _ _ ad.out);simp only[BS,Bc] at ef;go_wp2_with fail;refine(PW x fb _ x.d m6 ak.out.d bb.out).mono ?_;rintro e w7 ⟨rfl,m7⟩;clear ef m6;go_wp2_with fail;go_ret;exact⟨H3,K1.out,A8 (by rw[<-al.out,HQ.out,ao.out];rfl),m7⟩
theorem Y9 (c:AK):D8 c=Fj c:=by unfold D8 Fj;rw[GG];congr 1;rw[uM,decide_eq_true_eq,decide_eq_true_eq];omega
theorem Zf (c:AF):EK c=T (c.i.length<=2000/\c.g<=250):=by unfold EK;rw[uM,uB,decide_eq_true_eq,decide_eq_true_eq,decide_eq_true_eq];omega
theorem Zp (x:AI):IM x= !Cg x:=by unfold IM Cg;rw[show x.d.all EK=x.d.all (λc=>T (c.i.length<=2000/\c.g<=250)) from congrArg x.d.all (funext Zf)];generalize x.d.all (λc=>T (c.i.length<=2000/\c.g<=250))=q;rw[uM,uQ,Bool.and_eq_false_iff,decide_eq_false_iff_not];simp only[uW,decide_eq_true_eq,uQ];cases q<;>simp<;>omega
def hZ (op:Nat):Bool:=match SM op with
 |none=>T ((SJ op).word.size=0)&&(!J4 op&&T (op≠13))
 |some s=>T ((SJ op).word.size≠0)&&(((SJ op).to==s.to)&&(((SJ op).number==s.number)&&((!s.number||T ((SJ op).low=s.low/\(SJ op).high=s.high))&&(T ((SJ op).places=s.places)&&(T ((SJ op).name=s.name)&&
   ((T (op=13)||T ((SJ op).args=s.args/\s.args≠ -2/\s.args≠ -3))&&((s.w==T (op=66))&&((T (s.name=4)==T (op=15))&&((T (s.name≠6)||(T (s.args<0)==T (op=18)))&&((T (op≠18)||T (s.name=6))&&
   ((s.stops==J4 op)&&((T (op≠13)||T (s.to=B/\s.number=G/\s.name=0/\s.places=0/\(SJ op).args= -2))&&(T (s.name=0\/s.name=1\/s.name=2\/s.name=3\/s.name=4\/s.name=5\/s.name=6\/s.name=7)&&(T (s.name≠3)||T (op≠15/\op≠18/\op≠13)))))))))))))))
theorem lG:((List.range 256).all hZ)=true:=by kernel_rfl
theorem Y2 {op:Nat} (h:op<256):hZ op=true:=uF.1 lG op (uT.2 h)
theorem Sp {α:Type} (nm:α->ByteArray) (f:α->V_) (F:List α->List (ByteArray×V_)) (h0:F []=[]) (hs:∀l c,F (l++[c])=FT (F l) (nm c) (f c)):∀(r:List α),(r.reverse.map nm).Nodup->∀c∈r.reverse,BX (F r.reverse) (nm c)=O (f c)
 |[],_,c,hc=>by cases hc
 |d::r,hn,c,hc=>by
  rw[uX] at hn hc⊢
  rw[List.map_append,List.nodup_append] at hn
  rw[hs,Is]
  rcases uh.1 hc with hc|hc
  .rw[n_]
   .exact Sp nm f F h0 hs r hn.1 c hc
   .intro e
    exact hn.2.2 (nm c) (ud.2 ⟨c,hc,Z⟩) (nm d) (by simp) e.symm
  .rw[uD] at hc
   subst hc
   rw[p_ Z]
theorem ap {l:List AK} (hn:(l.map AK.name).Nodup) {c:AK} (hc:c∈l):Fw (DQ l) c.name=(c.f.length:Int):=by have:=Sp AK.name (λc=> Y I (c.f.length:Int)) DQ Z MZ l.reverse (by rw[uI];exact hn) c (by rw[uI];exact hc);rw[uI] at this;unfold Fw;rw[this]
theorem jh {l:List Aj} (hn:(l.map Aj.name).Nodup) {c:Aj} (hc:c∈l):Fw (EL l) c.name=c.parts:=by have:=Sp Aj.name (λc=> Y I c.parts) EL Z O8 l.reverse (by rw[uI];exact hn) c (by rw[uI];exact hc);rw[uI] at this;unfold Fw;rw[this]
theorem MM (nm:α->ByteArray) (l:List α) (s:ByteArray):(DG (λc=>T (nm c=s)) l<0/\IU (l.map nm) s=G)\/∃k,∃h:k<l.length,DG (λc=>T (nm c=s)) l=(k:Int)/\nm l[k]=s/\IU (l.map nm) s=true:=by
 have hh:IU (l.map nm) s=B↔s∈l.map nm:=by
  unfold IU;rw[decide_eq_true_eq];have:=Dq (l.map nm) s;constructor
  .intro h;by_cases h2:s∈l.map nm
   .exact h2
   .have:=this.2 h2;omega
  .intro h;by_cases h2:Aw (l.map nm) s<0
   .exact a_ h (this.1 h2)
   .omega
 rcases Cy (λc=>T (nm c=s)) l with ⟨h1,h2⟩|⟨k,hk,h1,h2⟩
 .refine .inl ⟨by omega,?_⟩
  cases hb:IU (l.map nm) s with
  |false=>rfl
  |true=>obtain⟨c,hc,he⟩:=ud.1 (hh.1 hb);have:=h2 c hc;rw[he] at this;simp at this
 .have h3:nm l[k]=s:=o_ h2;exact .inr ⟨k,hk,h1,h3,hh.2 (ud.2 ⟨l[k],uR hk,h3⟩)⟩
theorem EJ {l:List ByteArray} (h:B9 l=B):l.Nodup:=by rw[<-GG] at h;unfold Cf at h;rw[uB,decide_eq_true_eq,WF] at h;exact h.1
theorem PN (s:ByteArray):s.size=0↔s=uC:=by
 cases s with
 |mk d=>
  constructor
  .intro h;have:d=#[]:=Array.eq_empty_of_size_eq_zero h;subst this;rfl
  .intro h;rw[h];rfl
theorem KM {n m:Int} (h2:m≠ -2) (h3:m≠ -3):DB n m=(T (m= -1)||T (n=m)):=by
 unfold DB;by_cases h1:m= -1
 .rw[p_ h1,t_ h1];rfl
 .rw[n_ h1,n_ h2,n_ h3,f_ h1];rfl
theorem ZP (s:ByteArray):0<=Ev s:=by
 unfold Ev
 cases h:Ek.find? (λp=>T (p.1=s)) with
 |none=>exact Int.le_refl _
 |some p=>have h1:=List.mem_of_find?_eq_some h;have h2:(Ek.all λp=>T (0<=p.2))=true:=AD;simpa using uF.1 h2 p h1
theorem lB (x:AI) (i:Bu) (s:Qh) (al:i.op<256) (hs:SM i.op=O s) (hm:i.m=0\/(i.op=13/\i.m=1)) (h1:(x.k.map AK.name).Nodup) (h2:(x.c.map Aj.name).Nodup) (h3:x.c.all DX=B):Ca x i (CR i.op i.m)=Ed x s i:=by
 have ht:=Y2 al;unfold hZ at ht;rw[hs] at ht;simp only[uB,uW,decide_eq_true_eq,beq_iff_eq,ne_eq,uQ] at ht;obtain⟨t1,t2,t3,t4,t5,t6,t7,t8,t9,t10,t11,t12,t13,t14,t15⟩:=ht;unfold Ed Ca;by_cases ad:i.op=13
 .have ak:¬i.op=15:=A0;have aj:¬i.op=18:=A0;rw[n_ ak,n_ aj,p_ ad];rcases hm with hm|⟨_,hm⟩
  .have hq:CR i.op i.m=SJ i.op:=(by unfold CR;rw[n_ (λh=>by omega)]);obtain⟨u1,u2,u3,u4,u5⟩:=t13.resolve_left (λh=>h ad);rw[hq,n_ A0];unfold FP PG;rw[t6,u3,u5];simp only[if_true];by_cases hn:i.name=uC
   .rw[p_ hn,t_ hn];simp only[DB,yB];rfl
   .rw[n_ hn,f_ hn];rfl
  .have hq:CR i.op i.m=Pk:=(by unfold CR;rw[p_ ⟨ad,hm⟩]);rw[hq,p_ hm];unfold FP;simp only[Pk];rcases MM AF.name x.d i.name with ⟨e1,e2⟩|⟨k,hk,e1,e2,e3⟩
   .have aa:Cn x i.name<0:=e1;rw[e2];simp[aa]
   .have aa:¬Cn x i.name<0:=(by unfold Cn;omega);rw[e3];simp[aa,DB];omega
 .have ao:i.m=0:=by
   rcases hm with hm|⟨h,_⟩
   .exact hm
   .exact a_ h ad
  have hq:CR i.op i.m=SJ i.op:=(by unfold CR;rw[n_ (λh=>ad h.1)]);rw[hq,n_ ad];obtain⟨a1,a2,a3⟩:=t7.resolve_left ad;by_cases ag:i.op=15
  .have ah:s.name=4:=(by rw[t_ ag,decide_eq_true_eq] at t9;exact t9);rw[p_ ag];unfold FP PG;rw[t6,ah];simp only[(AD:¬(4:Nat)=0),(AD:¬(4:Nat)=1),(AD:¬(4:Nat)=2),(AD:¬(4:Nat)=3),(AD:¬(4:Nat)=5),if_false,if_true];rcases MM AK.name x.k i.name with ⟨e1,e2⟩|⟨k,hk,e1,e2,e3⟩
   .have aa:Eh x i.name<0:=e1;rw[e2,p_ aa];rfl
   .have e0:Eh x i.name=(k:Int):=e1;have aa:¬Eh x i.name<0:=A0;have hf:Fw (DQ x.k) i.name=((x.k[k]).f.length:Int):=(by rw[<-e2];exact ap h1 (uR hk));have ai:M7 x (Eh x i.name).toNat=((x.k[k]).f.length:Int):=(by rw[e0,un];unfold M7;rw[uH hk]);rw[e3,n_ aa,hf,ai];simp only[yB];exact KM A0 A0
  .rw[n_ ag];by_cases ae:i.op=18
   .have af:s.name=6:=t11.resolve_left (λh=>h ae);have eP:s.args<0:=(by have:=t10.resolve_left (λh=>h af);rw[t_ ae,decide_eq_true_eq] at this;exact this);rw[p_ ae];unfold FP PG;rw[t6,af,a1];simp only[(AD:¬(6:Nat)=0),(AD:¬(6:Nat)=1),(AD:¬(6:Nat)=2),(AD:¬(6:Nat)=3),(AD:¬(6:Nat)=4),(AD:¬(6:Nat)=5),if_false,if_true];rcases MM Aj.name x.c i.name with ⟨e1,e2⟩|⟨k,hk,e1,e2,e3⟩
    .have aa:E6 x i.name<0:=e1;rw[e2,p_ aa];rfl
    .have e0:E6 x i.name=(k:Int):=e1;have aa:¬E6 x i.name<0:=A0;have hf:Fw (EL x.c) i.name=(x.c[k]).parts:=(by rw[<-e2];exact jh h2 (uR hk));have ai:Of x (E6 x i.name).toNat=(x.c[k]).parts:=(by rw[e0,un];unfold Of;rw[uH hk]);have hp:0<=(x.c[k]).parts:=(by have:=uF.1 h3 _ (uR hk);unfold DX F6 at this;rw[uB,decide_eq_true_eq] at this;exact this.2.1);rw[e3,n_ aa,p_ eP,hf,ai];simp only[yB];exact KM A0 A0
   .rw[n_ ae];have ah:s.name≠4:=(by intro h;rw[t_ h,f_ ag] at t9;cases t9);have af:s.name=6->¬s.args<0:=(by intro h h';have:=t10.resolve_left (λh2=>h2 h);rw[t_ h',f_ ae] at this;cases this);have hc:=KM (n:=(i.args.length:Int)) a2 a3;unfold FP PG Nc;rw[t6,a1];rcases t14 with h|h|h|h|h|h|h|h
    .simp only[h,if_true,(AD:¬(0:Nat)=3),if_false];by_cases hn:i.name=uC
     .rw[p_ hn,t_ hn,yB];exact hc
     .rw[n_ hn,f_ hn];rfl
    .simp only[h,(AD:¬(1:Nat)=0),(AD:¬(1:Nat)=3),if_false,if_true];cases DC i.name
     .rfl
     .rw[p_ Z,yB];exact hc
    .simp only[h,(AD:¬(2:Nat)=0),(AD:¬(2:Nat)=1),(AD:¬(2:Nat)=3),(AD:¬(2:Nat)=4),(AD:¬(2:Nat)=5),(AD:¬(2:Nat)=6),(AD:¬(2:Nat)=7),if_false,if_true];rcases MM AF.name x.d i.name with ⟨e1,e2⟩|⟨k,hk,e1,e2,e3⟩
     .have aa:Cn x i.name<0:=e1;rw[e2,p_ aa];rfl
     .have aa:¬Cn x i.name<0:=(by unfold Cn;omega);rw[e3,n_ aa,yB];exact hc
    .simp only[h,(AD:¬(3:Nat)=0),(AD:¬(3:Nat)=1),(AD:¬(3:Nat)=2),if_false,if_true];have hp:=ZP i.name;by_cases h0:Ev i.name=0
     .rw[p_ h0,h0];rfl
     .rw[n_ h0,t_ (A0:0<Ev i.name),yB];exact KM A0 A0
    .exact a_ h ah
    .simp only[h,(AD:¬(5:Nat)=0),(AD:¬(5:Nat)=1),(AD:¬(5:Nat)=2),(AD:¬(5:Nat)=3),(AD:¬(5:Nat)=4),(AD:¬(5:Nat)=6),(AD:¬(5:Nat)=7),if_false,if_true];cases B3 i.name
     .rfl
     .rw[p_ Z,yB];exact hc
    .simp only[h,(AD:¬(6:Nat)=0),(AD:¬(6:Nat)=1),(AD:¬(6:Nat)=2),(AD:¬(6:Nat)=3),(AD:¬(6:Nat)=4),(AD:¬(6:Nat)=5),if_false,if_true];rcases MM Aj.name x.c i.name with ⟨e1,e2⟩|⟨k,hk,e1,e2,e3⟩
     .have aa:E6 x i.name<0:=e1;rw[e2,p_ aa];rfl
     .have aa:¬E6 x i.name<0:=(by unfold E6;omega);rw[e3,n_ aa,n_ (af h),yB];exact hc
    .simp only[h,(AD:¬(7:Nat)=0),(AD:¬(7:Nat)=1),(AD:¬(7:Nat)=2),(AD:¬(7:Nat)=3),(AD:¬(7:Nat)=4),(AD:¬(7:Nat)=5),(AD:¬(7:Nat)=6),if_false,if_true];unfold IU;by_cases h0:Aw x.r i.name<0
     .rw[p_ h0,f_ (A0:¬0<=Aw x.r i.name)];rfl
     .rw[n_ h0,t_ (A0:0<=Aw x.r i.name),yB];exact hc
theorem gN (x:AI) (c:AF) (i:Bu) (ad:i.op<256) (h1:(x.k.map AK.name).Nodup) (h2:(x.c.map Aj.name).Nodup) (h3:x.c.all DX=B):FU x c i=Fh x c i:=by
 have ht:=Y2 ad;unfold hZ at ht;unfold FU
 cases hs:SM i.op with
 |none=>rw[hs] at ht;simp only[uB,decide_eq_true_eq,ne_eq,uQ] at ht;obtain⟨t1,t2,t3⟩:=ht;have hq:CR i.op i.m=SJ i.op:=(by unfold CR;rw[n_ (λh=>t3 h.1)]);unfold Fh;rw[hq,f_ (show ¬(SJ i.op).word≠uC from λh=>h ((PN _).1 t1))];rfl
 |some s=>
  rw[hs] at ht;simp only[uB,uW,decide_eq_true_eq,beq_iff_eq,ne_eq,uQ] at ht;obtain⟨t1,t2,t3,t4,t5,t6,t7,t8,t9,t10,t11,t12,t13,t14,t15⟩:=ht;rw[Option.isSome_some,yB,Option.getD_some];unfold Uj Fh;by_cases hm:i.m=0\/(i.op=13/\i.m=1)
  .rw[lB x i s ad hs hm h1 h2 h3]
   have hq:(CR i.op i.m).word≠uC/\(CR i.op i.m).to=s.to/\(CR i.op i.m).number=s.number/\(s.number=B->(CR i.op i.m).low=s.low/\(CR i.op i.m).high=s.high)/\(CR i.op i.m).places=s.places:=by
    by_cases aa:i.op=13/\i.m=1
    .obtain⟨u1,u2,u3,u4,u5⟩:=t13.resolve_left (λh=>h aa.1);have hq:CR i.op i.m=Pk:=(by unfold CR;rw[p_ aa]);rw[hq,u1,u2,u4];exact⟨by decide,Z,Z,(λh=>by cases h),Z⟩
    .have hq:CR i.op i.m=SJ i.op:=(by unfold CR;rw[n_ aa]);rw[hq];refine⟨λh=>t1 ((PN _).2 h),t2,t3,λh=>?_,t5⟩;rcases t4 with h4|h4
     .rw[h] at h4;cases h4
     .exact h4
   obtain⟨q1,q2,q3,q4,q5⟩:=hq;rw[t_ q1,q2,q3,q5]
   have hn:(if s.number=B then F6 i.n (CR i.op i.m).low (CR i.op i.m).high else T (i.n=0))=if s.number=B then F6 i.n s.low s.high else T (i.n=0):=by
    by_cases hb:s.number=B
    .rw[p_ hb,p_ hb,(q4 hb).1,(q4 hb).2]
    .rw[n_ hb,n_ hb]
   have hw:(Eu i.w c.g c.i.length&&(if i.op=66 then F6 i.w.length 1 4 else T (i.w.length=0)))=(if s.w=B then Eu i.w c.g c.i.length&&F6 i.w.length 1 4 else T (i.w.length=0)):=by
    by_cases h66:i.op=66
    .rw[t_ h66] at t8;rw[p_ h66,p_ t8]
    .rw[f_ h66] at t8;rw[n_ h66,t8,n_ (by simp)];by_cases hl:i.w.length=0
     .rw[t_ hl,List.eq_nil_of_length_eq_zero hl];rfl
     .rw[f_ hl,Bool.and_false]
   rw[hn,hw,yB];generalize Ed x s i=a1;generalize (i.args.all λr=>F6 r 0 (c.g-1))=a2;generalize (i.go.all λp=>F6 p 0 (c.i.length-1))=a3;generalize T ((i.go.length:Int)=s.places)=a4;generalize (if s.to=B then F6 i.to 0 (c.g-1) else T (i.to= -1))=a5;generalize (if s.number=B then F6 i.n s.low s.high else T (i.n=0))=a6;generalize T (i.m=0\/i.op=13/\i.m=1)=a7;generalize (if s.w=B then Eu i.w c.g c.i.length&&F6 i.w.length 1 4 else T (i.w.length=0))=a8;cases a1<;>cases a2<;>cases a3<;>cases a4<;>cases a5<;>cases a6<;>cases a7<;>rfl
  .rw[f_ hm];simp
theorem jq {op:Nat} (h:op<256):((SM op).getD GO).stops=J4 op:=by
 have ht:=Y2 h;unfold hZ at ht
 cases hs:SM op with
 |none=>rw[hs] at ht;simp only[uB,decide_eq_true_eq,ne_eq,uQ] at ht;rw[ht.2.1];rfl
 |some s=>rw[hs] at ht;simp only[uB,uW,decide_eq_true_eq,beq_iff_eq,ne_eq,uQ] at ht;obtain⟨t1,t2,t3,t4,t5,t6,t7,t8,t9,t10,t11,t12,t13,t14,t15⟩:=ht;exact t12
theorem ZE (x:AI) (c:AF) (aa:∀i∈c.i,i.op<256) (h1:(x.k.map AK.name).Nodup) (h2:(x.c.map Aj.name).Nodup) (h3:x.c.all DX=B):E8 x c=DM x c:=by
 unfold E8 DM;have ha:c.i.all (FU x c)=c.i.all (Fh x c):=(by rw[uM,uF,uF];exact⟨λh i hi=>by rw[<-gN x c i (aa i hi) h1 h2 h3];exact h i hi,λh i hi=>by rw[gN x c i (aa i hi) h1 h2 h3];exact h i hi⟩)
 have hs:((SM (Fg c)).getD GO).stops=J4 (Fg c):=by
  refine jq ?_;unfold Fg
  cases hl:c.i[c.i.length-1]? with
  |none=>decide
  |some i=>exact aa i (List.mem_of_getElem? hl)
 rw[ha,hs];generalize F6 c.params 0 c.g=a1;generalize T (c.i.length≠0)=a2;generalize c.i.all (Fh x c)=a3;generalize J4 (Fg c)=a4;cases a1<;>cases a2<;>cases a3<;>cases a4<;>rfl
theorem kf (x:AI) (aa:∀c∈x.d,∀i∈c.i,i.op<256):N0 x=DL x:=by
 unfold N0 DL;rw[GG,GG,GG,GG];have hc:x.k.all D8=x.k.all Fj:=(by congr 1;funext c;exact Y9 c);rw[hc];cases a1:B9 (x.k.map AK.name)
 .simp
 cases a2:B9 (x.c.map Aj.name)
 .simp
 cases a3:x.c.all DX
 .simp
 have hk:x.d.all (E8 x)=x.d.all (DM x):=(by rw[uM,uF,uF];exact⟨λh c hc=>by rw[<-ZE x c (aa c hc) (EJ a1) (EJ a2) a3];exact h c hc,λh c hc=>by rw[ZE x c (aa c hc) (EJ a1) (EJ a2) a3];exact h c hc⟩);rw[hk];generalize B9 x.r=b1;generalize B9 (x.d.map AF.name)=b2;generalize x.k.all Fj=b3;generalize x.d.all (DM x)=b4;cases b1<;>cases b2<;>cases b3<;>cases b4<;>rfl
