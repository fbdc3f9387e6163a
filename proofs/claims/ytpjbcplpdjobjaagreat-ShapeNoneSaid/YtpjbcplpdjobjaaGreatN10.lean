/- Part 10: SRU SRV SRW LDA LDB LDI LEH LEJ LEK LEM LEI LEN LEA LEB LEC LDC LDD LDE LDF. -/
import Derived.Test.YtpjbcplpdjobjaaGreatN04
import Derived.Test.YtpjbcplpdjobjaaGreatN08
import Derived.Shelf.Slices.In.SortNone
import Derived.Test.YtpjbcplpdjobjaaGreatN07
namespace Go.Proofs.YtpjbcplpdjobjaaGreat
set_option maxRecDepth 100000
set_option maxHeartbeats 0
set_option linter.unusedVariables false
set_option linter.unusedSimpArgs false
set_option linter.unusedSectionVars false
open Go Go.RowKit
open _root_.Go.Proofs.Tryz renaming prog→yA
open _root_.List renaming getElem?_eq_getElem→yB,nil_append→uB,getElem_mem→uC,cons_append→uD,replicate→uE,length_cons→uF,length_nil→uG,toList_toArray→uH,drop_succ_cons→uI,drop_zero→uJ,take_succ_eq_append_getElem→uK,flatMap_nil→uN,length_map→uO,length_mergeSort→uP,getElem?_eq_some_iff→uQ,setIfInBounds_toArray→uR,any_eq_false→uT,mem_singleton→uU,all_eq_true→uX,map_map→uY,set_cons_zero→uh,eq_nil_of_length_eq_zero→ui,findIdx?_eq_some_iff_getElem→uj,findIdx?_eq_none_iff→ul,length_append→um,mem_append→un,length_set→uq,flatMap_cons→ur,append_nil→ut
open _root_.Nat renaming zero_le→uA,mul_one→uS
open _root_.Bool renaming and_eq_true→uL,not_true→uV,not_false→uW
open _root_.Array renaming replicate→uM,getElem?_append_left→uZ,getElem?_modify→ud
open _root_.Go.Proofs.Tryz
open Option renaming some→O,none→X
open Bool renaming true→B,false→G
open Decidable renaming decide→T
open _root_.Go renaming Value→V_,World→W_,Calls→K_,execOp→x_,Operand→O_,Program→P_,TypeId→T_,run_underlying→u_,bodyPost_ret→b_,Ending→E_
open _root_.Go.Value renaming slice→V,int→Y,pointer→M,string→U,bool→N
open _root_.Go.IntKind renaming i64→I
open _root_.Go.Obj renaming cells→C
variable {H:Hp} {L:List (Nat×Obj)} {g k:Nat} {o':Obj} {w w' w0:World}
def Cz (xs:List ByteArray):List ByteArray:=((xs.map λs=>s.data.toList).mergeSort λx y=>T (x<=y)).map λl=>⟨l.toArray⟩
theorem AC.setObjG {L':List (Nat×Obj)} {o:Obj} (m:AC w0 H L w) (hu:DU L k o o' L') (ho:w'.os=w.os) (ht:w'.tape=w.tape) (hp:w'.output=w.output) (hk:w'.heap[k]?=O o') (hr:∀j oj,j≠k->w.heap[j]?=O oj->w'.heap[j]?=O oj):AC w0 H L' w':=by
 have ad:=m.loc _ hu.mem;refine⟨ho.trans m.os,ht.trans m.tape,hp.trans m.output,λj oj hj=>?_,λp hp=>?_,by rw[hu.keys];exact m.nd⟩
 ·(have lI:j≠k:=λe=>by rw[e,ad.2] at hj;cases hj);exact hr j oj lI (m.imm j oj hj)
 .rcases hu.of_mem m.nd p hp with rfl|⟨aa,lI⟩
  .exact⟨hk,ad.2⟩
  .exact⟨hr _ _ lI (m.loc p aa).1,(m.loc p aa).2⟩
theorem Vv {cap:Nat} {lX:Array V_} {xs:List ByteArray} (m:AC w0 H ((g,C lX 9)::L) w) (hl:xs.length<=100000) (hn:xs.length<=cap) (hc:cap<=maxLen) (hs:lX.size=cap) (hx:lX.toList.take xs.length=xs.map U):K_ yA 173 #[V (O ⟨g,0,X⟩) xs.length cap] w λe w'=>∃v aa,e= .returned v/\aa.size=cap/\aa.toList.take xs.length=(Cz xs).map U/\AC w0 H ((g,C aa 9)::L) w':=by
 have hh:=(m.loc _ (.head _)).1;have ad:(xs.map λs=>s.data.toList).length=xs.length:=uO _;have hH:Go.Sort.Holds Go.Proofs.encStr w g 0 (xs.map λs=>s.data.toList).toArray:=(by intro j hj;have ae:j<xs.length:=Mn;refine⟨?_,by rw[Nat.zero_add];exact Bx hh j⟩;rw[Nat.zero_add,AU hh];have h1:lX[j]?=(xs.map U)[j]?:=(by rw[<-hx,List.getElem?_take,p_ ae,Array.getElem?_toList]);rw[h1];simp[ae]);have h:=Tryz.slices_Sort_string g 0 cap (xs.map λs=>s.data.toList) w hH (Af hh) (by rw[ad];omega);rw[ad] at h;refine h.mono ?_;rintro e w' ⟨rfl,n,os,rfl⟩;refine⟨_,Go.Sort.putCells Go.Proofs.encStr 0 ((xs.map λs=>s.data.toList).mergeSort λx y=>T (x<=y)).toArray lX,Z,by simp[Go.Sort.putCells,hs],?_,?_⟩
 .have h2:=Go.take_putCells lX ((xs.map λs=>s.data.toList).mergeSort λx y=>T (x<=y)) (by rw[uP,ad];omega);rw[uP,ad] at h2;rw[h2];unfold Cz;rw[uY];rfl
 .have eP:=Af hh;refine m.setObjG (DU.head (o':= C _ 9)) Z Z Z ?_ λj oj lI hj=>?_
  .simp only[Go.Sort.grow,Go.Sort.putRow,Go.Sort.mapBlock,Go.Sort.ahead];rw[uZ (by simpa using eP),ud,p_ Z,hh];rfl
  .have hjl:=Af hj;simp only[Go.Sort.grow,Go.Sort.putRow,Go.Sort.mapBlock,Go.Sort.ahead];rw[uZ (by simpa using hjl),ud,n_ (Ne.symm lI)];exact hj
variable {LB:List (Nat×Obj)} {W:World}
def qd (xs:List ByteArray) (j:Nat) (H1:Hp) (x:V_):Prop:=∃s,xs[j]?=O s/\x= U s
theorem VO (xs:List ByteArray) (v:V_) (bx l:Nat) (ad al:Nat->Hp->List (Nat×Obj)->Prop) (hY:KJ yA l w0 (qd xs) ad al) (aa:∀k H1 H2 LB,Bl H1 H2->ad k H1 LB->ad k H2 LB) (ak:ad 0 H LB) (m:AC w0 H ((bx,C #[v] 24)::LB) W) (hv:AX Aq H v xs):K_ yA 174 #[.func (.yield l) #[] #[],M (O ⟨bx,0,X⟩)] W (U3 w0 H xs.length ad al):=by
 have HY:=A5 hY;have aw:=A5 aa;clear hY aa;have HV:=A5 hv;obtain⟨q,lc,rfl,hq1,aj,-⟩:=hv;have aj:=A9 aj;have ar:=A5 (show ∀j s,xs[j]?=O s->∀H',qd xs j H' (U s) from λj s hs H'=>⟨s,hs,Z⟩);have es:=m.e0;go_enter func174,ntmps174;go_wp2_with fail;have m1:=m.drop;clear es m;(go_loopw [7] (λi wr=>∃(j:Nat) (H2:Hp) (af:List (Nat×Obj)),j<=xs.length/\i= Y I j/\Hid (Bl H H2)/\Hid (ad j H2 af)/\AC w0 H2 af wr) (λi _=>xs.length-(intOf i).toNat));case atStart=>exact⟨0,H,LB,uA _,Z,A5 (Bl.refl _),A5 ak,m1⟩
 case round=>
  clear m1 ak;obtain⟨j,H2,af,hj,rfl,HLE2,aq,mk⟩:=hrel;by_cases eP:j<xs.length
  .have ll:(j:Int)<xs.length:=A0;have hx:=yB eP;obtain⟨kA,off,rfl,e0,_⟩:=HV.out.getS hx;have HRA:=A5 (ar.out j _ hx H2);generalize xs[j]=s at*;have e0:=(e0.mono HLE2.out).cell mk;clear hx;(iterate 60 (first|(refine Ko 3 ?_)|go_values|go_skip|go_guarded|go_step|go_upon|go_back|(simp only[Int.not_lt,Int.not_le] at*;go_simp)|skip));refine QG.mk ?_;refine mx mk ?_;clear mk e0;intro WY mW;obtain⟨fn,tmps,av,au,hy,hR⟩:=HY.out 0 j H2 [] af WY _ HRA.out aq.out mW;gi_wp2;refine hR.mono ?_;rintro e W9 ⟨H9,ao,ae,ai,(⟨rfl,ah⟩|⟨rfl,ag⟩)⟩
   .gi_wp2;go_wp2_with fail;go_roundw;(case rel=>exact⟨j+1,H9,ao,by omega,by go_num,A5 (HLE2.out.trans ae),A5 ah,ai⟩);case measure=>exact BW
   .gi_wp2;go_wp2_with fail;go_end0;exact⟨⟨_,Z⟩,0,H9,_,ao,HLE2.out.trans ae,ai,.inr ⟨_,ag⟩⟩
  .have hge:¬(j:Int)<xs.length:=A0;go_wp2_with fail;go_end0;exact⟨⟨_,Z⟩,j,H2,[],af,HLE2.out,mk,.inl ⟨aq.out,by omega⟩⟩
theorem Qm (xs:List ByteArray) (av:xs.length<=100000) (v:V_) (bx:Nat) (m:AC w0 H ((bx,C #[v] 24)::L) w) (hv:AX Aq H v xs):K_ yA 237 #[V X 0 0,.func (.func 174) #[] #[M (O ⟨bx,0,X⟩)]] w λe w'=>∃u Lr,e= .returned u/\Ba 9 1 u xs.length (xs.map U) Lr/\AC w0 H (Lr++L) w':=by have HV:=A5 hv;clear hv;have m1:=m.alloc (C #[V X 0 0] 24);generalize ak:w.heap.size=bb at*;refine callsIn_wide.1 (callsIn_of_wp_marks (F:=Fence.wide) (n:=3) func237 Z trivial ?_);rw[wpIn_wide];simp only[ntmps237,List.size_toArray,uF,uG,Nat.reduceAdd,Nat.reduceSub,Array.replicate_succ,Array.replicate_zero,List.push_toArray,List.append_toArray,uB,uD];go_wp2_with fail;refine EA (F:=λw'=>Code.wp _ _ _ _ w') m1 ?_;clear m1 m ak;intro wr mr;have ag:AC w0 H ([(bx,C #[v] 24)]++((bb,C #[V X 0 0] 24)::([]++L))) wr:=mr.perm (List.Perm.swap _ _ _);refine Gy (gf:=174) (first:=#[]) (lU:=#[M (O ⟨bx,0,X⟩)]) (LH:=[(bx,C #[v] 24)]) ag Z (λargs w=>(enters_of (P:=yA) func174 A7 Z) args w) (qd xs) (λj Hj LB=>∃u Lr,LB=(bb,C #[u] 24)::(Lr++L)/\Ba 9 1 u j ((xs.map U).take j) Lr) (λj _ _=>j=xs.length) ?h0 (λj Ha Hb LB hl h=>h) ?hbody ?hit ?hdone;(case h0=>exact⟨_,[],Z,Ba.nil⟩);(case hit=>intro l aq ao hY aj az W' af mW;exact VO xs v bx l aq ao hY aj af mW HV.out);(case hbody=>intro l nn j H2 L1 au W9 x al af mW;obtain⟨s,hs,rfl⟩:=al;obtain⟨u,Lr,rfl,eJ⟩:=af;have hjl:j<xs.length:=(uQ.1 hs).1;(have HTK:=A5 (show(xs.map U).take (j+1)=(xs.map U).take j++[U s] by rw[uK (by simpa using hjl),List.getElem_map,(uQ.1 hs).2]));have HAC:=A5 eJ;obtain⟨pb,pc,rfl,ai,ah⟩:=eJ.shape;clear eJ hs;(refine KL λK4 hK4=>?_);simp only[uR,List.set_cons_succ,uh];refine DJ A7 (λ⟨_,_,h⟩=>h) ?_;go_wp2_with fail;refine⟨_,mW,?_⟩;intro L2 W2 mB;(refine KL λK5 ay=>?_);refine wpIn_block ?_;refine DJ A7 (λ⟨_,_,h⟩=>h) ?_;have mC:=(mB.perm Ah:AC _ _ ((bb,C #[V pb j pc] 24)::(Lr++(L2++L))) _);have mD:=mC.alloc (C #[U s] 9);have mE:=(mD.perm Ah:AC _ _ (Lr++((W2.heap.size,C #[U s] 9)::(bb,C #[V pb j pc] 24)::(L2++L))) _);have es:=mC.e0;clear mW mB;go_wp2_with (at_builtin;refine AG (w0:=w0) (H:=H2) (L:=(W2.heap.size,C #[U s] 9)::(bb,C #[V pb j pc] 24)::(L2++L)) Z _ _ 24 Z 9 1 16 (U ByteArray.empty) underlying24 A7 Z AD (.slice pb j pc) j ((xs.map U).take j) (HAC.out.join mE) Z _ 1 [U s] (Fr.loc (cs:=[U s]) mD (.head _)) Z Z Fu A0 CJ ?_);intro v' W4 eJ;rw[<-HTK.out] at eJ;obtain⟨L5,h5,m5⟩:=eJ.drop.split;obtain⟨ad,aa,rfl,ax,aw⟩:=h5.shape;have H5:=A5 h5;clear eJ h5 mE mD mC es;have m6:=(m5.perm Ah:AC _ _ ((bb,C #[V pb j pc] 24)::(L5++(L2++L))) _);have m7:=m6.set (i:=0) (v:= V ad (j+1) aa) .head;simp only[uR,uh] at m7;have es:=m6.e0;go_wp2_with fail;exact⟨H2,(bb,C #[V ad (j+1) aa] 24)::(L5++L),Bl.refl _,⟨_,L5,Z,H5.out⟩,(m7.perm Ah:AC _ _ (L2++((bb,C #[V ad (j+1) aa] 24)::(L5++L))) _)⟩);case hdone=>rintro D j H9 ar au W9 ae ⟨u,Lr,rfl,eJ⟩ rfl m9;rw[List.take_of_length_le (by simp)] at eJ;have m10:=Tb ar m9;obtain⟨pb,pc,rfl,ai,ah⟩:=eJ.shape;have HAC:=A5 eJ;clear eJ;have es:=(m10.drop).eqs;simp only[BS] at es;go_wp2_with fail;refine Hs (v:= V pb xs.length pc) (L:=(bb,C #[V pb xs.length pc] 24)::(Lr++L)) (λw'=>by simp[results,results237,go_sem]) (λw' mF=>?_) [D] _ m10;exact⟨_,Lr,Z,HAC.out,(mF.drop).weaken ae⟩
theorem Il (xs:List ByteArray):(Cz xs).length=xs.length:=by unfold Cz;rw[uO,uP,uO]
theorem VF {Lr:List (Nat×Obj)} {u:V_} {xs:List ByteArray} (ae:xs.length<=100000) (ha:Ba 9 1 u xs.length (xs.map U) Lr) (m:AC w0 H (Lr++L) w):K_ yA 173 #[u] w λe w'=>∃v ad,e= .returned v/\Ba 9 1 u xs.length ((Cz xs).map U) ad/\AC w0 H (ad++L) w':=by
 obtain⟨_,⟨rfl,h2,rfl⟩|⟨g,cap,lX,rfl,h1,h2,h3,h4,rfl⟩⟩:=ha
 .have hx:xs=[]:=ui h2;subst hx;refine(Any.slices_Sort_string_none Tryz.lays190 X 0 w).mono ?_;rintro e w' ⟨rfl,rfl⟩;have h0:Cz []=[]:=ui (Il []);exact⟨_,[],Z,by rw[h0];exact Ba.nil,m⟩
 .rw[uS] at h3 h4;refine(Vv (L:=L) m ae h1 h2 h3 h4).mono ?_;rintro e w' ⟨v,aa,rfl,hs,ht,m'⟩;exact⟨v,_,Z,⟨by simp[Il],.inr ⟨g,cap,aa,Z,h1,h2,by rw[hs,uS],by rw[uS];exact ht,Z⟩⟩,m'⟩
theorem Vg (xs:List ByteArray) (aa:xs.length<=100000) (v:V_) (bx:Nat) (m:AC w0 H ((bx,C #[v] 24)::L) w) (hv:AX Aq H v xs):K_ yA 172 #[(.func (.func 174) #[] #[M (O ⟨bx,0,X⟩)])] w λe w'=>∃u Lr,e= .returned u/\Ba 9 1 u xs.length (xs.map U) Lr/\AC w0 H (Lr++L) w':=by go_enter func172,ntmps172;go_wp2_with fail;refine(Qm xs aa v bx m hv).mono ?_;rintro e w2 ⟨u,Lr,rfl,ha,m2⟩;have HA:=A5 ha;obtain⟨pb,pc,rfl,_,_⟩:=ha.shape;clear ha;go_wp2_with fail;go_ret;exact⟨_,Lr,Z,HA.out,m2⟩
def ZN (w0:W_) (H:Hp) (L:List (Nat×Obj)) (xs:List ByteArray) (e:E_) (w':W_):Prop:=∃u Lr,e= .returned u/\Ba 9 1 u xs.length ((Cz xs).map U) Lr/\AC w0 H (Lr++L) w'
theorem Q0 (xs:List ByteArray) (aa:xs.length<=100000) (v:V_) (bx:Nat) (m:AC w0 H ((bx,C #[v] 24)::L) w) (hv:AX Aq H v xs):K_ yA 131 #[(.func (.func 174) #[] #[M (O ⟨bx,0,X⟩)])] w (ZN w0 H L xs):=by go_enter func131,ntmps131;go_wp2_with fail;refine(Vg xs aa v bx m hv).mono ?_;rintro e w2 ⟨u,Lr,rfl,ha,m2⟩;have HA:=A5 ha;obtain⟨pb,pc,rfl,_,_⟩:=ha.shape;clear ha;go_wp2_with fail;refine(VF aa HA.out m2).mono ?_;rintro e w3 ⟨v',ad,rfl,ha,m3⟩;have HB:=A5 ha;clear ha;go_wp2_with fail;go_ret;exact⟨_,ad,Z,HB.out,m3⟩
theorem Q8 (vb:Option Addr) (vn vc:Nat) (m:AC w0 H L w):K_ yA 132 #[V vb vn vc] w λe w'=>∃bx,e= .returned (.func (.func 174) #[] #[M (O ⟨bx,0,X⟩)])/\AC w0 H ((bx,C #[V vb vn vc] 24)::L) w':=by have m1:=m.alloc (C #[V vb vn vc] 24);(have aa:∀(fn:Fn) (first cap:Array V_) (w:W_),(Instr.makeFunc fn first cap).run yA w= .ok (.func fn first cap) w:=λ_ _ _ _=>rfl);go_enter func132,ntmps132;go_wp2_with fail;go_ret;exact⟨_,Z,m1⟩
variable {α:Type} {xs:List α}
theorem RL (p:α->Bool):∀(xs:List α) (k:Nat) (h:k<xs.length),p xs[k]=B->xs.any p=true:=λxs k h hp=>List.any_eq_true.2 ⟨xs[k],uC h,hp⟩
theorem Om {p:α->Bool} (h:k<xs.length) (h1:(xs.take k).any p=G) (h2:p xs[k]=B):DG p xs=(k:Int):=by have hf:xs.findIdx? p=O k:=(by rw[uj];refine⟨h,h2,λj hj=>?_⟩;have:=uT.1 h1 xs[j] (List.mem_take_iff_getElem.2 ⟨j,by omega,Z⟩);simpa using this);unfold DG;rw[hf]
theorem Ym {p:α->Bool} (h1:xs.any p=G):DG p xs= -1:=by have hf:xs.findIdx? p=none:=(by rw[ul];intro x hx;have:=uT.1 h1 x hx;simpa using this);unfold DG;rw[hf]
theorem Oq (p:α->Bool) (xs:List α):T (0<=DG p xs)=xs.any p:=by
 unfold DG
 cases h:xs.findIdx? p with
 |none=>have h1:=ul.1 h;(have:xs.any p=false:=uT.2 λx hx=>by rw[h1 x hx];simp);rw[this];rfl
 |some k=>obtain⟨hk,h1,_⟩:=uj.1 h;rw[RL p xs k hk h1];simp
theorem rW (v:V_) (xs:List AK) (p:AK->Bool) (F:FuncId) (lU:Array V_) (eg:∀args w,(callFunc F args).run yA w= .ok (.enter F args) w) (aa:∀(y:AK),y∈xs->∀(sv:V_) (L0:List (Nat×Obj)) (w:W_),AX Aq H sv y.f->AC w0 H (L0++L) w->K_ yA F (#[.agg #[U y.name,sv]]++lU) w (Bv w0 H (L0++L) (N (p y)))) (m:AC w0 H L w) (hv:AX B2 H v xs):K_ yA 113 #[v,.func (.func F) #[] lU] w λe w'=>e= .returned (Y I (DG p xs))/\AC w0 H L w':=by
 have HV:=A5 hv;have HCALL:=A5 aa;clear aa;obtain⟨b,c,rfl,ae,ad,_,_⟩:=hv;have ad:=A9 ad;go_enter func113,ntmps113;go_wp2_with fail;(go_loopw [5,8] (λ_ i wr=>∃k:Nat,k<=xs.length/\i= Y I k/\(xs.take k).any p=G/\AC w0 H L wr) (λ_ i _=>xs.length-(intOf i).toNat));case atStart=>exact⟨0,uA _,Z,Z,m⟩
 case round=>
  clear m;obtain⟨k,hk,rfl,kH,m⟩:=hrel;have HA:=A5 kH;clear kH;by_cases eP:k<xs.length
  .have hx:=yB eP;have HTK:=A5 (uK eP);have HYM:=A5 (uC eP);have HIX:=A5 (show p xs[k]=B->DG p xs=(k:Int) from λh=>Om eP HA.out h);generalize hy:xs[k]=y at*;clear hy;obtain⟨kA,off,sv,rfl,q1,q2,q3,q4⟩:=HV.out.getClassQ hx;clear hx;have hq1:=q1.cell m;have hq2:=q2.cell m;cases hq:p y
   .have HQ:=A5 hq;clear hq;go_wp2_with fail;refine(HCALL.out y HYM.out sv [] _ q3 m).mono ?_;exact eU
   .have HQ:=A5 hq;clear hq;go_wp2_with fail;refine(HCALL.out y HYM.out sv [] _ q3 m).mono ?_;exact Xg
  .go_wp2_with fail;exact Xp
theorem Rq (v:V_) (xs:List AK) (p:AK->Bool) (F:FuncId) (lU:Array V_) (eg:∀args w,(callFunc F args).run yA w= .ok (.enter F args) w) (aa:∀(y:AK),y∈xs->∀(sv:V_) (L0:List (Nat×Obj)) (w:W_),AX Aq H sv y.f->AC w0 H (L0++L) w->K_ yA F (#[.agg #[U y.name,sv]]++lU) w (Bv w0 H (L0++L) (N (p y)))) (m:AC w0 H L w) (hv:AX B2 H v xs):K_ yA 91 #[v,.func (.func F) #[] lU] w (Bv w0 H L (N (xs.any p))):=by go_enter func91,ntmps91;go_wp2_with (go_at_call 113;refine(rW v xs p F lU eg aa m hv).mono ?_;rintro e w' ⟨rfl,m2⟩;have HK:=A5 (Oq p xs));exact IW
theorem gY (y:AK) (sv:V_) (bf:Nat) (p:AK->Bool) (F:FuncId) (lU:Array V_) (eg:∀args w,(callFunc F args).run yA w= .ok (.enter F args) w) (aa:∀(L0:List (Nat×Obj)) (w:W_),AC w0 H (L0++L) w->K_ yA F (#[.agg #[U y.name,sv]]++lU) w (Bv w0 H (L0++L) (N (p y)))) (L1:List (Nat×Obj)) (m:AC w0 H (L1++((bf,C #[.func (.func F) #[] lU] 151)::L)) w) (ad:∃b n c,sv= V b n c):K_ yA 175 #[.agg #[U y.name,sv],M (O ⟨bf,0,X⟩)] w (Bv w0 H (L1++((bf,C #[.func (.func F) #[] lU] 151)::L)) (N (!p y))):=by obtain⟨qb,qn,qc,rfl⟩:=ad;have sv:=qb;have m0:=(m.perm Ah:AC _ _ ((bf,C #[.func (.func F) #[] lU] 151)::(L1++L)) _);have m1:=m0.alloc (C #[U y.name,(V qb qn qc)] 123);have HC:=A5 aa;clear aa;generalize hq:p y=q at*;clear hq;have es:=m1.e0;generalize ae:w.heap.size=xb at*;go_enter func175,ntmps175;go_wp2_with fail;refine(HC.out ((xb,C #[U y.name,(V qb qn qc)] 123)::(bf,C #[.func (.func F) #[] lU] 151)::L1) _ iS).mono ?_;rintro e w2 ⟨rfl,m2⟩;go_wp2_with fail;go_ret;exact⟨Z,AC.perm (L:=(bf,C #[.func (.func F) #[] lU] 151)::(L1++L)) m2.drop (Ah:((bf,C #[.func (.func F) #[] lU] 151)::(L1++L)).Perm (L1++((bf,C #[.func (.func F) #[] lU] 151)::L)))⟩
theorem YO (v:V_) (xs:List AK) (p:AK->Bool) (F:FuncId) (lU:Array V_) (eg:∀args w,(callFunc F args).run yA w= .ok (.enter F args) w) (aa:∀(y:AK),y∈xs->∀(sv:V_) (L0:List (Nat×Obj)) (w:W_),AX Aq H sv y.f->AC w0 H (L0++L) w->K_ yA F (#[.agg #[U y.name,sv]]++lU) w (Bv w0 H (L0++L) (N (p y)))) (m:AC w0 H L w) (hv:AX B2 H v xs):K_ yA 133 #[v,.func (.func F) #[] lU] w (Bv w0 H L (N (xs.all p))):=by have m1:=m.alloc (C #[.func (.func F) #[] lU] 151);(have ae:∀(fn:Fn) (first cap:Array V_) (w:W_),(Instr.makeFunc fn first cap).run yA w= .ok (.func fn first cap) w:=λ_ _ _ _=>rfl);have HC:=A5 aa;have HV:=A5 hv;obtain⟨vb,vc,rfl,_,_,_,_⟩:=hv;have ad:=A5 eg;clear aa eg;generalize af:w.heap.size=bf at*;go_enter func133,ntmps133;go_wp2_with fail;refine(Rq _ xs (λy=> !p y) 175 #[M (O ⟨bf,0,X⟩)] (λargs w=>(enters_of (P:=yA) func175 A7 Z) args w) (λy hy sv L1 w1 hr m1=>gY y sv bf p F lU ad.out (λL0 w2 m2=>HC.out y hy sv L0 w2 hr m2) L1 m1 (let ⟨b,c,e,_⟩:=hr;⟨b,_,c,e⟩)) m1 HV.out).mono ?_;exact jS
theorem jk (v:V_) (xs:List Aj) (p:Aj->Bool) (F:FuncId) (lU:Array V_) (eg:∀args w,(callFunc F args).run yA w= .ok (.enter F args) w) (aa:∀(y:Aj),y∈xs->∀(L0:List (Nat×Obj)) (w:W_),y.fit->AC w0 H (L0++L) w->K_ yA F (#[.agg #[U y.kind,U y.name,Y I y.parts]]++lU) w (Bv w0 H (L0++L) (N (p y)))) (m:AC w0 H L w) (hv:AX CV H v xs):K_ yA 141 #[v,.func (.func F) #[] lU] w λe w'=>e= .returned (Y I (DG p xs))/\AC w0 H L w':=by
 have HV:=A5 hv;have HCALL:=A5 aa;clear aa;obtain⟨b,c,rfl,ae,ad,_,_⟩:=hv;have ad:=A9 ad;go_enter func141,ntmps141;go_wp2_with fail;(go_loopw [5,8] (λ_ i wr=>∃k:Nat,k<=xs.length/\i= Y I k/\(xs.take k).any p=G/\AC w0 H L wr) (λ_ i _=>xs.length-(intOf i).toNat));case atStart=>exact⟨0,uA _,Z,Z,m⟩
 case round=>
  clear m;obtain⟨k,hk,rfl,kH,m⟩:=hrel;have HA:=A5 kH;clear kH;by_cases eP:k<xs.length
  .have hx:=yB eP;have HTK:=A5 (uK eP);have HYM:=A5 (uC eP);have HIX:=A5 (show p xs[k]=B->DG p xs=(k:Int) from λh=>Om eP HA.out h);generalize hy:xs[k]=y at*;clear hy;obtain⟨kA,off,rfl,q1,q2,q3,q4⟩:=HV.out.getCase hx;exact tl
  .go_wp2_with fail;exact Xp
theorem Zb (v:V_) (xs:List Aj) (p:Aj->Bool) (F:FuncId) (lU:Array V_) (eg:∀args w,(callFunc F args).run yA w= .ok (.enter F args) w) (aa:∀(y:Aj),y∈xs->∀(L0:List (Nat×Obj)) (w:W_),y.fit->AC w0 H (L0++L) w->K_ yA F (#[.agg #[U y.kind,U y.name,Y I y.parts]]++lU) w (Bv w0 H (L0++L) (N (p y)))) (m:AC w0 H L w) (hv:AX CV H v xs):K_ yA 93 #[v,.func (.func F) #[] lU] w (Bv w0 H L (N (xs.any p))):=by go_enter func93,ntmps93;go_wp2_with (go_at_call 141;refine(jk v xs p F lU eg aa m hv).mono ?_;rintro e w' ⟨rfl,m2⟩;have HK:=A5 (Oq p xs));exact IW
theorem gQ (y:Aj) (bf:Nat) (p:Aj->Bool) (F:FuncId) (lU:Array V_) (eg:∀args w,(callFunc F args).run yA w= .ok (.enter F args) w) (aa:∀(L0:List (Nat×Obj)) (w:W_),AC w0 H (L0++L) w->K_ yA F (#[.agg #[U y.kind,U y.name,Y I y.parts]]++lU) w (Bv w0 H (L0++L) (N (p y)))) (L1:List (Nat×Obj)) (m:AC w0 H (L1++((bf,C #[.func (.func F) #[] lU] 153)::L)) w):K_ yA 176 #[.agg #[U y.kind,U y.name,Y I y.parts],M (O ⟨bf,0,X⟩)] w (Bv w0 H (L1++((bf,C #[.func (.func F) #[] lU] 153)::L)) (N (!p y))):=by have m0:=(m.perm Ah:AC _ _ ((bf,C #[.func (.func F) #[] lU] 153)::(L1++L)) _);have m1:=m0.alloc (C #[U y.kind,U y.name,Y I y.parts] 148);have HC:=A5 aa;clear aa;generalize hq:p y=q at*;clear hq;have es:=m1.e0;generalize ad:w.heap.size=xb at*;go_enter func176,ntmps176;go_wp2_with fail;refine(HC.out ((xb,C #[U y.kind,U y.name,Y I y.parts] 148)::(bf,C #[.func (.func F) #[] lU] 153)::L1) _ iS).mono ?_;rintro e w2 ⟨rfl,m2⟩;go_wp2_with fail;go_ret;exact⟨Z,AC.perm (L:=(bf,C #[.func (.func F) #[] lU] 153)::(L1++L)) m2.drop (Ah:((bf,C #[.func (.func F) #[] lU] 153)::(L1++L)).Perm (L1++((bf,C #[.func (.func F) #[] lU] 153)::L)))⟩
theorem Wz (v:V_) (xs:List Aj) (p:Aj->Bool) (F:FuncId) (lU:Array V_) (eg:∀args w,(callFunc F args).run yA w= .ok (.enter F args) w) (aa:∀(y:Aj),y∈xs->∀(L0:List (Nat×Obj)) (w:W_),y.fit->AC w0 H (L0++L) w->K_ yA F (#[.agg #[U y.kind,U y.name,Y I y.parts]]++lU) w (Bv w0 H (L0++L) (N (p y)))) (m:AC w0 H L w) (hv:AX CV H v xs):K_ yA 134 #[v,.func (.func F) #[] lU] w (Bv w0 H L (N (xs.all p))):=by have m1:=m.alloc (C #[.func (.func F) #[] lU] 153);(have ae:∀(fn:Fn) (first cap:Array V_) (w:W_),(Instr.makeFunc fn first cap).run yA w= .ok (.func fn first cap) w:=λ_ _ _ _=>rfl);have HC:=A5 aa;have HV:=A5 hv;obtain⟨vb,vc,rfl,_,_,_,_⟩:=hv;have ad:=A5 eg;clear aa eg;generalize af:w.heap.size=bf at*;go_enter func134,ntmps134;go_wp2_with fail;refine(Zb _ xs (λy=> !p y) 176 #[M (O ⟨bf,0,X⟩)] (λargs w=>(enters_of (P:=yA) func176 A7 Z) args w) (λy hy L1 w1 hr m1=>gQ y bf p F lU ad.out (λL0 w2 m2=>HC.out y hy L0 w2 hr m2) L1 m1) m1 HV.out).mono ?_;exact jS
theorem WG (v:V_) (xs:List AF) (p:AF->Bool) (F:FuncId) (lU:Array V_) (eg:∀args w,(callFunc F args).run yA w= .ok (.enter F args) w) (aa:∀(y:AF),y∈xs->∀(sv:V_) (L0:List (Nat×Obj)) (w:W_),AX C1 H sv y.i/\y.fit->AC w0 H (L0++L) w->K_ yA F (#[.agg #[U y.name,Y I y.params,Y I y.g,sv]]++lU) w (Bv w0 H (L0++L) (N (p y)))) (m:AC w0 H L w) (hv:AX Ch H v xs):K_ yA 104 #[v,.func (.func F) #[] lU] w λe w'=>e= .returned (Y I (DG p xs))/\AC w0 H L w':=by
 have HV:=A5 hv;have HCALL:=A5 aa;clear aa;obtain⟨b,c,rfl,af,ad,_,_⟩:=hv;have ad:=A9 ad;go_enter func104,ntmps104;go_wp2_with fail;(go_loopw [5,8] (λ_ i wr=>∃k:Nat,k<=xs.length/\i= Y I k/\(xs.take k).any p=G/\AC w0 H L wr) (λ_ i _=>xs.length-(intOf i).toNat));case atStart=>exact⟨0,uA _,Z,Z,m⟩
 case round=>
  clear m;obtain⟨k,hk,rfl,kH,m⟩:=hrel;have HA:=A5 kH;clear kH;by_cases eP:k<xs.length
  .have hx:=yB eP;have HTK:=A5 (uK eP);have HYM:=A5 (uC eP);have HIX:=A5 (show p xs[k]=B->DG p xs=(k:Int) from λh=>Om eP HA.out h);generalize hy:xs[k]=y at*;clear hy;obtain⟨kA,off,sv,rfl,q1,q2,q3,q4,q5,q6⟩:=HV.out.getCode hx;clear hx;have hq1:=q1.cell m;have hq2:=q2.cell m;have hq3:=q3.cell m;have ae:=q4.cell m;cases hq:p y
   .have HQ:=A5 hq;clear hq;go_wp2_with fail;refine(HCALL.out y HYM.out sv [] _ ⟨q5,q6⟩ m).mono ?_;exact eU
   .have HQ:=A5 hq;clear hq;go_wp2_with fail;refine(HCALL.out y HYM.out sv [] _ ⟨q5,q6⟩ m).mono ?_;exact Xg
  .go_wp2_with fail;exact Xp
theorem Zl (v:V_) (xs:List AF) (p:AF->Bool) (F:FuncId) (lU:Array V_) (eg:∀args w,(callFunc F args).run yA w= .ok (.enter F args) w) (aa:∀(y:AF),y∈xs->∀(sv:V_) (L0:List (Nat×Obj)) (w:W_),AX C1 H sv y.i/\y.fit->AC w0 H (L0++L) w->K_ yA F (#[.agg #[U y.name,Y I y.params,Y I y.g,sv]]++lU) w (Bv w0 H (L0++L) (N (p y)))) (m:AC w0 H L w) (hv:AX Ch H v xs):K_ yA 177 #[v,.func (.func F) #[] lU] w (Bv w0 H L (N (xs.any p))):=by go_enter func177,ntmps177;go_wp2_with (go_at_call 104;refine(WG v xs p F lU eg aa m hv).mono ?_;rintro e w' ⟨rfl,m2⟩;have HK:=A5 (Oq p xs));exact IW
theorem dA (y:AF) (sv:V_) (bf:Nat) (p:AF->Bool) (F:FuncId) (lU:Array V_) (eg:∀args w,(callFunc F args).run yA w= .ok (.enter F args) w) (aa:∀(L0:List (Nat×Obj)) (w:W_),AC w0 H (L0++L) w->K_ yA F (#[.agg #[U y.name,Y I y.params,Y I y.g,sv]]++lU) w (Bv w0 H (L0++L) (N (p y)))) (L1:List (Nat×Obj)) (m:AC w0 H (L1++((bf,C #[.func (.func F) #[] lU] 167)::L)) w) (ad:∃b n c,sv= V b n c):K_ yA 178 #[.agg #[U y.name,Y I y.params,Y I y.g,sv],M (O ⟨bf,0,X⟩)] w (Bv w0 H (L1++((bf,C #[.func (.func F) #[] lU] 167)::L)) (N (!p y))):=by obtain⟨qb,qn,qc,rfl⟩:=ad;have sv:=qb;have m0:=(m.perm Ah:AC _ _ ((bf,C #[.func (.func F) #[] lU] 167)::(L1++L)) _);have m1:=m0.alloc (C #[U y.name,Y I y.params,Y I y.g,(V qb qn qc)] 111);have HC:=A5 aa;clear aa;generalize hq:p y=q at*;clear hq;have es:=m1.e0;generalize ae:w.heap.size=xb at*;go_enter func178,ntmps178;go_wp2_with fail;refine(HC.out ((xb,C #[U y.name,Y I y.params,Y I y.g,(V qb qn qc)] 111)::(bf,C #[.func (.func F) #[] lU] 167)::L1) _ iS).mono ?_;rintro e w2 ⟨rfl,m2⟩;go_wp2_with fail;go_ret;exact⟨Z,AC.perm (L:=(bf,C #[.func (.func F) #[] lU] 167)::(L1++L)) m2.drop (Ah:((bf,C #[.func (.func F) #[] lU] 167)::(L1++L)).Perm (L1++((bf,C #[.func (.func F) #[] lU] 167)::L)))⟩
theorem Y4 (v:V_) (xs:List AF) (p:AF->Bool) (F:FuncId) (lU:Array V_) (eg:∀args w,(callFunc F args).run yA w= .ok (.enter F args) w) (aa:∀(y:AF),y∈xs->∀(sv:V_) (L0:List (Nat×Obj)) (w:W_),AX C1 H sv y.i/\y.fit->AC w0 H (L0++L) w->K_ yA F (#[.agg #[U y.name,Y I y.params,Y I y.g,sv]]++lU) w (Bv w0 H (L0++L) (N (p y)))) (m:AC w0 H L w) (hv:AX Ch H v xs):K_ yA 135 #[v,.func (.func F) #[] lU] w (Bv w0 H L (N (xs.all p))):=by have m1:=m.alloc (C #[.func (.func F) #[] lU] 167);(have ae:∀(fn:Fn) (first cap:Array V_) (w:W_),(Instr.makeFunc fn first cap).run yA w= .ok (.func fn first cap) w:=λ_ _ _ _=>rfl);have HC:=A5 aa;have HV:=A5 hv;obtain⟨vb,vc,rfl,_,_,_,_⟩:=hv;have ad:=A5 eg;clear aa eg;generalize af:w.heap.size=bf at*;go_enter func135,ntmps135;go_wp2_with fail;refine(Zl _ xs (λy=> !p y) 178 #[M (O ⟨bf,0,X⟩)] (λargs w=>(enters_of (P:=yA) func178 A7 Z) args w) (λy hy sv L1 w1 hr m1=>dA y sv bf p F lU ad.out (λL0 w2 m2=>HC.out y hy sv L0 w2 hr m2) L1 m1 (let ⟨b,c,e,_⟩:=hr.1;⟨b,_,c,e⟩)) m1 HV.out).mono ?_;exact jS
theorem QK (va vb:V_) (xs ys:List ByteArray) (m:AC w0 H L w) (ha:AX Aq H va xs) (hb:AX Aq H vb ys):K_ yA 127 #[va,vb] w (Bv w0 H L (N (T (xs=ys)))):=by
 have HA:=A5 ha;have HB:=A5 hb;obtain⟨b1,c1,rfl,aj,ae,_,_⟩:=ha;obtain⟨b2,c2,rfl,ai,ad,_,_⟩:=hb;have ae:=A9 ae;have ad:=A9 ad;by_cases hl:xs.length=ys.length;rotate_left
 .have hl0:((xs.length:Int) !=ys.length)=true:=SE;have hl1:((xs.length:Int)==ys.length)=false:=bF A0;have HL:=A5 hl;clear hl;go_enter func127,ntmps127;go_wp2_with fail;exact gM
 have hl0:((xs.length:Int) !=ys.length)=false:=(by rw[hl];simp);have HL:=A5 hl;clear hl;go_enter func127,ntmps127;go_wp2_with fail;clear hl0;(go_loopw [5,13] (λ_ i wr=>∃k:Nat,k<=xs.length/\i= Y I k/\Hid (∀j (h:j<k) (h1:j<xs.length) (h2:j<ys.length),xs[j]=ys[j])/\AC w0 H L wr) (λ_ i _=>xs.length-(intOf i).toNat));case atStart=>exact⟨0,uA _,Z,A5 (λj h=>a_ h A0),m⟩
 case round=>
  clear m;obtain⟨k,hk,rfl,HE,mk⟩:=hrel;by_cases eP:k<xs.length
  .have ll:(k:Int)<xs.length:=A0;have hlt2:k<ys.length:=ZC;have aa:(k:Int)<ys.length:=A0;obtain⟨p1,o1,rfl,f1,-⟩:=HA.out.getStr eP;obtain⟨p2,o2,rfl,f2,-⟩:=HB.out.getStr hlt2;have F1:=A5 f1;have F2:=A5 f2;clear f1 f2
   have af:=A5 (show ∀j (h:j<k+1) (h1:j<xs.length) (h2:j<ys.length),xs[k]=ys[k]->xs[j]=ys[j] from λj h h1 h2 e=>by
    rcases Nat.lt_succ_iff_lt_or_eq.1 h with h|h
    .exact HE.out j h h1 h2
    .subst h;exact e)
   have ag:=A5 (show xs[k]≠ys[k]->¬xs=ys from λh e=>h (by subst e;rfl));generalize xs[k]=y1 at*;generalize ys[k]=y2 at*;have HS:=A5 (show((!(y1.toList==y2.toList))=G->y1=y2)/\((!(y1.toList==y2.toList))=B->y1≠y2) from⟨λh=>(AW _ _).1 CE,λh e=>by subst e;simp at h⟩);obtain⟨q,hq⟩:∃q,(!(y1.toList==y2.toList))=q:=⟨_,Z⟩;have HQ:=A5 hq;clear hq;go_wp2_with fail;refine Da (F:=λw'=>Code.wp _ _ _ _ w') mk ?_;clear mk;intro ah mr;refine B1 mr [VK (V (O ⟨p1,o1,X⟩) xs.length c1),VK (Y I k),VK (M (O ⟨p1,o1+k,X⟩)),VK (U y1),VK (V (O ⟨p2,o2,X⟩) ys.length c2),VK (Y I k),VK (M (O ⟨p2,o2+k,X⟩)),VK (U y2),VK (N q)] (nf 9) ?_ ?_
   .refine⟨AA,AA,AA,je,AA,AA,AA,iY,?_,trivial⟩
    ·(refine Al.vk Z λbs w hb m=>?_);rw[<-HQ.out];exact AT
   .intro bs wd hb md;replace md:=AC.like0 mr md;(try simp only[uD,uB] at md);simp only[uF,uG,Nat.reduceAdd,uH,uI,uJ];clear hb;cases q
    .go_wp2_with fail;go_roundw;(case rel=>exact⟨k+1,by omega,by go_num,A5 (λj h h1 h2=>af.out j h h1 h2 (HS.out.1 HQ.out)),md⟩);case measure=>exact BW
    .go_wp2_with fail;go_ret;exact⟨A8 (f_ (ag.out (HS.out.2 HQ.out))).symm,md⟩
  .exact nE
def DH (a b:Aj):Bool:=a.kind.toList==b.kind.toList&&(a.name.toList==b.name.toList&&a.parts==b.parts)
def M5 (y:Aj):V_:= .agg #[U y.kind,U y.name,Y I y.parts]
theorem Jv (a b:Aj) (w:W_):(Op.equalIn 10000 148 (M5 a) (M5 b)).run yA w= .ok (DH a b) w:=by unfold M5 DH;go_simp;by_cases h1:a.kind.toList=b.kind.toList<;>by_cases h2:a.name.toList=b.name.toList<;>by_cases h3:a.parts=b.parts<;>simp[h1,h2,h3]
theorem YC (v:V_) (xs:List Aj) (s:Aj) (m:AC w0 H L w) (hv:AX CV H v xs):K_ yA 171 #[v,M5 s] w (Bv w0 H L (Y I (DG (DH s) xs))):=by
 have HV:=A5 hv;obtain⟨b,c,rfl,ag,aa,_,_⟩:=hv;have aa:=A9 aa;unfold M5;have m1:=m.alloc (C #[U s.kind,U s.name,Y I s.parts] 148);have es:=m1.e0;generalize af:w.heap.size=xb at*;go_enter func171,ntmps171;go_wp2_with fail;clear es;(go_loopw [5,8] (λ_ i wr=>∃k:Nat,k<=xs.length/\i= Y I k/\(xs.take k).any (DH s)=G/\AC w0 H ((xb,C #[U s.kind,U s.name,Y I s.parts] 148)::L) wr) (λ_ i _=>xs.length-(intOf i).toNat));case atStart=>exact⟨0,uA _,Z,Z,m1⟩
 case round=>
  clear m m1;obtain⟨k,hk,rfl,kH,m⟩:=hrel;have HA:=A5 kH;clear kH;by_cases eP:k<xs.length
  .have ll:(k:Int)<xs.length:=A0;have HTK:=A5 (uK eP);have HIX:=A5 (show DH s xs[k]=B->DG (DH s) xs=(k:Int) from λh=>Om eP HA.out h);obtain⟨kA,off,rfl,q1,q2,q3,_⟩:=HV.out.getCase (yB eP);generalize xs[k]=y at*;have Q1:=A5 q1;have Q2:=A5 q2;have Q3:=A5 q3;clear q1 q2 q3;have ad:=A5 (Jv s y);generalize hq:DH s y=q at*;have HQ:=A5 hq;clear hq;go_wp2_with fail;refine Da (F:=λw'=>Code.wp _ _ _ _ w') m ?_;clear m;intro ae mr;refine B1 mr [VK (.agg #[U s.kind,U s.name,Y I s.parts]),VK (V (O ⟨kA,off,X⟩) xs.length c),VK (Y I k),VK (M (O ⟨kA,off+k*3,X⟩)),VK (.agg #[U y.kind,U y.name,Y I y.parts]),VK (N q)] (nf 6) ?_ ?_
   .refine⟨CD,AA,AA,AA,?_,?_,trivial⟩
    ·(refine Al.vk Z λbs w hb m=>?_);have q1:=Q1.out.cell m;have q2:=Q2.out.cell m;have q3:=Q3.out.cell m;exact AT
    ·(refine Al.vk Z λbs w hb m=>?_);have hq:=ad.out;unfold M5 at hq;have hq:=hq w;exact AT
   .intro bs wd hb md;replace md:=AC.like0 mr md;(try simp only[uD,uB] at md);simp only[uF,uG,Nat.reduceAdd,uH,uI,uJ];clear hb;cases q
    .go_wp2_with fail;go_roundw;(case rel=>exact⟨k+1,by omega,by go_num,by rw[HTK.out,List.any_append,HA.out,List.any_cons,HQ.out];rfl,md⟩);case measure=>exact BW
    .go_wp2_with fail;go_ret;exact⟨CH (HIX.out (by first|trivial|exact HQ.out)).symm,md.drop⟩
  .have hge:¬(k:Int)<xs.length:=A0;go_wp2_with fail;go_ret;refine⟨CH (Ym ?_).symm,m.drop⟩;exact Xb
theorem aX (v:V_) (xs:List Aj) (s:Aj) (m:AC w0 H L w) (hv:AX CV H v xs):K_ yA 129 #[v,M5 s] w (Bv w0 H L (N (xs.any (DH s)))):=by have HV:=A5 hv;obtain⟨b,c,rfl,ae,aa,_,_⟩:=hv;have aa:=A9 aa;unfold M5;have m1:=m.alloc (C #[U s.kind,U s.name,Y I s.parts] 148);have es:=m1.e0;generalize ad:w.heap.size=xb at*;have HK:=A5 (Oq (DH s) xs);go_enter func129,ntmps129;go_wp2_with fail;refine(YC _ xs s m1 HV.out).mono ?_;rintro e w2 ⟨rfl,m2⟩;go_wp2_with fail;go_ret;exact⟨A8 HK.out,m2.drop⟩
variable {E:Kc α}
theorem IL (p:α->Bool) (xs:List α):(DG p xs= -1/\xs.find? p=X)\/∃k,∃h:k<xs.length,DG p xs=(k:Int)/\xs.find? p=O xs[k]:=by exact lw
theorem AX.len63 {v:V_} (h:AX E H v xs):(xs.length:Int)<=9223372036854775807:=by obtain⟨b,c,e,h1,h2,_⟩:=h;unfold maxLen at h2;omega
def pM (n:Nat) (w0:W_) (H:Hp) (L:List (Nat×Obj)) (e:E_) (w':W_):Prop:=∃v zs L0,e= .returned v/\Fo v zs L0/\(∀z∈zs,0<=z/\z<(n:Int))/\zs.length<=4096/\AC w0 H (L0++L) w'
theorem Rl (x:AI) (s:ByteArray):Cn x s<(x.d.length:Int):=by unfold Cn;rcases IL (λc:AF=>T (c.name=s)) x.d with ⟨h,_⟩|⟨j,hj,h,_⟩<;>rw[h]<;>omega
theorem V1 (x:AI) (c:AF) (vc vk vr vd sv:V_) (hn:c.i.length<=4096/\x.d.length<=4096) (hf:∀i∈c.i,i.op=13->i.m=1->0<=Cn x i.name) (m:AC w0 H L w) (hx:Bz H x vc vk vr vd) (hs:AX C1 H sv c.i):K_ yA 122 #[.agg #[vc,vk,vr,vd],.agg #[U c.name,Y I c.params,Y I c.g,sv]] w (pM x.d.length w0 H L):=by
 have HX:=A5 hx;have HS:=A5 hs;have HF:=A5 hf;have HN:=A5 hn;have hl:=hs.len63;obtain⟨p1,q1,p2,q2,p3,q3,p4,q4,rfl,rfl,rfl,rfl,-,-,-,-⟩:=hx.shapes;obtain⟨sb,sk,rfl,_⟩:=hs.shape2;clear hx hs hf hn;have m1:=m.alloc (IB x p1 q1 p2 q2 p3 q3 p4 q4);have m2:=m1.alloc (C #[U c.name,Y I c.params,Y I c.g,V sb c.i.length sk] 111);generalize av:(w.alloc (IB x p1 q1 p2 q2 p3 q3 p4 q4)).heap.size=cb at*;generalize aq:w.heap.size=ib at*;clear m1 m;have es:=m2.e1;go_enter func122,ntmps122;go_wp2_with fail;clear es;(go_loopw [5,6] (λv i6 wr=>∃(k:Nat) (zs:List Int) (L0:List (Nat×Obj)),k<=c.i.length/\i6= Y I k/\Fo v zs L0/\Hid (∀z∈zs,0<=z/\z<(x.d.length:Int))/\Hid (zs.length<=k)/\AC w0 H ((cb,C #[U c.name,Y I c.params,Y I c.g,V sb c.i.length sk] 111)::(ib,IB x p1 q1 p2 q2 p3 q3 p4 q4)::(L0++L)) wr) (λ_ i6 _=>c.i.length-(intOf i6).toNat));case atStart=>exact⟨0,[],[],uA _,Z,Fo.nil0,A5 (by simp),A5 (by simp),m2⟩
 case round=>
  clear m2;obtain⟨k,zs,L0,hk,rfl,ho,HZ,HL,mk⟩:=hrel;obtain⟨b,c',rfl,au,ar⟩:=ho.acc.shape;have HO:=A5 ho;clear ho;generalize af:zs.length=n at*;have es:=mk.e1;by_cases eP:k<c.i.length
  .have ll:(k:Int)<c.i.length:=A0;obtain⟨pb,po,va,vg,vw,rfl,d0,d1,d2,d3,d4,d5,d6,d7,hr⟩:=HS.out.getIns (yB eP);have al:=A5 (HF.out _ (uC eP));generalize c.i[k]=i at*;have D5:=A5 d5;have d0:=d0.cell mk;have d4:=d4.cell mk;clear d1 d2 d3 d5 d6 d7 hr;obtain⟨t,ht⟩:∃t,(((i.op:Int)==13)&&(i.m==1))=t:=⟨_,Z⟩;by_cases ae:(i.op:Int)=13;rotate_left
   .have ad:((i.op:Int)==13)=false:=bF ae;have HH:=A5 ht;clear ae ht;go_wp2_with fail;exact iL
   by_cases hm1:i.m=1;rotate_left
   .have ad:((i.op:Int)==13)=true:=(by rw[ae];rfl);have ah:(i.m==1)=false:=bF hm1;have HH:=A5 ht;clear ae hm1 ht;go_wp2_with fail;exact iL
   have ad:((i.op:Int)==13)=true:=(by rw[ae];rfl);have ah:(i.m==1)=true:=(by rw[hm1];rfl);have ag:=al.out A0 hm1;obtain⟨q,hq⟩:∃q,Cn x i.name=q:=⟨_,Z⟩;have aa:=Rl x i.name;rw[hq] at ag aa;have HQ:=A5 hq;have ai:=A5 (And.intro ag aa);clear ae hm1 ht hq ag aa;go_wp2_with fail;clear es ad ah d0 d4;refine Da (F:=λw'=>Code.wp _ _ _ _ w') mk ?_;clear mk;intro ao mr;refine B1 mr [VK (V b n c'),VK (.agg #[V p1 x.k.length q1,V p2 x.c.length q2,V p3 x.r.length q3,V p4 x.d.length q4]),VK (M (O ⟨cb,3,X⟩)),VK (V (O ⟨pb,po,X⟩) c.i.length sk),VK (Y I k),VK (M (O ⟨pb,po+k*8,X⟩)),VK (M (O ⟨pb,po+k*8+5,X⟩)),VK (U i.name),VK (Y I q),⟨[9],λzb=> V (O ⟨(zb.getD 0 Ax).b,0,X⟩) 1 1,O ([],[],λzb d=>d.bl=[(d.b,C #[Y I q] 3)]),G⟩] (nf 9++[B]) ?_ ?_
   .refine⟨AA,FH,AA,FH,AA,AA,AA,?_,?_,?_,trivial⟩
    ·(refine Al.vk Z λbs w hb m=>?_);have d5:=D5.out.cell m;exact AT
    ·(refine Al.call Z Z Z λbs w L2 hb m=>?_);refine BU.ofCall (f:=56) (args:=#[.agg #[V p1 x.k.length q1,V p2 x.c.length q2,V p3 x.r.length q3,V p4 x.d.length q4],U i.name]) Br ?_;refine(Cd x _ _ _ _ i.name m HX.out).mono ?_;rintro e w2 ⟨rfl,m2⟩;rw[HQ.out];exact⟨_,Z,Z,m2⟩
    ·(refine Al.make _ _ Z Z Z λbs w hb m=>?_);show(x_ _ _).run _ _= .ok (.value (V (O ⟨w.heap.size,0,X⟩) 1 1)) (w.alloc (C #[Y I q] 3));exact Cp
   .intro bs wd hb md;replace md:=AC.like1 mr (bs 9).bl md;have aj:(bs 9).bl=[((bs 9).b,C #[Y I q] 3)]:=hb 9 _ _ Z Z;rw[aj] at md;(try simp only[uD,uB] at md);simp only[uF,uG,Nat.reduceAdd,uH,uI,uJ];clear hb mr;generalize (bs 9).b=rb at*;have mp:=(md.perm Ah:AC _ _ (L0++((rb,C #[Y I q] 3)::(cb,C #[U c.name,Y I c.params,Y I c.g,V (O ⟨pb,po,X⟩) c.i.length sk] 111)::(ib,IB x p1 q1 p2 q2 p3 q3 p4 q4)::L)) _);clear md;go_wp2_with (at_builtin;go_must (refine AG (w0:=w0) (H:=H) (L:=(rb,C #[Y I q] 3)::(cb,C #[U c.name,Y I c.params,Y I c.g,V (O ⟨pb,po,X⟩) c.i.length sk] 111)::(ib,IB x p1 q1 p2 q2 p3 q3 p4 q4)::L) Z _ _ 138 Z 3 1 8 (Y I 0) underlying138 A7 Z AD (.slice b n c') n (zs.map (Y I)) ?eJ Z (V (O ⟨rb,0,X⟩) 1 1) 1 [Y I q] ?ly Z ?hl ?h1 ?hb ?h63 ?_));(case eJ=>have:=HO.out.acc.join mp;rw[af] at this;exact this);(case ly=>exact Fr.loc (e:=3) (cs:=[Y I q]) mp (by simp));(case hl=>rfl);(case h1=>intro u hu;rw[uU.1 hu];rfl);(case hb=>have:=HL.out;have:=HN.out;omega);(case h63=>unfold maxLen;have:=HL.out;have:=HN.out;omega);intro v' w' eJ;obtain⟨b5,c5,rfl,_,_⟩:=eJ.shape;obtain⟨L5,h5,m6⟩:=eJ.drop.split;have m7:=(m6.perm Ah:AC _ _ ((cb,C #[U c.name,Y I c.params,Y I c.g,V (O ⟨pb,po,X⟩) c.i.length sk] 111)::(ib,IB x p1 q1 p2 q2 p3 q3 p4 q4)::(L5++L)) _)
    have ak:Hid (Fo (V b5 (n+1) c5) (zs++[q]) L5):=A5 ⟨by rw[um,af,List.map_append];exact h5,λz hz=>by
     rcases un.1 hz with hz|hz
     .exact HO.out.fit z hz
     .rw[uU.1 hz];have:=ai.out;have:=HN.out;unfold EH
      omega⟩
    clear eJ mp m6 h5;go_wp2_with fail;go_roundw;(case rel=>exact⟨k+1,zs++[q],L5,by omega,by go_num,ak.out,A5 (λz hz=>by rcases un.1 hz with hz|hz;exact HZ.out z hz;rw[uU.1 hz];exact ai.out),A5 (by rw[um,af];have:=HL.out;simp;omega),m7⟩);case measure=>exact BW
  .have hge:¬(k:Int)<c.i.length:=A0;go_wp2_with fail;go_ret;exact⟨_,zs,L0,Z,HO.out,HZ.out,by have:=HL.out;have:=HN.out;omega,mk.drop.drop⟩
variable {zs:List Int}
abbrev rI (zs:List Int):Obj:= C (zs.map (Y I)).toArray 3
theorem pA (zs:List Int) (a:Nat) (z:Int):((zs.map (Y I)).toArray).setIfInBounds a (Y I z)=((zs.set a z).map (Y I)).toArray:=by rw[uR,List.map_set]
theorem ZH {a:Nat} (h:a<zs.length):(zs.map (Y I))[a]?=O (Y I zs[a]):=by simp[h]
def qO (n:Nat) (w0:W_) (H:Hp) (L:List (Nat×Obj)) (e:E_) (w':W_):Prop:=∃ob zs,e= .returned (V (O ⟨ob,0,X⟩) n n)/\zs.length=n/\AC w0 H ((ob,rI zs)::L) w'
def Ta (x:AI):Prop:=x.d.length<=4096/\∀c∈x.d,c.i.length<=4096/\∀i∈c.i,i.op=13->i.m=1->0<=Cn x i.name
theorem SS (x:AI) (vc vk vr vd:V_) (af:Ta x) (m:AC w0 H L w) (hx:Bz H x vc vk vr vd):K_ yA 81 #[.agg #[vc,vk,vr,vd]] w (qO x.d.length w0 H L):=by
 have HX:=A5 hx;have aw:=A5 af.2;have hN:=af.1;obtain⟨p1,q1,p2,q2,p3,q3,p4,q4,rfl,rfl,rfl,rfl,-,-,-,-⟩:=hx.shapes;clear hx af;have m1:=m.alloc (IB x p1 q1 p2 q2 p3 q3 p4 q4);generalize az:w.heap.size=ib at*;have ax:(x.d.length:Int)<=4096:=A0;clear m;have es:=m1.e1;go_enter func81,ntmps81;go_wp2_with (refine Eg (bytes:=8) (z:= Y I 0) (n:=x.d.length) Z m1 Z Z underlying138 A7 Z A0 A0 ?_);intro ob wz mz;clear es;rw[((by simp):uM x.d.length (Y I 0)=((uE x.d.length (0:Int)).map (Y I)).toArray)] at mz;clear m1;go_wp2_with fail;(go_loopw [3,4] (λv3 v4 wr=>∃(r o:Nat) (zs:List Int),r<=x.d.length+1/\v4= Y I r/\v3= V (O ⟨o,0,X⟩) x.d.length x.d.length/\Hid (zs.length=x.d.length)/\AC w0 H ((o,rI zs)::(ib,IB x p1 q1 p2 q2 p3 q3 p4 q4)::L) wr) (λ_ v4 _=>x.d.length+1-(intOf v4).toNat));case atStart=>exact⟨0,ob,uE x.d.length 0,uA _,Z,Z,A5 (by simp),mz⟩
 case round=>
  clear mz;obtain⟨r,o,zs,hr,rfl,rfl,HZ,mk⟩:=hrel;have es:=mk.e1;by_cases eP:r<x.d.length+1
  .have ll:(r:Int)<=x.d.length:=A0;go_wp2_with (refine Eg (bytes:=8) (z:= Y I 0) (n:=x.d.length) Z mk Z Z underlying138 A7 Z A0 A0 ?_);intro nb wn mn;clear es mk;rw[((by simp):uM x.d.length (Y I 0)=((uE x.d.length (0:Int)).map (Y I)).toArray)] at mn;go_wp2_with fail;(go_loopw [6] (λv6 wr=>∃(i:Nat) (ys:List Int),i<=x.d.length/\v6= Y I i/\Hid (ys.length=x.d.length)/\AC w0 H ((nb,rI ys)::(o,rI zs)::(ib,IB x p1 q1 p2 q2 p3 q3 p4 q4)::L) wr) (λv6 _=>x.d.length-(intOf v6).toNat));case atStart=>exact⟨0,uE x.d.length 0,uA _,Z,A5 (by simp),mn⟩
   case round=>
    clear mn;obtain⟨i,ys,hi,rfl,HY,mi⟩:=hrel;have es:=mi.e1;by_cases hlt2:i<x.d.length
    .have aj:(i:Int)<x.d.length:=A0;obtain⟨pb,po,si,rfl,a1,a2,a3,a4,ae,-⟩:=HX.out.d.getCode (yB hlt2);have HC:=A5 (aw.out _ (uC hlt2));generalize x.d[i]=c at*;have A1:=A5 a1;have A2:=A5 a2;have A3:=A5 a3;have A4:=A5 a4;have av:=A5 ae;obtain⟨sb,sk,rfl,_⟩:=ae.shape2;have hcl:=HC.out.1;have ar:(c.i.length:Int)<=4096:=A0;clear ae a1 a2 a3;have a4:=a4.cell mi;go_wp2_with fail;clear es a4;refine B1 mi [VK (.agg #[V p1 x.k.length q1,V p2 x.c.length q2,V p3 x.r.length q3,V (O ⟨pb,po,X⟩) x.d.length q4]),VK (M (O ⟨ib,3,X⟩)),VK (V (O ⟨pb,po,X⟩) x.d.length q4),VK (Y I i),VK (M (O ⟨pb,po+i*4,X⟩)),VK (.agg #[U c.name,Y I c.params,Y I c.g,V sb c.i.length sk])] (nf 6) ?_ ?_
     .exact qD
     .intro bs wd hb md;replace md:=AC.like0 mi md;(try simp only[uD,uB] at md);simp only[uF,uG,Nat.reduceAdd,uH,uI,uJ];clear hb mi;go_wp2_with (go_at_call 122;refine(V1 x c _ _ _ _ _ ⟨hcl,hN⟩ HC.out.2 md HX.out av.out).mono ?_;rintro e W ⟨vl,zl,L0,rfl,ah,ag,ay,mW⟩);clear md;obtain⟨H1,mf,lQ,ad⟩:=ah.freeze mW;obtain⟨lb,lc,rfl,_⟩:=ad.shape2;have HSL:=A5 ad;have HLE:=A5 lQ;have au:=A5 ag;clear mW ah ad lQ ag;have al:(zl.length:Int)<=4096:=A0;go_wp2_with fail;(go_loopw [7,9] (λv7 v9 wr=>∃(j:Nat) (y:Int),j<=zl.length/\v9= Y I j/\v7= Y I y/\AC w0 H1 ((nb,rI ys)::(o,rI zs)::(ib,IB x p1 q1 p2 q2 p3 q3 (O ⟨pb,po,X⟩) q4)::L) wr) (λ_ v9 _=>zl.length-(intOf v9).toNat));case atStart=>exact⟨0,_,uA _,Z,Z,mf⟩
      case round=>
       clear mf;obtain⟨j,y,hj,rfl,rfl,mj⟩:=hrel;have es:=mj.e1;by_cases aa:j<zl.length
       .have ai:(j:Int)<zl.length:=A0;obtain⟨gb,go,rfl,g0,-⟩:=HSL.out.getI (yB aa);have hzz:=au.out _ (uC aa);generalize zl[j]=z at*;obtain⟨a,rfl⟩:∃a:Nat,z=(a:Int):=⟨z.toNat,by omega⟩;have ba:=hzz.2;have g0:=g0.cell mj;have hza:=ZH (zs:=zs) (a:=a) Sb;generalize zs[a]'Sb=u at*;clear hzz;go_wp2_with fail;exact YG
       .have ao:¬(j:Int)<zl.length:=A0;have ak:=ZH (zs:=ys) (a:=i) Ri;generalize ys[i]'Ri=u0 at*;go_wp2_with fail;have ms:=(mj.weaken HLE.out).set (i:=i) (v:= Y I (min y 60001)) .head;rw[pA] at ms;clear es ak;go_roundw;(case rel=>exact⟨i+1,ys.set i (min y 60001),by omega,by go_num,A5 d9,ms⟩);case measure=>exact BW
    .have aq:¬(i:Int)<x.d.length:=A0;go_wp2_with fail;clear es;go_roundw;(case rel=>exact⟨r+1,nb,ys,by omega,by go_num,Z,HY,(mi.perm (List.Perm.swap _ _ _)).drop⟩);case measure=>exact BW
  .have hge:¬(r:Int)<=x.d.length:=A0;go_wp2_with fail;go_ret;exact⟨o,zs,Z,HZ.out,(mk.perm (List.Perm.swap _ _ _)).drop⟩
theorem PH {bs:List Bool} {a:Nat} (h:a<bs.length):(bs.map N)[a]?=O (N bs[a]):=by simp[h]
def VB (w0:W_) (H:Hp) (L:List (Nat×Obj)) (e:E_) (w':W_):Prop:=∃b,e= .returned (N b)/\AC w0 H L w'
theorem RM (x:AI) (vc vk vr vd:V_) (ah:Ta x) (m:AC w0 H L w) (hx:Bz H x vc vk vr vd):K_ yA 124 #[.agg #[vc,vk,vr,vd]] w (VB w0 H L):=by
 have HX:=A5 hx;have au:=A5 ah.2;have hN:=ah.1;obtain⟨p1,q1,p2,q2,p3,q3,p4,q4,rfl,rfl,rfl,rfl,-,-,-,-⟩:=hx.shapes;clear hx ah;have m1:=m.alloc (IB x p1 q1 p2 q2 p3 q3 p4 q4);generalize ax:w.heap.size=ib at*;have av:(x.d.length:Int)<=4096:=A0;clear m;have es:=m1.e1;go_enter func124,ntmps124;go_wp2_with (refine Eg (bytes:=1) (z:= N G) (n:=x.d.length) Z m1 Z Z underlying210 A7 Z A0 A0 ?_);intro ob wz mz;clear es;rw[((by simp):uM x.d.length (N G)=((uE x.d.length G).map N).toArray)] at mz;clear m1;go_wp2_with fail;(go_loopw [4] (λv4 wr=>∃(r:Nat) (ds:List Bool),r<=x.d.length/\v4= Y I r/\Hid (ds.length=x.d.length)/\AC w0 H ((ob,BO ds)::(ib,IB x p1 q1 p2 q2 p3 q3 p4 q4)::L) wr) (λv4 _=>x.d.length-(intOf v4).toNat));case atStart=>exact⟨0,uE x.d.length G,uA _,Z,A5 (by simp),mz⟩
 case round=>
  clear mz;obtain⟨r,ds,hr,rfl,HD,mk⟩:=hrel;have es:=mk.e1;by_cases eP:r<x.d.length
  .have ll:(r:Int)<x.d.length:=A0;go_wp2_with fail;clear es;(go_loopw [5] (λv5 wr=>∃(i:Nat) (ys:List Bool),i<=x.d.length/\v5= Y I i/\Hid (ys.length=x.d.length)/\AC w0 H ((ob,BO ys)::(ib,IB x p1 q1 p2 q2 p3 q3 p4 q4)::L) wr) (λv5 _=>x.d.length-(intOf v5).toNat));case atStart=>exact⟨0,ds,uA _,Z,HD,mk⟩
   case round=>
    clear mk;obtain⟨i,ys,hi,rfl,HY,mi⟩:=hrel;have es:=mi.e1;by_cases hlt2:i<x.d.length
    .have ad:(i:Int)<x.d.length:=A0;obtain⟨pb,po,si,rfl,a1,a2,a3,a4,af,-⟩:=HX.out.d.getCode (yB hlt2);have HC:=A5 (au.out _ (uC hlt2));generalize x.d[i]=c at*;have A1:=A5 a1;have A2:=A5 a2;have A3:=A5 a3;have A4:=A5 a4;have ar:=A5 af;obtain⟨sb,sk,rfl,_⟩:=af.shape2;have hcl:=HC.out.1;clear af a1 a2 a3 a4;go_wp2_with fail;clear es;refine B1 mi [VK (.agg #[V p1 x.k.length q1,V p2 x.c.length q2,V p3 x.r.length q3,V (O ⟨pb,po,X⟩) x.d.length q4]),VK (M (O ⟨ib,3,X⟩)),VK (V (O ⟨pb,po,X⟩) x.d.length q4),VK (Y I i),VK (M (O ⟨pb,po+i*4,X⟩)),VK (.agg #[U c.name,Y I c.params,Y I c.g,V sb c.i.length sk])] (nf 6) ?_ ?_
     .exact qD
     .intro bs wd hb md;replace md:=AC.like0 mi md;(try simp only[uD,uB] at md);simp only[uF,uG,Nat.reduceAdd,uH,uI,uJ];clear hb mi;go_wp2_with (go_at_call 122;refine(V1 x c _ _ _ _ _ ⟨hcl,hN⟩ HC.out.2 md HX.out ar.out).mono ?_;rintro e W ⟨vl,zl,L0,rfl,aj,ai,aw,mW⟩);clear md;obtain⟨H1,mf,lQ,ae⟩:=aj.freeze mW;obtain⟨lb,lc,rfl,_⟩:=ae.shape2;have HSL:=A5 ae;have HLE:=A5 lQ;have aq:=A5 ai;clear mW aj ae lQ ai;have al:(zl.length:Int)<=4096:=A0;go_wp2_with fail;(go_loopw [7,8] (λv7 v8 wr=>∃(j:Nat) (y:Bool),j<=zl.length/\v8= Y I j/\v7= N y/\AC w0 H1 ((ob,BO ys)::(ib,IB x p1 q1 p2 q2 p3 q3 (O ⟨pb,po,X⟩) q4)::L) wr) (λ_ v8 _=>zl.length-(intOf v8).toNat));case atStart=>exact⟨0,_,uA _,Z,Z,mf⟩
      case round=>
       clear mf;obtain⟨j,y,hj,rfl,rfl,mj⟩:=hrel;have es:=mj.e1;by_cases aa:j<zl.length
       .have ak:(j:Int)<zl.length:=A0;obtain⟨gb,go,rfl,g0,-⟩:=HSL.out.getI (yB aa);have hzz:=aq.out _ (uC aa);generalize zl[j]=z at*;obtain⟨a,rfl⟩:∃a:Nat,z=(a:Int):=⟨z.toNat,by omega⟩;have ay:=hzz.2;have g0:=g0.cell mj;have hza:=PH (bs:=ys) (a:=a) Ri;generalize ys[a]'Ri=u at*;clear hzz;cases y
        .go_wp2_with fail;exact YG
        .go_wp2_with fail;exact YG
       .have ao:¬(j:Int)<zl.length:=A0;have hza:=PH (bs:=ys) (a:=i) Ri;generalize ys[i]'Ri=u at*;cases u
        .go_wp2_with fail;have ms:=(mj.weaken HLE.out).set (i:=i) (v:= N y) .head;rw[Ho] at ms;clear es hza;go_roundw;(case rel=>exact⟨i+1,ys.set i y,by omega,by go_num,A5 d9,ms⟩);case measure=>exact BW
        .go_wp2_with fail;have ms:=(mj.weaken HLE.out).set (i:=i) (v:= N B) .head;rw[Ho] at ms;clear es hza;go_roundw;(case rel=>exact⟨i+1,ys.set i B,by omega,by go_num,A5 d9,ms⟩);case measure=>exact BW
    .have ag:¬(i:Int)<x.d.length:=A0;go_wp2_with fail;clear es;go_roundw;(case rel=>exact⟨r+1,ys,by omega,by go_num,HY,mi⟩);case measure=>exact BW
  .have hge:¬(r:Int)<x.d.length:=A0;go_wp2_with fail;clear es;(go_loopw [9] (λv9 wr=>∃(i:Nat),i<=x.d.length/\v9= Y I i/\AC w0 H ((ob,BO ds)::(ib,IB x p1 q1 p2 q2 p3 q3 p4 q4)::L) wr) (λv9 _=>x.d.length-(intOf v9).toNat));case atStart=>exact⟨0,uA _,Z,mk⟩
   case round=>
    clear mk;obtain⟨i,hi,rfl,mi⟩:=hrel;have es:=mi.e1;by_cases hlt2:i<x.d.length
    .have ad:(i:Int)<x.d.length:=A0;have hza:=PH (bs:=ds) (a:=i) (by have:=HD.out;omega);generalize ds[i]'(by have:=HD.out;omega)=u at*;cases u
     .go_wp2_with fail;go_ret;exact⟨G,Z,mi.drop.drop⟩
     .go_wp2_with fail;clear es hza;go_roundw;(case rel=>exact⟨i+1,by omega,by go_num,mi⟩);case measure=>exact BW
    .have ag:¬(i:Int)<x.d.length:=A0;go_wp2_with fail;go_ret;exact⟨B,Z,mi.drop.drop⟩
theorem Kf {c:AF} {n:Nat}:∀(f:Nat) {s:ES},s.Fit n->Cc n s->Cc n (Db c f s)
 |0,_,_,h=>h
 |f+1,s,hf,h=>by
  unfold Db
  split
  .exact h
  .rename_i k hk
   exact Kf f (ES.step_fit hf _) (Cc.step hf h hk)
theorem My (c:AF):∀t∈(AB c).t,t.length<=c.i.length:=λt ht=>by
 have:=Kf (c:=c) (n:=c.i.length) c.i.length (ES.init_fit _) (Cc.init _) t ht
 omega
theorem Su {gs:List Bool} (h:gs[k]?=O G):(gs.set k B).count G<gs.count false:=by obtain⟨hk,h⟩:=uQ.1 h;have h2:0<gs.count false:=List.count_pos_iff.2 (h▸uC hk);rw[List.count_set hk,h];simp;omega
def px (gb n:Nat) (w0:W_) (H:Hp) (L:List (Nat×Obj)) (v5:V_) (wr:W_) (u:Nat):Prop:=∃(gs:List Bool) (ag:Bool),u=(if ag=B then 1 else 0)+gs.count G/\v5= N ag/\gs.length=n/\AC w0 H ((gb,BO gs)::L) wr
theorem ZY (c:AF) (vi:V_) (lf:Dw c) (m:AC w0 H L w) (hd:AX C1 H vi c.i):K_ yA 123 #[Gm c vi] w (VB w0 H L):=by
 have HD:=A5 hd;obtain⟨ib,ic,rfl,-,hm1,-⟩:=hd;have hm1:=A9 hm1;have HF:=A5 lf;have cq:=lf.len;clear lf;unfold Gm;have m1:=m.alloc (At c (V ib c.i.length ic));have es:=m1.e14;generalize cm:w.heap.size=xb at*;generalize hn:c.i.length=n at*;have HN:=A5 hn;clear hn;have cp:(n:Int)<=2000:=A0;go_enter func123,ntmps123;go_wp2_with (first|(go_at_call 169;refine(Nz c (V ib n ic) HF.out m1 HD.out).mono ?_;rintro e w' ⟨H',K,vC,vT,vO,vK,rfl,lQ,bj,hC,hT,hO,hK,m2⟩;have ai:=Jb c;rw[HN.out] at ai;have ao:=bj.len;rw[HN.out] at ao;obtain⟨bC,cC,eC⟩:=hC.shape;obtain⟨bT,cT,eT⟩:=hT.shape;obtain⟨bO,cO,eO⟩:=hO.shape;obtain⟨bK,cK,eK⟩:=hK.shape;rw[ai.e] at eC;rw[ai.t] at eT;rw[ai.other] at eO;rw[ao.len] at eK;subst eC;subst eT;subst eO;subst eK;have m3:=m2.alloc (Fv (V bC n cC) (V bT n cT) (V bO n cO) (V bK n cK));clear es;have es:=m3.e15)|(refine Eg (bytes:=1) (z:= N G) (n:=n) Z m3 Z Z underlying210 A7 Z A0 A0 ?_));intro gb wz mz;generalize bz:w'.heap.size=fb at*;have bp:=A5 ai;have HLE:=A5 lQ;have HC:=A5 hC;have HT:=A5 hT;clear es m1 m2 m3 bz ai bj ao lQ hC hT hO hK;rw[((by simp):uM n (N G)=((uE n G).map N).toArray)] at mz;go_wp2_with fail;have hx0:px gb n w0 H' ((fb,Fv (V bC n cC) (V bT n cT) (V bO n cO) (V bK n cK))::(xb,At c (V ib n ic))::L) (N B) wz (1+(uE n G).count G):=⟨uE n G,B,by simp,Z,by simp,mz⟩;have bo:=A5 hx0;clear hx0 mz;(go_loopw [5] (λv5 wr=>Hid (∃u,px gb n w0 H' ((fb,Fv (V bC n cC) (V bT n cT) (V bO n cO) (V bK n cK))::(xb,At c (V ib n ic))::L) v5 wr u)) (λv5 wr=>Qj (px gb n w0 H' ((fb,Fv (V bC n cC) (V bT n cT) (V bO n cO) (V bK n cK))::(xb,At c (V ib n ic))::L) v5 wr)));case atStart=>exact A5 ⟨_,bo.out⟩
 case round=>
  have bt:=Mo hrel.out;clear hrel bo;generalize hg:Qj (px gb n w0 H' ((fb,Fv (V bC n cC) (V bT n cT) (V bO n cO) (V bK n cK))::(xb,At c (V ib n ic))::L) u5 wr)=g at*;have cg:=A5 hg;clear hg;obtain⟨gs,ag,hu,rfl,bm,mk⟩:=bt;have ay:=A5 bm;have HU:=A5 hu;clear bm hu;have es:=mk.e15
  cases ag with
  |false=>
   go_wp2_with fail;clear es;(go_loopw [11] (λv11 wr=>∃(i:Nat),i<=n/\v11= Y I i/\AC w0 H' ((gb,BO gs)::(fb,Fv (V bC n cC) (V bT n cT) (V bO n cO) (V bK n cK))::(xb,At c (V ib n ic))::L) wr) (λv11 _=>n-(intOf v11).toNat));case atStart=>exact⟨0,uA _,Z,mk⟩
   case round=>
    clear mk;obtain⟨i,hi,rfl,mi⟩:=hrel;have es:=mi.e15;by_cases hlt2:i<n
    .have bg:(i:Int)<n:=A0;have hza:=PH (bs:=gs) (a:=i) (by have:=ay.out;omega);generalize gs[i]'(by have:=ay.out;omega)=u at*;cases u
     .go_wp2_with fail;go_ret;exact⟨B,Z,(mi.drop.drop.drop).weaken HLE.out⟩
     .go_wp2_with fail;clear es hza;go_roundw;(case rel=>exact⟨i+1,by omega,by go_num,mi⟩);case measure=>simp[intOf];try omega
    .have bx:¬(i:Int)<n:=A0;go_wp2_with fail;go_ret;exact⟨G,Z,(mi.drop.drop.drop).weaken HLE.out⟩
  |true=>
   have bb:IntKind.i64.wrap ((n:Int)-1)=(n:Int)-1:=IntWalk.i64_in _ A0;go_wp2_with fail;clear es bb;(go_loopw [5,6] (λv5 v6 wr=>∃(k:Nat) (aa:List Bool) (ae:Bool),k<=n/\v6= Y I ((k:Int)-1)/\v5= N ae/\Hid (aa.length=n)/\Hid (aa.count G<=gs.count G/\(ae=B->aa.count G<gs.count G))/\AC w0 H' ((gb,BO aa)::(fb,Fv (V bC n cC) (V bT n cT) (V bO n cO) (V bK n cK))::(xb,At c (V ib n ic))::L) wr) (λ_ v6 _=>(intOf v6+1).toNat));case atStart=>exact⟨n,gs,G,Nat.le_refl _,Z,Z,ay,A5 ⟨Nat.le_refl _,λh=>by cases h⟩,mk⟩
   case round=>
    clear mk;obtain⟨k1,aa,ae,cu,rfl,rfl,ad,ah,mk⟩:=hrel;rcases k1 with _|k
    .have es:=mk.e15;have bu:¬(0:Int)<=((0:Nat):Int)-1:=A0;go_wp2_with fail;clear es;have aj:px gb n w0 H' ((fb,Fv (V bC n cC) (V bT n cT) (V bO n cO) (V bK n cK))::(xb,At c (V ib n ic))::L) (N ae) wr ((if ae=B then 1 else 0)+aa.count G):=⟨aa,ae,Z,Z,ad.out,mk⟩;have aq:=A5 aj;clear aj;go_roundw;case rel=>exact A5 ⟨_,aq.out⟩
     case measure=>
      have h1:=TW aq.out;have h2:=cg.out;have h3:=HU.out;have h4:=ah.out;simp only[↓reduceIte] at h3;cases ae
      .simp at h1;omega
      .have:=h4.2 Z;simp at h1;omega
    .rw[(A0:((k+1:Nat):Int)-1=(k:Int))];have eP:k<n:=A0;have ll:(k:Int)<n:=A0;have ao:k<c.i.length:=(by rw[HN.out];exact eP);have bb:IntKind.i64.wrap ((k:Int)-1)=(k:Int)-1:=IntWalk.i64_in _ A0;have hza:=PH (bs:=aa) (a:=k) Kd;obtain⟨u,hu⟩:∃u,aa[k]?=O u:=⟨_,yB Kd⟩;have bc:aa[k]'Kd=u:=(by rw[yB Kd] at hu;exact Option.some.inj hu);rw[bc] at hza;have ca:=A5 hu;clear hu bc
     cases u with
     |true=>have es:=mk.e15;go_wp2_with fail;clear es hza;go_roundw;(case rel=>exact⟨k,aa,ae,by omega,by go_num,Z,ad,ah,mk⟩);case measure=>simp[intOf];try omega
     |false=>
      have au:=A5 (Su ca.out);obtain⟨i,hi⟩:∃i,c.i[k]?=O i:=⟨_,yB ao⟩;have HI:=A5 hi;obtain⟨ck,bn⟩:∃x,(AB c).e[k]?=O x:=⟨_,yB (by rw[bp.out.e];exact eP)⟩;obtain⟨tr,av⟩:∃x,(AB c).t[k]?=O x:=⟨_,yB (by rw[bp.out.t];exact eP)⟩;have br:=My c tr (List.mem_of_getElem? av);rw[HN.out] at br;obtain⟨c1,c2,rfl,dC⟩:=HC.out.getB bn;obtain⟨t1,t2,tv,rfl,dT,aw⟩:=HT.out.getSl av;have cd:=A5 aw;obtain⟨ba,az,rfl⟩:=aw.shape;have ch:=A5 dC;have af:=A5 dT;clear bn av aw dC dT hi;obtain⟨kA,off,va,vg,vw,rfl,d0,d1,d2,d3,d4,d5,d6,d7,bk⟩:=HD.out.getIns HI.out;obtain⟨b5,c5,b6,c6,b7,c7,rfl,rfl,rfl,l5,l6,l7⟩:=bk.shapes;clear bk;have d0:=(d0.mono HLE.out).cell mk;have d1:=(d1.mono HLE.out).cell mk;have d2:=(d2.mono HLE.out).cell mk;have d3:=(d3.mono HLE.out).cell mk;have d4:=(d4.mono HLE.out).cell mk;have d5:=(d5.mono HLE.out).cell mk;have d6:=(d6.mono HLE.out).cell mk;have d7:=(d7.mono HLE.out).cell mk;have my:=(mk.alloc (SB i b5 c5 b6 c6 b7 c7));have my:=my.perm (List.Perm.swap _ _ _);have dC:=ch.out.cell my;have es:=mk.e15;have ax:=my.eqs;simp only[BS,SB,S8,EC,Fv,At] at ax;have lI:∀(a b:Int) (t:Bool),(a==b)=t->(a !=b)= !t:=λa b t h=>by rw[bne,h]
      have hway:((ck=G)\/(ck=B/\((i.op:Int)==39)=B)\/(ck=B/\((i.op:Int)==39)=G/\((i.op:Int)==13)=B/\(i.m==1)=G))\/((ck=B/\((i.op:Int)==39)=G/\((i.op:Int)==13)=G)\/(ck=B/\((i.op:Int)==39)=G/\((i.op:Int)==13)=B/\(i.m==1)=B)):=by
       cases ck
       .exact .inl (.inl Z)
       .cases ((i.op:Int)==39)
        .cases ((i.op:Int)==13)
         .exact .inr (.inl ⟨Z,Z,Z⟩)
         .cases (i.m==1)
          .exact .inl (.inr (.inr ⟨Z,Z,Z,Z⟩))
          .exact .inr (.inr ⟨Z,Z,Z,Z⟩)
        .exact .inl (.inr (.inl ⟨Z,Z⟩))
      rcases hway with hway|hway
      .rcases hway with rfl|⟨rfl,q1⟩|⟨rfl,q1,q2,q3⟩
       all_goals (
        try have n1:=lI _ _ _ q1
        try have n2:=lI _ _ _ q2
        try simp only[uV,uW] at n1 n2
        try simp only[uV,uW] at n1
        clear lI
        go_wp2_with fail
        have ms:=mk.set (i:=k) (v:= N B) .head
        rw[Ho] at ms
        clear es ax hza
        go_roundw
        case rel=>exact⟨k,aa.set k B,B,by omega,by go_num,Z,A5 (by rw[uq];exact ad.out),A5 ⟨by have:=au.out;have:=ah.out.1;omega,λ_=>by have:=au.out;have:=ah.out.1;omega⟩,(ms.alloc _).drop⟩
        case measure=>simp[intOf];try omega)
      .rcases hway with ⟨rfl,q1,q2⟩|⟨rfl,q1,q2,q3⟩
       all_goals (
        have n1:=lI _ _ _ q1
        have n2:=lI _ _ _ q2
        simp only[uV,uW] at n1 n2
        clear lI
        go_wp2_with fail
        refine EA (F:=λw'=>Code.wp _ _ _ _ w') my ?_
        clear es ax dC d0 d1 d2 d3 d4 d5 d6 d7 my mk hza
        generalize wr.heap.size=yb
        intro wq mq
        refine B1 mq [VK (.agg #[U c.name,Y I c.params,Y I c.g,V (O ⟨kA,off,X⟩) n ic]),VK (Y I k),VK (M (O ⟨fb,1,X⟩)),VK (V (O ⟨t1,t2,X⟩) n cT),VK (Y I k),VK (M (O ⟨t1,t2+k,X⟩)),VK (V ba tr.length az)] (nf 7) ?_ ?_
        .refine⟨?_,?_,?_,?_,?_,?_,?_,trivial⟩
         ·(refine Al.vk Z λbs w hb m=>?_);have es:=m.e13;have dT:=af.out.cell m;exact AT
         ·(refine Al.vk Z λbs w hb m=>?_);have es:=m.e13;have dT:=af.out.cell m;exact AT
         ·(refine Al.vk Z λbs w hb m=>?_);have es:=m.e13;have dT:=af.out.cell m;exact AT
         ·(refine Al.vk Z λbs w hb m=>?_);have es:=m.e13;have dT:=af.out.cell m;exact AT
         ·(refine Al.vk Z λbs w hb m=>?_);have es:=m.e13;have dT:=af.out.cell m;exact AT
         ·(refine Al.vk Z λbs w hb m=>?_);have es:=m.e13;have dT:=af.out.cell m;exact AT
         ·(refine Al.vk Z λbs w hb m=>?_);have es:=m.e13;have dT:=af.out.cell m;exact AT
        .intro bs wd hb md;replace md:=AC.like0 mq md;(try simp only[uD,uB] at md);simp only[uF,uG,Nat.reduceAdd,uH,uI,uJ];clear hb mq;go_wp2_with (go_at_call 170;refine(LW c (V (O ⟨kA,off,X⟩) n ic) (V ba tr.length az) k i tr HI.out HF.out.len A0 (HF.out.w k i HI.out) (HF.out.go0 k i HI.out) (HF.out.go1 k i HI.out) md (HD.out.mono HLE.out) cd.out).mono ?_;rintro e w' ⟨vl,H2,rfl,al,bd,m3⟩);have HSL:=A5 bd;obtain⟨q,lc,rfl,hl0,bh,-⟩:=bd;have bh:=A9 bh;have HLE2:=A5 al;have cf:=A5 (λy hy=>HF.out.next k i tr HI.out y hy);generalize B6 i (k:Int) tr=l at*;have cr:(l.length:Int)<=9223372036854775807:=A0;clear md al;go_wp2_with fail;(go_loopw [8,10] (λv8 v10 wr=>∃(j:Nat) (y:Bool),j<=l.length/\v10= Y I j/\v8= N y/\AC w0 H2 ((gb,BO aa)::(yb,SB i b5 c5 b6 c6 b7 c7)::(fb,Fv (V (O ⟨c1,c2,X⟩) n cC) (V (O ⟨t1,t2,X⟩) n cT) (V bO n cO) (V bK n cK))::(xb,At c (V (O ⟨kA,off,X⟩) n ic))::L) wr) (λ_ v10 _=>l.length-(intOf v10).toNat));case atStart=>exact⟨0,_,uA _,Z,Z,m3⟩
         case round=>
          clear m3;obtain⟨j,y,hj,rfl,rfl,mj⟩:=hrel;have es:=mj.e13;by_cases ak:j<l.length
          .have bf:(j:Int)<l.length:=A0;obtain⟨qb,qo,cj,rfl,f0,f1,f2,i0,i1,cn⟩:=HSL.out.getNext (yB ak);have ar:=(cf.out l[j] (uC ak)).1;rw[HN.out] at ar;generalize l[j]=z at*;obtain⟨a,ha⟩:∃a:Nat,z.at'=(a:Int):=⟨z.at'.toNat,by omega⟩;rw[ha] at f0 ar;have cw:=ar.2;have cv:a<n:=A0;have f0:=f0.cell mj;have hza:=PH (bs:=aa) (a:=a) Kd;generalize aa[a]'Kd=u at*;clear ar f1 f2 ha;cases y
           .go_wp2_with fail;clear es f0 hza;go_roundw;(case rel=>exact⟨j+1,_,by omega,by go_num,Z,mj⟩);case measure=>simp[intOf];try omega
           .go_wp2_with fail;clear es f0 hza;go_roundw;(case rel=>exact⟨j+1,_,by omega,by go_num,Z,mj⟩);case measure=>simp[intOf];try omega
          .have bw:¬(j:Int)<l.length:=A0;cases y
           .go_wp2_with fail;clear es;go_roundw;(case rel=>exact⟨k,aa,ae,by omega,by go_num,Z,ad,ah,((mj.perm (List.Perm.swap _ _ _)).drop).weaken HLE2.out⟩);case measure=>simp[intOf];try omega
           .have bq:=PH (bs:=aa) (a:=k) Kd;generalize aa[k]'Kd=u3 at*;go_wp2_with fail;have ms:=((mj.perm (List.Perm.swap _ _ _)).drop.weaken HLE2.out).set (i:=k) (v:= N B) .head;rw[Ho] at ms;clear es bq;go_roundw;case rel=>exact⟨k,aa.set k B,B,by omega,by go_num,Z,A5 (by rw[uq];exact ad.out),A5 ⟨by have:=au.out;have:=ah.out.1;omega,λ_=>by have:=au.out;have:=ah.out.1;omega⟩,ms⟩
            case measure=>simp[intOf];try omega)
theorem qs:(CR 13 1).name=2:=by kernel_rfl
theorem aL {x:AI} {c:AF} {i:Bu} (h:Fh x c i=B) (aa:i.op=13) (h1:i.m=1):0<=Cn x i.name:=by
 unfold Fh at h;rw[uL,uL] at h;have hf:=h.1.2;unfold Ca FP at hf;rw[aa,h1] at hf;simp only[qs] at hf;by_cases hc:Cn x i.name<0
 .simp[hc] at hf
 .omega
theorem YN {x:AI} (h:DL x=B) {c:AF} (hc:c∈x.d) {i:Bu} (hi:i∈c.i) (ad:i.op=13) (h1:i.m=1):0<=Cn x i.name:=by unfold DL at h;simp only[uL] at h;have aa:=uX.1 h.2.2.2.2.2.2 c hc;unfold DM at aa;rw[uL] at aa;exact aL (uX.1 aa.2 i hi) ad h1
theorem ky {x:AI} (h1:Cg x=B) (h2:DL x=B):Ta x/\∀c∈x.d,Dw c:=by have hl2:=h1;unfold Cg at hl2;rw[uL] at hl2;have ae:=o_ hl2.1;(have kH:∀c∈x.d,c.i.length<=2000/\c.g<=250:=λc hc=>o_ (uX.1 hl2.2 c hc));have aa:∀c∈x.d,DM x c=true:=(by have hfm:=h2;exact fM);exact⟨⟨by omega,λc hc=>⟨by have:=(kH c hc).1;omega,λi hi ad h1=>YN h2 hc hi ad h1⟩⟩,λc hc=>LO (kH c hc) (aa c hc)⟩
theorem Gi.good14 {x:AI} (h:Gi x 0):Ta x/\∀c∈x.d,Dw c:=by
 rcases h with ⟨_,h⟩|⟨_,_,h⟩|⟨h1,h2,_⟩
 .cases h
 .cases h
 .exact ky h1 h2
def oN (w0:W_) (H:Hp) (L:List (Nat×Obj)) (e:E_) (w':W_):Prop:=∃H' er,Bl H H'/\e= .returned (Y I er)/\AC w0 H' L w'
theorem PJ (x:AI) (vc vk vr vd:V_) (aa:HJ x) (m:AC w0 H L w) (hx:Bz H x vc vk vr vd):K_ yA 82 #[.agg #[vc,vk,vr,vd]] w (oN w0 H L):=by
 have HX:=A5 hx;obtain⟨p1,q1,p2,q2,p3,q3,p4,q4,rfl,rfl,rfl,rfl,l1,l2,l3,l4⟩:=hx.shapes;clear hx;have m1:=m.alloc (IB x p1 q1 p2 q2 p3 q3 p4 q4);have es:=m1.e1;generalize bc:w.heap.size=ib at*;go_enter func82,ntmps82;go_wp2_with (go_at_call 48;refine(Iv x _ _ _ _ aa m1 HX.out).mono ?_;rintro e w2 ⟨H1,er,lQ,rfl,aq,m2⟩;have ar:=A5 aq;have HLE:=A5 lQ;clear aq lQ es m1;have es:=m2.e1)
 .go_ret;exact⟨H1,er,HLE.out,Z,m2.drop⟩
 have ak:er=0:=(by simpa using (by assumption:(er !=0)=G));have ag:=(show Gi x 0 from ak▸ar.out).good14;have ah:=A5 ag.1;have ay:=A5 ag.2;have ae:=A5 (HX.out.mono HLE.out);clear ag ak ar;refine(Cd x _ _ _ _ _ m2 ae.out).mono ?_;rintro e w3 ⟨rfl,m3⟩;generalize aj:Cn x _=q;have af:q<(x.d.length:Int):=aj▸Rl x _;clear aj es m2;have es:=m3.e1;by_cases hneg:q<0
 .go_wp2_with fail;go_ret;exact⟨H1,9,HLE.out,Z,m3.drop⟩
 obtain⟨k,rfl⟩:∃k:Nat,q=(k:Int):=⟨q.toNat,by omega⟩;have hk:k<x.d.length:=A0;obtain⟨pb,po,si,rfl,a1,a2,a3,a4,ad,-⟩:=ae.out.d.getCode (yB hk);generalize x.d[k]=c at*;have a2:=a2.cell m3;clear a1 a3 a4 ad;go_wp2_with fail
 .go_ret;exact⟨H1,9,HLE.out,Z,m3.drop⟩
 clear es a2 af hk;generalize (c.params !=0)=bp at*;have aw:0<=(k:Int)/\bp=false:=(by assumption);obtain⟨-,rfl⟩:=aw;have ao:T ((k:Int)<0)=false:=f_ A0;simp only[ao,Bool.or_false,Bool.false_or];clear ao hneg;(go_loopw [5] (λv5 wr=>∃(i:Nat),i<=x.d.length/\v5= Y I i/\AC w0 H1 ((ib,IB x p1 q1 p2 q2 p3 q3 (O ⟨pb,po,X⟩) q4)::L) wr) (λv5 _=>x.d.length-(intOf v5).toNat));case atStart=>exact⟨0,uA _,Z,m3⟩
 case round=>
  clear m3;obtain⟨i,hi,rfl,mi⟩:=hrel;have es:=mi.e1;by_cases eP:i<x.d.length
  .have ll:(i:Int)<x.d.length:=A0;obtain⟨ba,az,si,au,a1,a2,a3,a4,ad⟩:=ae.out.d.getCode (yB eP);cases au;have HC:=A5 (ay.out _ (uC eP));generalize x.d[i]=d at*;have a1:=a1.cell mi;have a2:=a2.cell mi;have a3:=a3.cell mi;have a4:=a4.cell mi;have ax:=A5 ad.1;obtain⟨sb,sk,rfl⟩:=ad.1.shape;clear ad;go_wp2_with (go_at_call 123;refine(ZY d (V sb d.i.length sk) HC.out mi ax.out).mono ?_;rintro e w4 ⟨b,rfl,m4⟩;clear es a1 a2 a3 a4 mi;cases b)
   .go_roundw;(case rel=>exact⟨i+1,by omega,by go_num,m4⟩);case measure=>exact BW
   .go_ret;exact⟨H1,5,HLE.out,Z,m4.drop⟩
  .have hge:¬(i:Int)<x.d.length:=A0;go_wp2_with (first|(go_at_call 124;refine(RM x _ _ _ _ ah.out mi ae.out).mono ?_;rintro e w4 ⟨b,rfl,m4⟩;clear es mi;have es:=m4.e1;cases b)|(go_at_call 81;refine(SS x _ _ _ _ ah.out m4 ae.out).mono ?_;rintro e w5 ⟨ob,zs,rfl,ai,m5⟩;have HZ:=A5 ai;clear es m4 ai))
   .go_ret;exact⟨H1,5,HLE.out,Z,m4.drop⟩
   have bb:(x.d.length:Int)<=4096:=(by have:=ah.out.1;omega);(go_loopw [7] (λv7 wr=>∃(i:Nat),i<=x.d.length/\v7= Y I i/\AC w0 H1 ((ob,rI zs)::(ib,IB x p1 q1 p2 q2 p3 q3 (O ⟨pb,po,X⟩) q4)::L) wr) (λv7 _=>x.d.length-(intOf v7).toNat));case atStart=>exact⟨0,uA _,Z,m5⟩
   case round=>
    clear m5;obtain⟨j,hj,rfl,mj⟩:=hrel;have es:=mj.e1;by_cases hlt2:j<x.d.length
    .have al:(j:Int)<x.d.length:=A0;have hza:=ZH (zs:=zs) (a:=j) Sb;generalize zs[j]'Sb=u at*;by_cases hgt:(60000:Int)<u
     .go_wp2_with fail;go_ret;exact⟨H1,5,HLE.out,Z,mj.drop.drop⟩
     .go_wp2_with fail;clear es hza;go_roundw;(case rel=>exact⟨j+1,by omega,by go_num,mj⟩);case measure=>exact BW
    .have av:¬(j:Int)<x.d.length:=A0;go_wp2_with fail;go_ret;exact⟨H1,0,HLE.out,Z,mj.drop.drop⟩



theorem VX (y:AF) (sv:V_) (s:ByteArray) (sb:Nat) (L1:List (Nat×Obj)) (m:AC w0 H (L1++((sb,C #[U s] 9)::L)) w) (aa:∃b n c,sv= V b n c):K_ yA 105 #[.agg #[U y.name,Y I y.params,Y I y.g,sv],M (O ⟨sb,0,X⟩)] w (Bv w0 H (L1++((sb,C #[U s] 9)::L)) (N (y.name.toList==s.toList))):=by obtain⟨qb,qn,qc,rfl⟩:=aa;have m0:=(m.perm Ah:AC _ _ ((sb,C #[U s] 9)::(L1++L)) _);have m1:=m0.alloc (C #[U y.name,Y I y.params,Y I y.g,(V qb qn qc)] 111);have es:=m1.e0;generalize ad:w.heap.size=xb at*;go_enter func105,ntmps105;go_wp2_with fail;go_ret;exact⟨Z,AC.perm (L:=(sb,C #[U s] 9)::(L1++L)) m1.drop (Ah:((sb,C #[U s] 9)::(L1++L)).Perm (L1++((sb,C #[U s] 9)::L)))⟩
def nP (x:AI) (s:ByteArray) (H:Hp) (v:V_) (is:Bool):Prop:=
 ∃(o:Option AF) (nm:ByteArray) (p r:Int) (b:Option Addr) (n c:Nat),x.d.find? (λy=>y.name.toList==s.toList)=o/\v= .agg #[U nm,Y I p,Y I r,V b n c]/\is=o.isSome/\∀y,o=O y->nm=y.name/\p=y.params/\r=y.g/\AX C1 H (V b n c) y.i/\y.fit
def kl (x:AI) (s:ByteArray) (w0:W_) (H:Hp) (L:List (Nat×Obj)) (e:E_) (w':W_):Prop:=
 ∃v is,e= .returned (.tuple #[v,N is])/\nP x s H v is/\AC w0 H L w'
theorem aZ (p:α->Bool) (xs:List α):(DG p xs= -1/\xs.find? p=X)\/∃k,∃h:k<xs.length,DG p xs=(k:Int)/\xs.find? p=O xs[k]:=by exact lw
theorem Wg (x:AI) (vc vk vr vd:V_) (s:ByteArray) (m:AC w0 H L w) (hx:Bz H x vc vk vr vd):K_ yA 61 #[.agg #[vc,vk,vr,vd],U s] w (kl x s w0 H L):=by
 have HX:=A5 hx;obtain⟨b1,c1,b2,c2,b3,c3,b4,c4,rfl,rfl,rfl,rfl,l1,l2,l3,l4⟩:=hx.shapes;clear hx;have ma:=m.alloc (IB x b1 c1 b2 c2 b3 c3 b4 c4);generalize ag:w.heap.size=ia at*;have mb:=ma.alloc (C #[U s] 9);generalize af:(w.alloc (IB x b1 c1 b2 c2 b3 c3 b4 c4)).heap.size=ib at*;have mc:=mb.alloc (C #[U ⟨#[]⟩,Y I 0,Y I 0,V X 0 0] 111);generalize ae:((w.alloc (IB x b1 c1 b2 c2 b3 c3 b4 c4)).alloc (C #[U s] 9)).heap.size=ic at*;have es:=mc.e1;(have aa:∀(fn:Fn) (first cap:Array V_) (w:W_),(Instr.makeFunc fn first cap).run yA w= .ok (.func fn first cap) w:=λ_ _ _ _=>rfl);go_enter func61,ntmps61;go_wp2_with fail;refine(WG _ x.d (λy=>y.name.toList==s.toList) 105 #[M (O ⟨ib,0,X⟩)] (λargs w=>(enters_of (P:=yA) func105 A7 Z) args w) (λy hy sv L1 w1 hr m1=>Calls.mono ((VX y sv s ib ((ic,C #[U ⟨#[]⟩,Y I 0,Y I 0,V X 0 0] 111)::L1) ((m1.perm Ah:AC _ _ (((ic,C #[U ⟨#[]⟩,Y I 0,Y I 0,V X 0 0] 111)::L1)++((ib,C #[U s] 9)::(ia,IB x b1 c1 b2 c2 b3 c3 b4 c4)::L)) _)) (let ⟨b,c,e,_⟩:=hr.1;⟨b,_,c,e⟩))) (λe w2 h=>⟨h.1,(h.2.perm Ah:AC _ _ (L1++((ic,C #[U ⟨#[]⟩,Y I 0,Y I 0,V X 0 0] 111)::(ib,C #[U s] 9)::(ia,IB x b1 c1 b2 c2 b3 c3 b4 c4)::L)) _)⟩)) mc HX.out.d).mono ?_;rintro e w2 ⟨rfl,m2⟩;clear es;have es:=m2.e2;have ns:=m2.n9;rcases aZ (λy:AF=>y.name.toList==s.toList) x.d with ⟨h1,h2⟩|⟨k,hk,h1,h2⟩
 .rw[h1];have HF:=A5 h2;clear h1 h2;go_wp2_with fail;refine b_ (v:= .tuple #[.agg #[U ⟨#[]⟩,Y I 0,Y I 0,V X 0 0],N G]) (by simp[results,results61,go_sem,es,ns];try rfl) Z ?_;refine⟨_,G,Z,⟨X,_,_,_,_,_,_,HF.out,Z,Z,λy h=>CZ⟩,AC.drop (AC.drop (AC.drop ((((m2.set (i:=0) (v:= U ⟨#[]⟩) .head).set (i:=1) (v:= Y I 0) .head).set (i:=2) (v:= Y I 0) .head).set (i:=3) (v:= V X 0 0) .head)))⟩
 .rw[h1];have HF:=A5 h2;clear h1 h2;have ad:(k:Int)<x.d.length:=A0;obtain⟨kA,off,sv,rfl,q1,q2,q3,q4,q5,q6⟩:=HX.out.d.getCode (yB hk);obtain⟨qb,qc,rfl,_⟩:=q5.shape2;have Q5:=A5 q5;have Q6:=A5 q6;clear q5 q6;generalize hy:x.d[k]=y at*;have q1:=q1.cell m2;have q2:=q2.cell m2;have q3:=q3.cell m2;have q4:=q4.cell m2;go_wp2_with fail;refine b_ (v:= .tuple #[.agg #[U y.name,Y I y.params,Y I y.g,V qb y.i.length qc],N B]) (by simp[results,results61,go_sem,es,ns];try rfl) Z ?_;refine⟨_,B,Z,⟨O y,_,_,_,_,_,_,HF.out,Z,Z,λz h=>(by cases h;exact⟨Z,Z,Z,Q5.out,Q6.out⟩)⟩,AC.drop (AC.drop (AC.drop ((((m2.set (i:=0) (v:= U y.name) .head).set (i:=1) (v:= Y I y.params) .head).set (i:=2) (v:= Y I y.g) .head).set (i:=3) (v:= V qb y.i.length qc) .head)))⟩
abbrev FZ (a1 a2 a3 a4 b1 b2 b3 b4:V_):Obj:= C #[a1,a2,a3,a4,b1,b2,b3,b4] 33
def IT (c d:AK):Bool:=c.name.toList==d.name.toList&&T (c.f=d.f)
def Fy (x:AI) (c:AK):Bool:=x.k.any (IT c)
def Ic (x:AI) (c:Aj):Bool:=x.c.any (DH c)
def Hv (x:AI) (c:AF):Bool:=match x.d.find? (λy=>y.name.toList==c.name.toList) with
 |none=>B
 |some d=>d.params==c.params
theorem VS (c d:AK) (sc sd:V_) (cb:Nat) (L1:List (Nat×Obj)) (m:AC w0 H (L1++((cb,C #[U c.name,sc] 123)::L)) w) (h1:AX Aq H sc c.f) (h2:AX Aq H sd d.f):K_ yA 126 #[.agg #[U d.name,sd],M (O ⟨cb,0,X⟩)] w (Bv w0 H (L1++((cb,C #[U c.name,sc] 123)::L)) (N (IT c d))):=by
 have H1:=A5 h1;have H2:=A5 h2;obtain⟨b1,c1,rfl,_⟩:=h1.shape2;obtain⟨b2,c2,rfl,_⟩:=h2.shape2;clear h1 h2;have m0:=(m.perm Ah:AC _ _ ((cb,C #[U c.name,V b1 c.f.length c1] 123)::(L1++L)) _);have m1:=m0.alloc (C #[U d.name,V b2 d.f.length c2] 123);have es:=m1.e0;generalize ae:w.heap.size=xb at*;have HE:Hid (IT c d=(c.name.toList==d.name.toList&&T (c.f=d.f))):=A5 Z;(have aa:∀w',AC w0 H ((cb,C #[U c.name,V b1 c.f.length c1] 123)::(L1++L)) w'->AC w0 H (L1++((cb,C #[U c.name,V b1 c.f.length c1] 123)::L)) w':=λw' m=>(m.perm Ah:AC _ _ (L1++((cb,C #[U c.name,V b1 c.f.length c1] 123)::L)) _));have HB:=A5 aa;clear aa m m0;go_enter func126,ntmps126;cases hq:(c.name.toList==d.name.toList)
 .have HQ:=A5 hq;go_wp2_with fail;go_ret;exact⟨A8 (by rw[HE.out,HQ.out];rfl),HB.out _ m1.drop⟩
 .have HQ:=A5 hq;go_wp2_with fail;refine(QK _ _ c.f d.f m1 H1.out H2.out).mono ?_;rintro e w2 ⟨rfl,m2⟩;generalize ad:T (c.f=d.f)=dd at*;clear ad;go_wp2_with fail;go_ret;exact⟨A8 (by rw[HE.out,HQ.out];rfl),HB.out _ m2.drop⟩
theorem Y3 (x y:AI) (a1 a2 a3 a4 vc vk vr vd:V_) (c:AK) (sc:V_) (xb:Nat) (L1:List (Nat×Obj)) (m:AC w0 H (L1++((xb,FZ a1 a2 a3 a4 vc vk vr vd)::L)) w) (hx:Bz H x a1 a2 a3 a4) (hy:Bz H y vc vk vr vd) (h1:AX Aq H sc c.f):K_ yA 125 #[.agg #[U c.name,sc],M (O ⟨xb,0,X⟩)] w (Bv w0 H (L1++((xb,FZ a1 a2 a3 a4 vc vk vr vd)::L)) (N (Fy y c))):=by have H1:=A5 h1;have HY:=A5 hy;obtain⟨sb,sk,rfl,_⟩:=h1.shape2;obtain⟨p1,q1,p2,q2,p3,q3,p4,q4,rfl,rfl,rfl,rfl,_⟩:=hx.shapes;obtain⟨p5,q5,p6,q6,p7,q7,p8,q8,rfl,rfl,rfl,rfl,_⟩:=hy.shapes;clear h1 hy hx;generalize x.k.length=n1 at*;generalize x.c.length=n2 at*;generalize x.r.length=n3 at*;generalize x.d.length=n4 at*;have m0:=(m.perm Ah:AC _ _ ((xb,FZ (V p1 n1 q1) (V p2 n2 q2) (V p3 n3 q3) (V p4 n4 q4) (V p5 y.k.length q5) (V p6 y.c.length q6) (V p7 y.r.length q7) (V p8 y.d.length q8))::(L1++L)) _);have m1:=m0.alloc (C #[U c.name,V sb c.f.length sk] 123);have HB:=A5 (show ∀w',AC w0 H ((xb,FZ (V p1 n1 q1) (V p2 n2 q2) (V p3 n3 q3) (V p4 n4 q4) (V p5 y.k.length q5) (V p6 y.c.length q6) (V p7 y.r.length q7) (V p8 y.d.length q8))::(L1++L)) w'->AC w0 H (L1++((xb,FZ (V p1 n1 q1) (V p2 n2 q2) (V p3 n3 q3) (V p4 n4 q4) (V p5 y.k.length q5) (V p6 y.c.length q6) (V p7 y.r.length q7) (V p8 y.d.length q8))::L)) w' from λw' m=>(m.perm Ah:AC _ _ (L1++((xb,FZ (V p1 n1 q1) (V p2 n2 q2) (V p3 n3 q3) (V p4 n4 q4) (V p5 y.k.length q5) (V p6 y.c.length q6) (V p7 y.r.length q7) (V p8 y.d.length q8))::L)) _));clear m m0;have es:=m1.e19;generalize ad:w.heap.size=cb at*;(have aa:∀(fn:Fn) (first cap:Array V_) (w:W_),(Instr.makeFunc fn first cap).run yA w= .ok (.func fn first cap) w:=λ_ _ _ _=>rfl);go_enter func125,ntmps125;go_wp2_with fail;refine(Rq _ y.k (IT c) 126 #[M (O ⟨cb,0,X⟩)] (λargs w=>(enters_of (P:=yA) func126 A7 Z) args w) (λd hd sd L2 w1 hr m2=>VS c d _ sd cb L2 m2 H1.out hr) m1 HY.out.c).mono ?_;rintro e w2 ⟨rfl,m2⟩;have HQ:Hid (Fy y c=y.k.any (IT c)):=A5 Z;generalize y.k.any (IT c)=q at*;go_wp2_with fail;go_ret;exact⟨A8 HQ.out.symm,HB.out _ m2.drop⟩
theorem WW (x y:AI) (a1 a2 a3 a4 vc vk vr vd:V_) (c:Aj) (xb:Nat) (L1:List (Nat×Obj)) (m:AC w0 H (L1++((xb,FZ a1 a2 a3 a4 vc vk vr vd)::L)) w) (hx:Bz H x a1 a2 a3 a4) (hy:Bz H y vc vk vr vd):K_ yA 128 #[.agg #[U c.kind,U c.name,Y I c.parts],M (O ⟨xb,0,X⟩)] w (Bv w0 H (L1++((xb,FZ a1 a2 a3 a4 vc vk vr vd)::L)) (N (Ic y c))):=by have HY:=A5 hy;obtain⟨p1,q1,p2,q2,p3,q3,p4,q4,rfl,rfl,rfl,rfl,_⟩:=hx.shapes;obtain⟨p5,q5,p6,q6,p7,q7,p8,q8,rfl,rfl,rfl,rfl,_⟩:=hy.shapes;clear hy hx;generalize x.k.length=n1 at*;generalize x.c.length=n2 at*;generalize x.r.length=n3 at*;generalize x.d.length=n4 at*;have m0:=(m.perm Ah:AC _ _ ((xb,FZ (V p1 n1 q1) (V p2 n2 q2) (V p3 n3 q3) (V p4 n4 q4) (V p5 y.k.length q5) (V p6 y.c.length q6) (V p7 y.r.length q7) (V p8 y.d.length q8))::(L1++L)) _);have HB:=A5 (show ∀w',AC w0 H ((xb,FZ (V p1 n1 q1) (V p2 n2 q2) (V p3 n3 q3) (V p4 n4 q4) (V p5 y.k.length q5) (V p6 y.c.length q6) (V p7 y.r.length q7) (V p8 y.d.length q8))::(L1++L)) w'->AC w0 H (L1++((xb,FZ (V p1 n1 q1) (V p2 n2 q2) (V p3 n3 q3) (V p4 n4 q4) (V p5 y.k.length q5) (V p6 y.c.length q6) (V p7 y.r.length q7) (V p8 y.d.length q8))::L)) w' from λw' m=>(m.perm Ah:AC _ _ (L1++((xb,FZ (V p1 n1 q1) (V p2 n2 q2) (V p3 n3 q3) (V p4 n4 q4) (V p5 y.k.length q5) (V p6 y.c.length q6) (V p7 y.r.length q7) (V p8 y.d.length q8))::L)) _));have m1:=m0.alloc (C #[U c.kind,U c.name,Y I c.parts] 148);clear m m0;have es:=m1.e19;generalize aa:w.heap.size=cb at*;go_enter func128,ntmps128;go_wp2_with fail;refine(aX _ y.c c m1 HY.out.k).mono ?_;rintro e w2 ⟨rfl,m2⟩;have HQ:Hid (Ic y c=y.c.any (DH c)):=A5 Z;generalize y.c.any (DH c)=q at*;go_wp2_with fail;go_ret;exact⟨A8 HQ.out.symm,HB.out _ m2.drop⟩
theorem be (x:AI) (c:AF) (H:Hp) (v:V_) (is:Bool) (h:nP x c.name H v is):∃nm p r b n k,v= .agg #[U nm,Y I p,Y I r,V b n k]/\Hv x c=(if is then p==c.params else B):=by
 obtain⟨o,nm,p,r,b,n,k,ho,rfl,rfl,h⟩:=h;refine⟨nm,p,r,b,n,k,Z,?_⟩;unfold Hv;rw[ho]
 cases o with
 |none=>rfl
 |some d=>obtain⟨rfl,rfl,rfl,_⟩:=h d Z;rfl
theorem XB (x y:AI) (a1 a2 a3 a4 vc vk vr vd:V_) (c:AF) (sv:V_) (xb:Nat) (L1:List (Nat×Obj)) (m:AC w0 H (L1++((xb,FZ a1 a2 a3 a4 vc vk vr vd)::L)) w) (hx:Bz H x a1 a2 a3 a4) (hy:Bz H y vc vk vr vd) (ae:∃b n k,sv= V b n k):K_ yA 130 #[.agg #[U c.name,Y I c.params,Y I c.g,sv],M (O ⟨xb,0,X⟩)] w (Bv w0 H (L1++((xb,FZ a1 a2 a3 a4 vc vk vr vd)::L)) (N (Hv y c))):=by
 obtain⟨sb,sn,sk,rfl⟩:=ae;have HY:=A5 hy;obtain⟨p1,q1,p2,q2,p3,q3,p4,q4,rfl,rfl,rfl,rfl,_⟩:=hx.shapes;obtain⟨p5,q5,p6,q6,p7,q7,p8,q8,rfl,rfl,rfl,rfl,_⟩:=hy.shapes;clear hy hx;generalize x.k.length=n1 at*;generalize x.c.length=n2 at*;generalize x.r.length=n3 at*;generalize x.d.length=n4 at*;have m0:=(m.perm Ah:AC _ _ ((xb,FZ (V p1 n1 q1) (V p2 n2 q2) (V p3 n3 q3) (V p4 n4 q4) (V p5 y.k.length q5) (V p6 y.c.length q6) (V p7 y.r.length q7) (V p8 y.d.length q8))::(L1++L)) _);have HB:=A5 (show ∀w',AC w0 H ((xb,FZ (V p1 n1 q1) (V p2 n2 q2) (V p3 n3 q3) (V p4 n4 q4) (V p5 y.k.length q5) (V p6 y.c.length q6) (V p7 y.r.length q7) (V p8 y.d.length q8))::(L1++L)) w'->AC w0 H (L1++((xb,FZ (V p1 n1 q1) (V p2 n2 q2) (V p3 n3 q3) (V p4 n4 q4) (V p5 y.k.length q5) (V p6 y.c.length q6) (V p7 y.r.length q7) (V p8 y.d.length q8))::L)) w' from λw' m=>(m.perm Ah:AC _ _ (L1++((xb,FZ (V p1 n1 q1) (V p2 n2 q2) (V p3 n3 q3) (V p4 n4 q4) (V p5 y.k.length q5) (V p6 y.c.length q6) (V p7 y.r.length q7) (V p8 y.d.length q8))::L)) _));have m1:=m0.alloc (C #[U c.name,Y I c.params,Y I c.g,V sb sn sk] 111);generalize af:w.heap.size=cb at*;have ad:=m1.alloc (C #[U ⟨#[]⟩,Y I 0,Y I 0,V X 0 0] 111);clear m m0;have es:=m1.e19;go_enter func130,ntmps130;go_wp2_with fail;refine(Wg y _ _ _ _ c.name m1 HY.out).mono ?_;rintro e w2 ⟨v,is,rfl,hcf,m2⟩;obtain⟨nm,p,r,ob,on,ok,rfl,aa⟩:=be y c H v is hcf;have HC:=A5 aa;clear aa hcf es ad;have m3:=m2.alloc (C #[U nm,Y I p,Y I r,V ob on ok] 111);have es:=m2.e2;cases is
 .go_wp2_with fail;go_ret;exact⟨A8 HC.out.symm,HB.out _ m3.drop.drop⟩
 .go_wp2_with fail;go_ret;exact⟨A8 HC.out.symm,HB.out _ m3.drop.drop⟩
theorem LJ (xs:List ByteArray):(Cz xs).Perm xs:=by unfold Cz;have h:=((List.mergeSort_perm (xs.map λs=>s.data.toList) λx y=>T (x<=y)).map λl=>(⟨l.toArray⟩:ByteArray));have e:(xs.map λs=>s.data.toList).map (λl=>(⟨l.toArray⟩:ByteArray))=xs:=(by rw[uY];(conv=>rhs;rw[<-List.map_id xs]);exact List.map_congr_left λs _=>by simp);rw[e] at h;exact h
theorem SF {u:V_} {xs:List ByteArray} {Lr:List (Nat×Obj)} (h:Ba 9 1 u xs.length ((Cz xs).map U) Lr) (hf:∀s∈xs,s.size<=maxLen):BT u (Cz xs) Lr:=
 ⟨by rw[Il];exact h,λs hs=>hf s ((LJ xs).mem_iff.1 hs)⟩
def Lu (x y:AI) (cs:List AK) (rs:List ByteArray):Bool:=cs.all (Fy y)&&(x.c.all (Ic y)&&(x.d.all (Hv y)&&T (Cz rs=Cz y.r)))
theorem Zs (x y:AI) (cs:List AK) (rs:List ByteArray) (b:Nat) (lc lr a1 a2 a3 a4 vc vk vr vd:V_) (m:AC w0 H ((b,BY rH lc lr)::L) w) (hc:AX B2 H lc cs) (hr:AX Aq H lr rs) (hx:Bz H x a1 a2 a3 a4) (hy:Bz H y vc vk vr vd) (hn:rs.length<=100000/\y.r.length<=100000) (ag:(∀s∈rs,s.size<=maxLen)/\∀s∈y.r,s.size<=maxLen):K_ yA 84 #[M (O ⟨b,0,X⟩),.agg #[a1,a2,a3,a4,vc,vk,vr,vd]] w (Bv w0 H ((b,BY rH lc lr)::L) (N (Lu x y cs rs))):=by
 have HN:=A5 hn;have ah:=A5 ag;have HX:=A5 hx;have HY:=A5 hy;have HC:=A5 hc;have HR:=A5 hr;obtain⟨cb,cc,rfl,_⟩:=hc.shape2;obtain⟨rb,rc,rfl,_⟩:=hr.shape2;obtain⟨p1,q1,p2,q2,p3,q3,p4,q4,rfl,rfl,rfl,rfl,_⟩:=hx.shapes;obtain⟨p5,q5,p6,q6,p7,q7,p8,q8,rfl,rfl,rfl,rfl,_⟩:=hy.shapes;clear hn ag hx hy hc hr;have m1:=m.alloc (FZ (V p1 x.k.length q1) (V p2 x.c.length q2) (V p3 x.r.length q3) (V p4 x.d.length q4) (V p5 y.k.length q5) (V p6 y.c.length q6) (V p7 y.r.length q7) (V p8 y.d.length q8));(have ao:∀(fn:Fn) (first cap:Array V_) (w:W_),(Instr.makeFunc fn first cap).run yA w= .ok (.func fn first cap) w:=λ_ _ _ _=>rfl);generalize al:w.heap.size=xb at*;have es:=m1.eqs;simp only[BS,FZ,BY] at es;go_enter func84,ntmps84;go_wp2_with fail;clear es;refine Da (F:=λw'=>Code.wp _ _ _ _ w') m1 ?_;clear m1 m;intro wr mr;refine B1 mr [VK (M (O ⟨b,0,X⟩)),VK (M (O ⟨b,0,X⟩)),VK (M (O ⟨b,1,X⟩)),VK (V rb rs.length rc),⟨[4],λzb=>(.func (.func 174) #[] #[M (O ⟨(zb.getD 0 Ax).b,0,X⟩)]),O ([],[],λzb d=>d.bl=[(d.b,C #[(V rb rs.length rc)] 24)]),G⟩,⟨[5],λzb=>(zb.getD 0 Ax).v,O ([4],[],λzb d=>Ba 9 1 d.v (rs).length ((Cz (rs)).map U) d.bl),G⟩,VK (M (O ⟨xb,4,X⟩)),VK (M (O ⟨xb,6,X⟩)),VK (V p7 y.r.length q7),⟨[9],λzb=>(.func (.func 174) #[] #[M (O ⟨(zb.getD 0 Ax).b,0,X⟩)]),O ([],[],λzb d=>d.bl=[(d.b,C #[(V p7 y.r.length q7)] 24)]),G⟩,⟨[10],λzb=>(zb.getD 0 Ax).v,O ([9],[],λzb d=>Ba 9 1 d.v (y.r).length ((Cz (y.r)).map U) d.bl),G⟩,⟨[5],λzb=>(zb.getD 0 Ax).v,X,G⟩,⟨[10],λzb=>(zb.getD 0 Ax).v,X,G⟩] (nf 5++[B]++nf 4++[B]++nf 2) ?_ ?_
 .refine⟨AA,AA,AA,iQ,?_,?_,AA,AA,iQ,?_,?_,?_,?_,trivial⟩
  ·(refine Al.gen _ Z Z Z λbs w L2 hb m=>?_);simp only[uN,uB] at m;refine BU.ofCall (f:=132) (args:=#[(V rb rs.length rc)]) Br ?_;refine(Q8 _ _ _ m).mono ?_;rintro e w2 ⟨bx,rfl,m2⟩;exact⟨_,Z,⟨bx,0,undef,[(bx,C #[(V rb rs.length rc)] 24)]⟩,Z,Z,m2⟩
  ·(refine Al.gen _ Z Z Z λbs w L2 hb m=>?_);have h4:(bs 4).bl=[((bs 4).b,C #[(V rb rs.length rc)] 24)]:=hb.at 4 A7 Z Z;simp only[ur,uN,ut] at m;rw[h4] at m;simp only[uD,uB] at m;refine BU.ofCall (f:=131) (args:=#[(.func (.func 174) #[] #[M (O ⟨(bs 4).b,0,X⟩)])]) Br ?_;refine(Q0 (rs) HN.out.1 _ (bs 4).b m HR.out).mono ?_;exact dL
  ·(refine Al.gen _ Z Z Z λbs w L2 hb m=>?_);simp only[uN,uB] at m;refine BU.ofCall (f:=132) (args:=#[(V p7 y.r.length q7)]) Br ?_;refine(Q8 _ _ _ m).mono ?_;rintro e w2 ⟨bx,rfl,m2⟩;exact⟨_,Z,⟨bx,0,undef,[(bx,C #[(V p7 y.r.length q7)] 24)]⟩,Z,Z,m2⟩
  ·(refine Al.gen _ Z Z Z λbs w L2 hb m=>?_);have h9:(bs 9).bl=[((bs 9).b,C #[(V p7 y.r.length q7)] 24)]:=hb.at 9 A7 Z Z;simp only[ur,uN,ut] at m;rw[h9] at m;simp only[uD,uB] at m;refine BU.ofCall (f:=131) (args:=#[(.func (.func 174) #[] #[M (O ⟨(bs 9).b,0,X⟩)])]) Br ?_;refine(Q0 (y.r) HN.out.2 _ (bs 9).b m HY.out.r).mono ?_;exact dL
  ·(refine Al.val Z Z Z λbs w hb m=>?_);show(x_ _ _).run _ _= .ok (.value ((bs 5).v)) w;exact Cp
  ·(refine Al.val Z Z Z λbs w hb m=>?_);show(x_ _ _).run _ _= .ok (.value ((bs 10).v)) w;exact Cp
 .intro bs wd hb md;replace md:=AC.like2 mr (bs 5).bl (bs 10).bl md;have ak:(bs 4).bl=[((bs 4).b,C #[(V rb rs.length rc)] 24)]:=hb 4 _ _ Z Z;have ae:Ba 9 1 (bs 5).v (rs).length ((Cz (rs)).map U) (bs 5).bl:=hb 5 _ _ Z Z;have aj:(bs 9).bl=[((bs 9).b,C #[(V p7 y.r.length q7)] 24)]:=hb 9 _ _ Z Z;have aa:Ba 9 1 (bs 10).v (y.r).length ((Cz (y.r)).map U) (bs 10).bl:=hb 10 _ _ Z Z;(try simp only[uD,uB] at md);simp only[uF,uG,Nat.reduceAdd,uH,uI,uJ];clear hb mr;have o5:=SF ae ah.out.1;have af:=SF aa ah.out.2;generalize (bs 5).v=v5 at*;generalize (bs 10).v=v10 at*;generalize (bs 5).bl=L5 at*;generalize (bs 10).bl=au at*;obtain⟨H1,n1,g1,s5⟩:=o5.freeze md;obtain⟨H2,n2,g2,ad⟩:=af.freeze n1;have S5:=A5 (s5.mono g2);have ai:=A5 ad;obtain⟨b5,c5,rfl,_⟩:=s5.shape2;obtain⟨ar,aq,rfl,_⟩:=ad.shape2;have Gq:=A5 (g1.trans g2);clear md n1 ae aa o5 af s5 ad g1 g2;have es:=n2.eqs;simp only[BS,FZ,BY] at es;go_wp2_with fail;have HE:Hid (Lu x y cs rs=(cs.all (Fy y)&&(x.c.all (Ic y)&&(x.d.all (Hv y)&&T (Cz rs=Cz y.r))))):=A5 Z;refine(YO _ cs (Fy y) 125 #[M (O ⟨xb,0,X⟩)] (λargs w=>(enters_of (P:=yA) func125 A7 Z) args w) (λc hc sc L2 w1 hr m2=>Y3 x y _ _ _ _ _ _ _ _ c sc xb L2 m2 (HX.out.mono Gq.out) (HY.out.mono Gq.out) hr) n2 (HC.out.mono Gq.out)).mono ?_;rintro e w2 ⟨rfl,m2⟩;generalize cs.all (Fy y)=t1 at*;clear es n2;have es:=m2.e2;cases t1
  .go_wp2_with fail;go_ret;exact⟨A8 HE.out.symm,m2.drop.weaken Gq.out⟩
  go_wp2_with fail;refine(Wz _ x.c (Ic y) 128 #[M (O ⟨xb,0,X⟩)] (λargs w=>(enters_of (P:=yA) func128 A7 Z) args w) (λc hc L2 w1 hr m2=>WW x y _ _ _ _ _ _ _ _ c xb L2 m2 (HX.out.mono Gq.out) (HY.out.mono Gq.out)) m2 (HX.out.mono Gq.out).k).mono ?_;rintro e w3 ⟨rfl,m3⟩;generalize x.c.all (Ic y)=t2 at*;clear es m2;have es:=m3.e2;cases t2
  .go_wp2_with fail;go_ret;exact⟨A8 HE.out.symm,m3.drop.weaken Gq.out⟩
  go_wp2_with fail;refine(Y4 _ x.d (Hv y) 130 #[M (O ⟨xb,0,X⟩)] (λargs w=>(enters_of (P:=yA) func130 A7 Z) args w) (λc hc sc L2 w1 hr m2=>XB x y _ _ _ _ _ _ _ _ c sc xb L2 m2 (HX.out.mono Gq.out) (HY.out.mono Gq.out) (let ⟨b,c,e,_⟩:=hr.1;⟨b,_,c,e⟩)) m3 (HX.out.mono Gq.out).d).mono ?_;rintro e w4 ⟨rfl,m4⟩;generalize x.d.all (Hv y)=t3 at*;clear es m3;cases t3
  .go_wp2_with fail;go_ret;exact⟨A8 HE.out.symm,m4.drop.weaken Gq.out⟩
  go_wp2_with fail;refine(QK _ _ (Cz rs) (Cz y.r) m4 S5.out ai.out).mono ?_;rintro e w5 ⟨rfl,m5⟩;generalize T (Cz rs=Cz y.r)=t4 at*;go_wp2_with fail;go_ret;exact⟨A8 HE.out.symm,m5.drop.weaken Gq.out⟩
