/- Part 8: PCX RegionI PNA PNB PPE PNC PND. -/
import Derived.Test.YtpjbcplpdjobjaaGreatN06
import Derived.Test.YtpjbcplpdjobjaaGreatN05
namespace Go.Proofs.YtpjbcplpdjobjaaGreat
set_option maxRecDepth 100000
set_option maxHeartbeats 0
set_option linter.unusedVariables false
set_option linter.unusedSimpArgs false
set_option linter.unusedSectionVars false
open Go Go.RowKit
open _root_.List renaming replicate→yA,range→uA,nil_append→uB,getElem?_replicate→uC,cons_append→uE,getD_eq_getElem?_getD→uF,getElem?_eq_getElem→uG,drop_succ_cons→uH,drop_zero→uI,getElem?_eq_none→uJ,length_set→uK,length_cons→uL,length_nil→uM,mem_map→uP,mem_range→uQ,getElem_mem→uR,getElem?_toArray→uT,length_replicate→uU,getElem?_set_self→uV,getElem?_set_ne→uW,setIfInBounds_toArray→uX,mem_singleton→uY,size_toArray→uZ,append_assoc→ud,take_succ_cons→uh,take_zero→ui,toList_toArray→uj,all_eq_true→um,getElem?_map→ur,getElem?_range→ut,getElem?_eq_some_iff→uu
open _root_.Go.Proofs.Tryz renaming prog→yB
open _root_.Int renaming ofNat→uD,ofNat_eq_natCast→un
open _root_.Option renaming getD_some→uN
open _root_.Nat renaming zero_mul→uO
open _root_.Array renaming replicate→uS
open _root_.Bool renaming eq_iff_iff→ul,false_or→uq
open _root_.Go.Proofs.Tryz
open Option renaming some→O,none→X
open Bool renaming true→B,false→G
open Decidable renaming decide→T
open _root_.Go renaming Value→V_,World→W_,Calls→K_,execOp→x_,Operand→O_,Program→P_,TypeId→T_,run_underlying→u_,bodyPost_ret→b_,Ending→E_
open _root_.Go.Value renaming slice→V,int→Y,pointer→M,string→U,bool→N
open _root_.Go.IntKind renaming i64→I
open _root_.Go.Obj renaming cells→C
variable {H:Hp} {L:List (Nat×Obj)} {n:Nat} {w w' w0:World}
def Ok (n:Nat) (bad:Nat->Prop) (b:Int):Prop:=(∃k:Nat,k<n/\bad k/\(∀j,j<k->¬bad j)/\b=(k:Int))\/((∀j,j<n->¬bad j)/\b= -1)
theorem QU.is {bad:Nat->Prop} {e:E_} {b:Int} (h:QU w0 H L n bad e w') (hb:Ok n bad b):e= .returned (Y I b)/\AC w0 H L w':=by
 refine⟨?_,h.1⟩;rcases h.2 with ⟨k,h1,h2,h3,rfl⟩|⟨h1,rfl⟩
 .rcases hb with ⟨k',g1,g2,g3,rfl⟩|⟨g1,rfl⟩
  .have:k=k':=by
    rcases Nat.lt_trichotomy k k' with h|h|h
    .exact a_ h2 (g3 k h)
    .exact h
    .exact a_ g2 (h3 k' h)
   rw[this]
  .exact a_ h2 (g1 k h1)
 .rcases hb with ⟨k',g1,g2,g3,rfl⟩|⟨g1,rfl⟩
  .exact a_ g2 (h1 k' g1)
  .rfl
def PI (w0:W_) (H:Hp) (L:List (Nat×Obj)) (c:AF) (e:E_) (w':W_):Prop:=
 ∃fb H' LF b ib ic ab sb mb rows ot tr,e= .returned (M (O ⟨fb,0,X⟩))/\Bl H H'/\AC w0 H' (LF++L) w'/\lk H' (LF++L) c ib ic ab sb mb fb rows ot tr/\JS c b/\Ok c.i.length (Xr c rows ot tr) b
theorem Tb {w0:W_} {H:Hp} {L:List (Nat×Obj)}:∀(L0:List (Nat×Obj)) {w:W_},AC w0 H (L0++L) w->AC w0 H L w
 |[],_,m=>m
 |_::L0,_,m=>Tb L0 m.drop
def NV (x:AI):Prop:=∀(c:AF) (sv:V_) (w0 w:W_) (H:Hp) (L:List (Nat×Obj)),c∈x.d->AC w0 H L w->AX C1 H sv c.i->c.fit->
 K_ yB 163 #[.agg #[U c.name,Y I c.params,Y I c.g,sv]] w (PI w0 H L c)
def pL (w0:W_) (H:Hp) (L:List (Nat×Obj)) (x:AI) (e:E_) (w':W_):Prop:=∃H' a b er,Bl H H'/\e= .returned (.tuple #[Y I a,Y I b,Y I er])/\Gi x er/\AC w0 H' L w'
theorem XE (x:AI) (vc vk vr vd:V_) (av:∀c∈x.d,∀i∈c.i,i.op<256) (ak:Cg x=B->DL x=B->NV x) (m:AC w0 H L w) (hx:Bz H x vc vk vr vd):K_ yB 111 #[.agg #[vc,vk,vr,vd]] w (pL w0 H L x):=by
 have HX:=A5 hx;obtain⟨b1,c1,b2,c2,b3,c3,b4,c4,rfl,rfl,rfl,rfl,l1,l2,l3,l4⟩:=hx.shapes;clear hx;have m1:=m.alloc (IB x b1 c1 b2 c2 b3 c3 b4 c4);have es:=m1.e1;generalize bg:w.heap.size=xb at*;go_enter func111,ntmps111;go_wp2_with fail;refine(WC x _ _ _ _ m1 HX.out).mono ?_;rintro e w2 ⟨rfl,m2⟩;rw[Zp];clear es m1;have es:=m2.e1;cases aa:Cg x
 .have ad:=A5 aa;clear aa;go_wp2_with fail;go_ret3;exact⟨H,0,0,5,Bl.refl _,Z,.inl ⟨ad.out,Z⟩,m2.drop⟩
 have ad:=A5 aa;have lg:x.k.length<=40/\x.c.length<=40/\x.r.length<=40/\x.d.length<=80:=(by unfold Cg at aa;rw[Bool.and_eq_true,decide_eq_true_eq] at aa;exact aa.1);clear aa;go_wp2_with fail;refine(Ww x _ _ _ _ A0 A0 A0 m2 HX.out).mono ?_;rintro e w3 ⟨fb,H3,rfl,ah,m3,aq⟩;clear es m2;have es:=m3.e1;go_wp2_with fail;refine(UY x fb A0 A0 A0 m3 aq).mono ?_;rintro e w4 ⟨H4,ag,rfl,m4⟩;rw[kf x av];have HLE:=A5 (ah.trans ag);clear es m3 aq ah ag;have es:=m4.e1;cases hfm:DL x
 .have ai:=A5 hfm;clear hfm;go_wp2_with fail;go_ret3;exact⟨H4,0,0,4,HLE.out,Z,.inr (.inl ⟨ad.out,ai.out,Z⟩),m4.drop⟩
 have ai:=A5 hfm;clear hfm;have bc:=A5 (ak ad.out ai.out);clear ak;have bb:=A5 (HX.out.mono HLE.out);go_wp2_with fail;clear es;(go_loopw [17] (λi wr=>∃(k:Nat) (H5:Hp) (L5:List (Nat×Obj)),k<=x.d.length/\i= Y I k/\Hid (Bl H H5)/\Hid (∀j (h:j<x.d.length),j<k->∃b,JS x.d[j] b/\b<0)/\AC w0 H5 ((xb,IB x b1 c1 b2 c2 b3 c3 b4 c4)::L) wr) (λi _=>x.d.length-(intOf i).toNat));case atStart=>exact⟨0,H4,[],Nat.zero_le _,Z,HLE,A5 (λj h h2=>a_ h2 A0),m4⟩
 case round=>
  clear m4 bb;obtain⟨k,H5,_,hk,rfl,aj,HE,mk⟩:=hrel;by_cases eP:k<x.d.length
  .have ll:(k:Int)<x.d.length:=A0;have hx:=uG eP;have HC:=A5 (uR eP)
   have HS:=A5 (show ∀(P:AF->Prop),(∀j (h:j<x.d.length),j<k->P x.d[j])->P x.d[k]->∀j (h:j<x.d.length),j<k+1->P x.d[j] from λP h1 h2 j h hj=>by
    rcases Nat.lt_succ_iff_lt_or_eq.1 hj with h3|h3
    .exact h1 j h h3
    .subst h3;exact h2)
   generalize x.d[k]=y at*;obtain⟨kA,off,sv,rfl,q1,q2,q3,q4,q5,q6⟩:=(HX.out.mono aj.out).d.getCode hx;clear hx;have az:=q1.cell mk;have ay:=q2.cell mk;have ax:=q3.cell mk;have aw:=q4.cell mk;have bd:=A5 q5;obtain⟨gb,gc,rfl,_,_,_,_⟩:=q5;have mS:=mk.alloc (C #[U y.name,Y I y.params,Y I y.g,V gb y.i.length gc] 111);have es:=mS.e1;go_wp2_with fail;refine(bc.out y _ w0 _ H5 _ HC.out mS bd.out q6).mono ?_;rintro e w6 ⟨ba,H6,LF,b,ib,ic,ab,sb,mb,rows,ot,tr,rfl,af,m6,al,ar,ao⟩;clear es mS mk az ay ax aw q1 q2 q3 q4;have au:=A5 ar;have bf:=A5 ao;clear ar ao;go_wp2_with fail;refine(Tf y ib ic ab sb mb ba rows ot tr m6 al).mono ?_;intro e w7 ae;obtain⟨rfl,m7⟩:=ae.is bf.out;have m8:=Tb LF m7;clear al ae m6 m7;have es:=m8.e1;by_cases hb:0<=b
   .have HB:=A5 hb;go_wp2_with fail;go_ret3;exact⟨H6,k,b,9,aj.out.trans af,Z,.inr (.inr ⟨ad.out,ai.out,.inl ⟨Z,y,HC.out,b,au.out,HB.out⟩⟩),m8.drop.drop⟩
   .have HB:=A5 (A0:b<0);go_wp2_with fail;go_roundw;(case rel=>exact⟨k+1,H6,[],by omega,by go_num,A5 (aj.out.trans af),A5 (HS.out (λc=>∃b,JS c b/\b<0) HE.out ⟨b,au.out,HB.out⟩),m8.drop⟩);case measure=>exact BW
  .have hge:¬(k:Int)<x.d.length:=A0;go_wp2_with fail;go_ret3
   exact⟨H5,0,0,0,aj.out,Z,.inr (.inr ⟨ad.out,ai.out,.inr ⟨Z,λc hc=>by
    obtain⟨j,hj,rfl⟩:=List.getElem_of_mem hc
    exact HE.out j hj A0⟩⟩),mk.drop⟩
theorem Xe (x:AI) (vc vk vr vd:V_) (ad:∀c∈x.d,∀i∈c.i,i.op<256) (aa:Cg x=B->DL x=B->NV x) (m:AC w0 H L w) (hx:Bz H x vc vk vr vd):K_ yB 71 #[.agg #[vc,vk,vr,vd]] w (Xs w0 H L x):=by have HX:=A5 hx;obtain⟨b1,c1,b2,c2,b3,c3,b4,c4,rfl,rfl,rfl,rfl,l1,l2,l3,l4⟩:=hx.shapes;clear hx;have HN:=A5 aa;clear aa;have m1:=m.alloc (IB x b1 c1 b2 c2 b3 c3 b4 c4);have es:=m1.e1;go_enter func71,ntmps71;go_wp2_with fail;refine(XE x _ _ _ _ ad HN.out m1 HX.out).mono ?_;rintro e w2 ⟨H',a,b,er,lQ,rfl,hc,m2⟩;go_wp2_with fail;go_ret;exact⟨H',er,lQ,Z,hc,m2.drop⟩
section
variable {F:Fence} {K:Act->World->Prop} {i:Nat} {o:Oper}
section
variable {P:P_} {ops:Array Oper} {Q:Exit->Act->W_->Prop} {w0:W_} {H:Hp} {L:List (Nat×Obj)} {l n:Nat}
theorem Rows.inRound {row:String} {args:Array V_} {w:W_} {R:V_->W_->Prop} (h:Rows P row args w R):RowsIn (Fence.wide.inRound l) n P row args w R:=
 λc cs _=>let ⟨v,w',r,s⟩:=h c cs;⟨v,w',r,stepsIn_wide.2 s⟩
theorem Oper.wpIn_of {a:Act} (hd:∀c,o.op≠ .defer c) (h:o.wp P a w K Q):o.wpIn (Fence.wide.inRound l) n P a w K Q:=by
 refine⟨λ_ _=>trivial,?_⟩;rw[Oper.semAt_plain _ _ _ hd];unfold Oper.wp at h;generalize (x_ a.eval o).run P w=r at h⊢
 cases r with
 |ok x w'=>
  cases x with
  |value v=>exact h
  |skip=>exact h
  |defer d=>exact h
  |enter f args=>exact⟨λh=>CZ,CallsIn.inRound l (callsIn_wide.2 h)⟩
  |row row args=>exact⟨λh=>CZ,Rows.inRound h⟩
  |_=>exact h.elim
 |halt x w'=>cases x<;>first|exact h|exact h.elim
def IQ (ops:Array Oper):Bool:=ops.all λo=>match o.op with| .defer _=>G|_=>B
theorem WU (hn:IQ ops=B) (ho:ops[i]?=O o):∀c,o.op≠ .defer c:=by intro c hc;obtain⟨hi,rfl⟩:=Array.getElem?_eq_some_iff.1 ho;have:=Array.all_eq_true.1 hn i hi;rw[hc] at this;cases this
theorem Rk {a:Act} (hn:IQ ops=B) (aa:¬LetsOut Q) (h:wpOp P ops Q i K a w):wpOpIn (Fence.wide.inRound l) n P ops Q i K a w:=by
 unfold wpOp at h;unfold wpOpIn
 cases ho:ops[i]? with
 |none=>rw[ho] at h;exact h
 |some o=>
  rw[ho] at h;simp only at h⊢;split
  .rename_i hw;rw[p_ hw] at h;rcases h with h|h
   .exact Oper.wpIn_of (WU hn ho) h
   .exact a_ h.2 aa
  .rename_i hw;rw[n_ hw] at h;exact⟨λ_ _=>trivial,h⟩
theorem Lq {md:Region.Mode} (hn:IQ ops=B) (hLO:¬LetsOut Q):∀(fuel:Nat) (ls:Array Bool) (a:Act) (w:W_),wpAny P md ops Q fuel ls a w->wpAnyIn (Fence.wide.inRound l) n P md ops Q fuel ls a w
 |0,ls,a,w,h=>h
 |fuel+1,ls,a,w,h=>⟨h.1,λi hi=>wpOpIn_mono (λa w=>Lq hn hLO fuel _ a w) (Rk hn hLO (h.2 i hi))⟩
theorem Ow (hn:IQ ops=B) (hLO:¬LetsOut Q):∀(is:List Nat) (a:Act) (w:W_),wpOps P ops Q is a w->wpOpsIn (Fence.wide.inRound l) n P ops Q is a w
 |[],a,w,h=>by simpa[wpOps,wpOpsIn] using h
 |i::is,a,w,h=>by
  rw[wpOps_cons] at h
  rw[wpOpsIn_cons]
  exact wpOpIn_mono (λa w=>Ow hn hLO is a w) (Rk hn hLO h)
theorem DJ {id:Nat} {a:Act} (hn:IQ ops=B) (aa:¬LetsOut Q) (h:wpList P ops Q ops.toList a w):(Code.region id ops G).wpIn (Fence.wide.inRound l) n P Q a w:=by refine wpIn_region (Ow hn aa _ _ _ ?_);rw[List.range_eq_range',<-Array.length_toList,wpOps_eq_wpList ops.toList 0 (by simp)];exact h
theorem A6.startIn {id:Nat} {a:Act} {w:W_} (S:W_->Prop) (k:Nat) (hm:P.follows .mixedOrders=B) (hn:IQ ops=B) (hLO:¬LetsOut Q) (h:A6 P ops Q S k ops.size (uS ops.size G) a w.drew):(Code.region id ops B).wpIn (Fence.wide.inRound l) n P Q a w:=
 wpIn_region_any hm (Lq hn hLO _ _ _ _ (h.any _))
theorem KL {c:Code} {Xq:Act->W_->Prop} {a:Act} (h:∀K:Act->W_->Prop,(∀a w,Xq a w->K a w)->c.wpIn F n P (Exit.then K (λ_ _ _=>False)) a w):c.wpIn F n P (λ| .normal,a1,W1=>Xq a1 W1|_,_,_=>False) a w:=by(refine wpIn_mono (h Xq λ_ _ h=>h) λe a w he=>?_);cases e<;>exact he
theorem FL {id:Nat} {a:Act} {w:W_} (sp:List Du) (hs:List Bool) (fin:(Nat->C2)->Act) (hm:P.follows .mixedOrders=B) (hB:Nu ops sp a.tmps.size=B) (hhs:(uA sp.length).map (DY sp (I7 ops sp))=hs) (hnd:IQ ops=B) (hLO:¬LetsOut Q) (hfin:∀bs,DK ops sp bs sp.length a=fin bs)
  (m:AC w0 H L w) (hops:Ss P ops sp w0 H L fin ops.toList sp 0)
  (h:∀bs w',(∀(j:Nat) (s:Du) p,sp[j]?=O s->s.new=O p->p.2.2 (p.2.1.map bs) (bs j))->AC w0 H (NI bs L hs 0) w'->wpList P ops Q (ops.toList.drop sp.length) (fin bs) w'):(Code.region id ops B).wpIn (Fence.wide.inRound l) n P Q a w:=
 wpIn_region_any hm (Lq hnd hLO _ _ _ _ (JK.all sp hs fin hB hhs hfin m hops h))
end
end
variable {H':Hp} {P:Program} {e t:TypeId} {fvs:List Value} {i k:Nat} {kn0:W4} {lu:Array MapEntry} {o:Oper} {rows:List CA} {s:ES} {ws:List Int} {y:Av} {ρ:Operand->Value}
theorem So (z:Array V_) (m i:Nat) (h:i<m):(madeCells z m)[i]?=O (z[i%z.size]!):=by simp[madeCells,h]
theorem T0 (n:Nat):madeCells #[N G,V X 0 0,Y .u64 0,Y .u64 0,Y .u64 0,Y .u64 0] (n*6)=(Dx (yA n CA.zero)).toArray:=by
 (refine Array.ext_getElem? λi=>?_);by_cases h:i<n*6
 .rw[So _ _ _ h];have h2:=I6 (yA n CA.zero) (i/6) CA.zero (i%6) (by rw[uC,p_ A0]) (Nat.mod_lt _ A0);rw[(A0:i/6*6+i%6=i)] at h2;rw[uT,h2];have h6:i%6<6:=Nat.mod_lt _ A0;show O (Array.get!Internal _ (i%6))=_;generalize i%6=j at h6;rcases j with _|_|_|_|_|_|j
  .rfl
  .rfl
  .rfl
  .rfl
  .rfl
  .rfl
  .omega
 .rw[Array.getElem?_eq_none (by simp[madeCells];omega),uT,uJ (by rw[Dl,uU];omega)]
theorem Y8 {l:O_} {z:V_} {size bytes:Nat} (ho:o.op= .makeSlice t l l) (hl:ρ l= Y I n) (ht:P.underlying t=O (.slice e)) (hi:(P.info? e).map (λi=>(i.zero,i.size,i.bytes))=O (O z,size,bytes)) (hb:(bytes:Int)*n<=281474976710656) (hn:(n:Int)<=9223372036854775807):(x_ ρ o).run P w= .ok (.value (V (O ⟨w.heap.size,0,X⟩) n n)) (w.alloc (C (madeCells z.cells (n*size)) e)):=by obtain⟨i,af,ae,ad,aa⟩:=info_parts hi;have hr:=run_make w t e i z ht af ae I I (n:Int) (n:Int) A0 (Int.le_refl _) (by rw[aa];exact hb) hn;rw[ad,Int.toNat_natCast] at hr;exact fK
structure Nf where
 fb:Nat
 ab:Nat
 sb:Nat
 mb:Nat
 nb:Nat
 qb:Nat
 xb:Nat
abbrev C7 (Ds:List Nat) (L:List (Nat×Obj)):List (Nat×Obj):=Ds.map (λD=>(D,Obj.deferred (O [])))++L
abbrev Nf.rest (f:Nf) (c:AF) (ib:Option Addr) (ic:Nat) (fvs:List V_) (lu:Array MapEntry) (mcl:Nat) (L:List (Nat×Obj)):List (Nat×Obj):=
 (f.sb,CQ fvs)::(f.mb,.map lu mcl)::(f.fb,Ac c ib ic f.ab f.sb f.mb)::(f.nb,C #[M (O ⟨f.fb,0,X⟩)] 202)::(f.xb,At c (V ib c.i.length ic))::L
structure Ky (c:AF) (kn0:W4) (s:ES) (H:Hp) (rows:List CA) (fvs:List V_) (lu:Array MapEntry) (ws:List Int) (at':Option Nat):Prop where
 ws:Kx c.i.length s ws
 rl:rows.length=c.i.length
 row:∀k,k<c.i.length->(BJ rows k).e=s.e.getD k G/\AX AY H (BJ rows k).tv (s.t.getD k [])/\(BJ rows k).kn=if k=0 then kn0 else W4.zero
 fl:fvs.length=c.i.length
 fr:∀k,k<c.i.length->at'≠O k->s.done.getD k G=B->∃fv,fvs[k]?=O fv/\AX Gp H fv (CU c k (s.t.getD k []))
 fn:∀k,k<c.i.length->s.done.getD k G=G->fvs[k]?=O (V X 0 0)
 mp:∃lm,Bt (Y I) lu lm/\∀k:Nat,(BX lm (k:Int)).getD (N G)= N (s.other.getD k G)
theorem Ky.mono {c:AF} {kn0:W4} {s:ES} {H H':Hp} {rows:List CA} {fvs:List V_} {lu:Array MapEntry} {ws:List Int} {at':Option Nat} (h:Ky c kn0 s H rows fvs lu ws at') (hl:Bl H H'):Ky c kn0 s H' rows fvs lu ws at':=
 ⟨h.ws,h.rl,λk hk=>⟨(h.row k hk).1,(h.row k hk).2.1.mono hl,(h.row k hk).2.2⟩,h.fl,λk hk ha hd=>let ⟨fv,h1,h2⟩:=h.fr k hk ha hd;⟨fv,h1,h2.mono hl⟩,h.fn,h.mp⟩
theorem TY (n k:Nat) (hn:0<n):(ES.init n).e.getD k G=T (k=0):=by
 unfold ES.init;simp only;rw[C4 _ _ _ _ _ (by simpa using hn),ID];by_cases e:k=0
 .rw[p_ e,t_ e]
 .rw[n_ e,f_ e]
theorem RE (n k:Nat):(ES.init n).t.getD k []=[]:=by unfold ES.init;simp only;rw[uF,uC];split<;>rfl
theorem Ky.start (c:AF) (kn0:W4) (H:Hp) (hn:0<c.i.length):Ky c kn0 (ES.init c.i.length) H ((yA c.i.length CA.zero).set 0 ⟨B,V X 0 0,kn0⟩) (yA c.i.length (V X 0 0)) #[] [0] none:=by
 refine⟨Kx.init hn,by simp,λk hk=>?_,by simp,λk hk _ hd=>?_,λk hk _=>?_,⟨[],Bt.nil,λk=>?_⟩⟩
 .rw[FE (by simpa using hn),TY _ _ hn,RE];by_cases e:k=0
  .rw[p_ e,p_ e,t_ e];exact⟨Z,AX.nil _ _,Z⟩
  .rw[n_ e,n_ e,f_ e,I9 (r:=CA.zero) (by rw[uC,p_ hk])];exact⟨Z,AX.nil _ _,Z⟩
 .unfold ES.init at hd;simp only at hd;rw[ID] at hd;cases hd
 .rw[uC,p_ hk]
 .unfold ES.init;simp only;rw[ID];rfl
theorem Ky.look {c:AF} (h:Ky c kn0 s H rows fvs lu ws X) (hi:i<ws.length) (hk:ws[i]=(k:Int)):Ky c kn0 {s with done:=s.done.set k B} H rows fvs lu (ws.eraseIdx i) (O k):=by
 have hr:=h.ws.rng _ (uR hi);rw[hk] at hr;have aa:k<s.done.length:=(by rw[h.ws.fit.done];omega);refine⟨h.ws.take hi hk,h.rl,h.row,h.fl,λq hq ha hd=>?_,λq hq hd=>?_,h.mp⟩
 .simp only at hd;rw[C4 _ _ _ _ _ aa,n_ (λe=>ha (by rw[e]))] at hd;exact h.fr q hq (by simp) hd
 .simp only at hd;rw[C4 _ _ _ _ _ aa] at hd;by_cases e:q=k
  .rw[p_ e] at hd;cases hd
  .rw[n_ e] at hd;exact h.fn q hq hd
theorem Ky.new {c:AF} {at':Option Nat} (h:Ky c kn0 s H rows fvs lu ws at') (hy:0<=y.at'/\y.at'<c.i.length) (hc:s.e.getD y.at'.toNat G=G) {tv:V_} (aa:AX AY H tv y.t):Ky c kn0 (Cb s y) H (rows.set y.at'.toNat ⟨B,tv,(BJ rows y.at'.toNat).kn⟩) fvs lu (ws++[y.at']) at':=by
 have ha:y.at'.toNat<c.i.length:=A0;have hw:=h.ws.visit hy;unfold pT at hw;rw[p_ hc] at hw;(have ad:∀k,s.done.getD k G=B->k≠y.at'.toNat:=λk hd e=>by have:=h.ws.dc k hd;rw[e,hc] at this;cases this);rw[Mg hc] at hw⊢;refine⟨hw,by rw[uK];exact h.rl,λk hk=>?_,h.fl,λk hk ae hd=>?_,h.fn,h.mp⟩
 .simp only;rw[FE (by rw[h.rl];exact ha),C4 _ _ _ _ _ (by rw[h.ws.fit.e];exact ha),C4 _ _ _ _ _ (by rw[h.ws.fit.t];exact ha)];by_cases e:k=y.at'.toNat
  .rw[p_ e,p_ e,p_ e];exact⟨Z,aa,by rw[e];exact(h.row _ ha).2.2⟩
  .rw[n_ e,n_ e,n_ e];exact h.row k hk
 .simp only at hd⊢;rw[C4 _ _ _ _ _ (by rw[h.ws.fit.t];exact ha),n_ (ad k hd)];exact h.fr k hk ae hd
theorem Ky.again {c:AF} {kn0:W4} {s:ES} {H:Hp} {rows:List CA} {fvs:List V_} {lu:Array MapEntry} {ws:List Int} {at':Option Nat} (h:Ky c kn0 s H rows fvs lu ws at') {y:Av} (hc:s.e.getD y.at'.toNat G=B) (ht:s.t.getD y.at'.toNat []=y.t):
  Ky c kn0 (Cb s y) H rows fvs lu ws at':=by rw[Lg hc ht];exact h
theorem Ky.other {c:AF} {aa:Array MapEntry} {at':Option Nat} (h:Ky c kn0 s H rows fvs lu ws at') (hy:0<=y.at'/\y.at'<c.i.length) (hc:s.e.getD y.at'.toNat G=B) (ht:s.t.getD y.at'.toNat []≠y.t) (hm:∃lm,Bt (Y I) aa lm/\∀k:Nat,(BX lm (k:Int)).getD (N G)= N ((s.other.set y.at'.toNat B).getD k G)):Ky c kn0 (Cb s y) H rows fvs aa ws at':=by have hw:=h.ws.visit hy;unfold pT at hw;rw[n_ (by rw[hc];simp)] at hw;rw[JX hc ht] at hw⊢;exact⟨hw,h.rl,h.row,h.fl,h.fr,h.fn,hm⟩
theorem Ky.filed {c:AF} {fv:V_} (h:Ky c kn0 s H rows fvs lu ws (O k)) (hl:Bl H H') (hd:s.done.getD k G=B) (hf:AX Gp H' fv (CU c k (s.t.getD k []))) (hk:k<c.i.length):Ky c kn0 s H' rows (fvs.set k fv) lu ws none:=by
 have h:=h.mono hl;refine⟨h.ws,h.rl,h.row,by rw[uK];exact h.fl,λq hq _ aa=>?_,λq hq aa=>?_,h.mp⟩
 .by_cases e:k=q
  .subst e;exact⟨fv,uV (by rw[h.fl];exact hk),hf⟩
  .obtain⟨ad,h1,h2⟩:=h.fr q hq (λe2=>e (Option.some.inj e2)) aa;exact⟨ad,by rw[uW e];exact h1,h2⟩
 ·(have e:k≠q:=λe=>by subst e;rw[hd] at aa;cases aa);rw[uW e];exact h.fn q hq aa
noncomputable def Hk:Code:=(f163.body).getD .skip
def py (f:Nf) (Ds:List Nat) (a:Act):Prop:=a.defers=Ds.map (λD=>({target:= .collected D,args:=#[]}:Deferred))/\a.tmps.size=123/\a.tmps[1]?=O (M (O ⟨f.xb,0,X⟩))/\a.tmps[3]?=O (M (O ⟨f.nb,0,X⟩))/\a.tmps[5]?=O (M (O ⟨f.qb,0,X⟩))
abbrev Nf.all (f:Nf) (c:AF) (ib:Option Addr) (ic:Nat) (rows:List CA) (fvs:List V_) (lu:Array MapEntry) (mcl g cap:Nat) (lX:Array V_) (n:Nat) (L:List (Nat×Obj)):List (Nat×Obj):=
 (g,C lX 3)::(f.qb,C #[V (O ⟨g,0,X⟩) n cap] 138)::(f.ab,C8 rows)::f.rest c ib ic fvs lu mcl L
def qS (c:AF) (ib:Option Addr) (ic:Nat) (kn0:W4) (w0:W_) (H:Hp) (L:List (Nat×Obj)) (u:Nat) (a:Act) (W:W_):Prop:=∃f Ds s H1 rows fvs lu mcl g cap lX ws,py f Ds a/\u=s.undone/\Db c s.undone s=AB c/\Cc c.i.length s/\Bl H H1/\Ky c kn0 s H1 rows fvs lu ws X/\N6 g cap lX ws/\
 AC w0 H1 (f.all c ib ic rows fvs lu mcl g cap lX ws.length (C7 Ds L)) W
def LD (c:AF):W4:=W4.zero.with' ((uA c.params.toNat).map uD)
theorem Zt (l:List CA) (a:Nat) (r:CA) (h:l[a]?=O r):(Dx l).toArray.setIfInBounds (a*6) (N B)=(Dx (l.set a ⟨B,r.tv,r.kn⟩)).toArray:=by
 rw[uX];congr 1
 induction l generalizing a with
 |nil=>simp at h
 |cons r' l ih=>
  cases a with
  |zero=>simp only[List.getElem?_cons_zero,Option.some.injEq] at h;subst h;simp[Dx,CA.cs]
  |succ a=>have ih:=ih a CE;simp only[List.set_cons_succ,Dx];rw[<-ih,show(a+1)*6=r'.cs.length+a*6 by simp[CA.cs];omega,List.set_append_right _ _ (Nat.le_add_right _ _),Nat.add_sub_cancel_left]
theorem Ba.lit1 {b:Nat} {r:Int}:Ba 3 1 (V (O ⟨b,0,X⟩) 1 1) 1 [Y I r] [(b,C #[Y I r] 3)]:=
 ⟨Z,.inr ⟨b,1,#[Y I r],Z,Nat.le_refl _,by unfold maxLen;omega,Z,Z,Z⟩⟩
theorem Ql (x:W4) (hx:x.fit) (r:Int) (hr:0<=r/\r<256) (b:Nat) (m:AC w0 H ((b,C #[Y I r] 3)::L) w):K_ yB 220 #[x.v,V (O ⟨b,0,X⟩) 1 1] w (Bv w0 H L (x.with' [r]).v):=by obtain⟨H',m2,hl,hs,hb⟩:=(Ba.lit1 (b:=b) (r:=r)).borrow (H:=H) (E:=AY) (ys:=[r]) (Cv [r] (λz hz=>by rw[uY.1 hz];unfold EH;omega)) Z Z m;refine(QW x hx _ [r] (λz hz=>by rw[uY.1 hz];exact hr) m2 hs).mono ?_;rintro e w2 ⟨rfl,m3⟩;exact⟨Z,(hb _ _ m3).drop⟩
def Ks (n:Nat) (kn:W4):List CA:=(yA n CA.zero).set 0 ⟨B,V X 0 0,kn⟩
theorem WI (h:0<n) (kn:W4):(Ks n kn)[0]?=O ⟨B,V X 0 0,kn⟩:=by unfold Ks;rw[uV CE]
theorem bA (n:Nat) (kn aa:W4):(Ks n kn).set 0 (CA.setK ⟨B,V X 0 0,kn⟩ aa)=Ks n aa:=by unfold Ks CA.setK;rw[List.set_set]
theorem W4.with_snoc (x:W4) (l:List Int) (r:Int):x.with' (l++[r])=(x.with' l).with' [r]:=by unfold W4.with';rw[List.foldl_append]
theorem Ve {H0:Hp} (c:AF) (ib:Option Addr) (ic:Nat) (lf:Dw c) (ak:AX C1 H0 (V ib c.i.length ic) c.i) (hH:Bl H0 H) (m:AC w0 H L w) (Q:Exit->Act->W_->Prop) (K:Act->W_->Prop) (hC:∀a W,qS c ib ic (LD c) w0 H L (ES.init c.i.length).undone a W->LK yB Q ((CN Hk).drop 6) K a W):LK yB Q (CN Hk) K {tmps:=#[.agg #[U c.name,Y I c.params,Y I c.g,V ib c.i.length ic]]++uS 122 undef,defers:=[]} w:=by
 have HC:=A5 hC;clear hC;have ae:=lf.pos;have bb:=lf.len;have aq:=lf.par;have ar:(0:Int)<c.i.length:=A0;have ba:(c.i.length:Int)<=2000:=A0;have bc:(ic:Int)<=9223372036854775807:=(by obtain⟨_,_,ao,bd,av,_,_⟩:=ak;cases ao;have:=A9 av;omega);clear lf ak hH;have au:=@run_makeMap yB;have m1:=m.alloc (At c (V ib c.i.length ic));generalize al:w.heap.size=xb at*;refine M9 6 (qS c ib ic (LD c) w0 H L (ES.init c.i.length).undone) ?_ HC.out;intro K0 key;simp only[uZ,uL,uM,Nat.reduceAdd,Nat.reduceSub,Array.replicate_succ,Array.replicate_zero,List.push_toArray,List.append_toArray,uB,uE,Hk,f163,uN];simp only[CN,ud,uE,uB,uH,uI,uh,ui];intro K1 bj;go_wp2_with fail;intro K2 bh;refine EA (F:=λw'=>Code.wp _ _ _ _ w') m1 ?_;clear m1 m al;intro wr mr;refine B1 mr [VK (.agg #[U c.name,Y I c.params,Y I c.g,V ib c.i.length ic]),VK (M (O ⟨xb,3,X⟩)),VK (V ib c.i.length ic),VK (Y I c.i.length),⟨[4],λzb=> V (O ⟨(zb.getD 0 Ax).b,0,X⟩) c.i.length c.i.length,O ([],[],λzb d=>d.bl=[(d.b,C (Dx (yA c.i.length CA.zero)).toArray 268)]),G⟩,VK (M (O ⟨xb,3,X⟩)),VK (V ib c.i.length ic),VK (Y I c.i.length),⟨[8],λzb=> V (O ⟨(zb.getD 0 Ax).b,0,X⟩) c.i.length c.i.length,O ([],[],λzb d=>d.bl=[(d.b,C (yA c.i.length (V X 0 0)).toArray 277)]),G⟩,⟨[9],λzb=> .map (O (zb.getD 0 Ax).b),O ([],[],λzb d=>d.bl=[(d.b,.map #[] 0)]),G⟩,⟨[4,8,9],λzb=> .agg #[U c.name,Y I c.params,Y I c.g,V ib c.i.length ic,V (O ⟨(zb.getD 0 Ax).b,0,X⟩) c.i.length c.i.length,V (O ⟨(zb.getD 1 Ax).b,0,X⟩) c.i.length c.i.length,.map (O (zb.getD 2 Ax).b)],X,G⟩,⟨[11],λzb=> M (O ⟨(zb.getD 0 Ax).b,0,X⟩),O ([],[4,8,9],λzb d=>d.bl=[(d.b,C #[U c.name,Y I c.params,Y I c.g,V ib c.i.length ic,V (O ⟨(zb.getD 0 Ax).b,0,X⟩) c.i.length c.i.length,V (O ⟨(zb.getD 1 Ax).b,0,X⟩) c.i.length c.i.length,.map (O (zb.getD 2 Ax).b)] 263)]),G⟩,⟨[12],λzb=> M (O ⟨(zb.getD 0 Ax).b,0,X⟩),O ([],[],λzb d=>d.bl=[(d.b,C #[M X] 202)]),G⟩] (nf 4++[B]++nf 3++[B,B]++nf 1++[B,B]) ?_ ?_
 .refine⟨CD,AA,CD,AA,?_,AA,CD,AA,?_,?_,?_,?_,?_,trivial⟩
  ·(refine Al.make _ _ Z Z Z λbs w hb m=>?_);show(x_ _ _).run _ _= .ok (.value (V (O ⟨w.heap.size,0,X⟩) c.i.length c.i.length)) (w.alloc (C (Dx (yA c.i.length CA.zero)).toArray 268));refine(Y8 (size:=6) (bytes:=64) (n:=c.i.length) (z:= .agg #[N G,V X 0 0,Y .u64 0,Y .u64 0,Y .u64 0,Y .u64 0]) Z Z underlying260 A7 A0 A0).trans ?_;rw[<-T0];rfl
  ·(refine Al.make _ _ Z Z Z λbs w hb m=>?_);show(x_ _ _).run _ _= .ok (.value (V (O ⟨w.heap.size,0,X⟩) c.i.length c.i.length)) (w.alloc (C (yA c.i.length (V X 0 0)).toArray 277));exact FI (bytes:=24) Z Z underlying261 A7 Z A0 A0
  ·(refine Al.make _ _ Z Z Z λbs w hb m=>?_);show(x_ _ _).run _ _= .ok (.value (.map (O w.heap.size))) (w.alloc (.map #[] 0));rw[show ∀(ρ:O_->V_) (o:Oper),o.op= .makeMap 241 X->(x_ ρ o).run yB w= .ok (.value (.map (O w.heap.size))) (w.alloc (.map #[] 0)) from λρ o ho=>by unfold x_;simp only[ho,Sem.run_bind,Option.map_none,au,Result.andThen_ok,Sem.run_pure]];exact AT
  ·(refine Al.val Z Z Z λbs w hb m=>?_);show(x_ _ _).run _ _= .ok (.value (.agg #[U c.name,Y I c.params,Y I c.g,V ib c.i.length ic,V (O ⟨(bs 4).b,0,X⟩) c.i.length c.i.length,V (O ⟨(bs 8).b,0,X⟩) c.i.length c.i.length,.map (O (bs 9).b)])) w;exact Cp
  ·(refine Al.make _ _ Z Z Z λbs w hb m=>?_);show(x_ _ _).run _ _= .ok (.value (M (O ⟨w.heap.size,0,X⟩))) (w.alloc (C #[U c.name,Y I c.params,Y I c.g,V ib c.i.length ic,V (O ⟨(bs 4).b,0,X⟩) c.i.length c.i.length,V (O ⟨(bs 8).b,0,X⟩) c.i.length c.i.length,.map (O (bs 9).b)] 263));exact Cp
  ·(refine Al.make _ _ Z Z Z λbs w hb m=>?_);show(x_ _ _).run _ _= .ok (.value (M (O ⟨w.heap.size,0,X⟩))) (w.alloc (C #[M X] 202));exact Cp
 .intro bs wd hb md;replace md:AC w0 H ((bs 4).bl++((bs 8).bl++((bs 9).bl++((bs 11).bl++((bs 12).bl++((xb,At c (V ib c.i.length ic))::L)))))) wd:=md;have ai:(bs 4).bl=[((bs 4).b,C (Dx (yA c.i.length CA.zero)).toArray 268)]:=hb 4 _ _ Z Z;rw[ai] at md;have ah:(bs 8).bl=[((bs 8).b,C (yA c.i.length (V X 0 0)).toArray 277)]:=hb 8 _ _ Z Z;rw[ah] at md;have ag:(bs 9).bl=[((bs 9).b,.map #[] 0)]:=hb 9 _ _ Z Z;rw[ag] at md;have ad:(bs 11).bl=[((bs 11).b,C #[U c.name,Y I c.params,Y I c.g,V ib c.i.length ic,V (O ⟨(bs 4).b,0,X⟩) c.i.length c.i.length,V (O ⟨(bs 8).b,0,X⟩) c.i.length c.i.length,.map (O (bs 9).b)] 263)]:=hb 11 _ _ Z Z;rw[ad] at md;have aa:(bs 12).bl=[((bs 12).b,C #[M X] 202)]:=hb 12 _ _ Z Z;rw[aa] at md;(try simp only[uE,uB] at md);simp only[uL,uM,Nat.reduceAdd,uj,uH,uI];clear hb;generalize (bs 4).b=ab at*;generalize (bs 8).b=sb at*;generalize (bs 9).b=mb at*;generalize (bs 11).b=fb at*;generalize (bs 12).b=nb at*;have m2:=md.set (i:=0) (v:= M (O ⟨fb,0,X⟩)) (.tail (.tail (.tail (.tail .head))));simp only[uX,List.set_cons_zero] at m2;have es:=md.e0;go_wp2_with fail;refine EA (F:=λw'=>LK _ _ _ _ _ w') m2 ?_;clear es md m2 ai ah ag ad aa;intro w2 m2;intro K3 hK3;have h0:(Dx (yA c.i.length CA.zero))[0]?=O (N G):=I6 (yA c.i.length CA.zero) 0 CA.zero 0 (by rw[uC,p_ ae]) AD;have c0:w2.cell? ⟨ab,0,X⟩=O (N G):=(by rw[AU (m2.loc _ (.head _)).1];simpa using h0);have f0:w2.frozen? ⟨ab,0,X⟩=false:=Bx (m2.loc _ (.head _)).1 0;have es:=m2.e0;have m3:=m2.set (i:=0) (v:= N B) .head;have hz:=Zt (yA c.i.length CA.zero) 0 CA.zero (by rw[uC,p_ ae]);rw[uO] at hz;rw[hz] at m3;clear hz h0;go_wp2_with fail;refine EA (F:=λw'=>LK _ _ _ _ _ w') m3 ?_;clear es m2 m3 c0 f0;intro w3 m3 K4 hK4;have es:=m3.e14;go_wp2_with fail;clear es;intro K5 bg;go_wp2_with fail;have m3:AC w0 H ((ab,C8 (Ks c.i.length W4.zero))::(sb,C (yA c.i.length (V X 0 0)).toArray 277)::(mb,.map #[] 0)::(fb,Ac c ib ic ab sb mb)::(nb,C #[M (O ⟨fb,0,X⟩)] 202)::(xb,At c (V ib c.i.length ic))::L) w3:=m3;(go_loopw [29] (λaf wr=>∃(r:Nat),(r:Int)<=c.params/\af= Y I r/\AC w0 H ((ab,C8 (Ks c.i.length (W4.zero.with' ((uA r).map uD))))::(sb,C (yA c.i.length (V X 0 0)).toArray 277)::(mb,.map #[] 0)::(fb,Ac c ib ic ab sb mb)::(nb,C #[M (O ⟨fb,0,X⟩)] 202)::(xb,At c (V ib c.i.length ic))::L) wr) (λaf _=>c.params.toNat-(intOf af).toNat));case atStart=>exact⟨0,by omega,Z,m3⟩
  case round=>
   clear m3;obtain⟨r,hr,rfl,mk⟩:=hrel;by_cases eP:(r:Int)<c.params
   .have ax:=A5 (show W4.zero.with' ((uA (r+1)).map uD)=(W4.zero.with' ((uA r).map uD)).with' [(r:Int)] by rw[List.range_succ,List.map_append];exact W4.with_snoc _ _ _);have ay:=A5 (W4.fit_with (l:=(uA r).map uD) W4.fit_zero);have aj:r<256:=A0;generalize W4.zero.with' ((uA r).map uD)=x at*;go_wp2_with fail;refine B1 mk [VK (M (O ⟨fb,0,X⟩)),VK (M (O ⟨fb,0,X⟩)),VK (M (O ⟨fb,4,X⟩)),VK (V (O ⟨ab,0,X⟩) c.i.length c.i.length),VK (M (O ⟨fb,0,X⟩)),VK (M (O ⟨fb,0,X⟩)),VK (M (O ⟨fb,4,X⟩)),VK (V (O ⟨ab,0,X⟩) c.i.length c.i.length),VK (M (O ⟨ab,0,X⟩)),VK (M (O ⟨ab,2,X⟩)),VK (.agg #[Y .u64 (x.a:Int),Y .u64 (x.b:Int),Y .u64 (x.c:Int),Y .u64 (x.d:Int)]),VK (Y I (r:Int)),⟨[12],λzb=> V (O ⟨(zb.getD 0 Ax).b,0,X⟩) 1 1,O ([],[],λzb d=>d.bl=[(d.b,C #[Y I (r:Int)] 3)]),G⟩,⟨[],λzb=> .agg #[Y .u64 ((x.with' [(r:Int)]).a:Int),Y .u64 ((x.with' [(r:Int)]).b:Int),Y .u64 ((x.with' [(r:Int)]).c:Int),Y .u64 ((x.with' [(r:Int)]).d:Int)],O ([12],[],λzb d=>d.bl=[]),G⟩] (nf 13++[B]) ?_ ?_
    .refine⟨Fe,AA,AA,Fe,Fe,AA,AA,Fe,AA,AA,?_,AA,?_,?_,trivial⟩
     ·(refine Al.vk Z λbs w hb m=>?_);obtain⟨s0,s1,s2,s3,s4,s5⟩:=G7 (m.loc _ (.head _)).1 (WI ae x);simp only[uO,Nat.zero_add] at s2 s3 s4 s5;exact AT
     ·(refine Al.make _ _ Z Z Z λbs w hb m=>?_);show(x_ _ _).run _ _= .ok (.value (V (O ⟨w.heap.size,0,X⟩) 1 1)) (w.alloc (C #[Y I (r:Int)] 3));exact Cp
     ·(refine Al.gen _ Z Z Z λbs w L2 hb m=>?_);have aw:(bs 12).bl=[((bs 12).b,C #[Y I (r:Int)] 3)]:=hb.at 12 A7 Z Z;simp only[List.flatMap_cons,List.flatMap_nil,List.append_nil,aw,uE,uB] at m;refine BU.ofCall (f:=220) (args:=#[x.v,V (O ⟨(bs 12).b,0,X⟩) 1 1]) Br ?_;refine(Ql x ay.out (r:Int) A0 (bs 12).b m).mono ?_;rintro e w2 ⟨rfl,m2⟩;exact⟨_,Z,⟨0,0,undef,[]⟩,Z,Z,m2⟩
    .intro bs wd hb md;replace md:=AC.like1 mk (bs 13).bl md;have aa:(bs 12).bl=[((bs 12).b,C #[Y I (r:Int)] 3)]:=hb 12 _ _ Z Z;have ok13:(bs 13).bl=[]:=hb 13 _ _ Z Z;(try simp only[uE,uB] at md);simp only[uL,uM,Nat.reduceAdd,uj,uH,uI];rw[ok13,uB] at md;clear hb aa ok13;have lg:2+3<(Dx (Ks c.i.length x)).toArray.size:=(by rw[uZ,Dl];unfold Ks;rw[uK,uU];omega);have m4:=AC.setL (x.with' [(r:Int)]).vs (0*6+2) md;rw[M8 _ 0 _ _ (WI ae x),bA] at m4;simp only[W4.vs,Ff,uO,Nat.zero_add] at m4;go_wp2_with (refine EI (x.with' [(r:Int)]) Z Z Z Z md lg ?_;unfold W4.vs;simp only[Ff]);go_roundw;(case rel=>exact⟨r+1,by omega,by go_num,by rw[ax.out];exact m4⟩);case measure=>exact BW
   .have hge:¬(r:Int)<c.params:=eP;have az:=A5 (A0:r=c.params.toNat);go_wp2_with fail;refine EA (F:=λw'=>LK _ _ _ _ _ w') mk ?_;clear mk;intro w4 m4 K6 bf;have m5:=(m4.alloc (C #[Y I 0] 3)).alloc (C #[V (O ⟨w4.heap.size,0,X⟩) 1 1] 138);simp only[World.size_alloc] at m5;go_wp2_with fail;simp only[LK];refine key _ _ ⟨⟨fb,ab,sb,mb,nb,w4.heap.size+1,xb⟩,[],ES.init c.i.length,H,Ks c.i.length (LD c),yA c.i.length (V X 0 0),#[],0,w4.heap.size,1,#[Y I 0],[0],⟨Z,Z,Z,Z,Z⟩,Z,(Kw c).symm,Cc.init _,Bl.refl _,Ky.start c (LD c) H ae,⟨Nat.le_refl _,by unfold maxLen;simp,Z,Z⟩,?_⟩;have m6:=m5.perm (List.Perm.swap _ _ _);rw[az.out] at m6;exact m6
theorem Qo (c:AF) (K:List (List Bool)) (rows:List CA) (ot:Nat->Bool) (tr:Nat->List Int) (hl:rows.length=c.i.length) (h:∀k r i,rows[k]?=O r->c.i[k]?=O i->IA ot tr k r i=Dp c (AB c) K k i):Ok c.i.length (Xr c rows ot tr) (Qz c K):=by
 have hb:∀j (hj:j<c.i.length),Xr c rows ot tr j↔Dp c (AB c) K j c.i[j]=true:=by
  intro j hj;have hr:rows[j]?=O (rows[j]'A0):=uG A0;have hi:c.i[j]?=O c.i[j]:=uG hj;constructor
  .rintro⟨r,i,h1,h2,h3⟩;rw[hi] at h2;cases h2;rw[<-h j r _ h1 hi];exact h3
  .intro h1;exact⟨_,_,hr,hi,by rw[h j _ _ hr hi];exact h1⟩
 unfold Qz DG
 cases hf:(c.i.zipIdx).findIdx? (λp=>Dp c (AB c) K p.2 p.1) with
 |none=>right;refine⟨λj hj hw=>?_,Z⟩;have h1:=List.findIdx?_eq_none_iff.1 hf (c.i[j],j) (List.mem_zipIdx_iff_getElem?.2 (uG hj));have h2:=(hb j hj).1 hw;simp only at h1;rw[h2] at h1;cases h1
 |some k=>
  left;obtain⟨h1,h2,h3⟩:=List.findIdx?_eq_some_iff_getElem.1 hf;have hk:k<c.i.length:=IV;refine⟨k,hk,(hb k hk).2 ?_,λj hj hw=>?_,Z⟩
  .simpa using h2
  .have h4:=h3 j hj;have h5:=(hb j A0).1 hw;apply h4;simpa using h5
theorem gK (c:AF) (K:List (List Bool)) (ot:Nat->Bool) (tr:Nat->List Int) (k:Nat) (r:CA) (i:Bu) (h1:r.e=(AB c).e.getD k G) (h2:ot k=(AB c).other.getD k G) (h3:tr k=(AB c).t.getD k []) (h4:r.e=B->∀q∈CM i,r.kn.hasI q=(K.getD k []).getD q.toNat G):IA ot tr k r i=Dp c (AB c) K k i:=by
 unfold IA Dp;rw[<-h1,<-h2,<-h3];cases hc:r.e
 .rfl
 ·(have ha:(CM i).all r.kn.hasI=(CM i).all λq=>(K.getD k []).getD q.toNat false:=(by rw[ul,um,um];exact⟨λh q hq=>by rw[<-h4 hc q hq];exact h q hq,λh q hq=>by rw[h4 hc q hq];exact h q hq⟩));rw[ha];generalize ((CM i).all λq=>(K.getD k []).getD q.toNat G)=a1;generalize ot k=a2;generalize (T (i.op=68)&&T ((tr k).length=0))=a3;generalize (T (i.op=69)&&T (0<(tr k).length))=a4;cases a1<;>cases a2<;>cases a3<;>cases a4<;>rfl
theorem Hs {P:P_} {fn:Func} {tmps:Array V_} {Rr:E_->W_->Prop} {w0:W_} {H:Hp} {L:List (Nat×Obj)} {n:Nat} {v:V_} (hres:∀w',(results fn tmps).run P w'= .ok v w') (hR:∀w',AC w0 H L w'->Rr (.returned v) w'):
  ∀(Ds:List Nat) (w:W_),AC w0 H (C7 Ds L) w->LeavesInM Fence.wide n P fn tmps Rr (Ds.map λD=>({target:= .collected D,args:=#[]}:Deferred)) .returning w
 |[],w,m=>⟨v,hres w,hR w m⟩
 |D::Ds,w,m=>by
  have m1:AC w0 H ((D,.deferred (O []))::C7 Ds L) w:=m
  have h1:=(m1.loc _ (.head _)).1
  refine⟨by simp,.inl ⟨D,w.putObj D (.deferred X),Z,run_takeDeferred h1,?_⟩⟩
  exact Hs hres hR Ds _ (m1.putObj (DU.head (o':= .deferred X))).drop
def gB (c:AF) (ib:Option Addr) (ic:Nat) (kn0:W4) (w0:W_) (H:Hp) (L:List (Nat×Obj)) (a:Act) (W:W_):Prop:=∃f Ds H1 rows fvs lu mcl g cap lX m,py f Ds a/\Bl H H1/\Ky c kn0 (AB c) H1 rows fvs lu [] X/\
 AC w0 H1 (f.all c ib ic rows fvs lu mcl g cap lX m (C7 Ds L)) W
theorem Nt {c:AF} {t:List Int} (hf:Dw c):∀y∈CU c k t,(0<=y.at'/\y.at'<c.i.length)/\ -1<=y.to/\y.to<c.g:=by
 intro y hy;unfold CU at hy
 cases hk:c.i[k]? with
 |none=>rw[hk] at hy;cases hy
 |some i=>rw[hk] at hy;exact hf.next k i t hk y hy
theorem tG (c:AF):(LD c).fit:=W4.fit_with W4.fit_zero
theorem W4.zero_has (r:Nat):W4.zero.has r=false:=by have h:W4.zero.l.getD (r/64) 0=0:=(by rcases r/64 with _|_|_|_|q<;>rfl);unfold W4.has;rw[h,Nat.zero_testBit]
theorem jZ (c:AF) (hp:0<=c.params/\c.params<=250) {r:Nat} (hr:r<256):(LD c).has r=T ((r:Int)<c.params):=by
 unfold LD
 rw[W4.has_with _ (λz hz=>by
  obtain⟨q,hq,rfl⟩:=uP.1 hz;have:=uQ.1 hq;simp only[un]
  omega) hr,W4.zero_has,uq,ul,List.any_eq_true,decide_eq_true_eq]
 constructor
 .rintro⟨z,hz,he⟩;obtain⟨q,hq,rfl⟩:=uP.1 hz;have h1:=uQ.1 hq;have h2:=o_ he;simp only[un] at h2;omega
 .intro h;exact⟨(r:Int),uP.2 ⟨r,uQ.2 A0,Z⟩,by simp⟩
theorem Ky.fitW {c:AF} {at':Option Nat} (h:Ky c (LD c) s H rows fvs lu ws at'):Jf rows:=by
 intro k;by_cases hk:k<c.i.length
 .rw[(h.row k hk).2.2];split
  .exact tG c
  .exact W4.fit_zero
 .unfold BJ;rw[uF,uJ (by rw[h.rl];omega)];exact W4.fit_zero
theorem Ky.tvs {c:AF} {at':Option Nat} (h:Ky c kn0 s H rows fvs lu ws at'):∀k,∃b n cc,(BJ rows k).tv= V b n cc:=by
 intro k;by_cases hk:k<c.i.length
 .obtain⟨b,cc,e,_⟩:=(h.row k hk).2.1;exact⟨b,_,cc,e⟩
 .unfold BJ;rw[uF,uJ (by rw[h.rl];omega)];exact⟨_,_,_,Z⟩
theorem Ky.done_of {c:AF} {at':Option Nat} (h:Ky c kn0 s H rows fvs lu [] at') (hk:k<c.i.length) (hc:s.e.getD k G=B):s.done.getD k G=true:=by
 have:=h.ws.mem k hk;simp only[List.not_mem_nil,false_iff] at this;cases hd:s.done.getD k G
 .exact a_ ⟨hc,hd⟩ this
 .rfl
theorem bS {c:AF} {aa:List CA} (hf:Dw c) (h:Ky c (LD c) (AB c) H rows fvs lu [] X) (hl:fZ c rows aa) (ag:∀i∈c.i,∀r∈CM i,0<=r/\r<c.g):∃b,JS c b/\Ok c.i.length (Xr c aa (λk=>(AB c).other.getD k G) (λk=>(AB c).t.getD k [])) b:=by
 obtain⟨hst,al,m,R,hR,ae,ai⟩:=hl;have ah:=hf.par;have lZ:aa.length=c.i.length:=(by rw[hst.1,h.rl])
 have ak:Dc c.i.length c.g.toNat (Cm rows c.i.length) (Fb c c.g.toNat):=by
  refine⟨by rw[(EN rows _).1,h.rl],NB c _,λk r hk hr=>?_⟩;rw[ZU rows _ (by rw[h.rl];omega) k];have aj:((Fb c c.g.toNat).getD k []).getD r G=(T (0<k)||T ((r:Int)<c.params)):=(by unfold Fb;rw[uF (l:=List.map _ _),ur,ut hk];simp only[Option.map_some,uN];rw[uF,ur,ut hr];rfl);rw[aj];by_cases e:0<k
  .rw[p_ ⟨e,hk⟩,WO A0,t_ e,Bool.true_or]
  .rw[n_ A0,(h.row k hk).2.2,p_ A0,jZ c A0 A0,f_ e,uq]
 obtain⟨K,hK,ad⟩:=YK (c:=c) (R0:=Cm rows c.i.length) (R:=R) Z A0 (λk hk y hy=>by
  have:=Nt hf y hy
  omega) ak m hR ae
 refine⟨Qz c K,⟨K,hK,Z⟩,?_⟩;(refine Qo c K aa _ _ lZ λk r i hr hi=>?_);have hk:k<c.i.length:=(uu.1 hi).1;have hrr:BJ aa k=r:=I9 hr;have af:r.e=(AB c).e.getD k false:=(by rw[<-hrr,(hst.2 k).1];exact(h.row k hk).1);(refine gK c K _ _ k r i af Z Z λhc q hq=>?_);have h1:=ai k hk (by rw[(h.row k hk).1,<-af];exact hc);have h2:=ag i (List.mem_of_getElem? hi) q hq;unfold W4.hasI;rw[<-hrr,h1,ad.bit k q.toNat hk A0]
variable {α:Type} {E:Kc α} {xs:List α}
theorem AX.shape2 {v:V_} (h:AX E H v xs):∃b c,v= V b xs.length c/\True:=let ⟨b,c,e,_⟩:=h;⟨b,c,e,trivial⟩
theorem aE (c:AF) (ib:Option Addr) (ic:Nat) (lf:Dw c) (aj:AX C1 H (V ib c.i.length ic) c.i) (af:∀i∈c.i,i.args.length<=4096/\i.w.length<=4/\(∀y∈i.w,y.kind=1\/y.kind=2\/y.kind=3)/\∀r∈CM i,0<=r/\r<256/\r<c.g):∀a W,gB c ib ic (LD c) w0 H L a W->LK yB (bodyPostM Fence.wide 3 yB f163 (PI w0 H L c)) ((CN Hk).drop 7) (bodyPostM Fence.wide 3 yB f163 (PI w0 H L c) .normal) a W:=by
 have HF:=A5 lf;have av:=A5 aj;have HRD:=A5 af;have al:=lf.len;have ak:=lf.par;clear aj af lf;rintro a W ⟨f,Ds,H1,rows,fvs,lu,ae,g,cap,lX,mm,au,lQ,ag,m⟩;have HN:=A5 ag;have HLE:=A5 lQ;clear ag lQ;obtain⟨tm,df⟩:=a;obtain⟨ai,lg,a1,a3,a5⟩:=au;simp only at ai lg a1 a3 a5;subst ai;obtain⟨u,hu⟩:=Ii tm lg;simp only[uA,List.range.loop,List.map] at hu;subst hu;clear lg;replace a1:u 1= M (O ⟨f.xb,0,X⟩):=Option.some.inj a1;generalize u 1=z1 at a1⊢;subst a1;replace a3:u 3= M (O ⟨f.nb,0,X⟩):=Option.some.inj a3;generalize u 3=z3 at a3⊢;subst a3;replace a5:u 5= M (O ⟨f.qb,0,X⟩):=Option.some.inj a5;generalize u 5=z5 at a5⊢;subst a5;simp only[Hk,f163,uN,CN,ud,uE,uB,uH,uI,uh,ui];intro K1 ax;have es:=m.e0;go_wp2_with fail;have m2:=(m.perm Ah:AC _ _ ((f.ab,C8 rows)::(g,C lX 3)::(f.qb,C #[V (O ⟨g,0,X⟩) mm cap] 138)::f.rest c ib ic fvs lu ae (C7 Ds L)) _);refine(Vw c ib ic f.ab f.sb f.mb f.fb fvs rows m2 (.tail _ (.tail _ (.tail _ (.tail _ (.head _))))) (.tail _ (.tail _ (.head _))) al HN.out.rl HN.out.fl HN.out.fitW HN.out.tvs (λk hk=>(HN.out.row k hk).1) (λk hk hc=>HN.out.fr k hk (by simp) (HN.out.done_of hk hc)) (λk hk y hy=>by have:=Nt HF.out y hy;omega)).mono ?_;rintro e w2 ⟨v,aa,rfl,ah,m3⟩;clear es m m2;have ad:=A5 ah;clear ah;have m4:=(m3.perm Ah:AC _ _ (C7 Ds ([(f.ab,C8 aa),(f.sb,CQ fvs),(f.mb,.map lu ae),(f.fb,Ac c ib ic f.ab f.sb f.mb),(f.nb,C #[M (O ⟨f.fb,0,X⟩)] 202),(f.xb,At c (V ib c.i.length ic)),(g,C lX 3),(f.qb,C #[V (O ⟨g,0,X⟩) mm cap] 138)]++L)) _);have es:=m3.e0;go_wp2_with fail;intro K2 aw;go_wp2_with fail;intro K3 hK3;go_wp2_with fail;(try simp only[Exit.then]);refine Hs (v:= M (O ⟨f.fb,0,X⟩)) (λw'=>by simp[results,results163,go_sem]) (λw' mF=>?_) Ds _ m4;obtain⟨b,ar,aq⟩:=bS HF.out HN.out ad.out (λi hi r hr=>⟨((HRD.out i hi).2.2.2 r hr).1,((HRD.out i hi).2.2.2 r hr).2.2⟩);obtain⟨lm,hm1,ao⟩:=HN.out.mp;refine⟨f.fb,H1,_,b,ib,ic,f.ab,f.sb,f.mb,aa,_,_,Z,HLE.out,mF,⟨?_,?_,⟨lu,ae,lm,?_,hm1,ao⟩,av.out.mono HLE.out,by rw[ad.out.1.1];exact HN.out.rl,λk r hr=>?_,λi hi=>?_⟩,ar,aq⟩
 .exact .tail _ (.tail _ (.tail _ (.head _)))
 .exact .head _
 .exact .tail _ (.tail _ (.head _))
 .have hk:k<c.i.length:=(by rw[<-HN.out.rl,<-ad.out.1.1];exact(uu.1 hr).1);have hrr:BJ aa k=r:=I9 hr;refine⟨by rw[<-hrr];exact ad.out.2.1 k,?_⟩;rw[<-hrr,(ad.out.1.2 k).2];exact(HN.out.row k hk).2.1
 .obtain⟨h1,h2,h3,h4⟩:=HRD.out i hi;exact⟨h1,h2,h3,λr hr=>⟨(h4 r hr).1,(h4 r hr).2.1⟩⟩
