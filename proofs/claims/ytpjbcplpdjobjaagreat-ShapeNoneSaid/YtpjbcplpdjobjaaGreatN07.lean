/- Part 7: SPQ SPR SPS SPT SPU SPV SPW SPX SRA SRC SRD SRE SRF SSA. -/
import Derived.Test.YtpjbcplpdjobjaaGreatN03
import Derived.Deep.CutRange
namespace Go.Proofs.YtpjbcplpdjobjaaGreat
set_option maxRecDepth 100000
set_option maxHeartbeats 0
set_option linter.unusedVariables false
set_option linter.unusedSimpArgs false
set_option linter.unusedSectionVars false
open Go Go.RowKit
open _root_.Go.Proofs.Tryz renaming prog→yA
open _root_.ByteArray renaming empty→yB
open _root_.List renaming length_drop→uA,append_assoc→uB,mem_of_mem_drop→uC,length_set→uF,length_take→uH,eraseIdx_eq_take_drop_succ→uJ,getElem?_take→uM,getElem?_drop→uN,mem_of_mem_take→uO,eq_nil_of_length_eq_zero→uP,take_succ_eq_append_getElem→uQ,getElem_mem→uR,take_of_length_le→uS,setIfInBounds_toArray→uT,set_cons_zero→uU,set_cons_succ→uV,mem_append→uW,mem_singleton→uX,length_eraseIdx_le→uY
open _root_.Nat renaming mul_one→uD,zero_le→uE,le_succ_of_le→uL
open _root_.Int renaming toNat_natCast→uG
open _root_.Array renaming length_toList→uI
open _root_.Go.Region renaming wanted→uK
open _root_.Go.Proofs.Tryz
open Option renaming some→O,none→X
open Bool renaming true→B,false→G
open Decidable renaming decide→T
open _root_.Go renaming Value→V_,World→W_,Calls→K_,execOp→x_,Operand→O_,Program→P_,TypeId→T_,run_underlying→u_,bodyPost_ret→b_,Ending→E_
open _root_.Go.Value renaming slice→V,int→Y,pointer→M,string→U,bool→N
open _root_.Go.IntKind renaming i64→I
open _root_.Go.Obj renaming cells→C
variable {H:Hp} {K:Act->World->Prop} {L L0:List (Nat×Obj)} {P:Program} {Q:Exit->Act->World->Prop} {c:Nat} {o:Oper} {w w' w0:World} {α:Type}
theorem BT.open1 {b:Option Addr} {xs:List ByteArray} (h:BT (V b xs.length c) xs L0) (hx:0<xs.length):∃g lX,b=O ⟨g,0,X⟩/\xs.length<=c/\c<=maxLen/\lX.size=c/\lX.toList.take xs.length=xs.map U/\L0=[(g,C lX 9)]:=by
 rcases h.acc.2 with ⟨_,h2,_⟩|⟨g,cap,lX,h1,h2,h3,h4,h5,rfl⟩
 .omega
 .cases h1;exact⟨g,lX,Z,h2,h3,by simpa using h4,by simpa using h5,Z⟩
theorem BT.row {g c:Nat} {lX:Array V_} {xs:List ByteArray} (h1:xs.length<=c) (h2:c<=maxLen) (h3:lX.size=c) (h4:lX.toList.take xs.length=xs.map U) (h5:∀x∈xs,x.size<=maxLen):
  BT (V (O ⟨g,0,X⟩) xs.length c) xs [(g,C lX 9)]:=
 ⟨⟨by simp,.inr ⟨g,c,lX,Z,h1,h2,by simpa using h3,by simpa using h4,Z⟩⟩,h5⟩
def Dj (lX:Array V_) (k n:Nat):Array V_:=((lX.toList.take k++(lX.toList.drop (k+1)).take (n-(k+1)))++lX.toList.drop (n-1)).toArray
theorem OA (lX:Array V_) (k n:Nat) (hk:k<n) (hn:n<=lX.size):(Dj lX k n).size=lX.size:=by unfold Dj;exact jN
theorem Vz (lX:Array V_) (k n:Nat) (hk:k<n) (hn:n<=lX.size):(Dj lX k n).toList.take (n-1)=(lX.toList.take n).eraseIdx k:=by unfold Dj;rw[List.take_left' (by simp only[List.length_append,uH,uA,uI];omega)];rw[uJ,List.take_take,List.drop_take,Nat.min_eq_left A0]
theorem UC {β:Type} (f:α->β) (l:List α) (k:Nat):(l.map f).eraseIdx k=(l.eraseIdx k).map f:=by rw[uJ,uJ,List.map_append,List.map_take,List.map_drop]
theorem J9 {v':V_} {ops:Array Oper} {a:Act} {E:Prop} (aa:o.guard=X) (s x:O_) (t:T_) (ho:o.op= .call {callee:= .builtin .append,args:=#[s,x],argTypes:=#[t,t]}) (v:V_) (hs:a.eval s=v) (xv:V_) (hx:a.eval x=xv) (hr:(Builtin.append_ #[t,t] o.type #[v,xv]).run P w= .ok v' w') (h:K (a.put o.dst v') w'):if uK o (yielded ops a.tmps)=B then Oper.wp P o a w K Q else E:=by have hw:uK o (yielded ops a.tmps)=true:=(by simp[uK,aa]);rw[p_ hw];unfold Oper.wp x_;simp only[ho,resolve,invoke,builtin,Sem.run_bind,Sem.run_pure,Result.andThen_ok,List.map_toArray,List.map_cons,List.map_nil,hs,hx,hr];exact h
theorem QV (v:V_) (xs:List ByteArray) (k:Nat) (hk:k<xs.length) (h:BT v xs L0) (m:AC w0 H (L0++L) w):K_ yA 145 #[v,Y I k,Y I (k+1)] w λe w'=>∃v' ak,e= .returned v'/\BT v' (xs.eraseIdx k) ak/\AC w0 H (ak++L) w':=by
 obtain⟨b,c,rfl,az,aj⟩:=h.shape;have lf:=h.fit;obtain⟨g,lX,rfl,-,-,lg,htk,rfl⟩:=h.open1 A0;have aj:=A9 aj;have aw:((k:Int)==(k:Int)+1)=false:=bF A0;have au:(k:Int)<xs.length:=A0;go_enter func145,ntmps145;go_wp2_with fail;have av:k<=c:=A0;have ay:(0:Int)<=(k:Int)+1/\(k:Int)+1<=xs.length:=A0;by_cases hck:c=k+1
 .subst hck;have ax:(k:Int)<=(k:Int)+1:=A0;have lZ:lX.toList.length=(k+1):=(by rw[uI];exact lg);refine A6.start (λw'=>w'=w.drew) 6 A7 ?_;have md:=m.drew;generalize w.drew=W at*;have HS:W=W:=Z;refine A6.pu (i:=0) Z HS As ?_;simp only[AO];refine A6.pu (i:=1) Z HS As ?_;simp only[AO];refine A6.pu (i:=2) Z HS As ?_;simp only[AO];refine A6.pu (i:=3) Z HS As ?_;simp only[AO];refine A6.pu (i:=4) Z HS As ?_;simp only[AO];refine A6.pu (i:=5) Z HS As ?_;simp only[AO];have ad:=(md.loc _ (.head _)).1;simp only at ad;obtain⟨ti,ai,aq,ae,ao⟩:=info_parts (P:=yA) (e:=9) (z:= U yB) (size:=1) (bytes:=16) A7;have hnl:((lX.toList.drop (k+1)).take (0)).length=(0)*ti.size:=(by rw[ae,uH,uA];omega)
  have hr:=run_append_room (P:=yA) W 24 24 9 ti underlying24 ai g k ((k+1)) lX ad ⟨g,0,X⟩ (0) (0) ((lX.toList.drop (k+1)).take (0)) hnl (by
   intro j u hu;rw[Addr.add_lit,AU ad];rw[uM] at hu;split at hu
   .rw[uN] at hu
    first
     |(simpa using hu)
     |(exfalso;omega)
   .cases hu) (by
   intro u hu;have al:=uC (uO hu);have af:u∈(lX.toList.take xs.length).drop (k+1):=mg;rw[htk] at af
   exact Cu _ (uC af)) A0 (by rw[hnl,ae];omega)
  have ah:k+(0)=xs.length-1:=A0;rw[hnl,ae,uD,uD,ah] at hr;have ag:(Builtin.append_ #[24,24] 24 #[V (O ⟨g,0,X⟩) k ((k+1)),V (O ⟨g,0,X⟩) (0) (0)]).run yA W= .ok (V (O ⟨g,0,X⟩) (xs.length-1) ((k+1))) (W.setRow g (Dj lX k xs.length)):=(by unfold Dj;rw[(A0:xs.length-(k+1)=0)];exact hr);have md2:AC w0 H ((g,C (Dj lX k xs.length) 9)::L) (W.setRow g (Dj lX k xs.length)):=md.setObj .head Z Z Z (setRow_heap W g lX _ _ _ ad) (λj hj=>setRow_other W g j _ hj);refine A6.one (i:=6) A7 (A6.opIf Z λK hK=>?_);refine J9 Z _ _ 24 Z _ Z _ Z ag ?_;clear hr ag HS;generalize W.setRow g (Dj lX k xs.length)=W2 at*;refine hK _ _ (.inl ⟨6,by decide,by rfl⟩) ?_;clear hK K;(try simp only[AO]);refine A6.one (i:=7) A7 (A6.op Z A7 λK hK=>?_);go_simp;refine hK _ _ (.inl ⟨7,by decide,by rfl⟩) ?_;clear hK K;(try simp only[AO]);refine A6.done A7 ?_ _;have aa:=(md2.loc _ (.head _)).1;simp only at aa;have hds:=OA lX k xs.length hk A0;have hcl:=Lib.run_clear_slice (P:=yA) W2 24 9 0 (U yB) underlying24 (λw=>by go_simp;rfl) Z Z g (xs.length-1) 1 ((k+1)-(xs.length-1)) AD (λj hj=>by rw[AU aa];have:xs.length-1+j<(Dj lX k xs.length).size:=A0;simp[this]) (λj hj=>Bx aa _);have ar:¬(k+1)=xs.length-1:=A0;exact pj
 .skip;have lZ:lX.toList.length=c:=(by rw[uI];exact lg);refine A6.start (λw'=>w'=w.drew) 6 A7 ?_;have md:=m.drew;generalize w.drew=W at*;have HS:W=W:=Z;refine A6.pu (i:=0) Z HS As ?_;simp only[AO];refine A6.pu (i:=1) Z HS As ?_;simp only[AO];refine A6.pu (i:=2) Z HS As ?_;simp only[AO];refine A6.pu (i:=3) Z HS As ?_;simp only[AO];refine A6.pu (i:=4) Z HS As ?_;simp only[AO];refine A6.pu (i:=5) Z HS As ?_;simp only[AO];have ad:=(md.loc _ (.head _)).1;simp only at ad;obtain⟨ti,ai,aq,ae,ao⟩:=info_parts (P:=yA) (e:=9) (z:= U yB) (size:=1) (bytes:=16) A7;have hnl:((lX.toList.drop (k+1)).take (xs.length-(k+1))).length=(xs.length-(k+1))*ti.size:=(by rw[ae,uH,uA];omega)
  have hr:=run_append_room (P:=yA) W 24 24 9 ti underlying24 ai g k (c) lX ad ⟨g,k+1,X⟩ (xs.length-(k+1)) (c-(k+1)) ((lX.toList.drop (k+1)).take (xs.length-(k+1))) hnl (by
   intro j u hu;rw[Addr.add_lit,AU ad];rw[uM] at hu;split at hu
   .rw[uN] at hu
    first
     |(simpa using hu)
     |(exfalso;omega)
   .cases hu) (by
   intro u hu;have al:=uC (uO hu);have af:u∈(lX.toList.take xs.length).drop (k+1):=mg;rw[htk] at af
   exact Cu _ (uC af)) A0 (by rw[hnl,ae];omega)
  have ah:k+(xs.length-(k+1))=xs.length-1:=A0;rw[hnl,ae,uD,uD,ah] at hr;have ag:(Builtin.append_ #[24,24] 24 #[V (O ⟨g,0,X⟩) k (c),V (O ⟨g,k+1,X⟩) (xs.length-(k+1)) (c-(k+1))]).run yA W= .ok (V (O ⟨g,0,X⟩) (xs.length-1) (c)) (W.setRow g (Dj lX k xs.length)):=hr;have md2:AC w0 H ((g,C (Dj lX k xs.length) 9)::L) (W.setRow g (Dj lX k xs.length)):=md.setObj .head Z Z Z (setRow_heap W g lX _ _ _ ad) (λj hj=>setRow_other W g j _ hj);refine A6.one (i:=6) A7 (A6.opIf Z λK hK=>?_);refine J9 Z _ _ 24 Z _ Z _ Z ag ?_;clear hr ag HS;generalize W.setRow g (Dj lX k xs.length)=W2 at*;refine hK _ _ (.inl ⟨6,by decide,by rfl⟩) ?_;clear hK K;(try simp only[AO]);refine A6.one (i:=7) A7 (A6.op Z A7 λK hK=>?_);go_simp;refine hK _ _ (.inl ⟨7,by decide,by rfl⟩) ?_;clear hK K;(try simp only[AO]);refine A6.done A7 ?_ _;have aa:=(md2.loc _ (.head _)).1;simp only at aa;have hds:=OA lX k xs.length hk A0;have hcl:=Lib.run_clear_slice (P:=yA) W2 24 9 0 (U yB) underlying24 (λw=>by go_simp;rfl) Z Z g (xs.length-1) 1 (c-(xs.length-1)) AD (λj hj=>by rw[AU aa];have:xs.length-1+j<(Dj lX k xs.length).size:=A0;simp[this]) (λj hj=>Bx aa _);have ar:¬c=xs.length-1:=A0;exact pj
theorem Vo {H:Hp} {cs:List V_} {xs:List AK} (h:Ai B2 H cs xs):∀u∈cs,u.oneCell'=true:=
 h.oneCell λcs x hx u hu=>by
  obtain⟨sv,rfl,_,b,c,rfl,_⟩:=hx
  simp only[List.mem_cons,List.not_mem_nil,or_false] at hu
  rcases hu with rfl|rfl<;>rfl
def lp (xs:List ByteArray) (w0:W_) (H:Hp) (L:List (Nat×Obj)) (e:E_) (w':W_):Prop:=
 ∃v L0,e= .returned v/\BT v xs L0/\AC w0 H (L0++L) w'
theorem Qc (v:V_) (xs:List ByteArray) (m:AC w0 H L w) (hv:AX Aq H v xs) (hx:xs.length<=100000):K_ yA 97 #[v] w (lp xs w0 H L):=by
 have HV:=A5 hv;obtain⟨b,c,rfl,af,ae,h0,_⟩:=hv;obtain⟨news,hch,ly⟩:=HV.out.src (m.alloc (C #[] 9));have HC:=A5 hch;clear hch;have HS:=A5 ly;clear ly;(have h1:=λw=>Lib.run_eql_slice_nil (P:=yA) w)
 cases b with
 |none=>have ad:=h0 Z;subst ad;have aa:xs=[]:=uP A0;subst aa;clear HV HC HS h0;go_enter func97,ntmps97;go_wp2_with fail;go_ret;exact⟨_,[],Z,BT.nil,m⟩
 |some a=>go_enter func97,ntmps97;go_wp2_with (at_builtin;go_must (refine AG (w0:=w0) (H:=H) (L:=L) Z _ _ 24 Z 9 1 16 (U yB) underlying24 A7 Z AD _ 0 [] ?eJ Z _ xs.length news ?ly Z ?hl ?h1 ?hb ?h63 ?_));(case eJ=>exact AP.row (m.alloc (C #[] 9)) (Nat.le_refl _) AD Z Z);(case ly=>exact HS.out);(case hl=>rw[HC.out.length];rfl);(case h1=>rw[(Gx HC.out).1];exact Cu);(case hb=>omega);(case h63=>unfold maxLen;omega);intro v' w' eJ;obtain⟨b',c',rfl,_,_⟩:=eJ.shape;obtain⟨L0,ho,m2⟩:=BT.of eJ HC.out;go_wp2;go_ret;exact⟨_,L0,by simp,ho,m2⟩
def lF (xs:List AK) (w0:W_) (H:Hp) (L:List (Nat×Obj)) (e:E_) (w':W_):Prop:=
 ∃v rs L0,e= .returned v/\Ba 123 2 v rs.length (CO rs) L0/\Dz H rs xs/\AC w0 H (L0++L) w'
theorem Y6 (v:V_) (xs:List AK) (m:AC w0 H L w) (hv:AX B2 H v xs) (hx:xs.length<=100000):K_ yA 112 #[v] w (lF xs w0 H L):=by
 have HV:=A5 hv;obtain⟨b,c,rfl,ag,af,h0,_⟩:=hv;obtain⟨news,hch,ly⟩:=HV.out.src (m.alloc (C #[] 123));have HC:=A5 hch;clear hch;have HS:=A5 ly;clear ly;(have h1:=λw=>Lib.run_eql_slice_nil (P:=yA) w)
 cases b with
 |none=>have ae:=h0 Z;subst ae;have aa:xs=[]:=uP A0;subst aa;clear HV HC HS h0;go_enter func112,ntmps112;go_wp2_with fail;go_ret;exact⟨_,[],[],Z,Ba.nil,.nil,m⟩
 |some a=>go_enter func112,ntmps112;go_wp2_with (at_builtin;go_must (refine AG (w0:=w0) (H:=H) (L:=L) Z _ _ 22 Z 123 2 40 (.agg #[U yB,V X 0 0]) underlying22 A7 Z AD _ 0 [] ?eJ Z _ xs.length news ?ly Z ?hl ?h1 ?hb ?h63 ?_));(case eJ=>exact AP.row (m.alloc (C #[] 123)) (Nat.le_refl _) AD Z Z);(case ly=>exact HS.out);(case hl=>exact HC.out.length);(case h1=>exact Vo HC.out);(case hb=>omega);(case h63=>unfold maxLen;omega);intro v' w' eJ;obtain⟨b',c',rfl,_,_⟩:=eJ.shape;obtain⟨rs,ad,hr⟩:=Dz.of HC.out;rw[ad,<-hr.length] at eJ;obtain⟨L0,ho,m2⟩:=eJ.split;go_wp2;go_ret;exact⟨_,rs,L0,by rw[hr.length];simp,ho,hr,m2⟩
theorem dM (b:α) (Lr Lc L:List α):(b::(Lr++(Lc++L))).Perm (b::(Lc++([]++(Lr++L)))):=by refine .cons _ ?_;rw[List.nil_append,<-uB,<-uB];exact Wr
theorem rV (b:α) (L0 Lc L:List α):(L0++(b::(Lc++L))).Perm (b::(Lc++(L0++L))):=by refine List.perm_middle.trans (.cons _ ?_);rw[<-uB,<-uB];exact Wr
theorem gT (b:α) (Lc L:List α):(b::(Lc++L)).Perm (Lc++(b::L)):=List.perm_middle.symm
theorem eF (b:α) (Lc L0 Lf R:List α):(Lc++(b::(L0++(Lf++R)))).Perm (b::(Lc++((Lf++L0)++R))):=by refine List.perm_middle.trans (.cons _ (List.Perm.append_left _ ?_));rw[<-uB];exact Wr
theorem RT (l:List α) (k:Nat) (x:α) (h:k<l.length):(l.set k x).take (k+1)=l.take k++[x]:=by rw[uQ CE];simp[List.take_set];rw[List.set_eq_of_length_le Nn]
theorem R8 (l:List α) (k:Nat) (x:α):(l.set k x).drop (k+1)=l.drop (k+1):=by rw[List.drop_set_of_lt A0]
def kP (x:BZ) (w0:W_) (H:Hp) (L:List (Nat×Obj)) (e:E_) (w':W_):Prop:=∃b,e= .returned (M (O ⟨b,0,X⟩))/\NJ rH b x w0 H L w'
theorem Qx (v1 v2:V_) (cs:List AK) (ad:List ByteArray) (m:AC w0 H L w) (ba:AX B2 H v1 cs) (az:AX Aq H v2 ad) (hx1:cs.length<=100000) (bm:ad.length<=100000) (hf:∀c∈cs,c.f.length<=100000):K_ yA 72 #[v1,v2] w (kP ⟨cs,ad⟩ w0 H L):=by
 have H1:=A5 ba;clear ba;have H2:=A5 az;clear az;have HF:=A5 hf;clear hf;go_enter func72,ntmps72;go_wp2_with fail;refine(Y6 v1 cs m H1.out hx1).mono ?_;rintro e w1 ⟨vc,rows,Lc,rfl,af,bd,m1⟩;go_wp2_with fail;refine(Qc v2 ad m1 H2.out bm).mono ?_;rintro e w2 ⟨vr,Lr,rfl,aq,m2⟩;obtain⟨cb,cc,rfl,bp,ax⟩:=af.shape;obtain⟨rb,rc,rfl,bo,bn⟩:=aq.shape;have bb:=A5 bd.length;have bh:=A9 ax;have m3:=m2.alloc (BY rH (V cb rows.length cc) (V rb ad.length rc));generalize hb:w2.heap.size=b at*;have m4:=m3.perm (dM _ _ _ _);have HO:=A5 aq;clear aq;have mu:=m4;unfold BY at mu;have es:=mu.e0;go_wp2_with fail;clear es mu;have HAC:∃aa ag Lf,Ba 123 2 (V cb rows.length cc) aa.length (CO aa) ag/\Hid (aa.length=rows.length)/\Dg (aa.take 0) (cs.take 0) Lf/\Dz H (aa.drop 0) (cs.drop 0)/\AC w0 H ((b,BY rH (V cb rows.length cc) (V rb ad.length rc))::(ag++(Lf++(Lr++L)))) (w2.alloc (BY rH (V cb rows.length cc) (V rb ad.length rc))):=⟨rows,Lc,[],af,A5 Z,by simp;exact .nil,by simpa using bd,m4⟩;(go_loopw [6,18] (λ_ i wr=>∃(k:Nat) (aa:List (ByteArray×V_)) (ag Lf:List (Nat×Obj)),k<=rows.length/\i= Y I k/\Ba 123 2 (V cb rows.length cc) aa.length (CO aa) ag/\Hid (aa.length=rows.length)/\Dg (aa.take k) (cs.take k) Lf/\Dz H (aa.drop k) (cs.drop k)/\AC w0 H ((b,BY rH (V cb rows.length cc) (V rb ad.length rc))::(ag++(Lf++(Lr++L)))) wr) (λ_ i _=>rows.length-(intOf i).toNat));case atStart=>obtain⟨r',l1,l2,a1,a2,a3,a4,a5⟩:=HAC;exact⟨0,r',l1,l2,uE _,Z,a1,a2,a3,a4,a5⟩
 case round=>
  clear HAC m4 m3 m2 m1 af;obtain⟨k,rs,ag,Lf,hk,rfl,af,ao,ak,bc,mk⟩:=hrel;have ak:=A5 ak;by_cases eP:k<rows.length
  .have ll:(k:Int)<rows.length:=A0;have bg:k<cs.length:=(by rw[<-bb.out];exact eP);have ar:k<rs.length:=(by rw[ao.out];exact eP);have au:=II rs k ar;have ai:=bc.get 0 (by rw[uA];omega) (by rw[uA];omega);simp only[List.getElem_drop,Nat.add_zero] at ai;have ah:=A5 ai;clear ai;have ae:rs.length=rows.length:=ao.out;rw[ae] at af;have bj:=A5 ae;clear ae;obtain⟨g,rfl,kF,al,aj,-,-⟩:=af.at Em mk (λp hp=>by simp[hp]);have c1:=kF _ _ au.2;have bk:=A5 au;clear au;generalize bq:rs[k].2=sv at*;have br:=ah.out.2.2.cells1;have ay:=mk;have es:=ay.e7;go_wp2_with fail;clear es ay kF al aj c1;refine A6.start (λw'=>∃L',AC w0 H ((b,BY rH (V (O ⟨g,0,X⟩) rows.length cc) (V rb ad.length rc))::(ag++L')) w') 16 A7 ?_;have md:=mk.drew;clear mk;generalize wr.drew=W at*;have HS:∃L',AC w0 H ((b,BY rH (V (O ⟨g,0,X⟩) rows.length cc) (V rb ad.length rc))::(ag++L')) W:=⟨_,md⟩;refine A6.tk (i:=0) Z HS JA ?_;simp only[AO];refine A6.tk (i:=1) Z HS JA ?_;simp only[AO];refine A6.tk (i:=2) Z HS JA ?_;simp only[AO];refine A6.tk (i:=3) Z HS JA ?_;simp only[AO];refine A6.tk (i:=4) Z HS JA ?_;simp only[AO];refine A6.tk (i:=5) Z HS JA ?_;simp only[AO];refine A6.tk (i:=6) Z HS JA ?_;simp only[AO];refine A6.tk (i:=7) Z HS JA ?_;simp only[AO];refine A6.tk (i:=8) Z HS JA ?_;simp only[AO];refine A6.tk (i:=9) Z HS JA ?_;simp only[AO];refine A6.tk (i:=10) Z HS JA ?_;simp only[AO];refine A6.tk (i:=11) Z HS JA ?_;simp only[AO];refine A6.tk (i:=12) Z HS (by rintro w' ⟨L',hm⟩;have es:=hm.e7;obtain⟨g',av,kF,-,-,-,-⟩:=af.at Em hm (λp hp=>by simp[hp]);cases av;have c1:=kF _ _ bk.out.2;exact LT) ?_;simp only[AO];refine A6.one (i:=13) A7 (A6.op Z A7 λK hK=>?_);go_simp;refine(Qc sv _ md ah.out.2.2 (HF.out _ (uR bg))).mono ?_;rintro e w3 ⟨vn,L0,rfl,bf,m5⟩;have m6:=m5.perm (rV _ _ _ _);refine hK _ _ (.inr ⟨_,m6⟩) ?_;clear hK K HS;(try simp only[AO]);have HS:∃L',AC w0 H ((b,BY rH (V (O ⟨g,0,X⟩) rows.length cc) (V rb ad.length rc))::(ag++L')) w3:=⟨_,m6⟩;obtain⟨nb,nc,rfl,_,_⟩:=bf.shape;refine A6.pu (i:=14) Z HS As ?_;simp only[AO];refine A6.pu (i:=15) Z HS As ?_;simp only[AO];have m7:=m6.perm (gT _ _ _);obtain⟨g',av,kF,al,aj,-,-⟩:=af.at Em m7 (λp hp=>by simp[hp]);cases av;have c1:=kF _ _ bk.out.2;have aw:=al (k*2+1);refine A6.one (i:=16) A7 (A6.op Z A7 λK hK=>?_);go_simp;refine hK _ _ (.inl ⟨16,by decide,by rfl⟩) ?_;clear hK K;(try simp only[AO]);refine A6.done A7 ?_ _;obtain⟨Lc2,hac2,m8⟩:=af.set1 (k:=k*2+1) (x:= V nb cs[k].f.length nc) Em m7;rw[F7 rs k ar] at hac2;have m9:=m8.perm (eF _ _ _ _ _);clear m8 m7 m6 m5 md kF al c1 aw;go_wp2_with fail;go_roundw
   case rel=>
    refine⟨k+1,rs.set k (rs[k].1,V nb cs[k].f.length nc),Lc2,Lf++L0,by omega,by go_num,?_,A5 (by rw[uF];exact bj.out),?_,?_,m9⟩
    .rw[uF,bj.out];exact hac2
    .rw[RT _ _ _ ar,uQ bg];exact ak.out.append (Dg.one ah.out.1 ah.out.2.1 bf)
    .rw[R8];have:=bc.drop 1;simpa[List.drop_drop] using this
   case measure=>exact BW
  .have hge:¬(k:Int)<rows.length:=A0;have hof2:=ak.out;rw[uS (by rw[ao.out];omega),uS (by rw[<-bb.out];omega)] at hof2;have HOF:=A5 hof2;clear hof2;go_wp2_with fail;go_ret;exact⟨b,Z,_,_,rs,ag,Lf,Lr,af,HOF.out,HO.out,mk⟩
variable {rs:List (ByteArray×Value)}
def cX (rs:List (ByteArray×V_)) (cs:List AK):Prop:=rs.length=cs.length/\∀(i:Nat) (hi:i<rs.length) (hj:i<cs.length),rs[i].1=cs[i].name/\∃sb sn sc,rs[i].2= V sb sn sc
theorem Dg.rowsN {cs:List AK} (h:Dg rs cs L):cX rs cs:=by refine⟨h.length,λi hi hj=>?_⟩;obtain⟨⟨h1,_⟩,_,_,_,_,h2,_⟩:=h.at i hi hj;obtain⟨b,c,h3,_⟩:=h2.shape;exact⟨h1,b,_,c,h3⟩
theorem Ba.clsAt {v:V_} {cs:List AK} (h:Ba 123 2 v rs.length (CO rs) L0) (hr:cX rs cs) (m:AC w0 H L w) (hs:∀p,p∈L0->p∈L):YS w v cs:=by obtain⟨b,c,rfl,h1,h2⟩:=h.shape;refine⟨b,c,by rw[hr.1],by rw[<-hr.1];omega,λi hi=>?_⟩;have aa:i<rs.length:=(by rw[hr.1];exact hi);obtain⟨g,rfl,kF,_⟩:=h.at Em m hs;obtain⟨g1,g2⟩:=II rs i aa;obtain⟨e1,e2⟩:=hr.2 i aa hi;exact⟨g,0,rs[i].2,Z,by rw[Nat.zero_add,<-e1];exact kF _ _ g1,by rw[Nat.zero_add];exact kF _ _ g2,e2⟩
theorem Y1 (nm s:ByteArray) (sb:Option Addr) (sn sc bn:Nat) (m:AC w0 H L w) (hL:(bn,C #[U s] 9)∈L):K_ yA 114 #[.agg #[U nm,V sb sn sc],M (O ⟨bn,0,X⟩)] w (Bv w0 H L (N (T (nm=s)))):=by
 have m1:=m.alloc (C #[U nm,V sb sn sc] 123);have aa:=AU (m1.loc _ (List.mem_cons_of_mem _ hL)).1 0;have eP:=Af (m.loc _ hL).1;simp only[List.getElem?_toArray,List.getElem?_cons_zero] at aa;have lI:w.heap.size≠bn:=(by simp only at eP;omega);have es:=m1.e2;by_cases hq:nm=s
 .subst hq;rw[t_ Z];have hb:(nm.toList==nm.toList)=true:=beq_self_eq_true _;go_enter func114,ntmps114;go_wp2_with fail;exact GS
 .rw[f_ hq];(have hb:(nm.toList==s.toList)=false:=bF λe=>hq ((AW _ _).1 e));go_enter func114,ntmps114;go_wp2_with fail;exact GS
theorem P9 (v:V_) (xs:List AK) (s:ByteArray) (bn:Nat) (m:AC w0 H L w) (hL:(bn,C #[U s] 9)∈L) (hv:∀w',AC w0 H L w'->YS w' v xs):K_ yA 113 #[v,.func (.func 114) #[] #[M (O ⟨bn,0,X⟩)]] w (Bv w0 H L (Y I (C3 xs s))):=by
 have HV:=A5 hv;clear hv;obtain⟨b,c,rfl,ad,-⟩:=HV.out w m;have ad:=A9 ad;go_enter func113,ntmps113;go_wp2_with fail;(go_loopw [5,8] (λ_ i wr=>∃k:Nat,k<=xs.length/\i= Y I k/\(xs.take k).all (λx=> !T (x.name=s))=B/\AC w0 H L wr) (λ_ i _=>xs.length-(intOf i).toNat));case atStart=>exact⟨0,uE _,Z,Z,m⟩
 case round=>
  obtain⟨k,hk,rfl,kH,mk⟩:=hrel;have HA:=A5 kH;clear kH;by_cases eP:k<xs.length
  .obtain⟨b',c',af,_,ae⟩:=HV.out wr mk;cases af;obtain⟨kA,off,sv,rfl,kF,aa,sb,sn,sc,rfl⟩:=ae k eP;clear ae;have ll:(k:Int)<xs.length:=A0;go_wp2_with fail;refine(Y1 xs[k].name s sb sn sc bn mk hL).mono ?_;rintro e w1 ⟨rfl,m1⟩;by_cases hq:xs[k].name=s
   .rw[t_ hq];have HQ:=A5 hq;clear hq;go_wp2_with fail;go_ret;exact⟨CH (by unfold C3;rw[KF k eP (t_ HQ.out) HA.out]),m1⟩
   .rw[f_ hq];have HQ:=A5 hq;clear hq;go_wp2_with fail;exact UH
  .have hge:¬(k:Int)<xs.length:=A0;go_wp2_with fail;go_ret;exact⟨CH (by unfold C3;rw[EQ k eP HA.out]),mk⟩
theorem MX (b:Nat) (vc vr:V_) (cs:List AK) (rs:List (ByteArray×V_)) (s:ByteArray) {Lc R:List (Nat×Obj)} (m:AC w0 H ((b,BY rH vc vr)::(Lc++R)) w) (aa:Ba 123 2 vc rs.length (CO rs) Lc) (hr:cX rs cs):K_ yA 73 #[M (O ⟨b,0,X⟩),U s] w (Bv w0 H ((b,BY rH vc vr)::(Lc++R)) (Y I (C3 cs s))):=by have HAC:=A5 aa;have HR:=A5 hr;clear hr;obtain⟨cb,cc,rfl,_,_⟩:=aa.shape;clear aa;have m1:=m.alloc (C #[U s] 9);have mu:=m1;unfold BY at mu;have es:=mu.e2;have ns:=mu.n9;go_enter func73,ntmps73;go_wp2_with fail;refine(P9 _ cs s _ m1 (.head _) (λw' m'=>HAC.out.clsAt HR.out m' (λp hp=>by simp[hp]))).mono ?_;rintro e w1 ⟨rfl,m2⟩;go_wp2_with fail;go_ret;exact⟨Z,m2.drop⟩
def Ar (rts:List ByteArray) (c:AE):Int×List ByteArray:=
 if c.kind=5/\0<=Aw rts c.name then (6,rts)
 else if c.kind=5 then (0,rts++[c.name])
 else if Aw rts c.name<0 then (7,rts)
 else if c.kind=6 then (0,rts.eraseIdx (Aw rts c.name).toNat)
 else if 0<=Aw rts c.to then (6,rts)
 else (0,rts.set (Aw rts c.name).toNat c.to)
theorem LM (x:BZ) (c:AE):x.inRoots c=((Ar x.r c).1,{x with r:=(Ar x.r c).2}):=by unfold BZ.inRoots Ar;(repeat' split);all_goals rfl
def oC (f:V_->Nat×Obj) (r:Int×List ByteArray) (w0:W_) (H:Hp) (R:List (Nat×Obj)) (e:E_) (w':W_):Prop:=
 ∃v L0,e= .returned (Y I r.1)/\BT v r.2 L0/\AC w0 H (f v::(L0++R)) w'
theorem WB (x b:α) (L0 R:List α):(x::b::(L0++R)).Perm (L0++(x::b::R)):=Ah
theorem tS (x y b:α) (L0 R:List α):(y::x::b::(L0++R)).Perm (L0++(y::x::b::R)):=Ah
theorem jY (y x b:α) (R:List α):(y::x::b::R).Perm (x::b::y::R):=Ah
theorem Ov (x b:α) (L0 R:List α):(L0++(x::b::R)).Perm (x::b::(L0++R)):=Ah
theorem Un (b:Nat) (vc vr:V_) (aa:List ByteArray) (c:AE) (hf:c.fit) (hn:aa.length<=100000) {Lr R:List (Nat×Obj)} (ah:BT vr aa Lr) (m:AC w0 H ((b,BY rH vc vr)::(Lr++R)) w) (au:∃cb cn cc,vc= V cb cn cc):K_ yA 119 #[M (O ⟨b,0,X⟩),c.val] w (oC (λv=>(b,BY rH vc v)) (Ar aa c) w0 H R):=by
 obtain⟨cb,cn,cc,rfl⟩:=au;have HF:=A5 hf;clear hf;have HO:=A5 ah;obtain⟨rb,rc,rfl,av,ae⟩:=ah.shape;clear ah;have al:=A9 ae;have m1:=m.alloc (Bs c);generalize hx:w.heap.size=xb at*;unfold Bs at m1;have mu:=m1;unfold BY at mu;have es:=mu.e2;have ns:=mu.n9;unfold AE.val;go_enter func119,ntmps119;go_wp2_with fail;clear es ns mu;refine A6.start (λw'=>w'=(w.alloc (Bs c)).drew) 8 A7 ?_;have md:=m1.drew;unfold Bs at*;generalize hW:(w.alloc (C #[Y .u8 c.kind,U c.name,U c.field,U c.to,Y .u8 c.v.kind,Y I c.v.n,U c.v.s] 71)).drew=W at*;clear m1 m;have HS:W=W:=Z;have mu:=md;unfold BY at mu;have es:=mu.e0;refine A6.tk (i:=0) Z HS BC ?_;simp only[AO];refine A6.tk (i:=1) Z HS BC ?_;simp only[AO];refine A6.tk (i:=2) Z HS BC ?_;simp only[AO];refine A6.tk (i:=3) Z HS BC ?_;simp only[AO];refine A6.tk (i:=4) Z HS BC ?_;simp only[AO];refine A6.tk (i:=5) Z HS BC ?_;simp only[AO];refine A6.one (i:=6) A7 (A6.op Z A7 λK hK=>?_);go_simp;refine(Ml _ aa c.name (HO.out.strsAt md (λp hp=>by simp[hp]))).mono ?_;rintro e w1 ⟨rfl,rfl⟩;refine hK _ _ (.inr Z) ?_;clear hK K;(try simp only[AO]);refine A6.one (i:=7) A7 (A6.op Z A7 λK hK=>?_);go_simp;refine hK _ _ (.inr Z) ?_;clear hK K HS;(try simp only[AO]);refine A6.done A7 ?_ _;have ag:=Cy (λx=>T (x=c.name)) aa;have af:Aw aa c.name=DG (λx=>T (x=c.name)) aa:=Z;rw[<-af] at ag;have ba:=A5 af;clear af;have HPL:=A5 ag;clear ag;generalize ad:Aw aa c.name=ar at*;by_cases h5:c.kind=5
 .have e5:((c.kind:Int)==5)=true:=(by rw[h5];rfl);by_cases hp:0<=ar
  .have HRD:Hid (Ar aa c=(6,aa)):=A5 (by unfold Ar;rw[ad,p_ ⟨h5,hp⟩]);exact gU
  .have HRD:Hid (Ar aa c=(0,aa++[c.name])):=A5 (by unfold Ar;rw[ad,n_ (λh=>hp h.2),p_ h5]);have mu:=md;unfold BY at mu;have es:=mu.e0;go_wp2_with fail;clear es mu;refine A6.start (λw'=>∃L',AC w0 H ((xb,Bs c)::(b,BY rH (V cb cn cc) (V rb aa.length rc))::L') w') 8 A7 ?_;have me:=md.drew;clear md;generalize W.drew=W1 at*;have HS:∃L',AC w0 H ((xb,Bs c)::(b,BY rH (V cb cn cc) (V rb aa.length rc))::L') W1:=⟨_,me⟩;refine A6.pu (i:=0) Z HS As ?_;simp only[AO];refine A6.tk (i:=1) Z HS Sc ?_;simp only[AO];refine A6.tk (i:=2) Z HS Sc ?_;simp only[AO];refine A6.tk (i:=3) Z HS Sc ?_;simp only[AO];refine A6.tk (i:=4) Z HS Sc ?_;simp only[AO];refine A6.tk (i:=5) Z HS Sc ?_;simp only[AO];refine A6.tk (i:=6) Z HS Sc ?_;simp only[AO];refine A6.one (i:=7) A7 (A6.op Z A7 λK hK=>?_);go_simp;have mA:=me.alloc (C #[U c.name] 9);have ak:=mA.perm (jY _ _ _ _);refine hK _ _ (.inr ⟨_,ak⟩) ?_;clear hK K;(try simp only[AO]);have mB:=mA.perm (tS _ _ _ _ _);refine A6.one (i:=8) A7 (A6.opIf Z λK hK=>?_);refine By (w0:=w0) (H:=H) (L:=_::_) Z _ _ 24 Z 9 1 16 (U yB) underlying24 A7 Z AD (.slice rb aa.length rc) aa.length (aa.map U) (HO.out.acc.join mB) Z (V (O ⟨W1.heap.size,0,X⟩) 1 1) 1 [U c.name] (Fr.loc (e:=9) (cs:=[U c.name]) mB (by simp)) Z Z Fu A0 CJ ?_;intro v' w6 eJ;obtain⟨b6,c6,rfl,_,_⟩:=eJ.shape;obtain⟨L3,ai,m7⟩:=eJ.drop.split;have m8:=m7.perm (Ov _ _ _ _);clear eJ m7 mB mA ak me HS;refine hK _ _ (.inl ⟨8,by decide,by rfl⟩) ?_;clear hK K;(try simp only[AO]);have mu:=m8;unfold BY at mu;have es:=mu.e0;refine A6.one (i:=9) A7 (A6.op Z A7 λK hK=>?_);go_simp;refine hK _ _ (.inl ⟨9,by decide,by rfl⟩) ?_;clear hK K;(try simp only[AO]);refine A6.one (i:=10) A7 (A6.op Z A7 λK hK=>?_);go_simp;refine hK _ _ (.inl ⟨10,by decide,by rfl⟩) ?_;clear hK K;(try simp only[AO]);refine A6.one (i:=11) A7 (A6.op Z A7 λK hK=>?_);go_simp;refine hK _ _ (.inl ⟨11,by decide,by rfl⟩) ?_;clear hK K;(try simp only[AO]);refine A6.done A7 ?_ _;have m9:=m8.set (i:=1) (v:= V b6 (aa.length+1) c6) (.tail .head);simp only[uT,uU,uV] at m9;clear es mu;go_wp2_with fail;go_ret;rw[HRD.out];refine⟨_,L3,Z,⟨?_,λx hx=>?_⟩,m9.drop⟩
   .simpa using ai
   .rcases uW.1 hx with hx|hx
    .exact HO.out.fit x hx
    .rw[uX.1 hx];exact HF.out.name
 .have e5:((c.kind:Int)==5)=false:=BL;by_cases hp:ar<0
  .have HRD:Hid (Ar aa c=(7,aa)):=A5 (by unfold Ar;rw[ad,n_ (λh=>h5 h.1),n_ h5,p_ hp]);exact gU
  .rcases HPL.out with ⟨h1,-⟩|⟨k,hk,aw,-⟩
   .omega
   subst aw;by_cases h6:c.kind=6
   .have HRD:Hid (Ar aa c=(0,aa.eraseIdx k)):=A5 (by unfold Ar;rw[ad,n_ (λh=>h5 h.1),n_ h5,n_ hp,p_ h6];rfl);have e6:((c.kind:Int)==6)=true:=(by rw[h6];rfl);have mu:=md;unfold BY at mu;have es:=mu.e0;have ns:=mu.n10;go_wp2_with fail;refine(QV _ aa k hk HO.out (md.perm (WB _ _ _ _))).mono ?_;rintro e w5 ⟨v5,L5,rfl,ao,m5⟩;obtain⟨b5,c5,rfl,_,_⟩:=ao.shape;have m6:=m5.perm (Ov _ _ _ _);clear es ns mu;have mu:=m6;unfold BY at mu;have es:=mu.e0;go_wp2_with fail;have m9:=m6.set (i:=1) (v:= V b5 (aa.eraseIdx k).length c5) (.tail .head);simp only[uT,uU,uV] at m9;go_ret;rw[HRD.out];exact⟨_,L5,Z,ao,m9.drop⟩
   .have e6:((c.kind:Int)==6)=false:=BL;have mu:=md;unfold BY at mu;have es:=mu.e0;have ns:=mu.n10;go_wp2_with fail;clear es ns mu;refine A6.start (λw'=>w'=W.drew) 8 A7 ?_;have me:=md.drew;clear md;generalize W.drew=W1 at*;have HS:W1=W1:=Z;have mu:=me;unfold BY at mu;have es:=mu.e0;have ns:=mu.n10;refine A6.tk (i:=0) Z HS BC ?_;simp only[AO];refine A6.tk (i:=1) Z HS BC ?_;simp only[AO];refine A6.tk (i:=2) Z HS BC ?_;simp only[AO];refine A6.tk (i:=3) Z HS BC ?_;simp only[AO];refine A6.tk (i:=4) Z HS BC ?_;simp only[AO];refine A6.tk (i:=5) Z HS BC ?_;simp only[AO];refine A6.one (i:=6) A7 (A6.op Z A7 λK hK=>?_);go_simp;refine(MK _ aa c.to (HO.out.strsAt me (λp hp=>by simp[hp]))).mono ?_;rintro e w1 ⟨rfl,rfl⟩;refine hK _ _ (.inr Z) ?_;clear hK K;(try simp only[AO]);refine A6.one (i:=7) A7 (A6.op Z A7 λK hK=>?_);go_simp;refine hK _ _ (.inr Z) ?_;clear hK K HS;(try simp only[AO]);refine A6.done A7 ?_ _;by_cases ht:0<=Aw aa c.to
    .have HRD:Hid (Ar aa c=(6,aa)):=A5 (by unfold Ar;rw[ad,n_ (λh=>h5 h.1),n_ h5,n_ A0,n_ h6,p_ ht]);rw[t_ ht];go_wp2_with fail;go_ret;rw[HRD.out];exact⟨_,Lr,Z,HO.out,me.drop⟩
    .have HRD:Hid (Ar aa c=(0,aa.set k c.to)):=A5 (by unfold Ar;rw[ad,n_ (λh=>h5 h.1),n_ h5,n_ A0,n_ h6,n_ ht];rfl);rw[f_ ht];go_wp2_with fail;clear es ns mu;obtain⟨g,rfl,-,-,-,-,-⟩:=HO.out.at hk me (λp hp=>by simp[hp]);have ay:(k:Int)<aa.length:=A0;refine A6.start (λw'=>w'=W1.drew) 8 A7 ?_;have mf:=me.drew;clear me;generalize W1.drew=W2 at*;have HS:W2=W2:=Z;have mu:=mf;unfold BY at mu;have es:=mu.e0;have ns:=mu.n10;refine A6.tk (i:=0) Z HS BC ?_;simp only[AO];refine A6.tk (i:=1) Z HS BC ?_;simp only[AO];refine A6.tk (i:=2) Z HS BC ?_;simp only[AO];refine A6.tk (i:=3) Z HS BC ?_;simp only[AO];refine A6.tk (i:=4) Z HS BC ?_;simp only[AO];refine A6.tk (i:=5) Z HS BC ?_;simp only[AO];refine A6.tk (i:=6) Z HS BC ?_;simp only[AO];refine A6.pu (i:=7) Z HS As ?_;simp only[AO];obtain⟨g',ax,c1,aq,az,-,-⟩:=HO.out.at hk mf (λp hp=>by simp[hp]);cases ax;have aj:=aq k;refine A6.one (i:=8) A7 (A6.op Z A7 λK hK=>?_);go_simp;refine hK _ _ (.inl ⟨8,by decide,by rfl⟩) ?_;clear hK K HS;(try simp only[AO]);refine A6.done A7 ?_ _;obtain⟨L3,ai,m7⟩:=HO.out.set hk c.to HF.out.to (mf.perm (WB _ _ _ _));have m8:=m7.perm (Ov _ _ _ _);clear es ns mu c1 aq aj m7;go_wp2_with fail;go_ret;rw[HRD.out];exact⟨_,L3,Z,ai,m8.drop⟩
variable {i:Nat}
def DE (cs:List AK) (k:Nat):List ByteArray:=match cs[k]? with
 |some c=>c.f
 |none=>[]
def Ae (cs:List AK) (c:AE):Int×List AK:=
 if C3 cs c.name<0 then (7,cs)
 else if c.kind=4 then (if 0<=C3 cs c.to then (6,cs) else (0,cs.set (C3 cs c.name).toNat ⟨c.to,DE cs (C3 cs c.name).toNat⟩))
 else if (AZ (DE cs (C3 cs c.name).toNat) c).1≠0 then ((AZ (DE cs (C3 cs c.name).toNat) c).1,cs)
 else (0,cs.set (C3 cs c.name).toNat ⟨c.name,(AZ (DE cs (C3 cs c.name).toNat) c).2⟩)
theorem If (x:BZ) (c:AE):x.inClasses c=((Ae x.k c).1,{x with k:=(Ae x.k c).2}):=by(have hf:∀k,x.fieldsAt k=DE x.k k:=λk=>rfl);unfold BZ.inClasses Ae;simp only[hf];(repeat' split);all_goals rfl
theorem Bj {cs:List AK} {c:AE} {fs:List ByteArray} (af:C3 cs c.name=(i:Int)) (aa:DE cs i=fs) (h4:¬c.kind=4) {e:Int} {ad:List ByteArray} (ae:AZ fs c=(e,ad)):Ae cs c=if e≠0 then (e,cs) else (0,cs.set i ⟨c.name,ad⟩):=by unfold Ae;rw[af,n_ A0,n_ h4,uG,aa,ae]
theorem FK {cs:List AK} {c:AE} {fs:List ByteArray} (ad:C3 cs c.name=(i:Int)) (aa:DE cs i=fs) (h4:c.kind=4):Ae cs c=if 0<=C3 cs c.to then (6,cs) else (0,cs.set i ⟨c.to,fs⟩):=by unfold Ae;rw[ad,n_ A0,p_ h4,uG,aa]
def eX (b:Nat) (vc vr:V_) (r:Int×List AK) (w0:W_) (H:Hp) (R:List (Nat×Obj)) (e:E_) (w':W_):Prop:=
 ∃rs' Lc' Lf',e= .returned (Y I r.1)/\Ba 123 2 vc rs'.length (CO rs') Lc'/\Dg rs' r.2 Lf'/\AC w0 H ((b,BY rH vc vr)::(Lc'++(Lf'++R))) w'
theorem Vi (x b:α) (Lc L1 L0 L2 R:List α):(x::b::(Lc++((L1++(L0++L2))++R))).Perm (L0++(x::b::(Lc++(L1++(L2++R))))):=Ah
theorem QQ (x b:α) (Lc L1 L0 L2 R:List α):(L0++(x::b::(Lc++(L1++(L2++R))))).Perm (Lc++(x::b::((L1++(L0++L2))++R))):=Ah
theorem MC (x b:α) (Lc F R:List α):(Lc++(x::b::(F++R))).Perm (x::b::(Lc++(F++R))):=Ah
theorem iX (x b:α) (Lc F R:List α):(x::b::(Lc++(F++R))).Perm (Lc++(x::b::(F++R))):=Ah
theorem gJ (y x b:α) (Lc L1 L0 L2 R:List α):(y::x::b::(Lc++((L1++(L0++L2))++R))).Perm (L0++(y::x::b::(Lc++(L1++(L2++R))))):=Ah
theorem dX (y x b:α) (Lc F R:List α):(y::x::b::(Lc++(F++R))).Perm (x::b::(Lc++(y::(F++R)))):=Ah
theorem Vs (x b:α) (Lc F:List α):(x::b::(Lc++F)).Perm (b::(Lc++(x::F))):=Ah
theorem VU (x b:α) (Lc F:List α):(b::(Lc++(x::F))).Perm (x::b::(Lc++F)):=Ah
theorem Qn (b:Nat) (vc vr:V_) (cs:List AK) (rs:List (ByteArray×V_)) (c:AE) (hf:c.fit) (hn:∀x∈cs,x.f.length<=100000) (cv:cs.length<=100000) {Lc Lf R:List (Nat×Obj)} (bm:Ba 123 2 vc rs.length (CO rs) Lc) (ax:Dg rs cs Lf) (m:AC w0 H ((b,BY rH vc vr)::(Lc++(Lf++R))) w) (ca:∃cb cn cc,vr= V cb cn cc):K_ yA 118 #[M (O ⟨b,0,X⟩),c.val] w (eX b vc vr (Ae cs c) w0 H R):=by
 obtain⟨rb,rn,rc,rfl⟩:=ca;have HF:=A5 hf;clear hf;have HN:=A5 hn;clear hn;have HAC:=A5 bm;have HOF:=A5 ax;obtain⟨cb,cc,rfl,cm,bj⟩:=bm.shape;have cu:Hid (rs.length=cs.length):=A5 ax.length;have bz:=A5 ax.rowsN;clear ax bm;have bu:=A9 bj;have m1:=m.alloc (Bs c);generalize hx:w.heap.size=xb at*;have m2:=m1.perm (List.Perm.swap _ _ _);have mu:=m1;unfold BY Bs at mu;have es:=mu.e2;have ns:=mu.n9;have bb:=Cy (λx=>T (x.name=c.name)) cs;have ba:C3 cs c.name=DG (λx=>T (x.name=c.name)) cs:=Z;rw[<-ba] at bb;have da:=A5 ba;clear ba;have HPL:=A5 bb;clear bb;unfold AE.val;go_enter func118,ntmps118;go_wp2_with fail;refine((MX b _ _ cs rs c.name (R:=(xb,Bs c)::(Lf++R)) (m1.perm (Vs _ _ _ _)) HAC.out bz.out)).mono ?_;rintro e w1 ⟨rfl,m3⟩;have m4:=m3.perm (VU _ _ _ _);clear es ns mu m1 m2 m3 m;generalize bk:C3 cs c.name=cr at*;by_cases hp:cr<0
 .have HRD:Hid (Ae cs c=(7,cs)):=A5 (by unfold Ae;rw[bk,p_ hp]);go_wp2_with fail;go_ret;rw[HRD.out];exact⟨rs,Lc,Lf,Z,HAC.out,HOF.out,m4.drop⟩
 .rcases HPL.out with ⟨h1,-⟩|⟨i,hi,ch,hnm⟩
  .omega
  subst ch;have hnm:=o_ hnm;have aq:i<rs.length:=(by rw[cu.out];exact hi);obtain⟨⟨bp,az⟩,L1,L0,L2,cp,bc,ar⟩:=HOF.out.at i aq hi;subst cp;have bf:=II rs i aq;have ah:=A5 bf;clear bf;have ak:=A5 bc;obtain⟨fb,fc,cj,ck,bh⟩:=bc.shape;clear bc;have cy:=HN.out _ (uR hi);have av:DE cs i=cs[i].f:=(by unfold DE;rw[List.getElem?_eq_getElem hi]);have ae:=A5 av;clear av;have aj:=A5 ar;clear ar;have HR1:=A5 bp;clear bp;have HNM:=A5 hnm;clear hnm;have cz:=cs[i].name;generalize br:cs[i].f=fs at*;generalize bo:rs[i].2=fv at*;subst cj;have bx:=A5 bo;clear bo;have dd:=A5 br;clear br;obtain⟨g,rfl,-,-,-,-,-⟩:=HAC.out.at Em m4 (λp hp=>by simp[hp]);have bt:=A9 bh;have cx:(i:Int)<rs.length:=A0;have mu:=m4;unfold BY Bs at mu;have es:=mu.e0;have ns:=mu.n10;go_wp2_with fail;clear es ns mu;have al:=A5 bk;clear bk;refine A6.start (λw'=>w'=w1.drew) 8 A7 ?_;have md:=m4.drew;clear m4;generalize w1.drew=W at*;have HS:W=W:=Z;have mu:=md;unfold BY Bs at mu;have es:=mu.e0;have ns:=mu.n10;obtain⟨g',ad,kF,af,aa,-,-⟩:=HAC.out.at Em md (λp hp=>by simp[hp]);cases ad;have c1:=kF _ _ ah.out.1;have c2:=kF _ _ ah.out.2;clear kF af aa;refine A6.tk (i:=0) Z HS BC ?_;simp only[AO];refine A6.tk (i:=1) Z HS BC ?_;simp only[AO];refine A6.tk (i:=2) Z HS BC ?_;simp only[AO];refine A6.tk (i:=3) Z HS BC ?_;simp only[AO];refine A6.tk (i:=4) Z HS BC ?_;simp only[AO];refine A6.tk (i:=5) Z HS BC ?_;simp only[AO];refine A6.one (i:=6) A7 (A6.op Z A7 λK hK=>?_);go_simp;refine(Ml _ fs c.field (ak.out.strsAt md (λp hp=>by simp[hp]))).mono ?_;rintro e w2 ⟨rfl,rfl⟩;refine hK _ _ (.inr Z) ?_;clear hK K;(try simp only[AO]);refine A6.one (i:=7) A7 (A6.op Z A7 λK hK=>?_);go_simp;refine hK _ _ (.inr Z) ?_;clear hK K HS;(try simp only[AO]);refine A6.done A7 ?_ _;have ao:=Cy (λx=>T (x=c.field)) fs;have au:Aw fs c.field=DG (λx=>T (x=c.field)) fs:=Z;rw[<-au] at ao;have bn:=A5 ao;clear ao au;generalize aw:Aw fs c.field=bw at*;have ag:=A5 aw;clear aw;by_cases k1:c.kind=1
  .have e1:((c.kind:Int)==1)=true:=(by rw[k1];rfl);by_cases hq:0<=bw
   .have HRD:Hid (Ae cs c=(6,cs)):=A5 ((Bj al.out ae.out A0 (show AZ fs c=(6,fs) by unfold AZ;rw[ag.out,p_ k1,p_ hq])).trans Z);go_wp2_with fail;exact WT
   .by_cases h6:6<=fs.length
    .have cq:(6:Int)<=fs.length:=A0;have HRD:Hid (Ae cs c=(8,cs)):=A5 ((Bj al.out ae.out A0 (show AZ fs c=(8,fs) by unfold AZ;rw[ag.out,p_ k1,n_ hq,p_ h6])).trans Z);go_wp2_with fail;exact WT
    .have cq:¬(6:Int)<=fs.length:=A0;have HRD:Hid (Ae cs c=(0,cs.set i ⟨c.name,fs++[c.field]⟩)):=A5 ((Bj al.out ae.out A0 (show AZ fs c=(0,fs++[c.field]) by unfold AZ;rw[ag.out,p_ k1,n_ hq,n_ h6])).trans Z);go_wp2_with fail;clear es ns mu c1 c2;refine A6.start (λw'=>∃L',AC w0 H ((xb,Bs c)::(b,BY rH (V (O ⟨g,0,X⟩) rs.length cc) (V rb rn rc))::(Lc++L')) w') 8 A7 ?_;have me:=md.drew;clear md;generalize W.drew=W1 at*;have HS:∃L',AC w0 H ((xb,Bs c)::(b,BY rH (V (O ⟨g,0,X⟩) rs.length cc) (V rb rn rc))::(Lc++L')) W1:=⟨_,me⟩;refine A6.pu (i:=0) Z HS As ?_;simp only[AO];refine A6.tk (i:=1) Z HS Zy ?_;simp only[AO];refine A6.tk (i:=2) Z HS Zy ?_;simp only[AO];refine A6.tk (i:=3) Z HS Zy ?_;simp only[AO];refine A6.tk (i:=4) Z HS Zy ?_;simp only[AO];refine A6.tk (i:=5) Z HS Zy ?_;simp only[AO];refine A6.tk (i:=6) Z HS Zy ?_;simp only[AO];refine A6.one (i:=7) A7 (A6.op Z A7 λK hK=>?_);go_simp;have mA:=me.alloc (C #[U c.field] 9);refine hK _ _ (.inr ⟨_,mA.perm (dX _ _ _ _ _ _)⟩) ?_;clear hK K;(try simp only[AO]);have mB:=mA.perm (gJ _ _ _ _ _ _ _ _);refine A6.one (i:=8) A7 (A6.opIf Z λK hK=>?_);refine By (w0:=w0) (H:=H) (L:=_::_) Z _ _ 24 Z 9 1 16 (U yB) underlying24 A7 Z AD (.slice fb fs.length fc) fs.length (fs.map U) (ak.out.acc.join mB) Z (V (O ⟨W1.heap.size,0,X⟩) 1 1) 1 [U c.field] (Fr.loc (e:=9) (cs:=[U c.field]) mB (by simp)) Z Z Fu A0 CJ ?_;intro v' w6 eJ;obtain⟨b6,c6,rfl,_,_⟩:=eJ.shape;obtain⟨L3,bd,m7⟩:=eJ.drop.split;have mp:=m7.perm (QQ _ _ _ _ _ _ _);clear eJ m7 mB mA me HS;refine hK _ _ (.inl ⟨8,by decide,by rfl⟩) ?_;clear hK K;(try simp only[AO]);obtain⟨g',ad,kF,af,aa,-,-⟩:=HAC.out.at Em mp (λp hp=>by simp[hp]);cases ad;have c2:=kF _ _ ah.out.2;have ai:=af (i*2+1);clear kF af;refine A6.one (i:=9) A7 (A6.op Z A7 λK hK=>?_);go_simp;refine hK _ _ (.inl ⟨9,by decide,by rfl⟩) ?_;clear hK K;(try simp only[AO]);refine A6.one (i:=10) A7 (A6.op Z A7 λK hK=>?_);go_simp;refine hK _ _ (.inl ⟨10,by decide,by rfl⟩) ?_;clear hK K;(try simp only[AO]);refine A6.one (i:=11) A7 (A6.op Z A7 λK hK=>?_);go_simp;refine hK _ _ (.inl ⟨11,by decide,by rfl⟩) ?_;clear hK K;(try simp only[AO]);refine A6.done A7 ?_ _;obtain⟨Lc2,hac2,m8⟩:=HAC.out.set1 (k:=i*2+1) (x:= V b6 (fs.length+1) c6) Em mp;rw[F7 rs i aq] at hac2
     have bg:BT (V b6 (fs.length+1) c6) (fs++[c.field]) L3:=⟨by simpa using bd,λx hx=>by
      rcases uW.1 hx with hx|hx
      .exact ak.out.fit x hx
      .rw[uX.1 hx];exact HF.out.field⟩
     have hof2:=aj.out rs[i].1 _ _ L3 (by rw[HR1.out];exact az) bg;have m9:=(m8.perm (MC _ _ _ _ _)).drop;clear c2 ai m8 mp;go_wp2_with fail;exact gL
  .have e1:((c.kind:Int)==1)=false:=BL;by_cases k4:c.kind=4
   .have e4:((c.kind:Int)==4)=true:=(by rw[k4];rfl);go_wp2_with fail;refine((MX b _ _ cs rs c.to (R:=(xb,Bs c)::((L1++(L0++L2))++R)) (md.perm (Vs _ _ _ _)) HAC.out bz.out)).mono ?_;rintro e w2 ⟨rfl,m5⟩;have m6:=m5.perm (VU _ _ _ _);clear es ns mu c1 c2 m5;have mu:=m6;unfold BY Bs at mu;have es:=mu.e0;have ns:=mu.n10;obtain⟨g',ad,kF,af,aa,-,-⟩:=HAC.out.at Em m6 (λp hp=>by simp[hp]);cases ad;have c1:=kF _ _ ah.out.1;have ai:=af (i*2);clear kF af;by_cases hq:0<=C3 cs c.to
    .have HRD:Hid (Ae cs c=(6,cs)):=A5 ((FK al.out ae.out k4).trans (p_ hq));go_wp2_with fail;go_ret;rw[HRD.out];exact⟨rs,Lc,_,Z,HAC.out,HOF.out,m6.drop⟩
    .have HRD:Hid (Ae cs c=(0,cs.set i ⟨c.to,fs⟩)):=A5 ((FK al.out ae.out k4).trans (n_ hq));go_wp2_with fail;obtain⟨Lc2,hac2,m8⟩:=HAC.out.set1 (k:=i*2) (x:= U c.to) Em (m6.perm (iX _ _ _ _ _));rw[LQ rs i aq] at hac2;have hof2:=aj.out c.to _ fs L0 HF.out.to ak.out;have m9:=(m8.perm (MC _ _ _ _ _)).drop;go_ret;rw[HRD.out];rw[bx.out] at hac2;exact⟨_,Lc2,_,Z,by rw[uF];exact hac2,hof2,m9⟩
   .have e4:((c.kind:Int)==4)=false:=BL;by_cases hq:bw<0
    .have HRD:Hid (Ae cs c=(7,cs)):=A5 ((Bj al.out ae.out k4 (show AZ fs c=(7,fs) by unfold AZ;rw[ag.out,n_ k1,p_ hq])).trans Z);go_wp2_with fail;exact WT
    .rcases bn.out with ⟨h1,-⟩|⟨k,hk,cg,-⟩
     .omega
     subst cg;have cw:(k:Int)<fs.length:=A0;by_cases k2:c.kind=2
     .have e2:((c.kind:Int)==2)=true:=(by rw[k2];rfl);have HRD:Hid (Ae cs c=(0,cs.set i ⟨c.name,fs.eraseIdx k⟩)):=A5 ((Bj al.out ae.out k4 (show AZ fs c=(0,fs.eraseIdx k) by unfold AZ;rw[ag.out,n_ k1,n_ A0,p_ k2,uG])).trans Z);go_wp2_with fail;refine(QV _ fs k hk ak.out (md.perm (Vi _ _ _ _ _ _ _))).mono ?_;rintro e w5 ⟨v5,L5,rfl,bq,m5⟩;obtain⟨b5,c5,rfl,_,_⟩:=bq.shape;have mp:=m5.perm (QQ _ _ _ _ _ _ _);clear es ns mu c1 c2 m5;obtain⟨g',ad,kF,af,aa,-,-⟩:=HAC.out.at Em mp (λp hp=>by simp[hp]);cases ad;have c2:=kF _ _ ah.out.2;have ai:=af (i*2+1);clear kF af;go_wp2_with fail;obtain⟨Lc2,hac2,m8⟩:=HAC.out.set1 (k:=i*2+1) (x:= V b5 (fs.eraseIdx k).length c5) Em mp;rw[F7 rs i aq] at hac2;have hof2:=aj.out rs[i].1 _ _ L5 (by rw[HR1.out];exact az) bq;have m9:=(m8.perm (MC _ _ _ _ _)).drop;exact gL
     .have e2:((c.kind:Int)==2)=false:=BL;go_wp2_with fail;clear es ns mu c1 c2;refine A6.start (λw'=>w'=W.drew) 8 A7 ?_;have me:=md.drew;clear md;generalize W.drew=W1 at*;have HS:W1=W1:=Z;have mu:=me;unfold BY Bs at mu;have es:=mu.e0;have ns:=mu.n10;obtain⟨g',ad,kF,af,aa,-,-⟩:=HAC.out.at Em me (λp hp=>by simp[hp]);cases ad;have c2:=kF _ _ ah.out.2;clear kF af;refine A6.tk (i:=0) Z HS BC ?_;simp only[AO];refine A6.tk (i:=1) Z HS BC ?_;simp only[AO];refine A6.tk (i:=2) Z HS BC ?_;simp only[AO];refine A6.tk (i:=3) Z HS BC ?_;simp only[AO];refine A6.tk (i:=4) Z HS BC ?_;simp only[AO];refine A6.tk (i:=5) Z HS BC ?_;simp only[AO];refine A6.one (i:=6) A7 (A6.op Z A7 λK hK=>?_);go_simp;refine(MK _ fs c.to (ak.out.strsAt me (λp hp=>by simp[hp]))).mono ?_;rintro e w2 ⟨rfl,rfl⟩;refine hK _ _ (.inr Z) ?_;clear hK K;(try simp only[AO]);refine A6.one (i:=7) A7 (A6.op Z A7 λK hK=>?_);go_simp;refine hK _ _ (.inr Z) ?_;clear hK K HS;(try simp only[AO]);refine A6.done A7 ?_ _;by_cases ht:0<=Aw fs c.to
      .have HRD:Hid (Ae cs c=(6,cs)):=A5 ((Bj al.out ae.out k4 (show AZ fs c=(6,fs) by unfold AZ;rw[ag.out,n_ k1,n_ A0,n_ k2,p_ ht])).trans Z);rw[t_ ht];go_wp2_with fail;go_ret;rw[HRD.out];exact⟨rs,Lc,_,Z,HAC.out,HOF.out,me.drop⟩
      .have HRD:Hid (Ae cs c=(0,cs.set i ⟨c.name,fs.set k c.to⟩)):=A5 ((Bj al.out ae.out k4 (show AZ fs c=(0,fs.set k c.to) by unfold AZ;rw[ag.out,n_ k1,n_ A0,n_ k2,n_ ht,uG])).trans Z);rw[f_ ht];go_wp2_with fail;clear es ns mu c2;obtain⟨q,rfl,-,-,-,-,-⟩:=ak.out.at hk me (λp hp=>by simp[hp]);refine A6.start (λw'=>w'=W1.drew) 8 A7 ?_;have mf:=me.drew;clear me;generalize W1.drew=W2 at*;have HS:W2=W2:=Z;have mu:=mf;unfold BY Bs at mu;have es:=mu.e0;have ns:=mu.n10;obtain⟨g',ad,kF,af,aa,-,-⟩:=HAC.out.at Em mf (λp hp=>by simp[hp]);cases ad;have c2:=kF _ _ ah.out.2;clear kF af;refine A6.tk (i:=0) Z HS BC ?_;simp only[AO];refine A6.tk (i:=1) Z HS BC ?_;simp only[AO];refine A6.tk (i:=2) Z HS BC ?_;simp only[AO];refine A6.tk (i:=3) Z HS BC ?_;simp only[AO];refine A6.tk (i:=4) Z HS BC ?_;simp only[AO];refine A6.tk (i:=5) Z HS BC ?_;simp only[AO];refine A6.tk (i:=6) Z HS BC ?_;simp only[AO];refine A6.pu (i:=7) Z HS As ?_;simp only[AO];obtain⟨q',cd,d1,af,bf,-,-⟩:=ak.out.at hk mf (λp hp=>by simp[hp]);cases cd;have ai:=af k;refine A6.one (i:=8) A7 (A6.op Z A7 λK hK=>?_);go_simp;refine hK _ _ (.inl ⟨8,by decide,by rfl⟩) ?_;clear hK K HS;(try simp only[AO]);refine A6.done A7 ?_ _;obtain⟨L3,bd,m7⟩:=ak.out.set hk c.to HF.out.to (mf.perm (Vi _ _ _ _ _ _ _));have mp:=m7.perm (QQ _ _ _ _ _ _ _);have m8:=(mp.perm (MC _ _ _ _ _)).drop;have cf:BT (V (O ⟨q,0,X⟩) fs.length fc) (fs.set k c.to) L3:=bd;have hof2:=aj.out rs[i].1 _ _ L3 (by rw[HR1.out];exact az) cf;have ay:rs.set i (rs[i].1,V (O ⟨q,0,X⟩) fs.length fc)=rs:=(by rw[<-bx.out];exact List.set_getElem_self aq);rw[ay] at hof2;clear es ns mu c2 d1 af ai m7 mp;go_wp2_with fail;go_ret;rw[HRD.out];exact⟨rs,Lc,_,Z,HAC.out,by rw[<-HNM.out,<-HR1.out];exact hof2,m8⟩
variable {n:Nat}
structure BZ.fit (x:BZ) (n:Nat):Prop where
 r:x.r.length<=n
 k:x.k.length<=50000
 f:∀c∈x.k,c.f.length<=50000
theorem RV (aa:List ByteArray) (c:AE):(Ar aa c).2.length<=aa.length+1:=by
 unfold Ar;(repeat' split);all_goals simp
 .exact uL (uY _ _)
theorem Pa (fs:List ByteArray) (c:AE) (h:fs.length<=50000):(AZ fs c).2.length<=50000:=by unfold AZ;(repeat' split);(all_goals simp);all_goals first|exact h|omega|exact Nat.le_trans (uY _ _) h
theorem MI {cs:List AK} (h:∀c∈cs,c.f.length<=50000) (k:Nat):(DE cs k).length<=50000:=by
 unfold DE;split
 .rename_i c hc;exact h c (List.mem_of_getElem? hc)
 .simp
theorem ON {cs:List AK} (h1:cs.length<=50000) (h:∀c∈cs,c.f.length<=50000) (c:AE):(Ae cs c).2.length<=50000/\∀x∈(Ae cs c).2,x.f.length<=50000:=by
 have aa:∀(k:Nat) (y:AK),y.f.length<=50000->(cs.set k y).length<=50000/\∀x∈cs.set k y,x.f.length<=50000:=λk y hy=>by
  refine⟨by rw[uF];exact h1,λx hx=>?_⟩;rcases List.mem_or_eq_of_mem_set hx with hx|rfl
  .exact h x hx
  .exact hy
 unfold Ae;repeat' split
 all_goals first
  |exact⟨h1,h⟩
  |exact aa _ _ (MI h _)
  |exact aa _ _ (Pa _ _ (MI h _))
theorem BZ.fit.done {x:BZ} (h:x.fit n) (c:AE):(x.done c).2.fit (n+1):=by
 unfold BZ.done;split
 .exact⟨uL h.r,h.k,h.f⟩
 .split
  .rw[LM];exact⟨Nat.le_trans (RV _ _) (Nat.succ_le_succ h.r),h.k,h.f⟩
  .rw[If];obtain⟨h1,h2⟩:=ON h.k h.f c;exact⟨uL h.r,h1,h2⟩
theorem BZ.done_form {x:BZ} {c:AE} (h:c.form=G):x.done c=(4,x):=by unfold BZ.done;rw[p_ h]
theorem BZ.done_roots {x:BZ} {c:AE} (h:c.form=B) (h5:5<=c.kind):x.done c=((Ar x.r c).1,{x with r:=(Ar x.r c).2}):=by unfold BZ.done;rw[n_ (by simp[h]),p_ h5,LM]
theorem BZ.done_classes {x:BZ} {c:AE} (h:c.form=B) (h5:¬5<=c.kind):x.done c=((Ae x.k c).1,{x with k:=(Ae x.k c).2}):=by unfold BZ.done;rw[n_ (by simp[h]),n_ h5,If]
theorem BZ.apply_bad {x:BZ} {c:AE} {l:List AE} {e:Int} {y:BZ} (h:x.done c=(e,y)) (he:e≠0):x.apply n (c::l)=(x,n,e):=by simp only[BZ.apply,h,ne_eq,he,not_false_iff,if_true]
theorem BZ.apply_good {x:BZ} {c:AE} {l:List AE} {y:BZ} (h:x.done c=(0,y)):x.apply n (c::l)=y.apply (n+1) l:=by simp only[BZ.apply,h,ne_eq,not_true,if_false]
theorem RU {aa:List ByteArray} {c:AE} (h:(Ar aa c).1≠0):(Ar aa c).2=aa:=by revert h;unfold Ar;(repeat' split);all_goals simp
theorem OT {cs:List AK} {c:AE} (h:(Ae cs c).1≠0):(Ae cs c).2=cs:=by revert h;unfold Ae;(repeat' split);all_goals simp
def oY (b:Nat) (r:BZ×Nat×Int) (w0:W_) (H:Hp) (L:List (Nat×Obj)) (e:E_) (w':W_):Prop:=
 e= .returned (.tuple #[Y I r.2.1,Y I r.2.2])/\NJ rH b r.1 w0 H L w'
theorem jJ (x b:α) (Lc Lf Lr L:List α):(x::b::(Lc++(Lf++(Lr++L)))).Perm (b::(Lr++(Lc++(Lf++(x::L))))):=Ah
theorem iF (x b:α) (Lc Lf Lr L:List α):(b::(Lr++(Lc++(Lf++(x::L))))).Perm (x::b::(Lc++(Lf++(Lr++L)))):=Ah
theorem jW (x b:α) (Lc Lf Lr L:List α):(x::b::(Lc++(Lf++(Lr++L)))).Perm (b::(Lc++(Lf++(Lr++(x::L))))):=Ah
theorem fN (x b:α) (Lc Lf Lr L:List α):(b::(Lc++(Lf++(Lr++(x::L))))).Perm (x::b::(Lc++(Lf++(Lr++L)))):=Ah
theorem aB (b:Nat) (x:BZ) (v:V_) (cs:List AE) (hx:x.fit 50000) (bc:cs.length<=1000) (hl:NJ rH b x w0 H L w) (hv:AX CB H v cs):K_ yA 78 #[M (O ⟨b,0,X⟩),v] w (oY b (x.apply 0 cs) w0 H L):=by
 have HV:=A5 hv;obtain⟨vb,ba,rfl,_,al,_,_⟩:=hv;have al:=A9 al;go_enter func78,ntmps78;go_wp2_with fail;(go_loopw [6,7,8,9,12] (λ_ _ _ _ i wr=>∃(k:Nat) (y:BZ),k<=cs.length/\i= Y I k/\Hid (y.fit (50000+k))/\NJ rH b y w0 H L wr/\Hid (y.apply k (cs.drop k)=x.apply 0 cs)) (λ_ _ _ _ i _=>cs.length-(intOf i).toNat));case atStart=>exact⟨0,x,uE _,Z,A5 (by simpa using hx),hl,A5 Z⟩
 case round=>
  clear hl;obtain⟨k,y,hk,rfl,lf,hl,aj⟩:=hrel;by_cases eP:k<cs.length
  .have ll:(k:Int)<cs.length:=A0;have ar:cs.drop k=cs[k]::cs.drop (k+1):=List.drop_eq_getElem_cons eP;have HAP:=A5 aj.out;clear aj;obtain⟨kA,off,rfl,kF,hcf⟩:=HV.out.getChange eP;generalize bd:cs[k]=c at*;have HDR:=A5 ar;clear ar;obtain⟨vc,vr,rs,Lc,Lf,Lr,ah,ai,ae,m⟩:=hl;have HCF:=A5 hcf;clear hcf;have c0:=(kF 0 _ Z).cell m;rw[Nat.add_zero] at c0;have c1:=(kF 1 _ Z).cell m;have c2:=(kF 2 _ Z).cell m;have c3:=(kF 3 _ Z).cell m;have c4:=(kF 4 _ Z).cell m;have c5:=(kF 5 _ Z).cell m;have c6:=(kF 6 _ Z).cell m;clear kF;go_wp2_with fail;have mA:=m.alloc (Bs c);unfold Bs at mA;clear c0 c1 c2 c3 c4 c5 c6 m;generalize bb:wr.heap.size=xb at*;refine(PK c HCF.out mA).mono ?_;rintro e w1 ⟨rfl,m1⟩;clear mA;obtain⟨cb,cc,rfl,-,-⟩:=ah.shape;obtain⟨rb,rc,rfl,-,-⟩:=ae.shape;have es:=m1.e0;cases ad:c.form
   .have az:=A5 ad;go_wp2_with fail;go_ret2;rw[<-HAP.out,HDR.out,BZ.apply_bad (BZ.done_form az.out) AD];exact⟨Z,_,_,rs,Lc,Lf,Lr,ah,ai,ae,m1.drop⟩
   by_cases h5:5<=c.kind
   .have ay:(5:Int)<=c.kind:=A0;go_wp2_with fail;clear es;refine(Un b _ _ y.r c HCF.out (by have:=lf.out.r;omega) ae (m1.perm (jJ _ _ _ _ _ _)) ⟨_,_,_,Z⟩).mono ?_;rintro e w2 ⟨v5,L5,rfl,ao,m2⟩;have m3:=m2.perm (iF _ _ _ _ _ _);have HD:=A5 (BZ.done_roots ad h5:y.done c=_);by_cases he:(Ar y.r c).1=0
    .have HE:=A5 he;have HN:=A5 (lf.out.done c);rw[he];clear he;go_wp2_with fail;go_roundw
     case rel=>
      refine⟨k+1,{y with r:=(Ar y.r c).2},by omega,by go_num,?_,⟨_,v5,rs,Lc,Lf,L5,ah,ai,ao,m3.drop⟩,?_⟩
      .have:=HN.out;rw[HD.out] at this;exact A5 this
      .exact tF
     case measure=>exact BW
    .have aa:=A5 (RU he);have HE:=A5 he;generalize aw:(Ar y.r c).1=er at*;have hb:(er==0)=false:=NT;have ax:(er !=0)=true:=NT;clear he;go_wp2_with fail;go_ret2;rw[<-HAP.out,HDR.out];have h9:=HD.out;rw[BZ.apply_bad h9 HE.out];exact⟨Z,⟨_,v5,rs,Lc,Lf,L5,ah,ai,by rw[<-aa.out];exact ao,m3.drop⟩⟩
   .have ay:¬(5:Int)<=c.kind:=A0;go_wp2_with fail;clear es;refine(Qn b _ _ y.k rs c HCF.out (λz hz=>by have:=lf.out.f z hz;omega) (by have:=lf.out.k;omega) ah ai (m1.perm (jW _ _ _ _ _ _)) ⟨_,_,_,Z⟩).mono ?_;rintro e w2 ⟨ak,av,au,rfl,ag,af,m2⟩;have m3:=m2.perm (fN _ _ _ _ _ _);have HD:=A5 (BZ.done_classes ad h5:y.done c=_);by_cases he:(Ae y.k c).1=0
    .have HE:=A5 he;have HN:=A5 (lf.out.done c);rw[he];clear he;go_wp2_with fail;go_roundw
     case rel=>
      refine⟨k+1,{y with k:=(Ae y.k c).2},by omega,by go_num,?_,⟨_,_,ak,av,au,Lr,ag,af,ae,m3.drop⟩,?_⟩
      .have:=HN.out;rw[HD.out] at this;exact A5 this
      .exact tF
     case measure=>exact BW
    .have aa:=A5 (OT he);have HE:=A5 he;generalize aw:(Ae y.k c).1=er at*;have hb:(er==0)=false:=NT;have ax:(er !=0)=true:=NT;clear he;go_wp2_with fail;go_ret2;rw[<-HAP.out,HDR.out];have h9:=HD.out;rw[BZ.apply_bad h9 HE.out];exact⟨Z,⟨_,_,ak,av,au,Lr,ag,by rw[<-aa.out];exact af,ae,m3.drop⟩⟩
  .have hge:¬(k:Int)<cs.length:=A0;have aq:k=cs.length:=A0;have HAP:Hid (x.apply 0 cs=(y,k,0)):=A5 (by rw[<-aj.out,List.drop_of_length_le A0];rfl);have HK:=A5 aq;clear aq aj;go_wp2_with fail;go_ret2;rw[HAP.out];exact⟨by rw[<-HK.out];rfl,hl⟩
structure rC where
 lay:BZ
 n:Nat
 e:Int
def DA (x:BZ) (l:List AE):rC:=if 60<l.length then ⟨⟨[],[]⟩,0,5⟩ else ⟨(x.apply 0 l).1,(x.apply 0 l).2.1,(x.apply 0 l).2.2⟩





def qw (w0:W_) (H:Hp) (L:List (Nat×Obj)) (p:Bool->Prop) (e:E_) (w':W_):Prop:=∃b,p b/\Bv w0 H L (N b) e w'
theorem OF (v:V_) (cs:List AE) (m:AC w0 H L w) (h1:AX CB H v cs):K_ yA 35 #[v] w (qw w0 H L λb=>b=B->cs.length<=64):=by
 have H1:=A5 h1;obtain⟨b1,c1,rfl,ad,hx1,_,_⟩:=h1;have hx1:=A9 hx1;go_enter func35,ntmps35;go_wp2_with fail;(go_loopw [3] (λi wr=>∃(k:Nat),k<=cs.length/\i= Y I k/\AC w0 H L wr) (λi _=>cs.length-(intOf i).toNat));case atStart=>exact⟨0,uE _,Z,m⟩
 case round=>
  clear m;obtain⟨k,hk,rfl,m⟩:=hrel;by_cases eP:k<cs.length
  .have ll:(k:Int)<cs.length:=A0;obtain⟨kA,off,rfl,kF,hcf⟩:=H1.out.getChange eP;generalize cs[k]=c at*;have HCF:=A5 hcf;have z1:=hcf.name;have z2:=hcf.field;have z3:=hcf.to;have z4:=hcf.v.s;clear hcf;have a1:=(kF 1 _ Z).cell m;have a2:=(kF 2 _ Z).cell m;have a3:=(kF 3 _ Z).cell m;have a6:=(kF 6 _ Z).cell m;clear kF;by_cases g1:300<c.name.size
   .have ai:(300:Int)<c.name.size:=A0;go_wp2_with fail;exact TP
   have ai:¬(300:Int)<c.name.size:=A0;by_cases g2:300<c.field.size
   .have ah:(300:Int)<c.field.size:=A0;go_wp2_with fail;exact TP
   have ah:¬(300:Int)<c.field.size:=A0;by_cases g3:300<c.to.size
   .have ag:(300:Int)<c.to.size:=A0;go_wp2_with fail;exact TP
   have ag:¬(300:Int)<c.to.size:=A0;by_cases g4:300<c.v.s.size
   .have af:(300:Int)<c.v.s.size:=A0;go_wp2_with fail;exact TP
   have af:¬(300:Int)<c.v.s.size:=A0;go_wp2_with fail;go_roundw;(case rel=>exact⟨k+1,by omega,by go_num,m⟩);case measure=>exact BW
  .have hge:¬(k:Int)<cs.length:=A0;by_cases ae:cs.length<=64
   .have aa:(cs.length:Int)<=64:=A0;go_wp2_with fail;go_ret;exact⟨B,(by first|trivial|exact λ_=>ae),⟨Z,m⟩⟩
   have aa:¬(cs.length:Int)<=64:=A0;go_wp2_with fail;go_ret;exact⟨G,(by first|rfl|(intro h;cases h)),⟨Z,m⟩⟩
