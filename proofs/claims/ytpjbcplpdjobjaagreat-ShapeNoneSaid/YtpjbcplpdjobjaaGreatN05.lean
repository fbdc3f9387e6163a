/- Part 5: PCK PCL RFN PCU PCY PCZ PPF PLS PLL PPG PPH PCV PCW. -/
import Derived.Test.YtpjbcplpdjobjaaGreatN03
namespace Go.Proofs.YtpjbcplpdjobjaaGreat
set_option maxRecDepth 100000
set_option maxHeartbeats 0
set_option linter.unusedVariables false
set_option linter.unusedSimpArgs false
set_option linter.unusedSectionVars false
open Go Go.RowKit
open _root_.Go.Proofs.Tryz renaming prog→yA
open _root_.List renaming mem_singleton→yB,nil_append→uA,cons_append→uB,drop_succ_cons→uC,drop_zero→uD,getD_eq_getElem?_getD→uE,range→uF,length_cons→uG,length_nil→uH,setIfInBounds_toArray→uI,set_cons_succ→uJ,set_cons_zero→uM,toList_toArray→uN,getElem?_eq_getElem→uO,getElem_mem→uS,mem_append→uU,foldl_append→uW,mem_cons→uX,take_succ_cons→uZ,getElem?_set_ne→ud,take_succ_eq_append_getElem→uh,take_zero→ui,take_of_length_le→uj,getElem?_take→un,mem_append_right→ur,flatMap_nil→uu,size_toArray→uv,append_assoc→uy,not_mem_nil→uz,map_append→vA,ext_getElem?→vH,length_take→vI,getElem?_map→vJ,perm_middle→vL,getElem?_cons_zero→vM,flatMap_cons→vN,append_nil→vP,set_eq_of_length_le→vR,getElem?_set_self→vU,any_cons→vV,getElem?_eraseIdx→vj,getElem?_eq_none→vm,length_eraseIdx→vp,length_append→vt,eq_nil_of_length_eq_zero→vu,length_map→vv,any_nil→vx,length_set→vy,range_succ→vz,mem_range→wB,mem_of_mem_eraseIdx→wC,mem_eraseIdx_iff_getElem→wD
open _root_.Go.World renaming size_alloc→uK,drew→uV,size_setCell→vB
open _root_.Nat renaming zero_le→uL,zero_add→uP,and_le_left→uQ,add_zero→uT,lt_of_le_of_lt→uY,le_refl→vD,lt_succ_iff_lt_or_eq→vE
open _root_.Bool renaming and_eq_true→uR,or_false→vG,eq_iff_iff→vW
open _root_.Array renaming getElem?_eq_getElem→ul,getElem?_eq_none→um,getElem?_toList→uq,ext_getElem?→vZ,getElem?_setIfInBounds→ve,size_setIfInBounds→vh,length_toList→vq
open _root_.ByteArray renaming empty→ut
open _root_.Option renaming getD_some→vF
open _root_.Prod renaming fst→vQ
open _root_.Go.Op renaming eqItems→vS
open _root_.Int renaming tdiv_eq_ediv_of_nonneg→vX,tmod_eq_emod_of_nonneg→vY,toNat_natCast→wA
open _root_.Go.Proofs.Tryz
open Option renaming some→O,none→X
open Bool renaming true→B,false→G
open Decidable renaming decide→T
open _root_.Go renaming Value→V_,World→W_,Calls→K_,execOp→x_,Operand→O_,Program→P_,TypeId→T_,run_underlying→u_,bodyPost_ret→b_,Ending→E_
open _root_.Go.Value renaming slice→V,int→Y,pointer→M,string→U,bool→N
open _root_.Go.IntKind renaming i64→I
open _root_.Go.Obj renaming cells→C
variable {H:Hp} {L:List (Nat×Obj)} {k q:Nat} {w w0:World}
structure W4 where
 a:Nat
 b:Nat
 c:Nat
 d:Nat
def W4.l (x:W4):List Nat:=[x.a,x.b,x.c,x.d]
def W4.vs (x:W4):List V_:=[Y .u64 (x.a:Int),Y .u64 (x.b:Int),Y .u64 (x.c:Int),Y .u64 (x.d:Int)]
def W4.of (l:List Nat):W4:=⟨l.getD 0 0,l.getD 1 0,l.getD 2 0,l.getD 3 0⟩
structure W4.fit (x:W4):Prop where
 a:x.a<18446744073709551616
 b:x.b<18446744073709551616
 c:x.c<18446744073709551616
 d:x.d<18446744073709551616
def W4.has (x:W4) (r:Nat):Bool:=(x.l.getD (r/64) 0).testBit (r%64)
def W4.put (x:W4) (q y:Nat):W4:=W4.of (x.l.set q y)
def W4.with1 (x:W4) (r:Nat):W4:=x.put (r/64) (x.l.getD (r/64) 0|||2^(r%64))
def W4.with' (x:W4) (l:List Int):W4:=l.foldl (λx r=>x.with1 r.toNat) x
theorem W4.fit_get {x:W4} (h:x.fit) (q:Nat):x.l.getD q 0<18446744073709551616:=by
 rcases q with _|_|_|_|q
 .exact h.a
 .exact h.b
 .exact h.c
 .exact h.d
 .show(0:Nat)<18446744073709551616;omega
theorem W4.fit_put {x:W4} (h:x.fit) (q y:Nat) (hy:y<18446744073709551616):(x.put q y).fit:=by
 rcases q with _|_|_|_|q
 .exact⟨hy,h.b,h.c,h.d⟩
 .exact⟨h.a,hy,h.c,h.d⟩
 .exact⟨h.a,h.b,hy,h.d⟩
 .exact⟨h.a,h.b,h.c,hy⟩
 .exact h
theorem W4.get_vs (x:W4) (hq:q<4) (h:q<x.vs.length):x.vs[q]= Y .u64 ((x.l.getD q 0:Nat):Int):=by exact Wd
theorem W4.set_vs (x:W4) (hq:q<4) (y:Nat):x.vs.toArray.setIfInBounds q (Y .u64 (y:Int))=(x.put q y).vs.toArray:=by exact Wd
theorem W4.l_put (x:W4) (hq:q<4) (y:Nat):(x.put q y).l=x.l.set q y:=by exact Wd
theorem QD {s:Nat} (h:s<64):2^s<18446744073709551616:=by have:(2:Nat)^s<=2^63:=Nat.pow_le_pow_right A0 A0;have h2:(2:Nat)^63=9223372036854775808:=(by rfl);omega
theorem W4.fit_with1 {x:W4} (h:x.fit) (r:Nat):(x.with1 r).fit:=by refine W4.fit_put h _ _ ?_;have h1:=W4.fit_get h (r/64);have h2:=QD (s:=r%64) A0;have h3:(18446744073709551616:Nat)=2^64:=(by rfl);rw[h3] at h1 h2⊢;exact Nat.or_lt_two_pow h1 h2
theorem W4.fit_with {l:List Int}:∀{x:W4},x.fit->(x.with' l).fit:=by
 induction l with
 |nil=>exact λh=>h
 |cons r l ih=>exact λh=>ih (W4.fit_with1 h r.toNat)
theorem W4.has_with1 (x:W4) {r r':Nat} (hr:r<256) (aa:r'<256):(x.with1 r).has r'=(x.has r'||T (r=r')):=by
 have hq:r/64<4:=A0;unfold W4.has W4.with1;rw[W4.l_put x hq];have lZ:x.l.length=4:=Z;by_cases e:r/64=r'/64
 .rw[e,uE,vU (by rw[lZ];omega)];simp only[vF,Nat.testBit_or,Nat.testBit_two_pow];congr 1;exact We
 .rw[uE,ud e,<-uE,f_ (by intro e2;exact e (by rw[e2])),vG]
theorem W4.has_with {l:List Int}:∀(x:W4),(∀r∈l,0<=r/\r<256)->∀{r':Nat},r'<256->(x.with' l).has r'=(x.has r'||l.any λr=>T (r=r')):=by
 induction l with
 |nil=>intro x _ r' _;simp[W4.with']
 |cons r l ih=>intro x h r' aa;have h1:=h r (.head _);show((x.with1 r.toNat).with' l).has r'=_;rw[ih (x.with1 r.toNat) (λy hy=>h y (.tail _ hy)) aa,W4.has_with1 x A0 aa,vV,Bool.or_assoc];congr 2;exact We
theorem tJ {z:Nat} (h:z<18446744073709551616):(bits .and .u64 (z:Int) 1==1)=T (z%2=1):=by have:=u64_and_nat z 1 h A0;rw[show((1:Nat):Int)=1 from Z] at this;rw[this,Nat.and_one_is_mod,vW];simp only[beq_iff_eq,decide_eq_true_eq];omega
abbrev J5:T_:=266
abbrev W4.box (x:W4):Obj:= C #[Y .u64 (x.a:Int),Y .u64 (x.b:Int),Y .u64 (x.c:Int),Y .u64 (x.d:Int)] J5
abbrev W4.v (x:W4):V_:= .agg #[Y .u64 (x.a:Int),Y .u64 (x.b:Int),Y .u64 (x.c:Int),Y .u64 (x.d:Int)]
theorem Zv (x:W4) (hx:x.fit) (r:Nat) (hr:r<256) (m:AC w0 H L w):K_ yA 229 #[x.v,Y I r] w (Bv w0 H L (N (x.has r))):=by have m1:=m.alloc x.box;have es:=m1.e0;have hq:(r:Int).tdiv 64=((r/64:Nat):Int):=(by rw[vX A0];omega);have hs:(r:Int).tmod 64=((r%64:Nat):Int):=(by rw[vY A0];omega);have ae:r%64<64:=A0;have hq2:r/64<4:=A0;have aa:=W4.fit_get hx (r/64);unfold W4.has;generalize r/64=q at*;generalize r%64=s at*;have ad:(s:Int)<=64:=A0;(have hc:∀(h:q<[Y .u64 (x.a:Int),Y .u64 (x.b:Int),Y .u64 (x.c:Int),Y .u64 (x.d:Int)].length),[Y .u64 (x.a:Int),Y .u64 (x.b:Int),Y .u64 (x.c:Int),Y .u64 (x.d:Int)][q]= Y .u64 ((x.l.getD q 0:Nat):Int):=λh=>W4.get_vs x hq2 h);generalize x.l.getD q 0=y at*;have hd:(y:Int)/2^s=((y/2^s:Nat):Int):=(by simp);have he:y.testBit s=T (y/2^s%2=1):=Nat.testBit_eq_decide_div_mod_eq;have hz:y/2^s<18446744073709551616:=uY (Nat.div_le_self _ _) aa;rw[he];generalize y/2^s=z at*;have hb:=A5 (tJ hz);go_enter func229,ntmps229;go_wp2_with fail;go_ret;exact⟨A8 hb.out,m1.drop⟩
theorem QW (x:W4) (hx:x.fit) (v:V_) (l:List Int) (hl:∀r∈l,0<=r/\r<256) (m:AC w0 H L w) (hv:AX AY H v l):K_ yA 220 #[x.v,v] w (Bv w0 H L (x.with' l).v):=by
 have HV:=A5 hv;obtain⟨lb,lc,rfl,aw,ag,-⟩:=hv;have ag:=A9 ag;have m1:=m.alloc x.box;have m2:=m1.alloc (C #[Y .u64 0,Y .u64 0,Y .u64 0,Y .u64 0] J5);simp only[uK] at m2;generalize ak:w.heap.size=xb at*;go_enter func220,ntmps220;go_wp2_with fail;clear m1;(go_loopw [9] (λi wr=>∃(k:Nat) (y:W4),k<=l.length/\i= Y I k/\y.fit/\Hid (y=x.with' (l.take k))/\AC w0 H ((xb,y.box)::(xb+1,C #[Y .u64 0,Y .u64 0,Y .u64 0,Y .u64 0] J5)::L) wr) (λi _=>l.length-(intOf i).toNat));case atStart=>exact⟨0,x,uL _,Z,hx,A5 Z,m2.perm (List.Perm.swap _ _ _)⟩
 case round=>
  clear m2 hx;obtain⟨k,y,hk,rfl,hy,HY,mk⟩:=hrel;have es:=mk.e0;by_cases eP:k<l.length
  .obtain⟨kA,off,rfl,d0,_⟩:=HV.out.getI (uO eP);have d0:=d0.cell mk;have hr:=hl l[k] (uS eP);have htk:l.take (k+1)=l.take k++[l[k]]:=uh eP;have HTK:=A5 htk;clear htk;have ll:(k:Int)<l.length:=A0;obtain⟨r,hrr⟩:∃r:Nat,l[k]=(r:Int):=⟨l[k].toNat,by omega⟩;rw[hrr] at d0 hr HTK;clear hrr;have hr:r<256:=A0;have hq:(r:Int).tdiv 64=((r/64:Nat):Int):=(by rw[vX A0];omega);have hs:(r:Int).tmod 64=((r%64:Nat):Int):=(by rw[vY A0];omega);have af:r%64<64:=A0;have hq2:r/64<4:=A0;have ah:=W4.fit_get hy (r/64);have ae:y.put (r/64) (y.l.getD (r/64) 0|||2^(r%64))=y.with1 r:=Z;have hf1:=W4.fit_with1 hy r;generalize ad:y.with1 r=y1 at*;have aj:=A5 ad;clear ad;generalize r/64=q at*;generalize r%64=s at*;have ar:(s:Int)<=64:=A0;(have hc:∀(h:q<[Y .u64 (y.a:Int),Y .u64 (y.b:Int),Y .u64 (y.c:Int),Y .u64 (y.d:Int)].length),[Y .u64 (y.a:Int),Y .u64 (y.b:Int),Y .u64 (y.c:Int),Y .u64 (y.d:Int)][q]= Y .u64 ((y.l.getD q 0:Nat):Int):=λh=>W4.get_vs y hq2 h);have aa:=W4.set_vs y hq2 (y.l.getD q 0|||2^s);rw[ae] at aa;clear ae;have av:bits .or .u64 ((y.l.getD q 0:Nat):Int) (2^s)=((y.l.getD q 0|||2^s:Nat):Int):=(by have:=u64_or_nat (y.l.getD q 0) (2^s) ah (QD af);rw[<-this];simp);have aq:IntKind.u64.wrap (2^s)=2^s:=(by have:=QD af;rw[IntKind.wrap_u64];have h2:(2:Int)^s=((2^s:Nat):Int):=(by simp);rw[h2];generalize 2^s=P at*;omega);generalize y.l.getD q 0=z at*;go_wp2_with fail;refine wp_region_still_tail 8 A7 A7 ?_;show wpStill _ _ (uV wr) (λa'=>wpList _ _ _ _ a' (uV wr)) _ _;replace mk:=mk.drew;generalize uV wr=wd at mk⊢;clear es;have es:=mk.e0;simp only[uZ,ui,uC,uD];have au:(q:Int)<4:=A0;have ao:IntKind.i64.wrap (q:Int)=q:=IntWalk.i64_in _ A0;have al:IntKind.i64.wrap (s:Int)=s:=IntWalk.i64_in _ A0;(iterate 8 still_step);refine wpStill_nil ?_;go_wp2_with fail;go_roundw
   case rel=>
    refine⟨k+1,y1,by omega,by go_num,hf1,A5 ?_,?_⟩
    .rw[HTK.out,<-aj.out,HY.out];unfold W4.with';rw[uW];rfl
    .have:=mk.set (i:=q) (v:= Y .u64 ((z|||2^s:Nat):Int)) .head;have e:#[Y .u64 (y.a:Int),Y .u64 (y.b:Int),Y .u64 (y.c:Int),Y .u64 (y.d:Int)].setIfInBounds q (Y .u64 ((z|||2^s:Nat):Int))=#[Y .u64 (y1.a:Int),Y .u64 (y1.b:Int),Y .u64 (y1.c:Int),Y .u64 (y1.d:Int)]:=aa;rw[e] at this;exact this
   case measure=>exact BW
  .have hge:¬(k:Int)<l.length:=A0;have ai:=A5 (show y=x.with' l by rw[HY.out,uj A0]);clear HY;go_wp2_with fail;refine b_ (v:=y.v) (by simp[results,results220,go_sem,es]) Z ?_;exact⟨by rw[ai.out],(AC.setL [Y .u64 (y.a:Int),Y .u64 (y.b:Int),Y .u64 (y.c:Int),Y .u64 (y.d:Int)] 0 (mk.perm (List.Perm.swap _ _ _))).drop.drop⟩
def W4.and' (x y:W4):W4:=⟨x.a&&&y.a,x.b&&&y.b,x.c&&&y.c,x.d&&&y.d⟩
def W4.andN (x y:W4) (k:Nat):W4:=⟨if 0<k then x.a&&&y.a else x.a,if 1<k then x.b&&&y.b else x.b,if 2<k then x.c&&&y.c else x.c,if 3<k then x.d&&&y.d else x.d⟩
theorem W4.fit_and {x y:W4} (h:x.fit):(x.and' y).fit:=
 ⟨uY uQ h.a,uY uQ h.b,uY uQ h.c,uY uQ h.d⟩
theorem W4.has_and (x y:W4) (r:Nat):(x.and' y).has r=(x.has r&&y.has r):=by
 unfold W4.has
 have:(x.and' y).l.getD (r/64) 0=x.l.getD (r/64) 0&&&y.l.getD (r/64) 0:=by
  generalize r/64=q;rcases q with _|_|_|_|q
  .rfl
  .rfl
  .rfl
  .rfl
  .exact(AD:(0:Nat)=0&&&0)
 rw[this,Nat.testBit_and]
theorem W4.andN_get (x y:W4) (hk:k<4):(x.andN y k).l.getD k 0=x.l.getD k 0:=by
 rcases k with _|_|_|_|k
 .rfl
 .rfl
 .rfl
 .rfl
 .omega
theorem W4.andN_put (x y:W4) (hk:k<4):(x.andN y k).put k (x.l.getD k 0&&&y.l.getD k 0)=x.andN y (k+1):=by
 rcases k with _|_|_|_|k
 .rfl
 .rfl
 .rfl
 .rfl
 .omega
theorem aY (x y:W4) (hx:x.fit) (hy:y.fit) (m:AC w0 H L w):K_ yA 313 #[x.v,y.v] w (Bv w0 H L (x.and' y).v):=by
 have m1:=m.alloc x.box;have m2:=m1.alloc y.box;have m3:=m2.alloc (C #[Y .u64 0,Y .u64 0,Y .u64 0,Y .u64 0] J5);simp only[uK] at m3;generalize af:w.heap.size=xb at*;go_enter func313,ntmps313;go_wp2_with fail;clear m1 m2;(go_loopw [6] (λi wr=>∃(k:Nat) (z:W4),k<=4/\i= Y I k/\Hid (z=x.andN y k)/\AC w0 H ((xb,z.box)::(xb+1,y.box)::(xb+1+1,C #[Y .u64 0,Y .u64 0,Y .u64 0,Y .u64 0] J5)::L) wr) (λi _=>4-(intOf i).toNat));case atStart=>exact⟨0,x,by omega,Z,A5 Z,m3.perm Ah⟩
 case round=>
  clear m3;obtain⟨k,z,hk,rfl,HZ,mk⟩:=hrel;have es:=mk.e0;by_cases eP:k<4
  .have ll:(k:Int)<4:=A0;have af:=W4.fit_get hx k;have ai:=W4.fit_get hy k;have aa:=W4.andN_put x y eP;have ag:z.l.getD k 0=x.l.getD k 0:=(by rw[HZ.out];exact W4.andN_get x y eP);(have ao:∀(h:k<[Y .u64 (z.a:Int),Y .u64 (z.b:Int),Y .u64 (z.c:Int),Y .u64 (z.d:Int)].length),[Y .u64 (z.a:Int),Y .u64 (z.b:Int),Y .u64 (z.c:Int),Y .u64 (z.d:Int)][k]= Y .u64 ((x.l.getD k 0:Nat):Int):=λh=>by rw[<-ag];exact W4.get_vs z eP h);(have al:∀(h:k<[Y .u64 (y.a:Int),Y .u64 (y.b:Int),Y .u64 (y.c:Int),Y .u64 (y.d:Int)].length),[Y .u64 (y.a:Int),Y .u64 (y.b:Int),Y .u64 (y.c:Int),Y .u64 (y.d:Int)][k]= Y .u64 ((y.l.getD k 0:Nat):Int):=λh=>W4.get_vs y eP h);rw[<-HZ.out] at aa;have ad:=W4.set_vs z eP (x.l.getD k 0&&&y.l.getD k 0);rw[aa] at ad;clear aa ag;have hand:=u64_and_nat (x.l.getD k 0) (y.l.getD k 0) af ai;generalize x.l.getD k 0=p at*;generalize y.l.getD k 0=q at*;generalize ae:x.andN y (k+1)=z1 at*;have ak:=A5 ae;clear ae HZ;go_wp2_with fail;refine wp_region_still_tail 7 A7 A7 ?_;show wpStill _ _ (uV wr) (λa'=>wpList _ _ _ _ a' (uV wr)) _ _;replace mk:=mk.drew;generalize uV wr=wd at mk⊢;clear es;have es:=mk.e0;simp only[uZ,ui,uC,uD];(iterate 7 still_step);refine wpStill_nil ?_;go_wp2_with fail;go_roundw;(case rel=>refine⟨k+1,z1,by omega,by go_num,A5 ak.out.symm,?_⟩;have:=mk.set (i:=k) (v:= Y .u64 ((p&&&q:Nat):Int)) .head;have e:#[Y .u64 (z.a:Int),Y .u64 (z.b:Int),Y .u64 (z.c:Int),Y .u64 (z.d:Int)].setIfInBounds k (Y .u64 ((p&&&q:Nat):Int))=#[Y .u64 (z1.a:Int),Y .u64 (z1.b:Int),Y .u64 (z1.c:Int),Y .u64 (z1.d:Int)]:=ad;rw[e] at this;exact this);case measure=>exact BW
  .have hge:¬(k:Int)<4:=A0
   have ah:=A5 (show z=x.and' y by
    have aj:k=4:=A0;subst aj
    exact HZ.out)
   clear HZ;go_wp2_with fail;refine b_ (v:=z.v) (by simp[results,results313,go_sem,es]) Z ?_;exact⟨by rw[ah.out],(AC.setL [Y .u64 (z.a:Int),Y .u64 (z.b:Int),Y .u64 (z.c:Int),Y .u64 (z.d:Int)] 0 ((mk.perm Ah:AC _ _ ((xb+1+1,C #[Y .u64 0,Y .u64 0,Y .u64 0,Y .u64 0] J5)::(xb,z.box)::(xb+1,y.box)::L) _))).drop.drop.drop⟩
variable {g i:Nat}
def YH (w:W_) (v:V_) (xs:List Int):Prop:=∃b c,v= V b xs.length c/\xs.length<=maxLen/\∀i,(h:i<xs.length)->∃kA off,b=O ⟨kA,off,X⟩/\w.cell? ⟨kA,off+i,X⟩=O (Y I xs[i])
def Mh:List Int->Int
 |[]=>0
 |x::l=>l.foldl min x
theorem ME:∀(l:List Int) (x:Int),l.foldl min x<=x/\∀y∈l,l.foldl min x<=y
 |[],x=>⟨Int.le_refl _,λ_ h=>CZ⟩
 |z::l,x=>by
  have h:=ME l (min x z)
  refine⟨?_,λy hy=>?_⟩
  .show l.foldl min (min x z)<=x
   omega
  .show l.foldl min (min x z)<=y
   rcases uX.1 hy with rfl|hy
   .omega
   .exact h.2 y hy
theorem Ki:∀(l:List Int) (x:Int),l.foldl min x=x\/l.foldl min x∈l
 |[],x=> .inl Z
 |z::l,x=>by
  show l.foldl min (min x z)=x\/l.foldl min (min x z)∈z::l
  rcases Ki l (min x z) with h|h
  .rw[h]
   by_cases e:x<=z
   .exact .inl A0
   .exact .inr (by rw[(A0:min x z=z)];exact .head _)
  .exact .inr (.tail _ h)
theorem SP {l:List Int} (h:l≠[]):Mh l∈l/\∀y∈l,Mh l<=y:=by
 cases l with
 |nil=>exact a_ Z h
 |cons x l=>
  have h1:=ME l x;refine⟨?_,λy hy=>?_⟩
  .rcases Ki l x with h2|h2
   .show l.foldl min x∈_;rw[h2];exact .head _
   .exact .tail _ h2
  .rcases uX.1 hy with rfl|hy
   .exact h1.1
   .exact h1.2 y hy
theorem Zi {l:List Int} (h:k<l.length) (hk:0<k):Mh (l.take (k+1))=min (Mh (l.take k)) l[k]:=by
 cases l with
 |nil=>simp at h
 |cons x l=>obtain⟨k,rfl⟩:∃k',k=k'+1:=⟨k-1,by omega⟩;have aa:k<l.length:=CE;rw[uh h];simp only[uZ,uB,Mh,uW,List.foldl_cons,List.foldl_nil]
theorem ZV (v:V_) (xs:List Int) (lI:0<xs.length) (hv:YH w v xs):K_ yA 221 #[v] w λe w'=>e= .returned (Y I (Mh xs))/\w=w':=by
 obtain⟨b,c,rfl,hm,aa⟩:=hv;have hm:=A9 hm;have A:=A5 aa;obtain⟨q0,o0,rfl,d0⟩:=aa 0 lI;rw[uT] at d0;clear aa;have ad:¬(xs.length:Int)<1:=A0;have h0:((0:Nat):Int)=0:=Z
 have h1:Hid (Mh (xs.take 1)=xs[0]):=A5 (by
  cases xs with
  |nil=>simp at lI
  |cons x l=>rfl)
 go_enter func221,ntmps221;go_wp2_with fail;go_loop [3,4] (λr i=>∃k:Nat,0<k/\k<=xs.length/\i= Y I k/\Hid (r= Y I (Mh (xs.take k)))) (λ_ i=>xs.length-(intOf i).toNat);case atStart=>exact⟨1,by omega,by omega,Z,A5 (by rw[h1.out])⟩
 case round=>
  obtain⟨k,ag,hk,rfl,HA⟩:=hrel;obtain rfl:=HA.out;clear HA;by_cases eP:k<xs.length
  .have ll:(k:Int)<xs.length:=A0;obtain⟨q1,o1,ah,d1⟩:=A.out k eP;cases ah;have ae:=A5 (Zi eP ag);go_wp2_with fail;go_round;(case rel=>exact⟨k+1,by omega,by omega,by go_num,A5 (by rw[ae.out];congr 1;split<;>omega)⟩);case measure=>exact BW
  .have hge:¬(k:Int)<xs.length:=A0;have af:xs.take k=xs:=uj A0;rw[af];go_wp2_with fail;go_ret;exact⟨Z,Z⟩
theorem Pw (n at':Int) (tb:Nat) (w:W_) (h:w.cell? ⟨tb,0,X⟩=O (Y I at')):K_ yA 223 #[Y I n,M (O ⟨tb,0,X⟩)] w λe w'=>e= .returned (N (n==at'))/\w=w':=by go_enter func223,ntmps223;go_wp2_with fail;go_ret;exact⟨Z,Z⟩
theorem RK (v:V_) (xs:List Int) (at':Int) (k:Nat) (hk:k<xs.length) (ad:xs[k]=at') (aa:∀j (h:j<xs.length),xs[j]=at'->j=k) (tb:Nat) (hv:YH w v xs) (h:w.cell? ⟨tb,0,X⟩=O (Y I at')):K_ yA 245 #[v,.func (.func 223) #[] #[M (O ⟨tb,0,X⟩)]] w λe w'=>e= .returned (Y I k)/\w=w':=by
 obtain⟨b,c,rfl,hm,kF⟩:=hv;have hm:=A9 hm;have A:=A5 kF;have HK:=A5 ad;have HU:=A5 aa;clear kF ad aa;go_enter func245,ntmps245;go_wp2;go_loop [5,8] (λ_ i=>∃j:Nat,j<=k/\i= Y I j) (λ_ i=>xs.length-(intOf i).toNat);case atStart=>exact⟨0,uL _,Z⟩
 case round=>
  obtain⟨j,hj,rfl⟩:=hrel;have eP:j<xs.length:=A0;have ll:(j:Int)<xs.length:=A0;obtain⟨q1,o1,rfl,d1⟩:=A.out j eP;by_cases e:j=k
  .subst e;have hb:(xs[j]==at')=true:=(by rw[HK.out];simp);go_wp2_with (go_at_call 223;refine(Pw _ at' tb _ h).mono ?_;rw[hb];rintro e w' ⟨rfl,rfl⟩);go_ret;exact⟨Z,Z⟩
  ·(have hb:(xs[j]==at')=false:=bF λe2=>e (HU.out j eP e2));go_wp2_with (go_at_call 223;refine(Pw _ at' tb _ h).mono ?_;rw[hb];rintro e w' ⟨rfl,rfl⟩);go_round;(case rel=>exact⟨j+1,by omega,by go_num⟩);case measure=>exact BW
def MA (lX:Array V_) (k j:Nat):Array V_:=((uF lX.size).map λp=>if k<=p/\p+1<j then lX.getD (p+1) undef else lX.getD p undef).toArray
theorem N4 (lX:Array V_) (k j:Nat):(MA lX k j).size=lX.size:=by simp[MA]
theorem JW (lX:Array V_) (k j p:Nat) (hp:p<lX.size):(MA lX k j)[p]?=O (if k<=p/\p+1<j then lX.getD (p+1) undef else lX.getD p undef):=by simp[MA,hp]
theorem X2 (lX:Array V_) (k:Nat):MA lX k (k+1)=lX:=by
 (refine vZ λp=>?_);by_cases hp:p<lX.size
 .rw[JW _ _ _ _ hp,n_ A0,ul hp];simp[hp]
 .rw[um Yn,um A0]
theorem kS (lX:Array V_) (k j:Nat) (hj:j<lX.size):(MA lX k j)[j]?=lX[j]?:=by rw[JW _ _ _ _ hj,n_ A0,ul hj];simp[hj]
theorem bG (lX:Array V_) (k j:Nat) (hk:k<j) (hj:j<lX.size) (v:V_) (hv:lX[j]?=O v):(MA lX k j).setIfInBounds (j-1) v=MA lX k (j+1):=by
 (refine vZ λp=>?_);by_cases hp:p<lX.size
 .rw[ve,JW _ _ _ _ hp,JW _ _ _ _ hp];by_cases e:j-1=p
  .rw[p_ e,p_ Yn,p_ A0];subst e;rw[Array.getD_eq_getD_getElem?,(A0:j-1+1=j),hv];rfl
  .rw[n_ e];by_cases h:k<=p/\p+1<j
   .rw[p_ h,p_ A0]
   .rw[n_ h,n_ A0]
 .rw[um (by rw[vh,N4];omega),um Yn]
theorem Zn (lX:Array V_) (k n:Nat) (hk:k<n) (hn:n<=lX.size) (x:V_):((MA lX k n).setIfInBounds (n-1) x).toList.take (n-1)=(lX.toList.take n).eraseIdx k:=by
 (refine vH λp=>?_);by_cases hp:p<n-1
 .rw[un,p_ hp,uq,ve,n_ A0,JW _ _ _ _ A0,vj];by_cases h:k<=p
  .rw[p_ A0,n_ A0,un,p_ A0,uq];simp[(A0:p+1<lX.size)]
  .rw[n_ A0,p_ A0,un,p_ A0,uq];simp[(A0:p<lX.size)]
 .rw[vm Nn,vm (by rw[vp,p_ (by rw[vI,vq];omega),vI,vq];omega)]
def N6 (g cap:Nat) (lX:Array V_) (xs:List Int):Prop:=xs.length<=cap/\cap<=maxLen/\lX.size=cap/\lX.toList.take xs.length=xs.map (Y I)
theorem N6.get {cap:Nat} {lX:Array V_} {xs:List Int} (h:N6 g cap lX xs) (hi:i<xs.length):lX[i]?=O (Y I xs[i]):=by have h1:(lX.toList.take xs.length)[i]?=(xs.map (Y I))[i]?:=(by rw[h.2.2.2]);rw[un,p_ hi,uq] at h1;rw[h1];simp[hi]
theorem N6.at {cap:Nat} {lX:Array V_} {xs:List Int} (h:N6 g cap lX xs) (m:AC w0 H ((g,C lX 3)::L) w):YH w (V (O ⟨g,0,X⟩) xs.length cap) xs:=by refine⟨_,_,Z,Nat.le_trans h.1 h.2.1,λi hi=>⟨g,0,Z,?_⟩⟩;rw[AU (m.loc _ (.head _)).1,uP];exact h.get hi
theorem Ox (xs:List Int) (at':Int) (k:Nat) (hk:k<xs.length) (al:xs[k]=at') (af:∀j (h:j<xs.length),xs[j]=at'->j=k) (g cap tb:Nat) (lX:Array V_) (hr:N6 g cap lX xs) (m:AC w0 H ((g,C lX 3)::(tb,C #[Y I at'] 3)::L) w):K_ yA 222 #[V (O ⟨g,0,X⟩) xs.length cap,.func (.func 223) #[] #[M (O ⟨tb,0,X⟩)]] w λe w'=>∃ae,e= .returned (V (O ⟨g,0,X⟩) (xs.length-1) cap)/\N6 g cap ae (xs.eraseIdx k)/\AC w0 H ((g,C ae 3)::(tb,C #[Y I at'] 3)::L) w':=by
 have HR:=A5 hr;have HK:=A5 al;have HU:=A5 af;have ak:=A9 hr.2.1;have ao:=hr.1;clear hr af;have es:=m.e0;have ah:=A5 (HR.out.at m);have au:((k:Int)== -1)=false:=bF A0;go_enter func222,ntmps222;go_wp2_with (go_at_call 245;refine BQ (RK _ xs at' k hk HK.out HU.out tb ah.out Gd) ?_);clear es;(go_loopw [5,6] (λi5 i6 wr=>∃j:Nat,k<j/\j<=xs.length/\i6= Y I j/\i5= Y I ((j:Int)-1)/\AC w0 H ((g,C (MA lX k j) 3)::(tb,C #[Y I at'] 3)::L) wr) (λ_ i6 _=>xs.length-(intOf i6).toNat));case atStart=>exact⟨k+1,by omega,by omega,by go_num,by go_num,by rw[X2];exact m⟩
 case round=>
  clear m ah;obtain⟨j,ai,hj,rfl,rfl,m⟩:=hrel;have es:=m.e0;by_cases eP:j<xs.length
  .have ll:(j:Int)<xs.length:=A0;have ag:j<lX.size:=(by rw[HR.out.2.2.1];omega);have hg:=HR.out.get eP;have ay:(MA lX k j)[j]?=O (Y I xs[j]):=(kS _ _ _ ag).trans hg;obtain⟨v0,ar⟩:∃v0,(MA lX k j)[j-1]?=O v0:=⟨_,ul Yn⟩;have aq:IntKind.i64.wrap ((j:Int)-1)=(j:Int)-1:=IntWalk.i64_in _ A0;have ax:((j:Int)-1).toNat=j-1:=A0;(have lI:(xs[j]==at')=false:=bF λe=>by have:=HU.out j eP e;omega);have ad:=A5 (bG lX k j ai ag _ hg);generalize xs[j]=y at*;have av:(j:Int)-1<xs.length:=A0;have aw:0<=(j:Int)-1:=A0;go_wp2_with (go_at_call 223;refine(Pw _ at' tb _ Gd).mono ?_;rw[lI];rintro e w' ⟨rfl,rfl⟩);go_roundw;(case rel=>refine⟨j+1,by omega,by omega,by go_num,by go_num,?_⟩;have:=m.set (i:=j-1) (v:= Y I y) .head;rw[ad.out] at this;exact this);case measure=>exact BW
  .have aj:j=xs.length:=A0;clear es;rw[aj] at m;have hge:¬(j:Int)<xs.length:=A0;have hds:=N4 lX k xs.length;have lg:=HR.out.2.2.1;have aa:=(m.loc _ (.head _)).1;simp only at aa;have hcl:=Lib.run_clear_slice (P:=yA) wr 138 3 0 (Y I 0) underlying138 (λw=>by go_simp) Z Z g (xs.length-1) 1 (cap-(xs.length-1)) AD (λi hi=>by rw[AU aa];have:xs.length-1+i<(MA lX k xs.length).size:=A0;simp[this]) (λi hi=>Bx aa _);go_wp2_with fail;rw[(A0:xs.length-(xs.length-1)=1),hcl];simp only[Result.andThen_ok,Oper.upon_value];go_wp2_with fail;go_ret;have mf:AC w0 H ((g,C ((MA lX k xs.length).setIfInBounds (xs.length-1) (Y I 0)) 3)::(tb,C #[Y I at'] 3)::L) (wr.setCell ⟨g,xs.length-1,X⟩ (Y I 0)):=m.set .head;refine⟨_,Z,?_,mf⟩;have lQ:(xs.eraseIdx k).length=xs.length-1:=(by rw[vp,p_ hk]);refine⟨by omega,HR.out.2.1,by rw[vh,hds];exact lg,?_⟩;rw[lQ,Zn lX k xs.length hk A0,HR.out.2.2.2];(refine vH λp=>?_);simp only[vj,vJ];split<;>rfl
section
variable {LB:List (Nat×Obj)} {Q:Exit->Act->World->Prop}
section
variable {P:P_} {w0 w:W_} {H:Hp}
theorem Gy {g:O_} {p:Tmp} {assign body:Code} {a:Act} {gf:Nat} {first lU:Array V_} {LH:List (Nat×Obj)} (m:AC w0 H (LH++LB) w) (hg:a.eval g= .func (.func gf) first lU) (eg:∀args w,(callFunc gf args).run P w= .ok (.enter gf args) w) (RA:Nat->Hp->V_->Prop) (RB:Nat->Hp->List (Nat×Obj)->Prop) (ai:Nat->Hp->List (Nat×Obj)->Prop) (h0:RB 0 H LB) (ag:∀k H1 H2 LB,Bl H1 H2->RB k H1 LB->RB k H2 LB) (hbody:∀(l n k:Nat) (H1:Hp) (L1 LB:List (Nat×Obj)) (W:W_) (x:V_),RA k H1 x->RB k H1 LB->AC w0 H1 (L1++LB) W->assign.wpIn (Fence.wide.inRound l) n P (λ| .normal,a1,W1=>∃aj,AC w0 H1 (L1++aj) W1/\∀(L2:List (Nat×Obj)) (W2:W_),AC w0 H1 (L2++aj) W2->body.wpIn (Fence.wide.inRound l) n P (λ| .normal,_,W'=>∃H2 aa,Bl H1 H2/\RB (k+1) H2 aa/\AC w0 H2 (L2++aa) W'|_,_,_=>False) a1 W2|_,_,_=>False) {tmps:=a.tmps.setIfInBounds p x,defers:=[]} W) (hit:∀(l:Nat) (ah ar:Nat->Hp->List (Nat×Obj)->Prop),KJ P l w0 RA ah ar->(∀k H1 H2 LB,Bl H1 H2->ah k H1 LB->ah k H2 LB)->∀(aa:List (Nat×Obj)) (W:W_),ah 0 H aa->AC w0 H (LH++aa) W->K_ P gf (first++#[.func (.yield l) #[] #[]]++lU) W λe W'=>(∃v,e= .returned v)/\∃k H' af ae,Bl H H'/\AC w0 H' (af++ae) W'/\((ah k H' ae/\ai k H' af)\/(∃k',ar k' H' ae))) (hdone:∀(D k:Nat) (H':Hp) (af aa:List (Nat×Obj)) (W:W_),Bl H H'->RB k H' aa->ai k H' af->AC w0 H' (af++((D,.deferred (O []))::aa)) W->Q .normal {a with defers:={target:= .collected D,args:=#[]}::a.defers} W):(Code.rangeFunc g #[p] assign body).wp P Q a w:=by
 rw[<-wpIn_wide (n:=0)];refine wpIn_rangeFunc ?_;intro fn az;obtain⟨W1,aq⟩:∃W1,(w.alloc (.deferred (O []))).alloc (.loop (CI fn a.tmps p assign body w.heap.size .ready X))=W1:=⟨_,Z⟩;have m1:AC w0 H (LH++((w.heap.size+1,.loop (CI fn a.tmps p assign body w.heap.size .ready X))::(w.heap.size,.deferred (O []))::LB)) W1:=(by have:=(m.alloc (.deferred (O []))).alloc (.loop (CI fn a.tmps p assign body w.heap.size .ready X));rw[uK,aq] at this;exact this.perm ((vL (l₁:=LH)).trans (.cons _ (vL (l₁:=LH)))).symm);refine⟨w.heap.size+1,[{target:= .collected w.heap.size,args:=#[]}],W1,{target:= .fn (.func gf) lU,args:=first++#[.func (.yield (w.heap.size+1)) #[] #[]]},W1,gf,first++#[.func (.yield (w.heap.size+1)) #[] #[]]++lU,W1,?_,?_,?_,?_,λh=>(by simp[Fence.wide] at h),?_⟩
 .rw[<-aq];exact run_enterLoop_outer _ _ _ _ _
 .simp only[resolve,hg];simp[go_sem]
 .intro f' ba;trivial
 .simp[invoke,go_sem,eg]
 .refine callsIn_wide.2 ?_;refine(hit (w.heap.size+1) (λk H9 aa=>∃ad,aa=(w.heap.size+1,.loop (CI fn a.tmps p assign body w.heap.size .ready X))::(w.heap.size,.deferred (O []))::ad/\RB k H9 ad) (λk H9 aa=>False) ?_ (λk H1 H2 LB lQ ⟨ad,e,h⟩=>⟨ad,e,ag k H1 H2 ad lQ h⟩) _ W1 ⟨LB,Z,h0⟩ m1).mono ?_
  .intro n k H1 L1 aa W x ay ak mW;obtain⟨ad,rfl,ak⟩:=ak;have hl:=(mW.loc (w.heap.size+1,.loop (CI fn a.tmps p assign body w.heap.size .ready X)) (ur _ (.head _))).1;have hy:(Instr.yield (w.heap.size+1) #[x]).run P W= .ok (.round (w.heap.size+1) fn (a.tmps.setIfInBounds p x) assign body) W:=(by have:=run_yield (P:=P) (args:=#[x]) hl Z;simpa[CI] using this);refine⟨fn,a.tmps.setIfInBounds p x,assign,body,hy,roundIn_of_wpIn trivial ?_⟩;have hb:=hbody (w.heap.size+1) n k H1 (L1++[(w.heap.size+1,.loop (CI fn a.tmps p assign body w.heap.size .ready X)),(w.heap.size,.deferred (O []))]) ad W x ay ak (by simpa using mW);(refine wpIn_mono hb λe a1 W2 he=>?_)
   cases e with
   |ret=>exact he.elim
   |exit id=>exact he.elim
   |goto t=>exact he.elim
   |panic ch=>exact he.elim
   |outgrown=>exact he.elim
   |normal=>
    obtain⟨aj,m2,ax⟩:=he;have ao:AC w0 H1 (L1++((w.heap.size+1,.loop (CI fn a.tmps p assign body w.heap.size .ready X))::(w.heap.size,.deferred (O []))::aj)) W2:=(by simpa using m2);have hl2:=(ao.loc (w.heap.size+1,.loop (CI fn a.tmps p assign body w.heap.size .ready X)) (ur _ (.head _))).1;have aw:(Instr.beginRound (w.heap.size+1)).run P W2= .ok () (W2.putObj (w.heap.size+1) (.loop (CI fn a.tmps p assign body w.heap.size .busy X))):=run_beginRound hl2 Z;have mB:=ao.putObj ((DU.head (o':= .loop (CI fn a.tmps p assign body w.heap.size .busy X))).appR L1);refine⟨_,aw,?_⟩;refine wpIn_mono (ax (L1++[(w.heap.size+1,.loop (CI fn a.tmps p assign body w.heap.size .busy X)),(w.heap.size,.deferred (O []))]) _ (by simpa using mB)) ?_;rintro e a3 W3 hp
    cases e with
    |normal=>obtain⟨H2,au,lQ,hR,m3⟩:=hp;have al:AC w0 H2 (L1++((w.heap.size+1,.loop (CI fn a.tmps p assign body w.heap.size .busy X))::(w.heap.size,.deferred (O []))::au)) W3:=(by simpa using m3);have av:=(al.loc (w.heap.size+1,.loop (CI fn a.tmps p assign body w.heap.size .busy X)) (ur _ (.head _))).1;have hr:=run_endRound (P:=P) X av;have m4:=al.putObj ((DU.head (o':= .loop (CI fn a.tmps p assign body w.heap.size .ready X))).appR L1);exact⟨_,_,hr,H2,_,lQ,m4,.inl ⟨Z,au,Z,hR⟩⟩
    |ret=>exact hp.elim
    |exit id=>exact hp.elim
    |goto t=>exact hp.elim
    |panic ch=>exact hp.elim
    |outgrown=>exact hp.elim
  .rintro e W2 ⟨⟨v,rfl⟩,k,H',af,ae,lQ,m2,(⟨⟨ad,rfl,hR⟩,hD⟩|⟨k',hx⟩)⟩
   .have hl:=(m2.loc (w.heap.size+1,.loop (CI fn a.tmps p assign body w.heap.size .ready X)) (ur _ (.head _))).1;have he:(Instr.endLoop (w.heap.size+1)).run P W2= .ok X (W2.putObj (w.heap.size+1) (.loop (CI fn a.tmps p assign body w.heap.size .exhausted X))):=run_endLoop (P:=P) hl (by simp[CI]);have m3:=m2.putObj ((DU.head (o':= .loop (CI fn a.tmps p assign body w.heap.size .exhausted X))).appR af);exact⟨X,_,he,hdone _ k H' af ad _ lQ hR hD ((m3.perm vL).drop)⟩
   .exact hx.elim
end
end
structure CA where
 e:Bool
 tv:V_
 kn:W4
def CA.cs (r:CA):List V_:=[N r.e,r.tv,Y .u64 (r.kn.a:Int),Y .u64 (r.kn.b:Int),Y .u64 (r.kn.c:Int),Y .u64 (r.kn.d:Int)]
def Dx:List CA->List V_
 |[]=>[]
 |r::l=>r.cs++Dx l
theorem Dl:∀l:List CA,(Dx l).length=l.length*6
 |[]=>rfl
 |r::l=>by
  simp only[Dx,CA.cs,vt,uG,uH,Dl l]
  omega
theorem I6:∀(l:List CA) (k:Nat) (r:CA) (j:Nat),l[k]?=O r->j<6->(Dx l)[k*6+j]?=r.cs[j]?
 |[],k,r,j,h,_=>by simp at h
 |r'::l,0,r,j,h,hj=>by
  simp only[vM,Option.some.injEq] at h
  subst h
  rw[Nat.zero_mul,uP,Dx,List.getElem?_append_left (by simp[CA.cs];omega)]
 |r'::l,k+1,r,j,h,hj=>by
  rw[Dx,List.getElem?_append_right (by simp[CA.cs];omega),<-I6 l k r j CE hj]
  congr 1
  simp[CA.cs]
  omega
abbrev C8 (rows:List CA):Obj:= C (Dx rows).toArray 268
abbrev Ac (c:AF) (ib:Option Addr) (ic ab sb mb:Nat):Obj:= C #[U c.name,Y I c.params,Y I c.g,V ib c.i.length ic,V (O ⟨ab,0,X⟩) c.i.length c.i.length,V (O ⟨sb,0,X⟩) c.i.length c.i.length,.map (O mb)] 263
theorem WN (c:AF) (ib:Option Addr) (ic ab sb mb fb:Nat) (rows:List CA) (k:Nat) (r:CA) (eA:List Int) (y:Bu) (m:AC w0 H L w) (hF:(fb,Ac c ib ic ab sb mb)∈L) (hA:(ab,C8 rows)∈L) (hc:AX C1 H (V ib c.i.length ic) c.i) (hk:k<c.i.length) (hr:rows[k]?=O r) (hy:c.i[k]?=O y) (ht:AX AY H r.tv eA):K_ yA 224 #[M (O ⟨fb,0,X⟩),Y I k] w λe w'=>∃p1 p2 p3 va vg vw,e= .returned (.func (.func 274) #[] #[M (O ⟨p1,0,X⟩),M (O ⟨p2,0,X⟩),M (O ⟨p3,0,X⟩)])/\Gj H y va vg vw/\AC w0 H ((p3,EC y va vg vw)::(p2,C #[r.tv] 138)::(p1,C #[Y I k] 3)::L) w':=by
 have HT:=A5 ht;obtain⟨tb,tc,ae,ao,al,_,_⟩:=ht;obtain⟨kA,off,va,vg,vw,rfl,q0,q1,q2,q3,q4,q5,q6,q7,hi⟩:=hc.getIns hy;have HI:=A5 hi;obtain⟨b5,c5,b6,c6,b7,c7,rfl,rfl,rfl,l5,l6,l7⟩:=hi.shapes;clear hi;obtain⟨_,_,ah,ar,ag,_,_⟩:=hc;cases ah;have ag:=A9 ag;have HQ:=A5 (And.intro q0 (And.intro q1 (And.intro q2 (And.intro q3 (And.intro q4 (And.intro q5 (And.intro q6 q7)))))));clear q0 q1 q2 q3 q4 q5 q6 q7 hy;have aq:(k:Int)<c.i.length:=A0;have aj:=A5 (show(Dx rows)[k*6+1]?=O (V tb eA.length tc) by rw[I6 rows k r 1 hr AD,<-ae];rfl);clear hr;rw[ae];have au:=A5 ae;clear ae;have m1:=m.alloc (C #[Y I k] 3);generalize ak:w.heap.size=xb at*;go_enter func224,ntmps224;go_wp2_with fail;refine Da (F:=λw'=>Code.wp _ _ _ _ w') m1 ?_;clear m1;intro wr mr;refine B1 mr [VK (M (O ⟨fb,0,X⟩)),VK (M (O ⟨fb,0,X⟩)),VK (M (O ⟨fb,0,X⟩)),VK (M (O ⟨fb,3,X⟩)),VK (V (O ⟨kA,off,X⟩) c.i.length ic),VK (Y I k),VK (M (O ⟨kA,off+k*8,X⟩)),VK (.agg #[Y .u8 y.op,Y I y.to,V b5 y.args.length c5,Y I y.n,Y I y.m,U y.name,V b6 y.go.length c6,V b7 y.w.length c7]),VK (M (O ⟨fb,0,X⟩)),VK (M (O ⟨fb,0,X⟩)),VK (M (O ⟨fb,4,X⟩)),VK (V (O ⟨ab,0,X⟩) c.i.length c.i.length),VK (Y I k),VK (M (O ⟨ab,k*6,X⟩)),VK (M (O ⟨ab,k*6+1,X⟩)),VK (V tb eA.length tc),⟨[16],λzb=> M (O ⟨(zb.getD 0 Ax).b,0,X⟩),O ([],[],λzb d=>d.bl=[(d.b,C #[Y .u8 0,Y I 0,V X 0 0,Y I 0,Y I 0,U ut,V X 0 0,V X 0 0] 141)]),G⟩,⟨[17],λzb=> M (O ⟨(zb.getD 0 Ax).b,0,X⟩),O ([],[],λzb d=>d.bl=[(d.b,C #[V X 0 0] 138)]),G⟩,⟨[],λzb=>undef,O ([16],[16],λzb d=>d.bl=[((zb.getD 0 Ax).b,SB y b5 c5 b6 c6 b7 c7)]),G⟩] (nf 17++[B,B]) ?_ ?_
 .refine⟨AA,Z6,AA,AA,Z6,CD,AA,?_,AA,Z6,AA,Z6,CD,AA,AA,?_,?_,?_,?_,trivial⟩
  ·(refine Al.vk Z λbs w hb m=>?_);have e0:=HQ.out.1.cell m;have e1:=HQ.out.2.1.cell m;have e2:=HQ.out.2.2.1.cell m;have e3:=HQ.out.2.2.2.1.cell m;have e4:=HQ.out.2.2.2.2.1.cell m;have e5:=HQ.out.2.2.2.2.2.1.cell m;have e6:=HQ.out.2.2.2.2.2.2.1.cell m;have e7:=HQ.out.2.2.2.2.2.2.2.cell m;exact AT
  ·(refine Al.vk Z λbs w hb m=>?_);have et:w.cell? ⟨ab,k*6+1,X⟩=O (V tb eA.length tc):=(by rw[AU (m.loc _ (.tail _ hA)).1];simpa using aj.out);exact AT
  ·(refine Al.make _ _ Z Z Z λbs w hb m=>?_);show(x_ _ _).run _ _= .ok (.value (M (O ⟨w.heap.size,0,X⟩))) (w.alloc (C #[Y .u8 0,Y I 0,V X 0 0,Y I 0,Y I 0,U ut,V X 0 0,V X 0 0] 141));exact Cp
  ·(refine Al.make _ _ Z Z Z λbs w hb m=>?_);show(x_ _ _).run _ _= .ok (.value (M (O ⟨w.heap.size,0,X⟩))) (w.alloc (C #[V X 0 0] 138));exact Cp
  ·(refine Al.gen _ Z Z Z λbs w L2 hb m=>?_);have ai:(bs 16).bl=[((bs 16).b,C #[Y .u8 0,Y I 0,V X 0 0,Y I 0,Y I 0,U ut,V X 0 0,V X 0 0] 141)]:=hb.at 16 A7 Z Z;simp only[vN,uu,vP,ai,uB,uA] at m;have es:=m.e0;have h2:=AC.setL [Y .u8 y.op,Y I y.to,V b5 y.args.length c5,Y I y.n,Y I y.m,U y.name,V b6 y.go.length c6,V b7 y.w.length c7] 0 m;simp only[TU,uI,uM,uJ,Nat.reduceAdd] at h2;have h3:∃d:C2,(d.bl=[((bs 16).b,SB y b5 c5 b6 c6 b7 c7)])/\(undef:V_)=undef/\AC w0 H (d.bl++(L2++((xb,C #[Y I k] 3)::L))) (Ff w (bs 16).b 0 [Y .u8 y.op,Y I y.to,V b5 y.args.length c5,Y I y.n,Y I y.m,U y.name,V b6 y.go.length c6,V b7 y.w.length c7]):=⟨⟨(bs 16).b,0,undef,[((bs 16).b,SB y b5 c5 b6 c6 b7 c7)]⟩,Z,Z,h2⟩;clear h2;refine BU.ofSkip (w':=Ff w (bs 16).b 0 [Y .u8 y.op,Y I y.to,V b5 y.args.length c5,Y I y.n,Y I y.m,U y.name,V b6 y.go.length c6,V b7 y.w.length c7]) ?_ h3;clear h3;simp only[Ff];go_simp
 .intro bs wd hb md;replace md:=AC.like2 mr (bs 17).bl (bs 18).bl md;have af:(bs 16).bl=[((bs 16).b,C #[Y .u8 0,Y I 0,V X 0 0,Y I 0,Y I 0,U ut,V X 0 0,V X 0 0] 141)]:=hb 16 _ _ Z Z;have ad:(bs 17).bl=[((bs 17).b,C #[V X 0 0] 138)]:=hb 17 _ _ Z Z;rw[ad] at md;have aa:(bs 18).bl=[((bs 16).b,SB y b5 c5 b6 c6 b7 c7)]:=hb 18 _ _ Z Z;(try simp only[uB,uA] at md);simp only[uG,uH,Nat.reduceAdd,uN,uC,uD];clear hb af;rw[aa] at md;simp only[uB,uA] at md;clear aa ad;generalize (bs 16).b=yb at*;generalize (bs 17).b=zb at*;have ms:=md.set (i:=0) (v:= V tb eA.length tc) .head;have es:=md.e0;go_wp2_with fail;go_ret;exact⟨xb,zb,yb,_,_,_,Z,HI.out,ms.perm (List.Perm.swap _ _ _)⟩
variable {P:Program}
theorem Za (b:Option Addr) (n c:Nat) (hc:n<=c) (aa:c<=maxLen) (w:W_):K_ yA 275 #[V b n c] w λe w'=>e= .returned (V b n n)/\w=w':=by have ad:=A9 aa;go_enter func275,ntmps275;go_wp2_with fail;go_ret;exact⟨Z,Z⟩
theorem KW (t ty e:T_) (i:TypeInfo) (z:V_) (size bytes:Nat) (ht:P.underlying t=O (.slice e)) (hi:P.info? e=O i) (hz:i.zero=O z) (ae:i.size=size) (ak:i.bytes=bytes) (ai:z.cells.size=size) (b:Addr) (n cap:Nat) (aa:List V_) (ah:aa.length=n*size) (holds:∀j u,aa[j]?=O u->w.cell? (b.add j)=O u) (a:Addr) (m c:Nat) (news:List V_) (hl:news.length=m*size) (af:∀j u,news[j]?=O u->w.cell? (a.add j)=O u) (hg:cap<n+m) (h63:n+m<=maxLen) (ad:(n+m)*bytes<=140737488355328) (hm:AC w0 H L w):∃v' w',(Builtin.append_ #[t,t] ty #[.slice (O b) n cap,.slice (O a) m c]).run P w= .ok v' w'/\AP w0 H L e size v' (n+m) (aa++news) w':=by
 subst ae;subst ak;have ag:n+m<=9223372036854775807:=(by simp only[maxLen] at h63;omega);have lZ:(aa++news).length=(n+m)*i.size:=(by rw[vt,ah,hl,Nat.add_mul]);have hr:=run_append_grow (P:=P) w t ty e i z ht hi hz b n cap aa ah holds a m c news hl af hg A0 (growslice_fits hg ad);have hge:=grownCap_ge w (n+m) cap e;have aj:grownCap w (n+m) cap e<=maxLen:=grownCap_le_maxLen w (n+m) cap e h63;refine⟨_,_,hr,AP.row (hm.drew.alloc _) hge aj ?_ ?_⟩
 .simp only[Array.size_append,uv,size_zeroCells,ai,ah,hl,<-Nat.add_mul];congr 1;omega
 .simp only[Array.toList_append,uy];rw[<-uy,<-lZ];exact List.take_left
variable {F:Fence} {H':Hp} {LB:List (Nat×Obj)} {Q:Exit->Act->World->Prop} {W:World} {c n:Nat}
def B7 (y:Av):List Int:=if y.to<0 then [] else [y.to]
def Gp:Kc Av:=⟨3,λH cs y=>∃tv mv,cs=[Y I y.at',tv,mv]/\EH y.at'/\AX AY H tv y.t/\AX AY H mv (B7 y),λhl ⟨a,b,h1,h2,h3,h4⟩=>⟨a,b,h1,h2,h3.mono hl,h4.mono hl⟩,λ⟨a,b,h1,_⟩=>by rw[h1];rfl⟩
theorem AX.getStep {b:Option Addr} {xs:List Av} (h:AX Gp H (V b n c) xs) {x:Av} (hi:xs[i]?=O x):∃kA off tv mv,b=O ⟨kA,off,X⟩/\Bm H kA (off+i*3) (Y I x.at')/\Bm H kA (off+i*3+1) tv/\Bm H kA (off+i*3+2) mv/\EH x.at'/\AX AY H tv x.t/\AX AY H mv (B7 x):=by obtain⟨hl,rfl⟩:=List.getElem?_eq_some_iff.1 hi;obtain⟨b',c',hv,_,_,_,hc⟩:=h;cases hv;obtain⟨kA,off,cs,e1,e2,e3⟩:=hc i hl;obtain⟨tv,mv,rfl,e4,e5,e6⟩:=e2;exact⟨kA,off,tv,mv,e1,e3 0 _ Z,e3 1 _ Z,e3 2 _ Z,e4,e5,e6⟩
def Dh:List (Av×V_×V_)->List V_
 |[]=>[]
 |y::l=> Y I y.1.at'::y.2.1::y.2.2::Dh l
theorem JR (l l':List (Av×V_×V_)):Dh (l++l')=Dh l++Dh l':=by
 induction l with
 |nil=>rfl
 |cons y l ih=>simp[Dh,ih]
def IC (H:Hp) (y:Av×V_×V_):Prop:=EH y.1.at'/\AX AY H y.2.1 y.1.t/\AX AY H y.2.2 (B7 y.1)
theorem IC.mono {y:Av×V_×V_} (h:IC H y) (hl:Bl H H'):IC H' y:=⟨h.1,h.2.1.mono hl,h.2.2.mono hl⟩
theorem Jc {H:Hp}:∀(l:List (Av×V_×V_)),(∀y∈l,IC H y)->Ai Gp H (Dh l) (l.map vQ)
 |[],_=> .nil
 |y::l,h=>by
  have h1:=h y (.head _)
  have hr:Gp.rep H [Y I y.1.at',y.2.1,y.2.2] y.1:=⟨y.2.1,y.2.2,Z,h1.1,h1.2.1,h1.2.2⟩
  exact Ai.cons hr Z (Jc l λz hz=>h z (.tail _ hz))
theorem DT {H:Hp}:∀(l:List (Av×V_×V_)),(∀y∈l,IC H y)->∀u∈Dh l,u.oneCell'=B
 |[],_=>λu hu=>by cases hu
 |y::l,h=>by
  intro u hu
  have h1:=h y (.head _)
  obtain⟨_,_,h2,_⟩:=h1.2.1
  obtain⟨_,_,h3,_⟩:=h1.2.2
  simp only[Dh,uX] at hu
  rcases hu with rfl|rfl|rfl|hu
  .rfl
  .rw[h2];rfl
  .rw[h3];rfl
  .exact DT l (λz hz=>h z (.tail _ hz)) u hu
def NN (w0:W_) (H:Hp) (L:List (Nat×Obj)) (ys:List Av) (v:V_) (w:W_):Prop:=∃H1,Bl H H1/\AX Gp H1 v ys/\AC w0 H1 L w
theorem NN.of {H1:Hp} {v:V_} {l:List (Av×V_×V_)} {ys:List Av} (h:AP w0 H1 L 276 3 v l.length (Dh l) w) (hH:Bl H H1) (hl:∀y∈l,IC H1 y) (hy:l.map vQ=ys):NN w0 H L ys v w:=by subst hy;obtain⟨H',m,h1,h2⟩:=h.done (Jc l hl) Z (by simp);exact⟨H',hH.trans h1,h2,m⟩
theorem Jy {a b:Int} {t:List Int} (h:0<=b):B7 ⟨a,b,t⟩=[b]:=by unfold B7;simp only;rw[n_ A0]
structure Bu.StepFit (i:Bu):Prop where
 to:i.op=65\/i.op=67->0<=i.to
 way:∀w∈i.w,(w.kind=2->0<=w.to)/\(w.kind≠2->w.to= -1)
def QG (p:Prop):Prop:=p
theorem QG.mk {p:Prop} (h:p):QG p:=h
theorem Ko (n:Nat) {ops:Array Oper} {c:Code} {a:Act} (h:QG ((Code.region n ops G).wpIn Fence.wide 1 P (Exit.then (λa w=>c.wp P Q a w) Q) a w)):((Code.region n ops G).seq c).wp P Q a w:=wp_seq (wpIn_wide.1 h)
theorem mx {c:Code} {a:Act} (m:AC w0 H L w) (h:∀W,AC w0 H L W->c.wpIn F n P Q a W):c.wpIn F n P Q a w:=h w m
def qU (y:Bu) (k:Nat) (eA:List Int) (j:Nat) (H1:Hp) (x:V_):Prop:=∃s tv mv,(B6 y k eA)[j]?=O s/\x= .agg #[Y I s.at',tv,mv]/\EH s.at'/\AX AY H1 tv s.t/\AX AY H1 mv (B7 s)
theorem Vf (tb:Option Addr) (tc:Nat) (eA:List Int) (k:Int) (HT:AX AY H (V tb eA.length tc) eA) (hl:eA.length<=4096) (a:Nat) (m:AC w0 H ((a,C #[Y I k] 3)::L) w):∃v' w',(Builtin.append_ #[138,138] 138 #[V tb eA.length eA.length,V (O ⟨a,0,X⟩) 1 1]).run yA w= .ok v' w'/\AP w0 H L 3 1 v' (eA.length+1) (eA.map (Y I)++[Y I k]) w':=by
 obtain⟨ii,i1,i2,i3,i4⟩:=info_parts (P:=yA) (e:=3) (z:= Y I 0) (size:=1) (bytes:=8) A7;obtain⟨news,hch,ly⟩:=HT.src m;obtain⟨lI,ad⟩:=Id hch;have hS:Fr w (V (O ⟨a,0,X⟩) 1 1) 1 [Y I k]:=Fr.loc (cs:=[Y I k]) m (.head _)
 cases tb with
 |none=>obtain⟨b,c,hv,h1,h2,h3,_⟩:=HT;cases hv;have h0:eA.length=0:=(by have:=h3 Z;omega);have ht:eA=[]:=vu h0;subst ht;obtain⟨v',w',hr,eJ⟩:=Bn (P:=yA) 138 138 3 ii (Y I 0) 1 8 underlying138 i1 i2 i3 i4 Z AD (.slice X 0 0) 0 [] (AP.nil m) (V (O ⟨a,0,X⟩) 1 1) 1 [Y I k] hS Z Fu A0 CJ;exact⟨v',w',hr,eJ.drop⟩
 |some b=>
  have holds:∀j u,(eA.map (Y I))[j]?=O u->w.cell? (b.add j)=O u:=by
   rcases ly with ⟨h,_⟩|⟨a',c',h,hc⟩
   .cases h
   .cases h;rw[<-lI];exact hc
  have aa:∀j u,([Y I k]:List V_)[j]?=O u->w.cell? ((⟨a,0,X⟩:Addr).add j)=O u:=by
   rcases hS with ⟨h,_⟩|⟨a',c',h,hc⟩
   .cases h
   .cases h;exact hc
  obtain⟨v',w',hr,eJ⟩:=KW (P:=yA) 138 138 3 ii (Y I 0) 1 8 underlying138 i1 i2 i3 i4 Z b eA.length eA.length (eA.map (Y I)) (by simp) holds ⟨a,0,X⟩ 1 1 [Y I k] Z aa A0 CJ A0 m;exact⟨v',w',hr,eJ.drop⟩
def jH (w0:W_) (H:Hp) (LB:List (Nat×Obj)) (l:Nat) (ys:List Av) (a:Act) (w:W_):Prop:=a.defers=[]/\a.tmps.size=152/\a.tmps[0]?=O (.func (.yield l) #[] #[])/\∃v,a.tmps[5]?=O v/\NN w0 H LB ys v w
def U3 (w0:W_) (H:Hp) (n:Nat) (RB' Rx':Nat->Hp->List (Nat×Obj)->Prop) (e:E_) (W':W_):Prop:=(∃v,e= .returned v)/\∃k' H' LH' LB'',Bl H H'/\AC w0 H' (LH'++LB'') W'/\((RB' k' H' LB''/\k'=n)\/(∃k'',Rx' k'' H' LB''))
noncomputable def gV:Code:=(f274.body).getD .skip
theorem Qt (y:Bu) (k:Nat) (eA:List Int) (l:Nat) (ad ak:Nat->Hp->List (Nat×Obj)->Prop) (hY:KJ yA l w0 (qU y k eA) ad ak) (aa:∀k H1 H2 LB,Bl H1 H2->ad k H1 LB->ad k H2 LB) (au:ad 0 H LB) (lZ:(B6 y k eA).length<=4):∀a W,jH w0 H LB l (B6 y k eA) a W->LK yA (bodyPost yA f274 (U3 w0 H (B6 y k eA).length ad ak)) ((CN gV).drop 4) (bodyPost yA f274 (U3 w0 H (B6 y k eA).length ad ak) .normal) a W:=by
 have HY:=A5 hY;have bb:=A5 aa;clear hY aa;rintro a W ⟨ar,lg,a0,v,a5,H1,lQ,ao,m⟩;have ba:=A5 (show ∀j s,(B6 y k eA)[j]?=O s->∀H' tv mv,EH s.at'->AX AY H' tv s.t->AX AY H' mv (B7 s)->qU y k eA j H' (.agg #[Y I s.at',tv,mv]) from λj s hs H' tv mv h1 h2 h3=>⟨s,tv,mv,hs,Z,h1,h2,h3⟩);have HSL:=A5 ao;obtain⟨q,lc,rfl,-,aq,-⟩:=ao;have aq:=A9 aq;have af:=bb.out 0 H H1 LB lQ au;generalize B6 y (k:Int) eA=ys at*;have HLE:=A5 lQ;clear lQ au;obtain⟨tm,df⟩:=a;simp only at ar lg a0 a5;subst ar;obtain⟨u,hu⟩:=Ii tm lg;simp only[uF,List.range.loop,List.map] at hu;subst hu;clear lg;replace a0:u 0= .func (.yield l) #[] #[]:=Option.some.inj a0;replace a5:u 5= V q ys.length lc:=Option.some.inj a5;generalize u 0=z0 at a0⊢;generalize u 5=z5 at a5⊢;subst a0;subst a5;simp only[gV,f274,vF,CN,uy,uB,uA,uC,uD,uZ,ui];have bc:(ys.length:Int)<=4:=A0;intro K1 bf;go_wp2_with fail;intro K2 bd;go_wp2_with fail;(go_loopw [143] (λi wr=>∃(j:Nat) (H2:Hp) (ag:List (Nat×Obj)),j<=ys.length/\i= Y I j/\Hid (Bl H1 H2)/\Hid (ad j H2 ag)/\AC w0 H2 ag wr) (λi _=>ys.length-(intOf i).toNat));case atStart=>exact⟨0,H1,LB,uL _,Z,A5 (Bl.refl _),A5 af,m⟩
 case round=>
  clear m af;obtain⟨j,H2,ag,hj,rfl,HLE2,aw,mk⟩:=hrel;by_cases eP:j<ys.length
  .have ll:(j:Int)<ys.length:=A0;have hx:=uO eP;obtain⟨kA,off,tv,mv,rfl,e0,e1,e2,az,ah,hfm⟩:=(HSL.out.mono HLE2.out).getStep hx;have HRA:=A5 (ba.out j _ hx H2 tv mv az ah hfm);generalize ys[j]=s at*;have ax:=ah;have ay:=hfm;obtain⟨tb,tc,rfl,-,-,-⟩:=ax;obtain⟨mb,mc,rfl,-,-,-⟩:=ay;have bj:=A5 ah;have bk:=A5 hfm;clear ah hfm hx;have e0:=e0.cell mk;have e1:=e1.cell mk;have e2:=e2.cell mk;have m4:=mk.alloc (C #[Y I s.at',V tb s.t.length tc,V mb (B7 s).length mc] 276);have es:=m4.e0;(iterate 60 (first|(refine Ko 34 ?_)|go_values|go_skip|go_guarded|go_step|go_upon|go_back|(simp only[Int.not_lt,Int.not_le] at*;go_simp)|skip));refine QG.mk ?_;refine mx m4 ?_;clear es m4 mk e0 e1 e2;intro WY mW;obtain⟨fn,tmps,bh,bg,hy,hR⟩:=HY.out 0 j H2 [(wr.heap.size,C #[Y I s.at',V tb s.t.length tc,V mb (B7 s).length mc] 276)] ag WY _ HRA.out aw.out mW;have es:=mW.e0;gi_wp2;refine hR.mono ?_;rintro e W9 ⟨H9,av,ae,al,(⟨rfl,aj⟩|⟨rfl,ai⟩)⟩
   .gi_wp2;go_wp2_with fail;go_roundw;(case rel=>exact⟨j+1,H9,av,by omega,by go_num,A5 (HLE2.out.trans ae),A5 aj,al.drop⟩);case measure=>exact BW
   .gi_wp2;go_wp2_with fail;go_end0;exact⟨⟨_,Z⟩,0,H9,_,av,HLE.out.trans (HLE2.out.trans ae),al,.inr ⟨_,ai⟩⟩
  .have hge:¬(j:Int)<ys.length:=A0;go_wp2_with fail;go_end0;exact⟨⟨_,Z⟩,j,H2,[],ag,HLE.out.trans HLE2.out,mk,.inl ⟨aw.out,by omega⟩⟩
theorem X9 (y:Bu) (k:Nat) (eA:List Int) (tv va vg vw:V_) (p1 p2 p3:Nat) (l:Nat) (hk:k<=2000) (ht:eA.length<=4096) (dz:y.w.length<=4) (cu:y.op=61\/y.op=62\/y.op=63\/y.op=65\/y.op=67->0<y.go.length) (cr:y.op=62\/y.op=63\/y.op=65->1<y.go.length) (cn:y.StepFit) (av bq:Nat->Hp->List (Nat×Obj)->Prop) (hY:KJ yA l w0 (qU y k eA) av bq) (ak:∀k H1 H2 LB,Bl H1 H2->av k H1 LB->av k H2 LB) (cv:av 0 H LB) (m:AC w0 H ((p3,EC y va vg vw)::(p2,C #[tv] 138)::(p1,C #[Y I k] 3)::LB) W) (hi:Gj H y va vg vw) (ck:AX AY H tv eA):K_ yA 274 #[.func (.yield l) #[] #[],M (O ⟨p1,0,X⟩),M (O ⟨p2,0,X⟩),M (O ⟨p3,0,X⟩)] W (U3 w0 H (B6 y k eA).length av bq):=by
 have lZ:(B6 y k eA).length<=4:=(by unfold B6;(repeat' split);(all_goals simp);all_goals omega);have bb:=A5 (Qt y k eA l av bq hY ak cv lZ);clear hY ak cv lZ;have HT:=A5 ck;have br:=A5 cn;have ah:=A5 cu;have aw:=A5 cr;clear cu cr cn;obtain⟨tb,tc,rfl,dj,bo,-⟩:=ck;have cy:=A5 (And.intro dj bo);have bo:=A9 bo;have HI:=A5 hi;obtain⟨b5,c5,b6,c6,b7,c7,rfl,rfl,rfl,l5,l6,l7⟩:=hi.shapes;clear hi;obtain⟨op,to,args,n,mm,name,go,ways⟩:=y;simp only at*;have ar:EH to:=HI.out.1.to;have ea:IntKind.i64.wrap ((k:Int)+1)=(k:Int)+1:=IntWalk.i64_in _ A0;have m1:=m.alloc (C #[Y I ((k:Int)+1),V tb eA.length tc,V X 0 0] 276);have es:=m.e6;generalize du:W.heap.size=nb at*;clear m;go_enter func274,ntmps274;refine TS (De 4) (jH w0 H LB l (B6 ⟨op,to,args,n,mm,name,go,ways⟩ k eA)) ?_ bb.out;intro K key;simp only[CN,uy,uB,uA,uC,uD,uZ,ui];intro K1 ei;go_wp2_with fail;intro K2 eh;go_wp2_with fail;intro K3 hK3;refine EA (F:=λw'=>Code.wp _ _ _ _ w') m1 ?_;clear es m1 du;intro wr mr;have es:=mr.e6;go_wp2_with fail;intro K4 hK4;by_cases oo:op=21
 .skip;have ag:((op:Int)==21)=true:=B8;exact tX
 have cj:=oo;clear oo;by_cases oo:op=69
 .skip;have ag:((op:Int)==21)=false:=bF A0;have ai:((op:Int)==69)=true:=B8;exact tX
 have bw:=oo;clear oo;by_cases oo:op=70
 .skip;have ag:((op:Int)==21)=false:=bF A0;have ai:((op:Int)==69)=false:=bF A0;have aj:((op:Int)==70)=true:=B8;exact tX
 have bu:=oo;clear oo;by_cases oo:op=61
 .skip;obtain⟨x0,g0,go0,hx0,rfl,e0,hf0⟩:=HI.out.2.2.1.getID (ah.out B8);rw[uT] at e0;have E0:=A5 e0;clear e0;have bg:0<go.length:=ah.out B8;have bh:(0:Int)<go.length:=A0;have ag:((op:Int)==21)=false:=bF A0;have ai:((op:Int)==69)=false:=bF A0;have aj:((op:Int)==70)=false:=bF A0;have al:((op:Int)==61)=true:=B8;have OO:=A5 oo;have X0:=A5 hx0;clear oo hx0;go_wp2_with fail;refine EA (F:=λw'=>Code.wp _ _ _ _ w') mr ?_;clear es mr;intro wq mq;refine B1 mq [VK (V X 0 0),VK (M (O ⟨p3,6,X⟩)),VK (V (O ⟨g0,go0,X⟩) go.length c6),VK (M (O ⟨g0,go0,X⟩)),VK (Y I x0),VK (V tb eA.length tc),VK (.agg #[Y I x0,(V tb eA.length tc),V X 0 0]),⟨[7],λzb=> V (O ⟨(zb.getD 0 Ax).b,0,X⟩) 1 1,O ([],[],λzb d=>d.bl=[(d.b,C #[Y I x0,(V tb eA.length tc),V X 0 0] 276)]),G⟩] (nf 7++[B]) ?_ ?_
  .refine⟨DZ,DZ,DZ,DZ,DZ,DZ,DZ,?_,trivial⟩
   ·(refine Al.make _ _ Z Z Z λbs w hb m=>?_);show(x_ _ _).run _ _= .ok (.value (V (O ⟨w.heap.size,0,X⟩) 1 1)) (w.alloc (C #[Y I x0,(V tb eA.length tc),V X 0 0] 276));exact PO
  .intro bs wd hb md;replace md:=AC.like1 mq (bs 7).bl md;have dg:(bs 7).bl=[((bs 7).b,C #[Y I x0,(V tb eA.length tc),V X 0 0] 276)]:=hb 7 _ _ Z Z;rw[dg] at md;(try simp only[uB,uA] at md);simp only[uG,uH,Nat.reduceAdd,uN,uC,uD];have hnx:Hid (∀y∈([(⟨x0,(-1),eA⟩,(V tb eA.length tc),V X 0 0)]:List (Av×V_×V_)),IC H y):=A5 (by intro y hy;simp only[uX,uz,or_false] at hy;subst hy;exact⟨hf0,HT.out,AX.nil _ _⟩);go_wp2_with (at_builtin;refine AG (w0:=w0) (H:=H) Z _ _ 277 Z 276 3 56 (.agg #[Y I 0,V X 0 0,V X 0 0]) underlying277 A7 Z AD _ 0 [] (AP.nil md) Z _ 1 (Dh [(⟨x0,(-1),eA⟩,(V tb eA.length tc),V X 0 0)]) (Fr.loc (cs:=Dh [(⟨x0,(-1),eA⟩,(V tb eA.length tc),V X 0 0)]) md (.head _)) Z Z (DT (H:=H) _ hnx.out) A0 CJ ?_);intro v' w' eJ;(try simp only[uP,uA] at eJ);clear md;obtain⟨pb,pc,rfl,-,-⟩:=eJ.shape;go_wp2_with fail;simp only[LK];exact key _ _ ⟨Z,Z,Z,_,Z,NN.of (l:=[(⟨x0,(-1),eA⟩,(V tb eA.length tc),V X 0 0)]) eJ.drop.drop.drop.drop.drop (Bl.refl _) hnx.out Z2⟩
 have ch:=oo;clear oo;by_cases oo:op=62
 .skip;obtain⟨x0,g0,go0,hx0,rfl,e0,hf0⟩:=HI.out.2.2.1.getID (ah.out B8);obtain⟨x1,g1,go1,hx1,ba,e1,hf1⟩:=HI.out.2.2.1.getID (aw.out B8);cases ba;rw[uT] at e0;have E0:=A5 e0;clear e0;have bg:0<go.length:=ah.out B8;have bh:(0:Int)<go.length:=A0;have cp:1<go.length:=aw.out B8;have cq:(1:Int)<go.length:=A0;have E1:=A5 e1;clear e1;have ag:((op:Int)==21)=false:=bF A0;have ai:((op:Int)==69)=false:=bF A0;have aj:((op:Int)==70)=false:=bF A0;have al:((op:Int)==61)=false:=bF A0;have au:((op:Int)==62)=true:=B8;exact pz
 have cg:=oo;clear oo;by_cases oo:op=63
 .skip;obtain⟨x0,g0,go0,hx0,rfl,e0,hf0⟩:=HI.out.2.2.1.getID (ah.out B8);obtain⟨x1,g1,go1,hx1,ba,e1,hf1⟩:=HI.out.2.2.1.getID (aw.out B8);cases ba;rw[uT] at e0;have E0:=A5 e0;clear e0;have bg:0<go.length:=ah.out B8;have bh:(0:Int)<go.length:=A0;have cp:1<go.length:=aw.out B8;have cq:(1:Int)<go.length:=A0;have E1:=A5 e1;clear e1;have ag:((op:Int)==21)=false:=bF A0;have ai:((op:Int)==69)=false:=bF A0;have aj:((op:Int)==70)=false:=bF A0;have al:((op:Int)==61)=false:=bF A0;have au:((op:Int)==62)=false:=bF A0;have ax:((op:Int)==63)=true:=B8;exact pz
 have cf:=oo;clear oo;by_cases oo:op=65
 .skip;obtain⟨x0,g0,go0,hx0,rfl,e0,hf0⟩:=HI.out.2.2.1.getID (ah.out B8);obtain⟨x1,g1,go1,hx1,ba,e1,hf1⟩:=HI.out.2.2.1.getID (aw.out B8);cases ba;rw[uT] at e0;have E0:=A5 e0;clear e0;have bg:0<go.length:=ah.out B8;have bh:(0:Int)<go.length:=A0;have cp:1<go.length:=aw.out B8;have cq:(1:Int)<go.length:=A0;have E1:=A5 e1;clear e1;have ag:((op:Int)==21)=false:=bF A0;have ai:((op:Int)==69)=false:=bF A0;have aj:((op:Int)==70)=false:=bF A0;have al:((op:Int)==61)=false:=bF A0;have au:((op:Int)==62)=false:=bF A0;have ax:((op:Int)==63)=false:=bF A0;have bf:((op:Int)==65)=true:=B8;have OO:=A5 oo;have X0:=A5 hx0;clear oo hx0;have X1:=A5 hx1;clear hx1;go_wp2_with fail;refine EA (F:=λw'=>Code.wp _ _ _ _ w') mr ?_;clear es mr;intro wq mq;refine B1 mq [VK (V X 0 0),VK (M (O ⟨p3,6,X⟩)),VK (V (O ⟨g0,go0,X⟩) go.length c6),VK (M (O ⟨g0,go0,X⟩)),VK (Y I x0),VK (V tb eA.length tc),VK (M (O ⟨p3,1,X⟩)),VK (Y I to),⟨[8],λzb=> V (O ⟨(zb.getD 0 Ax).b,0,X⟩) 1 1,O ([],[],λzb d=>d.bl=[(d.b,C #[Y I to] 3)]),G⟩,⟨[8],λzb=> .agg #[Y I x0,(V tb eA.length tc),(V (O ⟨(zb.getD 0 Ax).b,0,X⟩) 1 1)],X,G⟩,VK (M (O ⟨p3,6,X⟩)),VK (V (O ⟨g0,go0,X⟩) go.length c6),VK (M (O ⟨g0,go0+1,X⟩)),VK (Y I x1),VK (V tb eA.length tc),VK (.agg #[Y I x1,(V tb eA.length tc),V X 0 0]),⟨[16],λzb=> V (O ⟨(zb.getD 0 Ax).b,0,X⟩) 2 2,O ([],[8],λzb d=>d.bl=[(d.b,C #[Y I x0,(V tb eA.length tc),(V (O ⟨(zb.getD 0 Ax).b,0,X⟩) 1 1),Y I x1,(V tb eA.length tc),V X 0 0] 276)]),G⟩] (nf 8++[B]++nf 7++[B]) ?_ ?_
  .refine⟨Gk,Gk,Gk,Gk,Gk,Gk,Gk,Gk,?_,?_,Gk,Gk,Gk,Gk,Gk,Gk,?_,trivial⟩
   ·(refine Al.make _ _ Z Z Z λbs w hb m=>?_);show(x_ _ _).run _ _= .ok (.value (V (O ⟨w.heap.size,0,X⟩) 1 1)) (w.alloc (C #[Y I to] 3));exact Xz
   ·(refine Al.val Z Z Z λbs w hb m=>?_);show(x_ _ _).run _ _= .ok (.value (.agg #[Y I x0,(V tb eA.length tc),(V (O ⟨(bs 8).b,0,X⟩) 1 1)])) w;exact Xz
   ·(refine Al.make _ _ Z Z Z λbs w hb m=>?_);show(x_ _ _).run _ _= .ok (.value (V (O ⟨w.heap.size,0,X⟩) 2 2)) (w.alloc (C #[Y I x0,(V tb eA.length tc),(V (O ⟨(bs 8).b,0,X⟩) 1 1),Y I x1,(V tb eA.length tc),V X 0 0] 276));exact Xz
  .intro bs wd hb md;replace md:=AC.like2 mq (bs 8).bl (bs 16).bl md;have df:(bs 8).bl=[((bs 8).b,C #[Y I to] 3)]:=hb 8 _ _ Z Z;rw[df] at md;have bm:(bs 16).bl=[((bs 16).b,C #[Y I x0,(V tb eA.length tc),(V (O ⟨(bs 8).b,0,X⟩) 1 1),Y I x1,(V tb eA.length tc),V X 0 0] 276)]:=hb 16 _ _ Z Z;rw[bm] at md;(try simp only[uB,uA] at md);simp only[uG,uH,Nat.reduceAdd,uN,uC,uD];obtain⟨H8,m8,aa,h8⟩:=AC.lit (E:=AY) (ys:=[to]) (cs:=[Y I to]) md (Cv [to] (λz hz=>by rw[yB.1 hz];exact ar)) Tv;have h8:AX AY H8 (V (O ⟨(bs 8).b,0,X⟩) 1 1) [to]:=h8;clear md;have md:=m8;have ae:0<=to:=br.out.to (by rw[OO.out];simp);have hnx:Hid (∀y∈([(⟨x0,to,eA⟩,(V tb eA.length tc),(V (O ⟨(bs 8).b,0,X⟩) 1 1)),(⟨x1,(-1),eA⟩,(V tb eA.length tc),V X 0 0)]:List (Av×V_×V_)),IC H8 y):=A5 (by intro y hy;simp only[uX,uz,or_false] at hy;rcases hy with rfl|rfl<;>first|exact⟨hf0,HT.out.mono aa,by rw[Jy ae];exact h8⟩|exact⟨hf1,HT.out.mono aa,AX.nil _ _⟩);go_wp2_with (at_builtin;refine AG (w0:=w0) (H:=H8) Z _ _ 277 Z 276 3 56 (.agg #[Y I 0,V X 0 0,V X 0 0]) underlying277 A7 Z AD _ 0 [] (AP.nil md) Z _ 2 (Dh [(⟨x0,to,eA⟩,(V tb eA.length tc),(V (O ⟨(bs 8).b,0,X⟩) 1 1)),(⟨x1,(-1),eA⟩,(V tb eA.length tc),V X 0 0)]) (Fr.loc (cs:=Dh [(⟨x0,to,eA⟩,(V tb eA.length tc),(V (O ⟨(bs 8).b,0,X⟩) 1 1)),(⟨x1,(-1),eA⟩,(V tb eA.length tc),V X 0 0)]) md (.head _)) Z Z (DT (H:=H8) _ hnx.out) A0 CJ ?_);intro v' w' eJ;(try simp only[uP,uA] at eJ);clear md;obtain⟨pb,pc,rfl,-,-⟩:=eJ.shape;go_wp2_with fail;simp only[LK];exact key _ _ ⟨Z,Z,Z,_,Z,NN.of (l:=[(⟨x0,to,eA⟩,(V tb eA.length tc),(V (O ⟨(bs 8).b,0,X⟩) 1 1)),(⟨x1,(-1),eA⟩,(V tb eA.length tc),V X 0 0)]) eJ.drop.drop.drop.drop.drop (aa) hnx.out Yl⟩
 have cd:=oo;clear oo;by_cases oo:op=66
 .skip;have ag:((op:Int)==21)=false:=bF A0;have ai:((op:Int)==69)=false:=bF A0;have aj:((op:Int)==70)=false:=bF A0;have al:((op:Int)==61)=false:=bF A0;have au:((op:Int)==62)=false:=bF A0;have ax:((op:Int)==63)=false:=bF A0;have bf:((op:Int)==65)=false:=bF A0;have bj:((op:Int)==66)=true:=B8;have OO:=A5 oo;clear oo;go_wp2_with fail;(go_loopw [5,87] (λv5 v87 wr=>∃(j:Nat) (l:List (Av×V_×V_)) (H1:Hp) (L3:List (Nat×Obj)),j<=ways.length/\v87= Y I j/\Hid (l.map vQ=(ways.take j).map λw=>(⟨w.go,w.to,eA⟩:Av))/\Hid (Bl H H1)/\Hid (∀z∈l,IC H1 z)/\Hid (Ba 276 3 v5 l.length (Dh l) L3)/\AC w0 H1 ((nb,C #[Y I ((k:Int)+1),(V tb eA.length tc),V X 0 0] 276)::(p3,S8 op to args n mm name go ways b5 c5 b6 c6 b7 c7)::(p2,C #[(V tb eA.length tc)] 138)::(p1,C #[Y I (k:Int)] 3)::(L3++LB)) wr) (λ_ v87 _=>ways.length-(intOf v87).toNat));case atStart=>exact⟨0,[],H,[],uL _,Z,A5 Z,A5 (Bl.refl _),A5 (λ_ h=>by cases h),A5 Ba.nil,mr⟩
  case round=>
   clear mr es;obtain⟨j,l,H1,L3,hj,rfl,HL,ad,HN,HO,mk⟩:=hrel;obtain⟨pb,pc,rfl,ee,ed⟩:=HO.out.shape;by_cases eP:j<ways.length
   .have ll:(j:Int)<ways.length:=A0;have hx:=uO eP;have cx:=A5 (br.out.way _ (uS eP));obtain⟨w7,o7,rfl,d0,d1,d2,d3,d4,lf⟩:=(HI.out.2.2.2.mono ad.out).getWay hx;have HTK:=A5 (show(ways.take (j+1)).map (λw=>(⟨w.go,w.to,eA⟩:Av))=(ways.take j).map (λw=>(⟨w.go,w.to,eA⟩:Av))++[⟨ways[j].go,ways[j].to,eA⟩] by rw[uh eP,vA];rfl);have eg:l.length<=4:=(by have h:=congrArg List.length HL.out;rw[vv,vv,vI] at h;omega);clear hx;generalize ways[j]=z at*;have d0:=d0.cell mk;have d1:=d1.cell mk;have d2:=d2.cell mk;have d3:=d3.cell mk;have d4:=d4.cell mk;by_cases az:z.kind=2
    .have KK:=A5 az;have dv:((z.kind:Int)==2)=true:=(by simp[az]);clear az;have m4:=mk.alloc (C #[Y .u8 z.kind,Y I z.chan,Y I z.value,Y I z.to,Y I z.go] 228);have m5:=m4.alloc (C #[Y I z.go,(V tb eA.length tc),(V (O ⟨wr.heap.size+1+1,0,X⟩) 1 1)] 276);simp only[uK] at m5;have m6:=m5.alloc (C #[Y I z.to] 3);simp only[uK] at m6;have m7:=m6.alloc (C #[Y I z.go,(V tb eA.length tc),(V (O ⟨wr.heap.size+1+1,0,X⟩) 1 1)] 276);simp only[uK] at m7;obtain⟨H8,m8,aa,h8⟩:=AC.lit (E:=AY) (ys:=[z.to]) (cs:=[Y I z.to]) ((m7.perm Ah:AC _ _ ((wr.heap.size+1+1,C #[Y I z.to] 3)::(wr.heap.size+1+1+1,C #[Y I z.go,(V tb eA.length tc),(V (O ⟨wr.heap.size+1+1,0,X⟩) 1 1)] 276)::(wr.heap.size+1,C #[Y I z.go,(V tb eA.length tc),(V (O ⟨wr.heap.size+1+1,0,X⟩) 1 1)] 276)::(wr.heap.size,C #[Y .u8 z.kind,Y I z.chan,Y I z.value,Y I z.to,Y I z.go] 228)::(nb,C #[Y I ((k:Int)+1),(V tb eA.length tc),V X 0 0] 276)::(p3,S8 op to args n mm name go ways b5 c5 b6 c6 (O ⟨w7,o7,X⟩) c7)::(p2,C #[(V tb eA.length tc)] 138)::(p1,C #[Y I (k:Int)] 3)::(L3++LB)) _)) (Cv [z.to] (λq hq=>by rw[yB.1 hq];exact lf.to)) Tv;have h8:AX AY H8 (V (O ⟨wr.heap.size+1+1,0,X⟩) 1 1) [z.to]:=h8;have ae:0<=z.to:=cx.out.1 KK.out;have ao:AX AY H8 (V (O ⟨wr.heap.size+1+1,0,X⟩) 1 1) (B7 ⟨z.go,z.to,eA⟩):=(by rw[Jy ae];exact h8);have ay:z.to=z.to:=Z;have hnx:Hid (∀y∈([(⟨z.go,z.to,eA⟩,(V tb eA.length tc),(V (O ⟨wr.heap.size+1+1,0,X⟩) 1 1))]:List (Av×V_×V_)),IC H8 y):=A5 rh;have dx:=A5 ao;clear ao;have m9:=(m8.perm Ah:AC _ _ (L3++((wr.heap.size+1+1+1,C #[Y I z.go,(V tb eA.length tc),(V (O ⟨wr.heap.size+1+1,0,X⟩) 1 1)] 276)::(wr.heap.size+1,C #[Y I z.go,(V tb eA.length tc),(V (O ⟨wr.heap.size+1+1,0,X⟩) 1 1)] 276)::(wr.heap.size,C #[Y .u8 z.kind,Y I z.chan,Y I z.value,Y I z.to,Y I z.go] 228)::(nb,C #[Y I ((k:Int)+1),(V tb eA.length tc),V X 0 0] 276)::(p3,S8 op to args n mm name go ways b5 c5 b6 c6 (O ⟨w7,o7,X⟩) c7)::(p2,C #[(V tb eA.length tc)] 138)::(p1,C #[Y I (k:Int)] 3)::LB)) _);have es:=mk.e6;have cw:=A5 ay;have af:=A5 aa;clear ay aa mk m4 m5 m6 m7 h8;go_wp2_with (at_builtin;refine AG (w0:=w0) (H:=H8) (L:=(wr.heap.size+1+1+1,C #[Y I z.go,(V tb eA.length tc),(V (O ⟨wr.heap.size+1+1,0,X⟩) 1 1)] 276)::(wr.heap.size+1,C #[Y I z.go,(V tb eA.length tc),(V (O ⟨wr.heap.size+1+1,0,X⟩) 1 1)] 276)::(wr.heap.size,C #[Y .u8 z.kind,Y I z.chan,Y I z.value,Y I z.to,Y I z.go] 228)::(nb,C #[Y I ((k:Int)+1),(V tb eA.length tc),V X 0 0] 276)::(p3,S8 op to args n mm name go ways b5 c5 b6 c6 (O ⟨w7,o7,X⟩) c7)::(p2,C #[(V tb eA.length tc)] 138)::(p1,C #[Y I (k:Int)] 3)::LB) Z _ _ 277 Z 276 3 56 (.agg #[Y I 0,V X 0 0,V X 0 0]) underlying277 A7 Z AD (.slice pb l.length pc) l.length (Dh l) (HO.out.join m9) Z _ 1 (Dh [(⟨z.go,z.to,eA⟩,(V tb eA.length tc),(V (O ⟨wr.heap.size+1+1,0,X⟩) 1 1))]) (Fr.loc (cs:=Dh [(⟨z.go,z.to,eA⟩,(V tb eA.length tc),(V (O ⟨wr.heap.size+1+1,0,X⟩) 1 1))]) m8 (.head _)) Z Z (DT (H:=H8) _ hnx.out) A0 CJ ?_);intro v' w' eJ;rw[<-JR] at eJ;obtain⟨L5,h5,m10⟩:=eJ.drop.drop.drop.split;obtain⟨dd,da,rfl,dt,dr⟩:=h5.shape;have H5:=A5 h5;clear h5 m8 m9 eJ es;go_wp2_with fail;go_roundw;(case rel=>refine⟨j+1,l++[(⟨z.go,z.to,eA⟩,(V tb eA.length tc),(V (O ⟨wr.heap.size+1+1,0,X⟩) 1 1))],H8,L5,by omega,by go_num,A5 (by rw[HTK.out,vA,<-HL.out];rfl),A5 (ad.out.trans af.out),A5 (λz hz=>by rcases uU.1 hz with hz|hz;exact(HN.out z hz).mono af.out;exact hnx.out z hz),A5 ju,?_⟩;exact lL);case measure=>exact BW
    .have KK:=A5 az;have dv:((z.kind:Int)==2)=false:=bF A0;clear az;have m4:=mk.alloc (C #[Y .u8 z.kind,Y I z.chan,Y I z.value,Y I z.to,Y I z.go] 228);have m5:=m4.alloc (C #[Y I z.go,(V tb eA.length tc),V X 0 0] 276);simp only[uK] at m5;have m7:=m5.alloc (C #[Y I z.go,(V tb eA.length tc),V X 0 0] 276);simp only[uK] at m7;have H8:=H1;have m8:=m7;have aa:Bl H1 H1:=Bl.refl _;have ao:AX AY H1 (V X 0 0) (B7 ⟨z.go,-1,eA⟩):=AX.nil _ _;have ay:z.to= -1:=cx.out.2 KK.out;have hnx:Hid (∀y∈([(⟨z.go,(-1),eA⟩,(V tb eA.length tc),V X 0 0)]:List (Av×V_×V_)),IC H1 y):=A5 rh;have dx:=A5 ao;clear ao;have m9:=(m8.perm Ah:AC _ _ (L3++((wr.heap.size+1+1,C #[Y I z.go,(V tb eA.length tc),V X 0 0] 276)::(wr.heap.size+1,C #[Y I z.go,(V tb eA.length tc),V X 0 0] 276)::(wr.heap.size,C #[Y .u8 z.kind,Y I z.chan,Y I z.value,Y I z.to,Y I z.go] 228)::(nb,C #[Y I ((k:Int)+1),(V tb eA.length tc),V X 0 0] 276)::(p3,S8 op to args n mm name go ways b5 c5 b6 c6 (O ⟨w7,o7,X⟩) c7)::(p2,C #[(V tb eA.length tc)] 138)::(p1,C #[Y I (k:Int)] 3)::LB)) _);have es:=mk.e6;have cw:=A5 ay;have af:=A5 aa;clear ay aa mk m4 m5 m7;go_wp2_with (at_builtin;refine AG (w0:=w0) (H:=H1) (L:=(wr.heap.size+1+1,C #[Y I z.go,(V tb eA.length tc),V X 0 0] 276)::(wr.heap.size+1,C #[Y I z.go,(V tb eA.length tc),V X 0 0] 276)::(wr.heap.size,C #[Y .u8 z.kind,Y I z.chan,Y I z.value,Y I z.to,Y I z.go] 228)::(nb,C #[Y I ((k:Int)+1),(V tb eA.length tc),V X 0 0] 276)::(p3,S8 op to args n mm name go ways b5 c5 b6 c6 (O ⟨w7,o7,X⟩) c7)::(p2,C #[(V tb eA.length tc)] 138)::(p1,C #[Y I (k:Int)] 3)::LB) Z _ _ 277 Z 276 3 56 (.agg #[Y I 0,V X 0 0,V X 0 0]) underlying277 A7 Z AD (.slice pb l.length pc) l.length (Dh l) (HO.out.join m9) Z _ 1 (Dh [(⟨z.go,(-1),eA⟩,(V tb eA.length tc),V X 0 0)]) (Fr.loc (cs:=Dh [(⟨z.go,(-1),eA⟩,(V tb eA.length tc),V X 0 0)]) m8 (.head _)) Z Z (DT (H:=H1) _ hnx.out) A0 CJ ?_);intro v' w' eJ;rw[<-JR] at eJ;obtain⟨L5,h5,m10⟩:=eJ.drop.drop.drop.split;obtain⟨dd,da,rfl,dt,dr⟩:=h5.shape;have H5:=A5 h5;clear h5 m8 m9 eJ es;go_wp2_with fail;go_roundw;(case rel=>refine⟨j+1,l++[(⟨z.go,(-1),eA⟩,(V tb eA.length tc),V X 0 0)],H1,L5,by omega,by go_num,A5 (by rw[HTK.out,vA,<-HL.out,cw.out];rfl),A5 (ad.out.trans af.out),A5 (λz hz=>by rcases uU.1 hz with hz|hz;exact(HN.out z hz).mono af.out;exact hnx.out z hz),A5 ju,?_⟩;exact lL);case measure=>exact BW
   .have hge:¬(j:Int)<ways.length:=A0;have es:=mk.e6;go_wp2_with fail;simp only[LK];exact key _ _ ⟨Z,Z,Z,_,Z,NN.of (HO.out.join ((mk.perm Ah:AC _ _ (L3++((nb,C #[Y I ((k:Int)+1),(V tb eA.length tc),V X 0 0] 276)::(p3,S8 op to args n mm name go ways b5 c5 b6 c6 b7 c7)::(p2,C #[(V tb eA.length tc)] 138)::(p1,C #[Y I (k:Int)] 3)::LB)) _))).drop.drop.drop.drop ad.out HN.out (by rw[HL.out,uj A0];unfold B6;simp only[OO.out];simp)⟩
 have ca:=oo;clear oo;by_cases oo:op=67
 .skip;obtain⟨x0,g0,go0,hx0,rfl,e0,hf0⟩:=HI.out.2.2.1.getID (ah.out B8);rw[uT] at e0;have E0:=A5 e0;clear e0;have bg:0<go.length:=ah.out B8;have bh:(0:Int)<go.length:=A0;have ag:((op:Int)==21)=false:=bF A0;have ai:((op:Int)==69)=false:=bF A0;have aj:((op:Int)==70)=false:=bF A0;have al:((op:Int)==61)=false:=bF A0;have au:((op:Int)==62)=false:=bF A0;have ax:((op:Int)==63)=false:=bF A0;have bf:((op:Int)==65)=false:=bF A0;have bj:((op:Int)==66)=false:=bF A0;have bt:((op:Int)==67)=true:=B8;have OO:=A5 oo;have X0:=A5 hx0;clear oo hx0;go_wp2_with fail;refine EA (F:=λw'=>Code.wp _ _ _ _ w') mr ?_;clear es mr;intro wq mq;refine B1 mq [VK (V tb eA.length tc),VK (V tb eA.length eA.length),VK (Y I (k:Int)),⟨[3],λzb=> V (O ⟨(zb.getD 0 Ax).b,0,X⟩) 1 1,O ([],[],λzb d=>d.bl=[(d.b,C #[Y I (k:Int)] 3)]),G⟩,⟨[4],λzb=> V (O ⟨(zb.getD 0 Ax).b,0,X⟩) (eA.length+1) (zb.getD 0 Ax).c,O ([3],[],λzb d=>d.v= V (O ⟨d.b,0,X⟩) (eA.length+1) d.c/\Ba 3 1 d.v (eA.length+1) (eA.map (Y I)++[Y I (k:Int)]) d.bl),G⟩] (nf 4++[B]) ?_ ?_
  .refine⟨DZ,?_,DZ,?_,?_,trivial⟩
   ·(refine Al.call Z Z Z λbs w L2 hb m=>?_);refine BU.ofCall (f:=275) (args:=#[V tb eA.length tc]) Br ?_;refine(Za tb eA.length tc cy.out.1 cy.out.2 w).mono ?_;rintro e w2 ⟨rfl,rfl⟩;exact⟨_,Z,Z,m⟩
   ·(refine Al.make _ _ Z Z Z λbs w hb m=>?_);show(x_ _ _).run _ _= .ok (.value (V (O ⟨w.heap.size,0,X⟩) 1 1)) (w.alloc (C #[Y I (k:Int)] 3));exact PO
   ·(refine Al.gen _ Z Z Z λbs w L2 hb m=>?_);have h3:(bs 3).bl=[((bs 3).b,C #[Y I (k:Int)] 3)]:=hb.at 3 A7 Z Z;simp only[vN,uu,vP,h3,uB,uA] at m;obtain⟨v',w',hr,eJ⟩:=Vf tb tc eA (k:Int) HT.out A0 (bs 3).b m;obtain⟨L8,h8,m8⟩:=eJ.split;exact eN
  .intro bs wd hb md;replace md:=AC.like1 mq (bs 4).bl md;have dh:(bs 3).bl=[((bs 3).b,C #[Y I (k:Int)] 3)]:=hb 3 _ _ Z Z;have bk:(bs 4).v= V (O ⟨(bs 4).b,0,X⟩) (eA.length+1) (bs 4).c/\Ba 3 1 (bs 4).v (eA.length+1) (eA.map (Y I)++[Y I (k:Int)]) (bs 4).bl:=hb 4 _ _ Z Z;(try simp only[uB,uA] at md);simp only[uG,uH,Nat.reduceAdd,uN,uC,uD];have bp:EH (k:Int):=(by unfold EH;omega);obtain⟨H7,m7,aq,h7⟩:=(bk.2.join md).done (ys:=eA++[(k:Int)]) (by have:=Cv (H:=H) (eA++[(k:Int)]) (λz hz=>by rcases uU.1 hz with hz|hz;exact HT.out.all z hz;rw[yB.1 hz];exact bp);rw[vA] at this;exact this) Z (by simp);rw[bk.1] at h7;clear md hb dh bk;generalize (bs 4).b=g8 at*;generalize (bs 4).c=c8 at*;have dw:=A5 h7;have bd:=A5 aq;have E0:=A5 (E0.out.mono aq);clear h7 aq;have es:=m7.e6;have mr:=m7.set (i:=1) (v:=(V (O ⟨g8,0,X⟩) (eA.length+1) c8)) .head;simp only[uI,uM,uJ] at mr;clear m7;go_wp2_with fail;refine EA (F:=λw'=>Code.wp _ _ _ _ w') mr ?_;clear es mr;intro wq mq;refine B1 mq [VK (V X 0 0),VK (.agg #[Y I ((k:Int)+1),(V (O ⟨g8,0,X⟩) (eA.length+1) c8),V X 0 0]),VK (M (O ⟨p3,6,X⟩)),VK (V (O ⟨g0,go0,X⟩) go.length c6),VK (M (O ⟨g0,go0,X⟩)),VK (Y I x0),VK (V tb eA.length tc),VK (M (O ⟨p3,1,X⟩)),VK (Y I to),⟨[9],λzb=> V (O ⟨(zb.getD 0 Ax).b,0,X⟩) 1 1,O ([],[],λzb d=>d.bl=[(d.b,C #[Y I to] 3)]),G⟩,⟨[9],λzb=> .agg #[Y I x0,(V tb eA.length tc),(V (O ⟨(zb.getD 0 Ax).b,0,X⟩) 1 1)],X,G⟩,⟨[11],λzb=> V (O ⟨(zb.getD 0 Ax).b,0,X⟩) 2 2,O ([],[9],λzb d=>d.bl=[(d.b,C #[Y I ((k:Int)+1),(V (O ⟨g8,0,X⟩) (eA.length+1) c8),V X 0 0,Y I x0,(V tb eA.length tc),(V (O ⟨(zb.getD 0 Ax).b,0,X⟩) 1 1)] 276)]),G⟩] (nf 9++[B]++nf 1++[B]) ?_ ?_
   .refine⟨DZ,DZ,DZ,DZ,DZ,DZ,DZ,DZ,DZ,?_,?_,?_,trivial⟩
    ·(refine Al.make _ _ Z Z Z λbs w hb m=>?_);show(x_ _ _).run _ _= .ok (.value (V (O ⟨w.heap.size,0,X⟩) 1 1)) (w.alloc (C #[Y I to] 3));exact PO
    ·(refine Al.val Z Z Z λbs w hb m=>?_);show(x_ _ _).run _ _= .ok (.value (.agg #[Y I x0,(V tb eA.length tc),(V (O ⟨(bs 9).b,0,X⟩) 1 1)])) w;exact PO
    ·(refine Al.make _ _ Z Z Z λbs w hb m=>?_);show(x_ _ _).run _ _= .ok (.value (V (O ⟨w.heap.size,0,X⟩) 2 2)) (w.alloc (C #[Y I ((k:Int)+1),(V (O ⟨g8,0,X⟩) (eA.length+1) c8),V X 0 0,Y I x0,(V tb eA.length tc),(V (O ⟨(bs 9).b,0,X⟩) 1 1)] 276));exact PO
   .intro bs wd hb md;replace md:=AC.like2 mq (bs 9).bl (bs 11).bl md;have de:(bs 9).bl=[((bs 9).b,C #[Y I to] 3)]:=hb 9 _ _ Z Z;rw[de] at md;have bn:(bs 11).bl=[((bs 11).b,C #[Y I ((k:Int)+1),(V (O ⟨g8,0,X⟩) (eA.length+1) c8),V X 0 0,Y I x0,(V tb eA.length tc),(V (O ⟨(bs 9).b,0,X⟩) 1 1)] 276)]:=hb 11 _ _ Z Z;rw[bn] at md;(try simp only[uB,uA] at md);simp only[uG,uH,Nat.reduceAdd,uN,uC,uD];obtain⟨H8,m8,aa,h8⟩:=AC.lit (E:=AY) (ys:=[to]) (cs:=[Y I to]) md (Cv [to] (λz hz=>by rw[yB.1 hz];exact ar)) Tv;have h8:AX AY H8 (V (O ⟨(bs 9).b,0,X⟩) 1 1) [to]:=h8;clear md;have md:=m8;have ae:0<=to:=br.out.to (by rw[OO.out];simp);have hnx:Hid (∀y∈([(⟨((k:Int)+1),(-1),(eA++[(k:Int)])⟩,(V (O ⟨g8,0,X⟩) (eA.length+1) c8),V X 0 0),(⟨x0,to,eA⟩,(V tb eA.length tc),(V (O ⟨(bs 9).b,0,X⟩) 1 1))]:List (Av×V_×V_)),IC H8 y):=A5 (by intro y hy;simp only[uX,uz,or_false] at hy;rcases hy with rfl|rfl<;>first|exact⟨by unfold EH;simp only;omega,dw.out.mono aa,AX.nil _ _⟩|exact⟨hf0,HT.out.mono (bd.out.trans aa),by rw[Jy ae];exact h8⟩);go_wp2_with (at_builtin;refine AG (w0:=w0) (H:=H8) Z _ _ 277 Z 276 3 56 (.agg #[Y I 0,V X 0 0,V X 0 0]) underlying277 A7 Z AD _ 0 [] (AP.nil md) Z _ 2 (Dh [(⟨((k:Int)+1),(-1),(eA++[(k:Int)])⟩,(V (O ⟨g8,0,X⟩) (eA.length+1) c8),V X 0 0),(⟨x0,to,eA⟩,(V tb eA.length tc),(V (O ⟨(bs 9).b,0,X⟩) 1 1))]) (Fr.loc (cs:=Dh [(⟨((k:Int)+1),(-1),(eA++[(k:Int)])⟩,(V (O ⟨g8,0,X⟩) (eA.length+1) c8),V X 0 0),(⟨x0,to,eA⟩,(V tb eA.length tc),(V (O ⟨(bs 9).b,0,X⟩) 1 1))]) md (.head _)) Z Z (DT (H:=H8) _ hnx.out) A0 CJ ?_);intro v' w' eJ;(try simp only[uP,uA] at eJ);clear md;obtain⟨pb,pc,rfl,-,-⟩:=eJ.shape;go_wp2_with fail;simp only[LK];exact key _ _ ⟨Z,Z,Z,_,Z,NN.of (l:=[(⟨((k:Int)+1),(-1),(eA++[(k:Int)])⟩,(V (O ⟨g8,0,X⟩) (eA.length+1) c8),V X 0 0),(⟨x0,to,eA⟩,(V tb eA.length tc),(V (O ⟨(bs 9).b,0,X⟩) 1 1))]) eJ.drop.drop.drop.drop.drop (bd.out.trans aa) hnx.out Z2⟩
 have bz:=oo;clear oo;by_cases oo:op=68
 .skip;have ag:((op:Int)==21)=false:=bF A0;have ai:((op:Int)==69)=false:=bF A0;have aj:((op:Int)==70)=false:=bF A0;have al:((op:Int)==61)=false:=bF A0;have au:((op:Int)==62)=false:=bF A0;have ax:((op:Int)==63)=false:=bF A0;have bf:((op:Int)==65)=false:=bF A0;have bj:((op:Int)==66)=false:=bF A0;have bt:((op:Int)==67)=false:=bF A0;have cz:((op:Int)==68)=true:=B8;have OO:=A5 oo;clear oo;have dy:IntKind.i64.wrap ((eA.length:Int)-1)=(eA.length:Int)-1:=IntWalk.i64_in _ A0;have N8:B6 ⟨op,to,args,n,mm,name,go,ways⟩ k eA=[⟨(k:Int)+1,-1,eA.take (eA.length-1)⟩]:=ld;have bc:AX AY H (V tb (eA.length-1) tc) (eA.take (eA.length-1)):=HT.out.takeV A0;have N8:=A5 N8;have bc:=A5 bc;by_cases ht1:1<eA.length
  .have dm:(1:Int)<eA.length:=A0;have m4:=mr.set (i:=1) (v:=(V tb (eA.length-1) tc)) .head;simp only[uI,uM,uJ] at m4;have m5:=m4.alloc (C #[Y I ((k:Int)+1),(V tb (eA.length-1) tc),V X 0 0] 276);simp only[vB] at m5;have hnx:Hid (∀y∈([(⟨((k:Int)+1),(-1),(eA.take (eA.length-1))⟩,(V tb (eA.length-1) tc),V X 0 0)]:List (Av×V_×V_)),IC H y):=A5 rm;go_wp2_with (at_builtin;refine AG (w0:=w0) (H:=H) Z _ _ 277 Z 276 3 56 (.agg #[Y I 0,V X 0 0,V X 0 0]) underlying277 A7 Z AD _ 0 [] (AP.nil m5) Z _ 1 (Dh [(⟨((k:Int)+1),(-1),(eA.take (eA.length-1))⟩,(V tb (eA.length-1) tc),V X 0 0)]) (Fr.loc (cs:=Dh [(⟨((k:Int)+1),(-1),(eA.take (eA.length-1))⟩,(V tb (eA.length-1) tc),V X 0 0)]) m5 (.head _)) Z Z (DT (H:=H) _ hnx.out) A0 CJ ?_);intro v' w' eJ;(try simp only[uP,uA] at eJ);clear m5 m4;obtain⟨pb,pc,rfl,-,-⟩:=eJ.shape;go_wp2_with fail;simp only[LK];exact key _ _ ⟨Z,Z,Z,_,Z,NN.of (l:=[(⟨((k:Int)+1),(-1),(eA.take (eA.length-1))⟩,(V tb (eA.length-1) tc),V X 0 0)]) eJ.drop.drop.drop.drop.drop (Bl.refl _) hnx.out (by rw[N8.out];rfl)⟩
  .have dn:eA.length-1=0:=A0;have ec:¬(1:Int)<eA.length:=A0;rw[dn] at bc N8;have m4:=mr.set (i:=1) (v:=(V tb 0 tc)) .head;simp only[uI,uM,uJ] at m4;have m5:=m4.alloc (C #[Y I ((k:Int)+1),(V tb 0 tc),V X 0 0] 276);simp only[vB] at m5;have hnx:Hid (∀y∈([(⟨((k:Int)+1),(-1),(eA.take 0)⟩,(V tb 0 tc),V X 0 0)]:List (Av×V_×V_)),IC H y):=A5 rm;go_wp2_with (at_builtin;refine AG (w0:=w0) (H:=H) Z _ _ 277 Z 276 3 56 (.agg #[Y I 0,V X 0 0,V X 0 0]) underlying277 A7 Z AD _ 0 [] (AP.nil m5) Z _ 1 (Dh [(⟨((k:Int)+1),(-1),(eA.take 0)⟩,(V tb 0 tc),V X 0 0)]) (Fr.loc (cs:=Dh [(⟨((k:Int)+1),(-1),(eA.take 0)⟩,(V tb 0 tc),V X 0 0)]) m5 (.head _)) Z Z (DT (H:=H) _ hnx.out) A0 CJ ?_);intro v' w' eJ;(try simp only[uP,uA] at eJ);clear m5 m4;obtain⟨pb,pc,rfl,-,-⟩:=eJ.shape;go_wp2_with fail;simp only[LK];exact key _ _ ⟨Z,Z,Z,_,Z,NN.of (l:=[(⟨((k:Int)+1),(-1),(eA.take 0)⟩,(V tb 0 tc),V X 0 0)]) eJ.drop.drop.drop.drop.drop (Bl.refl _) hnx.out (by rw[N8.out];rfl)⟩
 have bx:=oo;clear oo;have ag:((op:Int)==21)=false:=bF A0;have ai:((op:Int)==69)=false:=bF A0;have aj:((op:Int)==70)=false:=bF A0;have al:((op:Int)==61)=false:=bF A0;have au:((op:Int)==62)=false:=bF A0;have ax:((op:Int)==63)=false:=bF A0;have bf:((op:Int)==65)=false:=bF A0;have bj:((op:Int)==66)=false:=bF A0;have bt:((op:Int)==67)=false:=bF A0;have cz:((op:Int)==68)=false:=bF A0;have N9:=A5 (show B6 ⟨op,to,args,n,mm,name,go,ways⟩ k eA=[⟨(k:Int)+1,to,eA⟩] by unfold B6;simp[cj,bw,bu,ch,cg,cf,cd,ca,bz,bx]);clear cj bw bu ch cg cf cd ca bz bx;by_cases cm:0<=to
 .have m4:=mr.set (i:=2) (v:=(V (O ⟨wr.heap.size,0,X⟩) 1 1)) .head;simp only[uI,uM,uJ] at m4;have m5:=m4.alloc (C #[Y I to] 3);simp only[vB] at m5;have m6:=m5.alloc (C #[Y I ((k:Int)+1),(V tb eA.length tc),(V (O ⟨wr.heap.size,0,X⟩) 1 1)] 276);simp only[uK,vB] at m6;obtain⟨H8,m8,aa,h8⟩:=AC.lit (E:=AY) (ys:=[to]) (cs:=[Y I to]) (m6.perm (List.Perm.swap _ _ _)) (Cv [to] (λq hq=>by rw[yB.1 hq];exact ar)) Tv;have h8:AX AY H8 (V (O ⟨wr.heap.size,0,X⟩) 1 1) [to]:=h8;have hnx:Hid (∀y∈([(⟨((k:Int)+1),to,eA⟩,(V tb eA.length tc),(V (O ⟨wr.heap.size,0,X⟩) 1 1))]:List (Av×V_×V_)),IC H8 y):=A5 (by intro y hy;rw[yB.1 hy];exact⟨by unfold EH;simp only;omega,HT.out.mono aa,by rw[Jy cm];exact h8⟩);clear m4 m5 m6 h8;go_wp2_with (at_builtin;refine AG (w0:=w0) (H:=H8) Z _ _ 277 Z 276 3 56 (.agg #[Y I 0,V X 0 0,V X 0 0]) underlying277 A7 Z AD _ 0 [] (AP.nil m8) Z _ 1 (Dh [(⟨((k:Int)+1),to,eA⟩,(V tb eA.length tc),(V (O ⟨wr.heap.size,0,X⟩) 1 1))]) (Fr.loc (cs:=Dh [(⟨((k:Int)+1),to,eA⟩,(V tb eA.length tc),(V (O ⟨wr.heap.size,0,X⟩) 1 1))]) m8 (.head _)) Z Z (DT (H:=H8) _ hnx.out) A0 CJ ?_);intro v' w' eJ;(try simp only[uP,uA] at eJ);clear m8;obtain⟨pb,pc,rfl,-,-⟩:=eJ.shape;go_wp2_with fail;simp only[LK];exact key _ _ ⟨Z,Z,Z,_,Z,NN.of (l:=[(⟨((k:Int)+1),to,eA⟩,(V tb eA.length tc),(V (O ⟨wr.heap.size,0,X⟩) 1 1))]) eJ.drop.drop.drop.drop.drop (aa) hnx.out (by rw[N9.out];rfl)⟩
 .have eb:=A5 cm;have m5:=mr.alloc (C #[Y I ((k:Int)+1),(V tb eA.length tc),V X 0 0] 276);have hnx:Hid (∀y∈([(⟨((k:Int)+1),to,eA⟩,(V tb eA.length tc),V X 0 0)]:List (Av×V_×V_)),IC H y):=A5 (by intro y hy;rw[yB.1 hy];exact⟨by unfold EH;simp only;omega,HT.out,by unfold B7;rw[p_ (by simp only;omega)];exact AX.nil _ _⟩);go_wp2_with (at_builtin;refine AG (w0:=w0) (H:=H) Z _ _ 277 Z 276 3 56 (.agg #[Y I 0,V X 0 0,V X 0 0]) underlying277 A7 Z AD _ 0 [] (AP.nil m5) Z _ 1 (Dh [(⟨((k:Int)+1),to,eA⟩,(V tb eA.length tc),V X 0 0)]) (Fr.loc (cs:=Dh [(⟨((k:Int)+1),to,eA⟩,(V tb eA.length tc),V X 0 0)]) m5 (.head _)) Z Z (DT (H:=H) _ hnx.out) A0 CJ ?_);intro v' w' eJ;(try simp only[uP,uA] at eJ);clear m5;obtain⟨pb,pc,rfl,-,-⟩:=eJ.shape;go_wp2_with fail;simp only[LK];exact key _ _ ⟨Z,Z,Z,_,Z,NN.of (l:=[(⟨((k:Int)+1),to,eA⟩,(V tb eA.length tc),V X 0 0)]) eJ.drop.drop.drop.drop.drop (Bl.refl _) hnx.out (by rw[N9.out];rfl)⟩
variable {lS:Nat} {rows:List CA} {y:Av}
def W4.zero:W4:=⟨0,0,0,0⟩
def CA.setK (r:CA) (x:W4):CA:=⟨r.e,r.tv,x⟩
def CA.zero:CA:=⟨G,V X 0 0,W4.zero⟩
def BJ (rows:List CA) (k:Nat):CA:=rows.getD k CA.zero
theorem Dv (h:k<rows.length):rows[k]?=O (BJ rows k):=by unfold BJ;rw[uE,uO h];rfl
theorem I9 {r:CA} (h:rows[k]?=O r):BJ rows k=r:=by unfold BJ;rw[uE,h];rfl
theorem FE {a:Nat} (h:a<rows.length) (r:CA) (k:Nat):BJ (rows.set a r) k=if k=a then r else BJ rows k:=C4 rows a k r _ h
def J1 (k:Nat) (rows:List CA) (y:Av):W4:=(BJ rows y.at'.toNat).kn.and' ((BJ rows k).kn.with' (B7 y))
def C5 (k:Nat) (rows:List CA) (y:Av):List CA:=rows.set y.at'.toNat (CA.setK (BJ rows y.at'.toNat) (J1 k rows y))
def CS (c:AF) (fin:ES) (rows:List CA) (k:Nat):List CA:=if fin.e.getD k G=B then (CU c k (fin.t.getD k [])).foldl (C5 k) rows else rows
def GL (c:AF) (fin:ES) (rows:List CA):List CA:=(uF c.i.length).foldl (CS c fin) rows
def W4.sum (x:W4):Nat:=x.a+x.b+x.c+x.d
def Ra (rows:List CA):Nat:=(rows.map λr=>r.kn.sum).sum
theorem W4.and_lt (x y:W4) (h:x.and' y≠x):(x.and' y).sum<x.sum:=by have h1:=uQ (n:=x.a) (m:=y.a);have h2:=uQ (n:=x.b) (m:=y.b);have h3:=uQ (n:=x.c) (m:=y.c);have h4:=uQ (n:=x.d) (m:=y.d);have h5:¬(x.a&&&y.a=x.a/\x.b&&&y.b=x.b/\x.c&&&y.c=x.c/\x.d&&&y.d=x.d):=(by rintro⟨e1,e2,e3,e4⟩;apply h;unfold W4.and';rw[e1,e2,e3,e4]);unfold W4.sum W4.and';simp only;omega
theorem Yd:∀(l:List Nat) (k v:Nat),k<l.length->(l.set k v).sum+l.getD k 0=l.sum+v
 |[],k,v,h=>by simp at h
 |x::l,0,v,h=>by simp;omega
 |x::l,k+1,v,h=>by
  have ih:=Yd l k v CE
  simp at ih⊢
  omega
theorem gC {a:Nat} (h:a<rows.length) (r:CA):Ra (rows.set a r)+(BJ rows a).kn.sum=Ra rows+r.kn.sum:=by unfold Ra;rw[List.map_set];have:=Yd (rows.map λr=>r.kn.sum) a r.kn.sum CE;rw[uE,vJ,Dv h] at this;exact this
def Ce (rows rows':List CA):Prop:=rows'.length=rows.length/\∀k,(BJ rows' k).e=(BJ rows k).e/\(BJ rows' k).tv=(BJ rows k).tv
theorem Ce.refl (rows:List CA):Ce rows rows:=⟨Z,λ_=>⟨Z,Z⟩⟩
theorem Ce.trans {a b c:List CA} (h:Ce a b) (h':Ce b c):Ce a c:=⟨h'.1.trans h.1,λk=>⟨(h'.2 k).1.trans (h.2 k).1,(h'.2 k).2.trans (h.2 k).2⟩⟩
theorem Ce.set (rows:List CA) (a:Nat) (x:W4):Ce rows (rows.set a (CA.setK (BJ rows a) (x))):=by
 refine⟨by simp,λk=>?_⟩;by_cases ha:a<rows.length
 .rw[FE ha];split
  .rename_i e;subst e;exact⟨Z,Z⟩
  .exact⟨Z,Z⟩
 .rw[vR A0];exact⟨Z,Z⟩
def Jf (rows:List CA):Prop:=∀k,(BJ rows k).kn.fit
theorem W4.fit_zero:W4.zero.fit:=⟨by decide,by decide,by decide,by decide⟩
theorem Jf.set (h:Jf rows) (a:Nat) {r:CA} (hr:r.kn.fit):Jf (rows.set a r):=by
 intro k;by_cases ha:a<rows.length
 .rw[FE ha];split
  .exact hr
  .exact h k
 .rw[vR A0];exact h k
theorem RX (k:Nat) (rows:List CA) (y:Av):Ce rows (C5 k rows y):=Ce.set rows _ _
theorem U4 (h:Jf rows) (k:Nat) (y:Av):Jf (C5 k rows y):=h.set _ (W4.fit_and (h _))
def Gw (R0 R:List CA) (ch:Bool):Prop:=(ch=G/\R=R0)\/(ch=B/\Ra R<Ra R0)
theorem Gw.start (R:List CA):Gw R R false:= .inl ⟨Z,Z⟩
theorem Gw.more {R0 R:List CA} {ch:Bool} (h:Gw R0 R ch) (hy:y.at'.toNat<R.length) (hg:J1 k R y≠(BJ R y.at'.toNat).kn):Gw R0 (C5 k R y) true:=by
 have h1:=gC hy (CA.setK (BJ R y.at'.toNat) (J1 k R y));have h2:=W4.and_lt _ _ hg;have h3:Ra (C5 k R y)<Ra R:=(by unfold C5;have h4:(CA.setK (BJ R y.at'.toNat) (J1 k R y)).kn=J1 k R y:=Z;rw[h4] at h1;have h5:(J1 k R y).sum<(BJ R y.at'.toNat).kn.sum:=h2;omega);rcases h with ⟨_,rfl⟩|⟨_,h⟩
 .exact .inr ⟨Z,h3⟩
 .exact .inr ⟨Z,by omega⟩
theorem RC {R:List CA} (hg:J1 k R y=(BJ R y.at'.toNat).kn):C5 k R y=R:=by
 unfold C5;rw[hg];by_cases ha:y.at'.toNat<R.length
 .have h1:=Dv ha;(refine vH λi=>?_);by_cases e:y.at'.toNat=i
  .subst e;rw[vU ha,h1];rfl
  .rw[ud e]
 .exact vR A0
structure Dc (n lS:Nat) (rows:List CA) (K:List (List Bool)):Prop where
 len:rows.length=n
 fit:EB n lS K
 bit:∀k r,k<n->r<lS->(BJ rows k).kn.has r=(K.getD k []).getD r G
theorem Pm (h: -1<=y.to/\y.to<lS) (hr:lS<=250):∀r∈B7 y,0<=r/\r<256:=by
 intro r hm;unfold B7 at hm;split at hm
 .cases hm
 .rw[yB.1 hm];omega
theorem aG (h: -1<=y.to) (r:Nat):((B7 y).any λq=>T (q=(r:Int)))=T (y.to=(r:Int)):=by
 unfold B7;split
 .rw[vx,f_ A0]
 .rw[vV,vx,vG]
theorem Dc.spread1 {K:List (List Bool)} (h:Dc n lS rows K) (hr:lS<=250) (hk:k<n) (hy:y.at'.toNat<n) (ht: -1<=y.to/\y.to<lS):Dc n lS (C5 k rows y) (GB lS k K y):=by
 refine⟨by unfold C5;rw[vy];exact h.len,No h.fit,λj r hj hrr=>?_⟩;unfold C5 Go.Proofs.YtpjbcplpdjobjaaGreat.GB;rw[FE (by rw[h.len];exact hy),C4 _ _ _ _ _ (by rw[h.fit.len];exact hy)];by_cases e:j=y.at'.toNat
 .rw[p_ e,p_ e];rw[uE (l:=List.map _ _),vJ,List.getElem?_range hrr];simp only[Option.map_some,vF];unfold J1;show((BJ rows y.at'.toNat).kn.and' ((BJ rows k).kn.with' (B7 y))).has r=_;rw[W4.has_and,W4.has_with _ (Pm ht hr) A0,h.bit _ _ hy hrr,h.bit _ _ hk hrr,aG ht.1]
 .rw[n_ e,n_ e];exact h.bit j r hj hrr
theorem Dc.spreads {n lS:Nat} (hr:lS<=250) {k:Nat} (hk:k<n):∀(l:List Av) {rows:List CA} {K:List (List Bool)},Dc n lS rows K->(∀y∈l,y.at'.toNat<n/\ -1<=y.to/\y.to<lS)->Dc n lS (l.foldl (C5 k) rows) (l.foldl (Go.Proofs.YtpjbcplpdjobjaaGreat.GB lS k) K)
 |[],_,_,h,_=>h
 |y::l,_,_,h,hl=>Dc.spreads hr hk l (h.spread1 hr hk (hl y (.head _)).1 (hl y (.head _)).2) λz hz=>hl z (.tail _ hz)
theorem Dc.spreadAt {c:AF} {fin:ES} (hr:lS<=250) (hl:∀k,k<n->∀y∈CU c k (fin.t.getD k []),y.at'.toNat<n/\ -1<=y.to/\y.to<lS) {K:List (List Bool)} (h:Dc n lS rows K) (hk:k<n):Dc n lS (CS c fin rows k) (Go.Proofs.YtpjbcplpdjobjaaGreat.FO c fin lS K k):=by
 unfold CS Go.Proofs.YtpjbcplpdjobjaaGreat.FO;split
 .exact Dc.spreads hr hk _ h (hl k hk)
 .exact h
theorem Dc.sweepN {c:AF} {fin:ES} (hr:lS<=250) (hl:∀k,k<n->∀y∈CU c k (fin.t.getD k []),y.at'.toNat<n/\ -1<=y.to/\y.to<lS) {K:List (List Bool)} (h:Dc n lS rows K):∀k,k<=n->Dc n lS ((uF k).foldl (CS c fin) rows) ((uF k).foldl (Go.Proofs.YtpjbcplpdjobjaaGreat.FO c fin lS) K):=by
 intro k
 induction k with
 |zero=>exact λ_=>h
 |succ k ih=>intro hk;rw[vz,uW,uW];exact(ih A0).spreadAt hr hl A0
theorem Dc.eq {n lS:Nat} {rows:List CA} {K K':List (List Bool)} (h:Dc n lS rows K) (h':Dc n lS rows K'):K=K':=
 V9 h.fit h'.fit λx q hx hq=>(h.bit x q hx hq).symm.trans (h'.bit x q hx hq)
theorem YK {c:AF} {R0 R:List CA} (hreg:c.g.toNat=lS) (hr:lS<=250) (hl:∀k,k<c.i.length->∀y∈CU c k ((AB c).t.getD k []),y.at'.toNat<c.i.length/\ -1<=y.to/\y.to<lS) (h0:Dc c.i.length lS R0 (Fb c lS)) (m:Nat) (hs:R=Ct (GL c (AB c)) m R0) (aa:GL c (AB c) R=R):∃K,G8 c K/\Dc c.i.length lS R K:=by
 subst hs
 have key:∀j,j<=m->Dc c.i.length lS (Ct (GL c (AB c)) j R0) (Ct (Jo c (AB c) lS) j (Fb c lS)):=by
  intro j
  induction j with
  |zero=>exact λ_=>h0
  |succ j ih=>intro hj;rw[F4 _ j 1,F4 _ j 1];exact Dc.sweepN hr hl (ih A0) _ (vD _)
 have hm:=key m (vD _);refine⟨_,⟨m,by rw[hreg],?_⟩,hm⟩;have h2:Dc c.i.length lS (Ct (GL c (AB c)) m R0) (Jo c (AB c) lS (Ct (Jo c (AB c) lS) m (Fb c lS))):=(by have:=Dc.sweepN hr hl hm _ (vD _);have e:(uF c.i.length).foldl (CS c (AB c)) (Ct (GL c (AB c)) m R0)=Ct (GL c (AB c)) m R0:=aa;rw[e] at this;exact this);rw[hreg];exact h2.eq hm
variable {b:Nat} {o:Oper} {t:TypeId} {ρ:Operand->Value}
abbrev CQ (fvs:List V_):Obj:= C fvs.toArray 277
theorem M8:∀(l:List CA) (a:Nat) (r:CA) (x:W4),l[a]?=O r->TU (Dx l).toArray (a*6+2) x.vs=(Dx (l.set a (CA.setK (r) (x)))).toArray:=by
 intro l a r x h
 have key:∀(l:List CA) (a:Nat),l[a]?=O r->((((Dx l).set (a*6+2) (Y .u64 (x.a:Int))).set (a*6+3) (Y .u64 (x.b:Int))).set (a*6+4) (Y .u64 (x.c:Int))).set (a*6+5) (Y .u64 (x.d:Int))=Dx (l.set a (CA.setK (r) (x))):=by
  intro l
  induction l with
  |nil=>intro a h;simp at h
  |cons r' l ih=>
   intro a h
   cases a with
   |zero=>simp only[vM,Option.some.injEq] at h;subst h;simp[Dx,CA.cs,CA.setK]
   |succ a=>have ih:=ih a CE;simp only[uJ,Dx];rw[<-ih];(have e:∀j,(a+1)*6+j=r'.cs.length+(a*6+j):=λj=>by simp[CA.cs];omega);rw[e,e,e,e];exact su
 simp only[W4.vs,TU,uI];rw[key l a h]
instance:DecidableEq W4:=λx y=>if h:x.a=y.a/\x.b=y.b/\x.c=y.c/\x.d=y.d then isTrue (by obtain⟨a,b,c,d⟩:=x;obtain⟨a',b',c',d'⟩:=y;simp only at h;obtain⟨rfl,rfl,rfl,rfl⟩:=h;rfl) else isFalse λe=>h (by rw[e];exact⟨Z,Z,Z,Z⟩)
theorem Iy (xs ys:Array V_) (i:Nat) (is:List Nat) (x y:Int) (w:W_) (hx:xs[i*1]?=O (Y .u64 x)) (hy:ys[i*1]?=O (Y .u64 y)):(vS 9999 264 1 xs ys (i::is)).run yA w=if x==y then (vS 9999 264 1 xs ys is).run yA w else .ok G w:=by have he:Tryz.prog.plainKey 264=true:=A7;have h1:=run_equalIn_int (P:=yA) w 9998 264 .u64 .u64 x y underlying264;simp only[vS,Sem.run_bind,run_part_plain w he hx,run_part_plain w he hy,Result.andThen_ok];rw[show(9999:Nat)=9998+1 from Z,h1];cases h:x==y<;>simp
theorem UQ (x y:W4) (w:W_):(Op.equalIn 10000 266 x.v y.v).run yA w= .ok (T (x=y)) w:=by
 obtain⟨xa,xb,xc,xd⟩:=x;obtain⟨ya,yb,yc,yd⟩:=y
 obtain⟨i,hi⟩:∃i,Tryz.prog.info? 264=O i:=by
  cases h:Tryz.prog.info? 264 with
  |none=>exact a_ (show(Tryz.prog.info? 264).isSome=B by kernel_rfl) (by rw[h];simp)
  |some i=>exact⟨i,Z⟩
 have hc:Tryz.prog.cellsOf 264=1:=A7;show(Op.equalIn (9999+1) 266 (.agg #[Y .u64 (xa:Int),Y .u64 (xb:Int),Y .u64 (xc:Int),Y .u64 (xd:Int)]) (.agg #[Y .u64 (ya:Int),Y .u64 (yb:Int),Y .u64 (yc:Int),Y .u64 (yd:Int)])).run yA w=_;rw[run_equalIn_array w 9999 _ _ underlying266 hi,hc,show uF 4=[0,1,2,3] from Z,Iy _ _ 0 _ xa ya w Z Z,Iy _ _ 1 _ xb yb w Z Z,Iy _ _ 2 _ xc yc w Z Z,Iy _ _ 3 _ xd yd w Z Z];have hs:T ((⟨xa,xb,xc,xd⟩:W4)=⟨ya,yb,yc,yd⟩)=(((xa:Int)==ya)&&(((xb:Int)==yb)&&(((xc:Int)==yc)&&((xd:Int)==yd)))):=(by rw[vW];simp only[decide_eq_true_eq,uR,beq_iff_eq,W4.mk.injEq];omega);rw[hs];cases ((xa:Int)==ya)
 .rfl
 cases ((xb:Int)==yb)
 .rfl
 cases ((xc:Int)==yc)
 .rfl
 cases ((xd:Int)==yd)
 .rfl
 .rfl
theorem AC.drop2 {p q r:Nat×Obj} (m:AC w0 H (p::q::r::L) w):AC w0 H (p::L) w:=((m.perm Ah:AC _ _ (q::r::p::L) _)).drop.drop
theorem Hr {c:Array V_} (m:AC w0 H ((b,C c t (0,0))::L) w) (h:i<c.size):(∃u,w.cell? ⟨b,i,X⟩=O u)/\w.frozen? ⟨b,i,X⟩=false:=by have hm:=(m.loc _ (.head _)).1;exact⟨⟨c[i],by rw[AU hm];exact ul h⟩,Bx hm i⟩
theorem pF {c:Array V_} (m:AC w0 H ((b,C c t (0,0))::L) w) (h:i+3<c.size) (v0 v1 v2:V_):∃u0 u1 u2 u3,(w.cell? ⟨b,i,X⟩=O u0/\w.frozen? ⟨b,i,X⟩=G)/\((w.setCell ⟨b,i,X⟩ v0).cell? ⟨b,i+1,X⟩=O u1/\(w.setCell ⟨b,i,X⟩ v0).frozen? ⟨b,i+1,X⟩=G)/\(((w.setCell ⟨b,i,X⟩ v0).setCell ⟨b,i+1,X⟩ v1).cell? ⟨b,i+2,X⟩=O u2/\((w.setCell ⟨b,i,X⟩ v0).setCell ⟨b,i+1,X⟩ v1).frozen? ⟨b,i+2,X⟩=G)/\((((w.setCell ⟨b,i,X⟩ v0).setCell ⟨b,i+1,X⟩ v1).setCell ⟨b,i+2,X⟩ v2).cell? ⟨b,i+3,X⟩=O u3/\(((w.setCell ⟨b,i,X⟩ v0).setCell ⟨b,i+1,X⟩ v1).setCell ⟨b,i+2,X⟩ v2).frozen? ⟨b,i+3,X⟩=G):=by have m1:=m.set (i:=i) (v:=v0) .head;have m2:=m1.set (i:=i+1) (v:=v1) .head;have m3:=m2.set (i:=i+2) (v:=v2) .head;obtain⟨⟨u0,a0⟩,b0⟩:=Hr (i:=i) m A0;obtain⟨⟨u1,a1⟩,b1⟩:=Hr (i:=i+1) m1 BL;obtain⟨⟨u2,a2⟩,b2⟩:=Hr (i:=i+2) m2 BL;obtain⟨⟨u3,a3⟩,b3⟩:=Hr (i:=i+3) m3 BL;exact⟨u0,u1,u2,u3,⟨a0,b0⟩,⟨a1,b1⟩,⟨a2,b2⟩,⟨a3,b3⟩⟩
theorem Qp {p x:O_} (y:W4) (ho:o.op= .store 266 p x) (hp:ρ p= M (O ⟨b,i,X⟩)) (hx:ρ x=y.v) (u0 u1 u2 u3:V_) (c0:w.cell? ⟨b,i,X⟩=O u0) (f0:w.frozen? ⟨b,i,X⟩=G) (c1:(w.setCell ⟨b,i,X⟩ (Y .u64 (y.a:Int))).cell? ⟨b,i+1,X⟩=O u1) (f1:(w.setCell ⟨b,i,X⟩ (Y .u64 (y.a:Int))).frozen? ⟨b,i+1,X⟩=G) (c2:((w.setCell ⟨b,i,X⟩ (Y .u64 (y.a:Int))).setCell ⟨b,i+1,X⟩ (Y .u64 (y.b:Int))).cell? ⟨b,i+2,X⟩=O u2) (f2:((w.setCell ⟨b,i,X⟩ (Y .u64 (y.a:Int))).setCell ⟨b,i+1,X⟩ (Y .u64 (y.b:Int))).frozen? ⟨b,i+2,X⟩=G) (c3:(((w.setCell ⟨b,i,X⟩ (Y .u64 (y.a:Int))).setCell ⟨b,i+1,X⟩ (Y .u64 (y.b:Int))).setCell ⟨b,i+2,X⟩ (Y .u64 (y.c:Int))).cell? ⟨b,i+3,X⟩=O u3) (f3:(((w.setCell ⟨b,i,X⟩ (Y .u64 (y.a:Int))).setCell ⟨b,i+1,X⟩ (Y .u64 (y.b:Int))).setCell ⟨b,i+2,X⟩ (Y .u64 (y.c:Int))).frozen? ⟨b,i+3,X⟩=G):(x_ ρ o).run yA w= .ok .skip (Ff w b i y.vs):=by unfold W4.v at hx;unfold W4.vs;simp only[Ff];unfold x_;simp only[ho,hp,hx];go_simp
theorem EI {ops:Array Oper} {rest:List Oper} {a:Act} {c:Array V_} {p x:O_} (y:W4) (aa:o.guard=X) (ho:o.op= .store 266 p x) (hp:a.eval p= M (O ⟨b,i,X⟩)) (hx:a.eval x=y.v) (m:AC w0 H ((b,C c t (0,0))::L) w) (hi:i+3<c.size) (h:wpList yA ops Q rest (a.put o.dst undef) (Ff w b i y.vs)):wpList yA ops Q (o::rest) a w:=by(refine wpList_plain aa λK hK=>?_);obtain⟨u0,u1,u2,u3,⟨c0,f0⟩,⟨c1,f1⟩,⟨c2,f2⟩,⟨c3,f3⟩⟩:=pF m hi (Y .u64 (y.a:Int)) (Y .u64 (y.b:Int)) (Y .u64 (y.c:Int));unfold Oper.wp;rw[Qp y ho hp hx u0 u1 u2 u3 c0 f0 c1 f1 c2 f2 c3 f3];exact hK _ _ h
theorem G7 {ab:Nat} (h:w.heap[ab]?=O (C8 rows)) {r:CA} (hr:rows[k]?=O r):w.cell? ⟨ab,k*6,X⟩=O (N r.e)/\w.cell? ⟨ab,k*6+1,X⟩=O r.tv/\w.cell? ⟨ab,k*6+2,X⟩=O (Y .u64 (r.kn.a:Int))/\w.cell? ⟨ab,k*6+3,X⟩=O (Y .u64 (r.kn.b:Int))/\w.cell? ⟨ab,k*6+4,X⟩=O (Y .u64 (r.kn.c:Int))/\w.cell? ⟨ab,k*6+5,X⟩=O (Y .u64 (r.kn.d:Int)):=by(have hst:∀j,j<6->w.cell? ⟨ab,k*6+j,X⟩=r.cs[j]?:=λj hj=>by rw[AU h];simpa using I6 rows k r j hr hj);exact⟨hst 0 AD,hst 1 AD,hst 2 AD,hst 3 AD,hst 4 AD,hst 5 AD⟩
def oD (w0:W_) (H:Hp) (L:List (Nat×Obj)) (ab k:Nat) (l:List Av) (rows:List CA) (e:E_) (w':W_):Prop:=∃rows' ch,e= .returned (N ch)/\rows'=l.foldl (C5 k) rows/\Gw rows rows' ch/\Jf rows'/\AC w0 H ((ab,C8 rows')::L) w'
theorem UK (c:AF) (ib:Option Addr) (ic ab sb mb fb:Nat) (fvs:List V_) (rows:List CA) (k:Nat) (l:List Av) (fv:V_) (m:AC w0 H ((ab,C8 rows)::L) w) (hF:(fb,Ac c ib ic ab sb mb)∈L) (hS:(sb,CQ fvs)∈L) (ak:fvs[k]?=O fv) (hl:AX Gp H fv l) (hn:c.i.length<=2000) (aw:rows.length=c.i.length) (az:fvs.length=c.i.length) (hk:k<c.i.length) (lf:Jf rows) (hy:∀y∈l,(0<=y.at'/\y.at'<c.i.length)/\ -1<=y.to/\y.to<250):K_ yA 276 #[M (O ⟨fb,0,X⟩),Y I k] w (oD w0 H L ab k l rows):=by
 have HSL:=A5 hl;obtain⟨lb,lc,rfl,bu,ay,-⟩:=hl;have ay:=A9 ay;have bp:=A5 (show(fb,Ac c ib ic ab sb mb)∈((ab,C8 rows)::L) from .tail _ hF);have HF:=A5 hF;have HS:=A5 hS;have HY:=A5 hy;have ca:=A5 ak;have cd:=A5 az;have ef:=Bw (w:=w) (L:=[(fb,Ac c ib ic ab sb mb)]) (λp hp=>by rw[yB.1 hp];exact(m.loc _ (.tail _ hF)).1);simp only[BS,Ac] at ef;have bw:(k:Int)<c.i.length:=A0;have et:w.cell? ⟨sb,k,X⟩=O (V lb l.length lc):=(by rw[AU (m.loc _ (.tail _ hS)).1];simpa using ak);have ar:=A5 lf;have bn:=A5 aw;clear hF hS hy ak lf aw az;go_enter func276,ntmps276;go_wp2_with fail;clear ef et;(go_loopw [4,17] (λv4 ai wr=>∃(j:Nat) (aa:List CA) (ch:Bool),j<=l.length/\ai= Y I j/\v4= N ch/\Hid (aa=(l.take j).foldl (C5 k) rows)/\Hid (Gw rows aa ch)/\Hid (Jf aa)/\Hid (aa.length=c.i.length)/\AC w0 H ((ab,C8 aa)::L) wr) (λ_ ai _=>l.length-(intOf ai).toNat));case atStart=>exact⟨0,rows,G,uL _,Z,Z,A5 Z,A5 (Gw.start _),ar,bn,m⟩
 case round=>
  clear m bp;obtain⟨j,aa,ch,hj,rfl,rfl,HR1,HTK,ag,af,mk⟩:=hrel;by_cases eP:j<l.length
  .have ll:(j:Int)<l.length:=A0;have hx:=uO eP;have al:=A5 (HY.out _ (uS eP));have bb:=A5 (show(l.take (j+1)).foldl (C5 k) rows=C5 k ((l.take j).foldl (C5 k) rows) l[j] by rw[uh eP,uW];rfl);obtain⟨kA,off,tv,mv,rfl,e0,e1,e2,bz,bf,hfm⟩:=HSL.out.getStep hx;clear hx;generalize l[j]=s at*;obtain⟨a,ha⟩:∃a:Nat,s.at'=(a:Int):=⟨s.at'.toNat,by have:=al.out;omega⟩;have HA:=A5 ha;rw[ha] at e0;have ba:a<c.i.length:=(by have:=al.out.1.2;omega);have bg:(a:Int)<c.i.length:=A0;clear ha;obtain⟨tb,tc,rfl,-,-,-⟩:=bf;have bo:=A5 hfm;obtain⟨ae,ad,rfl,-,-,-⟩:=hfm;have e0:=e0.cell mk;have e1:=e1.cell mk;have e2:=e2.cell mk;have hra:=Dv (rows:=aa) (k:=a) (by rw[af.out];exact ba);have ax:=Dv (rows:=aa) (k:=k) (by rw[af.out];exact hk);have aq:=A5 (show J1 k aa s=(BJ aa a).kn.and' ((BJ aa k).kn.with' (B7 s)) by unfold J1;rw[HA.out,wA]);have bq:=A5 (ag.out a);have bc:=A5 (ag.out k);have HRA:=A5 hra;have HRK:=A5 ax;clear hra ax;generalize BJ aa a=ra at*;generalize BJ aa k=rk at*;have m6:=mk.alloc (C #[Y I (a:Int),V tb s.t.length tc,V ae (B7 s).length ad] 276);have bj:Hid (∀r∈B7 s,0<=r/\r<256):=A5 (Pm (lS:=250) al.out.2 (vD _));have ef:=Bw (w:=wr) (L:=[(fb,Ac c ib ic ab sb mb)]) (λp hp=>by rw[yB.1 hp];exact(mk.loc _ (.tail _ HF.out)).1);simp only[BS,Ac] at ef;generalize bd:wr.heap.size=nb at*;go_wp2_with fail;refine EA (F:=λw'=>Code.wp _ _ _ _ w') m6 ?_;clear m6 mk ef e0 e1 e2 bd;intro wq mq;have ef:=Bw (w:=wq) (L:=[(fb,Ac c ib ic ab sb mb)]) (λp hp=>by rw[yB.1 hp];exact(mq.loc _ (.tail _ (.tail _ HF.out))).1);simp only[BS,Ac] at ef;have es:=mq.e0;go_quiet (fail);go_wp2_with fail;refine EA (F:=λw'=>Code.wp _ _ _ _ w') (mq.drewN _) ?_;clear ef es mq;intro bt av;refine B1 av [VK (M (O ⟨ab,a*6,X⟩)),VK (M (O ⟨ab,a*6,X⟩)),VK (M (O ⟨ab,a*6+2,X⟩)),VK (.agg #[Y .u64 (ra.kn.a:Int),Y .u64 (ra.kn.b:Int),Y .u64 (ra.kn.c:Int),Y .u64 (ra.kn.d:Int)]),VK (M (O ⟨fb,0,X⟩)),VK (M (O ⟨fb,0,X⟩)),VK (M (O ⟨fb,4,X⟩)),VK (V (O ⟨ab,0,X⟩) c.i.length c.i.length),VK (Y I (k:Int)),VK (M (O ⟨ab,k*6,X⟩)),VK (M (O ⟨ab,k*6+2,X⟩)),VK (.agg #[Y .u64 (rk.kn.a:Int),Y .u64 (rk.kn.b:Int),Y .u64 (rk.kn.c:Int),Y .u64 (rk.kn.d:Int)]),VK (M (O ⟨nb,2,X⟩)),VK (V ae (B7 s).length ad),VK (.agg #[Y .u64 ((rk.kn.with' (B7 s)).a:Int),Y .u64 ((rk.kn.with' (B7 s)).b:Int),Y .u64 ((rk.kn.with' (B7 s)).c:Int),Y .u64 ((rk.kn.with' (B7 s)).d:Int)]),VK (.agg #[Y .u64 ((ra.kn.and' (rk.kn.with' (B7 s))).a:Int),Y .u64 ((ra.kn.and' (rk.kn.with' (B7 s))).b:Int),Y .u64 ((ra.kn.and' (rk.kn.with' (B7 s))).c:Int),Y .u64 ((ra.kn.and' (rk.kn.with' (B7 s))).d:Int)]),⟨[16],λzb=> M (O ⟨(zb.getD 0 Ax).b,0,X⟩),O ([],[],λzb d=>d.bl=[(d.b,C #[Y .u64 0,Y .u64 0,Y .u64 0,Y .u64 0] J5 (0,0))]),G⟩] (nf 16++[B]) ?_ ?_
   .refine⟨AA,AA,AA,?_,AA,AA,AA,?_,AA,AA,AA,?_,AA,CD,?_,?_,?_,trivial⟩
    ·(refine Al.vk Z λbs w hb m=>?_);obtain⟨s0,s1,s2,s3,s4,s5⟩:=G7 (m.loc _ (.tail _ (.head _))).1 HRA.out;exact AT
    ·(refine Al.vk Z λbs w hb m=>?_);have es:=m.e0;have ef:=Bw (w:=w) (L:=[(fb,Ac c ib ic ab sb mb)]) (λp hp=>by rw[yB.1 hp];exact(m.loc _ (.tail _ (.tail _ HF.out))).1);simp only[BS,Ac] at ef;exact AT
    ·(refine Al.vk Z λbs w hb m=>?_);obtain⟨s0,s1,s2,s3,s4,s5⟩:=G7 (m.loc _ (.tail _ (.head _))).1 HRK.out;exact AT
    ·(refine Al.call Z Z Z λbs w L2 hb m=>?_);refine BU.ofCall (f:=220) (args:=#[rk.kn.v,V ae (B7 s).length ad]) Br ?_;refine(QW rk.kn bc.out (V ae (B7 s).length ad) (B7 s) bj.out m bo.out).mono ?_;exact PU
    ·(refine Al.call Z Z Z λbs w L2 hb m=>?_);refine BU.ofCall (f:=313) (args:=#[ra.kn.v,(rk.kn.with' (B7 s)).v]) Br ?_;refine(aY ra.kn (rk.kn.with' (B7 s)) bq.out (W4.fit_with bc.out) m).mono ?_;exact PU
    ·(refine Al.make _ _ Z Z Z λbs w hb m=>?_);show(x_ _ _).run _ _= .ok (.value (M (O ⟨w.heap.size,0,X⟩))) (w.alloc (C #[Y .u64 0,Y .u64 0,Y .u64 0,Y .u64 0] J5 (0,0)));exact Cp
   .intro bs wd hb md;replace md:=AC.like1 av (bs 16).bl md;have aj:(bs 16).bl=[((bs 16).b,C #[Y .u64 0,Y .u64 0,Y .u64 0,Y .u64 0] J5 (0,0))]:=hb 16 _ _ Z Z;rw[aj] at md;(try simp only[uB,uA] at md);simp only[uG,uH,Nat.reduceAdd,uN,uC,uD];clear hb;generalize (bs 16).b=kb at*;generalize bx:ra.kn.and' (rk.kn.with' (B7 s))=x at*;have es:=md.e0;have m7:=AC.setL x.vs 0 md;unfold W4.vs at m7;simp only[TU,Ff,uI,uM,uJ,Nat.reduceAdd] at m7;go_wp2_with fail;refine EA (F:=λw'=>Code.wp _ _ _ _ w') m7 ?_;clear es md m7;intro br au;refine B1 au [VK (.agg #[Y .u64 (x.a:Int),Y .u64 (x.b:Int),Y .u64 (x.c:Int),Y .u64 (x.d:Int)]),VK (M (O ⟨ab,a*6,X⟩)),VK (M (O ⟨ab,a*6,X⟩)),VK (M (O ⟨ab,a*6+2,X⟩)),VK (.agg #[Y .u64 (ra.kn.a:Int),Y .u64 (ra.kn.b:Int),Y .u64 (ra.kn.c:Int),Y .u64 (ra.kn.d:Int)]),VK (N (!T (x=ra.kn)))] (nf 6) ?_ ?_
    .refine⟨CD,AA,AA,AA,?_,?_,trivial⟩
     ·(refine Al.vk Z λbs w hb m=>?_);obtain⟨s0,s1,s2,s3,s4,s5⟩:=G7 (m.loc _ (.tail _ (.tail _ (.head _)))).1 HRA.out;exact AT
     ·(refine Al.vk Z λbs w hb m=>?_);have h:=UQ x ra.kn w;unfold W4.v at h;exact AT
    .intro bs wd hb md;replace md:=AC.like0 au md;(try simp only[uB,uA] at md);simp only[uG,uH,Nat.reduceAdd,uN,uC,uD];clear hb;have bh:a<aa.length:=(by rw[af.out];exact ba);have ah:s.at'.toNat=a:=(by rw[HA.out,wA]);by_cases hx:x=ra.kn
     .have hg:J1 k aa s=(BJ aa s.at'.toNat).kn:=(by rw[aq.out,ah,I9 HRA.out];exact hx);have HK:=A5 (RC hg);have hd:T (x=ra.kn)=true:=t_ hx;clear hg hx;simp only[hd,Bool.not_true];go_wp2_with fail;go_roundw;(case rel=>exact⟨j+1,aa,ch,by omega,by go_num,Z,A5 (by rw[bb.out,<-HR1.out,HK.out]),HTK,ag,af,md.drop.drop⟩);case measure=>exact BW
     .have hg:J1 k aa s≠(BJ aa s.at'.toNat).kn:=(by rw[aq.out,ah,I9 HRA.out];exact hx);have bk:=A5 (HTK.out.more (by rw[ah];exact bh) hg);have bm:=A5 (U4 ag.out k s);have ao:=A5 (show C5 k aa s=aa.set a (CA.setK ra x) by unfold C5;rw[aq.out,ah,I9 HRA.out]);have hd:T (x=ra.kn)=false:=f_ hx;clear hg hx;have m8:=AC.setL x.vs (a*6+2) ((md.perm Ah:AC _ _ ((ab,C8 aa)::(kb,C #[Y .u64 (x.a:Int),Y .u64 (x.b:Int),Y .u64 (x.c:Int),Y .u64 (x.d:Int)] J5 (0,0))::(nb,C #[Y I (a:Int),V tb s.t.length tc,V ae (B7 s).length ad] 276)::L) _));rw[M8 aa a ra x HRA.out] at m8;unfold W4.vs at m8;simp only[Ff,Nat.reduceAdd] at m8;have es:=md.e0;have m9:=(md.perm Ah:AC _ _ ((ab,C8 aa)::(kb,C #[Y .u64 (x.a:Int),Y .u64 (x.b:Int),Y .u64 (x.c:Int),Y .u64 (x.d:Int)] J5 (0,0))::(nb,C #[Y I (a:Int),V tb s.t.length tc,V ae (B7 s).length ad] 276)::L) _);have lg:a*6+2+3<(Dx aa).toArray.size:=(by rw[uv,Dl];omega);simp only[hd,Bool.not_false];go_wp2_with (refine EI x Z Z Z Z m9 lg ?_;unfold W4.vs;simp only[Ff]);go_roundw;(case rel=>exact⟨j+1,_,B,by omega,by go_num,Z,A5 (by rw[bb.out,<-HR1.out,ao.out]),A5 (by rw[<-ao.out];exact bk.out),A5 (by rw[<-ao.out];exact bm.out),A5 (by rw[vy];exact af.out),m8.drop2⟩);case measure=>exact BW
  .have hge:¬(j:Int)<l.length:=A0;go_wp2_with fail;go_ret;exact⟨aa,ch,Z,by rw[HR1.out,uj A0],HTK.out,ag.out,mk⟩
variable {α:Type}
def Dr:W4:=⟨18446744073709551615,18446744073709551615,18446744073709551615,18446744073709551615⟩
theorem XP:Dr.fit:=⟨by decide,by decide,by decide,by decide⟩
theorem WO {r:Nat} (h:r<256):Dr.has r=true:=by
 have h1:Dr.l.getD (r/64) 0=2^64-1:=by
  have:r/64<4:=A0;rcases hq:r/64 with _|_|_|_|q
  .rfl
  .rfl
  .rfl
  .rfl
  .omega
 unfold W4.has;rw[h1,Nat.testBit_two_pow_sub_one];exact t_ A0
def Cm (rows:List CA):Nat->List CA
 |0=>rows
 |j+1=>if 0<j then (Cm rows j).set j (CA.setK (BJ (Cm rows j) j) (Dr)) else Cm rows j
def Co (rows:List CA):Nat->List CA
 |0=>rows
 |j+1=>if (BJ (Co rows j) j).e=G then (Co rows j).set j (CA.setK (BJ (Co rows j) j) (W4.zero)) else Co rows j
theorem EN (rows:List CA):∀j,Ce rows (Cm rows j)
 |0=>Ce.refl _
 |j+1=>by
  unfold Cm
  split
  .exact(EN rows j).trans (Ce.set _ _ _)
  .exact EN rows j
theorem Dk (rows:List CA):∀j,Ce rows (Co rows j)
 |0=>Ce.refl _
 |j+1=>by
  unfold Co
  split
  .exact(Dk rows j).trans (Ce.set _ _ _)
  .exact Dk rows j
theorem Lp {rows:List CA} (h:Jf rows):∀j,Jf (Cm rows j)
 |0=>h
 |j+1=>by
  unfold Cm
  split
  .exact(Lp h j).set _ XP
  .exact Lp h j
theorem LZ {rows:List CA} (h:Jf rows):∀j,Jf (Co rows j)
 |0=>h
 |j+1=>by
  unfold Co
  split
  .exact(LZ h j).set _ W4.fit_zero
  .exact LZ h j
theorem ZU (rows:List CA):∀j,j<=rows.length->∀k,(BJ (Cm rows j) k).kn=if 0<k/\k<j then Dr else (BJ rows k).kn:=by
 intro j
 induction j with
 |zero=>intro _ k;rw[n_ A0];rfl
 |succ j ih=>
  intro hj k;unfold Cm;by_cases h0:0<j
  .rw[p_ h0,FE (by rw[(EN rows j).1];omega)];by_cases e:k=j
   .rw[p_ e,p_ A0];rfl
   .rw[n_ e,ih A0 k];by_cases e2:0<k/\k<j
    .rw[p_ e2,p_ A0]
    .rw[n_ e2,n_ A0]
  .rw[n_ h0,ih A0 k,n_ A0,n_ A0]
theorem aA (rows:List CA):∀j,j<=rows.length->∀k,(BJ rows k).e=B->(BJ (Co rows j) k).kn=(BJ rows k).kn:=by
 intro j
 induction j with
 |zero=>intro _ k _;rfl
 |succ j ih=>
  intro hj k hk;unfold Co;split
  .rename_i h;rw[FE (by rw[(Dk rows j).1];omega)];by_cases e:k=j
   .subst e;rw[((Dk rows k).2 k).1,hk] at h;cases h
   .rw[n_ e];exact ih A0 k hk
  .exact ih A0 k hk
theorem XS (f:α->α) (m:Nat) (a:α):Ct f (m+1) a=f (Ct f m a):=F4 f m 1 a
theorem Gw.trans {A Bq Cq:List CA} {x y:Bool} (h:Gw A Bq x) (h':Gw Bq Cq y):Gw A Cq (x||y):=by
 rcases h with ⟨rfl,rfl⟩|⟨rfl,h⟩
 .rw[Bool.false_or];exact h'
 .rcases h' with ⟨_,rfl⟩|⟨_,h'⟩
  .exact .inr ⟨Z,h⟩
  .exact .inr ⟨Z,by omega⟩
theorem Nl (c:AF) (fin:ES):∀(l:List Nat) (rows:List CA),Ce rows (l.foldl (CS c fin) rows):=by
 have key:∀(k:Nat) (l:List Av) (rows:List CA),Ce rows (l.foldl (C5 k) rows):=by
  intro k l
  induction l with
  |nil=>exact λrows=>Ce.refl rows
  |cons y l ih=>exact λrows=>(RX k rows y).trans (ih _)
 intro l
 induction l with
 |nil=>exact λrows=>Ce.refl rows
 |cons k l ih=>
  intro rows;refine Ce.trans ?_ (ih _);unfold CS;split
  .exact key _ _ _
  .exact Ce.refl _
def fZ (c:AF) (rows rows':List CA):Prop:=Ce rows rows'/\Jf rows'/\∃m R,R=Ct (GL c (AB c)) m (Cm rows c.i.length)/\GL c (AB c) R=R/\∀k,k<c.i.length->(BJ rows k).e=B->(BJ rows' k).kn=(BJ R k).kn
def pG (w0:W_) (H:Hp) (L:List (Nat×Obj)) (c:AF) (ab:Nat) (rows:List CA) (e:E_) (w':W_):Prop:=∃v rows',e= .returned v/\fZ c rows rows'/\AC w0 H ((ab,C8 rows')::L) w'
theorem Vw (c:AF) (ib:Option Addr) (ic ab sb mb fb:Nat) (fvs:List V_) (rows:List CA) (m:AC w0 H ((ab,C8 rows)::L) w) (hF:(fb,Ac c ib ic ab sb mb)∈L) (hS:(sb,CQ fvs)∈L) (hn:c.i.length<=2000) (br:rows.length=c.i.length) (bt:fvs.length=c.i.length) (lf:Jf rows) (bp:∀k,∃b n c,(BJ rows k).tv= V b n c) (aa:∀k,k<c.i.length->(BJ rows k).e=(AB c).e.getD k G) (ao:∀k,k<c.i.length->(AB c).e.getD k G=B->∃fv,fvs[k]?=O fv/\AX Gp H fv (CU c k ((AB c).t.getD k []))) (hy:∀k,k<c.i.length->∀y∈CU c k ((AB c).t.getD k []),(0<=y.at'/\y.at'<c.i.length)/\ -1<=y.to/\y.to<250):K_ yA 226 #[M (O ⟨fb,0,X⟩)] w (pG w0 H L c ab rows):=by
 have HF:=A5 hF;have HS:=A5 hS;have HY:=A5 hy;have cy:=A5 aa;have cv:=A5 ao;have cw:=A5 bt;have bn:=A5 lf;have bj:=A5 br;have cr:=A5 bp;clear hS hy ao lf br bt aa bp;have da:(c.i.length:Int)<=2000:=A0;have m1:=m.alloc W4.zero.box;unfold W4.zero at m1;generalize cm:w.heap.size=xb at*;go_enter func226,ntmps226;go_wp2_with fail;refine EA (F:=λw'=>Code.wp _ _ _ _ w') m1 ?_;clear m1 m cm hF;intro wr mr;(go_loopw [9] (λv9 wr=>∃(j:Nat),j<=4/\v9= Y I j/\AC w0 H ((xb,C #[Y .u64 (if 0<j then 18446744073709551615 else 0),Y .u64 (if 1<j then 18446744073709551615 else 0),Y .u64 (if 2<j then 18446744073709551615 else 0),Y .u64 (if 3<j then 18446744073709551615 else 0)] J5)::(ab,C8 rows)::L) wr) (λv9 _=>4-(intOf v9).toNat));case atStart=>exact⟨0,by omega,Z,mr⟩
 case round=>
  clear mr;obtain⟨j,hj,rfl,mk⟩:=hrel;have cn:j=0\/j=1\/j=2\/j=3\/j=4:=A0;rcases cn with rfl|rfl|rfl|rfl|h4
  .have es:=mk.e0;have m2:=mk.set (i:=0) (v:= Y .u64 18446744073709551615) .head;simp only[uI,uM,uJ] at m2;go_wp2_with fail;go_roundw;(case rel=>exact⟨0+1,by omega,by go_num,m2⟩);case measure=>simp[intOf]
  .have es:=mk.e0;have m2:=mk.set (i:=1) (v:= Y .u64 18446744073709551615) .head;simp only[uI,uM,uJ] at m2;go_wp2_with fail;go_roundw;(case rel=>exact⟨1+1,by omega,by go_num,m2⟩);case measure=>simp[intOf]
  .have es:=mk.e0;have m2:=mk.set (i:=2) (v:= Y .u64 18446744073709551615) .head;simp only[uI,uM,uJ] at m2;go_wp2_with fail;go_roundw;(case rel=>exact⟨2+1,by omega,by go_num,m2⟩);case measure=>simp[intOf]
  .have es:=mk.e0;have m2:=mk.set (i:=3) (v:= Y .u64 18446744073709551615) .head;simp only[uI,uM,uJ] at m2;go_wp2_with fail;go_roundw;(case rel=>exact⟨3+1,by omega,by go_num,m2⟩);case measure=>simp[intOf]
  .have dd:¬(j:Int)<4:=A0;rw[p_ A0,p_ A0,p_ A0,p_ A0] at mk;clear h4 hj;have m2:AC w0 H ((ab,C8 rows)::(xb,Dr.box)::L) wr:=mk.perm (List.Perm.swap _ _ _);clear mk;have ef:=Bw (w:=wr) (L:=[(fb,Ac c ib ic ab sb mb)]) (λp hp=>by rw[yB.1 hp];exact(m2.loc _ (.tail _ (.tail _ HF.out))).1);simp only[BS,Ac] at ef;go_wp2_with fail;refine EA (F:=λw'=>Code.wp _ _ _ _ w') m2 ?_;clear ef m2;intro w2 m2;(go_loopw [20] (λv20 wr=>∃(j:Nat),j<=c.i.length/\v20= Y I j/\AC w0 H ((ab,C8 (Cm rows j))::(xb,Dr.box)::L) wr) (λv20 _=>c.i.length-(intOf v20).toNat));case atStart=>exact⟨0,uL _,Z,m2⟩
   case round=>
    clear m2;obtain⟨j,hj,rfl,mk⟩:=hrel;by_cases eP:j<c.i.length
    .have ll:(j:Int)<c.i.length:=A0;have au:=A5 (show Cm rows (j+1)=if 0<j then (Cm rows j).set j (CA.setK (BJ (Cm rows j) j) (Dr)) else Cm rows j from Z);have al:(Cm rows j).length=c.i.length:=(by rw[(EN rows j).1];exact bj.out);have ai:=A5 (Dv (rows:=Cm rows j) (k:=j) A0);have aj:=A5 al;clear al;generalize BJ (Cm rows j) j=rj at*;generalize hR1:Cm rows j=R1 at*;have HR1:=A5 hR1;clear hR1;by_cases h0:0<j
     .have cp:(0:Int)<j:=A0;go_wp2_with fail;refine B1 mk [VK (M (O ⟨fb,0,X⟩)),VK (M (O ⟨fb,0,X⟩)),VK (M (O ⟨fb,4,X⟩)),VK (V (O ⟨ab,0,X⟩) c.i.length c.i.length),VK (Y I (j:Int)),VK (.agg #[Y .u64 18446744073709551615,Y .u64 18446744073709551615,Y .u64 18446744073709551615,Y .u64 18446744073709551615]),VK (M (O ⟨ab,j*6,X⟩)),VK (M (O ⟨ab,j*6+2,X⟩))] (nf 8) ?_ ?_
      .refine⟨AA,AA,AA,?_,AA,?_,AA,AA,trivial⟩
       ·(refine Al.vk Z λbs w hb m=>?_);have ef:=Bw (w:=w) (L:=[(fb,Ac c ib ic ab sb mb)]) (λp hp=>by rw[yB.1 hp];exact(m.loc _ (.tail _ (.tail _ HF.out))).1);simp only[BS,Ac] at ef;exact AT
       ·(refine Al.vk Z λbs w hb m=>?_);have es:=(m.perm (List.Perm.swap _ _ _)).eqs;simp only[BS,Dr] at es;exact AT
      .intro bs wd hb md;replace md:=AC.like0 mk md;(try simp only[uB,uA] at md);simp only[uG,uH,Nat.reduceAdd,uN,uC,uD];clear hb;have lg:j*6+2+3<(Dx R1).toArray.size:=(by rw[uv,Dl];have:=aj.out;omega);have m3:=AC.setL Dr.vs (j*6+2) md;rw[M8 R1 j rj Dr ai.out] at m3;simp only[Dr,W4.vs,Ff] at m3;go_wp2_with (refine EI Dr Z Z Z Z md lg ?_;simp only[Dr,W4.vs,Ff]);go_roundw;(case rel=>exact⟨j+1,by omega,by go_num,by rw[au.out,p_ A0];exact m3⟩);case measure=>exact BW
     .have cp:¬(0:Int)<j:=A0;go_wp2_with fail;go_roundw;(case rel=>exact⟨j+1,by omega,by go_num,by rw[au.out,n_ A0];exact mk⟩);case measure=>exact BW
    .have hge:¬(j:Int)<c.i.length:=A0;have ay:j=c.i.length:=A0;subst ay;have ca:=EN rows c.i.length;have bz:=Lp bn.out c.i.length;generalize bw:Cm rows c.i.length=R0 at*;have ad:=A5 (And.intro bw (And.intro ca bz));clear bw ca bz hj eP;go_wp2_with fail;refine EA (F:=λw'=>Code.wp _ _ _ _ w') mk ?_;clear mk;intro w3 m3;go_loopg [5] (2*Ra R0+2) (λgk v5 wr=>∃(ch:Bool) (mm:Nat) (R:List CA),v5= N ch/\Hid (R=Ct (GL c (AB c)) mm R0)/\Hid (Ce R0 R)/\Hid (Jf R)/\Hid (ch=G->GL c (AB c) R=R)/\2*Ra R+(if ch=B then 1 else 0)<gk/\AC w0 H ((ab,C8 R)::(xb,Dr.box)::L) wr);case atStart=>exact⟨B,0,R0,Z,A5 Z,A5 (Ce.refl _),A5 ad.out.2.2,A5 (λh=>by cases h),by rw[p_ Z];omega,m3⟩
     case round=>
      clear m3;obtain⟨ch,mm,R,rfl,cg,ag,cj,bm,az,mk⟩:=hrel
      cases ch with
      |false=>
       have bk:=A5 (bm.out Z);have bc:=A5 (show R.length=c.i.length by rw[ag.out.1,ad.out.2.1.1];exact bj.out);have bg:=A5 (show ∀k,∃b n c,(BJ R k).tv= V b n c from λk=>by rw[(ag.out.2 k).2,(ad.out.2.1.2 k).2];exact cr.out k);clear bm az;have ef:=Bw (w:=wr) (L:=[(fb,Ac c ib ic ab sb mb)]) (λp hp=>by rw[yB.1 hp];exact(mk.loc _ (.tail _ (.tail _ HF.out))).1);simp only[BS,Ac] at ef;go_wp2_with fail;clear ef;(go_loopw [62] (λbd wr=>∃(j:Nat),j<=c.i.length/\bd= Y I j/\AC w0 H ((ab,C8 (Co R j))::(xb,Dr.box)::L) wr) (λbd _=>c.i.length-(intOf bd).toNat));case atStart=>exact⟨0,uL _,Z,mk⟩
       case round=>
        clear mk;obtain⟨j,hj,rfl,mk⟩:=hrel;by_cases eP:j<c.i.length
        .have ll:(j:Int)<c.i.length:=A0;have au:=A5 (show Co R (j+1)=if (BJ (Co R j) j).e=G then (Co R j).set j (CA.setK (BJ (Co R j) j) (W4.zero)) else Co R j from Z);have al:(Co R j).length=c.i.length:=(by rw[(Dk R j).1];exact bc.out);have ai:=A5 (Dv (rows:=Co R j) (k:=j) A0);have bx:∃b n c,(BJ (Co R j) j).tv= V b n c:=(by rw[((Dk R j).2 j).2];exact bg.out j);have aj:=A5 al;clear al;generalize BJ (Co R j) j=rj at*;generalize hR1:Co R j=R1 at*;have HR1:=A5 hR1;clear hR1;obtain⟨tb,tn,tc,bf⟩:=bx;obtain⟨s0,s1,s2,s3,s4,s5⟩:=G7 (mk.loc _ (.head _)).1 ai.out;rw[bf] at s1;have bx:=A5 bf;clear bf;have m4:=mk.alloc (C #[N rj.e,V tb tn tc,Y .u64 (rj.kn.a:Int),Y .u64 (rj.kn.b:Int),Y .u64 (rj.kn.c:Int),Y .u64 (rj.kn.d:Int)] 268);have ef:=Bw (w:=wr) (L:=[(fb,Ac c ib ic ab sb mb)]) (λp hp=>by rw[yB.1 hp];exact(mk.loc _ (.tail _ (.tail _ HF.out))).1);simp only[BS,Ac] at ef
         cases aa:rj.e with
         |true=>have ah:=A5 aa;rw[aa] at s0 m4;clear aa;go_wp2_with fail;go_roundw;(case rel=>exact⟨j+1,by omega,by go_num,by rw[au.out,ah.out];exact m4.drop⟩);case measure=>exact BW
         |false=>have ah:=A5 aa;rw[aa] at s0 m4;clear aa;have lg:j*6+2+3<(Dx R1).toArray.size:=(by rw[uv,Dl];have:=aj.out;omega);have m5:=m4.perm (List.Perm.swap _ _ _);have m6:=AC.setL W4.zero.vs (j*6+2) m5;rw[M8 R1 j rj W4.zero ai.out] at m6;simp only[W4.zero,W4.vs,Ff] at m6;go_wp2_with (refine EI W4.zero Z Z Z Z m5 lg ?_;simp only[W4.zero,W4.vs,Ff]);go_roundw;(case rel=>exact⟨j+1,by omega,by go_num,by rw[au.out,ah.out];exact(m6.perm (List.Perm.swap _ _ _)).drop⟩);case measure=>exact BW
        .have hge:¬(j:Int)<c.i.length:=A0;have ay:j=c.i.length:=A0;have cf:=A5 ay;clear ay;go_wp2_with fail;go_end0;refine⟨_,Co R j,Z,⟨(ad.out.2.1.trans ag.out).trans (Dk R j),LZ cj.out j,mm,R,?_,bk.out,λk hk hc=>?_⟩,(mk.perm (List.Perm.swap _ _ _)).drop⟩
         .rw[ad.out.1];exact cg.out
         .refine aA R j (by rw[bc.out];omega) k ?_;rw[(ag.out.2 k).1,(ad.out.2.1.2 k).1];exact hc
      |true=>
       have bc:=A5 (show R.length=c.i.length by rw[ag.out.1,ad.out.2.1.1];exact bj.out);have cx:=A5 (show ∀k,k<c.i.length->(BJ R k).e=(AB c).e.getD k G from λk hk=>by rw[(ag.out.2 k).1,(ad.out.2.1.2 k).1];exact cy.out k hk);rw[p_ Z] at az;have cu:=A5 az;clear az bm;have ef:=Bw (w:=wr) (L:=[(fb,Ac c ib ic ab sb mb)]) (λp hp=>by rw[yB.1 hp];exact(mk.loc _ (.tail _ (.tail _ HF.out))).1);simp only[BS,Ac] at ef;go_wp2_with fail;clear ef;(go_loopw [5,40] (λv5 v40 wr=>∃(j:Nat) (R1:List CA) (af:Bool),j<=c.i.length/\v40= Y I j/\v5= N af/\Hid (R1=(uF j).foldl (CS c (AB c)) R)/\Hid (Gw R R1 af)/\Hid (Jf R1)/\AC w0 H ((ab,C8 R1)::(xb,Dr.box)::L) wr) (λ_ v40 _=>c.i.length-(intOf v40).toNat));case atStart=>exact⟨0,R,G,uL _,Z,Z,A5 Z,A5 (Gw.start _),cj,mk⟩
       case round=>
        clear mk;obtain⟨j,R1,af,hj,rfl,rfl,aw,HTK,bo,mk⟩:=hrel;by_cases eP:j<c.i.length
        .have ll:(j:Int)<c.i.length:=A0;have bh:=A5 (show(uF (j+1)).foldl (CS c (AB c)) R=CS c (AB c) ((uF j).foldl (CS c (AB c)) R) j by rw[vz,uW];rfl);have bb:=Nl c (AB c) (uF j) R;rw[<-aw.out] at bb;have aj:=A5 (show R1.length=c.i.length by rw[bb.1];exact bc.out);have ai:=A5 (Dv (rows:=R1) (k:=j) (by rw[aj.out];exact eP));have cz:=A5 (show(BJ R1 j).e=(AB c).e.getD j G by rw[(bb.2 j).1];exact cx.out j eP);clear bb;obtain⟨s0,s1,s2,s3,s4,s5⟩:=G7 (mk.loc _ (.head _)).1 ai.out;rw[cz.out] at s0;clear s1 s2 s3 s4 s5;have ef:=Bw (w:=wr) (L:=[(fb,Ac c ib ic ab sb mb)]) (λp hp=>by rw[yB.1 hp];exact(mk.loc _ (.tail _ (.tail _ HF.out))).1);simp only[BS,Ac] at ef
         cases ae:(AB c).e.getD j G with
         |false=>rw[ae] at s0;have ba:=A5 (show CS c (AB c) R1 j=R1 by unfold CS;rw[ae];rfl);clear ae;go_wp2_with fail;go_roundw;(case rel=>exact⟨j+1,R1,af,by omega,by go_num,Z,A5 (by rw[bh.out,<-aw.out,ba.out]),HTK,bo,mk⟩);case measure=>exact BW
         |true=>
          rw[ae] at s0;have ba:=A5 (show CS c (AB c) R1 j=(CU c j ((AB c).t.getD j [])).foldl (C5 j) R1 by unfold CS;rw[ae];rfl);obtain⟨fv,ao,bq⟩:=cv.out j eP ae;have av:=A5 (And.intro ao bq);clear ae ao bq;go_wp2_with fail;refine(UK c ib ic ab sb mb fb fvs R1 j _ fv mk (.tail _ HF.out) (.tail _ HS.out) av.out.1 av.out.2 hn aj.out cw.out eP bo.out (HY.out j eP)).mono ?_;rintro e w5 ⟨R2,cq,rfl,bu,ak,aq,m5⟩;have cd:=A5 bu;have ar:=A5 (HTK.out.trans ak);have ck:=A5 aq;clear bu ak aq mk ef s0
          cases cq with
          |false=>go_wp2_with fail;go_roundw;(case rel=>exact⟨j+1,R2,af,by omega,by go_num,Z,A5 (by rw[bh.out,<-aw.out,ba.out,cd.out]),A5 (by have:=ar.out;rwa [vG] at this),ck,m5⟩);case measure=>exact BW
          |true=>go_wp2_with fail;go_roundw;(case rel=>exact⟨j+1,R2,B,by omega,by go_num,Z,A5 (by rw[bh.out,<-aw.out,ba.out,cd.out]),A5 (by have:=ar.out;rwa [Bool.or_true] at this),ck,m5⟩);case measure=>exact BW
        .have hge:¬(j:Int)<c.i.length:=A0;have cf:=A5 (A0:j=c.i.length);go_wp2_with fail;have ax:R1=GL c (AB c) R:=(by rw[aw.out,cf.out];rfl);go_roundg (2*Ra R1+(if af=B then 1 else 0)+1)
         case measure=>
          have:=cu.out;rcases HTK.out with ⟨h1,h2⟩|⟨h1,h2⟩
          .rw[h1,h2,n_ (by simp)];omega
          .rw[h1,p_ Z];omega
         case rel=>exact⟨af,mm+1,R1,Z,A5 (by rw[XS,<-cg.out];exact ax),A5 (by rw[ax];exact ag.out.trans (Nl c (AB c) _ R)),bo,A5 (λh=>by
          rcases HTK.out with ⟨_,h2⟩|⟨h1,_⟩
          .rw[h2] at ax⊢;exact ax.symm
          .rw[h] at h1;cases h1),by omega,mk⟩
variable {s:ES} {ws:List Int}
structure Kx (n:Nat) (s:ES) (ws:List Int):Prop where
 fit:s.Fit n
 nd:ws.Nodup
 rng:∀z∈ws,0<=z/\z<n
 mem:∀k:Nat,k<n->((k:Int)∈ws↔s.e.getD k G=B/\s.done.getD k G=G)
 dc:∀k:Nat,s.done.getD k G=B->s.e.getD k G=B
theorem ID (n k:Nat):(List.replicate n G).getD k G=false:=by rw[uE,List.getElem?_replicate];split<;>rfl
theorem Kx.init (hn:0<n):Kx n (ES.init n) [0]:=by
 refine⟨ES.init_fit n,by simp,λz hz=>by rw[yB.1 hz];omega,λk hk=>?_,λk h=>?_⟩
 .unfold ES.init;simp only;rw[C4 _ _ _ _ _ (by simpa using hn),ID];by_cases e:k=0
  .subst e;simp
  .rw[n_ e];simp;omega
 .unfold ES.init at h;simp only at h;rw[ID] at h;cases h
theorem Kx.none (h:Kx n s []):s.small=none:=by unfold ES.small;rw[List.find?_eq_none];intro k hk;have aa:k<n:=(by rw[<-h.fit.e];simpa using hk);have:=h.mem k aa;simp only[uz,false_iff] at this;intro h2;simp only[uR,Bool.not_eq_true'] at h2;exact this h2
theorem Kx.small (h:Kx n s ws) (lI:ws≠[]):∃k:Nat,k<n/\Mh ws=(k:Int)/\s.small=O k:=by
 obtain⟨h1,h2⟩:=SP lI;have h3:=h.rng _ h1;refine⟨(Mh ws).toNat,by omega,by omega,?_⟩;have hk:((Mh ws).toNat:Int)=Mh ws:=A0;have hm:=(h.mem (Mh ws).toNat A0).1 (by rw[hk];exact h1);unfold ES.small;rw[List.find?_range_eq_some];refine⟨by rw[hm.1,hm.2];rfl,by rw[wB,h.fit.e];omega,λj hj=>?_⟩;(have h4:¬((j:Int)∈ws):=λh5=>by have:=h2 _ h5;omega);rw[h.mem j A0] at h4;cases hc:s.e.getD j G
 .rfl
 .cases hd:s.done.getD j G
  .exact a_ ⟨hc,hd⟩ h4
  .rfl
theorem Kx.take (h:Kx n s ws) (hi:i<ws.length) (hk:ws[i]=(k:Int)):Kx n {s with done:=s.done.set k B} (ws.eraseIdx i):=by
 have hr:=h.rng _ (uS hi);rw[hk] at hr;have aa:k<n:=A0;have hc:=(h.mem k aa).1 (by rw[<-hk];exact uS hi);(have ad:∀j (hj:j<ws.length),ws[j]=(k:Int)->j=i:=λj hj e=>(List.getElem_inj h.nd).1 (e.trans hk.symm));refine⟨⟨h.fit.e,h.fit.t,h.fit.other,by simp[h.fit.done]⟩,h.nd.sublist (List.eraseIdx_sublist _ _),λz hz=>h.rng z (wC hz),λq hq=>?_,λq hq=>?_⟩
 .simp only;rw[C4 _ _ _ _ _ (by rw[h.fit.done];exact aa)];constructor
  .intro hz;obtain⟨j,hj,h1,h2⟩:=wD.1 hz;(have lI:q≠k:=λe=>by subst e;exact h1 (ad j hj h2));rw[n_ lI];exact(h.mem q hq).1 (wC hz)
  .rintro⟨h1,h2⟩;by_cases e:q=k
   .rw[p_ e] at h2;cases h2
   .rw[n_ e] at h2;obtain⟨j,hj,h3⟩:=List.getElem_of_mem ((h.mem q hq).2 ⟨h1,h2⟩);exact wD.2 ⟨j,hj,λe2=>by subst e2;rw[hk] at h3;omega,h3⟩
 .simp only at hq⊢;rw[C4 _ _ _ _ _ (by rw[h.fit.done];exact aa)] at hq;by_cases e:q=k
  .rw[e];exact hc.1
  .rw[n_ e] at hq;exact h.dc q hq
def pT (s:ES) (ws:List Int) (y:Av):List Int:=if s.e.getD y.at'.toNat G=G then ws++[y.at'] else ws
theorem Mg (h:s.e.getD y.at'.toNat G=G):Cb s y={s with e:=s.e.set y.at'.toNat B,t:=s.t.set y.at'.toNat y.t}:=by unfold Cb;rw[p_ h]
theorem JX (h:s.e.getD y.at'.toNat G=B) (h2:s.t.getD y.at'.toNat []≠y.t):Cb s y={s with other:=s.other.set y.at'.toNat B}:=by unfold Cb;rw[n_ (by rw[h];simp),p_ h2]
theorem Lg (h:s.e.getD y.at'.toNat G=B) (h2:s.t.getD y.at'.toNat []=y.t):Cb s y=s:=by unfold Cb;rw[n_ (by rw[h];simp),n_ (by rw[h2];simp)]
theorem Kx.visit (h:Kx n s ws) (hy:0<=y.at'/\y.at'<n):Kx n (Go.Proofs.YtpjbcplpdjobjaaGreat.Cb s y) (pT s ws y):=by
 have ha:y.at'.toNat<n:=A0;have ad:((y.at'.toNat:Nat):Int)=y.at':=A0
 cases hc:s.e.getD y.at'.toNat G with
 |false=>
  have hd:s.done.getD y.at'.toNat G=false:=by
   cases hd:s.done.getD y.at'.toNat G
   .rfl
   .rw[h.dc _ hd] at hc;cases hc
  (have aa:¬(y.at'∈ws):=λhm=>by rw[<-ad,h.mem _ ha,hc] at hm;cases hm.1);have hf:=NY h.fit y;rw[Mg hc] at hf⊢;unfold pT;rw[p_ hc];refine⟨hf,?_,?_,λq hq=>?_,λq hq=>?_⟩
  .rw[List.nodup_append];refine⟨h.nd,by simp,λa ae b hb=>?_⟩;rw[yB.1 hb];intro e;subst e;exact aa ae
  .intro z hz;rcases uU.1 hz with hz|hz
   .exact h.rng z hz
   .rw[yB.1 hz];omega
  .simp only;rw[C4 _ _ _ _ _ (by rw[h.fit.e];exact ha),uU,yB,h.mem q hq];by_cases e:q=y.at'.toNat
   .subst e;rw[p_ Z];constructor
    .exact λ_=>⟨Z,hd⟩
    .exact λ_=> .inr ad
   .rw[n_ e];constructor
    .rintro(h1|h1)
     .exact h1
     .omega
    .exact λh1=> .inl h1
  .simp only at hq⊢;rw[C4 _ _ _ _ _ (by rw[h.fit.e];exact ha)];split
   .rfl
   .exact h.dc q hq
 |true=>
  have hw:pT s ws y=ws:=(by unfold pT;rw[n_ (by rw[hc];simp)]);rw[hw];by_cases ht:s.t.getD y.at'.toNat []=y.t
  .rw[Lg hc ht];exact h
  .have hf:=NY h.fit y;rw[JX hc ht] at hf⊢;exact⟨hf,h.nd,h.rng,h.mem,h.dc⟩
theorem Ud (s:ES) (y:Av) (k:Nat) (h:s.e.getD k G=B):(Cb s y).e.getD k G=B/\(Cb s y).t.getD k []=s.t.getD k []:=by
 cases hc:s.e.getD y.at'.toNat G with
 |false=>(have lI:y.at'.toNat≠k:=λe=>by rw[e,h] at hc;cases hc);rw[Mg hc];simp only;rw[uE,uE,ud lI,ud lI,<-uE,<-uE];exact⟨h,Z⟩
 |true=>
  by_cases ht:s.t.getD y.at'.toNat []=y.t
  .rw[Lg hc ht];exact⟨h,Z⟩
  .rw[JX hc ht];exact⟨h,Z⟩
theorem O5:∀(l:List Av) (s:ES) (k:Nat),s.e.getD k G=B->(l.foldl Cb s).e.getD k G=B/\(l.foldl Cb s).t.getD k []=s.t.getD k []
 |[],s,k,h=>⟨h,Z⟩
 |y::l,s,k,h=>by
  obtain⟨h1,h2⟩:=Ud s y k h
  obtain⟨h3,h4⟩:=O5 l _ k h1
  exact⟨h3,h4.trans h2⟩
theorem Td {x:AI} {c:AF} {i:Bu} (h:Fh x c i=B):∀w∈i.w,∃l,Mu w c.g c.i.length l=true:=by unfold Fh at h;simp only[uR] at h;obtain⟨_,_,_,_,_,_,h6,_⟩:=h;intro w hw;obtain⟨k,hk,rfl⟩:=List.mem_iff_getElem.1 hw;unfold Eu at h6;have h8:=List.all_eq_true.1 h6 k (wB.2 hk);rw[uO hk] at h8;exact⟨_,h8⟩
theorem Lj {w:FF} {lS many:Int} {l:Bool} (h:Mu w lS many l=B):(w.kind=1\/w.kind=2\/w.kind=3)/\(w.kind=2->0<=w.to)/\(w.kind≠2->w.to= -1)/\(w.kind≠3->0<=w.chan/\w.chan<lS)/\(w.kind=1->0<=w.value/\w.value<lS):=by
 unfold Mu at h;simp only[uR] at h;obtain⟨_,h⟩:=h;split at h
 .rename_i e;simp only[uR,decide_eq_true_eq] at h;have h1:=D7.1 h.1;have h2:=D7.1 h.2.1;exact⟨.inl e,λe2=>by omega,λ_=>h.2.2,λ_=>by omega,λ_=>by omega⟩
 .split at h
  .rename_i e0 e;simp only[uR,decide_eq_true_eq] at h;have h1:=D7.1 h.1;have h2:=D7.1 h.2.2;exact⟨.inr (.inl e),λ_=>by omega,λe2=>a_ e e2,λ_=>by omega,λe2=>a_ e2 e0⟩
  .rename_i e0 e;simp only[uR,decide_eq_true_eq] at h;exact⟨.inr (.inr h.1),λe2=>a_ e2 e,λ_=>h.2.2.2.1,λe2=>a_ h.1 e2,λe2=>a_ e2 e0⟩
theorem Wa {x:AI} {c:AF} {i:Bu} (h:Fh x c i=B):i.StepFit:=by
 refine⟨λho=>?_,λw hw=>?_⟩
 .have ht:(CR i.op i.m).to=true:=(by unfold CR;rw[n_ (λh'=>by have:=h'.1;omega)];rcases ho with ho|ho<;>rw[ho]<;>rfl);unfold Fh at h;simp only[uR] at h;obtain⟨_,h1,_⟩:=h;rw[p_ ht] at h1;exact(D7.1 h1).1
 .obtain⟨l,hl⟩:=Td h w hw;have:=Lj hl;exact⟨this.2.1,this.2.2.1⟩
theorem VG {x:AI} {c:AF} {i:Bu} (hr:0<=c.g) (aa:c.g<=250) (h:Fh x c i=B):(∀y∈i.w,y.kind=1\/y.kind=2\/y.kind=3)/\∀r∈CM i,0<=r/\r<256/\r<c.g:=by
 refine⟨λw hw=>?_,λr hm=>?_⟩
 .obtain⟨l,hl⟩:=Td h w hw;exact(Lj hl).1
 .unfold CM at hm;rcases uU.1 hm with hm|hm
  .have:=(EM hr h).2.2.2.2.2 r hm;omega
  .obtain⟨w,hw,hm⟩:=List.mem_flatMap.1 hm;obtain⟨l,hl⟩:=Td h w hw;obtain⟨_,_,_,h4,h5⟩:=Lj hl;rcases uU.1 hm with hm|hm
   .split at hm
    .cases hm
    .rename_i e;rw[yB.1 hm];have:=h4 e;omega
   .split at hm
    .rename_i e;rw[yB.1 hm];have:=h5 e;omega
    .cases hm
def W4.hasI (x:W4) (r:Int):Bool:=x.has r.toNat
theorem Je (x:W4) (hx:x.fit) (c:Int) (bf:Nat) (m:AC w0 H ((bf,C #[.func (.func 229) #[x.v] #[]] 189)::L) w) (h:0<=c/\c<256):K_ yA 277 #[Y I c,M (O ⟨bf,0,X⟩)] w (Bv w0 H ((bf,C #[.func (.func 229) #[x.v] #[]] 189)::L) (N (!x.hasI c))):=by have HH:=A5 h;clear h;obtain⟨cn,aa⟩:∃n:Nat,c=(n:Int):=⟨c.toNat,by have:=HH.out;omega⟩;subst aa;have m1:=m;generalize hq:x.hasI (cn:Int)=q;have HQ:=A5 (show x.has cn=q from hq);clear hq;have es:=m1.e0;go_enter func277,ntmps277;go_wp2_with fail;refine(Zv x hx cn (by have:=HH.out;omega) m1).mono ?_;rw[HQ.out];rintro e w2 ⟨rfl,m2⟩;go_wp2_with fail;go_ret;exact⟨A8 (by simp),m2⟩
theorem KQ (x:W4) (hx:x.fit) (v:V_) (xs:List Int) (bf:Nat) (m:AC w0 H ((bf,C #[.func (.func 229) #[x.v] #[]] 189)::L) w) (hv:AX AY H v xs) (hr:∀r∈xs,0<=r/\r<256):K_ yA 245 #[v,.func (.func 277) #[] #[M (O ⟨bf,0,X⟩)]] w (Me w0 H ((bf,C #[.func (.func 229) #[x.v] #[]] 189)::L) (!xs.all (x.hasI))):=by
 have HV:=A5 hv;obtain⟨b,c,rfl,ae,ad,_,_⟩:=hv;have ad:=A9 ad;go_enter func245,ntmps245;go_wp2_with fail;(go_loopw [5,8] (λ_ i wr=>∃k:Nat,k<=xs.length/\i= Y I k/\(xs.take k).all (x.hasI)=B/\AC w0 H ((bf,C #[.func (.func 229) #[x.v] #[]] 189)::L) wr) (λ_ i _=>xs.length-(intOf i).toNat));case atStart=>exact⟨0,uL _,Z,Z,m⟩
 case round=>
  clear m;obtain⟨k,hk,rfl,kH,m⟩:=hrel;have HA:=A5 kH;clear kH;by_cases eP:k<xs.length
  .have hx:=uO eP;have aa:=A5 (hr _ (uS eP));generalize hy:xs[k]=y at hx aa;obtain⟨kA,off,rfl,q1,q2⟩:=HV.out.getI hx;clear hx;have ae:=q1.cell m;cases hq:x.hasI y
   .have HQ:=A5 hq;clear hq;have HY:=A5 hy;clear hy;go_wp2_with fail;refine(Je x hx y bf m aa.out).mono ?_;rw[HQ.out];rintro e w2 ⟨rfl,m2⟩;go_wp2_with fail;go_ret;refine⟨_,Z,?_,m2⟩;rw[show xs.all (x.hasI)=G from B4 _ xs k eP Rc];simp
   .have HQ:=A5 hq;clear hq;have HY:=A5 hy;clear hy;go_wp2_with fail;refine(Je x hx y bf m aa.out).mono ?_;exact Rt
  .go_wp2_with fail;exact NO
theorem Ij (x:W4) (hx:x.fit) (v:V_) (xs:List Int) (bf:Nat) (m:AC w0 H ((bf,C #[.func (.func 229) #[x.v] #[]] 189)::L) w) (hv:AX AY H v xs) (hr:∀r∈xs,0<=r/\r<256):K_ yA 185 #[v,.func (.func 277) #[] #[M (O ⟨bf,0,X⟩)]] w (Bv w0 H ((bf,C #[.func (.func 229) #[x.v] #[]] 189)::L) (N (!xs.all (x.hasI)))):=by go_enter func185,ntmps185;go_wp2_with (go_at_call 245;refine(KQ x hx v xs bf m hv hr).mono ?_;rintro e w' ⟨k,rfl,hk,m2⟩;have HK:=A5 hk;clear hk);exact IW
theorem Qs (x:W4) (hx:x.fit) (v:V_) (xs:List Int) (m:AC w0 H L w) (hv:AX AY H v xs) (hr:∀r∈xs,0<=r/\r<256):K_ yA 227 #[v,.func (.func 229) #[x.v] #[]] w (Bv w0 H L (N (xs.all (x.hasI)))):=by have HV:=A5 hv;clear hv;go_enter func227,ntmps227;have m1:=m.alloc (C #[.func (.func 229) #[x.v] #[]] 189);go_wp2_with fail;refine(Ij x hx v xs _ m1 HV.out hr).mono ?_;exact Ms
variable {fin:(Nat->C2)->Act}
theorem Al.genW {ops:Array Oper} {sp:List Du} {s:Du} (p:List Nat×List Nat×(List C2->C2->Prop)) (hk:s.skip=G) (hn:s.new=O p) (hg:∀bs,Region.wanted o (yielded ops (fin bs).tmps)=B) (h:∀bs w L',GP ops sp bs i->AC w0 H ((p.1.flatMap λk=>(bs k).bl)++(L'++L)) w->BU P (fin bs).eval o w λv w'=>∃d,p.2.2 (p.2.1.map bs) d/\v=s.value (KU bs i d)/\AC w0 H (d.bl++(L'++L)) w'):Al P ops sp w0 H L fin o s i:=by intro bs hb;refine .inr ⟨hk,hg bs,λw L' m=>?_⟩;unfold Du.cons at m;rw[hn] at m⊢;exact h bs w L' hb m
theorem Z4:Jt yA 3 (Y I):=Xv underlying3
def IA (ot:Nat->Bool) (tr:Nat->List Int) (k:Nat) (r:CA) (i:Bu):Bool:=
 r.e&&(ot k||(!((CM i).all r.kn.hasI)||((T (i.op=68)&&T ((tr k).length=0))||(T (i.op=69)&&T (0<(tr k).length)))))
def QU (w0:W_) (H:Hp) (L:List (Nat×Obj)) (n:Nat) (bad:Nat->Prop) (e:E_) (w':W_):Prop:=
 AC w0 H L w'/\((∃k,k<n/\bad k/\(∀j,j<k->¬bad j)/\e= .returned (Y I k))\/((∀j,j<n->¬bad j)/\e= .returned (Y I (-1))))
structure lk (H:Hp) (L:List (Nat×Obj)) (c:AF) (ib:Option Addr) (ic ab sb mb fb:Nat) (rows:List CA) (ot:Nat->Bool) (tr:Nat->List Int):Prop where
 f:(fb,Ac c ib ic ab sb mb)∈L
 a:(ab,C8 rows)∈L
 m:∃lu mcl lm,(mb,Obj.map lu mcl)∈L/\Bt (Y I) lu lm/\∀k:Nat,(BX lm (k:Int)).getD (N G)= N (ot k)
 i:AX C1 H (V ib c.i.length ic) c.i
 len:rows.length=c.i.length
 row:∀k r,rows[k]?=O r->r.kn.fit/\AX AY H r.tv (tr k)
 rd:∀i∈c.i,i.args.length<=4096/\i.w.length<=4/\(∀y∈i.w,y.kind=1\/y.kind=2\/y.kind=3)/\∀r∈CM i,0<=r/\r<256
def Xr (c:AF) (rows:List CA) (ot:Nat->Bool) (tr:Nat->List Int) (k:Nat):Prop:=∃r i,rows[k]?=O r/\c.i[k]?=O i/\IA ot tr k r i=B
theorem Tf (c:AF) (ib:Option Addr) (ic ab sb mb fb:Nat) (rows:List CA) (ot:Nat->Bool) (tr:Nat->List Int) (m:AC w0 H L w) (hf:lk H L c ib ic ab sb mb fb rows ot tr):K_ yA 164 #[M (O ⟨fb,0,X⟩)] w (QU w0 H L c.i.length (Xr c rows ot tr)):=by
 have HF:=A5 hf;have bk:ic<=9223372036854775807/\c.i.length<=ic:=(by obtain⟨_,_,ba,bc,bb,_,_⟩:=hf.i;cases ba;exact⟨A9 bb,bc⟩);obtain⟨lu,az,lm,au,av,ar⟩:=hf.m;have HMM:=A5 (And.intro au (And.intro av ar));clear au av ar hf;have ef:=Bw (w:=w) (L:=[(fb,Ac c ib ic ab sb mb)]) (λp hp=>by rw[yB.1 hp];exact(m.loc _ HF.out.f).1);simp only[BS,Ac] at ef;go_enter func164,ntmps164;go_wp2_with fail;clear ef;(go_loopw [12] (λi wr=>∃k:Nat,k<=c.i.length/\i= Y I k/\Hid (∀j,j<k->¬Xr c rows ot tr j)/\AC w0 H L wr) (λi _=>c.i.length-(intOf i).toNat));case atStart=>exact⟨0,uL _,Z,A5 (λj h=>a_ h A0),m⟩
 case round=>
  clear m;obtain⟨k,hk,rfl,HE,mk⟩:=hrel;by_cases eP:k<c.i.length
  .have ll:(k:Int)<c.i.length:=A0;have hx:=uO eP;have hrr:k<rows.length:=(by have:=HF.out.len;omega);have hr:=uO hrr;have HRD:=A5 (HF.out.rd _ (uS eP));generalize c.i[k]=y at*;generalize rows[k]=r at*;have aa:=A5 (show Xr c rows ot tr k↔IA ot tr k r y=B from⟨λ⟨r',y',e1,e2,e3⟩=>by rw[hr] at e1;rw[hx] at e2;cases e1;cases e2;exact e3,λh=>⟨r,y,hr,hx,h⟩⟩);obtain⟨kA,off,va,vg,vw,rfl,q0,q1,q2,q3,q4,q5,q6,q7,hi⟩:=HF.out.i.getIns hx;have HI:=A5 hi;obtain⟨b5,c5,b6,c6,b7,c7,rfl,rfl,rfl,l5,l6,l7⟩:=hi.shapes;clear hi;have ad:=HF.out.row k r hr;have HKN:=A5 ad.1;obtain⟨tb,tc,aq,bh,bg,_,_⟩:=ad.2;clear ad;(have hst:∀j,j<6->wr.cell? ⟨ab,k*6+j,X⟩=r.cs[j]?:=λj hj=>by rw[AU (mk.loc _ HF.out.a).1];simpa using I6 rows k r j hr hj);clear hr hx;obtain⟨come,tv,kn⟩:=r;simp only at aq;subst aq;have s0:=hst 0 AD;have s1:=hst 1 AD;have s2:=hst 2 AD;have s3:=hst 3 AD;have s4:=hst 4 AD;have s5:=hst 5 AD;simp only[CA.cs,List.getElem?_cons_succ,vM,uT] at s0 s1 s2 s3 s4 s5;clear hst;have bd:ab<wr.heap.size:=Af (mk.loc _ HF.out.a).1;have e0:=q0.cell mk;have e1:=q1.cell mk;have e2:=q2.cell mk;have e3:=q3.cell mk;have e4:=q4.cell mk;have e5:=q5.cell mk;have e6:=q6.cell mk;have e7:=q7.cell mk;clear q0 q1 q2 q3 q4 q5 q6 q7;have bj:(k:Int)<c.i.length:=ll;have ef:=Bw (w:=wr) (L:=[(fb,Ac c (O ⟨kA,off,X⟩) ic ab sb mb)]) (λp hp=>by rw[yB.1 hp];exact(mk.loc _ HF.out.f).1);simp only[BS,Ac] at ef;have mS:=(mk.alloc (C #[Y .u8 y.op,Y I y.to,V b5 y.args.length c5,Y I y.n,Y I y.m,U y.name,V b6 y.go.length c6,V b7 y.w.length c7] 141)).alloc (C #[N come,V tb (tr k).length tc,Y .u64 (kn.a:Int),Y .u64 (kn.b:Int),Y .u64 (kn.c:Int),Y .u64 (kn.d:Int)] 268);simp only[uK] at mS;have es:=mS.e0
   have HKY:=A5 (show ∀W:W_,∀L',AC w0 H L' W->(mb,Obj.map lu az)∈L'->(Instr.lookup 241 (.map (O mb)) (Y I (k:Int)) G).run yA W= .ok (N (ot k)) W from λW L' mW hW=>by
    have:=AC.look (P:=yA) (t:=241) (et:=4) (z:= N G) Z4 underlying241 (by go_simp) mW hW HMM.out.2.1 (k:Int) G;rw[HMM.out.2.2 k] at this
    exact this)
   cases come
   .go_wp2_with fail;go_roundw;(case rel=>exact⟨k+1,by omega,by go_num,A5 (λj hj=>by rcases vE.1 hj with h|h;exact HE.out j h;subst h;rw[aa.out];simp[IA]),mS.drop.drop⟩);case measure=>exact BW
   go_wp2_with fail;generalize wr.heap.size=eb at*;refine Da (F:=λw'=>Code.wp _ _ _ _ w') mS ?_;clear es mS ef e0 e1 e2 e3 e4 e5 e6 e7 s0 s1 s2 s3 s4 s5 bd mk;intro bf mr;obtain⟨ai,aw⟩:∃b,(CM y).all kn.hasI=b:=⟨_,Z⟩;have ae:=A5 aw;clear aw;cases ah:ot k
   .have HOT:=A5 ah;clear ah;refine B1 mr [VK (M (O ⟨fb,0,X⟩)),VK (M (O ⟨fb,0,X⟩)),VK (M (O ⟨fb,6,X⟩)),VK (.map (O mb)),VK (Y I k),VK (N G),VK (N G),VK (.agg #[Y .u8 y.op,Y I y.to,V b5 y.args.length c5,Y I y.n,Y I y.m,U y.name,V b6 y.go.length c6,V b7 y.w.length c7]),⟨[8],λzb=>(zb.getD 0 Ax).v,O ([],[],λzb d=>Fo d.v (CM y) d.bl),G⟩,VK (M (O ⟨eb+1,2,X⟩)),VK (.agg #[Y .u64 (kn.a:Int),Y .u64 (kn.b:Int),Y .u64 (kn.c:Int),Y .u64 (kn.d:Int)]),VK (.func (.func 229) #[.agg #[Y .u64 (kn.a:Int),Y .u64 (kn.b:Int),Y .u64 (kn.c:Int),Y .u64 (kn.d:Int)]] #[]),⟨[],λzb=> N ai,O ([8],[],λzb d=>d.bl=[]),G⟩,VK (N (!ai)),VK (N (!ai))] (nf 12++[B]++nf 2) ?_ ?_
    .refine⟨AA,Z0,AA,Z0,AA,it,AA,jE,?_,Bb,jE,Bb,?_,Bb,AA,trivial⟩
     ·(refine Al.genW _ Z Z (λbs=>by first|rfl|(go_simp;done)) λbs w L2 hb m=>?_);simp only[uu,uA] at m;refine BU.ofCall (f:=228) (args:=#[.agg #[Y .u8 y.op,Y I y.to,V b5 y.args.length c5,Y I y.n,Y I y.m,U y.name,V b6 y.go.length c6,V b7 y.w.length c7]]) Br ?_;refine(Ut y _ _ _ HRD.out.1 HRD.out.2.1 HRD.out.2.2.1 m HI.out).mono ?_;exact UO
     ·(refine Al.genW _ Z Z (λbs=>by first|rfl|(go_simp;done)) λbs w L2 hb m=>?_);have h8:Fo (bs 8).v (CM y) (bs 8).bl:=hb.at 8 A7 Z Z;simp only[vN,uu,vP] at m;obtain⟨H',m',lQ,hs,back⟩:=h8.acc.borrow (Cv _ h8.fit) Z Z m;refine BU.ofCall (f:=227) (args:=#[(bs 8).v,.func (.func 229) #[.agg #[Y .u64 (kn.a:Int),Y .u64 (kn.b:Int),Y .u64 (kn.c:Int),Y .u64 (kn.d:Int)]] #[]]) Br ?_;refine(Qs kn HKN.out _ (CM y) m' hs HRD.out.2.2.2).mono ?_;rintro e w2 ⟨rfl,m2⟩;rw[ae.out];exact⟨_,Z,⟨0,0,undef,[]⟩,Z,Z,(back _ _ m2).dropLK⟩
    .intro bs wd hb md;replace md:=AC.like1 mr (bs 12).bl md;have ay:Fo (bs 8).v (CM y) (bs 8).bl:=hb 8 _ _ Z Z;have al:(bs 12).bl=[]:=hb 12 _ _ Z Z;(try simp only[uB,uA] at md);simp only[uG,uH,Nat.reduceAdd,uN,uC,uD];clear hb ay;rw[al] at md;simp only[uA] at md;have es:=md.e0;cases ai
     .skip;go_wp2_with fail;go_ret;exact⟨md.drop.drop,.inl ⟨k,eP,aa.out.2 (by simp[IA,HOT.out,ae.out]),HE.out,Z⟩⟩
     by_cases af:y.op=68
     .have ax:((y.op:Int)==68)=true:=(by rw[af];rfl);have ao:((y.op:Int)==69)=false:=bF A0;have ak:=A5 af;clear af;by_cases hl:(tr k).length=0
      .have ql:(((tr k).length:Int)==0)=true:=(by rw[hl];rfl);have HL:=A5 hl;clear hl;go_wp2_with fail;go_ret;exact⟨md.drop.drop,.inl ⟨k,eP,aa.out.2 (by simp[IA,HOT.out,ae.out,ak.out,HL.out]),HE.out,Z⟩⟩
      .have ql:(((tr k).length:Int)==0)=false:=bF A0;have HL:=A5 hl;clear hl;go_wp2_with fail;go_roundw;(case rel=>exact⟨k+1,by omega,by go_num,A5 (λj hj=>by rcases vE.1 hj with h|h;exact HE.out j h;subst h;rw[aa.out];simp[IA,HOT.out,ae.out,ak.out,HL.out]),md.drop.drop⟩);case measure=>exact BW
     have ax:((y.op:Int)==68)=false:=bF A0;by_cases ag:y.op=69
     .have ao:((y.op:Int)==69)=true:=(by rw[ag];rfl);have aj:=A5 ag;clear ag af;by_cases hl:0<(tr k).length
      .have ql:(0:Int)<((tr k).length:Int):=A0;have HL:=A5 hl;clear hl;go_wp2_with fail;go_ret;exact⟨md.drop.drop,.inl ⟨k,eP,aa.out.2 (by simp[IA,HOT.out,ae.out,aj.out,HL.out]),HE.out,Z⟩⟩
      .have ql:¬(0:Int)<((tr k).length:Int):=A0;have HL:=A5 (show tr k=[] from vu A0);clear hl;go_wp2_with fail;go_roundw;(case rel=>exact⟨k+1,by omega,by go_num,A5 (λj hj=>by rcases vE.1 hj with h|h;exact HE.out j h;subst h;rw[aa.out];simp[IA,HOT.out,ae.out,aj.out,HL.out]),md.drop.drop⟩);case measure=>exact BW
     have ao:((y.op:Int)==69)=false:=bF A0;have ak:=A5 af;have aj:=A5 ag;clear af ag;go_wp2_with fail;go_roundw;(case rel=>exact⟨k+1,by omega,by go_num,A5 (λj hj=>by rcases vE.1 hj with h|h;exact HE.out j h;subst h;rw[aa.out];simp[IA,HOT.out,ae.out,ak.out,aj.out]),md.drop.drop⟩);case measure=>exact BW
   .have HOT:=A5 ah;clear ah;refine B1 mr [VK (M (O ⟨fb,0,X⟩)),VK (M (O ⟨fb,0,X⟩)),VK (M (O ⟨fb,6,X⟩)),VK (.map (O mb)),VK (Y I k),VK (N B),VK (N B),SK,SK,SK,SK,SK,SK,SK,VK (N B)] (nf 15) ?_ ?_
    .exact⟨AA,Z0,AA,Z0,AA,it,AA,Ak,Ak,Ak,Ak,Ak,Ak,Ak,AA,trivial⟩
    .intro bs wd hb md;replace md:=AC.like0 mr md;(try simp only[uB,uA] at md);simp only[uG,uH,Nat.reduceAdd,uN,uC,uD];clear hb;go_wp2_with fail;go_ret;exact⟨md.drop.drop,.inl ⟨k,eP,aa.out.2 (by simp[IA,HOT.out]),HE.out,Z⟩⟩
  .have hge:¬(k:Int)<c.i.length:=A0;go_wp2_with fail;go_ret;exact⟨mk,.inr ⟨λj hj=>HE.out j A0,Z⟩⟩
