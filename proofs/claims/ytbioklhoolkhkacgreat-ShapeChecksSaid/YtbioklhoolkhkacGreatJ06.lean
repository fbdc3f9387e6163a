/- Part 6: PCK PCL RFN PCU PCY PCZ PPF PLS PLL PPG PPH PPA PPC PCN PCO PCH PCI PCJ PCP PCQ PCR PCS PPB PPD PCV PCW PCX RegionI PNA PNB PPE PNC PND. -/
import Derived.Test.YtbioklhoolkhkacGreatJ04
namespace Go.Proofs.YtbioklhoolkhkacGreat
set_option maxRecDepth 100000
set_option maxHeartbeats 0
set_option linter.unusedVariables false
set_option linter.unusedSimpArgs false
set_option linter.unusedSectionVars false
open Go Go.RowKit
open _root_.Go.Proofs.Tryz renaming prog→uh
open _root_.List renaming nil_append→ui,mem_singleton→uj,cons_append→ul,drop_succ_cons→um,drop_zero→un,getElem?_eq_getElem→uq,length_cons→ur,range→ut,length_nil→uu,toList_toArray→uy,replicate→vA,getD_eq_getElem?_getD→vB,getElem_mem→vE,setIfInBounds_toArray→vH,set_cons_succ→vI,all_eq_true→vJ,set_cons_zero→vM,mem_cons→vP,mem_range→vR,flatMap_nil→vS,mem_append→vU,take_succ_cons→vW,append_assoc→vY,reverse_reverse→ve,take_zero→vj,foldl_append→vm,getElem?_replicate→vq,getElem?_set_ne→vt,size_toArray→vv,map_append→vx,mem_map→vz,getElem?_eq_none→wD,getElem?_map→wE,flatMap_cons→wF,append_nil→wG,map→wH,not_mem_nil→wI,length_map→wJ,length_set→wK,getElem?_set_self→wM,take_succ_eq_append_getElem→wN,take_of_length_le→wO,getElem?_take→wQ,mem_append_right→wS,getElem?_cons_zero→wT,ext_getElem?→we,length_take→wg,perm_middle→wi,length_append→wj,getElem?_eq_some_iff→wl,eq_nil_of_length_eq_zero→wm,set_eq_of_length_le→wo,getElem?_range→wt,range_succ→wu,getElem_of_mem→wx,reverse_cons→x4,any_cons→x9,getElem?_eraseIdx→xE,length_eraseIdx→xF,any_nil→xG,mem_of_mem_eraseIdx→xI,mem_eraseIdx_iff_getElem→xJ,nodup_append→xK,mem_take_iff_getElem→xL,map_cons→xM,map_map→xN,mem_of_getElem?→xO,getElem?_toArray→xQ,length_replicate→xR
open _root_.Bool renaming and_eq_true→uv,true_and→vF,eq_iff_iff→vL,not_eq_true'→vZ,or_eq_true→wW,or_false→wX,false_or→ww
open _root_.Nat renaming zero_le→uz,zero_add→vQ,lt_succ_iff_lt_or_eq→vV,and_le_left→vX,add_zero→vp,le_refl→vy,lt_of_le_of_lt→wB,zero_mul→wU
open _root_.ByteArray renaming empty→vD
open _root_.Go.World renaming size_alloc→vG,drew→vu,size_setCell→wV
open _root_.Prod renaming fst→vN
open _root_.Option renaming getD_some→vh,map_some→xH
open _root_.Int renaming ofNat→wA,toNat_natCast→wL,le_refl→wY,tdiv_eq_ediv_of_nonneg→xA,tmod_eq_emod_of_nonneg→xB,ofNat_eq_natCast→xS
open _root_.Array renaming getElem?_eq_none→wC,getElem?_eq_getElem→wP,getElem?_toList→wR,ext_getElem?→wZ,length_toList→wh,getElem?_setIfInBounds→xC,size_setIfInBounds→xD,replicate→xP
open _root_.Go.Op renaming eqItems→wv
open _root_.Go.Proofs.Tryz
open Option renaming some→O,none→X
open Bool renaming true→B,false→G
open Decidable renaming decide→T
open _root_.Go renaming Value→V_,World→W_,Calls→K_,execOp→x_,Operand→O_,Program→P_,TypeId→T_,run_underlying→u_,bodyPost_ret→b_,Ending→E_
open _root_.Go.Value renaming slice→V,int→Y,pointer→M,string→U,bool→N
open _root_.Go.IntKind renaming i64→I
open _root_.Go.Obj renaming cells→C
variable {H:Hp} {L:List (Nat×Obj)} {k q:Nat} {w w0:World}
structure W4 where
 a:Nat
 b:Nat
 c:Nat
 d:Nat
def W4.l (x:W4):List Nat:=[x.a,x.b,x.c,x.d]
def W4.vs (x:W4):List V_:=[Y .u64 (x.a:Int),Y .u64 (x.b:Int),Y .u64 (x.c:Int),Y .u64 (x.d:Int)]
def W4.of (l:List Nat):W4:=⟨l.getD 0 0,l.getD 1 0,l.getD 2 0,l.getD 3 0⟩
structure W4.fit (x:W4):Prop where
 a:x.a<18446744073709551616
 b:x.b<18446744073709551616
 c:x.c<18446744073709551616
 d:x.d<18446744073709551616
def W4.has (x:W4) (r:Nat):Bool:=(x.l.getD (r/64) 0).testBit (r%64)
def W4.put (x:W4) (q y:Nat):W4:=W4.of (x.l.set q y)
def W4.with1 (x:W4) (r:Nat):W4:=x.put (r/64) (x.l.getD (r/64) 0|||2^(r%64))
def W4.with' (x:W4) (l:List Int):W4:=l.foldl (λx r=>x.with1 r.toNat) x
theorem W4.fit_get {x:W4} (h:x.fit) (q:Nat):x.l.getD q 0<18446744073709551616:=by
 rcases q with _|_|_|_|q
 .exact h.a
 .exact h.b
 .exact h.c
 .exact h.d
 .show(0:Nat)<18446744073709551616;omega
theorem W4.fit_put {x:W4} (h:x.fit) (q y:Nat) (hy:y<18446744073709551616):(x.put q y).fit:=by
 rcases q with _|_|_|_|q
 .exact⟨hy,h.b,h.c,h.d⟩
 .exact⟨h.a,hy,h.c,h.d⟩
 .exact⟨h.a,h.b,hy,h.d⟩
 .exact⟨h.a,h.b,h.c,hy⟩
 .exact h
theorem W4.get_vs (x:W4) (hq:q<4) (h:q<x.vs.length):x.vs[q]= Y .u64 ((x.l.getD q 0:Nat):Int):=by exact Wd
theorem W4.set_vs (x:W4) (hq:q<4) (y:Nat):x.vs.toArray.setIfInBounds q (Y .u64 (y:Int))=(x.put q y).vs.toArray:=by exact Wd
theorem W4.l_put (x:W4) (hq:q<4) (y:Nat):(x.put q y).l=x.l.set q y:=by exact Wd
theorem QD {s:Nat} (h:s<64):2^s<18446744073709551616:=by have:(2:Nat)^s<=2^63:=Nat.pow_le_pow_right A0 A0;have h2:(2:Nat)^63=9223372036854775808:=(by rfl);omega
theorem W4.fit_with1 {x:W4} (h:x.fit) (r:Nat):(x.with1 r).fit:=by refine W4.fit_put h _ _ ?_;have h1:=W4.fit_get h (r/64);have h2:=QD (s:=r%64) A0;have h3:(18446744073709551616:Nat)=2^64:=(by rfl);rw[h3] at h1 h2⊢;exact Nat.or_lt_two_pow h1 h2
theorem W4.fit_with {l:List Int}:∀{x:W4},x.fit->(x.with' l).fit:=by
 induction l with
 |nil=>exact λh=>h
 |cons r l ih=>exact λh=>ih (W4.fit_with1 h r.toNat)
theorem W4.has_with1 (x:W4) {r r':Nat} (hr:r<256) (aa:r'<256):(x.with1 r).has r'=(x.has r'||T (r=r')):=by
 have hq:r/64<4:=A0;unfold W4.has W4.with1;rw[W4.l_put x hq];have nC:x.l.length=4:=Z;by_cases e:r/64=r'/64
 .rw[e,vB,wM (by rw[nC];omega)];simp only[vh,Nat.testBit_or,Nat.testBit_two_pow];congr 1;exact We
 .rw[vB,vt e,<-vB,f_ (by intro e2;exact e (by rw[e2])),wX]
theorem W4.has_with {l:List Int}:∀(x:W4),(∀r∈l,0<=r/\r<256)->∀{r':Nat},r'<256->(x.with' l).has r'=(x.has r'||l.any λr=>T (r=r')):=by
 induction l with
 |nil=>intro x _ r' _;simp[W4.with']
 |cons r l ih=>intro x h r' aa;have h1:=h r (.head _);show((x.with1 r.toNat).with' l).has r'=_;rw[ih (x.with1 r.toNat) (λy hy=>h y (.tail _ hy)) aa,W4.has_with1 x A0 aa,x9,Bool.or_assoc];congr 2;exact We
theorem tJ {z:Nat} (h:z<18446744073709551616):(bits .and .u64 (z:Int) 1==1)=T (z%2=1):=by have:=u64_and_nat z 1 h A0;rw[show((1:Nat):Int)=1 from Z] at this;rw[this,Nat.and_one_is_mod,vL];simp only[beq_iff_eq,decide_eq_true_eq];omega
abbrev J5:T_:=240
abbrev W4.box (x:W4):Obj:= C #[Y .u64 (x.a:Int),Y .u64 (x.b:Int),Y .u64 (x.c:Int),Y .u64 (x.d:Int)] J5
abbrev W4.v (x:W4):V_:= .agg #[Y .u64 (x.a:Int),Y .u64 (x.b:Int),Y .u64 (x.c:Int),Y .u64 (x.d:Int)]
theorem Zv (x:W4) (hx:x.fit) (r:Nat) (hr:r<256) (m:AC w0 H L w):K_ uh 192 #[x.v,Y I r] w (Bv w0 H L (N (x.has r))):=by have m1:=m.alloc x.box;have es:=m1.e0;have hq:(r:Int).tdiv 64=((r/64:Nat):Int):=(by rw[xA A0];omega);have hs:(r:Int).tmod 64=((r%64:Nat):Int):=(by rw[xB A0];omega);have hs2:r%64<64:=A0;have hq2:r/64<4:=A0;have aa:=W4.fit_get hx (r/64);unfold W4.has;generalize r/64=q at*;generalize r%64=s at*;have ad:(s:Int)<=64:=A0;(have hc:∀(h:q<[Y .u64 (x.a:Int),Y .u64 (x.b:Int),Y .u64 (x.c:Int),Y .u64 (x.d:Int)].length),[Y .u64 (x.a:Int),Y .u64 (x.b:Int),Y .u64 (x.c:Int),Y .u64 (x.d:Int)][q]= Y .u64 ((x.l.getD q 0:Nat):Int):=λh=>W4.get_vs x hq2 h);generalize x.l.getD q 0=y at*;have hd:(y:Int)/2^s=((y/2^s:Nat):Int):=(by simp);have he:y.testBit s=T (y/2^s%2=1):=Nat.testBit_eq_decide_div_mod_eq;have hz:y/2^s<18446744073709551616:=wB (Nat.div_le_self _ _) aa;rw[he];generalize y/2^s=z at*;have hb:=A5 (tJ hz);go_enter func192,ntmps192;go_wp2_with fail;go_ret;exact⟨A8 hb.out,m1.drop⟩
theorem QW (x:W4) (hx:x.fit) (v:V_) (l:List Int) (hl:∀r∈l,0<=r/\r<256) (m:AC w0 H L w) (hv:AX AY H v l):K_ uh 183 #[x.v,v] w (Bv w0 H L (x.with' l).v):=by
 have HV:=A5 hv;obtain⟨lb,lc,rfl,au,af,-⟩:=hv;have af:=A9 af;have m1:=m.alloc x.box;have m2:=m1.alloc (C #[Y .u64 0,Y .u64 0,Y .u64 0,Y .u64 0] J5);simp only[vG] at m2;generalize aj:w.heap.size=xb at*;go_enter func183,ntmps183;go_wp2_with fail;clear m1;(go_loopw [9] (λi wr=>∃(k:Nat) (y:W4),k<=l.length/\i= Y I k/\y.fit/\Hid (y=x.with' (l.take k))/\AC w0 H ((xb,y.box)::(xb+1,C #[Y .u64 0,Y .u64 0,Y .u64 0,Y .u64 0] J5)::L) wr) (λi _=>l.length-(intOf i).toNat));case atStart=>exact⟨0,x,uz _,Z,hx,A5 Z,m2.perm (List.Perm.swap _ _ _)⟩
 case round=>
  clear m2 hx;obtain⟨k,y,hk,rfl,hy,HY,mk⟩:=hrel;have es:=mk.e0;by_cases lg:k<l.length
  .obtain⟨lu,off,rfl,d0,_⟩:=HV.out.getI (uq lg);have d0:=d0.cell mk;have hr:=hl l[k] (vE lg);have htk:l.take (k+1)=l.take k++[l[k]]:=wN lg;have HTK:=A5 htk;clear htk;have lJ:(k:Int)<l.length:=A0;obtain⟨r,hrr⟩:∃r:Nat,l[k]=(r:Int):=⟨l[k].toNat,by omega⟩;rw[hrr] at d0 hr HTK;clear hrr;have hr:r<256:=A0;have hq:(r:Int).tdiv 64=((r/64:Nat):Int):=(by rw[xA A0];omega);have hs:(r:Int).tmod 64=((r%64:Nat):Int):=(by rw[xB A0];omega);have hs2:r%64<64:=A0;have hq2:r/64<4:=A0;have ag:=W4.fit_get hy (r/64);have ae:y.put (r/64) (y.l.getD (r/64) 0|||2^(r%64))=y.with1 r:=Z;have hf1:=W4.fit_with1 hy r;generalize ad:y.with1 r=y1 at*;have ai:=A5 ad;clear ad;generalize r/64=q at*;generalize r%64=s at*;have aq:(s:Int)<=64:=A0;(have hc:∀(h:q<[Y .u64 (y.a:Int),Y .u64 (y.b:Int),Y .u64 (y.c:Int),Y .u64 (y.d:Int)].length),[Y .u64 (y.a:Int),Y .u64 (y.b:Int),Y .u64 (y.c:Int),Y .u64 (y.d:Int)][q]= Y .u64 ((y.l.getD q 0:Nat):Int):=λh=>W4.get_vs y hq2 h);have aa:=W4.set_vs y hq2 (y.l.getD q 0|||2^s);rw[ae] at aa;clear ae;have ar:bits .or .u64 ((y.l.getD q 0:Nat):Int) (2^s)=((y.l.getD q 0|||2^s:Nat):Int):=(by have:=u64_or_nat (y.l.getD q 0) (2^s) ag (QD hs2);rw[<-this];simp);have ao:IntKind.u64.wrap (2^s)=2^s:=(by have:=QD hs2;rw[IntKind.wrap_u64];have h2:(2:Int)^s=((2^s:Nat):Int):=(by simp);rw[h2];generalize 2^s=P at*;omega);generalize y.l.getD q 0=z at*;go_wp2_with fail;refine wp_region_still_tail 8 A7 A7 ?_;show wpStill _ _ (vu wr) (λa'=>wpList _ _ _ _ a' (vu wr)) _ _;replace mk:=mk.drew;generalize vu wr=wd at mk⊢;clear es;have es:=mk.e0;simp only[vW,vj,um,un];have hq4:(q:Int)<4:=A0;have an:IntKind.i64.wrap (q:Int)=q:=IntWalk.i64_in _ A0;have ak:IntKind.i64.wrap (s:Int)=s:=IntWalk.i64_in _ A0;(iterate 8 still_step);refine wpStill_nil ?_;go_wp2_with fail;go_roundw
   case rel=>
    refine⟨k+1,y1,by omega,by go_num,hf1,A5 ?_,?_⟩
    .rw[HTK.out,<-ai.out,HY.out];unfold W4.with';rw[vm];rfl
    .have:=mk.set (i:=q) (v:= Y .u64 ((z|||2^s:Nat):Int)) .head;have e:#[Y .u64 (y.a:Int),Y .u64 (y.b:Int),Y .u64 (y.c:Int),Y .u64 (y.d:Int)].setIfInBounds q (Y .u64 ((z|||2^s:Nat):Int))=#[Y .u64 (y1.a:Int),Y .u64 (y1.b:Int),Y .u64 (y1.c:Int),Y .u64 (y1.d:Int)]:=aa;rw[e] at this;exact this
   case measure=>exact BW
  .have hge:¬(k:Int)<l.length:=A0;have ah:=A5 (show y=x.with' l by rw[HY.out,wO A0]);clear HY;go_wp2_with fail;refine b_ (v:=y.v) (by simp[results,results183,go_sem,es]) Z ?_;exact⟨by rw[ah.out],(AC.setL [Y .u64 (y.a:Int),Y .u64 (y.b:Int),Y .u64 (y.c:Int),Y .u64 (y.d:Int)] 0 (mk.perm (List.Perm.swap _ _ _))).drop.drop⟩
def W4.and' (x y:W4):W4:=⟨x.a&&&y.a,x.b&&&y.b,x.c&&&y.c,x.d&&&y.d⟩
def W4.andN (x y:W4) (k:Nat):W4:=⟨if 0<k then x.a&&&y.a else x.a,if 1<k then x.b&&&y.b else x.b,if 2<k then x.c&&&y.c else x.c,if 3<k then x.d&&&y.d else x.d⟩
theorem W4.fit_and {x y:W4} (h:x.fit):(x.and' y).fit:=
 ⟨wB vX h.a,wB vX h.b,wB vX h.c,wB vX h.d⟩
theorem W4.has_and (x y:W4) (r:Nat):(x.and' y).has r=(x.has r&&y.has r):=by
 unfold W4.has
 have:(x.and' y).l.getD (r/64) 0=x.l.getD (r/64) 0&&&y.l.getD (r/64) 0:=by
  generalize r/64=q;rcases q with _|_|_|_|q
  .rfl
  .rfl
  .rfl
  .rfl
  .exact(AD:(0:Nat)=0&&&0)
 rw[this,Nat.testBit_and]
theorem W4.andN_get (x y:W4) (hk:k<4):(x.andN y k).l.getD k 0=x.l.getD k 0:=by
 rcases k with _|_|_|_|k
 .rfl
 .rfl
 .rfl
 .rfl
 .omega
theorem W4.andN_put (x y:W4) (hk:k<4):(x.andN y k).put k (x.l.getD k 0&&&y.l.getD k 0)=x.andN y (k+1):=by
 rcases k with _|_|_|_|k
 .rfl
 .rfl
 .rfl
 .rfl
 .omega
theorem aY (x y:W4) (hx:x.fit) (hy:y.fit) (m:AC w0 H L w):K_ uh 275 #[x.v,y.v] w (Bv w0 H L (x.and' y).v):=by
 have m1:=m.alloc x.box;have m2:=m1.alloc y.box;have m3:=m2.alloc (C #[Y .u64 0,Y .u64 0,Y .u64 0,Y .u64 0] J5);simp only[vG] at m3;generalize af:w.heap.size=xb at*;go_enter func275,ntmps275;go_wp2_with fail;clear m1 m2;(go_loopw [6] (λi wr=>∃(k:Nat) (z:W4),k<=4/\i= Y I k/\Hid (z=x.andN y k)/\AC w0 H ((xb,z.box)::(xb+1,y.box)::(xb+1+1,C #[Y .u64 0,Y .u64 0,Y .u64 0,Y .u64 0] J5)::L) wr) (λi _=>4-(intOf i).toNat));case atStart=>exact⟨0,x,by omega,Z,A5 Z,m3.perm Ah⟩
 case round=>
  clear m3;obtain⟨k,z,hk,rfl,HZ,mk⟩:=hrel;have es:=mk.e0;by_cases lg:k<4
  .have lJ:(k:Int)<4:=A0;have af:=W4.fit_get hx k;have ai:=W4.fit_get hy k;have aa:=W4.andN_put x y lg;have ag:z.l.getD k 0=x.l.getD k 0:=(by rw[HZ.out];exact W4.andN_get x y lg);(have ao:∀(h:k<[Y .u64 (z.a:Int),Y .u64 (z.b:Int),Y .u64 (z.c:Int),Y .u64 (z.d:Int)].length),[Y .u64 (z.a:Int),Y .u64 (z.b:Int),Y .u64 (z.c:Int),Y .u64 (z.d:Int)][k]= Y .u64 ((x.l.getD k 0:Nat):Int):=λh=>by rw[<-ag];exact W4.get_vs z lg h);(have an:∀(h:k<[Y .u64 (y.a:Int),Y .u64 (y.b:Int),Y .u64 (y.c:Int),Y .u64 (y.d:Int)].length),[Y .u64 (y.a:Int),Y .u64 (y.b:Int),Y .u64 (y.c:Int),Y .u64 (y.d:Int)][k]= Y .u64 ((y.l.getD k 0:Nat):Int):=λh=>W4.get_vs y lg h);rw[<-HZ.out] at aa;have ad:=W4.set_vs z lg (x.l.getD k 0&&&y.l.getD k 0);rw[aa] at ad;clear aa ag;have hand:=u64_and_nat (x.l.getD k 0) (y.l.getD k 0) af ai;generalize x.l.getD k 0=p at*;generalize y.l.getD k 0=q at*;generalize ae:x.andN y (k+1)=z1 at*;have ak:=A5 ae;clear ae HZ;go_wp2_with fail;refine wp_region_still_tail 7 A7 A7 ?_;show wpStill _ _ (vu wr) (λa'=>wpList _ _ _ _ a' (vu wr)) _ _;replace mk:=mk.drew;generalize vu wr=wd at mk⊢;clear es;have es:=mk.e0;simp only[vW,vj,um,un];(iterate 7 still_step);refine wpStill_nil ?_;go_wp2_with fail;go_roundw;(case rel=>refine⟨k+1,z1,by omega,by go_num,A5 ak.out.symm,?_⟩;have:=mk.set (i:=k) (v:= Y .u64 ((p&&&q:Nat):Int)) .head;have e:#[Y .u64 (z.a:Int),Y .u64 (z.b:Int),Y .u64 (z.c:Int),Y .u64 (z.d:Int)].setIfInBounds k (Y .u64 ((p&&&q:Nat):Int))=#[Y .u64 (z1.a:Int),Y .u64 (z1.b:Int),Y .u64 (z1.c:Int),Y .u64 (z1.d:Int)]:=ad;rw[e] at this;exact this);case measure=>exact BW
  .have hge:¬(k:Int)<4:=A0
   have ah:=A5 (show z=x.and' y by
    have aj:k=4:=A0;subst aj
    exact HZ.out)
   clear HZ;go_wp2_with fail;refine b_ (v:=z.v) (by simp[results,results275,go_sem,es]) Z ?_;exact⟨by rw[ah.out],(AC.setL [Y .u64 (z.a:Int),Y .u64 (z.b:Int),Y .u64 (z.c:Int),Y .u64 (z.d:Int)] 0 ((mk.perm Ah:AC _ _ ((xb+1+1,C #[Y .u64 0,Y .u64 0,Y .u64 0,Y .u64 0] J5)::(xb,z.box)::(xb+1,y.box)::L) _))).drop.drop.drop⟩
variable {g i:Nat}
def YH (w:W_) (v:V_) (xs:List Int):Prop:=∃b c,v= V b xs.length c/\xs.length<=maxLen/\∀i,(h:i<xs.length)->∃lu off,b=O ⟨lu,off,X⟩/\w.cell? ⟨lu,off+i,X⟩=O (Y I xs[i])
def Mh:List Int->Int
 |[]=>0
 |x::l=>l.foldl min x
theorem ME:∀(l:List Int) (x:Int),l.foldl min x<=x/\∀y∈l,l.foldl min x<=y
 |[],x=>⟨wY _,λ_ h=>CZ⟩
 |z::l,x=>by
  have h:=ME l (min x z)
  refine⟨?_,λy hy=>?_⟩
  .show l.foldl min (min x z)<=x
   omega
  .show l.foldl min (min x z)<=y
   rcases vP.1 hy with rfl|hy
   .omega
   .exact h.2 y hy
theorem Ki:∀(l:List Int) (x:Int),l.foldl min x=x\/l.foldl min x∈l
 |[],x=> .inl Z
 |z::l,x=>by
  show l.foldl min (min x z)=x\/l.foldl min (min x z)∈z::l
  rcases Ki l (min x z) with h|h
  .rw[h]
   by_cases e:x<=z
   .exact .inl A0
   .exact .inr (by rw[(A0:min x z=z)];exact .head _)
  .exact .inr (.tail _ h)
theorem SP {l:List Int} (h:l≠[]):Mh l∈l/\∀y∈l,Mh l<=y:=by
 cases l with
 |nil=>exact a_ Z h
 |cons x l=>
  have h1:=ME l x;refine⟨?_,λy hy=>?_⟩
  .rcases Ki l x with h2|h2
   .show l.foldl min x∈_;rw[h2];exact .head _
   .exact .tail _ h2
  .rcases vP.1 hy with rfl|hy
   .exact h1.1
   .exact h1.2 y hy
theorem Zi {l:List Int} (h:k<l.length) (hk:0<k):Mh (l.take (k+1))=min (Mh (l.take k)) l[k]:=by
 cases l with
 |nil=>simp at h
 |cons x l=>obtain⟨k,rfl⟩:∃k',k=k'+1:=⟨k-1,by omega⟩;have aa:k<l.length:=CE;rw[wN h];simp only[vW,ul,Mh,vm,List.foldl_cons,List.foldl_nil]
theorem ZV (v:V_) (xs:List Int) (lU:0<xs.length) (hv:YH w v xs):K_ uh 184 #[v] w λe w'=>e= .returned (Y I (Mh xs))/\w=w':=by
 obtain⟨b,c,rfl,hm,aa⟩:=hv;have hm:=A9 hm;have A:=A5 aa;obtain⟨q0,o0,rfl,d0⟩:=aa 0 lU;rw[vp] at d0;clear aa;have ad:¬(xs.length:Int)<1:=A0;have h0:((0:Nat):Int)=0:=Z
 have h1:Hid (Mh (xs.take 1)=xs[0]):=A5 (by
  cases xs with
  |nil=>simp at lU
  |cons x l=>rfl)
 go_enter func184,ntmps184;go_wp2_with fail;go_loop [3,4] (λr i=>∃k:Nat,0<k/\k<=xs.length/\i= Y I k/\Hid (r= Y I (Mh (xs.take k)))) (λ_ i=>xs.length-(intOf i).toNat);case atStart=>exact⟨1,by omega,by omega,Z,A5 (by rw[h1.out])⟩
 case round=>
  obtain⟨k,ag,hk,rfl,HA⟩:=hrel;obtain rfl:=HA.out;clear HA;by_cases lg:k<xs.length
  .have lJ:(k:Int)<xs.length:=A0;obtain⟨q1,o1,ah,d1⟩:=A.out k lg;cases ah;have ae:=A5 (Zi lg ag);go_wp2_with fail;go_round;(case rel=>exact⟨k+1,by omega,by omega,by go_num,A5 (by rw[ae.out];congr 1;split<;>omega)⟩);case measure=>exact BW
  .have hge:¬(k:Int)<xs.length:=A0;have af:xs.take k=xs:=wO A0;rw[af];go_wp2_with fail;go_ret;exact⟨Z,Z⟩
theorem Pw (n at':Int) (tb:Nat) (w:W_) (h:w.cell? ⟨tb,0,X⟩=O (Y I at')):K_ uh 186 #[Y I n,M (O ⟨tb,0,X⟩)] w λe w'=>e= .returned (N (n==at'))/\w=w':=by go_enter func186,ntmps186;go_wp2_with fail;go_ret;exact⟨Z,Z⟩
theorem RK (v:V_) (xs:List Int) (at':Int) (k:Nat) (hk:k<xs.length) (ad:xs[k]=at') (aa:∀j (h:j<xs.length),xs[j]=at'->j=k) (tb:Nat) (hv:YH w v xs) (h:w.cell? ⟨tb,0,X⟩=O (Y I at')):K_ uh 202 #[v,.func (.func 186) #[] #[M (O ⟨tb,0,X⟩)]] w λe w'=>e= .returned (Y I k)/\w=w':=by
 obtain⟨b,c,rfl,hm,lx⟩:=hv;have hm:=A9 hm;have A:=A5 lx;have HK:=A5 ad;have HU:=A5 aa;clear lx ad aa;go_enter func202,ntmps202;go_wp2;go_loop [5,8] (λ_ i=>∃j:Nat,j<=k/\i= Y I j) (λ_ i=>xs.length-(intOf i).toNat);case atStart=>exact⟨0,uz _,Z⟩
 case round=>
  obtain⟨j,hj,rfl⟩:=hrel;have lg:j<xs.length:=A0;have lJ:(j:Int)<xs.length:=A0;obtain⟨q1,o1,rfl,d1⟩:=A.out j lg;by_cases e:j=k
  .subst e;have hb:(xs[j]==at')=true:=(by rw[HK.out];simp);go_wp2_with (go_at_call 186;refine(Pw _ at' tb _ h).mono ?_;rw[hb];rintro e w' ⟨rfl,rfl⟩);go_ret;exact⟨Z,Z⟩
  ·(have hb:(xs[j]==at')=false:=bF λe2=>e (HU.out j lg e2));go_wp2_with (go_at_call 186;refine(Pw _ at' tb _ h).mono ?_;rw[hb];rintro e w' ⟨rfl,rfl⟩);go_round;(case rel=>exact⟨j+1,by omega,by go_num⟩);case measure=>exact BW
def MA (nB:Array V_) (k j:Nat):Array V_:=((ut nB.size).map λp=>if k<=p/\p+1<j then nB.getD (p+1) undef else nB.getD p undef).toArray
theorem N4 (nB:Array V_) (k j:Nat):(MA nB k j).size=nB.size:=by simp[MA]
theorem JW (nB:Array V_) (k j p:Nat) (hp:p<nB.size):(MA nB k j)[p]?=O (if k<=p/\p+1<j then nB.getD (p+1) undef else nB.getD p undef):=by simp[MA,hp]
theorem X2 (nB:Array V_) (k:Nat):MA nB k (k+1)=nB:=by
 (refine wZ λp=>?_);by_cases hp:p<nB.size
 .rw[JW _ _ _ _ hp,n_ A0,wP hp];simp[hp]
 .rw[wC Yn,wC A0]
theorem kS (nB:Array V_) (k j:Nat) (hj:j<nB.size):(MA nB k j)[j]?=nB[j]?:=by rw[JW _ _ _ _ hj,n_ A0,wP hj];simp[hj]
theorem bG (nB:Array V_) (k j:Nat) (hk:k<j) (hj:j<nB.size) (v:V_) (hv:nB[j]?=O v):(MA nB k j).setIfInBounds (j-1) v=MA nB k (j+1):=by
 (refine wZ λp=>?_);by_cases hp:p<nB.size
 .rw[xC,JW _ _ _ _ hp,JW _ _ _ _ hp];by_cases e:j-1=p
  .rw[p_ e,p_ Yn,p_ A0];subst e;rw[Array.getD_eq_getD_getElem?,(A0:j-1+1=j),hv];rfl
  .rw[n_ e];by_cases h:k<=p/\p+1<j
   .rw[p_ h,p_ A0]
   .rw[n_ h,n_ A0]
 .rw[wC (by rw[xD,N4];omega),wC Yn]
theorem Zn (nB:Array V_) (k n:Nat) (hk:k<n) (hn:n<=nB.size) (x:V_):((MA nB k n).setIfInBounds (n-1) x).toList.take (n-1)=(nB.toList.take n).eraseIdx k:=by
 (refine we λp=>?_);by_cases hp:p<n-1
 .rw[wQ,p_ hp,wR,xC,n_ A0,JW _ _ _ _ A0,xE];by_cases h:k<=p
  .rw[p_ A0,n_ A0,wQ,p_ A0,wR];simp[(A0:p+1<nB.size)]
  .rw[n_ A0,p_ A0,wQ,p_ A0,wR];simp[(A0:p<nB.size)]
 .rw[wD Nn,wD (by rw[xF,p_ (by rw[wg,wh];omega),wg,wh];omega)]
def N6 (g cap:Nat) (nB:Array V_) (xs:List Int):Prop:=xs.length<=cap/\cap<=maxLen/\nB.size=cap/\nB.toList.take xs.length=xs.map (Y I)
theorem N6.get {cap:Nat} {nB:Array V_} {xs:List Int} (h:N6 g cap nB xs) (hi:i<xs.length):nB[i]?=O (Y I xs[i]):=by have h1:(nB.toList.take xs.length)[i]?=(xs.map (Y I))[i]?:=(by rw[h.2.2.2]);rw[wQ,p_ hi,wR] at h1;rw[h1];simp[hi]
theorem N6.at {cap:Nat} {nB:Array V_} {xs:List Int} (h:N6 g cap nB xs) (m:AC w0 H ((g,C nB 3)::L) w):YH w (V (O ⟨g,0,X⟩) xs.length cap) xs:=by refine⟨_,_,Z,Nat.le_trans h.1 h.2.1,λi hi=>⟨g,0,Z,?_⟩⟩;rw[AU (m.loc _ (.head _)).1,vQ];exact h.get hi
theorem Ox (xs:List Int) (at':Int) (k:Nat) (hk:k<xs.length) (an:xs[k]=at') (af:∀j (h:j<xs.length),xs[j]=at'->j=k) (g cap tb:Nat) (nB:Array V_) (hr:N6 g cap nB xs) (m:AC w0 H ((g,C nB 3)::(tb,C #[Y I at'] 3)::L) w):K_ uh 185 #[V (O ⟨g,0,X⟩) xs.length cap,.func (.func 186) #[] #[M (O ⟨tb,0,X⟩)]] w λe w'=>∃ae,e= .returned (V (O ⟨g,0,X⟩) (xs.length-1) cap)/\N6 g cap ae (xs.eraseIdx k)/\AC w0 H ((g,C ae 3)::(tb,C #[Y I at'] 3)::L) w':=by
 have HR:=A5 hr;have HK:=A5 an;have HU:=A5 af;have ak:=A9 hr.2.1;have ao:=hr.1;clear hr af;have es:=m.e0;have ah:=A5 (HR.out.at m);have au:((k:Int)== -1)=false:=bF A0;go_enter func185,ntmps185;go_wp2_with (go_at_call 202;refine BQ (RK _ xs at' k hk HK.out HU.out tb ah.out Gd) ?_);clear es;(go_loopw [5,6] (λi5 i6 wr=>∃j:Nat,k<j/\j<=xs.length/\i6= Y I j/\i5= Y I ((j:Int)-1)/\AC w0 H ((g,C (MA nB k j) 3)::(tb,C #[Y I at'] 3)::L) wr) (λ_ i6 _=>xs.length-(intOf i6).toNat));case atStart=>exact⟨k+1,by omega,by omega,by go_num,by go_num,by rw[X2];exact m⟩
 case round=>
  clear m ah;obtain⟨j,ai,hj,rfl,rfl,m⟩:=hrel;have es:=m.e0;by_cases lg:j<xs.length
  .have lJ:(j:Int)<xs.length:=A0;have ag:j<nB.size:=(by rw[HR.out.2.2.1];omega);have hg:=HR.out.get lg;have ay:(MA nB k j)[j]?=O (Y I xs[j]):=(kS _ _ _ ag).trans hg;obtain⟨v0,ar⟩:∃v0,(MA nB k j)[j-1]?=O v0:=⟨_,wP Yn⟩;have aq:IntKind.i64.wrap ((j:Int)-1)=(j:Int)-1:=IntWalk.i64_in _ A0;have ax:((j:Int)-1).toNat=j-1:=A0;(have lU:(xs[j]==at')=false:=bF λe=>by have:=HU.out j lg e;omega);have ad:=A5 (bG nB k j ai ag _ hg);generalize xs[j]=y at*;have av:(j:Int)-1<xs.length:=A0;have aw:0<=(j:Int)-1:=A0;go_wp2_with (go_at_call 186;refine(Pw _ at' tb _ Gd).mono ?_;rw[lU];rintro e w' ⟨rfl,rfl⟩);go_roundw;(case rel=>refine⟨j+1,by omega,by omega,by go_num,by go_num,?_⟩;have:=m.set (i:=j-1) (v:= Y I y) .head;rw[ad.out] at this;exact this);case measure=>exact BW
  .have aj:j=xs.length:=A0;clear es;rw[aj] at m;have hge:¬(j:Int)<xs.length:=A0;have hds:=N4 nB k xs.length;have lC:=HR.out.2.2.1;have aa:=(m.loc _ (.head _)).1;simp only at aa;have hcl:=Lib.run_clear_slice (P:=uh) wr 79 3 0 (Y I 0) underlying79 (λw=>by go_simp) Z Z g (xs.length-1) 1 (cap-(xs.length-1)) AD (λi hi=>by rw[AU aa];have:xs.length-1+i<(MA nB k xs.length).size:=A0;simp[this]) (λi hi=>Bx aa _);go_wp2_with fail;rw[(A0:xs.length-(xs.length-1)=1),hcl];simp only[Result.andThen_ok,Oper.upon_value];go_wp2_with fail;go_ret;have mf:AC w0 H ((g,C ((MA nB k xs.length).setIfInBounds (xs.length-1) (Y I 0)) 3)::(tb,C #[Y I at'] 3)::L) (wr.setCell ⟨g,xs.length-1,X⟩ (Y I 0)):=m.set .head;refine⟨_,Z,?_,mf⟩;have mN:(xs.eraseIdx k).length=xs.length-1:=(by rw[xF,p_ hk]);refine⟨by omega,HR.out.2.1,by rw[xD,hds];exact lC,?_⟩;rw[mN,Zn nB k xs.length hk A0,HR.out.2.2.2];(refine we λp=>?_);simp only[xE,wE];split<;>rfl
section
variable {Q:Exit->Act->World->Prop}
section
variable {P:P_} {w0 w:W_} {H:Hp}
theorem Gy {g:O_} {p:Tmp} {assign body:Code} {a:Act} {gf:Nat} {first nr:Array V_} {LH LB:List (Nat×Obj)} (m:AC w0 H (LH++LB) w) (hg:a.eval g= .func (.func gf) first nr) (eg:∀args w,(callFunc gf args).run P w= .ok (.enter gf args) w) (RA:Nat->Hp->V_->Prop) (RB:Nat->Hp->List (Nat×Obj)->Prop) (ai:Nat->Hp->List (Nat×Obj)->Prop) (h0:RB 0 H LB) (ag:∀k H1 H2 LB,Bl H1 H2->RB k H1 LB->RB k H2 LB) (hbody:∀(l n k:Nat) (H1:Hp) (L1 LB:List (Nat×Obj)) (W:W_) (x:V_),RA k H1 x->RB k H1 LB->AC w0 H1 (L1++LB) W->assign.wpIn (Fence.wide.inRound l) n P (λ| .normal,a1,W1=>∃aj,AC w0 H1 (L1++aj) W1/\∀(L2:List (Nat×Obj)) (W2:W_),AC w0 H1 (L2++aj) W2->body.wpIn (Fence.wide.inRound l) n P (λ| .normal,_,W'=>∃H2 aa,Bl H1 H2/\RB (k+1) H2 aa/\AC w0 H2 (L2++aa) W'|_,_,_=>False) a1 W2|_,_,_=>False) {tmps:=a.tmps.setIfInBounds p x,defers:=[]} W) (hit:∀(l:Nat) (ah ar:Nat->Hp->List (Nat×Obj)->Prop),KJ P l w0 RA ah ar->(∀k H1 H2 LB,Bl H1 H2->ah k H1 LB->ah k H2 LB)->∀(aa:List (Nat×Obj)) (W:W_),ah 0 H aa->AC w0 H (LH++aa) W->K_ P gf (first++#[.func (.yield l) #[] #[]]++nr) W λe W'=>(∃v,e= .returned v)/\∃k H' af ae,Bl H H'/\AC w0 H' (af++ae) W'/\((ah k H' ae/\ai k H' af)\/(∃k',ar k' H' ae))) (hdone:∀(D k:Nat) (H':Hp) (af aa:List (Nat×Obj)) (W:W_),Bl H H'->RB k H' aa->ai k H' af->AC w0 H' (af++((D,.deferred (O []))::aa)) W->Q .normal {a with defers:={target:= .collected D,args:=#[]}::a.defers} W):(Code.rangeFunc g #[p] assign body).wp P Q a w:=by
 rw[<-wpIn_wide (n:=0)];refine wpIn_rangeFunc ?_;intro fn az;obtain⟨W1,aq⟩:∃W1,(w.alloc (.deferred (O []))).alloc (.loop (CI fn a.tmps p assign body w.heap.size .ready X))=W1:=⟨_,Z⟩;have m1:AC w0 H (LH++((w.heap.size+1,.loop (CI fn a.tmps p assign body w.heap.size .ready X))::(w.heap.size,.deferred (O []))::LB)) W1:=(by have:=(m.alloc (.deferred (O []))).alloc (.loop (CI fn a.tmps p assign body w.heap.size .ready X));rw[vG,aq] at this;exact this.perm ((wi (l₁:=LH)).trans (.cons _ (wi (l₁:=LH)))).symm);refine⟨w.heap.size+1,[{target:= .collected w.heap.size,args:=#[]}],W1,{target:= .fn (.func gf) nr,args:=first++#[.func (.yield (w.heap.size+1)) #[] #[]]},W1,gf,first++#[.func (.yield (w.heap.size+1)) #[] #[]]++nr,W1,?_,?_,?_,?_,λh=>(by simp[Fence.wide] at h),?_⟩
 .rw[<-aq];exact run_enterLoop_outer _ _ _ _ _
 .simp only[resolve,hg];simp[go_sem]
 .intro f' ba;trivial
 .simp[invoke,go_sem,eg]
 .refine callsIn_wide.2 ?_;refine(hit (w.heap.size+1) (λk H9 aa=>∃ad,aa=(w.heap.size+1,.loop (CI fn a.tmps p assign body w.heap.size .ready X))::(w.heap.size,.deferred (O []))::ad/\RB k H9 ad) (λk H9 aa=>False) ?_ (λk H1 H2 LB mN ⟨ad,e,h⟩=>⟨ad,e,ag k H1 H2 ad mN h⟩) _ W1 ⟨LB,Z,h0⟩ m1).mono ?_
  .intro n k H1 L1 aa W x ay ak mW;obtain⟨ad,rfl,ak⟩:=ak;have hl:=(mW.loc (w.heap.size+1,.loop (CI fn a.tmps p assign body w.heap.size .ready X)) (wS _ (.head _))).1;have hy:(Instr.yield (w.heap.size+1) #[x]).run P W= .ok (.round (w.heap.size+1) fn (a.tmps.setIfInBounds p x) assign body) W:=(by have:=run_yield (P:=P) (args:=#[x]) hl Z;simpa[CI] using this);refine⟨fn,a.tmps.setIfInBounds p x,assign,body,hy,roundIn_of_wpIn trivial ?_⟩;have hb:=hbody (w.heap.size+1) n k H1 (L1++[(w.heap.size+1,.loop (CI fn a.tmps p assign body w.heap.size .ready X)),(w.heap.size,.deferred (O []))]) ad W x ay ak (by simpa using mW);(refine wpIn_mono hb λe a1 W2 he=>?_)
   cases e with
   |ret=>exact he.elim
   |exit id=>exact he.elim
   |goto t=>exact he.elim
   |panic ch=>exact he.elim
   |outgrown=>exact he.elim
   |normal=>
    obtain⟨aj,m2,ax⟩:=he;have ao:AC w0 H1 (L1++((w.heap.size+1,.loop (CI fn a.tmps p assign body w.heap.size .ready X))::(w.heap.size,.deferred (O []))::aj)) W2:=(by simpa using m2);have hl2:=(ao.loc (w.heap.size+1,.loop (CI fn a.tmps p assign body w.heap.size .ready X)) (wS _ (.head _))).1;have aw:(Instr.beginRound (w.heap.size+1)).run P W2= .ok () (W2.putObj (w.heap.size+1) (.loop (CI fn a.tmps p assign body w.heap.size .busy X))):=run_beginRound hl2 Z;have mB:=ao.putObj ((DU.head (o':= .loop (CI fn a.tmps p assign body w.heap.size .busy X))).appR L1);refine⟨_,aw,?_⟩;refine wpIn_mono (ax (L1++[(w.heap.size+1,.loop (CI fn a.tmps p assign body w.heap.size .busy X)),(w.heap.size,.deferred (O []))]) _ (by simpa using mB)) ?_;rintro e a3 W3 hp
    cases e with
    |normal=>obtain⟨H2,au,mN,hR,m3⟩:=hp;have an:AC w0 H2 (L1++((w.heap.size+1,.loop (CI fn a.tmps p assign body w.heap.size .busy X))::(w.heap.size,.deferred (O []))::au)) W3:=(by simpa using m3);have av:=(an.loc (w.heap.size+1,.loop (CI fn a.tmps p assign body w.heap.size .busy X)) (wS _ (.head _))).1;have hr:=run_endRound (P:=P) X av;have m4:=an.putObj ((DU.head (o':= .loop (CI fn a.tmps p assign body w.heap.size .ready X))).appR L1);exact⟨_,_,hr,H2,_,mN,m4,.inl ⟨Z,au,Z,hR⟩⟩
    |ret=>exact hp.elim
    |exit id=>exact hp.elim
    |goto t=>exact hp.elim
    |panic ch=>exact hp.elim
    |outgrown=>exact hp.elim
  .rintro e W2 ⟨⟨v,rfl⟩,k,H',af,ae,mN,m2,(⟨⟨ad,rfl,hR⟩,hD⟩|⟨k',hx⟩)⟩
   .have hl:=(m2.loc (w.heap.size+1,.loop (CI fn a.tmps p assign body w.heap.size .ready X)) (wS _ (.head _))).1;have he:(Instr.endLoop (w.heap.size+1)).run P W2= .ok X (W2.putObj (w.heap.size+1) (.loop (CI fn a.tmps p assign body w.heap.size .exhausted X))):=run_endLoop (P:=P) hl (by simp[CI]);have m3:=m2.putObj ((DU.head (o':= .loop (CI fn a.tmps p assign body w.heap.size .exhausted X))).appR af);exact⟨X,_,he,hdone _ k H' af ad _ mN hR hD ((m3.perm wi).drop)⟩
   .exact hx.elim
end
end
structure CA where
 e:Bool
 tv:V_
 kn:W4
def CA.cs (r:CA):List V_:=[N r.e,r.tv,Y .u64 (r.kn.a:Int),Y .u64 (r.kn.b:Int),Y .u64 (r.kn.c:Int),Y .u64 (r.kn.d:Int)]
def Dx:List CA->List V_
 |[]=>[]
 |r::l=>r.cs++Dx l
theorem Dl:∀l:List CA,(Dx l).length=l.length*6
 |[]=>rfl
 |r::l=>by
  simp only[Dx,CA.cs,wj,ur,uu,Dl l]
  omega
theorem I6:∀(l:List CA) (k:Nat) (r:CA) (j:Nat),l[k]?=O r->j<6->(Dx l)[k*6+j]?=r.cs[j]?
 |[],k,r,j,h,_=>by simp at h
 |r'::l,0,r,j,h,hj=>by
  simp only[wT,Option.some.injEq] at h
  subst h
  rw[wU,vQ,Dx,List.getElem?_append_left (by simp[CA.cs];omega)]
 |r'::l,k+1,r,j,h,hj=>by
  rw[Dx,List.getElem?_append_right (by simp[CA.cs];omega),<-I6 l k r j CE hj]
  congr 1
  simp[CA.cs]
  omega
abbrev C8 (rows:List CA):Obj:= C (Dx rows).toArray 242
abbrev Ac (c:AF) (ib:Option Addr) (ic ab sb mb:Nat):Obj:= C #[U c.name,Y I c.params,Y I c.g,V ib c.i.length ic,V (O ⟨ab,0,X⟩) c.i.length c.i.length,V (O ⟨sb,0,X⟩) c.i.length c.i.length,.map (O mb)] 237
theorem WN (c:AF) (ib:Option Addr) (ic ab sb mb fb:Nat) (rows:List CA) (k:Nat) (r:CA) (eJ:List Int) (y:Bu) (m:AC w0 H L w) (hF:(fb,Ac c ib ic ab sb mb)∈L) (hA:(ab,C8 rows)∈L) (hc:AX C1 H (V ib c.i.length ic) c.i) (hk:k<c.i.length) (hr:rows[k]?=O r) (hy:c.i[k]?=O y) (ht:AX AY H r.tv eJ):K_ uh 187 #[M (O ⟨fb,0,X⟩),Y I k] w λe w'=>∃p1 p2 p3 va vg vw,e= .returned (.func (.func 233) #[] #[M (O ⟨p1,0,X⟩),M (O ⟨p2,0,X⟩),M (O ⟨p3,0,X⟩)])/\Gj H y va vg vw/\AC w0 H ((p3,EC y va vg vw)::(p2,C #[r.tv] 79)::(p1,C #[Y I k] 3)::L) w':=by
 have HT:=A5 ht;obtain⟨tb,tc,ae,ao,an,_,_⟩:=ht;obtain⟨lu,off,va,vg,vw,rfl,q0,q1,q2,q3,q4,q5,q6,q7,hi⟩:=hc.getIns hy;have HI:=A5 hi;obtain⟨b5,c5,b6,c6,b7,c7,rfl,rfl,rfl,l5,l6,l7⟩:=hi.shapes;clear hi;obtain⟨_,_,ah,ar,ag,_,_⟩:=hc;cases ah;have ag:=A9 ag;have HQ:=A5 (And.intro q0 (And.intro q1 (And.intro q2 (And.intro q3 (And.intro q4 (And.intro q5 (And.intro q6 q7)))))));clear q0 q1 q2 q3 q4 q5 q6 q7 hy;have aq:(k:Int)<c.i.length:=A0;have aj:=A5 (show(Dx rows)[k*6+1]?=O (V tb eJ.length tc) by rw[I6 rows k r 1 hr AD,<-ae];rfl);clear hr;rw[ae];have au:=A5 ae;clear ae;have m1:=m.alloc (C #[Y I k] 3);generalize ak:w.heap.size=xb at*;go_enter func187,ntmps187;go_wp2_with fail;refine Da (F:=λw'=>Code.wp _ _ _ _ w') m1 ?_;clear m1;intro wr mr;refine B1 mr [VK (M (O ⟨fb,0,X⟩)),VK (M (O ⟨fb,0,X⟩)),VK (M (O ⟨fb,0,X⟩)),VK (M (O ⟨fb,3,X⟩)),VK (V (O ⟨lu,off,X⟩) c.i.length ic),VK (Y I k),VK (M (O ⟨lu,off+k*8,X⟩)),VK (.agg #[Y .u8 y.op,Y I y.to,V b5 y.args.length c5,Y I y.n,Y I y.m,U y.name,V b6 y.go.length c6,V b7 y.w.length c7]),VK (M (O ⟨fb,0,X⟩)),VK (M (O ⟨fb,0,X⟩)),VK (M (O ⟨fb,4,X⟩)),VK (V (O ⟨ab,0,X⟩) c.i.length c.i.length),VK (Y I k),VK (M (O ⟨ab,k*6,X⟩)),VK (M (O ⟨ab,k*6+1,X⟩)),VK (V tb eJ.length tc),⟨[16],λzb=> M (O ⟨(zb.getD 0 Ax).b,0,X⟩),O ([],[],λzb d=>d.bl=[(d.b,C #[Y .u8 0,Y I 0,V X 0 0,Y I 0,Y I 0,U vD,V X 0 0,V X 0 0] 82)]),G⟩,⟨[17],λzb=> M (O ⟨(zb.getD 0 Ax).b,0,X⟩),O ([],[],λzb d=>d.bl=[(d.b,C #[V X 0 0] 79)]),G⟩,⟨[],λzb=>undef,O ([16],[16],λzb d=>d.bl=[((zb.getD 0 Ax).b,SB y b5 c5 b6 c6 b7 c7)]),G⟩] (nf 17++[B,B]) ?_ ?_
 .refine⟨AA,Z6,AA,AA,Z6,CD,AA,?_,AA,Z6,AA,Z6,CD,AA,AA,?_,?_,?_,?_,trivial⟩
  ·(refine Al.vk Z λbs w hb m=>?_);have e0:=HQ.out.1.cell m;have e1:=HQ.out.2.1.cell m;have e2:=HQ.out.2.2.1.cell m;have e3:=HQ.out.2.2.2.1.cell m;have e4:=HQ.out.2.2.2.2.1.cell m;have e5:=HQ.out.2.2.2.2.2.1.cell m;have e6:=HQ.out.2.2.2.2.2.2.1.cell m;have e7:=HQ.out.2.2.2.2.2.2.2.cell m;exact AT
  ·(refine Al.vk Z λbs w hb m=>?_);have et:w.cell? ⟨ab,k*6+1,X⟩=O (V tb eJ.length tc):=(by rw[AU (m.loc _ (.tail _ hA)).1];simpa using aj.out);exact AT
  ·(refine Al.make _ _ Z Z Z λbs w hb m=>?_);show(x_ _ _).run _ _= .ok (.value (M (O ⟨w.heap.size,0,X⟩))) (w.alloc (C #[Y .u8 0,Y I 0,V X 0 0,Y I 0,Y I 0,U vD,V X 0 0,V X 0 0] 82));exact Cp
  ·(refine Al.make _ _ Z Z Z λbs w hb m=>?_);show(x_ _ _).run _ _= .ok (.value (M (O ⟨w.heap.size,0,X⟩))) (w.alloc (C #[V X 0 0] 79));exact Cp
  ·(refine Al.gen _ Z Z Z λbs w L2 hb m=>?_);have ai:(bs 16).bl=[((bs 16).b,C #[Y .u8 0,Y I 0,V X 0 0,Y I 0,Y I 0,U vD,V X 0 0,V X 0 0] 82)]:=hb.at 16 A7 Z Z;simp only[wF,vS,wG,ai,ul,ui] at m;have es:=m.e0;have h2:=AC.setL [Y .u8 y.op,Y I y.to,V b5 y.args.length c5,Y I y.n,Y I y.m,U y.name,V b6 y.go.length c6,V b7 y.w.length c7] 0 m;simp only[TU,vH,vM,vI,Nat.reduceAdd] at h2;have h3:∃d:C2,(d.bl=[((bs 16).b,SB y b5 c5 b6 c6 b7 c7)])/\(undef:V_)=undef/\AC w0 H (d.bl++(L2++((xb,C #[Y I k] 3)::L))) (Ff w (bs 16).b 0 [Y .u8 y.op,Y I y.to,V b5 y.args.length c5,Y I y.n,Y I y.m,U y.name,V b6 y.go.length c6,V b7 y.w.length c7]):=⟨⟨(bs 16).b,0,undef,[((bs 16).b,SB y b5 c5 b6 c6 b7 c7)]⟩,Z,Z,h2⟩;clear h2;refine BU.ofSkip (w':=Ff w (bs 16).b 0 [Y .u8 y.op,Y I y.to,V b5 y.args.length c5,Y I y.n,Y I y.m,U y.name,V b6 y.go.length c6,V b7 y.w.length c7]) ?_ h3;clear h3;simp only[Ff];go_simp
 .intro bs wd hb md;replace md:=AC.like2 mr (bs 17).bl (bs 18).bl md;have af:(bs 16).bl=[((bs 16).b,C #[Y .u8 0,Y I 0,V X 0 0,Y I 0,Y I 0,U vD,V X 0 0,V X 0 0] 82)]:=hb 16 _ _ Z Z;have ad:(bs 17).bl=[((bs 17).b,C #[V X 0 0] 79)]:=hb 17 _ _ Z Z;rw[ad] at md;have aa:(bs 18).bl=[((bs 16).b,SB y b5 c5 b6 c6 b7 c7)]:=hb 18 _ _ Z Z;(try simp only[ul,ui] at md);simp only[ur,uu,Nat.reduceAdd,uy,um,un];clear hb af;rw[aa] at md;simp only[ul,ui] at md;clear aa ad;generalize (bs 16).b=yb at*;generalize (bs 17).b=zb at*;have ms:=md.set (i:=0) (v:= V tb eJ.length tc) .head;have es:=md.e0;go_wp2_with fail;go_ret;exact⟨xb,zb,yb,_,_,_,Z,HI.out,ms.perm (List.Perm.swap _ _ _)⟩
variable {P:Program}
theorem Za (b:Option Addr) (n c:Nat) (hc:n<=c) (aa:c<=maxLen) (w:W_):K_ uh 234 #[V b n c] w λe w'=>e= .returned (V b n n)/\w=w':=by have ad:=A9 aa;go_enter func234,ntmps234;go_wp2_with fail;go_ret;exact⟨Z,Z⟩
theorem KW (t ty e:T_) (i:TypeInfo) (z:V_) (size bytes:Nat) (ht:P.underlying t=O (.slice e)) (hi:P.info? e=O i) (hz:i.zero=O z) (ae:i.size=size) (ak:i.bytes=bytes) (ai:z.cells.size=size) (b:Addr) (n cap:Nat) (aa:List V_) (ah:aa.length=n*size) (holds:∀j u,aa[j]?=O u->w.cell? (b.add j)=O u) (a:Addr) (m c:Nat) (news:List V_) (hl:news.length=m*size) (af:∀j u,news[j]?=O u->w.cell? (a.add j)=O u) (hg:cap<n+m) (h63:n+m<=maxLen) (ad:(n+m)*bytes<=140737488355328) (hm:AC w0 H L w):∃v' w',(Builtin.append_ #[t,t] ty #[.slice (O b) n cap,.slice (O a) m c]).run P w= .ok v' w'/\AP w0 H L e size v' (n+m) (aa++news) w':=by
 subst ae;subst ak;have ag:n+m<=9223372036854775807:=(by simp only[maxLen] at h63;omega);have nC:(aa++news).length=(n+m)*i.size:=(by rw[wj,ah,hl,Nat.add_mul]);have hr:=run_append_grow (P:=P) w t ty e i z ht hi hz b n cap aa ah holds a m c news hl af hg A0 (growslice_fits hg ad);have hge:=grownCap_ge w (n+m) cap e;have aj:grownCap w (n+m) cap e<=maxLen:=grownCap_le_maxLen w (n+m) cap e h63;refine⟨_,_,hr,AP.row (hm.drew.alloc _) hge aj ?_ ?_⟩
 .simp only[Array.size_append,vv,size_zeroCells,ai,ah,hl,<-Nat.add_mul];congr 1;omega
 .simp only[Array.toList_append,vY];rw[<-vY,<-nC];exact List.take_left
variable {F:Fence} {H':Hp} {Q:Exit->Act->World->Prop} {W:World} {c n:Nat}
def B7 (y:Av):List Int:=if y.to<0 then [] else [y.to]
def Gp:Kc Av:=⟨3,λH cs y=>∃tv mv,cs=[Y I y.at',tv,mv]/\EH y.at'/\AX AY H tv y.t/\AX AY H mv (B7 y),λhl ⟨a,b,h1,h2,h3,h4⟩=>⟨a,b,h1,h2,h3.mono hl,h4.mono hl⟩,λ⟨a,b,h1,_⟩=>by rw[h1];rfl⟩
theorem AX.getStep {b:Option Addr} {xs:List Av} (h:AX Gp H (V b n c) xs) {x:Av} (hi:xs[i]?=O x):∃lu off tv mv,b=O ⟨lu,off,X⟩/\Bm H lu (off+i*3) (Y I x.at')/\Bm H lu (off+i*3+1) tv/\Bm H lu (off+i*3+2) mv/\EH x.at'/\AX AY H tv x.t/\AX AY H mv (B7 x):=by obtain⟨hl,rfl⟩:=wl.1 hi;obtain⟨b',c',hv,_,_,_,hc⟩:=h;cases hv;obtain⟨lu,off,cs,e1,e2,e3⟩:=hc i hl;obtain⟨tv,mv,rfl,e4,e5,e6⟩:=e2;exact⟨lu,off,tv,mv,e1,e3 0 _ Z,e3 1 _ Z,e3 2 _ Z,e4,e5,e6⟩
def Dh:List (Av×V_×V_)->List V_
 |[]=>[]
 |y::l=> Y I y.1.at'::y.2.1::y.2.2::Dh l
theorem JR (l l':List (Av×V_×V_)):Dh (l++l')=Dh l++Dh l':=by
 induction l with
 |nil=>rfl
 |cons y l ih=>simp[Dh,ih]
def IC (H:Hp) (y:Av×V_×V_):Prop:=EH y.1.at'/\AX AY H y.2.1 y.1.t/\AX AY H y.2.2 (B7 y.1)
theorem IC.mono {y:Av×V_×V_} (h:IC H y) (hl:Bl H H'):IC H' y:=⟨h.1,h.2.1.mono hl,h.2.2.mono hl⟩
theorem Jc {H:Hp}:∀(l:List (Av×V_×V_)),(∀y∈l,IC H y)->Ai Gp H (Dh l) (l.map vN)
 |[],_=> .nil
 |y::l,h=>by
  have h1:=h y (.head _)
  have hr:Gp.rep H [Y I y.1.at',y.2.1,y.2.2] y.1:=⟨y.2.1,y.2.2,Z,h1.1,h1.2.1,h1.2.2⟩
  exact Ai.cons hr Z (Jc l λz hz=>h z (.tail _ hz))
theorem DT {H:Hp}:∀(l:List (Av×V_×V_)),(∀y∈l,IC H y)->∀u∈Dh l,u.oneCell'=B
 |[],_=>λu hu=>by cases hu
 |y::l,h=>by
  intro u hu
  have h1:=h y (.head _)
  obtain⟨_,_,h2,_⟩:=h1.2.1
  obtain⟨_,_,h3,_⟩:=h1.2.2
  simp only[Dh,vP] at hu
  rcases hu with rfl|rfl|rfl|hu
  .rfl
  .rw[h2];rfl
  .rw[h3];rfl
  .exact DT l (λz hz=>h z (.tail _ hz)) u hu
def NN (w0:W_) (H:Hp) (L:List (Nat×Obj)) (ys:List Av) (v:V_) (w:W_):Prop:=∃H1,Bl H H1/\AX Gp H1 v ys/\AC w0 H1 L w
theorem NN.of {H1:Hp} {v:V_} {l:List (Av×V_×V_)} {ys:List Av} (h:AP w0 H1 L 250 3 v l.length (Dh l) w) (hH:Bl H H1) (hl:∀y∈l,IC H1 y) (hy:l.map vN=ys):NN w0 H L ys v w:=by subst hy;obtain⟨H',m,h1,h2⟩:=h.done (Jc l hl) Z (by simp);exact⟨H',hH.trans h1,h2,m⟩
theorem Jy {a b:Int} {t:List Int} (h:0<=b):B7 ⟨a,b,t⟩=[b]:=by unfold B7;simp only;rw[n_ A0]
structure Bu.StepFit (i:Bu):Prop where
 to:i.op=65\/i.op=67->0<=i.to
 way:∀w∈i.w,(w.kind=2->0<=w.to)/\(w.kind≠2->w.to= -1)
def QG (p:Prop):Prop:=p
theorem QG.mk {p:Prop} (h:p):QG p:=h
theorem Ko (n:Nat) {ops:Array Oper} {c:Code} {a:Act} (h:QG ((Code.region n ops G).wpIn Fence.wide 1 P (Exit.then (λa w=>c.wp P Q a w) Q) a w)):((Code.region n ops G).seq c).wp P Q a w:=wp_seq (wpIn_wide.1 h)
theorem mx {c:Code} {a:Act} (m:AC w0 H L w) (h:∀W,AC w0 H L W->c.wpIn F n P Q a W):c.wpIn F n P Q a w:=h w m
def qU (y:Bu) (k:Nat) (eJ:List Int) (j:Nat) (H1:Hp) (x:V_):Prop:=∃s tv mv,(B6 y k eJ)[j]?=O s/\x= .agg #[Y I s.at',tv,mv]/\EH s.at'/\AX AY H1 tv s.t/\AX AY H1 mv (B7 s)
theorem Vf (tb:Option Addr) (tc:Nat) (eJ:List Int) (k:Int) (HT:AX AY H (V tb eJ.length tc) eJ) (hl:eJ.length<=4096) (a:Nat) (m:AC w0 H ((a,C #[Y I k] 3)::L) w):∃v' w',(Builtin.append_ #[79,79] 79 #[V tb eJ.length eJ.length,V (O ⟨a,0,X⟩) 1 1]).run uh w= .ok v' w'/\AP w0 H L 3 1 v' (eJ.length+1) (eJ.map (Y I)++[Y I k]) w':=by
 obtain⟨ii,i1,i2,i3,i4⟩:=info_parts (P:=uh) (e:=3) (z:= Y I 0) (size:=1) (bytes:=8) A7;obtain⟨news,hch,lM⟩:=HT.src m;obtain⟨lU,ad⟩:=Id hch;have hS:Fr w (V (O ⟨a,0,X⟩) 1 1) 1 [Y I k]:=Fr.loc (cs:=[Y I k]) m (.head _)
 cases tb with
 |none=>obtain⟨b,c,hv,h1,h2,h3,_⟩:=HT;cases hv;have h0:eJ.length=0:=(by have:=h3 Z;omega);have ht:eJ=[]:=wm h0;subst ht;obtain⟨v',w',hr,kF⟩:=Bn (P:=uh) 79 79 3 ii (Y I 0) 1 8 underlying79 i1 i2 i3 i4 Z AD (.slice X 0 0) 0 [] (AP.nil m) (V (O ⟨a,0,X⟩) 1 1) 1 [Y I k] hS Z Fu A0 CJ;exact⟨v',w',hr,kF.drop⟩
 |some b=>
  have holds:∀j u,(eJ.map (Y I))[j]?=O u->w.cell? (b.add j)=O u:=by
   rcases lM with ⟨h,_⟩|⟨a',c',h,hc⟩
   .cases h
   .cases h;rw[<-lU];exact hc
  have aa:∀j u,([Y I k]:List V_)[j]?=O u->w.cell? ((⟨a,0,X⟩:Addr).add j)=O u:=by
   rcases hS with ⟨h,_⟩|⟨a',c',h,hc⟩
   .cases h
   .cases h;exact hc
  obtain⟨v',w',hr,kF⟩:=KW (P:=uh) 79 79 3 ii (Y I 0) 1 8 underlying79 i1 i2 i3 i4 Z b eJ.length eJ.length (eJ.map (Y I)) (by simp) holds ⟨a,0,X⟩ 1 1 [Y I k] Z aa A0 CJ A0 m;exact⟨v',w',hr,kF.drop⟩
def jH (w0:W_) (H:Hp) (LB:List (Nat×Obj)) (l:Nat) (ys:List Av) (a:Act) (w:W_):Prop:=a.defers=[]/\a.tmps.size=152/\a.tmps[0]?=O (.func (.yield l) #[] #[])/\∃v,a.tmps[5]?=O v/\NN w0 H LB ys v w
def U3 (w0:W_) (H:Hp) (n:Nat) (RB' Rx':Nat->Hp->List (Nat×Obj)->Prop) (e:E_) (W':W_):Prop:=(∃v,e= .returned v)/\∃k' H' LH' LB'',Bl H H'/\AC w0 H' (LH'++LB'') W'/\((RB' k' H' LB''/\k'=n)\/(∃k'',Rx' k'' H' LB''))
noncomputable def gV:Code:=(f233.body).getD .skip
theorem Qt {LB:List (Nat×Obj)} (y:Bu) (k:Nat) (eJ:List Int) (l:Nat) (ad ak:Nat->Hp->List (Nat×Obj)->Prop) (hY:KJ uh l w0 (qU y k eJ) ad ak) (aa:∀k H1 H2 LB,Bl H1 H2->ad k H1 LB->ad k H2 LB) (ar:ad 0 H LB) (nC:(B6 y k eJ).length<=4):∀a W,jH w0 H LB l (B6 y k eJ) a W->LK uh (bodyPost uh f233 (U3 w0 H (B6 y k eJ).length ad ak)) ((CN gV).drop 4) (bodyPost uh f233 (U3 w0 H (B6 y k eJ).length ad ak) .normal) a W:=by
 have HY:=A5 hY;have ba:=A5 aa;clear hY aa;rintro a W ⟨aq,lC,a0,v,a5,H1,mN,hsl,m⟩;have az:=A5 (show ∀j s,(B6 y k eJ)[j]?=O s->∀H' tv mv,EH s.at'->AX AY H' tv s.t->AX AY H' mv (B7 s)->qU y k eJ j H' (.agg #[Y I s.at',tv,mv]) from λj s hs H' tv mv h1 h2 h3=>⟨s,tv,mv,hs,Z,h1,h2,h3⟩);have HSL:=A5 hsl;obtain⟨q,lc,rfl,-,ao,-⟩:=hsl;have ao:=A9 ao;have af:=ba.out 0 H H1 LB mN ar;generalize B6 y (k:Int) eJ=ys at*;have HLE:=A5 mN;clear mN ar;obtain⟨tm,df⟩:=a;simp only at aq lC a0 a5;subst aq;obtain⟨u,hu⟩:=Ii tm lC;simp only[ut,List.range.loop,wH] at hu;subst hu;clear lC;replace a0:u 0= .func (.yield l) #[] #[]:=Option.some.inj a0;replace a5:u 5= V q ys.length lc:=Option.some.inj a5;generalize u 0=z0 at a0⊢;generalize u 5=z5 at a5⊢;subst a0;subst a5;simp only[gV,f233,vh,CN,vY,ul,ui,um,un,vW,vj];have bb:(ys.length:Int)<=4:=A0;intro K1 bd;go_wp2_with fail;intro K2 bc;go_wp2_with fail;(go_loopw [143] (λi wr=>∃(j:Nat) (H2:Hp) (ag:List (Nat×Obj)),j<=ys.length/\i= Y I j/\Hid (Bl H1 H2)/\Hid (ad j H2 ag)/\AC w0 H2 ag wr) (λi _=>ys.length-(intOf i).toNat));case atStart=>exact⟨0,H1,LB,uz _,Z,A5 (Bl.refl _),A5 af,m⟩
 case round=>
  clear m af;obtain⟨j,H2,ag,hj,rfl,HLE2,av,mk⟩:=hrel;by_cases lg:j<ys.length
  .have lJ:(j:Int)<ys.length:=A0;have hx:=uq lg;obtain⟨lu,off,tv,mv,rfl,e0,e1,e2,ay,ah,hfm⟩:=(HSL.out.mono HLE2.out).getStep hx;have HRA:=A5 (az.out j _ hx H2 tv mv ay ah hfm);generalize ys[j]=s at*;have aw:=ah;have ax:=hfm;obtain⟨tb,tc,rfl,-,-,-⟩:=aw;obtain⟨mb,mc,rfl,-,-,-⟩:=ax;have bh:=A5 ah;have bj:=A5 hfm;clear ah hfm hx;have e0:=e0.cell mk;have e1:=e1.cell mk;have e2:=e2.cell mk;have m4:=mk.alloc (C #[Y I s.at',V tb s.t.length tc,V mb (B7 s).length mc] 250);have es:=m4.e0;(iterate 60 (first|(refine Ko 34 ?_)|go_values|go_skip|go_guarded|go_step|go_upon|go_back|(simp only[Int.not_lt,Int.not_le] at*;go_simp)|skip));refine QG.mk ?_;refine mx m4 ?_;clear es m4 mk e0 e1 e2;intro WY mW;obtain⟨fn,tmps,bg,bf,hy,hR⟩:=HY.out 0 j H2 [(wr.heap.size,C #[Y I s.at',V tb s.t.length tc,V mb (B7 s).length mc] 250)] ag WY _ HRA.out av.out mW;have es:=mW.e0;gi_wp2;refine hR.mono ?_;rintro e W9 ⟨H9,au,ae,an,(⟨rfl,aj⟩|⟨rfl,ai⟩)⟩
   .gi_wp2;go_wp2_with fail;go_roundw;(case rel=>exact⟨j+1,H9,au,by omega,by go_num,A5 (HLE2.out.trans ae),A5 aj,an.drop⟩);case measure=>exact BW
   .gi_wp2;go_wp2_with fail;go_end0;exact⟨⟨_,Z⟩,0,H9,_,au,HLE.out.trans (HLE2.out.trans ae),an,.inr ⟨_,ai⟩⟩
  .have hge:¬(j:Int)<ys.length:=A0;go_wp2_with fail;go_end0;exact⟨⟨_,Z⟩,j,H2,[],ag,HLE.out.trans HLE2.out,mk,.inl ⟨av.out,by omega⟩⟩
theorem X9 (y:Bu) (k:Nat) (eJ:List Int) (tv va vg vw:V_) (p1 p2 p3:Nat) (l:Nat) (hk:k<=2000) (ht:eJ.length<=4096) (eb:y.w.length<=4) (cv:y.op=61\/y.op=62\/y.op=63\/y.op=65\/y.op=67->0<y.go.length) (cu:y.op=62\/y.op=63\/y.op=65->1<y.go.length) (cp:y.StepFit) {LB:List (Nat×Obj)} (av bq:Nat->Hp->List (Nat×Obj)->Prop) (hY:KJ uh l w0 (qU y k eJ) av bq) (ak:∀k H1 H2 LB,Bl H1 H2->av k H1 LB->av k H2 LB) (cw:av 0 H LB) (m:AC w0 H ((p3,EC y va vg vw)::(p2,C #[tv] 79)::(p1,C #[Y I k] 3)::LB) W) (hi:Gj H y va vg vw) (cm:AX AY H tv eJ):K_ uh 233 #[.func (.yield l) #[] #[],M (O ⟨p1,0,X⟩),M (O ⟨p2,0,X⟩),M (O ⟨p3,0,X⟩)] W (U3 w0 H (B6 y k eJ).length av bq):=by
 have nC:(B6 y k eJ).length<=4:=(by unfold B6;(repeat' split);(all_goals simp);all_goals omega);have bb:=A5 (Qt y k eJ l av bq hY ak cw nC);clear hY ak cw nC;have HT:=A5 cm;have br:=A5 cp;have ah:=A5 cv;have aw:=A5 cu;clear cv cu cp;obtain⟨tb,tc,rfl,dn,bo,-⟩:=cm;have cz:=A5 (And.intro dn bo);have bo:=A9 bo;have HI:=A5 hi;obtain⟨b5,c5,b6,c6,b7,c7,rfl,rfl,rfl,l5,l6,l7⟩:=hi.shapes;clear hi;obtain⟨op,to,args,n,mm,name,go,ways⟩:=y;simp only at*;have ar:EH to:=HI.out.1.to;have ec:IntKind.i64.wrap ((k:Int)+1)=(k:Int)+1:=IntWalk.i64_in _ A0;have m1:=m.alloc (C #[Y I ((k:Int)+1),V tb eJ.length tc,V X 0 0] 250);have es:=m.e6;generalize dw:W.heap.size=nb at*;clear m;go_enter func233,ntmps233;refine TS (De 4) (jH w0 H LB l (B6 ⟨op,to,args,n,mm,name,go,ways⟩ k eJ)) ?_ bb.out;intro K key;simp only[CN,vY,ul,ui,um,un,vW,vj];intro K1 ek;go_wp2_with fail;intro K2 ej;go_wp2_with fail;intro K3 hK3;refine EA (F:=λw'=>Code.wp _ _ _ _ w') m1 ?_;clear es m1 dw;intro wr mr;have es:=mr.e6;go_wp2_with fail;intro K4 hK4;by_cases oo:op=21
 .skip;have ag:((op:Int)==21)=true:=B8;exact tX
 have ck:=oo;clear oo;by_cases oo:op=69
 .skip;have ag:((op:Int)==21)=false:=bF A0;have ai:((op:Int)==69)=true:=B8;exact tX
 have bw:=oo;clear oo;by_cases oo:op=70
 .skip;have ag:((op:Int)==21)=false:=bF A0;have ai:((op:Int)==69)=false:=bF A0;have aj:((op:Int)==70)=true:=B8;exact tX
 have bu:=oo;clear oo;by_cases oo:op=61
 .skip;obtain⟨x0,g0,go0,hx0,rfl,e0,hf0⟩:=HI.out.2.2.1.getID (ah.out B8);rw[vp] at e0;have E0:=A5 e0;clear e0;have bg:0<go.length:=ah.out B8;have bh:(0:Int)<go.length:=A0;have ag:((op:Int)==21)=false:=bF A0;have ai:((op:Int)==69)=false:=bF A0;have aj:((op:Int)==70)=false:=bF A0;have an:((op:Int)==61)=true:=B8;have OO:=A5 oo;have X0:=A5 hx0;clear oo hx0;go_wp2_with fail;refine EA (F:=λw'=>Code.wp _ _ _ _ w') mr ?_;clear es mr;intro wq mq;refine B1 mq [VK (V X 0 0),VK (M (O ⟨p3,6,X⟩)),VK (V (O ⟨g0,go0,X⟩) go.length c6),VK (M (O ⟨g0,go0,X⟩)),VK (Y I x0),VK (V tb eJ.length tc),VK (.agg #[Y I x0,(V tb eJ.length tc),V X 0 0]),⟨[7],λzb=> V (O ⟨(zb.getD 0 Ax).b,0,X⟩) 1 1,O ([],[],λzb d=>d.bl=[(d.b,C #[Y I x0,(V tb eJ.length tc),V X 0 0] 250)]),G⟩] (nf 7++[B]) ?_ ?_
  .refine⟨DZ,DZ,DZ,DZ,DZ,DZ,DZ,?_,trivial⟩
   ·(refine Al.make _ _ Z Z Z λbs w hb m=>?_);show(x_ _ _).run _ _= .ok (.value (V (O ⟨w.heap.size,0,X⟩) 1 1)) (w.alloc (C #[Y I x0,(V tb eJ.length tc),V X 0 0] 250));exact PO
  .intro bs wd hb md;replace md:=AC.like1 mq (bs 7).bl md;have dj:(bs 7).bl=[((bs 7).b,C #[Y I x0,(V tb eJ.length tc),V X 0 0] 250)]:=hb 7 _ _ Z Z;rw[dj] at md;(try simp only[ul,ui] at md);simp only[ur,uu,Nat.reduceAdd,uy,um,un];have hnx:Hid (∀y∈([(⟨x0,(-1),eJ⟩,(V tb eJ.length tc),V X 0 0)]:List (Av×V_×V_)),IC H y):=A5 (by intro y hy;simp only[vP,wI,or_false] at hy;subst hy;exact⟨hf0,HT.out,AX.nil _ _⟩);go_wp2_with (at_builtin;refine AG (w0:=w0) (H:=H) Z _ _ 251 Z 250 3 56 (.agg #[Y I 0,V X 0 0,V X 0 0]) underlying251 A7 Z AD _ 0 [] (AP.nil md) Z _ 1 (Dh [(⟨x0,(-1),eJ⟩,(V tb eJ.length tc),V X 0 0)]) (Fr.loc (cs:=Dh [(⟨x0,(-1),eJ⟩,(V tb eJ.length tc),V X 0 0)]) md (.head _)) Z Z (DT (H:=H) _ hnx.out) A0 CJ ?_);intro v' w' kF;(try simp only[vQ,ui] at kF);clear md;obtain⟨pb,pc,rfl,-,-⟩:=kF.shape;go_wp2_with fail;simp only[LK];exact key _ _ ⟨Z,Z,Z,_,Z,NN.of (l:=[(⟨x0,(-1),eJ⟩,(V tb eJ.length tc),V X 0 0)]) kF.drop.drop.drop.drop.drop (Bl.refl _) hnx.out Z2⟩
 have cj:=oo;clear oo;by_cases oo:op=62
 .skip;obtain⟨x0,g0,go0,hx0,rfl,e0,hf0⟩:=HI.out.2.2.1.getID (ah.out B8);obtain⟨x1,g1,go1,hx1,ba,e1,hf1⟩:=HI.out.2.2.1.getID (aw.out B8);cases ba;rw[vp] at e0;have E0:=A5 e0;clear e0;have bg:0<go.length:=ah.out B8;have bh:(0:Int)<go.length:=A0;have cq:1<go.length:=aw.out B8;have cr:(1:Int)<go.length:=A0;have E1:=A5 e1;clear e1;have ag:((op:Int)==21)=false:=bF A0;have ai:((op:Int)==69)=false:=bF A0;have aj:((op:Int)==70)=false:=bF A0;have an:((op:Int)==61)=false:=bF A0;have au:((op:Int)==62)=true:=B8;exact ud
 have ch:=oo;clear oo;by_cases oo:op=63
 .skip;obtain⟨x0,g0,go0,hx0,rfl,e0,hf0⟩:=HI.out.2.2.1.getID (ah.out B8);obtain⟨x1,g1,go1,hx1,ba,e1,hf1⟩:=HI.out.2.2.1.getID (aw.out B8);cases ba;rw[vp] at e0;have E0:=A5 e0;clear e0;have bg:0<go.length:=ah.out B8;have bh:(0:Int)<go.length:=A0;have cq:1<go.length:=aw.out B8;have cr:(1:Int)<go.length:=A0;have E1:=A5 e1;clear e1;have ag:((op:Int)==21)=false:=bF A0;have ai:((op:Int)==69)=false:=bF A0;have aj:((op:Int)==70)=false:=bF A0;have an:((op:Int)==61)=false:=bF A0;have au:((op:Int)==62)=false:=bF A0;have ax:((op:Int)==63)=true:=B8;exact ud
 have cg:=oo;clear oo;by_cases oo:op=65
 .skip;obtain⟨x0,g0,go0,hx0,rfl,e0,hf0⟩:=HI.out.2.2.1.getID (ah.out B8);obtain⟨x1,g1,go1,hx1,ba,e1,hf1⟩:=HI.out.2.2.1.getID (aw.out B8);cases ba;rw[vp] at e0;have E0:=A5 e0;clear e0;have bg:0<go.length:=ah.out B8;have bh:(0:Int)<go.length:=A0;have cq:1<go.length:=aw.out B8;have cr:(1:Int)<go.length:=A0;have E1:=A5 e1;clear e1;have ag:((op:Int)==21)=false:=bF A0;have ai:((op:Int)==69)=false:=bF A0;have aj:((op:Int)==70)=false:=bF A0;have an:((op:Int)==61)=false:=bF A0;have au:((op:Int)==62)=false:=bF A0;have ax:((op:Int)==63)=false:=bF A0;have bf:((op:Int)==65)=true:=B8;have OO:=A5 oo;have X0:=A5 hx0;clear oo hx0;have X1:=A5 hx1;clear hx1;go_wp2_with fail;refine EA (F:=λw'=>Code.wp _ _ _ _ w') mr ?_;clear es mr;intro wq mq;refine B1 mq [VK (V X 0 0),VK (M (O ⟨p3,6,X⟩)),VK (V (O ⟨g0,go0,X⟩) go.length c6),VK (M (O ⟨g0,go0,X⟩)),VK (Y I x0),VK (V tb eJ.length tc),VK (M (O ⟨p3,1,X⟩)),VK (Y I to),⟨[8],λzb=> V (O ⟨(zb.getD 0 Ax).b,0,X⟩) 1 1,O ([],[],λzb d=>d.bl=[(d.b,C #[Y I to] 3)]),G⟩,⟨[8],λzb=> .agg #[Y I x0,(V tb eJ.length tc),(V (O ⟨(zb.getD 0 Ax).b,0,X⟩) 1 1)],X,G⟩,VK (M (O ⟨p3,6,X⟩)),VK (V (O ⟨g0,go0,X⟩) go.length c6),VK (M (O ⟨g0,go0+1,X⟩)),VK (Y I x1),VK (V tb eJ.length tc),VK (.agg #[Y I x1,(V tb eJ.length tc),V X 0 0]),⟨[16],λzb=> V (O ⟨(zb.getD 0 Ax).b,0,X⟩) 2 2,O ([],[8],λzb d=>d.bl=[(d.b,C #[Y I x0,(V tb eJ.length tc),(V (O ⟨(zb.getD 0 Ax).b,0,X⟩) 1 1),Y I x1,(V tb eJ.length tc),V X 0 0] 250)]),G⟩] (nf 8++[B]++nf 7++[B]) ?_ ?_
  .refine⟨Gk,Gk,Gk,Gk,Gk,Gk,Gk,Gk,?_,?_,Gk,Gk,Gk,Gk,Gk,Gk,?_,trivial⟩
   ·(refine Al.make _ _ Z Z Z λbs w hb m=>?_);show(x_ _ _).run _ _= .ok (.value (V (O ⟨w.heap.size,0,X⟩) 1 1)) (w.alloc (C #[Y I to] 3));exact Xz
   ·(refine Al.val Z Z Z λbs w hb m=>?_);show(x_ _ _).run _ _= .ok (.value (.agg #[Y I x0,(V tb eJ.length tc),(V (O ⟨(bs 8).b,0,X⟩) 1 1)])) w;exact Xz
   ·(refine Al.make _ _ Z Z Z λbs w hb m=>?_);show(x_ _ _).run _ _= .ok (.value (V (O ⟨w.heap.size,0,X⟩) 2 2)) (w.alloc (C #[Y I x0,(V tb eJ.length tc),(V (O ⟨(bs 8).b,0,X⟩) 1 1),Y I x1,(V tb eJ.length tc),V X 0 0] 250));exact Xz
  .intro bs wd hb md;replace md:=AC.like2 mq (bs 8).bl (bs 16).bl md;have dh:(bs 8).bl=[((bs 8).b,C #[Y I to] 3)]:=hb 8 _ _ Z Z;rw[dh] at md;have bm:(bs 16).bl=[((bs 16).b,C #[Y I x0,(V tb eJ.length tc),(V (O ⟨(bs 8).b,0,X⟩) 1 1),Y I x1,(V tb eJ.length tc),V X 0 0] 250)]:=hb 16 _ _ Z Z;rw[bm] at md;(try simp only[ul,ui] at md);simp only[ur,uu,Nat.reduceAdd,uy,um,un];obtain⟨H8,m8,aa,h8⟩:=AC.lit (E:=AY) (ys:=[to]) (cs:=[Y I to]) md (Cv [to] (λz hz=>by rw[uj.1 hz];exact ar)) Tv;have h8:AX AY H8 (V (O ⟨(bs 8).b,0,X⟩) 1 1) [to]:=h8;clear md;have md:=m8;have ae:0<=to:=br.out.to (by rw[OO.out];simp);have hnx:Hid (∀y∈([(⟨x0,to,eJ⟩,(V tb eJ.length tc),(V (O ⟨(bs 8).b,0,X⟩) 1 1)),(⟨x1,(-1),eJ⟩,(V tb eJ.length tc),V X 0 0)]:List (Av×V_×V_)),IC H8 y):=A5 (by intro y hy;simp only[vP,wI,or_false] at hy;rcases hy with rfl|rfl<;>first|exact⟨hf0,HT.out.mono aa,by rw[Jy ae];exact h8⟩|exact⟨hf1,HT.out.mono aa,AX.nil _ _⟩);go_wp2_with (at_builtin;refine AG (w0:=w0) (H:=H8) Z _ _ 251 Z 250 3 56 (.agg #[Y I 0,V X 0 0,V X 0 0]) underlying251 A7 Z AD _ 0 [] (AP.nil md) Z _ 2 (Dh [(⟨x0,to,eJ⟩,(V tb eJ.length tc),(V (O ⟨(bs 8).b,0,X⟩) 1 1)),(⟨x1,(-1),eJ⟩,(V tb eJ.length tc),V X 0 0)]) (Fr.loc (cs:=Dh [(⟨x0,to,eJ⟩,(V tb eJ.length tc),(V (O ⟨(bs 8).b,0,X⟩) 1 1)),(⟨x1,(-1),eJ⟩,(V tb eJ.length tc),V X 0 0)]) md (.head _)) Z Z (DT (H:=H8) _ hnx.out) A0 CJ ?_);intro v' w' kF;(try simp only[vQ,ui] at kF);clear md;obtain⟨pb,pc,rfl,-,-⟩:=kF.shape;go_wp2_with fail;simp only[LK];exact key _ _ ⟨Z,Z,Z,_,Z,NN.of (l:=[(⟨x0,to,eJ⟩,(V tb eJ.length tc),(V (O ⟨(bs 8).b,0,X⟩) 1 1)),(⟨x1,(-1),eJ⟩,(V tb eJ.length tc),V X 0 0)]) kF.drop.drop.drop.drop.drop (aa) hnx.out Yl⟩
 have cd:=oo;clear oo;by_cases oo:op=66
 .skip;have ag:((op:Int)==21)=false:=bF A0;have ai:((op:Int)==69)=false:=bF A0;have aj:((op:Int)==70)=false:=bF A0;have an:((op:Int)==61)=false:=bF A0;have au:((op:Int)==62)=false:=bF A0;have ax:((op:Int)==63)=false:=bF A0;have bf:((op:Int)==65)=false:=bF A0;have bj:((op:Int)==66)=true:=B8;have OO:=A5 oo;clear oo;go_wp2_with fail;(go_loopw [5,87] (λv5 v87 wr=>∃(j:Nat) (l:List (Av×V_×V_)) (H1:Hp) (L3:List (Nat×Obj)),j<=ways.length/\v87= Y I j/\Hid (l.map vN=(ways.take j).map λw=>(⟨w.go,w.to,eJ⟩:Av))/\Hid (Bl H H1)/\Hid (∀z∈l,IC H1 z)/\Hid (Ba 250 3 v5 l.length (Dh l) L3)/\AC w0 H1 ((nb,C #[Y I ((k:Int)+1),(V tb eJ.length tc),V X 0 0] 250)::(p3,S8 op to args n mm name go ways b5 c5 b6 c6 b7 c7)::(p2,C #[(V tb eJ.length tc)] 79)::(p1,C #[Y I (k:Int)] 3)::(L3++LB)) wr) (λ_ v87 _=>ways.length-(intOf v87).toNat));case atStart=>exact⟨0,[],H,[],uz _,Z,A5 Z,A5 (Bl.refl _),A5 (λ_ h=>by cases h),A5 Ba.nil,mr⟩
  case round=>
   clear mr es;obtain⟨j,l,H1,L3,hj,rfl,HL,ad,HN,HO,mk⟩:=hrel;obtain⟨pb,pc,rfl,eh,eg⟩:=HO.out.shape;by_cases lg:j<ways.length
   .have lJ:(j:Int)<ways.length:=A0;have hx:=uq lg;have cy:=A5 (br.out.way _ (vE lg));obtain⟨w7,o7,rfl,d0,d1,d2,d3,d4,lz⟩:=(HI.out.2.2.2.mono ad.out).getWay hx;have HTK:=A5 (show(ways.take (j+1)).map (λw=>(⟨w.go,w.to,eJ⟩:Av))=(ways.take j).map (λw=>(⟨w.go,w.to,eJ⟩:Av))++[⟨ways[j].go,ways[j].to,eJ⟩] by rw[wN lg,vx];rfl);have ei:l.length<=4:=(by have h:=congrArg List.length HL.out;rw[wJ,wJ,wg] at h;omega);clear hx;generalize ways[j]=z at*;have d0:=d0.cell mk;have d1:=d1.cell mk;have d2:=d2.cell mk;have d3:=d3.cell mk;have d4:=d4.cell mk;by_cases az:z.kind=2
    .have KK:=A5 az;have dx:((z.kind:Int)==2)=true:=(by simp[az]);clear az;have m4:=mk.alloc (C #[Y .u8 z.kind,Y I z.chan,Y I z.value,Y I z.to,Y I z.go] 198);have m5:=m4.alloc (C #[Y I z.go,(V tb eJ.length tc),(V (O ⟨wr.heap.size+1+1,0,X⟩) 1 1)] 250);simp only[vG] at m5;have m6:=m5.alloc (C #[Y I z.to] 3);simp only[vG] at m6;have m7:=m6.alloc (C #[Y I z.go,(V tb eJ.length tc),(V (O ⟨wr.heap.size+1+1,0,X⟩) 1 1)] 250);simp only[vG] at m7;obtain⟨H8,m8,aa,h8⟩:=AC.lit (E:=AY) (ys:=[z.to]) (cs:=[Y I z.to]) ((m7.perm Ah:AC _ _ ((wr.heap.size+1+1,C #[Y I z.to] 3)::(wr.heap.size+1+1+1,C #[Y I z.go,(V tb eJ.length tc),(V (O ⟨wr.heap.size+1+1,0,X⟩) 1 1)] 250)::(wr.heap.size+1,C #[Y I z.go,(V tb eJ.length tc),(V (O ⟨wr.heap.size+1+1,0,X⟩) 1 1)] 250)::(wr.heap.size,C #[Y .u8 z.kind,Y I z.chan,Y I z.value,Y I z.to,Y I z.go] 198)::(nb,C #[Y I ((k:Int)+1),(V tb eJ.length tc),V X 0 0] 250)::(p3,S8 op to args n mm name go ways b5 c5 b6 c6 (O ⟨w7,o7,X⟩) c7)::(p2,C #[(V tb eJ.length tc)] 79)::(p1,C #[Y I (k:Int)] 3)::(L3++LB)) _)) (Cv [z.to] (λq hq=>by rw[uj.1 hq];exact lz.to)) Tv;have h8:AX AY H8 (V (O ⟨wr.heap.size+1+1,0,X⟩) 1 1) [z.to]:=h8;have ae:0<=z.to:=cy.out.1 KK.out;have ao:AX AY H8 (V (O ⟨wr.heap.size+1+1,0,X⟩) 1 1) (B7 ⟨z.go,z.to,eJ⟩):=(by rw[Jy ae];exact h8);have ay:z.to=z.to:=Z;have hnx:Hid (∀y∈([(⟨z.go,z.to,eJ⟩,(V tb eJ.length tc),(V (O ⟨wr.heap.size+1+1,0,X⟩) 1 1))]:List (Av×V_×V_)),IC H8 y):=A5 rh;have dz:=A5 ao;clear ao;have m9:=(m8.perm Ah:AC _ _ (L3++((wr.heap.size+1+1+1,C #[Y I z.go,(V tb eJ.length tc),(V (O ⟨wr.heap.size+1+1,0,X⟩) 1 1)] 250)::(wr.heap.size+1,C #[Y I z.go,(V tb eJ.length tc),(V (O ⟨wr.heap.size+1+1,0,X⟩) 1 1)] 250)::(wr.heap.size,C #[Y .u8 z.kind,Y I z.chan,Y I z.value,Y I z.to,Y I z.go] 198)::(nb,C #[Y I ((k:Int)+1),(V tb eJ.length tc),V X 0 0] 250)::(p3,S8 op to args n mm name go ways b5 c5 b6 c6 (O ⟨w7,o7,X⟩) c7)::(p2,C #[(V tb eJ.length tc)] 79)::(p1,C #[Y I (k:Int)] 3)::LB)) _);have es:=mk.e6;have cx:=A5 ay;have af:=A5 aa;clear ay aa mk m4 m5 m6 m7 h8;go_wp2_with (at_builtin;refine AG (w0:=w0) (H:=H8) (L:=(wr.heap.size+1+1+1,C #[Y I z.go,(V tb eJ.length tc),(V (O ⟨wr.heap.size+1+1,0,X⟩) 1 1)] 250)::(wr.heap.size+1,C #[Y I z.go,(V tb eJ.length tc),(V (O ⟨wr.heap.size+1+1,0,X⟩) 1 1)] 250)::(wr.heap.size,C #[Y .u8 z.kind,Y I z.chan,Y I z.value,Y I z.to,Y I z.go] 198)::(nb,C #[Y I ((k:Int)+1),(V tb eJ.length tc),V X 0 0] 250)::(p3,S8 op to args n mm name go ways b5 c5 b6 c6 (O ⟨w7,o7,X⟩) c7)::(p2,C #[(V tb eJ.length tc)] 79)::(p1,C #[Y I (k:Int)] 3)::LB) Z _ _ 251 Z 250 3 56 (.agg #[Y I 0,V X 0 0,V X 0 0]) underlying251 A7 Z AD (.slice pb l.length pc) l.length (Dh l) (HO.out.join m9) Z _ 1 (Dh [(⟨z.go,z.to,eJ⟩,(V tb eJ.length tc),(V (O ⟨wr.heap.size+1+1,0,X⟩) 1 1))]) (Fr.loc (cs:=Dh [(⟨z.go,z.to,eJ⟩,(V tb eJ.length tc),(V (O ⟨wr.heap.size+1+1,0,X⟩) 1 1))]) m8 (.head _)) Z Z (DT (H:=H8) _ hnx.out) A0 CJ ?_);intro v' w' kF;rw[<-JR] at kF;obtain⟨L5,h5,m10⟩:=kF.drop.drop.drop.split;obtain⟨df,de,rfl,dv,du⟩:=h5.shape;have H5:=A5 h5;clear h5 m8 m9 kF es;go_wp2_with fail;go_roundw;(case rel=>refine⟨j+1,l++[(⟨z.go,z.to,eJ⟩,(V tb eJ.length tc),(V (O ⟨wr.heap.size+1+1,0,X⟩) 1 1))],H8,L5,by omega,by go_num,A5 (by rw[HTK.out,vx,<-HL.out];rfl),A5 (ad.out.trans af.out),A5 (λz hz=>by rcases vU.1 hz with hz|hz;exact(HN.out z hz).mono af.out;exact hnx.out z hz),A5 ju,?_⟩;exact uX);case measure=>exact BW
    .have KK:=A5 az;have dx:((z.kind:Int)==2)=false:=bF A0;clear az;have m4:=mk.alloc (C #[Y .u8 z.kind,Y I z.chan,Y I z.value,Y I z.to,Y I z.go] 198);have m5:=m4.alloc (C #[Y I z.go,(V tb eJ.length tc),V X 0 0] 250);simp only[vG] at m5;have m7:=m5.alloc (C #[Y I z.go,(V tb eJ.length tc),V X 0 0] 250);simp only[vG] at m7;have H8:=H1;have m8:=m7;have aa:Bl H1 H1:=Bl.refl _;have ao:AX AY H1 (V X 0 0) (B7 ⟨z.go,-1,eJ⟩):=AX.nil _ _;have ay:z.to= -1:=cy.out.2 KK.out;have hnx:Hid (∀y∈([(⟨z.go,(-1),eJ⟩,(V tb eJ.length tc),V X 0 0)]:List (Av×V_×V_)),IC H1 y):=A5 rh;have dz:=A5 ao;clear ao;have m9:=(m8.perm Ah:AC _ _ (L3++((wr.heap.size+1+1,C #[Y I z.go,(V tb eJ.length tc),V X 0 0] 250)::(wr.heap.size+1,C #[Y I z.go,(V tb eJ.length tc),V X 0 0] 250)::(wr.heap.size,C #[Y .u8 z.kind,Y I z.chan,Y I z.value,Y I z.to,Y I z.go] 198)::(nb,C #[Y I ((k:Int)+1),(V tb eJ.length tc),V X 0 0] 250)::(p3,S8 op to args n mm name go ways b5 c5 b6 c6 (O ⟨w7,o7,X⟩) c7)::(p2,C #[(V tb eJ.length tc)] 79)::(p1,C #[Y I (k:Int)] 3)::LB)) _);have es:=mk.e6;have cx:=A5 ay;have af:=A5 aa;clear ay aa mk m4 m5 m7;go_wp2_with (at_builtin;refine AG (w0:=w0) (H:=H1) (L:=(wr.heap.size+1+1,C #[Y I z.go,(V tb eJ.length tc),V X 0 0] 250)::(wr.heap.size+1,C #[Y I z.go,(V tb eJ.length tc),V X 0 0] 250)::(wr.heap.size,C #[Y .u8 z.kind,Y I z.chan,Y I z.value,Y I z.to,Y I z.go] 198)::(nb,C #[Y I ((k:Int)+1),(V tb eJ.length tc),V X 0 0] 250)::(p3,S8 op to args n mm name go ways b5 c5 b6 c6 (O ⟨w7,o7,X⟩) c7)::(p2,C #[(V tb eJ.length tc)] 79)::(p1,C #[Y I (k:Int)] 3)::LB) Z _ _ 251 Z 250 3 56 (.agg #[Y I 0,V X 0 0,V X 0 0]) underlying251 A7 Z AD (.slice pb l.length pc) l.length (Dh l) (HO.out.join m9) Z _ 1 (Dh [(⟨z.go,(-1),eJ⟩,(V tb eJ.length tc),V X 0 0)]) (Fr.loc (cs:=Dh [(⟨z.go,(-1),eJ⟩,(V tb eJ.length tc),V X 0 0)]) m8 (.head _)) Z Z (DT (H:=H1) _ hnx.out) A0 CJ ?_);intro v' w' kF;rw[<-JR] at kF;obtain⟨L5,h5,m10⟩:=kF.drop.drop.drop.split;obtain⟨df,de,rfl,dv,du⟩:=h5.shape;have H5:=A5 h5;clear h5 m8 m9 kF es;go_wp2_with fail;go_roundw;(case rel=>refine⟨j+1,l++[(⟨z.go,(-1),eJ⟩,(V tb eJ.length tc),V X 0 0)],H1,L5,by omega,by go_num,A5 (by rw[HTK.out,vx,<-HL.out,cx.out];rfl),A5 (ad.out.trans af.out),A5 (λz hz=>by rcases vU.1 hz with hz|hz;exact(HN.out z hz).mono af.out;exact hnx.out z hz),A5 ju,?_⟩;exact uX);case measure=>exact BW
   .have hge:¬(j:Int)<ways.length:=A0;have es:=mk.e6;go_wp2_with fail;simp only[LK];exact key _ _ ⟨Z,Z,Z,_,Z,NN.of (HO.out.join ((mk.perm Ah:AC _ _ (L3++((nb,C #[Y I ((k:Int)+1),(V tb eJ.length tc),V X 0 0] 250)::(p3,S8 op to args n mm name go ways b5 c5 b6 c6 b7 c7)::(p2,C #[(V tb eJ.length tc)] 79)::(p1,C #[Y I (k:Int)] 3)::LB)) _))).drop.drop.drop.drop ad.out HN.out (by rw[HL.out,wO A0];unfold B6;simp only[OO.out];simp)⟩
 have ca:=oo;clear oo;by_cases oo:op=67
 .skip;obtain⟨x0,g0,go0,hx0,rfl,e0,hf0⟩:=HI.out.2.2.1.getID (ah.out B8);rw[vp] at e0;have E0:=A5 e0;clear e0;have bg:0<go.length:=ah.out B8;have bh:(0:Int)<go.length:=A0;have ag:((op:Int)==21)=false:=bF A0;have ai:((op:Int)==69)=false:=bF A0;have aj:((op:Int)==70)=false:=bF A0;have an:((op:Int)==61)=false:=bF A0;have au:((op:Int)==62)=false:=bF A0;have ax:((op:Int)==63)=false:=bF A0;have bf:((op:Int)==65)=false:=bF A0;have bj:((op:Int)==66)=false:=bF A0;have bt:((op:Int)==67)=true:=B8;have OO:=A5 oo;have X0:=A5 hx0;clear oo hx0;go_wp2_with fail;refine EA (F:=λw'=>Code.wp _ _ _ _ w') mr ?_;clear es mr;intro wq mq;refine B1 mq [VK (V tb eJ.length tc),VK (V tb eJ.length eJ.length),VK (Y I (k:Int)),⟨[3],λzb=> V (O ⟨(zb.getD 0 Ax).b,0,X⟩) 1 1,O ([],[],λzb d=>d.bl=[(d.b,C #[Y I (k:Int)] 3)]),G⟩,⟨[4],λzb=> V (O ⟨(zb.getD 0 Ax).b,0,X⟩) (eJ.length+1) (zb.getD 0 Ax).c,O ([3],[],λzb d=>d.v= V (O ⟨d.b,0,X⟩) (eJ.length+1) d.c/\Ba 3 1 d.v (eJ.length+1) (eJ.map (Y I)++[Y I (k:Int)]) d.bl),G⟩] (nf 4++[B]) ?_ ?_
  .refine⟨DZ,?_,DZ,?_,?_,trivial⟩
   ·(refine Al.call Z Z Z λbs w L2 hb m=>?_);refine BU.ofCall (f:=234) (args:=#[V tb eJ.length tc]) Br ?_;refine(Za tb eJ.length tc cz.out.1 cz.out.2 w).mono ?_;rintro e w2 ⟨rfl,rfl⟩;exact⟨_,Z,Z,m⟩
   ·(refine Al.make _ _ Z Z Z λbs w hb m=>?_);show(x_ _ _).run _ _= .ok (.value (V (O ⟨w.heap.size,0,X⟩) 1 1)) (w.alloc (C #[Y I (k:Int)] 3));exact PO
   ·(refine Al.gen _ Z Z Z λbs w L2 hb m=>?_);have h3:(bs 3).bl=[((bs 3).b,C #[Y I (k:Int)] 3)]:=hb.at 3 A7 Z Z;simp only[wF,vS,wG,h3,ul,ui] at m;obtain⟨v',w',hr,kF⟩:=Vf tb tc eJ (k:Int) HT.out A0 (bs 3).b m;obtain⟨L8,h8,m8⟩:=kF.split;exact eN
  .intro bs wd hb md;replace md:=AC.like1 mq (bs 4).bl md;have dm:(bs 3).bl=[((bs 3).b,C #[Y I (k:Int)] 3)]:=hb 3 _ _ Z Z;have bk:(bs 4).v= V (O ⟨(bs 4).b,0,X⟩) (eJ.length+1) (bs 4).c/\Ba 3 1 (bs 4).v (eJ.length+1) (eJ.map (Y I)++[Y I (k:Int)]) (bs 4).bl:=hb 4 _ _ Z Z;(try simp only[ul,ui] at md);simp only[ur,uu,Nat.reduceAdd,uy,um,un];have bp:EH (k:Int):=(by unfold EH;omega);obtain⟨H7,m7,aq,h7⟩:=(bk.2.join md).done (ys:=eJ++[(k:Int)]) (by have:=Cv (H:=H) (eJ++[(k:Int)]) (λz hz=>by rcases vU.1 hz with hz|hz;exact HT.out.all z hz;rw[uj.1 hz];exact bp);rw[vx] at this;exact this) Z (by simp);rw[bk.1] at h7;clear md hb dm bk;generalize (bs 4).b=g8 at*;generalize (bs 4).c=c8 at*;have dy:=A5 h7;have bd:=A5 aq;have E0:=A5 (E0.out.mono aq);clear h7 aq;have es:=m7.e6;have mr:=m7.set (i:=1) (v:=(V (O ⟨g8,0,X⟩) (eJ.length+1) c8)) .head;simp only[vH,vM,vI] at mr;clear m7;go_wp2_with fail;refine EA (F:=λw'=>Code.wp _ _ _ _ w') mr ?_;clear es mr;intro wq mq;refine B1 mq [VK (V X 0 0),VK (.agg #[Y I ((k:Int)+1),(V (O ⟨g8,0,X⟩) (eJ.length+1) c8),V X 0 0]),VK (M (O ⟨p3,6,X⟩)),VK (V (O ⟨g0,go0,X⟩) go.length c6),VK (M (O ⟨g0,go0,X⟩)),VK (Y I x0),VK (V tb eJ.length tc),VK (M (O ⟨p3,1,X⟩)),VK (Y I to),⟨[9],λzb=> V (O ⟨(zb.getD 0 Ax).b,0,X⟩) 1 1,O ([],[],λzb d=>d.bl=[(d.b,C #[Y I to] 3)]),G⟩,⟨[9],λzb=> .agg #[Y I x0,(V tb eJ.length tc),(V (O ⟨(zb.getD 0 Ax).b,0,X⟩) 1 1)],X,G⟩,⟨[11],λzb=> V (O ⟨(zb.getD 0 Ax).b,0,X⟩) 2 2,O ([],[9],λzb d=>d.bl=[(d.b,C #[Y I ((k:Int)+1),(V (O ⟨g8,0,X⟩) (eJ.length+1) c8),V X 0 0,Y I x0,(V tb eJ.length tc),(V (O ⟨(zb.getD 0 Ax).b,0,X⟩) 1 1)] 250)]),G⟩] (nf 9++[B]++nf 1++[B]) ?_ ?_
   .refine⟨DZ,DZ,DZ,DZ,DZ,DZ,DZ,DZ,DZ,?_,?_,?_,trivial⟩
    ·(refine Al.make _ _ Z Z Z λbs w hb m=>?_);show(x_ _ _).run _ _= .ok (.value (V (O ⟨w.heap.size,0,X⟩) 1 1)) (w.alloc (C #[Y I to] 3));exact PO
    ·(refine Al.val Z Z Z λbs w hb m=>?_);show(x_ _ _).run _ _= .ok (.value (.agg #[Y I x0,(V tb eJ.length tc),(V (O ⟨(bs 9).b,0,X⟩) 1 1)])) w;exact PO
    ·(refine Al.make _ _ Z Z Z λbs w hb m=>?_);show(x_ _ _).run _ _= .ok (.value (V (O ⟨w.heap.size,0,X⟩) 2 2)) (w.alloc (C #[Y I ((k:Int)+1),(V (O ⟨g8,0,X⟩) (eJ.length+1) c8),V X 0 0,Y I x0,(V tb eJ.length tc),(V (O ⟨(bs 9).b,0,X⟩) 1 1)] 250));exact PO
   .intro bs wd hb md;replace md:=AC.like2 mq (bs 9).bl (bs 11).bl md;have dg:(bs 9).bl=[((bs 9).b,C #[Y I to] 3)]:=hb 9 _ _ Z Z;rw[dg] at md;have bn:(bs 11).bl=[((bs 11).b,C #[Y I ((k:Int)+1),(V (O ⟨g8,0,X⟩) (eJ.length+1) c8),V X 0 0,Y I x0,(V tb eJ.length tc),(V (O ⟨(bs 9).b,0,X⟩) 1 1)] 250)]:=hb 11 _ _ Z Z;rw[bn] at md;(try simp only[ul,ui] at md);simp only[ur,uu,Nat.reduceAdd,uy,um,un];obtain⟨H8,m8,aa,h8⟩:=AC.lit (E:=AY) (ys:=[to]) (cs:=[Y I to]) md (Cv [to] (λz hz=>by rw[uj.1 hz];exact ar)) Tv;have h8:AX AY H8 (V (O ⟨(bs 9).b,0,X⟩) 1 1) [to]:=h8;clear md;have md:=m8;have ae:0<=to:=br.out.to (by rw[OO.out];simp);have hnx:Hid (∀y∈([(⟨((k:Int)+1),(-1),(eJ++[(k:Int)])⟩,(V (O ⟨g8,0,X⟩) (eJ.length+1) c8),V X 0 0),(⟨x0,to,eJ⟩,(V tb eJ.length tc),(V (O ⟨(bs 9).b,0,X⟩) 1 1))]:List (Av×V_×V_)),IC H8 y):=A5 (by intro y hy;simp only[vP,wI,or_false] at hy;rcases hy with rfl|rfl<;>first|exact⟨by unfold EH;simp only;omega,dy.out.mono aa,AX.nil _ _⟩|exact⟨hf0,HT.out.mono (bd.out.trans aa),by rw[Jy ae];exact h8⟩);go_wp2_with (at_builtin;refine AG (w0:=w0) (H:=H8) Z _ _ 251 Z 250 3 56 (.agg #[Y I 0,V X 0 0,V X 0 0]) underlying251 A7 Z AD _ 0 [] (AP.nil md) Z _ 2 (Dh [(⟨((k:Int)+1),(-1),(eJ++[(k:Int)])⟩,(V (O ⟨g8,0,X⟩) (eJ.length+1) c8),V X 0 0),(⟨x0,to,eJ⟩,(V tb eJ.length tc),(V (O ⟨(bs 9).b,0,X⟩) 1 1))]) (Fr.loc (cs:=Dh [(⟨((k:Int)+1),(-1),(eJ++[(k:Int)])⟩,(V (O ⟨g8,0,X⟩) (eJ.length+1) c8),V X 0 0),(⟨x0,to,eJ⟩,(V tb eJ.length tc),(V (O ⟨(bs 9).b,0,X⟩) 1 1))]) md (.head _)) Z Z (DT (H:=H8) _ hnx.out) A0 CJ ?_);intro v' w' kF;(try simp only[vQ,ui] at kF);clear md;obtain⟨pb,pc,rfl,-,-⟩:=kF.shape;go_wp2_with fail;simp only[LK];exact key _ _ ⟨Z,Z,Z,_,Z,NN.of (l:=[(⟨((k:Int)+1),(-1),(eJ++[(k:Int)])⟩,(V (O ⟨g8,0,X⟩) (eJ.length+1) c8),V X 0 0),(⟨x0,to,eJ⟩,(V tb eJ.length tc),(V (O ⟨(bs 9).b,0,X⟩) 1 1))]) kF.drop.drop.drop.drop.drop (bd.out.trans aa) hnx.out Z2⟩
 have bz:=oo;clear oo;by_cases oo:op=68
 .skip;have ag:((op:Int)==21)=false:=bF A0;have ai:((op:Int)==69)=false:=bF A0;have aj:((op:Int)==70)=false:=bF A0;have an:((op:Int)==61)=false:=bF A0;have au:((op:Int)==62)=false:=bF A0;have ax:((op:Int)==63)=false:=bF A0;have bf:((op:Int)==65)=false:=bF A0;have bj:((op:Int)==66)=false:=bF A0;have bt:((op:Int)==67)=false:=bF A0;have da:((op:Int)==68)=true:=B8;have OO:=A5 oo;clear oo;have ea:IntKind.i64.wrap ((eJ.length:Int)-1)=(eJ.length:Int)-1:=IntWalk.i64_in _ A0;have N8:B6 ⟨op,to,args,n,mm,name,go,ways⟩ k eJ=[⟨(k:Int)+1,-1,eJ.take (eJ.length-1)⟩]:=ld;have bc:AX AY H (V tb (eJ.length-1) tc) (eJ.take (eJ.length-1)):=HT.out.takeV A0;have N8:=A5 N8;have bc:=A5 bc;by_cases ht1:1<eJ.length
  .have dr:(1:Int)<eJ.length:=A0;have m4:=mr.set (i:=1) (v:=(V tb (eJ.length-1) tc)) .head;simp only[vH,vM,vI] at m4;have m5:=m4.alloc (C #[Y I ((k:Int)+1),(V tb (eJ.length-1) tc),V X 0 0] 250);simp only[wV] at m5;have hnx:Hid (∀y∈([(⟨((k:Int)+1),(-1),(eJ.take (eJ.length-1))⟩,(V tb (eJ.length-1) tc),V X 0 0)]:List (Av×V_×V_)),IC H y):=A5 rm;go_wp2_with (at_builtin;refine AG (w0:=w0) (H:=H) Z _ _ 251 Z 250 3 56 (.agg #[Y I 0,V X 0 0,V X 0 0]) underlying251 A7 Z AD _ 0 [] (AP.nil m5) Z _ 1 (Dh [(⟨((k:Int)+1),(-1),(eJ.take (eJ.length-1))⟩,(V tb (eJ.length-1) tc),V X 0 0)]) (Fr.loc (cs:=Dh [(⟨((k:Int)+1),(-1),(eJ.take (eJ.length-1))⟩,(V tb (eJ.length-1) tc),V X 0 0)]) m5 (.head _)) Z Z (DT (H:=H) _ hnx.out) A0 CJ ?_);intro v' w' kF;(try simp only[vQ,ui] at kF);clear m5 m4;obtain⟨pb,pc,rfl,-,-⟩:=kF.shape;go_wp2_with fail;simp only[LK];exact key _ _ ⟨Z,Z,Z,_,Z,NN.of (l:=[(⟨((k:Int)+1),(-1),(eJ.take (eJ.length-1))⟩,(V tb (eJ.length-1) tc),V X 0 0)]) kF.drop.drop.drop.drop.drop (Bl.refl _) hnx.out (by rw[N8.out];rfl)⟩
  .have dt:eJ.length-1=0:=A0;have ee:¬(1:Int)<eJ.length:=A0;rw[dt] at bc N8;have m4:=mr.set (i:=1) (v:=(V tb 0 tc)) .head;simp only[vH,vM,vI] at m4;have m5:=m4.alloc (C #[Y I ((k:Int)+1),(V tb 0 tc),V X 0 0] 250);simp only[wV] at m5;have hnx:Hid (∀y∈([(⟨((k:Int)+1),(-1),(eJ.take 0)⟩,(V tb 0 tc),V X 0 0)]:List (Av×V_×V_)),IC H y):=A5 rm;go_wp2_with (at_builtin;refine AG (w0:=w0) (H:=H) Z _ _ 251 Z 250 3 56 (.agg #[Y I 0,V X 0 0,V X 0 0]) underlying251 A7 Z AD _ 0 [] (AP.nil m5) Z _ 1 (Dh [(⟨((k:Int)+1),(-1),(eJ.take 0)⟩,(V tb 0 tc),V X 0 0)]) (Fr.loc (cs:=Dh [(⟨((k:Int)+1),(-1),(eJ.take 0)⟩,(V tb 0 tc),V X 0 0)]) m5 (.head _)) Z Z (DT (H:=H) _ hnx.out) A0 CJ ?_);intro v' w' kF;(try simp only[vQ,ui] at kF);clear m5 m4;obtain⟨pb,pc,rfl,-,-⟩:=kF.shape;go_wp2_with fail;simp only[LK];exact key _ _ ⟨Z,Z,Z,_,Z,NN.of (l:=[(⟨((k:Int)+1),(-1),(eJ.take 0)⟩,(V tb 0 tc),V X 0 0)]) kF.drop.drop.drop.drop.drop (Bl.refl _) hnx.out (by rw[N8.out];rfl)⟩
 have bx:=oo;clear oo;have ag:((op:Int)==21)=false:=bF A0;have ai:((op:Int)==69)=false:=bF A0;have aj:((op:Int)==70)=false:=bF A0;have an:((op:Int)==61)=false:=bF A0;have au:((op:Int)==62)=false:=bF A0;have ax:((op:Int)==63)=false:=bF A0;have bf:((op:Int)==65)=false:=bF A0;have bj:((op:Int)==66)=false:=bF A0;have bt:((op:Int)==67)=false:=bF A0;have da:((op:Int)==68)=false:=bF A0;have N9:=A5 (show B6 ⟨op,to,args,n,mm,name,go,ways⟩ k eJ=[⟨(k:Int)+1,to,eJ⟩] by unfold B6;simp[ck,bw,bu,cj,ch,cg,cd,ca,bz,bx]);clear ck bw bu cj ch cg cd ca bz bx;by_cases cn:0<=to
 .have m4:=mr.set (i:=2) (v:=(V (O ⟨wr.heap.size,0,X⟩) 1 1)) .head;simp only[vH,vM,vI] at m4;have m5:=m4.alloc (C #[Y I to] 3);simp only[wV] at m5;have m6:=m5.alloc (C #[Y I ((k:Int)+1),(V tb eJ.length tc),(V (O ⟨wr.heap.size,0,X⟩) 1 1)] 250);simp only[vG,wV] at m6;obtain⟨H8,m8,aa,h8⟩:=AC.lit (E:=AY) (ys:=[to]) (cs:=[Y I to]) (m6.perm (List.Perm.swap _ _ _)) (Cv [to] (λq hq=>by rw[uj.1 hq];exact ar)) Tv;have h8:AX AY H8 (V (O ⟨wr.heap.size,0,X⟩) 1 1) [to]:=h8;have hnx:Hid (∀y∈([(⟨((k:Int)+1),to,eJ⟩,(V tb eJ.length tc),(V (O ⟨wr.heap.size,0,X⟩) 1 1))]:List (Av×V_×V_)),IC H8 y):=A5 (by intro y hy;rw[uj.1 hy];exact⟨by unfold EH;simp only;omega,HT.out.mono aa,by rw[Jy cn];exact h8⟩);clear m4 m5 m6 h8;go_wp2_with (at_builtin;refine AG (w0:=w0) (H:=H8) Z _ _ 251 Z 250 3 56 (.agg #[Y I 0,V X 0 0,V X 0 0]) underlying251 A7 Z AD _ 0 [] (AP.nil m8) Z _ 1 (Dh [(⟨((k:Int)+1),to,eJ⟩,(V tb eJ.length tc),(V (O ⟨wr.heap.size,0,X⟩) 1 1))]) (Fr.loc (cs:=Dh [(⟨((k:Int)+1),to,eJ⟩,(V tb eJ.length tc),(V (O ⟨wr.heap.size,0,X⟩) 1 1))]) m8 (.head _)) Z Z (DT (H:=H8) _ hnx.out) A0 CJ ?_);intro v' w' kF;(try simp only[vQ,ui] at kF);clear m8;obtain⟨pb,pc,rfl,-,-⟩:=kF.shape;go_wp2_with fail;simp only[LK];exact key _ _ ⟨Z,Z,Z,_,Z,NN.of (l:=[(⟨((k:Int)+1),to,eJ⟩,(V tb eJ.length tc),(V (O ⟨wr.heap.size,0,X⟩) 1 1))]) kF.drop.drop.drop.drop.drop (aa) hnx.out (by rw[N9.out];rfl)⟩
 .have ed:=A5 cn;have m5:=mr.alloc (C #[Y I ((k:Int)+1),(V tb eJ.length tc),V X 0 0] 250);have hnx:Hid (∀y∈([(⟨((k:Int)+1),to,eJ⟩,(V tb eJ.length tc),V X 0 0)]:List (Av×V_×V_)),IC H y):=A5 (by intro y hy;rw[uj.1 hy];exact⟨by unfold EH;simp only;omega,HT.out,by unfold B7;rw[p_ (by simp only;omega)];exact AX.nil _ _⟩);go_wp2_with (at_builtin;refine AG (w0:=w0) (H:=H) Z _ _ 251 Z 250 3 56 (.agg #[Y I 0,V X 0 0,V X 0 0]) underlying251 A7 Z AD _ 0 [] (AP.nil m5) Z _ 1 (Dh [(⟨((k:Int)+1),to,eJ⟩,(V tb eJ.length tc),V X 0 0)]) (Fr.loc (cs:=Dh [(⟨((k:Int)+1),to,eJ⟩,(V tb eJ.length tc),V X 0 0)]) m5 (.head _)) Z Z (DT (H:=H) _ hnx.out) A0 CJ ?_);intro v' w' kF;(try simp only[vQ,ui] at kF);clear m5;obtain⟨pb,pc,rfl,-,-⟩:=kF.shape;go_wp2_with fail;simp only[LK];exact key _ _ ⟨Z,Z,Z,_,Z,NN.of (l:=[(⟨((k:Int)+1),to,eJ⟩,(V tb eJ.length tc),V X 0 0)]) kF.drop.drop.drop.drop.drop (Bl.refl _) hnx.out (by rw[N9.out];rfl)⟩
variable {mV:Nat} {rows:List CA} {y:Av}
def W4.zero:W4:=⟨0,0,0,0⟩
def CA.setK (r:CA) (x:W4):CA:=⟨r.e,r.tv,x⟩
def CA.zero:CA:=⟨G,V X 0 0,W4.zero⟩
def BJ (rows:List CA) (k:Nat):CA:=rows.getD k CA.zero
theorem Dv (h:k<rows.length):rows[k]?=O (BJ rows k):=by unfold BJ;rw[vB,uq h];rfl
theorem I9 {r:CA} (h:rows[k]?=O r):BJ rows k=r:=by unfold BJ;rw[vB,h];rfl
theorem FE {a:Nat} (h:a<rows.length) (r:CA) (k:Nat):BJ (rows.set a r) k=if k=a then r else BJ rows k:=C4 rows a k r _ h
def J1 (k:Nat) (rows:List CA) (y:Av):W4:=(BJ rows y.at'.toNat).kn.and' ((BJ rows k).kn.with' (B7 y))
def C5 (k:Nat) (rows:List CA) (y:Av):List CA:=rows.set y.at'.toNat (CA.setK (BJ rows y.at'.toNat) (J1 k rows y))
def CS (c:AF) (fin:ES) (rows:List CA) (k:Nat):List CA:=if fin.e.getD k G=B then (CU c k (fin.t.getD k [])).foldl (C5 k) rows else rows
def GL (c:AF) (fin:ES) (rows:List CA):List CA:=(ut c.i.length).foldl (CS c fin) rows
def W4.sum (x:W4):Nat:=x.a+x.b+x.c+x.d
def Ra (rows:List CA):Nat:=(rows.map λr=>r.kn.sum).sum
theorem W4.and_lt (x y:W4) (h:x.and' y≠x):(x.and' y).sum<x.sum:=by have h1:=vX (n:=x.a) (m:=y.a);have h2:=vX (n:=x.b) (m:=y.b);have h3:=vX (n:=x.c) (m:=y.c);have h4:=vX (n:=x.d) (m:=y.d);have h5:¬(x.a&&&y.a=x.a/\x.b&&&y.b=x.b/\x.c&&&y.c=x.c/\x.d&&&y.d=x.d):=(by rintro⟨e1,e2,e3,e4⟩;apply h;unfold W4.and';rw[e1,e2,e3,e4]);unfold W4.sum W4.and';simp only;omega
theorem Yd:∀(l:List Nat) (k v:Nat),k<l.length->(l.set k v).sum+l.getD k 0=l.sum+v
 |[],k,v,h=>by simp at h
 |x::l,0,v,h=>by simp;omega
 |x::l,k+1,v,h=>by
  have ih:=Yd l k v CE
  simp at ih⊢
  omega
theorem gC {a:Nat} (h:a<rows.length) (r:CA):Ra (rows.set a r)+(BJ rows a).kn.sum=Ra rows+r.kn.sum:=by unfold Ra;rw[List.map_set];have:=Yd (rows.map λr=>r.kn.sum) a r.kn.sum CE;rw[vB,wE,Dv h] at this;exact this
def Ce (rows rows':List CA):Prop:=rows'.length=rows.length/\∀k,(BJ rows' k).e=(BJ rows k).e/\(BJ rows' k).tv=(BJ rows k).tv
theorem Ce.refl (rows:List CA):Ce rows rows:=⟨Z,λ_=>⟨Z,Z⟩⟩
theorem Ce.trans {a b c:List CA} (h:Ce a b) (h':Ce b c):Ce a c:=⟨h'.1.trans h.1,λk=>⟨(h'.2 k).1.trans (h.2 k).1,(h'.2 k).2.trans (h.2 k).2⟩⟩
theorem Ce.set (rows:List CA) (a:Nat) (x:W4):Ce rows (rows.set a (CA.setK (BJ rows a) (x))):=by
 refine⟨by simp,λk=>?_⟩;by_cases ha:a<rows.length
 .rw[FE ha];split
  .rename_i e;subst e;exact⟨Z,Z⟩
  .exact⟨Z,Z⟩
 .rw[wo A0];exact⟨Z,Z⟩
def Jf (rows:List CA):Prop:=∀k,(BJ rows k).kn.fit
theorem W4.fit_zero:W4.zero.fit:=⟨by decide,by decide,by decide,by decide⟩
theorem Jf.set (h:Jf rows) (a:Nat) {r:CA} (hr:r.kn.fit):Jf (rows.set a r):=by
 intro k;by_cases ha:a<rows.length
 .rw[FE ha];split
  .exact hr
  .exact h k
 .rw[wo A0];exact h k
theorem RX (k:Nat) (rows:List CA) (y:Av):Ce rows (C5 k rows y):=Ce.set rows _ _
theorem U4 (h:Jf rows) (k:Nat) (y:Av):Jf (C5 k rows y):=h.set _ (W4.fit_and (h _))
def Gw (R0 R:List CA) (ch:Bool):Prop:=(ch=G/\R=R0)\/(ch=B/\Ra R<Ra R0)
theorem Gw.start (R:List CA):Gw R R false:= .inl ⟨Z,Z⟩
theorem Gw.more {R0 R:List CA} {ch:Bool} (h:Gw R0 R ch) (hy:y.at'.toNat<R.length) (hg:J1 k R y≠(BJ R y.at'.toNat).kn):Gw R0 (C5 k R y) true:=by
 have h1:=gC hy (CA.setK (BJ R y.at'.toNat) (J1 k R y));have h2:=W4.and_lt _ _ hg;have h3:Ra (C5 k R y)<Ra R:=(by unfold C5;have h4:(CA.setK (BJ R y.at'.toNat) (J1 k R y)).kn=J1 k R y:=Z;rw[h4] at h1;have h5:(J1 k R y).sum<(BJ R y.at'.toNat).kn.sum:=h2;omega);rcases h with ⟨_,rfl⟩|⟨_,h⟩
 .exact .inr ⟨Z,h3⟩
 .exact .inr ⟨Z,by omega⟩
theorem RC {R:List CA} (hg:J1 k R y=(BJ R y.at'.toNat).kn):C5 k R y=R:=by
 unfold C5;rw[hg];by_cases ha:y.at'.toNat<R.length
 .have h1:=Dv ha;(refine we λi=>?_);by_cases e:y.at'.toNat=i
  .subst e;rw[wM ha,h1];rfl
  .rw[vt e]
 .exact wo A0
structure Dc (n mV:Nat) (rows:List CA) (K:List (List Bool)):Prop where
 len:rows.length=n
 fit:EB n mV K
 bit:∀k r,k<n->r<mV->(BJ rows k).kn.has r=(K.getD k []).getD r G
theorem Pm (h: -1<=y.to/\y.to<mV) (hr:mV<=250):∀r∈B7 y,0<=r/\r<256:=by
 intro r hm;unfold B7 at hm;split at hm
 .cases hm
 .rw[uj.1 hm];omega
theorem aG (h: -1<=y.to) (r:Nat):((B7 y).any λq=>T (q=(r:Int)))=T (y.to=(r:Int)):=by
 unfold B7;split
 .rw[xG,f_ A0]
 .rw[x9,xG,wX]
theorem Dc.spread1 {K:List (List Bool)} (h:Dc n mV rows K) (hr:mV<=250) (hk:k<n) (hy:y.at'.toNat<n) (ht: -1<=y.to/\y.to<mV):Dc n mV (C5 k rows y) (GB mV k K y):=by
 refine⟨by unfold C5;rw[wK];exact h.len,No h.fit,λj r hj hrr=>?_⟩;unfold C5 Go.Proofs.YtbioklhoolkhkacGreat.GB;rw[FE (by rw[h.len];exact hy),C4 _ _ _ _ _ (by rw[h.fit.len];exact hy)];by_cases e:j=y.at'.toNat
 .rw[p_ e,p_ e];rw[vB (l:=wH _ _),wE,wt hrr];simp only[xH,vh];unfold J1;show((BJ rows y.at'.toNat).kn.and' ((BJ rows k).kn.with' (B7 y))).has r=_;rw[W4.has_and,W4.has_with _ (Pm ht hr) A0,h.bit _ _ hy hrr,h.bit _ _ hk hrr,aG ht.1]
 .rw[n_ e,n_ e];exact h.bit j r hj hrr
theorem Dc.spreads {n mV:Nat} (hr:mV<=250) {k:Nat} (hk:k<n):∀(l:List Av) {rows:List CA} {K:List (List Bool)},Dc n mV rows K->(∀y∈l,y.at'.toNat<n/\ -1<=y.to/\y.to<mV)->Dc n mV (l.foldl (C5 k) rows) (l.foldl (Go.Proofs.YtbioklhoolkhkacGreat.GB mV k) K)
 |[],_,_,h,_=>h
 |y::l,_,_,h,hl=>Dc.spreads hr hk l (h.spread1 hr hk (hl y (.head _)).1 (hl y (.head _)).2) λz hz=>hl z (.tail _ hz)
theorem Dc.spreadAt {c:AF} {fin:ES} (hr:mV<=250) (hl:∀k,k<n->∀y∈CU c k (fin.t.getD k []),y.at'.toNat<n/\ -1<=y.to/\y.to<mV) {K:List (List Bool)} (h:Dc n mV rows K) (hk:k<n):Dc n mV (CS c fin rows k) (Go.Proofs.YtbioklhoolkhkacGreat.FO c fin mV K k):=by
 unfold CS Go.Proofs.YtbioklhoolkhkacGreat.FO;split
 .exact Dc.spreads hr hk _ h (hl k hk)
 .exact h
theorem Dc.sweepN {c:AF} {fin:ES} (hr:mV<=250) (hl:∀k,k<n->∀y∈CU c k (fin.t.getD k []),y.at'.toNat<n/\ -1<=y.to/\y.to<mV) {K:List (List Bool)} (h:Dc n mV rows K):∀k,k<=n->Dc n mV ((ut k).foldl (CS c fin) rows) ((ut k).foldl (Go.Proofs.YtbioklhoolkhkacGreat.FO c fin mV) K):=by
 intro k
 induction k with
 |zero=>exact λ_=>h
 |succ k ih=>intro hk;rw[wu,vm,vm];exact(ih A0).spreadAt hr hl A0
theorem Dc.eq {n mV:Nat} {rows:List CA} {K K':List (List Bool)} (h:Dc n mV rows K) (h':Dc n mV rows K'):K=K':=
 V9 h.fit h'.fit λx q hx hq=>(h.bit x q hx hq).symm.trans (h'.bit x q hx hq)
theorem YK {c:AF} {R0 R:List CA} (hreg:c.g.toNat=mV) (hr:mV<=250) (hl:∀k,k<c.i.length->∀y∈CU c k ((AB c).t.getD k []),y.at'.toNat<c.i.length/\ -1<=y.to/\y.to<mV) (h0:Dc c.i.length mV R0 (Fb c mV)) (m:Nat) (hs:R=Ct (GL c (AB c)) m R0) (aa:GL c (AB c) R=R):∃K,G8 c K/\Dc c.i.length mV R K:=by
 subst hs
 have key:∀j,j<=m->Dc c.i.length mV (Ct (GL c (AB c)) j R0) (Ct (Jo c (AB c) mV) j (Fb c mV)):=by
  intro j
  induction j with
  |zero=>exact λ_=>h0
  |succ j ih=>intro hj;rw[F4 _ j 1,F4 _ j 1];exact Dc.sweepN hr hl (ih A0) _ (vy _)
 have hm:=key m (vy _);refine⟨_,⟨m,by rw[hreg],?_⟩,hm⟩;have h2:Dc c.i.length mV (Ct (GL c (AB c)) m R0) (Jo c (AB c) mV (Ct (Jo c (AB c) mV) m (Fb c mV))):=(by have:=Dc.sweepN hr hl hm _ (vy _);have e:(ut c.i.length).foldl (CS c (AB c)) (Ct (GL c (AB c)) m R0)=Ct (GL c (AB c)) m R0:=aa;rw[e] at this;exact this);rw[hreg];exact h2.eq hm
variable {b:Nat} {o:Oper} {t:TypeId} {ρ:Operand->Value}
abbrev CQ (fvs:List V_):Obj:= C fvs.toArray 251
theorem M8:∀(l:List CA) (a:Nat) (r:CA) (x:W4),l[a]?=O r->TU (Dx l).toArray (a*6+2) x.vs=(Dx (l.set a (CA.setK (r) (x)))).toArray:=by
 intro l a r x h
 have key:∀(l:List CA) (a:Nat),l[a]?=O r->((((Dx l).set (a*6+2) (Y .u64 (x.a:Int))).set (a*6+3) (Y .u64 (x.b:Int))).set (a*6+4) (Y .u64 (x.c:Int))).set (a*6+5) (Y .u64 (x.d:Int))=Dx (l.set a (CA.setK (r) (x))):=by
  intro l
  induction l with
  |nil=>intro a h;simp at h
  |cons r' l ih=>
   intro a h
   cases a with
   |zero=>simp only[wT,Option.some.injEq] at h;subst h;simp[Dx,CA.cs,CA.setK]
   |succ a=>have ih:=ih a CE;simp only[vI,Dx];rw[<-ih];(have e:∀j,(a+1)*6+j=r'.cs.length+(a*6+j):=λj=>by simp[CA.cs];omega);rw[e,e,e,e];exact j7
 simp only[W4.vs,TU,vH];rw[key l a h]
instance:DecidableEq W4:=λx y=>if h:x.a=y.a/\x.b=y.b/\x.c=y.c/\x.d=y.d then isTrue (by obtain⟨a,b,c,d⟩:=x;obtain⟨a',b',c',d'⟩:=y;simp only at h;obtain⟨rfl,rfl,rfl,rfl⟩:=h;rfl) else isFalse λe=>h (by rw[e];exact⟨Z,Z,Z,Z⟩)
theorem Iy (xs ys:Array V_) (i:Nat) (is:List Nat) (x y:Int) (w:W_) (hx:xs[i*1]?=O (Y .u64 x)) (hy:ys[i*1]?=O (Y .u64 y)):(wv 9999 238 1 xs ys (i::is)).run uh w=if x==y then (wv 9999 238 1 xs ys is).run uh w else .ok G w:=by have he:Tryz.prog.plainKey 238=true:=A7;have h1:=run_equalIn_int (P:=uh) w 9998 238 .u64 .u64 x y underlying238;simp only[wv,Sem.run_bind,run_part_plain w he hx,run_part_plain w he hy,Result.andThen_ok];rw[show(9999:Nat)=9998+1 from Z,h1];cases h:x==y<;>simp
theorem UQ (x y:W4) (w:W_):(Op.equalIn 10000 240 x.v y.v).run uh w= .ok (T (x=y)) w:=by
 obtain⟨xa,xb,xc,xd⟩:=x;obtain⟨ya,yb,yc,yd⟩:=y
 obtain⟨i,hi⟩:∃i,Tryz.prog.info? 238=O i:=by
  cases h:Tryz.prog.info? 238 with
  |none=>exact a_ (show(Tryz.prog.info? 238).isSome=B by kernel_rfl) (by rw[h];simp)
  |some i=>exact⟨i,Z⟩
 have hc:Tryz.prog.cellsOf 238=1:=A7;show(Op.equalIn (9999+1) 240 (.agg #[Y .u64 (xa:Int),Y .u64 (xb:Int),Y .u64 (xc:Int),Y .u64 (xd:Int)]) (.agg #[Y .u64 (ya:Int),Y .u64 (yb:Int),Y .u64 (yc:Int),Y .u64 (yd:Int)])).run uh w=_;rw[run_equalIn_array w 9999 _ _ underlying240 hi,hc,show ut 4=[0,1,2,3] from Z,Iy _ _ 0 _ xa ya w Z Z,Iy _ _ 1 _ xb yb w Z Z,Iy _ _ 2 _ xc yc w Z Z,Iy _ _ 3 _ xd yd w Z Z];have hs:T ((⟨xa,xb,xc,xd⟩:W4)=⟨ya,yb,yc,yd⟩)=(((xa:Int)==ya)&&(((xb:Int)==yb)&&(((xc:Int)==yc)&&((xd:Int)==yd)))):=(by rw[vL];simp only[decide_eq_true_eq,uv,beq_iff_eq,W4.mk.injEq];omega);rw[hs];cases ((xa:Int)==ya)
 .rfl
 cases ((xb:Int)==yb)
 .rfl
 cases ((xc:Int)==yc)
 .rfl
 cases ((xd:Int)==yd)
 .rfl
 .rfl
theorem AC.drop2 {p q r:Nat×Obj} (m:AC w0 H (p::q::r::L) w):AC w0 H (p::L) w:=((m.perm Ah:AC _ _ (q::r::p::L) _)).drop.drop
theorem Hr {c:Array V_} (m:AC w0 H ((b,C c t (0,0))::L) w) (h:i<c.size):(∃u,w.cell? ⟨b,i,X⟩=O u)/\w.frozen? ⟨b,i,X⟩=false:=by have hm:=(m.loc _ (.head _)).1;exact⟨⟨c[i],by rw[AU hm];exact wP h⟩,Bx hm i⟩
theorem pF {c:Array V_} (m:AC w0 H ((b,C c t (0,0))::L) w) (h:i+3<c.size) (v0 v1 v2:V_):∃u0 u1 u2 u3,(w.cell? ⟨b,i,X⟩=O u0/\w.frozen? ⟨b,i,X⟩=G)/\((w.setCell ⟨b,i,X⟩ v0).cell? ⟨b,i+1,X⟩=O u1/\(w.setCell ⟨b,i,X⟩ v0).frozen? ⟨b,i+1,X⟩=G)/\(((w.setCell ⟨b,i,X⟩ v0).setCell ⟨b,i+1,X⟩ v1).cell? ⟨b,i+2,X⟩=O u2/\((w.setCell ⟨b,i,X⟩ v0).setCell ⟨b,i+1,X⟩ v1).frozen? ⟨b,i+2,X⟩=G)/\((((w.setCell ⟨b,i,X⟩ v0).setCell ⟨b,i+1,X⟩ v1).setCell ⟨b,i+2,X⟩ v2).cell? ⟨b,i+3,X⟩=O u3/\(((w.setCell ⟨b,i,X⟩ v0).setCell ⟨b,i+1,X⟩ v1).setCell ⟨b,i+2,X⟩ v2).frozen? ⟨b,i+3,X⟩=G):=by have m1:=m.set (i:=i) (v:=v0) .head;have m2:=m1.set (i:=i+1) (v:=v1) .head;have m3:=m2.set (i:=i+2) (v:=v2) .head;obtain⟨⟨u0,a0⟩,b0⟩:=Hr (i:=i) m A0;obtain⟨⟨u1,a1⟩,b1⟩:=Hr (i:=i+1) m1 BL;obtain⟨⟨u2,a2⟩,b2⟩:=Hr (i:=i+2) m2 BL;obtain⟨⟨u3,a3⟩,b3⟩:=Hr (i:=i+3) m3 BL;exact⟨u0,u1,u2,u3,⟨a0,b0⟩,⟨a1,b1⟩,⟨a2,b2⟩,⟨a3,b3⟩⟩
theorem Qp {p x:O_} (y:W4) (ho:o.op= .store 240 p x) (hp:ρ p= M (O ⟨b,i,X⟩)) (hx:ρ x=y.v) (u0 u1 u2 u3:V_) (c0:w.cell? ⟨b,i,X⟩=O u0) (f0:w.frozen? ⟨b,i,X⟩=G) (c1:(w.setCell ⟨b,i,X⟩ (Y .u64 (y.a:Int))).cell? ⟨b,i+1,X⟩=O u1) (f1:(w.setCell ⟨b,i,X⟩ (Y .u64 (y.a:Int))).frozen? ⟨b,i+1,X⟩=G) (c2:((w.setCell ⟨b,i,X⟩ (Y .u64 (y.a:Int))).setCell ⟨b,i+1,X⟩ (Y .u64 (y.b:Int))).cell? ⟨b,i+2,X⟩=O u2) (f2:((w.setCell ⟨b,i,X⟩ (Y .u64 (y.a:Int))).setCell ⟨b,i+1,X⟩ (Y .u64 (y.b:Int))).frozen? ⟨b,i+2,X⟩=G) (c3:(((w.setCell ⟨b,i,X⟩ (Y .u64 (y.a:Int))).setCell ⟨b,i+1,X⟩ (Y .u64 (y.b:Int))).setCell ⟨b,i+2,X⟩ (Y .u64 (y.c:Int))).cell? ⟨b,i+3,X⟩=O u3) (f3:(((w.setCell ⟨b,i,X⟩ (Y .u64 (y.a:Int))).setCell ⟨b,i+1,X⟩ (Y .u64 (y.b:Int))).setCell ⟨b,i+2,X⟩ (Y .u64 (y.c:Int))).frozen? ⟨b,i+3,X⟩=G):(x_ ρ o).run uh w= .ok .skip (Ff w b i y.vs):=by unfold W4.v at hx;unfold W4.vs;simp only[Ff];unfold x_;simp only[ho,hp,hx];go_simp
theorem EI {ops:Array Oper} {rest:List Oper} {a:Act} {c:Array V_} {p x:O_} (y:W4) (aa:o.guard=X) (ho:o.op= .store 240 p x) (hp:a.eval p= M (O ⟨b,i,X⟩)) (hx:a.eval x=y.v) (m:AC w0 H ((b,C c t (0,0))::L) w) (hi:i+3<c.size) (h:wpList uh ops Q rest (a.put o.dst undef) (Ff w b i y.vs)):wpList uh ops Q (o::rest) a w:=by(refine wpList_plain aa λK hK=>?_);obtain⟨u0,u1,u2,u3,⟨c0,f0⟩,⟨c1,f1⟩,⟨c2,f2⟩,⟨c3,f3⟩⟩:=pF m hi (Y .u64 (y.a:Int)) (Y .u64 (y.b:Int)) (Y .u64 (y.c:Int));unfold Oper.wp;rw[Qp y ho hp hx u0 u1 u2 u3 c0 f0 c1 f1 c2 f2 c3 f3];exact hK _ _ h
theorem G7 {ab:Nat} (h:w.heap[ab]?=O (C8 rows)) {r:CA} (hr:rows[k]?=O r):w.cell? ⟨ab,k*6,X⟩=O (N r.e)/\w.cell? ⟨ab,k*6+1,X⟩=O r.tv/\w.cell? ⟨ab,k*6+2,X⟩=O (Y .u64 (r.kn.a:Int))/\w.cell? ⟨ab,k*6+3,X⟩=O (Y .u64 (r.kn.b:Int))/\w.cell? ⟨ab,k*6+4,X⟩=O (Y .u64 (r.kn.c:Int))/\w.cell? ⟨ab,k*6+5,X⟩=O (Y .u64 (r.kn.d:Int)):=by(have hst:∀j,j<6->w.cell? ⟨ab,k*6+j,X⟩=r.cs[j]?:=λj hj=>by rw[AU h];simpa using I6 rows k r j hr hj);exact⟨hst 0 AD,hst 1 AD,hst 2 AD,hst 3 AD,hst 4 AD,hst 5 AD⟩
def oD (w0:W_) (H:Hp) (L:List (Nat×Obj)) (ab k:Nat) (l:List Av) (rows:List CA) (e:E_) (w':W_):Prop:=∃rows' ch,e= .returned (N ch)/\rows'=l.foldl (C5 k) rows/\Gw rows rows' ch/\Jf rows'/\AC w0 H ((ab,C8 rows')::L) w'
theorem UK (c:AF) (ib:Option Addr) (ic ab sb mb fb:Nat) (fvs:List V_) (rows:List CA) (k:Nat) (l:List Av) (fv:V_) (m:AC w0 H ((ab,C8 rows)::L) w) (hF:(fb,Ac c ib ic ab sb mb)∈L) (hS:(sb,CQ fvs)∈L) (ak:fvs[k]?=O fv) (hl:AX Gp H fv l) (hn:c.i.length<=2000) (aw:rows.length=c.i.length) (az:fvs.length=c.i.length) (hk:k<c.i.length) (lz:Jf rows) (hy:∀y∈l,(0<=y.at'/\y.at'<c.i.length)/\ -1<=y.to/\y.to<250):K_ uh 235 #[M (O ⟨fb,0,X⟩),Y I k] w (oD w0 H L ab k l rows):=by
 have HSL:=A5 hl;obtain⟨lb,lc,rfl,bu,ay,-⟩:=hl;have ay:=A9 ay;have bp:=A5 (show(fb,Ac c ib ic ab sb mb)∈((ab,C8 rows)::L) from .tail _ hF);have HF:=A5 hF;have HS:=A5 hS;have HY:=A5 hy;have ca:=A5 ak;have cd:=A5 az;have ef:=Bw (w:=w) (L:=[(fb,Ac c ib ic ab sb mb)]) (λp hp=>by rw[uj.1 hp];exact(m.loc _ (.tail _ hF)).1);simp only[BS,Ac] at ef;have bw:(k:Int)<c.i.length:=A0;have et:w.cell? ⟨sb,k,X⟩=O (V lb l.length lc):=(by rw[AU (m.loc _ (.tail _ hS)).1];simpa using ak);have ar:=A5 lz;have bn:=A5 aw;clear hF hS hy ak lz aw az;go_enter func235,ntmps235;go_wp2_with fail;clear ef et;(go_loopw [4,17] (λv4 ai wr=>∃(j:Nat) (aa:List CA) (ch:Bool),j<=l.length/\ai= Y I j/\v4= N ch/\Hid (aa=(l.take j).foldl (C5 k) rows)/\Hid (Gw rows aa ch)/\Hid (Jf aa)/\Hid (aa.length=c.i.length)/\AC w0 H ((ab,C8 aa)::L) wr) (λ_ ai _=>l.length-(intOf ai).toNat));case atStart=>exact⟨0,rows,G,uz _,Z,Z,A5 Z,A5 (Gw.start _),ar,bn,m⟩
 case round=>
  clear m bp;obtain⟨j,aa,ch,hj,rfl,rfl,HR1,HTK,ag,af,mk⟩:=hrel;by_cases lg:j<l.length
  .have lJ:(j:Int)<l.length:=A0;have hx:=uq lg;have an:=A5 (HY.out _ (vE lg));have bb:=A5 (show(l.take (j+1)).foldl (C5 k) rows=C5 k ((l.take j).foldl (C5 k) rows) l[j] by rw[wN lg,vm];rfl);obtain⟨lu,off,tv,mv,rfl,e0,e1,e2,bz,bf,hfm⟩:=HSL.out.getStep hx;clear hx;generalize l[j]=s at*;obtain⟨a,ha⟩:∃a:Nat,s.at'=(a:Int):=⟨s.at'.toNat,by have:=an.out;omega⟩;have HA:=A5 ha;rw[ha] at e0;have ba:a<c.i.length:=(by have:=an.out.1.2;omega);have bg:(a:Int)<c.i.length:=A0;clear ha;obtain⟨tb,tc,rfl,-,-,-⟩:=bf;have bo:=A5 hfm;obtain⟨ae,ad,rfl,-,-,-⟩:=hfm;have e0:=e0.cell mk;have e1:=e1.cell mk;have e2:=e2.cell mk;have hra:=Dv (rows:=aa) (k:=a) (by rw[af.out];exact ba);have ax:=Dv (rows:=aa) (k:=k) (by rw[af.out];exact hk);have aq:=A5 (show J1 k aa s=(BJ aa a).kn.and' ((BJ aa k).kn.with' (B7 s)) by unfold J1;rw[HA.out,wL]);have bq:=A5 (ag.out a);have bc:=A5 (ag.out k);have HRA:=A5 hra;have HRK:=A5 ax;clear hra ax;generalize BJ aa a=ra at*;generalize BJ aa k=rk at*;have m6:=mk.alloc (C #[Y I (a:Int),V tb s.t.length tc,V ae (B7 s).length ad] 250);have bj:Hid (∀r∈B7 s,0<=r/\r<256):=A5 (Pm (mV:=250) an.out.2 (vy _));have ef:=Bw (w:=wr) (L:=[(fb,Ac c ib ic ab sb mb)]) (λp hp=>by rw[uj.1 hp];exact(mk.loc _ (.tail _ HF.out)).1);simp only[BS,Ac] at ef;generalize bd:wr.heap.size=nb at*;go_wp2_with fail;refine EA (F:=λw'=>Code.wp _ _ _ _ w') m6 ?_;clear m6 mk ef e0 e1 e2 bd;intro wq mq;have ef:=Bw (w:=wq) (L:=[(fb,Ac c ib ic ab sb mb)]) (λp hp=>by rw[uj.1 hp];exact(mq.loc _ (.tail _ (.tail _ HF.out))).1);simp only[BS,Ac] at ef;have es:=mq.e0;go_quiet (fail);go_wp2_with fail;refine EA (F:=λw'=>Code.wp _ _ _ _ w') (mq.drewN _) ?_;clear ef es mq;intro bt av;refine B1 av [VK (M (O ⟨ab,a*6,X⟩)),VK (M (O ⟨ab,a*6,X⟩)),VK (M (O ⟨ab,a*6+2,X⟩)),VK (.agg #[Y .u64 (ra.kn.a:Int),Y .u64 (ra.kn.b:Int),Y .u64 (ra.kn.c:Int),Y .u64 (ra.kn.d:Int)]),VK (M (O ⟨fb,0,X⟩)),VK (M (O ⟨fb,0,X⟩)),VK (M (O ⟨fb,4,X⟩)),VK (V (O ⟨ab,0,X⟩) c.i.length c.i.length),VK (Y I (k:Int)),VK (M (O ⟨ab,k*6,X⟩)),VK (M (O ⟨ab,k*6+2,X⟩)),VK (.agg #[Y .u64 (rk.kn.a:Int),Y .u64 (rk.kn.b:Int),Y .u64 (rk.kn.c:Int),Y .u64 (rk.kn.d:Int)]),VK (M (O ⟨nb,2,X⟩)),VK (V ae (B7 s).length ad),VK (.agg #[Y .u64 ((rk.kn.with' (B7 s)).a:Int),Y .u64 ((rk.kn.with' (B7 s)).b:Int),Y .u64 ((rk.kn.with' (B7 s)).c:Int),Y .u64 ((rk.kn.with' (B7 s)).d:Int)]),VK (.agg #[Y .u64 ((ra.kn.and' (rk.kn.with' (B7 s))).a:Int),Y .u64 ((ra.kn.and' (rk.kn.with' (B7 s))).b:Int),Y .u64 ((ra.kn.and' (rk.kn.with' (B7 s))).c:Int),Y .u64 ((ra.kn.and' (rk.kn.with' (B7 s))).d:Int)]),⟨[16],λzb=> M (O ⟨(zb.getD 0 Ax).b,0,X⟩),O ([],[],λzb d=>d.bl=[(d.b,C #[Y .u64 0,Y .u64 0,Y .u64 0,Y .u64 0] J5 (0,0))]),G⟩] (nf 16++[B]) ?_ ?_
   .refine⟨AA,AA,AA,?_,AA,AA,AA,?_,AA,AA,AA,?_,AA,CD,?_,?_,?_,trivial⟩
    ·(refine Al.vk Z λbs w hb m=>?_);obtain⟨s0,s1,s2,s3,s4,s5⟩:=G7 (m.loc _ (.tail _ (.head _))).1 HRA.out;exact AT
    ·(refine Al.vk Z λbs w hb m=>?_);have es:=m.e0;have ef:=Bw (w:=w) (L:=[(fb,Ac c ib ic ab sb mb)]) (λp hp=>by rw[uj.1 hp];exact(m.loc _ (.tail _ (.tail _ HF.out))).1);simp only[BS,Ac] at ef;exact AT
    ·(refine Al.vk Z λbs w hb m=>?_);obtain⟨s0,s1,s2,s3,s4,s5⟩:=G7 (m.loc _ (.tail _ (.head _))).1 HRK.out;exact AT
    ·(refine Al.call Z Z Z λbs w L2 hb m=>?_);refine BU.ofCall (f:=183) (args:=#[rk.kn.v,V ae (B7 s).length ad]) Br ?_;refine(QW rk.kn bc.out (V ae (B7 s).length ad) (B7 s) bj.out m bo.out).mono ?_;exact PU
    ·(refine Al.call Z Z Z λbs w L2 hb m=>?_);refine BU.ofCall (f:=275) (args:=#[ra.kn.v,(rk.kn.with' (B7 s)).v]) Br ?_;refine(aY ra.kn (rk.kn.with' (B7 s)) bq.out (W4.fit_with bc.out) m).mono ?_;exact PU
    ·(refine Al.make _ _ Z Z Z λbs w hb m=>?_);show(x_ _ _).run _ _= .ok (.value (M (O ⟨w.heap.size,0,X⟩))) (w.alloc (C #[Y .u64 0,Y .u64 0,Y .u64 0,Y .u64 0] J5 (0,0)));exact Cp
   .intro bs wd hb md;replace md:=AC.like1 av (bs 16).bl md;have aj:(bs 16).bl=[((bs 16).b,C #[Y .u64 0,Y .u64 0,Y .u64 0,Y .u64 0] J5 (0,0))]:=hb 16 _ _ Z Z;rw[aj] at md;(try simp only[ul,ui] at md);simp only[ur,uu,Nat.reduceAdd,uy,um,un];clear hb;generalize (bs 16).b=kb at*;generalize bx:ra.kn.and' (rk.kn.with' (B7 s))=x at*;have es:=md.e0;have m7:=AC.setL x.vs 0 md;unfold W4.vs at m7;simp only[TU,Ff,vH,vM,vI,Nat.reduceAdd] at m7;go_wp2_with fail;refine EA (F:=λw'=>Code.wp _ _ _ _ w') m7 ?_;clear es md m7;intro br au;refine B1 au [VK (.agg #[Y .u64 (x.a:Int),Y .u64 (x.b:Int),Y .u64 (x.c:Int),Y .u64 (x.d:Int)]),VK (M (O ⟨ab,a*6,X⟩)),VK (M (O ⟨ab,a*6,X⟩)),VK (M (O ⟨ab,a*6+2,X⟩)),VK (.agg #[Y .u64 (ra.kn.a:Int),Y .u64 (ra.kn.b:Int),Y .u64 (ra.kn.c:Int),Y .u64 (ra.kn.d:Int)]),VK (N (!T (x=ra.kn)))] (nf 6) ?_ ?_
    .refine⟨CD,AA,AA,AA,?_,?_,trivial⟩
     ·(refine Al.vk Z λbs w hb m=>?_);obtain⟨s0,s1,s2,s3,s4,s5⟩:=G7 (m.loc _ (.tail _ (.tail _ (.head _)))).1 HRA.out;exact AT
     ·(refine Al.vk Z λbs w hb m=>?_);have h:=UQ x ra.kn w;unfold W4.v at h;exact AT
    .intro bs wd hb md;replace md:=AC.like0 au md;(try simp only[ul,ui] at md);simp only[ur,uu,Nat.reduceAdd,uy,um,un];clear hb;have bh:a<aa.length:=(by rw[af.out];exact ba);have ah:s.at'.toNat=a:=(by rw[HA.out,wL]);by_cases hx:x=ra.kn
     .have hg:J1 k aa s=(BJ aa s.at'.toNat).kn:=(by rw[aq.out,ah,I9 HRA.out];exact hx);have HK:=A5 (RC hg);have hd:T (x=ra.kn)=true:=t_ hx;clear hg hx;simp only[hd,Bool.not_true];go_wp2_with fail;go_roundw;(case rel=>exact⟨j+1,aa,ch,by omega,by go_num,Z,A5 (by rw[bb.out,<-HR1.out,HK.out]),HTK,ag,af,md.drop.drop⟩);case measure=>exact BW
     .have hg:J1 k aa s≠(BJ aa s.at'.toNat).kn:=(by rw[aq.out,ah,I9 HRA.out];exact hx);have bk:=A5 (HTK.out.more (by rw[ah];exact bh) hg);have bm:=A5 (U4 ag.out k s);have ao:=A5 (show C5 k aa s=aa.set a (CA.setK ra x) by unfold C5;rw[aq.out,ah,I9 HRA.out]);have hd:T (x=ra.kn)=false:=f_ hx;clear hg hx;have m8:=AC.setL x.vs (a*6+2) ((md.perm Ah:AC _ _ ((ab,C8 aa)::(kb,C #[Y .u64 (x.a:Int),Y .u64 (x.b:Int),Y .u64 (x.c:Int),Y .u64 (x.d:Int)] J5 (0,0))::(nb,C #[Y I (a:Int),V tb s.t.length tc,V ae (B7 s).length ad] 250)::L) _));rw[M8 aa a ra x HRA.out] at m8;unfold W4.vs at m8;simp only[Ff,Nat.reduceAdd] at m8;have es:=md.e0;have m9:=(md.perm Ah:AC _ _ ((ab,C8 aa)::(kb,C #[Y .u64 (x.a:Int),Y .u64 (x.b:Int),Y .u64 (x.c:Int),Y .u64 (x.d:Int)] J5 (0,0))::(nb,C #[Y I (a:Int),V tb s.t.length tc,V ae (B7 s).length ad] 250)::L) _);have lC:a*6+2+3<(Dx aa).toArray.size:=(by rw[vv,Dl];omega);simp only[hd,Bool.not_false];go_wp2_with (refine EI x Z Z Z Z m9 lC ?_;unfold W4.vs;simp only[Ff]);go_roundw;(case rel=>exact⟨j+1,_,B,by omega,by go_num,Z,A5 (by rw[bb.out,<-HR1.out,ao.out]),A5 (by rw[<-ao.out];exact bk.out),A5 (by rw[<-ao.out];exact bm.out),A5 (by rw[wK];exact af.out),m8.drop2⟩);case measure=>exact BW
  .have hge:¬(j:Int)<l.length:=A0;go_wp2_with fail;go_ret;exact⟨aa,ch,Z,by rw[HR1.out,wO A0],HTK.out,ag.out,mk⟩
variable {α:Type}
def Dr:W4:=⟨18446744073709551615,18446744073709551615,18446744073709551615,18446744073709551615⟩
theorem XP:Dr.fit:=⟨by decide,by decide,by decide,by decide⟩
theorem WO {r:Nat} (h:r<256):Dr.has r=true:=by
 have h1:Dr.l.getD (r/64) 0=2^64-1:=by
  have:r/64<4:=A0;rcases hq:r/64 with _|_|_|_|q
  .rfl
  .rfl
  .rfl
  .rfl
  .omega
 unfold W4.has;rw[h1,Nat.testBit_two_pow_sub_one];exact t_ A0
def Cm (rows:List CA):Nat->List CA
 |0=>rows
 |j+1=>if 0<j then (Cm rows j).set j (CA.setK (BJ (Cm rows j) j) (Dr)) else Cm rows j
def Co (rows:List CA):Nat->List CA
 |0=>rows
 |j+1=>if (BJ (Co rows j) j).e=G then (Co rows j).set j (CA.setK (BJ (Co rows j) j) (W4.zero)) else Co rows j
theorem EN (rows:List CA):∀j,Ce rows (Cm rows j)
 |0=>Ce.refl _
 |j+1=>by
  unfold Cm
  split
  .exact(EN rows j).trans (Ce.set _ _ _)
  .exact EN rows j
theorem Dk (rows:List CA):∀j,Ce rows (Co rows j)
 |0=>Ce.refl _
 |j+1=>by
  unfold Co
  split
  .exact(Dk rows j).trans (Ce.set _ _ _)
  .exact Dk rows j
theorem Lp {rows:List CA} (h:Jf rows):∀j,Jf (Cm rows j)
 |0=>h
 |j+1=>by
  unfold Cm
  split
  .exact(Lp h j).set _ XP
  .exact Lp h j
theorem LZ {rows:List CA} (h:Jf rows):∀j,Jf (Co rows j)
 |0=>h
 |j+1=>by
  unfold Co
  split
  .exact(LZ h j).set _ W4.fit_zero
  .exact LZ h j
theorem ZU (rows:List CA):∀j,j<=rows.length->∀k,(BJ (Cm rows j) k).kn=if 0<k/\k<j then Dr else (BJ rows k).kn:=by
 intro j
 induction j with
 |zero=>intro _ k;rw[n_ A0];rfl
 |succ j ih=>
  intro hj k;unfold Cm;by_cases h0:0<j
  .rw[p_ h0,FE (by rw[(EN rows j).1];omega)];by_cases e:k=j
   .rw[p_ e,p_ A0];rfl
   .rw[n_ e,ih A0 k];by_cases e2:0<k/\k<j
    .rw[p_ e2,p_ A0]
    .rw[n_ e2,n_ A0]
  .rw[n_ h0,ih A0 k,n_ A0,n_ A0]
theorem aA (rows:List CA):∀j,j<=rows.length->∀k,(BJ rows k).e=B->(BJ (Co rows j) k).kn=(BJ rows k).kn:=by
 intro j
 induction j with
 |zero=>intro _ k _;rfl
 |succ j ih=>
  intro hj k hk;unfold Co;split
  .rename_i h;rw[FE (by rw[(Dk rows j).1];omega)];by_cases e:k=j
   .subst e;rw[((Dk rows k).2 k).1,hk] at h;cases h
   .rw[n_ e];exact ih A0 k hk
  .exact ih A0 k hk
theorem XS (f:α->α) (m:Nat) (a:α):Ct f (m+1) a=f (Ct f m a):=F4 f m 1 a
theorem Gw.trans {A Bq Cq:List CA} {x y:Bool} (h:Gw A Bq x) (h':Gw Bq Cq y):Gw A Cq (x||y):=by
 rcases h with ⟨rfl,rfl⟩|⟨rfl,h⟩
 .rw[ww];exact h'
 .rcases h' with ⟨_,rfl⟩|⟨_,h'⟩
  .exact .inr ⟨Z,h⟩
  .exact .inr ⟨Z,by omega⟩
theorem Nl (c:AF) (fin:ES):∀(l:List Nat) (rows:List CA),Ce rows (l.foldl (CS c fin) rows):=by
 have key:∀(k:Nat) (l:List Av) (rows:List CA),Ce rows (l.foldl (C5 k) rows):=by
  intro k l
  induction l with
  |nil=>exact λrows=>Ce.refl rows
  |cons y l ih=>exact λrows=>(RX k rows y).trans (ih _)
 intro l
 induction l with
 |nil=>exact λrows=>Ce.refl rows
 |cons k l ih=>
  intro rows;refine Ce.trans ?_ (ih _);unfold CS;split
  .exact key _ _ _
  .exact Ce.refl _
def fZ (c:AF) (rows rows':List CA):Prop:=Ce rows rows'/\Jf rows'/\∃m R,R=Ct (GL c (AB c)) m (Cm rows c.i.length)/\GL c (AB c) R=R/\∀k,k<c.i.length->(BJ rows k).e=B->(BJ rows' k).kn=(BJ R k).kn
def pG (w0:W_) (H:Hp) (L:List (Nat×Obj)) (c:AF) (ab:Nat) (rows:List CA) (e:E_) (w':W_):Prop:=∃v rows',e= .returned v/\fZ c rows rows'/\AC w0 H ((ab,C8 rows')::L) w'
theorem Vw (c:AF) (ib:Option Addr) (ic ab sb mb fb:Nat) (fvs:List V_) (rows:List CA) (m:AC w0 H ((ab,C8 rows)::L) w) (hF:(fb,Ac c ib ic ab sb mb)∈L) (hS:(sb,CQ fvs)∈L) (hn:c.i.length<=2000) (bp:rows.length=c.i.length) (bq:fvs.length=c.i.length) (lz:Jf rows) (bo:∀k,∃b n c,(BJ rows k).tv= V b n c) (aa:∀k,k<c.i.length->(BJ rows k).e=(AB c).e.getD k G) (ao:∀k,k<c.i.length->(AB c).e.getD k G=B->∃fv,fvs[k]?=O fv/\AX Gp H fv (CU c k ((AB c).t.getD k []))) (hy:∀k,k<c.i.length->∀y∈CU c k ((AB c).t.getD k []),(0<=y.at'/\y.at'<c.i.length)/\ -1<=y.to/\y.to<250):K_ uh 189 #[M (O ⟨fb,0,X⟩)] w (pG w0 H L c ab rows):=by
 have HF:=A5 hF;have HS:=A5 hS;have HY:=A5 hy;have cx:=A5 aa;have cu:=A5 ao;have cv:=A5 bq;have bm:=A5 lz;have bh:=A5 bp;have cq:=A5 bo;clear hS hy ao lz bp bq aa bo;have cz:(c.i.length:Int)<=2000:=A0;have m1:=m.alloc W4.zero.box;unfold W4.zero at m1;generalize ck:w.heap.size=xb at*;go_enter func189,ntmps189;go_wp2_with fail;refine EA (F:=λw'=>Code.wp _ _ _ _ w') m1 ?_;clear m1 m ck hF;intro wr mr;(go_loopw [9] (λv9 wr=>∃(j:Nat),j<=4/\v9= Y I j/\AC w0 H ((xb,C #[Y .u64 (if 0<j then 18446744073709551615 else 0),Y .u64 (if 1<j then 18446744073709551615 else 0),Y .u64 (if 2<j then 18446744073709551615 else 0),Y .u64 (if 3<j then 18446744073709551615 else 0)] J5)::(ab,C8 rows)::L) wr) (λv9 _=>4-(intOf v9).toNat));case atStart=>exact⟨0,by omega,Z,mr⟩
 case round=>
  clear mr;obtain⟨j,hj,rfl,mk⟩:=hrel;have cm:j=0\/j=1\/j=2\/j=3\/j=4:=A0;rcases cm with rfl|rfl|rfl|rfl|h4
  .have es:=mk.e0;have m2:=mk.set (i:=0) (v:= Y .u64 18446744073709551615) .head;simp only[vH,vM,vI] at m2;go_wp2_with fail;go_roundw;(case rel=>exact⟨0+1,by omega,by go_num,m2⟩);case measure=>simp[intOf]
  .have es:=mk.e0;have m2:=mk.set (i:=1) (v:= Y .u64 18446744073709551615) .head;simp only[vH,vM,vI] at m2;go_wp2_with fail;go_roundw;(case rel=>exact⟨1+1,by omega,by go_num,m2⟩);case measure=>simp[intOf]
  .have es:=mk.e0;have m2:=mk.set (i:=2) (v:= Y .u64 18446744073709551615) .head;simp only[vH,vM,vI] at m2;go_wp2_with fail;go_roundw;(case rel=>exact⟨2+1,by omega,by go_num,m2⟩);case measure=>simp[intOf]
  .have es:=mk.e0;have m2:=mk.set (i:=3) (v:= Y .u64 18446744073709551615) .head;simp only[vH,vM,vI] at m2;go_wp2_with fail;go_roundw;(case rel=>exact⟨3+1,by omega,by go_num,m2⟩);case measure=>simp[intOf]
  .have da:¬(j:Int)<4:=A0;rw[p_ A0,p_ A0,p_ A0,p_ A0] at mk;clear h4 hj;have m2:AC w0 H ((ab,C8 rows)::(xb,Dr.box)::L) wr:=mk.perm (List.Perm.swap _ _ _);clear mk;have ef:=Bw (w:=wr) (L:=[(fb,Ac c ib ic ab sb mb)]) (λp hp=>by rw[uj.1 hp];exact(m2.loc _ (.tail _ (.tail _ HF.out))).1);simp only[BS,Ac] at ef;go_wp2_with fail;refine EA (F:=λw'=>Code.wp _ _ _ _ w') m2 ?_;clear ef m2;intro w2 m2;(go_loopw [20] (λv20 wr=>∃(j:Nat),j<=c.i.length/\v20= Y I j/\AC w0 H ((ab,C8 (Cm rows j))::(xb,Dr.box)::L) wr) (λv20 _=>c.i.length-(intOf v20).toNat));case atStart=>exact⟨0,uz _,Z,m2⟩
   case round=>
    clear m2;obtain⟨j,hj,rfl,mk⟩:=hrel;by_cases lg:j<c.i.length
    .have lJ:(j:Int)<c.i.length:=A0;have HSN:=A5 (show Cm rows (j+1)=if 0<j then (Cm rows j).set j (CA.setK (BJ (Cm rows j) j) (Dr)) else Cm rows j from Z);have an:(Cm rows j).length=c.i.length:=(by rw[(EN rows j).1];exact bh.out);have ai:=A5 (Dv (rows:=Cm rows j) (k:=j) A0);have aj:=A5 an;clear an;generalize BJ (Cm rows j) j=rj at*;generalize hR1:Cm rows j=R1 at*;have HR1:=A5 hR1;clear hR1;by_cases h0:0<j
     .have cn:(0:Int)<j:=A0;go_wp2_with fail;refine B1 mk [VK (M (O ⟨fb,0,X⟩)),VK (M (O ⟨fb,0,X⟩)),VK (M (O ⟨fb,4,X⟩)),VK (V (O ⟨ab,0,X⟩) c.i.length c.i.length),VK (Y I (j:Int)),VK (.agg #[Y .u64 18446744073709551615,Y .u64 18446744073709551615,Y .u64 18446744073709551615,Y .u64 18446744073709551615]),VK (M (O ⟨ab,j*6,X⟩)),VK (M (O ⟨ab,j*6+2,X⟩))] (nf 8) ?_ ?_
      .refine⟨AA,AA,AA,?_,AA,?_,AA,AA,trivial⟩
       ·(refine Al.vk Z λbs w hb m=>?_);have ef:=Bw (w:=w) (L:=[(fb,Ac c ib ic ab sb mb)]) (λp hp=>by rw[uj.1 hp];exact(m.loc _ (.tail _ (.tail _ HF.out))).1);simp only[BS,Ac] at ef;exact AT
       ·(refine Al.vk Z λbs w hb m=>?_);have es:=(m.perm (List.Perm.swap _ _ _)).eqs;simp only[BS,Dr] at es;exact AT
      .intro bs wd hb md;replace md:=AC.like0 mk md;(try simp only[ul,ui] at md);simp only[ur,uu,Nat.reduceAdd,uy,um,un];clear hb;have lC:j*6+2+3<(Dx R1).toArray.size:=(by rw[vv,Dl];have:=aj.out;omega);have m3:=AC.setL Dr.vs (j*6+2) md;rw[M8 R1 j rj Dr ai.out] at m3;simp only[Dr,W4.vs,Ff] at m3;go_wp2_with (refine EI Dr Z Z Z Z md lC ?_;simp only[Dr,W4.vs,Ff]);go_roundw;(case rel=>exact⟨j+1,by omega,by go_num,by rw[HSN.out,p_ A0];exact m3⟩);case measure=>exact BW
     .have cn:¬(0:Int)<j:=A0;go_wp2_with fail;go_roundw;(case rel=>exact⟨j+1,by omega,by go_num,by rw[HSN.out,n_ A0];exact mk⟩);case measure=>exact BW
    .have hge:¬(j:Int)<c.i.length:=A0;have ax:j=c.i.length:=A0;subst ax;have bx:=EN rows c.i.length;have bw:=Lp bm.out c.i.length;generalize bt:Cm rows c.i.length=R0 at*;have ad:=A5 (And.intro bt (And.intro bx bw));clear bt bx bw hj lg;go_wp2_with fail;refine EA (F:=λw'=>Code.wp _ _ _ _ w') mk ?_;clear mk;intro w3 m3;go_loopg [5] (2*Ra R0+2) (λgk v5 wr=>∃(ch:Bool) (mm:Nat) (R:List CA),v5= N ch/\Hid (R=Ct (GL c (AB c)) mm R0)/\Hid (Ce R0 R)/\Hid (Jf R)/\Hid (ch=G->GL c (AB c) R=R)/\2*Ra R+(if ch=B then 1 else 0)<gk/\AC w0 H ((ab,C8 R)::(xb,Dr.box)::L) wr);case atStart=>exact⟨B,0,R0,Z,A5 Z,A5 (Ce.refl _),A5 ad.out.2.2,A5 (λh=>by cases h),by rw[p_ Z];omega,m3⟩
     case round=>
      clear m3;obtain⟨ch,mm,R,rfl,cd,ag,cg,bk,ay,mk⟩:=hrel
      cases ch with
      |false=>
       have bj:=A5 (bk.out Z);have bb:=A5 (show R.length=c.i.length by rw[ag.out.1,ad.out.2.1.1];exact bh.out);have bf:=A5 (show ∀k,∃b n c,(BJ R k).tv= V b n c from λk=>by rw[(ag.out.2 k).2,(ad.out.2.1.2 k).2];exact cq.out k);clear bk ay;have ef:=Bw (w:=wr) (L:=[(fb,Ac c ib ic ab sb mb)]) (λp hp=>by rw[uj.1 hp];exact(mk.loc _ (.tail _ (.tail _ HF.out))).1);simp only[BS,Ac] at ef;go_wp2_with fail;clear ef;(go_loopw [62] (λbc wr=>∃(j:Nat),j<=c.i.length/\bc= Y I j/\AC w0 H ((ab,C8 (Co R j))::(xb,Dr.box)::L) wr) (λbc _=>c.i.length-(intOf bc).toNat));case atStart=>exact⟨0,uz _,Z,mk⟩
       case round=>
        clear mk;obtain⟨j,hj,rfl,mk⟩:=hrel;by_cases lg:j<c.i.length
        .have lJ:(j:Int)<c.i.length:=A0;have HSN:=A5 (show Co R (j+1)=if (BJ (Co R j) j).e=G then (Co R j).set j (CA.setK (BJ (Co R j) j) (W4.zero)) else Co R j from Z);have an:(Co R j).length=c.i.length:=(by rw[(Dk R j).1];exact bb.out);have ai:=A5 (Dv (rows:=Co R j) (k:=j) A0);have bu:∃b n c,(BJ (Co R j) j).tv= V b n c:=(by rw[((Dk R j).2 j).2];exact bf.out j);have aj:=A5 an;clear an;generalize BJ (Co R j) j=rj at*;generalize hR1:Co R j=R1 at*;have HR1:=A5 hR1;clear hR1;obtain⟨tb,tn,tc,bd⟩:=bu;obtain⟨s0,s1,s2,s3,s4,s5⟩:=G7 (mk.loc _ (.head _)).1 ai.out;rw[bd] at s1;have bu:=A5 bd;clear bd;have m4:=mk.alloc (C #[N rj.e,V tb tn tc,Y .u64 (rj.kn.a:Int),Y .u64 (rj.kn.b:Int),Y .u64 (rj.kn.c:Int),Y .u64 (rj.kn.d:Int)] 242);have ef:=Bw (w:=wr) (L:=[(fb,Ac c ib ic ab sb mb)]) (λp hp=>by rw[uj.1 hp];exact(mk.loc _ (.tail _ (.tail _ HF.out))).1);simp only[BS,Ac] at ef
         cases aa:rj.e with
         |true=>have ah:=A5 aa;rw[aa] at s0 m4;clear aa;go_wp2_with fail;go_roundw;(case rel=>exact⟨j+1,by omega,by go_num,by rw[HSN.out,ah.out];exact m4.drop⟩);case measure=>exact BW
         |false=>have ah:=A5 aa;rw[aa] at s0 m4;clear aa;have lC:j*6+2+3<(Dx R1).toArray.size:=(by rw[vv,Dl];have:=aj.out;omega);have m5:=m4.perm (List.Perm.swap _ _ _);have m6:=AC.setL W4.zero.vs (j*6+2) m5;rw[M8 R1 j rj W4.zero ai.out] at m6;simp only[W4.zero,W4.vs,Ff] at m6;go_wp2_with (refine EI W4.zero Z Z Z Z m5 lC ?_;simp only[W4.zero,W4.vs,Ff]);go_roundw;(case rel=>exact⟨j+1,by omega,by go_num,by rw[HSN.out,ah.out];exact(m6.perm (List.Perm.swap _ _ _)).drop⟩);case measure=>exact BW
        .have hge:¬(j:Int)<c.i.length:=A0;have ax:j=c.i.length:=A0;have ca:=A5 ax;clear ax;go_wp2_with fail;go_end0;refine⟨_,Co R j,Z,⟨(ad.out.2.1.trans ag.out).trans (Dk R j),LZ cg.out j,mm,R,?_,bj.out,λk hk hc=>?_⟩,(mk.perm (List.Perm.swap _ _ _)).drop⟩
         .rw[ad.out.1];exact cd.out
         .refine aA R j (by rw[bb.out];omega) k ?_;rw[(ag.out.2 k).1,(ad.out.2.1.2 k).1];exact hc
      |true=>
       have bb:=A5 (show R.length=c.i.length by rw[ag.out.1,ad.out.2.1.1];exact bh.out);have cw:=A5 (show ∀k,k<c.i.length->(BJ R k).e=(AB c).e.getD k G from λk hk=>by rw[(ag.out.2 k).1,(ad.out.2.1.2 k).1];exact cx.out k hk);rw[p_ Z] at ay;have cr:=A5 ay;clear ay bk;have ef:=Bw (w:=wr) (L:=[(fb,Ac c ib ic ab sb mb)]) (λp hp=>by rw[uj.1 hp];exact(mk.loc _ (.tail _ (.tail _ HF.out))).1);simp only[BS,Ac] at ef;go_wp2_with fail;clear ef;(go_loopw [5,40] (λv5 v40 wr=>∃(j:Nat) (R1:List CA) (af:Bool),j<=c.i.length/\v40= Y I j/\v5= N af/\Hid (R1=(ut j).foldl (CS c (AB c)) R)/\Hid (Gw R R1 af)/\Hid (Jf R1)/\AC w0 H ((ab,C8 R1)::(xb,Dr.box)::L) wr) (λ_ v40 _=>c.i.length-(intOf v40).toNat));case atStart=>exact⟨0,R,G,uz _,Z,Z,A5 Z,A5 (Gw.start _),cg,mk⟩
       case round=>
        clear mk;obtain⟨j,R1,af,hj,rfl,rfl,av,HTK,bn,mk⟩:=hrel;by_cases lg:j<c.i.length
        .have lJ:(j:Int)<c.i.length:=A0;have bg:=A5 (show(ut (j+1)).foldl (CS c (AB c)) R=CS c (AB c) ((ut j).foldl (CS c (AB c)) R) j by rw[wu,vm];rfl);have ba:=Nl c (AB c) (ut j) R;rw[<-av.out] at ba;have aj:=A5 (show R1.length=c.i.length by rw[ba.1];exact bb.out);have ai:=A5 (Dv (rows:=R1) (k:=j) (by rw[aj.out];exact lg));have cy:=A5 (show(BJ R1 j).e=(AB c).e.getD j G by rw[(ba.2 j).1];exact cw.out j lg);clear ba;obtain⟨s0,s1,s2,s3,s4,s5⟩:=G7 (mk.loc _ (.head _)).1 ai.out;rw[cy.out] at s0;clear s1 s2 s3 s4 s5;have ef:=Bw (w:=wr) (L:=[(fb,Ac c ib ic ab sb mb)]) (λp hp=>by rw[uj.1 hp];exact(mk.loc _ (.tail _ (.tail _ HF.out))).1);simp only[BS,Ac] at ef
         cases ae:(AB c).e.getD j G with
         |false=>rw[ae] at s0;have az:=A5 (show CS c (AB c) R1 j=R1 by unfold CS;rw[ae];rfl);clear ae;go_wp2_with fail;go_roundw;(case rel=>exact⟨j+1,R1,af,by omega,by go_num,Z,A5 (by rw[bg.out,<-av.out,az.out]),HTK,bn,mk⟩);case measure=>exact BW
         |true=>
          rw[ae] at s0;have az:=A5 (show CS c (AB c) R1 j=(CU c j ((AB c).t.getD j [])).foldl (C5 j) R1 by unfold CS;rw[ae];rfl);obtain⟨fv,ao,hsl⟩:=cu.out j lg ae;have au:=A5 (And.intro ao hsl);clear ae ao hsl;go_wp2_with fail;refine(UK c ib ic ab sb mb fb fvs R1 j _ fv mk (.tail _ HF.out) (.tail _ HS.out) au.out.1 au.out.2 hn aj.out cv.out lg bn.out (HY.out j lg)).mono ?_;rintro e w5 ⟨R2,cp,rfl,br,ak,aq,m5⟩;have bz:=A5 br;have ar:=A5 (HTK.out.trans ak);have cj:=A5 aq;clear br ak aq mk ef s0
          cases cp with
          |false=>go_wp2_with fail;go_roundw;(case rel=>exact⟨j+1,R2,af,by omega,by go_num,Z,A5 (by rw[bg.out,<-av.out,az.out,bz.out]),A5 (by have:=ar.out;rwa [wX] at this),cj,m5⟩);case measure=>exact BW
          |true=>go_wp2_with fail;go_roundw;(case rel=>exact⟨j+1,R2,B,by omega,by go_num,Z,A5 (by rw[bg.out,<-av.out,az.out,bz.out]),A5 (by have:=ar.out;rwa [Bool.or_true] at this),cj,m5⟩);case measure=>exact BW
        .have hge:¬(j:Int)<c.i.length:=A0;have ca:=A5 (A0:j=c.i.length);go_wp2_with fail;have aw:R1=GL c (AB c) R:=(by rw[av.out,ca.out];rfl);go_roundg (2*Ra R1+(if af=B then 1 else 0)+1)
         case measure=>
          have:=cr.out;rcases HTK.out with ⟨h1,h2⟩|⟨h1,h2⟩
          .rw[h1,h2,n_ (by simp)];omega
          .rw[h1,p_ Z];omega
         case rel=>exact⟨af,mm+1,R1,Z,A5 (by rw[XS,<-cd.out];exact aw),A5 (by rw[aw];exact ag.out.trans (Nl c (AB c) _ R)),bn,A5 (λh=>by
          rcases HTK.out with ⟨_,h2⟩|⟨h1,_⟩
          .rw[h2] at aw⊢;exact aw.symm
          .rw[h] at h1;cases h1),by omega,mk⟩
variable {s:ES} {ws:List Int}
structure Kx (n:Nat) (s:ES) (ws:List Int):Prop where
 fit:s.Fit n
 nd:ws.Nodup
 rng:∀z∈ws,0<=z/\z<n
 mem:∀k:Nat,k<n->((k:Int)∈ws↔s.e.getD k G=B/\s.done.getD k G=G)
 dc:∀k:Nat,s.done.getD k G=B->s.e.getD k G=B
theorem ID (n k:Nat):(vA n G).getD k G=false:=by rw[vB,vq];split<;>rfl
theorem Kx.init (hn:0<n):Kx n (ES.init n) [0]:=by
 refine⟨ES.init_fit n,by simp,λz hz=>by rw[uj.1 hz];omega,λk hk=>?_,λk h=>?_⟩
 .unfold ES.init;simp only;rw[C4 _ _ _ _ _ (by simpa using hn),ID];by_cases e:k=0
  .subst e;simp
  .rw[n_ e];simp;omega
 .unfold ES.init at h;simp only at h;rw[ID] at h;cases h
theorem Kx.none (h:Kx n s []):s.small=none:=by unfold ES.small;rw[List.find?_eq_none];intro k hk;have aa:k<n:=(by rw[<-h.fit.e];simpa using hk);have:=h.mem k aa;simp only[wI,false_iff] at this;intro h2;simp only[uv,vZ] at h2;exact this h2
theorem Kx.small (h:Kx n s ws) (lU:ws≠[]):∃k:Nat,k<n/\Mh ws=(k:Int)/\s.small=O k:=by
 obtain⟨h1,h2⟩:=SP lU;have h3:=h.rng _ h1;refine⟨(Mh ws).toNat,by omega,by omega,?_⟩;have hk:((Mh ws).toNat:Int)=Mh ws:=A0;have hm:=(h.mem (Mh ws).toNat A0).1 (by rw[hk];exact h1);unfold ES.small;rw[List.find?_range_eq_some];refine⟨by rw[hm.1,hm.2];rfl,by rw[vR,h.fit.e];omega,λj hj=>?_⟩;(have h4:¬((j:Int)∈ws):=λh5=>by have:=h2 _ h5;omega);rw[h.mem j A0] at h4;cases hc:s.e.getD j G
 .rfl
 .cases hd:s.done.getD j G
  .exact a_ ⟨hc,hd⟩ h4
  .rfl
theorem Kx.take (h:Kx n s ws) (hi:i<ws.length) (hk:ws[i]=(k:Int)):Kx n {s with done:=s.done.set k B} (ws.eraseIdx i):=by
 have hr:=h.rng _ (vE hi);rw[hk] at hr;have aa:k<n:=A0;have hc:=(h.mem k aa).1 (by rw[<-hk];exact vE hi);(have ad:∀j (hj:j<ws.length),ws[j]=(k:Int)->j=i:=λj hj e=>(List.getElem_inj h.nd).1 (e.trans hk.symm));refine⟨⟨h.fit.e,h.fit.t,h.fit.other,by simp[h.fit.done]⟩,h.nd.sublist (List.eraseIdx_sublist _ _),λz hz=>h.rng z (xI hz),λq hq=>?_,λq hq=>?_⟩
 .simp only;rw[C4 _ _ _ _ _ (by rw[h.fit.done];exact aa)];constructor
  .intro hz;obtain⟨j,hj,h1,h2⟩:=xJ.1 hz;(have lU:q≠k:=λe=>by subst e;exact h1 (ad j hj h2));rw[n_ lU];exact(h.mem q hq).1 (xI hz)
  .rintro⟨h1,h2⟩;by_cases e:q=k
   .rw[p_ e] at h2;cases h2
   .rw[n_ e] at h2;obtain⟨j,hj,h3⟩:=wx ((h.mem q hq).2 ⟨h1,h2⟩);exact xJ.2 ⟨j,hj,λe2=>by subst e2;rw[hk] at h3;omega,h3⟩
 .simp only at hq⊢;rw[C4 _ _ _ _ _ (by rw[h.fit.done];exact aa)] at hq;by_cases e:q=k
  .rw[e];exact hc.1
  .rw[n_ e] at hq;exact h.dc q hq
def pT (s:ES) (ws:List Int) (y:Av):List Int:=if s.e.getD y.at'.toNat G=G then ws++[y.at'] else ws
theorem Mg (h:s.e.getD y.at'.toNat G=G):Cb s y={s with e:=s.e.set y.at'.toNat B,t:=s.t.set y.at'.toNat y.t}:=by unfold Cb;rw[p_ h]
theorem JX (h:s.e.getD y.at'.toNat G=B) (h2:s.t.getD y.at'.toNat []≠y.t):Cb s y={s with other:=s.other.set y.at'.toNat B}:=by unfold Cb;rw[n_ (by rw[h];simp),p_ h2]
theorem Lg (h:s.e.getD y.at'.toNat G=B) (h2:s.t.getD y.at'.toNat []=y.t):Cb s y=s:=by unfold Cb;rw[n_ (by rw[h];simp),n_ (by rw[h2];simp)]
theorem Kx.visit (h:Kx n s ws) (hy:0<=y.at'/\y.at'<n):Kx n (Go.Proofs.YtbioklhoolkhkacGreat.Cb s y) (pT s ws y):=by
 have ha:y.at'.toNat<n:=A0;have ad:((y.at'.toNat:Nat):Int)=y.at':=A0
 cases hc:s.e.getD y.at'.toNat G with
 |false=>
  have hd:s.done.getD y.at'.toNat G=false:=by
   cases hd:s.done.getD y.at'.toNat G
   .rfl
   .rw[h.dc _ hd] at hc;cases hc
  (have aa:¬(y.at'∈ws):=λhm=>by rw[<-ad,h.mem _ ha,hc] at hm;cases hm.1);have hf:=NY h.fit y;rw[Mg hc] at hf⊢;unfold pT;rw[p_ hc];refine⟨hf,?_,?_,λq hq=>?_,λq hq=>?_⟩
  .rw[xK];refine⟨h.nd,by simp,λa ae b hb=>?_⟩;rw[uj.1 hb];intro e;subst e;exact aa ae
  .intro z hz;rcases vU.1 hz with hz|hz
   .exact h.rng z hz
   .rw[uj.1 hz];omega
  .simp only;rw[C4 _ _ _ _ _ (by rw[h.fit.e];exact ha),vU,uj,h.mem q hq];by_cases e:q=y.at'.toNat
   .subst e;rw[p_ Z];constructor
    .exact λ_=>⟨Z,hd⟩
    .exact λ_=> .inr ad
   .rw[n_ e];constructor
    .rintro(h1|h1)
     .exact h1
     .omega
    .exact λh1=> .inl h1
  .simp only at hq⊢;rw[C4 _ _ _ _ _ (by rw[h.fit.e];exact ha)];split
   .rfl
   .exact h.dc q hq
 |true=>
  have hw:pT s ws y=ws:=(by unfold pT;rw[n_ (by rw[hc];simp)]);rw[hw];by_cases ht:s.t.getD y.at'.toNat []=y.t
  .rw[Lg hc ht];exact h
  .have hf:=NY h.fit y;rw[JX hc ht] at hf⊢;exact⟨hf,h.nd,h.rng,h.mem,h.dc⟩
theorem Ud (s:ES) (y:Av) (k:Nat) (h:s.e.getD k G=B):(Cb s y).e.getD k G=B/\(Cb s y).t.getD k []=s.t.getD k []:=by
 cases hc:s.e.getD y.at'.toNat G with
 |false=>(have lU:y.at'.toNat≠k:=λe=>by rw[e,h] at hc;cases hc);rw[Mg hc];simp only;rw[vB,vB,vt lU,vt lU,<-vB,<-vB];exact⟨h,Z⟩
 |true=>
  by_cases ht:s.t.getD y.at'.toNat []=y.t
  .rw[Lg hc ht];exact⟨h,Z⟩
  .rw[JX hc ht];exact⟨h,Z⟩
theorem O5:∀(l:List Av) (s:ES) (k:Nat),s.e.getD k G=B->(l.foldl Cb s).e.getD k G=B/\(l.foldl Cb s).t.getD k []=s.t.getD k []
 |[],s,k,h=>⟨h,Z⟩
 |y::l,s,k,h=>by
  obtain⟨h1,h2⟩:=Ud s y k h
  obtain⟨h3,h4⟩:=O5 l _ k h1
  exact⟨h3,h4.trans h2⟩
theorem Td {x:AI} {c:AF} {i:Bu} (h:Fh x c i=B):∀w∈i.w,∃l,Mu w c.g c.i.length l=true:=by unfold Fh at h;simp only[uv] at h;obtain⟨_,_,_,_,_,_,h6,_⟩:=h;intro w hw;obtain⟨k,hk,rfl⟩:=List.mem_iff_getElem.1 hw;unfold Eu at h6;have h8:=vJ.1 h6 k (vR.2 hk);rw[uq hk] at h8;exact⟨_,h8⟩
theorem Lj {w:FF} {mV many:Int} {l:Bool} (h:Mu w mV many l=B):(w.kind=1\/w.kind=2\/w.kind=3)/\(w.kind=2->0<=w.to)/\(w.kind≠2->w.to= -1)/\(w.kind≠3->0<=w.chan/\w.chan<mV)/\(w.kind=1->0<=w.value/\w.value<mV):=by
 unfold Mu at h;simp only[uv] at h;obtain⟨_,h⟩:=h;split at h
 .rename_i e;simp only[uv,decide_eq_true_eq] at h;have h1:=D7.1 h.1;have h2:=D7.1 h.2.1;exact⟨.inl e,λe2=>by omega,λ_=>h.2.2,λ_=>by omega,λ_=>by omega⟩
 .split at h
  .rename_i e0 e;simp only[uv,decide_eq_true_eq] at h;have h1:=D7.1 h.1;have h2:=D7.1 h.2.2;exact⟨.inr (.inl e),λ_=>by omega,λe2=>a_ e e2,λ_=>by omega,λe2=>a_ e2 e0⟩
  .rename_i e0 e;simp only[uv,decide_eq_true_eq] at h;exact⟨.inr (.inr h.1),λe2=>a_ e2 e,λ_=>h.2.2.2.1,λe2=>a_ h.1 e2,λe2=>a_ e2 e0⟩
theorem Wa {x:AI} {c:AF} {i:Bu} (h:Fh x c i=B):i.StepFit:=by
 refine⟨λho=>?_,λw hw=>?_⟩
 .have ht:(CR i.op i.m).to=true:=(by unfold CR;rw[n_ (λh'=>by have:=h'.1;omega)];rcases ho with ho|ho<;>rw[ho]<;>rfl);unfold Fh at h;simp only[uv] at h;obtain⟨_,h1,_⟩:=h;rw[p_ ht] at h1;exact(D7.1 h1).1
 .obtain⟨l,hl⟩:=Td h w hw;have:=Lj hl;exact⟨this.2.1,this.2.2.1⟩
theorem VG {x:AI} {c:AF} {i:Bu} (hr:0<=c.g) (aa:c.g<=250) (h:Fh x c i=B):(∀y∈i.w,y.kind=1\/y.kind=2\/y.kind=3)/\∀r∈CM i,0<=r/\r<256/\r<c.g:=by
 refine⟨λw hw=>?_,λr hm=>?_⟩
 .obtain⟨l,hl⟩:=Td h w hw;exact(Lj hl).1
 .unfold CM at hm;rcases vU.1 hm with hm|hm
  .have:=(EM hr h).2.2.2.2.2 r hm;omega
  .obtain⟨w,hw,hm⟩:=List.mem_flatMap.1 hm;obtain⟨l,hl⟩:=Td h w hw;obtain⟨_,_,_,h4,h5⟩:=Lj hl;rcases vU.1 hm with hm|hm
   .split at hm
    .cases hm
    .rename_i e;rw[uj.1 hm];have:=h4 e;omega
   .split at hm
    .rename_i e;rw[uj.1 hm];have:=h5 e;omega
    .cases hm
theorem GD:∀(r:List ByteArray) (s:ByteArray),s∈(DW r.reverse).map vN↔s∈r
 |[],s=>by simp[DW]
 |a::r,s=>by
  have ih:=GD r
  rw[x4,NM,Rg]
  by_cases h:BX (DW r.reverse) a=X
  .rw[p_ h,vU,ih s,uj,vP]
   exact Or.comm
  .rw[n_ h,ih s,vP]
   rw[IX,ih a] at h
   constructor
   .exact .inr
   .rintro(rfl|h')
    .exact Classical.not_not.1 h
    .exact h'
theorem cA (l:List ByteArray) (s:ByteArray):s∈(DW l).map vN↔s∈l:=by have:=GD l.reverse s;rw[ve,List.mem_reverse] at this;exact this
theorem Ma:∀r:List ByteArray,(DW r.reverse).length<=r.length/\((DW r.reverse).length=r.length↔r.Nodup)
 |[]=>by simp[DW]
 |a::r=>by
  have ih:=Ma r
  rw[x4,NM,<-wJ (f:=vN),Rg,ur,List.nodup_cons]
  by_cases h:a∈r
  .rw[n_ (by rw[IX,GD];exact λh2=>h2 h),wJ]
   refine⟨by omega,⟨λe=>by omega,λe=>a_ h e.1⟩⟩
  .rw[p_ (by rw[IX,GD];exact h),wj,wJ,List.length_singleton]
   refine⟨by omega,⟨λe=>⟨h,ih.2.1 A0⟩,λe=>by rw[ih.2.2 e.2]⟩⟩
theorem WF (l:List ByteArray):(DW l).length=l.length↔l.Nodup:=by have:=(Ma l.reverse).2;rw[ve,List.length_reverse] at this;rw[this];(have hp:∀r:List ByteArray,r.Nodup↔List.Pairwise (·≠·) r:=λ_=>Iff.rfl);rw[hp,hp,List.pairwise_reverse];constructor<;>exact λh=>h.imp λh=>Ne.symm h
theorem Dq (xs:List ByteArray) (s:ByteArray):Aw xs s<0↔s ∉ xs:=by
 unfold Aw;rcases Cy (λx=>T (x=s)) xs with ⟨h1,h2⟩|⟨k,hk,h1,h2⟩
 .rw[h1];refine⟨λ_ h=>?_,λ_=>by omega⟩;have:=h2 s h;simp at this
 .rw[h1];refine⟨λh=>by omega,λh=>a_ ?_ h⟩;rw[<-o_ h2];exact vE hk
theorem GG (l:List ByteArray):Cf l=B9 l:=by
 rw[vL];unfold Cf B9;rw[uv,decide_eq_true_eq,WF,vJ,vJ];have aa:l.Nodup↔∀(i j:Nat) (hi:i<l.length) (hj:j<l.length),i<j->l[i]≠l[j]:=List.pairwise_iff_getElem;rw[aa];constructor
 .rintro⟨h1,h2⟩ k hk;have hk:=vR.1 hk;rw[uq hk];simp only[uv,decide_eq_true_eq];refine⟨h2 _ (vE hk),(Dq _ _).2 λh=>?_⟩;obtain⟨j,hj,e⟩:=xL.1 h;exact h1 j k A0 hk A0 e
 .intro h;(have hh:∀k (hk:k<l.length),B3 l[k]=B/\l[k] ∉ l.take k:=λk hk=>by have:=h k (vR.2 hk);rw[uq hk] at this;simp only[uv,decide_eq_true_eq] at this;exact⟨this.1,(Dq _ _).1 this.2⟩);refine⟨λi j hi hj ad e=>(hh j hj).2 ?_,λs hs=>?_⟩
  .rw[<-e];exact xL.2 ⟨i,by omega,Z⟩
  .obtain⟨k,hk,rfl⟩:=wx hs;exact(hh k hk).1
theorem Up (xs:List ByteArray) (s:ByteArray):T (0<=Aw xs s)=(BX (DW xs) s).isSome:=by
 rw[vL,decide_eq_true_eq,Option.isSome_iff_ne_none,ne_eq,IX,cA];constructor
 .intro h1 h2;have:=(Dq xs s).2 h2;omega
 .intro h1;have:=mt (Dq xs s).1 h1;omega
theorem Pf {α:Type} [DecidableEq α] {p:V_->Prop} {k:α} {v:V_} (hv:p v):∀(l:List (α×V_)),(∀e∈l,p e.2)->∀e∈FT l k v,p e.2
 |[],_,e,he=>by rw[FT,uj] at he;rw[he];exact hv
 |q::l,h,e,he=>by
  unfold FT at he
  split at he
  .rcases vP.1 he with rfl|he
   .exact hv
   .exact h e (.tail _ he)
  .rcases vP.1 he with rfl|he
   .exact h _ (.head _)
   .exact Pf hv l (λe he=>h e (.tail _ he)) e he
theorem Mw {α:Type} [DecidableEq α] {k:α} {v:V_}:∀{l:List (α×V_)},BX l k=O v->∃e∈l,e.2=v
 |[],h=>by cases h
 |q::l,h=>by
  unfold BX at h
  split at h
  .cases h;exact⟨q,.head _,Z⟩
  .obtain⟨e,he,hv⟩:=Mw h
   exact⟨e,.tail _ he,hv⟩
def Fw {α:Type} [DecidableEq α] (l:List (α×V_)) (k:α):Int:=match BX l k with
 |some (Y _ n)=>n
 |_=>0
def QO {α:Type} (l:List (α×V_)):Prop:=∀e∈l,∃n:Int,e.2= Y I n
theorem V3 [DecidableEq α] {l:List (α×V_)} (h:QO l) (k:α):(BX l k).getD (Y I 0)= Y I (Fw l k):=by
 unfold Fw
 cases hl:BX l k with
 |none=>rfl
 |some v=>obtain⟨e,he,rfl⟩:=Mw hl;obtain⟨n,hn⟩:=h e he;rw[hn];rfl
theorem Tl (l:List AK):QO (DQ l):=by unfold DQ;suffices h:∀(l:List AK) (m:List (ByteArray×V_)),QO m->QO (l.foldl (λm c=>FT m c.name (Y I c.f.length)) m) from h l [] (λ_ h=>CZ);exact fJ
theorem Um (l:List Aj):QO (EL l):=by unfold EL;suffices h:∀(l:List Aj) (m:List (ByteArray×V_)),QO m->QO (l.foldl (λm c=>FT m c.name (Y I c.parts)) m) from h l [] (λ_ h=>CZ);exact fJ
theorem ZO (l:List ByteArray):∀e∈DW l,e.2= N true:=by
 unfold DW;suffices h:∀(l:List ByteArray) (m:List (ByteArray×V_)),(∀e∈m,e.2= N B)->∀e∈l.foldl (λm s=>FT m s (N B)) m,e.2= N B from h l [] (λ_ h=>CZ);intro l
 induction l with
 |nil=>exact λm h=>h
 |cons c l ih=>exact λm h=>ih _ (Pf (p:=λv=>v= N B) Z m h)
def IU (l:List ByteArray) (s:ByteArray):Bool:=T (0<=Aw l s)
theorem ZS (l:List ByteArray) (s:ByteArray):(BX (DW l) s).getD (N G)= N (IU l s):=by
 unfold IU;rw[Up]
 cases hl:BX (DW l) s with
 |none=>rfl
 |some v=>obtain⟨e,he,rfl⟩:=Mw hl;rw[ZO l e he];rfl
theorem PE {α β:Type} [DecidableEq α] (f:β->V_) (k:α):∀l:List (α×β),BX (l.map λp=>(p.1,f p.2)) k=(l.find? λp=>T (p.1=k)).map λp=>f p.2
 |[]=>rfl
 |q::l=>by
  rw[xM,BX,List.find?_cons]
  by_cases h:q.1=k
  .rw[p_ h,t_ h];rfl
  .rw[n_ h,f_ h];exact PE f k l
theorem Vd:(Jm.map vN).Nodup:=by have:Jm.map vN=Ek.map vN:=(by unfold Jm;rw[xN];rfl);rw[this];decide
theorem l9 {om:List (ByteArray×V_)} (h:om.Perm Jm) (s:ByteArray):(BX om s).getD (Y I 0)= Y I (Ev s):=by rw[PQ h Vd];unfold Jm Ev;rw[PE (λn:Int=>Y I n) s Ek];cases Ek.find? (λp=>T (p.1=s))<;>rfl
def PG (x:AI) (s:Qh) (n:ByteArray):Bool:=
 if s.name=0 then T (n=vD) else if s.name=1 then DC n else if s.name=3 then T (0<Ev n) else if s.name=5 then B3 n
 else if s.name=4 then IU (x.k.map AK.name) n else if s.name=6 then IU (x.c.map Aj.name) n else if s.name=7 then IU x.r n else IU (x.d.map AF.name) n
def Nc (s:Qh) (n:ByteArray):Int:=if s.name=3 then Ev n else s.args
def Ed (x:AI) (s:Qh) (i:Bu):Bool:=
 if i.op=15 then PG x s i.name&&(T (Fw (DQ x.k) i.name= -1)||T ((i.args.length:Int)=Fw (DQ x.k) i.name))
 else if i.op=18 then PG x s i.name&&(T (Fw (EL x.c) i.name= -1)||T ((i.args.length:Int)=Fw (EL x.c) i.name))
 else if i.op=13 then (if i.m=1 then IU (x.d.map AF.name) i.name&&T (i.args.length<=6) else PG x s i.name&&F6 i.args.length 1 7)
 else PG x s i.name&&(T (Nc s i.name= -1)||T ((i.args.length:Int)=Nc s i.name))
theorem kp (s:ByteArray):s.toList.isEmpty=T (s=vD):=by
 by_cases h:s=vD
 .rw[t_ h,(B5 _).2 h];rfl
 .rw[f_ h];cases hl:s.toList with
  |nil=>exact a_ ((B5 _).1 hl) h
  |cons a l=>rfl
theorem cS (a b:Int):(a==b)=T (a=b):=by rw[vL];simp
abbrev TE (s:Qh):Obj:= C #[U s.word,N s.to,Y I s.args,Y .u8 s.name,N s.number,Y I s.low,Y I s.high,Y I s.places,N s.w,N s.stops] 278
theorem W8 (x:AI) (s:Qh) (hs:s.name=0\/s.name=1\/s.name=3\/s.name=5\/s.name=4\/s.name=6\/s.name=7\/s.name=2) (i:Bu) (va vg vw:V_) (fb:Nat) (m:AC w0 H L w) (hf:FQ H x fb) (hi:Gj H i va vg vw):K_ uh 273 #[M (O ⟨fb,0,X⟩),s.val,Ec i va vg vw] w (Bv w0 H L (N (Ed x s i))):=by
 have HI:=A5 hi;obtain⟨b5,c5,b6,c6,b7,c7,rfl,rfl,rfl,l5,l6,l7⟩:=hi.shapes;clear hi;obtain⟨vc,vk,vr,vd,v1,v2,v3,v4,v5,mc,mk,ax,md0,sm,om,kn,an,aw,h1,h2,h3,az,g1,g2,g3,g4,h4,bc,h5,ay⟩:=hf.box;have HFB:=A5 an;clear hf an aw h4 bc;(have HL1:Hid (∀W:W_,∀L',AC w0 H L' W->(Instr.lookup 200 v1 (U i.name) G).run uh W= .ok (Y I (Fw (DQ x.k) i.name)) W):=A5 λW L' mW=>by have:=h1.look (P:=uh) (t:=200) (et:=3) (z:= Y I 0) IZ underlying200 (by go_simp) mW i.name G;rw[V3 (Tl _)] at this;exact this);(have bh:Hid (∀W:W_,∀L',AC w0 H L' W->(Instr.lookup 200 v2 (U i.name) G).run uh W= .ok (Y I (Fw (EL x.c) i.name)) W):=A5 λW L' mW=>by have:=h2.look (P:=uh) (t:=200) (et:=3) (z:= Y I 0) IZ underlying200 (by go_simp) mW i.name G;rw[V3 (Um _)] at this;exact this);(have HL5:Hid (∀W:W_,∀L',AC w0 H L' W->(Instr.lookup 200 v5 (U i.name) G).run uh W= .ok (Y I (Ev i.name)) W):=A5 λW L' mW=>by have:=h5.look (P:=uh) (t:=200) (et:=3) (z:= Y I 0) IZ underlying200 (by go_simp) mW i.name G;rw[l9 ay] at this;exact this);(have HL3:Hid (∀nm u:Int,∀v,u=nm->BX kn nm=O v->∀W:W_,∀L',AC w0 H L' W->(Instr.lookup 225 v3 (Y .u8 u) G).run uh W= .ok v W):=A5 λnm u v hu hv W L' mW=>by subst hu;have:=h3.look (P:=uh) (t:=225) (et:=229) (z:= .map X) Pi underlying225 (by go_simp) mW u G;rw[hv] at this;exact this);(have HL4:Hid (∀(v:V_) (l:List ByteArray),Kb H U v (DW l)->∀W:W_,∀L',AC w0 H L' W->(Instr.lookup 229 v (U i.name) G).run uh W= .ok (N (IU l i.name)) W):=A5 λv l hv W L' mW=>by have:=hv.look (P:=uh) (t:=229) (et:=4) (z:= N G) IZ underlying229 (by go_simp) mW i.name G;rw[ZS] at this;exact this);have HG:=A5 (And.intro g1 (And.intro g2 (And.intro g3 g4)));have HKN:=A5 az;obtain⟨q1,e1,k1,rfl,-⟩:=h1;obtain⟨q2,e2,k2,rfl,-⟩:=h2;obtain⟨q3,e3,k3,rfl,-⟩:=h3;obtain⟨q5,e5,k5,rfl,-⟩:=h5;clear g1 g2 g3 g4 az ay;have m3:=(m.alloc (TE s)).alloc (SB i b5 c5 b6 c6 b7 c7);simp only[vG] at m3;generalize bj:w.heap.size=xb at*;unfold Ec Qh.val;generalize aj:Ed x s i=res;have HRES:=A5 aj;clear aj;obtain⟨many,ad⟩:∃n,Nc s i.name=n:=⟨_,Z⟩;obtain⟨is,ba⟩:∃b,PG x s i.name=b:=⟨_,Z⟩;have HMANY:=A5 ad;have HIS:=A5 ba;clear ad ba;have es:=m3.e16;go_enter func273,ntmps273;refine TS (De 4) (λa W=>a.defers=[]/\a.tmps.size=113/\a.tmps[0]?=O (M (O ⟨fb,0,X⟩))/\a.tmps[4]?=O (M (O ⟨xb,0,X⟩))/\a.tmps[5]?=O (M (O ⟨xb+1,0,X⟩))/\a.tmps[6]?=O (N G)/\a.tmps[7]?=O (Y I many)/\a.tmps[8]?=O (N is)/\AC w0 H ((xb+1,SB i b5 c5 b6 c6 b7 c7)::(xb,TE s)::L) W) ?_ ?_
 .intro K key;simp only[CN,vY,ul,ui,vW,vj];intro K1 bf;go_wp2_with fail;intro K2 bd;go_wp2_with fail;intro K3 hK3;go_wp2_with fail;intro K4 hK4;refine Da (F:=λw'=>Code.wp _ _ _ _ w') m3 ?_;clear es m3;intro wr mr;have es:=mr.e16;have HS:=A5 hs;clear hs;have HKEY:=A5 key;clear key;rcases HS.out with hn|HS
  .clear HS;have ae:((s.name:Int)==0)=true:=Fp;have HN:=A5 hn;clear hn;go_wp2_with fail;(try simp only[LK]);exact HKEY.out _ _ ⟨Z,Z,Z,Z,Z,Z,congrArg (λz=>O (Y I z)) iA,congrArg (λz=>O (N z)) (by have h1:=HIS.out;have h2:=HN.out;unfold PG at h1;simp only[h2] at h1;exact(kp i.name).trans h1),mr⟩
  rcases HS with hn|HS
  .clear HS;have ae:((s.name:Int)==0)=false:=bF A0;have ag:((s.name:Int)==1)=true:=Fp;have HN:=A5 hn;clear hn;go_wp2_with (go_at_call 290;refine(UA _ HI.out.1.name _).mono ?_;rintro e w4 ⟨rfl,rfl⟩);(try simp only[LK]);exact lT
  rcases HS with hn|HS
  .clear HS;have ae:((s.name:Int)==0)=false:=bF A0;have ag:((s.name:Int)==1)=false:=bF A0;have ah:((s.name:Int)==3)=true:=Fp;have HN:=A5 hn;clear hn;go_wp2_with fail;clear es;refine B1 mr [VK (M (O ⟨fb,0,X⟩)),VK (M (O ⟨fb,0,X⟩)),VK (M (O ⟨fb,8,X⟩)),VK (.map (O q5)),VK (M (O ⟨xb+1,5,X⟩)),VK (U i.name),VK (Y I (Ev i.name)),VK (M (O ⟨fb,0,X⟩)),VK (M (O ⟨fb,0,X⟩)),VK (M (O ⟨fb,8,X⟩)),VK (.map (O q5)),VK (M (O ⟨xb+1,5,X⟩)),VK (U i.name),VK (Y I (Ev i.name)),VK (N (T (0<Ev i.name))),VK (Y I (Ev i.name))] (nf 16) ?_ ?_
   .exact⟨AA,AA,AA,Kn,AA,EZ,jT,AA,AA,AA,Kn,AA,EZ,jT,AA,AA,trivial⟩
   .intro bs wd hb md;replace md:=AC.like0 mr md;(try simp only[ul,ui] at md);simp only[ur,uu,Nat.reduceAdd,uy,um,un];clear hb;go_wp2_with fail;(try simp only[LK]);exact HKEY.out _ _ ⟨Z,Z,Z,Z,Z,Z,congrArg (λz=>O (Y I z)) (by have h1:=HMANY.out;have h2:=HN.out;unfold Nc at h1;rw[p_ h2] at h1;exact h1),congrArg (λz=>O (N z)) fU,md⟩
  rcases HS with hn|HS
  .clear HS;have ae:((s.name:Int)==0)=false:=bF A0;have ag:((s.name:Int)==1)=false:=bF A0;have ah:((s.name:Int)==3)=false:=bF A0;have aq:((s.name:Int)==5)=true:=Fp;have HN:=A5 hn;clear hn;go_wp2_with (go_at_call 226;refine(GF _ HI.out.1.name _).mono ?_;rintro e w4 ⟨rfl,rfl⟩);(try simp only[LK]);exact lT
  rcases HS with hn|HS
  .clear HS;have ae:((s.name:Int)==0)=false:=bF A0;have ag:((s.name:Int)==1)=false:=bF A0;have ah:((s.name:Int)==3)=false:=bF A0;have aq:((s.name:Int)==5)=false:=bF A0;have HN:=A5 hn;clear hn;go_wp2_with fail;clear es;refine B1 mr [VK (M (O ⟨fb,0,X⟩)),VK (M (O ⟨fb,0,X⟩)),VK (M (O ⟨fb,6,X⟩)),VK (.map (O q3)),VK (M (O ⟨xb,3,X⟩)),VK (Y .u8 s.name),VK (mc),VK (M (O ⟨xb+1,5,X⟩)),VK (U i.name),VK (N (IU (x.k.map AK.name) i.name))] (nf 10) ?_ ?_
   .refine⟨AA,AA,AA,Kn,AA,EZ,?_,AA,EZ,?_,trivial⟩
    ·(refine Al.vk Z λbs w hb m=>?_);have hl:=HL3.out 4 s.name mc EU Pn w _ m;exact AT
    ·(refine Al.vk Z λbs w hb m=>?_);have hl:=HL4.out _ _ (HG.out.1) w _ m;exact AT
   .exact Yf
  rcases HS with hn|HS
  .clear HS;have ae:((s.name:Int)==0)=false:=bF A0;have ag:((s.name:Int)==1)=false:=bF A0;have ah:((s.name:Int)==3)=false:=bF A0;have aq:((s.name:Int)==5)=false:=bF A0;have HN:=A5 hn;clear hn;go_wp2_with fail;clear es;refine B1 mr [VK (M (O ⟨fb,0,X⟩)),VK (M (O ⟨fb,0,X⟩)),VK (M (O ⟨fb,6,X⟩)),VK (.map (O q3)),VK (M (O ⟨xb,3,X⟩)),VK (Y .u8 s.name),VK (mk),VK (M (O ⟨xb+1,5,X⟩)),VK (U i.name),VK (N (IU (x.c.map Aj.name) i.name))] (nf 10) ?_ ?_
   .refine⟨AA,AA,AA,Kn,AA,EZ,?_,AA,EZ,?_,trivial⟩
    ·(refine Al.vk Z λbs w hb m=>?_);have hl:=HL3.out 6 s.name mk EU Pn w _ m;exact AT
    ·(refine Al.vk Z λbs w hb m=>?_);have hl:=HL4.out _ _ (HG.out.2.1) w _ m;exact AT
   .exact Yf
  rcases HS with hn|HS
  .clear HS;have ae:((s.name:Int)==0)=false:=bF A0;have ag:((s.name:Int)==1)=false:=bF A0;have ah:((s.name:Int)==3)=false:=bF A0;have aq:((s.name:Int)==5)=false:=bF A0;have HN:=A5 hn;clear hn;go_wp2_with fail;clear es;refine B1 mr [VK (M (O ⟨fb,0,X⟩)),VK (M (O ⟨fb,0,X⟩)),VK (M (O ⟨fb,6,X⟩)),VK (.map (O q3)),VK (M (O ⟨xb,3,X⟩)),VK (Y .u8 s.name),VK (ax),VK (M (O ⟨xb+1,5,X⟩)),VK (U i.name),VK (N (IU (x.r) i.name))] (nf 10) ?_ ?_
   .refine⟨AA,AA,AA,Kn,AA,EZ,?_,AA,EZ,?_,trivial⟩
    ·(refine Al.vk Z λbs w hb m=>?_);have hl:=HL3.out 7 s.name ax EU Pn w _ m;exact AT
    ·(refine Al.vk Z λbs w hb m=>?_);have hl:=HL4.out _ _ (HG.out.2.2.1) w _ m;exact AT
   .exact Yf
  have hn:=HS;clear HS;have ae:((s.name:Int)==0)=false:=bF A0;have ag:((s.name:Int)==1)=false:=bF A0;have ah:((s.name:Int)==3)=false:=bF A0;have aq:((s.name:Int)==5)=false:=bF A0;have HN:=A5 hn;clear hn;go_wp2_with fail;clear es;refine B1 mr [VK (M (O ⟨fb,0,X⟩)),VK (M (O ⟨fb,0,X⟩)),VK (M (O ⟨fb,6,X⟩)),VK (.map (O q3)),VK (M (O ⟨xb,3,X⟩)),VK (Y .u8 s.name),VK (md0),VK (M (O ⟨xb+1,5,X⟩)),VK (U i.name),VK (N (IU (x.d.map AF.name) i.name))] (nf 10) ?_ ?_
  .refine⟨AA,AA,AA,Kn,AA,EZ,?_,AA,EZ,?_,trivial⟩
   ·(refine Al.vk Z λbs w hb m=>?_);have hl:=HL3.out 2 s.name md0 EU Pn w _ m;exact AT
   ·(refine Al.vk Z λbs w hb m=>?_);have hl:=HL4.out _ _ (HG.out.2.2.2) w _ m;exact AT
  .exact Yf
 .rintro⟨tm,df⟩ W ⟨bb,lC,a0,a4,a5,a6,a7,a8,m6⟩;simp only at bb lC a0 a4 a5 a6 a7 a8;subst bb;obtain⟨u,hu⟩:=Ii tm lC;simp only[ut,List.range.loop,wH] at hu;subst hu;clear lC;have a0:u 0= M (O ⟨fb,0,X⟩):=Option.some.inj a0;have a4:u 4= M (O ⟨xb,0,X⟩):=Option.some.inj a4;have a5:u 5= M (O ⟨xb+1,0,X⟩):=Option.some.inj a5;have a6:u 6= N false:=Option.some.inj a6;have a7:u 7= Y I many:=Option.some.inj a7;have a8:u 8= N is:=Option.some.inj a8;clear es m3;have es:=m6.e16;simp only[CN,vY,ul,ui,um,un];intro K1 bf;go_wp2_with fail;intro K2 bd;have bk:=A5 HI.out.1;by_cases hn:i.op=15
  .have aa:=HRES.out;unfold Ed at aa;rw[p_ hn,HIS.out] at aa;have af:((i.op:Int)==15)=true:=Fp;have HN:=A5 hn;clear hn;generalize ak:Fw (DQ x.k) i.name=mz at*;have HR:=A5 aa;have bg:=A5 ak;clear aa ak;go_wp2_with fail;clear es;refine B1 m6 [VK (M (O ⟨fb,0,X⟩)),VK (M (O ⟨fb,0,X⟩)),VK (M (O ⟨fb,4,X⟩)),VK (.map (O q1)),VK (M (O ⟨xb+1,5,X⟩)),VK (U i.name),VK (Y I mz)] (nf 7) ?_ ?_
   .refine⟨AA,AA,AA,Kn,AA,EZ,?_,trivial⟩
    ·(refine Al.vk Z λbs w hb m=>?_);have hl:=HL1.out w _ m;exact AT
   .exact pg
  have ao:=hn;clear hn;by_cases hn:i.op=18
  .have aa:=HRES.out;unfold Ed at aa;rw[n_ ao,p_ hn,HIS.out] at aa;have af:((i.op:Int)==15)=false:=bF A0;have ai:((i.op:Int)==18)=true:=Fp;have HN:=A5 hn;clear hn;generalize ak:Fw (EL x.c) i.name=mz at*;have HR:=A5 aa;have bg:=A5 ak;clear aa ak;go_wp2_with fail;clear es;refine B1 m6 [VK (M (O ⟨fb,0,X⟩)),VK (M (O ⟨fb,0,X⟩)),VK (M (O ⟨fb,5,X⟩)),VK (.map (O q2)),VK (M (O ⟨xb+1,5,X⟩)),VK (U i.name),VK (Y I mz)] (nf 7) ?_ ?_
   .refine⟨AA,AA,AA,Kn,AA,EZ,?_,trivial⟩
    ·(refine Al.vk Z λbs w hb m=>?_);have hl:=bh.out w _ m;exact AT
   .exact pg
  have au:=hn;clear hn;by_cases hn:i.op=13
  .have aa:=HRES.out;unfold Ed at aa;rw[n_ ao,n_ au,p_ hn,HIS.out] at aa;have af:((i.op:Int)==15)=false:=bF A0;have ai:((i.op:Int)==18)=false:=bF A0;have av:((i.op:Int)==13)=true:=Fp;clear hn ao au;by_cases hm:i.m=1
   .rw[p_ hm] at aa;have z0:(i.m==1)=true:=beq_iff_eq.2 hm;clear hm;have HR:=A5 aa;clear aa;go_wp2_with fail;clear es;cases ar:IU (x.d.map AF.name) i.name
    .have HCD:=A5 ar;clear ar;refine B1 m6 [VK (M (O ⟨fb,0,X⟩)),VK (M (O ⟨fb,0,X⟩)),VK (M (O ⟨fb,6,X⟩)),VK (.map (O q3)),VK (md0),VK (M (O ⟨xb+1,5,X⟩)),VK (U i.name),VK (N G),VK (N G),SK,SK,SK,SK,VK (N G)] (nf 14) ?_ ?_
     .exact⟨AA,AA,AA,Kn,hM,AA,EZ,jl,AA,Ak,Ak,Ak,Ak,AA,trivial⟩
     .intro bs wd hb md;replace md:=AC.like0 m6 md;(try simp only[ul,ui] at md);simp only[ur,uu,Nat.reduceAdd,uy,um,un];clear hb;go_wp2_with fail;go_ret;exact⟨A8 (by rw[<-HR.out,HCD.out];rfl),md.drop.drop⟩
    .have HCD:=A5 ar;clear ar;refine B1 m6 [VK (M (O ⟨fb,0,X⟩)),VK (M (O ⟨fb,0,X⟩)),VK (M (O ⟨fb,6,X⟩)),VK (.map (O q3)),VK (md0),VK (M (O ⟨xb+1,5,X⟩)),VK (U i.name),VK (N B),VK (N B),VK (M (O ⟨xb+1,2,X⟩)),VK (V b5 i.args.length c5),VK (Y I i.args.length),VK (N (T ((i.args.length:Int)<=6))),VK (N (T ((i.args.length:Int)<=6)))] (nf 14) ?_ ?_
     .exact⟨AA,AA,AA,Kn,hM,AA,EZ,jl,AA,Yh,Yh,Yh,Yh,AA,trivial⟩
     .intro bs wd hb md;replace md:=AC.like0 m6 md;(try simp only[ul,ui] at md);simp only[ur,uu,Nat.reduceAdd,uy,um,un];clear hb;go_wp2_with fail;go_ret;exact⟨A8 (by rw[<-HR.out,HCD.out];rw[vF];exact decide_eq_decide.2 A0),md.drop.drop⟩
   .rw[n_ hm] at aa;have z0:(i.m==1)=false:=bF hm;clear hm;have HR:=A5 aa;clear aa;cases is
    .go_wp2_with fail;go_ret;exact⟨A8 (by rw[<-HR.out];rfl),m6.drop.drop⟩
    .go_wp2_with (go_at_call 229;refine(Ad _ _ _ _).mono ?_;rintro e w3 ⟨rfl,rfl⟩);go_ret;exact⟨A8 (by rw[<-HR.out,vF];simp[F6]),m6.drop.drop⟩
  have aa:=HRES.out;unfold Ed at aa;rw[n_ ao,n_ au,n_ hn,HIS.out,HMANY.out] at aa;have af:((i.op:Int)==15)=false:=bF A0;have ai:((i.op:Int)==18)=false:=bF A0;have av:((i.op:Int)==13)=false:=bF A0;clear hn ao au;have HR:=A5 aa;clear aa;go_wp2_with fail;intro K3 hK3;cases is
  .go_wp2_with fail;intro K4 hK4;go_wp2_with fail;go_ret;exact⟨A8 (by rw[<-HR.out];rfl),m6.drop.drop⟩
  .by_cases hm1:many= -1
   .have z1:(many== -1)=true:=beq_iff_eq.2 hm1;have HM1:=A5 hm1;clear hm1;go_wp2_with fail;intro K4 hK4;go_wp2_with fail;go_ret;exact⟨A8 (by rw[<-HR.out,HM1.out];rfl),m6.drop.drop⟩
   .have z1:(many== -1)=false:=bF hm1;have HM1:=A5 hm1;clear hm1;go_wp2_with fail;intro K4 hK4;go_wp2_with fail;go_ret;exact⟨A8 nQ,m6.drop.drop⟩
def SX (l:List FF) (mV many:Int) (k:Nat):Bool:=match l[k]? with
 |some w=>Mu w mV many (T (k+1=l.length))
 |none=>B
theorem gE {l:List FF} {mV many:Int} (hk:k<l.length) (h:SX l mV many k=G):Eu l mV many=false:=by unfold Eu;exact List.all_eq_false.2 ⟨k,vR.2 hk,by show ¬SX l mV many k=B;rw[h];simp⟩
theorem aD {l:List FF} {mV many:Int} (h:∀j,j<l.length->SX l mV many j=B):Eu l mV many=true:=by unfold Eu;exact vJ.2 λj hj=>h j (vR.1 hj)
theorem Qr (c:AF) (l:List FF) (b8:Option Addr) (c8:Nat) (vw:V_) (fv:V_) (hreg:0<=c.g/\c.g<=9223372036854775807) (hins:(c.i.length:Int)<=9223372036854775807) (m:AC w0 H L w) (hv:AX Iw H vw l):K_ uh 274 #[fv,Gm c (V b8 c.i.length c8),vw] w (Bv w0 H L (N (Eu l c.g c.i.length&&F6 l.length 1 4))):=by
 have HV:=A5 hv;obtain⟨b,cc,rfl,bd,au,_,_⟩:=hv;have au:=A9 au;have m1:=m.alloc (At c (V b8 c.i.length c8));generalize az:w.heap.size=xb at*;unfold Gm;have bc:IntKind.i64.wrap (c.g-1)=c.g-1:=IntWalk.i64_in _ A0;have bb:IntKind.i64.wrap ((c.i.length:Int)-1)=(c.i.length:Int)-1:=IntWalk.i64_in _ A0;have ba:IntKind.i64.wrap ((l.length:Int)-1)=(l.length:Int)-1:=IntWalk.i64_in _ A0;generalize ae:(Eu l c.g c.i.length&&F6 l.length 1 4)=res;have HRES:=A5 ae;clear ae;have es:=m1.e14;go_enter func274,ntmps274;go_wp2_with fail;clear es;(go_loopw [12] (λah wr=>∃k:Nat,k<=l.length/\ah= Y I k/\Hid (∀j,j<k->SX l c.g c.i.length j=B)/\AC w0 H ((xb,At c (V b8 c.i.length c8))::L) wr) (λah _=>l.length-(intOf ah).toNat));case atStart=>exact⟨0,uz _,Z,A5 (λj hj=>a_ hj A0),m1⟩
 case round=>
  clear m1;obtain⟨k,hk,rfl,HA,mk⟩:=hrel;by_cases lg:k<l.length
  .have lJ:(k:Int)<l.length:=A0;have hx:=uq lg;have HW:=A5 (show SX l c.g c.i.length k=Mu l[k] c.g c.i.length (T (k+1=l.length)) by unfold SX;rw[hx]);generalize l[k]=y at*;obtain⟨lu,off,rfl,f0,f1,f2,f3,f4,lz⟩:=HV.out.getWay hx;clear hx;have d0:=f0.cell mk;have d1:=f1.cell mk;have d2:=f2.cell mk;have d3:=f3.cell mk;have d4:=f4.cell mk;clear f0 f1 f2 f3 f4;have mS:=mk.alloc (C #[Y .u8 y.kind,Y I y.chan,Y I y.value,Y I y.to,Y I y.go] 198);have es:=mS.e14;obtain⟨g1,ar⟩:∃b,T (0<=y.go/\y.go<=(c.i.length:Int)-1)=b:=⟨_,Z⟩;obtain⟨g2,aq⟩:∃b,T (0<=y.chan/\y.chan<=c.g-1)=b:=⟨_,Z⟩;obtain⟨g3,ao⟩:∃b,T (0<=y.value/\y.value<=c.g-1)=b:=⟨_,Z⟩;obtain⟨g4,an⟩:∃b,T (0<=y.to/\y.to<=c.g-1)=b:=⟨_,Z⟩;have G1:=A5 ar;have G2:=A5 aq;have G3:=A5 ao;have G4:=A5 an;clear ar aq ao an;unfold Mu F6 at HW;by_cases hn:y.kind=1
   .have ag:((y.kind:Int)==1)=true:=Fp;have HN:=A5 hn;clear hn;cases g1
    .exact j3
    .skip;cases g2
     .exact j3
     .skip;cases g3
      .exact j3
      .skip;by_cases zto:y.to= -1;rotate_left
       .have aj:(y.to== -1)=false:=bF zto;have HB:Hid ((T (0<=y.go/\y.go<=(c.i.length:Int)-1)&&(if y.kind=1 then T (0<=y.chan/\y.chan<=c.g-1)&&(T (0<=y.value/\y.value<=c.g-1)&&T (y.to= -1)) else if y.kind=2 then T (0<=y.chan/\y.chan<=c.g-1)&&(T (y.value=0)&&T (0<=y.to/\y.to<=c.g-1)) else T (y.kind=3)&&(T (y.chan=0)&&(T (y.value=0)&&(T (y.to= -1)&&T (k+1=l.length))))))=G):=A5 (by rw[G1.out,G2.out,G3.out,G4.out];rw[p_ HN.out];simp[zto]);exact uE
       have aj:(y.to== -1)=true:=beq_iff_eq.2 zto;have Zto:=A5 zto;clear zto;have HB:Hid ((T (0<=y.go/\y.go<=(c.i.length:Int)-1)&&(if y.kind=1 then T (0<=y.chan/\y.chan<=c.g-1)&&(T (0<=y.value/\y.value<=c.g-1)&&T (y.to= -1)) else if y.kind=2 then T (0<=y.chan/\y.chan<=c.g-1)&&(T (y.value=0)&&T (0<=y.to/\y.to<=c.g-1)) else T (y.kind=3)&&(T (y.chan=0)&&(T (y.value=0)&&(T (y.to= -1)&&T (k+1=l.length))))))=B):=A5 (by rw[G1.out,G2.out,G3.out,G4.out];rw[p_ HN.out];simp[Zto.out]);go_wp2_with (go_at_call 229;refine(Ad _ _ _ _).mono ?_;rintro e w3 ⟨rfl,rfl⟩;first|rw[G1.out]|rw[G2.out]|rw[G3.out]|rw[G4.out]);exact jG
   have N1:=hn;clear hn;by_cases hn:y.kind=2
   .have ag:((y.kind:Int)==1)=false:=bF A0;have ak:((y.kind:Int)==2)=true:=Fp;have HN:=A5 hn;clear hn;cases g1
    .exact uZ
    .skip;cases g2
     .exact uZ
     .skip;by_cases zva:y.value=0;rotate_left
      .have ai:(y.value==0)=false:=bF zva;have HB:Hid ((T (0<=y.go/\y.go<=(c.i.length:Int)-1)&&(if y.kind=1 then T (0<=y.chan/\y.chan<=c.g-1)&&(T (0<=y.value/\y.value<=c.g-1)&&T (y.to= -1)) else if y.kind=2 then T (0<=y.chan/\y.chan<=c.g-1)&&(T (y.value=0)&&T (0<=y.to/\y.to<=c.g-1)) else T (y.kind=3)&&(T (y.chan=0)&&(T (y.value=0)&&(T (y.to= -1)&&T (k+1=l.length))))))=G):=A5 (by rw[G1.out,G2.out,G3.out,G4.out];rw[n_ EU,p_ HN.out];simp[zva]);exact so
      have ai:(y.value==0)=true:=beq_iff_eq.2 zva;have Zva:=A5 zva;clear zva;cases g4
      .have HB:Hid ((T (0<=y.go/\y.go<=(c.i.length:Int)-1)&&(if y.kind=1 then T (0<=y.chan/\y.chan<=c.g-1)&&(T (0<=y.value/\y.value<=c.g-1)&&T (y.to= -1)) else if y.kind=2 then T (0<=y.chan/\y.chan<=c.g-1)&&(T (y.value=0)&&T (0<=y.to/\y.to<=c.g-1)) else T (y.kind=3)&&(T (y.chan=0)&&(T (y.value=0)&&(T (y.to= -1)&&T (k+1=l.length))))))=G):=A5 nz;go_wp2_with (go_at_call 229;refine(Ad _ _ _ _).mono ?_;rintro e w3 ⟨rfl,rfl⟩;first|rw[G1.out]|rw[G2.out]|rw[G3.out]|rw[G4.out]);exact QF
      .skip;have HB:Hid ((T (0<=y.go/\y.go<=(c.i.length:Int)-1)&&(if y.kind=1 then T (0<=y.chan/\y.chan<=c.g-1)&&(T (0<=y.value/\y.value<=c.g-1)&&T (y.to= -1)) else if y.kind=2 then T (0<=y.chan/\y.chan<=c.g-1)&&(T (y.value=0)&&T (0<=y.to/\y.to<=c.g-1)) else T (y.kind=3)&&(T (y.chan=0)&&(T (y.value=0)&&(T (y.to= -1)&&T (k+1=l.length))))))=B):=A5 nz;go_wp2_with (go_at_call 229;refine(Ad _ _ _ _).mono ?_;rintro e w3 ⟨rfl,rfl⟩;first|rw[G1.out]|rw[G2.out]|rw[G3.out]|rw[G4.out]);exact jG
   have N2:=hn;clear hn;by_cases hn:y.kind=3
   .have ag:((y.kind:Int)==1)=false:=bF A0;have ak:((y.kind:Int)==2)=false:=bF A0;have aw:((y.kind:Int)==3)=true:=Fp;have HN:=A5 hn;clear hn;cases g1
    .have HB:Hid ((T (0<=y.go/\y.go<=(c.i.length:Int)-1)&&(if y.kind=1 then T (0<=y.chan/\y.chan<=c.g-1)&&(T (0<=y.value/\y.value<=c.g-1)&&T (y.to= -1)) else if y.kind=2 then T (0<=y.chan/\y.chan<=c.g-1)&&(T (y.value=0)&&T (0<=y.to/\y.to<=c.g-1)) else T (y.kind=3)&&(T (y.chan=0)&&(T (y.value=0)&&(T (y.to= -1)&&T (k+1=l.length))))))=G):=A5 (by rw[G1.out,G2.out,G3.out,G4.out];rw[n_ EU,n_ EU,t_ HN.out];simp[]);go_wp2_with (go_at_call 229;refine(Ad _ _ _ _).mono ?_;rintro e w3 ⟨rfl,rfl⟩;first|rw[G1.out]|rw[G2.out]|rw[G3.out]|rw[G4.out]);exact QF
    .skip;by_cases aa:y.chan=0;rotate_left
     .have ay:(y.chan==0)=false:=bF aa;have HB:Hid ((T (0<=y.go/\y.go<=(c.i.length:Int)-1)&&(if y.kind=1 then T (0<=y.chan/\y.chan<=c.g-1)&&(T (0<=y.value/\y.value<=c.g-1)&&T (y.to= -1)) else if y.kind=2 then T (0<=y.chan/\y.chan<=c.g-1)&&(T (y.value=0)&&T (0<=y.to/\y.to<=c.g-1)) else T (y.kind=3)&&(T (y.chan=0)&&(T (y.value=0)&&(T (y.to= -1)&&T (k+1=l.length))))))=G):=A5 (by rw[G1.out,G2.out,G3.out,G4.out];rw[n_ EU,n_ EU,t_ HN.out];simp[aa]);have af:=A5 aa;clear aa;go_wp2_with (go_at_call 229;refine(Ad _ _ _ _).mono ?_;rintro e w3 ⟨rfl,rfl⟩;first|rw[G1.out]|rw[G2.out]|rw[G3.out]|rw[G4.out]);exact QF
     have ay:(y.chan==0)=true:=beq_iff_eq.2 aa;have af:=A5 aa;clear aa;by_cases zva:y.value=0;rotate_left
     .have ai:(y.value==0)=false:=bF zva;have HB:Hid ((T (0<=y.go/\y.go<=(c.i.length:Int)-1)&&(if y.kind=1 then T (0<=y.chan/\y.chan<=c.g-1)&&(T (0<=y.value/\y.value<=c.g-1)&&T (y.to= -1)) else if y.kind=2 then T (0<=y.chan/\y.chan<=c.g-1)&&(T (y.value=0)&&T (0<=y.to/\y.to<=c.g-1)) else T (y.kind=3)&&(T (y.chan=0)&&(T (y.value=0)&&(T (y.to= -1)&&T (k+1=l.length))))))=G):=A5 (by rw[G1.out,G2.out,G3.out,G4.out];rw[n_ EU,n_ EU,t_ HN.out];simp[af.out,zva]);exact so
     have ai:(y.value==0)=true:=beq_iff_eq.2 zva;have Zva:=A5 zva;clear zva;by_cases zto:y.to= -1;rotate_left
     .have aj:(y.to== -1)=false:=bF zto;have HB:Hid ((T (0<=y.go/\y.go<=(c.i.length:Int)-1)&&(if y.kind=1 then T (0<=y.chan/\y.chan<=c.g-1)&&(T (0<=y.value/\y.value<=c.g-1)&&T (y.to= -1)) else if y.kind=2 then T (0<=y.chan/\y.chan<=c.g-1)&&(T (y.value=0)&&T (0<=y.to/\y.to<=c.g-1)) else T (y.kind=3)&&(T (y.chan=0)&&(T (y.value=0)&&(T (y.to= -1)&&T (k+1=l.length))))))=G):=A5 (by rw[G1.out,G2.out,G3.out,G4.out];rw[n_ EU,n_ EU,t_ HN.out];simp[af.out,Zva.out,zto]);exact uE
     have aj:(y.to== -1)=true:=beq_iff_eq.2 zto;have Zto:=A5 zto;clear zto;by_cases ad:k+1=l.length;rotate_left
     .have ax:((k:Int)==(l.length:Int)-1)=false:=bF (λe=>ad A0);have HB:Hid ((T (0<=y.go/\y.go<=(c.i.length:Int)-1)&&(if y.kind=1 then T (0<=y.chan/\y.chan<=c.g-1)&&(T (0<=y.value/\y.value<=c.g-1)&&T (y.to= -1)) else if y.kind=2 then T (0<=y.chan/\y.chan<=c.g-1)&&(T (y.value=0)&&T (0<=y.to/\y.to<=c.g-1)) else T (y.kind=3)&&(T (y.chan=0)&&(T (y.value=0)&&(T (y.to= -1)&&T (k+1=l.length))))))=G):=A5 (by rw[G1.out,G2.out,G3.out,G4.out];rw[n_ EU,n_ EU,t_ HN.out];simp[af.out,Zva.out,Zto.out,ad]);have av:=A5 ad;clear ad;go_wp2_with (go_at_call 229;refine(Ad _ _ _ _).mono ?_;rintro e w3 ⟨rfl,rfl⟩;first|rw[G1.out]|rw[G2.out]|rw[G3.out]|rw[G4.out]);exact QF
     have ax:((k:Int)==(l.length:Int)-1)=true:=beq_iff_eq.2 A0;have av:=A5 ad;clear ad;have HB:Hid ((T (0<=y.go/\y.go<=(c.i.length:Int)-1)&&(if y.kind=1 then T (0<=y.chan/\y.chan<=c.g-1)&&(T (0<=y.value/\y.value<=c.g-1)&&T (y.to= -1)) else if y.kind=2 then T (0<=y.chan/\y.chan<=c.g-1)&&(T (y.value=0)&&T (0<=y.to/\y.to<=c.g-1)) else T (y.kind=3)&&(T (y.chan=0)&&(T (y.value=0)&&(T (y.to= -1)&&T (k+1=l.length))))))=B):=A5 (by rw[G1.out,G2.out,G3.out,G4.out];rw[n_ EU,n_ EU,t_ HN.out];simp[af.out,Zva.out,Zto.out,av.out]);go_wp2_with (go_at_call 229;refine(Ad _ _ _ _).mono ?_;rintro e w3 ⟨rfl,rfl⟩;first|rw[G1.out]|rw[G2.out]|rw[G3.out]|rw[G4.out]);exact jG
   have N3:=hn;clear hn;have ag:((y.kind:Int)==1)=false:=bF A0;have ak:((y.kind:Int)==2)=false:=bF A0;have aw:((y.kind:Int)==3)=false:=bF A0;have HB:Hid ((T (0<=y.go/\y.go<=(c.i.length:Int)-1)&&(if y.kind=1 then T (0<=y.chan/\y.chan<=c.g-1)&&(T (0<=y.value/\y.value<=c.g-1)&&T (y.to= -1)) else if y.kind=2 then T (0<=y.chan/\y.chan<=c.g-1)&&(T (y.value=0)&&T (0<=y.to/\y.to<=c.g-1)) else T (y.kind=3)&&(T (y.chan=0)&&(T (y.value=0)&&(T (y.to= -1)&&T (k+1=l.length))))))=G):=A5 (by rw[G1.out,G2.out,G3.out,G4.out];rw[n_ N1,n_ N2,f_ N3];simp);clear N1 N2 N3;go_wp2_with (go_at_call 229;refine(Ad _ _ _ _).mono ?_;rintro e w3 ⟨rfl,rfl⟩;first|rw[G1.out]|rw[G2.out]|rw[G3.out]|rw[G4.out]);exact QF
  .have hge:¬(k:Int)<l.length:=A0;have HY:=A5 (aD (l:=l) (mV:=c.g) (many:=c.i.length) λj hj=>HA.out j A0);have es:=mk.e14;go_wp2_with (go_at_call 229;refine(Ad _ _ _ _).mono ?_;rintro e w3 ⟨rfl,rfl⟩);go_ret;exact⟨A8 (by rw[<-HRES.out,HY.out,vF];simp[F6]),mk.drop⟩
def EK (c:AF):Bool:=T ((c.i.length:Int)<=2000)&&T (c.g<=250)
theorem UB (c:AF) (sv:V_) (m:AC w0 H L w) (h:AX C1 H sv c.i):K_ uh 170 #[.agg #[U c.name,Y I c.params,Y I c.g,sv]] w (Bv w0 H L (N (EK c))):=by
 obtain⟨b,n,rfl,ad,hx,hr⟩:=h;clear hr;have aa:=A9 hx;have m1:=m.alloc (C #[U c.name,Y I c.params,Y I c.g,V b c.i.length n] 78);have es:=m1.e0;unfold EK;by_cases hn:(c.i.length:Int)<=2000
 .by_cases hr:c.g<=250
  .go_enter func170,ntmps170;go_wp2_with fail;go_ret;exact⟨A8 (by simp[hn,hr]),m1.drop⟩
  .go_enter func170,ntmps170;go_wp2_with fail;go_ret;exact⟨A8 (by simp[hn,hr]),m1.drop⟩
 .go_enter func170,ntmps170;go_wp2_with fail;go_ret;exact⟨A8 (by rw[show T ((c.i.length:Int)<=2000)=G from f_ A0,Bool.false_and]),m1.drop⟩
theorem Jq (c:AF) (sv:V_) (bf:Nat) (m:AC w0 H ((bf,C #[.func (.func 170) #[] #[]] 125)::L) w) (h:AX C1 H sv c.i):K_ uh 218 #[.agg #[U c.name,Y I c.params,Y I c.g,sv],M (O ⟨bf,0,X⟩)] w (Bv w0 H ((bf,C #[.func (.func 170) #[] #[]] 125)::L) (N (!EK c))):=by have HH:=A5 h;clear h;have m1:=m.alloc (C #[U c.name,Y I c.params,Y I c.g,sv] 78);generalize hq:EK c=q;have HQ:=A5 hq;clear hq;have es:=m1.e0;go_enter func218,ntmps218;go_wp2_with fail;refine(UB c sv m1 HH.out).mono ?_;exact PY
theorem KV (v:V_) (xs:List AF) (bf:Nat) (m:AC w0 H ((bf,C #[.func (.func 170) #[] #[]] 125)::L) w) (hv:AX Ch H v xs):K_ uh 73 #[v,.func (.func 218) #[] #[M (O ⟨bf,0,X⟩)]] w (Me w0 H ((bf,C #[.func (.func 170) #[] #[]] 125)::L) (!xs.all EK)):=by
 have HV:=A5 hv;obtain⟨b,c,rfl,ad,aa,_,_⟩:=hv;have aa:=A9 aa;go_enter func73,ntmps73;go_wp2_with fail;(go_loopw [5,8] (λ_ i wr=>∃k:Nat,k<=xs.length/\i= Y I k/\(xs.take k).all EK=B/\AC w0 H ((bf,C #[.func (.func 170) #[] #[]] 125)::L) wr) (λ_ i _=>xs.length-(intOf i).toNat));case atStart=>exact⟨0,uz _,Z,Z,m⟩
 case round=>
  clear m;obtain⟨k,hk,rfl,ly,m⟩:=hrel;have HA:=A5 ly;clear ly;by_cases lg:k<xs.length
  .have hx:=uq lg;generalize hy:xs[k]=y at hx;obtain⟨lu,off,sv,rfl,q1,q2,q3,q4,q5,q6⟩:=HV.out.getCode hx;clear hx;have ad:=q1.cell m;have aa:=q2.cell m;have af:=q3.cell m;have ae:=q4.cell m;cases hq:EK y
   .have HQ:=A5 hq;clear hq;have HY:=A5 hy;clear hy;go_wp2_with fail;refine(Jq y sv bf m q5).mono ?_;rw[HQ.out];rintro e w2 ⟨rfl,m2⟩;go_wp2_with fail;go_ret;refine⟨_,Z,?_,m2⟩;rw[show xs.all EK=G from B4 _ xs k lg Rc];simp
   .have HQ:=A5 hq;clear hq;have HY:=A5 hy;clear hy;go_wp2_with fail;refine(Jq y sv bf m q5).mono ?_;exact Rt
  .go_wp2_with fail;exact NO
theorem IP (v:V_) (xs:List AF) (bf:Nat) (m:AC w0 H ((bf,C #[.func (.func 170) #[] #[]] 125)::L) w) (hv:AX Ch H v xs):K_ uh 133 #[v,.func (.func 218) #[] #[M (O ⟨bf,0,X⟩)]] w (Bv w0 H ((bf,C #[.func (.func 170) #[] #[]] 125)::L) (N (!xs.all EK))):=by go_enter func133,ntmps133;go_wp2_with (go_at_call 73;refine(KV v xs bf m hv).mono ?_;rintro e w' ⟨k,rfl,hk,m2⟩;have HK:=A5 hk;clear hk);exact IW
theorem RQ (v:V_) (xs:List AF) (m:AC w0 H L w) (hv:AX Ch H v xs):K_ uh 169 #[v,.func (.func 170) #[] #[]] w (Bv w0 H L (N (xs.all EK))):=by have HV:=A5 hv;clear hv;go_enter func169,ntmps169;have m1:=m.alloc (C #[.func (.func 170) #[] #[]] 125);go_wp2_with fail;refine(IP v xs _ m1 HV.out).mono ?_;exact Ms
def IM (x:AI):Bool:=T ((x.k.length:Int)>40)||(T ((x.c.length:Int)>40)||(T ((x.r.length:Int)>40)||(T ((x.d.length:Int)>80)|| !x.d.all EK)))
theorem WC (x:AI) (vc vk vr vd:V_) (m:AC w0 H L w) (hx:Bz H x vc vk vr vd):K_ uh 122 #[.agg #[vc,vk,vr,vd]] w (Bv w0 H L (N (IM x))):=by
 have HX:=A5 hx;obtain⟨b1,c1,b2,c2,b3,c3,b4,c4,rfl,rfl,rfl,rfl,l1,l2,l3,l4⟩:=hx.shapes;clear hx;have m1:=m.alloc (IB x b1 c1 b2 c2 b3 c3 b4 c4);have es:=m1.e1;generalize aa:IM x=res;have HRES:=A5 aa;clear aa;go_enter func122,ntmps122;by_cases h1:(x.k.length:Int)>40
 .go_wp2_with fail;go_ret;exact⟨A8 (by rw[<-HRES.out];simp[IM,h1]),m1.drop⟩
 by_cases h2:(x.c.length:Int)>40
 .go_wp2_with fail;go_ret;exact⟨A8 (by rw[<-HRES.out];simp[IM,h2]),m1.drop⟩
 by_cases h3:(x.r.length:Int)>40
 .go_wp2_with fail;go_ret;exact⟨A8 (by rw[<-HRES.out];simp[IM,h3]),m1.drop⟩
 by_cases h4:(x.d.length:Int)>80
 .go_wp2_with fail;go_ret;exact⟨A8 (by rw[<-HRES.out];simp[IM,h4]),m1.drop⟩
 .have hr:(!x.d.all EK)=res:=(by rw[<-HRES.out];simp[IM,h1,h2,h3,h4]);have HR:=A5 hr;clear hr;go_wp2_with (refine(RQ (V b4 x.d.length c4) x.d m1 HX.out.d).mono ?_;rintro e w2 ⟨rfl,m2⟩);go_ret;exact⟨A8 HR.out,m2.drop⟩
theorem ST (n mV:Int) (cb:Nat) (hr:0<=mV/\mV<=9223372036854775807) (w:W_) (h:w.cell? ⟨cb,2,X⟩=O (Y I mV)):K_ uh 271 #[Y I n,M (O ⟨cb,0,X⟩)] w λe w'=>e= .returned (N (F6 n 0 (mV-1)))/\w=w':=by have hw:IntKind.i64.wrap (mV-1)=mV-1:=IntWalk.i64_in _ A0;go_enter func271,ntmps271;go_wp2_with (go_at_call 229;refine(Ad _ _ _ _).mono ?_;rintro e w3 ⟨rfl,rfl⟩);go_ret;exact⟨A8 (by simp[F6]),Z⟩
theorem Vx (n:Int) (many:Nat) (sb:Option Addr) (sc:Nat) (cb:Nat) (hm:many<=9223372036854775807) (w:W_) (h:w.cell? ⟨cb,3,X⟩=O (V sb many sc)):K_ uh 272 #[Y I n,M (O ⟨cb,0,X⟩)] w λe w'=>e= .returned (N (F6 n 0 (many-1)))/\w=w':=by have hw:IntKind.i64.wrap ((many:Int)-1)=(many:Int)-1:=IntWalk.i64_in _ A0;go_enter func272,ntmps272;go_wp2_with (go_at_call 229;refine(Ad _ _ _ _).mono ?_;rintro e w3 ⟨rfl,rfl⟩);go_ret;exact⟨A8 (by simp[F6]),Z⟩
theorem MB (p:Int->Bool) (n:Int) (cb bf:Nat) (w:W_) (hf:w.cell? ⟨bf,0,X⟩=O (.func (.func 271) #[] #[M (O ⟨cb,0,X⟩)])) (hp:K_ uh 271 #[Y I n,M (O ⟨cb,0,X⟩)] w λe w'=>e= .returned (N (p n))/\w=w'):K_ uh 236 #[Y I n,M (O ⟨bf,0,X⟩)] w λe w'=>e= .returned (N (!p n))/\w=w':=by go_enter func236,ntmps236;go_wp2_with (go_at_call 271;refine hp.mono ?_;rintro e w' ⟨rfl,rfl⟩);go_ret;exact⟨Z,Z⟩
theorem MO (p:Int->Bool) (v:V_) (xs:List Int) (cb bf:Nat) (m:AC w0 H L w) (hv:AX AY H v xs) (hf:w.cell? ⟨bf,0,X⟩=O (.func (.func 271) #[] #[M (O ⟨cb,0,X⟩)])) (hp:∀n,K_ uh 271 #[Y I n,M (O ⟨cb,0,X⟩)] w λe w'=>e= .returned (N (p n))/\w=w'):K_ uh 202 #[v,.func (.func 236) #[] #[M (O ⟨bf,0,X⟩)]] w (KI (!xs.all p) w):=by
 have HV:=A5 hv;have HP:=A5 hp;clear hp;obtain⟨b,c,rfl,ad,aa,_,_⟩:=hv;have aa:=A9 aa;go_enter func202,ntmps202;go_wp2;go_loop [5,8] (λ_ i=>∃k:Nat,k<=xs.length/\i= Y I k/\(xs.take k).all p=B) (λ_ i=>xs.length-(intOf i).toNat);case atStart=>exact⟨0,uz _,Z,Z⟩
 case round=>
  obtain⟨k,hk,rfl,ly⟩:=hrel;have HA:=A5 ly;clear ly;by_cases lg:k<xs.length
  .obtain⟨lu,off,rfl,lx,lz⟩:=HV.out.cellV lg;have lx:=lx.cell m;cases hq:p xs[k]
   .have HQ:=A5 hq;go_wp2_with (go_at_call 236;refine(MB p _ cb bf _ hf (HP.out _)).mono ?_;rw[HQ.out];rintro e w' ⟨rfl,rfl⟩);exact cG
   .have HQ:=A5 hq;go_wp2_with (go_at_call 236;refine(MB p _ cb bf _ hf (HP.out _)).mono ?_;rw[HQ.out];rintro e w' ⟨rfl,rfl⟩);go_round;(case rel=>exact⟨k+1,by omega,by go_num,by rw[Bi _ _ _ lg,HA.out,HQ.out];rfl⟩);case measure=>exact BW
  .go_wp2;exact NA
theorem Ji (p:Int->Bool) (v:V_) (xs:List Int) (cb bf:Nat) (m:AC w0 H L w) (hv:AX AY H v xs) (hf:w.cell? ⟨bf,0,X⟩=O (.func (.func 271) #[] #[M (O ⟨cb,0,X⟩)])) (hp:∀n,K_ uh 271 #[Y I n,M (O ⟨cb,0,X⟩)] w λe w'=>e= .returned (N (p n))/\w=w'):K_ uh 145 #[v,.func (.func 236) #[] #[M (O ⟨bf,0,X⟩)]] w λe w'=>e= .returned (N (!xs.all p))/\w=w':=by go_enter func145,ntmps145;go_wp2_with (go_at_call 202;refine(MO p v xs cb bf m hv hf hp).mono ?_;rintro e w' ⟨k,rfl,hk,rfl⟩;have HK:=A5 hk;clear hk);exact Mv
theorem MN (p:Int->Bool) (n:Int) (cb bf:Nat) (w:W_) (hf:w.cell? ⟨bf,0,X⟩=O (.func (.func 272) #[] #[M (O ⟨cb,0,X⟩)])) (hp:K_ uh 272 #[Y I n,M (O ⟨cb,0,X⟩)] w λe w'=>e= .returned (N (p n))/\w=w'):K_ uh 236 #[Y I n,M (O ⟨bf,0,X⟩)] w λe w'=>e= .returned (N (!p n))/\w=w':=by go_enter func236,ntmps236;go_wp2_with (go_at_call 272;refine hp.mono ?_;rintro e w' ⟨rfl,rfl⟩);go_ret;exact⟨Z,Z⟩
theorem MR (p:Int->Bool) (v:V_) (xs:List Int) (cb bf:Nat) (m:AC w0 H L w) (hv:AX AY H v xs) (hf:w.cell? ⟨bf,0,X⟩=O (.func (.func 272) #[] #[M (O ⟨cb,0,X⟩)])) (hp:∀n,K_ uh 272 #[Y I n,M (O ⟨cb,0,X⟩)] w λe w'=>e= .returned (N (p n))/\w=w'):K_ uh 202 #[v,.func (.func 236) #[] #[M (O ⟨bf,0,X⟩)]] w (KI (!xs.all p) w):=by
 have HV:=A5 hv;have HP:=A5 hp;clear hp;obtain⟨b,c,rfl,ad,aa,_,_⟩:=hv;have aa:=A9 aa;go_enter func202,ntmps202;go_wp2;go_loop [5,8] (λ_ i=>∃k:Nat,k<=xs.length/\i= Y I k/\(xs.take k).all p=B) (λ_ i=>xs.length-(intOf i).toNat);case atStart=>exact⟨0,uz _,Z,Z⟩
 case round=>
  obtain⟨k,hk,rfl,ly⟩:=hrel;have HA:=A5 ly;clear ly;by_cases lg:k<xs.length
  .obtain⟨lu,off,rfl,lx,lz⟩:=HV.out.cellV lg;have lx:=lx.cell m;cases hq:p xs[k]
   .have HQ:=A5 hq;go_wp2_with (go_at_call 236;refine(MN p _ cb bf _ hf (HP.out _)).mono ?_;rw[HQ.out];rintro e w' ⟨rfl,rfl⟩);exact cG
   .have HQ:=A5 hq;go_wp2_with (go_at_call 236;refine(MN p _ cb bf _ hf (HP.out _)).mono ?_;rw[HQ.out];rintro e w' ⟨rfl,rfl⟩);go_round;(case rel=>exact⟨k+1,by omega,by go_num,by rw[Bi _ _ _ lg,HA.out,HQ.out];rfl⟩);case measure=>exact BW
  .go_wp2;exact NA
theorem Ju (p:Int->Bool) (v:V_) (xs:List Int) (cb bf:Nat) (m:AC w0 H L w) (hv:AX AY H v xs) (hf:w.cell? ⟨bf,0,X⟩=O (.func (.func 272) #[] #[M (O ⟨cb,0,X⟩)])) (hp:∀n,K_ uh 272 #[Y I n,M (O ⟨cb,0,X⟩)] w λe w'=>e= .returned (N (p n))/\w=w'):K_ uh 145 #[v,.func (.func 236) #[] #[M (O ⟨bf,0,X⟩)]] w λe w'=>e= .returned (N (!xs.all p))/\w=w':=by go_enter func145,ntmps145;go_wp2_with (go_at_call 202;refine(MR p v xs cb bf m hv hf hp).mono ?_;rintro e w' ⟨k,rfl,hk,rfl⟩;have HK:=A5 hk;clear hk);exact Mv
theorem Ua (p:Int->Bool) (v:V_) (xs:List Int) (cb:Nat) (m:AC w0 H L w) (hv:AX AY H v xs) (hp:∀n w',AC w0 H ((w.heap.size,C #[.func (.func 271) #[] #[M (O ⟨cb,0,X⟩)]] 170)::L) w'->K_ uh 271 #[Y I n,M (O ⟨cb,0,X⟩)] w' λe w2=>e= .returned (N (p n))/\w'=w2):K_ uh 190 #[v,.func (.func 271) #[] #[M (O ⟨cb,0,X⟩)]] w (Bv w0 H L (N (xs.all p))):=by have HV:=A5 hv;clear hv;have m1:=m.alloc (C #[.func (.func 271) #[] #[M (O ⟨cb,0,X⟩)]] 170);have HP:=A5 (λn=>hp n _ m1);clear hp;have es:=m1.e0;go_enter func190,ntmps190;go_wp2_with fail;refine(Ji p v xs cb _ m1 HV.out Gd HP.out).mono ?_;exact NU
theorem Ux (p:Int->Bool) (v:V_) (xs:List Int) (cb:Nat) (m:AC w0 H L w) (hv:AX AY H v xs) (hp:∀n w',AC w0 H ((w.heap.size,C #[.func (.func 272) #[] #[M (O ⟨cb,0,X⟩)]] 170)::L) w'->K_ uh 272 #[Y I n,M (O ⟨cb,0,X⟩)] w' λe w2=>e= .returned (N (p n))/\w'=w2):K_ uh 190 #[v,.func (.func 272) #[] #[M (O ⟨cb,0,X⟩)]] w (Bv w0 H L (N (xs.all p))):=by have HV:=A5 hv;clear hv;have m1:=m.alloc (C #[.func (.func 272) #[] #[M (O ⟨cb,0,X⟩)]] 170);have HP:=A5 (λn=>hp n _ m1);clear hp;have es:=m1.e0;go_enter func190,ntmps190;go_wp2_with fail;refine(Ju p v xs cb _ m1 HV.out Gd HP.out).mono ?_;exact NU
theorem PT {β:Type} (f:β->V_) (k:Int):∀l:List (Int×β),BX (l.map λp=>(p.1,f p.2)) k=(PF l k).map f
 |[]=>rfl
 |p::l=>by
  rw[xM,BX,PF]
  by_cases h:p.1=k
  .rw[p_ h,p_ h];rfl
  .rw[n_ h,n_ h];exact PT f k l
theorem Rm {β:Type} {p:β->Bool} {k:Int} {s:β}:∀{l:List (Int×β)},(l.all λe=>p e.2)=B->PF l k=O s->p s=B
 |[],_,h=>by cases h
 |e::l,ha,h=>by
  rw[List.all_cons,uv] at ha
  unfold PF at h
  split at h
  .cases h;exact ha.1
  .exact Rm ha.2 h
theorem V4:(Kq.map vN).Nodup:=by have:Kq.map vN=Uu.map vN:=(by unfold Kq;rw[xN];rfl);rw[this];decide
theorem Yi {sm:List (Int×V_)} (h:sm.Perm Kq) (op:Nat):BX sm (op:Int)=(SM op).map Qh.val:=by rw[PQ h V4];exact PT Qh.val op Uu
theorem jp {op:Nat} {s:Qh} (h:SM op=O s):s.name=0\/s.name=1\/s.name=3\/s.name=5\/s.name=4\/s.name=6\/s.name=7\/s.name=2:=by have:=Rm (p:=λs=>T (s.name=0\/s.name=1\/s.name=3\/s.name=5\/s.name=4\/s.name=6\/s.name=7\/s.name=2)) AD h;simpa using this
theorem r9 (n:Nat):((n:Int)==0)=T (n=0):=by
 by_cases h:n=0
 .subst h;rfl
 .rw[f_ h];exact bF A0
def Uj (s:Qh) (x:AI) (c:AF) (i:Bu):Bool:=
 Ed x s i&&(i.args.all (λr=>F6 r 0 (c.g-1))&&(i.go.all (λp=>F6 p 0 (c.i.length-1))&&(T ((i.go.length:Int)=s.places)&&
 ((if s.to=B then F6 i.to 0 (c.g-1) else T (i.to= -1))&&((if s.number=B then F6 i.n s.low s.high else T (i.n=0))&&
 (T (i.m=0\/(i.op=13/\i.m=1))&&(if s.w=B then Eu i.w c.g c.i.length&&F6 i.w.length 1 4 else T (i.w.length=0))))))))
def FU (x:AI) (c:AF) (i:Bu):Bool:=(SM i.op).isSome&&Uj ((SM i.op).getD GO) x c i
theorem WJ (x:AI) (c:AF) (i:Bu) (b8:Option Addr) (c8:Nat) (va vg vw:V_) (fb:Nat) (hreg:0<=c.g/\c.g<=9223372036854775807) (hins:(c.i.length:Int)<=9223372036854775807) (m:AC w0 H L w) (hf:FQ H x fb) (hi:Gj H i va vg vw):K_ uh 232 #[M (O ⟨fb,0,X⟩),Gm c (V b8 c.i.length c8),Ec i va vg vw] w (Bv w0 H L (N (FU x c i))):=by
 have HI:=A5 hi;obtain⟨b5,c5,b6,c6,b7,c7,rfl,rfl,rfl,l5,l6,l7⟩:=hi.shapes;clear hi;have HF:=A5 hf;obtain⟨vc,vk,vr,vd,v1,v2,v3,v4,v5,mc,mk,bp,md0,sm,om,kn,aw,bb,h1,h2,h3,bn,g1,g2,g3,g4,h4,bk,h5,bm⟩:=hf.box;have HFB:=A5 aw;clear hf aw bb h1 h2 h3 g1 g2 g3 g4 h5 bm bn;obtain⟨sp,au⟩:∃s,(SM i.op).getD GO=s:=⟨_,Z⟩;obtain⟨an,ao⟩:∃b,(SM i.op).isSome=b:=⟨_,Z⟩;(have HNM:Hid (an=B->sp.name=0\/sp.name=1\/sp.name=3\/sp.name=5\/sp.name=4\/sp.name=6\/sp.name=7\/sp.name=2):=A5 λh=>by rw[<-ao] at h;obtain⟨s,hs⟩:=Option.isSome_iff_exists.1 h;rw[hs] at au;cases au;exact jp hs);(have HL4:Hid (∀W:W_,∀L',AC w0 H L' W->(Instr.lookup 222 v4 (Y .u8 i.op) B).run uh W= .ok (.tuple #[.agg #[U sp.word,N sp.to,Y I sp.args,Y .u8 sp.name,N sp.number,Y I sp.low,Y I sp.high,Y I sp.places,N sp.w,N sp.stops],N an]) W):=A5 λW L' mW=>by have:=h4.look (P:=uh) (t:=222) (et:=278) (z:=GO.val) ZM underlying222 (by go_simp;rfl) mW (i.op:Int) B;rw[Yi bk] at this;rw[show((SM i.op).map Qh.val).getD GO.val=sp.val by rw[<-au];cases SM i.op<;>rfl,show((SM i.op).map Qh.val).isSome=an by rw[<-ao];cases SM i.op<;>rfl] at this;exact this);have aq:FU x c i=(an&&Uj sp x c i):=(by unfold FU;rw[au,ao]);rw[aq];clear aq au ao bk;obtain⟨sw,af,ak,aj,ai,aa,ad,ah,ae,ag⟩:=sp;obtain⟨q4,e4,k4,rfl,-⟩:=h4;generalize av:(an&&Uj ⟨sw,af,ak,aj,ai,aa,ad,ah,ae,ag⟩ x c i)=res;have HRES:=A5 av;clear av;unfold Uj at HRES;dsimp only at HRES HL4 HNM;obtain⟨nb,ba⟩:∃b,Ed x ⟨sw,af,ak,aj,ai,aa,ad,ah,ae,ag⟩ i=b:=⟨_,Z⟩;obtain⟨ab,bd⟩:∃b,i.args.all (λr=>F6 r 0 (c.g-1))=b:=⟨_,Z⟩;obtain⟨gb,bc⟩:∃b,i.go.all (λp=>F6 p 0 (c.i.length-1))=b:=⟨_,Z⟩;obtain⟨tb,ay⟩:∃b,F6 i.to 0 (c.g-1)=b:=⟨_,Z⟩;obtain⟨nu,az⟩:∃b,F6 i.n aa ad=b:=⟨_,Z⟩;have bh:=A5 ba;have HAB:=A5 bd;have bj:=A5 bc;have bf:=A5 ay;have bg:=A5 az;rw[ba,bd,bc,ay,az] at HRES;clear ba bd bc ay az;have m2:=(m.alloc (At c (V b8 c.i.length c8))).alloc (SB i b5 c5 b6 c6 b7 c7);simp only[vG] at m2;generalize bq:w.heap.size=xb at*;unfold Gm Ec;go_enter func232,ntmps232;go_wp2_with fail;refine Da (F:=λw'=>Code.wp _ _ _ _ w') m2 ?_;clear m2;intro wr mr;refine B1 mr [VK (M (O ⟨fb,0,X⟩)),VK (M (O ⟨fb,0,X⟩)),VK (M (O ⟨fb,7,X⟩)),VK (.map (O q4)),VK (M (O ⟨xb+1,0,X⟩)),VK (Y .u8 i.op),VK (.tuple #[.agg #[U sw,N af,Y I ak,Y .u8 aj,N ai,Y I aa,Y I ad,Y I ah,N ae,N ag],N an]),VK (.tuple #[.agg #[U sw,N af,Y I ak,Y .u8 aj,N ai,Y I aa,Y I ad,Y I ah,N ae,N ag],N an]),VK (.agg #[U sw,N af,Y I ak,Y .u8 aj,N ai,Y I aa,Y I ad,Y I ah,N ae,N ag]),VK (N an),⟨[10],λzb=> M (O ⟨(zb.getD 0 Ax).b,0,X⟩),O ([],[],λzb d=>d.bl=[(d.b,C #[U vD,N G,Y I 0,Y .u8 0,N G,Y I 0,Y I 0,Y I 0,N G,N G] 278)]),G⟩,⟨[],λzb=>undef,O ([10],[10],λzb d=>d.bl=[((zb.getD 0 Ax).b,C #[U sw,N af,Y I ak,Y .u8 aj,N ai,Y I aa,Y I ad,Y I ah,N ae,N ag] 278)]),G⟩] (nf 11++[B]) ?_ ?_
 .refine⟨AA,AA,AA,?_,AA,?_,?_,AA,AA,AA,?_,?_,trivial⟩
  ·(refine Al.vk Z λbs w hb m=>?_);have es:=m.e8;have ef:=Bw (w:=w) (L:=[(fb,Bc vc vk vr vd v1 v2 v3 (.map (O q4)) v5)]) (λp hp=>by rw[uj.1 hp];exact m.imm _ _ HFB.out);simp only[BS,Bc] at ef;exact AT
  ·(refine Al.vk Z λbs w hb m=>?_);have es:=m.e8;exact AT
  ·(refine Al.vk Z λbs w hb m=>?_);have hl:=HL4.out w _ m;exact AT
  ·(refine Al.make _ _ Z Z Z λbs w hb m=>?_);show(x_ _ _).run _ _= .ok (.value (M (O ⟨w.heap.size,0,X⟩))) (w.alloc (C #[U vD,N G,Y I 0,Y .u8 0,N G,Y I 0,Y I 0,Y I 0,N G,N G] 278));exact Cp
  ·(refine Al.gen _ Z Z Z λbs w L2 hb m=>?_);have bo:(bs 10).bl=[((bs 10).b,C #[U vD,N G,Y I 0,Y .u8 0,N G,Y I 0,Y I 0,Y I 0,N G,N G] 278)]:=hb.at 10 A7 Z Z;simp only[wF,vS,wG,bo,ul,ui] at m;have es:=m.e8;have h2:=AC.setL [U sw,N af,Y I ak,Y .u8 aj,N ai,Y I aa,Y I ad,Y I ah,N ae,N ag] 0 m;simp only[TU,vH,vM,vI,Nat.reduceAdd] at h2;have h3:∃d:C2,(d.bl=[((bs 10).b,C #[U sw,N af,Y I ak,Y .u8 aj,N ai,Y I aa,Y I ad,Y I ah,N ae,N ag] 278)])/\(undef:V_)=undef/\AC w0 H (d.bl++(L2++((xb+1,SB i b5 c5 b6 c6 b7 c7)::(xb,At c (V b8 c.i.length c8))::L))) (Ff w (bs 10).b 0 [U sw,N af,Y I ak,Y .u8 aj,N ai,Y I aa,Y I ad,Y I ah,N ae,N ag]):=⟨⟨(bs 10).b,0,undef,[((bs 10).b,C #[U sw,N af,Y I ak,Y .u8 aj,N ai,Y I aa,Y I ad,Y I ah,N ae,N ag] 278)]⟩,Z,Z,h2⟩;clear h2;refine BU.ofSkip (w':=Ff w (bs 10).b 0 [U sw,N af,Y I ak,Y .u8 aj,N ai,Y I aa,Y I ad,Y I ah,N ae,N ag]) ?_ h3;clear h3;simp only[Ff];go_simp
 .intro bs wd hb md;replace md:=AC.like1 mr (bs 11).bl md;have ax:(bs 10).bl=[((bs 10).b,C #[U vD,N G,Y I 0,Y .u8 0,N G,Y I 0,Y I 0,Y I 0,N G,N G] 278)]:=hb 10 _ _ Z Z;have ar:(bs 11).bl=[((bs 10).b,C #[U sw,N af,Y I ak,Y .u8 aj,N ai,Y I aa,Y I ad,Y I ah,N ae,N ag] 278)]:=hb 11 _ _ Z Z;(try simp only[ul,ui] at md);simp only[ur,uu,Nat.reduceAdd,uy,um,un];clear hb ax;rw[ar] at md;simp only[ul,ui] at md;clear ar;generalize (bs 10).b=qb at*;have es:=md.e20;cases an
  .skip;go_wp2_with fail;go_ret;exact⟨A8 Yc,md.drop.drop.drop⟩
  replace HNM:=A5 (HNM.out Z);go_wp2_with fail;refine(W8 x ⟨sw,af,ak,aj,ai,aa,ad,ah,ae,ag⟩ HNM.out i _ _ _ fb md HF.out HI.out).mono ?_;rintro e w4 ⟨rfl,m4⟩;rw[bh.out];clear es md;have es:=m4.e20;cases nb
  .skip;go_wp2_with fail;go_ret;exact⟨A8 Yc,m4.drop.drop.drop⟩
  go_wp2_with fail;refine(Ua (λr=>F6 r 0 (c.g-1)) _ i.args xb m4 HI.out.2.1 (λn w' hm=>ST n c.g xb hreg w' lO)).mono ?_;rintro e w5 ⟨rfl,m5⟩;rw[HAB.out];clear es m4;have es:=m5.e20;cases ab
  .skip;go_wp2_with fail;go_ret;exact⟨A8 Yc,m5.drop.drop.drop⟩
  go_wp2_with fail;refine(Ux (λp=>F6 p 0 (c.i.length-1)) _ i.go xb m5 HI.out.2.2.1 (λn w' hm=>Vx n c.i.length b8 c8 xb A0 w' lO)).mono ?_;rintro e w6 ⟨rfl,m6⟩;rw[bj.out];clear es m5;have es:=m6.e20;cases gb
  .skip;go_wp2_with fail;go_ret;exact⟨A8 Yc,m6.drop.drop.drop⟩
  go_wp2_with (first|(go_at_call 271;refine(ST i.to c.g xb hreg _ Gd).mono ?_;rintro e w7 ⟨rfl,rfl⟩;rw[bf.out])|(go_at_call 229;refine(Ad _ _ _ _).mono ?_;rintro e w8 ⟨rfl,rfl⟩;first|rw[show T (aa<=i.n/\i.n<=ad)=nu from bg.out]|skip)|(go_at_call 274;refine(Qr c i.w _ _ _ _ hreg hins m6 HI.out.2.2.2).mono ?_;rintro e w9 ⟨rfl,m9⟩))
  all_goals first
   |(go_ret;exact⟨A8 (by have hz:=HRES.out;rw[<-hz];clear hz HRES HI HF HFB HL4 HNM bh HAB bj bf bg es mr m6 m;(try rw[r9 i.w.length]);first|(simp_all;done)|(simp_all;omega)|(simp_all;intros;omega)),m6.drop.drop.drop⟩)
   |(go_ret;exact⟨A8 (by clear m9;have hz:=HRES.out;rw[<-hz];clear hz HRES HI HF HFB HL4 HNM bh HAB bj bf bg es mr m6 m;(try rw[r9 i.w.length]);first|(simp_all;done)|(simp_all;omega)|(simp_all;intros;omega)),m9.drop.drop.drop⟩)
abbrev Pb (fb:Nat):Obj:= C #[M (O ⟨fb,0,X⟩)] 184
theorem Qq (x:AI) (cc:AF) (b8:Option Addr) (c8:Nat) (fb pf pc:Nat) (i:Bu) (va vg vw:V_) (hreg:0<=cc.g/\cc.g<=9223372036854775807) (hins:(cc.i.length:Int)<=9223372036854775807) (m:AC w0 H L w) (aa:(pf,Pb fb)∈L) (ad:(pc,At cc (V b8 cc.i.length c8))∈L) (hf:FQ H x fb) (hi:Gj H i va vg vw):K_ uh 231 #[Ec i va vg vw,M (O ⟨pf,0,X⟩),M (O ⟨pc,0,X⟩)] w (Bv w0 H L (N (FU x cc i))):=by
 have HI:=A5 hi;have HF:=A5 hf;clear hf;obtain⟨b5,c5,b6,c6,b7,c7,rfl,rfl,rfl,l5,l6,l7⟩:=hi.shapes;clear hi;have m1:=m.alloc (SB i b5 c5 b6 c6 b7 c7)
 have e1:=Bw (L:=[(pf,Pb fb),(pc,At cc (V b8 cc.i.length c8))]) (w:=w.alloc (SB i b5 c5 b6 c6 b7 c7)) (λp hp=>by
  rcases vP.1 hp with rfl|hp
  .exact(m1.loc _ (.tail _ aa)).1
  .rw[uj.1 hp];exact(m1.loc _ (.tail _ ad)).1)
 simp only[BS,At,Pb] at e1;have es:=m1.e6;unfold Ec;go_enter func231,ntmps231;go_wp2_with fail;refine(WJ x cc i b8 c8 _ _ _ fb hreg hins m1 HF.out HI.out).mono ?_;rintro e w2 ⟨rfl,m2⟩;go_wp2_with fail;go_ret;exact⟨Z,m2.drop⟩
theorem Kt (x:AI) (cc:AF) (b8:Option Addr) (c8:Nat) (fb pf pc:Nat) (hreg:0<=cc.g/\cc.g<=9223372036854775807) (hins:(cc.i.length:Int)<=9223372036854775807) (c:Bu) (va vg vw:V_) (bf:Nat) (m:AC w0 H ((bf,C #[.func (.func 231) #[] #[M (O ⟨pf,0,X⟩),M (O ⟨pc,0,X⟩)]] 285)::L) w) (aa:(pf,Pb fb)∈L) (ad:(pc,At cc (V b8 cc.i.length c8))∈L) (hf:FQ H x fb) (h:Gj H c va vg vw):K_ uh 270 #[Ec c va vg vw,M (O ⟨bf,0,X⟩)] w (Bv w0 H ((bf,C #[.func (.func 231) #[] #[M (O ⟨pf,0,X⟩),M (O ⟨pc,0,X⟩)]] 285)::L) (N (!FU x cc c))):=by have HH:=A5 h;clear h;unfold Ec;have m1:=m.alloc (C #[Y .u8 c.op,Y I c.to,va,Y I c.n,Y I c.m,U c.name,vg,vw] 82);generalize hq:FU x cc c=q;have HQ:=A5 hq;clear hq;have es:=m1.e0;go_enter func270,ntmps270;go_wp2_with fail;refine(Qq x cc b8 c8 fb pf pc c va vg vw hreg hins m1 (.tail _ (.tail _ aa)) (.tail _ (.tail _ ad)) hf HH.out).mono ?_;exact PY
theorem Ln (x:AI) (cc:AF) (b8:Option Addr) (c8:Nat) (fb pf pc:Nat) (hreg:0<=cc.g/\cc.g<=9223372036854775807) (hins:(cc.i.length:Int)<=9223372036854775807) (v:V_) (xs:List Bu) (bf:Nat) (m:AC w0 H ((bf,C #[.func (.func 231) #[] #[M (O ⟨pf,0,X⟩),M (O ⟨pc,0,X⟩)]] 285)::L) w) (hv:AX C1 H v xs) (ad:(pf,Pb fb)∈L) (ae:(pc,At cc (V b8 cc.i.length c8))∈L) (hf:FQ H x fb):K_ uh 289 #[v,.func (.func 270) #[] #[M (O ⟨bf,0,X⟩)]] w (Me w0 H ((bf,C #[.func (.func 231) #[] #[M (O ⟨pf,0,X⟩),M (O ⟨pc,0,X⟩)]] 285)::L) (!xs.all (FU x cc))):=by
 have HV:=A5 hv;obtain⟨b,c,rfl,af,aa,_,_⟩:=hv;have aa:=A9 aa;go_enter func289,ntmps289;go_wp2_with fail;(go_loopw [5,8] (λ_ i wr=>∃k:Nat,k<=xs.length/\i= Y I k/\(xs.take k).all (FU x cc)=B/\AC w0 H ((bf,C #[.func (.func 231) #[] #[M (O ⟨pf,0,X⟩),M (O ⟨pc,0,X⟩)]] 285)::L) wr) (λ_ i _=>xs.length-(intOf i).toNat));case atStart=>exact⟨0,uz _,Z,Z,m⟩
 case round=>
  clear m;obtain⟨k,hk,rfl,ly,m⟩:=hrel;have HA:=A5 ly;clear ly;by_cases lg:k<xs.length
  .have hx:=uq lg;generalize hy:xs[k]=y at hx;obtain⟨lu,off,va,vg,vw,rfl,q1,q2,q3,q4,q5,q6,q7,q8,q9⟩:=HV.out.getIns hx;clear hx;have af:=q1.cell m;have aa:=q2.cell m;have an:=q3.cell m;have ak:=q4.cell m;have aj:=q5.cell m;have ai:=q6.cell m;have ah:=q7.cell m;have ag:=q8.cell m;cases hq:FU x cc y
   .have HQ:=A5 hq;clear hq;have HY:=A5 hy;clear hy;go_wp2_with fail;refine(Kt x cc b8 c8 fb pf pc hreg hins y va vg vw bf m ad ae hf q9).mono ?_;rw[HQ.out];rintro e w2 ⟨rfl,m2⟩;go_wp2_with fail;go_ret;refine⟨_,Z,?_,m2⟩;rw[show xs.all (FU x cc)=G from B4 _ xs k lg Rc];simp
   .have HQ:=A5 hq;clear hq;have HY:=A5 hy;clear hy;go_wp2_with fail;refine(Kt x cc b8 c8 fb pf pc hreg hins y va vg vw bf m ad ae hf q9).mono ?_;exact Rt
  .go_wp2_with fail;exact NO
theorem JH (x:AI) (cc:AF) (b8:Option Addr) (c8:Nat) (fb pf pc:Nat) (hreg:0<=cc.g/\cc.g<=9223372036854775807) (hins:(cc.i.length:Int)<=9223372036854775807) (v:V_) (xs:List Bu) (bf:Nat) (m:AC w0 H ((bf,C #[.func (.func 231) #[] #[M (O ⟨pf,0,X⟩),M (O ⟨pc,0,X⟩)]] 285)::L) w) (hv:AX C1 H v xs) (aa:(pf,Pb fb)∈L) (ad:(pc,At cc (V b8 cc.i.length c8))∈L) (hf:FQ H x fb):K_ uh 269 #[v,.func (.func 270) #[] #[M (O ⟨bf,0,X⟩)]] w (Bv w0 H ((bf,C #[.func (.func 231) #[] #[M (O ⟨pf,0,X⟩),M (O ⟨pc,0,X⟩)]] 285)::L) (N (!xs.all (FU x cc)))):=by go_enter func269,ntmps269;go_wp2_with (go_at_call 289;refine(Ln x cc b8 c8 fb pf pc hreg hins v xs bf m hv aa ad hf).mono ?_;rintro e w' ⟨k,rfl,hk,m2⟩;have HK:=A5 hk;clear hk);exact IW
theorem UD (x:AI) (cc:AF) (b8:Option Addr) (c8:Nat) (fb pf pc:Nat) (hreg:0<=cc.g/\cc.g<=9223372036854775807) (hins:(cc.i.length:Int)<=9223372036854775807) (v:V_) (xs:List Bu) (m:AC w0 H L w) (hv:AX C1 H v xs) (aa:(pf,Pb fb)∈L) (ad:(pc,At cc (V b8 cc.i.length c8))∈L) (hf:FQ H x fb):K_ uh 230 #[v,.func (.func 231) #[] #[M (O ⟨pf,0,X⟩),M (O ⟨pc,0,X⟩)]] w (Bv w0 H L (N (xs.all (FU x cc)))):=by have HV:=A5 hv;clear hv;go_enter func230,ntmps230;have m1:=m.alloc (C #[.func (.func 231) #[] #[M (O ⟨pf,0,X⟩),M (O ⟨pc,0,X⟩)]] 285);go_wp2_with fail;refine(JH x cc b8 c8 fb pf pc hreg hins v xs _ m1 HV.out aa ad hf).mono ?_;exact Ms
def E8 (x:AI) (c:AF):Bool:=F6 c.params 0 c.g&&(T (c.i.length≠0)&&(c.i.all (FU x c)&&((SM (Fg c)).getD GO).stops))
theorem UE (x:AI) (c:AF) (sv:V_) (fb:Nat) (lz:c.fit) (m:AC w0 H L w) (hf:FQ H x fb) (hi:AX C1 H sv c.i):K_ uh 182 #[M (O ⟨fb,0,X⟩),.agg #[U c.name,Y I c.params,Y I c.g,sv]] w (Bv w0 H L (N (E8 x c))):=by
 have HI:=A5 hi;obtain⟨b8,c8,rfl,az,au,_,_⟩:=hi;have hins:=A9 au;have hins:(c.i.length:Int)<=9223372036854775807:=A0;have HF:=A5 hf;obtain⟨vc,vk,vr,vd,v1,v2,v3,v4,v5,mc,mk,ax,md0,sm,om,kn,ae,ah,h1,h2,h3,aq,g1,g2,g3,g4,h4,an,h5,ao⟩:=hf.box;have HFB:=A5 ae;clear hf ae ah h1 h2 h3 g1 g2 g3 g4 h5 ao aq;have m2:=(m.alloc (Pb fb)).alloc (At c (V b8 c.i.length c8));simp only[vG] at m2;generalize ay:w.heap.size=xb at*;obtain⟨pb,ag⟩:∃b,T (0<=c.params/\c.params<=c.g)=b:=⟨_,Z⟩;obtain⟨ab,ai⟩:∃b,c.i.all (FU x c)=b:=⟨_,Z⟩;generalize aa:E8 x c=res;unfold E8 F6 at aa;rw[ag,ai] at aa;have HRES:=A5 aa;have af:=A5 ag;have HAB:=A5 ai;clear aa ag ai;have es:=m2.eqs;simp only[BS,At,Pb] at es
 have HW:=A5 (show ∀W:W_,∀L',AC w0 H L' W->∀k,(Instr.lookup 222 v4 (Y .u8 k) G).run uh W= .ok ((BX sm k).getD GO.val) W from λW L' mW k=>
  h4.look (P:=uh) (t:=222) (et:=278) (z:=GO.val) ZM underlying222 (by go_simp;rfl) mW k G)
 obtain⟨q4,e4,k4,rfl,-⟩:=h4;cases pb
 .go_enter func182,ntmps182;go_wp2_with (go_at_call 229;refine(Ad _ _ _ _).mono ?_;rintro e w3 ⟨rfl,rfl⟩;rw[af.out]);go_ret;exact⟨A8 (by rw[<-HRES.out];rfl),m2.drop.drop⟩
 have hreg:0<=c.g/\c.g<=9223372036854775807:=(by have h1:=o_ af.out;have h2:=lz.g;unfold EH at h2;omega);by_cases hl:c.i.length=0
 .have hl0:((c.i.length:Int)==0)=true:=(by rw[hl];rfl);have HL:=A5 hl;clear hl;go_enter func182,ntmps182;go_wp2_with (go_at_call 229;refine(Ad _ _ _ _).mono ?_;rintro e w3 ⟨rfl,rfl⟩;rw[af.out]);go_ret;exact⟨A8 (by rw[<-HRES.out,f_ (λh=>h HL.out)];rfl),m2.drop.drop⟩
 have hl0:((c.i.length:Int)==0)=false:=bF A0;have ar:c.i.length-1<c.i.length:=A0;have HL:=A5 hl;clear hl;go_enter func182,ntmps182;go_wp2_with (go_at_call 229;refine(Ad _ _ _ _).mono ?_;rintro e w3 ⟨rfl,rfl⟩;rw[af.out]);refine Da (F:=λw'=>Code.wp _ _ _ _ w') m2 ?_;clear es m2;intro wr mr;have hx:=uq ar;generalize hy:c.i[c.i.length-1]=y at hx;obtain⟨lu,off,va,vg,vw,rfl,q1,-,-,-,-,-,-,-,-⟩:=HI.out.getIns hx;have aw:=A5 (show Fg c=y.op by unfold Fg;rw[hx]);clear hx hy;have Q1:=A5 q1;clear q1;obtain⟨sp,aj⟩:∃s,(SM y.op).getD GO=s:=⟨_,Z⟩;have ak:=A5 aj;clear aj;(have HL4:Hid (∀W:W_,∀L',AC w0 H L' W->(Instr.lookup 222 (.map (O q4)) (Y .u8 y.op) G).run uh W= .ok (.agg #[U sp.word,N sp.to,Y I sp.args,Y .u8 sp.name,N sp.number,Y I sp.low,Y I sp.high,Y I sp.places,N sp.w,N sp.stops]) W):=A5 λW L' mW=>by have:=HW.out W L' mW y.op;rw[Yi an,show((SM y.op).map Qh.val).getD GO.val=sp.val by rw[<-ak.out];cases SM y.op<;>rfl] at this;exact this);have ad:((c.i.length:Int)-1)=((c.i.length-1:Nat):Int):=A0;have hw:IntKind.i64.wrap ((c.i.length:Int)-1)=((c.i.length-1:Nat):Int):=(by rw[<-ad];exact IntWalk.i64_in _ A0);have av:=A5 hw;clear hw ad;generalize hn1:c.i.length-1=n1 at*;have ba:=A5 hn1;clear hn1;cases ab
 .skip;refine B1 mr [VK (M (O ⟨xb+1,3,X⟩)),VK (V (O ⟨lu,off,X⟩) c.i.length c8),VK (.func (.func 231) #[] #[M (O ⟨xb,0,X⟩),M (O ⟨xb+1,0,X⟩)]),VK (N G),VK (N G),SK,SK,SK,SK,SK,SK,SK,SK,SK,SK,SK,SK,SK,SK,SK,VK (N G)] (nf 21) ?_ ?_
  .exact⟨AA,fB,AA,uM,AA,Ak,Ak,Ak,Ak,Ak,Ak,Ak,Ak,Ak,Ak,Ak,Ak,Ak,Ak,Ak,AA,trivial⟩
  .intro bs wd hb md;replace md:=AC.like0 mr md;(try simp only[ul,ui] at md);simp only[ur,uu,Nat.reduceAdd,uy,um,un];clear hb;go_wp2_with fail;go_ret;exact⟨A8 (by rw[<-HRES.out];simp[HL.out]),md.drop.drop⟩
 .skip;refine B1 mr [VK (M (O ⟨xb+1,3,X⟩)),VK (V (O ⟨lu,off,X⟩) c.i.length c8),VK (.func (.func 231) #[] #[M (O ⟨xb,0,X⟩),M (O ⟨xb+1,0,X⟩)]),VK (N B),VK (N B),VK (M (O ⟨fb,0,X⟩)),VK (M (O ⟨fb,0,X⟩)),VK (M (O ⟨fb,7,X⟩)),VK (.map (O q4)),VK (M (O ⟨xb+1,3,X⟩)),VK (V (O ⟨lu,off,X⟩) c.i.length c8),VK (M (O ⟨xb+1,3,X⟩)),VK (V (O ⟨lu,off,X⟩) c.i.length c8),VK (Y I c.i.length),VK (Y I (n1:Int)),VK (M (O ⟨lu,off+n1*8,X⟩)),VK (M (O ⟨lu,off+n1*8,X⟩)),VK (Y .u8 y.op),VK (.agg #[U sp.word,N sp.to,Y I sp.args,Y .u8 sp.name,N sp.number,Y I sp.low,Y I sp.high,Y I sp.places,N sp.w,N sp.stops]),VK (N sp.stops),VK (N sp.stops)] (nf 21) ?_ ?_
  .refine⟨AA,fB,AA,uM,AA,Xj,nq,Bb,nq,Bb,Xj,Bb,Xj,Bb,?_,Bb,Bb,?_,?_,Bb,AA,trivial⟩
   ·(refine Al.wk (λbs=>by first|rfl|(go_simp;done)) λbs w hb m=>?_);have hw:=av.out;exact AT
   ·(refine Al.wk (λbs=>by first|rfl|(go_simp;done)) λbs w hb m=>?_);have q1:=Q1.out.cell m;exact AT
   ·(refine Al.wk (λbs=>by first|rfl|(go_simp;done)) λbs w hb m=>?_);have hl:=HL4.out w _ m;exact AT
  .intro bs wd hb md;replace md:=AC.like0 mr md;(try simp only[ul,ui] at md);simp only[ur,uu,Nat.reduceAdd,uy,um,un];clear hb;go_wp2_with fail;go_ret;exact⟨A8 (by rw[<-HRES.out,aw.out,ak.out];simp[HL.out]),md.drop.drop⟩
theorem FQ.mono {x:AI} {fb:Nat} (h:FQ H x fb) (hl:Bl H H'):FQ H' x fb:=by obtain⟨vc,vk,vr,vd,v1,v2,v3,v4,v5,mc,mk,ae,md0,sm,om,kn,ad,aa,h1,h2,h3,ah,g1,g2,g3,g4,h4,af,h5,ag⟩:=h.box;exact⟨vc,vk,vr,vd,v1,v2,v3,v4,v5,mc,mk,ae,md0,sm,om,kn,hl _ _ ad,aa.mono hl,h1.mono hl,h2.mono hl,h3.mono hl,ah,g1.mono hl,g2.mono hl,g3.mono hl,g4.mono hl,h4.mono hl,af,h5.mono hl,ag⟩
theorem Md (x:AI) (vc vk vr vd v1 v2 v3 v4 v5:V_) (fb:Nat) (ad:x.k.length<=4096) (m:AC w0 H L w) (aa:H fb=O (Bc vc vk vr vd v1 v2 v3 v4 v5)) (hx:Bz H x vc vk vr vd):K_ uh 174 #[M (O ⟨fb,0,X⟩)] w (G6 w0 H L (x.k.map AK.name)):=by have HX:=A5 hx;obtain⟨b1,c1,b2,c2,b3,c3,b4,c4,rfl,rfl,rfl,rfl,l1,l2,l3,l4⟩:=hx.shapes;clear hx;have es:=Bw (w:=w) (L:=[(fb,Bc (V b1 x.k.length c1) (V b2 x.c.length c2) (V b3 x.r.length c3) (V b4 x.d.length c4) v1 v2 v3 v4 v5)]) (λp hp=>by rw[uj.1 hp];exact m.imm _ _ aa);simp only[BS,Bc] at es;clear aa;go_enter func174,ntmps174;go_wp2_with (go_at_call 219;refine(I4 _ x.k ad m HX.out.c).mono ?_;rintro e w2 ⟨v,L1,rfl,h1,m1⟩);exact Nb
theorem NF (x:AI) (vc vk vr vd v1 v2 v3 v4 v5:V_) (fb:Nat) (ad:x.c.length<=4096) (m:AC w0 H L w) (aa:H fb=O (Bc vc vk vr vd v1 v2 v3 v4 v5)) (hx:Bz H x vc vk vr vd):K_ uh 175 #[M (O ⟨fb,0,X⟩)] w (G6 w0 H L (x.c.map Aj.name)):=by have HX:=A5 hx;obtain⟨b1,c1,b2,c2,b3,c3,b4,c4,rfl,rfl,rfl,rfl,l1,l2,l3,l4⟩:=hx.shapes;clear hx;have es:=Bw (w:=w) (L:=[(fb,Bc (V b1 x.k.length c1) (V b2 x.c.length c2) (V b3 x.r.length c3) (V b4 x.d.length c4) v1 v2 v3 v4 v5)]) (λp hp=>by rw[uj.1 hp];exact m.imm _ _ aa);simp only[BS,Bc] at es;clear aa;go_enter func175,ntmps175;go_wp2_with (go_at_call 221;refine(J6 _ x.c ad m HX.out.k).mono ?_;rintro e w2 ⟨v,L1,rfl,h1,m1⟩);exact Nb
theorem Mm (x:AI) (vc vk vr vd v1 v2 v3 v4 v5:V_) (fb:Nat) (ad:x.d.length<=4096) (m:AC w0 H L w) (aa:H fb=O (Bc vc vk vr vd v1 v2 v3 v4 v5)) (hx:Bz H x vc vk vr vd):K_ uh 176 #[M (O ⟨fb,0,X⟩)] w (G6 w0 H L (x.d.map AF.name)):=by have HX:=A5 hx;obtain⟨b1,c1,b2,c2,b3,c3,b4,c4,rfl,rfl,rfl,rfl,l1,l2,l3,l4⟩:=hx.shapes;clear hx;have es:=Bw (w:=w) (L:=[(fb,Bc (V b1 x.k.length c1) (V b2 x.c.length c2) (V b3 x.r.length c3) (V b4 x.d.length c4) v1 v2 v3 v4 v5)]) (λp hp=>by rw[uj.1 hp];exact m.imm _ _ aa);simp only[BS,Bc] at es;clear aa;go_enter func176,ntmps176;go_wp2_with (go_at_call 223;refine(J7 _ x.d ad m HX.out.d).mono ?_;rintro e w2 ⟨v,L1,rfl,h1,m1⟩);exact Nb
theorem J2 (x:AI) (fb:Nat) (c:AF) (sv:V_) (bf:Nat) (m:AC w0 H ((bf,C #[.func (.func 182) #[M (O ⟨fb,0,X⟩)] #[]] 125)::L) w) (hf:FQ H x fb) (h:AX C1 H sv c.i/\c.fit):K_ uh 218 #[.agg #[U c.name,Y I c.params,Y I c.g,sv],M (O ⟨bf,0,X⟩)] w (Bv w0 H ((bf,C #[.func (.func 182) #[M (O ⟨fb,0,X⟩)] #[]] 125)::L) (N (!E8 x c))):=by have HH:=A5 h;clear h;have m1:=m.alloc (C #[U c.name,Y I c.params,Y I c.g,sv] 78);generalize hq:E8 x c=q;have HQ:=A5 hq;clear hq;have es:=m1.e0;go_enter func218,ntmps218;go_wp2_with fail;refine(UE x c sv fb HH.out.2 m1 hf HH.out.1).mono ?_;exact PY
theorem JO (x:AI) (fb:Nat) (v:V_) (xs:List AF) (bf:Nat) (m:AC w0 H ((bf,C #[.func (.func 182) #[M (O ⟨fb,0,X⟩)] #[]] 125)::L) w) (hv:AX Ch H v xs) (hf:FQ H x fb):K_ uh 73 #[v,.func (.func 218) #[] #[M (O ⟨bf,0,X⟩)]] w (Me w0 H ((bf,C #[.func (.func 182) #[M (O ⟨fb,0,X⟩)] #[]] 125)::L) (!xs.all (E8 x))):=by
 have HV:=A5 hv;obtain⟨b,c,rfl,ad,aa,_,_⟩:=hv;have aa:=A9 aa;go_enter func73,ntmps73;go_wp2_with fail;(go_loopw [5,8] (λ_ i wr=>∃k:Nat,k<=xs.length/\i= Y I k/\(xs.take k).all (E8 x)=B/\AC w0 H ((bf,C #[.func (.func 182) #[M (O ⟨fb,0,X⟩)] #[]] 125)::L) wr) (λ_ i _=>xs.length-(intOf i).toNat));case atStart=>exact⟨0,uz _,Z,Z,m⟩
 case round=>
  clear m;obtain⟨k,hk,rfl,ly,m⟩:=hrel;have HA:=A5 ly;clear ly;by_cases lg:k<xs.length
  .have hx:=uq lg;generalize hy:xs[k]=y at hx;obtain⟨lu,off,sv,rfl,q1,q2,q3,q4,q5,q6⟩:=HV.out.getCode hx;clear hx;have ad:=q1.cell m;have aa:=q2.cell m;have af:=q3.cell m;have ae:=q4.cell m;cases hq:E8 x y
   .have HQ:=A5 hq;clear hq;have HY:=A5 hy;clear hy;go_wp2_with fail;refine(J2 x fb y sv bf m hf ⟨q5,q6⟩).mono ?_;rw[HQ.out];rintro e w2 ⟨rfl,m2⟩;go_wp2_with fail;go_ret;refine⟨_,Z,?_,m2⟩;rw[show xs.all (E8 x)=G from B4 _ xs k lg Rc];simp
   .have HQ:=A5 hq;clear hq;have HY:=A5 hy;clear hy;go_wp2_with fail;refine(J2 x fb y sv bf m hf ⟨q5,q6⟩).mono ?_;exact Rt
  .go_wp2_with fail;exact NO
theorem IJ (x:AI) (fb:Nat) (v:V_) (xs:List AF) (bf:Nat) (m:AC w0 H ((bf,C #[.func (.func 182) #[M (O ⟨fb,0,X⟩)] #[]] 125)::L) w) (hv:AX Ch H v xs) (hf:FQ H x fb):K_ uh 133 #[v,.func (.func 218) #[] #[M (O ⟨bf,0,X⟩)]] w (Bv w0 H ((bf,C #[.func (.func 182) #[M (O ⟨fb,0,X⟩)] #[]] 125)::L) (N (!xs.all (E8 x)))):=by go_enter func133,ntmps133;go_wp2_with (go_at_call 73;refine(JO x fb v xs bf m hv hf).mono ?_;rintro e w' ⟨k,rfl,hk,m2⟩;have HK:=A5 hk;clear hk);exact IW
theorem PW (x:AI) (fb:Nat) (v:V_) (xs:List AF) (m:AC w0 H L w) (hv:AX Ch H v xs) (hf:FQ H x fb):K_ uh 169 #[v,.func (.func 182) #[M (O ⟨fb,0,X⟩)] #[]] w (Bv w0 H L (N (xs.all (E8 x)))):=by have HV:=A5 hv;clear hv;go_enter func169,ntmps169;have m1:=m.alloc (C #[.func (.func 182) #[M (O ⟨fb,0,X⟩)] #[]] 125);go_wp2_with fail;refine(IJ x fb v xs _ m1 HV.out hf).mono ?_;exact Ms
def N0 (x:AI):Bool:=(Cf (x.k.map AK.name)&&(Cf (x.c.map Aj.name)&&(Cf x.r&&Cf (x.d.map AF.name))))&&(x.k.all D8&&(x.c.all DX&&x.d.all (E8 x)))
theorem UY (x:AI) (fb:Nat) (hm1:x.k.length<=4096) (az:x.c.length<=4096) (ay:x.d.length<=4096) (m:AC w0 H L w) (hf:FQ H x fb):K_ uh 124 #[M (O ⟨fb,0,X⟩)] w λe w'=>∃H',Bl H H'/\Bv w0 H' L (N (N0 x)) e w':=by
 have HF:=A5 hf;obtain⟨vc,vk,vr,vd,v1,v2,v3,v4,v5,mc,mk,bg,md0,sm,om,kn,ah,aa,h1,h2,h3,ba,g1,g2,g3,g4,h4,aw,h5,ax⟩:=hf.box;clear h1 h2 h3 g1 g2 g3 g4 h5 ax ba h4 aw hf;have HX:=A5 aa;obtain⟨b1,c1,b2,c2,b3,c3,b4,c4,rfl,rfl,rfl,rfl,l1,l2,l3,l4⟩:=aa.shapes;clear aa;have HFB:=A5 ah;clear ah;generalize ag:N0 x=res;have HRES:=A5 ag;clear ag;go_enter func124,ntmps124;go_wp2_with fail;refine B1 m [VK (M (O ⟨fb,0,X⟩)),⟨[1],λzb=>(zb.getD 0 Ax).v,O ([],[],λzb d=>BT d.v (x.k.map AK.name) d.bl),G⟩,VK (M (O ⟨fb,0,X⟩)),⟨[3],λzb=>(zb.getD 0 Ax).v,O ([],[],λzb d=>BT d.v (x.c.map Aj.name) d.bl),G⟩,VK (M (O ⟨fb,0,X⟩)),VK (M (O ⟨fb,0,X⟩)),VK (M (O ⟨fb,0,X⟩)),VK (M (O ⟨fb,2,X⟩)),VK (V b3 x.r.length c3),VK (M (O ⟨fb,0,X⟩)),⟨[10],λzb=>(zb.getD 0 Ax).v,O ([],[],λzb d=>BT d.v (x.d.map AF.name) d.bl),G⟩,⟨[11],λzb=> V (O ⟨(zb.getD 0 Ax).b,0,X⟩) 4 4,O ([],[1,3,10],λzb d=>d.bl=[(d.b,C #[(zb.getD 0 Ax).v,(zb.getD 1 Ax).v,V b3 x.r.length c3,(zb.getD 2 Ax).v] 24)]),G⟩,VK (Y I 4),VK (Y I 0)] (nf 1++[B]++nf 1++[B]++nf 6++[B,B]++nf 2) ?_ ?_
 .refine⟨AA,?_,AA,?_,AA,nh,AA,AA,nh,AA,?_,?_,AA,AA,trivial⟩
  ·(refine Al.gen _ Z Z Z λbs w L2 hb m=>?_);simp only[vS,ui] at m;refine BU.ofCall (f:=174) (args:=#[M (O ⟨fb,0,X⟩)]) Br ?_;refine(Md x _ _ _ _ _ _ _ _ _ fb hm1 m HFB.out HX.out).mono ?_;exact UO
  ·(refine Al.gen _ Z Z Z λbs w L2 hb m=>?_);simp only[vS,ui] at m;refine BU.ofCall (f:=175) (args:=#[M (O ⟨fb,0,X⟩)]) Br ?_;refine(NF x _ _ _ _ _ _ _ _ _ fb az m HFB.out HX.out).mono ?_;exact UO
  ·(refine Al.gen _ Z Z Z λbs w L2 hb m=>?_);simp only[vS,ui] at m;refine BU.ofCall (f:=176) (args:=#[M (O ⟨fb,0,X⟩)]) Br ?_;refine(Mm x _ _ _ _ _ _ _ _ _ fb ay m HFB.out HX.out).mono ?_;exact UO
  ·(refine Al.make _ _ Z Z Z λbs w hb m=>?_);show(x_ _ _).run _ _= .ok (.value (V (O ⟨w.heap.size,0,X⟩) 4 4)) (w.alloc (C #[(bs 1).v,(bs 3).v,V b3 x.r.length c3,(bs 10).v] 24));have h1:BT (bs 1).v (x.k.map AK.name) (bs 1).bl:=hb.at 1 A7 Z Z;have h3:BT (bs 3).v (x.c.map Aj.name) (bs 3).bl:=hb.at 3 A7 Z Z;have au:BT (bs 10).v (x.d.map AF.name) (bs 10).bl:=hb.at 10 A7 Z Z;obtain⟨y1,z1,e1,_⟩:=h1.shape;obtain⟨y3,z3,e3,_⟩:=h3.shape;obtain⟨bf,bd,av,_⟩:=au.shape;rw[e1,e3,av];clear h1 h3 au e1 e3 av m;exact AT
 .intro bs wd hb md;replace md:=AC.like4 m (bs 1).bl (bs 3).bl (bs 10).bl (bs 11).bl md;have ar:BT (bs 1).v (x.k.map AK.name) (bs 1).bl:=hb 1 _ _ Z Z;have aq:BT (bs 3).v (x.c.map Aj.name) (bs 3).bl:=hb 3 _ _ Z Z;have af:BT (bs 10).v (x.d.map AF.name) (bs 10).bl:=hb 10 _ _ Z Z;have ae:(bs 11).bl=[((bs 11).b,C #[(bs 1).v,(bs 3).v,V b3 x.r.length c3,(bs 10).v] 24)]:=hb 11 _ _ Z Z;rw[ae] at md;(try simp only[ul,ui] at md);simp only[ur,uu,Nat.reduceAdd,uy,um,un];clear hb;obtain⟨H1,n1,g1,f1⟩:=ar.freeze md;obtain⟨H2,n2,g2,f3⟩:=aq.freeze n1;obtain⟨H3,n3,g3,f10⟩:=af.freeze n2;have k2:=g2.trans g3;have k1:=g1.trans k2;have f1:=f1.mono k2;have f3:=f3.mono g3;have f2:=HX.out.r.mono k1;have bb:=A5 (HF.out.mono k1);have ak:=A5 (HX.out.mono k1);have ad:=A5 (k1 _ _ HFB.out);clear ar aq af ae n1 n2 g1 g2 g3 k2 md HF HX HFB;generalize (bs 11).b=qb at*;generalize (bs 1).v=u1 at*;generalize (bs 3).v=u3 at*;generalize (bs 10).v=u10 at*;have K1:=A5 k1;have F1:=A5 f1;have F3:=A5 f3;have F2:=A5 f2;have bc:=A5 f10;clear k1 f1 f3 f2 f10;(have Nq:=λb=>Cf b);(obtain⟨nm,hnm⟩:∃f:Nat->Bool,f=λj=>match j with|0=>Cf (x.k.map AK.name)|1=>Cf (x.c.map Aj.name)|2=>Cf x.r|_=>Cf (x.d.map AF.name):=⟨_,Z⟩);have HNM:=A5 hnm;clear hnm Nq;go_wp2_with fail;(go_loopw [18] (λaj wr=>∃k:Nat,k<=4/\aj= Y I k/\Hid (∀j,j<k->nm j=B)/\AC w0 H3 ((qb,C #[u1,u3,V b3 x.r.length c3,u10] 24)::L) wr) (λaj _=>4-(intOf aj).toNat));case atStart=>exact⟨0,uz _,Z,A5 (λj hj=>a_ hj A0),n3⟩
  case round=>
   clear n3;obtain⟨k,hk,rfl,HA,mk⟩:=hrel;have es:=mk.e0;by_cases lg:k<4
   .rcases(by omega:k=0\/k=1\/k=2\/k=3) with rfl|rfl|rfl|rfl
    .go_wp2_with fail;refine(Fc _ (x.k.map AK.name) mk F1.out).mono ?_;rintro e w4 ⟨rfl,m4⟩;clear es mk;cases hq:Cf (x.k.map AK.name)
     .exact T5
     .have HQ:=A5 hq;clear hq;go_wp2_with fail;go_roundw;(case rel=>exact⟨0+1,by omega,by go_num,A5 (λj hj=>by rcases vV.1 hj with h|h;exact HA.out j h;subst h;rw[HNM.out];exact HQ.out),m4⟩);case measure=>simp[intOf]
    .go_wp2_with fail;refine(Fc _ (x.c.map Aj.name) mk F3.out).mono ?_;rintro e w4 ⟨rfl,m4⟩;clear es mk;cases hq:Cf (x.c.map Aj.name)
     .exact T5
     .have HQ:=A5 hq;clear hq;go_wp2_with fail;go_roundw;(case rel=>exact⟨1+1,by omega,by go_num,A5 (λj hj=>by rcases vV.1 hj with h|h;exact HA.out j h;subst h;rw[HNM.out];exact HQ.out),m4⟩);case measure=>simp[intOf]
    .go_wp2_with fail;refine(Fc _ (x.r) mk F2.out).mono ?_;rintro e w4 ⟨rfl,m4⟩;clear es mk;cases hq:Cf (x.r)
     .exact T5
     .have HQ:=A5 hq;clear hq;go_wp2_with fail;go_roundw;(case rel=>exact⟨2+1,by omega,by go_num,A5 (λj hj=>by rcases vV.1 hj with h|h;exact HA.out j h;subst h;rw[HNM.out];exact HQ.out),m4⟩);case measure=>simp[intOf]
    .go_wp2_with fail;refine(Fc _ (x.d.map AF.name) mk bc.out).mono ?_;rintro e w4 ⟨rfl,m4⟩;clear es mk;cases hq:Cf (x.d.map AF.name)
     .exact T5
     .have HQ:=A5 hq;clear hq;go_wp2_with fail;go_roundw;(case rel=>exact⟨3+1,by omega,by go_num,A5 (λj hj=>by rcases vV.1 hj with h|h;exact HA.out j h;subst h;rw[HNM.out];exact HQ.out),m4⟩);case measure=>simp[intOf]
   .have h4:k=4:=A0;subst h4
    have ai:Hid (Cf (x.k.map AK.name)=B/\Cf (x.c.map Aj.name)=B/\Cf x.r=B/\Cf (x.d.map AF.name)=B):=A5 (by
     have h0:=HA.out 0 A0;have h1:=HA.out 1 A0;have h2:=HA.out 2 A0;have h3:=HA.out 3 A0;rw[HNM.out] at h0 h1 h2 h3
     exact⟨h0,h1,h2,h3⟩)
    clear HA es;have ml:=mk.drop;clear mk;have an:Hid ((x.k.all D8&&(x.c.all DX&&x.d.all (E8 x)))=res):=A5 (by rw[<-HRES.out];unfold N0;rw[ai.out.1,ai.out.2.1,ai.out.2.2.1,ai.out.2.2.2];rfl);clear ai HRES HNM;have ef:=Bw (L:=[(fb,Bc (V b1 x.k.length c1) (V b2 x.c.length c2) (V b3 x.r.length c3) (V b4 x.d.length c4) v1 v2 v3 v4 v5)]) (λp hp=>by rw[uj.1 hp];exact ml.imm _ _ ad.out);simp only[BS,Bc] at ef;go_wp2_with fail;refine(Qe _ x.k ml ak.out.c).mono ?_;rintro e w5 ⟨rfl,m5⟩;clear ef ml;cases hq:x.k.all D8
    .have HQ:=A5 hq;clear hq;go_wp2_with fail;go_ret;exact⟨H3,K1.out,A8 (by rw[<-an.out,HQ.out];rfl),m5⟩
    have HQ:=A5 hq;clear hq;have ef:=Bw (L:=[(fb,Bc (V b1 x.k.length c1) (V b2 x.c.length c2) (V b3 x.r.length c3) (V b4 x.d.length c4) v1 v2 v3 v4 v5)]) (λp hp=>by rw[uj.1 hp];exact m5.imm _ _ ad.out);simp only[BS,Bc] at ef;go_wp2_with fail;refine(R4 _ x.c m5 ak.out.k).mono ?_;rintro e w6 ⟨rfl,m6⟩;clear ef m5;cases hq:x.c.all DX
    .have ao:=A5 hq;clear hq;go_wp2_with fail;go_ret;exact⟨H3,K1.out,A8 (by rw[<-an.out,HQ.out,ao.out];rfl),m6⟩
    have ao:=A5 hq;clear hq;have ef:=Bw (L:=[(fb,Bc (V b1 x.k.length c1) (V b2 x.c.length c2) (V b3 x.r.length c3) (V b4 x.d.length c4) v1 v2 v3 v4 v5)]) (λp hp=>by rw[uj.1 hp];exact m6.imm _ _ ad.out);simp only[BS,Bc] at ef;go_wp2_with fail;refine(PW x fb _ x.d m6 ak.out.d bb.out).mono ?_;rintro e w7 ⟨rfl,m7⟩;clear ef m6;go_wp2_with fail;go_ret;exact⟨H3,K1.out,A8 (by rw[<-an.out,HQ.out,ao.out];rfl),m7⟩
theorem Y9 (c:AK):D8 c=Fj c:=by unfold D8 Fj;rw[GG];congr 1;rw[vL,decide_eq_true_eq,decide_eq_true_eq];omega
theorem Zf (c:AF):EK c=T (c.i.length<=2000/\c.g<=250):=by unfold EK;rw[vL,uv,decide_eq_true_eq,decide_eq_true_eq,decide_eq_true_eq];omega
theorem Zp (x:AI):IM x= !Cg x:=by unfold IM Cg;rw[show x.d.all EK=x.d.all (λc=>T (c.i.length<=2000/\c.g<=250)) from congrArg x.d.all (funext Zf)];generalize x.d.all (λc=>T (c.i.length<=2000/\c.g<=250))=q;rw[vL,vZ,Bool.and_eq_false_iff,decide_eq_false_iff_not];simp only[wW,decide_eq_true_eq,vZ];cases q<;>simp<;>omega
def hZ (op:Nat):Bool:=match SM op with
 |none=>T ((SJ op).word.size=0)&&(!J4 op&&T (op≠13))
 |some s=>T ((SJ op).word.size≠0)&&(((SJ op).to==s.to)&&(((SJ op).number==s.number)&&((!s.number||T ((SJ op).low=s.low/\(SJ op).high=s.high))&&(T ((SJ op).places=s.places)&&(T ((SJ op).name=s.name)&&
   ((T (op=13)||T ((SJ op).args=s.args/\s.args≠ -2/\s.args≠ -3))&&((s.w==T (op=66))&&((T (s.name=4)==T (op=15))&&((T (s.name≠6)||(T (s.args<0)==T (op=18)))&&((T (op≠18)||T (s.name=6))&&
   ((s.stops==J4 op)&&((T (op≠13)||T (s.to=B/\s.number=G/\s.name=0/\s.places=0/\(SJ op).args= -2))&&(T (s.name=0\/s.name=1\/s.name=2\/s.name=3\/s.name=4\/s.name=5\/s.name=6\/s.name=7)&&(T (s.name≠3)||T (op≠15/\op≠18/\op≠13)))))))))))))))
theorem lG:((ut 256).all hZ)=true:=by kernel_rfl
theorem Y2 {op:Nat} (h:op<256):hZ op=true:=vJ.1 lG op (vR.2 h)
theorem Sp {α:Type} (nm:α->ByteArray) (f:α->V_) (F:List α->List (ByteArray×V_)) (h0:F []=[]) (hs:∀l c,F (l++[c])=FT (F l) (nm c) (f c)):∀(r:List α),(r.reverse.map nm).Nodup->∀c∈r.reverse,BX (F r.reverse) (nm c)=O (f c)
 |[],_,c,hc=>by cases hc
 |d::r,hn,c,hc=>by
  rw[x4] at hn hc⊢
  rw[vx,xK] at hn
  rw[hs,Is]
  rcases vU.1 hc with hc|hc
  .rw[n_]
   .exact Sp nm f F h0 hs r hn.1 c hc
   .intro e
    exact hn.2.2 (nm c) (vz.2 ⟨c,hc,Z⟩) (nm d) (by simp) e.symm
  .rw[uj] at hc
   subst hc
   rw[p_ Z]
theorem ap {l:List AK} (hn:(l.map AK.name).Nodup) {c:AK} (hc:c∈l):Fw (DQ l) c.name=(c.f.length:Int):=by have:=Sp AK.name (λc=> Y I (c.f.length:Int)) DQ Z MZ l.reverse (by rw[ve];exact hn) c (by rw[ve];exact hc);rw[ve] at this;unfold Fw;rw[this]
theorem jh {l:List Aj} (hn:(l.map Aj.name).Nodup) {c:Aj} (hc:c∈l):Fw (EL l) c.name=c.parts:=by have:=Sp Aj.name (λc=> Y I c.parts) EL Z O8 l.reverse (by rw[ve];exact hn) c (by rw[ve];exact hc);rw[ve] at this;unfold Fw;rw[this]
theorem MM (nm:α->ByteArray) (l:List α) (s:ByteArray):(DG (λc=>T (nm c=s)) l<0/\IU (l.map nm) s=G)\/∃k,∃h:k<l.length,DG (λc=>T (nm c=s)) l=(k:Int)/\nm l[k]=s/\IU (l.map nm) s=true:=by
 have hh:IU (l.map nm) s=B↔s∈l.map nm:=by
  unfold IU;rw[decide_eq_true_eq];have:=Dq (l.map nm) s;constructor
  .intro h;by_cases h2:s∈l.map nm
   .exact h2
   .have:=this.2 h2;omega
  .intro h;by_cases h2:Aw (l.map nm) s<0
   .exact a_ h (this.1 h2)
   .omega
 rcases Cy (λc=>T (nm c=s)) l with ⟨h1,h2⟩|⟨k,hk,h1,h2⟩
 .refine .inl ⟨by omega,?_⟩
  cases hb:IU (l.map nm) s with
  |false=>rfl
  |true=>obtain⟨c,hc,he⟩:=vz.1 (hh.1 hb);have:=h2 c hc;rw[he] at this;simp at this
 .have h3:nm l[k]=s:=o_ h2;exact .inr ⟨k,hk,h1,h3,hh.2 (vz.2 ⟨l[k],vE hk,h3⟩)⟩
theorem EJ {l:List ByteArray} (h:B9 l=B):l.Nodup:=by rw[<-GG] at h;unfold Cf at h;rw[uv,decide_eq_true_eq,WF] at h;exact h.1
theorem PN (s:ByteArray):s.size=0↔s=vD:=by
 cases s with
 |mk d=>
  constructor
  .intro h;have:d=#[]:=Array.eq_empty_of_size_eq_zero h;subst this;rfl
  .intro h;rw[h];rfl
theorem KM {n m:Int} (h2:m≠ -2) (h3:m≠ -3):DB n m=(T (m= -1)||T (n=m)):=by
 unfold DB;by_cases h1:m= -1
 .rw[p_ h1,t_ h1];rfl
 .rw[n_ h1,n_ h2,n_ h3,f_ h1];rfl
theorem ZP (s:ByteArray):0<=Ev s:=by
 unfold Ev
 cases h:Ek.find? (λp=>T (p.1=s)) with
 |none=>exact wY _
 |some p=>have h1:=List.mem_of_find?_eq_some h;have h2:(Ek.all λp=>T (0<=p.2))=true:=AD;simpa using vJ.1 h2 p h1
theorem lB (x:AI) (i:Bu) (s:Qh) (an:i.op<256) (hs:SM i.op=O s) (hm:i.m=0\/(i.op=13/\i.m=1)) (h1:(x.k.map AK.name).Nodup) (h2:(x.c.map Aj.name).Nodup) (h3:x.c.all DX=B):Ca x i (CR i.op i.m)=Ed x s i:=by
 have ht:=Y2 an;unfold hZ at ht;rw[hs] at ht;simp only[uv,wW,decide_eq_true_eq,beq_iff_eq,ne_eq,vZ] at ht;obtain⟨t1,t2,t3,t4,t5,t6,t7,t8,t9,t10,t11,t12,t13,t14,t15⟩:=ht;unfold Ed Ca;by_cases ad:i.op=13
 .have ak:¬i.op=15:=A0;have aj:¬i.op=18:=A0;rw[n_ ak,n_ aj,p_ ad];rcases hm with hm|⟨_,hm⟩
  .have hq:CR i.op i.m=SJ i.op:=(by unfold CR;rw[n_ (λh=>by omega)]);obtain⟨u1,u2,u3,u4,u5⟩:=t13.resolve_left (λh=>h ad);rw[hq,n_ A0];unfold FP PG;rw[t6,u3,u5];simp only[if_true];by_cases hn:i.name=vD
   .rw[p_ hn,t_ hn];simp only[DB,vF];rfl
   .rw[n_ hn,f_ hn];rfl
  .have hq:CR i.op i.m=Pk:=(by unfold CR;rw[p_ ⟨ad,hm⟩]);rw[hq,p_ hm];unfold FP;simp only[Pk];rcases MM AF.name x.d i.name with ⟨e1,e2⟩|⟨k,hk,e1,e2,e3⟩
   .have aa:Cn x i.name<0:=e1;rw[e2];simp[aa]
   .have aa:¬Cn x i.name<0:=(by unfold Cn;omega);rw[e3];simp[aa,DB];omega
 .have ao:i.m=0:=by
   rcases hm with hm|⟨h,_⟩
   .exact hm
   .exact a_ h ad
  have hq:CR i.op i.m=SJ i.op:=(by unfold CR;rw[n_ (λh=>ad h.1)]);rw[hq,n_ ad];obtain⟨a1,a2,a3⟩:=t7.resolve_left ad;by_cases ag:i.op=15
  .have ah:s.name=4:=(by rw[t_ ag,decide_eq_true_eq] at t9;exact t9);rw[p_ ag];unfold FP PG;rw[t6,ah];simp only[(AD:¬(4:Nat)=0),(AD:¬(4:Nat)=1),(AD:¬(4:Nat)=2),(AD:¬(4:Nat)=3),(AD:¬(4:Nat)=5),if_false,if_true];rcases MM AK.name x.k i.name with ⟨e1,e2⟩|⟨k,hk,e1,e2,e3⟩
   .have aa:Eh x i.name<0:=e1;rw[e2,p_ aa];rfl
   .have e0:Eh x i.name=(k:Int):=e1;have aa:¬Eh x i.name<0:=A0;have hf:Fw (DQ x.k) i.name=((x.k[k]).f.length:Int):=(by rw[<-e2];exact ap h1 (vE hk));have ai:M7 x (Eh x i.name).toNat=((x.k[k]).f.length:Int):=(by rw[e0,wL];unfold M7;rw[uq hk]);rw[e3,n_ aa,hf,ai];simp only[vF];exact KM A0 A0
  .rw[n_ ag];by_cases ae:i.op=18
   .have af:s.name=6:=t11.resolve_left (λh=>h ae);have lg:s.args<0:=(by have:=t10.resolve_left (λh=>h af);rw[t_ ae,decide_eq_true_eq] at this;exact this);rw[p_ ae];unfold FP PG;rw[t6,af,a1];simp only[(AD:¬(6:Nat)=0),(AD:¬(6:Nat)=1),(AD:¬(6:Nat)=2),(AD:¬(6:Nat)=3),(AD:¬(6:Nat)=4),(AD:¬(6:Nat)=5),if_false,if_true];rcases MM Aj.name x.c i.name with ⟨e1,e2⟩|⟨k,hk,e1,e2,e3⟩
    .have aa:E6 x i.name<0:=e1;rw[e2,p_ aa];rfl
    .have e0:E6 x i.name=(k:Int):=e1;have aa:¬E6 x i.name<0:=A0;have hf:Fw (EL x.c) i.name=(x.c[k]).parts:=(by rw[<-e2];exact jh h2 (vE hk));have ai:Of x (E6 x i.name).toNat=(x.c[k]).parts:=(by rw[e0,wL];unfold Of;rw[uq hk]);have hp:0<=(x.c[k]).parts:=(by have:=vJ.1 h3 _ (vE hk);unfold DX F6 at this;rw[uv,decide_eq_true_eq] at this;exact this.2.1);rw[e3,n_ aa,p_ lg,hf,ai];simp only[vF];exact KM A0 A0
   .rw[n_ ae];have ah:s.name≠4:=(by intro h;rw[t_ h,f_ ag] at t9;cases t9);have af:s.name=6->¬s.args<0:=(by intro h h';have:=t10.resolve_left (λh2=>h2 h);rw[t_ h',f_ ae] at this;cases this);have hc:=KM (n:=(i.args.length:Int)) a2 a3;unfold FP PG Nc;rw[t6,a1];rcases t14 with h|h|h|h|h|h|h|h
    .simp only[h,if_true,(AD:¬(0:Nat)=3),if_false];by_cases hn:i.name=vD
     .rw[p_ hn,t_ hn,vF];exact hc
     .rw[n_ hn,f_ hn];rfl
    .simp only[h,(AD:¬(1:Nat)=0),(AD:¬(1:Nat)=3),if_false,if_true];cases DC i.name
     .rfl
     .rw[p_ Z,vF];exact hc
    .simp only[h,(AD:¬(2:Nat)=0),(AD:¬(2:Nat)=1),(AD:¬(2:Nat)=3),(AD:¬(2:Nat)=4),(AD:¬(2:Nat)=5),(AD:¬(2:Nat)=6),(AD:¬(2:Nat)=7),if_false,if_true];rcases MM AF.name x.d i.name with ⟨e1,e2⟩|⟨k,hk,e1,e2,e3⟩
     .have aa:Cn x i.name<0:=e1;rw[e2,p_ aa];rfl
     .have aa:¬Cn x i.name<0:=(by unfold Cn;omega);rw[e3,n_ aa,vF];exact hc
    .simp only[h,(AD:¬(3:Nat)=0),(AD:¬(3:Nat)=1),(AD:¬(3:Nat)=2),if_false,if_true];have hp:=ZP i.name;by_cases h0:Ev i.name=0
     .rw[p_ h0,h0];rfl
     .rw[n_ h0,t_ (A0:0<Ev i.name),vF];exact KM A0 A0
    .exact a_ h ah
    .simp only[h,(AD:¬(5:Nat)=0),(AD:¬(5:Nat)=1),(AD:¬(5:Nat)=2),(AD:¬(5:Nat)=3),(AD:¬(5:Nat)=4),(AD:¬(5:Nat)=6),(AD:¬(5:Nat)=7),if_false,if_true];cases B3 i.name
     .rfl
     .rw[p_ Z,vF];exact hc
    .simp only[h,(AD:¬(6:Nat)=0),(AD:¬(6:Nat)=1),(AD:¬(6:Nat)=2),(AD:¬(6:Nat)=3),(AD:¬(6:Nat)=4),(AD:¬(6:Nat)=5),if_false,if_true];rcases MM Aj.name x.c i.name with ⟨e1,e2⟩|⟨k,hk,e1,e2,e3⟩
     .have aa:E6 x i.name<0:=e1;rw[e2,p_ aa];rfl
     .have aa:¬E6 x i.name<0:=(by unfold E6;omega);rw[e3,n_ aa,n_ (af h),vF];exact hc
    .simp only[h,(AD:¬(7:Nat)=0),(AD:¬(7:Nat)=1),(AD:¬(7:Nat)=2),(AD:¬(7:Nat)=3),(AD:¬(7:Nat)=4),(AD:¬(7:Nat)=5),(AD:¬(7:Nat)=6),if_false,if_true];unfold IU;by_cases h0:Aw x.r i.name<0
     .rw[p_ h0,f_ (A0:¬0<=Aw x.r i.name)];rfl
     .rw[n_ h0,t_ (A0:0<=Aw x.r i.name),vF];exact hc
theorem gN (x:AI) (c:AF) (i:Bu) (ad:i.op<256) (h1:(x.k.map AK.name).Nodup) (h2:(x.c.map Aj.name).Nodup) (h3:x.c.all DX=B):FU x c i=Fh x c i:=by
 have ht:=Y2 ad;unfold hZ at ht;unfold FU
 cases hs:SM i.op with
 |none=>rw[hs] at ht;simp only[uv,decide_eq_true_eq,ne_eq,vZ] at ht;obtain⟨t1,t2,t3⟩:=ht;have hq:CR i.op i.m=SJ i.op:=(by unfold CR;rw[n_ (λh=>t3 h.1)]);unfold Fh;rw[hq,f_ (show ¬(SJ i.op).word≠vD from λh=>h ((PN _).1 t1))];rfl
 |some s=>
  rw[hs] at ht;simp only[uv,wW,decide_eq_true_eq,beq_iff_eq,ne_eq,vZ] at ht;obtain⟨t1,t2,t3,t4,t5,t6,t7,t8,t9,t10,t11,t12,t13,t14,t15⟩:=ht;rw[Option.isSome_some,vF,vh];unfold Uj Fh;by_cases hm:i.m=0\/(i.op=13/\i.m=1)
  .rw[lB x i s ad hs hm h1 h2 h3]
   have hq:(CR i.op i.m).word≠vD/\(CR i.op i.m).to=s.to/\(CR i.op i.m).number=s.number/\(s.number=B->(CR i.op i.m).low=s.low/\(CR i.op i.m).high=s.high)/\(CR i.op i.m).places=s.places:=by
    by_cases aa:i.op=13/\i.m=1
    .obtain⟨u1,u2,u3,u4,u5⟩:=t13.resolve_left (λh=>h aa.1);have hq:CR i.op i.m=Pk:=(by unfold CR;rw[p_ aa]);rw[hq,u1,u2,u4];exact⟨by decide,Z,Z,(λh=>by cases h),Z⟩
    .have hq:CR i.op i.m=SJ i.op:=(by unfold CR;rw[n_ aa]);rw[hq];refine⟨λh=>t1 ((PN _).2 h),t2,t3,λh=>?_,t5⟩;rcases t4 with h4|h4
     .rw[h] at h4;cases h4
     .exact h4
   obtain⟨q1,q2,q3,q4,q5⟩:=hq;rw[t_ q1,q2,q3,q5]
   have hn:(if s.number=B then F6 i.n (CR i.op i.m).low (CR i.op i.m).high else T (i.n=0))=if s.number=B then F6 i.n s.low s.high else T (i.n=0):=by
    by_cases hb:s.number=B
    .rw[p_ hb,p_ hb,(q4 hb).1,(q4 hb).2]
    .rw[n_ hb,n_ hb]
   have hw:(Eu i.w c.g c.i.length&&(if i.op=66 then F6 i.w.length 1 4 else T (i.w.length=0)))=(if s.w=B then Eu i.w c.g c.i.length&&F6 i.w.length 1 4 else T (i.w.length=0)):=by
    by_cases h66:i.op=66
    .rw[t_ h66] at t8;rw[p_ h66,p_ t8]
    .rw[f_ h66] at t8;rw[n_ h66,t8,n_ (by simp)];by_cases hl:i.w.length=0
     .rw[t_ hl,wm hl];rfl
     .rw[f_ hl,Bool.and_false]
   rw[hn,hw,vF];generalize Ed x s i=a1;generalize (i.args.all λr=>F6 r 0 (c.g-1))=a2;generalize (i.go.all λp=>F6 p 0 (c.i.length-1))=a3;generalize T ((i.go.length:Int)=s.places)=a4;generalize (if s.to=B then F6 i.to 0 (c.g-1) else T (i.to= -1))=a5;generalize (if s.number=B then F6 i.n s.low s.high else T (i.n=0))=a6;generalize T (i.m=0\/i.op=13/\i.m=1)=a7;generalize (if s.w=B then Eu i.w c.g c.i.length&&F6 i.w.length 1 4 else T (i.w.length=0))=a8;cases a1<;>cases a2<;>cases a3<;>cases a4<;>cases a5<;>cases a6<;>cases a7<;>rfl
  .rw[f_ hm];simp
theorem jq {op:Nat} (h:op<256):((SM op).getD GO).stops=J4 op:=by
 have ht:=Y2 h;unfold hZ at ht
 cases hs:SM op with
 |none=>rw[hs] at ht;simp only[uv,decide_eq_true_eq,ne_eq,vZ] at ht;rw[ht.2.1];rfl
 |some s=>rw[hs] at ht;simp only[uv,wW,decide_eq_true_eq,beq_iff_eq,ne_eq,vZ] at ht;obtain⟨t1,t2,t3,t4,t5,t6,t7,t8,t9,t10,t11,t12,t13,t14,t15⟩:=ht;exact t12
theorem ZE (x:AI) (c:AF) (aa:∀i∈c.i,i.op<256) (h1:(x.k.map AK.name).Nodup) (h2:(x.c.map Aj.name).Nodup) (h3:x.c.all DX=B):E8 x c=DM x c:=by
 unfold E8 DM;have ha:c.i.all (FU x c)=c.i.all (Fh x c):=(by rw[vL,vJ,vJ];exact⟨λh i hi=>by rw[<-gN x c i (aa i hi) h1 h2 h3];exact h i hi,λh i hi=>by rw[gN x c i (aa i hi) h1 h2 h3];exact h i hi⟩)
 have hs:((SM (Fg c)).getD GO).stops=J4 (Fg c):=by
  refine jq ?_;unfold Fg
  cases hl:c.i[c.i.length-1]? with
  |none=>decide
  |some i=>exact aa i (xO hl)
 rw[ha,hs];generalize F6 c.params 0 c.g=a1;generalize T (c.i.length≠0)=a2;generalize c.i.all (Fh x c)=a3;generalize J4 (Fg c)=a4;cases a1<;>cases a2<;>cases a3<;>cases a4<;>rfl
theorem kf (x:AI) (aa:∀c∈x.d,∀i∈c.i,i.op<256):N0 x=DL x:=by
 unfold N0 DL;rw[GG,GG,GG,GG];have hc:x.k.all D8=x.k.all Fj:=(by congr 1;funext c;exact Y9 c);rw[hc];cases a1:B9 (x.k.map AK.name)
 .simp
 cases a2:B9 (x.c.map Aj.name)
 .simp
 cases a3:x.c.all DX
 .simp
 have hk:x.d.all (E8 x)=x.d.all (DM x):=(by rw[vL,vJ,vJ];exact⟨λh c hc=>by rw[<-ZE x c (aa c hc) (EJ a1) (EJ a2) a3];exact h c hc,λh c hc=>by rw[ZE x c (aa c hc) (EJ a1) (EJ a2) a3];exact h c hc⟩);rw[hk];generalize B9 x.r=b1;generalize B9 (x.d.map AF.name)=b2;generalize x.k.all Fj=b3;generalize x.d.all (DM x)=b4;cases b1<;>cases b2<;>cases b3<;>cases b4<;>rfl
def W4.hasI (x:W4) (r:Int):Bool:=x.has r.toNat
theorem Je (x:W4) (hx:x.fit) (c:Int) (bf:Nat) (m:AC w0 H ((bf,C #[.func (.func 192) #[x.v] #[]] 170)::L) w) (h:0<=c/\c<256):K_ uh 236 #[Y I c,M (O ⟨bf,0,X⟩)] w (Bv w0 H ((bf,C #[.func (.func 192) #[x.v] #[]] 170)::L) (N (!x.hasI c))):=by have HH:=A5 h;clear h;obtain⟨cn,aa⟩:∃n:Nat,c=(n:Int):=⟨c.toNat,by have:=HH.out;omega⟩;subst aa;have m1:=m;generalize hq:x.hasI (cn:Int)=q;have HQ:=A5 (show x.has cn=q from hq);clear hq;have es:=m1.e0;go_enter func236,ntmps236;go_wp2_with fail;refine(Zv x hx cn (by have:=HH.out;omega) m1).mono ?_;rw[HQ.out];rintro e w2 ⟨rfl,m2⟩;go_wp2_with fail;go_ret;exact⟨A8 (by simp),m2⟩
theorem KQ (x:W4) (hx:x.fit) (v:V_) (xs:List Int) (bf:Nat) (m:AC w0 H ((bf,C #[.func (.func 192) #[x.v] #[]] 170)::L) w) (hv:AX AY H v xs) (hr:∀r∈xs,0<=r/\r<256):K_ uh 202 #[v,.func (.func 236) #[] #[M (O ⟨bf,0,X⟩)]] w (Me w0 H ((bf,C #[.func (.func 192) #[x.v] #[]] 170)::L) (!xs.all (x.hasI))):=by
 have HV:=A5 hv;obtain⟨b,c,rfl,ae,ad,_,_⟩:=hv;have ad:=A9 ad;go_enter func202,ntmps202;go_wp2_with fail;(go_loopw [5,8] (λ_ i wr=>∃k:Nat,k<=xs.length/\i= Y I k/\(xs.take k).all (x.hasI)=B/\AC w0 H ((bf,C #[.func (.func 192) #[x.v] #[]] 170)::L) wr) (λ_ i _=>xs.length-(intOf i).toNat));case atStart=>exact⟨0,uz _,Z,Z,m⟩
 case round=>
  clear m;obtain⟨k,hk,rfl,ly,m⟩:=hrel;have HA:=A5 ly;clear ly;by_cases lg:k<xs.length
  .have hx:=uq lg;have aa:=A5 (hr _ (vE lg));generalize hy:xs[k]=y at hx aa;obtain⟨lu,off,rfl,q1,q2⟩:=HV.out.getI hx;clear hx;have ae:=q1.cell m;cases hq:x.hasI y
   .have HQ:=A5 hq;clear hq;have HY:=A5 hy;clear hy;go_wp2_with fail;refine(Je x hx y bf m aa.out).mono ?_;rw[HQ.out];rintro e w2 ⟨rfl,m2⟩;go_wp2_with fail;go_ret;refine⟨_,Z,?_,m2⟩;rw[show xs.all (x.hasI)=G from B4 _ xs k lg Rc];simp
   .have HQ:=A5 hq;clear hq;have HY:=A5 hy;clear hy;go_wp2_with fail;refine(Je x hx y bf m aa.out).mono ?_;exact Rt
  .go_wp2_with fail;exact NO
theorem Ij (x:W4) (hx:x.fit) (v:V_) (xs:List Int) (bf:Nat) (m:AC w0 H ((bf,C #[.func (.func 192) #[x.v] #[]] 170)::L) w) (hv:AX AY H v xs) (hr:∀r∈xs,0<=r/\r<256):K_ uh 145 #[v,.func (.func 236) #[] #[M (O ⟨bf,0,X⟩)]] w (Bv w0 H ((bf,C #[.func (.func 192) #[x.v] #[]] 170)::L) (N (!xs.all (x.hasI)))):=by go_enter func145,ntmps145;go_wp2_with (go_at_call 202;refine(KQ x hx v xs bf m hv hr).mono ?_;rintro e w' ⟨k,rfl,hk,m2⟩;have HK:=A5 hk;clear hk);exact IW
theorem Qs (x:W4) (hx:x.fit) (v:V_) (xs:List Int) (m:AC w0 H L w) (hv:AX AY H v xs) (hr:∀r∈xs,0<=r/\r<256):K_ uh 190 #[v,.func (.func 192) #[x.v] #[]] w (Bv w0 H L (N (xs.all (x.hasI)))):=by have HV:=A5 hv;clear hv;go_enter func190,ntmps190;have m1:=m.alloc (C #[.func (.func 192) #[x.v] #[]] 170);go_wp2_with fail;refine(Ij x hx v xs _ m1 HV.out hr).mono ?_;exact Ms
variable {fin:(Nat->C2)->Act}
theorem Al.genW {ops:Array Oper} {sp:List Du} {s:Du} (p:List Nat×List Nat×(List C2->C2->Prop)) (hk:s.skip=G) (hn:s.new=O p) (hg:∀bs,Region.wanted o (yielded ops (fin bs).tmps)=B) (h:∀bs w L',GP ops sp bs i->AC w0 H ((p.1.flatMap λk=>(bs k).bl)++(L'++L)) w->BU P (fin bs).eval o w λv w'=>∃d,p.2.2 (p.2.1.map bs) d/\v=s.value (KU bs i d)/\AC w0 H (d.bl++(L'++L)) w'):Al P ops sp w0 H L fin o s i:=by intro bs hb;refine .inr ⟨hk,hg bs,λw L' m=>?_⟩;unfold Du.cons at m;rw[hn] at m⊢;exact h bs w L' hb m
theorem Z4:Jt uh 3 (Y I):=Xv underlying3
def IA (ot:Nat->Bool) (tr:Nat->List Int) (k:Nat) (r:CA) (i:Bu):Bool:=
 r.e&&(ot k||(!((CM i).all r.kn.hasI)||((T (i.op=68)&&T ((tr k).length=0))||(T (i.op=69)&&T (0<(tr k).length)))))
def QU (w0:W_) (H:Hp) (L:List (Nat×Obj)) (n:Nat) (bad:Nat->Prop) (e:E_) (w':W_):Prop:=
 AC w0 H L w'/\((∃k,k<n/\bad k/\(∀j,j<k->¬bad j)/\e= .returned (Y I k))\/((∀j,j<n->¬bad j)/\e= .returned (Y I (-1))))
structure lk (H:Hp) (L:List (Nat×Obj)) (c:AF) (ib:Option Addr) (ic ab sb mb fb:Nat) (rows:List CA) (ot:Nat->Bool) (tr:Nat->List Int):Prop where
 f:(fb,Ac c ib ic ab sb mb)∈L
 a:(ab,C8 rows)∈L
 m:∃lL mcl lm,(mb,Obj.map lL mcl)∈L/\Bt (Y I) lL lm/\∀k:Nat,(BX lm (k:Int)).getD (N G)= N (ot k)
 i:AX C1 H (V ib c.i.length ic) c.i
 len:rows.length=c.i.length
 row:∀k r,rows[k]?=O r->r.kn.fit/\AX AY H r.tv (tr k)
 rd:∀i∈c.i,i.args.length<=4096/\i.w.length<=4/\(∀y∈i.w,y.kind=1\/y.kind=2\/y.kind=3)/\∀r∈CM i,0<=r/\r<256
def Xr (c:AF) (rows:List CA) (ot:Nat->Bool) (tr:Nat->List Int) (k:Nat):Prop:=∃r i,rows[k]?=O r/\c.i[k]?=O i/\IA ot tr k r i=B
theorem Tf (c:AF) (ib:Option Addr) (ic ab sb mb fb:Nat) (rows:List CA) (ot:Nat->Bool) (tr:Nat->List Int) (m:AC w0 H L w) (hf:lk H L c ib ic ab sb mb fb rows ot tr):K_ uh 126 #[M (O ⟨fb,0,X⟩)] w (QU w0 H L c.i.length (Xr c rows ot tr)):=by
 have HF:=A5 hf;have bj:ic<=9223372036854775807/\c.i.length<=ic:=(by obtain⟨_,_,az,bb,ba,_,_⟩:=hf.i;cases az;exact⟨A9 ba,bb⟩);obtain⟨lL,ay,lm,ar,au,aq⟩:=hf.m;have HMM:=A5 (And.intro ar (And.intro au aq));clear ar au aq hf;have ef:=Bw (w:=w) (L:=[(fb,Ac c ib ic ab sb mb)]) (λp hp=>by rw[uj.1 hp];exact(m.loc _ HF.out.f).1);simp only[BS,Ac] at ef;go_enter func126,ntmps126;go_wp2_with fail;clear ef;(go_loopw [12] (λi wr=>∃k:Nat,k<=c.i.length/\i= Y I k/\Hid (∀j,j<k->¬Xr c rows ot tr j)/\AC w0 H L wr) (λi _=>c.i.length-(intOf i).toNat));case atStart=>exact⟨0,uz _,Z,A5 (λj h=>a_ h A0),m⟩
 case round=>
  clear m;obtain⟨k,hk,rfl,HE,mk⟩:=hrel;by_cases lg:k<c.i.length
  .have lJ:(k:Int)<c.i.length:=A0;have hx:=uq lg;have hrr:k<rows.length:=(by have:=HF.out.len;omega);have hr:=uq hrr;have HRD:=A5 (HF.out.rd _ (vE lg));generalize c.i[k]=y at*;generalize rows[k]=r at*;have HBAD:=A5 (show Xr c rows ot tr k↔IA ot tr k r y=B from⟨λ⟨r',y',e1,e2,e3⟩=>by rw[hr] at e1;rw[hx] at e2;cases e1;cases e2;exact e3,λh=>⟨r,y,hr,hx,h⟩⟩);obtain⟨lu,off,va,vg,vw,rfl,q0,q1,q2,q3,q4,q5,q6,q7,hi⟩:=HF.out.i.getIns hx;have HI:=A5 hi;obtain⟨b5,c5,b6,c6,b7,c7,rfl,rfl,rfl,l5,l6,l7⟩:=hi.shapes;clear hi;have aa:=HF.out.row k r hr;have HKN:=A5 aa.1;obtain⟨tb,tc,ao,bg,bf,_,_⟩:=aa.2;clear aa;(have hst:∀j,j<6->wr.cell? ⟨ab,k*6+j,X⟩=r.cs[j]?:=λj hj=>by rw[AU (mk.loc _ HF.out.a).1];simpa using I6 rows k r j hr hj);clear hr hx;obtain⟨come,tv,kn⟩:=r;simp only at ao;subst ao;have s0:=hst 0 AD;have s1:=hst 1 AD;have s2:=hst 2 AD;have s3:=hst 3 AD;have s4:=hst 4 AD;have s5:=hst 5 AD;simp only[CA.cs,List.getElem?_cons_succ,wT,vp] at s0 s1 s2 s3 s4 s5;clear hst;have bc:ab<wr.heap.size:=Af (mk.loc _ HF.out.a).1;have e0:=q0.cell mk;have e1:=q1.cell mk;have e2:=q2.cell mk;have e3:=q3.cell mk;have e4:=q4.cell mk;have e5:=q5.cell mk;have e6:=q6.cell mk;have e7:=q7.cell mk;clear q0 q1 q2 q3 q4 q5 q6 q7;have bh:(k:Int)<c.i.length:=lJ;have ef:=Bw (w:=wr) (L:=[(fb,Ac c (O ⟨lu,off,X⟩) ic ab sb mb)]) (λp hp=>by rw[uj.1 hp];exact(mk.loc _ HF.out.f).1);simp only[BS,Ac] at ef;have mS:=(mk.alloc (C #[Y .u8 y.op,Y I y.to,V b5 y.args.length c5,Y I y.n,Y I y.m,U y.name,V b6 y.go.length c6,V b7 y.w.length c7] 82)).alloc (C #[N come,V tb (tr k).length tc,Y .u64 (kn.a:Int),Y .u64 (kn.b:Int),Y .u64 (kn.c:Int),Y .u64 (kn.d:Int)] 242);simp only[vG] at mS;have es:=mS.e0
   have HKY:=A5 (show ∀W:W_,∀L',AC w0 H L' W->(mb,Obj.map lL ay)∈L'->(Instr.lookup 212 (.map (O mb)) (Y I (k:Int)) G).run uh W= .ok (N (ot k)) W from λW L' mW hW=>by
    have:=AC.look (P:=uh) (t:=212) (et:=4) (z:= N G) Z4 underlying212 (by go_simp) mW hW HMM.out.2.1 (k:Int) G;rw[HMM.out.2.2 k] at this
    exact this)
   cases come
   .go_wp2_with fail;go_roundw;(case rel=>exact⟨k+1,by omega,by go_num,A5 (λj hj=>by rcases vV.1 hj with h|h;exact HE.out j h;subst h;rw[HBAD.out];simp[IA]),mS.drop.drop⟩);case measure=>exact BW
   go_wp2_with fail;generalize wr.heap.size=eb at*;refine Da (F:=λw'=>Code.wp _ _ _ _ w') mS ?_;clear es mS ef e0 e1 e2 e3 e4 e5 e6 e7 s0 s1 s2 s3 s4 s5 bc mk;intro bd mr;obtain⟨ah,av⟩:∃b,(CM y).all kn.hasI=b:=⟨_,Z⟩;have ad:=A5 av;clear av;cases ag:ot k
   .have HOT:=A5 ag;clear ag;refine B1 mr [VK (M (O ⟨fb,0,X⟩)),VK (M (O ⟨fb,0,X⟩)),VK (M (O ⟨fb,6,X⟩)),VK (.map (O mb)),VK (Y I k),VK (N G),VK (N G),VK (.agg #[Y .u8 y.op,Y I y.to,V b5 y.args.length c5,Y I y.n,Y I y.m,U y.name,V b6 y.go.length c6,V b7 y.w.length c7]),⟨[8],λzb=>(zb.getD 0 Ax).v,O ([],[],λzb d=>Fo d.v (CM y) d.bl),G⟩,VK (M (O ⟨eb+1,2,X⟩)),VK (.agg #[Y .u64 (kn.a:Int),Y .u64 (kn.b:Int),Y .u64 (kn.c:Int),Y .u64 (kn.d:Int)]),VK (.func (.func 192) #[.agg #[Y .u64 (kn.a:Int),Y .u64 (kn.b:Int),Y .u64 (kn.c:Int),Y .u64 (kn.d:Int)]] #[]),⟨[],λzb=> N ah,O ([8],[],λzb d=>d.bl=[]),G⟩,VK (N (!ah)),VK (N (!ah))] (nf 12++[B]++nf 2) ?_ ?_
    .refine⟨AA,Z0,AA,Z0,AA,it,AA,jE,?_,Bb,jE,Bb,?_,Bb,AA,trivial⟩
     ·(refine Al.genW _ Z Z (λbs=>by first|rfl|(go_simp;done)) λbs w L2 hb m=>?_);simp only[vS,ui] at m;refine BU.ofCall (f:=191) (args:=#[.agg #[Y .u8 y.op,Y I y.to,V b5 y.args.length c5,Y I y.n,Y I y.m,U y.name,V b6 y.go.length c6,V b7 y.w.length c7]]) Br ?_;refine(Ut y _ _ _ HRD.out.1 HRD.out.2.1 HRD.out.2.2.1 m HI.out).mono ?_;exact UO
     ·(refine Al.genW _ Z Z (λbs=>by first|rfl|(go_simp;done)) λbs w L2 hb m=>?_);have h8:Fo (bs 8).v (CM y) (bs 8).bl:=hb.at 8 A7 Z Z;simp only[wF,vS,wG] at m;obtain⟨H',m',mN,hs,back⟩:=h8.acc.borrow (Cv _ h8.fit) Z Z m;refine BU.ofCall (f:=190) (args:=#[(bs 8).v,.func (.func 192) #[.agg #[Y .u64 (kn.a:Int),Y .u64 (kn.b:Int),Y .u64 (kn.c:Int),Y .u64 (kn.d:Int)]] #[]]) Br ?_;refine(Qs kn HKN.out _ (CM y) m' hs HRD.out.2.2.2).mono ?_;rintro e w2 ⟨rfl,m2⟩;rw[ad.out];exact⟨_,Z,⟨0,0,undef,[]⟩,Z,Z,(back _ _ m2).dropLK⟩
    .intro bs wd hb md;replace md:=AC.like1 mr (bs 12).bl md;have ax:Fo (bs 8).v (CM y) (bs 8).bl:=hb 8 _ _ Z Z;have ak:(bs 12).bl=[]:=hb 12 _ _ Z Z;(try simp only[ul,ui] at md);simp only[ur,uu,Nat.reduceAdd,uy,um,un];clear hb ax;rw[ak] at md;simp only[ui] at md;have es:=md.e0;cases ah
     .skip;go_wp2_with fail;go_ret;exact⟨md.drop.drop,.inl ⟨k,lg,HBAD.out.2 (by simp[IA,HOT.out,ad.out]),HE.out,Z⟩⟩
     by_cases ae:y.op=68
     .have aw:((y.op:Int)==68)=true:=(by rw[ae];rfl);have an:((y.op:Int)==69)=false:=bF A0;have aj:=A5 ae;clear ae;by_cases hl:(tr k).length=0
      .have ql:(((tr k).length:Int)==0)=true:=(by rw[hl];rfl);have HL:=A5 hl;clear hl;go_wp2_with fail;go_ret;exact⟨md.drop.drop,.inl ⟨k,lg,HBAD.out.2 (by simp[IA,HOT.out,ad.out,aj.out,HL.out]),HE.out,Z⟩⟩
      .have ql:(((tr k).length:Int)==0)=false:=bF A0;have HL:=A5 hl;clear hl;go_wp2_with fail;go_roundw;(case rel=>exact⟨k+1,by omega,by go_num,A5 (λj hj=>by rcases vV.1 hj with h|h;exact HE.out j h;subst h;rw[HBAD.out];simp[IA,HOT.out,ad.out,aj.out,HL.out]),md.drop.drop⟩);case measure=>exact BW
     have aw:((y.op:Int)==68)=false:=bF A0;by_cases af:y.op=69
     .have an:((y.op:Int)==69)=true:=(by rw[af];rfl);have ai:=A5 af;clear af ae;by_cases hl:0<(tr k).length
      .have ql:(0:Int)<((tr k).length:Int):=A0;have HL:=A5 hl;clear hl;go_wp2_with fail;go_ret;exact⟨md.drop.drop,.inl ⟨k,lg,HBAD.out.2 (by simp[IA,HOT.out,ad.out,ai.out,HL.out]),HE.out,Z⟩⟩
      .have ql:¬(0:Int)<((tr k).length:Int):=A0;have HL:=A5 (show tr k=[] from wm A0);clear hl;go_wp2_with fail;go_roundw;(case rel=>exact⟨k+1,by omega,by go_num,A5 (λj hj=>by rcases vV.1 hj with h|h;exact HE.out j h;subst h;rw[HBAD.out];simp[IA,HOT.out,ad.out,ai.out,HL.out]),md.drop.drop⟩);case measure=>exact BW
     have an:((y.op:Int)==69)=false:=bF A0;have aj:=A5 ae;have ai:=A5 af;clear ae af;go_wp2_with fail;go_roundw;(case rel=>exact⟨k+1,by omega,by go_num,A5 (λj hj=>by rcases vV.1 hj with h|h;exact HE.out j h;subst h;rw[HBAD.out];simp[IA,HOT.out,ad.out,aj.out,ai.out]),md.drop.drop⟩);case measure=>exact BW
   .have HOT:=A5 ag;clear ag;refine B1 mr [VK (M (O ⟨fb,0,X⟩)),VK (M (O ⟨fb,0,X⟩)),VK (M (O ⟨fb,6,X⟩)),VK (.map (O mb)),VK (Y I k),VK (N B),VK (N B),SK,SK,SK,SK,SK,SK,SK,VK (N B)] (nf 15) ?_ ?_
    .exact⟨AA,Z0,AA,Z0,AA,it,AA,Ak,Ak,Ak,Ak,Ak,Ak,Ak,AA,trivial⟩
    .intro bs wd hb md;replace md:=AC.like0 mr md;(try simp only[ul,ui] at md);simp only[ur,uu,Nat.reduceAdd,uy,um,un];clear hb;go_wp2_with fail;go_ret;exact⟨md.drop.drop,.inl ⟨k,lg,HBAD.out.2 (by simp[IA,HOT.out]),HE.out,Z⟩⟩
  .have hge:¬(k:Int)<c.i.length:=A0;go_wp2_with fail;go_ret;exact⟨mk,.inr ⟨λj hj=>HE.out j A0,Z⟩⟩
variable {w':World}
def Ok (n:Nat) (bad:Nat->Prop) (b:Int):Prop:=(∃k:Nat,k<n/\bad k/\(∀j,j<k->¬bad j)/\b=(k:Int))\/((∀j,j<n->¬bad j)/\b= -1)
theorem QU.is {bad:Nat->Prop} {e:E_} {b:Int} (h:QU w0 H L n bad e w') (hb:Ok n bad b):e= .returned (Y I b)/\AC w0 H L w':=by
 refine⟨?_,h.1⟩;rcases h.2 with ⟨k,h1,h2,h3,rfl⟩|⟨h1,rfl⟩
 .rcases hb with ⟨k',g1,g2,g3,rfl⟩|⟨g1,rfl⟩
  .have:k=k':=by
    rcases Nat.lt_trichotomy k k' with h|h|h
    .exact a_ h2 (g3 k h)
    .exact h
    .exact a_ g2 (h3 k' h)
   rw[this]
  .exact a_ h2 (g1 k h1)
 .rcases hb with ⟨k',g1,g2,g3,rfl⟩|⟨g1,rfl⟩
  .exact a_ g2 (h1 k' g1)
  .rfl
def PI (w0:W_) (H:Hp) (L:List (Nat×Obj)) (c:AF) (e:E_) (w':W_):Prop:=
 ∃fb H' LF b ib ic ab sb mb rows ot tr,e= .returned (M (O ⟨fb,0,X⟩))/\Bl H H'/\AC w0 H' (LF++L) w'/\lk H' (LF++L) c ib ic ab sb mb fb rows ot tr/\JS c b/\Ok c.i.length (Xr c rows ot tr) b
theorem Tb {w0:W_} {H:Hp} {L:List (Nat×Obj)}:∀(L0:List (Nat×Obj)) {w:W_},AC w0 H (L0++L) w->AC w0 H L w
 |[],_,m=>m
 |_::L0,_,m=>Tb L0 m.drop
def NV (x:AI):Prop:=∀(c:AF) (sv:V_) (w0 w:W_) (H:Hp) (L:List (Nat×Obj)),c∈x.d->AC w0 H L w->AX C1 H sv c.i->c.fit->
 K_ uh 125 #[.agg #[U c.name,Y I c.params,Y I c.g,sv]] w (PI w0 H L c)
def pL (w0:W_) (H:Hp) (L:List (Nat×Obj)) (x:AI) (e:E_) (w':W_):Prop:=∃H' a b er,Bl H H'/\e= .returned (.tuple #[Y I a,Y I b,Y I er])/\Gi x er/\AC w0 H' L w'
theorem XE (x:AI) (vc vk vr vd:V_) (av:∀c∈x.d,∀i∈c.i,i.op<256) (ak:Cg x=B->DL x=B->NV x) (m:AC w0 H L w) (hx:Bz H x vc vk vr vd):K_ uh 83 #[.agg #[vc,vk,vr,vd]] w (pL w0 H L x):=by
 have HX:=A5 hx;obtain⟨b1,c1,b2,c2,b3,c3,b4,c4,rfl,rfl,rfl,rfl,l1,l2,l3,l4⟩:=hx.shapes;clear hx;have m1:=m.alloc (IB x b1 c1 b2 c2 b3 c3 b4 c4);have es:=m1.e1;generalize bg:w.heap.size=xb at*;go_enter func83,ntmps83;go_wp2_with fail;refine(WC x _ _ _ _ m1 HX.out).mono ?_;rintro e w2 ⟨rfl,m2⟩;rw[Zp];clear es m1;have es:=m2.e1;cases aa:Cg x
 .have ad:=A5 aa;clear aa;go_wp2_with fail;go_ret3;exact⟨H,0,0,5,Bl.refl _,Z,.inl ⟨ad.out,Z⟩,m2.drop⟩
 have ad:=A5 aa;have lC:x.k.length<=40/\x.c.length<=40/\x.r.length<=40/\x.d.length<=80:=(by unfold Cg at aa;rw[uv,decide_eq_true_eq] at aa;exact aa.1);clear aa;go_wp2_with fail;refine(Ww x _ _ _ _ A0 A0 A0 m2 HX.out).mono ?_;rintro e w3 ⟨fb,H3,rfl,ah,m3,aq⟩;clear es m2;have es:=m3.e1;go_wp2_with fail;refine(UY x fb A0 A0 A0 m3 aq).mono ?_;rintro e w4 ⟨H4,ag,rfl,m4⟩;rw[kf x av];have HLE:=A5 (ah.trans ag);clear es m3 aq ah ag;have es:=m4.e1;cases hfm:DL x
 .have ai:=A5 hfm;clear hfm;go_wp2_with fail;go_ret3;exact⟨H4,0,0,4,HLE.out,Z,.inr (.inl ⟨ad.out,ai.out,Z⟩),m4.drop⟩
 have ai:=A5 hfm;clear hfm;have bc:=A5 (ak ad.out ai.out);clear ak;have bb:=A5 (HX.out.mono HLE.out);go_wp2_with fail;clear es;(go_loopw [17] (λi wr=>∃(k:Nat) (H5:Hp) (L5:List (Nat×Obj)),k<=x.d.length/\i= Y I k/\Hid (Bl H H5)/\Hid (∀j (h:j<x.d.length),j<k->∃b,JS x.d[j] b/\b<0)/\AC w0 H5 ((xb,IB x b1 c1 b2 c2 b3 c3 b4 c4)::L) wr) (λi _=>x.d.length-(intOf i).toNat));case atStart=>exact⟨0,H4,[],uz _,Z,HLE,A5 (λj h h2=>a_ h2 A0),m4⟩
 case round=>
  clear m4 bb;obtain⟨k,H5,_,hk,rfl,aj,HE,mk⟩:=hrel;by_cases lg:k<x.d.length
  .have lJ:(k:Int)<x.d.length:=A0;have hx:=uq lg;have HC:=A5 (vE lg)
   have HS:=A5 (show ∀(P:AF->Prop),(∀j (h:j<x.d.length),j<k->P x.d[j])->P x.d[k]->∀j (h:j<x.d.length),j<k+1->P x.d[j] from λP h1 h2 j h hj=>by
    rcases vV.1 hj with h3|h3
    .exact h1 j h h3
    .subst h3;exact h2)
   generalize x.d[k]=y at*;obtain⟨lu,off,sv,rfl,q1,q2,q3,q4,q5,q6⟩:=(HX.out.mono aj.out).d.getCode hx;clear hx;have az:=q1.cell mk;have ay:=q2.cell mk;have ax:=q3.cell mk;have aw:=q4.cell mk;have bd:=A5 q5;obtain⟨gb,gc,rfl,_,_,_,_⟩:=q5;have mS:=mk.alloc (C #[U y.name,Y I y.params,Y I y.g,V gb y.i.length gc] 78);have es:=mS.e1;go_wp2_with fail;refine(bc.out y _ w0 _ H5 _ HC.out mS bd.out q6).mono ?_;rintro e w6 ⟨ba,H6,LF,b,ib,ic,ab,sb,mb,rows,ot,tr,rfl,af,m6,an,ar,ao⟩;clear es mS mk az ay ax aw q1 q2 q3 q4;have au:=A5 ar;have bf:=A5 ao;clear ar ao;go_wp2_with fail;refine(Tf y ib ic ab sb mb ba rows ot tr m6 an).mono ?_;intro e w7 ae;obtain⟨rfl,m7⟩:=ae.is bf.out;have m8:=Tb LF m7;clear an ae m6 m7;have es:=m8.e1;by_cases hb:0<=b
   .have HB:=A5 hb;go_wp2_with fail;go_ret3;exact⟨H6,k,b,9,aj.out.trans af,Z,.inr (.inr ⟨ad.out,ai.out,.inl ⟨Z,y,HC.out,b,au.out,HB.out⟩⟩),m8.drop.drop⟩
   .have HB:=A5 (A0:b<0);go_wp2_with fail;go_roundw;(case rel=>exact⟨k+1,H6,[],by omega,by go_num,A5 (aj.out.trans af),A5 (HS.out (λc=>∃b,JS c b/\b<0) HE.out ⟨b,au.out,HB.out⟩),m8.drop⟩);case measure=>exact BW
  .have hge:¬(k:Int)<x.d.length:=A0;go_wp2_with fail;go_ret3
   exact⟨H5,0,0,0,aj.out,Z,.inr (.inr ⟨ad.out,ai.out,.inr ⟨Z,λc hc=>by
    obtain⟨j,hj,rfl⟩:=wx hc
    exact HE.out j hj A0⟩⟩),mk.drop⟩
theorem Xe (x:AI) (vc vk vr vd:V_) (ad:∀c∈x.d,∀i∈c.i,i.op<256) (aa:Cg x=B->DL x=B->NV x) (m:AC w0 H L w) (hx:Bz H x vc vk vr vd):K_ uh 44 #[.agg #[vc,vk,vr,vd]] w (Xs w0 H L x):=by have HX:=A5 hx;obtain⟨b1,c1,b2,c2,b3,c3,b4,c4,rfl,rfl,rfl,rfl,l1,l2,l3,l4⟩:=hx.shapes;clear hx;have HN:=A5 aa;clear aa;have m1:=m.alloc (IB x b1 c1 b2 c2 b3 c3 b4 c4);have es:=m1.e1;go_enter func44,ntmps44;go_wp2_with fail;refine(XE x _ _ _ _ ad HN.out m1 HX.out).mono ?_;rintro e w2 ⟨H',a,b,er,mN,rfl,hc,m2⟩;go_wp2_with fail;go_ret;exact⟨H',er,mN,Z,hc,m2.drop⟩
section
variable {K:Act->World->Prop}
section
variable {P:P_} {ops:Array Oper} {Q:Exit->Act->W_->Prop} {w0:W_} {H:Hp} {L:List (Nat×Obj)} {l n:Nat}
theorem Rows.inRound {row:String} {args:Array V_} {w:W_} {R:V_->W_->Prop} (h:Rows P row args w R):RowsIn (Fence.wide.inRound l) n P row args w R:=
 λc cs _=>let ⟨v,w',r,s⟩:=h c cs;⟨v,w',r,stepsIn_wide.2 s⟩
theorem Oper.wpIn_of {a:Act} (hd:∀c,o.op≠ .defer c) (h:o.wp P a w K Q):o.wpIn (Fence.wide.inRound l) n P a w K Q:=by
 refine⟨λ_ _=>trivial,?_⟩;rw[Oper.semAt_plain _ _ _ hd];unfold Oper.wp at h;generalize (x_ a.eval o).run P w=r at h⊢
 cases r with
 |ok x w'=>
  cases x with
  |value v=>exact h
  |skip=>exact h
  |defer d=>exact h
  |enter f args=>exact⟨λh=>CZ,CallsIn.inRound l (callsIn_wide.2 h)⟩
  |row row args=>exact⟨λh=>CZ,Rows.inRound h⟩
  |_=>exact h.elim
 |halt x w'=>cases x<;>first|exact h|exact h.elim
def IQ (ops:Array Oper):Bool:=ops.all λo=>match o.op with| .defer _=>G|_=>B
theorem WU (hn:IQ ops=B) (ho:ops[i]?=O o):∀c,o.op≠ .defer c:=by intro c hc;obtain⟨hi,rfl⟩:=Array.getElem?_eq_some_iff.1 ho;have:=Array.all_eq_true.1 hn i hi;rw[hc] at this;cases this
theorem Rk {a:Act} (hn:IQ ops=B) (aa:¬LetsOut Q) (h:wpOp P ops Q i K a w):wpOpIn (Fence.wide.inRound l) n P ops Q i K a w:=by
 unfold wpOp at h;unfold wpOpIn
 cases ho:ops[i]? with
 |none=>rw[ho] at h;exact h
 |some o=>
  rw[ho] at h;simp only at h⊢;split
  .rename_i hw;rw[p_ hw] at h;rcases h with h|h
   .exact Oper.wpIn_of (WU hn ho) h
   .exact a_ h.2 aa
  .rename_i hw;rw[n_ hw] at h;exact⟨λ_ _=>trivial,h⟩
theorem Lq {md:Region.Mode} (hn:IQ ops=B) (hLO:¬LetsOut Q):∀(fuel:Nat) (ls:Array Bool) (a:Act) (w:W_),wpAny P md ops Q fuel ls a w->wpAnyIn (Fence.wide.inRound l) n P md ops Q fuel ls a w
 |0,ls,a,w,h=>h
 |fuel+1,ls,a,w,h=>⟨h.1,λi hi=>wpOpIn_mono (λa w=>Lq hn hLO fuel _ a w) (Rk hn hLO (h.2 i hi))⟩
theorem Ow (hn:IQ ops=B) (hLO:¬LetsOut Q):∀(is:List Nat) (a:Act) (w:W_),wpOps P ops Q is a w->wpOpsIn (Fence.wide.inRound l) n P ops Q is a w
 |[],a,w,h=>by simpa[wpOps,wpOpsIn] using h
 |i::is,a,w,h=>by
  rw[wpOps_cons] at h
  rw[wpOpsIn_cons]
  exact wpOpIn_mono (λa w=>Ow hn hLO is a w) (Rk hn hLO h)
theorem DJ {id:Nat} {a:Act} (hn:IQ ops=B) (aa:¬LetsOut Q) (h:wpList P ops Q ops.toList a w):(Code.region id ops G).wpIn (Fence.wide.inRound l) n P Q a w:=by refine wpIn_region (Ow hn aa _ _ _ ?_);rw[List.range_eq_range',<-wh,wpOps_eq_wpList ops.toList 0 (by simp)];exact h
theorem A6.startIn {id:Nat} {a:Act} {w:W_} (S:W_->Prop) (k:Nat) (hm:P.follows .mixedOrders=B) (hn:IQ ops=B) (hLO:¬LetsOut Q) (h:A6 P ops Q S k ops.size (xP ops.size G) a w.drew):(Code.region id ops B).wpIn (Fence.wide.inRound l) n P Q a w:=
 wpIn_region_any hm (Lq hn hLO _ _ _ _ (h.any _))
theorem KL {c:Code} {Xq:Act->W_->Prop} {a:Act} (h:∀K:Act->W_->Prop,(∀a w,Xq a w->K a w)->c.wpIn F n P (Exit.then K (λ_ _ _=>False)) a w):c.wpIn F n P (λ| .normal,a1,W1=>Xq a1 W1|_,_,_=>False) a w:=by(refine wpIn_mono (h Xq λ_ _ h=>h) λe a w he=>?_);cases e<;>exact he
theorem FL {id:Nat} {a:Act} {w:W_} (sp:List Du) (hs:List Bool) (fin:(Nat->C2)->Act) (hm:P.follows .mixedOrders=B) (hB:Nu ops sp a.tmps.size=B) (hhs:(ut sp.length).map (DY sp (I7 ops sp))=hs) (hnd:IQ ops=B) (hLO:¬LetsOut Q) (hfin:∀bs,DK ops sp bs sp.length a=fin bs)
  (m:AC w0 H L w) (hops:Ss P ops sp w0 H L fin ops.toList sp 0)
  (h:∀bs w',(∀(j:Nat) (s:Du) p,sp[j]?=O s->s.new=O p->p.2.2 (p.2.1.map bs) (bs j))->AC w0 H (NI bs L hs 0) w'->wpList P ops Q (ops.toList.drop sp.length) (fin bs) w'):(Code.region id ops B).wpIn (Fence.wide.inRound l) n P Q a w:=
 wpIn_region_any hm (Lq hnd hLO _ _ _ _ (JK.all sp hs fin hB hhs hfin m hops h))
end
end
variable {e:TypeId} {fvs:List Value} {kn0:W4} {lL:Array MapEntry}
theorem So (z:Array V_) (m i:Nat) (h:i<m):(madeCells z m)[i]?=O (z[i%z.size]!):=by simp[madeCells,h]
theorem T0 (n:Nat):madeCells #[N G,V X 0 0,Y .u64 0,Y .u64 0,Y .u64 0,Y .u64 0] (n*6)=(Dx (vA n CA.zero)).toArray:=by
 (refine wZ λi=>?_);by_cases h:i<n*6
 .rw[So _ _ _ h];have h2:=I6 (vA n CA.zero) (i/6) CA.zero (i%6) (by rw[vq,p_ A0]) (Nat.mod_lt _ A0);rw[(A0:i/6*6+i%6=i)] at h2;rw[xQ,h2];have h6:i%6<6:=Nat.mod_lt _ A0;show O (Array.get!Internal _ (i%6))=_;generalize i%6=j at h6;rcases j with _|_|_|_|_|_|j
  .rfl
  .rfl
  .rfl
  .rfl
  .rfl
  .rfl
  .omega
 .rw[wC (by simp[madeCells];omega),xQ,wD (by rw[Dl,xR];omega)]
theorem Y8 {l:O_} {z:V_} {size bytes:Nat} (ho:o.op= .makeSlice t l l) (hl:ρ l= Y I n) (ht:P.underlying t=O (.slice e)) (hi:(P.info? e).map (λi=>(i.zero,i.size,i.bytes))=O (O z,size,bytes)) (hb:(bytes:Int)*n<=281474976710656) (hn:(n:Int)<=9223372036854775807):(x_ ρ o).run P w= .ok (.value (V (O ⟨w.heap.size,0,X⟩) n n)) (w.alloc (C (madeCells z.cells (n*size)) e)):=by obtain⟨i,af,ae,ad,aa⟩:=info_parts hi;have hr:=run_make w t e i z ht af ae I I (n:Int) (n:Int) A0 (wY _) (by rw[aa];exact hb) hn;rw[ad,wL] at hr;exact fK
structure Nf where
 fb:Nat
 ab:Nat
 sb:Nat
 mb:Nat
 nb:Nat
 qb:Nat
 xb:Nat
abbrev C7 (Ds:List Nat) (L:List (Nat×Obj)):List (Nat×Obj):=Ds.map (λD=>(D,Obj.deferred (O [])))++L
abbrev Nf.rest (f:Nf) (c:AF) (ib:Option Addr) (ic:Nat) (fvs:List V_) (lL:Array MapEntry) (mcl:Nat) (L:List (Nat×Obj)):List (Nat×Obj):=
 (f.sb,CQ fvs)::(f.mb,.map lL mcl)::(f.fb,Ac c ib ic f.ab f.sb f.mb)::(f.nb,C #[M (O ⟨f.fb,0,X⟩)] 186)::(f.xb,At c (V ib c.i.length ic))::L
structure Ky (c:AF) (kn0:W4) (s:ES) (H:Hp) (rows:List CA) (fvs:List V_) (lL:Array MapEntry) (ws:List Int) (at':Option Nat):Prop where
 ws:Kx c.i.length s ws
 rl:rows.length=c.i.length
 row:∀k,k<c.i.length->(BJ rows k).e=s.e.getD k G/\AX AY H (BJ rows k).tv (s.t.getD k [])/\(BJ rows k).kn=if k=0 then kn0 else W4.zero
 fl:fvs.length=c.i.length
 fr:∀k,k<c.i.length->at'≠O k->s.done.getD k G=B->∃fv,fvs[k]?=O fv/\AX Gp H fv (CU c k (s.t.getD k []))
 fn:∀k,k<c.i.length->s.done.getD k G=G->fvs[k]?=O (V X 0 0)
 mp:∃lm,Bt (Y I) lL lm/\∀k:Nat,(BX lm (k:Int)).getD (N G)= N (s.other.getD k G)
theorem Ky.mono {c:AF} {kn0:W4} {s:ES} {H H':Hp} {rows:List CA} {fvs:List V_} {lL:Array MapEntry} {ws:List Int} {at':Option Nat} (h:Ky c kn0 s H rows fvs lL ws at') (hl:Bl H H'):Ky c kn0 s H' rows fvs lL ws at':=
 ⟨h.ws,h.rl,λk hk=>⟨(h.row k hk).1,(h.row k hk).2.1.mono hl,(h.row k hk).2.2⟩,h.fl,λk hk ha hd=>let ⟨fv,h1,h2⟩:=h.fr k hk ha hd;⟨fv,h1,h2.mono hl⟩,h.fn,h.mp⟩
theorem TY (n k:Nat) (hn:0<n):(ES.init n).e.getD k G=T (k=0):=by
 unfold ES.init;simp only;rw[C4 _ _ _ _ _ (by simpa using hn),ID];by_cases e:k=0
 .rw[p_ e,t_ e]
 .rw[n_ e,f_ e]
theorem RE (n k:Nat):(ES.init n).t.getD k []=[]:=by unfold ES.init;simp only;rw[vB,vq];split<;>rfl
theorem Ky.start (c:AF) (kn0:W4) (H:Hp) (hn:0<c.i.length):Ky c kn0 (ES.init c.i.length) H ((vA c.i.length CA.zero).set 0 ⟨B,V X 0 0,kn0⟩) (vA c.i.length (V X 0 0)) #[] [0] none:=by
 refine⟨Kx.init hn,by simp,λk hk=>?_,by simp,λk hk _ hd=>?_,λk hk _=>?_,⟨[],Bt.nil,λk=>?_⟩⟩
 .rw[FE (by simpa using hn),TY _ _ hn,RE];by_cases e:k=0
  .rw[p_ e,p_ e,t_ e];exact⟨Z,AX.nil _ _,Z⟩
  .rw[n_ e,n_ e,f_ e,I9 (r:=CA.zero) (by rw[vq,p_ hk])];exact⟨Z,AX.nil _ _,Z⟩
 .unfold ES.init at hd;simp only at hd;rw[ID] at hd;cases hd
 .rw[vq,p_ hk]
 .unfold ES.init;simp only;rw[ID];rfl
theorem Ky.look {c:AF} (h:Ky c kn0 s H rows fvs lL ws X) (hi:i<ws.length) (hk:ws[i]=(k:Int)):Ky c kn0 {s with done:=s.done.set k B} H rows fvs lL (ws.eraseIdx i) (O k):=by
 have hr:=h.ws.rng _ (vE hi);rw[hk] at hr;have aa:k<s.done.length:=(by rw[h.ws.fit.done];omega);refine⟨h.ws.take hi hk,h.rl,h.row,h.fl,λq hq ha hd=>?_,λq hq hd=>?_,h.mp⟩
 .simp only at hd;rw[C4 _ _ _ _ _ aa,n_ (λe=>ha (by rw[e]))] at hd;exact h.fr q hq (by simp) hd
 .simp only at hd;rw[C4 _ _ _ _ _ aa] at hd;by_cases e:q=k
  .rw[p_ e] at hd;cases hd
  .rw[n_ e] at hd;exact h.fn q hq hd
theorem Ky.new {c:AF} {at':Option Nat} (h:Ky c kn0 s H rows fvs lL ws at') (hy:0<=y.at'/\y.at'<c.i.length) (hc:s.e.getD y.at'.toNat G=G) {tv:V_} (aa:AX AY H tv y.t):Ky c kn0 (Cb s y) H (rows.set y.at'.toNat ⟨B,tv,(BJ rows y.at'.toNat).kn⟩) fvs lL (ws++[y.at']) at':=by
 have ha:y.at'.toNat<c.i.length:=A0;have hw:=h.ws.visit hy;unfold pT at hw;rw[p_ hc] at hw;(have ad:∀k,s.done.getD k G=B->k≠y.at'.toNat:=λk hd e=>by have:=h.ws.dc k hd;rw[e,hc] at this;cases this);rw[Mg hc] at hw⊢;refine⟨hw,by rw[wK];exact h.rl,λk hk=>?_,h.fl,λk hk ae hd=>?_,h.fn,h.mp⟩
 .simp only;rw[FE (by rw[h.rl];exact ha),C4 _ _ _ _ _ (by rw[h.ws.fit.e];exact ha),C4 _ _ _ _ _ (by rw[h.ws.fit.t];exact ha)];by_cases e:k=y.at'.toNat
  .rw[p_ e,p_ e,p_ e];exact⟨Z,aa,by rw[e];exact(h.row _ ha).2.2⟩
  .rw[n_ e,n_ e,n_ e];exact h.row k hk
 .simp only at hd⊢;rw[C4 _ _ _ _ _ (by rw[h.ws.fit.t];exact ha),n_ (ad k hd)];exact h.fr k hk ae hd
theorem Ky.again {c:AF} {kn0:W4} {s:ES} {H:Hp} {rows:List CA} {fvs:List V_} {lL:Array MapEntry} {ws:List Int} {at':Option Nat} (h:Ky c kn0 s H rows fvs lL ws at') {y:Av} (hc:s.e.getD y.at'.toNat G=B) (ht:s.t.getD y.at'.toNat []=y.t):
  Ky c kn0 (Cb s y) H rows fvs lL ws at':=by rw[Lg hc ht];exact h
theorem Ky.other {c:AF} {aa:Array MapEntry} {at':Option Nat} (h:Ky c kn0 s H rows fvs lL ws at') (hy:0<=y.at'/\y.at'<c.i.length) (hc:s.e.getD y.at'.toNat G=B) (ht:s.t.getD y.at'.toNat []≠y.t) (hm:∃lm,Bt (Y I) aa lm/\∀k:Nat,(BX lm (k:Int)).getD (N G)= N ((s.other.set y.at'.toNat B).getD k G)):Ky c kn0 (Cb s y) H rows fvs aa ws at':=by have hw:=h.ws.visit hy;unfold pT at hw;rw[n_ (by rw[hc];simp)] at hw;rw[JX hc ht] at hw⊢;exact⟨hw,h.rl,h.row,h.fl,h.fr,h.fn,hm⟩
theorem Ky.filed {c:AF} {fv:V_} (h:Ky c kn0 s H rows fvs lL ws (O k)) (hl:Bl H H') (hd:s.done.getD k G=B) (hf:AX Gp H' fv (CU c k (s.t.getD k []))) (hk:k<c.i.length):Ky c kn0 s H' rows (fvs.set k fv) lL ws none:=by
 have h:=h.mono hl;refine⟨h.ws,h.rl,h.row,by rw[wK];exact h.fl,λq hq _ aa=>?_,λq hq aa=>?_,h.mp⟩
 .by_cases e:k=q
  .subst e;exact⟨fv,wM (by rw[h.fl];exact hk),hf⟩
  .obtain⟨ad,h1,h2⟩:=h.fr q hq (λe2=>e (Option.some.inj e2)) aa;exact⟨ad,by rw[vt e];exact h1,h2⟩
 ·(have e:k≠q:=λe=>by subst e;rw[hd] at aa;cases aa);rw[vt e];exact h.fn q hq aa
noncomputable def Hk:Code:=(f125.body).getD .skip
def py (f:Nf) (Ds:List Nat) (a:Act):Prop:=a.defers=Ds.map (λD=>({target:= .collected D,args:=#[]}:Deferred))/\a.tmps.size=123/\a.tmps[1]?=O (M (O ⟨f.xb,0,X⟩))/\a.tmps[3]?=O (M (O ⟨f.nb,0,X⟩))/\a.tmps[5]?=O (M (O ⟨f.qb,0,X⟩))
abbrev Nf.all (f:Nf) (c:AF) (ib:Option Addr) (ic:Nat) (rows:List CA) (fvs:List V_) (lL:Array MapEntry) (mcl g cap:Nat) (nB:Array V_) (n:Nat) (L:List (Nat×Obj)):List (Nat×Obj):=
 (g,C nB 3)::(f.qb,C #[V (O ⟨g,0,X⟩) n cap] 79)::(f.ab,C8 rows)::f.rest c ib ic fvs lL mcl L
def qS (c:AF) (ib:Option Addr) (ic:Nat) (kn0:W4) (w0:W_) (H:Hp) (L:List (Nat×Obj)) (u:Nat) (a:Act) (W:W_):Prop:=∃f Ds s H1 rows fvs lL mcl g cap nB ws,py f Ds a/\u=s.undone/\Db c s.undone s=AB c/\Cc c.i.length s/\Bl H H1/\Ky c kn0 s H1 rows fvs lL ws X/\N6 g cap nB ws/\
 AC w0 H1 (f.all c ib ic rows fvs lL mcl g cap nB ws.length (C7 Ds L)) W
def LD (c:AF):W4:=W4.zero.with' ((ut c.params.toNat).map wA)
theorem Zt (l:List CA) (a:Nat) (r:CA) (h:l[a]?=O r):(Dx l).toArray.setIfInBounds (a*6) (N B)=(Dx (l.set a ⟨B,r.tv,r.kn⟩)).toArray:=by
 rw[vH];congr 1
 induction l generalizing a with
 |nil=>simp at h
 |cons r' l ih=>
  cases a with
  |zero=>simp only[wT,Option.some.injEq] at h;subst h;simp[Dx,CA.cs]
  |succ a=>have ih:=ih a CE;simp only[vI,Dx];rw[<-ih,show(a+1)*6=r'.cs.length+a*6 by simp[CA.cs];omega,List.set_append_right _ _ (Nat.le_add_right _ _),Nat.add_sub_cancel_left]
theorem Ba.lit1 {b:Nat} {r:Int}:Ba 3 1 (V (O ⟨b,0,X⟩) 1 1) 1 [Y I r] [(b,C #[Y I r] 3)]:=
 ⟨Z,.inr ⟨b,1,#[Y I r],Z,vy _,by unfold maxLen;omega,Z,Z,Z⟩⟩
theorem Ql (x:W4) (hx:x.fit) (r:Int) (hr:0<=r/\r<256) (b:Nat) (m:AC w0 H ((b,C #[Y I r] 3)::L) w):K_ uh 183 #[x.v,V (O ⟨b,0,X⟩) 1 1] w (Bv w0 H L (x.with' [r]).v):=by obtain⟨H',m2,hl,hs,hb⟩:=(Ba.lit1 (b:=b) (r:=r)).borrow (H:=H) (E:=AY) (ys:=[r]) (Cv [r] (λz hz=>by rw[uj.1 hz];unfold EH;omega)) Z Z m;refine(QW x hx _ [r] (λz hz=>by rw[uj.1 hz];exact hr) m2 hs).mono ?_;rintro e w2 ⟨rfl,m3⟩;exact⟨Z,(hb _ _ m3).drop⟩
def Ks (n:Nat) (kn:W4):List CA:=(vA n CA.zero).set 0 ⟨B,V X 0 0,kn⟩
theorem WI (h:0<n) (kn:W4):(Ks n kn)[0]?=O ⟨B,V X 0 0,kn⟩:=by unfold Ks;rw[wM CE]
theorem bA (n:Nat) (kn aa:W4):(Ks n kn).set 0 (CA.setK ⟨B,V X 0 0,kn⟩ aa)=Ks n aa:=by unfold Ks CA.setK;rw[List.set_set]
theorem W4.with_snoc (x:W4) (l:List Int) (r:Int):x.with' (l++[r])=(x.with' l).with' [r]:=by unfold W4.with';rw[vm]
theorem Ve {H0:Hp} (c:AF) (ib:Option Addr) (ic:Nat) (lz:Dw c) (aj:AX C1 H0 (V ib c.i.length ic) c.i) (hH:Bl H0 H) (m:AC w0 H L w) (Q:Exit->Act->W_->Prop) (K:Act->W_->Prop) (hC:∀a W,qS c ib ic (LD c) w0 H L (ES.init c.i.length).undone a W->LK uh Q ((CN Hk).drop 6) K a W):LK uh Q (CN Hk) K {tmps:=#[.agg #[U c.name,Y I c.params,Y I c.g,V ib c.i.length ic]]++xP 122 undef,defers:=[]} w:=by
 have HC:=A5 hC;clear hC;have hn0:=lz.pos;have ba:=lz.len;have ao:=lz.par;have aq:(0:Int)<c.i.length:=A0;have az:(c.i.length:Int)<=2000:=A0;have bb:(ic:Int)<=9223372036854775807:=(by obtain⟨_,_,an,bc,au,_,_⟩:=aj;cases an;have:=A9 au;omega);clear lz aj hH;have ar:=@run_makeMap uh;have m1:=m.alloc (At c (V ib c.i.length ic));generalize ak:w.heap.size=xb at*;refine M9 6 (qS c ib ic (LD c) w0 H L (ES.init c.i.length).undone) ?_ HC.out;intro K0 key;simp only[vv,ur,uu,Nat.reduceAdd,Nat.reduceSub,Array.replicate_succ,Array.replicate_zero,List.push_toArray,List.append_toArray,ui,ul,Hk,f125,vh];simp only[CN,vY,ul,ui,um,un,vW,vj];intro K1 bh;go_wp2_with fail;intro K2 bg;refine EA (F:=λw'=>Code.wp _ _ _ _ w') m1 ?_;clear m1 m ak;intro wr mr;refine B1 mr [VK (.agg #[U c.name,Y I c.params,Y I c.g,V ib c.i.length ic]),VK (M (O ⟨xb,3,X⟩)),VK (V ib c.i.length ic),VK (Y I c.i.length),⟨[4],λzb=> V (O ⟨(zb.getD 0 Ax).b,0,X⟩) c.i.length c.i.length,O ([],[],λzb d=>d.bl=[(d.b,C (Dx (vA c.i.length CA.zero)).toArray 242)]),G⟩,VK (M (O ⟨xb,3,X⟩)),VK (V ib c.i.length ic),VK (Y I c.i.length),⟨[8],λzb=> V (O ⟨(zb.getD 0 Ax).b,0,X⟩) c.i.length c.i.length,O ([],[],λzb d=>d.bl=[(d.b,C (vA c.i.length (V X 0 0)).toArray 251)]),G⟩,⟨[9],λzb=> .map (O (zb.getD 0 Ax).b),O ([],[],λzb d=>d.bl=[(d.b,.map #[] 0)]),G⟩,⟨[4,8,9],λzb=> .agg #[U c.name,Y I c.params,Y I c.g,V ib c.i.length ic,V (O ⟨(zb.getD 0 Ax).b,0,X⟩) c.i.length c.i.length,V (O ⟨(zb.getD 1 Ax).b,0,X⟩) c.i.length c.i.length,.map (O (zb.getD 2 Ax).b)],X,G⟩,⟨[11],λzb=> M (O ⟨(zb.getD 0 Ax).b,0,X⟩),O ([],[4,8,9],λzb d=>d.bl=[(d.b,C #[U c.name,Y I c.params,Y I c.g,V ib c.i.length ic,V (O ⟨(zb.getD 0 Ax).b,0,X⟩) c.i.length c.i.length,V (O ⟨(zb.getD 1 Ax).b,0,X⟩) c.i.length c.i.length,.map (O (zb.getD 2 Ax).b)] 237)]),G⟩,⟨[12],λzb=> M (O ⟨(zb.getD 0 Ax).b,0,X⟩),O ([],[],λzb d=>d.bl=[(d.b,C #[M X] 186)]),G⟩] (nf 4++[B]++nf 3++[B,B]++nf 1++[B,B]) ?_ ?_
 .refine⟨CD,AA,CD,AA,?_,AA,CD,AA,?_,?_,?_,?_,?_,trivial⟩
  ·(refine Al.make _ _ Z Z Z λbs w hb m=>?_);show(x_ _ _).run _ _= .ok (.value (V (O ⟨w.heap.size,0,X⟩) c.i.length c.i.length)) (w.alloc (C (Dx (vA c.i.length CA.zero)).toArray 242));refine(Y8 (size:=6) (bytes:=64) (n:=c.i.length) (z:= .agg #[N G,V X 0 0,Y .u64 0,Y .u64 0,Y .u64 0,Y .u64 0]) Z Z underlying234 A7 A0 A0).trans ?_;rw[<-T0];rfl
  ·(refine Al.make _ _ Z Z Z λbs w hb m=>?_);show(x_ _ _).run _ _= .ok (.value (V (O ⟨w.heap.size,0,X⟩) c.i.length c.i.length)) (w.alloc (C (vA c.i.length (V X 0 0)).toArray 251));exact FI (bytes:=24) Z Z underlying235 A7 Z A0 A0
  ·(refine Al.make _ _ Z Z Z λbs w hb m=>?_);show(x_ _ _).run _ _= .ok (.value (.map (O w.heap.size))) (w.alloc (.map #[] 0));rw[show ∀(ρ:O_->V_) (o:Oper),o.op= .makeMap 212 X->(x_ ρ o).run uh w= .ok (.value (.map (O w.heap.size))) (w.alloc (.map #[] 0)) from λρ o ho=>by unfold x_;simp only[ho,Sem.run_bind,Option.map_none,ar,Result.andThen_ok,Sem.run_pure]];exact AT
  ·(refine Al.val Z Z Z λbs w hb m=>?_);show(x_ _ _).run _ _= .ok (.value (.agg #[U c.name,Y I c.params,Y I c.g,V ib c.i.length ic,V (O ⟨(bs 4).b,0,X⟩) c.i.length c.i.length,V (O ⟨(bs 8).b,0,X⟩) c.i.length c.i.length,.map (O (bs 9).b)])) w;exact Cp
  ·(refine Al.make _ _ Z Z Z λbs w hb m=>?_);show(x_ _ _).run _ _= .ok (.value (M (O ⟨w.heap.size,0,X⟩))) (w.alloc (C #[U c.name,Y I c.params,Y I c.g,V ib c.i.length ic,V (O ⟨(bs 4).b,0,X⟩) c.i.length c.i.length,V (O ⟨(bs 8).b,0,X⟩) c.i.length c.i.length,.map (O (bs 9).b)] 237));exact Cp
  ·(refine Al.make _ _ Z Z Z λbs w hb m=>?_);show(x_ _ _).run _ _= .ok (.value (M (O ⟨w.heap.size,0,X⟩))) (w.alloc (C #[M X] 186));exact Cp
 .intro bs wd hb md;replace md:AC w0 H ((bs 4).bl++((bs 8).bl++((bs 9).bl++((bs 11).bl++((bs 12).bl++((xb,At c (V ib c.i.length ic))::L)))))) wd:=md;have ah:(bs 4).bl=[((bs 4).b,C (Dx (vA c.i.length CA.zero)).toArray 242)]:=hb 4 _ _ Z Z;rw[ah] at md;have ag:(bs 8).bl=[((bs 8).b,C (vA c.i.length (V X 0 0)).toArray 251)]:=hb 8 _ _ Z Z;rw[ag] at md;have af:(bs 9).bl=[((bs 9).b,.map #[] 0)]:=hb 9 _ _ Z Z;rw[af] at md;have ad:(bs 11).bl=[((bs 11).b,C #[U c.name,Y I c.params,Y I c.g,V ib c.i.length ic,V (O ⟨(bs 4).b,0,X⟩) c.i.length c.i.length,V (O ⟨(bs 8).b,0,X⟩) c.i.length c.i.length,.map (O (bs 9).b)] 237)]:=hb 11 _ _ Z Z;rw[ad] at md;have aa:(bs 12).bl=[((bs 12).b,C #[M X] 186)]:=hb 12 _ _ Z Z;rw[aa] at md;(try simp only[ul,ui] at md);simp only[ur,uu,Nat.reduceAdd,uy,um,un];clear hb;generalize (bs 4).b=ab at*;generalize (bs 8).b=sb at*;generalize (bs 9).b=mb at*;generalize (bs 11).b=fb at*;generalize (bs 12).b=nb at*;have m2:=md.set (i:=0) (v:= M (O ⟨fb,0,X⟩)) (.tail (.tail (.tail (.tail .head))));simp only[vH,vM] at m2;have es:=md.e0;go_wp2_with fail;refine EA (F:=λw'=>LK _ _ _ _ _ w') m2 ?_;clear es md m2 ah ag af ad aa;intro w2 m2;intro K3 hK3;have h0:(Dx (vA c.i.length CA.zero))[0]?=O (N G):=I6 (vA c.i.length CA.zero) 0 CA.zero 0 (by rw[vq,p_ hn0]) AD;have c0:w2.cell? ⟨ab,0,X⟩=O (N G):=(by rw[AU (m2.loc _ (.head _)).1];simpa using h0);have f0:w2.frozen? ⟨ab,0,X⟩=false:=Bx (m2.loc _ (.head _)).1 0;have es:=m2.e0;have m3:=m2.set (i:=0) (v:= N B) .head;have hz:=Zt (vA c.i.length CA.zero) 0 CA.zero (by rw[vq,p_ hn0]);rw[wU] at hz;rw[hz] at m3;clear hz h0;go_wp2_with fail;refine EA (F:=λw'=>LK _ _ _ _ _ w') m3 ?_;clear es m2 m3 c0 f0;intro w3 m3 K4 hK4;have es:=m3.e14;go_wp2_with fail;clear es;intro K5 bf;go_wp2_with fail;have m3:AC w0 H ((ab,C8 (Ks c.i.length W4.zero))::(sb,C (vA c.i.length (V X 0 0)).toArray 251)::(mb,.map #[] 0)::(fb,Ac c ib ic ab sb mb)::(nb,C #[M (O ⟨fb,0,X⟩)] 186)::(xb,At c (V ib c.i.length ic))::L) w3:=m3;(go_loopw [29] (λae wr=>∃(r:Nat),(r:Int)<=c.params/\ae= Y I r/\AC w0 H ((ab,C8 (Ks c.i.length (W4.zero.with' ((ut r).map wA))))::(sb,C (vA c.i.length (V X 0 0)).toArray 251)::(mb,.map #[] 0)::(fb,Ac c ib ic ab sb mb)::(nb,C #[M (O ⟨fb,0,X⟩)] 186)::(xb,At c (V ib c.i.length ic))::L) wr) (λae _=>c.params.toNat-(intOf ae).toNat));case atStart=>exact⟨0,by omega,Z,m3⟩
  case round=>
   clear m3;obtain⟨r,hr,rfl,mk⟩:=hrel;by_cases lg:(r:Int)<c.params
   .have aw:=A5 (show W4.zero.with' ((ut (r+1)).map wA)=(W4.zero.with' ((ut r).map wA)).with' [(r:Int)] by rw[wu,vx];exact W4.with_snoc _ _ _);have ax:=A5 (W4.fit_with (l:=(ut r).map wA) W4.fit_zero);have ai:r<256:=A0;generalize W4.zero.with' ((ut r).map wA)=x at*;go_wp2_with fail;refine B1 mk [VK (M (O ⟨fb,0,X⟩)),VK (M (O ⟨fb,0,X⟩)),VK (M (O ⟨fb,4,X⟩)),VK (V (O ⟨ab,0,X⟩) c.i.length c.i.length),VK (M (O ⟨fb,0,X⟩)),VK (M (O ⟨fb,0,X⟩)),VK (M (O ⟨fb,4,X⟩)),VK (V (O ⟨ab,0,X⟩) c.i.length c.i.length),VK (M (O ⟨ab,0,X⟩)),VK (M (O ⟨ab,2,X⟩)),VK (.agg #[Y .u64 (x.a:Int),Y .u64 (x.b:Int),Y .u64 (x.c:Int),Y .u64 (x.d:Int)]),VK (Y I (r:Int)),⟨[12],λzb=> V (O ⟨(zb.getD 0 Ax).b,0,X⟩) 1 1,O ([],[],λzb d=>d.bl=[(d.b,C #[Y I (r:Int)] 3)]),G⟩,⟨[],λzb=> .agg #[Y .u64 ((x.with' [(r:Int)]).a:Int),Y .u64 ((x.with' [(r:Int)]).b:Int),Y .u64 ((x.with' [(r:Int)]).c:Int),Y .u64 ((x.with' [(r:Int)]).d:Int)],O ([12],[],λzb d=>d.bl=[]),G⟩] (nf 13++[B]) ?_ ?_
    .refine⟨Fe,AA,AA,Fe,Fe,AA,AA,Fe,AA,AA,?_,AA,?_,?_,trivial⟩
     ·(refine Al.vk Z λbs w hb m=>?_);obtain⟨s0,s1,s2,s3,s4,s5⟩:=G7 (m.loc _ (.head _)).1 (WI hn0 x);simp only[wU,vQ] at s2 s3 s4 s5;exact AT
     ·(refine Al.make _ _ Z Z Z λbs w hb m=>?_);show(x_ _ _).run _ _= .ok (.value (V (O ⟨w.heap.size,0,X⟩) 1 1)) (w.alloc (C #[Y I (r:Int)] 3));exact Cp
     ·(refine Al.gen _ Z Z Z λbs w L2 hb m=>?_);have av:(bs 12).bl=[((bs 12).b,C #[Y I (r:Int)] 3)]:=hb.at 12 A7 Z Z;simp only[wF,vS,wG,av,ul,ui] at m;refine BU.ofCall (f:=183) (args:=#[x.v,V (O ⟨(bs 12).b,0,X⟩) 1 1]) Br ?_;refine(Ql x ax.out (r:Int) A0 (bs 12).b m).mono ?_;rintro e w2 ⟨rfl,m2⟩;exact XL
    .intro bs wd hb md;replace md:=AC.like1 mk (bs 13).bl md;have aa:(bs 12).bl=[((bs 12).b,C #[Y I (r:Int)] 3)]:=hb 12 _ _ Z Z;have ok13:(bs 13).bl=[]:=hb 13 _ _ Z Z;(try simp only[ul,ui] at md);simp only[ur,uu,Nat.reduceAdd,uy,um,un];rw[ok13,ui] at md;clear hb aa ok13;have lC:2+3<(Dx (Ks c.i.length x)).toArray.size:=(by rw[vv,Dl];unfold Ks;rw[wK,xR];omega);have m4:=AC.setL (x.with' [(r:Int)]).vs (0*6+2) md;rw[M8 _ 0 _ _ (WI hn0 x),bA] at m4;simp only[W4.vs,Ff,wU,vQ] at m4;go_wp2_with (refine EI (x.with' [(r:Int)]) Z Z Z Z md lC ?_;unfold W4.vs;simp only[Ff]);go_roundw;(case rel=>exact⟨r+1,by omega,by go_num,by rw[aw.out];exact m4⟩);case measure=>exact BW
   .have hge:¬(r:Int)<c.params:=lg;have ay:=A5 (A0:r=c.params.toNat);go_wp2_with fail;refine EA (F:=λw'=>LK _ _ _ _ _ w') mk ?_;clear mk;intro w4 m4 K6 bd;have m5:=(m4.alloc (C #[Y I 0] 3)).alloc (C #[V (O ⟨w4.heap.size,0,X⟩) 1 1] 79);simp only[vG] at m5;go_wp2_with fail;simp only[LK];refine key _ _ ⟨⟨fb,ab,sb,mb,nb,w4.heap.size+1,xb⟩,[],ES.init c.i.length,H,Ks c.i.length (LD c),vA c.i.length (V X 0 0),#[],0,w4.heap.size,1,#[Y I 0],[0],⟨Z,Z,Z,Z,Z⟩,Z,(Kw c).symm,Cc.init _,Bl.refl _,Ky.start c (LD c) H hn0,⟨vy _,by unfold maxLen;simp,Z,Z⟩,?_⟩;have m6:=m5.perm (List.Perm.swap _ _ _);rw[ay.out] at m6;exact m6
theorem Qo (c:AF) (K:List (List Bool)) (rows:List CA) (ot:Nat->Bool) (tr:Nat->List Int) (hl:rows.length=c.i.length) (h:∀k r i,rows[k]?=O r->c.i[k]?=O i->IA ot tr k r i=Dp c (AB c) K k i):Ok c.i.length (Xr c rows ot tr) (Qz c K):=by
 have hb:∀j (hj:j<c.i.length),Xr c rows ot tr j↔Dp c (AB c) K j c.i[j]=true:=by
  intro j hj;have hr:rows[j]?=O (rows[j]'A0):=uq A0;have hi:c.i[j]?=O c.i[j]:=uq hj;constructor
  .rintro⟨r,i,h1,h2,h3⟩;rw[hi] at h2;cases h2;rw[<-h j r _ h1 hi];exact h3
  .intro h1;exact⟨_,_,hr,hi,by rw[h j _ _ hr hi];exact h1⟩
 unfold Qz DG
 cases hf:(c.i.zipIdx).findIdx? (λp=>Dp c (AB c) K p.2 p.1) with
 |none=>right;refine⟨λj hj hw=>?_,Z⟩;have h1:=List.findIdx?_eq_none_iff.1 hf (c.i[j],j) (List.mem_zipIdx_iff_getElem?.2 (uq hj));have h2:=(hb j hj).1 hw;simp only at h1;rw[h2] at h1;cases h1
 |some k=>
  left;obtain⟨h1,h2,h3⟩:=List.findIdx?_eq_some_iff_getElem.1 hf;have hk:k<c.i.length:=IV;refine⟨k,hk,(hb k hk).2 ?_,λj hj hw=>?_,Z⟩
  .simpa using h2
  .have h4:=h3 j hj;have h5:=(hb j A0).1 hw;apply h4;simpa using h5
theorem gK (c:AF) (K:List (List Bool)) (ot:Nat->Bool) (tr:Nat->List Int) (k:Nat) (r:CA) (i:Bu) (h1:r.e=(AB c).e.getD k G) (h2:ot k=(AB c).other.getD k G) (h3:tr k=(AB c).t.getD k []) (h4:r.e=B->∀q∈CM i,r.kn.hasI q=(K.getD k []).getD q.toNat G):IA ot tr k r i=Dp c (AB c) K k i:=by
 unfold IA Dp;rw[<-h1,<-h2,<-h3];cases hc:r.e
 .rfl
 ·(have ha:(CM i).all r.kn.hasI=(CM i).all λq=>(K.getD k []).getD q.toNat false:=(by rw[vL,vJ,vJ];exact⟨λh q hq=>by rw[<-h4 hc q hq];exact h q hq,λh q hq=>by rw[h4 hc q hq];exact h q hq⟩));rw[ha];generalize ((CM i).all λq=>(K.getD k []).getD q.toNat G)=a1;generalize ot k=a2;generalize (T (i.op=68)&&T ((tr k).length=0))=a3;generalize (T (i.op=69)&&T (0<(tr k).length))=a4;cases a1<;>cases a2<;>cases a3<;>cases a4<;>rfl
theorem Hs {P:P_} {fn:Func} {tmps:Array V_} {Rr:E_->W_->Prop} {w0:W_} {H:Hp} {L:List (Nat×Obj)} {n:Nat} {v:V_} (hres:∀w',(results fn tmps).run P w'= .ok v w') (hR:∀w',AC w0 H L w'->Rr (.returned v) w'):
  ∀(Ds:List Nat) (w:W_),AC w0 H (C7 Ds L) w->LeavesInM Fence.wide n P fn tmps Rr (Ds.map λD=>({target:= .collected D,args:=#[]}:Deferred)) .returning w
 |[],w,m=>⟨v,hres w,hR w m⟩
 |D::Ds,w,m=>by
  have m1:AC w0 H ((D,.deferred (O []))::C7 Ds L) w:=m
  have h1:=(m1.loc _ (.head _)).1
  refine⟨by simp,.inl ⟨D,w.putObj D (.deferred X),Z,run_takeDeferred h1,?_⟩⟩
  exact Hs hres hR Ds _ (m1.putObj (DU.head (o':= .deferred X))).drop
def gB (c:AF) (ib:Option Addr) (ic:Nat) (kn0:W4) (w0:W_) (H:Hp) (L:List (Nat×Obj)) (a:Act) (W:W_):Prop:=∃f Ds H1 rows fvs lL mcl g cap nB m,py f Ds a/\Bl H H1/\Ky c kn0 (AB c) H1 rows fvs lL [] X/\
 AC w0 H1 (f.all c ib ic rows fvs lL mcl g cap nB m (C7 Ds L)) W
theorem Nt {c:AF} {t:List Int} (hf:Dw c):∀y∈CU c k t,(0<=y.at'/\y.at'<c.i.length)/\ -1<=y.to/\y.to<c.g:=by
 intro y hy;unfold CU at hy
 cases hk:c.i[k]? with
 |none=>rw[hk] at hy;cases hy
 |some i=>rw[hk] at hy;exact hf.next k i t hk y hy
theorem tG (c:AF):(LD c).fit:=W4.fit_with W4.fit_zero
theorem W4.zero_has (r:Nat):W4.zero.has r=false:=by have h:W4.zero.l.getD (r/64) 0=0:=(by rcases r/64 with _|_|_|_|q<;>rfl);unfold W4.has;rw[h,Nat.zero_testBit]
theorem jZ (c:AF) (hp:0<=c.params/\c.params<=250) {r:Nat} (hr:r<256):(LD c).has r=T ((r:Int)<c.params):=by
 unfold LD
 rw[W4.has_with _ (λz hz=>by
  obtain⟨q,hq,rfl⟩:=vz.1 hz;have:=vR.1 hq;simp only[xS]
  omega) hr,W4.zero_has,ww,vL,List.any_eq_true,decide_eq_true_eq]
 constructor
 .rintro⟨z,hz,he⟩;obtain⟨q,hq,rfl⟩:=vz.1 hz;have h1:=vR.1 hq;have h2:=o_ he;simp only[xS] at h2;omega
 .intro h;exact⟨(r:Int),vz.2 ⟨r,vR.2 A0,Z⟩,by simp⟩
theorem Ky.fitW {c:AF} {at':Option Nat} (h:Ky c (LD c) s H rows fvs lL ws at'):Jf rows:=by
 intro k;by_cases hk:k<c.i.length
 .rw[(h.row k hk).2.2];split
  .exact tG c
  .exact W4.fit_zero
 .unfold BJ;rw[vB,wD (by rw[h.rl];omega)];exact W4.fit_zero
theorem Ky.tvs {c:AF} {at':Option Nat} (h:Ky c kn0 s H rows fvs lL ws at'):∀k,∃b n cc,(BJ rows k).tv= V b n cc:=by
 intro k;by_cases hk:k<c.i.length
 .obtain⟨b,cc,e,_⟩:=(h.row k hk).2.1;exact⟨b,_,cc,e⟩
 .unfold BJ;rw[vB,wD (by rw[h.rl];omega)];exact⟨_,_,_,Z⟩
theorem Ky.done_of {c:AF} {at':Option Nat} (h:Ky c kn0 s H rows fvs lL [] at') (hk:k<c.i.length) (hc:s.e.getD k G=B):s.done.getD k G=true:=by
 have:=h.ws.mem k hk;simp only[wI,false_iff] at this;cases hd:s.done.getD k G
 .exact a_ ⟨hc,hd⟩ this
 .rfl
theorem bS {c:AF} {aa:List CA} (hf:Dw c) (h:Ky c (LD c) (AB c) H rows fvs lL [] X) (hl:fZ c rows aa) (ag:∀i∈c.i,∀r∈CM i,0<=r/\r<c.g):∃b,JS c b/\Ok c.i.length (Xr c aa (λk=>(AB c).other.getD k G) (λk=>(AB c).t.getD k [])) b:=by
 obtain⟨hst,an,m,R,hR,ae,ai⟩:=hl;have ah:=hf.par;have nC:aa.length=c.i.length:=(by rw[hst.1,h.rl])
 have ak:Dc c.i.length c.g.toNat (Cm rows c.i.length) (Fb c c.g.toNat):=by
  refine⟨by rw[(EN rows _).1,h.rl],NB c _,λk r hk hr=>?_⟩;rw[ZU rows _ (by rw[h.rl];omega) k];have aj:((Fb c c.g.toNat).getD k []).getD r G=(T (0<k)||T ((r:Int)<c.params)):=(by unfold Fb;rw[vB (l:=wH _ _),wE,wt hk];simp only[xH,vh];rw[vB,wE,wt hr];rfl);rw[aj];by_cases e:0<k
  .rw[p_ ⟨e,hk⟩,WO A0,t_ e,Bool.true_or]
  .rw[n_ A0,(h.row k hk).2.2,p_ A0,jZ c A0 A0,f_ e,ww]
 obtain⟨K,hK,ad⟩:=YK (c:=c) (R0:=Cm rows c.i.length) (R:=R) Z A0 (λk hk y hy=>by
  have:=Nt hf y hy
  omega) ak m hR ae
 refine⟨Qz c K,⟨K,hK,Z⟩,?_⟩;(refine Qo c K aa _ _ nC λk r i hr hi=>?_);have hk:k<c.i.length:=(wl.1 hi).1;have hrr:BJ aa k=r:=I9 hr;have af:r.e=(AB c).e.getD k false:=(by rw[<-hrr,(hst.2 k).1];exact(h.row k hk).1);(refine gK c K _ _ k r i af Z Z λhc q hq=>?_);have h1:=ai k hk (by rw[(h.row k hk).1,<-af];exact hc);have h2:=ag i (xO hi) q hq;unfold W4.hasI;rw[<-hrr,h1,ad.bit k q.toNat hk A0]
variable {E:Kc α} {xs:List α}
theorem AX.shape2 {v:V_} (h:AX E H v xs):∃b c,v= V b xs.length c/\True:=let ⟨b,c,e,_⟩:=h;⟨b,c,e,trivial⟩
theorem aE (c:AF) (ib:Option Addr) (ic:Nat) (lz:Dw c) (aj:AX C1 H (V ib c.i.length ic) c.i) (af:∀i∈c.i,i.args.length<=4096/\i.w.length<=4/\(∀y∈i.w,y.kind=1\/y.kind=2\/y.kind=3)/\∀r∈CM i,0<=r/\r<256/\r<c.g):∀a W,gB c ib ic (LD c) w0 H L a W->LK uh (bodyPostM Fence.wide 3 uh f125 (PI w0 H L c)) ((CN Hk).drop 7) (bodyPostM Fence.wide 3 uh f125 (PI w0 H L c) .normal) a W:=by
 have HF:=A5 lz;have av:=A5 aj;have HRD:=A5 af;have an:=lz.len;have ak:=lz.par;clear aj af lz;rintro a W ⟨f,Ds,H1,rows,fvs,lL,ae,g,cap,nB,mm,au,mN,ag,m⟩;have HN:=A5 ag;have HLE:=A5 mN;clear ag mN;obtain⟨tm,df⟩:=a;obtain⟨ai,lC,a1,a3,a5⟩:=au;simp only at ai lC a1 a3 a5;subst ai;obtain⟨u,hu⟩:=Ii tm lC;simp only[ut,List.range.loop,wH] at hu;subst hu;clear lC;replace a1:u 1= M (O ⟨f.xb,0,X⟩):=Option.some.inj a1;generalize u 1=z1 at a1⊢;subst a1;replace a3:u 3= M (O ⟨f.nb,0,X⟩):=Option.some.inj a3;generalize u 3=z3 at a3⊢;subst a3;replace a5:u 5= M (O ⟨f.qb,0,X⟩):=Option.some.inj a5;generalize u 5=z5 at a5⊢;subst a5;simp only[Hk,f125,vh,CN,vY,ul,ui,um,un,vW,vj];intro K1 ax;have es:=m.e0;go_wp2_with fail;have m2:=(m.perm Ah:AC _ _ ((f.ab,C8 rows)::(g,C nB 3)::(f.qb,C #[V (O ⟨g,0,X⟩) mm cap] 79)::f.rest c ib ic fvs lL ae (C7 Ds L)) _);refine(Vw c ib ic f.ab f.sb f.mb f.fb fvs rows m2 (.tail _ (.tail _ (.tail _ (.tail _ (.head _))))) (.tail _ (.tail _ (.head _))) an HN.out.rl HN.out.fl HN.out.fitW HN.out.tvs (λk hk=>(HN.out.row k hk).1) (λk hk hc=>HN.out.fr k hk (by simp) (HN.out.done_of hk hc)) (λk hk y hy=>by have:=Nt HF.out y hy;omega)).mono ?_;rintro e w2 ⟨v,aa,rfl,ah,m3⟩;clear es m m2;have ad:=A5 ah;clear ah;have m4:=(m3.perm Ah:AC _ _ (C7 Ds ([(f.ab,C8 aa),(f.sb,CQ fvs),(f.mb,.map lL ae),(f.fb,Ac c ib ic f.ab f.sb f.mb),(f.nb,C #[M (O ⟨f.fb,0,X⟩)] 186),(f.xb,At c (V ib c.i.length ic)),(g,C nB 3),(f.qb,C #[V (O ⟨g,0,X⟩) mm cap] 79)]++L)) _);have es:=m3.e0;go_wp2_with fail;intro K2 aw;go_wp2_with fail;intro K3 hK3;go_wp2_with fail;(try simp only[Exit.then]);refine Hs (v:= M (O ⟨f.fb,0,X⟩)) (λw'=>by simp[results,results125,go_sem]) (λw' mF=>?_) Ds _ m4;obtain⟨b,ar,aq⟩:=bS HF.out HN.out ad.out (λi hi r hr=>⟨((HRD.out i hi).2.2.2 r hr).1,((HRD.out i hi).2.2.2 r hr).2.2⟩);obtain⟨lm,hm1,ao⟩:=HN.out.mp;refine⟨f.fb,H1,_,b,ib,ic,f.ab,f.sb,f.mb,aa,_,_,Z,HLE.out,mF,⟨?_,?_,⟨lL,ae,lm,?_,hm1,ao⟩,av.out.mono HLE.out,by rw[ad.out.1.1];exact HN.out.rl,λk r hr=>?_,λi hi=>?_⟩,ar,aq⟩
 .exact .tail _ (.tail _ (.tail _ (.head _)))
 .exact .head _
 .exact .tail _ (.tail _ (.head _))
 .have hk:k<c.i.length:=(by rw[<-HN.out.rl,<-ad.out.1.1];exact(wl.1 hr).1);have hrr:BJ aa k=r:=I9 hr;refine⟨by rw[<-hrr];exact ad.out.2.1 k,?_⟩;rw[<-hrr,(ad.out.1.2 k).2];exact(HN.out.row k hk).2.1
 .obtain⟨h1,h2,h3,h4⟩:=HRD.out i hi;exact⟨h1,h2,h3,λr hr=>⟨(h4 r hr).1,(h4 r hr).2.1⟩⟩
