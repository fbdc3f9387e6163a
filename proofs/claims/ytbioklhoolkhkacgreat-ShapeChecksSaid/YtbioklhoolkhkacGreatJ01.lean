/- Part 1: Mem Acc GateM EVA EVB EVC EVD EVE EVF EVG EVH EVI EVJ EVK EVL EVM EVN EVO EVP EVQ EVR EVS EVT EVU EVV EVW EVX EVY. -/
import Derived.Test.YtbioklhoolkhkacGreatJ00
namespace Go.Proofs.YtbioklhoolkhkacGreat
set_option maxRecDepth 100000
set_option maxHeartbeats 0
set_option linter.unusedVariables false
set_option linter.unusedSimpArgs false
set_option linter.unusedSectionVars false
open Go Go.RowKit
open _root_.Nat renaming beq→uh,ble→ui,blt→um,le_refl→un,div→ur,lor→uu,shiftLeft→uz,le_succ→vB,zero_add→vF,add_mul→vG,min→vI,mul_le_mul_right→vM,lt_of_lt_of_le→vN,le_trans→vP,mod_lt→vV,lt_succ_self→vX,add_comm→vy,add_zero→vz,beq_refl→wB,mod→wC,ble_eq_true_of_le→wK,eq_zero_or_pos→wV,zero_mul→we,mod_eq_of_lt→wj,lt_or_ge→wx,not_lt_zero→xA,min_eq_left→xB,eq_of_beq_eq_true→xG,le_of_ble_eq_true→xH,succ_ne_zero→xI,add_sub_cancel→xJ,add_assoc→xT,le_mul_of_pos_right→xY
open _root_.Bool renaming and_eq_true→uj,or_eq_true→wF,false_eq_true→xL,or_true→xt
open _root_.Prod renaming fst→ul,snd→uq
open _root_.Option renaming map_eq_some_iff→ut,map_map→vQ,map_none→vp,map_some→wN,none→wg
open _root_.List renaming map_cons→uv,mem_cons→vD,getElem?_eq_getElem→vE,eq_nil_of_length_eq_zero→vH,nodup_cons→vJ,mem_map→vL,length_append→vS,getElem?_eq_some_iff→vU,nil_append→vZ,getElem?_map→vm,append_assoc→vt,getElem?_take→vu,map_nil→vv,mem_append→wA,cons_append→wD,mem_iff_getElem→wH,length_cons→wI,getElem_mem→wJ,map_append→wM,length_map→wQ,nodup_nil→wU,length_take→wW,take_left→wZ,take_take→wh,map_map→wi,ext_getElem?→wt,perm_middle→xC,map_toArray→xD,getElem?_append_left→xE,getElem?_append_right→xF,pairwise_append→xM,append_of_mem→xN,mem_singleton→xO,mem_of_mem_drop→xP,mem_of_mem_take→xQ,take_left'→xR,length_drop→xS,getElem?_eq_none_iff→xV,mapM_cons→xW,modify_zero_cons→xe,modify_succ_cons→xf,drop_eq_nil_of_le→xj
open _root_.Int renaming ofNat→uy,natCast_nonneg→ve,toNat_natCast→wS,negSucc_lt_zero→xK,natCast_mul→xZ
open _root_.Array renaming length_toList→vA,getElem?_toList→vW,mem_toList_iff→vq,getElem?_setIfInBounds_ne→wO,getD_eq_getD_getElem?→wP,size_append→wX,toList_append→wY,toList_inj→wm,toList_map→ww,getElem?_eq_some_iff→x4,getElem?_eq_getElem→x9,foldl_toList→xU,range→xX,toList_push→xg,toList_modify→xh,replicate→xl,size_setIfInBounds→xm,mem_append→xr
open _root_.Go.Region renaming binds→vR,wanted→vx,ready→wT
open _root_.Go.World renaming putObj_heap_other→vY,putObj→xi,putObj_heap_same→xp
open _root_.Go.Op renaming equal→vh,stringOp→vj,intCmp→wE,operands→wG,intArith→wR,intBits→wo,bytesLess→wu,unary→wv
open _root_.Go.Value renaming cells→wL
open _root_.ByteArray renaming ext→wl
open Option renaming some→O,none→X
open Bool renaming true→B,false→G
open Decidable renaming decide→T
open _root_.Go renaming Value→V_,World→W_,Calls→K_,execOp→x_,Operand→O_,Program→P_,TypeId→T_,run_underlying→u_,bodyPost_ret→b_,Ending→E_
open _root_.Go.Value renaming slice→V,int→Y,pointer→M,string→U,bool→N
open _root_.Go.IntKind renaming i64→I
open _root_.Go.Obj renaming cells→C
section
variable {L:List (Nat×Obj)} {b c i k n:Nat} {o':Obj} {t:TypeId} {w:World} {α:Type} {xs:List α}
abbrev Hp:=Nat->Option Obj
def Bl (H H':Hp):Prop:=∀k o,H k=O o->H' k=O o
theorem Bl.refl (H:Hp):Bl H H:=λ_ _ h=>h
theorem Bl.trans {H H' H'':Hp} (h:Bl H H') (h':Bl H' H''):Bl H H'':=λk o hk=>h' k o (h k o hk)
structure AC (w0:W_) (H:Hp) (L:List (Nat×Obj)) (w:W_):Prop where
 os:w.os=w0.os
 tape:w.tape=w0.tape
 output:w.output=w0.output
 imm:∀k o,H k=O o->w.heap[k]?=O o
 loc:∀p,p∈L->w.heap[p.1]?=O p.2/\H p.1=X
 nd:(L.map ul).Nodup
theorem Af {o:Obj} (h:w.heap[k]?=O o):k<w.heap.size:=(x4.1 h).1
section
variable {w0 w w':W_} {H H':Hp} {L L':List (Nat×Obj)}
theorem World.heap_alloc_lt' (w:W_) (o:Obj) (k:Nat) (h:k<w.heap.size):(w.alloc o).heap[k]?=w.heap[k]?:=Below.heap_alloc w o k h
theorem AC.start (w:W_):AC w (λk=>w.heap[k]?) [] w:=
 {os:=Z,tape:=Z,output:=Z,imm:=λ_ _ h=>h,loc:=λ_ h=>CZ,nd:=wU}
theorem AC.below (m:AC w0 H L w) (h:Bl (λk=>w0.heap[k]?) H):Below w0.heap.size w0 w:=by
 refine⟨m.os,m.tape,m.output,?_,λk hk=>?_⟩
 .rcases wV w0.heap.size with h0|h0
  .omega
  .have hk:w0.heap[w0.heap.size-1]?=O (w0.heap[w0.heap.size-1]'A0):=x9 A0;have:=Af (m.imm _ _ (h _ _ hk));omega
 .have aa:w0.heap[k]?=O (w0.heap[k]'hk):=x9 hk;rw[aa,m.imm _ _ (h _ _ aa)]
theorem AC.drew (m:AC w0 H L w):AC w0 H L w.drew:=⟨m.os,m.tape,m.output,m.imm,m.loc,m.nd⟩
theorem AC.drewN (m:AC w0 H L w) (n:Nat):AC w0 H L (w.drewN n):=⟨m.os,m.tape,m.output,m.imm,m.loc,m.nd⟩
theorem AC.alloc (m:AC w0 H L w) (o:Obj):AC w0 H ((w.heap.size,o)::L) (w.alloc o):=by
 have aa:(w.alloc o).heap[w.heap.size]?=O o:=heap_alloc_new w o;(have hold:∀k o',w.heap[k]?=O o'->(w.alloc o).heap[k]?=O o':=λk o' h=>by rw[World.heap_alloc_lt' w o k (Af h)];exact h);refine⟨m.os,m.tape,m.output,λk o' h=>hold _ _ (m.imm k o' h),λp hp=>?_,?_⟩
 .cases hp with
  |head=>refine⟨aa,?_⟩;exact dD
  |tail _ hp=>exact⟨hold _ _ (m.loc p hp).1,(m.loc p hp).2⟩
 .exact dY
theorem AC.drop {p:Nat×Obj} (m:AC w0 H (p::L) w):AC w0 H L w:=
 ⟨m.os,m.tape,m.output,m.imm,λq hq=>m.loc q (.tail _ hq),(vJ.1 (by simpa using m.nd)).2⟩
theorem AC.perm (m:AC w0 H L w) (hp:L.Perm L'):AC w0 H L' w:=
 ⟨m.os,m.tape,m.output,m.imm,λq hq=>m.loc q (hp.mem_iff.2 hq),(hp.map ul).nodup_iff.1 m.nd⟩
def Hp.put (H:Hp) (k:Nat) (o:Obj):Hp:=λj=>if j=k then O o else H j
theorem Hp.put_same (H:Hp) (k:Nat) (o:Obj):(H.put k o) k=O o:=p_ Z
theorem Bl.put {H:Hp} {k:Nat} (o:Obj) (h:H k=X):Bl H (H.put k o):=λj o' hj=>by
 unfold Hp.put
 split
 .rename_i e;subst e;rw[h] at hj;cases hj
 .exact hj
theorem AC.freeze {o:Obj} (m:AC w0 H ((k,o)::L) w):AC w0 (H.put k o) L w/\Bl H (H.put k o):=by
 have hk:=m.loc (k,o) (.head _);refine⟨⟨m.os,m.tape,m.output,λj o' hj=>?_,λq hq=>?_,m.drop.nd⟩,Bl.put o hk.2⟩
 .unfold Hp.put at hj;split at hj
  .rename_i e;subst e;cases hj;exact hk.1
  .exact m.imm _ _ hj
 .refine⟨(m.loc q (.tail _ hq)).1,?_⟩;unfold Hp.put;rw[n_]
  .exact(m.loc q (.tail _ hq)).2
  .intro e;have hn:=(vJ.1 (by simpa using m.nd:(k::L.map ul).Nodup)).1;exact hn (vL.2 ⟨q,hq,e⟩)
inductive DU:List (Nat×Obj)->Nat->Obj->Obj->List (Nat×Obj)->Prop
 |head {k:Nat} {o o':Obj} {L:List (Nat×Obj)}:DU ((k,o)::L) k o o' ((k,o')::L)
 |tail {k:Nat} {o o':Obj} {p:Nat×Obj} {L L':List (Nat×Obj)}:DU L k o o' L'->DU (p::L) k o o' (p::L')
theorem DU.mem {o:Obj} (h:DU L k o o' L'):(k,o)∈L:=by
 induction h with
 |head=>exact .head _
 |tail _ ih=>exact .tail _ ih
theorem DU.keys {o:Obj} (h:DU L k o o' L'):L'.map ul=L.map ul:=by
 induction h with
 |head=>rfl
 |tail _ ih=>simp[ih]
theorem DU.of_mem {o:Obj} (h:DU L k o o' L') (hn:(L.map ul).Nodup):∀p,p∈L'->p=(k,o')\/(p∈L/\p.1≠k):=by
 induction h with
 |@head k o o' L=>
  intro p hp
  cases hp with
  |head=>exact .inl Z
  |tail _ hp=>refine .inr ⟨.tail _ hp,λe=>?_⟩;have hn:=(vJ.1 (by simpa using hn:(k::L.map ul).Nodup)).1;exact hn (vL.2 ⟨p,hp,e⟩)
 |@tail k o o' q L L' hu ih=>
  intro p hp;have aa:=vJ.1 (by simpa using hn:(q.1::L.map ul).Nodup)
  cases hp with
  |head=>refine .inr ⟨.head _,λe=>aa.1 (vL.2 ⟨(k,o),hu.mem,e.symm⟩)⟩
  |tail _ hp=>
   rcases ih aa.2 p hp with h|⟨h,h2⟩
   .exact .inl h
   .exact .inr ⟨.tail _ h,h2⟩
theorem AC.setObj {o:Obj} (m:AC w0 H L w) (hu:DU L k o o' L') (ho:w'.os=w.os) (ht:w'.tape=w.tape) (hp:w'.output=w.output) (hk:w'.heap[k]?=O o') (hr:∀j,j≠k->w'.heap[j]?=w.heap[j]?):AC w0 H L' w':=by
 have ad:=m.loc _ hu.mem;refine⟨ho.trans m.os,ht.trans m.tape,hp.trans m.output,λj oj hj=>?_,λp hp=>?_,by rw[hu.keys];exact m.nd⟩
 ·(have lU:j≠k:=λe=>by rw[e,ad.2] at hj;cases hj);rw[hr j lU];exact m.imm j oj hj
 .rcases hu.of_mem m.nd p hp with rfl|⟨aa,lU⟩
  .exact⟨hk,ad.2⟩
  .exact⟨by rw[hr _ lU];exact(m.loc p aa).1,(m.loc p aa).2⟩
theorem OW (w:W_) (b i:Nat) (v:V_) {c:Array V_} {f:Nat×Nat} (h:w.heap[b]?=O (C c t f)):(w.setCell ⟨b,i,X⟩ v).heap[b]?=O (C (c.setIfInBounds i v) t f):=by simp[World.setCell,Array.getElem?_modify,h]
theorem AC.set {b i:Nat} {v:V_} {c:Array V_} {t:T_} {f:Nat×Nat} (m:AC w0 H L w) (hu:DU L b (C c t f) (C (c.setIfInBounds i v) t f) L'):
  AC w0 H L' (w.setCell ⟨b,i,X⟩ v):=
 m.setObj hu Z Z Z (OW w b i v (m.loc _ hu.mem).1) λj hj=>Below.heap_setCell w _ _ j hj
def BS (w:W_):List (Nat×Obj)->Prop
 |[]=>True
 |(b,C c _ (0,0))::L=>(b<w.heap.size/\(∀i,w.cell? ⟨b,i,X⟩=c[i]?)/\(∀i,w.frozen? ⟨b,i,X⟩=G))/\BS w L
 |_::L=>BS w L
theorem AU {c:Array V_} {f:Nat×Nat} (h:w.heap[b]?=O (C c t f)) (i:Nat):w.cell? ⟨b,i,X⟩=c[i]?:=by simp[World.cell?,h]
theorem Bx {c:Array V_} (h:w.heap[b]?=O (C c t (0,0))) (i:Nat):w.frozen? ⟨b,i,X⟩=false:=by simp[World.frozen?,h]
theorem Bw (h:∀p,p∈L->w.heap[p.1]?=O p.2):BS w L:=by
 induction L with
 |nil=>trivial
 |cons p L ih=>
  (have aa:=ih λq hq=>h q (.tail _ hq));obtain⟨b,o⟩:=p;have hb:=h (b,o) (.head _);unfold BS;split
  .rename_i heq;cases heq
  .rename_i heq;simp only[List.cons.injEq,Prod.mk.injEq] at heq;obtain⟨⟨rfl,rfl⟩,rfl⟩:=heq;exact⟨⟨Af hb,AU hb,Bx hb⟩,aa⟩
  .rename_i heq;simp only[List.cons.injEq] at heq;obtain⟨rfl,rfl⟩:=heq;exact aa
theorem AC.eqs (m:AC w0 H L w):BS w L:=Bw λp hp=>(m.loc p hp).1
def Kz (b:Nat):List (Nat×Obj)->Prop
 |[]=>True
 |(b',_)::L=>(b≠b'/\b'≠b)/\Kz b L
def kD:List (Nat×Obj)->Prop
 |[]=>True
 |(b,_)::L=>Kz b L/\kD L
theorem Sm {b:Nat}:∀L:List (Nat×Obj),b ∉ L.map ul->Kz b L
 |[],_=>trivial
 |(b',o)::L,h=>by
  rw[uv,vD,not_or] at h
  exact⟨⟨h.1,λe=>h.1 e.symm⟩,Sm L h.2⟩
theorem eD:∀L:List (Nat×Obj),(L.map ul).Nodup->kD L
 |[],_=>trivial
 |(b,o)::L,h=>by
  rw[uv,vJ] at h
  exact⟨Sm L h.1,eD L h.2⟩
theorem AC.nes (m:AC w0 H L w):kD L:=eD L m.nd
def Bm (H:Hp) (b i:Nat) (v:V_):Prop:=∃c t f,H b=O (C c t f)/\c[i]?=O v
theorem Bm.mono {v:V_} (h:Bm H b i v) (hl:Bl H H'):Bm H' b i v:=by obtain⟨c,t,f,h1,h2⟩:=h;exact⟨c,t,f,hl _ _ h1,h2⟩
theorem Bm.cell {v:V_} (h:Bm H b i v) (m:AC w0 H L w):w.cell? ⟨b,i,X⟩=O v:=by obtain⟨c,t,f,h1,h2⟩:=h;rw[AU (m.imm _ _ h1),h2]
structure Kc (α:Type) where
 size:Nat
 rep:Hp->List V_->α->Prop
 mono:∀{H H':Hp} {cs:List V_} {x:α},Bl H H'->rep H cs x->rep H' cs x
 len:∀{H:Hp} {cs:List V_} {x:α},rep H cs x->cs.length=size
def AX {α:Type} (E:Kc α) (H:Hp) (v:V_) (xs:List α):Prop:=
 ∃b c,v= V b xs.length c/\xs.length<=c/\c<=maxLen/\(b=X->c=0)/\
  ∀i,(h:i<xs.length)->∃lu off cs,b=O ⟨lu,off,X⟩/\E.rep H cs xs[i]/\∀j u,cs[j]?=O u->Bm H lu (off+i*E.size+j) u
theorem AX.mono {E:Kc α} {v:V_} (h:AX E H v xs) (hl:Bl H H'):AX E H' v xs:=by obtain⟨b,c,hv,h1,h2,h3,hc⟩:=h;refine⟨b,c,hv,h1,h2,h3,λi hi=>?_⟩;obtain⟨lu,off,cs,e1,e2,e3⟩:=hc i hi;exact⟨lu,off,cs,e1,E.mono hl e2,λj u hj=>(e3 j u hj).mono hl⟩
theorem AX.nil {α:Type} (E:Kc α) (H:Hp):AX E H (V X 0 0) []:=
 ⟨X,0,Z,un _,by simp[maxLen],λ_=>rfl,λi hi=>a_ hi (xA _)⟩
def TL {α:Type} (f:α->V_) (p:α->Prop):Kc α:=⟨1,λ_ cs x=>cs=[f x]/\p x,λ_ h=>h,λh=>by rw[h.1];rfl⟩
def EH (n:Int):Prop:= -9223372036854775808<=n/\n<=9223372036854775807
def AY:Kc Int:=TL (Y I) EH
def Aq:Kc ByteArray:=TL U (λs=>s.size<=maxLen)
def Kp {α:Type} (E:Kc α):Kc (List α):=⟨1,λH cs x=>∃v,cs=[v]/\AX E H v x,λhl ⟨v,h1,h2⟩=>⟨v,h1,h2.mono hl⟩,λ⟨v,h1,_⟩=>by rw[h1];rfl⟩
theorem AX.cellV {f:α->V_} {p:α->Prop} {b:Option Addr} (h:AX (TL f p) H (V b n c) xs) (hi:i<xs.length):∃lu off,b=O ⟨lu,off,X⟩/\Bm H lu (off+i) (f xs[i])/\p xs[i]:=by obtain⟨b',c',hv,_,_,_,hc⟩:=h;cases hv;obtain⟨lu,off,cs,e1,e2,e3⟩:=hc i hi;have aa:cs=[f xs[i]]/\p xs[i]:=e2;obtain⟨aa,e4⟩:=aa;subst aa;refine⟨lu,off,e1,?_,e4⟩;have:=e3 0 _ Z;simpa[TL] using this
theorem AX.all {f:α->V_} {p:α->Prop} {v:V_} (h:AX (TL f p) H v xs):∀x∈xs,p x:=by obtain⟨b',c',hv,_,_,_,hc⟩:=h;intro x hx;obtain⟨i,hi,rfl⟩:=wH.1 hx;obtain⟨lu,off,cs,e1,e2,e3⟩:=hc i hi;exact e2.2
theorem AC.e0 {w0 w:W_} {H:Hp} {L:List (Nat×Obj)} {T:Prop} (m:AC w0 H L w) (h:BS w L->T:=by intro h;simp only[BS] at h;exact h):T:=h m.eqs
theorem AC.e1 {w0 w:W_} {H:Hp} {L:List (Nat×Obj)} {T:Prop} (m:AC w0 H L w) (h:BS w L->T:=by intro h;simp only[BS,IB,D6] at h;exact h):T:=h m.eqs
theorem AC.e2 {w0 w:W_} {H:Hp} {L:List (Nat×Obj)} {T:Prop} (m:AC w0 H L w) (h:BS w L->T:=by intro h;simp only[BS,and_true] at h;exact h):T:=h m.eqs
theorem AC.e3 {w0 w:W_} {H:Hp} {L:List (Nat×Obj)} {T:Prop} (m:AC w0 H L w) (h:BS w L->T:=by intro h;simp only[BS,At,IH] at h;exact h):T:=h m.eqs
theorem AC.e4 {w0 w:W_} {H:Hp} {L:List (Nat×Obj)} {T:Prop} (m:AC w0 H L w) (h:BS w L->T:=by intro h;simp only[BS,IB,D6,SB,S8,EC,Ew] at h;exact h):T:=h m.eqs
theorem AC.e5 {w0 w:W_} {H:Hp} {L:List (Nat×Obj)} {T:Prop} (m:AC w0 H L w) (h:BS w L->T:=by intro h;simp only[BS,IB,D6,SB,S8,EC,Ew,At] at h;exact h):T:=h m.eqs
theorem AC.e6 {w0 w:W_} {H:Hp} {L:List (Nat×Obj)} {T:Prop} (m:AC w0 H L w) (h:BS w L->T:=by intro h;simp only[BS,SB,S8,EC] at h;exact h):T:=h m.eqs
theorem AC.e7 {w0 w:W_} {H:Hp} {L:List (Nat×Obj)} {T:Prop} (m:AC w0 H L w) (h:BS w L->T:=by intro h;simp only[BY,BS] at h;exact h):T:=h m.eqs
theorem AC.e8 {w0 w:W_} {H:Hp} {L:List (Nat×Obj)} {T:Prop} (m:AC w0 H L w) (h:BS w L->T:=by intro h;simp only[BS,SB,S8,EC,At] at h;exact h):T:=h m.eqs
theorem AC.n9 {w0 w:W_} {H:Hp} {L:List (Nat×Obj)} {T:Prop} (m:AC w0 H L w) (h:kD L->T:=by intro h;simp only[kD,Kz,and_true,true_and] at h;exact h):T:=h m.nes
theorem AC.n10 {w0 w:W_} {H:Hp} {L:List (Nat×Obj)} {T:Prop} (m:AC w0 H L w) (h:kD L->T:=by intro h;simp only[kD,Kz] at h;exact h):T:=h m.nes
theorem AC.e11 {w0 w:W_} {H:Hp} {L:List (Nat×Obj)} {T:Prop} (m:AC w0 H L w) (h:BS w L->T:=by intro h;simp only[BS,IB,D6,At] at h;exact h):T:=h m.eqs
theorem AC.n12 {w0 w:W_} {H:Hp} {L:List (Nat×Obj)} {T:Prop} (m:AC w0 H L w) (h:kD L->T:=by intro h;simp only[BY,kD,Kz] at h;exact h):T:=h m.nes
theorem AC.e13 {w0 w:W_} {H:Hp} {L:List (Nat×Obj)} {T:Prop} (m:AC w0 H L w) (h:BS w L->T:=by intro h;simp only[BS,At,Fv,SB,S8,EC] at h;exact h):T:=h m.eqs
theorem AC.e14 {w0 w:W_} {H:Hp} {L:List (Nat×Obj)} {T:Prop} (m:AC w0 H L w) (h:BS w L->T:=by intro h;simp only[BS,At] at h;exact h):T:=h m.eqs
theorem AC.e15 {w0 w:W_} {H:Hp} {L:List (Nat×Obj)} {T:Prop} (m:AC w0 H L w) (h:BS w L->T:=by intro h;simp only[BS,At,Fv] at h;exact h):T:=h m.eqs
theorem AC.e16 {w0 w:W_} {H:Hp} {L:List (Nat×Obj)} {T:Prop} (m:AC w0 H L w) (h:BS w L->T:=by intro h;simp only[BS,SB,S8,EC,TE] at h;exact h):T:=h m.eqs
theorem AC.e17 {w0 w:W_} {H:Hp} {L:List (Nat×Obj)} {T:Prop} (m:AC w0 H L w) (h:BS w L->T:=by intro h;simp only[BS,pR,IB,D6] at h;exact h):T:=h m.eqs
theorem AC.e18 {w0 w:W_} {H:Hp} {L:List (Nat×Obj)} {T:Prop} (m:AC w0 H L w) (h:BS w L->T:=by intro h;simp only[BY,Bs,BS] at h;exact h):T:=h m.eqs
theorem AC.e19 {w0 w:W_} {H:Hp} {L:List (Nat×Obj)} {T:Prop} (m:AC w0 H L w) (h:BS w L->T:=by intro h;simp only[BS,FZ] at h;exact h):T:=h m.eqs
theorem AC.e20 {w0 w:W_} {H:Hp} {L:List (Nat×Obj)} {T:Prop} (m:AC w0 H L w) (h:BS w L->T:=by intro h;simp only[BS,SB,S8,EC,At,TE] at h;exact h):T:=h m.eqs
theorem BQ {P:P_} {f:FuncId} {a:Array V_} {w:W_} {v:V_} {Q:E_->W_->Prop} (h:K_ P f a w λe w'=>e= .returned v/\w=w') (k:Q (.returned v) w):K_ P f a w Q:=h.mono (by rintro e w' ⟨rfl,rfl⟩;exact k)
end
end
section
variable {H:Hp} {K:Act->World->Prop} {L L0:List (Nat×Obj)} {P:Program} {Q:Exit->Act->World->Prop} {b c g k m n:Nat} {e:TypeId} {o:Oper} {w w0:World}
def AP (w0:W_) (H:Hp) (L:List (Nat×Obj)) (e:T_) (size:Nat) (v:V_) (n:Nat) (xs:List V_) (w:W_):Prop:=
 xs.length=n*size/\
 ((v= V X 0 0/\n=0/\AC w0 H L w)\/
  ∃g cap nB,v= V (O ⟨g,0,X⟩) n cap/\n<=cap/\cap<=maxLen/\nB.size=cap*size/\nB.toList.take (n*size)=xs/\AC w0 H ((g,C nB e (0,0))::L) w)
def Fr (w:W_) (x:V_) (m:Nat) (news:List V_):Prop:=
 (x= V X 0 0/\m=0/\news=[])\/∃a c,x= V (O a) m c/\∀j u,news[j]?=O u->w.cell? (a.add j)=O u
section
variable {w0 w w':W_} {H H':Hp} {L L':List (Nat×Obj)} {e:T_} {size:Nat} {v:V_} {n:Nat} {xs:List V_}
theorem AP.nil (m:AC w0 H L w):AP w0 H L e size (V X 0 0) 0 [] w:=⟨by simp,.inl ⟨Z,Z,m⟩⟩
theorem AP.row {cap:Nat} {nB:Array V_} (m:AC w0 H ((g,C nB e (0,0))::L) w) (hn:n<=cap) (hc:cap<=maxLen) (hs:nB.size=cap*size) (hx:nB.toList.take (n*size)=xs):AP w0 H L e size (V (O ⟨g,0,X⟩) n cap) n xs w:=by refine⟨?_,.inr ⟨g,cap,nB,Z,hn,hc,hs,hx,m⟩⟩;rw[<-hx,wW,vA,hs];exact xB (vM _ hn)
theorem AP.map (h:AP w0 H L e size v n xs w) (f:∀L0,AC w0 H (L0++L) w->AC w0 H' (L0++L') w'):AP w0 H' L' e size v n xs w':=by
 refine⟨h.1,?_⟩;rcases h.2 with ⟨h1,h2,m⟩|⟨g,cap,nB,h1,h2,h3,h4,h5,m⟩
 .exact .inl ⟨h1,h2,f [] m⟩
 .exact .inr ⟨g,cap,nB,h1,h2,h3,h4,h5,f [_] m⟩
def Ba (e:T_) (size:Nat) (v:V_) (n:Nat) (xs:List V_) (L0:List (Nat×Obj)):Prop:=
 xs.length=n*size/\
 ((v= V X 0 0/\n=0/\L0=[])\/
  ∃g cap nB,v= V (O ⟨g,0,X⟩) n cap/\n<=cap/\cap<=maxLen/\nB.size=cap*size/\nB.toList.take (n*size)=xs/\L0=[(g,C nB e (0,0))])
theorem Ba.nil:Ba e size (V X 0 0) 0 [] []:=⟨by simp,.inl ⟨Z,Z,Z⟩⟩
theorem Ba.join (h:Ba e size v n xs L0) (m:AC w0 H (L0++L) w):AP w0 H L e size v n xs w:=by
 refine⟨h.1,?_⟩;rcases h.2 with ⟨h1,h2,rfl⟩|⟨g,cap,nB,h1,h2,h3,h4,h5,rfl⟩
 .exact .inl ⟨h1,h2,m⟩
 .exact .inr ⟨g,cap,nB,h1,h2,h3,h4,h5,m⟩
theorem AP.split (h:AP w0 H L e size v n xs w):∃L0,Ba e size v n xs L0/\AC w0 H (L0++L) w:=by
 rcases h.2 with ⟨h1,h2,m⟩|⟨g,cap,nB,h1,h2,h3,h4,h5,m⟩
 .exact⟨[],⟨h.1,.inl ⟨h1,h2,Z⟩⟩,m⟩
 .exact⟨[_],⟨h.1,.inr ⟨g,cap,nB,h1,h2,h3,h4,h5,Z⟩⟩,m⟩
theorem Ba.shape (h:Ba e size v n xs L0):∃b c,v= V b n c/\n<=c/\c<=maxLen:=by exact eZ
theorem AP.drop {p:Nat×Obj} (h:AP w0 H (p::L) e size v n xs w):AP w0 H L e size v n xs w:=
 h.map λL0 m=>(m.perm (xC)).drop
theorem Fr.loc {cs:List V_} (hm:AC w0 H L w) (h:(k,C cs.toArray e (0,0))∈L):Fr w (V (O ⟨k,0,X⟩) m c) m cs:=by refine .inr ⟨_,c,Z,λj u hu=>?_⟩;rw[Addr.add_lit,vF,AU (hm.loc _ h).1];simpa using hu
theorem AP.shape (h:AP w0 H L e size v n xs w):∃b c,v= V b n c/\n<=c/\c<=maxLen:=by exact eZ
variable {P:P_}
theorem Bn (t ty e:T_) (i:TypeInfo) (z:V_) (size bytes:Nat) (ht:P.underlying t=O (.slice e)) (hi:P.info? e=O i) (hz:i.zero=O z) (ag:i.size=size) (aq:i.bytes=bytes) (an:z.cells.size=size) (lC:0<size) (v:V_) (n:Nat) (xs:List V_) (kF:AP w0 H L e size v n xs w) (x:V_) (m:Nat) (news:List V_) (lM:Fr w x m news) (hl:news.length=m*size) (h1:∀u∈news,u.oneCell'=B) (ae:(n+m)*bytes<=140737488355328) (h63:n+m<=maxLen):∃v' w',(Builtin.append_ #[t,t] ty #[v,x]).run P w= .ok v' w'/\AP w0 H L e size v' (n+m) (xs++news) w':=by
 subst ag;subst aq;have ah:n+m<=9223372036854775807:=(by simp only[maxLen] at h63;omega);have nC:(xs++news).length=(n+m)*i.size:=(by rw[vS,kF.1,hl,vG])
 have grown:∀(old:Nat),AC w0 H L w->
  AP w0 H L e i.size (V (O ⟨w.heap.size,0,X⟩) (n+m) (grownCap w (n+m) old e)) (n+m) (xs++news) (w.drew.alloc (C (xs.toArray++news.toArray++Builtin.zeroCells z.cells (grownCap w (n+m) old e-(n+m))) e)):=by
  intro old hm
  have hge:=grownCap_ge w (n+m) old e
  have ai:grownCap w (n+m) old e<=maxLen:=grownCap_le_maxLen w (n+m) old e h63
  refine AP.row (hm.drew.alloc _) hge ai ?_ ?_
  .simp only[wX,List.size_toArray,size_zeroCells,an,kF.1,hl,<-vG];congr 1;omega
  .simp only[wY,vt];rw[<-vt,<-nC];exact wZ
 rcases lM with ⟨rfl,rfl,rfl⟩|⟨a,c,rfl,ad⟩
 .refine⟨v,w,?_,by simpa using kF⟩;rcases kF.2 with ⟨rfl,rfl,_⟩|⟨g,cap,nB,rfl,aj,_,_,_,_⟩
  .simp[Builtin.append_,u_ ht,sizeOf,typeInfo,hi,Builtin.lenOf,Builtin.firstCells]
  .simp[Builtin.append_,u_ ht,sizeOf,typeInfo,hi,Builtin.lenOf,Builtin.firstCells,aj,storeCells]
 .rcases kF.2 with ⟨rfl,rfl,hm⟩|⟨g,cap,nB,rfl,aj,ai,ao,af,hm⟩
  .have hx:xs=[]:=vH (by simpa using kF.1);subst hx;by_cases hm0:m=0
   .subst hm0;have hn:news=[]:=vH Mx;subst hn;refine⟨V X 0 0,w,?_,by simpa using kF⟩;simp[Builtin.append_,u_ ht,sizeOf,typeInfo,hi,Builtin.lenOf,Builtin.firstCells,loadCells,loadCellsFrom]
   .have hr:=run_append_nil (P:=P) w t ty e i z ht hi hz a m c news hl ad A0 A0 (by have hb:=ae;simp only[vF] at hb;omega);have ak:=grown 0 hm;simp only[vF,vZ,Array.empty_append] at ak⊢;exact⟨_,_,hr,ak⟩
  .have hg:=(hm.loc _ (.head _)).1;by_cases aa:n+m<=cap
   .have lz:n*i.size+news.length<=nB.size:=(by rw[hl,ao,<-vG];exact vM _ aa);have hr:=run_append_room (P:=P) w t ty e i ht hi g n cap nB hg a m c news hl ad h1 aa lz;refine⟨_,_,hr,AP.row (nB:=(nB.toList.take (n*i.size)++news++nB.toList.drop (n*i.size+news.length)).toArray) (hm.setObj .head Z Z Z (setRow_heap w g nB _ e _ hg) λj hj=>setRow_other w g j _ hj) aa ai ?_ ?_⟩
    .exact jN
    .simp only;rw[af,<-nC];exact wZ
   .have holds:∀j u,xs[j]?=O u->w.cell? ((⟨g,0,X⟩:Addr).add j)=O u:=by
     intro j u hu;rw[Addr.add_lit,vF,AU hg];rw[<-af,vu] at hu;split at hu
     .simpa using hu
     .cases hu
    have hr:=run_append_grow (P:=P) w t ty e i z ht hi hz ⟨g,0,X⟩ n cap xs kF.1 holds a m c news hl ad A0 A0 (growslice_fits A0 ae);exact⟨_,_,hr,grown cap hm.drop⟩
theorem AG {ops:Array Oper} {rest:List Oper} {a:Act} (ai:o.guard=X) (s x:O_) (t:T_) (ho:o.op= .call {callee:= .builtin .append,args:=#[s,x],argTypes:=#[t,t]}) (e:T_) (size bytes:Nat) (z:V_) (ht:P.underlying t=O (.slice e)) (hi:(P.info? e).map (λi=>(i.zero,i.size,i.bytes))=O (O z,size,bytes)) (ad:z.cells.size=size) (lC:0<size) (v:V_) (n:Nat) (xs:List V_) (kF:AP w0 H L e size v n xs w) (hs:a.eval s=v) (xv:V_) (m:Nat) (news:List V_) (lM:Fr w xv m news) (hx:a.eval x=xv) (hl:news.length=m*size) (h1:∀u∈news,u.oneCell'=B) (aa:(n+m)*bytes<=140737488355328) (h63:n+m<=maxLen) (h:∀v' w',AP w0 H L e size v' (n+m) (xs++news) w'->wpList P ops Q rest (a.put o.dst v') w'):wpList P ops Q (o::rest) a w:=by obtain⟨i,ah,ag,af,ae⟩:=info_parts hi;obtain⟨v',w',hr,h2⟩:=Bn (P:=P) t o.type e i z size bytes ht ah ag af ae ad lC v n xs kF xv m news lM hl h1 aa h63;(refine wpList_plain ai λK hK=>?_);unfold Oper.wp x_;simp only[ho,resolve,invoke,builtin,Sem.run_bind,Sem.run_pure,Result.andThen_ok,xD,uv,vv,hs,hx,hr];exact hK _ _ (h v' w' h2)
end
theorem By {ops:Array Oper} {a:Act} {E:Prop} (ai:o.guard=X) (s x:O_) (t:T_) (ho:o.op= .call {callee:= .builtin .append,args:=#[s,x],argTypes:=#[t,t]}) (e:T_) (size bytes:Nat) (z:V_) (ht:P.underlying t=O (.slice e)) (hi:(P.info? e).map (λi=>(i.zero,i.size,i.bytes))=O (O z,size,bytes)) (ad:z.cells.size=size) (lC:0<size) (v:V_) (n:Nat) (xs:List V_) (kF:AP w0 H L e size v n xs w) (hs:a.eval s=v) (xv:V_) (m:Nat) (news:List V_) (lM:Fr w xv m news) (hx:a.eval x=xv) (hl:news.length=m*size) (h1:∀u∈news,u.oneCell'=B) (aa:(n+m)*bytes<=140737488355328) (h63:n+m<=maxLen) (h:∀v' w',AP w0 H L e size v' (n+m) (xs++news) w'->K (a.put o.dst v') w'):if vx o (yielded ops a.tmps)=B then Oper.wp P o a w K Q else E:=by have hw:vx o (yielded ops a.tmps)=true:=(by simp[vx,ai]);rw[p_ hw];obtain⟨i,ah,ag,af,ae⟩:=info_parts hi;obtain⟨v',w',hr,h2⟩:=Bn (P:=P) t o.type e i z size bytes ht ah ag af ae ad lC v n xs kF xv m news lM hl h1 aa h63;unfold Oper.wp x_;simp only[ho,resolve,invoke,builtin,Sem.run_bind,Sem.run_pure,Result.andThen_ok,xD,uv,vv,hs,hx,hr];exact h v' w' h2
inductive Ai {α:Type} (E:Kc α) (H:Hp):List V_->List α->Prop
 |nil:Ai E H [] []
 |cons {cs:List V_} {x:α} {xs:List V_} {ys:List α}:E.rep H cs x->cs.length=E.size->Ai E H xs ys->Ai E H (cs++xs) (x::ys)
section
variable {α:Type} {E:Kc α} {H H':Hp} {xs xs':List V_} {ys ys':List α}
theorem Ai.append (h:Ai E H xs ys) (h':Ai E H xs' ys'):Ai E H (xs++xs') (ys++ys'):=by
 induction h with
 |nil=>exact h'
 |cons h1 h2 _ ih=>rw[vt];exact .cons h1 h2 ih
theorem Ai.mono (h:Ai E H xs ys) (hl:Bl H H'):Ai E H' xs ys:=by
 induction h with
 |nil=>exact .nil
 |cons h1 h2 _ ih=>exact .cons (E.mono hl h1) h2 ih
theorem Ai.length (h:Ai E H xs ys):xs.length=ys.length*E.size:=by
 induction h with
 |nil=>simp
 |cons _ h2 _ ih=>rw[vS,h2,ih,wI,vG,Nat.one_mul,vy]
theorem Ai.get (h:Ai E H xs ys):∀i,(hi:i<ys.length)->∃cs,E.rep H cs ys[i]/\cs.length=E.size/\∀j u,cs[j]?=O u->xs[i*E.size+j]?=O u:=by
 induction h with
 |nil=>intro i hi;exact a_ hi (xA _)
 |@cons cs x xs ys h1 h2 _ ih=>
  intro i hi
  cases i with
  |zero=>refine⟨cs,h1,h2,λj u hu=>?_⟩;rw[we,vF,xE (vU.1 hu).1];exact hu
  |succ i=>obtain⟨c',e1,e2,e3⟩:=ih i ND;refine⟨c',e1,e2,λj u hu=>?_⟩;rw[xF (by rw[h2,vG];omega),h2,show(i+1)*E.size+j-E.size=i*E.size+j by rw[vG];omega];exact e3 j u hu
theorem Ai.ofV {f:α->V_} {p:α->Prop} (ys:List α) (h:∀y∈ys,p y):Ai (TL f p) H (ys.map f) ys:=by
 induction ys with
 |nil=>exact .nil
 |cons y ys ih=>exact .cons (cs:=[f y]) ⟨Z,h y (.head _)⟩ Z (ih λz hz=>h z (.tail _ hz))
theorem AP.done {size:Nat} {v:V_} (h:AP w0 H L e size v n xs w) (hc:Ai E H xs ys) (hs:size=E.size) (hn:n=ys.length):∃H',AC w0 H' L w/\Bl H H'/\AX E H' v ys:=by
 subst hs;subst hn;rcases h.2 with ⟨rfl,hn,m⟩|⟨g,cap,nB,rfl,ad,ae,af,aa,m⟩
 .obtain rfl:=vH hn;exact⟨H,m,Bl.refl H,AX.nil E H⟩
 .obtain⟨m',mN⟩:=m.freeze;refine⟨_,m',mN,O ⟨g,0,X⟩,cap,Z,ad,ae,λh=>CZ,λi hi=>?_⟩;obtain⟨cs,e1,e2,e3⟩:=hc.get i hi;refine⟨g,0,cs,Z,E.mono mN e1,λj u hu=>⟨nB,e,(0,0),Hp.put_same _ _ _,?_⟩⟩;have:=e3 j u hu;rw[<-aa,vu] at this;split at this
  .simpa using this
  .cases this
theorem AX.src {v:V_} (h:AX E H v ys) (m:AC w0 H L w):∃news,Ai E H news ys/\Fr w v ys.length news:=by
 obtain⟨b,c,rfl,af,ag,h0,hc⟩:=h
 have key:∀d k,k+d=ys.length->∃news,Ai E H news (ys.drop k)/\∀lu off,b=O ⟨lu,off,X⟩->∀j u,news[j]?=O u->w.cell? ⟨lu,off+k*E.size+j,X⟩=O u:=by
  intro d
  induction d with
  |zero=>intro k hk;rw[List.drop_of_length_le A0];exact⟨[],.nil,λ_ _ _ j u hu=>by simp at hu⟩
  |succ d ih=>
   intro k hk;have lg:k<ys.length:=A0;obtain⟨news,h1,h2⟩:=ih (k+1) A0;obtain⟨lu,off,cs,e1,e2,e3⟩:=hc k lg;rw[List.drop_eq_getElem_cons lg];refine⟨cs++news,.cons e2 (E.len e2) h1,λae ad hb j u hu=>?_⟩;rw[e1] at hb;cases hb;by_cases hj:j<cs.length
   .rw[xE hj] at hu;exact(e3 j u hu).cell m
   .rw[xF A0] at hu;have:=h2 lu off e1 _ u hu;rw[E.len e2] at this;rw[E.len e2] at hj;rwa [show off+(k+1)*E.size+(j-E.size)=off+k*E.size+j by rw[vG];omega] at this
 obtain⟨news,h1,h2⟩:=key ys.length 0 A0;rw[List.drop_zero] at h1;refine⟨news,h1,?_⟩
 cases b with
 |none=>have hy:ys.length=0:=(by have:=h0 Z;omega);have aa:ys=[]:=vH hy;subst aa;have hn:news=[]:=(by cases h1;rfl);subst hn;rw[h0 Z];exact .inl ⟨Z,Z,Z⟩
 |some a=>
  refine .inr ⟨a,c,Z,λj u hu=>?_⟩
  have hy:0<ys.length:=by
   rcases wV ys.length with h|h
   .have aa:ys=[]:=vH h;subst aa;cases h1;simp at hu
   .exact h
  obtain⟨lu,off,_,e1,_⟩:=hc 0 hy;cases e1;rw[Addr.add_lit];have:=h2 lu off Z j u hu;rwa [we,vz] at this
theorem Ai.oneCell (h:Ai E H xs ys) (hE:∀cs x,E.rep H cs x->∀u∈cs,u.oneCell'=B):∀u∈xs,u.oneCell'=true:=by
 induction h with
 |nil=>intro u hu;cases hu
 |cons h1 _ _ ih=>
  intro u hu;rcases wA.1 hu with hu|hu
  .exact hE _ _ h1 u hu
  .exact ih u hu
theorem AC.weaken {w0 w:W_} {L:List (Nat×Obj)} (m:AC w0 H' L w) (h:Bl H H'):AC w0 H L w:=
 ⟨m.os,m.tape,m.output,λk o hk=>m.imm k o (h k o hk),λp hp=>⟨(m.loc p hp).1,by
  cases hh:H p.1 with
  |none=>rfl
  |some o=>have:=h _ _ hh;rw[(m.loc p hp).2] at this;cases this⟩,m.nd⟩
theorem AC.thaw {o:Obj} (m:AC w0 (H.put g o) L w) (h:H g=X):AC w0 H ((g,o)::L) w:=by
 have m':=m.weaken (Bl.put o h);refine⟨m'.os,m'.tape,m'.output,m'.imm,λp hp=>?_,?_⟩
 .cases hp with
  |head=>exact⟨m.imm g o (Hp.put_same _ _ _),h⟩
  |tail _ hp=>exact m'.loc p hp
 .rw[uv,vJ];refine⟨λhc=>?_,m'.nd⟩;obtain⟨p,hp,he⟩:=vL.1 hc;have:=(m.loc p hp).2;rw[he,Hp.put_same] at this;cases this
theorem Ba.borrow {size:Nat} {v:V_} (h:Ba e size v n xs L0) (hc:Ai E H xs ys) (hs:size=E.size) (hn:n=ys.length) (m:AC w0 H (L0++L) w):∃H',AC w0 H' L w/\Bl H H'/\AX E H' v ys/\∀(L':List (Nat×Obj)) (w':W_),AC w0 H' L' w'->AC w0 H (L0++L') w':=by
 rcases h.2 with ⟨rfl,h2,rfl⟩|⟨g,cap,nB,rfl,h2,h3,h4,h5,rfl⟩
 .obtain rfl:ys=[]:=vH A0;exact⟨H,m,Bl.refl H,AX.nil E H,λ_ _ m'=>m'⟩
 .have hg:=(m.loc _ (.head _)).2;subst hs;subst hn;obtain⟨m',mN⟩:=m.freeze;refine⟨_,m',mN,⟨O ⟨g,0,X⟩,cap,Z,h2,h3,λh=>CZ,λi hi=>?_⟩,λ_ _ m'=>m'.thaw hg⟩;obtain⟨cs,e1,e2,e3⟩:=hc.get i hi;refine⟨g,0,cs,Z,E.mono mN e1,λj u hu=>⟨nB,e,(0,0),Hp.put_same _ _ _,?_⟩⟩;have:=e3 j u hu;rw[<-h5,vu] at this;split at this
  .simpa using this
  .cases this
theorem AC.lit {cs:List V_} (m:AC w0 H ((b,C cs.toArray e (0,0))::L) w) (hc:Ai E H cs ys) (hm:ys.length<=maxLen):∃H',AC w0 H' L w/\Bl H H'/\AX E H' (V (O ⟨b,0,X⟩) ys.length ys.length) ys:=by have hl:=hc.length;have ha:AP w0 H L e E.size (V (O ⟨b,0,X⟩) ys.length ys.length) ys.length cs w:=(by refine AP.row m (un _) hm Mx ?_;simp only;rw[<-hl];exact List.take_length);exact ha.done hc Z Z
end
end
variable {n:Nat} {α:Type}
def CG (c:UInt8):Bool:=c==10||(32<=c&&c<=126)
def DC (s:ByteArray):Bool:=s.data.toList.all CG&&T (s.size<=200)
def Bv (w0:W_) (H:Hp) (L:List (Nat×Obj)) (c:V_) (e:E_) (w':W_):Prop:=e= .returned c/\AC w0 H L w'
theorem GY (c:UInt8):CG c=B↔(c.toNat=10\/(32<=c.toNat/\c.toNat<=126)):=by unfold CG;simp[UInt8.le_iff_toNat_le,<-UInt8.toNat_inj]
theorem IS (c:UInt8):CG c=G↔(c.toNat≠10/\(c.toNat<32\/126<c.toNat)):=by
 have h:=GY c;cases hb:CG c
 .exact Sr
 .exact Sr
theorem Bi (p:α->Bool) (l:List α) (k:Nat) (h:k<l.length):(l.take (k+1)).all p=((l.take k).all p&&p l[k]):=by rw[List.take_succ_eq_append_getElem h,List.all_append];simp
theorem B4 (p:α->Bool) (l:List α) (k:Nat) (h:k<l.length) (hp:p l[k]=G):l.all p=false:=by rw[List.all_eq_false];exact⟨l[k],wJ h,by simp[hp]⟩
theorem Xu (s:ByteArray) (k:Nat) (h:k<s.size) (hb:CG s[k]=G):DC s=false:=by unfold DC;rw[B4 CG s.data.toList k CE hb];rfl
theorem Uo (s:ByteArray) (h:200<s.size):DC s=false:=by unfold DC;rw[f_ A0,Bool.and_false]
theorem Ul (s:ByteArray) (k:Nat) (hk:¬k<s.size) (hl:s.size<=200) (h:(s.data.toList.take k).all CG=B):DC s=true:=by rw[List.take_of_length_le (by simpa using hk)] at h;unfold DC;rw[h,t_ hl];rfl
theorem Np (s:ByteArray) (k:Nat) (h:k<s.size) (ha:(s.data.toList.take k).all CG=B) (hb:CG s[k]=B):(s.data.toList.take (k+1)).all CG=true:=by rw[Bi _ _ _ CE,ha];exact hb
theorem A9 (h:n<=maxLen):n<=9223372036854775807:=by unfold maxLen at h;omega
section
variable {m:Nat}
inductive AV where
 |b (x:Bool)
 |i (k:IntKind) (n:Int)
 |s (l:List Nat)
 |np
 |p (lu off:Nat)
 |ns
 |sl (lu off len cap:Nat) (ex:Bool) (z:Nat)
 |nm
 |m (lu:Nat)
 |nf
 |fn (f:FuncId) (fst nr:List AV)
 |y (l:Nat)
 |ni
 |agg (l:List AV)
 |tup (l:List AV)
inductive Au (α:Type) where
 |leaf
 |node (v:Option α) (a b c d:Au α)
theorem KE (h:n≠m):uh n m=false:=by
 cases hb:uh n m
 .rfl
 .exact a_ (xG hb) h
theorem MV (h:n=m):uh n m=true:=by subst h;exact wB n
theorem B0 (h:uh n m=B):n=m:=xG h
theorem BV (h:ui n m=B):n<=m:=xH h
theorem DR (h:um n m=B):n<m:=xH h
section
variable {α:Type}
noncomputable def Au.get (t:Au α):Nat->Option α:=Au.rec (λ_=>X) (λv _ _ _ _ ga gb gc gd n=>Nat.rec v (λm _=>Nat.rec (ga (ur m 4)) (λk _=>Nat.rec (gb (ur m 4)) (λk _=>Nat.rec (gc (ur m 4)) (λ_ _=>gd (ur m 4)) k) k) (wC m 4)) n) t
noncomputable def Au.single (x:Option α) (f:Nat):Nat->Au α:=Nat.rec (λ_=> .leaf) (λ_ ih n=>Nat.rec (.node x .leaf .leaf .leaf .leaf) (λm _=>Nat.rec (.node X (ih (ur m 4)) .leaf .leaf .leaf) (λk _=>Nat.rec (.node X .leaf (ih (ur m 4)) .leaf .leaf) (λk _=>Nat.rec (.node X .leaf .leaf (ih (ur m 4)) .leaf) (λ_ _=> .node X .leaf .leaf .leaf (ih (ur m 4))) k) k) (wC m 4)) n) f
noncomputable def Au.set (t:Au α) (n:Nat) (x:Option α):Au α:=Au.rec (motive:=λ_=>Nat->Au α) (λn=>Au.single x (Nat.succ n) n) (λv a b c d pa pb pc pd n=>Nat.rec (.node x a b c d) (λm _=>Nat.rec (.node v (pa (ur m 4)) b c d) (λk _=>Nat.rec (.node v a (pb (ur m 4)) c d) (λk _=>Nat.rec (.node v a b (pc (ur m 4)) d) (λ_ _=> .node v a b c (pd (ur m 4))) k) k) (wC m 4)) n) t n
theorem qN (m n:Nat):m+1=n+1↔m%4=n%4/\m/4=n/4:=by omega
theorem gW {β:Type} (p q r s:β) (k:Nat):(Nat.rec p (λk _=>Nat.rec q (λk _=>Nat.rec r (λ_ _=>s) k) k) k:β)=if k=0 then p else if k=1 then q else if k=2 then r else s:=by
 match k with
 |0=>rfl
 |1=>rfl
 |2=>rfl
 |_+3=>rfl
theorem Au.get_leaf (n:Nat):(Au.leaf:Au α).get n=none:=Z
theorem Au.get_zero (v:Option α) (a b c d:Au α):(Au.node v a b c d).get 0=v:=Z
theorem Au.get_succ (v:Option α) (a b c d:Au α) (m:Nat):(Au.node v a b c d).get (m+1)=if m%4=0 then a.get (m/4) else if m%4=1 then b.get (m/4) else if m%4=2 then c.get (m/4) else d.get (m/4):=gW _ _ _ _ _
theorem Au.single_zero (x:Option α) (f:Nat):Au.single x (f+1) 0= .node x .leaf .leaf .leaf .leaf:=Z
theorem Au.single_succ (x:Option α) (f m:Nat):Au.single x (f+1) (m+1)=if m%4=0 then .node X (Au.single x f (m/4)) .leaf .leaf .leaf else if m%4=1 then .node X .leaf (Au.single x f (m/4)) .leaf .leaf else if m%4=2 then .node X .leaf .leaf (Au.single x f (m/4)) .leaf else .node X .leaf .leaf .leaf (Au.single x f (m/4)):=gW _ _ _ _ _
theorem Au.set_leaf (n:Nat) (x:Option α):(Au.leaf:Au α).set n x=Au.single x (n+1) n:=Z
theorem Au.set_zero (v x:Option α) (a b c d:Au α):(Au.node v a b c d).set 0 x= .node x a b c d:=Z
theorem Au.set_succ (v x:Option α) (a b c d:Au α) (m:Nat):(Au.node v a b c d).set (m+1) x=if m%4=0 then .node v (a.set (m/4) x) b c d else if m%4=1 then .node v a (b.set (m/4) x) c d else if m%4=2 then .node v a b (c.set (m/4) x) d else .node v a b c (d.set (m/4) x):=gW _ _ _ _ _
theorem Au.get_single (x:Option α):∀(f n m:Nat),n<f->(Au.single x f n).get m=if m=n then x else X
 |0,_,_,h=>by omega
 |f+1,0,m,h=>by
  rw[Au.single_zero]
  cases m with
  |zero=>rfl
  |succ m=>rw[Au.get_succ,n_ (xI m)];simp only[Au.get_leaf,ite_self]
 |f+1,n+1,m,h=>by
  have ih:=Au.get_single x f (n/4) ((m-1)/4) A0
  rw[Au.single_succ]
  cases m with
  |zero=>
   rw[n_ (A0:¬0=n+1)]
   by_cases h0:n%4=0
   .rw[p_ h0];rfl
   .rw[n_ h0]
    by_cases h1:n%4=1
    .rw[p_ h1];rfl
    .rw[n_ h1]
     by_cases h2:n%4=2
     .rw[p_ h2];rfl
     .rw[n_ h2];rfl
  |succ m=>
   rw[xJ] at ih
   have hmn:=qN m n
   have hn4:n%4<4:=vV _ AD
   have hm4:m%4<4:=vV _ AD
   have lU:m%4≠n%4->¬m+1=n+1:=λg e=>g (hmn.1 e).1
   by_cases h0:n%4=0
   .rw[p_ h0,Au.get_succ]
    by_cases g:m%4=0
    .rw[p_ g,ih];simp only[hmn,h0,g,true_and]
    .rw[n_ (lU A0),n_ g];simp only[Au.get_leaf,ite_self]
   .rw[n_ h0]
    by_cases h1:n%4=1
    .rw[p_ h1,Au.get_succ]
     by_cases g:m%4=1
     .rw[n_ (A0:¬m%4=0),p_ g,ih];simp only[hmn,h1,g,true_and]
     .rw[n_ (lU A0),n_ g];simp only[Au.get_leaf,ite_self]
    .rw[n_ h1]
     by_cases h2:n%4=2
     .rw[p_ h2,Au.get_succ]
      by_cases g:m%4=2
      .rw[n_ (A0:¬m%4=0),n_ (A0:¬m%4=1),p_ g,ih];simp only[hmn,h2,g,true_and]
      .rw[n_ (lU A0),n_ g];simp only[Au.get_leaf,ite_self]
     .rw[n_ h2,Au.get_succ]
      by_cases g:m%4=3
      .rw[n_ (A0:¬m%4=0),n_ (A0:¬m%4=1),n_ (A0:¬m%4=2),ih]
       have h3:n%4=3:=by omega
       simp only[hmn,h3,g,true_and]
      .rw[n_ (lU A0)]
       by_cases g0:m%4=0
       .rw[p_ g0];rfl
       .rw[n_ g0]
        by_cases g1:m%4=1
        .rw[p_ g1];rfl
        .rw[n_ g1,p_ (A0:m%4=2)];rfl
theorem Au.get_set:∀(t:Au α) (n m:Nat) (x:Option α),(t.set n x).get m=if m=n then x else t.get m
 | .leaf,n,m,x=>by rw[Au.set_leaf,Au.get_single x _ _ _ A0];rfl
 | .node v a b c d,0,m,x=>by
  rw[Au.set_zero]
  cases m with
  |zero=>rfl
  |succ m=>rw[Au.get_succ,n_ (xI m),Au.get_succ]
 | .node v a b c d,n+1,m,x=>by
  have ha:=Au.get_set a (n/4) ((m-1)/4) x
  have hb:=Au.get_set b (n/4) ((m-1)/4) x
  have hc:=Au.get_set c (n/4) ((m-1)/4) x
  have hd:=Au.get_set d (n/4) ((m-1)/4) x
  rw[Au.set_succ]
  cases m with
  |zero=>
   rw[n_ (A0:¬0=n+1)]
   by_cases h0:n%4=0
   .rw[p_ h0];rfl
   .rw[n_ h0]
    by_cases h1:n%4=1
    .rw[p_ h1];rfl
    .rw[n_ h1]
     by_cases h2:n%4=2
     .rw[p_ h2];rfl
     .rw[n_ h2];rfl
  |succ m=>
   rw[xJ] at ha hb hc hd
   have hmn:=qN m n
   have hn4:n%4<4:=vV _ AD
   have hm4:m%4<4:=vV _ AD
   have lU:m%4≠n%4->¬m+1=n+1:=λg e=>g (hmn.1 e).1
   rw[Au.get_succ v a b c d]
   by_cases h0:n%4=0
   .rw[p_ h0,Au.get_succ]
    by_cases g:m%4=0
    .rw[p_ g,ha,p_ g];simp only[hmn,h0,g,true_and]
    .rw[n_ (lU A0),n_ g,n_ g]
   .rw[n_ h0]
    by_cases h1:n%4=1
    .rw[p_ h1,Au.get_succ]
     by_cases g:m%4=1
     .rw[n_ (A0:¬m%4=0),p_ g,hb,n_ (A0:¬m%4=0),p_ g];simp only[hmn,h1,g,true_and]
     .rw[n_ (lU A0),n_ g,n_ g]
    .rw[n_ h1]
     by_cases h2:n%4=2
     .rw[p_ h2,Au.get_succ]
      by_cases g:m%4=2
      .rw[n_ (A0:¬m%4=0),n_ (A0:¬m%4=1),p_ g,hc,n_ (A0:¬m%4=0),n_ (A0:¬m%4=1),p_ g];simp only[hmn,h2,g,true_and]
      .rw[n_ (lU A0),n_ g,n_ g]
     .rw[n_ h2,Au.get_succ]
      by_cases g:m%4=3
      .have h3:n%4=3:=by omega
       rw[n_ (A0:¬m%4=0),n_ (A0:¬m%4=1),n_ (A0:¬m%4=2),hd,n_ (A0:¬m%4=0),n_ (A0:¬m%4=1),n_ (A0:¬m%4=2)];simp only[hmn,h3,g,true_and]
      .rw[n_ (lU A0)]
       by_cases g0:m%4=0
       .rw[p_ g0,p_ g0]
       .rw[n_ g0,n_ g0]
        by_cases g1:m%4=1
        .rw[p_ g1,p_ g1]
        .rw[n_ g1,n_ g1,p_ (A0:m%4=2),p_ (A0:m%4=2)]
end
structure P4 (β:Type) where
 a:β
 b:β
 c:β
 d:β
def TT (α:Type) (d:Nat):Type:=Nat.rec (Option α) (λ_ Tq=>P4 Tq) d
def TT.none {α:Type} (d:Nat):TT α d:=Nat.rec (motive:=λd=>TT α d) wg (λ_ t=>P4.mk t t t t) d
def TT.get {α:Type} (d:Nat):TT α d->Nat->Option α:=Nat.rec (motive:=λd=>TT α d->Nat->Option α) (λx _=>x) (λd ih (x:P4 (TT α d)) n=>Nat.rec (ih x.a (ur n 4)) (λk _=>Nat.rec (ih x.b (ur n 4)) (λk _=>Nat.rec (ih x.c (ur n 4)) (λ_ _=>ih x.d (ur n 4)) k) k) (wC n 4)) d
def TT.set {α:Type} (v:Option α) (d:Nat):TT α d->Nat->TT α d:=Nat.rec (motive:=λd=>TT α d->Nat->TT α d) (λ_ _=>v) (λd ih (x:P4 (TT α d)) n=>Nat.rec (P4.mk (ih x.a (ur n 4)) x.b x.c x.d) (λk _=>Nat.rec (P4.mk x.a (ih x.b (ur n 4)) x.c x.d) (λk _=>Nat.rec (P4.mk x.a x.b (ih x.c (ur n 4)) x.d) (λ_ _=>P4.mk x.a x.b x.c (ih x.d (ur n 4))) k) k) (wC n 4)) d
section
variable {α:Type}
def TT.mk4 {d:Nat} (a b c e:TT α d):TT α (d+1):=P4.mk a b c e
def TT.pa {d:Nat} (x:TT α (d+1)):TT α d:=P4.a (β:=TT α d) x
def TT.pb {d:Nat} (x:TT α (d+1)):TT α d:=P4.b (β:=TT α d) x
def TT.pc {d:Nat} (x:TT α (d+1)):TT α d:=P4.c (β:=TT α d) x
def TT.pd {d:Nat} (x:TT α (d+1)):TT α d:=P4.d (β:=TT α d) x
theorem TT.pa_mk {d:Nat} (a b c e:TT α d):TT.pa (TT.mk4 a b c e)=a:=Z
theorem TT.pb_mk {d:Nat} (a b c e:TT α d):TT.pb (TT.mk4 a b c e)=b:=Z
theorem TT.pc_mk {d:Nat} (a b c e:TT α d):TT.pc (TT.mk4 a b c e)=c:=Z
theorem TT.pd_mk {d:Nat} (a b c e:TT α d):TT.pd (TT.mk4 a b c e)=e:=Z
theorem TT.get_succ (d:Nat) (x:TT α (d+1)) (n:Nat):TT.get (d+1) x n=if n%4=0 then TT.get d (TT.pa x) (n/4) else if n%4=1 then TT.get d (TT.pb x) (n/4) else if n%4=2 then TT.get d (TT.pc x) (n/4) else TT.get d (TT.pd x) (n/4):=gW _ _ _ _ _
theorem TT.set_succ (v:Option α) (d:Nat) (x:TT α (d+1)) (n:Nat):TT.set v (d+1) x n=if n%4=0 then TT.mk4 (TT.set v d (TT.pa x) (n/4)) (TT.pb x) (TT.pc x) (TT.pd x) else if n%4=1 then TT.mk4 (TT.pa x) (TT.set v d (TT.pb x) (n/4)) (TT.pc x) (TT.pd x) else if n%4=2 then TT.mk4 (TT.pa x) (TT.pb x) (TT.set v d (TT.pc x) (n/4)) (TT.pd x) else TT.mk4 (TT.pa x) (TT.pb x) (TT.pc x) (TT.set v d (TT.pd x) (n/4)):=gW _ _ _ _ _
theorem TT.get_none:∀(d n:Nat),TT.get (α:=α) d (TT.none d) n=wg
 |0,n=>rfl
 |d+1,n=>by
  have h:=TT.get_none d (n/4)
  rw[TT.get_succ]
  show(if n%4=0 then TT.get d (TT.none d) (n/4) else if n%4=1 then TT.get d (TT.none d) (n/4) else if n%4=2 then TT.get d (TT.none d) (n/4) else TT.get d (TT.none d) (n/4))=wg
  simp only[h,ite_self]
theorem TT.get_set (v:Option α):∀(d:Nat) (x:TT α d) (n m:Nat),n<4^d->m<4^d->TT.get d (TT.set v d x n) m=if m=n then v else TT.get d x m
 |0,x,n,m,hn,hm=>by
  have e1:n=0:=by simpa using hn
  have e2:m=0:=by simpa using hm
  rw[p_ (by rw[e1,e2])];rfl
 |d+1,x,n,m,hn,hm=>by
  have hn':n/4<4^d:=by rw[Nat.pow_succ] at hn;omega
  have hm':m/4<4^d:=by rw[Nat.pow_succ] at hm;omega
  have ha:=TT.get_set v d (TT.pa x) (n/4) (m/4) hn' hm'
  have hb:=TT.get_set v d (TT.pb x) (n/4) (m/4) hn' hm'
  have hc:=TT.get_set v d (TT.pc x) (n/4) (m/4) hn' hm'
  have hd:=TT.get_set v d (TT.pd x) (n/4) (m/4) hn' hm'
  have hmn:m=n↔m%4=n%4/\m/4=n/4:=by omega
  have lU:m%4≠n%4->¬m=n:=λg e=>g (by rw[e])
  have hn4:n%4<4:=vV _ AD
  have hm4:m%4<4:=vV _ AD
  rw[TT.set_succ,TT.get_succ d x]
  by_cases h0:n%4=0
  .rw[p_ h0,TT.get_succ]
   simp only[TT.pa_mk,TT.pb_mk,TT.pc_mk,TT.pd_mk]
   by_cases g:m%4=0
   .rw[p_ g,p_ g,ha];simp only[hmn,h0,g,true_and]
   .rw[n_ (lU A0),n_ g,n_ g]
  .rw[n_ h0]
   by_cases h1:n%4=1
   .rw[p_ h1,TT.get_succ]
    simp only[TT.pa_mk,TT.pb_mk,TT.pc_mk,TT.pd_mk]
    by_cases g:m%4=1
    .have g0:¬m%4=0:=by omega
     rw[n_ g0,n_ g0,p_ g,p_ g,hb];simp only[hmn,h1,g,true_and]
    .rw[n_ (lU A0),n_ g,n_ g]
   .rw[n_ h1]
    by_cases h2:n%4=2
    .rw[p_ h2,TT.get_succ]
     simp only[TT.pa_mk,TT.pb_mk,TT.pc_mk,TT.pd_mk]
     by_cases g:m%4=2
     .have g0:¬m%4=0:=by omega
      have g1:¬m%4=1:=by omega
      rw[n_ g0,n_ g0,n_ g1,n_ g1,p_ g,p_ g,hc];simp only[hmn,h2,g,true_and]
     .rw[n_ (lU A0),n_ g,n_ g]
    .rw[n_ h2,TT.get_succ]
     simp only[TT.pa_mk,TT.pb_mk,TT.pc_mk,TT.pd_mk]
     by_cases g:m%4=3
     .have h3:n%4=3:=by omega
      have g0:¬m%4=0:=by omega
      have g1:¬m%4=1:=by omega
      have g2:¬m%4=2:=by omega
      rw[n_ g0,n_ g0,n_ g1,n_ g1,n_ g2,n_ g2,hd];simp only[hmn,h3,g,true_and]
     .rw[n_ (lU A0)]
      by_cases g0:m%4=0
      .rw[p_ g0,p_ g0]
      .rw[n_ g0,n_ g0]
       by_cases g1:m%4=1
       .rw[p_ g1,p_ g1]
       .have g2:m%4=2:=by omega
        rw[n_ g1,n_ g1,p_ g2,p_ g2]
end
structure AJ (α:Type) where
 lo:TT α 4
 hi:Au α
section
variable {α:Type}
def AJ.leaf:AJ α:=⟨TT.none 4,.leaf⟩
noncomputable def AJ.get (t:AJ α) (n:Nat):Option α:=Bool.rec (t.hi.get n) (TT.get 4 t.lo n) (uh (ur n 256) 0)
noncomputable def AJ.set (t:AJ α) (n:Nat) (x:Option α):AJ α:=Bool.rec ⟨t.lo,t.hi.set n x⟩ ⟨TT.set x 4 t.lo n,t.hi⟩ (uh (ur n 256) 0)
theorem cW (h:n<256):uh (ur n 256) 0=true:=MV (Nat.div_eq_of_lt h)
theorem cE (h:¬n<256):uh (ur n 256) 0=false:=KE (A0:¬n/256=0)
theorem AJ.get_lo (t:AJ α) (h:n<256):t.get n=TT.get 4 t.lo n:=by unfold AJ.get;rw[cW h]
theorem AJ.get_hi (t:AJ α) (h:¬n<256):t.get n=t.hi.get n:=by unfold AJ.get;rw[cE h]
theorem AJ.set_lo (t:AJ α) (x:Option α) (h:n<256):t.set n x=⟨TT.set x 4 t.lo n,t.hi⟩:=by unfold AJ.set;rw[cW h]
theorem AJ.set_hi (t:AJ α) (x:Option α) (h:¬n<256):t.set n x=⟨t.lo,t.hi.set n x⟩:=by unfold AJ.set;rw[cE h]
theorem AJ.get_leaf (n:Nat):(AJ.leaf:AJ α).get n=none:=by
 by_cases h:n<256
 .rw[AJ.get_lo _ h];exact TT.get_none 4 n
 .rw[AJ.get_hi _ h];rfl
theorem AJ.get_set (t:AJ α) (n m:Nat) (x:Option α):(t.set n x).get m=if m=n then x else t.get m:=by
 by_cases h:n<256
 .rw[AJ.set_lo _ _ h];by_cases g:m<256
  .rw[AJ.get_lo _ g,AJ.get_lo _ g];exact TT.get_set x 4 t.lo n m h g
  .rw[AJ.get_hi _ g,AJ.get_hi _ g,n_ A0]
 .rw[AJ.set_hi _ _ h];by_cases g:m<256
  .rw[AJ.get_lo _ g,AJ.get_lo _ g,n_ A0]
  .rw[AJ.get_hi _ g,AJ.get_hi _ g];show(t.hi.set n x).get m=_;rw[Au.get_set]
def LG:List α->Nat->Option α
 |[],_=>X
 |x::l,n=>bif uh n 0 then O x else LG l (n-1)
theorem EG:∀(l:List α) (n:Nat),LG l n=l[n]?
 |[],n=>by simp[LG]
 |x::l,0=>rfl
 |x::l,n+1=>EG l n
def Qg:List α->Nat->List α
 |[],_=>[]
 |x::l,n=>bif uh n 0 then [] else x::Qg l (n-1)
theorem JY:∀(l:List α) (n:Nat),Qg l n=l.take n
 |[],n=>by simp[Qg]
 |x::l,0=>rfl
 |x::l,n+1=>by
  have:=JY l n
  show x::Qg l n=_
  rw[this];rfl
def Qi:List α->Nat->List α
 |[],_=>[]
 |x::l,n=>bif uh n 0 then x::l else Qi l (n-1)
theorem Jd:∀(l:List α) (n:Nat),Qi l n=l.drop n
 |[],n=>by simp[Qi]
 |x::l,0=>rfl
 |x::l,n+1=>Jd l n
def o6:List α->Nat->List α->List α
 |cs,_,[]=>cs
 |[],_,_=>[]
 |c::cs,n,v::vs=>bif uh n 0 then v::o6 cs 0 vs else c::o6 cs (n-1) (v::vs)
theorem Mj:∀(cs:List α) (n:Nat) (vs:List α),n+vs.length<=cs.length->o6 cs n vs=cs.take n++vs++cs.drop (n+vs.length)
 |cs,n,[],h=>by
  have:o6 cs n []=cs:=by cases cs<;>rfl
  rw[this];simp
 |[],n,v::vs,h=>by simp at h
 |c::cs,0,v::vs,h=>by
  have:=Mj cs 0 vs CE
  show v::o6 cs 0 vs=_
  rw[this];simp
 |c::cs,n+1,v::vs,h=>by
  have:=Mj cs n (v::vs) (by simp only[wI] at h⊢;omega)
  show c::o6 cs n (v::vs)=_
  rw[this,(A0:n+1+(v::vs).length=n+(v::vs).length+1)];simp
def Do {β:Type} (f:α->Option β):List α->Option (List β)
 |[]=>O []
 |x::l=>match f x with
  |none=>X
  |some y=>match Do f l with
   |none=>X
   |some ys=>O (y::ys)
theorem KG {β:Type} {f:α->Option β}:∀{l:List α} {ys:List β},Do f l=O ys->ys.length=l.length/\∀(j:Nat) (x:α),l[j]?=O x->∃y,f x=O y/\ys[j]?=O y
 |[],ys,h=>by cases h;exact⟨Z,λj x hx=>by simp at hx⟩
 |x::l,ys,h=>by
  unfold Do at h
  cases hf:f x with
  |none=>rw[hf] at h;cases h
  |some y=>
   rw[hf] at h
   simp only at h
   cases hl:Do f l with
   |none=>rw[hl] at h;cases h
   |some zs=>
    rw[hl] at h
    cases h
    obtain⟨h1,h2⟩:=KG hl
    refine⟨by simp[h1],λj x' hx=>?_⟩
    cases j with
    |zero=>simp at hx;subst hx;exact⟨y,hf,Z⟩
    |succ j=>simpa using h2 j x' (by simpa using hx)
def Fd (z:List α):Nat->List α
 |0=>[]
 |n+1=>z++Fd z n
theorem Cx (z:List α):∀n,(Fd z n).length=n*z.length
 |0=>by simp[Fd]
 |n+1=>by simp[Fd,Cx z n,Nat.succ_mul,vy]
end
end
noncomputable section
inductive Fk where
 |cells (e:T_) (cs:List AV)
 |map (es:List (AV×AV))
 |ro (e:T_) (cs:List AV)
 |loop (tm:AJ AV) (nt:Nat) (params:List Tmp) (assign body:Code) (pend:Option Code)
structure St where
 h:AJ Fk
 nx:Nat
inductive TK where
 |str (fs:List (Nat×T_))
 |arr (n:Nat) (e:T_)
 |int (k:IntKind)
 |slice (e:T_)
 |map (k e:T_)
 |string
 |bool
 |ptr (e:T_)
 |func
 |other
structure TI where
 k:TK
 eq:Option (List TK)
 size:Nat
 bytes:Nat
 z:Option AV
structure CF where
 tt:AJ TI
 ft:AJ Func
def kC:Nat->V_->Option AV
 |0,_=>X
 |n+1,v=>match v with
  | .bool x=>O (.b x)
  | .int k x=>O (.i k x)
  | .string s=>O (.s (s.data.toList.map UInt8.toNat))
  | .pointer X=>O .np
  | .slice X 0 0=>O .ns
  | .map X=>O .nm
  | .nilFunc=>O .nf
  | .nilIface=>O .ni
  | .agg cs=>(Do (kC n) cs.toList).map .agg
  | .tuple cs=>(Do (kC n) cs.toList).map .tup
  |_=>X
def Ck (a:AJ AV):O_->Option AV
 | .tmp t=>a.get t
 | .const v=>kC 2 v
 | .func f=>O (.fn f [] [])
 | .global _=>X
def AL:AV->List AV
 | .agg l=>l
 |v=>[v]
def Hu:AV->Bool
 | .agg _=>G
 | .tup _=>G
 |_=>B
def St.cells (s:St) (b:Nat):Option (T_×List AV):=match s.h.get b with
 |some (.cells e cs)=>O (e,cs)
 |_=>X
def St.cellsR (s:St) (b:Nat):Option (T_×List AV):=match s.h.get b with
 |some (.cells e cs)=>O (e,cs)
 |some (.ro e cs)=>O (e,cs)
 |_=>X
def St.load (s:St) (b o n:Nat):Option (List AV):=match s.cellsR b with
 |some (_,cs)=>bif ui (o+n) cs.length then O (Qg (Qi cs o) n) else X
 |none=>X
def St.store (s:St) (b o:Nat) (vs:List AV):Option St:=match s.cells b with
 |some (e,cs)=>bif ui (o+vs.length) cs.length then O ⟨s.h.set b (O (.cells e (o6 cs o vs))),s.nx⟩ else X
 |none=>X
def St.new (s:St) (x:Fk):St:=⟨s.h.set s.nx (O x),s.nx+1⟩
def Ot:TK->Bool
 | .str _=>B
 | .arr _ _=>B
 |_=>G
def Er (u:TI) (l:List AV):Option AV:=bif Ot u.k then O (.agg l) else match l with
 |[v]=>O v
 |_=>X
def Hg:List Nat->List Nat->Bool
 |[],[]=>B
 |x::l,y::m=>bif uh x y then Hg l m else G
 |_,_=>G
def bJ:Int->Int->Bool
 | .ofNat a,.ofNat b=>uh a b
 | .negSucc a,.negSucc b=>uh a b
 |_,_=>G
def ku:Int->Int->Bool
 | .ofNat a,.ofNat b=>ui a b
 | .negSucc a,.negSucc b=>ui b a
 | .negSucc _,.ofNat _=>B
 | .ofNat _,.negSucc _=>G
theorem J0 (a b:Int):bJ a b=T (a=b):=by
 cases a<;>cases b
 .rename_i a b;show uh a b=_;by_cases h:a=b
  .subst h;rw[wB];simp
  .rw[KE h,f_];intro e;exact h (Int.ofNat.inj e)
 .rfl
 .rfl
 .rename_i a b;show uh a b=_;by_cases h:a=b
  .subst h;rw[wB];simp
  .rw[KE h,f_];intro e;exact h (Int.negSucc.inj e)
theorem Js (a b:Int):ku a b=T (a<=b):=by
 cases a<;>cases b
 .rename_i a b;show ui a b=_;by_cases h:a<=b
  .rw[wK h,t_];simpa using h
  .have:ui a b=false:=(by cases hb:ui a b;rfl;exact a_ (BV hb) h);rw[this,f_];simpa using h
 .rename_i a b;show G=_;have h1:=xK b;have h2:(0:Int)<=uy a:=ve a;rw[f_];omega
 .rename_i a b;show B=_;have h1:=xK a;have h2:(0:Int)<=uy b:=ve b;rw[t_];omega
 .rename_i a b;show ui b a=_;by_cases h:b<=a
  .rw[wK h,t_];omega
  .have:ui b a=false:=(by cases hb:ui b a;rfl;exact a_ (BV hb) h);rw[this,f_];omega
theorem Ik:∀(l m:List Nat),Hg l m=T (l=m)
 |[],[]=>by simp[Hg]
 |[],_::_=>by simp[Hg]
 |_::_,[]=>by simp[Hg]
 |x::l,y::m=>by
  have:=Ik l m
  show(bif uh x y then Hg l m else G)=_
  by_cases h:x=y
  .subst h
   rw[wB,cond_true,this]
   simp
  .rw[KE h,cond_false,f_];intro e;cases e;exact h Z
def Di:AV->AV->Option Bool
 | .b x,.b y=>O (x==y)
 | .i k x,.i k' y=>bif T (k=k') then O (bJ x y) else X
 | .s x,.s y=>O (Hg x y)
 |_,_=>X
def DP:TK->AV->Bool
 | .int _,.i _ _=>B
 | .string,.s _=>B
 | .bool,.b _=>B
 |_,_=>G
def Qk:List TK->List AV->List AV->Option Bool
 |[],[],[]=>O B
 |q::ks,x::l,y::m=>bif DP q x&&DP q y then (match Di x y with
  |some B=>Qk ks l m
  |some G=>(match Qk ks l m with
   |some _=>O G
   |none=>X)
  |none=>X) else X
 |_,_,_=>X
def qT (u:TI) (x y:AV):Option Bool:=match x,y with
 | .i k a,.i k' c=>bif T (k=k') then O (bJ a c) else X
 | .s a,.s c=>O (Hg a c)
 | .b a,.b c=>match u.k with
  | .bool=>O (a==c)
  |_=>X
 | .agg l,.agg m=>match u.eq with
  |some ks=>Qk ks l m
  |none=>X
 | .np,.np=>match u.k with
  | .ptr _=>O B
  |_=>X
 | .np,.p _ _=>match u.k with
  | .ptr _=>O G
  |_=>X
 | .p _ _,.np=>match u.k with
  | .ptr _=>O G
  |_=>X
 | .ns,.ns=>match u.k with
  | .slice _=>O B
  |_=>X
 | .sl _ _ _ _ _ _,.ns=>match u.k with
  | .slice _=>O G
  |_=>X
 | .nf,.nf=>match u.k with
  | .func=>O B
  |_=>X
 | .fn _ _ _,.nf=>match u.k with
  | .func=>O G
  |_=>X
 |_,_=>X
def qv (u:TI) (x y:AV):Option Bool:=match x with
 | .i k a=>match y with
  | .i k' c=>bif T (k=k') then O (bJ a c) else X
  |_=>X
 | .s a=>match y with
  | .s c=>O (Hg a c)
  |_=>X
 |x=>qT u x y
theorem gP (u:TI) (x y:AV):qv u x y=qT u x y:=by cases x<;>first|rfl|(cases y<;>rfl)
def ol (o:BinOp) (k:IntKind) (a c:Int):Option AV:=match o with
 | .add=>O (.i k (k.wrap (a+c)))
 | .sub=>O (.i k (k.wrap (a-c)))
 | .mul=>O (.i k (k.wrap (a*c)))
 | .quo=>bif bJ c 0 then X else O (.i k (k.wrap (a.tdiv c)))
 | .rem=>bif bJ c 0 then X else O (.i k (a.tmod c))
 | .lss=>O (.b (!ku c a))
 | .leq=>O (.b (ku a c))
 | .gtr=>O (.b (!ku a c))
 | .geq=>O (.b (ku c a))
 | .and=>O (.i k (k.wrap ((BitVec.ofInt k.bits a&&&BitVec.ofInt k.bits c).toNat:Int)))
 | .or=>O (.i k (k.wrap ((BitVec.ofInt k.bits a|||BitVec.ofInt k.bits c).toNat:Int)))
 | .xor=>O (.i k (k.wrap ((BitVec.ofInt k.bits a^^^BitVec.ofInt k.bits c).toNat:Int)))
 |_=>X
def bW:List Nat->List Nat->Bool
 |[],[]=>G
 |[],_::_=>B
 |_::_,[]=>G
 |x::l,y::m=>bif um x y then B else bif uh x y then bW l m else G
def pB (E:CF) (o:BinOp) (t:T_) (x y:AV):Option AV:=match o with
 | .eql=>match E.tt.get t with
  |some u=>(qv u x y).map .b
  |none=>X
 | .neq=>match E.tt.get t with
  |some u=>(qv u x y).map λr=> .b (!r)
  |none=>X
 | .shl=>match x,y with
  | .i k a,.i _ c=>bif ku 0 c then O (.i k (k.wrap (a*2^(min c.toNat k.bits)))) else X
  |_,_=>X
 | .shr=>match x,y with
  | .i k a,.i _ c=>bif ku 0 c then O (.i k (a.fdiv (2^(min c.toNat k.bits)))) else X
  |_,_=>X
 |_=>match x,y with
  | .i k a,.i k' c=>bif T (k=k') then ol o k a c else X
  | .s a,.s c=>match o with
   | .add=>bif ui (a.length+c.length) 1000000 then O (.s (a++c)) else X
   | .lss=>O (.b (bW a c))
   | .leq=>O (.b (bW a c||Hg a c))
   | .gtr=>O (.b (!(bW a c||Hg a c)))
   | .geq=>O (.b (!bW a c))
   |_=>X
  |_,_=>X
def oT:AV->Option Nat
 | .i _ (.ofNat n)=>O n
 |_=>X
def Hc (k:AV):List (AV×AV)->Option (Option AV)
 |[]=>O X
 |e::l=>match Di k e.1 with
  |some B=>O (O e.2)
  |some G=>Hc k l
  |none=>X
def JG (k v:AV):List (AV×AV)->Option (List (AV×AV))
 |[]=>O [(k,v)]
 |e::l=>match Di k e.1 with
  |some B=>O ((k,v)::l)
  |some G=>(JG k v l).map λl=>e::l
  |none=>X
def JN (place:Nat->Option (Nat×Nat)):List AV->List (Nat×AV)->Option (List AV)
 |cs,[]=>O cs
 |cs,(i,v)::r=>match place i with
  |none=>X
  |some (o,n)=>bif uh (AL v).length n&&ui (o+n) cs.length then JN place (o6 cs o (AL v)) r else X
def LP (a:AJ AV) (ps:List (Nat×O_)):Option (List (Nat×AV)):=Do (λp=>(Ck a p.2).map λv=>(p.1,v)) ps
def I0 (E:CF) (t:T_):Option Nat:=(E.tt.get t).map (·.size)
abbrev C9:=AV->List AV->St->Option (AV×St)
def eW (s:St) (u:TI) (x:AV):Option Nat:=match u.k,x with
 | .string,.s l=>O l.length
 | .slice _,.ns=>O 0
 | .slice _,.sl _ _ n _ _ _=>O n
 | .map _ _,.nm=>O 0
 | .map _ _,.m b=>match s.h.get b with
  |some (.map es)=>O es.length
  |_=>X
 |_,_=>X
def QT (s:St) (k:AV):AV->Option (Option AV)
 | .m b=>match s.h.get b with
  |some (.map es)=>Hc k es
  |_=>X
 | .nm=>O X
 |_=>X
def lD (s:St) (ux:TI) (z:Nat) (y:AV):Option (List AV×Nat):=match ux.k,y with
 | .slice _,.ns=>O ([],0)
 | .string,.s l=>bif uh z 1 then O (l.map λc=> .i .u8 (.ofNat c),l.length) else X
 | .slice _,.sl b o n _ _ q=>bif uh q z then (s.load b o (n*z)).map λl=>(l,n) else X
 |_,_=>X
def TJ (s:St) (e:T_) (u ux:TI) (x y:AV):Option (AV×St):=match lD s ux u.size y with
 |none=>X
 |some (l,k)=>match x with
  | .ns=>bif uh k 0 then O (.ns,s) else bif ui (k*u.bytes) 140737488355328&&ui k 1000000 then O (.sl s.nx 0 k k G u.size,s.new (.cells e l)) else X
  | .sl b o n c ex q=>bif uh k 0 then O (.sl b o n c ex q,s) else bif ui (n+k) c&&uh q u.size then match s.cells b with
   |some (e',cs)=>bif uh e' e&&ui (o+n*u.size) cs.length then O (.sl b o (n+k) c ex q,⟨s.h.set b (O (.cells e (Qg cs (o+n*u.size)++l++Qi cs (o+n*u.size+l.length)))),s.nx⟩) else X
   |none=>X
   else bif ex&&um c (n+k)&&uh q u.size&&ui ((n+k)*u.bytes) 140737488355328&&ui (n+k) 1000000 then match s.load b o (n*u.size) with
    |some old=>O (.sl s.nx 0 (n+k) (n+k) G u.size,s.new (.cells e (old++l)))
    |none=>X
   else bif uh o 0&&uh q u.size&&ui ((n+k)*u.bytes) 140737488355328&&ui (n+k) 1000000 then match s.cells b with
   |some (e',_)=>bif uh e' e then match s.load b 0 (n*u.size) with
    |some old=>O (.sl s.nx 0 (n+k) (n+k) G u.size,(bif ex&&um c (n+k) then s else ⟨s.h.set b X,s.nx⟩:St).new (.cells e (old++l)))
    |none=>X
    else X
   |none=>X
   else X
  |_=>X
def Pp (h:Option AV) (n:Nat):Option Nat:=match h with
 |some h=>oT h
 |none=>O n
def Pz (E:CF) (s:St) (u:TI) (x:AV) (l h:Option AV):Option AV:=match Pp l 0 with
 |none=>X
 |some l=>match u.k,x with
  | .slice e,.sl b o n c ex q=>match Pp h n with
   |some h=>match I0 E e with
    |some z=>bif ui l h&&(ui h n||ui h c)&&uh z q then O (.sl b (o+l*z) (h-l) (c-l) ex z) else X
    |none=>X
   |none=>X
  | .slice e,.ns=>match Pp h 0 with
   |some h=>match I0 E e with
    |some _=>bif ui l h&&ui h 0 then O .ns else X
    |none=>X
   |none=>X
  | .string,.s x=>match Pp h x.length with
   |some h=>bif ui l h&&ui h x.length then O (.s (Qg (Qi x l) (h-l))) else X
   |none=>X
  |_,_=>X
def PS (E:CF) (s:St) (u:TI) (x:AV) (l:Option AV) (h m:AV):Option AV:=match Pp l 0 with
 |none=>X
 |some l=>match oT m with
  |none=>X
  |some m=>match u.k,x with
   | .slice e,.sl b o n c ex q=>match oT h with
    |some h=>match I0 E e with
     |some z=>bif ui l h&&ui h m&&ui m n&&uh z q then O (.sl b (o+l*z) (h-l) (m-l) B z) else X
     |none=>X
    |none=>X
   |_,_=>X
mutual
def NL:AV->AV->Bool
 | .b x,.b y=>x==y
 | .i k x,.i k' y=>T (k=k')&&bJ x y
 | .s l,.s m=>Hg l m
 | .np,.np=>B
 | .p b o,.p b' o'=>uh b b'&&uh o o'
 | .ns,.ns=>B
 | .sl b o l c e z,.sl b' o' l' c' e' z'=>uh b b'&&uh o o'&&uh l l'&&uh c c'&&e==e'&&uh z z'
 | .nm,.nm=>B
 | .m b,.m b'=>uh b b'
 | .nf,.nf=>B
 | .fn f l m,.fn f' l' m'=>uh f f'&&R6 l l'&&R6 m m'
 | .y b,.y b'=>uh b b'
 | .ni,.ni=>B
 | .agg l,.agg m=>R6 l m
 | .tup l,.tup m=>R6 l m
 |_,_=>G
def R6:List AV->List AV->Bool
 |[],[]=>B
 |x::l,y::m=>NL x y&&R6 l m
 |_,_=>G
end
theorem kU {l m:List Nat} (h:Hg l m=B):l=m:=by rw[Ik] at h;exact o_ h
theorem pN {a b:Int} (h:bJ a b=B):a=b:=by rw[J0] at h;exact o_ h
mutual
theorem Jg:∀{x y:AV},NL x y=B->x=y
 | .b x,y,h=>by
  cases y<;>simp only[NL] at h<;>try (cases h;done)
  rw[eq_of_beq h]
 | .i k x,y,h=>by
  cases y<;>simp only[NL] at h<;>try (cases h;done)
  rw[uj] at h
  rw[o_ h.1,pN h.2]
 | .s l,y,h=>by
  cases y<;>simp only[NL] at h<;>try (cases h;done)
  rw[kU h]
 | .np,y,h=>by cases y<;>simp only[NL] at h<;>first|rfl|cases h
 | .p b o,y,h=>by
  cases y<;>simp only[NL] at h<;>try (cases h;done)
  rw[uj] at h
  rw[B0 h.1,B0 h.2]
 | .ns,y,h=>by cases y<;>simp only[NL] at h<;>first|rfl|cases h
 | .sl b o l c e z,y,h=>by
  cases y<;>simp only[NL] at h<;>try (cases h;done)
  simp only[uj] at h
  rw[B0 h.1.1.1.1.1,B0 h.1.1.1.1.2,B0 h.1.1.1.2,B0 h.1.1.2,eq_of_beq h.1.2,B0 h.2]
 | .nm,y,h=>by cases y<;>simp only[NL] at h<;>first|rfl|cases h
 | .m b,y,h=>by
  cases y<;>simp only[NL] at h<;>try (cases h;done)
  rw[B0 h]
 | .nf,y,h=>by cases y<;>simp only[NL] at h<;>first|rfl|cases h
 | .fn f l m,y,h=>by
  cases y<;>simp only[NL] at h<;>try (cases h;done)
  simp only[uj] at h
  rw[B0 h.1.1,Ih h.1.2,Ih h.2]
 | .y b,y,h=>by
  cases y<;>simp only[NL] at h<;>try (cases h;done)
  rw[B0 h]
 | .ni,y,h=>by cases y<;>simp only[NL] at h<;>first|rfl|cases h
 | .agg l,y,h=>by
  cases y<;>simp only[NL] at h<;>try (cases h;done)
  rw[Ih h]
 | .tup l,y,h=>by
  cases y<;>simp only[NL] at h<;>try (cases h;done)
  rw[Ih h]
theorem Ih:∀{l m:List AV},R6 l m=B->l=m
 |[],m,h=>by cases m<;>simp only[R6] at h<;>first|rfl|cases h
 |x::l,m,h=>by
  cases m<;>simp only[R6] at h<;>try (cases h;done)
  rw[uj] at h
  rw[Jg h.1,Ih h.2]
end
def FB {α:Type}:List (Nat×α)->AJ α
 |[]=> .leaf
 |e::l=>(FB l).set e.1 (O e.2)
theorem Lz {α:Type}:∀{l:List (Nat×α)} {k:Nat} {x:α},(FB l).get k=O x->(k,x)∈l
 |[],k,x,h=>by simp only[FB,AJ.get_leaf] at h;cases h
 |e::l,k,x,h=>by
  simp only[FB] at h
  rw[AJ.get_set] at h
  by_cases e1:k=e.1
  .rw[p_ e1] at h
   cases h
   rw[e1]
   exact .head _
  .rw[n_ e1] at h
   exact .tail _ (Lz h)
def kK:List (AV×AV)->List (AV×AV)->Bool
 |[],[]=>B
 |e::l,f::m=>NL e.1 f.1&&NL e.2 f.2&&kK l m
 |_,_=>G
theorem YY:∀{l m:List (AV×AV)},kK l m=B->l=m
 |[],[],_=>rfl
 |[],_::_,h=>by cases h
 |_::_,[],h=>by cases h
 |e::l,f::m,h=>by
  simp only[kK,uj] at h
  rw[YY h.2,show e=f from Prod.ext (Jg h.1.1) (Jg h.1.2)]
def Yg:Fk->Fk->Bool
 | .cells e l,.cells f m=>uh e f&&R6 l m
 | .ro e l,.ro f m=>uh e f&&R6 l m
 | .map l,.map m=>kK l m
 |_,_=>G
theorem eL {x y:Fk} (h:Yg x y=B):x=y:=by
 cases x<;>cases y<;>simp only[Yg,xL] at h
 .rw[uj] at h;rw[B0 h.1,Ih h.2]
 .rw[YY h]
 .rw[uj] at h;rw[B0 h.1,Ih h.2]
def kZ (t:AJ Fk):List (Nat×Fk)->Bool
 |[]=>B
 |e::l=>match t.get e.1 with
  |some y=>bif Yg y e.2 then kZ t l else G
  |none=>G
theorem Yx {t:AJ Fk}:∀{l:List (Nat×Fk)},kZ t l=B->∀e∈l,t.get e.1=O e.2
 |[],_,e,he=>by cases he
 |e'::l,h,e,he=>by
  simp only[kZ] at h
  split at h<;>try (cases h;done)
  rename_i y hy
  cases hb:Yg y e'.2 with
  |false=>rw[hb] at h;cases h
  |true=>
   rw[hb,cond_true] at h
   rcases vD.1 he with rfl|he
   .rw[hy,eL hb]
   .exact Yx h e he
end
section
variable {b sz:Nat} {es:List (AV×AV)} {r:Option AV} {w':World} {x:AV}
noncomputable section
def BP (l:List Nat):ByteArray:=⟨(l.map UInt8.ofNat).toArray⟩
mutual
def VR (R:Nat->Nat×Nat) (n:Nat):AV->V_->Prop
 | .b x,v=>v= .bool x
 | .i k x,v=>v= .int k x
 | .s l,v=>v= .string (BP l)/\∀c∈l,c<256
 | .np,v=>v= .pointer X
 | .p b o,v=>b<n/\v= .pointer (O ⟨(R b).1,o,X⟩)
 | .ns,v=>v= .slice X 0 0
 | .sl b o l c e z,v=>b<n/\∃o' c',v= .slice (O ⟨(R b).1,o',X⟩) l c'/\(c'=0\/o'=o)/\(e=B->c'=c)/\c<=c'/\l<=c'/\c'<=maxLen/\o'+c'*z<=(R b).2
 | .nm,v=>v= .map X
 | .m b,v=>b<n/\v= .map (O (R b).1)
 | .nf,v=>v= .nilFunc
 | .fn f fst nr,v=>∃us vs,BM R n fst us/\BM R n nr vs/\v= .func (.func f) us.toArray vs.toArray
 | .y b,v=>b<n/\v= .func (.yield (R b).1) #[] #[]
 | .ni,v=>v= .nilIface
 | .agg l,v=>∃vs,BM R n l vs/\v= .agg vs.toArray
 | .tup l,v=>∃vs,BM R n l vs/\v= .tuple vs.toArray
def BM (R:Nat->Nat×Nat) (n:Nat):List AV->List V_->Prop
 |[],vs=>vs=[]
 |x::l,vs=>∃u us,vs=u::us/\VR R n x u/\BM R n l us
end
section
variable {R R':Nat->Nat×Nat} {n n':Nat}
theorem BM.length:∀{l:List AV} {vs:List V_},BM R n l vs->vs.length=l.length
 |[],vs,h=>by simp only[BM] at h;subst h;rfl
 |x::l,vs,h=>by
  simp only[BM] at h
  obtain⟨u,us,rfl,_,h2⟩:=h
  simp[BM.length h2]
theorem BM.get:∀{l:List AV} {vs:List V_} (h:BM R n l vs) {j:Nat} {x:AV},l[j]?=O x->∃u,vs[j]?=O u/\VR R n x u
 |[],vs,h,j,x,hx=>by simp at hx
 |y::l,vs,h,j,x,hx=>by
  simp only[BM] at h
  obtain⟨u,us,rfl,h1,h2⟩:=h
  cases j with
  |zero=>simp at hx;subst hx;exact⟨u,Z,h1⟩
  |succ j=>simpa using BM.get h2 (by simpa using hx)
theorem BM.of:∀{l:List AV} {vs:List V_},vs.length=l.length->(∀(j:Nat) (x:AV),l[j]?=O x->∃u,vs[j]?=O u/\VR R n x u)->BM R n l vs
 |[],vs,hl,h=>by simp only[BM];exact vH Mx
 |x::l,[],hl,h=>by simp at hl
 |x::l,v::vs,hl,h=>by
  simp only[BM]
  obtain⟨u,hu,h1⟩:=h 0 x Z
  simp at hu
  subst hu
  exact⟨v,vs,Z,h1,BM.of Mx λj y hy=>by simpa using h (j+1) y (by simpa using hy)⟩
theorem BM.append {l m:List AV} {us vs:List V_} (h:BM R n l us) (h':BM R n m vs):BM R n (l++m) (us++vs):=by
 induction l generalizing us with
 |nil=>simp only[BM] at h;subst h;exact h'
 |cons x l ih=>simp only[BM] at h;obtain⟨u,aa,rfl,h1,h2⟩:=h;simp only[wD,BM];exact⟨u,aa++vs,Z,h1,ih h2⟩
theorem BM.take:∀{l:List AV} {vs:List V_} (h:BM R n l vs) (k:Nat),BM R n (l.take k) (vs.take k)
 |[],vs,h,k=>by simp only[BM] at h;subst h;simp[BM]
 |x::l,vs,h,0=>by simp[BM]
 |x::l,vs,h,k+1=>by
  simp only[BM] at h
  obtain⟨u,us,rfl,h1,h2⟩:=h
  simp only[List.take_succ_cons,BM]
  exact⟨u,_,Z,h1,BM.take h2 k⟩
theorem BM.drop:∀{l:List AV} {vs:List V_} (h:BM R n l vs) (k:Nat),BM R n (l.drop k) (vs.drop k)
 |[],vs,h,k=>by simp only[BM] at h;subst h;simp[BM]
 |x::l,vs,h,0=>h
 |x::l,vs,h,k+1=>by
  simp only[BM] at h
  obtain⟨u,us,rfl,h1,h2⟩:=h
  simp only[List.drop_succ_cons]
  exact BM.drop h2 k
mutual
theorem VR.mono:∀{x:AV} {v:V_},VR R n x v->n<=n'->(∀b,b<n->R' b=R b)->VR R' n' x v
 | .b _,_,h,_,_=>by simp only[VR] at h⊢;exact h
 | .i _ _,_,h,_,_=>by simp only[VR] at h⊢;exact h
 | .s _,_,h,_,_=>by simp only[VR] at h⊢;exact h
 | .np,_,h,_,_=>by simp only[VR] at h⊢;exact h
 | .p b o,_,h,hn,hR=>by simp only[VR] at h⊢;rw[hR b h.1];exact⟨vN h.1 hn,h.2⟩
 | .ns,_,h,_,_=>by simp only[VR] at h⊢;exact h
 | .sl b o l c e z,_,h,hn,hR=>by simp only[VR] at h⊢;rw[hR b h.1];exact⟨vN h.1 hn,h.2⟩
 | .nm,_,h,_,_=>by simp only[VR] at h⊢;exact h
 | .m b,_,h,hn,hR=>by simp only[VR] at h⊢;rw[hR b h.1];exact⟨vN h.1 hn,h.2⟩
 | .nf,_,h,_,_=>by simp only[VR] at h⊢;exact h
 | .fn f fst nr,_,h,hn,hR=>by
  simp only[VR] at h⊢
  obtain⟨us,vs,h1,h2,h3⟩:=h
  exact⟨us,vs,BM.mono h1 hn hR,BM.mono h2 hn hR,h3⟩
 | .y b,_,h,hn,hR=>by simp only[VR] at h⊢;rw[hR b h.1];exact⟨vN h.1 hn,h.2⟩
 | .ni,_,h,_,_=>by simp only[VR] at h⊢;exact h
 | .agg l,_,h,hn,hR=>by
  simp only[VR] at h⊢
  obtain⟨vs,h1,h2⟩:=h
  exact⟨vs,BM.mono h1 hn hR,h2⟩
 | .tup l,_,h,hn,hR=>by
  simp only[VR] at h⊢
  obtain⟨vs,h1,h2⟩:=h
  exact⟨vs,BM.mono h1 hn hR,h2⟩
theorem BM.mono:∀{l:List AV} {vs:List V_},BM R n l vs->n<=n'->(∀b,b<n->R' b=R b)->BM R' n' l vs
 |[],_,h,_,_=>by simp only[BM] at h⊢;exact h
 |x::l,_,h,hn,hR=>by
  simp only[BM] at h⊢
  obtain⟨u,us,h1,h2,h3⟩:=h
  exact⟨u,us,h1,VR.mono h2 hn hR,BM.mono h3 hn hR⟩
end
theorem VR.one {v:V_} (h:VR R n x v) (h1:Hu x=B):v.oneCell'=true:=by cases x<;>simp only[VR] at h;(case agg=>cases h1);(case tup=>cases h1);(case b=>subst h;rfl);(case i=>subst h;rfl);(case s=>rw[h.1];rfl);(case np=>subst h;rfl);(case p=>rw[h.2];rfl);(case ns=>subst h;rfl);(case sl=>obtain⟨_,o',c',rfl,_⟩:=h;rfl);(case nm=>subst h;rfl);(case m=>rw[h.2];rfl);(case nf=>subst h;rfl);(case fn=>obtain⟨us,vs,_,_,rfl⟩:=h;rfl);(case y=>rw[h.2];rfl);case ni=>subst h;rfl
theorem VR.cells {v:V_} (h:VR R n x v):BM R n (AL x) v.cells.toList:=by cases x;(case agg l=>simp only[VR] at h;obtain⟨vs,h1,rfl⟩:=h;simpa[AL,wL] using h1);(case tup l=>have h':=h;simp only[VR] at h;obtain⟨vs,h1,rfl⟩:=h;simp only[AL,wL,BM];exact⟨_,[],Z,h',Z⟩);all_goals (have h1:=VR.one h Z;have e:v.cells.toList=[v]:=(by cases v<;>first|rfl|cases h1);rw[e];simp only[AL,BM];exact⟨v,[],Z,h,Z⟩)
def F8 (es:List (AV×AV)):Prop:=(es.map ul).Pairwise λa b=>Di a b=O G
theorem Mz (x y:AV):Di x y=Di y x:=by
 cases x<;>cases y<;>try rfl
 .rename_i a b;cases a<;>cases b<;>rfl
 .rename_i k a k' b;show(bif T (k=k') then O (bJ a b) else X)=bif T (k'=k) then O (bJ b a) else X;rw[J0,J0];by_cases e:k=k'
  .subst e;exact jy
  .rw[f_ e,f_ (Ne.symm e)];rfl
 .rename_i a b;show O (Hg a b)=O (Hg b a);rw[Ik,Ik];exact jy
theorem SA {y:AV} (h:Di x y=O B):x=y:=by
 cases x<;>cases y<;>try (cases h;done)
 .rename_i a b;cases a<;>cases b<;>first|rfl|cases h
 .rename_i k a k' b;replace h:(bif T (k=k') then O (bJ a b) else X)=O true:=h;by_cases e:k=k'
  .rw[t_ e,cond_true,J0] at h;rw[e,o_ (Option.some.inj h)]
  .exact UR
 .rename_i a b;replace h:O (Hg a b)=O true:=h;rw[Ik] at h;rw[o_ (Option.some.inj h)]
theorem VN {x:AV}:∀{es:List (AV×AV)},(∀e∈es,Di x e.1=O G)->Hc x es=O X
 |[],_=>rfl
 |e::l,h=>by
  unfold Hc
  rw[h e (.head _)]
  exact VN λe' he=>h e' (.tail _ he)
theorem VQ {x:AV} {e:AV×AV} {l2:List (AV×AV)} (he:Di x e.1=O B):∀{l1:List (AV×AV)},(∀e'∈l1,Di x e'.1=O G)->Hc x (l1++e::l2)=O (O e.2)
 |[],_=>by simp only[vZ,Hc,he]
 |e'::l,h=>by
  simp only[wD,Hc,h e' (.head _)]
  exact VQ he λe'' h'=>h e'' (.tail _ h')
theorem Na {x:AV}:∀{es:List (AV×AV)} {r:Option AV},Hc x es=O r->(r=X/\∀e∈es,Di x e.1=O G)\/∃l1 e l2,es=l1++e::l2/\r=O e.2/\Di x e.1=O B/\∀e'∈l1,Di x e'.1=O G
 |[],r,h=>by cases h;exact .inl ⟨Z,λe he=>by cases he⟩
 |e::l,r,h=>by
  unfold Hc at h
  cases he:Di x e.1 with
  |none=>rw[he] at h;cases h
  |some q=>
   rw[he] at h
   cases q with
   |true=>cases h;exact .inr ⟨[],e,l,Z,Z,he,λe' h'=>by cases h'⟩
   |false=>
    rcases Na h with ⟨h1,h2⟩|⟨l1,e1,l2,h1,h2,h3,h4⟩
    .exact .inl ⟨h1,λe' h'=>by rcases vD.1 h' with rfl|h';exact he;exact h2 e' h'⟩
    .exact .inr ⟨e::l1,e1,l2,by rw[h1];rfl,h2,h3,λe' h'=>by rcases vD.1 h' with rfl|h';exact he;exact h4 e' h'⟩
theorem F8.perm {es es':List (AV×AV)} (h:F8 es) (hp:es'.Perm es):F8 es':=
 ((hp.map ul).pairwise_iff fun {a b} hab=>by rw[Mz];exact hab).2 h
theorem F8.split {l1 l2:List (AV×AV)} {e:AV×AV} (h:F8 (l1++e::l2)):∀e'∈l1,Di e.1 e'.1=O false:=λe' he=>by
 unfold F8 at h
 rw[wM,xM] at h
 rw[Mz]
 exact h.2.2 e'.1 (List.mem_map_of_mem he) e.1 (by simp)
theorem XF {es':List (AV×AV)} (hp:es'.Perm es) (hd:F8 es) (h:Hc x es=O r):Hc x es'=O r:=by
 rcases Na h with ⟨rfl,h2⟩|⟨l1,e,l2,h1,rfl,h3,_⟩
 .exact VN λe he=>h2 e (hp.mem_iff.1 he)
 .have hm:e∈es':=hp.mem_iff.2 (by rw[h1];simp);obtain⟨m1,m2,rfl⟩:=xN hm;(refine VQ h3 λe' he=>?_);rw[SA h3];exact(hd.perm hp).split e' he
theorem Tt {k v:AV}:∀{es:List (AV×AV)},(∀e∈es,Di k e.1=O G)->JG k v es=O (es++[(k,v)])
 |[],_=>rfl
 |e::l,h=>by
  unfold JG
  rw[h e (.head _)]
  simp only[Tt λe' he=>h e' (.tail _ he)]
  rfl
theorem Z5 {k v:AV} {e:AV×AV} {l2:List (AV×AV)} (he:Di k e.1=O B):∀{l1:List (AV×AV)},(∀e'∈l1,Di k e'.1=O G)->JG k v (l1++e::l2)=O (l1++(k,v)::l2)
 |[],_=>by simp only[vZ,JG,he]
 |e'::l,h=>by
  simp only[wD,JG,h e' (.head _),Z5 he λe'' h'=>h e'' (.tail _ h')]
  rfl
theorem Uy {k v:AV}:∀{es u:List (AV×AV)},JG k v es=O u->(u=es++[(k,v)]/\∀e∈es,Di k e.1=O G)\/∃l1 e l2,es=l1++e::l2/\u=l1++(k,v)::l2/\Di k e.1=O B/\∀e'∈l1,Di k e'.1=O G
 |[],u,h=>by cases h;exact .inl ⟨Z,λe he=>by cases he⟩
 |e::l,u,h=>by
  unfold JG at h
  cases he:Di k e.1 with
  |none=>rw[he] at h;cases h
  |some q=>
   rw[he] at h
   cases q with
   |true=>cases h;exact .inr ⟨[],e,l,Z,Z,he,λe' h'=>by cases h'⟩
   |false=>
    simp only at h
    cases hu:JG k v l with
    |none=>rw[hu] at h;cases h
    |some u'=>
     rw[hu] at h
     cases h
     rcases Uy hu with ⟨h1,h2⟩|⟨l1,e1,l2,h1,h2,h3,h4⟩
     .exact .inl ⟨by rw[h1];rfl,λe' h'=>by rcases vD.1 h' with rfl|h';exact he;exact h2 e' h'⟩
     .exact .inr ⟨e::l1,e1,l2,by rw[h1];rfl,by rw[h2];rfl,h3,λe' h'=>by rcases vD.1 h' with rfl|h';exact he;exact h4 e' h'⟩
theorem F8.snoc (h:F8 es) {k v:AV} (hk:∀e∈es,Di k e.1=O G):F8 (es++[(k,v)]):=by unfold F8;rw[wM,xM];refine⟨h,by simp,λa ha b hb=>?_⟩;simp only[uv,vv,xO] at hb;subst hb;obtain⟨e,he,rfl⟩:=vL.1 ha;rw[Mz];exact hk e he
theorem aI {k v:AV} {es' u:List (AV×AV)} (hp:es'.Perm es) (hd:F8 es) (h:JG k v es=O u):F8 u/\∃u',JG k v es'=O u'/\u'.Perm u:=by
 rcases Uy h with ⟨rfl,h2⟩|⟨l1,e,l2,rfl,rfl,h3,_⟩
 .exact⟨hd.snoc h2,_,Tt λe he=>h2 e (hp.mem_iff.1 he),hp.append_right _⟩
 .have e1:=SA h3;refine⟨?_,?_⟩
  .unfold F8 at hd⊢;simpa[e1] using hd
  .have hm:e∈es':=hp.mem_iff.2 (by simp);obtain⟨m1,m2,rfl⟩:=xN hm;refine⟨_,Z5 h3 λe' he=>?_,?_⟩
   .rw[e1];exact(hd.perm hp).split e' he
   .have:(m1++m2).Perm (l1++l2):=(List.perm_cons e).1 ((List.perm_middle.symm.trans hp).trans xC);exact(List.perm_middle.trans (this.cons (k,v))).trans List.perm_middle.symm
def BR (R:Nat->Nat×Nat) (n sz:Nat):Fk->Obj->Prop
 | .cells e cs,o=>∃arr:Array V_,o= .cells arr e (0,0)/\arr.size=sz/\cs.length<=sz/\BM R n cs (arr.toList.take cs.length)/\∀c∈cs,Hu c=B
 | .ro e cs,o=>∃(arr:Array V_) (f:Nat×Nat),o= .cells arr e f/\arr.size=sz/\cs.length<=sz/\BM R n cs (arr.toList.take cs.length)/\∀c∈cs,Hu c=B
 | .map es,o=>∃(lL:Array MapEntry) (cl:Nat) (es1:List (AV×AV)),o= .map lL cl/\es1.Perm es/\F8 es/\BM R n (es1.map ul) (lL.toList.map (·.key))/\BM R n (es1.map uq) (lL.toList.map (·.val))
 | .loop tm nt ps asg body pend,o=>∃r:Loop,o= .loop r/\r.state=(match pend with|none=>LoopState.ready|some _=>LoopState.done)/\r.pending=pend/\r.params=ps.toArray/\r.assign=asg/\r.body=body/\r.tmps.size=nt/\∀t x,tm.get t=O x->∃v,r.tmps[t]?=O v/\VR R n x v
theorem BR.mono {x:Fk} {o:Obj} (h:BR R n sz x o) (hn:n<=n') (hR:∀b,b<n->R' b=R b):BR R' n' sz x o:=by
 cases x with
 |cells e cs=>obtain⟨arr,h1,h2,h3,h4,h5⟩:=h;exact⟨arr,h1,h2,h3,h4.mono hn hR,h5⟩
 |ro e cs=>obtain⟨arr,f,h1,h2,h3,h4,h5⟩:=h;exact⟨arr,f,h1,h2,h3,h4.mono hn hR,h5⟩
 |map es=>obtain⟨lL,cl,es1,h1,hp,hd,h2,h3⟩:=h;exact⟨lL,cl,es1,h1,hp,hd,h2.mono hn hR,h3.mono hn hR⟩
 |loop=>obtain⟨r,h1,h2,h3,h4,h5,h6,h7,h8⟩:=h;refine⟨r,h1,h2,h3,h4,h5,h6,h7,λt x hx=>?_⟩;obtain⟨v,g1,g2⟩:=h8 t x hx;exact⟨v,g1,g2.mono hn hR⟩
end
structure HR (F:Nat->Option Obj) (R:Nat->Nat×Nat) (s:St) (w0 w:W_):Prop where
 os:w.os=w0.os
 tape:w.tape=w0.tape
 output:w.output=w0.output
 fr:∀k o,F k=O o->w.heap[k]?=O o
 lt:∀b,s.h.get b≠X->b<s.nx
 own:∀b x,s.h.get b=O x->F (R b).1=X/\∃o,w.heap[(R b).1]?=O o/\BR R s.nx (R b).2 x o
 inj:∀b c,s.h.get b≠X->s.h.get c≠X->(R b).1=(R c).1->b=c
def E4 (n:Nat) (R R':Nat->Nat×Nat):Prop:=∀b,b<n->R' b=R b
section
variable {F:Nat->Option Obj} {R:Nat->Nat×Nat} {s:St} {w0 w:W_}
theorem HR.drew (h:HR F R s w0 w):HR F R s w0 w.drew:=⟨h.os,h.tape,h.output,h.fr,h.lt,h.own,h.inj⟩
theorem HR.lt_size (h:HR F R s w0 w) (hb:s.h.get b≠X):(R b).1<w.heap.size:=by
 cases hx:s.h.get b with
 |none=>exact a_ hx hb
 |some x=>obtain⟨_,o,h1,_⟩:=h.own b x hx;exact Af h1
theorem HR.new (h:HR F R s w0 w) (x:Fk) (o:Obj) (sz:Nat) (hb:BR (λb=>if b=s.nx then (w.heap.size,sz) else R b) (s.nx+1) sz x o):HR F (λb=>if b=s.nx then (w.heap.size,sz) else R b) (s.new x) w0 (w.alloc o)/\E4 s.nx R (λb=>if b=s.nx then (w.heap.size,sz) else R b):=by
 (have hE:E4 s.nx R (λb=>if b=s.nx then (w.heap.size,sz) else R b):=λb hb=>n_ A0);(have hg:∀b,(s.new x).h.get b=if b=s.nx then O x else s.h.get b:=λb=>AJ.get_set _ _ _ _);(have hF:∀k o',F k=O o'->k<w.heap.size:=λk o' hk=>Af (h.fr k o' hk));refine⟨⟨h.os,h.tape,h.output,λk o' hk=>?_,λb hb'=>?_,λb y hy=>?_,λb c hb' aa e=>?_⟩,hE⟩
 .rw[World.heap_alloc_lt' w o k (hF k o' hk)];exact h.fr k o' hk
 .exact iN
 .rw[hg] at hy;by_cases e:b=s.nx
  .subst e;rw[p_ Z] at hy;cases hy;simp only[if_true];refine⟨?_,o,?_,hb⟩
   .cases hk:F w.heap.size with
    |none=>rfl
    |some o'=>have:=hF _ _ hk;omega
   .exact heap_alloc_new w o
  .rw[n_ e] at hy;simp only[n_ e];obtain⟨h1,o',h2,h3⟩:=h.own b y hy;refine⟨h1,o',?_,?_⟩
   .rw[World.heap_alloc_lt' w o _ (Af h2)];exact h2
   .exact BR.mono h3 (vB _) hE
 .rw[hg] at hb' aa;by_cases eb:b=s.nx
  .by_cases ec:c=s.nx
   .rw[eb,ec]
   .rw[n_ ec] at aa;simp only[p_ eb,n_ ec] at e;have:=h.lt_size aa;omega
  .rw[n_ eb] at hb';by_cases ec:c=s.nx
   .simp only[n_ eb,p_ ec] at e;have:=h.lt_size hb';omega
   .rw[n_ ec] at aa;simp only[n_ eb,n_ ec] at e;exact h.inj b c hb' aa e
theorem HR.put (h:HR F R s w0 w) (hb:s.h.get b≠X) (x:Fk) (o:Obj) (hx:BR R s.nx (R b).2 x o) (ho:w'.os=w.os) (ht:w'.tape=w.tape) (hp:w'.output=w.output) (hw:w'.heap[(R b).1]?=O o) (aa:∀k,k≠(R b).1->w'.heap[k]?=w.heap[k]?):HR F R ⟨s.h.set b (O x),s.nx⟩ w0 w':=by
 have hg:∀c,(s.h.set b (O x)).get c=if c=b then O x else s.h.get c:=λc=>AJ.get_set _ _ _ _
 have hF:F (R b).1=none:=by
  cases hx:s.h.get b with
  |none=>exact a_ hx hb
  |some y=>exact(h.own b y hx).1
 refine⟨ho.trans h.os,ht.trans h.tape,hp.trans h.output,λk o' hk=>?_,λc hc=>?_,λc y hy=>?_,λc d hc hd e=>?_⟩
 .rw[aa k (λe=>by rw[e,hF] at hk;cases hk)];exact h.fr k o' hk
 .simp only[hg] at hc;by_cases e:c=b
  .subst e;exact h.lt c hb
  .rw[n_ e] at hc;exact h.lt c hc
 .simp only[hg] at hy;by_cases e:c=b
  .subst e;rw[p_ Z] at hy;cases hy;exact⟨hF,o,hw,hx⟩
  .rw[n_ e] at hy;obtain⟨h1,o',h2,h3⟩:=h.own c y hy;refine⟨h1,o',?_,h3⟩;rw[aa _ (λe2=>e (h.inj c b (by rw[hy];simp) hb e2))];exact h2
 .simp only[hg] at hc hd
  have ae:s.h.get c≠none:=by
   by_cases e:c=b
   .rw[e];exact hb
   .rw[n_ e] at hc;exact hc
  have ad:s.h.get d≠none:=by
   by_cases e:d=b
   .rw[e];exact hb
   .rw[n_ e] at hd;exact hd
  exact h.inj c d ae ad e
theorem HR.forget (h:HR F R s w0 w) (b:Nat):HR F R ⟨s.h.set b X,s.nx⟩ w0 w:=by
 have hg:∀c,(s.h.set b X).get c=if c=b then X else s.h.get c:=λc=>AJ.get_set _ _ _ _
 have hs:∀c,(s.h.set b X).get c≠X->s.h.get c≠X/\c≠b:=λc hc=>by
  rw[hg] at hc;by_cases e:c=b
  .rw[p_ e] at hc;exact a_ Z hc
  .rw[n_ e] at hc;exact⟨hc,e⟩
 refine⟨h.os,h.tape,h.output,h.fr,λc hc=>h.lt c (hs c hc).1,λc y hy=>?_,λc d hc hd e=>h.inj c d (hs c hc).1 (hs d hd).1 e⟩;have h1:=hs c (by rw[show(s.h.set b X).get c=O y from hy];simp);have:s.h.get c=O y:=(by have h2:=hy;simp only[hg,n_ h1.2] at h2;exact h2);exact h.own c y this
end
end
end
section
variable {b:Nat} {e t:TypeId} {u:TI} {x:AV}
noncomputable section
def Us:TK->TypeDesc->Prop
 | .str fs,d=>∃fields:Array Field,d= .struct fields/\∀i:Nat,fs[i]?=(fields[i]?).map λf=>(f.offset,f.type)
 | .arr n e,d=>d= .array n e
 | .int k,d=>d= .int k
 | .slice e,d=>d= .slice e
 | .map k e,d=>d= .map k e
 | .string,d=>d= .string
 | .bool,d=>d= .bool
 | .ptr e,d=>d= .pointer e
 | .func,d=>∃ps rs v,d= .func ps rs v
 | .other,d=>(∀fs,d≠ .struct fs)/\(∀n e,d≠ .array n e)/\∀k,d≠ .int k
def X7 (P:P_) (t:T_) (ks:List TK):Prop:=P.eqGuardType P.depth t=G/\
 ∀(R R':Nat->Nat×Nat) (n n':Nat) (l m:List AV) (xs ys:List V_) (r:Bool) (w:W_),BM R n l xs->BM R' n' m ys->Qk ks l m=O r->(vh t (.agg xs.toArray) (.agg ys.toArray)).run P w= .ok r w
structure rD (P:P_) (t:T_) (u:TI):Prop where
 eq:∀ks,u.eq=O ks->X7 P t ks
 desc:∃d,P.underlying t=O d/\Us u.k d
 info:∃i,P.info? t=O i/\i.size=u.size/\i.bytes=u.bytes/\∀z,u.z=O z->∃v,i.zero=O v/\∀R n,VR R n z v
def Oo (P:P_) (f:FuncId) (x:AV):Prop:=(∀args w,(callFunc f args).run P w= .ok (.enter f args) w)/\
 ∀(fr:Nat->Option Obj) (R:Nat->Nat×Nat) (s:St) (w0 w:W_),HR fr R s w0 w->K_ P f #[] w λe w'=>∃v,e= .returned v/\HR fr R s w0 w'/\∀R' n',VR R' n' x v
structure Ap (P:P_) (E:CF):Prop where
 tt:∀t u,E.tt.get t=O u->rD P t u
 ft:∀f fn,E.ft.get f=O fn->P.funcs[f]?=O fn/\(fn.name== "runtime.NumGoroutine")=G
section
variable {P:P_} {E:CF} {F:Nat->Option Obj} {R:Nat->Nat×Nat} {s:St} {w0 w:W_}
theorem Addr.add_eq (b o j:Nat):(⟨b,o,X⟩:Addr).add j=⟨b,o+j,X⟩:=by unfold Addr.add;split<;>simp_all
theorem HR.at (h:HR F R s w0 w) {cs:List AV} (hc:s.cells b=O (e,cs)):s.h.get b=O (.cells e cs)/\∃arr:Array V_,w.heap[(R b).1]?=O (.cells arr e (0,0))/\arr.size=(R b).2/\cs.length<=arr.size/\BM R s.nx cs (arr.toList.take cs.length)/\∀c∈cs,Hu c=true:=by
 unfold St.cells at hc;split at hc
 .rename_i e' aa hg;cases hc;refine⟨hg,?_⟩;obtain⟨_,o,h1,arr,rfl,h3,h4,h5,h6⟩:=h.own b _ hg;exact⟨arr,h1,h3,by omega,h5,h6⟩
 .cases hc
theorem HR.atR (h:HR F R s w0 w) {cs:List AV} (hc:s.cellsR b=O (e,cs)):s.h.get b≠X/\∃(arr:Array V_) (f:Nat×Nat),w.heap[(R b).1]?=O (.cells arr e f)/\arr.size=(R b).2/\cs.length<=arr.size/\BM R s.nx cs (arr.toList.take cs.length)/\∀c∈cs,Hu c=true:=by
 unfold St.cellsR at hc;split at hc
 .rename_i e' aa hg;cases hc;refine⟨by rw[hg];simp,?_⟩;obtain⟨_,o,h1,arr,rfl,h3,h4,h5,h6⟩:=h.own b _ hg;exact⟨arr,_,h1,h3,by omega,h5,h6⟩
 .rename_i e' aa hg;cases hc;refine⟨by rw[hg];simp,?_⟩;obtain⟨_,o,h1,arr,f,rfl,h3,h4,h5,h6⟩:=h.own b _ hg;exact⟨arr,f,h1,h3,by omega,h5,h6⟩
 .cases hc
theorem HR.load (h:HR F R s w0 w) {o:Nat} {l:List AV} (hl:s.load b o n=O l):l.length=n/\b<s.nx/\(∀c∈l,Hu c=B)/\∃vs,BM R s.nx l vs/\∀j v,vs[j]?=O v->w.cell? ⟨(R b).1,o+j,X⟩=O v:=by
 unfold St.load at hl;split at hl
 .rename_i e cs hc;obtain⟨hg,arr,f,h1,h2,h3,h4,h5⟩:=h.atR hc
  cases hb:ui (o+n) cs.length with
  |false=>rw[hb] at hl;cases hl
  |true=>
   rw[hb,cond_true] at hl;cases hl;have mN:=BV hb;rw[JY,Jd];refine⟨by simp;omega,h.lt b hg,λc hc=>h5 c (xP (xQ hc)),_,(h4.drop o).take n,λj v hv=>?_⟩;rw[AU h1];rw[vu] at hv;split at hv
   .rw[List.getElem?_drop,vu] at hv;split at hv
    .simpa using hv
    .cases hv
   .cases hv
 .cases hl
theorem EP {d:TypeDesc} (hd:P.underlying t=O d) (w:W_):(isAgg t).run P w= .ok d.isRow w:=by unfold isAgg;rw[Sem.run_bind,u_ hd w];cases d<;>rfl
theorem Us.row {k:TK} {d:TypeDesc} (h:Us k d):d.isRow=Ot k:=by
 cases k with
 |str fs=>obtain⟨_,rfl,_⟩:=h;rfl
 |arr n e=>subst h;rfl
 |int k=>subst h;rfl
 |slice e=>subst h;rfl
 |map k e=>subst h;rfl
 |string=>subst h;rfl
 |bool=>subst h;rfl
 |ptr e=>subst h;rfl
 |func=>obtain⟨_,_,_,rfl⟩:=h;rfl
 |other=>cases d<;>first|rfl|exact a_ rfl (h.1 _)|exact a_ Z (h.2.1 _ _)
theorem Rh (hE:Ap P E) (h:HR F R s w0 w) (hu:E.tt.get t=O u) {o:Nat} {l:List AV} (hl:s.load b o u.size=O l) (hx:Er u l=O x):∃v,(Instr.loadAt t (.pointer (O ⟨(R b).1,o,X⟩))).run P w= .ok v w/\VR R s.nx x v:=by
 obtain⟨_,⟨d,hd,hk⟩,i,hi,lC,_,_⟩:=hE.tt t u hu;obtain⟨h1,h2,h3,vs,h4,h5⟩:=h.load hl;unfold Er at hx
 cases hr:Ot u.k with
 |true=>rw[hr,cond_true] at hx;cases hx;refine⟨.agg vs.toArray,run_loadAt_mid w _ o t vs d (λj v hv=>h5 j v hv) hd (by rw[hk.row,hr]) (by rw[hi,wN,lC,h4.length,h1]),?_⟩;simp only[VR];exact⟨vs,h4,Z⟩
 |false=>
  rw[hr,cond_false] at hx;split at hx
  .cases hx;simp only[BM] at h4;obtain⟨v,_,rfl,h6,rfl⟩:=h4;refine⟨v,?_,h6⟩;have hc:=h5 0 v Z;rw[vz] at hc;simp only[Instr.loadAt,Instr.sureAddr,Sem.run_bind,Sem.run_pure,Result.andThen_ok,loadVar,EP hd,hk.row,hr];simp[hc]
  .cases hx
theorem WA (l us:List α) (o Nq:Nat) (h:o+us.length<=Nq) (hN:Nq<=l.length):(l.take o++us++l.drop (o+us.length)).take Nq=(l.take Nq).take o++us++(l.take Nq).drop (o+us.length):=by have hA:(l.take Nq).length=Nq:=Nn;have e1:l.take o=(l.take Nq).take o:=(by rw[wh];congr 1;omega);have e2:l.drop (o+us.length)=(l.take Nq).drop (o+us.length)++l.drop Nq:=(by(conv=>lhs;rw[<-List.take_append_drop Nq l]);rw[List.drop_append_of_le_length A0]);rw[e1,e2,<-vt];have hl:((l.take Nq).take o++us++(l.take Nq).drop (o+us.length)).length=Nq:=rM;exact xR hl
theorem HR.write (h:HR F R s w0 w) {o:Nat} {vs:List AV} {us:List V_} {s':St} (hs:s.store b o vs=O s') (hv:BM R s.nx vs us) (h1:∀c∈vs,Hu c=B):s'.nx=s.nx/\∃w',(storeCells ⟨(R b).1,o,X⟩ us).run P w= .ok () w'/\HR F R s' w0 w':=by
 unfold St.store at hs;split at hs
 .rename_i e cs hc;obtain⟨hg,arr,g1,g2,g3,g4,g5⟩:=h.at hc
  cases hb:ui (o+vs.length) cs.length with
  |false=>rw[hb] at hs;cases hs
  |true=>
   rw[hb,cond_true] at hs;cases hs;have mN:=BV hb;have aa:=hv.length;(have lY:∀v∈us,v.oneCell'=true:=λv hm=>by obtain⟨j,hj,rfl⟩:=wH.1 hm;obtain⟨u,e1,e2⟩:=hv.get (j:=j) (vE A0);rw[vE hj] at e1;cases e1;exact e2.one (h1 _ (wJ _)));refine⟨Z,_,run_storeCells_at (P:=P) (R b).1 o e us 0 arr w g1 A0 lY,?_⟩;simp only[vz];refine h.put (by rw[hg];simp) _ _ ⟨_,Z,?_,?_,?_,?_⟩ Z Z Z (setRow_heap w _ arr _ e _ g1) λk hk=>setRow_other w _ k _ hk
   .exact XC
   .rw[Mj cs o vs mN];simp only[vS,wW,xS];omega
   .rw[Mj cs o vs mN];have nC:(cs.take o++vs++cs.drop (o+vs.length)).length=cs.length:=rM;rw[nC];have e1:=WA arr.toList us o cs.length A0 (by simpa using g3);rw[<-aa] at*;rw[e1];exact((g4.take o).append hv).append (g4.drop _)
   .rw[Mj cs o vs mN];exact hX
 .cases hs
theorem XI (hE:Ap P E) (h:HR F R s w0 w) (hu:E.tt.get t=O u) {o:Nat} {v:V_} (hx:VR R s.nx x v) (hn:(AL x).length=u.size) (h1:∀c∈AL x,Hu c=B) {s':St} (hs:s.store b o (AL x)=O s'):s'.nx=s.nx/\∃w',(Instr.storeAt t (.pointer (O ⟨(R b).1,o,X⟩)) v).run P w= .ok () w'/\HR F R s' w0 w':=by obtain⟨_,_,i,hi,lC,_,_⟩:=hE.tt t u hu;obtain⟨e1,w',hr,hh⟩:=h.write (P:=P) hs hx.cells h1;refine⟨e1,w',?_,hh⟩;have hz:v.cells.size=i.size:=(by rw[lC,<-hn,<-hx.cells.length,vA]);simp only[Instr.storeAt,Instr.sureAddr,Sem.run_bind,Sem.run_pure,Result.andThen_ok];simp[storeVar,sizeOf,typeInfo,hi,hz,hr]
end
end
end
section
variable {a:AJ AV} {act:Act} {t:TypeId} {u:TI} {x:AV}
noncomputable section
section
variable {P:P_} {E:CF} {F:Nat->Option Obj} {R:Nat->Nat×Nat} {s:St} {w0 w:W_} {n:Nat}
theorem Jw (s:ByteArray):BP (s.data.toList.map UInt8.toNat)=s:=by unfold BP;rw[wi];(have:(UInt8.ofNat∘UInt8.toNat)=id:=funext λc=>by simp);rw[this,List.map_id]
theorem fT (s:ByteArray):∀c∈s.data.toList.map UInt8.toNat,c<256:=λc hc=>by
 obtain⟨x,_,rfl⟩:=vL.1 hc
 exact x.toNat_lt
theorem JT {l:List Nat} (h:∀c∈l,c<256):(BP l).data.toList.map UInt8.toNat=l:=by unfold BP;simp only[wi];(conv=>rhs;rw[<-List.map_id l]);(refine List.map_congr_left λc hc=>?_);have:=h c hc;simp[wj this]
theorem Q7 {l m:List Nat} (hl:∀c∈l,c<256) (hm:∀c∈m,c<256) (h:BP l=BP m):l=m:=by rw[<-JT hl,h,JT hm]
theorem Cj (l:List Nat):(BP l).size=l.length:=by simp[BP,ByteArray.size]
theorem RS (l m:List Nat):BP (l++m)=BP l++BP m:=by apply wl;simp[BP]
mutual
theorem N5:∀(k:Nat) {v:V_} {x:AV},kC k v=O x->VR R n x v
 |0,_,_,h=>by simp[kC] at h
 |k+1,v,x,h=>by
  unfold kC at h
  split at h
  .cases h;simp only[VR]
  .cases h;simp only[VR]
  .cases h;simp only[VR];exact⟨by rw[Jw],fT _⟩
  .cases h;simp only[VR]
  .cases h;simp only[VR]
  .cases h;simp only[VR]
  .cases h;simp only[VR]
  .cases h;simp only[VR]
  .rename_i cs
   cases hm:Do (kC k) cs.toList with
   |none=>rw[hm] at h;cases h
   |some l=>
    rw[hm] at h
    cases h
    simp only[VR]
    exact⟨cs.toList,V2 k hm,by simp⟩
  .rename_i cs
   cases hm:Do (kC k) cs.toList with
   |none=>rw[hm] at h;cases h
   |some l=>
    rw[hm] at h
    cases h
    simp only[VR]
    exact⟨cs.toList,V2 k hm,by simp⟩
  .cases h
theorem V2:∀(k:Nat) {vs:List V_} {l:List AV},Do (kC k) vs=O l->BM R n l vs
 |k,vs,l,h=>by
  obtain⟨h1,h2⟩:=KG h
  refine BM.of h1.symm λj x hx=>?_
  have hj:j<vs.length:=by have:=(vU.1 hx).1;omega
  obtain⟨y,e1,e2⟩:=h2 j _ (vE hj)
  rw[e2] at hx
  cases hx
  exact⟨_,vE hj,N5 k e1⟩
end
def TR (R:Nat->Nat×Nat) (n:Nat) (a:AJ AV) (act:Act):Prop:=∀t x,a.get t=O x->∃v,act.tmps[t]?=O v/\VR R n x v
theorem TR.mono {R':Nat->Nat×Nat} {n':Nat} {a:AJ AV} {act:Act} (h:TR R n a act) (hn:n<=n') (hR:E4 n R R'):TR R' n' a act:=λt x hx=>by
 obtain⟨v,h1,h2⟩:=h t x hx
 exact⟨v,h1,h2.mono hn hR⟩
theorem TR.put {a:AJ AV} {act:Act} (h:TR R n a act) {d:Nat} (hd:d<act.tmps.size) {x:AV} {v:V_} (hx:VR R n x v):TR R n (a.set d (O x)) (act.put (O d) v):=λt y hy=>by
 rw[AJ.get_set] at hy
 unfold Act.put
 by_cases e:t=d
 .subst e
  rw[p_ Z] at hy
  cases hy
  exact⟨v,by simp[hd],hx⟩
 .rw[n_ e] at hy
  obtain⟨u,h1,h2⟩:=h t y hy
  refine⟨u,?_,h2⟩
  simp only
  rw[wO (Ne.symm e)]
  exact h1
theorem AM (h:TR R n a act) {o:O_} (hx:Ck a o=O x):VR R n x (act.eval o):=by
 cases o with
 |tmp t=>obtain⟨v,h1,h2⟩:=h t x hx;have:act.eval (.tmp t)=v:=(by simp[Act.eval,wP,h1]);rw[this];exact h2
 |const v=>exact N5 2 hx
 |global g=>cases hx
 |func f=>cases hx;simp only[VR];exact⟨[],[],Z,Z,Z⟩
theorem GV (h:TR R n a act) {os:List O_} {xs:List AV} (hx:Do (Ck a) os=O xs):BM R n xs (os.map act.eval):=by obtain⟨h1,h2⟩:=KG hx;(refine BM.of (by rw[wQ,h1]) λj x hj=>?_);have aa:j<os.length:=(by have:=(vU.1 hj).1;omega);obtain⟨y,e1,e2⟩:=h2 j _ (vE aa);rw[e2] at hj;cases hj;exact⟨act.eval os[j],by simp[aa],AM h e1⟩
theorem GC (s:ByteArray):s.toList=s.data.toList:=by rw[ByteArray.toList_eq]
theorem M3 {l m:List Nat} (hl:∀c∈l,c<256) (hm:∀c∈m,c<256):((BP l).toList==(BP m).toList)=Hg l m:=by
 rw[Ik,GC,GC];by_cases e:l=m
 .subst e;simp
 .rw[f_ e,beq_eq_false_iff_ne];intro h;apply e;apply Q7 hl hm;exact wl (wm.1 h)
theorem dl {o:BinOp} {k:IntKind} {a c:Int} (h:ol o k a c=O x) (t:T_):∃v,(binOp o t (.int k a) (.int k c)).run P w= .ok v w/\VR R n x v:=by unfold ol at h;cases o<;>simp only at h;(case add=>cases h;exact⟨_,by simp[binOp,wR];rfl,by simp only[VR]⟩);(case sub=>cases h;exact⟨_,by simp[binOp,wR];rfl,by simp only[VR]⟩);(case mul=>cases h;exact⟨_,by simp[binOp,wR];rfl,by simp only[VR]⟩);(case quo=>exact gF);(case rem=>exact gF);(case and=>cases h;exact⟨_,by simp only[binOp,ne_eq,not_true_eq_false,if_false,wo];rfl,by simp only[VR]⟩);(case or=>cases h;exact⟨_,by simp only[binOp,ne_eq,not_true_eq_false,if_false,wo];rfl,by simp only[VR]⟩);(case xor=>cases h;exact⟨_,by simp only[binOp,ne_eq,not_true_eq_false,if_false,wo];rfl,by simp only[VR]⟩);(case lss=>cases h;refine⟨.bool (T (a<c)),by simp[binOp,wE],?_⟩;simp only[VR,Js];congr 1;rw[<-decide_not];first|rfl|(congr 1;simp;done)|(simp;done));(case leq=>cases h;refine⟨.bool (T (a<=c)),by simp[binOp,wE],?_⟩;simp only[VR,Js]);(case gtr=>cases h;refine⟨.bool (T (a>c)),by simp[binOp,wE],?_⟩;simp only[VR,Js];congr 1;rw[<-decide_not];first|rfl|(congr 1;simp;done)|(simp;done));(case geq=>cases h;refine⟨.bool (T (a≥c)),by simp[binOp,wE],?_⟩;simp only[VR,Js]);all_goals cases h
def Ps (neg:Bool) (t:T_) (p q:O_) (a b:V_):Sem V_:=do eqGuard (if neg then .neq else .eql) t p q a b;binOp (if neg then .neq else .eql) t a b
theorem Zg (neg:Bool) (t:T_) (p q:O_) (k:IntKind) (a b:Int):(Ps neg t p q (.int k a) (.int k b)).run P w= .ok (.bool (if neg then !bJ a b else bJ a b)) w:=by rw[J0,show T (a=b)=(a==b) from by by_cases h:a=b<;>simp[h]];cases neg<;>simp[Ps,eqGuard,binOp,wE,bne]
theorem aW (neg:Bool) (t:T_) (p q:O_) {l m:List Nat} (hl:∀c∈l,c<256) (hm:∀c∈m,c<256):(Ps neg t p q (.string (BP l)) (.string (BP m))).run P w= .ok (.bool (if neg then !Hg l m else Hg l m)) w:=by rw[<-M3 hl hm];cases neg<;>simp[Ps,eqGuard,binOp,vj]
theorem ER (neg:Bool) (t:T_) (p q:O_) {a b:V_} {r:Bool} (hg:∀o:BinOp,(eqGuard o t p q a b).run P w= .ok () w) (ad:binOp .eql t a b=(do pure (.bool (<-vh t a b)))) (aa:binOp .neq t a b=(do pure (.bool (!(<-vh t a b))))) (he:(vh t a b).run P w= .ok r w):(Ps neg t p q a b).run P w= .ok (.bool (if neg then !r else r)) w:=by
 unfold Ps;cases neg
 .simp[Sem.run_bind,hg,ad,he]
 .simp[Sem.run_bind,hg,aa,he]
def gZ:TypeDesc->V_->V_->Option Bool
 | .bool,.bool x,.bool y=>O (x==y)
 | .pointer _,.pointer X,.pointer q=>O q.isNone
 | .pointer _,.pointer (O _),.pointer X=>O G
 | .slice _,.slice X _ _,.slice q _ _=>O q.isNone
 | .slice _,.slice (O _) _ _,.slice X _ _=>O G
 | .func _ _ _,.nilFunc,.nilFunc=>O B
 | .func _ _ _,.func _ _ _,.nilFunc=>O G
 |_,_,_=>X
theorem FC {d:TypeDesc} (hd:P.underlying t=O d) {a b:V_} {r:Bool} (h:gZ d a b=O r):(vh t a b).run P w= .ok r w:=by unfold vh Op.maxDepth;rw[show(10000:Nat)=9999+1 from Z];unfold Op.equalIn;rw[Sem.run_bind,u_ hd,Result.andThen_ok];unfold gZ at h;split at h<;>cases h<;>rfl
theorem ZK (hE:Ap P E) (hu:E.tt.get t=O u) {y:AV} {r:Bool} (h:qT u x y=O r) {a b:V_} (hx:VR R n x a) (hy:VR R n y b) (p q:O_) (neg:Bool):(Ps neg t p q a b).run P w= .ok (.bool (if neg then !r else r)) w:=by
 obtain⟨heq,⟨d,hd,hk⟩,-⟩:=hE.tt t u hu;unfold qT at h;split at h<;>(try simp only[VR] at hx hy)
 .rename_i k a' k' c;subst hx;subst hy;by_cases e:k=k'
  .subst e;rw[t_ Z,cond_true] at h;cases h;exact Zg neg t p q k _ _
  .exact UR
 .obtain⟨rfl,hl⟩:=hx;obtain⟨rfl,hm⟩:=hy;cases h;exact aW neg t p q hl hm
 .subst hx;subst hy;split at h
  .rename_i aa;cases h;rw[aa] at hk;obtain rfl:d= .bool:=hk;exact ER neg t p q (λo=>by cases o<;>rfl) Z Z (FC hd Z)
  .cases h
 .rename_i l m;obtain⟨xs,h1,rfl⟩:=hx;obtain⟨ys,h2,rfl⟩:=hy
  cases he:u.eq with
  |none=>rw[he] at h;cases h
  |some ks=>rw[he] at h;obtain⟨g1,g2⟩:=heq ks he;exact ER neg t p q (λo=>by cases o<;>simp[eqGuard,g1]) Z Z (g2 _ _ _ _ _ _ _ _ _ _ h1 h2 h)
 case h_12=>cases h
 all_goals
  split at h
  .rename_i aa;cases h;rw[aa] at hk
   first
   |(obtain⟨_,_,_,rfl⟩:=hk;subst hx;subst hy;exact ER neg t p q (λo=>by cases o<;>rfl) Z Z (FC hd Z))
   |(obtain⟨_,_,_,rfl⟩:=hk;subst hy;obtain⟨_,_,_,_,rfl⟩:=hx;exact ER neg t p q (λo=>by cases o<;>rfl) Z Z (FC hd Z))
   |(obtain rfl:=show d=_ from hk;subst hx;subst hy;exact ER neg t p q (λo=>by cases o<;>rfl) Z Z (FC hd Z))
   |(obtain rfl:=show d=_ from hk;subst hx;obtain⟨_,rfl⟩:=hy;exact ER neg t p q (λo=>by cases o<;>rfl) Z Z (FC hd Z))
   |(obtain rfl:=show d=_ from hk;subst hy;obtain⟨_,rfl⟩:=hx;exact ER neg t p q (λo=>by cases o<;>rfl) Z Z (FC hd Z))
   |(obtain rfl:=show d=_ from hk;subst hy;obtain⟨_,_,_,rfl,_⟩:=hx;exact ER neg t p q (λo=>by cases o<;>rfl) Z Z (FC hd Z))
   |fail "no arm"
  .cases h
end
end
end
section
variable {b c j q:Nat} {e t:TypeId} {u ue:TI} {x z:AV}
noncomputable section
def CC:List AV->Bool
 |[]=>B
 |x::l=>bif Hu x then CC l else G
theorem Ci:∀{l:List AV},CC l=B->∀c∈l,Hu c=B
 |[],_,c,hc=>by cases hc
 |x::l,h,c,hc=>by
  unfold CC at h
  cases hx:Hu x with
  |false=>rw[hx] at h;cases h
  |true=>
   rw[hx,cond_true] at h
   rcases vD.1 hc with rfl|hc
   .exact hx
   .exact Ci h c hc
section
variable {P:P_} {E:CF} {F:Nat->Option Obj} {R:Nat->Nat×Nat} {s s':St} {w0 w:W_}
def Ag (P:P_) (F:Nat->Option Obj) (R:Nat->Nat×Nat) (n:Nat) (w0 w:W_) (m:Sem Next) (r:Option AV) (s':St):Prop:=
 ∃R' w',E4 n R R'/\n<=s'.nx/\HR F R' s' w0 w'/\match r with
  |some x=>∃v,m.run P w= .ok (.value v) w'/\VR R' s'.nx x v
  |none=>m.run P w= .ok .skip w'
theorem Ag.val {m:Sem V_} {x:AV} {v:V_} (h:HR F R s w0 w) (hr:m.run P w= .ok v w) (hx:VR R s.nx x v):Ag P F R s.nx w0 w (do pure (.value (<-m))) (O x) s:=
 ⟨R,w,λ_ _=>rfl,un _,h,v,by simp[Sem.run_bind,hr],hx⟩
theorem E4.refl (n:Nat) (R:Nat->Nat×Nat):E4 n R R:=λ_ _=>rfl
theorem Ag.new {m:Sem V_} {v:V_} (h:HR F R s w0 w) (lu:Fk) (o:Obj) (sz:Nat) (hb:∀R',R' s.nx=(w.heap.size,sz)->E4 s.nx R R'->BR R' (s.nx+1) sz lu o) (hr:m.run P w= .ok v (w.alloc o)) (hx:∀R',R' s.nx=(w.heap.size,sz)->E4 s.nx R R'->VR R' (s.nx+1) x v):Ag P F R s.nx w0 w (do pure (.value (<-m))) (O x) (s.new lu):=by have hR:(λb=>if b=s.nx then (w.heap.size,sz) else R b) s.nx=(w.heap.size,sz):=p_ Z;(have hE:E4 s.nx R (λb=>if b=s.nx then (w.heap.size,sz) else R b):=λb hb=>n_ A0);obtain⟨h1,h2⟩:=h.new lu o sz (hb _ hR hE);exact⟨_,_,h2,vB _,h1,v,by simp[Sem.run_bind,hr],hx _ hR hE⟩
theorem BR.row {R:Nat->Nat×Nat} {n:Nat} {e:T_} {cs:List AV} {vs:List V_} (h:BM R n cs vs) (h1:∀c∈cs,Hu c=B):BR R n cs.length (.cells e cs) (.cells vs.toArray e):=
 ⟨vs.toArray,Z,by simp[h.length],un _,by rw[<-h.length];simpa using h,h1⟩
theorem iU (hE:Ap P E) (h:HR F R s w0 w) (hu:E.tt.get e=O u) (hz:u.z=O z) (h1:CC (AL z)=B):Ag P F R s.nx w0 w (do pure (.value (<-Instr.alloc e B (.tuple #[])))) (O (.p s.nx 0)) (s.new (.cells e (AL z))):=by
 obtain⟨_,_,i,hi,_,_,hzz⟩:=hE.tt e u hu;obtain⟨v,hv,hR⟩:=hzz z hz;(have hc:=λR'=>(hR R' (s.nx+1)).cells);refine Ag.new h _ (.cells v.cells e) (AL z).length (λR' _ _=>?_) (v:= .pointer (O ⟨w.heap.size,0,X⟩)) ?_ λR' e1 _=>?_
 .have:=BR.row (e:=e) (hc R') (Ci h1);simpa using this
 .simp[Instr.alloc,zeroValue,typeInfo,hi,hv,newVar,newRow]
 .exact Wy
theorem oL (h:HR F R s w0 w) {v:V_} (hx:VR R s.nx x v) (h1:CC (AL x)=B):Ag P F R s.nx w0 w (do pure (.value (<-Instr.box e v))) (O (.p s.nx 0)) (s.new (.cells e (AL x))):=by
 refine Ag.new h _ (.cells v.cells e) (AL x).length (λR' _ hE=>?_) (v:= .pointer (O ⟨w.heap.size,0,X⟩)) ?_ λR' e1 _=>?_
 .have:=BR.row (e:=e) ((hx.mono (vB _) hE).cells) (Ci h1);simpa using this
 .simp[Instr.box,newVar,newRow]
 .exact Wy
theorem X6 (h:HR F R s w0 w) (t:T_):Ag P F R s.nx w0 w (do pure (.value (<-Instr.makeMap t X))) (O (.m s.nx)) (s.new (.map [])):=by(refine Ag.new h _ (.map #[] 0) 0 (λR' _ hE=>⟨#[],0,[],Z,.nil,by simp[F8],by simp[BM],by simp[BM]⟩) (v:= .map (O w.heap.size)) (run_makeMap t w) λR' e1 _=>?_);exact Wy
theorem TV (hE:Ap P E) (hu:E.tt.get t=O u) {fs:List (Nat×T_)} (hk:u.k= .str fs) {f:Nat} {ft:T_} (hf:fs[f]?=O (q,ft)) {uf:TI} (ad:E.tt.get ft=O uf) (hn:uf.size≠0) (b o:Nat):(Instr.fieldAt t (.pointer (O ⟨b,o,X⟩)) f).run P w= .ok (.pointer (O ⟨b,o+q,X⟩)) w:=by
 obtain⟨_,⟨d,hd,aa⟩,-⟩:=hE.tt t u hu;obtain⟨_,_,i,hi,lC,-⟩:=hE.tt ft uf ad;rw[hk] at aa;obtain⟨fields,rfl,ae⟩:=aa;have h1:=ae f;rw[hf] at h1
 cases hg:fields[f]? with
 |none=>rw[hg] at h1;cases h1
 |some fd=>rw[hg] at h1;cases h1;simp[Instr.fieldAt,u_ hd,hg,Instr.sureAddr,fieldPlace,sizeOf,typeInfo,hi,lC,hn,Addr.add_eq]
theorem Tk (hE:Ap P E) (hu:E.tt.get t=O u) (hk:u.k= .slice e) (ad:E.tt.get e=O ue) {o l:Nat} {ex:Bool} {v:V_} (hx:VR R n (.sl b o l c ex q) v) {k:IntKind} (hj:j<l):(Instr.indexAt t v (.int k (uy j))).run P w= .ok (.pointer (O ⟨(R b).1,o+j*ue.size,X⟩)) w:=by
 obtain⟨_,⟨d,hd,aa⟩,-⟩:=hE.tt t u hu;obtain⟨_,_,i,hi,lC,-⟩:=hE.tt e ue ad;rw[hk] at aa;obtain rfl:d= .slice e:=aa;simp only[VR] at hx;obtain⟨_,o',c',rfl,ho,_,_,af,_,_⟩:=hx
 have ae:o'=o:=by
  rcases ho with h|h
  .omega
  .exact h
 subst ae;have h1:(0:Int)<=uy j:=ve j;have h2:uy j<(l:Int):=Mn;simp[Instr.indexAt,asIntOf,u_ hd,sizeOf,typeInfo,hi,lC,h1,h2,hj,Addr.add_eq]
theorem NG (hE:Ap P E) (hu:E.tt.get t=O u) (hk:u.k= .arr n e) (ad:E.tt.get e=O ue) (b o:Nat) {k:IntKind} (hj:j<n):(Instr.indexAt t (.pointer (O ⟨b,o,X⟩)) (.int k (uy j))).run P w= .ok (.pointer (O ⟨b,o+j*ue.size,X⟩)) w:=by obtain⟨_,⟨d,hd,aa⟩,-⟩:=hE.tt t u hu;obtain⟨_,_,i,hi,lC,-⟩:=hE.tt e ue ad;rw[hk] at aa;obtain rfl:d= .array n e:=aa;have h1:(0:Int)<=uy j:=ve j;have h2:uy j<(n:Int):=Mn;simp[Instr.indexAt,asIntOf,u_ hd,sizeOf,typeInfo,hi,lC,h1,h2,hj,Addr.add_eq,Instr.sureAddr]
end
end
end
section
variable {a:AJ AV} {act:Act}
noncomputable section
theorem Vb:∀(l:List V_) (k off:Nat) (cells:Array V_),off+k+l.length<=cells.size->
  ((l.zipIdx k).foldl (fun(cs:Array V_) (p:V_×Nat)=>cs.setIfInBounds (off+p.2) p.1) cells).toList=cells.toList.take (off+k)++l++cells.toList.drop (off+k+l.length)
 |[],k,off,cells,h=>by simp
 |v::l,k,off,cells,h=>by
  simp only[wI] at h
  rw[List.zipIdx_cons,List.foldl_cons,Vb l (k+1) off _ BL]
  have e:=list_seg_step cells.toList (off+k) v l BL
  simpa[Array.toList_setIfInBounds,xT] using e
theorem dU (cells:Array V_) (v:V_) (off:Nat) (h:off+v.cells.size<=cells.size):(v.cells.zipIdx.foldl (fun(cs:Array V_) (p:V_×Nat)=>cs.setIfInBounds (off+p.2) p.1) cells).toList=cells.toList.take off++v.cells.toList++cells.toList.drop (off+v.cells.toList.length):=by have:=Vb v.cells.toList 0 off cells CE;rw[<-xU,Array.toList_zipIdx];simpa using this
section
variable {P:P_} {E:CF} {F:Nat->Option Obj} {R:Nat->Nat×Nat} {s s':St} {w0 w:W_} {n:Nat}
theorem GU {place:Nat->Option (Nat×Nat)} {placeA:Nat->Option (Nat×Nat)} (hp:∀i o z,placeA i=O (o,z)->place i=O (o,z)):
  ∀(ps:List (Nat×AV)) (us:List (Nat×V_)) {cs cs':List AV} {cells:Array V_},us.map ul=ps.map ul->BM R n (ps.map uq) (us.map uq)->BM R n cs cells.toList->JN placeA cs ps=O cs'->
   ∃cells',Instr.fill place cells us=O cells'/\BM R n cs' cells'.toList
 |[],us,cs,cs',cells,h1,h2,h3,h=>by
  cases us with
  |nil=>cases h;exact⟨cells,Z,h3⟩
  |cons=>simp at h1
 |(i,x)::ps,[],cs,cs',cells,h1,h2,h3,h=>by simp at h1
 |(i,x)::ps,(j,v)::us,cs,cs',cells,h1,h2,h3,h=>by
  simp only[uv,List.cons.injEq] at h1
  obtain⟨rfl,h1⟩:=h1
  simp only[uv,BM,List.cons.injEq] at h2
  obtain⟨_,_,⟨rfl,rfl⟩,hx,h2⟩:=h2
  unfold JN at h
  cases hpl:placeA j with
  |none=>rw[hpl] at h;cases h
  |some p=>
   obtain⟨o,z⟩:=p
   rw[hpl] at h
   simp only at h
   cases hb:(uh (AL x).length z&&ui (o+z) cs.length) with
   |false=>rw[hb] at h;cases h
   |true=>
    rw[hb,cond_true] at h
    rw[uj] at hb
    have hz:=B0 hb.1
    have mN:=BV hb.2
    have hcl:=hx.cells.length
    have hcs:=h3.length
    simp only[vA] at hcl hcs
    unfold Instr.fill
    rw[hp _ _ _ hpl]
    simp only
    rw[n_ BL]
    refine GU hp ps us h1 h2 ?_ h
    rw[dU cells v o A0,Mj cs o _ A0]
    refine((h3.take o).append hx.cells).append ?_
    rw[hx.cells.length]
    exact h3.drop _
theorem Gr (h:TR R n a act) {ps:List (Nat×O_)} {xs:List (Nat×AV)} (hx:LP a ps=O xs):(ps.map λp=>(p.1,act.eval p.2)).map ul=xs.map ul/\BM R n (xs.map uq) ((ps.map λp=>(p.1,act.eval p.2)).map uq):=by
 obtain⟨h1,h2⟩:=KG hx
 have key:∀(j:Nat) (p:Nat×O_),ps[j]?=O p->∃v,Ck a p.2=O v/\xs[j]?=O (p.1,v):=λj p hp=>by
  obtain⟨y,e1,e2⟩:=h2 j p hp
  cases ho:Ck a p.2 with
  |none=>rw[ho] at e1;cases e1
  |some v=>rw[ho] at e1;cases e1;exact⟨v,Z,e2⟩
 constructor
 .apply wt;intro j;simp only[vm]
  cases hp:ps[j]? with
  |none=>have:xs[j]?=none:=(by rw[xV] at hp⊢;omega);rw[this];rfl
  |some p=>obtain⟨v,_,e⟩:=key j p hp;rw[e];rfl
 ·(refine BM.of (by simp[h1]) λj x hj=>?_);rw[vm] at hj
  cases hp:ps[j]? with
  |none=>have:xs[j]?=none:=(by rw[xV] at hp⊢;omega);rw[this] at hj;cases hj
  |some p=>obtain⟨v,e1,e⟩:=key j p hp;rw[e] at hj;cases hj;exact⟨act.eval p.2,by simp[hp],AM h e1⟩
end
end
end
section
variable {e t:TypeId} {j m q:Nat} {u ue:TI} {x z:AV}
noncomputable section
def Oj (E:CF) (fs:List (Nat×T_)):Option (List (Nat×Nat)):=Do (λp:Nat×T_=>(I0 E p.2).map λn=>(p.1,n)) fs
theorem Hw {α:Type} (z:List α) (hz:0<z.length):∀(k i:Nat),i<k*z.length->(Fd z k)[i]?=z[i%z.length]?
 |0,i,h=>by simp at h
 |k+1,i,h=>by
  unfold Fd
  rw[List.getElem?_append]
  split
  .rename_i hi
   rw[wj hi]
  .rename_i hi
   rw[Nat.succ_mul] at h
   rw[Hw z hz k _ A0,<-Nat.mod_eq_sub_mod (A0:i≥z.length)]
section
variable {P:P_} {E:CF} {F:Nat->Option Obj} {R:Nat->Nat×Nat} {s s':St} {w0 w:W_} {n:Nat}
theorem rt (hE:Ap P E):∀(fields:List Field) {pl:List (Nat×Nat)},Oj E (fields.map λf=>(f.offset,f.type))=O pl->fields.mapM (λf=>(P.info? f.type).map λi=>(f.offset,i.size))=O pl
 |[],pl,h=>by cases h;rfl
 |f::fields,pl,h=>by
  unfold Oj at h
  simp only[uv,Do] at h
  cases ht:I0 E f.type with
  |none=>rw[ht] at h;cases h
  |some z=>
   rw[ht] at h
   simp only[wN] at h
   split at h
   .cases h
   .rename_i ys hys
    cases h
    have ih:=rt hE fields hys
    unfold I0 at ht
    cases hu:E.tt.get f.type with
    |none=>rw[hu] at ht;cases ht
    |some u=>
     rw[hu] at ht
     cases ht
     obtain⟨_,_,i,hi,lC,-⟩:=hE.tt _ _ hu
     simp[xW,ih,hi,lC]
theorem qQ {fs:List (Nat×T_)} {fields:Array Field} (h:∀i:Nat,fs[i]?=(fields[i]?).map λf=>(f.offset,f.type)):fs=fields.toList.map λf=>(f.offset,f.type):=by apply wt;intro i;rw[h,vm,vW]
theorem fC (hE:Ap P E) (h:HR F R s w0 w) (hu:E.tt.get t=O u) {fs:List (Nat×T_)} (hk:u.k= .str fs) {zc:List AV} (hz:u.z=O (.agg zc)) {pl:List (Nat×Nat)} (aa:Oj E fs=O pl) {ps:List (Nat×AV)} {us:Array (Nat×V_)} (h1:us.toList.map ul=ps.map ul) (h2:BM R s.nx (ps.map uq) (us.toList.map uq)) {cs:List AV} (hf:JN (LG pl) zc ps=O cs):Ag P F R s.nx w0 w (do pure (.value (<-Instr.build t us))) (O (.agg cs)) s:=by obtain⟨_,⟨d,hd,ad⟩,i,hi,lC,_,hzz⟩:=hE.tt t u hu;rw[hk] at ad;obtain⟨fields,rfl,ag⟩:=ad;obtain⟨v,hv,hR⟩:=hzz _ hz;have ae:=hR R s.nx;simp only[VR] at ae;obtain⟨vs,af,rfl⟩:=ae;rw[qQ ag] at aa;have hm:=rt hE fields.toList aa;obtain⟨cells,h3,h4⟩:=GU (place:=λj=>pl.toArray[j]?) (placeA:=LG pl) (λj o z hj=>by rw[EG] at hj;simpa using hj) ps us.toList h1 h2 (cells:=vs.toArray) (by simpa using af) hf;have hb:P.built t us.toList=O cells:=(by unfold Program.built;simp only[hi,hd,hv,hm,wL];exact h3);refine Ag.val h (run_build (P:=P) w t us cells hb) ?_;simp only[VR];exact⟨cells.toList,h4,by simp⟩
theorem RG (hE:Ap P E) (h:HR F R s w0 w) (hu:E.tt.get t=O u) (hk:u.k= .slice e) (af:E.tt.get e=O ue) (hz:ue.z=O z) (hn:(AL z).length=ue.size) (hpos:0<ue.size) {len:Nat} (ah:len*ue.size<=16777216) {ps:List (Nat×AV)} {us:Array (Nat×V_)} (h1:us.toList.map ul=ps.map ul) (h2:BM R s.nx (ps.map uq) (us.toList.map uq)) {cs:List AV} (hf:JN (λi=>O (i*ue.size,ue.size)) (Fd (AL z) len) ps=O cs) (lY:CC cs=B) (hcl:cs.length=len*ue.size):Ag P F R s.nx w0 w (do pure (.value (<-Instr.buildSlice t len us))) (O (.sl s.nx 0 len len B ue.size)) (s.new (.cells e cs)):=by
 obtain⟨_,⟨d,hd,ae⟩,-⟩:=hE.tt t u hu;obtain⟨_,_,i,hi,lC,_,hzz⟩:=hE.tt e ue af;rw[hk] at ae;obtain rfl:d= .slice e:=ae;obtain⟨v,hv,hR⟩:=hzz z hz;have hzc:=(hR R s.nx).cells;have hvl:=hzc.length;simp only[vA] at hvl;have ad:BM R s.nx (Fd (AL z) len) ((xX (len*i.size)).map (v.cells[·%v.cells.size]!)).toList:=(by exact mw);obtain⟨cells,h3,h4⟩:=GU (place:=λj=>O (j*i.size,i.size)) (placeA:=λj=>O (j*ue.size,ue.size)) (λj o y hj=>by rw[lC];exact hj) ps us.toList h1 h2 ad hf;have aa:(Instr.buildSlice t len us).run P w= .ok (.slice (O ⟨w.heap.size,0,X⟩) len len) (w.alloc (.cells cells e)):=(by exact tw);refine Ag.new h _ (.cells cells e) cs.length (λR' _ ag=>?_) aa λR' e1 _=>?_
 .have:=BR.row (e:=e) (h4.mono (vB _) ag) (Ci lY);simpa using this
 .simp only[VR];rw[e1];refine⟨vX _,0,len,Z,.inr Z,λ_=>rfl,un _,un _,?_,by rw[hcl];omega⟩;exact fP
theorem fE (hE:Ap P E) (h:HR F R s w0 w) (hu:E.tt.get t=O u) {fs:List (Nat×T_)} (hk:u.k= .str fs) {f:Nat} {ft:T_} (hf:fs[f]?=O (q,ft)) {uf:TI} (ag:E.tt.get ft=O uf) {l:List AV} {v:V_} (hx:VR R s.nx (.agg l) v) (hq:q+uf.size<=l.length) (hc:Er uf (Qg (Qi l q) uf.size)=O x):Ag P F R s.nx w0 w (do pure (.value (<-Instr.field t v f))) (O x) s:=by
 obtain⟨_,⟨d,hd,ae⟩,-⟩:=hE.tt t u hu;obtain⟨_,⟨df,af,ad⟩,i,hi,lC,-⟩:=hE.tt ft uf ag;rw[hk] at ae;obtain⟨fields,rfl,ah⟩:=ae;have h1:=ah f;rw[hf] at h1;simp only[VR] at hx;obtain⟨vs,aa,rfl⟩:=hx;have hvl:=aa.length
 cases hg:fields[f]? with
 |none=>rw[hg] at h1;cases h1
 |some fd=>
  rw[hg] at h1;cases h1;rw[JY,Jd] at hc;have hsub:=(aa.drop fd.offset).take uf.size;unfold Er at hc
  cases hr:Ot uf.k with
  |true=>
   rw[hr,cond_true] at hc;cases hc;refine Ag.val h (v:= .agg (vs.toArray.extract fd.offset (fd.offset+i.size))) ?_ ?_
   .simp only[Instr.field,Sem.run_bind,u_ hd,Result.andThen_ok,hg,asAgg,Sem.run_pure,part,EP af,ad.row,hr];simp[sizeOf,typeInfo,hi]
   .exact jf
  |false=>
   rw[hr,cond_false] at hc;split at hc
   .rename_i y hy;cases hc;rw[hy] at hsub;simp only[BM] at hsub;obtain⟨v,_,e1,h6,rfl⟩:=hsub;refine Ag.val h (v:=v) ?_ h6;have lx:vs[fd.offset]?=O v:=(by exact iK);simp only[Instr.field,Sem.run_bind,u_ hd,Result.andThen_ok,hg,asAgg,Sem.run_pure,part,EP af,ad.row,hr];simp[lx]
   .cases hc
theorem WX (h:HR F R s w0 w) {l:List AV} {v:V_} (hx:VR R s.nx (.tup l) v) (hj:l[j]?=O x):Ag P F R s.nx w0 w (do pure (.value (<-Instr.extract v j))) (O x) s:=by simp only[VR] at hx;obtain⟨vs,aa,rfl⟩:=hx;obtain⟨u,e1,e2⟩:=aa.get hj;exact Ag.val h (v:=u) (by simp[Instr.extract,e1]) e2
theorem YQ (hE:Ap P E) {ft:T_} {uf:TI} (af:E.tt.get ft=O uf) {l:List AV} {vs:List V_} (aa:BM R n l vs) (hq:q+uf.size<=l.length) (hc:Er uf (Qg (Qi l q) uf.size)=O x):∃v,(part ft vs.toArray q).run P w= .ok v w/\VR R n x v:=by
 obtain⟨_,⟨df,ae,ad⟩,i,hi,lC,-⟩:=hE.tt ft uf af;have hvl:=aa.length;rw[JY,Jd] at hc;have hsub:=(aa.drop q).take uf.size;unfold Er at hc
 cases hr:Ot uf.k with
 |true=>
  rw[hr,cond_true] at hc;cases hc;refine⟨.agg (vs.toArray.extract q (q+i.size)),?_,?_⟩
  .simp only[Sem.run_bind,Result.andThen_ok,Sem.run_pure,part,EP ae,ad.row,hr];simp[sizeOf,typeInfo,hi]
  .exact jf
 |false=>
  rw[hr,cond_false] at hc;split at hc
  .rename_i y hy;cases hc;rw[hy] at hsub;simp only[BM] at hsub;obtain⟨v,_,e1,h6,rfl⟩:=hsub;refine⟨v,?_,h6⟩;have lx:vs[q]?=O v:=(by exact iK);simp only[Sem.run_bind,Result.andThen_ok,Sem.run_pure,part,EP ae,ad.row,hr];simp[lx]
  .cases hc
theorem Tg (hE:Ap P E) (h:HR F R s w0 w) (hu:E.tt.get t=O u) (hk:u.k= .arr m e) (aa:E.tt.get e=O ue) {l:List AV} {v:V_} (hx:VR R s.nx (.agg l) v) {k:IntKind} (hj:j<m) (hq:j*ue.size+ue.size<=l.length) (hc:Er ue (Qg (Qi l (j*ue.size)) ue.size)=O x):Ag P F R s.nx w0 w (do pure (.value (<-Instr.index t v (.int k (uy j))))) (O x) s:=by obtain⟨_,⟨d,hd,ad⟩,-⟩:=hE.tt t u hu;obtain⟨_,_,i,hi,lC,-⟩:=hE.tt e ue aa;rw[hk] at ad;obtain rfl:d= .array m e:=ad;simp only[VR] at hx;obtain⟨vs,ae,rfl⟩:=hx;obtain⟨v,hv,hR⟩:=YQ (P:=P) (w:=w) hE aa ae hq hc;refine Ag.val h ?_ hR;have h1:(0:Int)<=uy j:=ve j;have h2:uy j<(m:Int):=Mn;simp only[Instr.index,asIntOf,Sem.run_bind,Sem.run_pure,Result.andThen_ok,u_ hd];rw[p_ ⟨h1,h2⟩];simp only[Sem.run_bind,sizeOf,typeInfo];simpa[hi,lC] using hv
theorem T8 (hE:Ap P E) (h:HR F R s w0 w) (hu:E.tt.get t=O u) (hk:u.k= .arr m e) (ag:E.tt.get e=O ue) {zc:List AV} (hz:u.z=O (.agg zc)) {ps:List (Nat×AV)} {us:Array (Nat×V_)} (h1:us.toList.map ul=ps.map ul) (h2:BM R s.nx (ps.map uq) (us.toList.map uq)) {cs:List AV} (hf:JN (λi=>O (i*ue.size,ue.size)) zc ps=O cs):Ag P F R s.nx w0 w (do pure (.value (<-Instr.build t us))) (O (.agg cs)) s:=by
 obtain⟨_,⟨d,hd,ad⟩,i,hi,lC,_,hzz⟩:=hE.tt t u hu;obtain⟨_,_,i2,ah,aa,-⟩:=hE.tt e ue ag;rw[hk] at ad;obtain rfl:d= .array m e:=ad;obtain⟨v,hv,hR⟩:=hzz _ hz;have ae:=hR R s.nx;simp only[VR] at ae;obtain⟨vs,af,rfl⟩:=ae;obtain⟨cells,h3,h4⟩:=GU (place:=λi=>O (i*i2.size,i2.size)) (placeA:=λi=>O (i*ue.size,ue.size)) (λj o z hj=>by rw[aa];exact hj) ps us.toList h1 h2 (cells:=vs.toArray) (by simpa using af) hf;refine Ag.val h (v:= .agg cells) ?_ ?_
 .simp only[Instr.build,zeroValue,sizeOf,typeInfo,Sem.run_bind];simp[hi,hv,u_ hd,ah,wL,h3]
 .simp only[VR];exact⟨cells.toList,h4,by simp⟩
end
end
end
section
variable {a:AJ AV} {act:Act} {c j m:Nat} {e t:TypeId} {u ue:TI} {x z:AV}
noncomputable section
section
variable {P:P_} {E:CF} {F:Nat->Option Obj} {R:Nat->Nat×Nat} {s s':St} {w0 w:W_} {n:Nat}
theorem PZ (h:oT x=O j):∃k,x= .i k (uy j):=by
 unfold oT at h;split at h
 .cases h;exact⟨_,Z⟩
 .cases h
theorem Jj (x:List Nat) (l h:Nat):(BP x).extract l h=BP ((x.drop l).take (h-l)):=by apply wl;simp[BP,List.take_drop]
theorem Sy (hE:Ap P E) (h:HR F R s w0 w) (hu:E.tt.get t=O u) (hk:u.k= .slice e) (ae:E.tt.get e=O ue) (hz:ue.z=O z) (hn:(AL z).length=ue.size) (hpos:0<ue.size) (af:c*ue.size<=16777216) (ai:ue.bytes*c<=281474976710656) (lY:CC (AL z)=B) (k k':IntKind):Ag P F R s.nx w0 w (do pure (.value (<-Instr.makeSlice t (.int k (uy c)) (.int k' (uy c))))) (O (.sl s.nx 0 c c B ue.size)) (s.new (.cells e (Fd (AL z) c))):=by
 obtain⟨_,⟨d,hd,ad⟩,-⟩:=hE.tt t u hu;obtain⟨_,_,i,hi,lC,ag,hzz⟩:=hE.tt e ue ae;rw[hk] at ad;obtain rfl:d= .slice e:=ad;obtain⟨v,hv,hR⟩:=hzz z hz;have hcl:c<=c*ue.size:=xY _ hpos;have hr:=run_makeSlice (P:=P) w t e i v hd hi hv k k' (c:Int) (c:Int) A0 A0 (by rw[wS,lC];exact af) (by rw[ag,<-xZ];omega) A0;rw[wS] at hr;(have hzc:=λR'=>(hR R' (s.nx+1)).cells);have hvl:=(hzc R).length;simp only[vA] at hvl;(have aa:∀R',BM R' (s.nx+1) (Fd (AL z) c) (madeCells v.cells (c*i.size)).toList:=λR'=>by exact lW);(have ah:∀x∈Fd (AL z) c,Hu x=true:=λx hx=>by exact ne);refine Ag.new h _ (.cells (madeCells v.cells (c*i.size)) e) (Fd (AL z) c).length (λR' _ aj=>?_) hr λR' e1 _=>?_
 .have:=BR.row (e:=e) (aa R') ah;simpa using this
 .simp only[VR];rw[e1];exact⟨vX _,0,c,Z,.inr Z,λ_=>rfl,un _,un _,by unfold maxLen;omega,by rw[Cx,hn];omega⟩
theorem IF (h:TR R n a act) {o:Option O_} {x:Option AV} (hx:(match o with|some o=>(Ck a o).map O|none=>O X)=O x) (hj:Pp x m=O j):(o=X/\j=m)\/∃k o',o=O o'/\act.eval o'= .int k (j:Int):=by
 cases o with
 |none=>cases hx;cases hj;exact .inl ⟨Z,Z⟩
 |some o'=>
  simp only at hx
  cases hv:Ck a o' with
  |none=>rw[hv] at hx;cases hx
  |some v=>rw[hv] at hx;cases hx;obtain⟨k,rfl⟩:=PZ hj;have:=AM h hv;simp only[VR] at this;exact .inr ⟨k,o',Z,this⟩
theorem io (hE:Ap P E) (h:HR F R s w0 w) (hT:TR R s.nx a act) (hu:E.tt.get t=O u) {v:V_} (hx:VR R s.nx x v) {lo hi:Option O_} {l h':Option AV} (hl:(match lo with|some o=>(Ck a o).map O|none=>O X)=O l) (hh:(match hi with|some o=>(Ck a o).map O|none=>O X)=O h') {y:AV} (hy:Pz E s u x l h'=O y):Ag P F R s.nx w0 w (do pure (.value (<-Instr.sliceAt t v (lo.map act.eval) (hi.map act.eval) X))) (O y) s:=by
 obtain⟨_,⟨d,hd,hk⟩,-⟩:=hE.tt t u hu;unfold Pz at hy
 cases ak:Pp l 0 with
 |none=>rw[ak] at hy;cases hy
 |some lj=>
  rw[ak] at hy;simp only at hy;have aj:=IF hT hl ak;split at hy
  .rename_i e b o m c ex zq ag;rw[ag] at hk;obtain rfl:d= .slice e:=hk
   cases aa:Pp h' m with
   |none=>rw[aa] at hy;cases hy
   |some hj=>
    rw[aa] at hy;simp only at hy
    cases lC:I0 E e with
    |none=>rw[lC] at hy;cases hy
    |some z=>
     rw[lC] at hy;simp only at hy
     cases hb:(ui lj hj&&(ui hj m||ui hj c)&&uh z zq) with
     |false=>rw[hb] at hy;cases hy
     |true=>
      rw[hb,cond_true] at hy;cases hy;rw[uj,uj] at hb;have h1:=BV hb.1.1;have h2:=hb.1.2;rw[wF] at h2;have ao:=B0 hb.2;have ah:=IF hT hh aa;unfold I0 at lC
      cases ae:E.tt.get e with
      |none=>rw[ae] at lC;cases lC
      |some ue=>
       rw[ae] at lC;cases lC;obtain⟨_,_,i,ad,af,-⟩:=hE.tt e ue ae;simp only[VR] at hx;obtain⟨au,o',c',rfl,ho,hex,ar,av,aw,lz⟩:=hx;have h2:hj<=c':=(by rcases h2 with h2|h2<;>have:=BV h2<;>omega);have e1:(0:Int)<=(lj:Int):=A0;have e2:(0:Int)<=(hj:Int):=A0;have e3:(lj:Int)<=(hj:Int):=A0;have e4:(hj:Int)<=(c':Int):=A0;have n4:hj<=c':=A0
       have ai:(Instr.sliceAt t (.slice (O ⟨(R b).1,o',X⟩) m c') (lo.map act.eval) (hi.map act.eval) X).run P w= .ok (.slice (O (if c'=lj then ⟨(R b).1,o',X⟩ else ⟨(R b).1,o'+lj*ue.size,X⟩)) (hj-lj) (c'-lj)) w:=by
        rcases aj with ⟨rfl,rfl⟩|⟨k1,q1,rfl,hq1⟩<;>rcases ah with ⟨rfl,rfl⟩|⟨k2,q2,rfl,hq2⟩
        .simp[Instr.sliceAt,Instr.slice,u_ hd,Instr.sliceBounds,sizeOf,typeInfo,ad,af,Addr.add_eq]
        .simp[Instr.sliceAt,Instr.slice,u_ hd,Instr.sliceBounds,Instr.sliceBound,asIntOf,hq2,sizeOf,typeInfo,ad,af,Addr.add_eq,e2,e4,n4]
        .simp[Instr.sliceAt,Instr.slice,u_ hd,Instr.sliceBounds,Instr.sliceBound,asIntOf,hq1,sizeOf,typeInfo,ad,af,Addr.add_eq,e1,e3,h1];split<;>rfl
        .simp[Instr.sliceAt,Instr.slice,u_ hd,Instr.sliceBounds,Instr.sliceBound,asIntOf,hq1,hq2,sizeOf,typeInfo,ad,af,Addr.add_eq,e1,e2,e3,e4,n4,h1];split<;>rfl
       refine Ag.val h ai ?_;simp only[VR];refine⟨au,if c'=lj then o' else o'+lj*ue.size,c'-lj,?_,?_,λhx=>by rw[hex hx],by omega,by omega,by omega,?_⟩
       .congr 2;split<;>rfl
       .by_cases hc:c'=lj
        .exact .inl A0
        .exact jD
       .have an:o'+c'*ue.size<=(R b).2:=(by rw[show ue.size=zq from ao];exact lz);have hm:lj*ue.size<=c'*ue.size:=vM _ A0;rw[Nat.sub_mul];split<;>omega
  .rename_i e ag;rw[ag] at hk;obtain rfl:d= .slice e:=hk
   cases aa:Pp h' 0 with
   |none=>rw[aa] at hy;cases hy
   |some hj=>
    rw[aa] at hy;simp only at hy
    cases lC:I0 E e with
    |none=>rw[lC] at hy;cases hy
    |some z=>
     rw[lC] at hy;simp only at hy
     cases hb:(ui lj hj&&ui hj 0) with
     |false=>rw[hb] at hy;cases hy
     |true=>
      rw[hb,cond_true] at hy;cases hy;rw[uj] at hb;have h1:=BV hb.1;have h2:=BV hb.2;obtain rfl:hj=0:=A0;obtain rfl:lj=0:=A0;have ah:=IF hT hh aa;unfold I0 at lC
      cases ae:E.tt.get e with
      |none=>rw[ae] at lC;cases lC
      |some ue=>
       obtain⟨_,_,i,ad,af,-⟩:=hE.tt e ue ae;simp only[VR] at hx;subst hx;refine Ag.val h (v:= .slice X 0 0) ?_ Pg;rcases aj with ⟨rfl,_⟩|⟨k1,q1,rfl,hq1⟩<;>rcases ah with ⟨rfl,_⟩|⟨k2,q2,rfl,hq2⟩
       .simp[Instr.sliceAt,Instr.slice,u_ hd,Instr.sliceBounds,sizeOf,typeInfo,ad]
       .simp[Instr.sliceAt,Instr.slice,u_ hd,Instr.sliceBounds,Instr.sliceBound,asIntOf,hq2,sizeOf,typeInfo,ad]
       .simp[Instr.sliceAt,Instr.slice,u_ hd,Instr.sliceBounds,Instr.sliceBound,asIntOf,hq1,sizeOf,typeInfo,ad]
       .simp[Instr.sliceAt,Instr.slice,u_ hd,Instr.sliceBounds,Instr.sliceBound,asIntOf,hq1,hq2,sizeOf,typeInfo,ad]
  .rename_i x' ag;rw[ag] at hk;obtain rfl:d= .string:=hk;simp only[VR] at hx;obtain⟨rfl,aq⟩:=hx
   cases aa:Pp h' x'.length with
   |none=>rw[aa] at hy;cases hy
   |some hj=>
    rw[aa] at hy;simp only at hy
    cases hb:(ui lj hj&&ui hj x'.length) with
    |false=>rw[hb] at hy;cases hy
    |true=>
     rw[hb,cond_true] at hy;cases hy;rw[uj] at hb;have h1:=BV hb.1;have h2:=BV hb.2;have ah:=IF hT hh aa;have e1:(0:Int)<=(lj:Int):=A0;have e2:(0:Int)<=(hj:Int):=A0;have n5:lj<=x'.length:=A0;refine Ag.val h (v:= .string ((BP x').extract lj hj)) ?_ ?_
     .rcases aj with ⟨rfl,rfl⟩|⟨k1,q1,rfl,hq1⟩<;>rcases ah with ⟨rfl,rfl⟩|⟨k2,q2,rfl,hq2⟩
      .simp[Instr.sliceAt,Instr.slice,u_ hd,Instr.sliceBounds,Cj];rw[Jj];simp
      .simp[Instr.sliceAt,Instr.slice,u_ hd,Instr.sliceBounds,Instr.sliceBound,asIntOf,hq2,Cj,e2,h2]
      .simp[Instr.sliceAt,Instr.slice,u_ hd,Instr.sliceBounds,Instr.sliceBound,asIntOf,hq1,Cj,e1,n5,h1]
      .simp[Instr.sliceAt,Instr.slice,u_ hd,Instr.sliceBounds,Instr.sliceBound,asIntOf,hq1,hq2,Cj,e1,e2,h1,h2]
     .simp only[VR];rw[Jj,JY,Jd];exact⟨Z,λc hc=>aq c (xP (xQ hc))⟩
  .cases hy
theorem bQ (hE:Ap P E) (h:HR F R s w0 w) (hT:TR R s.nx a act) (hu:E.tt.get t=O u) {v:V_} (hx:VR R s.nx x v) {lo:Option O_} {hi mo:O_} {l:Option AV} {h' mv:AV} (hl:(match lo with|some o=>(Ck a o).map O|none=>O X)=O l) (hh:Ck a hi=O h') (hm:Ck a mo=O mv) {y:AV} (hy:PS E s u x l h' mv=O y):Ag P F R s.nx w0 w (do pure (.value (<-Instr.sliceAt t v (lo.map act.eval) (O (act.eval hi)) (O (act.eval mo))))) (O y) s:=by
 obtain⟨_,⟨d,hd,hk⟩,-⟩:=hE.tt t u hu;unfold PS at hy
 cases af:Pp l 0 with
 |none=>rw[af] at hy;cases hy
 |some lj=>
  rw[af] at hy;simp only at hy;have aq:=IF hT hl af
  cases ae:oT mv with
  |none=>rw[ae] at hy;cases hy
  |some mj=>
   rw[ae] at hy;simp only at hy;obtain⟨km,rfl⟩:=PZ ae;have ai:=AM hT hm;simp only[VR] at ai;(split at hy<;>try (cases hy;done));rename_i e b o m c ex zq ar;rw[ar] at hk;obtain rfl:d= .slice e:=hk
   cases ag:oT h' with
   |none=>rw[ag] at hy;cases hy
   |some hj=>
    rw[ag] at hy;simp only at hy;obtain⟨kh,rfl⟩:=PZ ag;have ak:=AM hT hh;simp only[VR] at ak
    cases lC:I0 E e with
    |none=>rw[lC] at hy;cases hy
    |some z=>
     rw[lC] at hy;simp only at hy
     cases hb:(ui lj hj&&ui hj mj&&ui mj m&&uh z zq) with
     |false=>rw[hb] at hy;cases hy
     |true=>
      rw[hb,cond_true] at hy;cases hy;simp only[uj] at hb;have h1:=BV hb.1.1.1;have h2:=BV hb.1.1.2;have h3:=BV hb.1.2;have ao:=B0 hb.2;unfold I0 at lC
      cases aa:E.tt.get e with
      |none=>rw[aa] at lC;cases lC
      |some ue=>
       rw[aa] at lC;cases lC;obtain⟨_,_,i,aj,ah,-⟩:=hE.tt e ue aa;simp only[VR] at hx;obtain⟨av,o',c',rfl,ho,hex,au,ax,ay,lz⟩:=hx;have e1:(0:Int)<=(lj:Int):=A0;have e2:(0:Int)<=(hj:Int):=A0;have e3:(lj:Int)<=(hj:Int):=A0;have e4:(hj:Int)<=(mj:Int):=A0;have e5:(mj:Int)<=(c':Int):=A0;have e6:(0:Int)<=(mj:Int):=A0;have n1:lj<=mj:=A0;have n5:mj<=c':=A0
       have ad:(Instr.sliceAt t (.slice (O ⟨(R b).1,o',X⟩) m c') (lo.map act.eval) (O (act.eval hi)) (O (act.eval mo))).run P w= .ok (.slice (O (if mj=lj then ⟨(R b).1,o',X⟩ else ⟨(R b).1,o'+lj*ue.size,X⟩)) (hj-lj) (mj-lj)) w:=by
        rw[ai,ak];rcases aq with ⟨rfl,rfl⟩|⟨k1,q1,rfl,hq1⟩
        .simp[Instr.sliceAt,Instr.slice,u_ hd,Instr.sliceBounds,Instr.sliceBound,asIntOf,sizeOf,typeInfo,aj,ah,Addr.add_eq,e2,e4,e6,e5,n5,h2]
        .simp[Instr.sliceAt,Instr.slice,u_ hd,Instr.sliceBounds,Instr.sliceBound,asIntOf,hq1,sizeOf,typeInfo,aj,ah,Addr.add_eq,e1,e2,e3,e4,e5,e6,n5,h1,h2,n1];split<;>rfl
       refine Ag.val h ad ?_;simp only[VR];refine⟨av,if mj=lj then o' else o'+lj*ue.size,mj-lj,?_,?_,λ_=>rfl,by omega,by omega,by omega,?_⟩
       .congr 2;split<;>rfl
       .by_cases hc:mj=lj
        .exact .inl A0
        .exact jD
       .have an:o'+c'*ue.size<=(R b).2:=(by rw[show ue.size=zq from ao];exact lz);have hm1:mj*ue.size<=c'*ue.size:=vM _ n5;have aw:lj*ue.size<=mj*ue.size:=vM _ n1;rw[Nat.sub_mul];split<;>omega
end
end
end
section
variable {R':Nat->Nat×Nat} {b k n':Nat} {es:List (AV×AV)} {r:Option AV} {t ty:TypeId} {u ue:TI} {x z:AV}
noncomputable section
section
variable {P:P_} {E:CF} {F:Nat->Option Obj} {R:Nat->Nat×Nat} {s s':St} {w0 w:W_} {n:Nat}
theorem HR.map (h:HR F R s w0 w) (hb:s.h.get b=O (.map es)):∃(lL:Array MapEntry) (cl:Nat) (es1:List (AV×AV)),w.heap[(R b).1]?=O (.map lL cl)/\es1.Perm es/\F8 es/\BM R s.nx (es1.map ul) (lL.toList.map (·.key))/\BM R s.nx (es1.map uq) (lL.toList.map (·.val)):=by obtain⟨_,o,h1,lL,cl,es1,rfl,hp,hd,h3,h4⟩:=h.own b _ hb;exact⟨lL,cl,es1,h1,hp,hd,h3,h4⟩
theorem oU (hE:Ap P E) (h:HR F R s w0 w) (hu:E.tt.get t=O u) {v:V_} (hx:VR R s.nx x v) (hk:eW s u x=O k):(Builtin.len_ #[t] ty #[v]).run P w= .ok (.int .i64 (k:Int)) w:=by
 obtain⟨_,⟨d,hd,aa⟩,-⟩:=hE.tt t u hu;unfold eW at hk;split at hk
 .rename_i l ad;rw[ad] at aa;obtain rfl:d= .string:=aa;cases hk;simp only[VR] at hx;obtain⟨rfl,_⟩:=hx;simp[Builtin.len_,u_ hd,Cj,goInt]
 .rename_i e ad;rw[ad] at aa;obtain rfl:d= .slice e:=aa;exact fS
 .rename_i e b o m c ex zq ad;rw[ad] at aa;obtain rfl:d= .slice e:=aa;cases hk;simp only[VR] at hx;obtain⟨_,o',c',rfl,_⟩:=hx;simp[Builtin.len_,u_ hd,goInt]
 .rename_i e1 e2 ad;rw[ad] at aa;obtain rfl:d= .map e1 e2:=aa;exact fS
 .rename_i e1 e2 b ad;rw[ad] at aa;obtain rfl:d= .map e1 e2:=aa;simp only[VR] at hx;obtain⟨_,rfl⟩:=hx;split at hk
  .rename_i es ae;cases hk;obtain⟨lL,cl,es1,h1,hp,_,h2,_⟩:=h.map ae;have hl:=h2.length;simp only[wQ,vA] at hl;rw[hp.length_eq] at hl;simp[Builtin.len_,u_ hd,goInt,MapKept.run_getObj_map h1,hl]
  .cases hk
 .cases hk
theorem oI (a b:ByteArray):(a==b)=T (a=b):=by exact o9
theorem Rw {y:AV} {r:Bool} (h:Di x y=O r) {a b:V_} (hx:VR R n x a) (hy:VR R' n' y b) {d:TypeDesc} {k:TK} (hk:Us k d) (aa:DP k x=B):Instr.sameNow d a b=O r:=by
 unfold Di at h;split at h<;>(try simp only[VR] at hx hy)
 .subst hx;subst hy;cases h;(cases k<;>simp only[DP] at aa<;>try (cases aa));obtain rfl:d= .bool:=hk;rfl
 .rename_i k1 x' k2 y';subst hx;subst hy;by_cases e:k1=k2
  .subst e;rw[t_ Z,cond_true] at h;cases h;(cases k<;>simp only[DP] at aa<;>try (cases aa));obtain rfl:d= .int _:=hk;rw[J0];simp only[Instr.sameNow,if_true];congr 1
  .exact UR
 .rename_i l m;obtain⟨rfl,hl⟩:=hx;obtain⟨rfl,hm⟩:=hy;cases h;(cases k<;>simp only[DP] at aa<;>try (cases aa));obtain rfl:d= .string:=hk;simp only[Instr.sameNow,oI,Ik];congr 1;by_cases e:l=m
  .subst e;simp
  .rw[f_ e,f_];intro h;exact e (Q7 hl hm h)
 .cases h
theorem Jz {d:TypeDesc} (hd:P.underlying t=O d) {k:TK} (hk:Us k d) (aa:DP k x=B) {a:V_} (b:Bool) (j:Nat):(Instr.checkKey b (j+1) t a).run P w= .ok () w:=by(cases k<;>cases x<;>simp only[DP] at aa<;>try (cases aa));all_goals (obtain rfl:=show d=_ from hk;simp[Instr.checkKey,u_ hd])
theorem Qd {d:TypeDesc} {k:TK} (hk:Us k d) {x:AV} (hkx:DP k x=B) {a:V_} (hx:VR R n x a):∀(es:List (AV×AV)) (lL:List MapEntry) (j:Nat) {r:Option AV},BM R n (es.map ul) (lL.map (·.key))->BM R n (es.map uq) (lL.map (·.val))->Hc x es=O r->
  match r with
  |none=>Instr.findNow d a lL j=O X
  |some y=>∃i v,Instr.findNow d a lL j=O (O (i,v))/\VR R n y v
 |[],[],j,r,h1,h2,h=>by cases h;rfl
 |[],_::_,j,r,h1,h2,h=>by simp[BM] at h1
 |_::_,[],j,r,h1,h2,h=>by simp[BM] at h1
 |e::es,m::lL,j,r,h1,h2,h=>by
  simp only[uv,BM,List.cons.injEq] at h1 h2
  obtain⟨_,_,⟨rfl,rfl⟩,a1,a2⟩:=h1
  obtain⟨_,_,⟨rfl,rfl⟩,b1,b2⟩:=h2
  unfold Hc at h
  cases he:Di x e.1 with
  |none=>rw[he] at h;cases h
  |some q=>
   have hs:=Rw he hx a1 hk hkx
   rw[he] at h
   unfold Instr.findNow
   rw[hs]
   cases q with
   |true=>cases h;exact⟨j,m.val,Z,b1⟩
   |false=>exact Qd hk hkx hx es lL (j+1) a2 b2 h
theorem ZR (hE:Ap P E) (h:HR F R s w0 w) (hu:E.tt.get t=O u) {kt et:T_} (hk:u.k= .map kt et) {uk:TI} (ai:E.tt.get kt=O uk) (aj:E.tt.get et=O ue) (hz:ue.z=O z) {k:AV} {v kv:V_} (hx:VR R s.nx x v) (ae:DP uk.k k=B) (hkv:VR R s.nx k kv) (hr:QT s k x=O r) (ok:Bool):Ag P F R s.nx w0 w (do pure (.value (<-Instr.lookup t v kv ok))) (O (bif ok then .tup [r.getD z,.b r.isSome] else r.getD z)) s:=by
 obtain⟨_,⟨d,hd,ag⟩,-⟩:=hE.tt t u hu;obtain⟨_,⟨dk,ad,af⟩,-⟩:=hE.tt kt uk ai;obtain⟨_,_,i,hi,_,_,hzz⟩:=hE.tt et ue aj;rw[hk] at ag;obtain rfl:d= .map kt et:=ag;obtain⟨zv,ah,hR⟩:=hzz z hz;have hzero:(zeroValue et).run P w= .ok zv w:=(by simp[zeroValue,typeInfo,hi,ah])
 have key:∃yv:V_,VR R s.nx (r.getD z) yv/\(Instr.lookup t v kv ok).run P w= .ok (if ok=B then .tuple #[yv,.bool r.isSome] else yv) w:=by
  cases x
  case m b=>
   simp only[VR] at hx;simp only[QT] at hr;obtain⟨_,rfl⟩:=hx;split at hr
   .rename_i es ak;obtain⟨lL,cl,es1,h1,hp,an,h2,h3⟩:=h.map ak;have hf:=Qd af ae hkv es1 lL.toList 0 h2 h3 (XF hp an hr)
    have aa:∀(q:Option (Nat×V_)),Instr.findNow dk kv lL.toList 0=O q->(Instr.lookup t (.map (O (R b).1)) kv ok).run P w= .ok (if ok=B then .tuple #[(match q with|some p=>p.2|none=>zv),.bool q.isSome] else (match q with|some p=>p.2|none=>zv)) w:=λq hq=>by
     unfold Instr.lookup;simp only[Sem.run_bind,u_ hd,Result.andThen_ok,MapKept.run_getObj_map h1,Sem.run_pure,Jz ad af ae];unfold Instr.findKey;simp only[Sem.run_bind,u_ ad,Result.andThen_ok,hq,Sem.run_pure]
     cases q with
     |none=>simp only[Sem.run_pure,Result.andThen_ok,Sem.run_bind,hzero];cases ok<;>rfl
     |some p=>simp only[Sem.run_pure,Result.andThen_ok,Sem.run_bind];cases ok<;>rfl
    cases r with
    |none=>exact⟨zv,hR R s.nx,aa X hf⟩
    |some y=>obtain⟨i',v',e1,e2⟩:=hf;exact⟨v',e2,aa _ e1⟩
   .cases hr
  (case nm=>simp only[VR] at hx;simp only[QT] at hr;cases hr;subst hx;refine⟨zv,hR R s.nx,?_⟩;unfold Instr.lookup;simp only[Sem.run_bind,u_ hd,Result.andThen_ok,Sem.run_pure,Jz ad af ae];unfold Instr.findKey;simp only[Sem.run_bind,u_ ad,Result.andThen_ok,Instr.findNow,Sem.run_pure,hzero];cases ok<;>rfl);all_goals (simp only[QT] at hr;cases hr)
 obtain⟨yv,e1,e2⟩:=key;refine Ag.val h e2 ?_;cases ok
 .exact e1
 .simp only[cond_true,if_true,VR];refine⟨[yv,.bool r.isSome],?_,Z⟩;simp only[BM,VR];exact⟨yv,_,Z,e1,_,_,Z,Z,Z⟩
end
end
end
section
variable {D b:Nat} {es:List (AV×AV)} {lL:Array MapEntry} {t:TypeId} {u:TI}
noncomputable section
section
variable {P:P_} {E:CF} {F:Nat->Option Obj} {R:Nat->Nat×Nat} {s s':St} {w0 w:W_} {n:Nat}
theorem ZW {d:TypeDesc} {a b:V_} (h:Instr.sameNow d a b=O B) (q:Nat):Instr.sameBits (q+1) b a=true:=by
 cases d<;>cases a<;>cases b<;>simp only[Instr.sameNow] at h<;>try (cases h)
 case int.int.int=>
  rename_i k k1 n1 k2 n2;by_cases e:k1=k2
  .rw[p_ e] at h;have h2:(n1==n2)=true:=Option.some.inj h;subst e;simp only[beq_iff_eq] at h2;subst h2;simp[Instr.sameBits]
  .rw[n_ e] at h;cases h
 (case string.string.string=>rename_i l m;have h2:=Option.some.inj h;rw[oI,decide_eq_true_eq] at h2;subst h2;simp[Instr.sameBits,oI]);case bool.bool.bool=>rename_i l m;have h2:=Option.some.inj h;simp only[beq_iff_eq] at h2;subst h2;simp[Instr.sameBits]
theorem Se {d:TypeDesc} {k:TK} (hk:Us k d) {x y:AV} (hkx:DP k x=B) {a b:V_} (hx:VR R n x a) (hy:VR R n y b):∀(es:List (AV×AV)) (lL:List MapEntry) (j:Nat) {es':List (AV×AV)},BM R n (es.map ul) (lL.map (·.key))->BM R n (es.map uq) (lL.map (·.val))->JG x y es=O es'->
  (Instr.findNow d a lL j=O X/\es'=es++[(x,y)])\/
  ∃i v e,Instr.findNow d a lL j=O (O (j+i,v))/\lL[i]?=O e/\(∀q,Instr.sameBits (q+1) e.key a=B)/\
   BM R n (es'.map ul) ((lL.modify i λe=>{e with key:=a,val:=b}).map (·.key))/\BM R n (es'.map uq) ((lL.modify i λe=>{e with key:=a,val:=b}).map (·.val))
 |[],[],j,es',h1,h2,h=>by cases h;exact .inl ⟨Z,Z⟩
 |[],_::_,j,es',h1,h2,h=>by simp[BM] at h1
 |_::_,[],j,es',h1,h2,h=>by simp[BM] at h1
 |e::es,m::lL,j,es',h1,h2,h=>by
  simp only[uv,BM,List.cons.injEq] at h1 h2
  obtain⟨_,_,⟨rfl,rfl⟩,a1,a2⟩:=h1
  obtain⟨_,_,⟨rfl,rfl⟩,b1,b2⟩:=h2
  unfold JG at h
  cases he:Di x e.1 with
  |none=>rw[he] at h;cases h
  |some q=>
   have hs:=Rw he hx a1 hk hkx
   rw[he] at h
   unfold Instr.findNow
   rw[hs]
   cases q with
   |true=>
    cases h
    refine .inr ⟨0,m.val,m,Z,Z,λq=>?_,?_,?_⟩
    .exact ZW hs q
    .simp only[xe,uv,BM]
     exact⟨_,_,Z,hx,a2⟩
    .simp only[xe,uv,BM]
     exact⟨_,_,Z,hy,b2⟩
   |false=>
    simp only at h
    cases hu:JG x y es with
    |none=>rw[hu] at h;cases h
    |some es2=>
     rw[hu] at h
     cases h
     rcases Se hk hkx hx hy es lL (j+1) a2 b2 hu with ⟨c1,c2⟩|⟨i,v,e',c1,c2,c3,c4,c5⟩
     .exact .inl ⟨c1,by rw[c2];rfl⟩
     .refine .inr ⟨i+1,v,e',by rw[c1,xT,vy 1 i],by simpa using c2,c3,?_,?_⟩
      .simp only[xf,uv,BM]
       exact⟨_,_,Z,a1,c4⟩
      .simp only[xf,uv,BM]
       exact⟨_,_,Z,b1,c5⟩
theorem Yz (hE:Ap P E) (hu:E.tt.get t=O u) {kt et:T_} (hk:u.k= .map kt et) {uk:TI} (ah:E.tt.get kt=O uk) {k y:AV} {kv yv:V_} (ae:DP uk.k k=B) (hkv:VR R n k kv) (hy:VR R n y yv) {cl:Nat} (h1:w.heap[D]?=O (.map lL cl)) {es':List (AV×AV)} (h2:BM R n (es.map ul) (lL.toList.map (·.key))) (h3:BM R n (es.map uq) (lL.toList.map (·.val))) (hup:JG k y es=O es'):∃(aa:Array MapEntry) (ai:Nat),(Instr.mapUpdate t (.map (O D)) kv yv).run P w= .ok () (w.putObj D (.map aa ai))/\BM R n (es'.map ul) (aa.toList.map (·.key))/\BM R n (es'.map uq) (aa.toList.map (·.val)):=by
 obtain⟨_,⟨d,hd,ag⟩,-⟩:=hE.tt t u hu;obtain⟨_,⟨dk,ad,af⟩,-⟩:=hE.tt kt uk ah;rw[hk] at ag;obtain rfl:d= .map kt et:=ag;rcases Se af ae hkv hy es lL.toList 0 h2 h3 hup with ⟨c1,c2⟩|⟨i,v,e,c1,c2,c3,c4,c5⟩
 .refine⟨lL.push {key:=kv,val:=yv,born:=cl},cl+1,?_,?_,?_⟩
  .unfold Instr.mapUpdate;simp only[Sem.run_bind,u_ hd,Result.andThen_ok,MapKept.run_getObj_map h1,Sem.run_pure,Jz ad af ae];unfold Instr.findKey;simp only[Sem.run_bind,u_ ad,Result.andThen_ok];rw[c1];simp only[Sem.run_pure,Result.andThen_ok,Sem.run_bind,MapKept.run_setObj_map _ h1];rfl
  .rw[c2];simp only[wM,uv,vv,xg];exact h2.append (by simp only[BM];exact⟨_,_,Z,hkv,Z⟩)
  .rw[c2];simp only[wM,uv,vv,xg];exact h3.append (by simp only[BM];exact⟨_,_,Z,hy,Z⟩)
 .rw[vF] at c1;refine⟨lL.modify i λe=>{e with key:=kv,val:=yv},cl,?_,by rw[xh];exact c4,by rw[xh];exact c5⟩;unfold Instr.mapUpdate;simp only[Sem.run_bind,u_ hd,Result.andThen_ok,MapKept.run_getObj_map h1,Sem.run_pure,Jz ad af ae];unfold Instr.findKey;simp only[Sem.run_bind,u_ ad,Result.andThen_ok];rw[c1];have aj:lL[i]?=O e:=(by rw[<-vW];exact c2);simp only[Sem.run_pure,Result.andThen_ok,aj,wN,Option.getD_some];unfold Instr.keyThatStays;rw[p_ (c3 9999)];simp only[Sem.run_pure,Sem.run_bind,Result.andThen_ok,pure_bind];exact MapKept.run_setObj_map _ h1
theorem Tx (hE:Ap P E) (h:HR F R s w0 w) (hu:E.tt.get t=O u) {kt et:T_} (hk:u.k= .map kt et) {uk:TI} (af:E.tt.get kt=O uk) {k y:AV} {kv yv:V_} (ag:DP uk.k k=B) (hkv:VR R s.nx k kv) (hy:VR R s.nx y yv) {es':List (AV×AV)} (ae:s.h.get b=O (.map es)) (hup:JG k y es=O es'):Ag P F R s.nx w0 w (do Instr.mapUpdate t (.map (O (R b).1)) kv yv;pure .skip) X ⟨s.h.set b (O (.map es')),s.nx⟩:=by
 obtain⟨lL,cl,es1,h1,hp,ah,h2,h3⟩:=h.map ae;obtain⟨g1,u',g2,g3⟩:=aI hp ah hup;obtain⟨aa,ad,r1,r2,r3⟩:=Yz hE hu hk af ag hkv hy h1 h2 h3 g2;refine⟨R,w.putObj (R b).1 (.map aa ad),λ_ _=>rfl,un _,?_,?_⟩
 .refine h.put (by rw[ae];simp) (.map es') (.map aa ad) ⟨aa,ad,u',Z,g3,g1,r2,r3⟩ Z Z Z ?_ λj hj=>?_
  .have:=Af h1;simp[xi,this]
  .simp[xi,wO (Ne.symm hj)]
 .simp[Sem.run_bind,r1]
end
end
end
section
variable {b c k:Nat} {e t ty:TypeId} {u:TI} {x z:AV}
noncomputable section
section
variable {P:P_} {E:CF} {F:Nat->Option Obj} {R:Nat->Nat×Nat} {s s':St} {w0 w:W_} {n:Nat}
theorem BM.ones {l:List AV} {vs:List V_} (h:BM R n l vs) (h1:∀c∈l,Hu c=B):∀v∈vs,v.oneCell'=true:=λv hm=>by
 obtain⟨j,hj,rfl⟩:=wH.1 hm
 have hl:=h.length
 obtain⟨u,e1,e2⟩:=h.get (j:=j) (vE A0)
 rw[vE hj] at e1
 cases e1
 exact e2.one (h1 _ (wJ _))
theorem MQ {l:List Nat} (h:∀c∈l,c<256):byteCells (BP l)=l.map λc:Nat=>Value.int .u8 (c:Int):=by unfold byteCells;have:=JT h;(conv=>rhs;rw[<-this]);rw[wi];rfl
theorem bM (hE:Ap P E) (h:HR F R s w0 w) {tx:T_} {ux:TI} (ad:E.tt.get tx=O ux) {z:Nat} {y:AV} {yv:V_} (hy:VR R s.nx y yv) {l:List AV} (hs:lD s ux z y=O (l,k)):∃news,Go.Src P z tx yv k news w/\BM R s.nx l news/\∀c∈l,Hu c=true:=by
 obtain⟨_,⟨d,hd,hk⟩,-⟩:=hE.tt tx ux ad;unfold lD at hs;split at hs
 .rename_i e aa;rw[aa] at hk;obtain rfl:d= .slice e:=hk;cases hs;simp only[VR] at hy;subst hy;exact⟨[],Go.Src.ofNil w hd 0,by simp[BM],λc hc=>(by cases hc)⟩
 .rename_i l' aa;rw[aa] at hk;obtain rfl:d= .string:=hk
  cases hz:uh z 1 with
  |false=>rw[hz] at hs;cases hs
  |true=>
   rw[hz,cond_true] at hs;cases hs;have hz:=B0 hz;subst hz;simp only[VR] at hy;obtain⟨rfl,hb⟩:=hy;have h1:=Go.Src.ofString (P:=P) w hd (BP l');rw[Cj,MQ hb] at h1;refine⟨_,h1,BM.of (by simp) λj x hj=>?_,λc hc=>?_⟩
   .rw[vm] at hj
    cases hg:l'[j]? with
    |none=>rw[hg] at hj;cases hj
    |some c=>rw[hg] at hj;cases hj;exact⟨.int .u8 (c:Int),by rw[vm,hg];rfl,by simp only[VR];rfl⟩
   .obtain⟨x,_,rfl⟩:=vL.1 hc;rfl
 .rename_i e b o m c ex q aa;rw[aa] at hk;obtain rfl:d= .slice e:=hk
  cases hz:uh q z with
  |false=>rw[hz] at hs;cases hs
  |true=>
   rw[hz,cond_true] at hs
   cases hl:s.load b o (m*z) with
   |none=>rw[hl] at hs;cases hs
   |some cs=>rw[hl] at hs;cases hs;obtain⟨h1,h2,h3,vs,h4,h5⟩:=h.load hl;simp only[VR] at hy;obtain⟨_,o',c',rfl,ho,_,_,af,_⟩:=hy;refine⟨vs,Go.Src.ofSlice w hd ⟨(R b).1,o',X⟩ k c' vs (by rw[h4.length,h1]) (λj u hu=>?_) (h4.ones h3),h4,h3⟩;have hj:=(vU.1 hu).1;rw[h4.length,h1] at hj;have hc0:c'≠0:=(by intro e0;have:k=0:=A0;subst this;simp at hj);have ae:o'=o:=ho.resolve_left hc0;rw[Addr.add_eq,ae];exact h5 j u hu
 .cases hs
theorem KT (t tx ty e:T_) (i:TypeInfo) (ht:P.underlying t=O (.slice e)) (hi:P.info? e=O i) (g aa ad:Nat) (nB:Array V_) (hg:w.heap[g]?=O (.cells nB e (0,0))) (x:V_) (n:Nat) (news:List V_) (hs:Go.Src P i.size tx x n news w) (ae:aa+n<=ad) (lz:aa*i.size+news.length<=nB.size):(Builtin.append_ #[t,tx] ty #[.slice (O ⟨g,0,X⟩) aa ad,x]).run P w= .ok (.slice (O ⟨g,0,X⟩) (aa+n) ad) (w.setRow g (nB.toList.take (aa*i.size)++news++nB.toList.drop (aa*i.size+news.length)).toArray):=by have hst:=run_storeCells_at (P:=P) g (aa*i.size) e news 0 nB w hg A0 hs.one;simp only[vz] at hst;rcases hs.kind with ⟨e',hk⟩|hk<;>simp[Builtin.append_,u_ ht,u_ hk,sizeOf,typeInfo,hi,hs.len,ae,hs.cells,Addr.add_eq,hst]
theorem HR.writeX (h:HR F R s w0 w) {o:Nat} {cs vs:List AV} {us:List V_} (hc:s.cells b=O (e,cs)) (ho:o<=cs.length) (hv:BM R s.nx vs us) (h1:∀c∈vs,Hu c=B) (lz:o+vs.length<=(R b).2):∃w',(storeCells ⟨(R b).1,o,X⟩ us).run P w= .ok () w'/\HR F R ⟨s.h.set b (O (.cells e (Qg cs o++vs++Qi cs (o+vs.length)))),s.nx⟩ w0 w':=by
 obtain⟨hg,arr,g1,g2,g3,g4,g5⟩:=h.at hc;have aa:=hv.length;have lY:∀v∈us,v.oneCell'=true:=hv.ones h1;refine⟨_,run_storeCells_at (P:=P) (R b).1 o e us 0 arr w g1 A0 lY,?_⟩;simp only[vz];refine h.put (by rw[hg];simp) _ _ ⟨_,Z,?_,?_,?_,?_⟩ Z Z Z (setRow_heap w _ arr _ e _ g1) λk hk=>setRow_other w _ k _ hk
 .exact XC
 .rw[JY,Jd];simp only[vS,wW,xS];omega
 .rw[JY,Jd];have hN:(cs.take o++vs++cs.drop (o+vs.length)).length=max cs.length (o+vs.length):=rM;rw[hN];have ad:arr.toList.length=arr.size:=vA;have e1:=WA arr.toList us o (max cs.length (o+us.length)) A0 A0;rw[<-aa];rw[e1];have p1:(arr.toList.take (max cs.length (o+us.length))).take o=(arr.toList.take cs.length).take o:=(by rw[wh,wh];congr 1;omega)
  have p2:(arr.toList.take (max cs.length (o+us.length))).drop (o+us.length)=(arr.toList.take cs.length).drop (o+us.length):=by
   by_cases mN:o+us.length<=cs.length
   .rw[Nat.max_eq_left mN]
   .rw[Nat.max_eq_right A0,xj Nn,xj Nn]
  rw[p1,p2];exact((g4.take o).append hv).append (g4.drop _)
 .rw[JY,Jd];exact hX
theorem MU (h:HR F R s w0 w) {cs:List AV} {vs:List V_} (hv:BM R s.nx cs vs) (h1:∀c∈cs,Hu c=B) (more:Array V_) {z:Nat} (aa:k<=c) (hc:c<=maxLen) (lC:c*z<=vs.length+more.size) {m:Sem V_} (hr:m.run P w= .ok (.slice (O ⟨w.heap.size,0,X⟩) k c) (w.drew.alloc (.cells (vs.toArray++more) e))):Ag P F R s.nx w0 w (do pure (.value (<-m))) (O (.sl s.nx 0 k k G z)) (s.new (.cells e cs)):=by
 have hd:=h.drew;have hR:(λb=>if b=s.nx then (w.drew.heap.size,vs.length+more.size) else R b) s.nx=(w.heap.size,vs.length+more.size):=p_ Z;have hE:E4 s.nx R (λb=>if b=s.nx then (w.drew.heap.size,vs.length+more.size) else R b):=λb hb=>n_ A0
 obtain⟨h2,h3⟩:=hd.new (.cells e cs) (.cells (vs.toArray++more) e) (vs.length+more.size) ⟨vs.toArray++more,Z,by simp,by rw[<-hv.length];omega,by
  rw[<-hv.length]
  simpa using hv.mono (vB _) hE,h1⟩
 refine⟨_,_,h3,vB _,h2,.slice (O ⟨w.heap.size,0,X⟩) k c,by simp[Sem.run_bind,hr],?_⟩;simp only[VR];exact⟨vX _,0,c,by simp,.inr Z,λh=>CZ,aa,aa,hc,by simp;omega⟩
theorem bP (hE:Ap P E) (h:HR F R s w0 w) {tx:T_} {u0 ux:TI} (bw:E.tt.get t=O u0) (aw:u0.k= .slice e) (hu:E.tt.get e=O u) (hz:u.z=O z) (bt:(AL z).length=u.size) (hpos:0<u.size) (bu:E.tt.get tx=O ux) {y x':AV} {xv yv:V_} (hx:VR R s.nx x xv) (hy:VR R s.nx y yv) (ha:TJ s e u ux x y=O (x',s')):Ag P F R s.nx w0 w (do pure (.value (<-Builtin.append_ #[t,tx] ty #[xv,yv]))) (O x') s':=by
 obtain⟨_,⟨d,hd,bj⟩,-⟩:=hE.tt t u0 bw;obtain⟨_,_,i,hi,lC,bb,hzz⟩:=hE.tt e u hu;rw[aw] at bj;obtain rfl:d= .slice e:=bj;obtain⟨zv,aq,ck⟩:=hzz z hz;have hzc:zv.cells.size=i.size:=(by rw[lC,<-bt,<-(ck R s.nx).cells.length,vA]);unfold TJ at ha
 cases ar:lD s ux u.size y with
 |none=>rw[ar] at ha;cases ha
 |some p=>
  obtain⟨l,k⟩:=p;rw[ar] at ha;simp only at ha;obtain⟨news,lM,hv,lY⟩:=bM hE h bu hy ar;rw[<-lC] at lM;have hnl:=lM.newsLen;split at ha
  .simp only[VR] at hx;subst hx
   cases hk:uh k 0 with
   |true=>rw[hk,cond_true] at ha;cases ha;have:=B0 hk;subst this;refine Ag.val h (v:= .slice X 0 0) ?_ Pg;rcases lM.kind with ⟨e',hkk⟩|hkk<;>simp[Builtin.append_,u_ hd,u_ hkk,sizeOf,typeInfo,hi,lM.len,lM.cells]
   |false=>
    rw[hk,cond_false] at ha;(have aw:k≠0:=λe0=>by subst e0;cases hk)
    cases hb:(ui (k*u.bytes) 140737488355328&&ui k 1000000) with
    |false=>rw[hb] at ha;cases ha
    |true=>rw[hb,cond_true] at ha;cases ha;rw[uj] at hb;have bd:=BV hb.1;have bq:=BV hb.2;have hold:(Builtin.firstCells i.size 0 (.slice X 0 0)).run P w.drew= .ok ([]:List V_).toArray w.drew:=(by simp[Builtin.firstCells]);have hr:=run_append_grow_src (P:=P) w t tx ty e i zv hd hi aq X 0 0 [] hold yv k news lM A0 A0 (growslice_fits A0 (by rw[vF,bb];exact bd));rw[vF,vZ] at hr;have hge:=grownCap_ge w k 0 e;refine MU h hv lY _ hge (grownCap_le_maxLen w k 0 e CJ) ?_ hr;rw[size_zeroCells,hzc,hnl,lC,<-vG];exact vM _ A0
  .rename_i b o m c ex q
   cases hk:uh k 0 with
   |true=>rw[hk,cond_true] at ha;cases ha;have:=B0 hk;subst this;have bg:=hx;simp only[VR] at hx;obtain⟨_,o',c',rfl,ho,_,_,ak,_⟩:=hx;have hn0:news=[]:=vH (by simpa using hnl);subst hn0;refine Ag.val h (v:= .slice (O ⟨(R b).1,o',X⟩) m c') ?_ bg;rcases lM.kind with ⟨e',hkk⟩|hkk<;>simp[Builtin.append_,u_ hd,u_ hkk,sizeOf,typeInfo,hi,lM.len,lM.cells,ak,storeCells]
   |false=>
    rw[hk,cond_false] at ha;(have aw:k≠0:=λe0=>by subst e0;cases hk)
    cases hin:(ui (m+k) c&&uh q u.size) with
    |true=>
     rw[hin,cond_true] at ha;rw[uj] at hin;have cp:=BV hin.1;have bm:=B0 hin.2
     cases af:s.cells b with
     |none=>rw[af] at ha;cases ha
     |some pc=>
      obtain⟨e',br⟩:=pc;rw[af] at ha;simp only at ha
      cases ah:(uh e' e&&ui (o+m*u.size) br.length) with
      |false=>rw[ah] at ha;cases ha
      |true=>
       rw[ah,cond_true] at ha;cases ha;rw[uj] at ah;have ba:=B0 ah.1;have mN:=BV ah.2;subst ba;have bg:=hx;simp only[VR] at hx;obtain⟨cj,o',c',rfl,ho,hex,ag,ak,ao,lz⟩:=hx;rw[bm] at lz;have bz:o'=o:=ho.resolve_left A0;subst bz;have bh:m*u.size+news.length=(m+k)*u.size:=(by rw[hnl,lC,vG]);have cg:(m+k)*u.size<=c'*u.size:=vM _ A0;have cn:=hv.length;obtain⟨w',hst,hh⟩:=h.writeX (P:=P) af mN hv lY A0;refine⟨R,w',E4.refl _ _,un _,hh,.slice (O ⟨(R b).1,o',X⟩) (m+k) c',?_,?_⟩
       .have hr:(Builtin.append_ #[t,tx] ty #[.slice (O ⟨(R b).1,o',X⟩) m c',yv]).run P w= .ok (.slice (O ⟨(R b).1,o',X⟩) (m+k) c') w':=(by have aa:m+k<=c':=A0;rw[<-lC] at hst;rcases lM.kind with ⟨e2,hkk⟩|hkk<;>simp[Builtin.append_,u_ hd,u_ hkk,sizeOf,typeInfo,hi,lM.len,aa,lM.cells,Addr.add_eq,hst]);simp[Sem.run_bind,hr]
       .simp only[VR];rw[bm];exact⟨cj,o',c',Z,.inr Z,hex,ag,by omega,ao,lz⟩
    |false=>
    rw[hin,cond_false] at ha
    cases an:(ex&&um c (m+k)&&uh q u.size&&ui ((m+k)*u.bytes) 140737488355328&&ui (m+k) 1000000) with
    |true=>
     rw[an,cond_true] at ha;simp only[uj] at an;obtain⟨⟨⟨⟨cd,bo⟩,ca⟩,ay⟩,bn⟩:=an;have bo:=DR bo;have hq:=B0 ca;have ay:=BV ay;have bn:=BV bn
     cases hl:s.load b o (m*u.size) with
     |none=>rw[hl] at ha;cases ha
     |some old=>
      rw[hl] at ha;cases ha;obtain⟨l1,l2,l3,ovs,l4,l5⟩:=h.load hl;simp only[VR] at hx;obtain⟨_,o',c',rfl,ho,hex,ag,ak,ao,lz⟩:=hx;have ch:=hex cd
      have ad:∀c∈old++l,Hu c=true:=λc hc=>by
       rcases wA.1 hc with hc|hc
       .exact l3 c hc
       .exact lY c hc
      have hold:(Builtin.firstCells i.size m (.slice (O ⟨(R b).1,o',X⟩) m c')).run P w.drew= .ok ovs.toArray w.drew:=(by exact o8);have hr:=run_append_grow_src (P:=P) w t tx ty e i zv hd hi aq (O ⟨(R b).1,o',X⟩) m c' ovs hold yv k news lM A0 A0 (growslice_fits A0 (by rw[bb];exact ay));have hge:=grownCap_ge w (m+k) c' e;have hcl:=grownCap_le_maxLen w (m+k) c' e CJ;refine MU h (l4.append hv) ad _ hge hcl ?_ hr;exact fQ
    |false=>
    rw[an,cond_false] at ha
    cases hb:(uh o 0&&uh q u.size&&ui ((m+k)*u.bytes) 140737488355328&&ui (m+k) 1000000) with
    |false=>rw[hb] at ha;cases ha
    |true=>
     rw[hb,cond_true] at ha;rw[uj,uj,uj] at hb;obtain⟨⟨⟨bd,bq⟩,bc⟩,bp⟩:=hb;have bx:=B0 bd;have hq:=B0 bq;have bc:=BV bc;have bp:=BV bp;subst bx
     cases af:s.cells b with
     |none=>rw[af] at ha;cases ha
     |some pc=>
      obtain⟨e',br⟩:=pc;rw[af] at ha;simp only at ha
      cases he:uh e' e with
      |false=>rw[he] at ha;cases ha
      |true=>
       rw[he,cond_true] at ha;have ba:=B0 he;subst ba
       cases hl:s.load b 0 (m*u.size) with
       |none=>rw[hl] at ha;cases ha
       |some old=>
        rw[hl] at ha;cases ha;obtain⟨l1,l2,l3,ovs,l4,l5⟩:=h.load hl;obtain⟨aj,arr,g1,g2,g3,g4,g5⟩:=h.at af;simp only[VR] at hx;obtain⟨_,o',c',rfl,ho,hex,ag,ak,ao,lz⟩:=hx;rw[hq] at lz
        have ad:∀c∈old++l,Hu c=true:=λc hc=>by
         rcases wA.1 hc with hc|hc
         .exact l3 c hc
         .exact lY c hc
        have hold:(Builtin.firstCells i.size m (.slice (O ⟨(R b).1,o',X⟩) m c')).run P w.drew= .ok ovs.toArray w.drew:=(by exact o8);by_cases aa:m+k<=c'
        .have hc0:c'≠0:=A0;obtain rfl:o'=0:=ho.resolve_left hc0
         have av:(ex&&um c (m+k))=false:=by
          cases az:ex with
          |false=>rfl
          |true=>
           have ch:=hex az
           cases lg:um c (m+k) with
           |false=>rfl
           |true=>have:=DR lg;omega
         rw[av,cond_false];have cg:(m+k)*i.size<=c'*i.size:=vM _ aa;have cq:c'*i.size<=arr.size:=(by rw[lC,g2];omega);have bh:m*i.size+news.length=(m+k)*i.size:=(by rw[hnl,vG]);have hr:=KT (P:=P) t tx ty e' i hd hi (R b).1 m c' arr g1 yv k news lM aa A0;have hf:=h.forget b;(have bf:E4 s.nx R (λj=>if j=s.nx then R b else R j):=λj hj=>n_ A0);have ax:∀j,((s.h.set b X).set s.nx (O (.cells e' (old++l)))).get j=if j=s.nx then O (.cells e' (old++l)) else if j=b then X else s.h.get j:=λj=>by rw[AJ.get_set,AJ.get_set]
         have au:(arr.toList.take (m*i.size))=ovs:=by
          apply wt;intro j;by_cases hj:j<m*i.size
          .have bk:j<ovs.length:=(by rw[l4.length,l1,<-lC];exact hj);have h5:=l5 j ovs[j] (vE bk);rw[vF,AU g1] at h5;rw[List.getElem?_take_of_lt hj,vE bk,<-h5,vW]
          .rw[List.getElem?_take_eq_none A0,List.getElem?_eq_none (by rw[l4.length,l1,<-lC];omega)]
         refine⟨_,w.setRow (R b).1 (arr.toList.take (m*i.size)++news++arr.toList.drop (m*i.size+news.length)).toArray,bf,vB _,⟨h.os,h.tape,h.output,λj o' hj=>?_,λj hj=>?_,λj y hy=>?_,λj j' hj ae ee=>?_⟩,.slice (O ⟨(R b).1,0,X⟩) (m+k) c',by simp[Sem.run_bind,hr],?_⟩
         .have cm:=(h.own b _ aj).1;rw[setRow_other w _ j _ (λe0=>by rw[e0,cm] at hj;cases hj)];exact h.fr j o' hj
         .simp only[St.new] at hj⊢;rw[ax] at hj;by_cases e1:j=s.nx
          .omega
          .rw[n_ e1] at hj;by_cases e2:j=b
           .rw[p_ e2] at hj;exact a_ Z hj
           .rw[n_ e2] at hj;have:=h.lt j hj;omega
         .simp only[St.new] at hy⊢;rw[ax] at hy;by_cases e1:j=s.nx
          .rw[p_ e1] at hy;cases hy;rw[p_ e1];refine⟨(h.own b _ aj).1,_,setRow_heap w _ arr _ e' _ g1,_,Z,?_,?_,?_,ad⟩
           .exact XC
           .rw[vS,l1,<-hv.length,<-lC,bh,<-g2];omega
           .have e3:(old++l).length=(ovs++news).length:=(by rw[vS,vS,l4.length,hv.length]);rw[e3,au];simp only[wZ];exact(l4.append hv).mono (vB _) bf
          .rw[n_ e1] at hy;rw[n_ e1];by_cases e2:j=b
           .rw[p_ e2] at hy;cases hy
           .rw[n_ e2] at hy;obtain⟨f1,o2,f2,f3⟩:=h.own j y hy;refine⟨f1,o2,?_,f3.mono (vB _) bf⟩;rw[setRow_other w _ _ _ (λe4=>e2 (h.inj j b (by rw[hy];simp) (by rw[aj];simp) e4))];exact f2
         .simp only[St.new] at hj ae;rw[ax] at hj ae;by_cases e1:j=s.nx
          .by_cases e2:j'=s.nx
           .rw[e1,e2]
           .rw[n_ e2] at ae;by_cases e3:j'=b
            .rw[p_ e3] at ae;exact a_ Z ae
            .rw[n_ e3] at ae;simp only[p_ e1,n_ e2] at ee;exact a_ (h.inj b j' (by rw[aj];simp) ae ee) (λe4=>e3 e4.symm)
          .rw[n_ e1] at hj;by_cases e3:j=b
           .rw[p_ e3] at hj;exact a_ Z hj
           .rw[n_ e3] at hj;by_cases e2:j'=s.nx
            .simp only[n_ e1,p_ e2] at ee;exact a_ (h.inj j b hj (by rw[aj];simp) ee) e3
            .rw[n_ e2] at ae;by_cases e4:j'=b
             .rw[p_ e4] at ae;exact a_ Z ae
             .rw[n_ e4] at ae;simp only[n_ e1,n_ e2] at ee;exact h.inj j j' hj ae ee
         .simp only[VR,if_true,St.new];refine⟨vX _,0,c',Z,.inr Z,λh=>CZ,aa,aa,ao,?_⟩;rw[<-lC,<-g2];omega
        .have hr:=run_append_grow_src (P:=P) w t tx ty e' i zv hd hi aq (O ⟨(R b).1,o',X⟩) m c' ovs hold yv k news lM A0 A0 (growslice_fits A0 (by rw[bb];exact bc));have hge:=grownCap_ge w (m+k) c' e';have hcl:=grownCap_le_maxLen w (m+k) c' e' CJ;have ai:grownCap w (m+k) c' e'*u.size<=(ovs++news).length+(Builtin.zeroCells zv.cells (grownCap w (m+k) c' e'-(m+k))).size:=(by exact fQ);by_cases hcb:(ex&&um c (m+k))=B
         .rw[hcb,cond_true];exact MU h (l4.append hv) ad _ hge hcl ai hr
         .rw[Bool.eq_false_iff.2 hcb,cond_false];exact MU (h.forget b) (s:=⟨s.h.set b X,s.nx⟩) (l4.append hv) ad _ hge hcl ai hr
  .cases ha
end
end
end
noncomputable section
def bI (a:AJ AV) (o:Option O_):Option (Option AV):=match o with
 |some o=>(Ck a o).map O
 |none=>O X
def Ya:AV->Bool
 | .p _ _=>B
 | .fn _ _ _=>B
 |_=>G
def Bh (E:CF) (a:AJ AV) (s:St) (x:O_):Option (Option AV×St):=(Ck a x).map λv=>(O v,s)
def Az (E:CF) (a:AJ AV) (s:St) (x:O_):Option (Option AV×St):=(Ck a x).map λv=>(O v,s)
def Be (E:CF) (a:AJ AV) (s:St) (c x y:O_):Option (Option AV×St):=match Ck a c with
  |some (.b B)=>(Ck a x).map λv=>(O v,s)
  |some (.b G)=>(Ck a y).map λv=>(O v,s)
  |_=>X
def Aa (E:CF) (a:AJ AV) (s:St) (x:O_):Option (Option AV×St):=match Ck a x with
  |some v=>bif Ya v then O (O v,s) else X
  |none=>X
def BB (E:CF) (a:AJ AV) (s:St) (e:T_):Option (Option AV×St):=match E.tt.get e with
  |some u=>match u.z with
   |some z=>bif CC (AL z) then O (O (.p s.nx 0),s.new (.cells e (AL z))) else X
   |none=>X
  |none=>X
def C6 (E:CF) (a:AJ AV) (s:St) (e:T_) (x:O_):Option (Option AV×St):=match Ck a x with
  |some v=>bif CC (AL v) then O (O (.p s.nx 0),s.new (.cells e (AL v))) else X
  |none=>X
def AS (E:CF) (a:AJ AV) (s:St) (t:T_) (x:O_) (f:Nat):Option (Option AV×St):=match Ck a x with
  |some (.p b o)=>match E.tt.get t with
   |some u=>match u.k with
    | .str fs=>match LG fs f with
     |some (q,ft)=>match E.tt.get ft with
      |some uf=>bif uh uf.size 0 then X else O (O (.p b (o+q)),s)
      |none=>X
     |none=>X
    |_=>X
   |none=>X
  |_=>X
def BG (E:CF) (a:AJ AV) (s:St) (t:T_) (x:O_) (f:Nat):Option (Option AV×St):=match Ck a x with
  |some (.agg l)=>match E.tt.get t with
   |some u=>match u.k with
    | .str fs=>match LG fs f with
     |some (q,ft)=>match E.tt.get ft with
      |some uf=>bif ui (q+uf.size) l.length then (Er uf (Qg (Qi l q) uf.size)).map λv=>(O v,s) else X
      |none=>X
     |none=>X
    |_=>X
   |none=>X
  |_=>X
def Bg (E:CF) (a:AJ AV) (s:St) (t:T_) (x:O_):Option (Option AV×St):=match Ck a x with
  |some (.p b o)=>match E.tt.get t with
   |some u=>match s.load b o u.size with
    |some l=>(Er u l).map λv=>(O v,s)
    |none=>X
   |none=>X
  |_=>X
def BI (E:CF) (a:AJ AV) (s:St) (t:T_) (x v:O_):Option (Option AV×St):=match Ck a x with
  |some (.p b o)=>match Ck a v with
   |some v=>match E.tt.get t with
    |some u=>bif uh (AL v).length u.size&&CC (AL v) then (s.store b o (AL v)).map λs=>(X,s) else X
    |none=>X
   |none=>X
  |_=>X
def AR (E:CF) (a:AJ AV) (s:St) (t:T_) (x i:O_):Option (Option AV×St):=match Ck a x with
  |some (.sl b o l _ _ _)=>match Ck a i with
   |some (.i _ (.ofNat j))=>match E.tt.get t with
    |some u=>match u.k with
     | .slice e=>match E.tt.get e with
      |some ue=>bif um j l then O (O (.p b (o+j*ue.size)),s) else X
      |none=>X
     |_=>X
    |none=>X
   |_=>X
  |some (.p b o)=>match Ck a i with
   |some (.i _ (.ofNat j))=>match E.tt.get t with
    |some u=>match u.k with
     | .arr n e=>match E.tt.get e with
      |some ue=>bif um j n then O (O (.p b (o+j*ue.size)),s) else X
      |none=>X
     |_=>X
    |none=>X
   |_=>X
  |_=>X
def BD (E:CF) (a:AJ AV) (s:St) (t:T_) (x i:O_):Option (Option AV×St):=match Ck a x with
  |some (.s l)=>match Ck a i with
   |some (.i _ (.ofNat j))=>match E.tt.get t with
    |some u=>match u.k with
     | .string=>(LG l j).map λc=>(O (.i .u8 (.ofNat c)),s)
     |_=>X
    |none=>X
   |_=>X
  |some (.agg l)=>match Ck a i with
   |some (.i _ (.ofNat j))=>match E.tt.get t with
    |some u=>match u.k with
     | .arr n e=>match E.tt.get e with
      |some ue=>bif um j n&&ui (j*ue.size+ue.size) l.length then (Er ue (Qg (Qi l (j*ue.size)) ue.size)).map λv=>(O v,s) else X
      |none=>X
     |_=>X
    |none=>X
   |_=>X
  |_=>X
def BF (E:CF) (a:AJ AV) (s:St) (o:BinOp) (t:T_) (x y:O_):Option (Option AV×St):=match Ck a x with
  |some x=>match Ck a y with
   |some y=>(pB E o t x y).map λv=>(O v,s)
   |none=>X
  |none=>X
def Bf (E:CF) (a:AJ AV) (s:St) (o:UnOp) (x:O_):Option (Option AV×St):=match Ck a x with
  |some (.b c)=>match o with
   | .not=>O (O (.b (!c)),s)
   |_=>X
  |some (.i k n)=>match o with
   | .neg=>O (O (.i k (k.wrap (0-n))),s)
   |_=>X
  |_=>X
def Am (E:CF) (a:AJ AV) (s:St) (x:O_) (i:Nat):Option (Option AV×St):=match Ck a x with
  |some (.tup l)=>(LG l i).map λv=>(O v,s)
  |_=>X
def BE (E:CF) (a:AJ AV) (s:St) (t:T_) (ps:Array (Nat×O_)):Option (Option AV×St):=match E.tt.get t with
  |some u=>match u.k,u.z with
   | .str fs,O (.agg z)=>match Oj E fs with
    |some pl=>match LP a ps.toList with
     |some ps=>(JN (LG pl) z ps).map λcs=>(O (.agg cs),s)
     |none=>X
    |none=>X
   | .arr _ e,O (.agg z)=>match E.tt.get e with
    |some ue=>match LP a ps.toList with
     |some ps=>(JN (λi=>O (i*ue.size,ue.size)) z ps).map λcs=>(O (.agg cs),s)
     |none=>X
    |none=>X
   |_,_=>X
  |none=>X
def AN (E:CF) (a:AJ AV) (s:St) (t:T_) (n:Nat) (ps:Array (Nat×O_)):Option (Option AV×St):=match E.tt.get t with
  |some u=>match u.k with
   | .slice e=>match E.tt.get e with
    |some ue=>match ue.z with
     |some z=>match LP a ps.toList with
      |some ps=>bif uh (AL z).length ue.size&&um 0 ue.size&&ui (n*ue.size) 16777216 then match JN (λi=>O (i*ue.size,ue.size)) (Fd (AL z) n) ps with
       |some cs=>bif CC cs&&uh cs.length (n*ue.size) then O (O (.sl s.nx 0 n n B ue.size),s.new (.cells e cs)) else X
       |none=>X
       else X
      |none=>X
     |none=>X
    |none=>X
   |_=>X
  |none=>X
def AQ (E:CF) (a:AJ AV) (s:St) (t:T_) (l c:O_):Option (Option AV×St):=match Ck a l with
  |some (.i _ (.ofNat n))=>match Ck a c with
   |some (.i _ (.ofNat m))=>match E.tt.get t with
    |some u=>match u.k with
     | .slice e=>match E.tt.get e with
      |some ue=>match ue.z with
       |some z=>bif uh n m&&uh (AL z).length ue.size&&um 0 ue.size&&ui (n*ue.size) 16777216&&ui (ue.bytes*n) 281474976710656&&CC (AL z) then O (O (.sl s.nx 0 n n B ue.size),s.new (.cells e (Fd (AL z) n))) else X
       |none=>X
      |none=>X
     |_=>X
    |none=>X
   |_=>X
  |_=>X
def An (E:CF) (a:AJ AV) (s:St) (t:T_) (r:Option O_):Option (Option AV×St):=match r with
  |none=>O (O (.m s.nx),s.new (.map []))
  |some _=>X
def Ay (E:CF) (a:AJ AV) (s:St) (t:T_) (x k:O_) (ok:Bool):Option (Option AV×St):=match Ck a x with
  |some x=>match Ck a k with
   |some k=>match E.tt.get t with
    |some u=>match u.k with
     | .map kt et=>match E.tt.get kt with
      |some uk=>match E.tt.get et with
       |some ue=>match ue.z with
        |some z=>bif DP uk.k k then match QT s k x with
         |some r=>O (O (bif ok then .tup [r.getD z,.b r.isSome] else r.getD z),s)
         |none=>X
         else X
        |none=>X
       |none=>X
      |none=>X
     |_=>X
    |none=>X
   |none=>X
  |none=>X
def BH (E:CF) (a:AJ AV) (s:St) (t:T_) (x:O_) (l h m:Option O_):Option (Option AV×St):=match m with
  |none=>match Ck a x with
   |some x=>match E.tt.get t with
    |some u=>match bI a l with
     |some l=>match bI a h with
      |some h=>(Pz E s u x l h).map λv=>(O v,s)
      |none=>X
     |none=>X
    |none=>X
   |none=>X
  |some m=>match Ck a x with
   |some x=>match E.tt.get t with
    |some u=>match bI a l with
     |some l=>match h with
      |some h=>match Ck a h with
       |none=>X
       |some h=>match Ck a m with
       |some m=>(PS E s u x l h m).map λv=>(O v,s)
       |none=>X
      |none=>X
     |none=>X
    |none=>X
   |none=>X
def Ao (E:CF) (a:AJ AV) (s:St) (src dst:T_) (x:O_):Option (Option AV×St):=match Ck a x with
  |some (.i _ n)=>match E.tt.get dst with
   |some u=>match u.k with
    | .int k=>match E.tt.get src with
     |some _=>O (O (.i k (k.wrap n)),s)
     |none=>X
    |_=>X
   |none=>X
  |_=>X
def Ab (E:CF) (a:AJ AV) (s:St) (fn:Fn) (fst cap:Array O_):Option (Option AV×St):=match fn with
  | .func f=>match Do (Ck a) fst.toList with
   |some l=>match Do (Ck a) cap.toList with
    |some m=>O (O (.fn f l m),s)
    |none=>X
   |none=>X
  |_=>X
def BK (E:CF) (a:AJ AV) (s:St):Op->Option (Option AV×St)
 | .move x=>Bh E a s x
 | .assign x=>Az E a s x
 | .pick c x y=>Be E a s c x y
 | .nilCheck x=>Aa E a s x
 | .alloc e=>BB E a s e
 | .box e x=>C6 E a s e x
 | .fieldAddr t x f=>AS E a s t x f
 | .field t x f=>BG E a s t x f
 | .load t x=>Bg E a s t x
 | .store t x v=>BI E a s t x v
 | .indexAddr t x i=>AR E a s t x i
 | .index t x i=>BD E a s t x i
 | .binOp o t x y _=>BF E a s o t x y
 | .unOp o _ x=>Bf E a s o x
 | .extract x i=>Am E a s x i
 | .build t ps=>BE E a s t ps
 | .buildSlice t n ps=>AN E a s t n ps
 | .makeSlice t l c=>AQ E a s t l c
 | .makeMap t r=>An E a s t r
 | .mapUpdate t m k v=>evUpd E a s t m k v
 | .insert t m k v=>evUpd E a s t m k v
 | .lookup t x k ok=>Ay E a s t x k ok
 | .slice t x l h m=>BH E a s t x l h m
 | .convert src dst x=>Ao E a s src dst x
 | .makeFunc fn fst cap=>Ab E a s fn fst cap
 |_=>X
 where
 evUpd (E:CF) (a:AJ AV) (s:St) (t:T_) (m k v:O_):Option (Option AV×St):=match Ck a m with
  |some (.m b)=>match Ck a k with
   |some k=>match Ck a v with
    |some v=>match E.tt.get t with
     |some u=>match u.k with
      | .map kt _=>match E.tt.get kt with
       |some uk=>bif DP uk.k k&&oneOrAgg v then match s.h.get b with
        |some (.map es)=>(JG k v es).map λes=>(X,⟨s.h.set b (O (.map es)),s.nx⟩)
        |_=>X
        else X
       |none=>X
      |_=>X
     |none=>X
    |none=>X
   |none=>X
  |_=>X
 oneOrAgg:AV->Bool
  | .tup _=>G
  |_=>B
end
section
variable {a:AJ AV} {act:Act} {o:Oper} {r:Option AV} {t:TypeId} {x:AV}
noncomputable section
section
variable {P:P_} {E:CF} {F:Nat->Option Obj} {R:Nat->Nat×Nat} {s s':St} {w0 w:W_} {n:Nat}
theorem Ag.pure' {m:Sem Next} {x:AV} {v:V_} (h:HR F R s w0 w) (hr:m.run P w= .ok (.value v) w) (hx:VR R s.nx x v):Ag P F R s.nx w0 w m (O x) s:=
 ⟨R,w,λ_ _=>rfl,un _,h,v,hr,hx⟩
theorem VA:∀(l m:List Nat),(∀c∈l,c<256)->(∀c∈m,c<256)->wu (l.map UInt8.ofNat) (m.map UInt8.ofNat)=bW l m
 |[],[],_,_=>rfl
 |[],_::_,_,_=>rfl
 |_::_,[],_,_=>rfl
 |x::l,y::m,hl,hm=>by
  have ih:=VA l m (λc hc=>hl c (.tail _ hc)) (λc hc=>hm c (.tail _ hc))
  have hx:=hl x (.head _)
  have hy:=hm y (.head _)
  have ex:(UInt8.ofNat x).toNat=x:=by simp;omega
  have ey:(UInt8.ofNat y).toNat=y:=by simp;omega
  simp only[uv,wu,bW,ih]
  by_cases h1:x<y
  .have:UInt8.ofNat x<UInt8.ofNat y:=by rw[UInt8.lt_iff_toNat_lt,ex,ey];exact h1
   rw[show um x y=B from wK h1]
   simp[this]
  .have h2:¬UInt8.ofNat x<UInt8.ofNat y:=by rw[UInt8.lt_iff_toNat_lt,ex,ey];exact h1
   have h3:um x y=false:=by
    cases hb:um x y with
    |false=>rfl
    |true=>exact a_ (DR hb) h1
   rw[h3,cond_false]
   by_cases e:x=y
   .subst e
    rw[wB,cond_true]
    simp
   .have h4:UInt8.ofNat x≠UInt8.ofNat y:=λh=>e (by rw[<-ex,<-ey,h])
    rw[KE e,cond_false]
    simp[h2,h4]
theorem Iz {l m:List Nat} (hl:∀c∈l,c<256) (hm:∀c∈m,c<256):wu (BP l).toList (BP m).toList=bW l m:=by rw[GC,GC];simpa[BP] using VA l m hl hm
theorem Wh (hE:Ap P E) {o:BinOp} {y r:AV} (h:pB E o t x y=O r) {a b:V_} (hx:VR R n x a) (hy:VR R n y b) (p q:O_):∃v,((do eqGuard o t p q a b;binOp o t a b:Sem V_)).run P w= .ok v w/\VR R n r v:=by
 (have hg:∀o:BinOp,o≠ .eql->o≠ .neq->(eqGuard o t p q a b).run P w= .ok () w:=λo h1 h2=>by cases o<;>first|rfl|exact a_ rfl h1|exact a_ Z h2);(have hi:∀(o:BinOp),o≠ .eql->o≠ .neq->∀v,(binOp o t a b).run P w= .ok v w->((do eqGuard o t p q a b;binOp o t a b:Sem V_)).run P w= .ok v w:=λo h1 h2 v hv=>by simp[Sem.run_bind,hg o h1 h2,hv]);unfold pB at h;split at h
 .cases hu:E.tt.get t with
  |none=>rw[hu] at h;cases h
  |some u=>rw[hu] at h;simp only[ut] at h;obtain⟨c,h,rfl⟩:=h;rw[gP] at h;have:=ZK (w:=w) hE hu h hx hy p q G;exact⟨_,this,by simp only[VR];rfl⟩
 .cases hu:E.tt.get t with
  |none=>rw[hu] at h;cases h
  |some u=>rw[hu] at h;simp only[ut] at h;obtain⟨c,h,rfl⟩:=h;rw[gP] at h;have:=ZK (w:=w) hE hu h hx hy p q B;exact⟨_,this,by simp only[VR];rfl⟩
 .split at h
  .simp only[VR] at hx hy;subst hx;subst hy;rename_i k a' k' c;rw[Js] at h;by_cases hc:0<=c
   .rw[t_ hc] at h;cases h;refine⟨.int k (k.wrap (a'*2^(min c.toNat k.bits))),hi .shl AD AD _ ?_,by simp only[VR]⟩;simp only[binOp,Op.shift];rw[n_ A0];rfl
   .rw[f_ hc] at h;cases h
  .cases h
 .split at h
  .simp only[VR] at hx hy;subst hx;subst hy;rename_i k a' k' c;rw[Js] at h;by_cases hc:0<=c
   .rw[t_ hc] at h;cases h;refine⟨.int k (a'.fdiv (2^(min c.toNat k.bits))),hi .shr AD AD _ ?_,by simp only[VR]⟩;simp only[binOp,Op.shift];rw[n_ A0];rfl
   .rw[f_ hc] at h;cases h
  .cases h
 .rename_i n1 n2 n3 n4;split at h
  .simp only[VR] at hx hy;subst hx;subst hy;rename_i k a' k' c;by_cases e:k=k'
   .subst e;rw[t_ Z,cond_true] at h;obtain⟨v,h1,h2⟩:=dl (P:=P) (w:=w) (R:=R) (n:=n) h t;exact⟨v,hi o n1 n2 v h1,h2⟩
   .exact UR
  .simp only[VR] at hx hy;obtain⟨rfl,hl⟩:=hx;obtain⟨rfl,hm⟩:=hy;rename_i l m;split at h
   .cases hb:ui (l.length+m.length) 1000000 with
    |false=>rw[hb] at h;cases h
    |true=>
     rw[hb,cond_true] at h;cases h;have hb:=BV hb;refine⟨.string (BP l++BP m),hi .add AD AD _ ?_,?_⟩
     .simp only[binOp,vj,Cj];rw[n_ (by simp[IntKind.max,IntKind.signed,IntKind.bits];omega)];rfl
     .simp only[VR];refine⟨by rw[RS],λc hc=>?_⟩;rcases wA.1 hc with hc|hc
      .exact hl c hc
      .exact hm c hc
   .cases h;refine⟨.bool (bW l m),hi .lss AD AD _ ?_,by simp only[VR]⟩;simp only[binOp,vj,Iz hl hm];rfl
   .cases h;refine⟨.bool (bW l m||Hg l m),hi .leq AD AD _ ?_,by simp only[VR]⟩;simp only[binOp,vj,Iz hl hm,M3 hl hm];rfl
   .cases h;refine⟨.bool (!(bW l m||Hg l m)),hi .gtr AD AD _ ?_,by simp only[VR]⟩;simp only[binOp,vj,Iz hl hm,M3 hl hm];rfl
   .cases h;refine⟨.bool (!bW l m),hi .geq AD AD _ ?_,by simp only[VR]⟩;simp only[binOp,vj,Iz hl hm];rfl
   .cases h
  .cases h
theorem MF (hE:Ap P E) (h:HR F R s w0 w) (hT:TR R s.nx a act) {m k v:O_} (ho:BK.evUpd E a s t m k v=O (r,s')):Ag P F R s.nx w0 w (do Instr.mapUpdate t (act.eval m) (act.eval k) (act.eval v);pure .skip) r s':=by
 unfold BK.evUpd at ho;(split at ho<;>try (cases ho;done));rename_i b hm;(split at ho<;>try (cases ho;done));rename_i k' hk;(split at ho<;>try (cases ho;done));rename_i v' hv;(split at ho<;>try (cases ho;done));rename_i u hu;(split at ho<;>try (cases ho;done));rename_i kt et ae;(split at ho<;>try (cases ho;done));rename_i uk ad
 cases hb:(DP uk.k k'&&BK.oneOrAgg v') with
 |false=>rw[hb] at ho;cases ho
 |true=>rw[hb,cond_true] at ho;rw[uj] at hb;(split at ho<;>try (cases ho;done));rename_i es af;simp only[ut] at ho;obtain⟨es',hup,e⟩:=ho;cases e;have aa:=AM hT hm;simp only[VR] at aa;rw[aa.2];exact Tx hE h hu ae ad hb.1 (AM hT hk) (AM hT hv) af hup
theorem kx (hE:Ap P E) (h:HR F R s w0 w) (hT:TR R s.nx a act) (x:O_) (ho:BK E a s (.move x)=O (r,s')):Ag P F R s.nx w0 w (pure (.value (act.eval x))) r s':=by simp only[BK,Bh] at ho;exact iP
theorem bv (hE:Ap P E) (h:HR F R s w0 w) (hT:TR R s.nx a act) (x:O_) (ho:BK E a s (.assign x)=O (r,s')):Ag P F R s.nx w0 w (pure (.value (act.eval x))) r s':=by simp only[BK,Az] at ho;exact iP
theorem kW (hE:Ap P E) (h:HR F R s w0 w) (hT:TR R s.nx a act) (c x y:O_) (ho:BK E a s (.pick c x y)=O (r,s')):Ag P F R s.nx w0 w (do pure (.value (if<-asBool (act.eval c) then act.eval x else act.eval y))) r s':=by
 simp only[BK,Be] at ho;split at ho<;>try (cases ho;done)
 .rename_i hc;simp only[ut] at ho;obtain⟨v,hv,e⟩:=ho;cases e;have aa:=AM hT hc;simp only[VR] at aa;exact Ag.pure' h (v:=act.eval x) (by simp[aa,asBool]) (AM hT hv)
 .rename_i hc;simp only[ut] at ho;obtain⟨v,hv,e⟩:=ho;cases e;have aa:=AM hT hc;simp only[VR] at aa;exact Ag.pure' h (v:=act.eval y) (by simp[aa,asBool]) (AM hT hv)
theorem dZ (hE:Ap P E) (h:HR F R s w0 w) (hT:TR R s.nx a act) (e:T_) (ho:BK E a s (.alloc e)=O (r,s')):Ag P F R s.nx w0 w (do pure (.value (<-Instr.alloc e B (.tuple #[])))) r s':=by
 simp only[BK,BB] at ho;(split at ho<;>try (cases ho;done));rename_i u hu;(split at ho<;>try (cases ho;done));rename_i z hz
 cases hb:CC (AL z) with
 |false=>rw[hb] at ho;cases ho
 |true=>rw[hb,cond_true] at ho;cases ho;exact iU hE h hu hz hb
theorem oH (hE:Ap P E) (h:HR F R s w0 w) (hT:TR R s.nx a act) (e:T_) (x:O_) (ho:BK E a s (.box e x)=O (r,s')):Ag P F R s.nx w0 w (do pure (.value (<-Instr.box e (act.eval x)))) r s':=by
 simp only[BK,C6] at ho;(split at ho<;>try (cases ho;done));rename_i v hv
 cases hb:CC (AL v) with
 |false=>rw[hb] at ho;cases ho
 |true=>rw[hb,cond_true] at ho;cases ho;exact oL h (AM hT hv) hb
theorem fY (hE:Ap P E) (h:HR F R s w0 w) (hT:TR R s.nx a act) (t:T_) (ps:Array (Nat×O_)) (ho:BK E a s (.build t ps)=O (r,s')):Ag P F R s.nx w0 w (do pure (.value (<-Instr.build t (ps.map fun(i,x)=>(i,act.eval x))))) r s':=by
 simp only[BK,BE] at ho;(split at ho<;>try (cases ho;done));rename_i u hu;split at ho<;>try (cases ho;done)
 .rename_i fs z hk hz;(split at ho<;>try (cases ho;done));rename_i pl af;(split at ho<;>try (cases ho;done));rename_i ad aa;simp only[ut] at ho;obtain⟨cs,hf,e⟩:=ho;cases e;obtain⟨h1,h2⟩:=Gr hT aa;have:=fC (us:=ps.map fun(i,x)=>(i,act.eval x)) hE h hu hk hz af IV GW hf;exact this
 .rename_i m e z hk hz;(split at ho<;>try (cases ho;done));rename_i ue ae;(split at ho<;>try (cases ho;done));rename_i ad aa;simp only[ut] at ho;obtain⟨cs,hf,e⟩:=ho;cases e;obtain⟨h1,h2⟩:=Gr hT aa;have:=T8 (us:=ps.map fun(i,x)=>(i,act.eval x)) hE h hu hk ae hz IV GW hf;exact this
theorem RJ (hE:Ap P E) (h:HR F R s w0 w) (hT:TR R s.nx a act) (t:T_) (len:Nat) (ps:Array (Nat×O_)) (ho:BK E a s (.buildSlice t len ps)=O (r,s')):Ag P F R s.nx w0 w (do pure (.value (<-Instr.buildSlice t len (ps.map fun(i,x)=>(i,act.eval x))))) r s':=by
 simp only[BK,AN] at ho;(split at ho<;>try (cases ho;done));rename_i u hu;(split at ho<;>try (cases ho;done));rename_i e hk;(split at ho<;>try (cases ho;done));rename_i ue ae;(split at ho<;>try (cases ho;done));rename_i z hz;(split at ho<;>try (cases ho;done));rename_i ad af
 cases hb:(uh (AL z).length ue.size&&um 0 ue.size&&ui (len*ue.size) 16777216) with
 |false=>rw[hb] at ho;cases ho
 |true=>
  rw[hb,cond_true] at ho;rw[uj,uj] at hb;(split at ho<;>try (cases ho;done));rename_i cs hf
  cases aa:(CC cs&&uh cs.length (len*ue.size)) with
  |false=>rw[aa] at ho;cases ho
  |true=>rw[aa,cond_true] at ho;cases ho;rw[uj] at aa;obtain⟨h1,h2⟩:=Gr hT af;have q1:(AL z).length=ue.size:=B0 hb.1.1;have q2:0<ue.size:=DR hb.1.2;have q3:len*ue.size<=16777216:=BV hb.2;have q4:cs.length=len*ue.size:=B0 aa.2;have g1:(ps.map fun(i,x)=>(i,act.eval x)).toList.map ul=ad.map ul:=IV;have g2:BM R s.nx (ad.map uq) ((ps.map fun(i,x)=>(i,act.eval x)).toList.map uq):=GW;exact RG hE h hu hk ae hz q1 q2 q3 g1 g2 hf aa.1 q4
theorem bH (hE:Ap P E) (h:HR F R s w0 w) (hT:TR R s.nx a act) (t:T_) (m k v:O_) (ho:BK E a s (.insert t m k v)=O (r,s')):Ag P F R s.nx w0 w (do Instr.mapUpdate t (act.eval m) (act.eval k) (act.eval v);pure .skip) r s':=MF hE h hT ho
theorem U0 (hE:Ap P E) (h:HR F R s w0 w) (hT:TR R s.nx a act) (t:T_) (m k v:O_) (ho:BK E a s (.mapUpdate t m k v)=O (r,s')):Ag P F R s.nx w0 w (do Instr.mapUpdate t (act.eval m) (act.eval k) (act.eval v);pure .skip) r s':=MF hE h hT ho
theorem kY (hE:Ap P E) (h:HR F R s w0 w) (hT:TR R s.nx a act) (t:T_) (x:O_) (ho:BK E a s (.load t x)=O (r,s')):Ag P F R s.nx w0 w (do pure (.value (<-Instr.loadAt t (act.eval x)))) r s':=by simp only[BK,Bg] at ho;(split at ho<;>try (cases ho;done));rename_i b q hx;(split at ho<;>try (cases ho;done));rename_i u hu;(split at ho<;>try (cases ho;done));rename_i l hl;simp only[ut] at ho;obtain⟨v,hv,e⟩:=ho;cases e;have aa:=AM hT hx;simp only[VR] at aa;obtain⟨v',h1,h2⟩:=Rh hE h hu hl hv;rw[aa.2];exact Ag.val h h1 h2
theorem ji (hE:Ap P E) (h:HR F R s w0 w) (hT:TR R s.nx a act) (t:T_) (x v:O_) (ho:BK E a s (.store t x v)=O (r,s')):Ag P F R s.nx w0 w (do Instr.storeAt t (act.eval x) (act.eval v);pure .skip) r s':=by
 simp only[BK,BI] at ho;(split at ho<;>try (cases ho;done));rename_i b q hx;(split at ho<;>try (cases ho;done));rename_i v' hv;(split at ho<;>try (cases ho;done));rename_i u hu
 cases hb:(uh (AL v').length u.size&&CC (AL v')) with
 |false=>rw[hb] at ho;cases ho
 |true=>rw[hb,cond_true] at ho;rw[uj] at hb;simp only[ut] at ho;obtain⟨s2,hs2,e⟩:=ho;cases e;have aa:=AM hT hx;simp only[VR] at aa;obtain⟨e1,w',h1,h2⟩:=XI hE h hu (AM hT hv) (B0 hb.1) (Ci hb.2) hs2;refine⟨R,w',λ_ _=>rfl,by omega,h2,?_⟩;rw[aa.2];simp[Sem.run_bind,h1]
theorem Va (hE:Ap P E) (h:HR F R s w0 w) (hT:TR R s.nx a act) (x:O_) (ho:BK E a s (.nilCheck x)=O (r,s')) (d:Option Tmp) (ty:T_) (pos:String) (af:Array Edge) (gd:Option (Nat×Bool)):Ag P F R s.nx w0 w (x_ act.eval ⟨d,.nilCheck x,ty,pos,af,gd⟩) r s':=by simp only[BK,Aa] at ho;(split at ho<;>try (cases ho;done));rename_i v hv;have hvv:=AM hT hv;(cases v<;>simp only[Ya,cond_true,cond_false] at ho<;>try (cases ho;done));(case p b q=>cases ho;have aa:=hvv;simp only[VR] at hvv;exact Ag.pure' h (v:=act.eval x) (by unfold x_;simp only[hvv.2];rfl) aa);case fn f l m=>cases ho;have aa:=hvv;simp only[VR] at hvv;obtain⟨us,vs,_,_,e⟩:=hvv;exact Ag.pure' h (v:=act.eval x) (by unfold x_;simp only[e];rfl) aa
theorem jU (hE:Ap P E) (h:HR F R s w0 w) (hT:TR R s.nx a act) (op:BinOp) (t:T_) (x y:O_) (t2:T_) (ho:BK E a s (.binOp op t x y t2)=O (r,s')):Ag P F R s.nx w0 w (do pure (.value (<-(do eqGuard op t x y (act.eval x) (act.eval y);binOp op t (act.eval x) (act.eval y):Sem V_)))) r s':=by simp only[BK,BF] at ho;(split at ho<;>try (cases ho;done));rename_i x' hx;(split at ho<;>try (cases ho;done));rename_i y' hy;simp only[ut] at ho;obtain⟨v,hv,e⟩:=ho;cases e;obtain⟨v',h1,h2⟩:=Wh (P:=P) (w:=w) hE hv (AM hT hx) (AM hT hy) x y;exact Ag.val h h1 h2
theorem kq (hE:Ap P E) (h:HR F R s w0 w) (hT:TR R s.nx a act) (op:UnOp) (t:T_) (x:O_) (ho:BK E a s (.unOp op t x)=O (r,s')):Ag P F R s.nx w0 w (do pure (.value (<-wv op (act.eval x)))) r s':=by
 simp only[BK,Bf] at ho;split at ho<;>try (cases ho;done)
 .rename_i c hx;have aa:=AM hT hx;simp only[VR] at aa;(cases op<;>simp only at ho<;>try (cases ho;done));cases ho;exact Ag.val h (v:= .bool (!c)) (by rw[aa];simp[wv]) Pg
 .rename_i k j hx;have aa:=AM hT hx;simp only[VR] at aa;(cases op<;>simp only at ho<;>try (cases ho;done));cases ho;exact Ag.val h (v:= .int k (k.wrap (0-j))) (by rw[aa];simp[wv,wR]) Pg
theorem Xd (hE:Ap P E) (h:HR F R s w0 w) (hT:TR R s.nx a act) (src dst:T_) (x:O_) (ho:BK E a s (.convert src dst x)=O (r,s')):Ag P F R s.nx w0 w (do pure (.value (<-convert src dst (act.eval x)))) r s':=by simp only[BK,Ao] at ho;(split at ho<;>try (cases ho;done));rename_i k j hx;(split at ho<;>try (cases ho;done));rename_i u hu;(split at ho<;>try (cases ho;done));rename_i k' hk;(split at ho<;>try (cases ho;done));rename_i us ae;cases ho;have aa:=AM hT hx;simp only[VR] at aa;obtain⟨_,⟨d,hd,ad⟩,-⟩:=hE.tt _ _ hu;obtain⟨_,⟨ds,hds,af⟩,-⟩:=hE.tt _ _ ae;rw[hk] at ad;obtain rfl:d= .int k':=ad;refine Ag.val h (v:= .int k' (k'.wrap j)) ?_ Pg;rw[aa];unfold convert;simp only[Sem.run_bind,u_ hds,u_ hd,Result.andThen_ok];cases ds<;>simp[Conv.intToInt]
theorem V7 (hE:Ap P E) (h:HR F R s w0 w) (hT:TR R s.nx a act) (fn:Fn) (fst cap:Array O_) (ho:BK E a s (.makeFunc fn fst cap)=O (r,s')):Ag P F R s.nx w0 w (do pure (.value (<-Instr.makeFunc fn (fst.map act.eval) (cap.map act.eval)))) r s':=by simp only[BK,Ab] at ho;(split at ho<;>try (cases ho;done));rename_i f;(split at ho<;>try (cases ho;done));rename_i l hl;(split at ho<;>try (cases ho;done));rename_i m hm;cases ho;have h1:=GV hT hl;have h2:=GV hT hm;refine Ag.val h (v:= .func (.func f) (fst.map act.eval) (cap.map act.eval)) (by simp[Instr.makeFunc]) ?_;simp only[VR];exact⟨_,_,h1,h2,by congr 1<;>(apply Array.ext';simp)⟩
theorem X4 (hE:Ap P E) (h:HR F R s w0 w) (hT:TR R s.nx a act) (t:T_) (rs:Option O_) (ho:BK E a s (.makeMap t rs)=O (r,s')):Ag P F R s.nx w0 w (do pure (.value (<-Instr.makeMap t (rs.map act.eval)))) r s':=by simp only[BK,An] at ho;(split at ho<;>try (cases ho;done));cases ho;exact X6 h t
theorem Sq (hE:Ap P E) (h:HR F R s w0 w) (hT:TR R s.nx a act) (t:T_) (l c:O_) (ho:BK E a s (.makeSlice t l c)=O (r,s')):Ag P F R s.nx w0 w (do pure (.value (<-Instr.makeSlice t (act.eval l) (act.eval c)))) r s':=by
 simp only[BK,AQ] at ho;(split at ho<;>try (cases ho;done));rename_i k1 j1 hl;(split at ho<;>try (cases ho;done));rename_i k2 j2 hc;(split at ho<;>try (cases ho;done));rename_i u hu;(split at ho<;>try (cases ho;done));rename_i e hk;(split at ho<;>try (cases ho;done));rename_i ue ae;(split at ho<;>try (cases ho;done));rename_i z hz
 cases hb:(uh j1 j2&&uh (AL z).length ue.size&&um 0 ue.size&&ui (j1*ue.size) 16777216&&ui (ue.bytes*j1) 281474976710656&&CC (AL z)) with
 |false=>rw[hb] at ho;cases ho
 |true=>rw[hb,cond_true] at ho;cases ho;simp only[uj] at hb;obtain⟨⟨⟨⟨⟨b1,b2⟩,b3⟩,b4⟩,b5⟩,b6⟩:=hb;have b1:=B0 b1;subst b1;have aa:=AM hT hl;have ad:=AM hT hc;simp only[VR] at aa ad;rw[aa,ad];exact Sy hE h hu hk ae hz (B0 b2) (DR b3) (BV b4) (BV b5) b6 k1 k2
theorem jg (hE:Ap P E) (h:HR F R s w0 w) (hT:TR R s.nx a act) (t:T_) (x:O_) (l hh m:Option O_) (ho:BK E a s (.slice t x l hh m)=O (r,s')):Ag P F R s.nx w0 w (do pure (.value (<-Instr.sliceAt t (act.eval x) (l.map act.eval) (hh.map act.eval) (m.map act.eval)))) r s':=by
 simp only[BK,BH] at ho;split at ho
 ·(split at ho<;>try (cases ho;done));rename_i x' hx;(split at ho<;>try (cases ho;done));rename_i u hu;(split at ho<;>try (cases ho;done));rename_i l' hl;(split at ho<;>try (cases ho;done));rename_i h' aa;simp only[ut] at ho;obtain⟨v,hv,e⟩:=ho;cases e;exact io hE h hT hu (AM hT hx) hl aa hv
 ·(split at ho<;>try (cases ho;done));rename_i x' hx;(split at ho<;>try (cases ho;done));rename_i u hu;(split at ho<;>try (cases ho;done));rename_i l' hl;(split at ho<;>try (cases ho;done));rename_i ae;(split at ho<;>try (cases ho;done));rename_i h' aa;(split at ho<;>try (cases ho;done));rename_i m' ad;simp only[ut] at ho;obtain⟨v,hv,e⟩:=ho;cases e;exact bQ hE h hT hu (AM hT hx) hl aa ad hv
theorem TM (hE:Ap P E) (h:HR F R s w0 w) (hT:TR R s.nx a act) (t:T_) (x:O_) (f:Nat) (ho:BK E a s (.fieldAddr t x f)=O (r,s')):Ag P F R s.nx w0 w (do pure (.value (<-Instr.fieldAt t (act.eval x) f))) r s':=by
 simp only[BK,AS] at ho;(split at ho<;>try (cases ho;done));rename_i b q hx;(split at ho<;>try (cases ho;done));rename_i u hu;(split at ho<;>try (cases ho;done));rename_i fs hk;(split at ho<;>try (cases ho;done));rename_i q' ft hf;(split at ho<;>try (cases ho;done));rename_i uf ad
 cases hb:uh uf.size 0 with
 |true=>rw[hb] at ho;cases ho
 |false=>rw[hb,cond_false] at ho;cases ho;have aa:=AM hT hx;simp only[VR] at aa;rw[EG] at hf;rw[aa.2];exact Ag.val h (TV hE hu hk hf ad (λe=>by rw[e] at hb;cases hb) _ _) (by simp only[VR];exact⟨aa.1,trivial⟩)
theorem jF (hE:Ap P E) (h:HR F R s w0 w) (hT:TR R s.nx a act) (t:T_) (x:O_) (f:Nat) (ho:BK E a s (.field t x f)=O (r,s')):Ag P F R s.nx w0 w (do pure (.value (<-Instr.field t (act.eval x) f))) r s':=by
 simp only[BK,BG] at ho;(split at ho<;>try (cases ho;done));rename_i l hx;(split at ho<;>try (cases ho;done));rename_i u hu;(split at ho<;>try (cases ho;done));rename_i fs hk;(split at ho<;>try (cases ho;done));rename_i q' ft hf;(split at ho<;>try (cases ho;done));rename_i uf aa
 cases hb:ui (q'+uf.size) l.length with
 |false=>rw[hb] at ho;cases ho
 |true=>rw[hb,cond_true] at ho;simp only[ut] at ho;obtain⟨v,hv,e⟩:=ho;cases e;rw[EG] at hf;exact fE hE h hu hk hf aa (AM hT hx) (BV hb) hv
theorem Sz (hE:Ap P E) (h:HR F R s w0 w) (hT:TR R s.nx a act) (t:T_) (x i:O_) (ho:BK E a s (.indexAddr t x i)=O (r,s')):Ag P F R s.nx w0 w (do pure (.value (<-Instr.indexAt t (act.eval x) (act.eval i)))) r s':=by
 simp only[BK,AR] at ho;split at ho<;>try (cases ho;done)
 .rename_i b q l c ex zz hx;(split at ho<;>try (cases ho;done));rename_i k j hi;(split at ho<;>try (cases ho;done));rename_i u hu;(split at ho<;>try (cases ho;done));rename_i e hk;(split at ho<;>try (cases ho;done));rename_i ue ae
  cases hb:um j l with
  |false=>rw[hb] at ho;cases ho
  |true=>rw[hb,cond_true] at ho;cases ho;have ad:=AM hT hi;simp only[VR] at ad;have aa:=AM hT hx;have hr:=Tk (P:=P) (w:=w) hE hu hk ae aa (k:=k) (DR hb);simp only[VR] at aa;rw[ad];exact Ag.val h hr (by simp only[VR];exact⟨aa.1,trivial⟩)
 .rename_i b q hx;(split at ho<;>try (cases ho;done));rename_i k j hi;(split at ho<;>try (cases ho;done));rename_i u hu;(split at ho<;>try (cases ho;done));rename_i m e hk;(split at ho<;>try (cases ho;done));rename_i ue ae
  cases hb:um j m with
  |false=>rw[hb] at ho;cases ho
  |true=>rw[hb,cond_true] at ho;cases ho;have ad:=AM hT hi;have aa:=AM hT hx;simp only[VR] at ad aa;obtain⟨ag,af⟩:=aa;rw[ad,af];exact Ag.val h (NG (P:=P) (w:=w) hE hu hk ae _ _ (k:=k) (DR hb)) (by simp only[VR];exact⟨ag,trivial⟩)
theorem gO (hE:Ap P E) (h:HR F R s w0 w) (hT:TR R s.nx a act) (t:T_) (x i:O_) (ho:BK E a s (.index t x i)=O (r,s')):Ag P F R s.nx w0 w (do pure (.value (<-Instr.index t (act.eval x) (act.eval i)))) r s':=by
 simp only[BK,BD] at ho;split at ho<;>try (cases ho;done)
 .rename_i l hx;(split at ho<;>try (cases ho;done));rename_i k j hi;(split at ho<;>try (cases ho;done));rename_i u hu;(split at ho<;>try (cases ho;done));rename_i hk;simp only[ut] at ho;obtain⟨c,hc,e⟩:=ho;cases e;have aa:=AM hT hi;have ad:=AM hT hx;simp only[VR] at aa ad;obtain⟨af,ag⟩:=ad;rw[EG] at hc;obtain⟨_,⟨d,hd,ae⟩,-⟩:=hE.tt _ _ hu;rw[hk] at ae;obtain rfl:d= .string:=ae;have hjl:=(vU.1 hc).1
  have aj:(BP l)[j]?=O (UInt8.ofNat c):=by
   have:(BP l)[j]?=(BP l).data[j]?:=by
    by_cases hj:j<(BP l).size
    .rw[getElem?_pos (BP l) j hj,getElem?_pos (BP l).data j hj];rfl
    .rw[Cj] at hj;omega
   rw[this];simp[BP,hc]
  have ai:=ag c (List.mem_of_getElem? hc);refine Ag.val h (v:= .int .u8 (c:Int)) ?_ (by simp only[VR];rfl);rw[af,aa];have h0:(0:Int)<=uy j:=ve j;simp[Instr.index,asIntOf,u_ hd,aj,wj ai]
 .rename_i l hx;(split at ho<;>try (cases ho;done));rename_i k j hi;(split at ho<;>try (cases ho;done));rename_i u hu;(split at ho<;>try (cases ho;done));rename_i m e hk;(split at ho<;>try (cases ho;done));rename_i ue ah
  cases hb:(um j m&&ui (j*ue.size+ue.size) l.length) with
  |false=>rw[hb] at ho;cases ho
  |true=>rw[hb,cond_true] at ho;simp only[ut] at ho;obtain⟨y,hy,e⟩:=ho;cases e;rw[uj] at hb;have aa:=AM hT hi;simp only[VR] at aa;rw[aa];exact Tg hE h hu hk ah (AM hT hx) (DR hb.1) (BV hb.2) hy
theorem aS (hE:Ap P E) (h:HR F R s w0 w) (hT:TR R s.nx a act) (t:T_) (x k:O_) (ok:Bool) (ho:BK E a s (.lookup t x k ok)=O (r,s')):Ag P F R s.nx w0 w (do pure (.value (<-Instr.lookup t (act.eval x) (act.eval k) ok))) r s':=by
 simp only[BK,Ay] at ho;(split at ho<;>try (cases ho;done));rename_i x' hx;(split at ho<;>try (cases ho;done));rename_i k' hk;(split at ho<;>try (cases ho;done));rename_i u hu;(split at ho<;>try (cases ho;done));rename_i kt et ae;(split at ho<;>try (cases ho;done));rename_i uk aa;(split at ho<;>try (cases ho;done));rename_i ue ad;(split at ho<;>try (cases ho;done));rename_i z hz
 cases hb:DP uk.k k' with
 |false=>rw[hb] at ho;cases ho
 |true=>rw[hb,cond_true] at ho;(split at ho<;>try (cases ho;done));rename_i r' hr;cases ho;exact ZR hE h hu ae aa ad hz (AM hT hx) hb (AM hT hk) hr ok
theorem Y5 (hE:Ap P E) (h:HR F R s w0 w) (hT:TR R s.nx a act) (x:O_) (i:Nat) (ho:BK E a s (.extract x i)=O (r,s')):Ag P F R s.nx w0 w (do pure (.value (<-Instr.extract (act.eval x) i))) r s':=by simp only[BK,Am] at ho;(split at ho<;>try (cases ho;done));rename_i l hx;simp only[ut] at ho;obtain⟨v,hv,e⟩:=ho;cases e;rw[EG] at hv;exact WX h (AM hT hx) hv
theorem JU (hE:Ap P E) (h:HR F R s w0 w) (hT:TR R s.nx a act) (ho:BK E a s o.op=O (r,s')):Ag P F R s.nx w0 w (x_ act.eval o) r s':=by obtain⟨d,op,ty,pos,af,gd⟩:=o;cases op;(case move x=>exact kx hE h hT x ho);(case assign x=>exact bv hE h hT x ho);(case pick c x y=>exact kW hE h hT c x y ho);(case alloc e=>exact dZ hE h hT e ho);(case box e x=>exact oH hE h hT e x ho);(case build t ps=>exact fY hE h hT t ps ho);(case buildSlice t len ps=>exact RJ hE h hT t len ps ho);(case insert t m k v=>exact bH hE h hT t m k v ho);(case mapUpdate t m k v=>exact U0 hE h hT t m k v ho);(case load t x=>exact kY hE h hT t x ho);(case store t x v=>exact ji hE h hT t x v ho);(case nilCheck x=>exact Va hE h hT x ho d ty pos af gd);(case binOp op t x y t2=>exact jU hE h hT op t x y t2 ho);(case unOp op t x=>exact kq hE h hT op t x ho);(case convert src dst x=>exact Xd hE h hT src dst x ho);(case makeFunc fn fst cap=>exact V7 hE h hT fn fst cap ho);(case makeMap t rs=>exact X4 hE h hT t rs ho);(case makeSlice t l c=>exact Sq hE h hT t l c ho);(case slice t x l hh m=>exact jg hE h hT t x l hh m ho);(case fieldAddr t x f=>exact TM hE h hT t x f ho);(case field t x f=>exact jF hE h hT t x f ho);(case indexAddr t x i=>exact Sz hE h hT t x i ho);(case index t x i=>exact gO hE h hT t x i ho);(case lookup t x k ok=>exact aS hE h hT t x k ok ho);(case extract x i=>exact Y5 hE h hT x i ho);all_goals cases ho
end
end
end
section
variable {b c k m q:Nat} {e t ty:TypeId} {r:Option AV} {u:TI} {x z:AV}
noncomputable section
def cD (s:St) (z:Nat) (x y:AV):Option (Nat×St):=match x,y with
 | .sl b o n _ _ q,.sl b' o' m _ _ q'=>bif uh q z&&uh q' z then match s.load b' o' ((bif ui m n then m else n)*z) with
   |some l=>(s.store b o l).map λs=>(bif ui m n then m else n,s)
   |none=>X
  else X
 | .sl _ _ _ _ _ _,.ns=>O (0,s)
 | .ns,.ns=>O (0,s)
 | .ns,.sl _ _ _ _ _ _=>O (0,s)
 |_,_=>X
def WS (E:CF) (s:St) (ats:List T_) (xs:List AV):Option (Option AV×St):=match ats,xs with
  |[t],[x]=>match E.tt.get t with
   |some u=>(eW s u x).map λn=>(O (.i .i64 (.ofNat n)),s)
   |none=>X
  |_,_=>X
def sG (E:CF) (s:St) (ats:List T_) (xs:List AV):Option (Option AV×St):=match ats,xs with
  |[t,tx],[x,y]=>match E.tt.get t with
   |some u0=>match u0.k with
    | .slice e=>match E.tt.get e with
     |some u=>match u.z with
      |some z=>match E.tt.get tx with
       |some ux=>bif uh (AL z).length u.size&&um 0 u.size then (TJ s e u ux x y).map λr=>(O r.1,r.2) else X
       |none=>X
      |none=>X
     |none=>X
    |_=>X
   |none=>X
  |_,_=>X
def ZF (E:CF) (s:St) (ats:List T_) (xs:List AV):Option (Option AV×St):=match ats,xs with
  |[t,tx],[x,y]=>match E.tt.get t with
   |some u0=>match u0.k with
    | .slice e=>match E.tt.get e with
     |some u=>(cD s u.size x y).map λr=>(O (.i .i64 (.ofNat r.1)),r.2)
     |none=>X
    |_=>X
   |none=>X
  |_,_=>X
def VI (E:CF) (s:St) (ats:List T_) (xs:List AV):Option (Option AV×St):=match ats,xs with
  |[t],[x]=>match E.tt.get t with
   |some u0=>match u0.k with
    | .slice e=>match E.tt.get e with
     |some u=>match u.z with
      |some z=>match x with
       | .ns=>O (O (.tup []),s)
       | .sl b o n _ _ q=>bif uh q u.size&&uh (AL z).length u.size&&um 0 u.size&&CC (AL z) then (s.store b o (Fd (AL z) n)).map λs=>(O (.tup []),s) else X
       |_=>X
      |none=>X
     |none=>X
    |_=>X
   |none=>X
  |_,_=>X
def XU (E:CF) (s:St) (ats:List T_) (xs:List AV):Option (Option AV×St):=match xs with
  |[.i k x,.i _ y]=>O (O (.i k (bif ku y x then x else y)),s)
  |_=>X
def XQ (E:CF) (s:St) (ats:List T_) (xs:List AV):Option (Option AV×St):=match xs with
  |[.i k x,.i _ y]=>O (O (.i k (bif ku x y then x else y)),s)
  |_=>X
def nI (E:CF) (s:St) (b:Builtin) (ats:List T_) (xs:List AV):Option (Option AV×St):=match b with
 | .len=>WS E s ats xs
 | .append=>sG E s ats xs
 | .copy=>ZF E s ats xs
 | .clear=>VI E s ats xs
 | .max=>XU E s ats xs
 | .min=>XQ E s ats xs
 |_=>X
section
variable {P:P_} {E:CF} {F:Nat->Option Obj} {R:Nat->Nat×Nat} {s s':St} {w0 w:W_} {n:Nat}
theorem BM.two {y:AV} {vs:Array V_} (h:BM R n [x,y] vs.toList):∃a b,vs=#[a,b]/\VR R n x a/\VR R n y b:=by simp only[BM] at h;obtain⟨a,us,e,h1,b,ad,e',h2,aa⟩:=h;subst aa;subst e';exact⟨a,b,by rw[<-wm,e],h1,h2⟩
theorem BM.single {vs:Array V_} (h:BM R n [x] vs.toList):∃a,vs=#[a]/\VR R n x a:=by simp only[BM] at h;obtain⟨a,us,e,h1,e'⟩:=h;subst e';exact⟨a,by rw[<-wm,e],h1⟩
theorem kR (hE:Ap P E) (h:HR F R s w0 w) {tx:T_} {u0:TI} (ah:E.tt.get t=O u0) (ao:u0.k= .slice e) (hu:E.tt.get e=O u) {y:AV} {xv yv:V_} (hx:VR R s.nx x xv) (hy:VR R s.nx y yv) (hc:cD s u.size x y=O (k,s')):s'.nx=s.nx/\∃w',(Builtin.copy_ #[t,tx] ty #[xv,yv]).run P w= .ok (.int .i64 (k:Int)) w'/\HR F R s' w0 w':=by
 obtain⟨_,⟨d,hd,ag⟩,-⟩:=hE.tt t u0 ah;obtain⟨_,_,i,hi,lC,_,_⟩:=hE.tt e u hu;rw[ao] at ag;obtain rfl:d= .slice e:=ag;unfold cD at hc;split at hc
 .rename_i b o n c ex q b' o' m c' au q'
  cases hb:(uh q u.size&&uh q' u.size) with
  |false=>rw[hb] at hc;cases hc
  |true=>
   rw[hb,cond_true] at hc;rw[uj] at hb;have hq:=B0 hb.1;have ar:=B0 hb.2
   have ae:(bif ui m n then m else n)=vI m n:=by
    cases hm:ui m n with
    |true=>exact(xB (BV hm)).symm
    |false=>(have:¬m<=n:=λmN=>by rw[wK mN] at hm;cases hm);have hnm:n<=m:=A0;exact(Nat.min_eq_right hnm).symm
   rw[ae] at hc
   cases hl:s.load b' o' (vI m n*u.size) with
   |none=>rw[hl] at hc;cases hc
   |some l=>
    rw[hl] at hc;simp only[ut] at hc;obtain⟨s1,hs1,e1⟩:=hc;cases e1;obtain⟨h1,h2,h3,vs,h4,h5⟩:=h.load hl;simp only[VR] at hx hy;obtain⟨_,p,pc,rfl,ho,_,af,_⟩:=hx;obtain⟨_,p',ad,rfl,ai,_,an,_⟩:=hy;have ak:vI m n<=m:=Nat.min_le_left m n;have aj:vI m n<=n:=Nat.min_le_right m n;have nC:vs.length=vI m n*u.size:=(by rw[h4.length,h1]);(have aq:∀aa,(∀j v,vs[j]?=O v->aa.cell? ((⟨(R b').1,p',X⟩:Addr).add j)=O v)->(Builtin.firstCells u.size (vI m n) (.slice (O ⟨(R b').1,p',X⟩) m ad)).run P aa= .ok vs.toArray aa:=λaa hw=>run_firstCells_some aa u.size (vI m n) _ m ad vs nC hw);(have lx:∀j v,vs[j]?=O v->w.cell? ((⟨(R b').1,p',X⟩:Addr).add j)=O v:=λj v hv=>by have hj:=(vU.1 hv).1;rw[nC] at hj;have hc0:ad≠0:=(by intro e0;have:vI m n=0:=A0;rw[this] at hj;simp at hj);rw[Addr.add_eq,ai.resolve_left hc0];exact h5 j v hv);obtain⟨e1,w',hr,hh⟩:=h.write (P:=P) hs1 h4 h3;refine⟨e1,w',?_,hh⟩
    have hst:(storeCells ⟨(R b).1,p,X⟩ vs).run P w= .ok () w':=by
     rcases wV (vI m n) with h0|hpos
     .rw[h0,we] at nC;have:vs=[]:=vH nC;subst this;have e2:(storeCells ⟨(R b).1,p,X⟩ []).run P w= .ok () w:=Z;have e3:(storeCells ⟨(R b).1,o,X⟩ []).run P w= .ok () w:=Z;rw[e3] at hr;rw[e2];exact hr
     .rw[ho.resolve_left A0];exact hr
    have hf:=aq w lx;simp[Builtin.copy_,u_ hd,sizeOf,typeInfo,hi,lC,Builtin.lenOf,hf,hst,goInt]
 .rename_i b o n c ex q;cases hc;simp only[VR] at hx hy;obtain⟨_,p,pc,rfl,ho,_,af,_⟩:=hx;subst hy;refine⟨Z,w,?_,h⟩;have e2:(storeCells ⟨(R b).1,p,X⟩ []).run P w= .ok () w:=Z;simp[Builtin.copy_,u_ hd,sizeOf,typeInfo,hi,Builtin.lenOf,Builtin.firstCells,e2,goInt]
 .cases hc;simp only[VR] at hx hy;subst hx;subst hy;refine⟨Z,w,?_,h⟩;simp[Builtin.copy_,u_ hd,sizeOf,typeInfo,hi,Builtin.lenOf,Builtin.firstCells,goInt]
 .rename_i b o n c ex q;cases hc;simp only[VR] at hx hy;subst hx;obtain⟨_,p,pc,rfl,ho,_,af,_⟩:=hy;refine⟨Z,w,?_,h⟩;have hf:=run_firstCells_some (P:=P) w i.size 0 ⟨(R b).1,p,X⟩ n pc [] (by simp) (λj v hv=>by simp at hv);simp[Builtin.copy_,u_ hd,sizeOf,typeInfo,hi,Builtin.lenOf,hf,goInt]
 .cases hc
theorem eI (hE:Ap P E) (h:HR F R s w0 w) {u0:TI} (ai:E.tt.get t=O u0) (ak:u0.k= .slice e) (hu:E.tt.get e=O u) (hz:u.z=O z) (aa:(AL z).length=u.size) (hpos:0<u.size) (lY:CC (AL z)=B) {o:Nat} {ex:Bool} {xv:V_} (hx:VR R s.nx (.sl b o m c ex q) xv) (hs:s.store b o (Fd (AL z) m)=O s'):s'.nx=s.nx/\∃w',(Builtin.clear_ #[t] ty #[xv]).run P w= .ok (.tuple #[]) w'/\HR F R s' w0 w':=by
 obtain⟨_,⟨d,hd,af⟩,-⟩:=hE.tt t u0 ai;obtain⟨_,_,i,hi,lC,aq,hzz⟩:=hE.tt e u hu;rw[ak] at af;obtain rfl:d= .slice e:=af;obtain⟨zv,ah,ag⟩:=hzz z hz;have hzc:zv.cells.size=u.size:=(by rw[<-aa,<-(ag R s.nx).cells.length,vA]);have ae:BM R s.nx (Fd (AL z) m) (Builtin.zeroCells zv.cells m).toList:=(by(refine BM.of (by simp[Builtin.zeroCells,Cx,aa,hzc]) λj x hj=>?_);have hjl:j<m*(AL z).length:=bY;rw[Hw _ A0 m j hjl] at hj;obtain⟨y,e1,e2⟩:=((ag R s.nx).cells).get hj;refine⟨y,?_,e2⟩;have hjl':j<m*zv.cells.size:=(by rw[hzc,<-aa];exact hjl);unfold Builtin.zeroCells;rw[aa,<-hzc] at e1;simp only[vW,Array.getElem?_map,Array.getElem?_range,hjl',wN];rw[vW] at e1;simp[hjl',getElem!_def,e1]);(have an:∀x∈Fd (AL z) m,Hu x=true:=λx hx=>by obtain⟨j,hj,rfl⟩:=wH.1 hx;have hjl:j<m*(AL z).length:=(by rwa [Cx] at hj);have:=Hw (AL z) A0 m j hjl;rw[vE hj,vE (vV _ A0)] at this;rw[Option.some.inj this];exact Ci lY _ (wJ _));obtain⟨e1,w',hst,hh⟩:=h.write (P:=P) hs ae an;simp only[VR] at hx;obtain⟨_,o',c',rfl,ho,_,_,ao,_⟩:=hx;by_cases hm:m=0
 .subst hm;have ad:(Builtin.zeroCells zv.cells 0).toList=[]:=(by simp[Builtin.zeroCells]);rw[ad] at hst;have hw:w'=w:=(by simp only[storeCells,Sem.run_pure] at hst;exact(Result.ok.inj hst).2.symm);subst hw;refine⟨e1,w',?_,hh⟩;simp[Builtin.clear_,u_ hd]
 .have aj:o'=o:=ho.resolve_left A0;subst aj;refine⟨e1,w',?_,hh⟩
  cases m with
  |zero=>exact a_ Z hm
  |succ m=>simp[Builtin.clear_,u_ hd,zeroValue,typeInfo,hi,ah,hst]
theorem TZ (hE:Ap P E) (h:HR F R s w0 w) {b:Builtin} {ah:Array T_} {xs:List AV} {vs:Array V_} (hv:BM R s.nx xs vs.toList) (ty:T_) (consts:Array Bool) (ho:nI E s b ah.toList xs=O (r,s')):Ag P F R s.nx w0 w (builtin b ah ty consts vs) r s':=by
 unfold nI at ho;cases b;case len=>simp only[WS] at ho;(split at ho<;>try (cases ho;done));rename_i t x ad;have aa:ah=#[t]:=Yr;subst aa;obtain⟨a,rfl,ha⟩:=hv.single;(split at ho<;>try (cases ho;done));rename_i u hu;simp only[ut] at ho;obtain⟨k,hk,e⟩:=ho;cases e;exact Ag.val h (oU hE h hu ha hk) (by simp only[VR];rfl)
 case append=>
  simp only[sG] at ho;(split at ho<;>try (cases ho;done));rename_i t tx x y ad;have aa:ah=#[t,tx]:=Yr;subst aa;obtain⟨a,a',rfl,ha,ae⟩:=hv.two;(split at ho<;>try (cases ho;done));rename_i u0 af;(split at ho<;>try (cases ho;done));rename_i e ag;(split at ho<;>try (cases ho;done));rename_i u hu;(split at ho<;>try (cases ho;done));rename_i z hz;(split at ho<;>try (cases ho;done));rename_i ux aj
  cases hb:(uh (AL z).length u.size&&um 0 u.size) with
  |false=>rw[hb] at ho;cases ho
  |true=>rw[hb,cond_true] at ho;rw[uj] at hb;simp only[ut] at ho;obtain⟨q,hq,e⟩:=ho;cases e;exact bP hE h af ag hu hz (B0 hb.1) (DR hb.2) aj ha ae hq
 case copy=>simp only[ZF] at ho;(split at ho<;>try (cases ho;done));rename_i t tx x y ad;have aa:ah=#[t,tx]:=Yr;subst aa;obtain⟨a,a',rfl,ha,ae⟩:=hv.two;(split at ho<;>try (cases ho;done));rename_i u0 af;(split at ho<;>try (cases ho;done));rename_i e ag;(split at ho<;>try (cases ho;done));rename_i u hu;simp only[ut] at ho;obtain⟨q,hq,e⟩:=ho;cases e;obtain⟨e1,w',hr,hh⟩:=kR hE h af ag hu ha ae hq (ty:=ty) (tx:=tx);exact⟨R,w',E4.refl _ _,by rw[e1];exact un _,hh,.int .i64 (q.1:Int),by simp[builtin,Sem.run_bind,hr],by simp only[VR];rfl⟩
 case clear=>
  simp only[VI] at ho;(split at ho<;>try (cases ho;done));rename_i t x ad;have aa:ah=#[t]:=Yr;subst aa;obtain⟨a,rfl,ha⟩:=hv.single;(split at ho<;>try (cases ho;done));rename_i u0 af;(split at ho<;>try (cases ho;done));rename_i e ag;(split at ho<;>try (cases ho;done));rename_i u hu;(split at ho<;>try (cases ho;done));rename_i z hz;split at ho<;>try (cases ho;done)
  .cases ho;obtain⟨_,⟨d,hd,ai⟩,-⟩:=hE.tt t u0 af;rw[ag] at ai;obtain rfl:d= .slice e:=ai;simp only[VR] at ha;subst ha;refine Ag.val h (v:= .tuple #[]) ?_ (by simp only[VR];exact⟨[],Z,Z⟩);simp[Builtin.clear_,u_ hd]
  .rename_i b o m c ex q
   cases hb:(uh q u.size&&uh (AL z).length u.size&&um 0 u.size&&CC (AL z)) with
   |false=>rw[hb] at ho;cases ho
   |true=>rw[hb,cond_true] at ho;simp only[uj] at hb;simp only[ut] at ho;obtain⟨s1,hs1,e1⟩:=ho;cases e1;obtain⟨e1,w',hr,hh⟩:=eI (ty:=ty) hE h af ag hu hz (B0 hb.1.1.2) (DR hb.1.2) hb.2 ha hs1;exact⟨R,w',E4.refl _ _,by rw[e1];exact un _,hh,.tuple #[],by simp[builtin,Sem.run_bind,hr],by simp only[VR];exact⟨[],Z,Z⟩⟩
 case max=>
  simp only[XU] at ho;(split at ho<;>try (cases ho;done));obtain⟨a,a',rfl,ha,ae⟩:=hv.two;rename_i k x k' y;cases ho;simp only[VR] at ha ae;subst ha;subst ae;refine Ag.val h (v:= .int k (if y>x then y else x)) ?_ ?_
  .simp[Builtin.max_,Builtin.max2]
  .simp only[VR];rw[Js];by_cases hyx:y<=x
   .rw[t_ hyx,cond_true,n_ A0]
   .rw[f_ hyx,cond_false,p_ A0]
 case min=>
  simp only[XQ] at ho;(split at ho<;>try (cases ho;done));obtain⟨a,a',rfl,ha,ae⟩:=hv.two;rename_i k x k' y;cases ho;simp only[VR] at ha ae;subst ha;subst ae;refine Ag.val h (v:= .int k (if y<x then y else x)) ?_ ?_
  .simp[Builtin.min_,Builtin.min2]
  .simp only[VR];rw[Js];by_cases hyx:x<=y
   .rw[t_ hyx,cond_true,n_ A0]
   .rw[f_ hyx,cond_false,p_ A0]
 all_goals cases ho
end
end
end
section
variable {F:Fence} {K:Act->World->Prop} {P:Program} {Q:Exit->Act->World->Prop} {R':Nat->Nat×Nat} {f:FuncId} {i:Nat} {o:Oper} {r:Option AV} {w w':World} {x:AV}
noncomputable section
def Fm (nt:Nat) (a:AJ AV) (d:Option Tmp) (x:AV):Option (AJ AV):=match d with
 |none=>O a
 |some d=>bif um d nt then O (a.set d (O x)) else X
def XW:Option AV->AV
 |some x=>x
 |none=> .tup []
def E7 (ops:List Oper) (a:AJ AV):Option (Nat×Bool)->Option Bool
 |none=>O B
 |some (g,b)=>match LG ops g with
  |none=>O G
  |some o=>match o.dst with
   |none=>O G
   |some d=>match a.get d with
    |some (.b c)=>O (match b with
     |true=>c
     |false=> !c)
    |some (.tup _)=>O G
    |_=>X
def YR (E:CF) (a:AJ AV) (s:St) (src dst:T_) (x:O_):Option (Option AV×St):=match Ck a x with
 |some (.s l)=>match E.tt.get dst with
  |some u=>match u.k with
   | .slice e=>match E.tt.get e with
    |some ue=>match ue.k with
     | .int .u8=>match E.tt.get src with
      |some us=>match us.k with
       | .string=>bif ui l.length 1000000 then O (O (.sl s.nx 0 l.length l.length G 1),s.new (.ro e (l.map λc=> .i .u8 (.ofNat c)))) else X
       |_=>X
      |none=>X
     |_=>X
    |none=>X
   |_=>X
  |none=>X
 |_=>X
def aV (E:CF) (call:C9) (a:AJ AV) (s:St) (o:Oper):Option (Option AV×St):=match o.op with
 | .call c=>match Do (Ck a) c.args.toList with
  |none=>X
  |some xs=>match c.callee with
   | .builtin b=>nI E s b c.argTypes.toList xs
   | .value f=>match Ck a f with
    |some f=>match call f xs s with
     |some r=>O (O r.1,r.2)
     |none=>X
    |none=>X
   |_=>X
 | .convert src dst x=>match YR E a s src dst x with
  |some r=>O r
  |none=>BK E a s o.op
 |op=>BK E a s op
def dP (E:CF) (call:C9) (nt:Nat) (ops:List Oper) (o:Oper) (a:AJ AV) (s:St):Option (AJ AV×St):=match E7 ops a o.guard with
 |none=>X
 |some G=>match Fm nt a o.dst (.tup []) with
  |some a=>O (a,s)
  |none=>X
 |some B=>match aV E call a s o with
  |none=>X
  |some r=>match Fm nt a o.dst (XW r.1) with
   |some a=>O (a,r.2)
   |none=>X
def Uh (E:CF) (call:C9) (nt:Nat) (ops:List Oper):List Oper->AJ AV->St->Option (AJ AV×St)
 |[],a,s=>O (a,s)
 |o::l,a,s=>match dP E call nt ops o a s with
  |none=>X
  |some r=>Uh E call nt ops l r.1 r.2
inductive Ex where
 |nrm
 |exit (id:Nat)
 |goto (l:Nat)
 |ret
def Ex.to:Ex->Exit
 | .nrm=> .normal
 | .exit id=> .exit id
 | .goto l=> .goto l
 | .ret=> .ret
def VV:List AV->Nat->AJ AV->AJ AV
 |[],_,t=>t
 |v::l,n,t=>VV l (n+1) (t.set n (O v))
def aC (E:CF) (a:AJ AV) (s:St):ResultVar->Option AV
 | .tmp t=>a.get t
 | .cell t ty=>match a.get t with
  |some (.p b o)=>match E.tt.get ty with
   |some u=>match s.load b o u.size with
    |some l=>Er u l
    |none=>X
   |none=>X
  |_=>X
def Jx:List AV->AV
 |[v]=>v
 |l=> .tup l
section
variable {R:Nat->Nat×Nat} {n:Nat}
theorem Si:∀(l:List AV) (n:Nat) (t:AJ AV) {j:Nat} {x:AV},(VV l n t).get j=O x->(∃i,l[i]?=O x/\j=n+i)\/t.get j=O x
 |[],n,t,j,x,h=> .inr h
 |v::l,n,t,j,x,h=>by
  rcases Si l (n+1) _ h with ⟨i,h1,h2⟩|h1
  .exact .inl ⟨i+1,by simpa using h1,by omega⟩
  .rw[AJ.get_set] at h1
   by_cases e:j=n
   .rw[p_ e] at h1
    cases h1
    exact .inl ⟨0,Z,by omega⟩
   .rw[n_ e] at h1
    exact .inr h1
theorem TR.laid {l:List AV} {vs:Array V_} (h:BM R n l vs.toList) (k:Nat):TR R n (VV l 0 .leaf) {tmps:=vs++xl k undef,defers:=[]}:=λt x hx=>by
 rcases Si l 0 .leaf hx with ⟨i,h1,h2⟩|h1
 .obtain⟨u,e1,e2⟩:=h.get h1
  refine⟨u,?_,e2⟩
  have hi:=(vU.1 e1).1
  rw[vA] at hi
  simp only
  rw[h2,vF,Array.getElem?_append_left hi,<-vW]
  exact e1
 .rw[AJ.get_leaf] at h1;cases h1
end
structure Oh (fr:Nat->Option Obj) (w0:W_) (nt:Nat) (ds:List Deferred) (R:Nat->Nat×Nat) (a:AJ AV) (s:St) (act:Act) (w:W_):Prop where
 hr:HR fr R s w0 w
 tr:TR R s.nx a act
 nt:act.tmps.size=nt
 ds:act.defers=ds
def ED (F:Fence):Prop:=F=Fence.wide\/∃l,F=Fence.wide.inRound l
theorem ED.fn (h:ED F) (f:FuncId):F.fn f:=by rcases h with rfl|⟨l,rfl⟩<;>exact trivial
theorem ED.depth (h:ED F):F.depth=none:=by rcases h with rfl|⟨l,rfl⟩<;>rfl
theorem ED.calls (h:ED F) {args:Array V_} {R:E_->W_->Prop} (hc:K_ P f args w R):CallsIn F n P f args w R:=by
 rcases h with rfl|⟨l,rfl⟩
 .exact callsIn_wide.2 hc
 .exact(callsIn_wide (n:=n)).2 hc
section
variable {P:P_} {E:CF} {F:Fence} {m:Nat} {fr:Nat->Option Obj} {R:Nat->Nat×Nat} {a a':AJ AV} {s s':St} {w0 w:W_} {nt:Nat} {ds:List Deferred} {act:Act}
theorem Oh.put (h:Oh fr w0 nt ds R a s act w) (hE:E4 s.nx R R') (hn:s.nx<=s'.nx) (hr:HR fr R' s' w0 w') {d:Option Tmp} {v:V_} (hx:VR R' s'.nx x v) (hp:Fm nt a d x=O a'):Oh fr w0 nt ds R' a' s' (act.put d v) w':=by
 have ht:=h.tr.mono hn hE
 cases d with
 |none=>cases hp;exact⟨hr,ht,h.nt,h.ds⟩
 |some d=>
  simp only[Fm] at hp
  cases hb:um d nt with
  |false=>rw[hb] at hp;cases hp
  |true=>rw[hb,cond_true] at hp;cases hp;have hd:=DR hb;refine⟨hr,ht.put (by rw[h.nt];exact hd) hx,?_,h.ds⟩;show(act.tmps.setIfInBounds d v).size=nt;rw[xm,h.nt]
theorem VR.undef {R:Nat->Nat×Nat}:VR R n (.tup []) undef:=by simp only[VR];exact⟨[],Z,Z⟩
theorem Gl (h:TR R s.nx a act) {ops:Array Oper} {r:Bool} (hg:E7 ops.toList a o.guard=O r):vx o (yielded ops act.tmps)=r:=by
 unfold vx
 cases hgd:o.guard with
 |none=>rw[hgd] at hg;cases hg;rfl
 |some g=>
  obtain⟨g,b⟩:=g;rw[hgd] at hg;simp only[E7,EG,vW] at hg;simp only[yielded]
  cases ho:ops[g]? with
  |none=>rw[ho] at hg;cases hg;simp
  |some o'=>
   rw[ho] at hg;simp only at hg
   cases hd:o'.dst with
   |none=>rw[hd] at hg;cases hg;simp[hd]
   |some d=>
    rw[hd] at hg;simp only at hg;simp only[Option.bind_some,hd]
    cases hx:a.get d with
    |none=>rw[hx] at hg;cases hg
    |some x=>obtain⟨v,hv,hR⟩:=h d x hx;rw[hx] at hg;rw[hv];(cases x<;>simp only at hg<;>try (cases hg;done));(case b c=>simp only[VR] at hR;subst hR;cases hg;cases b<;>cases c<;>rfl);case tup l=>simp only[VR] at hR;obtain⟨vs,_,rfl⟩:=hR;cases hg;rfl
def Hi (P:P_) (call:C9):Prop:=∀f xs s r s',call f xs s=O (r,s')->∀(F:Fence) (m:Nat) (fr:Nat->Option Obj) (R:Nat->Nat×Nat) (w0 w:W_) (fv:V_) (vs:Array V_),ED F->HR fr R s w0 w->VR R s.nx f fv->BM R s.nx xs vs.toList->
 ∀(o:Oper) (act:Act) (K:Act->W_->Prop) (Q:Exit->Act->W_->Prop),(∀R' v w',E4 s.nx R R'->s.nx<=s'.nx->HR fr R' s' w0 w'->VR R' s'.nx r v->K (act.put o.dst v) w')->
 o.uponIn F m P act K Q ((do let d<-Deferred.ofValue fv vs;invoke d.target d.args:Sem Next).run P w)
theorem Ag.upon {mm:Sem Next} (hr:Ag P fr R s.nx w0 w mm r s') (h:Oh fr w0 nt ds R a s act w) (hp:Fm nt a o.dst (XW r)=O a') (hK:∀R' aa w',E4 s.nx R R'->s.nx<=s'.nx->Oh fr w0 nt ds R' a' s' aa w'->K aa w'):o.uponIn F m P act K Q (mm.run P w):=by
 obtain⟨R',w',hE,hn,hh,hx⟩:=hr
 cases r with
 |some x=>obtain⟨v,hv,ad⟩:=hx;rw[hv,Oper.uponIn_value];exact hK R' _ w' hE hn (h.put hE hn hh ad hp)
 |none=>rw[hx,Oper.uponIn_skip];exact hK R' _ w' hE hn (h.put hE hn hh VR.undef hp)
theorem QR (hE:Ap P E) (h:HR fr R s w0 w) (hT:TR R s.nx a act) {src dst:T_} {x:O_} (hc:YR E a s src dst x=O (r,s')):Ag P fr R s.nx w0 w (do pure (.value (<-convert src dst (act.eval x)))) r s':=by
 unfold YR at hc;(split at hc<;>try (cases hc;done));rename_i l hx;(split at hc<;>try (cases hc;done));rename_i u hu;(split at hc<;>try (cases hc;done));rename_i e hk;(split at hc<;>try (cases hc;done));rename_i ue ak;(split at hc<;>try (cases hc;done));rename_i ao;(split at hc<;>try (cases hc;done));rename_i us aj;(split at hc<;>try (cases hc;done));rename_i aq
 cases af:ui l.length 1000000 with
 |false=>rw[af] at hc;cases hc
 |true=>
 rw[af,cond_true] at hc;have af:=BV af;cases hc;have ag:=AM hT hx;simp only[VR] at ag;obtain⟨ai,hl⟩:=ag;obtain⟨_,⟨d,hd,ah⟩,-⟩:=hE.tt _ _ hu;obtain⟨_,⟨ds,hds,ad⟩,-⟩:=hE.tt _ _ aj;obtain⟨_,⟨de,ar,ae⟩,i,hi,lC,-⟩:=hE.tt _ _ ak;rw[hk] at ah;rw[aq] at ad;rw[ao] at ae;obtain rfl:d= .slice e:=ah;obtain rfl:ds= .string:=ad;obtain rfl:de= .int .u8:=ae;have hr:=run_bytes_of_string (P:=P) w src dst e (BP l) hds hd ar;have hge:=grownCap_ge w (BP l).size 0 e;rw[Cj] at hr hge;have aa:(bytesRow (BP l) (grownCap w l.length 0 e)).toList=(l.map λc:Nat=>Value.int .u8 (c:Int))++List.replicate (grownCap w l.length 0 e-l.length) (.int .u8 0):=(by unfold bytesRow;rw[Cj];have:=MQ hl;unfold byteCells at this;simp only[wY,ww,Array.toList_replicate];rw[<-this]);have an:(bytesRow (BP l) (grownCap w l.length 0 e)).size=grownCap w l.length 0 e:=(by rw[<-vA,aa];simp;omega);have hcl:=grownCap_le_maxLen w l.length 0 e CJ;have au:E4 s.nx R (λb=>if b=s.nx then (w.drew.heap.size,grownCap w l.length 0 e) else R b):=λb hb=>n_ A0
 obtain⟨h2,h3⟩:=h.drew.new (.ro e (l.map λc=> .i .u8 (.ofNat c))) (.cells (bytesRow (BP l) (grownCap w l.length 0 e)) e ((bytesRow (BP l) (grownCap w l.length 0 e)).size,(bytesRow (BP l) (grownCap w l.length 0 e)).size+1)) (grownCap w l.length 0 e) ⟨_,_,Z,an,by rw[wQ];omega,by
  rw[wQ,aa,xR (by simp)];(refine BM.of (by simp) λj y hj=>?_);rw[vm] at hj
  cases hc:l[j]? with
  |none=>rw[hc] at hj;cases hj
  |some c=>rw[hc] at hj;cases hj;exact⟨.int .u8 (c:Int),by simp[hc],by simp only[VR];rfl⟩,λc hc=>by
  obtain⟨n,_,rfl⟩:=vL.1 hc
  rfl⟩
 refine⟨_,_,h3,vB _,h2,.slice (O ⟨w.heap.size,0,X⟩) l.length (grownCap w l.length 0 e),by rw[ai];simp[Sem.run_bind,hr],?_⟩;simp only[VR];exact⟨vX _,0,_,by simp,.inr Z,λh=>CZ,hge,hge,hcl,by simp⟩
theorem Ze (hE:Ap P E) {call:C9} (hc:Hi P call) (hF:ED F) (h:Oh fr w0 nt ds R a s act w) (ho:aV E call a s o=O (r,s')) (hp:Fm nt a o.dst (XW r)=O a') (hK:∀R' ae w',E4 s.nx R R'->s.nx<=s'.nx->Oh fr w0 nt ds R' a' s' ae w'->K ae w'):o.wpIn F m P act w K Q:=by
 refine⟨λf _=>hF.fn f,?_⟩;(have ai:∀c,o.op≠ .defer c:=λc e=>by unfold aV at ho;rw[e] at ho;cases ho);rw[Oper.semAt_eq _ _ _ ai];unfold aV at ho;split at ho
 .rename_i c af;(split at ho<;>try (cases ho;done));rename_i xs ag;have aa:BM R s.nx xs (c.args.map act.eval).toList:=(by rw[ww];exact GV h.tr ag);have he:x_ act.eval o=(do let d<-resolve act.eval c o.type;invoke d.target d.args:Sem Next):=(by unfold x_;rw[af]);rw[he];split at ho<;>try (cases ho;done)
  .rename_i b hb;have ad:∃consts,(do let d<-resolve act.eval c o.type;invoke d.target d.args:Sem Next)=builtin b c.argTypes o.type consts (c.args.map act.eval):=(by exact X8);obtain⟨consts,ad⟩:=ad;rw[ad];exact(TZ hE h.hr aa o.type consts ho).upon h hp hK
  .rename_i f hf;(split at ho<;>try (cases ho;done));rename_i fa aj;(split at ho<;>try (cases ho;done));rename_i q hq;cases ho;have ad:(do let d<-resolve act.eval c o.type;invoke d.target d.args:Sem Next)=(do let d<-Deferred.ofValue (act.eval f) (c.args.map act.eval);invoke d.target d.args:Sem Next):=(by simp only[resolve,hf]);rw[ad];exact hc _ _ _ _ _ hq F m fr R w0 w _ _ hF h.hr (AM h.tr aj) aa o act K Q λR' v w' h1 h2 h3 h4=>hK R' _ w' h1 h2 (h.put h1 h2 h3 h4 hp)
 .rename_i src dst x af;split at ho
  .rename_i r' ah;cases ho;have he:x_ act.eval o=(do pure (.value (<-convert src dst (act.eval x))):Sem Next):=(by unfold x_;rw[af]);rw[he];exact(QR hE h.hr h.tr ah).upon h hp hK
  .exact(JU hE h.hr h.tr ho).upon h hp hK
 .rename_i op af;exact(JU hE h.hr h.tr ho).upon h hp hK
theorem Vp (hE:Ap P E) {call:C9} (hc:Hi P call) (hF:ED F) (h:Oh fr w0 nt ds R a s act w) {ops:Array Oper} (hi:ops[i]?=O o) {r:AJ AV×St} (ho:dP E call nt ops.toList o a s=O r) (hK:∀R' aa w',E4 s.nx R R'->s.nx<=r.2.nx->Oh fr w0 nt ds R' r.1 r.2 aa w'->K aa w'):wpOpIn F m P ops Q i K act w:=by
 unfold dP at ho;unfold wpOpIn;rw[hi];simp only;split at ho<;>try (cases ho;done)
 .rename_i hg;rw[Gl h.tr hg];simp only[xL,if_false];(split at ho<;>try (cases ho;done));rename_i a1 hp;cases ho;exact⟨λf _=>hF.fn f,hK R _ w (E4.refl _ _) (un _) (h.put (E4.refl _ _) (un _) h.hr VR.undef hp)⟩
 .rename_i hg;rw[Gl h.tr hg];simp only[if_true];(split at ho<;>try (cases ho;done));rename_i q hq;(split at ho<;>try (cases ho;done));rename_i a1 hp;cases ho;exact Ze hE hc hF h hq hp hK
theorem O1 (hE:Ap P E) {call:C9} (hc:Hi P call) (hF:ED F) {ops:Array Oper} {Q:Exit->Act->W_->Prop}:
  ∀(l:List Oper) (k:Nat) (R:Nat->Nat×Nat) (a:AJ AV) (s:St) (act:Act) (w:W_) (r:AJ AV×St),ops.toList.drop k=l->Oh fr w0 nt ds R a s act w->Uh E call nt ops.toList l a s=O r->
  (∀R' act' w',E4 s.nx R R'->s.nx<=r.2.nx->Oh fr w0 nt ds R' r.1 r.2 act' w'->Q .normal act' w')->wpOpsIn F m P ops Q (List.range' k l.length) act w
 |[],k,R,a,s,act,w,r,hl,h,ho,hQ=>by
  cases ho
  exact hQ R act w (E4.refl _ _) (un _) h
 |o::l,k,R,a,s,act,w,r,hl,h,ho,hQ=>by
  simp only[Uh] at ho
  split at ho<;>try (cases ho;done)
  rename_i q hq
  have hk:ops[k]?=O o:=by
   have:=congrArg (λl=>l[0]?) hl
   simpa using this
  rw[wI,List.range'_succ,wpOpsIn_cons]
  refine Vp hE hc hF h hk hq λR1 act1 w1 h1 h2 h3=>?_
  refine O1 hE hc hF l (k+1) R1 q.1 q.2 act1 w1 r ?_ h3 ho λR2 act2 w2 g1 g2 g3=>hQ R2 act2 w2 (λb hb=>by rw[g1 b (vN hb h2),h1 b hb]) (vP h2 g2) g3
  rw[show k+1=1+k from vy _ _,vy,<-List.drop_drop,hl];rfl
end
end
end
section
variable {R':Nat->Nat×Nat} {a:AJ AV} {n' nt:Nat}
noncomputable section
abbrev RH:=C9->Nat->List Oper->AJ AV->St->Option (AJ AV×St)
def ZG (nt:Nat):List Tmp->List AV->AJ AV->Option (AJ AV)
 |[],[],t=>O t
 |p::ps,x::xs,t=>bif um p nt then ZG nt ps xs (t.set p (O x)) else X
 |_,_,_=>X
def Xa:Ex->Option Code
 | .nrm=>X
 | .exit i=>O (.exit i)
 | .goto l=>O (.goto l)
 | .ret=>O .ret
def Yj (call:C9) (evc:Code->AJ AV->St->Option (Ex×AJ AV×St)) (nt:Nat) (a:AJ AV) (s:St) (g:O_) (ps:Array Tmp) (asg body:Code):Option (Ex×AJ AV×St):=match Ck a g with
 |some (.fn f fst nr)=>match call (.fn f fst nr) [.y s.nx] (s.new (.loop a nt ps.toList asg body X)) with
  |none=>X
  |some r=>match r.2.h.get s.nx with
   |some (.loop _ _ _ _ _ pend)=>match pend with
    |none=>O (.nrm,a,⟨r.2.h.set s.nx X,r.2.nx⟩)
    |some c=>evc c a ⟨r.2.h.set s.nx X,r.2.nx⟩
   |_=>X
 |_=>X
def cP (E:CF) (evc:Nat->Code->AJ AV->St->Option (Ex×AJ AV×St)) (fn:Func) (c:Code) (xs:List AV) (s:St):Option (AV×St):=bif ui xs.length fn.ntmps then match evc fn.ntmps c (VV xs 0 .leaf) s with
  |none=>X
  |some (x,a,s)=>match x with
   | .exit _=>X
   | .goto _=>X
   |_=>match Do (aC E a s) fn.results.toList with
    |some l=>O (Jx l,s)
    |none=>X
 else X
def jR (E:CF) (evc:Nat->Code->AJ AV->St->Option (Ex×AJ AV×St)) (f:FuncId) (fst nr xs:List AV) (s:St):Option (AV×St):=match E.ft.get f with
 |none=>X
 |some fn=>match fn.body with
  |none=>X
  |some c=>cP E evc fn c (fst++(xs++nr)) s
def nl (evc:Nat->Code->AJ AV->St->Option (Ex×AJ AV×St)) (l:Nat) (xs:List AV) (s:St):Option (AV×St):=match s.h.get l with
 |some (.loop tm nt ps asg body pend)=>match pend with
  |some _=>X
  |none=>match ZG nt ps xs tm with
   |none=>X
   |some tm1=>match evc nt asg tm1 ⟨s.h.set l X,s.nx⟩ with
    |some (.nrm,a1,s1)=>match evc nt body a1 s1 with
     |none=>X
     |some (x,_,s2)=>match s2.h.get l with
      |some _=>X
      |none=>O (.b (Xa x).isNone,⟨s2.h.set l (O (.loop tm nt ps asg body (Xa x))),s2.nx⟩)
    |_=>X
 |_=>X
mutual
def ev (E:CF) (draw:RH):Nat->Bool->Nat->Code->AJ AV->St->Option (Ex×AJ AV×St)
 |0,_,_,_,_,_=>X
 |n+1,inr,nt,c,a,s=>match c with
  | .skip=>O (.nrm,a,s)
  | .label _=>O (.nrm,a,s)
  | .ret=>O (.ret,a,s)
  | .exit i=>O (.exit i,a,s)
  | .goto l=>O (.goto l,a,s)
  | .region _ ops d=>match d with
   |true=>match draw (Ei E draw n) nt ops.toList a s with
    |some r=>O (.nrm,r.1,r.2)
    |none=>X
   |false=>match Uh E (Ei E draw n) nt ops.toList ops.toList a s with
    |some r=>O (.nrm,r.1,r.2)
    |none=>X
  | .seq x y=>match ev E draw n inr nt x a s with
   |some (.nrm,a,s)=>ev E draw n inr nt y a s
   |r=>r
  | .cond c x y=>match Ck a c with
   |some (.b B)=>ev E draw n inr nt x a s
   |some (.b G)=>ev E draw n inr nt y a s
   |_=>X
  | .block id x=>match ev E draw n inr nt x a s with
   |some (.exit j,a,s)=>bif uh j id then O (.nrm,a,s) else O (.exit j,a,s)
   |r=>r
  | .loop x=>match ev E draw n inr nt x a s with
   |some (.nrm,a,s)=>ev E draw n inr nt (.loop x) a s
   |r=>r
  | .scope x=>match ev E draw n inr nt x a s with
   |none=>X
   |some (x,a,s)=>match x with
    | .goto _=>X
    |x=>O (x,a,s)
  | .rangeFunc g ps asg body=>match inr with
   |true=>X
   |false=>Yj (Ei E draw n) (ev E draw n G nt) nt a s g ps asg body
  |_=>X
def Ei (E:CF) (draw:RH):Nat->AV->List AV->St->Option (AV×St)
 |0,_,_,_=>X
 |n+1,f,xs,s=>match f with
  | .fn f fst nr=>jR E (ev E draw n G) f fst nr xs s
  | .y l=>nl (ev E draw n B) l xs s
  |_=>X
end
def GM (inr:Bool) (fr:Nat->Option Obj) (ds:List Deferred) (fr':Nat->Option Obj) (ds':List Deferred):Prop:=
 ∃ms:List Nat,(inr=B->ms=[])/\ms.Nodup/\ds'=ms.map (λD=>{target:= .collected D,args:=#[]})++ds/\(∀k o,fr k=O o->fr' k=O o)/\∀D∈ms,fr' D=O (.deferred (O []))/\fr D=X
theorem GM.refl (inr:Bool) (fr:Nat->Option Obj) (ds:List Deferred):GM inr fr ds fr ds:=⟨[],λ_=>rfl,wU,Z,λ_ _ h=>h,λ_ h=>by cases h⟩
theorem GM.trans {inr:Bool} {f1 f2 f3:Nat->Option Obj} {d1 d2 d3:List Deferred} (h:GM inr f1 d1 f2 d2) (h':GM inr f2 d2 f3 d3):GM inr f1 d1 f3 d3:=by
 obtain⟨ms,h0,h1,rfl,h2,h3⟩:=h;obtain⟨ns,g0,g1,rfl,g2,g3⟩:=h';refine⟨ns++ms,λe=>by rw[h0 e,g0 e];rfl,?_,by simp,λk o hk=>g2 k o (h2 k o hk),λD hD=>?_⟩
 .refine List.nodup_append.2 ⟨g1,h1,λx hx y hy e=>?_⟩;subst e;have:=(g3 x hx).2;rw[(h3 x hy).1] at this;cases this
 .rcases wA.1 hD with hD|hD
  .refine⟨(g3 D hD).1,?_⟩
   cases hf:f1 D with
   |none=>rfl
   |some o=>have:=h2 D o hf;rw[(g3 D hD).2] at this;cases this
  .exact⟨g2 D _ (h3 D hD).1,(h3 D hD).2⟩
def Jl (P:P_) (inr:Bool) (nt:Nat) (c:Code) (a:AJ AV) (s:St) (x:Ex) (a':AJ AV) (s':St):Prop:=
 ∀(F:Fence) (m:Nat) (fr:Nat->Option Obj) (R:Nat->Nat×Nat) (w0 w:W_) (ds:List Deferred) (act:Act) (Q:Exit->Act->W_->Prop),ED F->F.round.isSome=inr->Oh fr w0 nt ds R a s act w->
 (∀fr' ds' R' act' w',GM inr fr ds fr' ds'->E4 s.nx R R'->s.nx<=s'.nx->Oh fr' w0 nt ds' R' a' s' act' w'->Q x.to act' w')->c.wpIn F m P Q act w
def ow (P:P_) (call:C9):Prop:=∀f fst nr xs s r s',call (.fn f fst nr) xs s=O (r,s')->(∀args w,(callFunc f args).run P w= .ok (.enter f args) w)/\
 ∀(F:Fence) (m:Nat) (fr:Nat->Option Obj) (R:Nat->Nat×Nat) (w0 w:W_) (us cs:List V_) (vs:Array V_),ED F->HR fr R s w0 w->BM R s.nx fst us->BM R s.nx nr cs->BM R s.nx xs vs.toList->
  CallsIn F m P f (us.toArray++vs++cs.toArray) w λe w'=>∃v R',e= .returned v/\E4 s.nx R R'/\s.nx<=s'.nx/\HR fr R' s' w0 w'/\VR R' s'.nx r v
def JJ (P:P_) (draw:RH):Prop:=∀(call:C9),Hi P call->∀(nt:Nat) (ops:Array Oper) (a:AJ AV) (s:St) (r:AJ AV×St),draw call nt ops.toList a s=O r->
 ∀(F:Fence) (m:Nat) (fr:Nat->Option Obj) (R:Nat->Nat×Nat) (w0 w:W_) (ds:List Deferred) (act:Act) (id:Nat) (Q:Exit->Act->W_->Prop),ED F->Oh fr w0 nt ds R a s act w->
 (∀R' act' w',E4 s.nx R R'->s.nx<=r.2.nx->Oh fr w0 nt ds R' r.1 r.2 act' w'->Q .normal act' w')->(Code.region id ops B).wpIn F m P Q act w
theorem E4.trans {R R'':Nat->Nat×Nat} (h:E4 n R R') (hn:n<=n') (h':E4 n' R' R''):E4 n R R'':=λb hb=>by rw[h' b (vN hb hn),h b hb]
theorem Rf {p:Nat->Prop} (h:∃k,p k):∃k,p k/\∀j,p j->k<=j:=by
 obtain⟨k,hk⟩:=h
 induction k using Nat.strongRecOn with
 |_ k ih=>
  by_cases hs:∃j,j<k/\p j
  .obtain⟨j,hj,hp⟩:=hs;exact ih j hj hp
  .refine⟨k,hk,λj hj=>?_⟩;by_cases hl:j<k
   .exact a_ ⟨j,hl,hj⟩ hs
   .omega
section
variable {P:P_} {E:CF} {draw:RH}
theorem kI {inr:Bool} {c:Code} {Nq:Nat} (ih:∀n,n<=Nq->∀a s x a' s',ev E draw n inr nt c a s=O (x,a',s')->Jl P inr nt c a s x a' s') {s:St} {x:Ex} {a':AJ AV} {s':St} (h:ev E draw (Nq+1) inr nt (.loop c) a s=O (x,a',s')):Jl P inr nt (.loop c) a s x a' s':=by
 intro F m fr R w0 w ds act Q hF ar hrel hQ
 classical
 (let J:Nat->Act->W_->Prop:=λk aa w1=>k<=Nq+1/\∃a1 s1 aj an R1,ev E draw k inr nt (.loop c) a1 s1=O (x,a',s')/\GM inr fr ds aj an/\E4 s.nx R R1/\s.nx<=s1.nx/\Oh aj w0 nt an R1 a1 s1 aa w1);(let μ:Act->W_->Nat:=λaa w1=>if hx:∃k,J k aa w1 then (Rf hx).choose else 0);refine wpIn_loop (λaa w1=>∃k,J k aa w1) μ ⟨Nq+1,un _,a,s,fr,ds,R,h,GM.refl _ _ _,E4.refl _ _,un _,hrel⟩ ?_;intro aa w1 hJ;have hμ:μ aa w1=(Rf hJ).choose:=dif_pos hJ;obtain⟨hk,a1,s1,aj,an,R1,he,hG,hE,hn,au⟩:=(Rf hJ).choose_spec.1;rw[hμ];generalize (Rf hJ).choose=k at hk he
 cases k with
 |zero=>simp only[ev] at he;cases he
 |succ k=>
  simp only[ev] at he;have av:k<=Nq:=A0
  cases hx:ev E draw k inr nt c a1 s1 with
  |none=>rw[hx] at he;cases he
  |some r=>
   obtain⟨x1,a2,s2⟩:=r;rw[hx] at he;(refine ih k av _ _ _ _ _ hx F m aj R1 w0 w1 an aa _ hF ar au λai ak R2 ad w2 ag ah af ae=>?_)
   cases x1 with
   |nrm=>simp only at he;have aq:J k ad w2:=⟨by omega,a2,s2,ai,ak,R2,he,hG.trans ag,hE.trans hn ah,vP hn af,ae⟩;refine⟨⟨k,aq⟩,?_⟩;have ao:∃k,J k ad w2:=⟨k,aq⟩;have:μ ad w2=(Rf ao).choose:=dif_pos ao;rw[this];exact Nat.lt_succ_of_le ((Rf ao).choose_spec.2 k aq)
   |exit id=>cases he;exact hQ ai ak R2 ad w2 (hG.trans ag) (hE.trans hn ah) (vP hn af) ae
   |goto l=>cases he;exact hQ ai ak R2 ad w2 (hG.trans ag) (hE.trans hn ah) (vP hn af) ae
   |ret=>cases he;exact hQ ai ak R2 ad w2 (hG.trans ag) (hE.trans hn ah) (vP hn af) ae
end
end
end
section
variable {D nt:Nat} {F:Fence} {K:Act->World->Prop} {Q:Exit->Act->World->Prop} {a:AJ AV} {lu:Fk} {o:Oper} {o':Obj} {w:World}
noncomputable section
section
variable {P:P_} {E:CF} {draw:RH} {F:Fence} {m:Nat} {fr:Nat->Option Obj} {R:Nat->Nat×Nat} {s s':St} {w0 w:W_} {nt:Nat} {ds:List Deferred} {a:AJ AV} {act:Act}
theorem Ku {α:Type} {g:α->Option AV} {f:α->Sem V_} {n:Nat} (h:∀x y,g x=O y->∃v,(f x).run P w= .ok v w/\VR R n y v):∀(l:List α) {xs:List AV},Do g l=O xs->∃vs,(l.mapM f).run P w= .ok vs w/\BM R n xs vs
 |[],xs,hx=>by
  cases hx
  exact⟨[],by simp[List.mapM_nil],by simp only[BM]⟩
 |x::l,xs,hx=>by
  unfold Do at hx
  cases hy:g x with
  |none=>rw[hy] at hx;cases hx
  |some y=>
   rw[hy] at hx
   cases hl:Do g l with
   |none=>rw[hl] at hx;cases hx
   |some ys=>
    rw[hl] at hx
    cases hx
    obtain⟨v,hv,hR⟩:=h x y hy
    obtain⟨vs,hvs,hRs⟩:=Ku h l hl
    exact⟨v::vs,by simp[xW,Sem.run_bind,hv,hvs],by simp only[BM];exact⟨v,vs,Z,hR,hRs⟩⟩
theorem Rs (hE:Ap P E) (h:HR fr R s w0 w) (hT:TR R s.nx a act) {fn:Func} {l:List AV} (hl:Do (aC E a s) fn.results.toList=O l):∃v,(results fn act.tmps).run P w= .ok v w/\VR R s.nx (Jx l) v:=by
 obtain⟨f,hf,hf1,aa⟩:∃f:ResultVar->Sem V_,results fn act.tmps=(do let vs<-fn.results.mapM f;pure (if h:vs.size=1 then vs[0] else .tuple vs))/\(∀t,f (.tmp t)=pure (act.tmps.getD t undef))/\∀t ty,f (.cell t ty)=(do loadVar ty (<-asAddr (act.tmps.getD t undef))):=⟨_,Z,λ_=>rfl,λ_ _=>rfl⟩
 have key:∀x y,aC E a s x=O y->∃v,(f x).run P w= .ok v w/\VR R s.nx y v:=λx y hy=>by
  cases x with
  |tmp t=>obtain⟨v,h1,h2⟩:=hT t y hy;exact⟨v,by rw[hf1];simp[wP,h1],h2⟩
  |cell t ty=>simp only[aC] at hy;(split at hy<;>try (cases hy;done));rename_i b o ht;(split at hy<;>try (cases hy;done));rename_i u hu;(split at hy<;>try (cases hy;done));rename_i l hl;obtain⟨v,h1,h2⟩:=Rh hE h hu hl hy;refine⟨v,?_,h2⟩;obtain⟨p,h3,h4⟩:=hT t _ ht;simp only[VR] at h4;obtain⟨_,rfl⟩:=h4;simp only[Instr.loadAt,Instr.sureAddr,Sem.run_bind,Sem.run_pure,Result.andThen_ok] at h1;rw[aa];simp[wP,h3,asAddr,h1]
 obtain⟨vs,h1,h2⟩:=Ku key fn.results.toList hl;refine⟨if h:vs.toArray.size=1 then vs.toArray[0] else .tuple vs.toArray,?_,?_⟩
 .rw[hf,Array.mapM_eq_mapM_toList,map_eq_pure_bind];simp only[Sem.run_bind,h1,Result.andThen_ok,Sem.run_pure]
 .cases l with
  |nil=>simp only[BM] at h2;subst h2;simp only[Jx,VR];exact⟨[],Z,Z⟩
  |cons x l=>
   cases l with
   |nil=>simp only[BM] at h2;obtain⟨u,us,rfl,h3,rfl⟩:=h2;exact h3
   |cons y l=>have h3:=h2.length;simp only[Jx,VR];refine⟨vs,h2,?_⟩;rw[dif_neg];simp[h3]
theorem HR.less {aa:Nat->Option Obj} (h:HR aa R s w0 w) (hf:∀k o,fr k=O o->aa k=O o):HR fr R s w0 w:=by
 refine⟨h.os,h.tape,h.output,λk o hk=>h.fr k o (hf k o hk),h.lt,λb x hb=>⟨?_,(h.own b x hb).2⟩,h.inj⟩;have h1:=(h.own b x hb).1
 cases hx:fr (R b).1 with
 |none=>rfl
 |some o=>have:=hf _ _ hx;rw[h1] at this;cases this
theorem HR.aside (h:HR fr R s w0 w) (hD:fr D=X) (ad:∀b,s.h.get b≠X->(R b).1≠D) (hl:D<w.heap.size) (o:Obj):HR fr R s w0 (w.putObj D o):=by
 refine⟨h.os,h.tape,h.output,λk o' hk=>?_,h.lt,λb x hb=>?_,h.inj⟩
 ·(have aa:k≠D:=λe=>by rw[e,hD] at hk;cases hk);rw[vY aa];exact h.fr k o' hk
 .obtain⟨h1,o',h2,h3⟩:=h.own b x hb;exact⟨h1,o',by rw[vY (ad b (by rw[hb];simp))];exact h2,h3⟩
theorem IR {fn:Func} {tmps:Array V_} {Rr:E_->W_->Prop} (hF:F.depth=X) (hres:∀w',HR fr R s w0 w'->∃v,(results fn tmps).run P w'= .ok v w'/\Rr (.returned v) w'):
  ∀(ms:List Nat) (w:W_),HR fr R s w0 w->ms.Nodup->(∀D∈ms,w.heap[D]?=O (.deferred (O []))/\fr D=X/\∀b,s.h.get b≠X->(R b).1≠D)->
  LeavesInM F m P fn tmps Rr (ms.map λD=>{target:= .collected D,args:=#[]}) .returning w
 |[],w,h,_,_=>hres w h
 |D::ms,w,h,hn,hm=>by
  obtain⟨h1,h2,h3⟩:=hm D (.head _)
  refine⟨by simp,.inl ⟨D,w.putObj D (.deferred X),Z,run_takeDeferred h1,?_⟩⟩
  refine IR hF hres ms _ (h.aside h2 h3 (Af h1) _) hn.tail λD' hD'=>?_
  obtain⟨g1,g2,g3⟩:=hm D' (.tail _ hD')
  have:D'≠D:=λe=>by subst e;exact(vJ.1 hn).1 hD'
  exact⟨by rw[vY this];exact g1,g2,g3⟩
def Ee (fr:Nat->Option Obj) (D:Nat) (o:Obj):Nat->Option Obj:=λk=>if k=D then O o else fr k
theorem HR.hold (h:HR fr R s w0 w) (o:Obj):HR (Ee fr w.heap.size o) R s w0 (w.alloc o):=by
 (have hF:∀k o',fr k=O o'->k<w.heap.size:=λk o' hk=>Af (h.fr k o' hk));refine⟨h.os,h.tape,h.output,λk o' hk=>?_,h.lt,λb y hy=>?_,h.inj⟩
 .unfold Ee at hk;by_cases e:k=w.heap.size
  .rw[p_ e] at hk;cases hk;rw[e];exact heap_alloc_new w o
  .rw[n_ e] at hk;rw[World.heap_alloc_lt' w o k (hF k o' hk)];exact h.fr k o' hk
 .obtain⟨h1,o',h2,h3⟩:=h.own b y hy;have hl:=Af h2;refine⟨?_,o',?_,h3⟩
  .unfold Ee;rw[n_ A0];exact h1
  .rw[World.heap_alloc_lt' w o _ hl];exact h2
theorem EO {b:Frame} {a:Act} {k:List Item} {cs:List Frame} {w:W_} {c:Code}:step P (lone (b.atR a (.code (.scope c)::k)) cs w)= .next (lone (b.atR a (.code c:: .inScope c::k)) cs w):=
 step_lone_go (by simp[stepG,stepG.exec,Frame.atR])
theorem RO {b:Frame} {a:Act} {k:List Item} {cs:List Frame} {w:W_} {c:Code}:step P (lone (b.atR a (.inScope c::k)) cs w)= .next (lone (b.atR a k) cs w):=
 step_lone_go (by simp[stepG,stepG.exec,Frame.atR])
theorem U6 {a:Act} {c:Code} (h:c.wpIn F m P (Exit.noGoto Q) a w):(Code.scope c).wpIn F m P Q a w:=by
 intro b k cs ad hb hr;have h0:(lone (b.atR a (.code (.scope c)::k)) cs w).fenced P F:=fenced_calm hb hr Z;obtain⟨e,a₁,w₁,hq,aa⟩:=h b (.inScope c::k) cs ad hb hr
 cases e with
 |normal=>exact⟨.normal,a₁,w₁,hq,.head h0 EO (StepsIn.trans aa (.one (fenced_calm hb hr Z) RO))⟩
 |exit id=>
  have hx:exitTo id (.inScope c::k)=exitTo id k:=(by simp[exitTo])
  exact⟨.exit id,a₁,w₁,hq,λk' hk=> .head h0 EO (aa.1 k' (by rw[hx];exact hk)),
   λae hk=>let ⟨k₁,h1,h2⟩:=aa.2 ae (by rw[hx];exact hk);⟨k₁,h1,.head h0 EO h2⟩⟩
 |goto l=>exact hq.elim
 |ret=>exact⟨_,a₁,w₁,hq,.of_steps (.one h0 EO) aa⟩
 |panic ch=>exact⟨_,a₁,w₁,hq,.of_steps (.one h0 EO) aa⟩
 |outgrown=>exact⟨_,a₁,w₁,hq,.of_steps (.one h0 EO) aa⟩
theorem kL (hE:Ap P E) (hD:JJ P draw) {Nq:Nat} (ao:∀inr nt c a s x a' s',ev E draw Nq inr nt c a s=O (x,a',s')->Jl P inr nt c a s x a' s') (bh:Hi P (Ei E draw Nq)) (br:ow P (Ei E draw Nq)) {inr:Bool} {c:Code} (hc:∀c',c≠ .loop c') {s:St} {x:Ex} {a':AJ AV} {s':St} (h:ev E draw (Nq+1) inr nt c a s=O (x,a',s')):Jl P inr nt c a s x a' s':=by
 intro F m fr R w0 w ds act Q hF aj hrel hQ;(have bb:O (x,a',s')=O (x,a,s)->Q x.to act w:=λe=>by cases e;exact hQ fr ds R act w (GM.refl _ _ _) (E4.refl _ _) (un _) hrel)
 cases c with
 |loop c=>exact a_ Z (hc c)
 |skip=>simp only[ev] at h;cases h;exact wpIn_skip (bb Z)
 |label l=>simp only[ev] at h;cases h;exact wpIn_label (bb Z)
 |ret=>simp only[ev] at h;cases h;exact wpIn_ret (bb Z)
 |exit i=>simp only[ev] at h;cases h;exact wpIn_exit (bb Z)
 |goto l=>simp only[ev] at h;cases h;exact wpIn_goto (bb Z)
 |region id ops d=>
  simp only[ev] at h
  cases d with
  |true=>
   simp only at h
   cases hr:draw (Ei E draw Nq) nt ops.toList a s with
   |none=>rw[hr] at h;cases h
   |some r=>rw[hr] at h;cases h;exact hD _ bh nt ops a s r hr F m fr R w0 w ds act id Q hF hrel λR' ar w' h1 h2 h3=>hQ fr ds R' ar w' (GM.refl _ _ _) h1 h2 h3
  |false=>
   simp only at h
   cases hr:Uh E (Ei E draw Nq) nt ops.toList ops.toList a s with
   |none=>rw[hr] at h;cases h
   |some r=>rw[hr] at h;cases h;refine wpIn_region ?_;(have:=O1 (F:=F) (m:=m) (Q:=Q) hE bh hF ops.toList 0 R a s act w r Z hrel hr λR' ar w' h1 h2 h3=>hQ fr ds R' ar w' (GM.refl _ _ _) h1 h2 h3);rw[vA,<-List.range_eq_range'] at this;exact this
 |seq y z=>
  simp only[ev] at h;refine wpIn_seq ?_
  cases hx:ev E draw Nq inr nt y a s with
  |none=>rw[hx] at h;cases h
  |some r=>
   obtain⟨x1,a1,s1⟩:=r;rw[hx] at h;(refine ao _ _ _ _ _ _ _ _ hx F m fr R w0 w ds act _ hF aj hrel λag ah R1 aa w1 ae af hn1 ad=>?_)
   cases x1 with
   |nrm=>simp only at h;exact ao _ _ _ _ _ _ _ _ h F m ag R1 w0 w1 ah aa Q hF aj ad λcn cq R2 bg w2 ch ck au bx=>hQ cn cq R2 bg w2 (ae.trans ch) (af.trans hn1 ck) (vP hn1 au) bx
   |exit id=>cases h;exact hQ ag ah R1 aa w1 ae af hn1 ad
   |goto l=>cases h;exact hQ ag ah R1 aa w1 ae af hn1 ad
   |ret=>cases h;exact hQ ag ah R1 aa w1 ae af hn1 ad
 |cond q y z=>
  simp only[ev] at h;split at h<;>try (cases h;done)
  .rename_i hq;have hv:=AM hrel.tr hq;simp only[VR] at hv;exact wpIn_cond_true hv (ao _ _ _ _ _ _ _ _ h F m fr R w0 w ds act Q hF aj hrel hQ)
  .rename_i hq;have hv:=AM hrel.tr hq;simp only[VR] at hv;exact wpIn_cond_false hv (ao _ _ _ _ _ _ _ _ h F m fr R w0 w ds act Q hF aj hrel hQ)
 |block id y=>
  simp only[ev] at h;refine wpIn_block ?_
  cases hx:ev E draw Nq inr nt y a s with
  |none=>rw[hx] at h;cases h
  |some r=>
   obtain⟨x1,a1,s1⟩:=r;rw[hx] at h;(refine ao _ _ _ _ _ _ _ _ hx F m fr R w0 w ds act _ hF aj hrel λag ah R1 aa w1 ae af hn1 ad=>?_)
   cases x1 with
   |nrm=>cases h;exact hQ ag ah R1 aa w1 ae af hn1 ad
   |goto l=>cases h;exact hQ ag ah R1 aa w1 ae af hn1 ad
   |ret=>cases h;exact hQ ag ah R1 aa w1 ae af hn1 ad
   |exit j=>
    simp only at h;show if j=id then Q .normal aa w1 else Q (.exit j) aa w1;by_cases e:j=id
    .rw[p_ e];rw[MV e,cond_true] at h;cases h;exact hQ ag ah R1 aa w1 ae af hn1 ad
    .rw[n_ e];rw[KE e,cond_false] at h;cases h;exact hQ ag ah R1 aa w1 ae af hn1 ad
 |rangeFunc g ps av body=>
  simp only[ev] at h
  cases inr with
  |true=>cases h
  |false=>
   simp only[Yj] at h;(split at h<;>try (cases h;done));rename_i f fst nr hg;(split at h<;>try (cases h;done));rename_i r hr;(split at h<;>try (cases h;done));rename_i cu cx cw cr bn bq ay;have hv:=AM hrel.tr hg;simp only[VR] at hv;obtain⟨us,cs,bu,cd,ca⟩:=hv;obtain⟨hcf,az⟩:=br f fst nr _ _ r.1 r.2 hr
   have aq:F.round=none:=by
    cases hx:F.round with
    |none=>rfl
    |some l=>rw[hx] at aj;cases aj
   have h1:=hrel.hr.hold (.deferred (O []));refine wpIn_rangeFunc λfn cy=>?_
   have h2:=h1.new (.loop a nt ps.toList av body X) (.loop {state:= .ready,pending:=X,fn:=fn,tmps:=act.tmps,params:=ps,assign:=av,body:=body,defers:=w.heap.size}) 0 ⟨_,Z,Z,Z,by simp,Z,Z,hrel.nt,λt x hx=>by
    obtain⟨v,g1,g2⟩:=hrel.tr t x hx
    exact⟨v,g1,g2.mono (vB _) λb hb=>n_ (Nat.ne_of_lt hb)⟩⟩
   obtain⟨hh,ak⟩:=h2;have hl:(w.alloc (.deferred (O []))).heap.size=w.heap.size+1:=World.size_alloc _ _;rw[hl] at hh ak;(have bd:∀W:W_,(resolve act.eval (rangeCall g (w.heap.size+1)) 0).run P W= .ok {target:= .fn (.func f) cs.toArray,args:=us.toArray++#[.func (.yield (w.heap.size+1)) #[] #[]]} W:=λW=>by simp only[resolve,ca];simp[go_sem]);refine⟨w.heap.size+1,[{target:= .collected w.heap.size,args:=#[]}],((w.alloc (.deferred (O []))).alloc (.loop {state:= .ready,pending:=X,fn:=fn,tmps:=act.tmps,params:=ps,assign:=av,body:=body,defers:=w.heap.size})),_,((w.alloc (.deferred (O []))).alloc (.loop {state:= .ready,pending:=X,fn:=fn,tmps:=act.tmps,params:=ps,assign:=av,body:=body,defers:=w.heap.size})),f,us.toArray++#[.func (.yield (w.heap.size+1)) #[] #[]]++cs.toArray,((w.alloc (.deferred (O []))).alloc (.loop {state:= .ready,pending:=X,fn:=fn,tmps:=act.tmps,params:=ps,assign:=av,body:=body,defers:=w.heap.size})),?_,bd _,λf' _=>hF.fn f',?_,λhd=>jw,?_⟩
   .rw[aq];exact run_enterLoop_outer fn act.tmps ps av body
   .simp[invoke,hcf]
   .refine CallsIn.mono (az F (m-1) _ _ w0 _ us cs #[.func (.yield (w.heap.size+1)) #[] #[]] hF hh (bu.mono (vB _) ak) (cd.mono (vB _) ak) ?_) ?_
    .simp only[BM,VR];exact⟨_,[],Z,⟨vX _,by simp⟩,Z⟩
    .rintro e w2 ⟨v,R2,rfl,g1,g2,g3,g4⟩;have bj:R2 s.nx=(w.heap.size+1,0):=(by rw[g1 s.nx (vX _)];exact p_ Z);obtain⟨k1,ob,k2,k3⟩:=g3.own s.nx _ ay;rw[bj] at k1 k2;obtain⟨⟨cv,bc,bk,aw,ax,bp,bo,bm⟩,rfl,q1,q2,_⟩:=k3;simp only at q1 q2;subst q2;have hend:=run_endLoop (P:=P) k2 (by simp only;rw[q1];cases bc<;>simp);have ai:E4 s.nx R R2:=ak.trans (vB _) g1;have au:s.nx<=r.2.nx:=Nat.le_of_succ_le g2
     have hG:GM G fr ds (Ee fr w.heap.size (.deferred (O []))) ({target:= .collected w.heap.size,args:=#[]}::ds):=by
      refine⟨[w.heap.size],λe=>(by cases e),by simp,Z,λk o hk=>?_,λD hD=>?_⟩
      .unfold Ee;have:=Af (hrel.hr.fr k o hk);rw[n_ A0];exact hk
      .simp only[xO] at hD;subst hD;refine⟨p_ Z,?_⟩
       cases hx:fr w.heap.size with
       |none=>rfl
       |some o=>have:=Af (hrel.hr.fr _ o hx);omega
     have bt:HR (Ee fr w.heap.size (.deferred (O []))) R2 ⟨r.2.h.set s.nx X,r.2.nx⟩ w0 (w2.putObj (w.heap.size+1) (.loop {state:= .exhausted,pending:=bc,fn:=bk,tmps:=aw,params:=ax,assign:=bp,body:=bo,defers:=bm})):=by
      refine(g3.forget s.nx).aside k1 (λb hb e=>?_) (Af k2) _
      have hb':b≠s.nx/\r.2.h.get b≠none:=by
       have ba:(r.2.h.set s.nx X).get b≠none:=hb;rw[AJ.get_set] at ba;by_cases e2:b=s.nx
       .rw[p_ e2] at ba;exact a_ Z ba
       .rw[n_ e2] at ba;exact⟨e2,ba⟩
      exact hb'.1 (g3.inj b s.nx hb'.2 (by rw[ay];simp) (by rw[e,bj]))
     have an:Oh (Ee fr w.heap.size (.deferred (O []))) w0 nt ({target:= .collected w.heap.size,args:=#[]}::ds) R2 a ⟨r.2.h.set s.nx X,r.2.nx⟩ {act with defers:=[{target:= .collected w.heap.size,args:=#[]}]++act.defers} (w2.putObj (w.heap.size+1) (.loop {state:= .exhausted,pending:=bc,fn:=bk,tmps:=aw,params:=ax,assign:=bp,body:=bo,defers:=bm})):=⟨bt,hrel.tr.mono au ai,hrel.nt,by rw[<-hrel.ds];rfl⟩;refine⟨_,_,hend,?_⟩
     cases bc with
     |none=>simp only at h⊢;cases h;exact hQ _ _ R2 _ _ hG ai au an
     |some c'=>simp only at h⊢;exact ao _ _ _ _ _ _ _ _ h F m _ R2 w0 _ _ _ Q hF aj an λcm cp R5 bf w5 cg cj bz bw=>hQ cm cp R5 bf w5 (hG.trans cg) (ai.trans au cj) (vP au bz) bw
 |scope y=>
  simp only[ev] at h;(split at h<;>try (cases h;done));rename_i x1 a1 s1 hx;refine U6 ?_;(refine ao _ _ _ _ _ _ _ _ hx F m fr R w0 w ds act _ hF aj hrel λag ah R1 aa w1 ae af hn1 ad=>?_)
  cases x1 with
  |nrm=>cases h;exact hQ ag ah R1 aa w1 ae af hn1 ad
  |exit id=>cases h;exact hQ ag ah R1 aa w1 ae af hn1 ad
  |goto l=>cases h
  |ret=>cases h;exact hQ ag ah R1 aa w1 ae af hn1 ad
 |refuse why=>simp only[ev] at h;cases h
theorem nU (hE:Ap P E) {Nq:Nat} (ai:∀inr nt c a s x a' s',ev E draw Nq inr nt c a s=O (x,a',s')->Jl P inr nt c a s x a' s'):ow P (Ei E draw (Nq+1)):=by
 intro f fst nr xs s r s' h;simp only[Ei,jR] at h;(split at h<;>try (cases h;done));rename_i fn ar;obtain⟨hp,ae⟩:=hE.ft f fn ar;(split at h<;>try (cases h;done));rename_i c hb;(have h1:fn.name≠ "runtime.NumGoroutine" :=by simpa using ae);refine⟨λargs w=>by simp[callFunc,hp,h1,hb],λF m fr R w0 w us cs vs hF hr ak au aj=>?_⟩;unfold cP at h
 cases nC:ui (fst++(xs++nr)).length fn.ntmps with
 |false=>rw[nC] at h;cases h
 |true=>
  rw[nC,cond_true] at h;(split at h<;>try (cases h;done));rename_i x a1 s1 hx;have aa:BM R s.nx (fst++(xs++nr)) (us.toArray++vs++cs.toArray).toList:=(by simp only[wY,vt];exact ak.append (aj.append au));refine hF.calls ?_;refine(callsIn_wide (n:=0)).1 (callsIn_of_wp_marks (R:=λe w'=>∃v R',e= .returned v/\E4 s.nx R R'/\s.nx<=s'.nx/\HR fr R' s' w0 w'/\VR R' s'.nx r v) hp hb trivial ?_ Z);have lC:(us.toArray++vs++cs.toArray).size=(fst++(xs++nr)).length:=(by rw[<-aa.length,vA]);have hrel:Oh fr w0 fn.ntmps [] R (VV (fst++(xs++nr)) 0 .leaf) s {tmps:=us.toArray++vs++cs.toArray++xl (fn.ntmps-(us.toArray++vs++cs.toArray).size) undef,defers:=[]} w:=(by refine⟨hr,TR.laid aa _,?_,Z⟩;have:=BV nC;simp only[wX,Array.size_replicate];simp only[wX] at lC;omega);refine ai _ _ _ _ _ _ _ _ hx Fence.wide 0 fr R w0 w [] _ _ (.inl Z) Z hrel λax ay R1 af w1 av aw hn1 ad=>?_
  have key:∀l,Do (aC E a1 s1) fn.results.toList=O l->O (Jx l,s1)=O (r,s')->LeavesInM Fence.wide 0 P fn af.tmps (λe w'=>∃v R',e= .returned v/\E4 s.nx R R'/\s.nx<=s'.nx/\HR fr R' s' w0 w'/\VR R' s'.nx r v) af.defers .returning w1:=λl hl e=>by
   cases e;obtain⟨ms,_,an,hds,aq,ao⟩:=av;rw[ad.ds,hds,List.append_nil];refine IR Z (fr:=fr) (R:=R1) (s:=s') (w0:=w0) (λw' ah=>?_) ms w1 (ad.hr.less aq) an λD hD=>?_
   .obtain⟨v,h1,h2⟩:=Rs hE ah ad.tr hl;exact⟨v,h1,v,R1,Z,aw,hn1,ah,h2⟩
   .obtain⟨g1,g2⟩:=ao D hD;refine⟨ad.hr.fr D _ g1,g2,λb hb' e=>?_⟩
    cases ag:s'.h.get b with
    |none=>exact hb' ag
    |some y=>have:=(ad.hr.own b y ag).1;rw[e,g1] at this;cases this
  cases x with
  |exit i=>cases h
  |goto l=>cases h
  |nrm=>simp only at h;(split at h<;>try (cases h;done));rename_i l hl;exact key l hl h
  |ret=>simp only at h;(split at h<;>try (cases h;done));rename_i l hl;exact key l hl h
theorem ED.inRound (h:ED F) (l:Nat):ED (F.inRound l):=by
 rcases h with rfl|⟨l',rfl⟩
 .exact .inr ⟨l,Z⟩
 .exact .inr ⟨l,Z⟩
theorem QI {n nt:Nat}:∀(ps:List Tmp) (xs:List AV) (vs:List V_) (tm tm1:AJ AV) (Tq:Array V_),ZG nt ps xs tm=O tm1->BM R n xs vs->Tq.size=nt->(∀t x,tm.get t=O x->∃v,Tq[t]?=O v/\VR R n x v)->
  vs.length=ps.length/\((ps.zip vs).foldl (fun(Tq:Array V_) (p:Tmp×V_)=>Tq.setIfInBounds p.1 p.2) Tq).size=nt/\∀t x,tm1.get t=O x->∃v,((ps.zip vs).foldl (fun(Tq:Array V_) (p:Tmp×V_)=>Tq.setIfInBounds p.1 p.2) Tq)[t]?=O v/\VR R n x v
 |[],[],vs,tm,tm1,Tq,h,hv,hT,ht=>by
  cases h
  simp only[BM] at hv
  subst hv
  exact⟨Z,hT,ht⟩
 |[],_::_,vs,tm,tm1,Tq,h,hv,hT,ht=>by cases h
 |_::_,[],vs,tm,tm1,Tq,h,hv,hT,ht=>by cases h
 |p::ps,x::xs,vs,tm,tm1,Tq,h,hv,hT,ht=>by
  simp only[BM] at hv
  obtain⟨u,us,rfl,h1,h2⟩:=hv
  simp only[ZG] at h
  cases hb:um p nt with
  |false=>rw[hb] at h;cases h
  |true=>
   rw[hb,cond_true] at h
   have lg:=DR hb
   obtain⟨g1,g2,g3⟩:=QI ps xs us _ tm1 (Tq.setIfInBounds p u) h h2 (by rw[xm,hT]) λt y hy=>by
    rw[AJ.get_set] at hy
    by_cases e:t=p
    .subst e
     rw[p_ Z] at hy
     cases hy
     exact⟨u,by simp[hT,lg],h1⟩
    .rw[n_ e] at hy
     obtain⟨v,e1,e2⟩:=ht t y hy
     exact⟨v,by rw[wO (Ne.symm e)];exact e1,e2⟩
   exact⟨by simp[g1],g2,g3⟩
theorem HR.lend (h:HR fr R s w0 w) {l:Nat} (hl:s.h.get l=O lu):fr (R l).1=X/\∃o,w.heap[(R l).1]?=O o/\BR R s.nx (R l).2 lu o/\HR (λk=>if k=(R l).1 then O o else fr k) R ⟨s.h.set l X,s.nx⟩ w0 w:=by
 obtain⟨h1,o,h2,h3⟩:=h.own l lu hl;have hg:∀c,(s.h.set l X).get c=if c=l then X else s.h.get c:=λc=>AJ.get_set _ _ _ _
 have hs:∀c,(s.h.set l X).get c≠X->s.h.get c≠X/\c≠l:=λc hc=>by
  rw[hg] at hc;by_cases e:c=l
  .rw[p_ e] at hc;exact a_ Z hc
  .rw[n_ e] at hc;exact⟨hc,e⟩
 refine⟨h1,o,h2,h3,h.os,h.tape,h.output,λk x hk=>?_,λc hc=>h.lt c (hs c hc).1,λc y hy=>?_,λc d hc hd e=>h.inj c d (hs c hc).1 (hs d hd).1 e⟩
 .by_cases e:k=(R l).1
  .simp only[p_ e] at hk;cases hk;rw[e];exact h2
  .simp only[n_ e] at hk;exact h.fr k x hk
 .have hc:=hs c (by rw[show(s.h.set l X).get c=O y from hy];simp);have aa:s.h.get c=O y:=(by have:=hy;simp only[hg,n_ hc.2] at this;exact this);obtain⟨g1,g2⟩:=h.own c y aa;refine⟨?_,g2⟩;rw[n_ (λe=>hc.2 (h.inj c l hc.1 (by rw[hl];simp) e))];exact g1
theorem HR.back {aa:Nat->Option Obj} (h:HR aa R s w0 w) {l:Nat} {o:Obj} (hD:aa D=O o) (hl:l<s.nx) (hR:(R l).1=D) (hf:∀k o,fr k=O o->aa k=O o) (ad:fr D=X) (hb:BR R s.nx (R l).2 lu o'):HR fr R ⟨s.h.set l (O lu),s.nx⟩ w0 (w.putObj D o'):=by
 (have hg:∀c,(s.h.set l (O lu)).get c=if c=l then O lu else s.h.get c:=λc=>AJ.get_set _ _ _ _);have lg:=Af (h.fr D o hD)
 have lU:∀c,s.h.get c≠X->(R c).1≠D:=λc hc e=>by
  cases hx:s.h.get c with
  |none=>exact hc hx
  |some y=>have:=(h.own c y hx).1;rw[e,hD] at this;cases this
 refine⟨h.os,h.tape,h.output,λk x hk=>?_,λc hc=>?_,λc y hy=>?_,λc d hc hd e=>?_⟩
 ·(have ae:k≠D:=λe=>by rw[e,ad] at hk;cases hk);rw[vY ae];exact h.fr k x (hf k x hk)
 .simp only[hg] at hc;by_cases e:c=l
  .rw[e];exact hl
  .rw[n_ e] at hc;exact h.lt c hc
 .simp only[hg] at hy;by_cases e:c=l
  .subst e;rw[p_ Z] at hy;cases hy;rw[hR];exact⟨ad,o',xp lg,hb⟩
  .rw[n_ e] at hy;obtain⟨g1,o2,g2,g3⟩:=h.own c y hy;refine⟨?_,o2,?_,g3⟩
   .cases hx:fr (R c).1 with
    |none=>rfl
    |some z=>rw[hf _ _ hx] at g1;cases g1
   .rw[vY (lU c (by rw[hy];simp))];exact g2
 .simp only[hg] at hc hd;by_cases ec:c=l
  .by_cases ed:d=l
   .rw[ec,ed]
   .rw[n_ ed] at hd;rw[ec,hR] at e;exact a_ e.symm (lU d hd)
  .rw[n_ ec] at hc;by_cases ed:d=l
   .rw[ed,hR] at e;exact a_ e (lU c hc)
   .rw[n_ ed] at hd;exact h.inj c d hc hd e
theorem dN (hE:Ap P E) {Nq:Nat} (aw:∀inr nt c a s x a' s',ev E draw Nq inr nt c a s=O (x,a',s')->Jl P inr nt c a s x a' s') {l:Nat} {xs:List AV} {r:AV} (h:Ei E draw (Nq+1) (.y l) xs s=O (r,s')) (hF:ED F) (hr:HR fr R s w0 w) (hl:l<s.nx) {vs:Array V_} (bf:BM R s.nx xs vs.toList) (hK:∀R' v w',E4 s.nx R R'->s.nx<=s'.nx->HR fr R' s' w0 w'->VR R' s'.nx r v->K (act.put o.dst v) w'):o.uponIn F m P act K Q ((do let d<-Deferred.ofValue (.func (.yield (R l).1) #[] #[]) vs;invoke d.target d.args:Sem Next).run P w):=by
 simp only[Ei,nl] at h;(split at h<;>try (cases h;done));rename_i tm bd ps bx body bc ar;(split at h<;>try (cases h;done));(split at h<;>try (cases h;done));rename_i av bj;(split at h<;>try (cases h;done));rename_i a1 s1 hx1;(split at h<;>try (cases h;done));rename_i x a2 s2 bg;(split at h<;>try (cases h;done));rename_i cd;cases h;obtain⟨ba,ob,bk,bu,ai⟩:=hr.lend ar;obtain⟨rec,rfl,e1,e2,e3,e4,e5,e6,e7⟩:=bu;obtain⟨b1,b2,b3⟩:=QI ps xs vs.toList tm av rec.tmps bj bf e6 e7;have ao:(do let d<-Deferred.ofValue (.func (.yield (R l).1) #[] #[]) vs;invoke d.target d.args:Sem Next).run P w= .ok (.round (R l).1 rec.fn ((ps.zip vs.toList).foldl (fun(Tq:Array V_) (p:Tmp×V_)=>Tq.setIfInBounds p.1 p.2) rec.tmps) bx body) w:=(by have:=run_yield (P:=P) (args:=vs) bk (by rw[e3];simpa using b1);rw[e4,e5] at this;have hz:(rec.params.zip vs).foldl (λtmps (t,a)=>tmps.setIfInBounds t a) rec.tmps=(ps.zip vs.toList).foldl (fun(Tq:Array V_) (p:Tmp×V_)=>Tq.setIfInBounds p.1 p.2) rec.tmps:=(by rw[e3,<-xU,Array.toList_zip]);rw[hz] at this;simpa[Deferred.ofValue,invoke] using this);rw[ao,Oper.uponIn_round];refine⟨λhd=>jw,?_⟩;refine roundIn_of_wpIn (hF.fn _) ?_;have hrel:Oh (λk=>if k=(R l).1 then O (.loop rec) else fr k) w0 bd [] R av ⟨s.h.set l X,s.nx⟩ {tmps:=(ps.zip vs.toList).foldl (fun(Tq:Array V_) (p:Tmp×V_)=>Tq.setIfInBounds p.1 p.2) rec.tmps,defers:=[]} w:=⟨ai,b3,b2,Z⟩;(refine aw _ _ _ _ _ _ _ _ hx1 (F.inRound (R l).1) (m-1) _ R w0 w [] _ _ (hF.inRound _) Z hrel λbb ch R2 ca w2 bq bt bn aa=>?_);obtain⟨ms,aq,_,au,ak,_⟩:=bq;obtain rfl:=aq Z;have ae:bb (R l).1=O (.loop rec):=ak _ _ (p_ Z);have ax:=aa.hr.fr _ _ ae
 have an:HR (λk=>if k=(R l).1 then O (.loop {rec with state:= .busy}) else bb k) R2 s1 w0 (w2.putObj (R l).1 (.loop {rec with state:= .busy})):=by
  have lg:=Af ax;refine⟨aa.hr.os,aa.hr.tape,aa.hr.output,λk x hk=>?_,aa.hr.lt,λb x hb=>?_,aa.hr.inj⟩
  .by_cases e:k=(R l).1
   .simp only[p_ e] at hk;cases hk;rw[e];exact xp lg
   .simp only[n_ e] at hk;rw[vY e];exact aa.hr.fr k x hk
  .obtain⟨h1,o2,h2,h3⟩:=aa.hr.own b x hb;(have e:(R2 b).1≠(R l).1:=λe=>by rw[e,ae] at h1;cases h1);refine⟨by rw[n_ e];exact h1,o2,?_,h3⟩;rw[vY e];exact h2
 refine⟨_,run_beginRound ax (by rw[e1]),?_⟩;(refine aw _ _ _ _ _ _ _ _ bg (F.inRound (R l).1) (m-1) _ R2 w0 _ [] _ _ (hF.inRound _) Z ⟨an,aa.tr,aa.nt,by rw[aa.ds,au];rfl⟩ λbw cg R3 bz w3 bp br bm ay=>?_);obtain⟨ms,aq,_,_,aj,_⟩:=bp;obtain rfl:=aq Z;have ad:bw (R l).1=O (.loop {rec with state:= .busy}):=aj _ _ (p_ Z);have bh:=ay.hr.fr _ _ ad;have ah:s.nx<=s1.nx:=bn;have ag:E4 s.nx R R3:=E4.trans (n':=s1.nx) bt ah br;have af:s.nx<=s2.nx:=vP ah bm;have bo:R3 l=R l:=ag l hl
 have fin:∀jump:Option Code,jump=Xa x->∃v w',(Instr.endRound (R l).1 jump).run P w3= .ok v w'/\K (act.put o.dst v) w':=λjump hj=>by
  refine⟨_,_,run_endRound jump bh,hK R3 _ _ ag af ?_ ?_⟩
  .refine ay.hr.back (l:=l) ad (vN hl af) (by rw[bo]) (λk z hk=>?_) ba ?_
   ·(have az:k≠(R l).1:=λe=>by rw[e,ba] at hk;cases hk);have g1:=ak k z (by simp only[n_ az];exact hk);exact aj k z (by simp only[n_ az];exact g1)
   .refine⟨_,Z,?_,hj,e3,e4,e5,e6,λt y hy=>?_⟩
    .subst hj;cases x<;>rfl
    .obtain⟨v,g1,g2⟩:=e7 t y hy;exact⟨v,g1,g2.mono af ag⟩
  .subst hj;simp only[VR]
 cases x with
 |nrm=>exact fin _ Z
 |exit i=>exact fin _ Z
 |goto t=>exact fin _ Z
 |ret=>exact fin _ Z
theorem kJ (hE:Ap P E) {Nq:Nat} (ad:∀inr nt c a s x a' s',ev E draw Nq inr nt c a s=O (x,a',s')->Jl P inr nt c a s x a' s'):Hi P (Ei E draw (Nq+1)):=by intro f xs s r s' h F m fr R w0 w fv vs hF hr hf ae o act K Q hK;cases f;(case fn f fst nr=>simp only[VR] at hf;obtain⟨us,cs,af,ag,rfl⟩:=hf;obtain⟨hcf,hc⟩:=nU hE ad f fst nr xs s r s' h;have aa:(do let d<-Deferred.ofValue (.func (.func f) us.toArray cs.toArray) vs;invoke d.target d.args:Sem Next).run P w= .ok (.enter f (us.toArray++vs++cs.toArray)) w:=(by simp[Deferred.ofValue,invoke,hcf]);rw[aa,Oper.uponIn_enter];refine⟨λhd=>jw,CallsIn.mono (hc F (m-1) fr R w0 w us cs vs hF hr af ag ae) ?_⟩;rintro e w' ⟨v,R',rfl,h1,h2,h3,h4⟩;exact hK R' v w' h1 h2 h3 h4);(case y l=>simp only[VR] at hf;obtain⟨hl,rfl⟩:=hf;exact dN hE ad h hF hr hl ae hK);all_goals (simp only[Ei] at h;cases h)
theorem Po (hE:Ap P E) (hD:JJ P draw):∀Nq,(∀n,n<=Nq->∀inr nt c a s x a' s',ev E draw n inr nt c a s=O (x,a',s')->Jl P inr nt c a s x a' s')/\(∀n,n<=Nq->Hi P (Ei E draw n))/\∀n,n<=Nq->ow P (Ei E draw n):=by
 intro Nq
 induction Nq with
 |zero=>
  refine⟨λn hn inr nt c a s x a' s' h=>?_,λn hn f xs s r s' h=>?_,λn hn f fst nr xs s r s' h=>?_⟩
  .obtain rfl:n=0:=A0;simp only[ev] at h;cases h
  .obtain rfl:n=0:=A0;simp only[Ei] at h;cases h
  .obtain rfl:n=0:=A0;simp only[Ei] at h;cases h
 |succ Nq ih=>
  obtain⟨aa,ae,ad⟩:=ih;refine⟨λn hn inr nt c a s x a' s' h=>?_,λn hn=>?_,λn hn=>?_⟩
  .rcases wx n (Nq+1) with hl|hl
   .exact aa n A0 inr nt c a s x a' s' h
   obtain rfl:n=Nq+1:=A0;by_cases hc:∃c',c= .loop c'
   .obtain⟨c',rfl⟩:=hc;exact kI (Nq:=Nq) (λk hk a s x a' s' h=>aa k hk inr nt c' a s x a' s' h) h
   .exact kL hE hD (aa Nq (un _)) (ae Nq (un _)) (ad Nq (un _)) (λc' e=>hc ⟨c',e⟩) h
  .rcases wx n (Nq+1) with hl|hl
   .exact ae n A0
   obtain rfl:n=Nq+1:=A0;exact kJ hE (aa Nq (un _))
  .rcases wx n (Nq+1) with hl|hl
   .exact ad n A0
   obtain rfl:n=Nq+1:=A0;exact nU hE (aa Nq (un _))
end
end
end
section
variable {t:TypeId}
noncomputable section
def qW:Op->Bool
 | .move _=>B
 | .assign _=>B
 | .pick _ _ _=>B
 | .nilCheck _=>B
 | .fieldAddr _ _ _=>B
 | .field _ _ _=>B
 | .load _ _=>B
 | .indexAddr _ _ _=>B
 | .index _ _ _=>B
 | .binOp _ _ _ _ _=>B
 | .unOp _ _ _=>B
 | .extract _ _=>B
 | .build _ _=>B
 | .lookup _ _ _ _=>B
 | .slice _ _ _ _ _=>B
 | .convert _ _ _=>B
 | .makeFunc _ _ _=>B
 |_=>G
section
variable {E:CF} {a a':AJ AV} {s:St}
theorem St.load_nx (h:AJ Fk) (n b o k:Nat):St.load ⟨h,n⟩ b o k=St.load ⟨h,0⟩ b o k:=Z
theorem jQ (h:AJ Fk) (n:Nat) (k x:AV):QT ⟨h,n⟩ k x=QT ⟨h,0⟩ k x:=by cases x<;>rfl
theorem Zr (h:AJ Fk) (n:Nat) (u:TI) (x:AV) (l k:Option AV):Pz E ⟨h,n⟩ u x l k=Pz E ⟨h,0⟩ u x l k:=Z
theorem aK (h:AJ Fk) (n:Nat) (u:TI) (x:AV) (l:Option AV) (k m:AV):PS E ⟨h,n⟩ u x l k m=PS E ⟨h,0⟩ u x l k m:=Z
theorem Ly {β:Type} (f:α->β) (c:Bool) (x y:Option α):(bif c then x else y).map f=bif c then x.map f else y.map f:=by cases c<;>rfl
theorem kV {op:Op} (hR:qW op=B) (h:AJ Fk) (n:Nat):BK E a ⟨h,n⟩ op=(BK E a ⟨h,0⟩ op).map λr=>(r.1,⟨h,n⟩):=by(cases op<;>simp only[qW] at hR<;>try (cases hR;done));(case move x=>simp only[BK,Bh,Az,Be,Aa,BB,C6,AS,BG,Bg,BI,AR,BD,BF,Bf,Am,BE,AN,AQ,An,Ay,BH,Ao,Ab,vQ];rfl);(case assign x=>simp only[BK,Bh,Az,Be,Aa,BB,C6,AS,BG,Bg,BI,AR,BD,BF,Bf,Am,BE,AN,AQ,An,Ay,BH,Ao,Ab,vQ];rfl);(case load t x=>simp only[BK,Bh,Az,Be,Aa,BB,C6,AS,BG,Bg,BI,AR,BD,BF,Bf,Am,BE,AN,AQ,An,Ay,BH,Ao,Ab,St.load_nx h n];repeat' (first|rfl|(split<;>try simp only[vp,vQ])));(case lookup t x k ok=>simp only[BK,Bh,Az,Be,Aa,BB,C6,AS,BG,Bg,BI,AR,BD,BF,Bf,Am,BE,AN,AQ,An,Ay,BH,Ao,Ab,jQ h n];repeat' (first|rfl|(split<;>try simp only[vp,vQ,Ly])));(case convert t t2 x=>simp only[BK,Bh,Az,Be,Aa,BB,C6,AS,BG,Bg,BI,AR,BD,BF,Bf,Am,BE,AN,AQ,An,Ay,BH,Ao,Ab,St.load_nx h n];repeat' (first|rfl|(split<;>try simp only[vp,vQ,Ly])));(case slice t x l hh m=>simp only[BK,Bh,Az,Be,Aa,BB,C6,AS,BG,Bg,BI,AR,BD,BF,Bf,Am,BE,AN,AQ,An,Ay,BH,Ao,Ab,Zr h n,aK h n];repeat' (first|rfl|(split<;>try simp only[vp,vQ,Ly])));all_goals (simp only[BK,Bh,Az,Be,Aa,BB,C6,AS,BG,Bg,BI,AR,BD,BF,Bf,Am,BE,AN,AQ,An,Ay,BH,Ao,Ab];repeat' (first|rfl|(split<;>try simp only[vp,vQ,Ly])))
theorem Ez {α β:Type} {f g:α->Option β}:∀{l:List α},(∀x∈l,f x=g x)->Do f l=Do g l
 |[],_=>rfl
 |x::l,h=>by
  unfold Do
  rw[h x (.head _),Ez λy hy=>h y (.tail _ hy)]
theorem It {ps:List (Nat×O_)} (h:∀p∈ps,Ck a p.2=Ck a' p.2):LP a ps=LP a' ps:=Ez λp hp=>by rw[h p hp]
theorem Io {o:Option O_} (h:∀x,o=O x->Ck a x=Ck a' x):bI a o=bI a' o:=by
 cases o with
 |none=>rfl
 |some x=>simp only[bI,h x Z]
theorem Ng {m k v:O_} (h1:Ck a m=Ck a' m) (h2:Ck a k=Ck a' k) (h3:Ck a v=Ck a' v):BK.evUpd E a s t m k v=BK.evUpd E a' s t m k v:=by simp only[BK.evUpd,h1,h2,h3]
theorem LI {op:Op} (h:∀x∈op.operands,Ck a x=Ck a' x):BK E a s op=BK E a' s op:=by
 cases op;(case build t ps=>simp only[BK,Bh,Az,Be,Aa,BB,C6,AS,BG,Bg,BI,AR,BD,BF,Bf,Am,BE,AN,AQ,An,Ay,BH,Ao,Ab,It (λp hp=>h p.2 dQ)]);case buildSlice t n ps=>simp only[BK,Bh,Az,Be,Aa,BB,C6,AS,BG,Bg,BI,AR,BD,BF,Bf,Am,BE,AN,AQ,An,Ay,BH,Ao,Ab,It (λp hp=>h p.2 dQ)]
 case slice t x l hh m=>
  cases m with
  |none=>simp only[BK,Bh,Az,Be,Aa,BB,C6,AS,BG,Bg,BI,AR,BD,BF,Bf,Am,BE,AN,AQ,An,Ay,BH,Ao,Ab,h x Bd,Io (o:=l) (λy hy=>h y Z9),Io (o:=hh) (λy hy=>h y Z9)]
  |some m=>
   cases hh with
   |none=>simp only[BK,Bh,Az,Be,Aa,BB,C6,AS,BG,Bg,BI,AR,BD,BF,Bf,Am,BE,AN,AQ,An,Ay,BH,Ao,Ab,h x Bd,h m Bd,Io (o:=l) (λy hy=>h y Z9)]
   |some hh=>simp only[BK,Bh,Az,Be,Aa,BB,C6,AS,BG,Bg,BI,AR,BD,BF,Bf,Am,BE,AN,AQ,An,Ay,BH,Ao,Ab,h x Bd,h m Bd,h hh Bd,Io (o:=l) (λy hy=>h y Z9)]
 (case makeFunc fn fst cap=>(have h1:Do (Ck a) fst.toList=Do (Ck a') fst.toList:=Ez λy hy=>h y (by simp only[wG,xr];exact .inl (vq.1 hy)));(have h2:Do (Ck a) cap.toList=Do (Ck a') cap.toList:=Ez λy hy=>h y (by simp only[wG,xr];exact .inr (vq.1 hy)));simp only[BK,Bh,Az,Be,Aa,BB,C6,AS,BG,Bg,BI,AR,BD,BF,Bf,Am,BE,AN,AQ,An,Ay,BH,Ao,Ab,h1,h2]);(case mapUpdate t m k v=>exact Ng (h m Bd) (h k Bd) (h v Bd));(case insert t m k v=>exact Ng (h m Bd) (h k Bd) (h v Bd));(case pick c x y=>simp only[BK,Bh,Az,Be,Aa,BB,C6,AS,BG,Bg,BI,AR,BD,BF,Bf,Am,BE,AN,AQ,An,Ay,BH,Ao,Ab,h c Bd,h x Bd,h y Bd]);(case store t x y=>simp only[BK,Bh,Az,Be,Aa,BB,C6,AS,BG,Bg,BI,AR,BD,BF,Bf,Am,BE,AN,AQ,An,Ay,BH,Ao,Ab,h x Bd,h y Bd]);(case binOp o t x y t2=>simp only[BK,Bh,Az,Be,Aa,BB,C6,AS,BG,Bg,BI,AR,BD,BF,Bf,Am,BE,AN,AQ,An,Ay,BH,Ao,Ab,h x Bd,h y Bd]);(case makeSlice t x y=>simp only[BK,Bh,Az,Be,Aa,BB,C6,AS,BG,Bg,BI,AR,BD,BF,Bf,Am,BE,AN,AQ,An,Ay,BH,Ao,Ab,h x Bd,h y Bd]);(case indexAddr t x y=>simp only[BK,Bh,Az,Be,Aa,BB,C6,AS,BG,Bg,BI,AR,BD,BF,Bf,Am,BE,AN,AQ,An,Ay,BH,Ao,Ab,h x Bd,h y Bd]);(case index t x y=>simp only[BK,Bh,Az,Be,Aa,BB,C6,AS,BG,Bg,BI,AR,BD,BF,Bf,Am,BE,AN,AQ,An,Ay,BH,Ao,Ab,h x Bd,h y Bd]);(case lookup t x y ok=>simp only[BK,Bh,Az,Be,Aa,BB,C6,AS,BG,Bg,BI,AR,BD,BF,Bf,Am,BE,AN,AQ,An,Ay,BH,Ao,Ab,h x Bd,h y Bd]);(case move x=>simp only[BK,Bh,Az,Be,Aa,BB,C6,AS,BG,Bg,BI,AR,BD,BF,Bf,Am,BE,AN,AQ,An,Ay,BH,Ao,Ab,h x Bd]);(case assign x=>simp only[BK,Bh,Az,Be,Aa,BB,C6,AS,BG,Bg,BI,AR,BD,BF,Bf,Am,BE,AN,AQ,An,Ay,BH,Ao,Ab,h x Bd]);(case box t x=>simp only[BK,Bh,Az,Be,Aa,BB,C6,AS,BG,Bg,BI,AR,BD,BF,Bf,Am,BE,AN,AQ,An,Ay,BH,Ao,Ab,h x Bd]);(case load t x=>simp only[BK,Bh,Az,Be,Aa,BB,C6,AS,BG,Bg,BI,AR,BD,BF,Bf,Am,BE,AN,AQ,An,Ay,BH,Ao,Ab,h x Bd]);(case nilCheck x=>simp only[BK,Bh,Az,Be,Aa,BB,C6,AS,BG,Bg,BI,AR,BD,BF,Bf,Am,BE,AN,AQ,An,Ay,BH,Ao,Ab,h x Bd]);(case unOp o t x=>simp only[BK,Bh,Az,Be,Aa,BB,C6,AS,BG,Bg,BI,AR,BD,BF,Bf,Am,BE,AN,AQ,An,Ay,BH,Ao,Ab,h x Bd]);(case convert t t2 x=>simp only[BK,Bh,Az,Be,Aa,BB,C6,AS,BG,Bg,BI,AR,BD,BF,Bf,Am,BE,AN,AQ,An,Ay,BH,Ao,Ab,h x Bd]);(case fieldAddr t x f=>simp only[BK,Bh,Az,Be,Aa,BB,C6,AS,BG,Bg,BI,AR,BD,BF,Bf,Am,BE,AN,AQ,An,Ay,BH,Ao,Ab,h x Bd]);(case field t x f=>simp only[BK,Bh,Az,Be,Aa,BB,C6,AS,BG,Bg,BI,AR,BD,BF,Bf,Am,BE,AN,AQ,An,Ay,BH,Ao,Ab,h x Bd]);(case extract x i=>simp only[BK,Bh,Az,Be,Aa,BB,C6,AS,BG,Bg,BI,AR,BD,BF,Bf,Am,BE,AN,AQ,An,Ay,BH,Ao,Ab,h x Bd]);all_goals rfl
end
end
end
section
variable {lu:Fk} {c:Nat} {e t:TypeId} {o:Oper} {u ue:TI} {z:AV}
noncomputable section
def OG (E:CF) (a:AJ AV):Op->Option (Fk×(Nat->AV))
 | .alloc e=>match E.tt.get e with
  |some u=>match u.z with
   |some z=>bif CC (AL z) then O (.cells e (AL z),λb=> .p b 0) else X
   |none=>X
  |none=>X
 | .box e x=>match Ck a x with
  |some v=>bif CC (AL v) then O (.cells e (AL v),λb=> .p b 0) else X
  |none=>X
 | .makeMap t r=>match r with
  |none=>O (.map [],λb=> .m b)
  |some _=>X
 | .buildSlice t n ps=>match E.tt.get t with
  |some u=>match u.k with
   | .slice e=>match E.tt.get e with
    |some ue=>match ue.z with
     |some z=>match LP a ps.toList with
      |some ps=>bif uh (AL z).length ue.size&&um 0 ue.size&&ui (n*ue.size) 16777216 then match JN (λi=>O (i*ue.size,ue.size)) (Fd (AL z) n) ps with
       |some cs=>bif CC cs&&uh cs.length (n*ue.size) then O (.cells e cs,λb=> .sl b 0 n n B ue.size) else X
       |none=>X
       else X
      |none=>X
     |none=>X
    |none=>X
   |_=>X
  |none=>X
 | .makeSlice t l c=>match Ck a l with
  |some (.i _ (.ofNat n))=>match Ck a c with
   |some (.i _ (.ofNat m))=>match E.tt.get t with
    |some u=>match u.k with
     | .slice e=>match E.tt.get e with
      |some ue=>match ue.z with
       |some z=>bif uh n m&&uh (AL z).length ue.size&&um 0 ue.size&&ui (n*ue.size) 16777216&&ui (ue.bytes*n) 281474976710656&&CC (AL z) then O (.cells e (Fd (AL z) n),λb=> .sl b 0 n n B ue.size) else X
       |none=>X
      |none=>X
     |_=>X
    |none=>X
   |_=>X
  |_=>X
 |_=>X
section
variable {P:P_} {E:CF} {R:Nat->Nat×Nat} {n:Nat} {a:AJ AV} {act:Act} {w:W_}
theorem RP (hE:Ap P E) (hu:E.tt.get t=O u) (hk:u.k= .slice e) (af:E.tt.get e=O ue) (hz:ue.z=O z) (hn:(AL z).length=ue.size) (hpos:0<ue.size) {len:Nat} (ag:len*ue.size<=16777216) {ps:List (Nat×AV)} {us:Array (Nat×V_)} (h1:us.toList.map ul=ps.map ul) (h2:BM R n (ps.map uq) (us.toList.map uq)) {cs:List AV} (hf:JN (λi=>O (i*ue.size,ue.size)) (Fd (AL z) len) ps=O cs) (lY:CC cs=B) (hcl:cs.length=len*ue.size):∃ob v sz,(Instr.buildSlice t len us).run P w= .ok v (w.alloc ob)/\BR R n sz (.cells e cs) ob/\∀R' n' b,b<n'->R' b=(w.heap.size,sz)->VR R' n' (.sl b 0 len len B ue.size) v:=by
 obtain⟨_,⟨d,hd,ae⟩,-⟩:=hE.tt t u hu;obtain⟨_,_,i,hi,lC,_,hzz⟩:=hE.tt e ue af;rw[hk] at ae;obtain rfl:d= .slice e:=ae;obtain⟨v,hv,hR⟩:=hzz z hz;have hzc:=(hR R n).cells;have hvl:=hzc.length;simp only[vA] at hvl;have ad:BM R n (Fd (AL z) len) ((xX (len*i.size)).map (v.cells[·%v.cells.size]!)).toList:=(by exact mw);obtain⟨cells,h3,h4⟩:=GU (place:=λj=>O (j*i.size,i.size)) (placeA:=λj=>O (j*ue.size,ue.size)) (λj o y hj=>by rw[lC];exact hj) ps us.toList h1 h2 ad hf;have aa:(Instr.buildSlice t len us).run P w= .ok (.slice (O ⟨w.heap.size,0,X⟩) len len) (w.alloc (.cells cells e)):=(by exact tw);refine⟨.cells cells e,.slice (O ⟨w.heap.size,0,X⟩) len len,cs.length,aa,?_,λR' n' b hb e1=>?_⟩
 .have:=BR.row (e:=e) h4 (Ci lY);simpa using this
 .simp only[VR];rw[e1];refine⟨hb,0,len,Z,.inr Z,λ_=>rfl,un _,un _,?_,by rw[hcl];omega⟩;exact fP
theorem Te (hE:Ap P E) (hu:E.tt.get t=O u) (hk:u.k= .slice e) (ae:E.tt.get e=O ue) (hz:ue.z=O z) (hn:(AL z).length=ue.size) (hpos:0<ue.size) (af:c*ue.size<=16777216) (ai:ue.bytes*c<=281474976710656) (lY:CC (AL z)=B) (k k':IntKind):∃ob v sz,(Instr.makeSlice t (.int k (uy c)) (.int k' (uy c))).run P w= .ok v (w.alloc ob)/\BR R n sz (.cells e (Fd (AL z) c)) ob/\∀R' n' b,b<n'->R' b=(w.heap.size,sz)->VR R' n' (.sl b 0 c c B ue.size) v:=by
 obtain⟨_,⟨d,hd,ad⟩,-⟩:=hE.tt t u hu;obtain⟨_,_,i,hi,lC,ag,hzz⟩:=hE.tt e ue ae;rw[hk] at ad;obtain rfl:d= .slice e:=ad;obtain⟨v,hv,hR⟩:=hzz z hz;have hcl:c<=c*ue.size:=xY _ hpos;have hr:=run_makeSlice (P:=P) w t e i v hd hi hv k k' (c:Int) (c:Int) A0 A0 (by rw[wS,lC];exact af) (by rw[ag,<-xZ];omega) A0;rw[wS] at hr;(have hzc:=λR'=>(hR R' n).cells);have hvl:=(hzc R).length;simp only[vA] at hvl;(have aa:∀R',BM R' n (Fd (AL z) c) (madeCells v.cells (c*i.size)).toList:=λR'=>by exact lW);(have ah:∀x∈Fd (AL z) c,Hu x=true:=λx hx=>by exact ne);refine⟨.cells (madeCells v.cells (c*i.size)) e,.slice (O ⟨w.heap.size,0,X⟩) c c,(Fd (AL z) c).length,hr,?_,λR' n' b hb e1=>?_⟩
 .have:=BR.row (e:=e) (aa R) ah;simpa using this
 .simp only[VR];rw[e1];exact⟨hb,0,c,Z,.inr Z,λ_=>rfl,un _,un _,by unfold maxLen;omega,by rw[Cx,hn];omega⟩
theorem bL (hE:Ap P E) (hT:TR R n a act) {mk:Nat->AV} (h:OG E a o.op=O (lu,mk)) (w:W_):∃ob v sz,(x_ act.eval o).run P w= .ok (.value v) (w.alloc ob)/\BR R n sz lu ob/\∀R' n' b,b<n'->R' b=(w.heap.size,sz)->VR R' n' (mk b) v:=by
 obtain⟨d,op,ty,pos,af,gd⟩:=o;cases op<;>simp only[OG] at h<;>try (cases h;done)
 case alloc e=>
  (split at h<;>try (cases h;done));rename_i u hu;(split at h<;>try (cases h;done));rename_i z hz
  cases h1:CC (AL z) with
  |false=>rw[h1] at h;cases h
  |true=>
   rw[h1,cond_true] at h;cases h;obtain⟨_,_,i,hi,_,_,hzz⟩:=hE.tt e u hu;obtain⟨v,hv,hR⟩:=hzz z hz;refine⟨.cells v.cells e,.pointer (O ⟨w.heap.size,0,X⟩),(AL z).length,?_,?_,λR' n' b hb e1=>?_⟩
   .simp[x_,Instr.alloc,zeroValue,typeInfo,hi,hv,newVar,newRow]
   .have:=BR.row (e:=e) ((hR R n).cells) (Ci h1);simpa using this
   .simp only[VR];rw[e1];exact⟨hb,Z⟩
 case box e x=>
  (split at h<;>try (cases h;done));rename_i z hz
  cases h1:CC (AL z) with
  |false=>rw[h1] at h;cases h
  |true=>
   rw[h1,cond_true] at h;cases h;have hx:=AM hT hz;refine⟨.cells (act.eval x).cells e,.pointer (O ⟨w.heap.size,0,X⟩),(AL z).length,?_,?_,λR' n' b hb e1=>?_⟩
   .simp[x_,Instr.box,newVar,newRow]
   .have:=BR.row (e:=e) hx.cells (Ci h1);simpa using this
   .simp only[VR];rw[e1];exact⟨hb,Z⟩
 case makeMap t r=>
  cases r with
  |some r=>cases h
  |none=>
   cases h;refine⟨.map #[] 0,.map (O w.heap.size),0,?_,⟨#[],0,[],Z,.nil,by simp[F8],by simp[BM],by simp[BM]⟩,λR' n' b hb e1=>?_⟩
   .have:=run_makeMap (P:=P) t w;simp[x_,Sem.run_bind,this]
   .simp only[VR];rw[e1];exact⟨hb,Z⟩
 case buildSlice t len ps=>
  (split at h<;>try (cases h;done));rename_i u hu;(split at h<;>try (cases h;done));rename_i e hk;(split at h<;>try (cases h;done));rename_i ue ad;(split at h<;>try (cases h;done));rename_i z hz;(split at h<;>try (cases h;done));rename_i ae ai
  cases hb:(uh (AL z).length ue.size&&um 0 ue.size&&ui (len*ue.size) 16777216) with
  |false=>rw[hb] at h;cases h
  |true=>
   rw[hb,cond_true] at h;rw[uj,uj] at hb;(split at h<;>try (cases h;done));rename_i cs hf
   cases aa:(CC cs&&uh cs.length (len*ue.size)) with
   |false=>rw[aa] at h;cases h
   |true=>rw[aa,cond_true] at h;cases h;rw[uj] at aa;obtain⟨h1,h2⟩:=Gr hT ai;have q1:(AL z).length=ue.size:=B0 hb.1.1;have q2:0<ue.size:=DR hb.1.2;have q3:len*ue.size<=16777216:=BV hb.2;have q4:cs.length=len*ue.size:=B0 aa.2;have g1:(ps.map fun(i,x)=>(i,act.eval x)).toList.map ul=ae.map ul:=IV;have g2:BM R n (ae.map uq) ((ps.map fun(i,x)=>(i,act.eval x)).toList.map uq):=GW;obtain⟨ob,v,sz,w1,w2,w3⟩:=RP (w:=w) hE hu hk ad hz q1 q2 q3 g1 g2 hf aa.1 q4;exact⟨ob,v,sz,by simp[x_,Sem.run_bind,w1],w2,w3⟩
 case makeSlice t l c=>
  (split at h<;>try (cases h;done));rename_i k1 j1 hl;(split at h<;>try (cases h;done));rename_i k2 j2 hc;(split at h<;>try (cases h;done));rename_i u hu;(split at h<;>try (cases h;done));rename_i e hk;(split at h<;>try (cases h;done));rename_i ue ad;(split at h<;>try (cases h;done));rename_i z hz
  cases hb:(uh j1 j2&&uh (AL z).length ue.size&&um 0 ue.size&&ui (j1*ue.size) 16777216&&ui (ue.bytes*j1) 281474976710656&&CC (AL z)) with
  |false=>rw[hb] at h;cases h
  |true=>rw[hb,cond_true] at h;cases h;simp only[uj] at hb;obtain⟨⟨⟨⟨⟨b1,b2⟩,b3⟩,b4⟩,b5⟩,b6⟩:=hb;have b1:=B0 b1;subst b1;have ag:=AM hT hl;have ah:=AM hT hc;simp only[VR] at ag ah;obtain⟨ob,v,sz,w1,w2,w3⟩:=Te (R:=R) (n:=n) (w:=w) hE hu hk ad hz (B0 b2) (DR b3) (BV b4) (BV b5) b6 k1 k2;exact⟨ob,v,sz,by simp[x_,Sem.run_bind,ag,ah] at w1⊢;simp[w1],w2,w3⟩
inductive CP (ops:Array Oper):Nat->Nat->Prop where
 |edge {i:Nat} {o:Oper} {e:Edge}:ops[i]?=O o->e∈o.after->vR .any e=B->CP ops e.on i
 |step {i k:Nat} {o:Oper} {e:Edge}:ops[i]?=O o->e∈o.after->vR .any e=B->CP ops k e.on->CP ops k i
def M4 (ops:Array Oper) (nD:Array Bool):Prop:=∀i k,nD[i]?=O B->CP ops k i->nD[k]?=O B
end
end
end
section
variable {D n' sz:Nat} {R':Nat->Nat×Nat} {lu:Fk} {o:Oper}
noncomputable section
section
variable {P:P_} {E:CF} {fr:Nat->Option Obj} {R:Nat->Nat×Nat} {n:Nat} {a a':AJ AV} {s:St} {act:Act} {w0 w:W_}
def Sg (fr:Nat->Option Obj) (D:Nat):Nat->Option Obj:=λk=>if k=D then X else fr k
def OJ (R:Nat->Nat×Nat) (b:Nat) (x:Nat×Nat):Nat->Nat×Nat:=λc=>if c=b then x else R c
theorem IG (R:Nat->Nat×Nat) (b:Nat) (x:Nat×Nat):E4 b R (OJ R b x):=λc hc=>n_ A0
theorem HR.commit (h:HR fr R s w0 w) {o:Obj} (hD:fr D=O o) (hb:BR (OJ R s.nx (D,sz)) (s.nx+1) sz lu o):HR (Sg fr D) (OJ R s.nx (D,sz)) (s.new lu) w0 w:=by
 have hg:∀b,(s.new lu).h.get b=if b=s.nx then O lu else s.h.get b:=λb=>AJ.get_set _ _ _ _
 have lU:∀b,s.h.get b≠X->(R b).1≠D:=λb hb' e=>by
  cases hx:s.h.get b with
  |none=>exact hb' hx
  |some x=>have:=(h.own b x hx).1;rw[e,hD] at this;cases this
 refine⟨h.os,h.tape,h.output,λk o' hk=>?_,λb hb'=>?_,λb y hy=>?_,λb c hb' aa e=>?_⟩
 .unfold Sg at hk;by_cases e:k=D
  .rw[p_ e] at hk;cases hk
  .rw[n_ e] at hk;exact h.fr k o' hk
 .exact iN
 .rw[hg] at hy;by_cases e:b=s.nx
  .subst e;rw[p_ Z] at hy;cases hy;simp only[OJ,if_true];exact⟨p_ Z,o,h.fr D o hD,hb⟩
  .rw[n_ e] at hy;obtain⟨h1,o',h2,h3⟩:=h.own b y hy;have ad:OJ R s.nx (D,sz) b=R b:=n_ e;rw[ad];refine⟨?_,o',h2,BR.mono h3 (vB _) (IG R s.nx (D,sz))⟩;unfold Sg;by_cases e2:(R b).1=D
   .exact p_ e2
   .rw[n_ e2];exact h1
 .rw[hg] at hb' aa;by_cases eb:b=s.nx
  .by_cases ec:c=s.nx
   .rw[eb,ec]
   .rw[n_ ec] at aa;simp only[OJ,p_ eb,n_ ec] at e;exact a_ e.symm (lU c aa)
  .rw[n_ eb] at hb';by_cases ec:c=s.nx
   .simp only[OJ,n_ eb,p_ ec] at e;exact a_ e (lU b hb')
   .rw[n_ ec] at aa;simp only[OJ,n_ eb,n_ ec] at e;exact h.inj b c hb' aa e
theorem HR.wide (h:HR fr R s w0 w) (hE:E4 s.nx R R') (hn:s.nx<=n'):HR fr R' ⟨s.h,n'⟩ w0 w:=by
 (have hR:∀b x,s.h.get b=O x->R' b=R b:=λb x hx=>hE b (h.lt b (by rw[hx];simp)));refine⟨h.os,h.tape,h.output,h.fr,λb hb=>vN (h.lt b hb) hn,λb x hx=>?_,λb c hb hc e=>?_⟩
 .rw[hR b x hx];obtain⟨h1,o,h2,h3⟩:=h.own b x hx;exact⟨h1,o,h2,h3.mono hn hE⟩
 .have hb':=hE b (h.lt b hb);have aa:=hE c (h.lt c hc);rw[hb',aa] at e;exact h.inj b c hb hc e
def Gg (a:AJ AV):List Nat->AJ AV
 |[]=> .leaf
 |t::l=>(Gg a l).set t (a.get t)
theorem KN (a:AJ AV):∀(l:List Nat) (t:Nat),(Gg a l).get t=if t∈l then a.get t else X
 |[],t=>by simp[Gg,AJ.get_leaf]
 |u::l,t=>by
  simp only[Gg]
  rw[AJ.get_set]
  by_cases e:t=u
  .subst e;simp
  .rw[n_ e,KN a l t];simp[e]
theorem TR.pick {l:List Nat} (h:∀t∈l,∀x,a.get t=O x->∃v,act.tmps[t]?=O v/\VR R n x v):TR R n (Gg a l) act:=λt x hx=>by
 rw[KN] at hx
 by_cases e:t∈l
 .rw[p_ e] at hx;exact h t e x hx
 .rw[n_ e] at hx;cases hx
def Hm (l:List O_):List Nat:=l.filterMap fun
 | .tmp t=>O t
 |_=>X
theorem Pr {l:List O_} {x:O_} (hx:x∈l):Ck (Gg a (Hm l)) x=Ck a x:=by cases x<;>simp only[Ck];case tmp t=>rw[KN,p_];exact List.mem_filterMap.2 ⟨.tmp t,hx,Z⟩
theorem aR {call:C9} (h:∀x∈o.op.operands,Ck a x=Ck a' x):aV E call a s o=aV E call a' s o:=by
 unfold aV
 cases ho:o.op with
 |call c=>
  rw[ho] at h
  have h1:Do (Ck a) c.args.toList=Do (Ck a') c.args.toList:=Ez λy hy=>h y (by
   simp only[wG,Call.operands];have:=vq.1 hy
   cases c.callee<;>simp[this])
  simp only[h1]
  cases hc:c.callee with
  |value f=>have h2:Ck a f=Ck a' f:=h f (by simp[wG,Call.operands,hc]);simp only[h2]
  |_=>rfl
 |convert src dst x=>rw[ho] at h;have h1:Ck a x=Ck a' x:=h x Bd;have h2:BK E a s (.convert src dst x)=BK E a' s (.convert src dst x):=LI h;simp only[YR,h1,h2]
 |_=>rw[ho] at h;exact LI h
end
end
end
noncomputable section
def O6 (t:AJ Nat):List Edge->Nat
 |[]=>0
 |e::l=>bif vR .any e then (match t.get e.on with
  |some m=>uu (uu (uz 1 e.on) m) (O6 t l)
  |none=>uu (uz 1 e.on) (O6 t l)) else O6 t l
def QE:List Oper->Nat->AJ Nat->AJ Nat
 |[],_,t=>t
 |o::l,i,t=>QE l (i+1) (t.set i (O (O6 t o.after.toList)))
def PB (m m':Nat):Bool:=uh (uu m m') m'
structure FX where
 a:AJ AV
 s:St
 done:Nat
 hist:List (Option Nat×AJ Fk)
def Qy:Op->Bool
 | .call c=>match c.callee with
  | .builtin .len=>B
  | .builtin .max=>B
  | .builtin .min=>B
  |_=>G
 |op=>qW op
def aU (E:CF) (a:AJ AV) (h:AJ Fk):Op->Option AV
 | .call c=>match Do (Ck a) c.args.toList with
  |none=>X
  |some xs=>match c.callee with
   | .builtin b=>match nI E ⟨h,0⟩ b c.argTypes.toList xs with
    |some (O x,_)=>O x
    |_=>X
   |_=>X
 |op=>match BK E a ⟨h,0⟩ op with
  |some (O x,_)=>O x
  |_=>X
def PP (E:CF) (a:AJ AV) (op:Op) (m:Nat) (x:AV):List (Option Nat×AJ Fk)->Bool
 |[]=>B
 |(c,h)::l=>match aU E a h op with
  |some y=>bif NL x y then (match c with
   |none=>B
   |some c=>bif m.testBit c then B else PP E a op m x l) else G
  |none=>G
def Oy (E:CF) (a:AJ AV) (op:Op) (m:Nat):List (Option Nat×AJ Fk)->Option AV
 |[]=>X
 |(c,h)::l=>match aU E a h op with
  |some x=>match c with
   |none=>O x
   |some c=>bif m.testBit c then O x else bif PP E a op m x l then O x else X
  |none=>X
def GZ (t:Nat):List Oper->Nat->Option Nat
 |[],_=>X
 |o::l,i=>match o.dst with
  |some d=>bif uh d t then O i else GZ t l (i+1)
  |none=>GZ t l (i+1)
def Dy (ops:List Oper) (o:Oper):Option Nat:=match o.op with
 | .insert _ (.tmp t) _ _=>match GZ t ops 0 with
  |some i=>match LG ops i with
   |some oi=>match oi.op with
    | .makeMap _ X=>O i
    |_=>X
   |none=>X
  |none=>X
 |_=>X
def Xi (t:Nat):O_->Bool
 | .tmp u=> !uh u t
 |_=>B
def WQ (E:CF) (cl:AJ Nat) (dn i t:Nat) (a:AJ AV) (j:Nat) (o:Oper) (ty:T_) (k v:O_):Option (AV×AV):=match o.guard with
 |some _=>X
 |none=>match o.dst with
  |some _=>X
  |none=>match cl.get j with
   |none=>X
   |some m=>bif m.testBit i&&PB m (uu dn (uz 1 i))&&Xi t k&&Xi t v then (match Ck a k with
    |none=>X
    |some x=>match Ck a v with
     |none=>X
     |some y=>match E.tt.get ty with
      |none=>X
      |some u=>match u.k with
       | .map kt _=>match E.tt.get kt with
        |some uk=>bif DP uk.k x&&BK.oneOrAgg y then O (x,y) else X
        |none=>X
       |_=>X) else X
def Wo (E:CF) (cl:AJ Nat) (dn i t:Nat) (a:AJ AV):List Oper->Nat->Option (List (Nat×AV×AV))
 |[],_=>O []
 |o::l,j=>match o.op with
  | .insert ty (.tmp u) k v=>bif uh u t then (match WQ E cl dn i t a j o ty k v with
   |none=>X
   |some e=>match Wo E cl dn i t a l (j+1) with
    |none=>X
    |some r=>O ((j,e)::r)) else Wo E cl dn i t a l (j+1)
  |_=>Wo E cl dn i t a l (j+1)
def Yt:List (AV×AV)->Bool
 |[]=>B
 |e::l=>match Hc e.1 l with
  |some X=>Yt l
  |_=>G
def Gu (E:CF) (cl:AJ Nat) (dn i:Nat) (a:AJ AV) (ops:List Oper) (lu:Fk) (dst:Option Tmp):Option (List (Nat×AV×AV)):=match lu with
 | .map _=>match dst with
  |some t=>match Wo E cl dn i t a ops 0 with
   |some l=>bif Yt (l.map uq) then O l else X
   |none=>X
  |none=>O []
 |_=>O []
def Kh (lu:Fk) (l:List (Nat×AV×AV)):Fk:=match lu with
 | .map _=> .map (l.map uq)
 |b=>b
def G0 (ops:List Oper) (dn:Nat):List Oper->Nat->Bool
 |[],_=>B
 |o::l,j=>match Dy ops o with
  |some i=>bif dn.testBit i then (bif dn.testBit j then G0 ops dn l (j+1) else G) else G0 ops dn l (j+1)
  |none=>G0 ops dn l (j+1)
def Vy (d:FX) (i:Nat) (a:AJ AV) (s:St) (hist:List (Option Nat×AJ Fk)):FX:=⟨a,s,uu d.done (uz 1 i),hist⟩
def WK (nt:Nat) (i:Nat) (d:FX) (o:Oper) (m:Nat):Option FX:=bif PB m d.done then (match Fm nt d.a o.dst (.tup []) with
 |some a=>O (Vy d i a d.s d.hist)
 |none=>X) else X
def Ye (nt:Nat) (i:Nat) (d:FX) (o:Oper) (m i':Nat):Option FX:=bif PB m d.done&&m.testBit i' then (match o.op with
 | .insert _ (.tmp t) _ _=>match d.a.get t with
  |some (.m _)=>match Fm nt d.a o.dst (.tup []) with
   |some a=>O (Vy d i a d.s d.hist)
   |none=>X
  |_=>X
 |_=>X) else X
def UW (E:CF) (nt:Nat) (i:Nat) (d:FX) (o:Oper) (m:Nat):Option FX:=bif PB m d.done then (match Oy E d.a o.op m d.hist with
 |some x=>match Fm nt d.a o.dst x with
  |some a=>O (Vy d i a d.s d.hist)
  |none=>X
 |none=>X) else X
def Yy (E:CF) (nt:Nat) (ops:List Oper) (cl:AJ Nat) (i:Nat) (d:FX) (o:Oper) (m:Nat) (r:Fk×(Nat->AV)):Option FX:=bif PB m d.done then (match Gu E cl d.done i d.a ops r.1 o.dst with
 |some lQ=>match Fm nt d.a o.dst (r.2 d.s.nx) with
  |some a=>O (Vy d i a (d.s.new (Kh r.1 lQ)) d.hist)
  |none=>X
 |none=>X) else X
def Yp (E:CF) (call:C9) (nt:Nat) (ops:List Oper) (i:Nat) (d:FX) (o:Oper) (m:Nat):Option FX:=bif uh m d.done&&G0 ops d.done ops 0 then (match aV E call d.a d.s o with
 |some r=>bif ui d.s.nx r.2.nx then (match Fm nt d.a o.dst (XW r.1) with
  |some a=>O (Vy d i a r.2 ((O i,r.2.h)::d.hist))
  |none=>X) else X
 |none=>X) else X
def Cw (E:CF) (call:C9) (nt:Nat) (ops:List Oper) (cl:AJ Nat) (i:Nat) (d:FX):Option FX:=match LG ops i with
 |none=>X
 |some o=>match cl.get i with
  |none=>X
  |some m=>bif d.done.testBit i then X else match E7 ops d.a o.guard with
   |none=>X
   |some G=>WK nt i d o m
   |some B=>match Dy ops o with
    |some i'=>Ye nt i d o m i'
    |none=>bif Qy o.op then UW E nt i d o m else match OG E d.a o.op with
     |some r=>Yy E nt ops cl i d o m r
     |none=>Yp E call nt ops i d o m
def FA (E:CF) (call:C9) (nt:Nat) (ops:List Oper) (cl:AJ Nat):List Nat->FX->Option FX
 |[],d=>O d
 |i::l,d=>match Cw E call nt ops cl i d with
  |some d=>FA E call nt ops cl l d
  |none=>X
def pn:Op->Bool
 | .alloc _=>B
 | .box _ _=>B
 | .makeMap _ _=>B
 | .buildSlice _ _ _=>B
 | .makeSlice _ _ _=>B
 |_=>G
def Vr (m d:Nat):Nat->Nat->List Nat
 |0,_=>[]
 |k+1,i=>bif m.testBit i then (bif d.testBit i then Vr m d k (i+1) else i::Vr m d k (i+1)) else Vr m d k (i+1)
def pD (ops:List Oper):List Oper->Nat->List (Nat×Nat)
 |[],_=>[]
 |o::l,j=>match Dy ops o with
  |some i=>(i,j)::pD ops l (j+1)
  |none=>pD ops l (j+1)
def oE (cl:AJ Nat) (i:Nat):List (Nat×Nat)->Nat->Nat
 |[],m=>m
 |(i',j)::l,m=>bif uh i' i then oE cl i l (uu m (match cl.get j with
  |some mj=>mj
  |none=>0)) else oE cl i l m
def YV (cl:AJ Nat) (ins:List (Nat×Nat)):List Nat->Nat->List Nat->List Nat×List Nat×Nat
 |[],d,rest=>([],rest.reverse,d)
 |i::l,d,rest=>match cl.get i with
  |some m=>bif PB (oE cl i ins m) (uu d (uz 1 i)) then (match YV cl ins l (uu d (uz 1 i)) rest with
    |(x,y,z)=>(i::x,y,z)) else YV cl ins l d (i::rest)
  |none=>YV cl ins l d (i::rest)
def ny (cl:AJ Nat) (ins:List (Nat×Nat)):Nat->List Nat->Nat->List Nat
 |0,l,_=>l
 |n+1,l,d=>match YV cl ins l d [] with
  |(x,[],_)=>x
  |(x,y::ys,z)=>x++ny cl ins n (y::ys) z
def jn (cl:AJ Nat) (ins:List (Nat×Nat)) (n:Nat) (l:List Nat) (d:Nat):List Nat:=match ins with
 |[]=>l
 |_=>ny cl ins n l d
def cZ (n:Nat) (cl:AJ Nat) (ins:List (Nat×Nat)) (ops:List Oper):List Oper->Nat->Nat->List Nat
 |[],_,d=>jn cl ins n (Vr (uz 1 n-1) d n 0) d
 |o::l,i,d=>bif Qy o.op then cZ n cl ins ops l (i+1) d else bif pn o.op then cZ n cl ins ops l (i+1) d else match Dy ops o with
  |some _=>cZ n cl ins ops l (i+1) d
  |none=>match cl.get i with
   |none=>[]
   |some m=>jn cl ins n (Vr m d n 0) d++i::cZ n cl ins ops l (i+1) (uu d (uu m (uz 1 i)))
def Pj (ops:List Oper) (cl:AJ Nat) (i m:Nat):List Nat->Bool
 |[]=>B
 |t::l=>bif (match GZ t ops 0 with
  |none=>B
  |some k=>bif m.testBit k then B else match cl.get k with
   |some mk=>mk.testBit i
   |none=>G) then Pj ops cl i m l else G
def Uf (o:Oper) (l:List Oper):Bool:=match o.dst with
 |none=>B
 |some d=>match GZ d l 0 with
  |none=>B
  |some _=>G
def NR (ops:List Oper) (cl:AJ Nat):List Oper->Nat->Bool
 |[],_=>B
 |o::l,i=>bif Uf o l then (match cl.get i with
  |none=>G
  |some m=>bif Pj ops cl i m (Hm o.op.operands.toList) then (bif (match o.guard with
   |none=>B
   |some (g,_)=>match LG ops g with
    |none=>B
    |some og=>m.testBit g) then NR ops cl l (i+1) else G) else G) else G
def JE (E:CF):RH:=λcall nt ops a s=>
 let cl:=QE ops 0 .leaf
 bif NR ops cl ops 0 then (match FA E call nt ops cl (cZ ops.length cl (pD ops ops 0) ops ops 0 0) ⟨a,s,0,[(X,s.h)]⟩ with
  |some d=>bif uh d.done (uz 1 ops.length-1) then O (d.a,d.s) else X
  |none=>X) else X
end
section
variable {i k m:Nat}
noncomputable section
theorem Eo (m m' k:Nat):(uu m m').testBit k=(m.testBit k||m'.testBit k):=Nat.testBit_or m m' k
theorem KC (i k:Nat):(uz 1 i).testBit k=T (i=k):=by show(1<<<i).testBit k=_;rw[Nat.shiftLeft_eq,Nat.one_mul,Nat.testBit_two_pow]
theorem MT {m':Nat} (h:PB m m'=B) (hk:m.testBit k=B):m'.testBit k=true:=by have:=B0 h;rw[<-this,Eo,hk];rfl
theorem Yv (d i k:Nat):(uu d (uz 1 i)).testBit k=(d.testBit k||T (i=k)):=by rw[Eo,KC]
section
variable {ops:Array Oper}
def FJ (ops:Array Oper) (t:AJ Nat):Prop:=∀i m,t.get i=O m->∀k,m.testBit k=B->CP ops k i
theorem Hf {t:AJ Nat} (ht:FJ ops t):∀(l:List Edge) {k:Nat},(O6 t l).testBit k=B->∃e∈l,vR .any e=B/\(k=e.on\/CP ops k e.on)
 |[],k,h=>by simp[O6] at h
 |e::l,k,h=>by
  unfold O6 at h
  cases hb:vR .any e with
  |false=>
   rw[hb,cond_false] at h
   obtain⟨e',h1,h2⟩:=Hf ht l h
   exact⟨e',.tail _ h1,h2⟩
  |true=>
   rw[hb,cond_true] at h
   cases hm:t.get e.on with
   |none=>
    rw[hm] at h
    simp only at h
    rw[Eo,KC,wF] at h
    rcases h with h|h
    .exact⟨e,.head _,hb,.inl (o_ h).symm⟩
    .obtain⟨e',h1,h2⟩:=Hf ht l h
     exact⟨e',.tail _ h1,h2⟩
   |some m=>
    rw[hm] at h
    simp only at h
    rw[Eo,Eo,KC,wF,wF] at h
    rcases h with (h|h)|h
    .exact⟨e,.head _,hb,.inl (o_ h).symm⟩
    .exact⟨e,.head _,hb,.inr (ht _ _ hm _ h)⟩
    .obtain⟨e',h1,h2⟩:=Hf ht l h
     exact⟨e',.tail _ h1,h2⟩
theorem OB:∀(l:List Oper) (i:Nat) (t:AJ Nat),ops.toList.drop i=l->FJ ops t->FJ ops (QE l i t)
 |[],i,t,_,ht=>ht
 |o::l,i,t,hl,ht=>by
  have ho:ops[i]?=O o:=by
   have:=congrArg (λl=>l[0]?) hl
   simpa using this
  refine OB l (i+1) _ ng λj m hj k hk=>?_
  rw[AJ.get_set] at hj
  by_cases e:j=i
  .rw[p_ e] at hj
   cases hj
   subst e
   obtain⟨e',h1,h2,h3⟩:=Hf ht _ hk
   have h1:=vq.1 h1
   rcases h3 with rfl|h3
   .exact .edge ho h1 h2
   .exact .step ho h1 h2 h3
  .rw[n_ e] at hj
   exact ht j m hj k hk
theorem iM (ops:Array Oper):FJ ops (QE ops.toList 0 .leaf):=OB _ 0 _ Z λi m h=>by rw[AJ.get_leaf] at h;cases h
def El (ops:Array Oper) (t:AJ Nat):Prop:=∀i m o,t.get i=O m->ops[i]?=O o->∀e∈o.after,vR .any e=B->m.testBit e.on=B
theorem NQ {t:AJ Nat}:∀(l:List Edge) {e:Edge},e∈l->vR .any e=B->(O6 t l).testBit e.on=B
 |[],e,h,_=>by cases h
 |e'::l,e,h,hb=>by
  unfold O6
  cases hb':vR .any e' with
  |false=>
   rw[cond_false]
   rcases vD.1 h with rfl|h
   .rw[hb] at hb';cases hb'
   .exact NQ l h hb
  |true=>
   rw[cond_true]
   have key:∀x:Nat,((uu (uz 1 e'.on) x).testBit e.on=B\/e≠e'):=λx=>by
    by_cases he:e=e'
    .left;rw[he,Eo,KC];simp
    .exact .inr he
   rcases vD.1 h with rfl|h
   .cases hm:t.get e.on with
    |none=>
     simp only
     rw[Eo,KC]
     simp
    |some m=>
     simp only
     rw[Eo,Eo,KC]
     simp
   .have:=NQ (t:=t) l h hb
    cases hm:t.get e'.on with
    |none=>
     simp only
     rw[Eo,this,xt]
    |some m=>
     simp only
     rw[Eo,this,xt]
theorem Pq:∀(l:List Oper) (i:Nat) (t:AJ Nat),ops.toList.drop i=l->El ops t->El ops (QE l i t)
 |[],i,t,_,ht=>ht
 |o::l,i,t,hl,ht=>by
  have ho:ops[i]?=O o:=by
   have:=congrArg (λl=>l[0]?) hl
   simpa using this
  refine Pq l (i+1) _ ng λj m o' hj ho' e he hb=>?_
  rw[AJ.get_set] at hj
  by_cases ej:j=i
  .rw[p_ ej] at hj
   cases hj
   subst ej
   rw[ho] at ho'
   cases ho'
   exact NQ _ (vq.2 he) hb
  .rw[n_ ej] at hj
   exact ht j m o' hj ho' e he hb
theorem bR (ops:Array Oper):El ops (QE ops.toList 0 .leaf):=Pq _ 0 _ Z λi m o h=>by rw[AJ.get_leaf] at h;cases h
theorem Mf {nD:Array Bool} {d:Bool} (h:nD.getD i d≠d):nD[i]?=O (!d):=by
 rw[wP] at h
 cases hx:nD[i]? with
 |none=>rw[hx] at h;exact a_ Z h
 |some b=>rw[hx] at h;cases b<;>cases d<;>first|rfl|exact a_ Z h
theorem En {nD:Array Bool} (hc:M4 ops nD) (hr:i∈wT .any ops nD) (hb:CP ops k i):nD[k]?=O true:=by
 obtain⟨_,o,ho,he⟩:=mem_ready.1 hr
 cases hb with
 |edge ho' h1 h2=>rw[ho] at ho';cases ho';exact Mf (d:=G) (by rw[he _ h1 h2];simp)
 |step ho' h1 h2 h3=>rw[ho] at ho';cases ho';exact hc _ _ (Mf (d:=G) (by rw[he _ h1 h2];simp)) h3
theorem D9 {nD:Array Bool} (hr:i∈wT .any ops nD):nD[i]?=O false:=Mf (d:=B) (by rw[(mem_ready.1 hr).1];simp)
theorem hU {nD:Array Bool} (hr:i∈wT .any ops nD):∃o,ops[i]?=O o:=⟨_,(mem_ready.1 hr).2.choose_spec.1⟩
theorem DV {nD:Array Bool} (hi:nD[i]?=O G) (k:Nat):(nD.setIfInBounds i B)[k]?=if k=i then O B else nD[k]?:=by
 by_cases e:k=i
 .subst e;have hl:=(x4.1 hi).1;rw[p_ Z];simp[hl]
 .rw[n_ e,wO (Ne.symm e)]
theorem M4.add {nD:Array Bool} (hc:M4 ops nD) {i:Nat} (hr:i∈wT .any ops nD):M4 ops (nD.setIfInBounds i B):=λj k hj hb=>by
 have hi:=D9 hr
 rw[DV hi] at hj⊢
 by_cases ek:k=i
 .rw[p_ ek]
 .rw[n_ ek]
  by_cases ej:j=i
  .rw[ej] at hb;exact En hc hr hb
  .rw[n_ ej] at hj;exact hc j k hj hb
end
end
end
section
variable {d d':FX} {i:Nat}
noncomputable section
inductive Ey (E:CF) (call:C9) (nt:Nat) (ops:List Oper) (cl:AJ Nat) (i:Nat) (d:FX):FX->Prop where
 |skip {o:Oper} {m:Nat} {a:AJ AV}:ops[i]?=O o->cl.get i=O m->d.done.testBit i=G->E7 ops d.a o.guard=O G->(∀k,m.testBit k=B->d.done.testBit k=B)->Fm nt d.a o.dst (.tup [])=O a->
  Ey E call nt ops cl i d ⟨a,d.s,uu d.done (uz 1 i),d.hist⟩
 |read {o:Oper} {m:Nat} {x:AV} {a:AJ AV}:ops[i]?=O o->cl.get i=O m->d.done.testBit i=G->E7 ops d.a o.guard=O B->(∀k,m.testBit k=B->d.done.testBit k=B)->Qy o.op=B->Oy E d.a o.op m d.hist=O x->Fm nt d.a o.dst x=O a->
  Ey E call nt ops cl i d ⟨a,d.s,uu d.done (uz 1 i),d.hist⟩
 |new {o:Oper} {m:Nat} {lu:Fk} {mk:Nat->AV} {lQ:List (Nat×AV×AV)} {a:AJ AV}:ops[i]?=O o->cl.get i=O m->d.done.testBit i=G->E7 ops d.a o.guard=O B->(∀k,m.testBit k=B->d.done.testBit k=B)->Dy ops o=X->OG E d.a o.op=O (lu,mk)->Gu E cl d.done i d.a ops lu o.dst=O lQ->Fm nt d.a o.dst (mk d.s.nx)=O a->
  Ey E call nt ops cl i d ⟨a,d.s.new (Kh lu lQ),uu d.done (uz 1 i),d.hist⟩
 |act {o:Oper} {r:Option AV} {s:St} {a:AJ AV}:ops[i]?=O o->cl.get i=O d.done->d.done.testBit i=G->E7 ops d.a o.guard=O B->Dy ops o=X->Qy o.op=G->OG E d.a o.op=X->G0 ops d.done ops 0=B->aV E call d.a d.s o=O (r,s)->d.s.nx<=s.nx->Fm nt d.a o.dst (XW r)=O a->
  Ey E call nt ops cl i d ⟨a,s,uu d.done (uz 1 i),(O i,s.h)::d.hist⟩
 |ins {o:Oper} {m i' t b:Nat} {ty:T_} {k v:O_} {a:AJ AV}:ops[i]?=O o->cl.get i=O m->d.done.testBit i=G->E7 ops d.a o.guard=O B->(∀k,m.testBit k=B->d.done.testBit k=B)->Dy ops o=O i'->m.testBit i'=B->o.op= .insert ty (.tmp t) k v->d.a.get t=O (.m b)->Fm nt d.a o.dst (.tup [])=O a->
  Ey E call nt ops cl i d ⟨a,d.s,uu d.done (uz 1 i),d.hist⟩
section
variable {E:CF} {call:C9} {nt:Nat} {ops:List Oper} {cl:AJ Nat}
theorem BA (h:Cw E call nt ops cl i d=O d'):Ey E call nt ops cl i d d':=by
 unfold Cw at h;(split at h<;>try (cases h;done));rename_i o ho;rw[EG] at ho;(split at h<;>try (cases h;done));rename_i m hm
 cases hd:d.done.testBit i with
 |true=>rw[hd] at h;cases h
 |false=>
  rw[hd,cond_false] at h;split at h<;>try (cases h;done)
  .rename_i hg;unfold WK at h
   cases hs:PB m d.done with
   |false=>rw[hs] at h;cases h
   |true=>rw[hs,cond_true] at h;(split at h<;>try (cases h;done));rename_i a ha;cases h;exact .skip ho hm hd hg (λk hk=>MT hs hk) ha
  .rename_i hg
   cases aa:Dy ops o with
   |some i'=>
    rw[aa] at h;simp only at h;unfold Ye at h
    cases hs:(PB m d.done&&m.testBit i') with
    |false=>rw[hs] at h;cases h
    |true=>rw[hs,cond_true] at h;rw[uj] at hs;obtain⟨hs,ag⟩:=hs;(split at h<;>try (cases h;done));rename_i ty t k v af;(split at h<;>try (cases h;done));rename_i b hb;(split at h<;>try (cases h;done));rename_i a ha;cases h;exact .ins ho hm hd hg (λk hk=>MT hs hk) aa ag af hb ha
   |none=>
    rw[aa] at h;simp only at h
    cases hr:Qy o.op with
    |true=>
     rw[hr,cond_true] at h;unfold UW at h
     cases hs:PB m d.done with
     |false=>rw[hs] at h;cases h
     |true=>rw[hs,cond_true] at h;(split at h<;>try (cases h;done));rename_i x hx;(split at h<;>try (cases h;done));rename_i a ha;cases h;exact .read ho hm hd hg (λk hk=>MT hs hk) hr hx ha
    |false=>
     rw[hr,cond_false] at h;split at h<;>try (cases h;done)
     .rename_i r hA;obtain⟨lu,mk⟩:=r;unfold Yy at h
      cases hs:PB m d.done with
      |false=>rw[hs] at h;cases h
      |true=>rw[hs,cond_true] at h;(split at h<;>try (cases h;done));rename_i lQ ad;(split at h<;>try (cases h;done));rename_i a ha;cases h;exact .new ho hm hd hg (λk hk=>MT hs hk) aa hA ad ha
     .rename_i hA;unfold Yp at h
      cases hs:(uh m d.done&&G0 ops d.done ops 0) with
      |false=>rw[hs] at h;cases h
      |true=>
       rw[hs,cond_true] at h;rw[uj] at hs;obtain⟨hs,ah⟩:=hs;have hs:=B0 hs;subst hs;(split at h<;>try (cases h;done));rename_i r ae;obtain⟨r,s⟩:=r
       cases hn:ui d.s.nx s.nx with
       |false=>rw[hn] at h;cases h
       |true=>rw[hn,cond_true] at h;(split at h<;>try (cases h;done));rename_i a ha;cases h;exact .act ho hm hd hg aa hr hA ah ae (BV hn) ha
theorem Ey.done (h:Ey E call nt ops cl i d d'):d.done.testBit i=G/\∀k,d'.done.testBit k=(d.done.testBit k||T (i=k)):=by cases h<;>exact⟨by assumption,λk=>Yv _ _ _⟩
theorem Ey.before (h:Ey E call nt ops cl i d d'):∃m,cl.get i=O m/\∀k,m.testBit k=B->d.done.testBit k=true:=by cases h<;>first|exact⟨_,by assumption,by assumption⟩|exact⟨_,by assumption,λk hk=>hk⟩
theorem Cr:∀(l:List Nat) {d d':FX},FA E call nt ops cl l d=O d'->(∀k,d'.done.testBit k=B↔d.done.testBit k=B\/k∈l)/\l.Nodup/\∀k∈l,d.done.testBit k=G
 |[],d,d',h=>by
  cases h
  exact⟨λk=>by simp,wU,λk hk=>by cases hk⟩
 |i::l,d,d',h=>by
  simp only[FA] at h
  split at h<;>try (cases h;done)
  rename_i d1 h1
  obtain⟨g1,g2⟩:=(BA h1).done
  obtain⟨r1,r2,r3⟩:=Cr l h
  have hi:i ∉ l:=λhi=>by
   have:=r3 i hi
   rw[g2] at this
   simp at this
  refine⟨λk=>?_,vJ.2 ⟨hi,r2⟩,λk hk=>?_⟩
  .rw[r1,g2,wF,decide_eq_true_iff,vD]
   constructor
   .rintro((h|h)|h)
    .exact .inl h
    .exact .inr (.inl h.symm)
    .exact .inr (.inr h)
   .rintro(h|h|h)
    .exact .inl (.inl h)
    .exact .inl (.inr h.symm)
    .exact .inr h
  .rcases vD.1 hk with rfl|hk
   .exact g1
   .have:=r3 k hk
    rw[g2,Bool.or_eq_false_iff] at this
    exact this.1
end
end
end
section
variable {m:Nat} {o:Oper} {x:AV}
noncomputable section
section
variable {P:P_} {E:CF} {fr:Nat->Option Obj} {R:Nat->Nat×Nat} {n:Nat} {a a':AJ AV} {h:AJ Fk} {act:Act} {w0 w:W_}
theorem aO {op:Op} (hc:∀x∈op.operands,Ck a x=Ck a' x):aU E a h op=aU E a' h op:=by
 unfold aU
 cases op with
 |call c=>
  have h1:Do (Ck a) c.args.toList=Do (Ck a') c.args.toList:=Ez λy hy=>hc y (by
   simp only[wG,Call.operands];have:=vq.1 hy
   cases c.callee<;>simp[this])
  simp only[h1]
 |_=>simp only[LI hc]
theorem oX {b:Builtin} (hb:b= .len\/b= .max\/b= .min) (h:AJ Fk) (n:Nat) (aa:List T_) (xs:List AV):nI E ⟨h,n⟩ b aa xs=(nI E ⟨h,0⟩ b aa xs).map λr=>(r.1,⟨h,n⟩):=by
 (have hl:∀u x,eW ⟨h,n⟩ u x=eW ⟨h,0⟩ u x:=λu x=>rfl);rcases hb with rfl|rfl|rfl
 .simp only[nI,WS,hl];repeat' (first|rfl|(split<;>try simp only[vp,vQ]))
 .exact jC
 .exact jC
theorem Ag.stay {mm:Sem Next} (hr:Ag P fr R n w0 w mm (O x) ⟨h,n⟩):∃v w',mm.run P w= .ok (.value v) w'/\HR fr R ⟨h,n⟩ w0 w'/\VR R n x v:=by obtain⟨R',w',hE,hn,hh,v,hv,hx⟩:=hr;(have aa:E4 n R' R:=λb hb=>(hE b hb).symm);exact⟨v,w',hv,hh.wide (s:=⟨h,n⟩) aa (un _),hx.mono (un _) aa⟩
theorem Zq (hE:Ap P E) (hh:HR fr R ⟨h,n⟩ w0 w) (hT:TR R n a act) (hr:Qy o.op=B) (ho:aU E a h o.op=O x):∃v w',(x_ act.eval o).run P w= .ok (.value v) w'/\HR fr R ⟨h,n⟩ w0 w'/\VR R n x v:=by
 (have aa:qW o.op=B->(∀x s',BK E a ⟨h,0⟩ o.op=O (O x,s')->∃v w',(x_ act.eval o).run P w= .ok (.value v) w'/\HR fr R ⟨h,n⟩ w0 w'/\VR R n x v):=λhi x s' he=>by have:=kV (E:=E) (a:=a) hi h n;rw[he] at this;exact(JU hE hh hT this).stay)
 cases hop:o.op with
 |call c=>rw[hop] at hr ho;simp only[aU] at ho;(split at ho<;>try (cases ho;done));rename_i xs af;(split at ho<;>try (cases ho;done));rename_i b hb;(split at ho<;>try (cases ho;done));rename_i y s' he;cases ho;have hb':b= .len\/b= .max\/b= .min:=(by simp only[Qy,hb] at hr;cases b<;>first|exact .inl rfl|exact .inr (.inl rfl)|exact .inr (.inr rfl)|cases hr);have hn:=oX (E:=E) hb' h n c.argTypes.toList xs;rw[he] at hn;have ad:BM R n xs (c.args.map act.eval).toList:=(by rw[ww];exact GV hT af);have ae:∃consts,x_ act.eval o=builtin b c.argTypes o.type consts (c.args.map act.eval):=(by unfold x_;rw[hop];exact X8);obtain⟨consts,ae⟩:=ae;rw[ae];exact(TZ (s:=⟨h,n⟩) hE hh ad o.type consts hn).stay
 |_=>rw[hop] at hr ho aa;simp only[Qy] at hr;simp only[aU] at ho;(split at ho<;>try (cases ho;done));rename_i y s' he;cases ho;exact aa hr _ _ he
theorem SD {op:Op} {m:Nat} {x:AV}:∀(l1:List (Option Nat×AJ Fk)) {c:Option Nat} {h:AJ Fk} {l2:List (Option Nat×AJ Fk)},PP E a op m x (l1++(c,h)::l2)=B->(∀p∈l1,∃c',p.1=O c'/\m.testBit c'=G)->aU E a h op=O x
 |[],c,h,l2,hs,_=>by
  simp only[vZ,PP] at hs
  split at hs<;>try (cases hs;done)
  rename_i y hy
  cases he:NL x y with
  |false=>rw[he] at hs;cases hs
  |true=>rw[hy,Jg he]
 |p::l1,c,h,l2,hs,hp=>by
  obtain⟨c',h'⟩:=p
  obtain⟨c1,e1,e2⟩:=hp _ (.head _)
  cases e1
  simp only[wD,PP] at hs
  split at hs<;>try (cases hs;done)
  rename_i y hy
  cases he:NL x y with
  |false=>rw[he] at hs;cases hs
  |true=>
   rw[he,cond_true,e2,cond_false] at hs
   exact SD l1 hs λp hp'=>hp p (.tail _ hp')
theorem Xl {op:Op} {l:List (Option Nat×AJ Fk)} (hf:Oy E a op m l=O x) {l1:List (Option Nat×AJ Fk)} {c:Option Nat} {h:AJ Fk} {l2:List (Option Nat×AJ Fk)} (hl:l=l1++(c,h)::l2) (hp:∀p∈l1,∃c',p.1=O c'/\m.testBit c'=G):aU E a h op=O x:=by
 subst hl
 cases l1 with
 |nil=>
  simp only[vZ,Oy] at hf;(split at hf<;>try (cases hf;done));rename_i y hy;rw[hy]
  cases c with
  |none=>exact hf
  |some c=>
   simp only at hf
   cases hb:m.testBit c with
   |true=>rw[hb,cond_true] at hf;exact hf
   |false=>
    rw[hb,cond_false] at hf
    cases hs:PP E a op m y l2 with
    |true=>rw[hs,cond_true] at hf;exact hf
    |false=>rw[hs] at hf;cases hf
 |cons p l1=>
  obtain⟨c',h'⟩:=p;obtain⟨c1,e1,e2⟩:=hp _ (.head _);cases e1;simp only[wD,Oy] at hf;(split at hf<;>try (cases hf;done));rename_i y hy;rw[e2,cond_false] at hf
  cases hs:PP E a op m y (l1++(c,h)::l2) with
  |false=>rw[hs] at hf;cases hf
  |true=>rw[hs,cond_true] at hf;cases hf;exact SD l1 hs λp aa=>hp p (.tail _ aa)
end
end
end
