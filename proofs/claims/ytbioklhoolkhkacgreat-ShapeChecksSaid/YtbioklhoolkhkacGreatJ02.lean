/- Part 2: EWA EXA EWB EWC EWD EWE EWF EWG EWH EWI EWJ EXB EXC EXD EXE EXF EXG EVZ EXH EXI HM SPM SFG RFM CKS CM SFI ELC CP CEV SPA SPB SPC SPD SPE SPF SPG RCA RCC RCD CUT RegionF RegionG RegionH RegionP. -/
import Derived.Test.YtbioklhoolkhkacGreatJ01
import Derived.Test.YtbioklhoolkhkacGreatRows
namespace Go.Proofs.YtbioklhoolkhkacGreat
set_option maxRecDepth 100000
set_option maxHeartbeats 0
set_option linter.unusedVariables false
set_option linter.unusedSimpArgs false
set_option linter.unusedSectionVars false
open Go Go.RowKit
open _root_.Go.Proofs.Tryz renaming prog→uh
open _root_.ByteArray renaming empty→ui,toList_eq→wP
open _root_.Go.Region renaming ready→uj,wanted→uz,binds→vP,noSelect→vX,free→vY,noSelect_spec→wV,free_spec→wW
open _root_.Array renaming getElem?_toList→ul,getElem?_eq_some_iff→vU,mem_toList_iff→ve,getD_eq_getD_getElem?→vp,replicate→wH,getElem?_eq_none→wS,getElem?_setIfInBounds_ne→wY,getElem?_eq_getElem→wu
open _root_.Bool renaming false_eq_true→um,and_eq_true→vD,or_eq_true→vI,false_or→vQ,not_true→wL,and_false→wN,true_and→wO,false_and→wU,not_false→wm,eq_iff_iff→xB,and_comm→xC,and_true→xD
open _root_.Nat renaming zero_le→un,le_refl→uq,mul→uu,le_trans→vB,beq→vJ,add→vL,add_assoc→vM,add_comm→vh,lt_or_ge→vj,zero_add→vq,sub_zero→wC,zero_testBit→wI,succ→wJ,mul_one→wK,mul_assoc→wl
open _root_.Prod renaming fst→ur,snd→vF
open _root_.List renaming mem_cons→ut,map_cons→uv,all_eq_true→uy,range→vA,mem_map→vE,getElem?_eq_some_iff→vG,getElem?_eq_getElem→vH,mem_range→vN,mem_of_getElem?→vR,nodup_cons→vS,mem_append→vZ,mem_append_left→vm,append_nil→vt,tail→vu,tail_drop→vv,take_of_length_le→vy,mem_singleton→wA,getElem?_cons_succ→wB,mem_append_right→wF,map_map→wG,replicate→wM,take_append_drop→wT,pairwise_cons→wX,filter_congr→wZ,cons_append→we,map_append→wg,mem_map_of_mem→wh,filter_append→wi,mem_filter→wj,append_assoc→wo,findIdx?_eq_none_iff→wv,findIdx?_eq_some_iff_getElem→ww,getElem?_map→x4,map_congr_left→x9
open _root_.Go.Op renaming eqFields→vV,eqItems→vW,equalIn→vx
open _root_.Option renaming map_some→vz,getD_some→wR
open _root_.Go.World renaming putObj_heap_same→wD,putObj_heap_other→wE,cell?→wQ,cells?_some→wx,size_alloc→xE
open _root_.Go.Value renaming okWide→wt,string→xA
open _root_.Go.Proofs.Tryz
open Option renaming some→O,none→X
open Bool renaming true→B,false→G
open Decidable renaming decide→T
open _root_.Go renaming Value→V_,World→W_,Calls→K_,execOp→x_,Operand→O_,Program→P_,TypeId→T_,run_underlying→u_,bodyPost_ret→b_,Ending→E_
open _root_.Go.Value renaming slice→V,int→Y,pointer→M,string→U,bool→N
open _root_.Go.IntKind renaming i64→I
open _root_.Go.Obj renaming cells→C
section
variable {a:AJ AV} {c i j k nt:Nat} {d d' di di' dk:FX} {dst:Option Tmp} {x:AV}
noncomputable section
theorem CP.trans {ops:Array Oper} (h:CP ops k i) (h':CP ops j k):CP ops j i:=by
 induction h with
 |edge ho h1 h2=>exact .step ho h1 h2 h'
 |step ho h1 h2 _ ih=>exact .step ho h1 h2 (ih h')
section
variable {E:CF} {call:C9} {nt:Nat} {ops:List Oper} {cl:AJ Nat}
inductive Tr (E:CF) (call:C9) (nt:Nat) (ops:List Oper) (cl:AJ Nat):List Nat->FX->Nat->FX->Prop where
 |here {i:Nat} {l:List Nat} {d d':FX}:Cw E call nt ops cl i d=O d'->Tr E call nt ops cl (i::l) d i d
 |next {i j:Nat} {l:List Nat} {d d' di:FX}:Cw E call nt ops cl j d=O d'->j≠i->Tr E call nt ops cl l d' i di->Tr E call nt ops cl (j::l) d i di
theorem Tr.mem {l:List Nat} (h:Tr E call nt ops cl l d i di):i∈l:=by
 induction h with
 |here _=>exact .head _
 |next _ _ _ ih=>exact .tail _ ih
theorem Tr.step {l:List Nat} (h:Tr E call nt ops cl l d i di):∃d',Cw E call nt ops cl i di=O d':=by
 induction h with
 |here h=>exact⟨_,h⟩
 |next _ _ _ ih=>exact ih
theorem Tr.ex:∀(l:List Nat) {d df:FX} {i:Nat},FA E call nt ops cl l d=O df->i∈l->∃di,Tr E call nt ops cl l d i di
 |[],d,df,i,h,hi=>by cases hi
 |j::l,d,df,i,h,hi=>by
  simp only[FA] at h
  split at h<;>try (cases h;done)
  rename_i d1 h1
  by_cases e:j=i
  .subst e;exact⟨d,.here h1⟩
  .rcases ut.1 hi with rfl|hi
   .exact a_ Z e
   .obtain⟨di,h2⟩:=Tr.ex l h hi
    exact⟨di,.next h1 e h2⟩
theorem Tr.det {l:List Nat} (h:Tr E call nt ops cl l d i di) (h':Tr E call nt ops cl l d i di'):di=di':=by
 induction h with
 |here _=>
  cases h' with
  |here _=>rfl
  |next _ lU _=>exact a_ Z lU
 |next h1 lU _ ih=>
  cases h' with
  |here _=>exact a_ Z lU
  |next h2 _ h3=>rw[h1] at h2;cases h2;exact ih h3
theorem Tr.mono {l:List Nat} (h:Tr E call nt ops cl l d i di) (hk:d.done.testBit k=B):di.done.testBit k=true:=by
 induction h with
 |here _=>exact hk
 |next h1 _ _ ih=>exact ih (by rw[(BA h1).done.2,hk,Bool.true_or])
theorem Tr.not {l:List Nat} (h:Tr E call nt ops cl l d i di):di.done.testBit i=false:=by obtain⟨d',h⟩:=h.step;exact(BA h).done.1
theorem FY {a':AJ AV} (h:Fm nt a dst x=O a') (t:Nat):a'.get t=if dst=O t then O x else a.get t:=by
 cases dst with
 |none=>cases h;simp
 |some d=>
  simp only[Fm] at h
  cases hb:Nat.blt d nt with
  |false=>rw[hb] at h;cases h
  |true=>
   rw[hb,cond_true] at h;cases h;rw[AJ.get_set];by_cases e:t=d
   .subst e;simp
   .rw[n_ e,n_ (λe'=>e (Option.some.inj e').symm)]
theorem Ey.put (h:Ey E call nt ops cl i d d'):∃o x,ops[i]?=O o/\Fm nt d.a o.dst x=O d'.a:=by cases h<;>exact⟨_,_,by assumption,by assumption⟩
theorem Ey.get (h:Ey E call nt ops cl i d d') {t:Nat} (ht:∀o,ops[i]?=O o->o.dst≠O t):d'.a.get t=d.a.get t:=by obtain⟨o,x,ho,hp⟩:=h.put;rw[FY hp,n_ (ht o ho)]
theorem Tr.get {l:List Nat} (h:Tr E call nt ops cl l d i di) {t:Nat} (ht:∀k o,k∈l->di.done.testBit k=B->ops[k]?=O o->o.dst≠O t):di.a.get t=d.a.get t:=by
 induction h with
 |here _=>rfl
 |next h1 _ h2 ih=>rw[ih λk o hk=>ht k o (.tail _ hk)];(refine(BA h1).get λo ho=>ht _ o (.head _) ?_ ho);exact h2.mono Ys
def VM (E:CF) (call:C9) (nt:Nat) (ops:List Oper) (cl:AJ Nat) (l:List Nat) (d:FX) (c:Nat):Prop:=∃dc dc',Tr E call nt ops cl l d c dc/\Cw E call nt ops cl c dc=O dc'/\dc'.hist≠dc.hist
theorem Ey.hist (h:Ey E call nt ops cl i d d'):d'.hist=d.hist\/(d'.hist=(O i,d'.s.h)::d.hist/\cl.get i=O d.done):=by cases h<;>first|exact .inl rfl|exact .inr ⟨Z,by assumption⟩
theorem VM.next {l:List Nat} (h1:Cw E call nt ops cl j d=O d') (h:VM E call nt ops cl l d' c):VM E call nt ops cl (j::l) d c:=by obtain⟨dc,dc',h2,h3,h4⟩:=h;refine⟨dc,dc',.next h1 (λe=>?_) h2,h3,h4⟩;subst e;have h5:=h2.not;have h6:dc.done.testBit j=true:=h2.mono Ys;rw[h5] at h6;cases h6
theorem Tr.hist {l:List Nat} (h:Tr E call nt ops cl l d i di):∃l1,di.hist=l1++d.hist/\∀p∈l1,∃c,p.1=O c/\VM E call nt ops cl l d c:=by
 induction h with
 |here _=>exact⟨[],Z,λp hp=>by cases hp⟩
 |next h1 lU h2 ih=>
  rename_i i j l d d' di;obtain⟨l1,e1,e2⟩:=ih;rcases(BA h1).hist with e3|⟨e3,_⟩
  .rw[e3] at e1;refine⟨l1,e1,λp hp=>?_⟩;obtain⟨c,c1,c2⟩:=e2 p hp;exact⟨c,c1,c2.next h1⟩
  .rw[e3] at e1;refine⟨l1++[(O j,d'.s.h)],by rw[e1];simp,λp hp=>?_⟩;rcases vZ.1 hp with hp|hp
   .obtain⟨c,c1,c2⟩:=e2 p hp;exact⟨c,c1,c2.next h1⟩
   .rcases wA.1 hp with rfl;exact⟨j,Z,d,d',.here h1,h1,by rw[e3];simp⟩
theorem Ey.nx (h:Ey E call nt ops cl i d d'):d.s.nx<=d'.s.nx:=by
 cases h with
 |skip=>exact uq _
 |read=>exact uq _
 |new=>exact Nat.le_succ _
 |act _ _ _ _ _ _ _ _ _ h _=>exact h
 |ins=>exact uq _
theorem Tr.nx {l:List Nat} (h:Tr E call nt ops cl l d i di):d.s.nx<=di.s.nx:=by
 induction h with
 |here _=>exact uq _
 |next h1 _ _ ih=>exact vB (BA h1).nx ih
theorem Tr.inv {l:List Nat} (h1:Cw E call nt ops cl j d=O d') (h:Tr E call nt ops cl (j::l) d k dk):(k=j/\dk=d)\/(j≠k/\Tr E call nt ops cl l d' k dk):=by
 cases h with
 |here _=>exact .inl ⟨Z,Z⟩
 |next h2 lU h3=>rw[h1] at h2;cases h2;exact .inr ⟨lU,h3⟩
theorem Tr.lt {l:List Nat} (h:Tr E call nt ops cl l d i di) (hs:Cw E call nt ops cl i di=O di') (hk:Tr E call nt ops cl l d k dk) (hd:d.done.testBit i=G) (aa:dk.done.testBit i=B):di'.s.nx<=dk.s.nx:=by
 induction h with
 |here h1=>
  rw[h1] at hs;cases hs;rcases Tr.inv h1 hk with ⟨_,e⟩|⟨_,h2⟩
  .rw[e,hd] at aa;cases aa
  .exact h2.nx
 |next h1 lU _ ih=>
  rcases Tr.inv h1 hk with ⟨_,e⟩|⟨_,h2⟩
  .rw[e,hd] at aa;cases aa
  .refine ih hs h2 ?_ aa;rw[(BA h1).done.2,hd,vQ];exact f_ lU
theorem Tr.total {l:List Nat} (h:Tr E call nt ops cl l d i di) (hk:Tr E call nt ops cl l d k dk) (lU:i≠k):dk.done.testBit i=B\/di.done.testBit k=true:=by
 induction h with
 |here h1=>
  rcases Tr.inv h1 hk with ⟨e,_⟩|⟨_,h2⟩
  .exact a_ e.symm lU
  .exact .inl (h2.mono Ys)
 |next h1 _ h3 ih=>
  rcases Tr.inv h1 hk with ⟨e,_⟩|⟨_,h2⟩
  .subst e;exact .inr (h3.mono Ys)
  .exact ih h2 lU
end
end
end
section
variable {a:AJ AV} {lu:Fk} {dst:Option Tmp} {lQ:List (Nat×AV×AV)} {es:List (AV×AV)} {i j:Nat} {o:Oper} {ty:TypeId} {α:Type}
noncomputable section
section
variable {E:CF} {cl:AJ Nat} {dn i t:Nat} {a:AJ AV}
theorem Ej {c:Bool} {x:Option α} {y:α} (h:(bif c then x else X)=O y):c=B/\x=O y:=by
 cases c
 .cases h
 .exact⟨Z,h⟩
structure Vm (E:CF) (cl:AJ Nat) (dn i t:Nat) (a:AJ AV) (j:Nat) (o:Oper) (ty:T_) (k v:O_) (x y:AV):Prop where
 gd:o.guard=X
 ds:o.dst=X
 mask:∃m,cl.get j=O m/\m.testBit i=B/\∀q,m.testBit q=B->dn.testBit q=B\/q=i
 nk:Xi t k=B
 nv:Xi t v=B
 hk:Ck a k=O x
 hv:Ck a v=O y
 ty:∃u kt et uk,E.tt.get ty=O u/\u.k= .map kt et/\E.tt.get kt=O uk/\DP uk.k x=B/\BK.oneOrAgg y=B
theorem VH {k v:O_} {e:AV×AV} (h:WQ E cl dn i t a j o ty k v=O e):Vm E cl dn i t a j o ty k v e.1 e.2:=by unfold WQ at h;(split at h<;>try (cases h;done));rename_i hg;(split at h<;>try (cases h;done));rename_i hd;(split at h<;>try (cases h;done));rename_i m hm;obtain⟨hc,h⟩:=Ej h;simp only[vD] at hc;obtain⟨⟨⟨c1,c2⟩,c3⟩,c4⟩:=hc;(split at h<;>try (cases h;done));rename_i x hx;(split at h<;>try (cases h;done));rename_i y hy;(split at h<;>try (cases h;done));rename_i u hu;(split at h<;>try (cases h;done));rename_i kt et aa;(split at h<;>try (cases h;done));rename_i uk ad;obtain⟨hc,h⟩:=Ej h;cases h;rw[vD] at hc;refine⟨hg,hd,⟨m,hm,c1,λq hq=>?_⟩,c3,c4,hx,hy,u,kt,et,uk,hu,aa,ad,hc.1,hc.2⟩;have:=MT c2 hq;rw[Yv,vI,decide_eq_true_iff] at this;exact this.imp id Eq.symm
theorem NX:∀(l:List Oper) (j0:Nat) {r:List (Nat×AV×AV)},Wo E cl dn i t a l j0=O r->
  (∀e∈r,j0<=e.1/\∃o ty k v,l[e.1-j0]?=O o/\o.op= .insert ty (.tmp t) k v/\Vm E cl dn i t a e.1 o ty k v e.2.1 e.2.2)/\
  (∀q o ty k v,l[q]?=O o->o.op= .insert ty (.tmp t) k v->∃e,(j0+q,e)∈r)/\(r.map ur).Pairwise (·<·)
 |[],j0,r,h=>by
  cases h
  exact⟨λe he=>by(cases he),λq o ty k v hq=>by simp at hq,by simp⟩
 |o::l,j0,r,h=>by
  have go1:(∀ty k v,o.op≠ .insert ty (.tmp t) k v)->Wo E cl dn i t a l (j0+1)=O r->(∀e∈r,j0<=e.1/\∃o' ty k v,(o::l)[e.1-j0]?=O o'/\o'.op= .insert ty (.tmp t) k v/\Vm E cl dn i t a e.1 o' ty k v e.2.1 e.2.2)/\
    (∀q o' ty k v,(o::l)[q]?=O o'->o'.op= .insert ty (.tmp t) k v->∃e,(j0+q,e)∈r)/\(r.map ur).Pairwise (·<·):=λhno h=>by
   obtain⟨h1,h2,h3⟩:=NX l (j0+1) h
   refine⟨λe he=>?_,λq o' ty k v hq ho=>?_,h3⟩
   .obtain⟨g1,o',ty,k,v,g2,g3⟩:=h1 e he
    refine⟨by omega,o',ty,k,v,?_,g3⟩
    rw[(A0:e.1-j0=(e.1-(j0+1))+1),wB]
    exact g2
   .cases q with
    |zero=>simp at hq;subst hq;exact a_ ho (hno ty k v)
    |succ q=>
     obtain⟨e,he⟩:=h2 q o' ty k v QH ho
     exact⟨e,by rw[(A0:j0+(q+1)=j0+1+q)];exact he⟩
  unfold Wo at h
  split at h
  .rename_i ty u k v hop
   cases hb:vJ u t with
   |false=>
    rw[hb,cond_false] at h
    refine go1 (λty' k' v' e=>?_) h
    rw[hop] at e
    injection e with _ e
    injection e with e
    rw[MV e] at hb
    cases hb
   |true=>
    rw[hb,cond_true] at h
    have hut:=B0 hb
    rw[hut] at hop
    split at h<;>try (cases h;done)
    rename_i e he
    split at h<;>try (cases h;done)
    rename_i r' hr'
    cases h
    obtain⟨h1,h2,h3⟩:=NX l (j0+1) hr'
    refine⟨λe' he'=>?_,λq o' ty' k' v' hq ho=>?_,?_⟩
    .rcases ut.1 he' with rfl|he'
     .exact⟨uq _,o,ty,k,v,by simp,hop,VH he⟩
     .obtain⟨g1,o',ty',k',v',g2,g3⟩:=h1 e' he'
      refine⟨by omega,o',ty',k',v',?_,g3⟩
      rw[(A0:e'.1-j0=(e'.1-(j0+1))+1),wB]
      exact g2
    .cases q with
     |zero=>exact⟨e,.head _⟩
     |succ q=>
      obtain⟨e',he'⟩:=h2 q o' ty' k' v' QH ho
      exact⟨e',.tail _ (by rw[(A0:j0+(q+1)=j0+1+q)];exact he')⟩
    .rw[uv,wX]
     refine⟨λj hj=>?_,h3⟩
     obtain⟨e',he',rfl⟩:=vE.1 hj
     have:=(h1 e' he').1
     show j0<e'.1
     omega
  .rename_i hno
   exact go1 (λty k v e=>hno ty t k v e) h
theorem Pv:∀{l:List (AV×AV)},Yt l=B->F8 l
 |[],_=>by simp[F8]
 |e::l,h=>by
  unfold Yt at h
  split at h<;>try (cases h;done)
  rename_i hl
  have ih:=Pv h
  unfold F8 at ih⊢
  rw[uv,wX]
  refine⟨λb hb=>?_,ih⟩
  obtain⟨e',he',rfl⟩:=vE.1 hb
  rcases Na hl with ⟨_,h2⟩|⟨_,e1,_,_,h2,_⟩
  .exact h2 e' he'
  .cases h2
theorem SH {ops:List Oper} (h:Gu E cl dn i a ops (.map es) dst=O lQ):(∀e∈lQ,∃o ty k v t,ops[e.1]?=O o/\dst=O t/\o.op= .insert ty (.tmp t) k v/\Vm E cl dn i t a e.1 o ty k v e.2.1 e.2.2)/\(∀q o ty k v t,ops[q]?=O o->dst=O t->o.op= .insert ty (.tmp t) k v->∃e,(q,e)∈lQ)/\(lQ.map ur).Nodup/\F8 (lQ.map vF):=by
 unfold Gu at h;simp only at h;split at h
 .rename_i t;(split at h<;>try (cases h;done));rename_i l hl;obtain⟨hd,h⟩:=Ej h;cases h;obtain⟨h1,h2,h3⟩:=NX ops 0 hl;refine⟨λe he=>?_,λq o ty k v t' hq ht ho=>?_,h3.imp λh=>Nat.ne_of_lt h,Pv hd⟩
  .obtain⟨_,o,ty,k,v,g1,g2,g3⟩:=h1 e he;exact⟨o,ty,k,v,t,by simpa using g1,Z,g2,g3⟩
  .cases ht;obtain⟨e,he⟩:=h2 q o ty k v hq ho;exact⟨e,by simpa using he⟩
 .cases h;exact⟨λe he=>(by cases he),λq o ty k v t _ ht=>(by cases ht),by simp,by simp[F8]⟩
theorem Hx {ops:List Oper} (h:Gu E cl dn i a ops lu dst=O lQ) {e:Nat×AV×AV} (he:e∈lQ):∃o ty k v t,ops[e.1]?=O o/\dst=O t/\o.op= .insert ty (.tmp t) k v/\Vm E cl dn i t a e.1 o ty k v e.2.1 e.2.2:=by
 cases lu with
 |map es=>exact(SH h).1 e he
 |cells=>cases h;cases he
 |ro=>cases h;cases he
 |loop=>cases h;cases he
theorem Px {ops:List Oper} (h:Dy ops o=O i):∃ty t k v oi ti,o.op= .insert ty (.tmp t) k v/\GZ t ops 0=O i/\ops[i]?=O oi/\oi.op= .makeMap ti none:=by unfold Dy at h;(split at h<;>try (cases h;done));rename_i ty t k v ae;(split at h<;>try (cases h;done));rename_i i' af;(split at h<;>try (cases h;done));rename_i oi aa;rw[EG] at aa;(split at h<;>try (cases h;done));rename_i ti ad;cases h;exact⟨ty,t,k,v,oi,ti,ae,af,aa,ad⟩
theorem MJ {ops:List Oper} {dn:Nat}:∀(l:List Oper) (j0:Nat),G0 ops dn l j0=B->∀q o i,l[q]?=O o->Dy ops o=O i->dn.testBit i=B->dn.testBit (j0+q)=B
 |[],j0,_,q,o,i,hq,_,_=>by simp at hq
 |o::l,j0,h,q,o',i,hq,hi,hd=>by
  have rest:G0 ops dn l (j0+1)=B/\(Dy ops o=O i->dn.testBit j0=B):=by
   unfold G0 at h
   split at h
   .rename_i i' hi'
    cases hb:dn.testBit i' with
    |false=>
     rw[hb,cond_false] at h
     refine⟨h,λe=>?_⟩
     rw[hi'] at e
     cases e
     rw[hb] at hd
     cases hd
    |true=>
     rw[hb,cond_true] at h
     cases hb2:dn.testBit j0 with
     |false=>rw[hb2] at h;cases h
     |true=>rw[hb2,cond_true] at h;exact⟨h,λ_=>rfl⟩
   .rename_i hi'
    refine⟨h,λe=>?_⟩
    rw[hi'] at e
    cases e
  cases q with
  |zero=>
   simp at hq
   subst hq
   exact rest.2 hi
  |succ q=>
   have:=MJ l (j0+1) rest.1 q o' i QH hi hd
   rw[(A0:j0+(q+1)=j0+1+q)]
   exact this
end
section
variable {ops:List Oper} {cl:AJ Nat}
theorem GR {t:Nat}:∀{l:List Oper} {i:Nat},GZ t l i=X->∀o∈l,o.dst≠O t
 |[],i,h,o,ho=>by cases ho
 |p::l,i,h,o,ho=>by
  unfold GZ at h
  cases hd:p.dst with
  |none=>
   rw[hd] at h
   rcases ut.1 ho with rfl|ho
   .rw[hd];simp
   .exact GR h o ho
  |some d=>
   rw[hd] at h
   simp only at h
   cases hb:vJ d t with
   |true=>rw[hb,cond_true] at h;cases h
   |false=>
    rw[hb,cond_false] at h
    rcases ut.1 ho with rfl|ho
    .rw[hd]
     intro e
     have:=Option.some.inj e
     rw[MV this] at hb
     cases hb
    .exact GR h o ho
theorem IY {t k:Nat}:∀{l:List Oper} {i:Nat},GZ t l i=O k->i<=k/\∃o,l[k-i]?=O o/\o.dst=O t
 |[],i,h=>by cases h
 |p::l,i,h=>by
  unfold GZ at h
  have go1:GZ t l (i+1)=O k->i<=k/\∃o,(p::l)[k-i]?=O o/\o.dst=O t:=λh=>by
   obtain⟨h1,o,h2,h3⟩:=IY h
   refine⟨by omega,o,?_,h3⟩
   rw[(A0:k-i=(k-(i+1))+1),wB]
   exact h2
  cases hd:p.dst with
  |none=>rw[hd] at h;exact go1 h
  |some d=>
   rw[hd] at h
   simp only at h
   cases hb:vJ d t with
   |false=>rw[hb,cond_false] at h;exact go1 h
   |true=>
    rw[hb,cond_true] at h
    cases h
    exact⟨uq _,p,by simp,by rw[hd,B0 hb]⟩
theorem ZI {E:CF} {op:Op} {mk:Nat->AV} (h:OG E a op=O (.map es,mk)):es=[]/\∃ti,op= .makeMap ti none:=by
 cases op
 case makeMap t r=>
  cases r with
  |none=>cases h;exact⟨Z,t,Z⟩
  |some r=>cases h
 (case alloc e=>simp only[OG] at h;exact cV);(case box e x=>simp only[OG] at h;(split at h<;>try (cases h;done));obtain⟨_,h⟩:=Ej h;cases h);(case buildSlice t n ps=>simp only[OG] at h;(split at h<;>try (cases h;done));(split at h<;>try (cases h;done));(split at h<;>try (cases h;done));(split at h<;>try (cases h;done));(split at h<;>try (cases h;done));obtain⟨_,h⟩:=Ej h;(split at h<;>try (cases h;done));obtain⟨_,h⟩:=Ej h;cases h);(case makeSlice t x y=>simp only[OG] at h;(split at h<;>try (cases h;done));(split at h<;>try (cases h;done));(split at h<;>try (cases h;done));(split at h<;>try (cases h;done));exact cV);all_goals cases h
theorem Q4 {E:CF} {dn:Nat} {ops:Array Oper} (lY:∀(k k' t:Nat) (o o':Oper),ops[k]?=O o->ops[k']?=O o'->o.dst=O t->o'.dst=O t->k=k') (ho:ops[i]?=O o) {mk:Nat->AV} (hA:OG E a o.op=O (lu,mk)) (h:Gu E cl dn i a ops.toList lu o.dst=O lQ) {e:Nat×AV×AV} (he:e∈lQ):∃oe,ops[e.1]?=O oe/\Dy ops.toList oe=O i:=by
 have aa:∃es,lu= .map es:=by
  cases lu with
  |map es=>exact⟨es,Z⟩
  |cells=>cases h;cases he
  |ro=>cases h;cases he
  |loop=>cases h;cases he
 obtain⟨es,rfl⟩:=aa;obtain⟨_,ti,ad⟩:=ZI hA;obtain⟨oe,ty,k,v,t,h1,h2,h3,_⟩:=Hx h he;rw[ul] at h1;refine⟨oe,h1,?_⟩
 cases hd:GZ t ops.toList 0 with
 |none=>exact a_ h2 (GR hd o (by rw[<-ul] at ho;exact vR ho))
 |some i'=>obtain⟨_,o',g1,g2⟩:=IY hd;rw[wC,ul] at g1;have:=lY i' i t o' o g1 ho g2 h2;subst this;unfold Dy;simp only[h3,hd,EG,ul,ho,ad]
end
end
end
section
variable {R':Nat->Nat×Nat} {d di dk:FX} {i k m n':Nat} {x:AV}
noncomputable section
section
variable {E:CF} {call:C9} {nt:Nat} {ops:List Oper} {cl:AJ Nat}
theorem Tr.anti {l:List Nat} (h:Tr E call nt ops cl l d i di) (hk:Tr E call nt ops cl l d k dk) (h1:d.done.testBit i=G) (h2:d.done.testBit k=G) (lU:i≠k) (aa:dk.done.testBit i=B):di.done.testBit k=false:=by
 induction h with
 |here _=>exact h2
 |next hs hne2 h3 ih=>
  rcases Tr.inv hs hk with ⟨_,e⟩|⟨ad,h4⟩
  .rw[e,h1] at aa;cases aa
  .refine ih h4 ?_ ?_ lU aa
   .rw[(BA hs).done.2,h1,vQ];exact f_ hne2
   .rw[(BA hs).done.2,h2,vQ];exact f_ ad
theorem Tr.set {l:List Nat} {ad:FX} {t:Nat} (hk:Tr E call nt ops cl l d k dk) (hs:Cw E call nt ops cl k dk=O ad) (hi:Tr E call nt ops cl l d i di) (hn:l.Nodup) (h1:d.done.testBit k=G) (aa:di.done.testBit k=B) (ht:∀j o,j∈l->j≠k->ops[j]?=O o->o.dst≠O t):di.a.get t=ad.a.get t:=by
 induction hk with
 |here h2=>
  rw[h2] at hs;cases hs;rcases Tr.inv h2 hi with ⟨_,e⟩|⟨_,h3⟩
  .rw[e,h1] at aa;cases aa
  .exact h3.get λj o hj _ ho=>ht j o (.tail _ hj) (λe=>by subst e;exact(vS.1 hn).1 hj) ho
 |next h2 lU _ ih=>
  rcases Tr.inv h2 hi with ⟨_,e⟩|⟨_,h3⟩
  .rw[e,h1] at aa;cases aa
  ·(refine ih hs h3 (vS.1 hn).2 ?_ aa λj o hj=>ht j o (.tail _ hj));rw[(BA h2).done.2,h1,vQ];exact f_ lU
end
abbrev Df:=Nat->Option (Nat×Nat×Obj)
def Li (E:CF) (call:C9) (nt:Nat) (ops:Array Oper) (cl:AJ Nat) (l:List Nat) (d:FX) (Hd:Df) (R:Nat->Nat×Nat) (i:Nat) (R':Nat->Nat×Nat) (n':Nat):Prop:=
 E4 d.s.nx R R'/\d.s.nx<=n'/\∀k D sz o dk,(k=i\/CP ops k i)->Hd k=O (D,sz,o)->Tr E call nt ops.toList cl l d k dk->dk.s.nx<n'/\R' dk.s.nx=(D,sz)
theorem Li.sub {E:CF} {call:C9} {nt:Nat} {ops:Array Oper} {cl:AJ Nat} {l:List Nat} {d:FX} {Hd:Df} {R R':Nat->Nat×Nat} {i k n':Nat} (h:Li E call nt ops cl l d Hd R i R' n') (hb:CP ops k i):Li E call nt ops cl l d Hd R k R' n':=
 ⟨h.1,h.2.1,λj D sz o dj hj=>h.2.2 j D sz o dj (.inr (by rcases hj with rfl|hj;exact hb;exact hb.trans hj))⟩
def CW (lQ:List (Nat×AV×AV)) (nD:Array Bool):List (Nat×AV×AV):=lQ.filter λe=>nD[e.1]?==O B
def VY (E:CF) (call:C9) (nt:Nat) (ops:Array Oper) (cl:AJ Nat) (l:List Nat) (d:FX) (Hd:Df) (R:Nat->Nat×Nat) (i:Nat) (lQ:List (Nat×AV×AV)) (nD:Array Bool) (R':Nat->Nat×Nat) (n':Nat):Prop:=
 Li E call nt ops cl l d Hd R i R' n'/\∀e∈lQ,nD[e.1]?=O B->Li E call nt ops cl l d Hd R e.1 R' n'
structure J (P:P_) (E:CF) (call:C9) (nt:Nat) (ops:Array Oper) (cl:AJ Nat) (fr:Nat->Option Obj) (w0:W_) (ds:List Deferred) (df:FX) (l:List Nat) (d:FX) (nD:Array Bool) (Hd:Df) (fr':Nat->Option Obj) (R:Nat->Nat×Nat) (act:Act) (w:W_):Prop where
 run:FA E call nt ops.toList cl l d=O df
 done:∀k,d.done.testBit k=B->nD[k]?=O B
 closed:M4 ops nD
 hr:HR fr' R d.s w0 w
 frs:∀k o,fr k=O o->fr' k=O o
 held:∀i D sz o,Hd i=O (D,sz,o)->nD[i]?=O B/\fr' D=O o/\fr D=X/\∃di di' op lu mk lQ,Tr E call nt ops.toList cl l d i di/\Cw E call nt ops.toList cl i di=O di'/\ops[i]?=O op/\OG E di.a op.op=O (lu,mk)/\di'.s=di.s.new (Kh lu lQ)/\Gu E cl di.done i di.a ops.toList lu op.dst=O lQ/\
  ∀R' n',VY E call nt ops cl l d Hd R i lQ nD R' n'->BR R' n' sz (Kh lu (CW lQ nD)) o
 inj:∀i k D sz o sz' o',Hd i=O (D,sz,o)->Hd k=O (D,sz',o')->i=k
 noact:∀i,nD[i]?=O B->¬VM E call nt ops.toList cl l d i
 all:∀i di di',nD[i]?=O B->Tr E call nt ops.toList cl l d i di->Cw E call nt ops.toList cl i di=O di'->di'.s=di.s\/Hd i≠X
 early:∀i di di' op t,nD[i]?=O B->Tr E call nt ops.toList cl l d i di->Cw E call nt ops.toList cl i di=O di'->ops[i]?=O op->op.dst=O t->
  ∃v x,act.tmps[t]?=O v/\di'.a.get t=O x/\∀R' n',Li E call nt ops cl l d Hd R i R' n'->VR R' n' x v
 rest:∀t x,d.a.get t=O x->(∀i di op,nD[i]?=O B->Tr E call nt ops.toList cl l d i di->ops[i]?=O op->op.dst≠O t)->∃v,act.tmps[t]?=O v/\VR R d.s.nx x v
 nt:act.tmps.size=nt
 ds:act.defers=ds
 fills:∀(i j:Nat) (oj:Oper),d.done.testBit i=B->ops[j]?=O oj->Dy ops.toList oj=O i->nD[j]?=O B
section
variable {P:P_} {E:CF} {call:C9} {nt:Nat} {ops:Array Oper} {cl:AJ Nat} {fr fr':Nat->Option Obj} {w0 w:W_} {ds:List Deferred} {df d:FX} {l:List Nat} {nD:Array Bool} {Hd:Df} {R:Nat->Nat×Nat} {act:Act}
theorem J.sees' (j:J P E call nt ops cl fr w0 ds df l d nD Hd fr' R act w) (ae:∀(k:Nat) (o:Oper),ops[k]?=O o->df.done.testBit k=B) (hi:Tr E call nt ops.toList cl l d i di) {t:Nat} (lY:∀(k k':Nat) (o o':Oper),ops[k]?=O o->ops[k']?=O o'->o.dst=O t->o'.dst=O t->k=k') (hE:E4 d.s.nx R R') (an:d.s.nx<=n') (hk:∀(k:Nat) (o:Oper),ops[k]?=O o->o.dst=O t->(di.done.testBit k=B/\nD[k]?=O B/\Li E call nt ops cl l d Hd R k R' n')\/(di.done.testBit k=G/\nD[k]?≠O B)) (hx:di.a.get t=O x):∃v,act.tmps[t]?=O v/\VR R' n' x v:=by
 obtain⟨q1,q2,q3⟩:=Cr l j.run;(have ad:∀{k:Nat},ops.toList[k]?=ops[k]?:=fun {k}=>ul);(have base:(∀(k:Nat) (o:Oper),ops[k]?=O o->o.dst=O t->¬(k∈l/\di.done.testBit k=B))->(∀(k:Nat) (o:Oper),ops[k]?=O o->o.dst=O t->k∈l->nD[k]?≠O B)->∃v,act.tmps[t]?=O v/\VR R' n' x v:=λg1 g2=>by(have e:di.a.get t=d.a.get t:=hi.get λk o hk hd ho aa=>g1 k o (by rw[<-ad];exact ho) aa ⟨hk,hd⟩);rw[e] at hx;(obtain⟨v,h1,h2⟩:=j.rest t x hx λk dk o hl hk ho aa=>g2 k o ho aa hk.mem hl);exact⟨v,h1,h2.mono an hE⟩);by_cases ah:∃(k:Nat) (o:Oper),ops[k]?=O o/\o.dst=O t
 .obtain⟨k,o,ho,aa⟩:=ah;(have huniq:∀(k':Nat) (o':Oper),ops[k']?=O o'->o'.dst=O t->k'=k:=λk' o' h1 h2=>lY _ _ _ _ h1 ho h2 aa);rcases hk k o ho aa with ⟨ai,ag,aj⟩|⟨ai,ag⟩
  .by_cases hd:d.done.testBit k=B
   .exact lP
   .have hl:k∈l:=((q1 k).1 (ae k o ho)).resolve_left hd;obtain⟨dk,tk⟩:=Tr.ex l j.run hl;obtain⟨ao,hs⟩:=tk.step;obtain⟨v,y,h1,h2,h3⟩:=j.early k dk ao o t ag tk hs ho aa;(have:=Tr.set (t:=t) tk hs hi q2 (by simpa using hd) ai λk' o' _ lU ak af=>lU (huniq k' o' (by rw[<-ad];exact ak) af));rw[hx,h2] at this;cases this;exact⟨v,h1,h3 R' n' aj⟩
  .exact base (λk' o' h1 h2 h3=>by rw[huniq k' o' h1 h2,ai] at h3;cases h3.2) λk' o' h1 h2 _=>by rw[huniq k' o' h1 h2];exact ag
 .exact base (λk o ho aa _=>ah ⟨k,o,ho,aa⟩) λk o ho aa _=>a_ ⟨k,o,ho,aa⟩ ah
theorem J.sees (j:J P E call nt ops cl fr w0 ds df l d nD Hd fr' R act w) (ad:FJ ops cl) (aj:∀(k:Nat) (o:Oper),ops[k]?=O o->df.done.testBit k=B) (hi:Tr E call nt ops.toList cl l d i di) (hb:∀k,CP ops k i->nD[k]?=O B) (hn:nD[i]?≠O B) (hm:cl.get i=O m) {t:Nat} (ht:∀(k:Nat) (ok:Oper),ops[k]?=O ok->ok.dst=O t->m.testBit k=B\/∃mk,cl.get k=O mk/\mk.testBit i=B) (lY:∀(k k':Nat) (o o':Oper),ops[k]?=O o->ops[k']?=O o'->o.dst=O t->o'.dst=O t->k=k') (hx:di.a.get t=O x) (ok:Li E call nt ops cl l d Hd R i R' n'):∃v,act.tmps[t]?=O v/\VR R' n' x v:=by
 obtain⟨q1,q2,q3⟩:=Cr l j.run;(have ai:∀{k:Nat},ops.toList[k]?=ops[k]?:=fun {k}=>ul);(have base:(∀(k:Nat) (o:Oper),ops[k]?=O o->o.dst=O t->¬(k∈l/\di.done.testBit k=B))->(∀(k:Nat) (o:Oper),ops[k]?=O o->o.dst=O t->k∈l->nD[k]?≠O B)->∃v,act.tmps[t]?=O v/\VR R' n' x v:=λg1 g2=>by(have e:di.a.get t=d.a.get t:=hi.get λk o hk hd ho aa=>g1 k o (by rw[<-ai];exact ho) aa ⟨hk,hd⟩);rw[e] at hx;(obtain⟨v,h1,h2⟩:=j.rest t x hx λk dk o hl hk ho aa=>g2 k o ho aa hk.mem hl);exact⟨v,h1,h2.mono ok.2.1 ok.1⟩);by_cases hk:∃(k:Nat) (o:Oper),ops[k]?=O o/\o.dst=O t
 .obtain⟨k,o,ho,aa⟩:=hk;(have huniq:∀(k':Nat) (o':Oper),ops[k']?=O o'->o'.dst=O t->k'=k:=λk' o' h1 h2=>lY _ _ _ _ h1 ho h2 aa);rcases ht k o ho aa with ag|⟨mk,ag,ao⟩
  .have aw:=hb k (ad i m hm k ag);by_cases hd:d.done.testBit k=B
   .exact lP
   .have hl:k∈l:=((q1 k).1 (aj k o ho)).resolve_left hd;obtain⟨dk,af⟩:=Tr.ex l j.run hl;obtain⟨aq,hs⟩:=af.step;obtain⟨v,y,h1,h2,h3⟩:=j.early k dk aq o t aw af hs ho aa;obtain⟨di',ar⟩:=hi.step;obtain⟨m',ah,ae⟩:=(BA ar).before;rw[hm] at ah;cases ah;have ax:di.done.testBit k=true:=ae k ag;(have:=Tr.set (t:=t) af hs hi q2 (by simpa using hd) ax λk' o' _ lU au ak=>lU (huniq k' o' (by rw[<-ai];exact au) ak));rw[hx,h2] at this;cases this;exact⟨v,h1,h3 R' n' (ok.sub (ad i m hm k ag))⟩
  ·(have av:nD[k]?≠O true:=λh=>hn (j.closed k i h (ad k mk ag i ao)));(refine base (λk' o' h1 h2 h3=>?_) λk' o' h1 h2 _=>by rw[huniq k' o' h1 h2];exact av);obtain⟨h3,h4⟩:=h3;rw[huniq k' o' h1 h2] at h3 h4;obtain⟨dk,af⟩:=Tr.ex l j.run h3;obtain⟨aq,hs⟩:=af.step;obtain⟨m',ah,ae⟩:=(BA hs).before;rw[ag] at ah;cases ah;have an:=ae i ao;(have lU:i≠k:=λe=>by have:=af.not;rw[<-e] at this;have h5:=ae i ao;rw[this] at h5;cases h5);have:=hi.anti af (q3 i hi.mem) (q3 k h3) lU an;rw[h4] at this;cases this
 .exact base (λk o ho aa _=>hk ⟨k,o,ho,aa⟩) λk o ho aa _=>a_ ⟨k,o,ho,aa⟩ hk
end
end
end
section
variable {d di dk:FX} {i k:Nat}
noncomputable section
section
variable {E:CF} {call:C9} {nt:Nat} {ops:List Oper} {cl:AJ Nat}
theorem TC:∀(l:List Nat) {d df:FX},FA E call nt ops cl l d=O df->d.s.nx<=df.s.nx
 |[],d,df,h=>by cases h;exact uq _
 |i::l,d,df,h=>by
  simp only[FA] at h
  split at h<;>try (cases h;done)
  rename_i d1 h1
  exact vB (BA h1).nx (TC l h)
theorem Tr.nx_final {l:List Nat} {df aa:FX} (h:Tr E call nt ops cl l d k dk) (hs:Cw E call nt ops cl k dk=O aa) (hr:FA E call nt ops cl l d=O df):aa.s.nx<=df.s.nx:=by
 induction h with
 |here h1=>rw[h1] at hs;cases hs;simp only[FA,h1] at hr;exact TC _ hr
 |next h1 _ _ ih=>simp only[FA,h1] at hr;exact ih hs hr
end
section
variable {P:P_} {E:CF} {call:C9} {nt:Nat} {ops:Array Oper} {cl:AJ Nat} {fr fr':Nat->Option Obj} {w0 w:W_} {ds:List Deferred} {df d:FX} {l:List Nat} {nD:Array Bool} {Hd:Df} {R:Nat->Nat×Nat} {act:Act}
theorem J.uniq (j:J P E call nt ops cl fr w0 ds df l d nD Hd fr' R act w) {x y:Nat×Nat×Obj} (hi:Hd i=O x) (hk:Hd k=O y) (ti:Tr E call nt ops.toList cl l d i di) (tk:Tr E call nt ops.toList cl l d k dk) (e:di.s.nx=dk.s.nx):i=k:=by
 obtain⟨D,sz,o⟩:=x;obtain⟨D2,aa,o2⟩:=y;obtain⟨_,_,_,ei,ae,_,bi,_,_,t1,s1,_,_,n1,_⟩:=j.held i D sz o hi;obtain⟨_,_,_,ek,ad,_,bk,_,_,t2,s2,_,_,n2,_⟩:=j.held k D2 aa o2 hk;have e1:=t1.det ti;subst e1;have e2:=t2.det tk;subst e2;obtain⟨_,_,q3⟩:=Cr l j.run;by_cases lU:i=k
 .exact lU
 .rcases t1.total t2 lU with h|h
  .have:=t1.lt s1 t2 (q3 i t1.mem) h;rw[n1] at this;have:ei.s.nx+1<=ek.s.nx:=this;omega
  .have:=t2.lt s2 t1 (q3 k t2.mem) h;rw[n2] at this;have:ek.s.nx+1<=ei.s.nx:=this;omega
theorem J.ex (j:J P E call nt ops cl fr w0 ds df l d nD Hd fr' R act w):∃R' n',∀i,Li E call nt ops cl l d Hd R i R' n':=by
 classical
 (let Cq:Nat->Nat×Nat->Prop:=λb p=>∃k o dk,Hd k=O (p.1,p.2,o)/\Tr E call nt ops.toList cl l d k dk/\dk.s.nx=b);refine⟨λb=>if hx:∃p,Cq b p then hx.choose else R b,df.s.nx,λi=>⟨λb hb=>?_,TC l j.run,λk D sz o dk _ hk tk=>⟨?_,?_⟩⟩⟩
 .have:¬∃p,Cq b p:=(by rintro⟨p,k,o,dk,_,tk,e⟩;have:=tk.nx;omega);simp only[dif_neg this]
 .obtain⟨_,_,_,ek,aa,_,bk,_,_,t2,s2,_,_,n2,_⟩:=j.held k D sz o hk;have e2:=t2.det tk;subst e2;have:=t2.nx_final s2 j.run;rw[n2] at this;exact this
 .have hx:∃p,Cq dk.s.nx p:=⟨(D,sz),k,o,dk,hk,tk,Z⟩;simp only[dif_pos hx];obtain⟨k2,o2,ad,h2,t2,e2⟩:=hx.choose_spec;have:=j.uniq h2 hk t2 tk e2;subst this;rw[hk] at h2;have h3:=Option.some.inj h2;have h4:=(Prod.mk.inj h3).1;have h5:=(Prod.mk.inj (Prod.mk.inj h3).2).1;exact Prod.ext h4.symm h5.symm
end
end
end
section
variable {a:AJ AV} {act:Act} {di di':FX} {dst:Option Tmp} {lQ:List (Nat×AV×AV)} {i nt:Nat} {o:Oper} {x:AV}
noncomputable section
theorem QL {t:Nat} {v:V_} (h:dst≠O t):(act.put dst v).tmps[t]?=act.tmps[t]?:=by
 cases dst with
 |none=>rfl
 |some d=>(have hd:d≠t:=λe=>h (by rw[e]));show(act.tmps.setIfInBounds d v)[t]?=_;rw[wY hd]
theorem XN {t:Nat} {v:V_} (h:t<act.tmps.size):(act.put (O t) v).tmps[t]?=O v:=by show(act.tmps.setIfInBounds t v)[t]?=_;simp[h]
theorem QJ {v:V_}:(act.put dst v).tmps.size=act.tmps.size:=by
 cases dst with
 |none=>rfl
 |some d=>show(act.tmps.setIfInBounds d v).size=_;rw[Array.size_setIfInBounds]
theorem Lm {v:V_}:(act.put dst v).defers=act.defers:=by cases dst<;>rfl
theorem TG {a':AJ AV} {t:Nat} (h:Fm nt a (O t) x=O a'):t<nt:=by
 simp only[Fm] at h
 cases hb:Nat.blt t nt with
 |false=>rw[hb] at h;cases h
 |true=>exact DR hb
section
variable {P:P_} {E:CF} {call:C9} {nt:Nat} {ops:Array Oper} {cl:AJ Nat} {fr fr':Nat->Option Obj} {w0 w w':W_} {ds:List Deferred} {df d:FX} {l:List Nat} {nD:Array Bool} {Hd:Df} {R:Nat->Nat×Nat} {act:Act}
theorem Im (hi:nD[i]?=O G) (hn:∀e∈lQ,e.1≠i):CW lQ (nD.setIfInBounds i B)=CW lQ nD:=by unfold CW;(refine wZ λe he=>?_);rw[DV hi,n_ (hn e he)]
theorem VY.less {lQ:List (Nat×AV×AV)} {i k n':Nat} {R':Nat->Nat×Nat} (hi:nD[i]?=O G) (hn:∀e∈lQ,e.1≠i) (h:VY E call nt ops cl l d Hd R k lQ (nD.setIfInBounds i B) R' n'):VY E call nt ops cl l d Hd R k lQ nD R' n':=
 ⟨h.1,λe he hl=>h.2 e he (by rw[DV hi,n_ (hn e he)];exact hl)⟩
theorem Z1 {i j:Nat} {a:AJ AV} {dn:Nat} {lu:Fk} {dst:Option Tmp} {lQ:List (Nat×AV×AV)} {o:Oper} (h:Gu E cl dn i a ops.toList lu dst=O lQ) (ho:ops[j]?=O o) (hni:∀ty t k v,o.op= .insert ty (.tmp t) k v->o.guard≠X):∀e∈lQ,e.1≠j:=λe he e1=>by
 obtain⟨o',ty,k,v,t,h1,_,h3,h4⟩:=Hx h he
 rw[e1,ul,ho] at h1
 cases h1
 exact hni ty t k v h3 h4.gd
theorem J.add (j:J P E call nt ops cl fr w0 ds df l d nD Hd fr' R act w) (lY:∀(k k' t:Nat) (o o':Oper),ops[k]?=O o->ops[k']?=O o'->o.dst=O t->o'.dst=O t->k=k') (hr:i∈uj .any ops nD) (ti:Tr E call nt ops.toList cl l d i di) (hs:Cw E call nt ops.toList cl i di=O di') (ho:ops[i]?=O o) (ah:∀ty t k v,o.op= .insert ty (.tmp t) k v->o.guard≠X) (ad:di'.s=di.s) (hh:di'.hist=di.hist) (hp:Fm nt di.a o.dst x=O di'.a) (hw:HR fr' R d.s w0 w') {v:V_} (hv:∀R' n',Li E call nt ops cl l d Hd R i R' n'->VR R' n' x v):J P E call nt ops cl fr w0 ds df l d (nD.setIfInBounds i B) Hd fr' R (act.put o.dst v) w':=by
 have hi:=D9 hr;(have hl:∀k,nD[k]?=O B->(nD.setIfInBounds i B)[k]?=O true:=λk hk=>by exact U9);(have hl2:∀k,(nD.setIfInBounds i B)[k]?=O B->k=i\/nD[k]?=O true:=λk hk=>by exact Tm);refine⟨j.run,λk hk=>hl k (j.done k hk),j.closed.add hr,hw,j.frs,λk D sz ob hk=>?_,j.inj,λk hk=>?_,λk dk ae hk tk sk=>?_,λk dk ae op t hk tk sk af aa=>?_,λt y hy hno=>?_,?_,?_,λk q oq h1 h2 h3=>hl q (j.fills k q oq h1 h2 h3)⟩
 .obtain⟨h1,h2,h3,dk,ae,op,b2,m2,lQ,t2,s4,h4,h5,h6,h8,h7⟩:=j.held k D sz ob hk;have lU:=Z1 h8 ho ah;refine⟨hl k h1,h2,h3,dk,ae,op,b2,m2,lQ,t2,s4,h4,h5,h6,h8,λR' n' h=>?_⟩;rw[Im hi lU];exact h7 R' n' (h.less hi lU)
 .exact XH
 .rcases hl2 k hk with rfl|hk
  .have:=tk.det ti;subst this;rw[hs] at sk;cases sk;exact .inl ad
  .exact j.all k dk ae hk tk sk
 .by_cases ag:k=i
  .subst ag;have:=tk.det ti;subst this;rw[hs] at sk;cases sk;rw[ho] at af;cases af;rw[aa] at hp;refine⟨v,x,?_,?_,hv⟩
   .rw[aa];exact XN (by rw[j.nt];exact TG hp)
   .rw[FY hp,p_ Z]
  .have ai:=(hl2 k hk).resolve_left ag;obtain⟨u,y,h1,h2,h3⟩:=j.early k dk ae op t ai tk sk af aa;refine⟨u,y,?_,h2,h3⟩;rw[QL (λe=>ag (lY k i t op o af ho aa e))];exact h1
 .exact dE
 .rw[QJ];exact j.nt
 .rw[Lm];exact j.ds
end
end
end
section
variable {lu:Fk} {di di':FX} {lQ:List (Nat×AV×AV)} {i sz:Nat} {o:Oper}
noncomputable section
def EW (Hd:Df) (i:Nat) (x:Nat×Nat×Obj):Df:=λk=>if k=i then O x else Hd k
section
variable {P:P_} {E:CF} {call:C9} {nt:Nat} {ops:Array Oper} {cl:AJ Nat} {fr fr':Nat->Option Obj} {w0 w:W_} {ds:List Deferred} {df d:FX} {l:List Nat} {nD:Array Bool} {Hd:Df} {R:Nat->Nat×Nat} {act:Act}
theorem J.new (j:J P E call nt ops cl fr w0 ds df l d nD Hd fr' R act w) (ag:FJ ops cl) (lY:∀(k k' t:Nat) (o o':Oper),ops[k]?=O o->ops[k']?=O o'->o.dst=O t->o'.dst=O t->k=k') (hr:i∈uj .any ops nD) (ti:Tr E call nt ops.toList cl l d i di) (hs:Cw E call nt ops.toList cl i di=O di') (ho:ops[i]?=O o) {mk:Nat->AV} (hA:OG E di.a o.op=O (lu,mk)) (ae:Gu E cl di.done i di.a ops.toList lu o.dst=O lQ) (au:di'.s=di.s.new (Kh lu lQ)) (hh:di'.hist=di.hist) (hp:Fm nt di.a o.dst (mk di.s.nx)=O di'.a) {ob:Obj} {v:V_} (hB:∀R' n',Li E call nt ops cl l d Hd R i R' n'->BR R' n' sz (Kh lu []) ob) (hV:∀R' n' b,b<n'->R' b=(w.heap.size,sz)->VR R' n' (mk b) v):J P E call nt ops cl fr w0 ds df l d (nD.setIfInBounds i B) (EW Hd i (w.heap.size,sz,ob)) (Ee fr' w.heap.size ob) R (act.put o.dst v) (w.alloc ob):=by
 have hi:=D9 hr;(have hl:∀k,nD[k]?=O B->(nD.setIfInBounds i B)[k]?=O true:=λk hk=>by exact U9);(have hl2:∀k,(nD.setIfInBounds i B)[k]?=O B->k=i\/nD[k]?=O true:=λk hk=>by exact Tm);have ao:Hd i=none:=(by exact iI);(have hold:∀k x,Hd k=O x->EW Hd i (w.heap.size,sz,ob) k=O x:=λk x hk=>by unfold EW;rw[n_ (λe=>by rw[e,ao] at hk;cases hk)];exact hk);(have ak:∀k R' n',Li E call nt ops cl l d (EW Hd i (w.heap.size,sz,ob)) R k R' n'->Li E call nt ops cl l d Hd R k R' n':=λk R' n' h=>⟨h.1,h.2.1,λk2 D s2 o2 dk hk an tk=>h.2.2 k2 D s2 o2 dk hk (hold _ _ an) tk⟩);have lC:∀k D s2 o2,Hd k=O (D,s2,o2)->D<w.heap.size:=λk D s2 o2 hk=>Af (j.hr.fr D o2 (j.held k D s2 o2 hk).2.1)
 have ar:fr w.heap.size=none:=by
  cases hx:fr w.heap.size with
  |none=>rfl
  |some y=>have:=Af (j.hr.fr _ _ (j.frs _ _ hx));omega
 have ao:∀ty t k v,o.op= .insert ty (.tmp t) k v->o.guard≠none:=λty t k v e=>by rw[e] at hA;cases hA
 have af:CW lQ (nD.setIfInBounds i B)=[]:=by
  unfold CW;rw[List.filter_eq_nil_iff];intro e he aw;have h1:=hl2 e.1 (by simpa using aw);obtain⟨oe,ty,k,v,t,g1,g2,g3,g4⟩:=Hx ae he;rw[ul] at g1;rcases h1 with e1|e1
  .rw[e1,ho] at g1;cases g1;rw[g3] at hA;cases hA
  .obtain⟨m,hm1,av,_⟩:=g4.mask;have:=j.closed e.1 i e1 (ag e.1 m hm1 i av);rw[hi] at this;cases this
 refine⟨j.run,λk hk=>hl k (j.done k hk),j.closed.add hr,j.hr.hold ob,λk y hk=>?_,λk D s2 o2 hk=>?_,λk k' D s2 o2 s3 o3 hk aa=>?_,λk hk=>?_,λk dk ai hk tk sk=>?_,λk dk ai op t hk tk sk aj ad=>?_,λt y hy hno=>?_,?_,?_,λk q oq h1 h2 h3=>hl q (j.fills k q oq h1 h2 h3)⟩
 .unfold Ee;rw[n_ (λe=>by rw[e,ar] at hk;cases hk)];exact j.frs k y hk
 .by_cases e:k=i
  .subst e;unfold EW at hk;rw[p_ Z] at hk;cases hk;refine⟨by rw[DV hi,p_ Z],p_ Z,ar,di,di',o,lu,mk,lQ,ti,hs,ho,hA,au,ae,λR' n' h=>?_⟩;rw[af];exact hB R' n' (ak _ R' n' h.1)
  .have an:Hd k=O (D,s2,o2):=(by unfold EW at hk;rw[n_ e] at hk;exact hk);obtain⟨h1,h2,h3,dk,ai,op,b2,m2,ah,t2,s4,h4,h5,h6,h8,h7⟩:=j.held k D s2 o2 an;have lU:=Z1 h8 ho ao;refine⟨hl k h1,?_,h3,dk,ai,op,b2,m2,ah,t2,s4,h4,h5,h6,h8,λR' n' h=>?_⟩;rotate_left
   .rw[Im hi lU];have h':=h.less hi lU;exact h7 R' n' ⟨ak _ R' n' h'.1,λe he hl=>ak _ R' n' (h'.2 e he hl)⟩
   unfold Ee;have:=lC k D s2 o2 an;rw[n_ A0];exact h2
 .unfold EW at hk aa;by_cases e:k=i
  .by_cases e':k'=i
   .rw[e,e']
   .rw[p_ e] at hk;rw[n_ e'] at aa;cases hk;have:=lC _ _ _ _ aa;omega
  .rw[n_ e] at hk;by_cases e':k'=i
   .rw[p_ e'] at aa;cases aa;have:=lC _ _ _ _ hk;omega
   .rw[n_ e'] at aa;exact j.inj k k' D s2 o2 s3 o3 hk aa
 .exact XH
 .rcases hl2 k hk with rfl|hk
  .right;unfold EW;rw[p_ Z];simp
  .rcases j.all k dk ai hk tk sk with h|h
   .exact .inl h
   .right
    cases hx:Hd k with
    |none=>exact a_ hx h
    |some x=>rw[hold k x hx];simp
 .by_cases aq:k=i
  .subst aq;have:=tk.det ti;subst this;rw[hs] at sk;cases sk;rw[ho] at aj;cases aj;rw[ad] at hp;refine⟨v,mk dk.s.nx,?_,?_,λR' n' h=>?_⟩
   .rw[ad];exact XN (by rw[j.nt];exact TG hp)
   .rw[FY hp,p_ Z]
   .obtain⟨g1,g2⟩:=h.2.2 k w.heap.size sz ob dk (.inl Z) (by unfold EW;rw[p_ Z]) tk;exact hV R' n' dk.s.nx g1 g2
  .have aa:=(hl2 k hk).resolve_left aq;obtain⟨u,y,h1,h2,h3⟩:=j.early k dk ai op t aa tk sk aj ad;refine⟨u,y,?_,h2,λR' n' h=>h3 R' n' (ak k R' n' h)⟩;rw[QL (λe=>aq (lY k i t op o aj ho ad e))];exact h1
 .exact dE
 .rw[QJ];exact j.nt
 .rw[Lm];exact j.ds
end
end
end
section
variable {D k sz:Nat}
noncomputable section
def E9 (ops:Array Oper) (m:Nat):Prop:=∀i k,m.testBit i=B->CP ops k i->m.testBit k=B
section
variable {P:P_} {E:CF} {call:C9} {nt:Nat} {ops:Array Oper} {cl:AJ Nat} {fr fr' fr2:Nat->Option Obj} {w0 w:W_} {ds:List Deferred} {df d d':FX} {l:List Nat} {nD:Array Bool} {Hd Hd2:Df} {R R1:Nat->Nat×Nat} {act:Act} {i:Nat}
theorem Iq (ly:El ops cl) (hd:E9 ops d.done) (hs:Cw E call nt ops.toList cl i d=O d') (hb:CP ops k i):d.done.testBit k=true:=by
 obtain⟨m,hm,hsub⟩:=(BA hs).before
 cases hb with
 |edge ho h1 h2=>exact hsub _ (ly _ _ _ hm ho _ h1 h2)
 |step ho h1 h2 h3=>exact hd _ _ (hsub _ (ly _ _ _ hm ho _ h1 h2)) h3
theorem J.step (j:J P E call nt ops cl fr w0 ds df (i::l) d nD Hd fr' R act w) (hi:nD[i]?=O B) (hs:Cw E call nt ops.toList cl i d=O d') (hE:E4 d.s.nx R R1) (hw:HR fr2 R1 d'.s w0 w) (ah:Li E call nt ops cl (i::l) d Hd R i R1 d'.s.nx) (aa:∀k R' n',Li E call nt ops cl l d' Hd2 R1 k R' n'->Li E call nt ops cl (i::l) d Hd R k R' n') (hH:∀k x,Hd2 k=O x->Hd k=O x/\k≠i) (aq:∀k,k≠i->Hd k≠X->Hd2 k≠X) (hf:∀k o,fr k=O o->fr2 k=O o) (ao:∀k D sz o,Hd2 k=O (D,sz,o)->fr2 D=O o) (an:∀(q:Nat) (oq:Oper),ops[q]?=O oq->Dy ops.toList oq=O i->nD[q]?=O B):J P E call nt ops cl fr w0 ds df l d' nD Hd2 fr2 R1 act w:=by
 have hK:=BA hs;have ad:=j.run;simp only[FA,hs] at ad;(have lU:∀{k dk},Tr E call nt ops.toList cl l d' k dk->i≠k:=fun {k dk} tk e=>by exact eS);(have up:∀{k dk},Tr E call nt ops.toList cl l d' k dk->Tr E call nt ops.toList cl (i::l) d k dk:=fun {k dk} tk=> .next hs (lU tk) tk);refine⟨ad,λk hk=>?_,j.closed,hw,hf,λk D sz o hk=>?_,λk k' D sz o aj o' hk ak=>j.inj k k' D sz o aj o' (hH _ _ hk).1 (hH _ _ ak).1,λk hk ha=>j.noact k hk (ha.next hs),λk dk af hk tk sk=>?_,λk dk af op t hk tk sk ae ag=>?_,λt x hx hno=>?_,j.nt,j.ds,λk q oq h1 h2 h3=>?_⟩
 .rw[hK.done.2,vI,decide_eq_true_iff] at hk;rcases hk with hk|rfl
  .exact j.done k hk
  .exact hi
 .obtain⟨g1,g2⟩:=hH _ _ hk;obtain⟨h1,h2,h3,dk,af,op,b2,m2,lQ,t2,s4,h4,h5,h6,h8,h7⟩:=j.held k D sz o g1;rcases Tr.inv hs t2 with ⟨e,_⟩|⟨_,t3⟩
  .exact a_ e g2
  .exact⟨h1,ao k D sz o hk,h3,dk,af,op,b2,m2,lQ,t3,s4,h4,h5,h6,h8,λR' n' h=>h7 R' n' ⟨aa k R' n' h.1,λe he hl=>aa e.1 R' n' (h.2 e he hl)⟩⟩
 .rcases j.all k dk af hk (up tk) sk with h|h
  .exact .inl h
  .exact .inr (aq k (Ne.symm (lU tk)) h)
 .obtain⟨u,y,h1,h2,h3⟩:=j.early k dk af op t hk (up tk) sk ae ag;exact⟨u,y,h1,h2,λR' n' h=>h3 R' n' (aa k R' n' h)⟩
 .obtain⟨o,y,ho,hp⟩:=hK.put;have ai:ops[i]?=O o:=(by rw[<-ul];exact ho);by_cases e:o.dst=O t
  .obtain⟨u,z,h1,h2,h3⟩:=j.early i d d' o t hi (.here hs) hs ai e;rw[hx] at h2;cases h2;exact⟨u,h1,h3 R1 d'.s.nx ah⟩
  .have e1:d'.a.get t=d.a.get t:=(by rw[FY hp,n_ e]);rw[e1] at hx
   obtain⟨u,h1,h2⟩:=j.rest t x hx λk dk op hk tk ae=>by
    rcases Tr.inv hs tk with ⟨rfl,_⟩|⟨_,t3⟩
    .rw[ai] at ae;cases ae;exact e
    .exact hno k dk op hk t3 ae
   exact⟨u,h1,h2.mono ah.2.1 hE⟩
 .rw[hK.done.2,vI,decide_eq_true_iff] at h1;rcases h1 with h1|rfl
  .exact j.fills k q oq h1 h2 h3
  .exact an q oq h2 h3
theorem J.stepRead (j:J P E call nt ops cl fr w0 ds df (i::l) d nD Hd fr' R act w) (hi:nD[i]?=O B) (hs:Cw E call nt ops.toList cl i d=O d') (aa:d'.s=d.s) (af:∀k,CP ops k i->d.done.testBit k=B) (ae:∀(q:Nat) (oq:Oper),ops[q]?=O oq->Dy ops.toList oq=O i->nD[q]?=O B):J P E call nt ops cl fr w0 ds df l d' nD Hd fr' R act w:=by
 obtain⟨_,_,q3⟩:=Cr (i::l) j.run
 have ad:Hd i=none:=by
  cases hx:Hd i with
  |none=>rfl
  |some x=>obtain⟨_,_,_,dk,ag,op,b2,m2,_,t2,s4,_,_,h6,_⟩:=j.held i x.1 x.2.1 x.2.2 hx;have:=t2.det (.here hs);subst this;rw[hs] at s4;cases s4;rw[aa] at h6;have h7:dk.s.nx=dk.s.nx+1:=congrArg St.nx h6;omega
 refine j.step hi hs (E4.refl _ _) (by rw[aa];exact j.hr) ⟨E4.refl _ _,by rw[aa];exact uq _,λk D sz o dk hk hH tk=>?_⟩ (λk R' n' h=>⟨by rw[<-aa];exact h.1,by rw[<-aa];exact h.2.1,λk2 D sz o dk hk hH tk=>?_⟩) (λk x hk=>⟨hk,λe=>by rw[e,ad] at hk;cases hk⟩) (λk _ h=>h) j.frs (λk D sz o hk=>(j.held k D sz o hk).2.1) ae
 .rcases hk with rfl|hk
  .rw[ad] at hH;cases hH
  .have h1:=q3 k tk.mem;rw[af k hk] at h1;cases h1
 .rcases Tr.inv hs tk with ⟨rfl,_⟩|⟨_,t3⟩
  .rw[ad] at hH;cases hH
  .exact h.2.2 k2 D sz o dk hk hH t3
def Vq (Hd:Df) (i:Nat):Df:=λk=>if k=i then X else Hd k
theorem J.stepNew (ly:El ops cl) (lY:∀(k k' t:Nat) (o o':Oper),ops[k]?=O o->ops[k']?=O o'->o.dst=O t->o'.dst=O t->k=k') (hd:E9 ops d.done) (j:J P E call nt ops cl fr w0 ds df (i::l) d nD Hd fr' R act w) (hi:nD[i]?=O B) (hs:Cw E call nt ops.toList cl i d=O d') {o:Obj} (hx:Hd i=O (D,sz,o)) (ag:∀(q:Nat) (oq:Oper),ops[q]?=O oq->Dy ops.toList oq=O i->nD[q]?=O B):J P E call nt ops cl fr w0 ds df l d' nD (Vq Hd i) (Sg fr' D) (OJ R d.s.nx (D,sz)) act w:=by
 obtain⟨_,_,q3⟩:=Cr (i::l) j.run;(have ah:∀k,CP ops k i->d.done.testBit k=true:=λk hb=>Iq ly hd hs hb);obtain⟨h1,h2,h3,dk,aq,op,b2,m2,lQ,t2,s4,h4,h5,h6,h8,h7⟩:=j.held i D sz o hx;have:=t2.det (.here hs);subst this;rw[hs] at s4;cases s4;have hnx:d'.s.nx=dk.s.nx+1:=congrArg St.nx h6;have hR1:OJ R dk.s.nx (D,sz) dk.s.nx=(D,sz):=p_ Z
 have af:Li E call nt ops cl (i::l) dk Hd R i (OJ R dk.s.nx (D,sz)) d'.s.nx:=⟨IG _ _ _,by omega,λk D' aa o' ae hk hH tk=>by
  rcases hk with rfl|hk
  .exact eR
  .have g1:=q3 k tk.mem;rw[ah k hk] at g1
   cases g1⟩
 have hins:∀e∈lQ,nD[e.1]?=O B/\Li E call nt ops cl (i::l) dk Hd R e.1 (OJ R dk.s.nx (D,sz)) d'.s.nx:=λe he=>by
  obtain⟨oe,g1,g2⟩:=Q4 lY h4 h5 h8 he;refine⟨ag e.1 oe g1 g2,IG _ _ _,by omega,λk D' aa o' ae hk hH tk=>?_⟩;obtain⟨an,ty,ko,vo,t,q1,_,q4,q5⟩:=Hx h8 he;rw[ul,g1] at q1;cases q1;obtain⟨m,hm1,ao,aj⟩:=q5.mask;rcases hk with rfl|hk
  .obtain⟨_,_,_,_,_,ak,_,_,_,_,_,p1,p2,_⟩:=j.held e.1 D' aa o' hH;rw[g1] at p1;cases p1;rw[q4] at p2;cases p2
  .have ai:∀q,m.testBit q=B->∀k,k=q\/CP ops k q->k=i\/dk.done.testBit k=true:=λq hq k hk=>by
    rcases aj q hq with h|h
    .rcases hk with rfl|hk
     .exact .inr h
     .exact .inr (hd q k h hk)
    .subst h;rcases hk with rfl|hk
     .exact .inl Z
     .exact .inr (ah k hk)
   have:k=i\/dk.done.testBit k=true:=by
    cases hk with
    |edge p1 p2 p3=>rw[g1] at p1;cases p1;exact ai _ (ly e.1 m _ hm1 g1 _ p2 p3) _ (.inl Z)
    |step p1 p2 p3 p4=>rw[g1] at p1;cases p1;exact ai _ (ly e.1 m _ hm1 g1 _ p2 p3) _ (.inr p4)
   rcases this with rfl|hdk
   .exact eR
   .have g1:=q3 k tk.mem;rw[hdk] at g1;cases g1
 have ad:CW lQ nD=lQ:=(by unfold CW;rw[List.filter_eq_self];intro e he;rw[(hins e he).1];rfl);rw[ad] at h7;have h7:=h7 _ _ ⟨af,λe he _=>(hins e he).2⟩;refine j.step hi hs (IG _ _ _) ?_ af (λk R' n' h=>?_) (λk x hk=>?_) (λk lU hk=>?_) (λk y hk=>?_) (λk D' aa o' hk=>?_) ag
 .rw[h6];exact j.hr.commit h2 (by rw[hnx] at h7;exact h7)
 .refine⟨λb hb=>?_,by have:=h.2.1;omega,λk2 D' aa o' ae hk hH tk=>?_⟩
  .rw[h.1 b A0];exact IG R dk.s.nx (D,sz) b hb
  .rcases Tr.inv hs tk with ⟨e,e2⟩|⟨lU,t3⟩
   .rw[e,hx] at hH;cases hH;rw[e2];refine⟨by have:=h.2.1;omega,?_⟩;rw[h.1 dk.s.nx A0];exact hR1
   .exact h.2.2 k2 D' aa o' ae hk (by unfold Vq;rw[n_ (Ne.symm lU)];exact hH) t3
 .unfold Vq at hk;by_cases e:k=i
  .rw[p_ e] at hk;cases hk
  .rw[n_ e] at hk;exact⟨hk,e⟩
 .unfold Vq;rw[n_ lU];exact hk
 .unfold Sg;rw[n_ (λe=>by rw[e,h3] at hk;cases hk)];exact j.frs k y hk
 .unfold Vq at hk;by_cases e:k=i
  .rw[p_ e] at hk;cases hk
  .rw[n_ e] at hk;unfold Sg;rw[n_ (λe2=>e (by subst e2;exact j.inj k i _ _ _ _ _ hk hx))];exact(j.held k D' aa o' hk).2.1
end
end
end
section
variable {a:AJ AV}
noncomputable section
section
variable {P:P_} {E:CF} {call:C9} {nt:Nat} {ops:Array Oper} {cl:AJ Nat} {fr fr':Nat->Option Obj} {w0 w:W_} {ds:List Deferred} {df d d':FX} {l:List Nat} {nD:Array Bool} {Hd:Df} {R:Nat->Nat×Nat} {act:Act} {i:Nat}
theorem E9.step (ly:El ops cl) (hd:E9 ops d.done) (hs:Cw E call nt ops.toList cl i d=O d'):E9 ops d'.done:=λj k hj hb=>by
 rw[(BA hs).done.2,vI,decide_eq_true_iff] at hj
 rw[(BA hs).done.2,vI]
 rcases hj with hj|rfl
 .exact .inl (hd j k hj hb)
 .exact .inl (Iq ly hd hs hb)
theorem J.catch (ly:El ops cl) (lY:∀(k k' t:Nat) (o o':Oper),ops[k]?=O o->ops[k']?=O o'->o.dst=O t->o'.dst=O t->k=k'):∀(l1:List Nat) {l2:List Nat} {d:FX} {Hd:Df} {fr':Nat->Option Obj} {R:Nat->Nat×Nat},J P E call nt ops cl fr w0 ds df (l1++l2) d nD Hd fr' R act w->(∀k∈l1,nD[k]?=O B)->(∀k∈l1,∀(q:Nat) (oq:Oper),ops[q]?=O oq->Dy ops.toList oq=O k->nD[q]?=O B)->E9 ops d.done->
  ∃d2 Hd2 fr2 R2,FA E call nt ops.toList cl l1 d=O d2/\J P E call nt ops cl fr w0 ds df l2 d2 nD Hd2 fr2 R2 act w/\E9 ops d2.done/\E4 d.s.nx R R2/\d.s.nx<=d2.s.nx/\d2.hist=d.hist
 |[],l2,d,Hd,fr',R,j,_,_,hd=>⟨d,Hd,fr',R,Z,j,hd,E4.refl _ _,uq _,Z⟩
 |i::l1,l2,d,Hd,fr',R,j,hl,hfi,hd=>by
  have hi:=hl i (.head _)
  have hrun:=j.run
  simp only[we,FA] at hrun
  cases hs:Cw E call nt ops.toList cl i d with
  |none=>rw[hs] at hrun;cases hrun
  |some d'=>
   have hK:=BA hs
   have hdc:∀k,CP ops k i->d.done.testBit k=true:=λk hb=>Iq ly hd hs hb
   have hh:d'.hist=d.hist:=by
    by_cases e:d'.hist=d.hist
    .exact e
    .exact a_ ⟨d,d',.here hs,hs,e⟩ (j.noact i hi)
   have hrunc:FA E call nt ops.toList cl (i::l1) d=FA E call nt ops.toList cl l1 d':=by simp only[FA,hs]
   have fin:∀{Hd' fr'' R'},J P E call nt ops cl fr w0 ds df (l1++l2) d' nD Hd' fr'' R' act w->E4 d.s.nx R R'->d.s.nx<=d'.s.nx->
     ∃d2 Hd2 fr2 R2,FA E call nt ops.toList cl (i::l1) d=O d2/\J P E call nt ops cl fr w0 ds df l2 d2 nD Hd2 fr2 R2 act w/\E9 ops d2.done/\E4 d.s.nx R R2/\d.s.nx<=d2.s.nx/\d2.hist=d.hist:=fun {Hd' fr'' R'} j' hE hn=>by
    obtain⟨d2,Hd2,fr2,R2,h1,h2,h3,h4,h5,h6⟩:=J.catch ly lY l1 j' (λk hk=>hl k (.tail _ hk)) (λk hk=>hfi k (.tail _ hk)) (hd.step ly hs)
    exact⟨d2,Hd2,fr2,R2,by rw[hrunc];exact h1,h2,h3,hE.trans hn h4,vB hn h5,by rw[h6,hh]⟩
   by_cases hsame:d'.s=d.s
   .exact fin (j.stepRead hi hs hsame hdc (hfi i (.head _))) (E4.refl _ _) (by rw[hsame];exact uq _)
   .have lU:=(j.all i d d' hi (.here hs) hs).resolve_left hsame
    cases hx:Hd i with
    |none=>exact a_ hx lU
    |some x=>
     obtain⟨D,sz,o⟩:=x
     exact fin (j.stepNew ly lY hd hi hs hx (hfi i (.head _))) (IG _ _ _) hK.nx
theorem aM {a':AJ AV} {op:Op} (h:∀x∈op.operands,Ck a x=Ck a' x):OG E a op=OG E a' op:=by cases op;(case box t x=>simp only[OG,h x Bd]);(case buildSlice t n ps=>simp only[OG,It (λp hp=>h p.2 dQ)]);(case makeSlice t x y=>simp only[OG,h x Bd,h y Bd]);all_goals rfl
end
end
end
section
variable {a:AJ AV} {di:FX} {i m:Nat} {o:Oper}
noncomputable section
theorem rr {ops:List Oper} {gd:Option (Nat×Bool)} {l:List Nat} (h:∀g b og d,gd=O (g,b)->ops[g]?=O og->og.dst=O d->d∈l):E7 ops (Gg a l) gd=E7 ops a gd:=by
 cases gd with
 |none=>rfl
 |some p=>
  obtain⟨g,b⟩:=p;simp only[E7,EG]
  cases ho:ops[g]? with
  |none=>rfl
  |some og=>
   simp only
   cases hd:og.dst with
   |none=>rfl
   |some d=>simp only[KN,p_ (h g b og d Z ho hd)]
section
variable {P:P_} {E:CF} {call:C9} {nt:Nat} {ops:Array Oper} {cl:AJ Nat} {fr fr':Nat->Option Obj} {w0 w:W_} {ds:List Deferred} {df d:FX} {l:List Nat} {nD:Array Bool} {Hd:Df} {R:Nat->Nat×Nat} {act:Act}
theorem J.wanted (j:J P E call nt ops cl fr w0 ds df l d nD Hd fr' R act w) (aa:FJ ops cl) (ad:∀(k:Nat) (o:Oper),ops[k]?=O o->df.done.testBit k=B) (lY:∀(k k' t:Nat) (o o':Oper),ops[k]?=O o->ops[k']?=O o'->o.dst=O t->o'.dst=O t->k=k') (hi:Tr E call nt ops.toList cl l d i di) (hb:∀k,CP ops k i->nD[k]?=O B) (hn:nD[i]?≠O B) (hm:cl.get i=O m) (hg:∀g b og,o.guard=O (g,b)->ops[g]?=O og->m.testBit g=B) {r:Bool} (hr:E7 ops.toList di.a o.guard=O r):uz o (yielded ops act.tmps)=r:=by
 obtain⟨R',n',ag⟩:=j.ex
 cases hgd:o.guard with
 |none=>rw[hgd] at hr;cases hr;unfold uz;rw[hgd]
 |some p=>
  obtain⟨g,b⟩:=p
  cases ae:ops[g]? with
  |none=>
   have hp:E7 ops.toList (Gg di.a []) o.guard=O r:=by
    rw[rr (λg' b' og d' e1 e2 e3=>by
     rw[hgd] at e1;cases e1;rw[ul,ae] at e2
     cases e2)]
    exact hr
   exact Gl (s:=⟨.leaf,n'⟩) (R:=R') (a:=Gg di.a []) (TR.pick λt ht=>by cases ht) hp
  |some og=>
   have hp:E7 ops.toList (Gg di.a og.dst.toList) o.guard=O r:=by
    rw[rr (λg' b' ai d' e1 e2 e3=>by
     rw[hgd] at e1;cases e1;rw[ul,ae] at e2;cases e2
     rw[e3];simp)]
    exact hr
   refine Gl (s:=⟨.leaf,n'⟩) (R:=R') (a:=Gg di.a og.dst.toList) (TR.pick λt ht x hx=>?_) hp
   have af:og.dst=O t:=by
    cases hd:og.dst with
    |none=>rw[hd] at ht;cases ht
    |some d'=>rw[hd] at ht;simp at ht;rw[ht]
   exact j.sees aa ad hi hb hn hm (λk ok hk ah=> .inl (by rw[lY k g t ok og hk ae ah af];exact hg g b og hgd ae)) (λk k' o1 o2 h1 h2 h3 h4=>lY k k' t o1 o2 h1 h2 h3 h4) hx (ag i)
theorem J.tr (j:J P E call nt ops cl fr w0 ds df l d nD Hd fr' R act w) (hmask:FJ ops cl) (hfull:∀(k:Nat) (o:Oper),ops[k]?=O o->df.done.testBit k=B)
  (lY:∀(k k' t:Nat) (o o':Oper),ops[k]?=O o->ops[k']?=O o'->o.dst=O t->o'.dst=O t->k=k') {i:Nat} {di:FX} (hi:Tr E call nt ops.toList cl l d i di)
  (hb:∀k,CP ops k i->nD[k]?=O B) (hn:nD[i]?≠O B) {m:Nat} (hm:cl.get i=O m) {ts:List Nat} (ht:∀t∈ts,∀(k:Nat) (ok:Oper),ops[k]?=O ok->ok.dst=O t->m.testBit k=B\/∃mk,cl.get k=O mk/\mk.testBit i=B)
  {R':Nat->Nat×Nat} {n':Nat} (hok:Li E call nt ops cl l d Hd R i R' n'):TR R' n' (Gg di.a ts) act:=
 TR.pick λt h x hx=>j.sees hmask hfull hi hb hn hm (ht t h) (λk k' o1 o2 h1 h2 h3 h4=>lY k k' t o1 o2 h1 h2 h3 h4) hx hok
end
end
end
section
variable {di:FX} {i m sz:Nat} {o:Oper} {x:AV}
noncomputable section
section
variable {R R1:Nat->Nat×Nat} {n n1:Nat}
mutual
theorem VR.lower:∀{x:AV} {v v0:V_},VR R1 n1 x v->VR R n x v0->E4 n R R1->VR R n x v
 | .b _,_,_,h,_,_=>by simp only[VR] at h⊢;exact h
 | .i _ _,_,_,h,_,_=>by simp only[VR] at h⊢;exact h
 | .s _,_,_,h,_,_=>by simp only[VR] at h⊢;exact h
 | .np,_,_,h,_,_=>by simp only[VR] at h⊢;exact h
 | .p b o,_,_,h,h0,hE=>by simp only[VR] at h h0⊢;rw[<-hE b h0.1];exact⟨h0.1,h.2⟩
 | .ns,_,_,h,_,_=>by simp only[VR] at h⊢;exact h
 | .sl b o l c e z,_,_,h,h0,hE=>by simp only[VR] at h h0⊢;rw[<-hE b h0.1];exact⟨h0.1,h.2⟩
 | .nm,_,_,h,_,_=>by simp only[VR] at h⊢;exact h
 | .m b,_,_,h,h0,hE=>by simp only[VR] at h h0⊢;rw[<-hE b h0.1];exact⟨h0.1,h.2⟩
 | .nf,_,_,h,_,_=>by simp only[VR] at h⊢;exact h
 | .fn f fst nr,_,_,h,h0,hE=>by
  simp only[VR] at h h0⊢
  obtain⟨us,vs,h1,h2,h3⟩:=h
  obtain⟨us0,vs0,g1,g2,_⟩:=h0
  exact⟨us,vs,BM.lower h1 g1 hE,BM.lower h2 g2 hE,h3⟩
 | .y b,_,_,h,h0,hE=>by simp only[VR] at h h0⊢;rw[<-hE b h0.1];exact⟨h0.1,h.2⟩
 | .ni,_,_,h,_,_=>by simp only[VR] at h⊢;exact h
 | .agg l,_,_,h,h0,hE=>by
  simp only[VR] at h h0⊢
  obtain⟨vs,h1,h2⟩:=h
  obtain⟨vs0,g1,_⟩:=h0
  exact⟨vs,BM.lower h1 g1 hE,h2⟩
 | .tup l,_,_,h,h0,hE=>by
  simp only[VR] at h h0⊢
  obtain⟨vs,h1,h2⟩:=h
  obtain⟨vs0,g1,_⟩:=h0
  exact⟨vs,BM.lower h1 g1 hE,h2⟩
theorem BM.lower:∀{l:List AV} {vs vs0:List V_},BM R1 n1 l vs->BM R n l vs0->E4 n R R1->BM R n l vs
 |[],_,_,h,_,_=>by simp only[BM] at h⊢;exact h
 |x::l,_,_,h,h0,hE=>by
  simp only[BM] at h h0⊢
  obtain⟨u,us,h1,h2,h3⟩:=h
  obtain⟨u0,us0,_,g2,g3⟩:=h0
  exact⟨u,us,h1,VR.lower h2 g2 hE,BM.lower h3 g3 hE⟩
end
theorem BM.there:∀{l:List AV} {vs:List V_} {x:AV},BM R n l vs->x∈l->∃v,VR R n x v
 |[],_,_,_,hx=>by cases hx
 |y::l,_,x,h,hx=>by
  simp only[BM] at h
  obtain⟨u,us,_,h1,h2⟩:=h
  rcases ut.1 hx with rfl|hx
  .exact⟨u,h1⟩
  .exact BM.there h2 hx
theorem BM.some:∀{l:List AV},(∀x∈l,∃v,VR R n x v)->∃vs,BM R n l vs
 |[],_=>⟨[],by simp only[BM]⟩
 |x::l,h=>by
  obtain⟨v,hv⟩:=h x (.head _)
  obtain⟨vs,hvs⟩:=BM.some λy hy=>h y (.tail _ hy)
  exact⟨v::vs,by simp only[BM];exact⟨v,vs,Z,hv,hvs⟩⟩
theorem BR.lower {x:Fk} {o o0:Obj} (h:BR R1 n1 sz x o) (h0:BR R n sz x o0) (hE:E4 n R R1):BR R n sz x o:=by
 cases x with
 |cells e cs=>obtain⟨arr,h1,h2,h3,h4,h5⟩:=h;obtain⟨_,_,_,_,g4,_⟩:=h0;exact⟨arr,h1,h2,h3,h4.lower g4 hE,h5⟩
 |ro e cs=>obtain⟨arr,f,h1,h2,h3,h4,h5⟩:=h;obtain⟨_,_,_,_,_,g4,_⟩:=h0;exact⟨arr,f,h1,h2,h3,h4.lower g4 hE,h5⟩
 |map es=>obtain⟨lL,c,es1,h1,hp,hd,h2,h3⟩:=h;obtain⟨_,_,ad,_,gp,_,g2,g3⟩:=h0;have aa:=hp.trans gp.symm;(obtain⟨_,k2⟩:=BM.some λy hy=>g2.there (x:=y) ((aa.map ur).mem_iff.1 hy));(obtain⟨_,k3⟩:=BM.some λy hy=>g3.there (x:=y) ((aa.map vF).mem_iff.1 hy));exact⟨lL,c,es1,h1,hp,hd,h2.lower k2 hE,h3.lower k3 hE⟩
 |loop=>obtain⟨r,h1,h2,h3,h4,h5,h6,h7,h8⟩:=h;obtain⟨_,_,_,_,_,_,_,_,g8⟩:=h0;refine⟨r,h1,h2,h3,h4,h5,h6,h7,λt x hx=>?_⟩;obtain⟨v,e1,e2⟩:=h8 t x hx;obtain⟨v0,_,f2⟩:=g8 t x hx;exact⟨v,e1,e2.lower f2 hE⟩
end
section
variable {P:P_} {E:CF} {call:C9} {nt:Nat} {ops:Array Oper} {cl:AJ Nat} {fr fr':Nat->Option Obj} {w0 w:W_} {ds:List Deferred} {df d:FX} {l:List Nat} {nD:Array Bool} {Hd:Df} {R:Nat->Nat×Nat} {act:Act}
theorem J.reads (hE:Ap P E) (j:J P E call nt ops cl fr w0 ds df l d nD Hd fr' R act w) (ae:FJ ops cl) (af:∀(k:Nat) (o:Oper),ops[k]?=O o->df.done.testBit k=B) (lY:∀(k k' t:Nat) (o o':Oper),ops[k]?=O o->ops[k']?=O o'->o.dst=O t->o'.dst=O t->k=k') (hi:Tr E call nt ops.toList cl l d i di) (hb:∀k,CP ops k i->nD[k]?=O B) (hn:nD[i]?≠O B) (hm:cl.get i=O m) (ht:∀t∈Hm o.op.operands.toList,∀(k:Nat) (ok:Oper),ops[k]?=O ok->ok.dst=O t->m.testBit k=B\/∃mk,cl.get k=O mk/\mk.testBit i=B) (hr:Qy o.op=B) (hx:aU E di.a d.s.h o.op=O x):∃v w',(x_ act.eval o).run P w= .ok (.value v) w'/\HR fr' R d.s w0 w'/\∀R' n',Li E call nt ops cl l d Hd R i R' n'->VR R' n' x v:=by
 have ag:aU E (Gg di.a (Hm o.op.operands.toList)) d.s.h o.op=O x:=(by rw[aO λy hy=>Pr (ve.2 hy)];exact hx)
 have one:∀R' n',Li E call nt ops cl l d Hd R i R' n'->∃v w',(x_ act.eval o).run P w= .ok (.value v) w'/\HR fr' R' ⟨d.s.h,n'⟩ w0 w'/\VR R' n' x v:=λR' n' ad=>
  Zq hE (j.hr.wide ad.1 ad.2.1) (j.tr ae af lY hi hb hn hm ht ad) hr ag
 obtain⟨R1,n1,aa⟩:=j.ex;obtain⟨v,w',h1,h2,h3⟩:=one R1 n1 (aa i);refine⟨v,w',h1,?_,λR' n' ad=>?_⟩
 .exact⟨h2.os,h2.tape,h2.output,h2.fr,j.hr.lt,λb y hy=>by
   obtain⟨g1,ob,g2,g3⟩:=h2.own b y hy;have lg:=j.hr.lt b (by rw[hy];simp);rw[(aa i).1 b lg] at g1 g2 g3;obtain⟨_,ah,_,g4⟩:=j.hr.own b y hy
   exact⟨g1,ob,g2,g3.lower g4 (aa i).1⟩,j.hr.inj⟩
 .obtain⟨v2,w2,e1,_,e3⟩:=one R' n' ad;rw[h1] at e1;cases e1;exact e3
end
end
end
section
variable {i m:Nat} {o:Oper}
noncomputable section
section
variable {ops:List Oper} {cl:AJ Nat}
theorem Sa {i m:Nat}:∀{l:List Nat},Pj ops cl i m l=B->∀t∈l,∀k,GZ t ops 0=O k->m.testBit k=B\/∃mk,cl.get k=O mk/\mk.testBit i=B
 |[],h,t,ht=>by cases ht
 |u::l,h,t,ht=>λk hk=>by
  unfold Pj at h
  have h1:∀(c x:Bool),(bif c then x else G)=B->c=B/\x=true:=λc x hc=>by cases c<;>first|exact⟨rfl,hc⟩|cases hc
  obtain⟨g1,g2⟩:=h1 _ _ h
  rcases ut.1 ht with e|ht
  .subst e
   rw[hk] at g1
   simp only at g1
   cases hm:m.testBit k with
   |true=>exact .inl Z
   |false=>
    rw[hm,cond_false] at g1
    cases hc:cl.get k with
    |none=>rw[hc] at g1;cases g1
    |some mk=>rw[hc] at g1;exact .inr ⟨mk,Z,g1⟩
  .exact Sa g2 t ht k hk
theorem I8:∀(l:List Oper) (i:Nat),ops.drop i=l->NR ops cl l i=B->∀k o,i<=k->ops[k]?=O o->
  (∃m,cl.get k=O m/\Pj ops cl k m (Hm o.op.operands.toList)=B/\∀g b og,o.guard=O (g,b)->ops[g]?=O og->m.testBit g=B)/\∀k' o' t,k<k'->ops[k']?=O o'->o.dst=O t->o'.dst≠O t
 |[],i,hl,_,k,o,hk,ho=>by
  have:=congrArg List.length hl
  have lg:=(vG.1 ho).1
  simp at this
  omega
 |p::l,i,hl,h,k,o,hk,ho=>by
  have hp:ops[i]?=O p:=by
   have:=congrArg (λl=>l[0]?) hl
   simpa using this
  have hl1:ops.drop (i+1)=l:=by
   rw[show i+1=1+i from vh _ _,vh,<-List.drop_drop,hl];rfl
  have h1:∀(c x:Bool),(bif c then x else G)=B->c=B/\x=true:=λc x hc=>by cases c<;>first|exact⟨rfl,hc⟩|cases hc
  unfold NR at h
  obtain⟨g1,g2⟩:=h1 _ _ h
  cases hm:cl.get i with
  |none=>rw[hm] at g2;cases g2
  |some m=>
   rw[hm] at g2
   simp only at g2
   obtain⟨g3,g4⟩:=h1 _ _ g2
   obtain⟨g5,g6⟩:=h1 _ _ g4
   rcases vj i k with hik|hik
   .exact I8 l (i+1) hl1 g6 k o hik ho
   .obtain rfl:i=k:=by omega
    rw[hp] at ho
    cases ho
    refine⟨⟨m,hm,g3,λg b og e1 e2=>?_⟩,λk' o' t hk' ho' hd=>?_⟩
    .rw[e1] at g5
     simp only[EG,e2] at g5
     exact g5
    .unfold Uf at g1
     rw[hd] at g1
     simp only at g1
     cases hda:GZ t l 0 with
     |some q=>rw[hda] at g1;cases g1
     |none=>
      refine GR hda o' ?_
      rw[<-hl1]
      refine List.mem_iff_getElem?.2 ⟨k'-(i+1),?_⟩
      rw[List.getElem?_drop,(A0:i+1+(k'-(i+1))=k')]
      exact ho'
theorem VD (h:NR ops cl ops 0=B) (k k' t:Nat) (o o':Oper) (ho:ops[k]?=O o) (aa:ops[k']?=O o') (hd:o.dst=O t) (ad:o'.dst=O t):k=k':=by
 rcases Nat.lt_trichotomy k k' with lg|e|lg
 .exact a_ ad ((I8 ops 0 Z h k o (un _) ho).2 k' o' t lg aa hd)
 .exact e
 .exact a_ hd ((I8 ops 0 Z h k' o' (un _) aa).2 k o t lg ho ad)
theorem Zj (h:NR ops cl ops 0=B) (ho:ops[i]?=O o) (hm:cl.get i=O m) (t:Nat) (ht:t∈Hm o.op.operands.toList) (k:Nat) (ok:Oper) (hk:ops[k]?=O ok) (hd:ok.dst=O t):m.testBit k=B\/∃mk,cl.get k=O mk/\mk.testBit i=true:=by
 obtain⟨⟨m',aa,hs,_⟩,_⟩:=I8 ops 0 Z h i o (un _) ho;rw[hm] at aa;cases aa
 cases hx:GZ t ops 0 with
 |none=>exact a_ hd (GR hx ok (vR hk))
 |some k2=>obtain⟨_,o2,h2,h3⟩:=IY hx;rw[wC] at h2;have:=VD h k2 k t o2 ok h2 hk h3 hd;subst this;exact Sa hs t ht k2 hx
end
end
end
section
variable {D i m n':Nat} {R':Nat->Nat×Nat} {d di:FX} {lQ:List (Nat×AV×AV)} {x:AV}
noncomputable section
section
variable {P:P_} {E:CF} {fr:Nat->Option Obj} {R:Nat->Nat×Nat} {s:St} {w0 w:W_}
theorem HR.refr (h:HR fr R s w0 w) {o:Obj} (hD:fr D=O o) (o':Obj):HR (Ee fr D o') R s w0 (w.putObj D o'):=by
 have hl:=Af (h.fr D o hD);refine⟨h.os,h.tape,h.output,λk x hk=>?_,h.lt,λb x hb=>?_,h.inj⟩
 .unfold Ee at hk;by_cases e:k=D
  .rw[p_ e] at hk;cases hk;rw[e];exact wD hl
  .rw[n_ e] at hk;rw[wE e];exact h.fr k x hk
 .obtain⟨h1,o2,h2,h3⟩:=h.own b x hb;(have e:(R b).1≠D:=λe=>by rw[e,hD] at h1;cases h1);refine⟨by unfold Ee;rw[n_ e];exact h1,o2,?_,h3⟩;rw[wE e];exact h2
end
theorem F8.other {es m1 m2:List (Nat×AV×AV)} {e:Nat×AV×AV} (h:F8 ((m1++e::m2).map vF)):∀e'∈m1++m2,Di e.2.1 e'.2.1=O false:=λe' he=>by
 rw[wg,uv] at h
 rcases vZ.1 he with he|he
 .exact h.split e'.2 (wh he)
 .have h2:=h.perm (es':=m2.map vF++e.2::m1.map vF) (by
   refine List.perm_middle.trans ((List.Perm.cons _ List.perm_append_comm).trans List.perm_middle.symm))
  exact h2.split e'.2 (wh he)
section
variable {nD:Array Bool}
theorem XJ {e:AV×AV} (hi:nD[i]?=O G) (hn:(lQ.map ur).Nodup) (he:(i,e)∈lQ):((CW lQ nD)++[(i,e)]).Perm (CW lQ (nD.setIfInBounds i B))/\∃m1 m2,lQ=m1++(i,e)::m2/\∀e'∈CW lQ nD,e'∈m1++m2:=by
 obtain⟨m1,m2,rfl⟩:=List.append_of_mem he;(have lU:∀e'∈m1++m2,e'.1≠i:=λe' aa e1=>by have hp:=(List.perm_middle (l₁:=m1) (a:=(i,e)) (l₂:=m2)).map ur;have:=hp.nodup_iff.1 hn;rw[uv,vS] at this;exact this.1 (vE.2 ⟨e',aa,e1⟩));(have f1:∀l:List (Nat×AV×AV),(∀e'∈l,e'∈m1++m2)->CW l (nD.setIfInBounds i B)=CW l nD:=λl hl=>by unfold CW;(refine wZ λe' aa=>?_);rw[DV hi,n_ (lU e' (hl e' aa))]);have a1:CW (m1++(i,e)::m2) nD=CW m1 nD++CW m2 nD:=(by unfold CW;rw[wi,List.filter_cons_of_neg (by simp[hi])]);have a2:CW (m1++(i,e)::m2) (nD.setIfInBounds i B)=CW m1 nD++(i,e)::CW m2 nD:=(by rw[<-f1 m1 λe' h=>vm _ h,<-f1 m2 λe' h=>wF _ h];unfold CW;rw[wi,List.filter_cons_of_pos (by simp[DV hi])]);refine⟨?_,m1,m2,Z,λe' aa=>?_⟩
 .rw[a1,a2];refine List.perm_append_comm.trans ?_;rw[List.singleton_append];exact List.perm_middle.symm
 .rw[a1] at aa;rcases vZ.1 aa with h|h
  .exact vm _ (wj.1 h).1
  .exact wF _ (wj.1 h).1
end
section
variable {P:P_} {E:CF} {call:C9} {nt:Nat} {ops:Array Oper} {cl:AJ Nat} {fr fr':Nat->Option Obj} {w0 w w':W_} {ds:List Deferred} {df d:FX} {l:List Nat} {nD:Array Bool} {Hd:Df} {R:Nat->Nat×Nat} {act:Act}
theorem Tr.doneOK (ly:El ops cl) {l:List Nat} (h:Tr E call nt ops.toList cl l d i di) (hd:E9 ops d.done):E9 ops di.done:=by
 induction h with
 |here _=>exact hd
 |next hs _ _ ih=>exact ih (hd.step ly hs)
theorem J.insSees (j:J P E call nt ops cl fr w0 ds df l d nD Hd fr' R act w) (ly:El ops cl) (hd:E9 ops d.done) (aa:FJ ops cl) (ad:∀(k:Nat) (o:Oper),ops[k]?=O o->df.done.testBit k=B) (lY:∀(k k' t:Nat) (o o':Oper),ops[k]?=O o->ops[k']?=O o'->o.dst=O t->o'.dst=O t->k=k') {i':Nat} {d0:FX} (ti:Tr E call nt ops.toList cl l d i di) (t0:Tr E call nt ops.toList cl l d i' d0) (hb:∀k,CP ops k i->nD[k]?=O B) (hn:nD[i]?≠O B) (hm:cl.get i=O m) (an:m.testBit i'=B) (ao:∀q,m.testBit q=B->d0.done.testBit q=B\/q=i') {tq:Nat} (ht:∀(k:Nat) (ok:Oper),ops[k]?=O ok->ok.dst=O tq->m.testBit k=B\/∃mk,cl.get k=O mk/\mk.testBit i=B) (lU:∀oi,ops[i']?=O oi->oi.dst≠O tq) (hx:d0.a.get tq=O x) (af:Li E call nt ops cl l d Hd R i R' n'):∃v,act.tmps[tq]?=O v/\VR R' n' x v:=by
 obtain⟨q1,q2,q3⟩:=Cr l j.run;refine j.sees' ad t0 (λk k' o o'=>lY k k' tq o o') af.1 af.2.1 (λk o ho ae=>?_) hx;rcases ht k o ho ae with hk|⟨mk,ah,aj⟩
 .rcases ao k hk with h|h
  .exact .inl ⟨h,hb k (aa i m hm k hk),af.sub (aa i m hm k hk)⟩
  .subst h;exact a_ ae (lU o ho)
 .refine .inr ⟨?_,λh=>hn (j.closed k i h (aa k mk ah i aj))⟩
  cases ar:d0.done.testBit k with
  |false=>rfl
  |true=>have ak:d0.done.testBit i=true:=t0.doneOK ly hd k i ar (aa k mk ah i aj);(have aq:i≠i':=λe=>by have:=t0.not;rw[<-e,ak] at this;cases this);have h1:=ti.anti t0 (q3 i ti.mem) (q3 i' t0.mem) aq ak;obtain⟨di',hs⟩:=ti.step;obtain⟨m',ai,ag⟩:=(BA hs).before;rw[hm] at ai;cases ai;rw[ag i' an] at h1;cases h1
end
end
end
section
variable {D b i m:Nat} {di di':FX} {o:Oper} {o':Obj} {ty:TypeId} {w:World}
noncomputable section
theorem W0 {o:Obj} (hl:D<w.heap.size) (h:w.putObj D o=w.putObj D o'):o=o':=by have:=congrArg (λw:W_=>w.heap[D]?) h;simp only[wD hl] at this;exact Option.some.inj this
section
variable {P:P_} {E:CF} {call:C9} {nt:Nat} {ops:Array Oper} {cl:AJ Nat} {fr fr':Nat->Option Obj} {w0 w w':W_} {ds:List Deferred} {df d:FX} {l:List Nat} {nD:Array Bool} {Hd:Df} {R:Nat->Nat×Nat} {act:Act}
theorem J.insMap (j:J P E call nt ops cl fr w0 ds df l d nD Hd fr' R act w) (ae:FJ ops cl) (af:∀(k:Nat) (o:Oper),ops[k]?=O o->df.done.testBit k=B) (lY:∀(k k' t:Nat) (o o':Oper),ops[k]?=O o->ops[k']?=O o'->o.dst=O t->o'.dst=O t->k=k') (hr:i∈uj .any ops nD) (ti:Tr E call nt ops.toList cl l d i di) (hs:Cw E call nt ops.toList cl i di=O di') (ho:ops[i]?=O o) (hm:cl.get i=O m) {i' t:Nat} {k v:O_} (aj:Dy ops.toList o=O i') (an:m.testBit i'=B) (av:o.op= .insert ty (.tmp t) k v) (hb:di.a.get t=O (.m b)):∃d0 aa oi lQ,Tr E call nt ops.toList cl l d i' d0/\Cw E call nt ops.toList cl i' d0=O aa/\ops[i']?=O oi/\oi.dst=O t/\OG E d0.a oi.op=O (.map [],λb=> .m b)/\Gu E cl d0.done i' d0.a ops.toList (.map []) oi.dst=O lQ/\nD[i']?=O B/\aa.a.get t=O (.m d0.s.nx)/\∃D sz ob,Hd i'=O (D,sz,ob)/\fr' D=O ob/\fr D=X/\∀R' n',VY E call nt ops cl l d Hd R i' lQ nD R' n'->BR R' n' sz (.map ((CW lQ nD).map vF)) ob:=by
 obtain⟨q1,q2,q3⟩:=Cr l j.run;obtain⟨ay,t',k',v',oi,az,h1,h2,h3,h4⟩:=Px aj;rw[av] at h1;injection h1 with _ h1;injection h1 with h1;subst h1;rw[ul] at h3;obtain⟨_,ba,g1,g2⟩:=IY h2;rw[wC,ul,h3] at g1;cases g1;have aw:CP ops i' i:=ae i m hm i' an;have aq:=En j.closed hr aw
 have ak:d.done.testBit i'=false:=by
  cases hx:d.done.testBit i' with
  |false=>rfl
  |true=>have:=j.fills i' i o hx ho aj;rw[D9 hr] at this;cases this
 have hl:i'∈l:=((q1 i').1 (af i' oi h3)).resolve_left (by rw[ak];simp);obtain⟨d0,t0⟩:=Tr.ex l j.run hl;obtain⟨aa,s0⟩:=t0.step;obtain⟨m',ao,ai⟩:=(BA hs).before;rw[hm] at ao;cases ao;(have ad:di.a.get t=aa.a.get t:=Tr.set t0 s0 ti q2 ak (ai i' an) λq oq _ lU au ah=>lU (lY q i' t oq oi (by rw[<-ul];exact au) h3 ah g2));(have ag:∀a,OG E a oi.op=O (.map [],λb=> .m b):=λa=>by rw[h4];rfl);have hK:=BA s0
 have key:∃lQ,Gu E cl d0.done i' d0.a ops.toList (.map []) oi.dst=O lQ/\aa.s=d0.s.new (Kh (.map []) lQ)/\aa.a.get t=O (.m d0.s.nx):=by
  rw[hb] at ad
  cases hK with
  |skip a1 a2 a3 a4 a5 a6=>rw[ul,h3] at a1;cases a1;rw[g2] at a6;rw[FY a6,p_ Z] at ad;cases ad
  |read a1 a2 a3 a4 a5 a6=>rw[ul,h3] at a1;cases a1;rw[h4] at a6;cases a6
  |new a1 a2 a3 a4 a5 a6 a7 a8 a9=>rw[ul,h3] at a1;cases a1;rw[ag] at a7;cases a7;refine⟨_,a8,Z,?_⟩;rw[g2] at a9;rw[FY a9,p_ Z]
  |act a1 a2 a3 a4 a5 a6 a7=>rw[ul,h3] at a1;cases a1;rw[ag] at a7;cases a7
  |ins a1 a2 a3 a4 a5 a6 a7 a8=>rw[ul,h3] at a1;cases a1;rw[h4] at a8;cases a8
 obtain⟨lQ,e1,e2,e3⟩:=key
 have ax:=(j.all i' d0 aa aq t0 s0).resolve_left (λe=>by
  rw[e] at e2;have:d0.s.nx=d0.s.nx+1:=congrArg St.nx e2
  omega)
 cases hx:Hd i' with
 |none=>exact a_ hx ax
 |some x=>obtain⟨D,sz,ob⟩:=x;obtain⟨_,f1,f2,dk,bb,op,b2,m2,ar,t2,s4,p4,p5,p6,p8,p7⟩:=j.held i' D sz ob hx;have:=t2.det t0;subst this;rw[h3] at p4;cases p4;rw[ag] at p5;cases p5;rw[e1] at p8;cases p8;exact⟨dk,aa,oi,lQ,t0,s0,h3,g2,ag _,e1,aq,e3,D,sz,ob,Z,f1,f2,p7⟩
end
end
end
section
variable {D b i m sz:Nat} {di di':FX} {o:Oper} {ty:TypeId}
noncomputable section
section
variable {P:P_} {E:CF} {call:C9} {nt:Nat} {ops:Array Oper} {cl:AJ Nat} {fr fr':Nat->Option Obj} {w0 w w':W_} {ds:List Deferred} {df d:FX} {l:List Nat} {nD:Array Bool} {Hd:Df} {R:Nat->Nat×Nat} {act:Act}
theorem J.swap (j:J P E call nt ops cl fr w0 ds df l d nD Hd fr' R act w) {i':Nat} (hr:i∈uj .any ops nD) (ti:Tr E call nt ops.toList cl l d i di) (hs:Cw E call nt ops.toList cl i di=O di') (ho:ops[i]?=O o) (ak:o.dst=X) (ag:di'.s=di.s) (hh:di'.hist=di.hist) {ob aa:Obj} (hx:Hd i'=O (D,sz,ob)) (lU:∀k D2 s2 o2,Hd k=O (D2,s2,o2)->k≠i'->∀dk op lu lQ,Tr E call nt ops.toList cl l d k dk->ops[k]?=O op->Gu E cl dk.done k dk.a ops.toList lu op.dst=O lQ->∀e∈lQ,e.1≠i) (hB:∀dk lu op lQ,Tr E call nt ops.toList cl l d i' dk->ops[i']?=O op->(∃mk,OG E dk.a op.op=O (lu,mk))->Gu E cl dk.done i' dk.a ops.toList lu op.dst=O lQ->∀R' n',VY E call nt ops cl l d Hd R i' lQ (nD.setIfInBounds i B) R' n'->BR R' n' sz (Kh lu (CW lQ (nD.setIfInBounds i B))) aa) (hw:HR (Ee fr' D aa) R d.s w0 w'):J P E call nt ops cl fr w0 ds df l d (nD.setIfInBounds i B) (EW Hd i' (D,sz,aa)) (Ee fr' D aa) R act w':=by
 have hi:=D9 hr;(have hl:∀k,nD[k]?=O B->(nD.setIfInBounds i B)[k]?=O true:=λk hk=>by exact U9);have hl2:∀k,(nD.setIfInBounds i B)[k]?=O B->k=i\/nD[k]?=O true:=λk hk=>by exact Tm
 have ah:∀k R' n',Li E call nt ops cl l d (EW Hd i' (D,sz,aa)) R k R' n'->Li E call nt ops cl l d Hd R k R' n':=λk R' n' h=>⟨h.1,h.2.1,λk2 D2 s2 o2 dk hk ad tk=>by
  by_cases e:k2=i'
  .rw[e,hx] at ad;cases ad;exact h.2.2 k2 D sz aa dk hk (by unfold EW;rw[p_ e]) tk
  .exact h.2.2 k2 D2 s2 o2 dk hk (by unfold EW;rw[n_ e];exact ad) tk⟩
 obtain⟨hx1,an,aj,_⟩:=j.held i' D sz ob hx;refine⟨j.run,λk hk=>hl k (j.done k hk),j.closed.add hr,hw,λk y hk=>?_,λk D2 s2 o2 hk=>?_,λk k' D2 s2 o2 s3 o3 hk hk'=>?_,λk hk=>?_,λk dk af hk tk sk=>?_,λk dk af op t hk tk sk ai ae=>?_,λt y hy hno=>?_,j.nt,j.ds,λk q oq h1 h2 h3=>hl q (j.fills k q oq h1 h2 h3)⟩
 .unfold Ee;rw[n_ (λe=>by rw[e,aj] at hk;cases hk)];exact j.frs k y hk
 .by_cases e:k=i'
  .subst e;unfold EW at hk;rw[p_ Z] at hk;cases hk;obtain⟨h1,h2,h3,dk,af,op,b2,m2,lQ,t2,s4,h4,h5,h6,h8,h7⟩:=j.held k D sz ob hx;exact⟨hl k h1,by unfold Ee;rw[p_ Z],h3,dk,af,op,b2,m2,lQ,t2,s4,h4,h5,h6,h8,λR' n' h=>hB dk b2 op lQ t2 h4 ⟨m2,h5⟩ h8 R' n' ⟨ah _ R' n' h.1,λe he mN=>ah _ R' n' (h.2 e he mN)⟩⟩
  .have ad:Hd k=O (D2,s2,o2):=(by unfold EW at hk;rw[n_ e] at hk;exact hk);obtain⟨h1,h2,h3,dk,af,op,b2,m2,lQ,t2,s4,h4,h5,h6,h8,h7⟩:=j.held k D2 s2 o2 ad;have hno:=lU k D2 s2 o2 ad e dk op b2 lQ t2 h4 h8;refine⟨hl k h1,?_,h3,dk,af,op,b2,m2,lQ,t2,s4,h4,h5,h6,h8,λR' n' h=>?_⟩
   .unfold Ee;rw[n_ (λe2=>e (by subst e2;exact j.inj k i' _ _ _ _ _ ad hx))];exact h2
   .rw[Im hi hno];have h':=h.less hi hno;exact h7 R' n' ⟨ah _ R' n' h'.1,λe he hl=>ah _ R' n' (h'.2 e he hl)⟩
 .have back:∀k D2 s2 o2,EW Hd i' (D,sz,aa) k=O (D2,s2,o2)->∃o3,Hd k=O (D2,s2,o3):=λk D2 s2 o2 h=>by
   unfold EW at h;by_cases e:k=i'
   .rw[p_ e] at h;cases h;exact⟨ob,by rw[e];exact hx⟩
   .rw[n_ e] at h;exact⟨o2,h⟩
  obtain⟨_,g1⟩:=back k D2 s2 o2 hk;obtain⟨_,g2⟩:=back k' D2 s3 o3 hk';exact j.inj k k' D2 _ _ _ _ g1 g2
 .exact XH
 .rcases hl2 k hk with rfl|hk
  .have:=tk.det ti;subst this;rw[hs] at sk;cases sk;exact .inl ag
  .rcases j.all k dk af hk tk sk with h|h
   .exact .inl h
   .right;unfold EW;by_cases e:k=i'
    .rw[p_ e];simp
    .rw[n_ e];exact h
 .rcases hl2 k hk with rfl|hk'
  .rw[ho] at ai;cases ai;rw[ak] at ae;cases ae
  .obtain⟨u,y,h1,h2,h3⟩:=j.early k dk af op t hk' tk sk ai ae;exact⟨u,y,h1,h2,λR' n' h=>h3 R' n' (ah k R' n' h)⟩
 .exact j.rest t y hy λk dk op hk=>hno k dk op (hl k hk)
theorem kg {t u:Nat} (h:Xi t (.tmp u)=B):u≠t:=λe=>by
 simp only[Xi,Bool.not_eq_true'] at h
 rw[MV e] at h
 cases h
theorem J.ins (hE:Ap P E) (j:J P E call nt ops cl fr w0 ds df l d nD Hd fr' R act w) (ly:El ops cl) (hd:E9 ops d.done) (ag:FJ ops cl) (ah:∀(k:Nat) (o:Oper),ops[k]?=O o->df.done.testBit k=B) (lY:∀(k k' t:Nat) (o o':Oper),ops[k]?=O o->ops[k']?=O o'->o.dst=O t->o'.dst=O t->k=k') (hr:i∈uj .any ops nD) (ti:Tr E call nt ops.toList cl l d i di) (hs:Cw E call nt ops.toList cl i di=O di') (ho:ops[i]?=O o) (hm:cl.get i=O m) (ht:∀t∈Hm o.op.operands.toList,∀(k:Nat) (ok:Oper),ops[k]?=O ok->ok.dst=O t->m.testBit k=B\/∃mk,cl.get k=O mk/\mk.testBit i=B) {i' t:Nat} {k v:O_} (bn:Dy ops.toList o=O i') (bg:m.testBit i'=B) (an:o.op= .insert ty (.tmp t) k v) (hb:di.a.get t=O (.m b)) (ao:di'.s=di.s) (hh:di'.hist=di.hist):∃w' cp ck,o.dst=X/\(x_ act.eval o).run P w= .ok .skip w'/\J P E call nt ops cl fr w0 ds df l d (nD.setIfInBounds i B) cp ck R act w':=by
 have hi:=D9 hr;have hnl:nD[i]?≠O true:=(by rw[hi];simp);(have cg:∀q,CP ops q i->nD[q]?=O true:=λq hq=>En j.closed hr hq);obtain⟨d0,cn,oi,lQ,t0,s0,ax,ae,hA,ai,bu,ch,D,sz,ob,hx,f1,f2,cj⟩:=j.insMap ag ah lY hr ti hs ho hm bn bg an hb;obtain⟨n1,n2,n3,n4⟩:=SH ai;obtain⟨e,he⟩:=n2 i o ty k v t Vn ae an;obtain⟨x,y⟩:=e;obtain⟨o2,cr,k2,v2,cu,g1,g2,g3,g4⟩:=n1 _ he;rw[ul,ho] at g1;cases g1;rw[ae] at g2;cases g2;rw[an] at g3;injection g3 with z1 z2 z3 z4;subst z1 z3 z4;obtain⟨m',bh,_,bt⟩:=g4.mask;rw[hm] at bh;cases bh
 have sees:∀R' n',Li E call nt ops cl l d Hd R i R' n'->VR R' n' x (act.eval k)/\VR R' n' y (act.eval v):=λR' n' bq=>by
  have one:∀p:O_,p∈o.op.operands->Xi t p=B->∀z,Ck d0.a p=O z->VR R' n' z (act.eval p):=λp hp br z hz=>by
   cases p with
   |tmp u=>
    obtain⟨q,hq1,hq2⟩:=j.insSees ly hd ag ah lY ti t0 cg hnl hm bg bt (tq:=u) (ht u (List.mem_filterMap.2 ⟨.tmp u,ve.2 hp,Z⟩)) (λcv ar bj=>by
     rw[ax] at ar;cases ar;rw[ae] at bj
     exact kg br (Option.some.inj bj).symm) (x:=z) hz bq
    have:act.eval (.tmp u)=q:=(by simp[Act.eval,vp,hq1]);rw[this];exact hq2
   |const c=>exact AM (a:= .leaf) (act:=act) (λt x h=>by rw[AJ.get_leaf] at h;cases h) (o:= .const c) (by rw[<-hz];rfl)
   |func f=>exact AM (a:= .leaf) (act:=act) (λt x h=>by rw[AJ.get_leaf] at h;cases h) (o:= .func f) (by rw[<-hz];rfl)
   |global g=>cases hz
  exact⟨one k (by rw[an];simp[Op.operands]) g4.nk x g4.hk,one v (by rw[an];simp[Op.operands]) g4.nv y g4.hv⟩
 obtain⟨u,kt,et,uk,hu,bm,bz,bx,cw⟩:=g4.ty;obtain⟨R1,bf,ad⟩:=j.ex;have ba:act.eval (.tmp t)= .map (O D):=(by obtain⟨q,z,q1,q2,q3⟩:=j.early i' d0 cn oi t bu t0 s0 ax ae;rw[ch] at q2;cases q2;have q4:=q3 R1 bf (ad i');simp only[VR] at q4;rw[((ad i').2.2 i' D sz ob d0 (.inl Z) hx t0).2] at q4;simp[Act.eval,vp,q1,q4.2]);obtain⟨pp,m1,m2,ak,aq⟩:=XJ hi n3 he;(have bb:∀e'∈CW lQ nD,Di x e'.2.1=O false:=λe' av=>by have h4:=n4;rw[ak] at h4;exact h4.other (es:=[]) e' (aq e' av));have hD:d.s.nx=d.s.nx:=Z;have lC:=j.hr.fr D ob f1;have lg:=Af lC
 have step:∀R' n',VY E call nt ops cl l d Hd R i' lQ nD R' n'->Li E call nt ops cl l d Hd R i R' n'->
  ∃(aa:Array MapEntry) (aj:Nat) (es1:List (AV×AV)),(Instr.mapUpdate ty (.map (O D)) (act.eval k) (act.eval v)).run P w= .ok () (w.putObj D (.map aa aj))/\es1.Perm ((CW lQ nD).map vF)/\BM R' n' ((es1++[(x,y)]).map ur) (aa.toList.map (·.key))/\BM R' n' ((es1++[(x,y)]).map vF) (aa.toList.map (·.val)):=λR' n' h h'=>by
  obtain⟨lL,c0,es1,rfl,hp,cx,v1,v2⟩:=cj R' n' h
  obtain⟨s1,s2⟩:=sees R' n' h'
  have bd:JG x y es1=O (es1++[(x,y)]):=Tt λe1 cd=>by obtain⟨e2,ca,rfl⟩:=vE.1 (hp.mem_iff.1 cd);exact bb e2 ca
  obtain⟨aa,aj,r1,r2,r3⟩:=Yz hE hu bm bz bx s1 s2 lC v1 v2 bd
  exact⟨aa,aj,es1,r1,hp,r2,r3⟩
 obtain⟨aa,aj,es1,r1,_,_,_⟩:=step R1 bf ⟨ad i',λe _ _=>ad e.1⟩ (ad i);refine⟨w.putObj D (.map aa aj),EW Hd i' (D,sz,.map aa aj),Ee fr' D (.map aa aj),g4.ds,?_,?_⟩
 .have:x_ act.eval o=(do Instr.mapUpdate ty (act.eval (.tmp t)) (act.eval k) (act.eval v);pure .skip):=(by unfold x_;rw[an]);rw[this,ba];simp[Sem.run_bind,r1]
 .refine j.swap hr ti hs ho g4.ds ao hh hx (λq D2 s2 o3 hq bo dk op lu aw tk af az e' av e1=>?_) (λdk lu op aw tk af ay az R' n' h=>?_) (j.hr.refr f1 _)
  .obtain⟨o4,cq,k4,v4,t4,w1,w2,w3,_⟩:=Hx az av;rw[e1,ul,ho] at w1;cases w1;rw[an] at w3;injection w3 with _ w3;injection w3 with w3;subst w3;exact bo (lY q i' t op oi af ax w2 ae)
  .have:=tk.det t0;subst this;rw[ax] at af;cases af;obtain⟨mk,ay⟩:=ay;rw[hA] at ay;cases ay;rw[ai] at az;cases az;have bc:Li E call nt ops cl l d Hd R i R' n':=h.2 _ he (by rw[DV hi,p_ Z])
   have au:VY E call nt ops cl l d Hd R i' lQ nD R' n':=⟨h.1,λe' av bw=>h.2 e' av (by
    rw[DV hi];by_cases e:e'.1=i
    .rw[p_ e]
    .rw[n_ e];exact bw)⟩
   obtain⟨bk,cy,cm,r2,bp,w1,w2⟩:=step R' n' au bc;rw[r1] at r2;have r3:=W0 lg (Result.ok.inj r2).2;cases r3;refine⟨aa,aj,cm++[(x,y)],Z,?_,?_,w1,w2⟩
   .have p0:=pp.map vF;rw[wg] at p0;exact(bp.append_right [(x,y)]).trans p0
   .have:F8 (lQ.map vF):=n4;unfold F8 at this⊢;rw[wG] at this⊢;exact this.sublist ((List.filter_sublist (p:=λe:Nat×AV×AV=>(nD.setIfInBounds i B)[e.1]?==O B)).map _)
end
end
end
section
variable {K:Act->World->Prop} {Q:Exit->Act->World->Prop} {lu:Fk} {d di:FX} {i sz:Nat} {o:Oper} {o':Obj} {r:Option AV} {w:World} {x:AV}
noncomputable section
section
variable {P:P_} {E:CF} {F:Fence} {m:Nat} {fr:Nat->Option Obj} {R:Nat->Nat×Nat} {a a':AJ AV} {s s':St} {w0 w:W_} {nt:Nat} {ds:List Deferred} {act:Act}
theorem Ag.upon2 {mm:Sem Next} (hr:Ag P fr R s.nx w0 w mm r s') (hK:∀R' v w',E4 s.nx R R'->s.nx<=s'.nx->HR fr R' s' w0 w'->VR R' s'.nx (XW r) v->K (act.put o.dst v) w'):o.uponIn F m P act K Q (mm.run P w):=by
 obtain⟨R',w',hE,hn,hh,hx⟩:=hr
 cases r with
 |some x=>obtain⟨v,hv,aa⟩:=hx;rw[hv,Oper.uponIn_value];exact hK R' v w' hE hn hh aa
 |none=>rw[hx,Oper.uponIn_skip];exact hK R' _ w' hE hn hh VR.undef
theorem ki (hE:Ap P E) {call:C9} (hc:Hi P call) (hF:ED F) (hh:HR fr R s w0 w) (hT:TR R s.nx a act) (ho:aV E call a s o=O (r,s')) (hK:∀R' v w',E4 s.nx R R'->s.nx<=s'.nx->HR fr R' s' w0 w'->VR R' s'.nx (XW r) v->K (act.put o.dst v) w'):o.wpIn F m P act w K Q:=by
 refine⟨λf _=>hF.fn f,?_⟩;(have ah:∀c,o.op≠ .defer c:=λc e=>by unfold aV at ho;rw[e] at ho;cases ho);rw[Oper.semAt_eq _ _ _ ah];unfold aV at ho;split at ho
 .rename_i c ae;(split at ho<;>try (cases ho;done));rename_i xs af;have aa:BM R s.nx xs (c.args.map act.eval).toList:=(by rw[Array.toList_map];exact GV hT af);have he:x_ act.eval o=(do let d<-resolve act.eval c o.type;invoke d.target d.args:Sem Next):=(by unfold x_;rw[ae]);rw[he];split at ho<;>try (cases ho;done)
  .rename_i b hb;have ad:∃consts,(do let d<-resolve act.eval c o.type;invoke d.target d.args:Sem Next)=builtin b c.argTypes o.type consts (c.args.map act.eval):=(by exact X8);obtain⟨consts,ad⟩:=ad;rw[ad];exact(TZ hE hh aa o.type consts ho).upon2 hK
  .rename_i f hf;(split at ho<;>try (cases ho;done));rename_i fa ai;(split at ho<;>try (cases ho;done));rename_i q hq;cases ho;have ad:(do let d<-resolve act.eval c o.type;invoke d.target d.args:Sem Next)=(do let d<-Deferred.ofValue (act.eval f) (c.args.map act.eval);invoke d.target d.args:Sem Next):=(by simp only[resolve,hf]);rw[ad];exact hc _ _ _ _ _ hq F m fr R w0 w _ _ hF hh (AM hT ai) aa o act K Q hK
 .rename_i src dst x ae;split at ho
  .rename_i r' ag;cases ho;have he:x_ act.eval o=(do pure (.value (<-convert src dst (act.eval x))):Sem Next):=(by unfold x_;rw[ae]);rw[he];exact(QR hE hh hT ag).upon2 hK
  .exact(JU hE hh hT ho).upon2 hK
 .rename_i op ae;exact(JU hE hh hT ho).upon2 hK
end
section
variable {P:P_} {E:CF} {call:C9} {nt:Nat} {ops:Array Oper} {cl:AJ Nat} {fr fr':Nat->Option Obj} {w0 w w':W_} {ds:List Deferred} {df d d':FX} {l:List Nat} {nD:Array Bool} {Hd:Df} {R R1:Nat->Nat×Nat} {act:Act}
theorem J.acts (j:J P E call nt ops cl fr w0 ds df (i::l) d nD Hd fr' R act w) (lY:∀(k k' t:Nat) (o o':Oper),ops[k]?=O o->ops[k']?=O o'->o.dst=O t->o'.dst=O t->k=k') (hr:i∈uj .any ops nD) (hs:Cw E call nt ops.toList cl i d=O d') (ho:ops[i]?=O o) (ai:Dy ops.toList o=X) (hA:OG E d.a o.op=X) (hp:Fm nt d.a o.dst x=O d'.a) (hnx:d.s.nx<=d'.s.nx) (hE:E4 d.s.nx R R1) (hw:HR fr' R1 d'.s w0 w') {v:V_} (hv:VR R1 d'.s.nx x v):J P E call nt ops cl fr w0 ds df l d' (nD.setIfInBounds i B) Hd fr' R1 (act.put o.dst v) w':=by
 have hi:=D9 hr;have hK:=BA hs;(have hl:∀k,nD[k]?=O B->(nD.setIfInBounds i B)[k]?=O true:=λk hk=>by exact U9);(have hl2:∀k,(nD.setIfInBounds i B)[k]?=O B->k=i\/nD[k]?=O true:=λk hk=>by exact Tm);have aj:Hd i=none:=(by exact iI);have aa:=j.run;simp only[FA,hs] at aa;(have lU:∀{k dk},Tr E call nt ops.toList cl l d' k dk->i≠k:=fun {k dk} tk e=>by exact eS);have up:∀{k dk},Tr E call nt ops.toList cl l d' k dk->Tr E call nt ops.toList cl (i::l) d k dk:=fun {k dk} tk=> .next hs (lU tk) tk
 have ah:∀k R' n',Li E call nt ops cl l d' Hd R1 k R' n'->Li E call nt ops cl (i::l) d Hd R k R' n':=λk R' n' h=>⟨λb hb=>by rw[h.1 b (Nat.lt_of_lt_of_le hb hnx),hE b hb],vB hnx h.2.1,λk2 D sz o2 dk hk hH tk=>by
  rcases Tr.inv hs tk with ⟨rfl,_⟩|⟨_,t3⟩
  .rw[aj] at hH;cases hH
  .exact h.2.2 k2 D sz o2 dk hk hH t3⟩
 refine⟨aa,λk hk=>?_,j.closed.add hr,hw,j.frs,λk D sz o2 hk=>?_,j.inj,λk hk ha=>?_,λk dk af hk tk sk=>?_,λk dk af op t hk tk sk ag ae=>?_,λt y hy hno=>?_,?_,?_,λk q oq h1 h2 h3=>?_⟩
 .rw[hK.done.2,vI,decide_eq_true_iff] at hk;rcases hk with hk|rfl
  .exact hl k (j.done k hk)
  .rw[DV hi,p_ Z]
 .obtain⟨h1,h2,h3,dk,af,op,b2,m2,lQ,t2,s4,h4,h5,h6,h8,h7⟩:=j.held k D sz o2 hk;rcases Tr.inv hs t2 with ⟨e,_⟩|⟨_,t3⟩
  .rw[e,hi] at h1;cases h1
  ·(have ad:∀e∈lQ,e.1≠i:=λe he e1=>by obtain⟨oe,g1,g2⟩:=Q4 lY h4 h5 h8 he;rw[e1,ho] at g1;cases g1;rw[ai] at g2;cases g2);refine⟨hl k h1,h2,h3,dk,af,op,b2,m2,lQ,t3,s4,h4,h5,h6,h8,λR' n' h=>?_⟩;rw[Im hi ad];have h':=h.less hi ad;exact h7 R' n' ⟨ah k R' n' h'.1,λe he hl=>ah e.1 R' n' (h'.2 e he hl)⟩
 .rcases hl2 k hk with rfl|hk
  .obtain⟨_,_,t1,_⟩:=ha;exact lU t1 Z
  .exact j.noact k hk (ha.next hs)
 .rcases hl2 k hk with rfl|hk
  .exact a_ Z (lU tk)
  .exact j.all k dk af hk (up tk) sk
 .rcases hl2 k hk with rfl|hk
  .exact a_ Z (lU tk)
  .obtain⟨u,y,h1,h2,h3⟩:=j.early k dk af op t hk (up tk) sk ag ae;refine⟨u,y,?_,h2,λR' n' h=>h3 R' n' (ah k R' n' h)⟩;rw[QL (λe=>lU tk (lY i k t o op ho ag e ae))];exact h1
 .by_cases e:o.dst=O t
  .rw[e] at hp;rw[FY hp,p_ Z] at hy;cases hy;exact⟨v,by rw[e];exact XN (by rw[j.nt];exact TG hp),hv⟩
  .rw[FY hp,n_ e] at hy
   obtain⟨u,h1,h2⟩:=j.rest t y hy λk dk op hk tk ag=>by
    rcases Tr.inv hs tk with ⟨rfl,_⟩|⟨_,t3⟩
    .rw[hi] at hk;cases hk
    .exact hno k dk op (hl k hk) t3 ag
   exact⟨u,by rw[QL e];exact h1,h2.mono hnx hE⟩
 .rw[QJ];exact j.nt
 .rw[Lm];exact j.ds
 .rw[hK.done.2,vI,decide_eq_true_iff] at h1;rcases h1 with h1|rfl
  .exact hl q (j.fills k q oq h1 h2 h3)
  .obtain⟨_,_,_,_,oi,ak,_,_,g3,g4⟩:=Px h3;rw[ul,ho] at g3;cases g3;rw[g4] at hA;cases hA
theorem Tr.split {l:List Nat} (h:Tr E call nt ops.toList cl l d i di):∃l1 l2,l=l1++i::l2/\FA E call nt ops.toList cl l1 d=O di/\∀k∈l1,di.done.testBit k=true:=by
 induction h with
 |here _=>exact⟨[],_,Z,Z,λk hk=>by cases hk⟩
 |next hs lU t ih=>
  obtain⟨l1,l2,rfl,h2,h3⟩:=ih;refine⟨_::l1,l2,Z,by simp only[FA,hs];exact h2,λk hk=>?_⟩;rcases ut.1 hk with rfl|hk
  .exact t.mono (by rw[(BA hs).done.2];simp)
  .exact h3 k hk
end
section
variable {R R':Nat->Nat×Nat} {n n':Nat}
theorem BR.size {ad:Nat} {ob:Obj} (h:BR R n sz lu ob) (h':BR R' n' ad lu ob):BR R n ad lu ob:=by
 cases lu with
 |cells e cs=>obtain⟨arr,rfl,h2,h3,h4,h5⟩:=h;obtain⟨aa,e1,g2,g3,_,_⟩:=h';cases e1;exact⟨arr,Z,g2,g3,h4,h5⟩
 |ro e cs=>obtain⟨arr,f,rfl,h2,h3,h4,h5⟩:=h;obtain⟨aa,f',e1,g2,g3,_,_⟩:=h';cases e1;exact⟨arr,f,Z,g2,g3,h4,h5⟩
 |map es=>exact h
 |loop=>exact h
theorem Xy {o:Obj} (h:w.alloc o=w.alloc o'):o=o':=by have h1:=heap_alloc_new w o;have h2:=heap_alloc_new w o';rw[h,h2] at h1;exact(Option.some.inj h1).symm
end
end
end
section
variable {K:Act->World->Prop} {a:AJ AV} {lu:Fk} {di di':FX} {lQ:List (Nat×AV×AV)} {i m:Nat} {o:Oper}
noncomputable section
section
variable {P:P_} {E:CF} {call:C9} {nt:Nat} {ops:Array Oper} {cl:AJ Nat} {fr fr':Nat->Option Obj} {w0 w w':W_} {ds:List Deferred} {df d d':FX} {l:List Nat} {nD:Array Bool} {Hd:Df} {R R1:Nat->Nat×Nat} {act:Act} {F:Fence} {n:Nat} {Q:Exit->Act->W_->Prop}
theorem bU {E:CF} {op:Op} {mk:Nat->AV} (h:OG E a op=O (lu,mk)):Kh lu []=lu:=by
 cases lu with
 |map es=>rw[(ZI h).1];rfl
 |cells=>rfl
 |ro=>rfl
 |loop=>rfl
theorem dW {ops:List Oper} {o:Oper} (h:Qy o.op=B) (ty:T_) (t:Nat) (k v:O_):o.op≠ .insert ty (.tmp t) k v:=λe=>by
 rw[e] at h
 cases h
structure aF (ops:Array Oper) (cl:AJ Nat) (df:FX):Prop where
 mask:FJ ops cl
 all:El ops cl
 full:∀(k:Nat) (o:Oper),ops[k]?=O o->df.done.testBit k=B
 one:∀(k k' t:Nat) (o o':Oper),ops[k]?=O o->ops[k']?=O o'->o.dst=O t->o'.dst=O t->k=k'
 sees:∀(i m:Nat) (o:Oper),ops[i]?=O o->cl.get i=O m->∀t∈Hm o.op.operands.toList,∀(k:Nat) (ok:Oper),ops[k]?=O ok->ok.dst=O t->m.testBit k=B\/∃mk,cl.get k=O mk/\mk.testBit i=B
 gd:∀(i m:Nat) (o:Oper),ops[i]?=O o->cl.get i=O m->∀g b og,o.guard=O (g,b)->ops[g]?=O og->m.testBit g=B
theorem J.news (hE:Ap P E) (st:aF ops cl df) (j:J P E call nt ops cl fr w0 ds df l d nD Hd fr' R act w) (hr:i∈uj .any ops nD) (ti:Tr E call nt ops.toList cl l d i di) (hs:Cw E call nt ops.toList cl i di=O di') (ho:ops[i]?=O o) (hm:cl.get i=O m) {mk:Nat->AV} (hA:OG E di.a o.op=O (lu,mk)) (aa:Gu E cl di.done i di.a ops.toList lu o.dst=O lQ) (af:di'.s=di.s.new (Kh lu lQ)) (hh:di'.hist=di.hist) (hp:Fm nt di.a o.dst (mk di.s.nx)=O di'.a):∃v w' aj ai,(x_ act.eval o).run P w= .ok (.value v) w'/\J P E call nt ops cl fr w0 ds df l d (nD.setIfInBounds i B) aj ai R (act.put o.dst v) w':=by have hi:=D9 hr;have hnl:nD[i]?≠O true:=(by rw[hi];simp);(have ag:∀q,CP ops q i->nD[q]?=O true:=λq hq=>En j.closed hr hq);have ah:OG E (Gg di.a (Hm o.op.operands.toList)) o.op=O (lu,mk):=(by rw[aM λy hy=>Pr (ve.2 hy)];exact hA);(have one:∀R' n',Li E call nt ops cl l d Hd R i R' n'->_:=λR' n' ae=>bL hE (j.tr st.mask st.full st.one ti ag hnl hm (st.sees i m o ho hm) ae) ah w);obtain⟨R1,n1,ad⟩:=j.ex;obtain⟨ob,v,sz,r1,r2,r3⟩:=one R1 n1 (ad i);refine⟨v,w.alloc ob,_,_,r1,j.new st.mask st.one hr ti hs ho hA aa af hh hp (sz:=sz) (λR' n' ae=>?_) r3⟩;rw[bU hA];obtain⟨an,v2,ak,e1,e2,_⟩:=one R' n' ae;rw[r1] at e1;have e3:=Xy (Result.ok.inj e1).2;subst e3;exact e2.size r2
theorem J.next (hE:Ap P E) (hc:Hi P call) (hF:ED F) (st:aF ops cl df) (j:J P E call nt ops cl fr w0 ds df l d nD Hd fr' R act w) (hd:E9 ops d.done) (hh:∃c rest,d.hist=(c,d.s.h)::rest) (hr:i∈uj .any ops nD) (hK:∀l2 d2 ae af R2 ad w2,E4 d.s.nx R R2->d.s.nx<=d2.s.nx->J P E call nt ops cl fr w0 ds df l2 d2 (nD.setIfInBounds i B) ae af R2 ad w2->E9 ops d2.done->(∃c rest,d2.hist=(c,d2.s.h)::rest)->K ad w2):wpOpIn F n P ops Q i K act w:=by
 obtain⟨o,ho⟩:=hU hr;have hi:=D9 hr;have hnl:nD[i]?≠O true:=(by rw[hi];simp);(have ak:∀q,CP ops q i->nD[q]?=O true:=λq hq=>En j.closed hr hq);obtain⟨q1,q2,q3⟩:=Cr l j.run;have hl:i∈l:=((q1 i).1 (st.full i o ho)).resolve_left (λh=>hnl (j.done i h));obtain⟨di,ti⟩:=Tr.ex l j.run hl;obtain⟨di',hs⟩:=ti.step;have ai:ops.toList[i]?=O o:=Vn;(have an:∀f,o.about P w act.eval=O f->F.fn f:=λf _=>hF.fn f);have stay:∀ae af ad w2,J P E call nt ops cl fr w0 ds df l d (nD.setIfInBounds i B) ae af R ad w2->K ad w2:=λae af ad w2 j2=>hK l d ae af R ad w2 (E4.refl _ _) (uq _) j2 hd hh
 have aa:∀{m:Nat} {r:Bool},cl.get i=O m->E7 ops.toList di.a o.guard=O r->uz o (yielded ops act.tmps)=r:=fun {m r} hm hg=>
  j.wanted st.mask st.full st.one ti ak hnl hm (st.gd i m o ho hm) hg
 unfold wpOpIn;rw[ho];simp only;have ba:=BA hs
 cases ba with
 |skip a1 a2 a3 a4 a5 a6=>rw[ai] at a1;cases a1;rw[aa a2 a4];simp only[um,if_false];refine⟨an,stay _ _ _ _ (j.add st.one hr ti hs ho (λ_ _ _ _ _ e=>?_) Z Z a6 j.hr λR' n' _=>VR.undef)⟩;rw[e] at a4;cases a4
 |@read _ m x a a1 a2 a3 a4 a5 a6 a7 a8=>
  rw[ai] at a1;cases a1;rw[aa a2 a4];simp only[if_true];obtain⟨c,rest,ah⟩:=hh;obtain⟨l1,e1,e2⟩:=ti.hist
  have hx:aU E di.a d.s.h o.op=O x:=by
   (refine Xl a7 (l1:=l1) (c:=c) (l2:=rest) (by rw[e1,ah]) λp hp=>?_);obtain⟨c',az,ha⟩:=e2 p hp;refine⟨c',az,?_⟩
   cases hb:m.testBit c' with
   |false=>rfl
   |true=>exact a_ ha (j.noact c' (ak c' (st.mask i m a2 c' hb)))
  obtain⟨v,w',r1,r2,r3⟩:=j.reads hE st.mask st.full st.one ti ak hnl a2 (st.sees i m o ho a2) a6 hx;refine⟨an,?_⟩;(have aj:∀c,o.op≠ .defer c:=λc e=>by rw[e] at a6;cases a6);rw[Oper.semAt_eq _ _ _ aj,r1,Oper.uponIn_value];exact stay _ _ _ _ (j.add st.one hr ti hs ho (λty t k v e=>a_ e (dW (ops:=[]) a6 ty t k v)) Z Z a8 r2 r3)
 |@new _ m lu mk lQ a a1 a2 a3 a4 a5 a6 a7 a8 a9=>rw[ai] at a1;cases a1;rw[aa a2 a4];simp only[if_true];obtain⟨v,w',ae,af,r1,j2⟩:=j.news hE st hr ti hs ho a2 a7 a8 Z Z a9;refine⟨an,?_⟩;(have aj:∀c,o.op≠ .defer c:=λc e=>by rw[e] at a7;cases a7);rw[Oper.semAt_eq _ _ _ aj,r1,Oper.uponIn_value];exact stay _ _ _ _ j2
 |@ins _ m i' t b ty k v a a1 a2 a3 a4 a5 a6 a7 a8 a9 aq=>rw[ai] at a1;cases a1;rw[aa a2 a4];simp only[if_true];obtain⟨w',ae,af,r0,r1,j2⟩:=j.ins hE st.all hd st.mask st.full st.one hr ti hs ho a2 (st.sees i m o ho a2) a6 a7 a8 a9 Z Z;refine⟨an,?_⟩;(have aj:∀c,o.op≠ .defer c:=λc e=>by rw[e] at a8;cases a8);rw[Oper.semAt_eq _ _ _ aj,r1,Oper.uponIn_skip,r0];exact stay _ _ _ _ j2
 |@act _ r s2 a a1 a2 a3 a4 a5 a6 a7 a8 a9 aq bb=>
  rw[ai] at a1;cases a1;rw[aa a2 a4];simp only[if_true];obtain⟨l1,l2,ao,ag,hl1⟩:=ti.split;subst ao;have ar:∀k,di.done.testBit k=B->nD[k]?=O true:=λk hk=>ak k (st.mask i _ a2 k hk)
  obtain⟨d2,ae,af,R2,c1,j2,c3,c4,c5,c6⟩:=J.catch st.all st.one l1 j (λk hk=>ar k (hl1 k hk)) (λk hk q oq hq ay=>by
   have:=MJ ops.toList 0 a8 q oq k (by rw[ul];exact hq) ay (hl1 k hk);rw[vq] at this
   exact ar q this) hd
  rw[ag] at c1;cases c1;obtain⟨_,_,p3⟩:=Cr (i::l2) j2.run
  have ax:ae i=none:=by
   cases hx:ae i with
   |none=>rfl
   |some x=>have:=(j2.held i x.1 x.2.1 x.2.2 hx).1;rw[hi] at this;cases this
  have av:Li E call nt ops cl (i::l2) di ae R2 i R2 di.s.nx:=⟨E4.refl _ _,uq _,λk D sz o2 dk hk hH tk=>by
   rcases hk with rfl|hk
   .rw[ax] at hH;cases hH
   .have g1:=p3 k tk.mem;rw[Iq st.all c3 hs hk] at g1
    cases g1⟩
  have au:Tr E call nt ops.toList cl (i::l2) di i di:= .here hs;have hT:=j2.tr st.mask st.full st.one au ak hnl a2 (st.sees i _ o ho a2) av;have aw:aV E call (Gg di.a (Hm o.op.operands.toList)) di.s o=O (r,s2):=(by rw[aR λy hy=>Pr (ve.2 hy)];exact a9);(refine ki hE hc hF j2.hr hT aw λR' v w' g1 g2 g3 g4=>?_);refine hK l2 _ ae af R' _ w' (c4.trans c5 g1) (vB c5 aq) (j2.acts st.one hr hs ho a5 a7 bb aq g1 g3 g4) (c3.step st.all hs) ⟨O i,di.hist,Z⟩
end
end
end
section
noncomputable section
theorem Rv {α:Type} {p:α->Prop}:∀{l:List α},(∃k∈l,¬p k)->∃l1 i l2,l=l1++i::l2/\(∀k∈l1,p k)/\¬p i
 |[],h=>by obtain⟨k,hk,_⟩:=h;cases hk
 |x::l,h=>by
  classical
  by_cases hx:p x
  .obtain⟨k,hk,hn⟩:=h
   rcases ut.1 hk with rfl|hk
   .exact a_ hx hn
   .obtain⟨l1,i,l2,rfl,h1,h2⟩:=Rv (p:=p) ⟨k,hk,hn⟩
    exact⟨x::l1,i,l2,Z,λk hk=>by rcases ut.1 hk with rfl|hk;exact hx;exact h1 k hk,h2⟩
  .exact⟨[],x,l,Z,(λk hk=>by cases hk),hx⟩
section
variable {P:P_} {E:CF} {call:C9} {nt:Nat} {ops:Array Oper} {cl:AJ Nat} {fr fr':Nat->Option Obj} {w0 w w':W_} {ds:List Deferred} {df d d':FX} {l:List Nat} {nD:Array Bool} {Hd:Df} {R R1:Nat->Nat×Nat} {act:Act} {F:Fence} {n:Nat} {Q:Exit->Act->W_->Prop}
theorem O3 {ops:List Oper}:∀(l1:List Nat) {l2:List Nat} {d df:FX},FA E call nt ops cl (l1++l2) d=O df->∃d1,FA E call nt ops cl l1 d=O d1/\FA E call nt ops cl l2 d1=O df
 |[],l2,d,df,h=>⟨d,Z,h⟩
 |i::l1,l2,d,df,h=>by
  simp only[we,FA] at h⊢
  split at h<;>try (cases h;done)
  rename_i d1 h1
  obtain⟨d2,g1,g2⟩:=O3 l1 h
  exact⟨d2,g1,g2⟩
theorem J.allListed (st:aF ops cl df) (j:J P E call nt ops cl fr w0 ds df l d nD Hd fr' R act w) (lC:nD.size=ops.size) (hr:uj .any ops nD=[]):∀k∈l,nD[k]?=O true:=by
 intro k hk;false_or_by_contra;rename_i hn;obtain⟨l1,i,l2,rfl,h1,h2⟩:=Rv (p:=λk=>nD[k]?=O B) ⟨k,hk,hn⟩;obtain⟨di,r1,r2⟩:=O3 l1 j.run;simp only[FA] at r2;(split at r2<;>try (cases r2;done));rename_i di' hs;obtain⟨q1,_,_⟩:=Cr l1 r1;obtain⟨o,x,ho,_⟩:=(BA hs).put;rw[ul] at ho;obtain⟨m,hm,hb⟩:=(BA hs).before;have lg:i<nD.size:=(by rw[lC];exact(vU.1 ho).1)
 have aa:i∈uj .any ops nD:=by
  refine mem_ready.2 ⟨?_,o,ho,λe he ad=>?_⟩
  .rw[vp]
   cases hx:nD[i]? with
   |none=>rw[Array.getElem?_eq_none_iff] at hx;omega
   |some b=>
    cases b with
    |false=>rfl
    |true=>exact a_ hx h2
  .have h3:=(q1 e.on).1 (hb e.on (st.all i m o hm ho e he ad))
   have h4:nD[e.on]?=O true:=by
    rcases h3 with h3|h3
    .exact j.done _ h3
    .exact h1 _ h3
   rw[vp,h4];rfl
 rw[hr] at aa;cases aa
theorem J.finish (st:aF ops cl df) (j:J P E call nt ops cl fr w0 ds df l d nD Hd fr' R act w) (hd:E9 ops d.done) (lC:nD.size=ops.size) (hr:uj .any ops nD=[]):∃R2,E4 d.s.nx R R2/\d.s.nx<=df.s.nx/\Oh fr w0 nt ds R2 df.a df.s act w:=by
 have hl:=j.allListed st lC hr;obtain⟨q1,q2,q3⟩:=Cr l j.run;have j':J P E call nt ops cl fr w0 ds df (l++[]) d nD Hd fr' R act w:=(by rw[vt];exact j)
 obtain⟨d2,ae,ad,R2,c1,j2,c3,c4,c5,c6⟩:=J.catch st.all st.one l j' hl (λk hk q oq hq aa=>by
  rcases(q1 q).1 (st.full q oq hq) with h|h
  .exact j.done q h
  .exact hl q h) hd
 rw[j.run] at c1;cases c1;exact⟨R2,c4,c5,j2.hr.less j2.frs,λt x hx=>j2.rest t x hx λk dk op _ tk=>(by cases tk),j2.nt,j2.ds⟩
theorem J.any (hE:Ap P E) (hc:Hi P call) (hF:ED F) (st:aF ops cl df) {R0:Nat->Nat×Nat} {n0:Nat} (hQ:∀R' aa w',E4 n0 R0 R'->n0<=df.s.nx->Oh fr w0 nt ds R' df.a df.s aa w'->Q .normal aa w'):∀(fuel:Nat) (nD:Array Bool) (l:List Nat) (d:FX) (Hd:Df) (fr':Nat->Option Obj) (R:Nat->Nat×Nat) (act:Act) (w:W_),J P E call nt ops cl fr w0 ds df l d nD Hd fr' R act w->E9 ops d.done->(∃c rest,d.hist=(c,d.s.h)::rest)->nD.size=ops.size->nD.toList.count G<=fuel->E4 n0 R0 R->n0<=d.s.nx->wpAnyIn F n P .any ops Q fuel nD act w:=by
 intro fuel
 induction fuel with
 |zero=>
  intro nD l d Hd fr' R act w j hd hh lC af ad hn0
  have hr:uj .any ops nD=[]:=by
   cases hx:uj .any ops nD with
   |nil=>rfl
   |cons i rs=>have hi:=D9 (ops:=ops) (nD:=nD) (i:=i) (by rw[hx];exact .head _);have:G∈nD.toList:=(by rw[<-ul] at hi;exact vR hi);have:=List.count_pos_iff.2 this;omega
  obtain⟨R2,h1,h2,h3⟩:=j.finish st hd lC hr;exact⟨hr,hQ R2 act w (ad.trans hn0 h1) (vB hn0 h2) h3⟩
 |succ fuel ih=>
  intro nD l d Hd fr' R act w j hd hh lC af ad hn0;refine⟨λhr=>?_,λi hi=>?_⟩
  .obtain⟨R2,h1,h2,h3⟩:=j.finish st hd lC hr;exact hQ R2 act w (ad.trans hn0 h1) (vB hn0 h2) h3
  ·(refine j.next hE hc hF st hd hh hi λl2 d2 aj ai R2 ag w2 g1 g2 j2 g3 g4=>?_);refine ih _ l2 d2 aj ai R2 ag w2 j2 g3 g4 (by simpa using lC) ?_ (ad.trans hn0 g1) (vB hn0 g2);have ae:=D9 hi;obtain⟨lg,ah⟩:=vU.1 ae;have hm:G∈nD.toList:=(by rw[<-ul] at ae;exact vR ae);have h1:(nD.setIfInBounds i B).toList.count G=nD.toList.count G-1:=(by rw[Array.toList_setIfInBounds,List.count_set (by simpa using lg)];simp[ah]);omega
theorem KO (hm:P.follows .mixedOrders=B) (hE:Ap P E):JJ P (JE E):=by
 intro call hc nt ops a s r h F m fr R w0 w ds act id Q hF hrel hQ;unfold JE at h;simp only at h;obtain⟨hst,h⟩:=Ej h;(split at h<;>try (cases h;done));rename_i df ad;obtain⟨af,h⟩:=Ej h;cases h;have af:=B0 af
 have st:aF ops (QE ops.toList 0 .leaf) df:={
  mask:=iM ops
  all:=bR ops
  full:=λk o ho=>by rw[af,show Nat.shiftLeft 1 ops.toList.length=1<<<ops.toList.length from Z,Nat.one_shiftLeft,Nat.testBit_two_pow_sub_one];have:=(vU.1 ho).1;simpa using this
  one:=λk k' t o o' ho ah hd ai=>VD hst k k' t o o' Vn (by rw[ul];exact ah) hd ai
  sees:=λi m o ho ae t ht k ok hk hd=>Zj hst Vn ae t ht k ok (by rw[ul];exact hk) hd
  gd:=λi m o ho ae g b og hg ag=>by
   obtain⟨⟨m2,e1,_,e2⟩,_⟩:=I8 ops.toList 0 Z hst i o (un _) Vn;rw[ae] at e1;cases e1
   exact e2 g b og hg (by rw[ul];exact ag)}
 (have aa:∀k:Nat,(wH ops.size G)[k]?≠O true:=λk h=>by rw[Array.getElem?_replicate] at h;split at h<;>cases h);refine wpIn_region_any hm ?_;refine J.any hE hc hF st (R0:=R) (n0:=s.nx) hQ ops.size _ _ _ (λ_=>X) fr R act _ ⟨ad,λk hk=>?_,λi k hi _=>a_ hi (aa i),⟨hrel.hr.os,hrel.hr.tape,hrel.hr.output,hrel.hr.fr,hrel.hr.lt,hrel.hr.own,hrel.hr.inj⟩,λ_ _ h=>h,λi D sz o h=>CZ,λi k D sz o s2 o2 h=>CZ,λi hi=>a_ hi (aa i),λi di di' hi=>a_ hi (aa i),λi di di' op t hi=>a_ hi (aa i),λt x hx _=>hrel.tr t x hx,hrel.nt,hrel.ds,λi j oj hi=>?_⟩ (λi k hi=>?_) ⟨X,[],Z⟩ (by simp) (by simp) (E4.refl _ _) (uq _)
 .rw[wI] at hk;cases hk
 .rw[wI] at hi;cases hi
 .rw[wI] at hi;cases hi
end
end
end
section
variable {P:Program} {R':Nat->Nat×Nat} {m n n':Nat} {w:World} {x:AV}
noncomputable section
def pK (d:TypeDesc):TK:=match d with
 | .struct fs=> .str (fs.toList.map λf=>(f.offset,f.type))
 | .array n e=> .arr n e
 | .int k=> .int k
 | .slice e=> .slice e
 | .map k e=> .map k e
 | .string=> .string
 | .bool=> .bool
 | .pointer e=> .ptr e
 | .func _ _ _=> .func
 |_=> .other
def kM (t:Nat):List (Nat×List TK)->Option (List TK)
 |[]=>X
 |e::l=>bif vJ e.1 t then O e.2 else kM t l
def pW (P:P_) (eqs:List (Nat×List TK)) (t:Nat):Option TI:=match P.info? t with
 |none=>X
 |some i=>match P.underlying t with
  |none=>X
  |some d=>O ⟨pK d,kM t eqs,i.size,i.bytes,match i.zero with
   |some z=>kC 2 z
   |none=>X⟩
def Qu {β:Type} (f:Nat->Option β) (n fuel:Nat):Nat->Nat->Au β:=Nat.rec (λ_ _=> .leaf) (λ_ ih a b=>Bool.rec .leaf (.node (f b) (ih (uu a 4) (vL b a)) (ih (uu a 4) (vL b (uu a 2))) (ih (uu a 4) (vL b (uu a 3))) (ih (uu a 4) (vL b (uu a 4)))) (Nat.ble (wJ b) n)) fuel
theorem JP {β:Type} (f:Nat->Option β) (n:Nat):∀(fuel a b j:Nat) (x:β),(Qu f n fuel a b).get j=O x->f (a*j+b)=O x
 |0,a,b,j,x,h=>by cases h
 |fuel+1,a,b,j,x,h=>by
  change (Bool.rec Au.leaf (Au.node (f b) (Qu f n fuel (a*4) (b+a)) (Qu f n fuel (a*4) (b+a*2)) (Qu f n fuel (a*4) (b+a*3)) (Qu f n fuel (a*4) (b+a*4))) (Nat.ble (wJ b) n):Au β).get j=O x at h
  cases hb:Nat.ble (wJ b) n with
  |false=>rw[hb] at h;cases h
  |true=>
   rw[hb] at h
   change (Au.node (f b) (Qu f n fuel (a*4) (b+a)) (Qu f n fuel (a*4) (b+a*2)) (Qu f n fuel (a*4) (b+a*3)) (Qu f n fuel (a*4) (b+a*4))).get j=O x at h
   cases j with
   |zero=>rw[Au.get_zero] at h;rw[Nat.mul_zero,vq];exact h
   |succ j=>
    rw[Au.get_succ] at h
    have hj:=Nat.div_add_mod j 4
    have key:∀k,j%4=k->a*(j+1)+b=a*4*(j/4)+(b+a*(k+1)):=λk hk=>by
     have e:4*(j/4)+(k+1)=j+1:=by omega
     calc a*(j+1)+b=a*(4*(j/4)+(k+1))+b:=by rw[e]
      _=a*4*(j/4)+(b+a*(k+1)):=by rw[Nat.mul_add,wl,vM,vh (a*(k+1)) b]
    split at h
    .rename_i e
     have:=JP f n fuel _ _ _ x h
     rw[key 0 e];simpa using this
    .split at h
     .rename_i e
      have:=JP f n fuel _ _ _ x h
      rw[key 1 e];exact this
     .split at h
      .rename_i e
       have:=JP f n fuel _ _ _ x h
       rw[key 2 e];exact this
      .rename_i e0 e1 e2
       have:=JP f n fuel _ _ _ x h
       rw[key 3 A0];exact this
def YB {β:Type} (f:Nat->Option β) (d:Nat):Nat->Nat->TT β d:=Nat.rec (motive:=λd=>Nat->Nat->TT β d) (λb _=>f b) (λ_ ih b st=>P4.mk (ih b (uu st 4)) (ih (vL b st) (uu st 4)) (ih (vL b (uu st 2)) (uu st 4)) (ih (vL b (uu st 3)) (uu st 4))) d
theorem Jr {β:Type} (f:Nat->Option β):∀(d b st n:Nat),n<4^d->TT.get d (YB f d b st) n=f (b+st*n)
 |0,b,st,n,h=>by
  have e:n=0:=by simpa using h
  subst e;rfl
 |d+1,b,st,n,h=>by
  have h':n/4<4^d:=by rw[Nat.pow_succ] at h;omega
  show TT.get (d+1) (TT.mk4 (YB f d b (st*4)) (YB f d (b+st) (st*4)) (YB f d (b+st*2) (st*4)) (YB f d (b+st*3) (st*4))) n=_
  have key:∀k,n%4=k->st*n=st*k+st*4*(n/4):=λk hk=>by
   have e:k+4*(n/4)=n:=by omega
   calc st*n=st*(k+4*(n/4)):=by rw[e]
    _=st*k+st*4*(n/4):=by rw[Nat.mul_add,wl]
  rw[TT.get_succ]
  simp only[TT.pa_mk,TT.pb_mk,TT.pc_mk,TT.pd_mk]
  by_cases h0:n%4=0
  .rw[p_ h0,Jr f d _ _ _ h',key 0 h0];simp
  .rw[n_ h0]
   by_cases h1:n%4=1
   .rw[p_ h1,Jr f d _ _ _ h',key 1 h1,wK,vM]
   .rw[n_ h1]
    by_cases h2:n%4=2
    .rw[p_ h2,Jr f d _ _ _ h',key 2 h2,vM]
    .rw[n_ h2,Jr f d _ _ _ h',key 3 A0,vM]
def YF {β:Type} (f:Nat->Option β) (n:Nat):AJ β:=⟨YB f 4 0 1,Qu f n n 1 0⟩
theorem Qa {β:Type} (f:Nat->Option β) (n k:Nat) (x:β) (h:(YF f n).get k=O x):f k=O x:=by
 by_cases hk:k<256
 .rw[AJ.get_lo _ hk] at h;have:=Jr f 4 0 1 k hk;change TT.get 4 (YB f 4 0 1) k=O x at h;rw[this,Nat.one_mul,vq] at h;exact h
 .rw[AJ.get_hi _ hk] at h;have:=JP _ _ n 1 0 _ x h;rwa [Nat.one_mul,Nat.add_zero] at this
def cU (P:P_) (eqs:List (Nat×List TK)):CF:=⟨YF (pW P eqs) P.types.size,YF (λf=>P.funcs[f]?) P.funcs.size⟩
theorem Ue {t:Nat}:∀{l:List (Nat×List TK)} {ks:List TK},kM t l=O ks->(t,ks)∈l
 |[],ks,h=>by cases h
 |e::l,ks,h=>by
  simp only[kM] at h
  cases hb:vJ e.1 t with
  |true=>
   rw[hb,cond_true] at h
   cases h
   rw[<-B0 hb]
   exact .head _
  |false=>rw[hb,cond_false] at h;exact .tail _ (Ue h)
theorem kE (d:TypeDesc):Us (pK d) d:=by cases d;(case struct fs=>exact⟨fs,Z,λi=>by simp[pK]⟩);(case func ps rs v=>exact⟨ps,rs,v,Z⟩);all_goals first|rfl|exact⟨λ_ h=>CZ,λ_ _ h=>CZ,λ_ h=>CZ⟩
theorem dS {eqs:List (Nat×List TK)} (hn:(P.funcs.toList.all λfn=> !(fn.name== "runtime.NumGoroutine"))=B) (he:∀e∈eqs,X7 P e.1 e.2):Ap P (cU P eqs):=by
 refine⟨λt u h=>?_,λf fn h=>?_⟩
 .have h2:=Qa _ _ _ _ h;unfold pW at h2;(split at h2<;>try (cases h2;done));rename_i i hi;(split at h2<;>try (cases h2;done));rename_i d hd;cases h2;refine⟨λks ad=>he _ (Ue ad),⟨d,hd,kE d⟩,i,hi,Z,Z,λz hz=>?_⟩;simp only at hz;(split at hz<;>try (cases hz;done));rename_i z0 aa;exact⟨z0,aa,λR n=>N5 2 hz⟩
 .have h2:P.funcs[f]?=O fn:=Qa _ _ _ _ h;refine⟨h2,?_⟩;have h3:=uy.1 hn fn (by rw[<-ul] at h2;exact vR h2);simpa using h3
section
variable {P:P_}
def SZ:TypeDesc->TK->Bool
 | .bool,.bool=>B
 | .int _,.int _=>B
 | .string,.string=>B
 |_,_=>G
theorem WD {d:TypeDesc} {q:TK} (h:SZ d q=B):(d= .bool/\q= .bool)\/(∃k k',d= .int k/\q= .int k')\/(d= .string/\q= .string):=by
 unfold SZ at h;split at h
 .exact .inl ⟨Z,Z⟩
 .exact .inr (.inl ⟨_,_,Z,Z⟩)
 .exact .inr (.inr ⟨Z,Z⟩)
 .cases h
def MY (P:P_):List Field->Nat->List TK->Bool
 |[],_,[]=>B
 |f::fs,k,q::ks=>(f.name != "_")&&vJ f.offset k&&(match P.underlying f.type with
  |some d=>SZ d q
  |none=>G)&&MY P fs (k+1) ks
 |_,_,_=>G
theorem Nk {R R':Nat->Nat×Nat} {n n':Nat} {d:Nat} {xs ys:Array V_} {w:W_}:∀(fs:List Field) (k:Nat) (ks:List TK) (l m:List AV) {r:Bool},MY P fs k ks=B->BM R n l (xs.toList.drop k)->BM R' n' m (ys.toList.drop k)->Qk ks l m=O r->
  (vV (d+1) xs ys fs).run P w= .ok r w
 |[],k,ks,l,m,r,hf,hl,hm,h=>by
  cases ks with
  |nil=>
   cases l with
   |nil=>
    cases m with
    |nil=>cases h;simp[vV]
    |cons=>cases h
   |cons=>cases h
  |cons=>cases hf
 |f::fs,k,[],l,m,r,hf,hl,hm,h=>by cases hf
 |f::fs,k,q::ks,[],m,r,hf,hl,hm,h=>by cases h
 |f::fs,k,q::ks,x::l,[],r,hf,hl,hm,h=>by cases h
 |f::fs,k,q::ks,x::l,y::m,r,hf,hl,hm,h=>by
  simp only[BM] at hl hm
  obtain⟨u,us,hu,hx,hl2⟩:=hl
  obtain⟨v,vs,hv,hy,hm2⟩:=hm
  simp only[MY,vD,bne_iff_ne,ne_eq] at hf
  obtain⟨⟨⟨f1,f2⟩,f3⟩,f4⟩:=hf
  have f2:=B0 f2
  have hxs:xs[k]?=O u:=by
   have:=congrArg (λl=>l[0]?) hu
   simpa using this
  have hys:ys[k]?=O v:=by
   have:=congrArg (λl=>l[0]?) hv
   simpa using this
  have hus:xs.toList.drop (k+1)=us:=by
   have:=congrArg vu hu
   rw[vv] at this
   simpa using this
  have hvs:ys.toList.drop (k+1)=vs:=by
   have:=congrArg vu hv
   rw[vv] at this
   simpa using this
  simp only[Qk] at h
  cases hkk:(DP q x&&DP q y) with
  |false=>rw[hkk] at h;cases h
  |true=>
   rw[hkk,cond_true] at h
   rw[vD] at hkk
   have ih:∀r',Qk ks l m=O r'->(vV (d+1) xs ys fs).run P w= .ok r' w:=λr' hr'=>Nk fs (k+1) ks l m f4 (by rw[hus];exact hl2) (by rw[hvs];exact hm2) hr'
   have one:∀c,Di x y=O c->∃dd,P.underlying f.type=O dd/\dd.isRow=G/\(vx (d+1) f.type u v).run P w= .ok c w:=λc hc=>by
    cases hun:P.underlying f.type with
    |none=>rw[hun] at f3;cases f3
    |some dd=>
     rw[hun] at f3
     refine⟨dd,Z,?_⟩
     rcases WD f3 with ⟨rfl,rfl⟩|⟨_,_,rfl,rfl⟩|⟨rfl,rfl⟩
     .cases x<;>simp only[DP,um,false_and] at hkk
      cases y<;>simp only[DP,um,and_false] at hkk
      simp only[VR] at hx hy
      subst hx hy
      cases hc
      exact⟨Z,run_equalIn_bool' w d _ _ _ hun⟩
     .cases x<;>simp only[DP,um,false_and] at hkk
      cases y<;>simp only[DP,um,and_false] at hkk
      rename_i k1 a k2 b
      simp only[VR] at hx hy
      subst hx hy
      simp only[Di] at hc
      by_cases e:k1=k2
      .subst e
       rw[t_ Z,cond_true,J0] at hc
       cases hc
       refine⟨Z,?_⟩
       rw[run_equalIn_int w d _ _ _ _ _ hun]
       congr 1
      .rw[f_ e] at hc;cases hc
     .cases x<;>simp only[DP,um,false_and] at hkk
      cases y<;>simp only[DP,um,and_false] at hkk
      simp only[VR] at hx hy
      obtain⟨rfl,hxl⟩:=hx
      obtain⟨rfl,hyl⟩:=hy
      cases hc
      refine⟨Z,?_⟩
      rw[run_equalIn_string w d _ _ _ hun,M3 hxl hyl]
   have parts:∀dd,P.underlying f.type=O dd->dd.isRow=G->(part f.type xs f.offset).run P w= .ok u w/\(part f.type ys f.offset).run P w= .ok v w:=λdd h1 h2=>by
    unfold part
    simp only[Sem.run_bind,EP h1,h2,Result.andThen_ok,um,if_false,f2,hxs,hys]
    exact⟨Z,Z⟩
   cases hc:Di x y with
   |none=>rw[hc] at h;cases h
   |some c=>
    rw[hc] at h
    obtain⟨dd,o1,o2,o3⟩:=one c hc
    obtain⟨p1,p2⟩:=parts dd o1 o2
    cases c with
    |true=>
     simp only at h
     simp only[vV,f1,ne_eq,not_false_eq_true,if_true,Sem.run_bind,p1,p2,o3,Result.andThen_ok,wL,um,if_false]
     exact ih r h
    |false=>
     simp only at h
     split at h<;>try (cases h;done)
     cases h
     simp only[vV,f1,ne_eq,not_false_eq_true,if_true,Sem.run_bind,p1,p2,o3,Result.andThen_ok,wm,Sem.run_pure]
theorem kw {R:Nat->Nat×Nat} {d:Nat} {t:Nat} {dd:TypeDesc} {q:TK} (aa:P.underlying t=O dd) (hs:SZ dd q=B) {y:AV} {u v:V_} (ae:DP q x=B) (ad:DP q y=B) (hx:VR R n x u) (hy:VR R' n' y v) {c:Bool} (hc:Di x y=O c):dd.isRow=G/\(vx (d+1) t u v).run P w= .ok c w:=by
 rcases WD hs with ⟨rfl,rfl⟩|⟨_,_,rfl,rfl⟩|⟨rfl,rfl⟩
 .cases x<;>simp only[DP,um] at ae;cases y<;>simp only[DP,um] at ad;simp only[VR] at hx hy;subst hx hy;cases hc;exact⟨Z,run_equalIn_bool' w d _ _ _ aa⟩
 .cases x<;>simp only[DP,um] at ae;cases y<;>simp only[DP,um] at ad;rename_i k1 a k2 b;simp only[VR] at hx hy;subst hx hy;simp only[Di] at hc;by_cases e:k1=k2
  .subst e;rw[t_ Z,cond_true,J0] at hc;cases hc;refine⟨Z,?_⟩;rw[run_equalIn_int w d _ _ _ _ _ aa];congr 1
  .rw[f_ e] at hc;cases hc
 .cases x<;>simp only[DP,um] at ae;cases y<;>simp only[DP,um] at ad;simp only[VR] at hx hy;obtain⟨rfl,ag⟩:=hx;obtain⟨rfl,af⟩:=hy;cases hc;refine⟨Z,?_⟩;rw[run_equalIn_string w d _ _ _ aa,M3 ag af]
theorem PD {R R':Nat->Nat×Nat} {n n':Nat} {d:Nat} {xs ys:Array V_} {w:W_} {e:Nat} {dd:TypeDesc} {q:TK} (hun:P.underlying e=O dd) (hs:SZ dd q=B):∀(m k:Nat) (l l':List AV) {r:Bool},BM R n l (xs.toList.drop k)->BM R' n' l' (ys.toList.drop k)->Qk (wM m q) l l'=O r->
  (vW (d+1) e 1 xs ys (List.range' k m)).run P w= .ok r w
 |0,k,l,l',r,hl,hl',h=>by
  cases l with
  |nil=>
   cases l' with
   |nil=>cases h;simp[vW]
   |cons=>cases h
  |cons=>cases h
 |m+1,k,[],l',r,hl,hl',h=>by cases h
 |m+1,k,x::l,[],r,hl,hl',h=>by cases h
 |m+1,k,x::l,y::l',r,hl,hl',h=>by
  simp only[BM] at hl hl'
  obtain⟨u,us,hu,hx,hl2⟩:=hl
  obtain⟨v,vs,hv,hy,hm2⟩:=hl'
  have hxs:xs[k]?=O u:=by
   have:=congrArg (λl=>l[0]?) hu
   simpa using this
  have hys:ys[k]?=O v:=by
   have:=congrArg (λl=>l[0]?) hv
   simpa using this
  have hus:xs.toList.drop (k+1)=us:=by
   have:=congrArg vu hu
   rw[vv] at this
   simpa using this
  have hvs:ys.toList.drop (k+1)=vs:=by
   have:=congrArg vu hv
   rw[vv] at this
   simpa using this
  rw[List.replicate_succ] at h
  simp only[Qk] at h
  obtain⟨hkk,h⟩:=(show(DP q x&&DP q y)=B/\_ from by
   cases hkk:(DP q x&&DP q y) with
   |false=>rw[hkk] at h;cases h
   |true=>rw[hkk,cond_true] at h;exact⟨Z,h⟩)
  rw[vD] at hkk
  have ih:∀r',Qk (wM m q) l l'=O r'->(vW (d+1) e 1 xs ys (List.range' (k+1) m)).run P w= .ok r' w:=λr' hr'=>PD hun hs m (k+1) l l' (by rw[hus];exact hl2) (by rw[hvs];exact hm2) hr'
  rw[List.range'_succ]
  cases hc:Di x y with
  |none=>rw[hc] at h;cases h
  |some c=>
   rw[hc] at h
   obtain⟨o2,o3⟩:=kw (w:=w) (d:=d) hun hs hkk.1 hkk.2 hx hy hc
   have p1:(part e xs (k*1)).run P w= .ok u w:=by
    unfold part
    simp only[Sem.run_bind,EP hun,o2,Result.andThen_ok,um,if_false,wK,hxs]
    rfl
   have p2:(part e ys (k*1)).run P w= .ok v w:=by
    unfold part
    simp only[Sem.run_bind,EP hun,o2,Result.andThen_ok,um,if_false,wK,hys]
    rfl
   cases c with
   |true=>
    simp only at h
    simp only[vW,Sem.run_bind,p1,p2,o3,Result.andThen_ok,wL,um,if_false]
    exact ih r h
   |false=>
    simp only at h
    split at h<;>try (cases h;done)
    cases h
    simp only[vW,Sem.run_bind,p1,p2,o3,Result.andThen_ok,wm,if_true,Sem.run_pure]
theorem iH {t e:Nat} {q:TK} {i:TypeInfo} {dd:TypeDesc} (hu:P.underlying t=O (.array m e)) (hi:P.info? e=O i) (hc:P.cellsOf e=1) (aa:P.underlying e=O dd) (hs:SZ dd q=B) (hg:P.eqGuardType P.depth t=G):X7 P t (wM m q):=by refine⟨hg,λR R' n n' l l' xs ys r w hl ad h=>?_⟩;show(vx (9998+1+1) t (.agg xs.toArray) (.agg ys.toArray)).run P w= .ok r w;rw[run_equalIn_array w _ _ _ hu hi,hc,List.range_eq_range'];exact PD aa hs m 0 l l' Mx (by simpa using ad) h
theorem kr {t:Nat} {ks:List TK} (hu:P.underlying t=O (.struct (P.fieldsOf t))) (hs:P.stoodInHeld t=G) (hg:P.eqGuardType P.depth t=G) (hf:MY P (P.fieldsOf t).toList 0 ks=B):X7 P t ks:=by refine⟨hg,λR R' n n' l m xs ys r w hl hm h=>?_⟩;show(vx (9998+1+1) t (.agg xs.toArray) (.agg ys.toArray)).run P w= .ok r w;rw[run_equalIn_struct w _ t _ _ hu hs];exact Nk _ 0 ks l m hf Mx (by simpa using hm) h
end
end
end
section
variable {a:AJ AV} {f:FuncId} {n nt:Nat}
noncomputable section
def Ft:Code->List Code
 | .seq x y=>Ft x++Ft y
 |c=>[c]
def Gb (fn:Func):Code:=match fn.body with
 |some c=>c
 |none=> .skip
section
variable {P:P_} {E:CF} {draw:RH} {F:Fence} {m:Nat} {Q:Exit->Act->W_->Prop}
def WL (F:Fence) (m:Nat) (P:P_) (Q:Exit->Act->W_->Prop):List Code->Act->W_->Prop
 |[],a,w=>Q .normal a w
 |c::l,a,w=>c.wpIn F m P (Exit.then (WL F m P Q l) Q) a w
theorem S9:∀(l1:List Code) {l2:List Code} {a:Act} {w:W_},WL F m P (Exit.then (WL F m P Q l2) Q) l1 a w->WL F m P Q (l1++l2) a w
 |[],l2,a,w,h=>h
 |c::l1,l2,a,w,h=>by
  refine wpIn_mono (Q:=Exit.then (WL F m P (Exit.then (WL F m P Q l2) Q) l1) (Exit.then (WL F m P Q l2) Q)) h λe a w he=>?_
  cases e with
  |normal=>exact S9 l1 he
  |exit id=>exact he
  |goto l=>exact he
  |ret=>exact he
  |panic c=>exact he
  |outgrown=>exact he
theorem U7:∀(c:Code) {l:List Code} {a:Act} {w:W_},WL F m P Q (Ft c++l) a w->c.wpIn F m P (Exit.then (WL F m P Q l) Q) a w
 | .seq x y,l,a,w,h=>by
  unfold Ft at h
  rw[wo] at h
  refine wpIn_seq ?_
  refine wpIn_mono (U7 x h) λe a w he=>?_
  cases e with
  |normal=>exact U7 y he
  |exit id=>exact he
  |goto l=>exact he
  |ret=>exact he
  |panic c=>exact he
  |outgrown=>exact he
 | .skip,l,a,w,h=>h
 | .label _,l,a,w,h=>h
 | .ret,l,a,w,h=>h
 | .exit _,l,a,w,h=>h
 | .goto _,l,a,w,h=>h
 | .region ..,l,a,w,h=>h
 | .cond ..,l,a,w,h=>h
 | .block ..,l,a,w,h=>h
 | .loop _,l,a,w,h=>h
 | .rangeFunc ..,l,a,w,h=>h
 | .scope _,l,a,w,h=>h
 | .refuse _,l,a,w,h=>h
def Ix (P:P_) (inr:Bool) (nt:Nat) (l:List Code) (a:AJ AV) (s:St) (x:Ex) (a':AJ AV) (s':St):Prop:=
 ∀(F:Fence) (m:Nat) (fr:Nat->Option Obj) (R:Nat->Nat×Nat) (w0 w:W_) (ds:List Deferred) (act:Act) (Q:Exit->Act->W_->Prop),ED F->F.round.isSome=inr->Oh fr w0 nt ds R a s act w->
 (∀fr' ds' R' act' w',GM inr fr ds fr' ds'->E4 s.nx R R'->s.nx<=s'.nx->Oh fr' w0 nt ds' R' a' s' act' w'->Q x.to act' w')->WL F m P Q l act w
theorem Ix.append {inr:Bool} {l1 l2:List Code} {a1 a2:AJ AV} {s s1 s2:St} {x:Ex} (h:Ix P inr nt l1 a s .nrm a1 s1) (h':Ix P inr nt l2 a1 s1 x a2 s2):Ix P inr nt (l1++l2) a s x a2 s2:=by intro F m fr R w0 w ds act Q hF ae hrel hQ;refine S9 l1 (h F m fr R w0 w ds act _ hF ae hrel λaq au R1 ad w1 aj an hn1 ag=>?_);exact h' F m aq R1 w0 w1 au ad Q hF ae ag λao ar R2 aa w2 ai ak ah af=>hQ ao ar R2 aa w2 (aj.trans ai) (an.trans hn1 ak) (vB hn1 ah) af
def qX (E:CF) (draw:RH) (n:Nat) (inr:Bool) (nt:Nat):List Code->AJ AV->St->Option (Ex×AJ AV×St)
 |[],a,s=>O (.nrm,a,s)
 |c::l,a,s=>match ev E draw n inr nt c a s with
  |none=>X
  |some (x,a,s)=>match x with
   | .nrm=>qX E draw n inr nt l a s
   |x=>O (x,a,s)
theorem SO (hE:Ap P E) (hD:JJ P draw) {n:Nat} {inr:Bool} {nt:Nat}:∀(l:List Code) {a:AJ AV} {s:St} {x:Ex} {a':AJ AV} {s':St},qX E draw n inr nt l a s=O (x,a',s')->Ix P inr nt l a s x a' s'
 |[],a,s,x,a',s',h=>by
  cases h
  exact λF m fr R w0 w ds act Q hF hro hrel hQ=>hQ fr ds R act w (GM.refl _ _ _) (E4.refl _ _) (uq _) hrel
 |c::l,a,s,x,a',s',h=>by
  simp only[qX] at h
  split at h<;>try (cases h;done)
  rename_i x1 a1 s1 hx
  have hc:=(Po hE hD n).1 n (uq _) inr nt c a s x1 a1 s1 hx
  intro F m fr R w0 w ds act Q hF hro hrel hQ
  refine hc F m fr R w0 w ds act _ hF hro hrel λfr1 ds1 R1 act1 w1 hG1 hE1 hn1 hr1=>?_
  cases x1 with
  |nrm=>exact SO hE hD l h F m fr1 R1 w0 w1 ds1 act1 Q hF hro hr1 λfr2 ds2 R2 act2 w2 hG2 hE2 hn2 hr2=>hQ fr2 ds2 R2 act2 w2 (hG1.trans hG2) (hE1.trans hn1 hE2) (vB hn1 hn2) hr2
  |exit id=>cases h;exact hQ fr1 ds1 R1 act1 w1 hG1 hE1 hn1 hr1
  |goto l=>cases h;exact hQ fr1 ds1 R1 act1 w1 hG1 hE1 hn1 hr1
  |ret=>cases h;exact hQ fr1 ds1 R1 act1 w1 hG1 hE1 hn1 hr1
end
def kQ (t:AJ AV):List (Nat×AV)->Bool
 |[]=>B
 |e::l=>match t.get e.1 with
  |some y=>bif NL y e.2 then kQ t l else G
  |none=>G
theorem YX {t:AJ AV}:∀{l:List (Nat×AV)},kQ t l=B->∀e∈l,t.get e.1=O e.2
 |[],_,e,he=>by cases he
 |e'::l,h,e,he=>by
  simp only[kQ] at h
  split at h<;>try (cases h;done)
  rename_i y hy
  cases hb:NL y e'.2 with
  |false=>rw[hb] at h;cases h
  |true=>
   rw[hb,cond_true] at h
   rcases ut.1 he with rfl|he
   .rw[hy,Jg hb]
   .exact YX h e he
def qk:Ex->Ex->Bool
 | .nrm,.nrm=>B
 | .ret,.ret=>B
 |_,_=>G
def Lt (E:CF) (draw:RH) (n:Nat) (nt:Nat) (l:List Code) (ta:List (Nat×AV)) (sb:List (Nat×Fk)) (nx:Nat) (x:Ex) (ta':List (Nat×AV)) (sb':List (Nat×Fk)) (nx':Nat):Bool:=
 match qX E draw n G nt l (FB ta) ⟨FB sb,nx⟩ with
 |some (y,a,s)=>qk y x&&kQ a ta'&&kZ s.h sb'&&vJ s.nx nx'
 |none=>G
section
variable {P:P_} {E:CF} {draw:RH}
theorem JI (hE:Ap P E) (hD:JJ P draw) {l:List Code} {ta ag:List (Nat×AV)} {sb ad:List (Nat×Fk)} {nx ah:Nat} {x:Ex} (h:Lt E draw n nt l ta sb nx x ag ad ah=B):Ix P G nt l (FB ta) ⟨FB sb,nx⟩ x (FB ag) ⟨FB ad,ah⟩:=by
 unfold Lt at h;(split at h<;>try (cases h;done));rename_i y a s ak;simp only[vD] at h;obtain⟨⟨⟨h1,h2⟩,h3⟩,h4⟩:=h;have ai:y=x:=(by cases y<;>cases x<;>first|rfl|cases h1);subst ai;have h4:=B0 h4;intro F m fr R w0 w ds act Q hF aj hrel hQ;(refine SO hE hD l ak F m fr R w0 w ds act Q hF aj hrel λaq ar R1 af w1 an ao hn1 ae=>?_);have hsub:∀b lu,(FB ad).get b=O lu->s.h.get b=O lu:=λb lu hb=>Yx h3 _ (Lz hb)
 have aa:∀b,(FB ad).get b≠X->s.h.get b≠none:=λb hb=>by
  cases hx:(FB ad).get b with
  |none=>exact a_ hx hb
  |some lu=>rw[hsub b lu hx];simp
 refine hQ aq ar R1 af w1 an ao (by rw[<-h4];exact hn1) ⟨?_,λt z hz=>?_,ae.nt,ae.ds⟩
 .have:=ae.hr;rw[<-h4];exact⟨this.os,this.tape,this.output,this.fr,λb hb=>this.lt b (aa b hb),λb z hz=>this.own b z (hsub b z hz),λb c hb hc e=>this.inj b c (aa b hb) (aa c hc) e⟩
 .rw[<-h4];exact ae.tr t z (YX h2 _ (Lz hz))
theorem rQ {fn:Func} {c:Code} (hp:P.funcs[f]?=O fn) (ae:(fn.name== "runtime.NumGoroutine")=G) (hb:fn.body=O c) (hE:Ap P E) {x:Ex} {s:St} (ak:Ix P G fn.ntmps (Ft c) .leaf ⟨.leaf,0⟩ x a s) (hx:x= .nrm\/x= .ret) {b:Bool} (hr:Do (aC E a s) fn.results.toList=O [.b b]):Oo P f (.b b):=by
 (have h1:fn.name≠ "runtime.NumGoroutine" :=by simpa using ae);refine⟨λargs w=>by simp[callFunc,hp,h1,hb],λfr R s0 w0 w hh=>?_⟩
 classical
 let aa:Nat->Option Obj:=λk=>if ∃b,s0.h.get b≠X/\(R b).1=k then w.heap[k]? else fr k
 have ag:∀k o,fr k=O o->aa k=O o:=λk o hk=>by
  have:¬∃b,s0.h.get b≠X/\(R b).1=k:=by
   rintro⟨b,hb,e⟩
   cases hx:s0.h.get b with
   |none=>exact hb hx
   |some y=>have:=(hh.own b y hx).1;rw[e,hk] at this;cases this
  show(if _ then _ else _)=_;rw[n_ this];exact hk
 have aj:HR aa R ⟨.leaf,0⟩ w0 w:=by
  refine⟨hh.os,hh.tape,hh.output,λk o hk=>?_,λb hb=>a_ (AJ.get_leaf b) hb,λb y hy=>?_,λb c hb=>a_ (AJ.get_leaf b) hb⟩
  .by_cases e:∃b,s0.h.get b≠X/\(R b).1=k
   .have h3:aa k=w.heap[k]?:=p_ e;rw[<-h3];exact hk
   .have h3:aa k=fr k:=n_ e;rw[h3] at hk;exact hh.fr k o hk
  .exact XD
 (have back:∀w' R' s',HR aa R' s' w0 w'->HR fr R s0 w0 w':=λw' R' s' h=>by refine⟨h.os,h.tape,h.output,λk o hk=>h.fr k o (ag k o hk),hh.lt,λb y hy=>?_,hh.inj⟩;obtain⟨g1,o,g2,g3⟩:=hh.own b y hy;refine⟨g1,o,h.fr _ _ ?_,g3⟩;have h3:aa (R b).1=w.heap[(R b).1]?:=p_ ⟨b,by rw[hy];simp,Z⟩;rw[h3];exact g2);refine(callsIn_wide (n:=0)).1 (callsIn_of_wp_marks (R:=λe w'=>∃v,e= .returned v/\HR fr R s0 w0 w'/\∀R' n',VR R' n' (.b b) v) hp hb trivial ?_ Z);have hrel:Oh aa w0 fn.ntmps [] R .leaf ⟨.leaf,0⟩ {tmps:=#[]++wH (fn.ntmps-(#[]:Array V_).size) undef,defers:=[]} w:=(by refine⟨aj,λt x hx=>?_,by simp,Z⟩;rw[AJ.get_leaf] at hx;cases hx);refine wpIn_mono (U7 (l:=[]) c (Q:=bodyPostM Fence.wide 0 P fn (λe w'=>∃v,e= .returned v/\HR fr R s0 w0 w'/\∀R' n',VR R' n' (.b b) v)) ?_) λe a w he=>?_
 .rw[vt];refine ak Fence.wide 0 aa R w0 w [] _ _ (.inl Z) Z hrel λav aw R1 af w1 ar au hn1 ad=>?_
  have key:LeavesInM Fence.wide 0 P fn af.tmps (λe w'=>∃v,e= .returned v/\HR fr R s0 w0 w'/\∀R' n',VR R' n' (.b b) v) af.defers .returning w1:=by
   obtain⟨ms,_,an,hds,aq,ao⟩:=ar;rw[ad.ds,hds,vt];refine IR Z (fr:=aa) (R:=R1) (s:=s) (w0:=w0) (λw' ai=>?_) ms w1 (ad.hr.less aq) an λD hD=>?_
   .obtain⟨v,g1,g2⟩:=Rs hE ai ad.tr hr;simp only[Jx,VR] at g2;subst g2;exact⟨_,g1,_,Z,back w' _ _ ai,λR' n'=>by simp only[VR]⟩
   .obtain⟨g1,g2⟩:=ao D hD;refine⟨ad.hr.fr D _ g1,g2,λb hb' e=>?_⟩
    cases ah:s.h.get b with
    |none=>exact hb' ah
    |some y=>have:=(ad.hr.own b y ah).1;rw[e,g1] at this;cases this
  rcases hx with rfl|rfl
  .exact key
  .exact key
 .cases e with
  |normal=>exact he
  |exit id=>exact he
  |goto l=>exact he
  |ret=>exact he
  |panic c=>exact he
  |outgrown=>exact he
end
end
end
section
open Go.ChangeShapes Go.WideShapes Go.ChangeAt Go.Joins Go.Deep
variable {P:Program} {W:World} {f:FuncId}
noncomputable section
theorem Tryz.own:ownKnob Tryz.prog.godebug=none:=by kernel_rfl
theorem Tryz.laidOut:laidOutB uh=true:=by kernel_rfl
section
variable {H:Type} {enc:T_×V_->H} {P:P_}
theorem RW {f:Func} {s:ChangeSpec} {apart VL handsOn again:Bool} {W':W_} {args:Array V_} {v:V_} {ds gs:List (DataW H)} {before pa pv:List MemPlace} (hW:DataW.Whole enc P f.params.toList s.vars apart W args.toList ds gs before) (ae:∀(b:Nat) (sp:Nat->Bool) (hd:Bool),DataW.TrodAll enc P W' b sp hd f.resultTypes.toList (v.resultList f.resultTypes.size) (s.fn H (ds++gs)).results []) (ad:∀sp:Nat->Bool,(∀p∈before,sp p.block=B)->DataW.TrodAll enc P W' 0 sp B f.params.toList args.toList (s.fn H (ds++gs)).args pa) (aa:∀sp:Nat->Bool,(∀p∈before,sp p.block=B)->DataW.TrodVars enc P W' sp s.vars (s.fn H (ds++gs)).vars pv) (af:before=pa++pv) (hb:Below W.heap.size W W') (ag:∀(j:Nat) (t:T_) (r:V_),f.resultTypes[j]?=O t->(v.resultList f.resultTypes.size)[j]?=O r->wt P W' .any 0 t r):s.post enc P f apart VL handsOn again W args v W':=by
 (have lg:∀p∈before,p.block<W.heap.size:=λp hp=>hW.lt p hp);(have hold:∀p∈before,(λb=>T (b<W.heap.size)) p.block=true:=λp hp=>by simpa using lg p hp);refine⟨ds,gs,before,[],pa,pv,hW,ae _ _ _,ad _ hold,aa _ hold,World.keptBut_mono (λp hp=>⟨hp,?_⟩) (hb.frame (·∈before)),λ_=>?_⟩
 .rw[af,vZ] at hp;exact Or.inr hp
 .obtain⟨_,_,_,_,_,hz,hn⟩:=hW;refine⟨ag,_,_,([]++pa)++pv,⟨[]++pa,pv,trodAll_append (ad _ (λ_ _=>rfl)) (ae _ _ _),aa _ (λ_ _=>rfl),Z,?_,?_⟩,?_⟩
  .intro b off hp;have hin:MemPlace.cell b off∈before:=(by rw[af];simpa using hp);rw[hb.frozen (lg _ hin)];exact hz b off hin
  .intro ha;have:=hn ha;rw[af] at this;simpa using this
  .intro p hp _;rw[af];simpa using hp
end
theorem VW:(Tryz.prog.funcs.toList.all λfn=> !(fn.name== "runtime.NumGoroutine"))=true:=by kernel_rfl
theorem FG:Tryz.prog.follows .mixedOrders=true:=by kernel_rfl
theorem Oo.below {b:Bool} (h:Oo P f (.b b)) (w:W_):K_ P f #[] w λe w'=>e= .returned (.bool b)/\Below w.heap.size w w':=by
 refine(h.2 (λk=>w.heap[k]?) (λ_=>(0,0)) ⟨.leaf,0⟩ w w ⟨Z,Z,Z,λk o h=>h,λb hb=>a_ (AJ.get_leaf b) hb,λb y hy=>?_,λb c hb=>a_ (AJ.get_leaf b) hb⟩).mono ?_
 .exact XD
 .rintro e w' ⟨v,rfl,h1,h2⟩;have h3:=h2 (λ_=>(0,0)) 0;simp only[VR] at h3;subst h3;refine⟨Z,h1.os,h1.tape,h1.output,?_,λk hk=>?_⟩
  .rcases Nat.eq_zero_or_pos w.heap.size with h0|h0
   .omega
   .have hk:w.heap[w.heap.size-1]?=O (w.heap[w.heap.size-1]'A0):=wu A0;have:=Af (h1.fr _ _ hk);omega
  .have aa:w.heap[k]?=O (w.heap[k]'hk):=wu hk;rw[aa,h1.fr _ _ aa]
end
end
structure Bk where
 kind:Nat
 n:Int
 s:ByteArray
theorem Bk.ext_iff' (a b:Bk):a=b↔a.kind=b.kind/\a.n=b.n/\a.s=b.s:=by cases a;cases b;simp
instance:DecidableEq Bk:=λa b=>decidable_of_iff _ (Bk.ext_iff' a b).symm
def BN (c:UInt8):Bool:=33<=c&&c<=126&&c !=34
def B3 (s:ByteArray):Bool:=s.data.toList.all BN&&T (1<=s.size/\s.size<=40)
theorem Ef (c:UInt8):BN c=B↔(33<=c.toNat/\c.toNat<=126/\c.toNat≠34):=by unfold BN;simp[UInt8.le_iff_toNat_le,<-UInt8.toNat_inj,and_assoc]
theorem Fx (c:UInt8):BN c=G↔(c.toNat<33\/126<c.toNat\/c.toNat=34):=by
 have h:=Ef c;cases hb:BN c
 .exact Sr
 .exact Sr
theorem Wt (s:ByteArray) (k:Nat) (h:k<s.size) (hb:BN s[k]=G):B3 s=false:=by unfold B3;rw[B4 BN s.data.toList k CE hb];rfl
theorem Uw (s:ByteArray) (h:¬(1<=s.size/\s.size<=40)):B3 s=false:=by unfold B3;rw[f_ h,wN]
theorem Ny (s:ByteArray) (k:Nat) (hk:¬k<s.size) (hl:1<=s.size/\s.size<=40) (h:(s.data.toList.take k).all BN=B):B3 s=true:=by rw[vy (by simpa using hk)] at h;unfold B3;rw[h,t_ hl];rfl
theorem Wq (s:ByteArray) (k:Nat) (hk:¬k<s.size) (h:(s.data.toList.take k).all BN=B):B3 s=T (1<=s.size/\s.size<=40):=by rw[vy (by simpa using hk)] at h;unfold B3;rw[h,wO]
theorem R7 (s:ByteArray) (k:Nat) (h:k<s.size) (ha:(s.data.toList.take k).all BN=B) (hb:BN s[k]=B):(s.data.toList.take (k+1)).all BN=true:=by rw[Bi _ _ _ CE,ha];exact hb
def Bk.plain (v:Bk):Bool:=
 if v.kind=0 then T (v.n=0)&&T (v.s=ui)
 else if v.kind=1 then T (v.s=ui)&&T (-1000000000<=v.n/\v.n<=1000000000)
 else if v.kind=2 then T (v.s=ui)&&T (0<=v.n/\v.n<=1)
 else if v.kind=3 then T (v.n=0)&&DC v.s
 else if v.kind=4 then T (v.n=0)&&B3 v.s
 else if v.kind=5 then T (v.s=ui)&&T (0<=v.n)
 else G
def oV (half:Int) (v:Bk):Prop:=v.kind=5/\v.n%2≠half
instance (half:Int) (v:Bk):Decidable (oV half v):=by unfold oV;infer_instance
def C0:Bk:=⟨0,0,ui⟩
def Bk.v (x:Bk):V_:= .agg #[Y .u8 x.kind,Y I x.n,U x.s]
def Bk.cs (x:Bk):List V_:=[Y .u8 x.kind,Y I x.n,U x.s]
structure Bk.fit (x:Bk):Prop where
 k:x.kind<256
 n:EH x.n
 s:x.s.size<=maxLen
def Q9:Kc Bk:=⟨3,λ_ cs x=>cs=x.cs/\x.fit,λ_ h=>h,λh=>by rw[h.1];rfl⟩
section
variable {c i k n:Nat} {α:Type} {p:α->Bool}
structure AK where
 name:ByteArray
 f:List ByteArray
structure AE where
 kind:Nat
 name:ByteArray
 field:ByteArray
 to:ByteArray
 v:Bk
structure BZ where
 k:List AK
 r:List ByteArray
def DG {α:Type} (p:α->Bool) (l:List α):Int:=match l.findIdx? p with
 |some k=>(k:Int)
 |none=> -1
theorem EQ {l:List α} (k:Nat) (hk:¬k<l.length) (h:(l.take k).all (λx=> !p x)=B):DG p l= -1:=by rw[vy A0] at h;have:l.findIdx? p=none:=(by rw[wv];intro x hx;have:=uy.1 h x hx;simpa using this);unfold DG;rw[this]
theorem KF {l:List α} (k:Nat) (hk:k<l.length) (hp:p l[k]=B) (h:(l.take k).all (λx=> !p x)=B):DG p l=(k:Int):=by have:l.findIdx? p=O k:=(by rw[ww];refine⟨hk,hp,λj hj=>?_⟩;have:=uy.1 h l[j] (List.mem_take_iff_getElem.2 ⟨j,by omega,Z⟩);simpa using this);unfold DG;rw[this]
theorem Cy (p:α->Bool) (l:List α):(DG p l= -1/\∀x∈l,p x=G)\/∃k,∃h:k<l.length,DG p l=(k:Int)/\p l[k]=true:=by
 unfold DG
 cases h:l.findIdx? p with
 |none=>refine .inl ⟨Z,λx hx=>?_⟩;have:=wv.1 h x hx;simpa using this
 |some k=>obtain⟨h1,h2,_⟩:=ww.1 h;exact .inr ⟨k,h1,Z,h2⟩
theorem Ea {l:List α} (h:k<l.length) (ha:(l.take k).all (λx=> !p x)=B) (hp:p l[k]=G):(l.take (k+1)).all (λx=> !p x)=true:=by rw[Bi _ _ _ h,ha,hp];rfl
def Bk.basic (v:Bk):Bool:=v.plain&&T (v.kind≠4)&&T (v.kind≠5)
def AE.form (c:AE):Bool:=
 if c.kind=1 then B3 c.field&&T (c.to=ui)&&c.v.basic
 else if c.kind=2 then T (c.to=ui)&&T (c.v=C0)
 else if c.kind=3 then B3 c.to&&T (c.v=C0)
 else if c.kind=4 then B3 c.to&&T (c.field=ui)&&T (c.v=C0)
 else if c.kind=5 then B3 c.name&&T (c.field=ui)&&T (c.to=ui)&&c.v.basic
 else if c.kind=6 then T (c.field=ui)&&T (c.to=ui)&&T (c.v=C0)
 else if c.kind=7 then B3 c.to&&T (c.field=ui)&&T (c.v=C0)
 else G
def Aw (l:List ByteArray) (s:ByteArray):Int:=DG (λx=>T (x=s)) l
def C3 (l:List AK) (s:ByteArray):Int:=DG (λc=>T (c.name=s)) l
def BZ.inRoots (x:BZ) (c:AE):Int×BZ:=
 if c.kind=5/\0<=Aw x.r c.name then (6,x)
 else if c.kind=5 then (0,{x with r:=x.r++[c.name]})
 else if Aw x.r c.name<0 then (7,x)
 else if c.kind=6 then (0,{x with r:=x.r.eraseIdx (Aw x.r c.name).toNat})
 else if 0<=Aw x.r c.to then (6,x)
 else (0,{x with r:=x.r.set (Aw x.r c.name).toNat c.to})
def AZ (fs:List ByteArray) (c:AE):Int×List ByteArray:=
 if c.kind=1 then (if 0<=Aw fs c.field then (6,fs) else if 6<=fs.length then (8,fs) else (0,fs++[c.field]))
 else if Aw fs c.field<0 then (7,fs)
 else if c.kind=2 then (0,fs.eraseIdx (Aw fs c.field).toNat)
 else if 0<=Aw fs c.to then (6,fs)
 else (0,fs.set (Aw fs c.field).toNat c.to)
def BZ.fieldsAt (x:BZ) (k:Nat):List ByteArray:=match x.k[k]? with
 |some c=>c.f
 |none=>[]
def BZ.inClasses (x:BZ) (c:AE):Int×BZ:=
 if C3 x.k c.name<0 then (7,x)
 else if c.kind=4 then (if 0<=C3 x.k c.to then (6,x) else (0,{x with k:=x.k.set (C3 x.k c.name).toNat ⟨c.to,x.fieldsAt (C3 x.k c.name).toNat⟩}))
 else if (AZ (x.fieldsAt (C3 x.k c.name).toNat) c).1≠0 then ((AZ (x.fieldsAt (C3 x.k c.name).toNat) c).1,x)
 else (0,{x with k:=x.k.set (C3 x.k c.name).toNat ⟨c.name,(AZ (x.fieldsAt (C3 x.k c.name).toNat) c).2⟩})
def BZ.done (x:BZ) (c:AE):Int×BZ:=
 if c.form=G then (4,x) else if 5<=c.kind then x.inRoots c else x.inClasses c
def BZ.apply:BZ->Nat->List AE->BZ×Nat×Int
 |x,n,[]=>(x,n,0)
 |x,n,c::l=>if (x.done c).1≠0 then (x,n,(x.done c).1) else BZ.apply (x.done c).2 (n+1) l
def B2:Kc AK:=⟨2,λH cs c=>∃sv,cs=[U c.name,sv]/\c.name.size<=maxLen/\AX Aq H sv c.f,λhl ⟨sv,h1,h2,h3⟩=>⟨sv,h1,h2,h3.mono hl⟩,λ⟨sv,h1,_⟩=>by rw[h1];rfl⟩
def AE.cs (c:AE):List V_:=[Y .u8 c.kind,U c.name,U c.field,U c.to,Y .u8 c.v.kind,Y I c.v.n,U c.v.s]
def AE.val (c:AE):V_:= .agg #[Y .u8 c.kind,U c.name,U c.field,U c.to,Y .u8 c.v.kind,Y I c.v.n,U c.v.s]
structure AE.fit (c:AE):Prop where
 k:c.kind<256
 name:c.name.size<=maxLen
 field:c.field.size<=maxLen
 to:c.to.size<=maxLen
 v:c.v.fit
def CB:Kc AE:=⟨7,λ_ cs c=>cs=c.cs/\c.fit,λ_ h=>h,λh=>by rw[h.1];rfl⟩
def Gt:Kc UInt8:=TL (λb=>Y .u8 b.toNat) (λ_=>True)
section
variable {H:Hp}
theorem AX.getStr {b:Option Addr} {n c:Nat} {xs:List ByteArray} (h:AX Aq H (V b n c) xs) {i:Nat} (hi:i<xs.length):
  ∃lu off,b=O ⟨lu,off,X⟩/\Bm H lu (off+i) (U xs[i])/\xs[i].size<=maxLen:=h.cellV hi
theorem AX.getClass {b:Option Addr} {xs:List AK} (h:AX B2 H (V b n c) xs) (hi:i<xs.length):∃lu off sv,b=O ⟨lu,off,X⟩/\Bm H lu (off+i*2) (U xs[i].name)/\Bm H lu (off+i*2+1) sv/\AX Aq H sv xs[i].f/\xs[i].name.size<=maxLen:=by obtain⟨b',c',hv,_,_,_,hc⟩:=h;cases hv;obtain⟨lu,off,cs,e1,e2,e3⟩:=hc i hi;obtain⟨sv,rfl,e4,e5⟩:=e2;exact⟨lu,off,sv,e1,e3 0 _ Z,e3 1 _ Z,e5,e4⟩
theorem AX.getChange {b:Option Addr} {xs:List AE} (h:AX CB H (V b n c) xs) (hi:i<xs.length):∃lu off,b=O ⟨lu,off,X⟩/\(∀j u,xs[i].cs[j]?=O u->Bm H lu (off+i*7+j) u)/\xs[i].fit:=by obtain⟨b',c',hv,_,_,_,hc⟩:=h;cases hv;obtain⟨lu,off,cs,e1,e2,e3⟩:=hc i hi;obtain⟨rfl,e4⟩:=e2;exact⟨lu,off,e1,e3,e4⟩
end
theorem B5 (s:ByteArray):s.toList=[]↔s=ui:=by
 rw[wP];constructor
 .intro h;have:s.data=#[]:=Array.toList_eq_nil_iff.1 h;cases s;simp only at this;subst this;rfl
 .rintro rfl;rfl
section
variable {w0 w:W_} {H:Hp} {L:List (Nat×Obj)}
theorem AC.bytes (m:AC w0 H L w) (e:T_) (s:ByteArray) (hs:s.size<=maxLen):∃H',AC w0 H' L (Lib.bytesWorld w e s)/\Bl H H'/\AX Gt H' (V (O ⟨w.heap.size,0,X⟩) s.data.toList.length (grownCap w s.size 0 e)) s.data.toList:=by
 have hold:∀k o',w.heap[k]?=O o'->(Lib.bytesWorld w e s).heap[k]?=O o':=λk o' h=>by rw[Lib.bytesWorld_at_old w e s k (Af h)];exact h
 have m2:AC w0 H ((w.heap.size,C (Lib.bytesCells w e s) e ((Lib.bytesCells w e s).size,(Lib.bytesCells w e s).size+1))::L) (Lib.bytesWorld w e s):=by
  refine⟨m.os,m.tape,m.output,λk o' h=>hold _ _ (m.imm k o' h),λp hp=>?_,?_⟩
  .cases hp with
   |head=>refine⟨Lib.bytesWorld_at_new w e s,?_⟩;exact dD
   |tail _ hp=>exact⟨hold _ _ (m.loc p hp).1,(m.loc p hp).2⟩
  .exact dY
 obtain⟨m3,mN⟩:=m2.freeze;have hge:=grownCap_ge w s.size 0 e;have aa:=grownCap_le_maxLen w s.size 0 e hs;have hsl:s.data.toList.length=s.size:=Z;refine⟨_,m3,mN,O ⟨w.heap.size,0,X⟩,_,Z,by rw[hsl];exact hge,aa,λh=>CZ,λi hi=>?_⟩;refine⟨w.heap.size,0,[Y .u8 (s.data.toList[i]).toNat],Z,⟨Z,trivial⟩,λj u hu=>⟨_,_,_,Hp.put_same _ _ _,?_⟩⟩
 cases j with
 |succ j=>simp at hu
 |zero=>simp only[List.getElem?_cons_zero,Option.some.injEq] at hu;subst hu;have ae:i<s.data.size:=ND;have ad:i<s.size:=ae;simp[Lib.bytesCells,Gt,TL,Array.getElem?_append,ad]
end
end
section
open Go.ChangeShapes Go.WideShapes Go.ChangeAt Go.Joins Go.Deep
variable {W:World} {b i j n:Nat} {e t:TypeId} {α:Type}
section
variable {H:Type} {enc:T_×V_->H} {P:P_}
abbrev CL (W:W_):Hp:=λk=>W.heap[k]?
theorem QA {a:Addr} {v:V_} (h:W.cell? a=O v):a.spot=X/\Bm (CL W) a.block a.off v:=by
 have hs:=World.cell?_spot h;obtain⟨b,o,s⟩:=a;simp only at hs;subst hs;refine⟨Z,?_⟩;unfold wQ at h
 cases hh:W.heap[b]? with
 |none=>simp[hh] at h
 |some ob=>cases ob<;>simp[hh] at h;rename_i c t f;exact⟨c,t,f,hh,by simpa using h⟩
theorem N7 {n:Int} (h:(Lit.int I n).wf=B):EH n:=by simp[Lit.wf,IntKind.min,IntKind.max,IntKind.bits,IntKind.signed] at h;unfold EH;omega
theorem PM {n:Int} (h:(Lit.int .u8 n).wf=B):n.toNat<256/\(n.toNat:Int)=n:=by simp[Lit.wf,IntKind.min,IntKind.max,IntKind.bits,IntKind.signed] at h;omega
theorem Zu {o:Nat} {v:V_} {a:Addr} (ha:a=⟨b,o,X⟩) (h:W.cell? ((a.add (i*n)).add j)=O v):Bm (CL W) b (o+i*n+j) v:=by subst ha;have:=(QA h).2;rw[add_add,Addr.add_lit] at this;rw[vM];exact this
theorem J3 {e:T_}:∀{ds:List (DataW H)} {d:DataW H},d∈ds->∀n∈d.weights P e,n∈DataW.weightsAll P e ds
 |d0::ds,d,h,n,hn=>by
  unfold DataW.weightsAll
  rcases ut.1 h with rfl|h
  .exact vm _ hn
  .exact wF _ (J3 h n hn)
theorem LV [Inhabited α] (E:Kc α) (hE:0<E.size) {base:Nat} {spare:Nat->Bool} {held:Bool} {fuel:Nat} {v:V_} {x:DataW H×List MemPlace} (ht:P.underlying t=O (.slice e)) (hC:P.cellsOf e=E.size) (ak:∀(cs:List V_) (n:Nat) (y:DataW H×List MemPlace),DataW.trod enc P W base spare held n e cs=O y->(∀k∈y.1.weights P e,k∈x.1.weights P t)->∃z,E.rep (CL W) cs z) (h:DataW.trod enc P W base spare held fuel t [v]=O x):∃l,AX E (CL W) v l/\(l.length=0\/∃s,(l.length+s)*P.bytesOf e∈x.1.weights P t):=by
 rcases open_slice ht h with ⟨af,_⟩|⟨a,len,cap,m,n,D,Pl,af,_,hl,hm,aj,hx,hi⟩
 .cases af;exact⟨[],AX.nil _ _,.inl Z⟩
 .cases af;have mN:len<=m:=(by rw[aj];split<;>omega);rw[hC] at hi;have ad:0<m->a.spot=none:=λh0=>by obtain⟨cs,hc,ah⟩:=hi 0 h0;obtain⟨_,hcl,ag⟩:=wx hc;have q0:=ag 0 A0;rw[vH (by omega:0<cs.length)] at q0;simpa[Addr.add] using (QA q0).1
  have each:∀i:Nat,∃y:α×List V_,i<len->a.spot=X/\E.rep (CL W) y.2 y.1/\∀j u,y.2[j]?=O u->Bm (CL W) a.block (a.off+i*E.size+j) u:=by
   intro i;by_cases ai:i<len
   .obtain⟨cs,hc,ah⟩:=hi i A0
    obtain⟨z,hz⟩:=ak cs n _ ah (λk hk=>by
     rw[hx];simp only[DataW.weights,ht]
     exact List.mem_cons_of_mem _ (vm _ (J3 (vE.2 ⟨i,vN.2 ai,Z⟩) k hk)))
    obtain⟨_,hcl,ag⟩:=wx hc;have aa:a.spot=none:=ad A0;refine⟨(z,cs),λ_=>⟨aa,hz,λj u hu=>?_⟩⟩;have hj:j<E.size:=(by have h9:j<cs.length:=(vG.1 hu).1;omega);have q:=ag j hj;rw[hu] at q;exact Zu (b:=a.block) (o:=a.off) (by cases a;simp at aa;rw[aa]) q
   .exact⟨(default,[]),λh=>a_ h ai⟩
  obtain⟨g,hg⟩:∃g:Nat->α×List V_,∀i,i<len->a.spot=X/\E.rep (CL W) (g i).2 (g i).1/\∀j u,(g i).2[j]?=O u->Bm (CL W) a.block (a.off+i*E.size+j) u:=⟨λi=>Classical.choose (each i),λi=>Classical.choose_spec (each i)⟩;have ae:((vA len).map λi=>(g i).1).length=len:=(by simp);refine⟨(vA len).map λi=>(g i).1,⟨O a,cap,by rw[ae],by omega,hm,λh=>CZ,λi hi=>?_⟩,.inr ⟨m-len,?_⟩⟩
  .rw[ae] at hi;obtain⟨aa,hr,hc⟩:=hg i hi;obtain⟨b,o,sp⟩:=a;simp only at aa;subst aa;simp only[List.getElem_map,List.getElem_range];exact⟨b,o,_,Z,hr,hc⟩
  .rw[ae,hx];simp only[DataW.weights,ht,List.length_map,List.length_range];exact List.mem_cons_self
theorem GH {α:Type} [Inhabited α] (E:Kc α) (hE:0<E.size) {W:W_} {base:Nat} {spare:Nat->Bool} {held:Bool} {t e:T_} {fuel:Nat} {v:V_} {x:DataW H×List MemPlace} (ht:P.underlying t=O (.slice e)) (hC:P.cellsOf e=E.size)
  (hel:∀(cs:List V_) (n:Nat) (y:DataW H×List MemPlace),DataW.trod enc P W base spare held n e cs=O y->∃z,E.rep (CL W) cs z)
  (h:DataW.trod enc P W base spare held fuel t [v]=O x):∃l,AX E (CL W) v l:=
 let ⟨l,h1,_⟩:=LV E hE ht hC (λcs n y hy _=>hel cs n y hy) h
 ⟨l,h1⟩
instance:Inhabited ByteArray:=⟨ui⟩
instance:Inhabited AK:=⟨⟨ui,[]⟩⟩
instance:Inhabited AE:=⟨⟨0,ui,ui,ui,⟨0,0,ui⟩⟩⟩
variable {W:W_} {base:Nat} {spare:Nat->Bool} {held:Bool} {t e:T_} {fuel:Nat} {v:V_} {x:DataW H×List MemPlace}
theorem Rp (ht:P.underlying t=O (.slice e)) (he:P.underlying e=O .string) (hc:P.cellsOf e=1) (h:DataW.trod enc P W base spare held fuel t [v]=O x):∃l,AX Aq (CL W) v l:=
 GH Aq AD ht hc (λcs n y hy=>by
  obtain⟨s,rfl,_,hw⟩:=DataW.trod_string he hy
  exact⟨s,Z,hw⟩) h
theorem p9 {cs:List V_} {f0 f1 f2:Field} (he:P.underlying e=O (.struct #[f0,f1,f2])) (hC:P.cellsOf e=3) (o0:(f0.offset,P.cellsOf f0.type)=(0,1)) (o1:(f1.offset,P.cellsOf f1.type)=(1,1)) (o2:(f2.offset,P.cellsOf f2.type)=(2,1)) (k0:P.underlying f0.type=O (.int .u8)) (k1:P.underlying f1.type=O (.int .i64)) (k2:P.underlying f2.type=O .string) (h:DataW.trod enc P W base spare held fuel e cs=O x):∃z:Bk,Q9.rep (CL W) cs z:=by
 obtain⟨ys,n',_,_,hcl,aa,hf⟩:=DataW.trod_struct he h;rw[hC] at hcl;simp only[Prod.mk.injEq] at o0 o1 o2;have g0:=hf 0 f0 Z;have g1:=hf 1 f1 Z;have g2:=hf 2 f2 Z;rw[o0.1,o0.2] at g0;rw[o1.1,o1.2] at g1;rw[o2.1,o2.2] at g2
 match cs,hcl with
 |[c0,c1,c2],_=>
  match ys,aa with
  |[y0,y1,y2],_=>obtain⟨n0,e0,_,w0⟩:=DataW.trod_int k0 (x:=y0) (by simpa using g0);obtain⟨n1,e1,_,w1⟩:=DataW.trod_int k1 (x:=y1) (by simpa using g1);obtain⟨s2,e2,_,w2⟩:=DataW.trod_string k2 (x:=y2) (by simpa using g2);simp only[List.cons.injEq,and_true] at e0 e1 e2;subst e0;subst e1;subst e2;obtain⟨a1,a2⟩:=PM w0;exact⟨⟨n0.toNat,n1,s2⟩,by simp[Bk.cs,a2],⟨a1,N7 w1,w2⟩⟩
end
section
variable {H:Type} {enc:T_×V_->H} {W:W_} {base:Nat} {spare:Nat->Bool} {held:Bool} {fuel:Nat} {v:V_} {x:DataW H×List MemPlace}
theorem fX {cs:List V_} (h:DataW.trod enc uh W base spare held fuel 84 cs=O x):∃z:AK,B2.rep (CL W) cs z:=by
 obtain⟨ys,n',_,_,hcl,aa,hf⟩:=DataW.trod_struct underlying84 h;rw[show Tryz.prog.cellsOf 84=2 from by kernel_rfl] at hcl;have g0:DataW.trod enc uh W base spare held n' 9 ((cs.drop 0).take (Tryz.prog.cellsOf 9))=ys[0]?:=hf 0 _ Z;have g1:DataW.trod enc uh W base spare held n' 24 ((cs.drop 1).take (Tryz.prog.cellsOf 24))=ys[1]?:=hf 1 _ Z;simp only[show Tryz.prog.cellsOf 9=1 from by kernel_rfl,show Tryz.prog.cellsOf 24=1 from by kernel_rfl] at g0 g1
 match cs,hcl with
 |[c0,c1],_=>
  match ys,aa with
  |[y0,y1],_=>obtain⟨s0,e0,_,w0⟩:=DataW.trod_string underlying9 (x:=y0) (by simpa using g0);obtain⟨l,hl⟩:=Rp underlying24 underlying9 A7 (x:=y1) (v:=c1) (by simpa using g1);simp only[List.cons.injEq,and_true] at e0;subst e0;exact⟨⟨s0,l⟩,c1,Z,w0,hl⟩
theorem TB (h:DataW.trod enc uh W base spare held fuel 22 [v]=O x):∃l,AX B2 (CL W) v l:=
 GH B2 AD underlying22 A7 (λcs n y hy=>fX hy) h
theorem Zh {cs:List V_} (h:DataW.trod enc uh W base spare held fuel 45 cs=O x):∃z:AE,CB.rep (CL W) cs z:=by
 obtain⟨ys,n',_,_,hcl,ad,hf⟩:=DataW.trod_struct underlying45 h;rw[show Tryz.prog.cellsOf 45=7 from by kernel_rfl] at hcl;have g0:DataW.trod enc uh W base spare held n' 5 ((cs.drop 0).take (Tryz.prog.cellsOf 5))=ys[0]?:=hf 0 _ Z;have g1:DataW.trod enc uh W base spare held n' 9 ((cs.drop 1).take (Tryz.prog.cellsOf 9))=ys[1]?:=hf 1 _ Z;have g2:DataW.trod enc uh W base spare held n' 9 ((cs.drop 2).take (Tryz.prog.cellsOf 9))=ys[2]?:=hf 2 _ Z;have g3:DataW.trod enc uh W base spare held n' 9 ((cs.drop 3).take (Tryz.prog.cellsOf 9))=ys[3]?:=hf 3 _ Z;have g4:DataW.trod enc uh W base spare held n' 43 ((cs.drop 4).take (Tryz.prog.cellsOf 43))=ys[4]?:=hf 4 _ Z;simp only[show Tryz.prog.cellsOf 5=1 from by kernel_rfl,show Tryz.prog.cellsOf 9=1 from by kernel_rfl,show Tryz.prog.cellsOf 43=3 from by kernel_rfl] at g0 g1 g2 g3 g4
 match cs,hcl with
 |[c0,c1,c2,c3,c4,c5,c6],_=>
  match ys,ad with
  |[y0,y1,y2,y3,y4],_=>obtain⟨n0,e0,_,w0⟩:=DataW.trod_int (k:= .u8) underlying5 (x:=y0) (by simpa using g0);obtain⟨s1,e1,_,w1⟩:=DataW.trod_string underlying9 (x:=y1) (by simpa using g1);obtain⟨s2,e2,_,w2⟩:=DataW.trod_string underlying9 (x:=y2) (by simpa using g2);obtain⟨s3,e3,_,w3⟩:=DataW.trod_string underlying9 (x:=y3) (by simpa using g3);obtain⟨z,hz,aa⟩:=p9 (cs:=[c4,c5,c6]) underlying43 A7 A7 A7 A7 underlying5 underlying3 underlying9 (x:=y4) (by simpa using g4);simp only[List.cons.injEq,and_true] at e0 e1 e2 e3;simp only[Bk.cs,List.cons.injEq,and_true] at hz;obtain⟨rfl,rfl,rfl⟩:=hz;subst e0;subst e1;subst e2;subst e3;obtain⟨a1,a2⟩:=PM w0;exact⟨⟨n0.toNat,s1,s2,s3,z⟩,by simp[AE.cs,a2],⟨a1,w1,w2,w3,aa⟩⟩
theorem Sw (h:DataW.trod enc uh W base spare held fuel 30 [v]=O x):∃l,AX CB (CL W) v l:=
 GH CB AD underlying30 A7 (λcs n y hy=>Zh hy) h
end
end
section
theorem AC.putObj {w0 w:W_} {H:Hp} {L L':List (Nat×Obj)} {k:Nat} {o o':Obj} (m:AC w0 H L w) (hu:DU L k o o' L'):AC w0 H L' (w.putObj k o'):=
 m.setObj hu Z Z Z (wD (Af (m.loc _ hu.mem).1)) λj hj=>wE hj
theorem DU.appR {k:Nat} {o o':Obj} {L L':List (Nat×Obj)} (h:DU L k o o' L'):∀(L0:List (Nat×Obj)),DU (L0++L) k o o' (L0++L')
 |[]=>h
 |_::L0=> .tail (DU.appR h L0)
def Ff (w:W_) (b:Nat):Nat->List V_->W_
 |_,[]=>w
 |i,v::l=>Ff (w.setCell ⟨b,i,X⟩ v) b (i+1) l
def TU (c:Array V_):Nat->List V_->Array V_
 |_,[]=>c
 |i,v::l=>TU (c.setIfInBounds i v) (i+1) l
theorem AC.setL {w0:W_} {H:Hp} {L:List (Nat×Obj)} {b:Nat} {t:T_} {f:Nat×Nat}:∀(vs:List V_) {w:W_} {c:Array V_} (i:Nat),AC w0 H ((b,C c t f)::L) w->AC w0 H ((b,C (TU c i vs) t f)::L) (Ff w b i vs)
 |[],_,_,_,m=>m
 |_::l,_,_,i,m=>AC.setL l (i+1) (m.set .head)
def KJ (P:P_) (l:Nat) (w0:W_) (RA:Nat->Hp->V_->Prop) (RB Rx:Nat->Hp->List (Nat×Obj)->Prop):Prop:=
 ∀(n k:Nat) (H1:Hp) (L1 LB:List (Nat×Obj)) (W:W_) (x:V_),RA k H1 x->RB k H1 LB->AC w0 H1 (L1++LB) W->
  YieldAt Fence.wide n P l #[x] W λe W'=>∃H2 LB',Bl H1 H2/\AC w0 H2 (L1++LB') W'/\((e= .returned (N B)/\RB (k+1) H2 LB')\/(e= .returned (N G)/\Rx (k+1) H2 LB'))
def CI (fn:FuncId) (tmps:Array V_) (p:Tmp) (assign body:Code) (d:Nat) (st:LoopState) (pe:Option Code):Loop:={state:=st,pending:=pe,fn,tmps,params:=#[p],assign,body,defers:=d}
section
variable {P:P_} {w0 w:W_} {H:Hp}
end
end
section
variable {H H':Hp} {L:List (Nat×Obj)} {W w0:World} {b:Nat}
theorem gR (a b:ByteArray):(a==b)=T (a=b):=by exact o9
structure Jt {α:Type} [DecidableEq α] (P:P_) (kt:T_) (kv:α->V_):Prop where
 desc:∃d,P.underlying kt=O d/\∀a b,Instr.sameNow d (kv a) (kv b)=O (T (a=b))
 check:∀(b:Bool) (n:Nat) (w:W_) (a:α),(Instr.checkKey b (n+1) kt (kv a)).run P w= .ok () w
 bits:∀(n:Nat) (a:α),Instr.sameBits (n+1) (kv a) (kv a)=B
theorem ov {P:P_} {kt:T_} (h:P.underlying kt=O .string):Jt P kt U where
 desc:=⟨_,h,λa b=>by
  simp only[Instr.sameNow,gR]⟩
 check:=λb n w a=>by simp[Instr.checkKey,u_ h]
 bits:=λn a=>by simp[Instr.sameBits,gR]
theorem Xv {P:P_} {kt:T_} {q:IntKind} (h:P.underlying kt=O (.int q)):Jt P kt (Y q) where
 desc:=⟨_,h,λa b=>by
  simp only[Instr.sameNow,if_true]
  by_cases e:a=b
  .subst e;simp
  .rw[bF e,f_ e]⟩
 check:=λb n w a=>by simp[Instr.checkKey,u_ h]
 bits:=λn a=>by simp[Instr.sameBits]
def FT {α:Type} [DecidableEq α]:List (α×V_)->α->V_->List (α×V_)
 |[],k,v=>[(k,v)]
 |p::l,k,v=>if p.1=k then (k,v)::l else p::FT l k v
def BX {α:Type} [DecidableEq α]:List (α×V_)->α->Option V_
 |[],_=>X
 |p::l,k=>if p.1=k then O p.2 else BX l k
section
variable {α:Type} [DecidableEq α] {P:P_} {w:W_} {kt t et:T_} {kv:α->V_}
theorem Is:∀(l:List (α×V_)) (k:α) (v:V_) (j:α),BX (FT l k v) j=if k=j then O v else BX l j
 |[],k,v,j=>by simp only[FT,BX]
 |p::l,k,v,j=>by
  unfold FT
  split
  .rename_i h
   simp only[BX]
   split
   .rfl
   .rename_i h2
    rw[n_ (by rw[h];exact h2)]
  .rename_i h
   simp only[BX]
   split
   .rename_i h2
    rw[n_ (λe=>h (by rw[h2,e]))]
   .exact Is l k v j
theorem IX {l:List (α×V_)} {k:α}:BX l k=X↔k ∉ l.map ur:=by
 induction l with
 |nil=>simp[BX]
 |cons p l ih=>
  simp only[BX,uv,ut,not_or];split
  .rename_i h;simp[h]
  .rename_i h;rw[ih];exact⟨λh1=>⟨λe=>h e.symm,h1⟩,λh1=>h1.2⟩
theorem gG {l:List (α×V_)} {k:α} (h:BX l k=X) (v:V_):FT l k v=l++[(k,v)]:=by
 induction l with
 |nil=>rfl
 |cons p l ih=>
  unfold BX at h;split at h
  .cases h
  .rename_i hp;unfold FT;rw[n_ hp,ih h];rfl
theorem Rg {l:List (α×V_)} {k:α} {v:V_}:(FT l k v).map ur=if BX l k=X then l.map ur++[k] else l.map ur:=by
 induction l with
 |nil=>simp[FT,BX]
 |cons p l ih=>
  unfold FT BX;split
  .rename_i h;simp[h]
  .simp only[uv,ih];split<;>simp
def Bt (kv:α->V_) (es:Array MapEntry) (l:List (α×V_)):Prop:=es.toList.map (λe=>(e.key,e.val))=l.map λp=>(kv p.1,p.2)
theorem Bt.nil:Bt kv #[] []:=Z
theorem Bt.len {es:Array MapEntry} {l:List (α×V_)} (h:Bt kv es l):es.size=l.length:=by have:=congrArg List.length h;simpa using this
theorem LY {d:TypeDesc} (hd:∀a b,Instr.sameNow d (kv a) (kv b)=O (T (a=b))) (k:α):∀(es:List MapEntry) (l:List (α×V_)) (i:Nat),es.map (λe=>(e.key,e.val))=l.map (λp=>(kv p.1,p.2))->
  (BX l k=X/\Instr.findNow d (kv k) es i=O X)\/
  ∃j v,BX l k=O v/\Instr.findNow d (kv k) es i=O (O (i+j,v))/\(∃e,es[j]?=O e/\e.key=kv k)/\
   ∀u,(es.modify j λe=>{e with key:=kv k,val:=u}).map (λe=>(e.key,e.val))=(FT l k u).map (λp=>(kv p.1,p.2))
 |[],[],i,_=> .inl ⟨Z,Z⟩
 |[],_::_,i,h=>by simp at h
 |_::_,[],i,h=>by simp at h
 |e::es,p::l,i,h=>by
  simp only[uv,List.cons.injEq,Prod.mk.injEq] at h
  obtain⟨⟨h1,h2⟩,h3⟩:=h
  unfold Instr.findNow BX
  rw[h1,hd]
  by_cases hk:p.1=k
  .rw[p_ hk,t_ hk.symm]
   refine .inr ⟨0,p.2,Z,by rw[h2];rfl,⟨e,Z,by rw[h1,hk]⟩,λu=>?_⟩
   unfold FT
   rw[p_ hk]
   simp[List.modify_cons,h3]
  .rw[n_ hk,f_ (λe=>hk e.symm)]
   rcases LY hd k es l (i+1) h3 with ⟨a,b⟩|⟨j,v,a,b,⟨e',c1,c2⟩,c3⟩
   .exact .inl ⟨a,b⟩
   .refine .inr ⟨j+1,v,a,by rw[b,vM,vh 1 j],⟨e',by simpa using c1,c2⟩,λu=>?_⟩
    unfold FT
    rw[n_ hk]
    simp[h1,h2,c3 u]
theorem Ke {es:Array MapEntry} {clock:Nat} {l:List (α×V_)} {z:V_} (K:Jt P kt kv) (ht:P.underlying t=O (.map kt et)) (hz:(zeroValue et).run P w= .ok z w) (hb:w.heap[b]?=O (.map es clock)) (hl:Bt kv es l) (k:α) (c:Bool):(Instr.lookup t (.map (O b)) (kv k) c).run P w= .ok (if c=B then .tuple #[(BX l k).getD z,N (BX l k).isSome] else (BX l k).getD z) w:=by
 obtain⟨d,hk,hd⟩:=K.desc;unfold Instr.lookup;simp only[Sem.run_bind,u_ ht,Result.andThen_ok,MapKept.run_getObj_map hb,Sem.run_pure,K.check];unfold Instr.findKey;simp only[Sem.run_bind,u_ hk,Result.andThen_ok];rcases LY hd k es.toList l 0 hl with ⟨h1,h2⟩|⟨j,v,h1,h2,_⟩
 .rw[h2,h1];simp only[Sem.run_pure,Result.andThen_ok,Sem.run_bind,hz];cases c<;>rfl
 .rw[h2,h1];simp only[Sem.run_pure,Result.andThen_ok,Sem.run_bind];cases c<;>rfl
theorem AC.update {es:Array MapEntry} {clock:Nat} {l:List (α×V_)} (K:Jt P kt kv) (ht:P.underlying t=O (.map kt et)) (m:AC w0 H ((b,.map es clock)::L) W) (hl:Bt kv es l) (k:α) (v:V_):∃es' aa W',(Instr.mapUpdate t (.map (O b)) (kv k) v).run P W= .ok () W'/\Bt kv es' (FT l k v)/\AC w0 H ((b,.map es' aa)::L) W':=by
 obtain⟨d,hk,hd⟩:=K.desc;have hb:=(m.loc _ (.head _)).1;rcases LY hd k es.toList l 0 hl with ⟨h1,h2⟩|⟨j,u,h1,h2,⟨e,h3,h4⟩,h5⟩
 .refine⟨es.push {key:=kv k,val:=v,born:=clock},clock+1,W.putObj b (.map (es.push {key:=kv k,val:=v,born:=clock}) (clock+1)),?_,?_,m.putObj .head⟩
  .unfold Instr.mapUpdate;simp only[Sem.run_bind,u_ ht,Result.andThen_ok,MapKept.run_getObj_map hb,Sem.run_pure,K.check];unfold Instr.findKey;simp only[Sem.run_bind,u_ hk,Result.andThen_ok];rw[h2];simp only[Sem.run_pure,Result.andThen_ok,Sem.run_bind,MapKept.run_setObj_map _ hb];rfl
  .rw[gG h1];unfold Bt at hl⊢;simp[hl]
 .rw[vq] at h2;refine⟨es.modify j λe=>{e with key:=kv k,val:=v},clock,W.putObj b (.map (es.modify j λe=>{e with key:=kv k,val:=v}) clock),?_,?_,m.putObj .head⟩
  .unfold Instr.mapUpdate;simp only[Sem.run_bind,u_ ht,Result.andThen_ok,MapKept.run_getObj_map hb,Sem.run_pure,K.check];unfold Instr.findKey;simp only[Sem.run_bind,u_ hk,Result.andThen_ok];rw[h2];have h3':es[j]?=O e:=(by rw[<-ul];exact h3);simp only[Sem.run_pure,Result.andThen_ok,h3',vz,wR,h4];unfold Instr.keyThatStays;rw[p_ (K.bits 9999 k)];simp only[Sem.run_pure,Sem.run_bind,Result.andThen_ok,pure_bind];exact MapKept.run_setObj_map _ hb
  .unfold Bt;rw[Array.toList_modify];exact h5 v
theorem AC.look {w0 W:W_} {H:Hp} {L:List (Nat×Obj)} {b:Nat} {es:Array MapEntry} {clock:Nat} {l:List (α×V_)} {z:V_} (K:Jt P kt kv) (ht:P.underlying t=O (.map kt et)) (hz:(zeroValue et).run P W= .ok z W)
  (m:AC w0 H L W) (hp:(b,Obj.map es clock)∈L) (hl:Bt kv es l) (k:α) (c:Bool):
  (Instr.lookup t (.map (O b)) (kv k) c).run P W= .ok (if c=B then .tuple #[(BX l k).getD z,N (BX l k).isSome] else (BX l k).getD z) W:=
 Ke K ht hz (m.loc _ hp).1 hl k c
def Kb (H:Hp) (kv:α->V_) (v:V_) (l:List (α×V_)):Prop:=∃b es cl,v= .map (O b)/\H b=O (.map es cl)/\Bt kv es l
theorem Kb.mono {v:V_} {l:List (α×V_)} (h:Kb H kv v l) (hl:Bl H H'):Kb H' kv v l:=by obtain⟨b,es,cl,h1,h2,h3⟩:=h;exact⟨b,es,cl,h1,hl _ _ h2,h3⟩
theorem AC.freezeMap {w0 W:W_} {H:Hp} {L:List (Nat×Obj)} {b:Nat} {es:Array MapEntry} {clock:Nat} {l:List (α×V_)} (m:AC w0 H ((b,.map es clock)::L) W) (hl:Bt kv es l):
  ∃H',AC w0 H' L W/\Bl H H'/\Kb H' kv (.map (O b)) l:=
 ⟨_,m.freeze.1,m.freeze.2,b,es,clock,Z,Hp.put_same _ _ _,hl⟩
theorem Kb.look {v:V_} {l:List (α×V_)} {z:V_} (h:Kb H kv v l) (K:Jt P kt kv) (ht:P.underlying t=O (.map kt et)) (hz:(zeroValue et).run P W= .ok z W) (m:AC w0 H L W) (k:α) (c:Bool):(Instr.lookup t v (kv k) c).run P W= .ok (if c=B then .tuple #[(BX l k).getD z,N (BX l k).isSome] else (BX l k).getD z) W:=by obtain⟨b,es,cl,rfl,h2,h3⟩:=h;exact Ke K ht hz (m.imm _ _ h2) h3 k c
end
end
variable {H H':Hp} {c i n:Nat}
structure FF where
 kind:Nat
 chan:Int
 value:Int
 to:Int
 go:Int
structure Bu where
 op:Nat
 to:Int
 args:List Int
 n:Int
 m:Int
 name:ByteArray
 go:List Int
 w:List FF
structure AF where
 name:ByteArray
 params:Int
 g:Int
 i:List Bu
structure Aj where
 kind:ByteArray
 name:ByteArray
 parts:Int
structure AI where
 k:List AK
 c:List Aj
 r:List ByteArray
 d:List AF
structure FF.fit (w:FF):Prop where
 k:w.kind<256
 chan:EH w.chan
 value:EH w.value
 to:EH w.to
 go:EH w.go
def FF.cs (w:FF):List V_:=[Y .u8 w.kind,Y I w.chan,Y I w.value,Y I w.to,Y I w.go]
def Iw:Kc FF:=⟨5,λ_ cs x=>cs=x.cs/\x.fit,λ_ h=>h,λh=>by rw[h.1];rfl⟩
structure Bu.fit (i:Bu):Prop where
 op:i.op<256
 to:EH i.to
 n:EH i.n
 m:EH i.m
 name:i.name.size<=maxLen
def Gj (H:Hp) (i:Bu) (va vg vw:V_):Prop:=i.fit/\AX AY H va i.args/\AX AY H vg i.go/\AX Iw H vw i.w
def qE (i:Bu) (va vg vw:V_):List V_:=[Y .u8 i.op,Y I i.to,va,Y I i.n,Y I i.m,U i.name,vg,vw]
theorem Gj.mono {i:Bu} {va vg vw:V_} (h:Gj H i va vg vw) (hl:Bl H H'):Gj H' i va vg vw:=⟨h.1,h.2.1.mono hl,h.2.2.1.mono hl,h.2.2.2.mono hl⟩
def C1:Kc Bu:=⟨8,λH cs i=>∃va vg vw,cs=qE i va vg vw/\Gj H i va vg vw,λhl ⟨a,b,c,h1,h2⟩=>⟨a,b,c,h1,h2.mono hl⟩,λ⟨a,b,c,h1,_⟩=>by rw[h1];rfl⟩
structure AF.fit (c:AF):Prop where
 name:c.name.size<=maxLen
 params:EH c.params
 g:EH c.g
def Ch:Kc AF:=⟨4,λH cs c=>∃v,cs=[U c.name,Y I c.params,Y I c.g,v]/\c.fit/\AX C1 H v c.i,λhl ⟨v,h1,h2,h3⟩=>⟨v,h1,h2,h3.mono hl⟩,λ⟨v,h1,_⟩=>by rw[h1];rfl⟩
structure Aj.fit (c:Aj):Prop where
 kind:c.kind.size<=maxLen
 name:c.name.size<=maxLen
 parts:EH c.parts
def Aj.cs (c:Aj):List V_:=[U c.kind,U c.name,Y I c.parts]
def CV:Kc Aj:=⟨3,λ_ cs x=>cs=x.cs/\x.fit,λ_ h=>h,λh=>by rw[h.1];rfl⟩
structure Bz (H:Hp) (x:AI) (vc vk vr vd:V_):Prop where
 c:AX B2 H vc x.k
 k:AX CV H vk x.c
 r:AX Aq H vr x.r
 d:AX Ch H vd x.d
theorem Bz.mono {x:AI} {vc vk vr vd:V_} (h:Bz H x vc vk vr vd) (hl:Bl H H'):Bz H' x vc vk vr vd:=⟨h.c.mono hl,h.k.mono hl,h.r.mono hl,h.d.mono hl⟩
theorem AX.getS {b:Option Addr} {xs:List ByteArray} (h:AX Aq H (V b n c) xs) {x:ByteArray} (hi:xs[i]?=O x):∃lu off,b=O ⟨lu,off,X⟩/\Bm H lu (off+i) (U x)/\x.size<=maxLen:=by obtain⟨hl,rfl⟩:=vG.1 hi;exact h.cellV hl
theorem AX.getI {b:Option Addr} {xs:List Int} (h:AX AY H (V b n c) xs) {x:Int} (hi:xs[i]?=O x):∃lu off,b=O ⟨lu,off,X⟩/\Bm H lu (off+i) (Y I x)/\EH x:=by obtain⟨hl,rfl⟩:=vG.1 hi;exact h.cellV hl
theorem AX.getClassQ {b:Option Addr} {xs:List AK} (h:AX B2 H (V b n c) xs) {x:AK} (hi:xs[i]?=O x):∃lu off v,b=O ⟨lu,off,X⟩/\Bm H lu (off+i*2) (U x.name)/\Bm H lu (off+i*2+1) v/\AX Aq H v x.f/\x.name.size<=maxLen:=by obtain⟨hl,rfl⟩:=vG.1 hi;obtain⟨b',c',hv,_,_,_,hc⟩:=h;cases hv;obtain⟨lu,off,cs,e1,e2,e3⟩:=hc i hl;obtain⟨v,rfl,e4,e5⟩:=e2;exact⟨lu,off,v,e1,e3 0 _ Z,e3 1 _ Z,e5,e4⟩
theorem AX.getCase {b:Option Addr} {xs:List Aj} (h:AX CV H (V b n c) xs) {x:Aj} (hi:xs[i]?=O x):∃lu off,b=O ⟨lu,off,X⟩/\Bm H lu (off+i*3) (U x.kind)/\Bm H lu (off+i*3+1) (U x.name)/\Bm H lu (off+i*3+2) (Y I x.parts)/\x.fit:=by obtain⟨hl,rfl⟩:=vG.1 hi;obtain⟨b',c',hv,_,_,_,hc⟩:=h;cases hv;obtain⟨lu,off,cs,e1,e2,e3⟩:=hc i hl;obtain⟨rfl,e4⟩:=e2;exact⟨lu,off,e1,e3 0 _ Z,e3 1 _ Z,e3 2 _ Z,e4⟩
theorem AX.getCode {b:Option Addr} {xs:List AF} (h:AX Ch H (V b n c) xs) {x:AF} (hi:xs[i]?=O x):∃lu off v,b=O ⟨lu,off,X⟩/\Bm H lu (off+i*4) (U x.name)/\Bm H lu (off+i*4+1) (Y I x.params)/\Bm H lu (off+i*4+2) (Y I x.g)/\Bm H lu (off+i*4+3) v/\AX C1 H v x.i/\x.fit:=by obtain⟨hl,rfl⟩:=vG.1 hi;obtain⟨b',c',hv,_,_,_,hc⟩:=h;cases hv;obtain⟨lu,off,cs,e1,e2,e3⟩:=hc i hl;obtain⟨v,rfl,e4,e5⟩:=e2;exact⟨lu,off,v,e1,e3 0 _ Z,e3 1 _ Z,e3 2 _ Z,e3 3 _ Z,e5,e4⟩
theorem AX.getIns {b:Option Addr} {xs:List Bu} (h:AX C1 H (V b n c) xs) {x:Bu} (hi:xs[i]?=O x):∃lu off va vg vw,b=O ⟨lu,off,X⟩/\Bm H lu (off+i*8) (Y .u8 x.op)/\Bm H lu (off+i*8+1) (Y I x.to)/\Bm H lu (off+i*8+2) va/\Bm H lu (off+i*8+3) (Y I x.n)/\Bm H lu (off+i*8+4) (Y I x.m)/\Bm H lu (off+i*8+5) (U x.name)/\Bm H lu (off+i*8+6) vg/\Bm H lu (off+i*8+7) vw/\Gj H x va vg vw:=by obtain⟨hl,rfl⟩:=vG.1 hi;obtain⟨b',c',hv,_,_,_,hc⟩:=h;cases hv;obtain⟨lu,off,cs,e1,e2,e3⟩:=hc i hl;obtain⟨va,vg,vw,rfl,e4⟩:=e2;exact⟨lu,off,va,vg,vw,e1,e3 0 _ Z,e3 1 _ Z,e3 2 _ Z,e3 3 _ Z,e3 4 _ Z,e3 5 _ Z,e3 6 _ Z,e3 7 _ Z,e4⟩
theorem AX.getWay {b:Option Addr} {xs:List FF} (h:AX Iw H (V b n c) xs) {x:FF} (hi:xs[i]?=O x):∃lu off,b=O ⟨lu,off,X⟩/\Bm H lu (off+i*5) (Y .u8 x.kind)/\Bm H lu (off+i*5+1) (Y I x.chan)/\Bm H lu (off+i*5+2) (Y I x.value)/\Bm H lu (off+i*5+3) (Y I x.to)/\Bm H lu (off+i*5+4) (Y I x.go)/\x.fit:=by obtain⟨hl,rfl⟩:=vG.1 hi;obtain⟨b',c',hv,_,_,_,hc⟩:=h;cases hv;obtain⟨lu,off,cs,e1,e2,e3⟩:=hc i hl;obtain⟨rfl,e4⟩:=e2;exact⟨lu,off,e1,e3 0 _ Z,e3 1 _ Z,e3 2 _ Z,e3 3 _ Z,e3 4 _ Z,e4⟩
section
open Go.ChangeShapes Go.WideShapes Go.ChangeAt Go.Joins Go.Deep
section
variable {H:Type} {enc:T_×V_->H} {P:P_}
variable {W:W_} {base:Nat} {spare:Nat->Bool} {held:Bool} {t e:T_} {fuel:Nat} {v:V_} {x:DataW H×List MemPlace}
def kT (P:P_) (fs:Array Field):Bool:=(vA fs.size).all λi=>(fs[i]?.map λf=>(f.offset,P.cellsOf f.type))==O (i,1)
theorem Ou {fs:Array Field} {cs:List V_} (he:P.underlying e=O (.struct fs)) (ho:kT P fs=B) (hC:P.cellsOf e=fs.size) (h:DataW.trod enc P W base spare held fuel e cs=O x):cs.length=fs.size/\∃n,∀(i:Nat) (f:Field) (c:V_),fs[i]?=O f->cs[i]?=O c->∃y,DataW.trod enc P W base spare held n f.type [c]=O y/\∀k∈y.1.weights P f.type,k∈x.1.weights P e:=by
 obtain⟨ys,n',_,hx,hcl,aa,hf⟩:=DataW.trod_struct he h;refine⟨by rw[hcl,hC],n',λi f c hi hc=>?_⟩
 have lg:i<fs.size:=by
  rcases vj i fs.size with h1|h1
  .exact h1
  .rw[wS h1] at hi;cases hi
 have h2:=uy.1 ho i (vN.2 lg);rw[hi] at h2;simp only[vz,beq_iff_eq,Option.some.injEq,Prod.mk.injEq] at h2;have h3:=hf i f hi;rw[h2.1,h2.2] at h3;have h4:(cs.drop i).take 1=[c]:=(by obtain⟨hl,rfl⟩:=vG.1 hc;rw[List.drop_eq_getElem_cons hl];rfl);rw[h4] at h3;refine⟨ys[i]'A0,by rw[h3];exact vH _,λk hk=>?_⟩;rw[hx];simp only[DataW.weights,he];exact DataW.weights_mem_each (j:=i) (t:=f.type) (d:=(ys[i]'A0).1) (by rw[x4,ul,hi];rfl) (by rw[x4,vH A0];rfl) k hk
end
section
variable {H:Type} {enc:T_×V_->H} {W:W_} {base:Nat} {spare:Nat->Bool} {held:Bool} {fuel:Nat} {v:V_} {x:DataW H×List MemPlace}
theorem FM {c:V_} {y:DataW H×List MemPlace} (h:DataW.trod enc uh W base spare held n 3 [c]=O y):∃z,c= Y I z/\EH z:=by obtain⟨z,e0,_,w0⟩:=DataW.trod_int (k:= I) underlying3 h;simp only[List.cons.injEq,and_true] at e0;exact⟨z,e0,N7 w0⟩
theorem dF {c:V_} {y:DataW H×List MemPlace} (h:DataW.trod enc uh W base spare held n 5 [c]=O y):∃z:Nat,c= Y .u8 z/\z<256:=by obtain⟨z,e0,_,w0⟩:=DataW.trod_int (k:= .u8) underlying5 h;simp only[List.cons.injEq,and_true] at e0;obtain⟨a1,a2⟩:=PM w0;exact⟨z.toNat,by rw[e0,a2],a1⟩
theorem Ol {c:V_} {y:DataW H×List MemPlace} (h:DataW.trod enc uh W base spare held n 9 [c]=O y):∃z,c= U z/\z.size<=maxLen:=by obtain⟨z,e0,_,w0⟩:=DataW.trod_string underlying9 h;simp only[List.cons.injEq,and_true] at e0;exact⟨z,e0,w0⟩
theorem Rd (h:DataW.trod enc uh W base spare held fuel 79 [v]=O x):∃l,AX AY (CL W) v l:=
 GH AY AD underlying79 A7 (λcs n y hy=>by
  obtain⟨s,rfl,_,hw⟩:=DataW.trod_int (k:= I) underlying3 hy
  exact⟨s,Z,N7 hw⟩) h
theorem oa {cs:List V_} (h:DataW.trod enc uh W base spare held fuel 198 cs=O x):∃z:FF,Iw.rep (CL W) cs z:=by
 obtain⟨hl,n,hf⟩:=Ou underlying198 A7 A7 h
 match cs,hl with
 |[c0,c1,c2,c3,c4],_=>obtain⟨_,g0,k0⟩:=hf 0 _ c0 Z Z;obtain⟨_,g1,k1⟩:=hf 1 _ c1 Z Z;obtain⟨_,g2,k2⟩:=hf 2 _ c2 Z Z;obtain⟨_,g3,k3⟩:=hf 3 _ c3 Z Z;obtain⟨_,g4,k4⟩:=hf 4 _ c4 Z Z;obtain⟨z0,rfl,w0⟩:=dF g0;obtain⟨z1,rfl,w1⟩:=FM g1;obtain⟨z2,rfl,w2⟩:=FM g2;obtain⟨z3,rfl,w3⟩:=FM g3;obtain⟨z4,rfl,w4⟩:=FM g4;exact⟨⟨z0,z1,z2,z3,z4⟩,Z,⟨w0,w1,w2,w3,w4⟩⟩
theorem ZZ (h:DataW.trod enc uh W base spare held fuel 80 [v]=O x):∃l,AX Iw (CL W) v l:=
 have:Inhabited FF:=⟨⟨0,0,0,0,0⟩⟩
 GH Iw AD underlying80 A7 (λcs n y hy=>oa hy) h
theorem ou {cs:List V_} (h:DataW.trod enc uh W base spare held fuel 82 cs=O x):∃z:Bu,C1.rep (CL W) cs z:=by
 obtain⟨hl,n,hf⟩:=Ou underlying82 A7 A7 h
 match cs,hl with
 |[c0,c1,c2,c3,c4,c5,c6,c7],_=>obtain⟨_,g0,k0⟩:=hf 0 _ c0 Z Z;obtain⟨_,g1,k1⟩:=hf 1 _ c1 Z Z;obtain⟨_,g2,k2⟩:=hf 2 _ c2 Z Z;obtain⟨_,g3,k3⟩:=hf 3 _ c3 Z Z;obtain⟨_,g4,k4⟩:=hf 4 _ c4 Z Z;obtain⟨_,g5,k5⟩:=hf 5 _ c5 Z Z;obtain⟨_,g6,k6⟩:=hf 6 _ c6 Z Z;obtain⟨_,g7,k7⟩:=hf 7 _ c7 Z Z;obtain⟨z0,rfl,w0⟩:=dF g0;obtain⟨z1,rfl,w1⟩:=FM g1;obtain⟨l2,h2⟩:=Rd g2;obtain⟨z3,rfl,w3⟩:=FM g3;obtain⟨z4,rfl,w4⟩:=FM g4;obtain⟨z5,rfl,w5⟩:=Ol g5;obtain⟨l6,h6⟩:=Rd g6;obtain⟨l7,h7⟩:=ZZ g7;exact⟨⟨z0,z1,l2,z3,z4,z5,l6,l7⟩,_,_,_,Z,⟨w0,w1,w3,w4,w5⟩,h2,h6,h7⟩
theorem Zx (h:DataW.trod enc uh W base spare held fuel 76 [v]=O x):∃l,AX C1 (CL W) v l/\(l.length=0\/∃s,(l.length+s)*Tryz.prog.bytesOf 82∈x.1.weights uh 76):=
 have:Inhabited Bu:=⟨⟨0,0,[],0,0,ui,[],[]⟩⟩
 LV C1 AD underlying76 A7 (λcs n y hy _=>ou hy) h
def Ph:Kc AF:=⟨4,λH cs c=>Ch.rep H cs c/\c.i.length<=reachBytes,λhl h=>⟨Ch.mono hl h.1,h.2⟩,λh=>Ch.len h.1⟩
theorem qP {H:Hp} {v:V_} {l:List AF} (h:AX Ph H v l):AX Ch H v l/\∀c∈l,c.i.length<=reachBytes:=by
 obtain⟨b,c,h1,h2,h3,h4,h5⟩:=h;refine⟨⟨b,c,h1,h2,h3,h4,λi hi=>?_⟩,λz hz=>?_⟩
 .obtain⟨lu,off,cs,e1,e2,e3⟩:=h5 i hi;exact⟨lu,off,cs,e1,e2.1,e3⟩
 .obtain⟨i,hi,rfl⟩:=List.mem_iff_getElem.1 hz;obtain⟨lu,off,cs,e1,e2,e3⟩:=h5 i hi;exact e2.2
theorem lA {cs:List V_} (h:DataW.trod enc uh W base spare held fuel 78 cs=O x) (hw:∀k∈x.1.weights uh 78,k<=reachBytes):∃z:AF,Ph.rep (CL W) cs z:=by
 obtain⟨hl,n,hf⟩:=Ou underlying78 A7 A7 h
 match cs,hl with
 |[c0,c1,c2,c3],_=>
  obtain⟨_,g0,k0⟩:=hf 0 _ c0 Z Z;obtain⟨_,g1,k1⟩:=hf 1 _ c1 Z Z;obtain⟨_,g2,k2⟩:=hf 2 _ c2 Z Z;obtain⟨_,g3,k3⟩:=hf 3 _ c3 Z Z;obtain⟨z0,rfl,w0⟩:=Ol g0;obtain⟨z1,rfl,w1⟩:=FM g1;obtain⟨z2,rfl,w2⟩:=FM g2;obtain⟨l3,h3,hs⟩:=Zx g3;refine⟨⟨z0,z1,z2,l3⟩,⟨_,Z,⟨w0,w1,w2⟩,h3⟩,?_⟩;show l3.length<=reachBytes;rcases hs with hs|⟨s,hs⟩
  .omega
  .have h9:=hw _ (k3 _ hs);rw[show Tryz.prog.bytesOf 82=120 from by kernel_rfl] at h9;omega
theorem XK (h:DataW.trod enc uh W base spare held fuel 25 [v]=O x) (hw:∀k∈x.1.weights uh 25,k<=reachBytes):∃l,AX Ch (CL W) v l/\∀c∈l,c.i.length<=reachBytes:=by haveI:Inhabited AF:=⟨⟨ui,0,0,[]⟩⟩;have hq:=LV Ph AD underlying25 A7 (λcs n y hy hk=>lA hy λk h=>hw k (hk k h)) h;obtain⟨l,h1,_⟩:=hq;exact⟨l,qP h1⟩
theorem kz {cs:List V_} (h:DataW.trod enc uh W base spare held fuel 122 cs=O x):∃z:Aj,CV.rep (CL W) cs z:=by
 obtain⟨hl,n,hf⟩:=Ou underlying122 A7 A7 h
 match cs,hl with
 |[c0,c1,c2],_=>obtain⟨_,g0,k0⟩:=hf 0 _ c0 Z Z;obtain⟨_,g1,k1⟩:=hf 1 _ c1 Z Z;obtain⟨_,g2,k2⟩:=hf 2 _ c2 Z Z;obtain⟨z0,rfl,w0⟩:=Ol g0;obtain⟨z1,rfl,w1⟩:=Ol g1;obtain⟨z2,rfl,w2⟩:=FM g2;exact⟨⟨z0,z1,z2⟩,Z,⟨w0,w1,w2⟩⟩
theorem Wc (h:DataW.trod enc uh W base spare held fuel 23 [v]=O x):∃l,AX CV (CL W) v l:=
 have:Inhabited Aj:=⟨⟨ui,ui,0⟩⟩
 GH CV AD underlying23 A7 (λcs n y hy=>kz hy) h
theorem WH {cs:List V_} (h:DataW.trod enc uh W base spare held fuel 27 cs=O x) (hw:∀k∈x.1.weights uh 27,k<=reachBytes):∃(z:AI) (a b c d:V_),cs=[a,b,c,d]/\Bz (CL W) z a b c d/\∀c∈z.d,c.i.length<=reachBytes:=by
 obtain⟨hl,n,hf⟩:=Ou underlying27 A7 A7 h
 match cs,hl with
 |[c0,c1,c2,c3],_=>obtain⟨_,g0,k0⟩:=hf 0 _ c0 Z Z;obtain⟨_,g1,k1⟩:=hf 1 _ c1 Z Z;obtain⟨_,g2,k2⟩:=hf 2 _ c2 Z Z;obtain⟨_,g3,k3⟩:=hf 3 _ c3 Z Z;obtain⟨l0,h0⟩:=TB g0;obtain⟨l1,h1⟩:=Wc g1;obtain⟨l2,h2⟩:=Rp underlying24 underlying9 A7 g2;obtain⟨l3,h3,h4⟩:=XK g3 (λk h=>hw k (k3 k h));exact⟨⟨l0,l1,l2,l3⟩,c0,c1,c2,c3,Z,⟨h0,h1,h2,h3⟩,h4⟩
theorem Zk {r:_root_.Go.Reach} {b0:Nat} {d:DataW H} {p:List MemPlace} (hv:wt uh W r b0 29 v) (h:DataW.Trod enc uh W base spare held 29 v d p) (hw:∀k∈d.weights uh 29,k<=reachBytes):∃(x y:AI) (a1 a2 a3 a4 b1 b2 b3 b4:V_),v= .agg #[a1,a2,a3,a4,b1,b2,b3,b4]/\Bz (CL W) x a1 a2 a3 a4/\Bz (CL W) y b1 b2 b3 b4/\(∀c∈x.d,c.i.length<=reachBytes)/\∀c∈y.d,c.i.length<=reachBytes:=by
 obtain⟨cs,rfl,lC⟩:=okWide_struct underlying29 hv;obtain⟨fuel,hf⟩:=h;obtain⟨ys,n',_,ad,hcl,aa,hg⟩:=DataW.trod_struct underlying29 hf;have g0:DataW.trod enc uh W base spare held n' 27 (((Value.agg cs).cells.toList.drop 0).take (Tryz.prog.cellsOf 27))=ys[0]?:=hg 0 _ Z;have g1:DataW.trod enc uh W base spare held n' 27 (((Value.agg cs).cells.toList.drop 4).take (Tryz.prog.cellsOf 27))=ys[1]?:=hg 1 _ Z;rw[show Tryz.prog.cellsOf 27=4 from by kernel_rfl] at g0 g1
 match ys,aa with
 |[y0,y1],_=>cases ad;simp only[DataW.weights,underlying29] at hw;obtain⟨x,a1,a2,a3,a4,e1,hx,hs1⟩:=WH (x:=y0) g0 (λk h=>hw k (DataW.weights_mem_each (j:=0) Z Z k h));obtain⟨y,b1,b2,b3,b4,e2,hy,hs2⟩:=WH (x:=y1) g1 (λk h=>hw k (DataW.weights_mem_each (j:=1) Z Z k h));refine⟨x,y,a1,a2,a3,a4,b1,b2,b3,b4,?_,hx,hy,hs1,hs2⟩;have hl:cs.toList.length=8:=(by rw[Array.length_toList,lC];kernel_rfl);have af:(cs.toList.drop 0).take 4=[a1,a2,a3,a4]:=e1;have ae:(cs.toList.drop 4).take 4=[b1,b2,b3,b4]:=e2;have h3:cs.toList=[a1,a2,a3,a4]++[b1,b2,b3,b4]:=(by rw[<-af,<-ae,List.drop_zero,vy (l:=cs.toList.drop 4) ZB,wT]);have h4:cs=#[a1,a2,a3,a4,b1,b2,b3,b4]:=(by rw[<-Array.toArray_toList (xs:=cs),h3];rfl);rw[h4]
end
end
section
variable {es:List (AV×AV)} {f:FuncId} {x:AV} {α:Type}
noncomputable section
def MS:AV->Option V_
 | .b x=>O (.bool x)
 | .i k n=>O (.int k n)
 | .s l=>if l.all (λc=>T (c<256))=B then O (.string (BP l)) else X
 |_=>X
def O0:List AV->Option (List V_)
 |[]=>O []
 |x::l=>match MS x,O0 l with
  |some v,O vs=>O (v::vs)
  |_,_=>X
def Gn:AV->Option V_
 | .agg l=>(O0 l).map λvs=> .agg vs.toArray
 |x=>MS x
section
variable {R:Nat->Nat×Nat} {n:Nat}
theorem Og {u v:V_} (h:MS x=O v):VR R n x u↔u=v:=by
 cases x<;>simp only[MS,reduceCtorEq] at h;(case b=>cases h;simp only[VR]);case i=>cases h;simp only[VR]
 case s l=>
  split at h
  .rename_i hl;cases h;simp only[VR];exact⟨λa=>a.1,λa=>⟨a,λc hc=>o_ (uy.1 hl c hc)⟩⟩
  .cases h
theorem Lx:∀{l:List AV} {us vs:List V_},O0 l=O vs->(BM R n l us↔us=vs)
 |[],us,vs,h=>by
  cases h
  simp only[BM]
 |x::l,us,vs,h=>by
  simp only[O0] at h
  split at h
  .rename_i v vs' h1 h2
   cases h
   simp only[BM]
   constructor
   .rintro⟨u,us',rfl,a,b⟩
    rw[(Og h1).1 a,(Lx h2).1 b]
   .rintro rfl
    exact⟨_,_,Z,(Og h1).2 Z,(Lx h2).2 Z⟩
  .cases h
theorem Z8 {u v:V_} (h:Gn x=O v) (hu:VR R n x u):u=v:=by cases x;(case agg l=>simp only[Gn,Option.map_eq_some_iff] at h;obtain⟨vs,h1,rfl⟩:=h;simp only[VR] at hu;obtain⟨us,h2,rfl⟩:=hu;rw[(Lx h1).1 h2]);all_goals (simp only[Gn] at h;exact(Og h).1 hu)
end
section
variable {P:P_} {E:CF} {w0 w w':W_} {H:Hp} {L:List (Nat×Obj)}
theorem HR.leaf (w:W_):HR (λk=>w.heap[k]?) (λ_=>(0,0)) ⟨.leaf,0⟩ w w:=by refine⟨Z,Z,Z,λk o h=>h,λb hb=>a_ (AJ.get_leaf b) hb,λb y hy=>?_,λb c hb=>a_ (AJ.get_leaf b) hb⟩;exact XD
theorem AC.of_fr (m:AC w0 H L w) (h1:w'.os=w.os) (h2:w'.tape=w.tape) (h3:w'.output=w.output) (hf:∀(k:Nat) (o:Obj),w.heap[k]?=O o->w'.heap[k]?=O o):AC w0 H L w':=
 ⟨h1.trans m.os,h2.trans m.tape,h3.trans m.output,λk o hk=>hf _ _ (m.imm k o hk),λp hp=>⟨hf _ _ (m.loc p hp).1,(m.loc p hp).2⟩,m.nd⟩
def rT (E:CF) (n:Nat) (f:FuncId) (xs:List AV) (r:AV):Bool:=match Ei E (JE E) n (.fn f [] []) xs ⟨.leaf,0⟩ with
 |some (r',s)=>NL r' r
 |none=>G
theorem Ts (hE:Ap P E) (hD:JJ P (JE E)) {xs:List AV} {r:AV} {us:List V_} {v:V_} (h:rT E n f xs r=B) (hx:O0 xs=O us) (hr:Gn r=O v) (m:AC w0 H L w):K_ P f us.toArray w (Bv w0 H L v):=by unfold rT at h;(split at h<;>try (cases h;done));rename_i r' s hc;have h1:=Jg h;subst h1;obtain⟨g1,g2⟩:=(Po hE hD n).2.2 n (uq _) _ _ _ _ _ _ _ hc;have hh:=g2 Fence.wide 0 (λk=>w.heap[k]?) (λ_=>(0,0)) w w [] [] us.toArray (.inl Z) (HR.leaf w) QN QN (by simpa using (Lx hx).2 Z);have hh:=(callsIn_wide (n:=0)).1 hh;have e:(([]:List V_).toArray++us.toArray++([]:List V_).toArray)=us.toArray:=(by simp);rw[e] at hh;refine hh.mono ?_;rintro e w' ⟨v',R',rfl,k1,k2,k3,k4⟩;exact⟨by rw[Z8 hr k4],m.of_fr k3.os k3.tape k3.output k3.fr⟩
def kG:List (AV×AV)->List (AV×AV)->Bool
 |[],[]=>B
 |x::l,y::m=>NL x.1 y.1&&(NL x.2 y.2&&kG l m)
 |_,_=>G
theorem YU:∀{l m:List (AV×AV)},kG l m=B->l=m
 |[],[],_=>rfl
 |[],_::_,h=>by cases h
 |_::_,[],h=>by cases h
 |x::l,y::m,h=>by
  simp only[kG,vD] at h
  obtain⟨h1,h2,h3⟩:=h
  rw[YU h3,Prod.ext (Jg h1) (Jg h2)]
def kN (E:CF) (n:Nat) (f:FuncId) (es:List (AV×AV)):Bool:=match Ei E (JE E) n (.fn f [] []) [] ⟨.leaf,0⟩ with
 |some (.m b,s)=>(match s.h.get b with
  |some (.map es')=>kG es' es
  |_=>G)
 |_=>G
theorem ZJ (hE:Ap P E) (hD:JJ P (JE E)) (h:kN E n f es=B) (kv:α->V_) (dec:AV×AV->α×V_) (hd:∀p∈es,MS p.1=O (kv (dec p).1)/\Gn p.2=O (dec p).2) (m:AC w0 H L w):K_ P f #[] w λe w'=>∃b lL cl l,e= .returned (.map (O b))/\l.Perm (es.map dec)/\Bt kv lL l/\AC w0 H ((b,.map lL cl)::L) w':=by
 unfold kN at h;(split at h<;>try (cases h;done));rename_i b s hc;(split at h<;>try (cases h;done));rename_i es' hb;have h1:=YU h;subst h1;obtain⟨g1,g2⟩:=(Po hE hD n).2.2 n (uq _) _ _ _ _ _ _ _ hc;have hh:=g2 Fence.wide 0 (λk=>w.heap[k]?) (λ_=>(0,0)) w w [] [] #[] (.inl Z) (HR.leaf w) QN QN QN;have hh:=(callsIn_wide (n:=0)).1 hh;refine hh.mono ?_;rintro e w' ⟨v',R',rfl,k1,k2,k3,k4⟩;simp only[VR] at k4;obtain⟨_,rfl⟩:=k4;obtain⟨hn,o,ho,ad⟩:=k3.own b _ hb;simp only[BR] at ad;obtain⟨lL,cl,es1,rfl,hp,_,hk,hv⟩:=ad;have m':=m.of_fr k3.os k3.tape k3.output k3.fr;have hn:w.heap[(R' b).1]?=none:=hn;refine⟨_,lL,cl,es1.map dec,Z,hp.map _,?_,⟨m'.os,m'.tape,m'.output,m'.imm,λp aa=>?_,?_⟩⟩
 ·(have ly:∀p∈es1,MS p.1=O (kv (dec p).1)/\Gn p.2=O (dec p).2:=λp aa=>hd p (hp.mem_iff.1 aa));clear hp hd h;unfold Bt;generalize lL.toList=ml at*;clear ho
  induction es1 generalizing ml with
  |nil=>simp only[List.map_nil,BM] at hk;rw[List.map_eq_nil_iff.1 hk];rfl
  |cons p l ih=>
   simp only[uv,BM] at hk hv;obtain⟨u,us,e1,a1,a2⟩:=hk;obtain⟨x,xs,e2,b1,b2⟩:=hv
   cases ml with
   |nil=>cases e1
   |cons q ml=>simp only[uv,List.cons.injEq] at e1 e2;obtain⟨rfl,rfl⟩:=e1;obtain⟨rfl,rfl⟩:=e2;obtain⟨c1,c2⟩:=ly p (.head _);have d1:=(Og c1).1 a1;have d2:=Z8 c2 b1;simp only[uv,List.cons.injEq,Prod.mk.injEq];exact⟨⟨d1,d2⟩,ih (λp aa=>ly p (.tail _ aa)) ml a2 b2⟩
 .cases aa with
  |head=>
   refine⟨ho,?_⟩
   cases hh:H (R' b).1 with
   |none=>rfl
   |some o'=>rw[m.imm _ _ hh] at hn;cases hn
  |tail _ aa=>exact m'.loc p aa
 .rw[uv,vS];refine⟨λhc=>?_,m'.nd⟩;obtain⟨p,aa,he⟩:=vE.1 hc;have:=(m.loc p aa).1;simp only at he;rw[he,hn] at this;cases this
end
theorem PQ [DecidableEq α] {l l':List (α×V_)} (hp:l.Perm l') (hd:(l'.map ur).Nodup) (k:α):BX l k=BX l' k:=by
 have aa:∀{l:List (α×V_)},(l.map ur).Nodup->∀v,BX l k=O v↔(k,v)∈l:=by
  intro l
  induction l with
  |nil=>intro _ v;simp[BX]
  |cons p l ih=>
   intro hd v;rw[uv,vS] at hd;simp only[BX,ut];split
   .rename_i hk;constructor
    .intro h;cases h;exact .inl (by rw[<-hk])
    .rintro(h|h)
     .rw[<-h]
     .exact a_ (vE.2 ⟨(k,v),h,Z⟩) (by rw[hk] at hd;exact hd.1)
   .rename_i hk;rw[ih hd.2 v];constructor
    .exact .inr
    .rintro(h|h)
     .exact a_ (by rw[<-h]) hk
     .exact h
 have ad:(l.map ur).Nodup:=(hp.map ur).nodup_iff.2 hd
 cases h:BX l' k with
 |some v=>rw[aa ad];exact hp.mem_iff.2 ((aa hd v).1 h)
 |none=>
  cases h2:BX l k with
  |none=>rfl
  |some v=>have:=(aa hd v).2 (hp.mem_iff.1 ((aa ad v).1 h2));rw[h] at this;cases this
end
end
structure Qh where
 word:ByteArray
 to:Bool
 args:Int
 name:Nat
 number:Bool
 low:Int
 high:Int
 places:Int
 w:Bool
 stops:Bool
def Qh.val (s:Qh):V_:= .agg #[U s.word,N s.to,Y I s.args,Y .u8 s.name,N s.number,Y I s.low,Y I s.high,Y I s.places,N s.w,N s.stops]
def GO:Qh:=⟨ui,G,0,0,G,0,0,0,G,G⟩
def Uu:List (Int×Qh):=[
 (1,⟨⟨#[105,110,116]⟩,B,0,0,B,(-1000000000),1000000000,0,G,G⟩),
 (2,⟨⟨#[98,111,111,108]⟩,B,0,0,B,0,1,0,G,G⟩),
 (3,⟨⟨#[116,101,120,116]⟩,B,0,1,G,0,0,0,G,G⟩),
 (4,⟨⟨#[117,110,105,116]⟩,B,0,0,G,0,0,0,G,G⟩),
 (11,⟨⟨#[102,110]⟩,B,0,2,G,0,0,0,G,G⟩),
 (40,⟨⟨#[99,108,111,115,101]⟩,B,(-1),2,G,0,0,0,G,G⟩),
 (14,⟨⟨#[112,114,105,109]⟩,B,(-1),3,G,0,0,0,G,G⟩),
 (15,⟨⟨#[110,101,119]⟩,B,(-1),4,G,0,0,0,G,G⟩),
 (16,⟨⟨#[103,101,116]⟩,B,1,5,B,0,5,0,G,G⟩),
 (17,⟨⟨#[112,117,116]⟩,G,2,5,B,0,5,0,G,G⟩),
 (18,⟨⟨#[99,97,115,101]⟩,B,(-1),6,G,0,0,0,G,G⟩),
 (13,⟨⟨#[99,97,108,108]⟩,B,(-1),0,G,0,0,0,G,G⟩),
 (21,⟨⟨#[116,104,114,111,119]⟩,G,1,0,G,0,0,0,G,B⟩),
 (23,⟨⟨#[115,112,97,119,110]⟩,G,1,0,G,0,0,0,G,G⟩),
 (24,⟨⟨#[99,104,97,110]⟩,B,0,0,B,1,8,0,G,G⟩),
 (25,⟨⟨#[115,101,110,100]⟩,G,2,0,G,0,0,0,G,G⟩),
 (26,⟨⟨#[114,101,99,118]⟩,B,1,0,G,0,0,0,G,G⟩),
 (31,⟨⟨#[121,105,101,108,100]⟩,G,0,0,G,0,0,0,G,G⟩),
 (32,⟨⟨#[111,117,116]⟩,G,1,0,G,0,0,0,G,G⟩),
 (33,⟨⟨#[105,110]⟩,B,0,0,G,0,0,0,G,G⟩),
 (34,⟨⟨#[99,111,108,108,101,99,116]⟩,G,0,0,G,0,0,0,G,G⟩),
 (35,⟨⟨#[119,101,97,107]⟩,B,1,0,G,0,0,0,G,G⟩),
 (37,⟨⟨#[114,111,111,116]⟩,B,0,7,G,0,0,0,G,G⟩),
 (38,⟨⟨#[115,101,116,114,111,111,116]⟩,G,1,7,G,0,0,0,G,G⟩),
 (39,⟨⟨#[116,105,99,107]⟩,G,0,0,G,0,0,0,G,G⟩),
 (60,⟨⟨#[109,111,118,101]⟩,B,1,0,G,0,0,0,G,G⟩),
 (61,⟨⟨#[103,111]⟩,G,0,0,G,0,0,1,G,B⟩),
 (62,⟨⟨#[105,102]⟩,G,1,0,G,0,0,2,G,B⟩),
 (63,⟨⟨#[105,115]⟩,G,1,6,G,0,0,2,G,B⟩),
 (64,⟨⟨#[112,97,114,116]⟩,B,1,0,B,0,3,0,G,G⟩),
 (65,⟨⟨#[104,111,108,100]⟩,B,1,0,G,0,0,2,G,B⟩),
 (66,⟨⟨#[115,101,108,101,99,116]⟩,G,0,0,G,0,0,0,B,B⟩),
 (67,⟨⟨#[116,114,121]⟩,B,0,0,G,0,0,1,G,G⟩),
 (68,⟨⟨#[101,110,100]⟩,G,0,0,G,0,0,0,G,G⟩),
 (69,⟨⟨#[114,101,116]⟩,G,1,0,G,0,0,0,G,B⟩),
 (70,⟨⟨#[115,116,117,99,107]⟩,G,0,0,G,0,0,0,G,B⟩)]
def PF {β:Type} (l:List (Int×β)) (k:Int):Option β:=match l with
 |[]=>X
 |p::l=>if p.1=k then O p.2 else PF l k
def SM (op:Nat):Option Qh:=PF Uu op
structure UV where
 word:ByteArray
 to:Bool
 args:Int
 number:Bool
 low:Int
 high:Int
 name:Nat
 places:Int
def UV.val (s:UV):V_:= .agg #[U s.word,N s.to,Y I s.args,N s.number,Y I s.low,Y I s.high,Y I s.name,Y I s.places]
def oy:UV:=⟨ui,G,0,G,0,0,0,0⟩
def Pk:UV:=⟨⟨#[102,114,101,101]⟩,B,-3,G,0,0,2,0⟩
def pX:List (Int×UV):=[
 (1,⟨⟨#[105,110,116]⟩,B,0,B,(-1000000000),1000000000,0,0⟩),
 (2,⟨⟨#[98,111,111,108]⟩,B,0,B,0,1,0,0⟩),
 (3,⟨⟨#[116,101,120,116]⟩,B,0,G,0,0,1,0⟩),
 (4,⟨⟨#[117,110,105,116]⟩,B,0,G,0,0,0,0⟩),
 (11,⟨⟨#[102,110]⟩,B,0,G,0,0,2,0⟩),
 (40,⟨⟨#[99,108,111,115,101]⟩,B,(-1),G,0,0,2,0⟩),
 (14,⟨⟨#[112,114,105,109]⟩,B,(-1),G,0,0,3,0⟩),
 (15,⟨⟨#[110,101,119]⟩,B,(-1),G,0,0,4,0⟩),
 (16,⟨⟨#[103,101,116]⟩,B,1,B,0,5,5,0⟩),
 (17,⟨⟨#[112,117,116]⟩,G,2,B,0,5,5,0⟩),
 (18,⟨⟨#[99,97,115,101]⟩,B,(-1),G,0,0,6,0⟩),
 (13,⟨⟨#[99,97,108,108]⟩,B,(-2),G,0,0,0,0⟩),
 (21,⟨⟨#[116,104,114,111,119]⟩,G,1,G,0,0,0,0⟩),
 (23,⟨⟨#[115,112,97,119,110]⟩,G,1,G,0,0,0,0⟩),
 (24,⟨⟨#[99,104,97,110]⟩,B,0,B,1,8,0,0⟩),
 (25,⟨⟨#[115,101,110,100]⟩,G,2,G,0,0,0,0⟩),
 (26,⟨⟨#[114,101,99,118]⟩,B,1,G,0,0,0,0⟩),
 (31,⟨⟨#[121,105,101,108,100]⟩,G,0,G,0,0,0,0⟩),
 (32,⟨⟨#[111,117,116]⟩,G,1,G,0,0,0,0⟩),
 (33,⟨⟨#[105,110]⟩,B,0,G,0,0,0,0⟩),
 (34,⟨⟨#[99,111,108,108,101,99,116]⟩,G,0,G,0,0,0,0⟩),
 (35,⟨⟨#[119,101,97,107]⟩,B,1,G,0,0,0,0⟩),
 (37,⟨⟨#[114,111,111,116]⟩,B,0,G,0,0,7,0⟩),
 (38,⟨⟨#[115,101,116,114,111,111,116]⟩,G,1,G,0,0,7,0⟩),
 (39,⟨⟨#[116,105,99,107]⟩,G,0,G,0,0,0,0⟩),
 (60,⟨⟨#[109,111,118,101]⟩,B,1,G,0,0,0,0⟩),
 (61,⟨⟨#[103,111]⟩,G,0,G,0,0,0,1⟩),
 (62,⟨⟨#[105,102]⟩,G,1,G,0,0,0,2⟩),
 (63,⟨⟨#[105,115]⟩,G,1,G,0,0,6,2⟩),
 (64,⟨⟨#[112,97,114,116]⟩,B,1,B,0,3,0,0⟩),
 (65,⟨⟨#[104,111,108,100]⟩,B,1,G,0,0,0,2⟩),
 (66,⟨⟨#[115,101,108,101,99,116]⟩,G,0,G,0,0,0,0⟩),
 (67,⟨⟨#[116,114,121]⟩,B,0,G,0,0,0,1⟩),
 (68,⟨⟨#[101,110,100]⟩,G,0,G,0,0,0,0⟩),
 (69,⟨⟨#[114,101,116]⟩,G,1,G,0,0,0,0⟩),
 (70,⟨⟨#[115,116,117,99,107]⟩,G,0,G,0,0,0,0⟩)]
def SJ (op:Nat):UV:=(PF pX op).getD oy
def CR (op:Nat) (m:Int):UV:=if op=13/\m=1 then Pk else SJ op
def J4 (op:Nat):Bool:=T (op=21\/op=61\/op=62\/op=63\/op=65\/op=66\/op=69\/op=70)
def F6 (n a b:Int):Bool:=T (a<=n/\n<=b)
def Ek:List (ByteArray×Int):=[(⟨#[110,101,103]⟩,1),(⟨#[110,111,116]⟩,1),(⟨#[115,105,122,101]⟩,1),(⟨#[115,104,111,119]⟩,1),(⟨#[114,101,97,100]⟩,1),(⟨#[99,117,116]⟩,3),(⟨#[97,100,100]⟩,2),(⟨#[115,117,98]⟩,2),(⟨#[109,117,108]⟩,2),(⟨#[100,105,118]⟩,2),(⟨#[109,111,100]⟩,2),(⟨#[108,116]⟩,2),(⟨#[108,101]⟩,2),(⟨#[101,113]⟩,2),(⟨#[106,111,105,110]⟩,2),(⟨#[98,121,116,101]⟩,2),(⟨#[115,97,109,101]⟩,2)]
def Ev (s:ByteArray):Int:=match Ek.find? (λp=>T (p.1=s)) with
 |some p=>p.2
 |none=>0
def Cn (x:AI) (s:ByteArray):Int:=DG (λc=>T (c.name=s)) x.d
def Eh (x:AI) (s:ByteArray):Int:=DG (λc=>T (c.name=s)) x.k
def E6 (x:AI) (s:ByteArray):Int:=DG (λc=>T (c.name=s)) x.c
def M7 (x:AI) (k:Nat):Int:=match x.k[k]? with
 |some c=>(c.f.length:Int)
 |none=>0
def Of (x:AI) (k:Nat):Int:=match x.c[k]? with
 |some c=>c.parts
 |none=>0
def FP (x:AI) (i:Bu) (s:UV):Option Int:=
 if s.name=0 then (if i.name=ui then O s.args else X)
 else if s.name=1 then (if DC i.name=B then O s.args else X)
 else if s.name=2 then (if Cn x i.name<0 then X else O s.args)
 else if s.name=3 then (if Ev i.name=0 then X else O (Ev i.name))
 else if s.name=4 then (if Eh x i.name<0 then X else O (M7 x (Eh x i.name).toNat))
 else if s.name=6 then (if E6 x i.name<0 then X else O (if s.args<0 then Of x (E6 x i.name).toNat else s.args))
 else if s.name=7 then (if Aw x.r i.name<0 then X else O s.args)
 else if B3 i.name=B then O s.args else X
def DB (n m:Int):Bool:=
 if m= -1 then B else if m= -2 then F6 n 1 7 else if m= -3 then T (n<=6) else T (n=m)
def Ca (x:AI) (i:Bu) (s:UV):Bool:=match FP x i s with
 |none=>G
 |some m=>DB i.args.length m
def Mu (w:FF) (mV many:Int) (last:Bool):Bool:=
 F6 w.go 0 (many-1)&&
 (if w.kind=1 then F6 w.chan 0 (mV-1)&&(F6 w.value 0 (mV-1)&&T (w.to= -1))
  else if w.kind=2 then F6 w.chan 0 (mV-1)&&(T (w.value=0)&&F6 w.to 0 (mV-1))
  else T (w.kind=3)&&(T (w.chan=0)&&(T (w.value=0)&&(T (w.to= -1)&&last))))
def Eu (l:List FF) (mV many:Int):Bool:=(vA l.length).all λk=>match l[k]? with
 |some w=>Mu w mV many (T (k+1=l.length))
 |none=>B
def Fh (x:AI) (c:AF) (i:Bu):Bool:=
 (T ((CR i.op i.m).word≠ui)&&Ca x i (CR i.op i.m))&&
 ((if (CR i.op i.m).to=B then F6 i.to 0 (c.g-1) else T (i.to= -1))&&
 ((if (CR i.op i.m).number=B then F6 i.n (CR i.op i.m).low (CR i.op i.m).high else T (i.n=0))&&
 ((T (i.m=0\/(i.op=13/\i.m=1))&&T ((i.go.length:Int)=(CR i.op i.m).places))&&
 (i.args.all (λr=>F6 r 0 (c.g-1))&&
 (i.go.all (λp=>F6 p 0 (c.i.length-1))&&
 (Eu i.w c.g c.i.length&&
 (if i.op=66 then F6 i.w.length 1 4 else T (i.w.length=0))))))))
def B9 (l:List ByteArray):Bool:=(vA l.length).all λk=>match l[k]? with
 |some s=>B3 s&&T (Aw (l.take k) s<0)
 |none=>B
def Fg (c:AF):Nat:=match c.i[c.i.length-1]? with
 |some i=>i.op
 |none=>0
def DM (x:AI) (c:AF):Bool:=
 (F6 c.params 0 c.g&&(T (c.i.length≠0)&&J4 (Fg c)))&&c.i.all (Fh x c)
def Fj (c:AK):Bool:=T (c.f.length<=6)&&B9 c.f
def DX (c:Aj):Bool:=B3 c.kind&&F6 c.parts 0 4
def DL (x:AI):Bool:=
 x.k.all Fj&&(x.c.all DX&&(B9 (x.k.map AK.name)&&(B9 (x.c.map Aj.name)&&(B9 x.r&&(B9 (x.d.map AF.name)&&x.d.all (DM x))))))
def Cg (x:AI):Bool:=
 T (x.k.length<=40/\x.c.length<=40/\x.r.length<=40/\x.d.length<=80)&&x.d.all λc=>T (c.i.length<=2000/\c.g<=250)
variable {L:List (Nat×Obj)} {w w0:World}
set_option maxRecDepth 100000
noncomputable section
def YD:CF:=cU uh []
theorem Sj:Ap uh YD:=dS VW λe he=>by cases he
theorem PC:JJ uh (JE YD):=KO FG Sj
def V5 (s:ByteArray):AV:= .s (s.data.toList.map UInt8.toNat)
theorem KH (s:ByteArray):MS (V5 s)=O (.string s):=by unfold V5;show(if _ then _ else _)=_;rw[p_,Jw];rw[uy];intro c hc;obtain⟨b,_,rfl⟩:=vE.1 hc;exact t_ b.toNat_lt
def qx (s:UV):AV:= .agg [V5 s.word,.b s.to,.i .i64 s.args,.b s.number,.i .i64 s.low,.i .i64 s.high,.i .i64 s.name,.i .i64 s.places]
theorem fF (s:UV):Gn (qx s)=O s.val:=by unfold qx Gn;simp only[O0,KH];simp only[MS,vz,UV.val]
def qe (s:Qh):AV:= .agg [V5 s.word,.b s.to,.i .i64 s.args,.i .u8 s.name,.b s.number,.i .i64 s.low,.i .i64 s.high,.i .i64 s.places,.b s.w,.b s.stops]
theorem Ug (s:Qh):Gn (qe s)=O s.val:=by unfold qe Gn;simp only[O0,KH];simp only[MS,vz,Qh.val]
theorem ph:((vA 256).all λop=>rT YD 10000 249 [.i .u8 op] (qx (SJ op)))=true:=by kernel_rfl
theorem oP:((vA 256).all λop=>rT YD 10000 138 [.i .u8 op] (.b (J4 op)))=true:=by kernel_rfl
theorem TH (op:Nat) (h:op<256) {w0 w:W_} {H:Hp} {L:List (Nat×Obj)} (m:AC w0 H L w):
  K_ uh 249 #[.int .u8 op] w (Bv w0 H L (SJ op).val):=
 Ts Sj PC (us:=[.int .u8 op]) (uy.1 ph op (vN.2 h)) Z (fF _) m
theorem aH (op:Nat) (h:op<256) {w0 w:W_} {H:Hp} {L:List (Nat×Obj)} (m:AC w0 H L w):
  K_ uh 138 #[.int .u8 op] w (Bv w0 H L (.bool (J4 op))):=
 Ts Sj PC (us:=[.int .u8 op]) (uy.1 oP op (vN.2 h)) Z Z m
def oh:List (AV×AV):=Uu.map λp=>(.i .u8 p.1,qe p.2)
def pO:List (AV×AV):=Ek.map λp=>(V5 p.1,.i .i64 p.2)
theorem jL:kN YD 10000 171 oh=true:=by kernel_rfl
theorem WR:kN YD 10000 172 pO=true:=by kernel_rfl
def Kq:List (Int×V_):=Uu.map λp=>(p.1,p.2.val)
def Jm:List (ByteArray×V_):=Ek.map λp=>(p.1,.int .i64 p.2)
theorem TX (m:AC w0 H L w):K_ uh 171 #[] w λe w'=>∃b lL cl l,e= .returned (.map (O b))/\l.Perm Kq/\Bt (Value.int .u8) lL l/\AC w0 H ((b,.map lL cl)::L) w':=by
 have:=ZJ Sj PC jL (Value.int .u8) (λp=>((match p.1 with| .i _ n=>n|_=>0),(Gn p.2).getD (.bool G))) (λp hp=>by
  obtain⟨q,_,rfl⟩:=vE.1 hp
  exact⟨Z,by simp only[Ug,wR]⟩) m
 refine this.mono ?_;rintro e w' ⟨b,lL,cl,l,rfl,hp,hm,m'⟩;refine⟨b,lL,cl,l,Z,?_,hm,m'⟩
 rw[show Kq=oh.map (λp=>((match p.1 with| .i _ n=>n|_=>0),(Gn p.2).getD (.bool G))) by
  unfold Kq oh;rw[wG];refine x9 λp _=>?_
  simp only[Function.comp_apply,Ug,wR]]
 exact hp
theorem PV (m:AC w0 H L w):K_ uh 172 #[] w λe w'=>∃b lL cl l,e= .returned (.map (O b))/\l.Perm Jm/\Bt xA lL l/\AC w0 H ((b,.map lL cl)::L) w':=by
 have:=ZJ Sj PC WR xA (λp=>((match p.1 with| .s l=>BP l|_=>ui),(Gn p.2).getD (.bool G))) (λp hp=>by
  obtain⟨q,_,rfl⟩:=vE.1 hp;refine⟨?_,Z⟩;rw[KH]
  simp only[V5,Jw]) m
 refine this.mono ?_;rintro e w' ⟨b,lL,cl,l,rfl,hp,hm,m'⟩;refine⟨b,lL,cl,l,Z,?_,hm,m'⟩
 rw[show Jm=pO.map (λp=>((match p.1 with| .s l=>BP l|_=>ui),(Gn p.2).getD (.bool G))) by
  unfold Jm pO;rw[wG];(refine x9 λp _=>?_);simp only[Function.comp_apply,V5,Jw]
  rfl]
 exact hp
end
theorem A8 {a b:Bool} (h:a=b):Ending.returned (N a)= .returned (N b):=by rw[h]
theorem CH {k:IntKind} {a b:Int} (h:a=b):Ending.returned (Y k a)= .returned (Y k b):=by rw[h]
def Nd (lo hi:Int) (xs:List Int):Bool:=xs.all λn=>T (lo<=n/\n<=hi)
def KI (p:Bool) (w:W_) (e:E_) (w':W_):Prop:=∃k:Int,e= .returned (Y I k)/\T (0<=k)=p/\w=w'
theorem RR (n lo hi:Int) (bl bh:Nat) (w:W_) (h1:w.cell? ⟨bl,0,X⟩=O (Y I lo)) (h2:w.cell? ⟨bh,0,X⟩=O (Y I hi)):K_ uh 111 #[Y I n,M (O ⟨bl,0,X⟩),M (O ⟨bh,0,X⟩)] w λe w'=>e= .returned (N (T (lo<=n/\n<=hi)))/\w=w':=by go_enter func111,ntmps111;go_wp2;all_goals (go_ret;refine⟨A8 ?_,Z⟩;rw[xB];simp<;>omega)
theorem Kv (n lo hi:Int) (bl bh bf:Nat) (w:W_) (hf:w.cell? ⟨bf,0,X⟩=O (.func (.func 111) #[] #[M (O ⟨bl,0,X⟩),M (O ⟨bh,0,X⟩)])) (h1:w.cell? ⟨bl,0,X⟩=O (Y I lo)) (h2:w.cell? ⟨bh,0,X⟩=O (Y I hi)):K_ uh 146 #[Y I n,M (O ⟨bf,0,X⟩)] w λe w'=>e= .returned (N (!T (lo<=n/\n<=hi)))/\w=w':=by go_enter func146,ntmps146;go_wp2_with (go_at_call 111;refine BQ (RR _ lo hi bl bh _ h1 h2) ?_);go_ret;exact⟨A8 (by simp),Z⟩
theorem Mk (v:V_) (xs:List Int) (lo hi:Int) (bl bh bf:Nat) (m:AC w0 H L w) (hv:AX AY H v xs) (hf:w.cell? ⟨bf,0,X⟩=O (.func (.func 111) #[] #[M (O ⟨bl,0,X⟩),M (O ⟨bh,0,X⟩)])) (h1:w.cell? ⟨bl,0,X⟩=O (Y I lo)) (h2:w.cell? ⟨bh,0,X⟩=O (Y I hi)):K_ uh 202 #[v,.func (.func 146) #[] #[M (O ⟨bf,0,X⟩)]] w (KI (!Nd lo hi xs) w):=by
 have HV:=A5 hv;obtain⟨b,c,rfl,ad,aa,_,_⟩:=hv;have aa:=A9 aa;go_enter func202,ntmps202;go_wp2;go_loop [5,8] (λ_ i=>∃k:Nat,k<=xs.length/\i= Y I k/\Nd lo hi (xs.take k)=B) (λ_ i=>xs.length-(intOf i).toNat);case atStart=>exact⟨0,un _,Z,Z⟩
 case round=>
  obtain⟨k,hk,rfl,ly⟩:=hrel;have HA:=A5 ly;clear ly;by_cases lg:k<xs.length
  .obtain⟨lu,off,rfl,lx,hp⟩:=HV.out.cellV lg;have lx:=lx.cell m;cases hq:T (lo<=xs[k]/\xs[k]<=hi)
   .have HQ:=A5 hq;go_wp2_with (go_at_call 146;refine BQ (Kv _ lo hi bl bh bf _ hf h1 h2) ?_);go_ret;refine⟨_,Z,?_,Z⟩;rw[show Nd lo hi xs=G from B4 _ xs k lg HQ.out];simp
   .have HQ:=A5 hq;go_wp2_with (go_at_call 146;refine BQ (Kv _ lo hi bl bh bf _ hf h1 h2) ?_);go_round;(case rel=>exact⟨k+1,by omega,by go_num,by have:=HA.out;unfold Nd at*;rw[Bi _ _ _ lg,this,HQ.out];rfl⟩);case measure=>exact BW
  .go_wp2;exact NA
theorem Ka (v:V_) (xs:List Int) (lo hi:Int) (bl bh bf:Nat) (m:AC w0 H L w) (hv:AX AY H v xs) (hf:w.cell? ⟨bf,0,X⟩=O (.func (.func 111) #[] #[M (O ⟨bl,0,X⟩),M (O ⟨bh,0,X⟩)])) (h1:w.cell? ⟨bl,0,X⟩=O (Y I lo)) (h2:w.cell? ⟨bh,0,X⟩=O (Y I hi)):K_ uh 145 #[v,.func (.func 146) #[] #[M (O ⟨bf,0,X⟩)]] w λe w'=>e= .returned (N (!Nd lo hi xs))/\w=w':=by go_enter func145,ntmps145;go_wp2_with (go_at_call 202;refine(Mk v xs lo hi bl bh bf m hv hf h1 h2).mono ?_;rintro e w' ⟨k,rfl,hk,rfl⟩;have HK:=A5 hk;clear hk);exact Mv
theorem Th (v:V_) (xs:List Int) (lo hi:Int) (bl bh:Nat) (m:AC w0 H L w) (hv:AX AY H v xs) (h1:w.cell? ⟨bl,0,X⟩=O (Y I lo)) (h2:w.cell? ⟨bh,0,X⟩=O (Y I hi)) (hl:bl<w.heap.size) (hh:bh<w.heap.size):K_ uh 110 #[v,.func (.func 111) #[] #[M (O ⟨bl,0,X⟩),M (O ⟨bh,0,X⟩)]] w (Bv w0 H L (N (Nd lo hi xs))):=by have HV:=A5 hv;clear hv;go_enter func110,ntmps110;have m1:=m.alloc (C #[.func (.func 111) #[] #[M (O ⟨bl,0,X⟩),M (O ⟨bh,0,X⟩)]] 170);have es:=m1.e0;have g1:=World.heap_alloc_lt' w (C #[.func (.func 111) #[] #[M (O ⟨bl,0,X⟩),M (O ⟨bh,0,X⟩)]] 170) bl hl;have g2:=World.heap_alloc_lt' w (C #[.func (.func 111) #[] #[M (O ⟨bl,0,X⟩),M (O ⟨bh,0,X⟩)]] 170) bh hh;go_wp2_with fail;refine(Ka v xs lo hi bl bh _ m1 HV.out Gd (by unfold wQ at*;simp only at*;rw[g1];exact h1) (by unfold wQ at*;simp only at*;rw[g2];exact h2)).mono ?_;exact NU
theorem U2 (v:V_) (xs:List Int) (lo hi:Int) (m:AC w0 H L w) (hv:AX AY H v xs):K_ uh 66 #[Y I lo,Y I hi,v] w (Bv w0 H L (N (Nd lo hi xs))):=by have HV:=A5 hv;clear hv;go_enter func66,ntmps66;go_wp2_with fail;have m1:=(m.alloc (C #[Y I lo] 3)).alloc (C #[Y I hi] 3);have es:=m1.e0;refine(Th v xs lo hi _ _ m1 HV.out Gd Gd BL (by simp)).mono ?_;rintro e w1 ⟨rfl,m2⟩;go_wp2;go_ret;exact⟨Z,m2.drop.drop⟩
theorem AC.ints {w0 w:W_} {H:Hp} {L:List (Nat×Obj)} {b:Nat} {xs:List Int} (m:AC w0 H ((b,C (xs.map (Y I)).toArray 3)::L) w) (hx:∀x∈xs,EH x) (hm:xs.length<=maxLen):
  ∃H',AC w0 H' L w/\Bl H H'/\AX AY H' (V (O ⟨b,0,X⟩) xs.length xs.length) xs:=
 m.lit (Ai.ofV (f:=Y I) (p:=EH) xs hx) hm
theorem Dm (b:Nat) (n lo hi:Int) (hn:EH n) (m:AC w0 H ((b,C #[Y I n] 3)::L) w):K_ uh 66 #[Y I lo,Y I hi,V (O ⟨b,0,X⟩) 1 1] w (Bv w0 H L (N (T (lo<=n/\n<=hi)))):=by obtain⟨H',m1,hl,hs⟩:=AC.ints (xs:=[n]) m (by simpa using hn) (by simp[maxLen]);refine(U2 _ [n] lo hi m1 hs).mono ?_;rintro e w' ⟨rfl,m2⟩;exact⟨by simp[Nd],m2.weaken hl⟩
theorem Pd (c:UInt8) (w:W_):K_ uh 168 #[Y .u8 c.toNat] w λe w'=>e= .returned (N (BN c))/\w=w':=by
 cases ho:BN c
 .have hb:=(Fx _).1 ho;have hx:((c.toNat:Int) !=34)= !T (c.toNat=34):=SQ;go_enter func168,ntmps168;go_wp2_with fail;all_goals (go_ret;refine⟨A8 ?_,Z⟩;first|rfl|(simp;omega)|omega)
 .have hb:=(Ef _).1 ho;have hx:((c.toNat:Int) !=34)=true:=BL;go_enter func168,ntmps168;go_wp2_with fail;all_goals (go_ret;refine⟨A8 ?_,Z⟩;first|rfl|(simp;omega)|omega)
theorem NC (c:UInt8) (w:W_):K_ uh 201 #[Y .u8 c.toNat] w λe w'=>e= .returned (N (CG c))/\w=w':=by
 cases ho:CG c
 .have hb:=(IS _).1 ho;have hx:((c.toNat:Int)==10)=false:=BL;go_enter func201,ntmps201;go_wp2_with fail;all_goals (go_ret;refine⟨A8 ?_,Z⟩;first|rfl|(simp;omega)|omega)
 .have hb:=(GY _).1 ho;have hx:((c.toNat:Int)==10)=T (c.toNat=10):=SQ;go_enter func201,ntmps201;go_wp2_with fail;all_goals (go_ret;refine⟨A8 ?_,Z⟩;first|rfl|(simp;omega)|omega)
theorem Fs (c:UInt8) (bf:Nat) (w:W_) (hf:w.cell? ⟨bf,0,X⟩=O (.func (.func 168) #[] #[])):K_ uh 217 #[Y .u8 c.toNat,M (O ⟨bf,0,X⟩)] w λe w'=>e= .returned (N (!BN c))/\w=w':=by go_enter func217,ntmps217;go_wp2_with (go_at_call 168;refine BQ (Pd c _) ?_);go_ret;exact⟨Z,Z⟩
theorem Ip (v:V_) (xs:List UInt8) (bf:Nat) (m:AC w0 H L w) (hv:AX Gt H v xs) (hf:w.cell? ⟨bf,0,X⟩=O (.func (.func 168) #[] #[])):K_ uh 266 #[v,.func (.func 217) #[] #[M (O ⟨bf,0,X⟩)]] w (KI (!xs.all BN) w):=by
 have HV:=A5 hv;obtain⟨b,c,rfl,ad,aa,_,_⟩:=hv;have aa:=A9 aa;go_enter func266,ntmps266;go_wp2;go_loop [5,8] (λ_ i=>∃k:Nat,k<=xs.length/\i= Y I k/\(xs.take k).all BN=B) (λ_ i=>xs.length-(intOf i).toNat);case atStart=>exact⟨0,un _,Z,Z⟩
 case round=>
  obtain⟨k,hk,rfl,ly⟩:=hrel;have HA:=A5 ly;clear ly;by_cases lg:k<xs.length
  .obtain⟨lu,off,rfl,lx,hp⟩:=HV.out.cellV lg;have lx:=lx.cell m;cases hq:BN xs[k]
   .have HQ:=A5 hq;go_wp2_with (go_at_call 217;refine(Fs _ bf _ hf).mono ?_;rw[HQ.out];rintro e w' ⟨rfl,rfl⟩);go_ret;refine⟨_,Z,?_,Z⟩;rw[show xs.all BN=G from B4 _ xs k lg HQ.out];simp
   .have HQ:=A5 hq;go_wp2_with (go_at_call 217;refine(Fs _ bf _ hf).mono ?_;rw[HQ.out];rintro e w' ⟨rfl,rfl⟩);go_round;(case rel=>exact⟨k+1,by omega,by go_num,by rw[Bi _ _ _ lg,HA.out,HQ.out];rfl⟩);case measure=>exact BW
  .go_wp2;exact NA
theorem Gh (v:V_) (xs:List UInt8) (bf:Nat) (m:AC w0 H L w) (hv:AX Gt H v xs) (hf:w.cell? ⟨bf,0,X⟩=O (.func (.func 168) #[] #[])):K_ uh 216 #[v,.func (.func 217) #[] #[M (O ⟨bf,0,X⟩)]] w λe w'=>e= .returned (N (!xs.all BN))/\w=w':=by go_enter func216,ntmps216;go_wp2_with (go_at_call 266;refine(Ip v xs bf m hv hf).mono ?_;rintro e w' ⟨k,rfl,hk,rfl⟩;have HK:=A5 hk;clear hk);exact Mv
theorem LU (v:V_) (xs:List UInt8) (m:AC w0 H L w) (hv:AX Gt H v xs):K_ uh 167 #[v,.func (.func 168) #[] #[]] w (Bv w0 H L (N (xs.all BN))):=by have HV:=A5 hv;clear hv;go_enter func167,ntmps167;have m1:=m.alloc (C #[.func (.func 168) #[] #[]] 193);have es:=m1.e0;go_wp2_with fail;refine(Gh v xs _ m1 HV.out Gd).mono ?_;exact NU
theorem Et (c:UInt8) (bf:Nat) (w:W_) (hf:w.cell? ⟨bf,0,X⟩=O (.func (.func 201) #[] #[])):K_ uh 217 #[Y .u8 c.toNat,M (O ⟨bf,0,X⟩)] w λe w'=>e= .returned (N (!CG c))/\w=w':=by go_enter func217,ntmps217;go_wp2_with (go_at_call 201;refine BQ (NC c _) ?_);go_ret;exact⟨Z,Z⟩
theorem Hh (v:V_) (xs:List UInt8) (bf:Nat) (m:AC w0 H L w) (hv:AX Gt H v xs) (hf:w.cell? ⟨bf,0,X⟩=O (.func (.func 201) #[] #[])):K_ uh 266 #[v,.func (.func 217) #[] #[M (O ⟨bf,0,X⟩)]] w (KI (!xs.all CG) w):=by
 have HV:=A5 hv;obtain⟨b,c,rfl,ad,aa,_,_⟩:=hv;have aa:=A9 aa;go_enter func266,ntmps266;go_wp2;go_loop [5,8] (λ_ i=>∃k:Nat,k<=xs.length/\i= Y I k/\(xs.take k).all CG=B) (λ_ i=>xs.length-(intOf i).toNat);case atStart=>exact⟨0,un _,Z,Z⟩
 case round=>
  obtain⟨k,hk,rfl,ly⟩:=hrel;have HA:=A5 ly;clear ly;by_cases lg:k<xs.length
  .obtain⟨lu,off,rfl,lx,hp⟩:=HV.out.cellV lg;have lx:=lx.cell m;cases hq:CG xs[k]
   .have HQ:=A5 hq;go_wp2_with (go_at_call 217;refine(Et _ bf _ hf).mono ?_;rw[HQ.out];rintro e w' ⟨rfl,rfl⟩);go_ret;refine⟨_,Z,?_,Z⟩;rw[show xs.all CG=G from B4 _ xs k lg HQ.out];simp
   .have HQ:=A5 hq;go_wp2_with (go_at_call 217;refine(Et _ bf _ hf).mono ?_;rw[HQ.out];rintro e w' ⟨rfl,rfl⟩);go_round;(case rel=>exact⟨k+1,by omega,by go_num,by rw[Bi _ _ _ lg,HA.out,HQ.out];rfl⟩);case measure=>exact BW
  .go_wp2;exact NA
theorem GE (v:V_) (xs:List UInt8) (bf:Nat) (m:AC w0 H L w) (hv:AX Gt H v xs) (hf:w.cell? ⟨bf,0,X⟩=O (.func (.func 201) #[] #[])):K_ uh 216 #[v,.func (.func 217) #[] #[M (O ⟨bf,0,X⟩)]] w λe w'=>e= .returned (N (!xs.all CG))/\w=w':=by go_enter func216,ntmps216;go_wp2_with (go_at_call 266;refine(Hh v xs bf m hv hf).mono ?_;rintro e w' ⟨k,rfl,hk,rfl⟩;have HK:=A5 hk;clear hk);exact Mv
theorem Jk (v:V_) (xs:List UInt8) (m:AC w0 H L w) (hv:AX Gt H v xs):K_ uh 167 #[v,.func (.func 201) #[] #[]] w (Bv w0 H L (N (xs.all CG))):=by have HV:=A5 hv;clear hv;go_enter func167,ntmps167;have m1:=m.alloc (C #[.func (.func 201) #[] #[]] 193);have es:=m1.e0;go_wp2_with fail;refine(GE v xs _ m1 HV.out Gd).mono ?_;exact NU
def Hz (p:UInt8->Bool) (s:ByteArray):Bool:=s.data.toList.all p
theorem Zo (s:ByteArray):B3 s=(T (1<=s.size/\s.size<=40)&&Hz BN s):=by unfold B3 Hz;rw[xC]
theorem Zw (s:ByteArray):DC s=(T (s.size<=200)&&Hz CG s):=by unfold DC Hz;rw[xC]
theorem Uv (w:W_) (s:ByteArray):(convert 9 221 (U s)).run uh w= .ok (V (O ⟨w.heap.size,0,X⟩) s.size (grownCap w s.size 0 5)) (Lib.bytesWorld w 5 s):=
 Lib.run_convert_string_bytes w _ _ _ s underlying9 underlying221 underlying5
theorem G9 (s:ByteArray) (hs:s.size<=maxLen) (m:AC w0 H L w):K_ uh 121 #[U s] w (Bv w0 H L (N (B3 s))):=by
 have HS:=A5 hs;have hs:=A9 hs;rw[Zo];go_enter func121,ntmps121;have m1:=m.alloc (C #[Y I s.size] 3);by_cases h:(1:Int)<=s.size/\(s.size:Int)<=40
 .have hd:T (1<=s.size/\s.size<=40)=true:=t_ A0;have aa:T ((1:Int)<=s.size/\(s.size:Int)<=40)=true:=t_ h;rw[hd,wO];go_wp2_with fail;refine(Dm _ s.size 1 40 ⟨by omega,by omega⟩ m1).mono ?_;rintro e w' ⟨rfl,m2⟩;rw[aa];obtain⟨H',m3,mN,hsl⟩:=m2.bytes 5 s HS.out;have hc:=Uv w' s;go_wp2_with fail;refine(LU _ _ m3 hsl).mono ?_;rintro e w2 ⟨rfl,m4⟩;rw[show s.data.toList.all BN=Hz BN s from Z];go_wp2_with fail;go_ret;exact⟨A8 Z,m4.weaken mN⟩
 .have hd:T (1<=s.size/\s.size<=40)=false:=f_ A0;have aa:T ((1:Int)<=s.size/\(s.size:Int)<=40)=false:=f_ h;rw[hd,wU];go_wp2_with fail;refine(Dm _ s.size 1 40 ⟨by omega,by omega⟩ m1).mono ?_;rintro e w' ⟨rfl,m2⟩;rw[aa];go_wp2_with fail;go_ret;exact⟨Z,m2⟩
theorem QX (s:ByteArray) (hs:s.size<=maxLen) (m:AC w0 H L w):K_ uh 144 #[U s] w (Bv w0 H L (N (DC s))):=by
 have HS:=A5 hs;have hs:=A9 hs;rw[Zw];go_enter func144,ntmps144;by_cases h:s.size<=200
 .have hI:(s.size:Int)<=200:=A0;rw[t_ h,wO];obtain⟨H',m3,mN,hsl⟩:=m.bytes 5 s HS.out;have hc:=Uv w s;go_wp2_with fail;refine(Jk _ _ m3 hsl).mono ?_;rintro e w2 ⟨rfl,m4⟩;rw[show s.data.toList.all CG=Hz CG s from Z];go_wp2_with fail;go_ret;exact⟨A8 Z,m4.weaken mN⟩
 .rw[f_ h,wU];go_wp2_with fail;go_ret;exact⟨Z,m⟩
theorem Bk.basic_or (v:Bk):v.basic=(if v.kind<4 then v.plain else G):=by
 unfold Bk.basic Bk.plain;by_cases h:v.kind<4
 .rw[p_ h,t_ (by omega:v.kind≠4),t_ (by omega:v.kind≠5),xD,xD]
 .rw[n_ h,n_ A0,n_ A0,n_ A0,n_ A0];by_cases h4:v.kind=4
  .rw[f_ (by omega:¬v.kind≠4),wN,wU]
  .by_cases h5:v.kind=5
   .rw[f_ (by omega:¬v.kind≠5),wN]
   .rw[n_ h4,n_ h5];rfl
theorem RN (x:Bk) (hx:x.fit) (m:AC w0 H L w):K_ uh 108 #[x.v] w (Bv w0 H L (N x.basic)):=by
 obtain⟨hk,hn,hs⟩:=hx;have HS:=A5 hs;clear hs;rw[Bk.basic_or];show K_ uh 108 #[.agg #[Y .u8 x.kind,Y I x.n,U x.s]] w _;have m1:=m.alloc (C #[Y .u8 x.kind,Y I x.n,U x.s] 43);have hI:=hn;unfold EH at hn;obtain⟨k,n,s⟩:=x;simp only at*;have m2:=m1.alloc (C #[Y I n] 3);rw[xE] at m2;have aa:k=0\/k=1\/k=2\/k=3\/3<k:=A0;rcases aa with rfl|rfl|rfl|rfl|hk5
 .go_enter func108,ntmps108;exact nJ
 .by_cases hr:(-1000000000:Int)<=n/\n<=1000000000
  .by_cases hs0:s=ui
   .subst hs0;go_enter func108,ntmps108;go_wp2_with fail;refine(Dm _ n (-1000000000) 1000000000 hI m2).mono ?_;exact jX
   ·(have hl0:¬s.toList=[]:=λe=>hs0 ((B5 s).1 e));go_enter func108,ntmps108;go_wp2_with fail;refine(Dm _ n (-1000000000) 1000000000 hI m2).mono ?_;exact cI
  .go_enter func108,ntmps108;go_wp2_with fail;refine(Dm _ n (-1000000000) 1000000000 hI m2).mono ?_;exact fH
 .by_cases hr:(0:Int)<=n/\n<=1
  .by_cases hs0:s=ui
   .subst hs0;go_enter func108,ntmps108;go_wp2_with fail;refine(Dm _ n (0) 1 hI m2).mono ?_;exact jX
   ·(have hl0:¬s.toList=[]:=λe=>hs0 ((B5 s).1 e));go_enter func108,ntmps108;go_wp2_with fail;refine(Dm _ n (0) 1 hI m2).mono ?_;exact cI
  .go_enter func108,ntmps108;go_wp2_with fail;refine(Dm _ n (0) 1 hI m2).mono ?_;exact fH
 .by_cases h0:n=0
  .subst h0;go_enter func108,ntmps108;go_wp2_with fail;refine(QX s HS.out m1).mono ?_;rintro e w' ⟨rfl,m3⟩;go_wp2_with fail;go_ret;exact⟨A8 (by simp[Bk.plain]),m3.drop⟩
  .go_enter func108,ntmps108;go_wp2_with fail;go_ret;exact⟨A8 (by simp[Bk.plain,h0]),m1.drop⟩
 .rw[n_ A0];have e0:((k:Int)==0)=false:=BL;have e1:((k:Int)==1)=false:=BL;have e2:((k:Int)==2)=false:=BL;have e3:((k:Int)==3)=false:=BL;go_enter func108,ntmps108;go_wp2_with fail;exact GS
theorem IK (n lo hi:Int) (w:W_):K_ uh 253 #[Y I n,Y I lo,Y I hi] w λe w'=>e= .returned (N (T (lo<=n/\n<=hi)))/\w=w':=by
 by_cases h1:lo<=n
 .by_cases h2:n<=hi
  .rw[t_ ⟨h1,h2⟩];go_enter func253,ntmps253;go_wp2_with fail;all_goals (go_ret;exact⟨by first|rfl|simp[h1,h2],Z⟩)
  .rw[f_ (λh=>h2 h.2)];go_enter func253,ntmps253;go_wp2_with fail;all_goals (go_ret;exact⟨by first|rfl|(simp;omega),Z⟩)
 .rw[f_ (λh=>h1 h.1)];go_enter func253,ntmps253;go_wp2_with fail;all_goals (go_ret;exact⟨by first|rfl|(simp;omega),Z⟩)
theorem T2 (s:ByteArray) (hs:s.size<=maxLen) (w:W_):K_ uh 254 #[U s] w λe w'=>e= .returned (N (DC s))/\w=w':=by
 have hs:=A9 hs;go_enter func254,ntmps254;go_wp2_with fail;go_loop [3] (λi=>∃k:Nat,k<=s.size/\i= Y I k/\(s.data.toList.take k).all CG=B) (λi=>s.size-(intOf i).toNat);case atStart=>exact⟨0,un _,Z,Z⟩
 case round=>
  obtain⟨k,hk,rfl,ly⟩:=hrel;have HA:=A5 ly;clear ly;by_cases lg:k<s.size
  .have lJ:(k:Int)<s.size:=A0;have aa:s[k].toNat<256:=s[k].toNat_lt;cases ho:CG s[k]
   .have hb:=(IS _).1 ho;have HO:=A5 ho;clear ho;have hx:((s[k].toNat:Int) !=10)=true:=SE;have hin:T ((32:Int)<=(s[k].toNat:Int)/\(s[k].toNat:Int)<=126)=false:=f_ A0;go_wp2_with fail;refine(IK _ _ _ _).mono ?_;exact Wf
   .have hb:=(GY _).1 ho;have HO:=A5 ho;clear ho;by_cases ad:s[k].toNat=10
    .have hx:((s[k].toNat:Int) !=10)=false:=(by rw[ad];rfl);have hin:T ((32:Int)<=(s[k].toNat:Int)/\(s[k].toNat:Int)<=126)=false:=f_ A0;go_wp2_with fail;refine(IK _ _ _ _).mono ?_;exact cL
    .have hin:T ((32:Int)<=(s[k].toNat:Int)/\(s[k].toNat:Int)<=126)=true:=t_ A0;go_wp2_with fail;refine(IK _ _ _ _).mono ?_;exact YE
  .exact tj
theorem Xm (s:ByteArray) (hs:s.size<=maxLen) (w:W_):K_ uh 255 #[U s] w λe w'=>e= .returned (N (B3 s))/\w=w':=by
 have hs:=A9 hs;by_cases hl:1<=s.size/\s.size<=40
 .have hin0:T ((1:Int)<=(s.size:Int)/\(s.size:Int)<=40)=true:=t_ A0;go_enter func255,ntmps255;go_wp2_with fail;refine BQ (IK _ _ _ _) ?_;rw[hin0];clear hin0;go_wp2_with fail;go_loop [3] (λi=>∃k:Nat,k<=s.size/\i= Y I k/\(s.data.toList.take k).all BN=B) (λi=>s.size-(intOf i).toNat);case atStart=>exact⟨0,un _,Z,Z⟩
  case round=>
   obtain⟨k,hk,rfl,ly⟩:=hrel;have HA:=A5 ly;clear ly;by_cases lg:k<s.size
   .have lJ:(k:Int)<s.size:=A0;have aa:s[k].toNat<256:=s[k].toNat_lt;cases ho:BN s[k]
    .have hb:=(Fx _).1 ho;have HO:=A5 ho;clear ho;by_cases hr:33<=s[k].toNat/\s[k].toNat<=126
     .have hin:T ((33:Int)<=(s[k].toNat:Int)/\(s[k].toNat:Int)<=126)=true:=t_ A0;have hx:((s[k].toNat:Int)==34)=true:=d8;go_wp2_with fail;exact fW
     .have hin:T ((33:Int)<=(s[k].toNat:Int)/\(s[k].toNat:Int)<=126)=false:=f_ A0;go_wp2_with fail;exact fW
    .have hb:=(Ef _).1 ho;have HO:=A5 ho;clear ho;have hx:((s[k].toNat:Int)==34)=false:=bF A0;have hin:T ((33:Int)<=(s[k].toNat:Int)/\(s[k].toNat:Int)<=126)=true:=t_ A0;go_wp2_with fail;refine(IK _ _ _ _).mono ?_;exact YL
   .go_wp2_with fail;go_ret;exact⟨A8 (by rw[Ny s k lg hl HA.out]),Z⟩
 .have hin0:T ((1:Int)<=(s.size:Int)/\(s.size:Int)<=40)=false:=f_ A0;go_enter func255,ntmps255;go_wp2_with fail;refine(IK _ _ _ _).mono ?_;exact eP
theorem Vj (x:Bk) (hx:x.fit) (m:AC w0 H L w):K_ uh 200 #[x.v] w (Bv w0 H L (N x.plain)):=by
 obtain⟨hk,hn,hs⟩:=hx;have HS:=A5 hs;clear hs;show K_ uh 200 #[.agg #[Y .u8 x.kind,Y I x.n,U x.s]] w _;have m1:=m.alloc (C #[Y .u8 x.kind,Y I x.n,U x.s] 43);have hI:=hn;unfold EH at hn;obtain⟨k,n,s⟩:=x;simp only at*;have aa:k=0\/k=1\/k=2\/k=3\/k=4\/k=5\/5<k:=A0;rcases aa with rfl|rfl|rfl|rfl|rfl|rfl|hk5
 .go_enter func200,ntmps200;exact nJ
 .by_cases hs0:s=ui
  .subst hs0;go_enter func200,ntmps200;go_wp2_with fail;refine BQ (IK _ _ _ _) ?_;by_cases hr:(-1000000000:Int)<=n/\n<=1000000000
   .exact iJ
   .exact rU
  .exact al
 .by_cases hs0:s=ui
  .subst hs0;go_enter func200,ntmps200;go_wp2_with fail;refine BQ (IK _ _ _ _) ?_;by_cases hr:(0:Int)<=n/\n<=1
   .exact iJ
   .exact rU
  .exact al
 .by_cases hn0:n=0
  .subst hn0;go_enter func200,ntmps200;go_wp2_with fail;refine(T2 s HS.out _).mono ?_;exact iG
  .exact j6
 .by_cases hn0:n=0
  .subst hn0;go_enter func200,ntmps200;go_wp2_with fail;refine(Xm s HS.out _).mono ?_;exact iG
  .exact j6
 .by_cases hs0:s=ui
  .subst hs0;go_enter func200,ntmps200;by_cases hn0:0<=n
   .go_wp2_with fail;go_ret;exact⟨A8 (by simp[Bk.plain,hn0]),m1.drop⟩
   .have hge:¬(0:Int)<=n:=hn0;go_wp2_with fail;go_ret;exact⟨A8 (by simp[Bk.plain];omega),m1.drop⟩
  .exact al
 .have e0:((k:Int)==0)=false:=bF A0;have e1:((k:Int)==1)=false:=bF A0;have e2:((k:Int)==2)=false:=bF A0;have e3:((k:Int)==3)=false:=bF A0;have e4:((k:Int)==4)=false:=bF A0;have e5:((k:Int)==5)=false:=bF A0;go_enter func200,ntmps200;go_wp2_with fail;go_ret;refine⟨A8 ?_,m1.drop⟩;simp[Bk.plain,(A0:k≠0),(A0:k≠1),(A0:k≠2),(A0:k≠3),(A0:k≠4),(A0:k≠5)]
variable {α:Type} {E:Kc α} {xs:List α}
theorem AW (a b:ByteArray):a.toList=b.toList↔a=b:=by
 rw[wP,wP];constructor
 .intro h;cases a;cases b;simp only at h;rw[Array.ext' h]
 .rintro rfl;rfl
def Ir (w:W_) (v:V_) (xs:List ByteArray):Prop:=∃b c,v= V b xs.length c/\xs.length<=maxLen/\∀i,(h:i<xs.length)->∃lu off,b=O ⟨lu,off,X⟩/\w.cell? ⟨lu,off+i,X⟩=O (U xs[i])
theorem AX.strsAt {v:V_} {xs:List ByteArray} (h:AX Aq H v xs) (m:AC w0 H L w):Ir w v xs:=by have h':=h;obtain⟨b,c,rfl,h1,h2,_,_⟩:=h';refine⟨b,c,Z,by omega,λi hi=>?_⟩;obtain⟨lu,off,rfl,hc,_⟩:=h.getStr hi;exact⟨lu,off,Z,hc.cell m⟩
theorem Ml (v:V_) (xs:List ByteArray) (s:ByteArray) (hv:Ir w v xs):K_ uh 112 #[v,U s] w λe w'=>e= .returned (Y I (Aw xs s))/\w=w':=by
 obtain⟨b,c,rfl,aa,ad⟩:=hv;have aa:=A9 aa;have HAT:=A5 ad;clear ad;go_enter func112,ntmps112;go_wp2_with fail;go_loop [5,8] (λ_ i=>∃k:Nat,k<=xs.length/\i= Y I k/\(xs.take k).all (λx=> !T (x=s))=B) (λ_ i=>xs.length-(intOf i).toNat);case atStart=>exact⟨0,un _,Z,Z⟩
 case round=>
  obtain⟨k,hk,rfl,ly⟩:=hrel;have HA:=A5 ly;clear ly;by_cases lg:k<xs.length
  .obtain⟨lu,off,rfl,lx⟩:=HAT.out k lg;by_cases hq:xs[k]=s
   .have HQ:=A5 hq;have hsl:(s.toList==xs[k].toList)=true:=PL;go_wp2_with fail;go_ret;exact⟨CH lZ,Z⟩
   .have HQ:=A5 hq;(have hsl:(s.toList==xs[k].toList)=false:=bF λe=>hq ((AW _ _).1 e).symm);go_wp2_with fail;go_round;(case rel=>exact⟨k+1,by omega,by go_num,Ea lg HA.out (f_ HQ.out)⟩);case measure=>exact BW
  .go_wp2_with fail;go_ret;exact⟨CH (by unfold Aw;rw[EQ k lg HA.out]),Z⟩
theorem MK (v:V_) (xs:List ByteArray) (s:ByteArray) (hv:Ir w v xs):K_ uh 87 #[v,U s] w λe w'=>e= .returned (N (T (0<=Aw xs s)))/\w=w':=by go_enter func87,ntmps87;go_wp2_with (go_at_call 112;refine BQ (Ml v xs s hv) ?_);go_ret;exact⟨Z,Z⟩
theorem Hy (v:V_) (xs:List ByteArray) (s:ByteArray) (hv:Ir w v xs):K_ uh 53 #[v,U s] w λe w'=>e= .returned (Y I (Aw xs s))/\w=w':=by obtain⟨b,c,rfl,aa,ad⟩:=hv;have aa:=A9 aa;have HAT:=A5 ad;clear ad;go_enter func53,ntmps53;go_wp2_with fail;go_loop [5] (λi=>∃k:Nat,k<=xs.length/\i= Y I k/\(xs.take k).all (λx=> !T (x=s))=B) (λi=>xs.length-(intOf i).toNat);(case atStart=>exact⟨0,un _,Z,Z⟩);case round=>exact mh
def YS (w:W_) (v:V_) (xs:List AK):Prop:=∃b c,v= V b xs.length c/\xs.length<=maxLen/\∀i,(h:i<xs.length)->∃lu off sv,b=O ⟨lu,off,X⟩/\w.cell? ⟨lu,off+i*2,X⟩=O (U xs[i].name)/\w.cell? ⟨lu,off+i*2+1,X⟩=O sv/\∃sb sn sc,sv= V sb sn sc
theorem AX.cells1 {v:V_} (h:AX E H v xs):v.cells=#[v]:=by obtain⟨b,c,rfl,_⟩:=h;rfl
theorem AX.clsAt {v:V_} {xs:List AK} (h:AX B2 H v xs) (m:AC w0 H L w):YS w v xs:=by have h':=h;obtain⟨b,c,rfl,h1,h2,_,_⟩:=h';refine⟨b,c,Z,by omega,λi hi=>?_⟩;obtain⟨lu,off,sv,rfl,hc,hd,hs,_⟩:=h.getClass hi;obtain⟨sb,sc,rfl,_⟩:=hs;exact⟨lu,off,_,Z,hc.cell m,hd.cell m,sb,_,sc,Z⟩
theorem Ig (v:V_) (xs:List AK) (s:ByteArray) (hv:YS w v xs):K_ uh 51 #[v,U s] w λe w'=>e= .returned (Y I (C3 xs s))/\w=w':=by
 obtain⟨b,c,rfl,aa,ad⟩:=hv;have aa:=A9 aa;have HAT:=A5 ad;clear ad;go_enter func51,ntmps51;go_wp2_with fail;go_loop [5] (λi=>∃k:Nat,k<=xs.length/\i= Y I k/\(xs.take k).all (λx=> !T (x.name=s))=B) (λi=>xs.length-(intOf i).toNat);case atStart=>exact⟨0,un _,Z,Z⟩
 case round=>
  obtain⟨k,hk,rfl,ly⟩:=hrel;have HA:=A5 ly;clear ly;by_cases lg:k<xs.length
  .obtain⟨lu,off,sv,rfl,lx,_,_⟩:=HAT.out k lg;have lJ:(k:Int)<xs.length:=A0;by_cases hq:xs[k].name=s
   .have HQ:=A5 hq;have hsl:(xs[k].name.toList==s.toList)=true:=PL;go_wp2_with fail;go_ret;exact⟨CH nK,Z⟩
   .have HQ:=A5 hq;(have hsl:(xs[k].name.toList==s.toList)=false:=bF λe=>hq ((AW _ _).1 e));go_wp2_with fail;go_round;(case rel=>exact⟨k+1,by omega,by go_num,Ea lg HA.out (f_ HQ.out)⟩);case measure=>exact BW
  .go_wp2_with fail;go_ret;exact⟨CH (by unfold C3;rw[EQ k lg HA.out]),Z⟩
@[go_sem] theorem gH (P:P_) (w:W_) (ad:Addr) (f:Fn) (a b:Array V_) (md:Mode):(store ad (.func f a b) md).run P w=stored P w ad (.func f a b) md:=run_store P w ad _ md Z
@[go_sem] theorem Yq (P:P_) (w:W_) (ad:Addr) (md:Mode):(store ad .nilFunc md).run P w=stored P w ad .nilFunc md:=run_store P w ad _ md Z
theorem DO (xk yk:Nat) (xn yn:Int) (xs ys:ByteArray) (w:W_):(binOp .eql 43 (.agg #[Y .u8 xk,Y I xn,U xs]) (.agg #[Y .u8 yk,Y I yn,U ys])).run uh w= .ok (N (T ((⟨xk,xn,xs⟩:Bk)=⟨yk,yn,ys⟩))) w:=by exact nX
abbrev Bs (c:AE):Obj:= C #[Y .u8 c.kind,U c.name,U c.field,U c.to,Y .u8 c.v.kind,Y I c.v.n,U c.v.s] 45
theorem Ws (c:AE) (m:AC w0 H L w):K_ uh 163 #[c.val] w (Bv w0 H L (U c.name)):=by have m1:=m.alloc (Bs c);unfold Bs at m1;have es:=m1.e2;unfold AE.val;go_enter func163,ntmps163;go_wp2_with fail;exact GS
theorem Wk (c:AE) (m:AC w0 H L w):K_ uh 164 #[c.val] w (Bv w0 H L (U c.field)):=by have m1:=m.alloc (Bs c);unfold Bs at m1;have es:=m1.e2;unfold AE.val;go_enter func164,ntmps164;go_wp2_with fail;exact GS
theorem LN (c:AE) (m:AC w0 H L w):K_ uh 165 #[c.val] w (Bv w0 H L (U c.to)):=by have m1:=m.alloc (Bs c);unfold Bs at m1;have es:=m1.e2;unfold AE.val;go_enter func165,ntmps165;go_wp2_with fail;exact GS
def oJ:ByteArray:=⟨#[111,108,100]⟩
theorem PR (c:AE) (m:AC w0 H L w):K_ uh 166 #[c.val] w (Bv w0 H L (U oJ)):=by have m1:=m.alloc (Bs c);unfold AE.val;go_enter func166,ntmps166;go_wp2_with fail;exact GS
theorem Mb (m:AC w0 H L w):K_ uh 120 #[Y .u8 1] w (Bv w0 H L (.tuple #[.agg #[N B,N G,N B,.func (.func 164) #[] #[]],N B])):=by have m1:=m.alloc (C #[N B,N G,N B,.func (.func 164) #[] #[]] 181);have es:=m1.e2;go_enter func120,ntmps120;go_wp2_with fail;refine b_ (v:= .tuple #[.agg #[N B,N G,N B,.func (.func 164) #[] #[]],N B]) OP Z ?_;exact⟨Z,m1.drop⟩
theorem Lw (m:AC w0 H L w):K_ uh 120 #[Y .u8 2] w (Bv w0 H L (.tuple #[.agg #[N B,N G,N G,.func (.func 166) #[] #[]],N B])):=by have m1:=m.alloc (C #[N B,N G,N G,.func (.func 166) #[] #[]] 181);have es:=m1.e2;go_enter func120,ntmps120;go_wp2_with fail;refine b_ (v:= .tuple #[.agg #[N B,N G,N G,.func (.func 166) #[] #[]],N B]) OP Z ?_;exact⟨Z,m1.drop⟩
theorem MW (m:AC w0 H L w):K_ uh 120 #[Y .u8 3] w (Bv w0 H L (.tuple #[.agg #[N B,N B,N G,.func (.func 165) #[] #[]],N B])):=by have m1:=m.alloc (C #[N B,N B,N G,.func (.func 165) #[] #[]] 181);have es:=m1.e2;go_enter func120,ntmps120;go_wp2_with fail;refine b_ (v:= .tuple #[.agg #[N B,N B,N G,.func (.func 165) #[] #[]],N B]) OP Z ?_;exact⟨Z,m1.drop⟩
theorem ML (m:AC w0 H L w):K_ uh 120 #[Y .u8 4] w (Bv w0 H L (.tuple #[.agg #[N G,N B,N G,.func (.func 165) #[] #[]],N B])):=by exact uA
theorem Mc (m:AC w0 H L w):K_ uh 120 #[Y .u8 5] w (Bv w0 H L (.tuple #[.agg #[N G,N G,N B,.func (.func 163) #[] #[]],N B])):=by have m1:=m.alloc (C #[N G,N G,N B,.func (.func 163) #[] #[]] 181);have es:=m1.e2;go_enter func120,ntmps120;go_wp2_with fail;refine b_ (v:= .tuple #[.agg #[N G,N G,N B,.func (.func 163) #[] #[]],N B]) OP Z ?_;exact⟨Z,m1.drop⟩
theorem M2 (m:AC w0 H L w):K_ uh 120 #[Y .u8 6] w (Bv w0 H L (.tuple #[.agg #[N G,N G,N G,.func (.func 166) #[] #[]],N B])):=by have m1:=m.alloc (C #[N G,N G,N G,.func (.func 166) #[] #[]] 181);have es:=m1.e2;go_enter func120,ntmps120;go_wp2_with fail;refine b_ (v:= .tuple #[.agg #[N G,N G,N G,.func (.func 166) #[] #[]],N B]) OP Z ?_;exact⟨Z,m1.drop⟩
theorem MP (m:AC w0 H L w):K_ uh 120 #[Y .u8 7] w (Bv w0 H L (.tuple #[.agg #[N G,N B,N G,.func (.func 165) #[] #[]],N B])):=by exact uA
theorem Wp (k:Nat) (hk:k<1\/7<k) (hb:k<256) (m:AC w0 H L w):K_ uh 120 #[Y .u8 k] w (Bv w0 H L (.tuple #[.agg #[N G,N G,N G,.nilFunc],N G])):=by have m1:=m.alloc (C #[N G,N G,N G,.nilFunc] 181);have es:=m1.e2;have e1:((k:Int)==1)=false:=BL;have e2:((k:Int)==2)=false:=BL;have e3:((k:Int)==3)=false:=BL;have e4:((k:Int)==4)=false:=BL;have e5:((k:Int)==5)=false:=BL;have e6:((k:Int)==6)=false:=BL;have e7:((k:Int)==7)=false:=BL;go_enter func120,ntmps120;go_wp2_with fail;refine b_ (v:= .tuple #[.agg #[N G,N G,N G,.nilFunc],N G]) OP Z ?_;exact⟨Z,m1.drop⟩
theorem FN (xk yk:Nat) (xn yn:Int) (xs ys:ByteArray) (w:W_):(binOp .neq 43 (.agg #[Y .u8 xk,Y I xn,U xs]) (.agg #[Y .u8 yk,Y I yn,U ys])).run uh w= .ok (N (!T ((⟨xk,xn,xs⟩:Bk)=⟨yk,yn,ys⟩))) w:=by exact nX
theorem Wv:B3 oJ=true:=by decide
theorem Zd:oJ.size<=maxLen:=by decide
theorem OU (c:AE) (hf:c.fit) (hk:c.kind=1) (m:AC w0 H L w):K_ uh 80 #[c.val] w (Bv w0 H L (N c.form)):=by
 have HF:=A5 hf;clear hf;obtain⟨ck,cn,cf,ct,⟨vk,vn,vs⟩⟩:=c;simp only at hk;subst hk;have m1:=m.alloc (Bs ⟨1,cn,cf,ct,⟨vk,vn,vs⟩⟩);unfold Bs at m1;unfold AE.val AE.form;simp only[Nat.reduceEqDiff,if_true,if_false,reduceIte];by_cases hct:ct=ui;rotate_left
 .rw[f_ hct];(have hl:¬ct.toList=[]:=λe=>hct ((B5 _).1 e));have hb:(ct.toList==[])=false:=bF hl;go_enter func80,ntmps80;go_wp2_with fail;refine(Mb m1).mono ?_;rintro e w1 ⟨rfl,m2⟩;have m3:=m2.alloc (C #[N B,N G,N B,.func (.func 164) #[] #[]] 181);exact fD
 subst hct;go_enter func80,ntmps80;go_wp2_with fail;refine(Mb m1).mono ?_;rintro e w1 ⟨rfl,m2⟩;have m3:=m2.alloc (C #[N B,N G,N B,.func (.func 164) #[] #[]] 181);have es:=m3.e2;have ns:=m3.n9;go_wp2_with fail;refine(Wk ⟨1,cn,cf,ui,⟨vk,vn,vs⟩⟩ m3).mono ?_;rintro e w2 ⟨rfl,m4⟩;go_wp2_with fail;refine(G9 _ HF.out.field m4).mono ?_;rintro e w3 ⟨rfl,m5⟩;have es:=m5.e2;cases hn:B3 cf
 .go_wp2_with fail;go_ret;exact⟨A8 In,m5.drop.drop⟩
 .go_wp2_with fail;exact iT
theorem OE (c:AE) (hf:c.fit) (hk:c.kind=2) (m:AC w0 H L w):K_ uh 80 #[c.val] w (Bv w0 H L (N c.form)):=by
 have HF:=A5 hf;clear hf;obtain⟨ck,cn,cf,ct,⟨vk,vn,vs⟩⟩:=c;simp only at hk;subst hk;have m1:=m.alloc (Bs ⟨2,cn,cf,ct,⟨vk,vn,vs⟩⟩);unfold Bs at m1;unfold AE.val AE.form;simp only[Nat.reduceEqDiff,if_true,if_false,reduceIte];by_cases hct:ct=ui;rotate_left
 .rw[f_ hct];(have hl:¬ct.toList=[]:=λe=>hct ((B5 _).1 e));have hb:(ct.toList==[])=false:=bF hl;go_enter func80,ntmps80;go_wp2_with fail;exact uP
 subst hct;by_cases hv:(⟨vk,vn,vs⟩:Bk)=C0;rotate_left
 .rw[f_ hv];(have he:∀w:W_,(binOp .neq 43 (.agg #[Y .u8 vk,Y I vn,U vs]) (.agg #[Y .u8 0,Y I 0,U ⟨#[]⟩])).run uh w= .ok (N B) w:=λw=>(FN vk 0 vn 0 vs ⟨#[]⟩ w).trans Uc);go_enter func80,ntmps80;go_wp2_with fail;exact uP
 obtain⟨rfl,rfl,rfl⟩:=(Bk.ext_iff' _ _).1 hv;(have he:∀w:W_,(binOp .neq 43 (.agg #[Y .u8 0,Y I 0,U ⟨#[]⟩]) (.agg #[Y .u8 0,Y I 0,U ⟨#[]⟩])).run uh w= .ok (N G) w:=λw=>FN 0 0 0 0 ⟨#[]⟩ ⟨#[]⟩ w);unfold C0 at*;simp only at*;go_enter func80,ntmps80;go_wp2_with fail;refine(Lw m1).mono ?_;rintro e w1 ⟨rfl,m2⟩;have m3:=m2.alloc (C #[N B,N G,N G,.func (.func 166) #[] #[]] 181);have es:=m3.e2;have ns:=m3.n9;go_wp2_with fail;refine(PR ⟨2,cn,cf,ui,⟨0,0,ui⟩⟩ m3).mono ?_;exact lq
theorem OY (c:AE) (hf:c.fit) (hk:c.kind=3) (m:AC w0 H L w):K_ uh 80 #[c.val] w (Bv w0 H L (N c.form)):=by
 have HF:=A5 hf;clear hf;obtain⟨ck,cn,cf,ct,⟨vk,vn,vs⟩⟩:=c;simp only at hk;subst hk;have m1:=m.alloc (Bs ⟨3,cn,cf,ct,⟨vk,vn,vs⟩⟩);unfold Bs at m1;unfold AE.val AE.form;simp only[Nat.reduceEqDiff,if_true,if_false,reduceIte];by_cases hv:(⟨vk,vn,vs⟩:Bk)=C0;rotate_left
 .rw[f_ hv];(have he:∀w:W_,(binOp .neq 43 (.agg #[Y .u8 vk,Y I vn,U vs]) (.agg #[Y .u8 0,Y I 0,U ⟨#[]⟩])).run uh w= .ok (N B) w:=λw=>(FN vk 0 vn 0 vs ⟨#[]⟩ w).trans Uc);go_enter func80,ntmps80;go_wp2_with fail;refine(MW m1).mono ?_;rintro e w1 ⟨rfl,m2⟩;have m3:=m2.alloc (C #[N B,N B,N G,.func (.func 165) #[] #[]] 181);exact fD
 obtain⟨rfl,rfl,rfl⟩:=(Bk.ext_iff' _ _).1 hv;(have he:∀w:W_,(binOp .neq 43 (.agg #[Y .u8 0,Y I 0,U ⟨#[]⟩]) (.agg #[Y .u8 0,Y I 0,U ⟨#[]⟩])).run uh w= .ok (N G) w:=λw=>FN 0 0 0 0 ⟨#[]⟩ ⟨#[]⟩ w);unfold C0 at*;simp only at*;go_enter func80,ntmps80;go_wp2_with fail;refine(MW m1).mono ?_;rintro e w1 ⟨rfl,m2⟩;have m3:=m2.alloc (C #[N B,N B,N G,.func (.func 165) #[] #[]] 181);have es:=m3.e2;have ns:=m3.n9;go_wp2_with fail;refine(LN ⟨3,cn,cf,ct,⟨0,0,ui⟩⟩ m3).mono ?_;exact iE
theorem OX (c:AE) (hf:c.fit) (hk:c.kind=4) (m:AC w0 H L w):K_ uh 80 #[c.val] w (Bv w0 H L (N c.form)):=by
 have HF:=A5 hf;clear hf;obtain⟨ck,cn,cf,ct,⟨vk,vn,vs⟩⟩:=c;simp only at hk;subst hk;have m1:=m.alloc (Bs ⟨4,cn,cf,ct,⟨vk,vn,vs⟩⟩);unfold Bs at m1;unfold AE.val AE.form;simp only[Nat.reduceEqDiff,if_true,if_false,reduceIte];by_cases hcf:cf=ui;rotate_left
 .rw[f_ hcf];(have hl:¬cf.toList=[]:=λe=>hcf ((B5 _).1 e));have hb:(cf.toList==[])=false:=bF hl;go_enter func80,ntmps80;go_wp2_with fail;exact uF
 subst hcf;by_cases hv:(⟨vk,vn,vs⟩:Bk)=C0;rotate_left
 .rw[f_ hv];(have he:∀w:W_,(binOp .neq 43 (.agg #[Y .u8 vk,Y I vn,U vs]) (.agg #[Y .u8 0,Y I 0,U ⟨#[]⟩])).run uh w= .ok (N B) w:=λw=>(FN vk 0 vn 0 vs ⟨#[]⟩ w).trans Uc);go_enter func80,ntmps80;go_wp2_with fail;exact uF
 obtain⟨rfl,rfl,rfl⟩:=(Bk.ext_iff' _ _).1 hv;(have he:∀w:W_,(binOp .neq 43 (.agg #[Y .u8 0,Y I 0,U ⟨#[]⟩]) (.agg #[Y .u8 0,Y I 0,U ⟨#[]⟩])).run uh w= .ok (N G) w:=λw=>FN 0 0 0 0 ⟨#[]⟩ ⟨#[]⟩ w);unfold C0 at*;simp only at*;go_enter func80,ntmps80;go_wp2_with fail;refine(ML m1).mono ?_;rintro e w1 ⟨rfl,m2⟩;have m3:=m2.alloc (C #[N G,N B,N G,.func (.func 165) #[] #[]] 181);have es:=m3.e2;have ns:=m3.n9;go_wp2_with fail;refine(LN ⟨4,cn,ui,ct,⟨0,0,ui⟩⟩ m3).mono ?_;exact iE
theorem Ob (c:AE) (hf:c.fit) (hk:c.kind=5) (m:AC w0 H L w):K_ uh 80 #[c.val] w (Bv w0 H L (N c.form)):=by
 have HF:=A5 hf;clear hf;obtain⟨ck,cn,cf,ct,⟨vk,vn,vs⟩⟩:=c;simp only at hk;subst hk;have m1:=m.alloc (Bs ⟨5,cn,cf,ct,⟨vk,vn,vs⟩⟩);unfold Bs at m1;unfold AE.val AE.form;simp only[Nat.reduceEqDiff,if_true,if_false,reduceIte];by_cases hcf:cf=ui;rotate_left
 .rw[f_ hcf];(have hl:¬cf.toList=[]:=λe=>hcf ((B5 _).1 e));have hb:(cf.toList==[])=false:=bF hl;go_enter func80,ntmps80;go_wp2_with fail;exact uR
 subst hcf;by_cases hct:ct=ui;rotate_left
 .rw[f_ hct];(have hl:¬ct.toList=[]:=λe=>hct ((B5 _).1 e));have hb:(ct.toList==[])=false:=bF hl;go_enter func80,ntmps80;go_wp2_with fail;exact uR
 subst hct;go_enter func80,ntmps80;go_wp2_with fail;refine(Mc m1).mono ?_;rintro e w1 ⟨rfl,m2⟩;have m3:=m2.alloc (C #[N G,N G,N B,.func (.func 163) #[] #[]] 181);have es:=m3.e2;have ns:=m3.n9;go_wp2_with fail;refine(Ws ⟨5,cn,ui,ui,⟨vk,vn,vs⟩⟩ m3).mono ?_;rintro e w2 ⟨rfl,m4⟩;go_wp2_with fail;refine(G9 _ HF.out.name m4).mono ?_;rintro e w3 ⟨rfl,m5⟩;have es:=m5.e2;cases hn:B3 cn
 .go_wp2_with fail;go_ret;exact⟨A8 In,m5.drop.drop⟩
 .go_wp2_with fail;exact iT
theorem ru (c:AE) (hf:c.fit) (hk:c.kind=6) (m:AC w0 H L w):K_ uh 80 #[c.val] w (Bv w0 H L (N c.form)):=by
 have HF:=A5 hf;clear hf;obtain⟨ck,cn,cf,ct,⟨vk,vn,vs⟩⟩:=c;simp only at hk;subst hk;have m1:=m.alloc (Bs ⟨6,cn,cf,ct,⟨vk,vn,vs⟩⟩);unfold Bs at m1;unfold AE.val AE.form;simp only[Nat.reduceEqDiff,if_true,if_false,reduceIte];by_cases hcf:cf=ui;rotate_left
 .rw[f_ hcf];(have hl:¬cf.toList=[]:=λe=>hcf ((B5 _).1 e));have hb:(cf.toList==[])=false:=bF hl;go_enter func80,ntmps80;go_wp2_with fail;exact jc
 subst hcf;by_cases hct:ct=ui;rotate_left
 .rw[f_ hct];(have hl:¬ct.toList=[]:=λe=>hct ((B5 _).1 e));have hb:(ct.toList==[])=false:=bF hl;go_enter func80,ntmps80;go_wp2_with fail;exact jc
 subst hct;by_cases hv:(⟨vk,vn,vs⟩:Bk)=C0;rotate_left
 .rw[f_ hv];(have he:∀w:W_,(binOp .neq 43 (.agg #[Y .u8 vk,Y I vn,U vs]) (.agg #[Y .u8 0,Y I 0,U ⟨#[]⟩])).run uh w= .ok (N B) w:=λw=>(FN vk 0 vn 0 vs ⟨#[]⟩ w).trans Uc);go_enter func80,ntmps80;go_wp2_with fail;exact jc
 obtain⟨rfl,rfl,rfl⟩:=(Bk.ext_iff' _ _).1 hv;(have he:∀w:W_,(binOp .neq 43 (.agg #[Y .u8 0,Y I 0,U ⟨#[]⟩]) (.agg #[Y .u8 0,Y I 0,U ⟨#[]⟩])).run uh w= .ok (N G) w:=λw=>FN 0 0 0 0 ⟨#[]⟩ ⟨#[]⟩ w);unfold C0 at*;simp only at*;go_enter func80,ntmps80;go_wp2_with fail;refine(M2 m1).mono ?_;rintro e w1 ⟨rfl,m2⟩;have m3:=m2.alloc (C #[N G,N G,N G,.func (.func 166) #[] #[]] 181);have es:=m3.e2;have ns:=m3.n9;go_wp2_with fail;refine(PR ⟨6,cn,ui,ui,⟨0,0,ui⟩⟩ m3).mono ?_;exact lq
theorem OM (c:AE) (hf:c.fit) (hk:c.kind=7) (m:AC w0 H L w):K_ uh 80 #[c.val] w (Bv w0 H L (N c.form)):=by
 have HF:=A5 hf;clear hf;obtain⟨ck,cn,cf,ct,⟨vk,vn,vs⟩⟩:=c;simp only at hk;subst hk;have m1:=m.alloc (Bs ⟨7,cn,cf,ct,⟨vk,vn,vs⟩⟩);unfold Bs at m1;unfold AE.val AE.form;simp only[Nat.reduceEqDiff,if_true,if_false,reduceIte];by_cases hcf:cf=ui;rotate_left
 .rw[f_ hcf];(have hl:¬cf.toList=[]:=λe=>hcf ((B5 _).1 e));have hb:(cf.toList==[])=false:=bF hl;go_enter func80,ntmps80;go_wp2_with fail;exact uN
 subst hcf;by_cases hv:(⟨vk,vn,vs⟩:Bk)=C0;rotate_left
 .rw[f_ hv];(have he:∀w:W_,(binOp .neq 43 (.agg #[Y .u8 vk,Y I vn,U vs]) (.agg #[Y .u8 0,Y I 0,U ⟨#[]⟩])).run uh w= .ok (N B) w:=λw=>(FN vk 0 vn 0 vs ⟨#[]⟩ w).trans Uc);go_enter func80,ntmps80;go_wp2_with fail;exact uN
 obtain⟨rfl,rfl,rfl⟩:=(Bk.ext_iff' _ _).1 hv;(have he:∀w:W_,(binOp .neq 43 (.agg #[Y .u8 0,Y I 0,U ⟨#[]⟩]) (.agg #[Y .u8 0,Y I 0,U ⟨#[]⟩])).run uh w= .ok (N G) w:=λw=>FN 0 0 0 0 ⟨#[]⟩ ⟨#[]⟩ w);unfold C0 at*;simp only at*;go_enter func80,ntmps80;go_wp2_with fail;refine(MP m1).mono ?_;rintro e w1 ⟨rfl,m2⟩;have m3:=m2.alloc (C #[N G,N B,N G,.func (.func 165) #[] #[]] 181);have es:=m3.e2;have ns:=m3.n9;go_wp2_with fail;refine(LN ⟨7,cn,ui,ct,⟨0,0,ui⟩⟩ m3).mono ?_;exact iE
theorem PK (c:AE) (hf:c.fit) (m:AC w0 H L w):K_ uh 80 #[c.val] w (Bv w0 H L (N c.form)):=by
 by_cases h1:c.kind=1
 .exact OU c hf h1 m
 by_cases h2:c.kind=2
 .exact OE c hf h2 m
 by_cases h3:c.kind=3
 .exact OY c hf h3 m
 by_cases h4:c.kind=4
 .exact OX c hf h4 m
 by_cases h5:c.kind=5
 .exact Ob c hf h5 m
 by_cases h6:c.kind=6
 .exact ru c hf h6 m
 by_cases h7:c.kind=7
 .exact OM c hf h7 m
 have hfm:c.form=false:=(by exact cY);rw[hfm];have hk:=hf.k;have m1:=m.alloc (Bs c);unfold Bs at m1;unfold AE.val;generalize aa:c.kind=k at*;go_enter func80,ntmps80;go_wp2_with fail;refine(Wp k A0 hk m1).mono ?_;rintro e w1 ⟨rfl,m2⟩;have m3:=m2.alloc (C #[N G,N G,N G,.nilFunc] 181);go_wp2_with fail;go_ret;exact⟨Z,m3.drop.drop⟩
theorem AH (n lo hi:Int) (w:W_):K_ uh 137 #[Y I n,Y I lo,Y I hi] w λe w'=>e= .returned (N (T (lo<=n/\n<=hi)))/\w=w':=by
 by_cases h1:lo<=n
 .by_cases h2:n<=hi
  .rw[t_ ⟨h1,h2⟩];go_enter func137,ntmps137;go_wp2_with fail;all_goals (go_ret;exact⟨by first|rfl|simp[h1,h2],Z⟩)
  .rw[f_ (λh=>h2 h.2)];go_enter func137,ntmps137;go_wp2_with fail;all_goals (go_ret;exact⟨by first|rfl|(simp;omega),Z⟩)
 .rw[f_ (λh=>h1 h.1)];go_enter func137,ntmps137;go_wp2_with fail;all_goals (go_ret;exact⟨by first|rfl|(simp;omega),Z⟩)
theorem Bp (s:ByteArray) (hs:s.size<=maxLen) (w:W_):K_ uh 136 #[U s] w λe w'=>e= .returned (N (B3 s))/\w=w':=by
 have hs:=A9 hs;go_enter func136,ntmps136;go_wp2_with fail;go_loop [3] (λi=>∃k:Nat,k<=s.size/\i= Y I k/\(s.data.toList.take k).all BN=B) (λi=>s.size-(intOf i).toNat);case atStart=>exact⟨0,un _,Z,Z⟩
 case round=>
  obtain⟨k,hk,rfl,ly⟩:=hrel;have HA:=A5 ly;clear ly;by_cases lg:k<s.size
  .have lJ:(k:Int)<s.size:=A0;have aa:s[k].toNat<256:=s[k].toNat_lt;cases ho:BN s[k]
   .have hb:=(Fx _).1 ho;have HO:=A5 ho;clear ho;by_cases hr:33<=s[k].toNat/\s[k].toNat<=126
    .have hin:T ((33:Int)<=(s[k].toNat:Int)/\(s[k].toNat:Int)<=126)=true:=t_ A0;have hx:((s[k].toNat:Int)==34)=true:=d8;go_wp2_with fail;exact ip
    .have hin:T ((33:Int)<=(s[k].toNat:Int)/\(s[k].toNat:Int)<=126)=false:=f_ A0;go_wp2_with fail;exact ip
   .have hb:=(Ef _).1 ho;have HO:=A5 ho;clear ho;have hx:((s[k].toNat:Int)==34)=false:=bF A0;have hin:T ((33:Int)<=(s[k].toNat:Int)/\(s[k].toNat:Int)<=126)=true:=t_ A0;go_wp2_with fail;refine(AH _ _ _ _).mono ?_;exact YL
  .go_wp2_with fail;refine BQ (AH _ _ _ _) ?_;go_wp2_with fail;go_ret;exact⟨A8 (by rw[Wq s k lg HA.out,xB];simp;omega),Z⟩
theorem Nx (x:Bk) (hx:x.fit) (m:AC w0 H L w):K_ uh 141 #[x.v] w (Bv w0 H L (N x.basic)):=by
 have HX:=A5 hx;have m1:=m.alloc (C #[Y .u8 x.kind,Y I x.n,U x.s] 43);have es:=m1.e2;unfold Bk.basic;have e4:((x.kind:Int) !=4)=T (x.kind≠4):=SQ;have e5:((x.kind:Int) !=5)=T (x.kind≠5):=SQ;have ad:=A5 e4;have aa:=A5 e5;clear e4 e5;unfold Bk.v;go_enter func141,ntmps141;go_wp2_with fail;refine(Vj x HX.out m1).mono ?_;rintro e w1 ⟨rfl,m2⟩;have es:=m2.e2;cases hp:x.plain
 .go_wp2_with fail;go_ret;exact⟨A8 (by simp[hp]),m2.drop⟩
 .by_cases h4:x.kind=4
  .have e4:((x.kind:Int) !=4)=false:=(by rw[h4];rfl);go_wp2_with fail;all_goals (go_ret;exact⟨A8 (by simp[hp,h4]),m2.drop⟩)
  .have e4:((x.kind:Int) !=4)=true:=BL;by_cases h5:x.kind=5
   .have e5:((x.kind:Int) !=5)=false:=(by rw[h5];rfl);go_wp2_with fail;all_goals (go_ret;exact⟨A8 (by simp[hp,h5]),m2.drop⟩)
   .have e5:((x.kind:Int) !=5)=true:=BL;go_wp2_with fail;all_goals (go_ret;exact⟨A8 (by simp[hp,h4,h5]),m2.drop⟩)
theorem Gv (s:ByteArray) (hs:s.size<=maxLen) (w:W_):K_ uh 250 #[U s] w λe w'=>e= .returned (N (DC s))/\w=w':=by
 have hs:=A9 hs;go_enter func250,ntmps250;go_wp2_with fail;go_loop [3] (λi=>∃k:Nat,k<=s.size/\i= Y I k/\(s.data.toList.take k).all CG=B) (λi=>s.size-(intOf i).toNat);case atStart=>exact⟨0,un _,Z,Z⟩
 case round=>
  obtain⟨k,hk,rfl,ly⟩:=hrel;have HA:=A5 ly;clear ly;by_cases lg:k<s.size
  .have lJ:(k:Int)<s.size:=A0;have aa:s[k].toNat<256:=s[k].toNat_lt;cases ho:CG s[k]
   .have hb:=(IS _).1 ho;have HO:=A5 ho;clear ho;have hx:((s[k].toNat:Int) !=10)=true:=SE;have hin:T ((32:Int)<=(s[k].toNat:Int)/\(s[k].toNat:Int)<=126)=false:=f_ A0;go_wp2_with fail;refine(AH _ _ _ _).mono ?_;exact Wf
   .have hb:=(GY _).1 ho;have HO:=A5 ho;clear ho;by_cases ad:s[k].toNat=10
    .have hx:((s[k].toNat:Int) !=10)=false:=(by rw[ad];rfl);have hin:T ((32:Int)<=(s[k].toNat:Int)/\(s[k].toNat:Int)<=126)=false:=f_ A0;go_wp2_with fail;refine(AH _ _ _ _).mono ?_;exact cL
    .have hin:T ((32:Int)<=(s[k].toNat:Int)/\(s[k].toNat:Int)<=126)=true:=t_ A0;go_wp2_with fail;refine(AH _ _ _ _).mono ?_;exact YE
  .exact tj
theorem Ge (v:V_) (xs:List ByteArray) (s:ByteArray) (hv:Ir w v xs):K_ uh 196 #[v,U s] w λe w'=>e= .returned (Y I (Aw xs s))/\w=w':=by obtain⟨b,c,rfl,aa,ad⟩:=hv;have aa:=A9 aa;have HAT:=A5 ad;clear ad;go_enter func196,ntmps196;go_wp2_with fail;go_loop [5] (λi=>∃k:Nat,k<=xs.length/\i= Y I k/\(xs.take k).all (λx=> !T (x=s))=B) (λi=>xs.length-(intOf i).toNat);(case atStart=>exact⟨0,un _,Z,Z⟩);case round=>exact mh
abbrev D6 (vc vk vr vd:V_):Obj:= C #[vc,vk,vr,vd] 27
abbrev IB (x:AI) (p1:Option Addr) (q1:Nat) (p2:Option Addr) (q2:Nat) (p3:Option Addr) (q3:Nat) (p4:Option Addr) (q4:Nat):Obj:=D6 (V p1 x.k.length q1) (V p2 x.c.length q2) (V p3 x.r.length q3) (V p4 (x.d).length q4)
theorem Bz.shapes {x:AI} {vc vk vr vd:V_} (h:Bz H x vc vk vr vd):∃b1 c1 b2 c2 b3 c3 b4 c4,vc= V b1 x.k.length c1/\vk= V b2 x.c.length c2/\vr= V b3 x.r.length c3/\vd= V b4 x.d.length c4/\(x.k.length:Int)<=9223372036854775807/\(x.c.length:Int)<=9223372036854775807/\(x.r.length:Int)<=9223372036854775807/\(x.d.length:Int)<=9223372036854775807:=by obtain⟨b1,c1,e1,l1,m1,_⟩:=h.c;obtain⟨b2,c2,e2,l2,m2,_⟩:=h.k;obtain⟨b3,c3,e3,l3,m3,_⟩:=h.r;obtain⟨b4,c4,e4,l4,m4,_⟩:=h.d;unfold maxLen at m1 m2 m3 m4;exact⟨b1,c1,b2,c2,b3,c3,b4,c4,e1,e2,e3,e4,by omega,by omega,by omega,by omega⟩
theorem eB {b:Option Addr} {xs:List AF} (h:AX Ch H (V b n c) xs) (hi:i<xs.length):∃lu off,b=O ⟨lu,off,X⟩/\Bm H lu (off+i*4) (U xs[i].name):=by obtain⟨lu,off,v,e,h0,_⟩:=h.getCode (vH hi);exact⟨lu,off,e,h0⟩
theorem iZ {b:Option Addr} {xs:List Aj} (h:AX CV H (V b n c) xs) (hi:i<xs.length):∃lu off,b=O ⟨lu,off,X⟩/\Bm H lu (off+i*3+1) (U xs[i].name):=by obtain⟨lu,off,e,_,h0,_⟩:=h.getCase (vH hi);exact⟨lu,off,e,h0⟩
theorem ZX {b:Option Addr} {xs:List AK} (h:AX B2 H (V b n c) xs) (hi:i<xs.length):∃lu off,b=O ⟨lu,off,X⟩/\Bm H lu (off+i*2) (U xs[i].name):=by obtain⟨lu,off,v,e,h0,_⟩:=h.getClassQ (vH hi);exact⟨lu,off,e,h0⟩
theorem Cd (x:AI) (vc vk vr vd:V_) (s:ByteArray) (m:AC w0 H L w) (hx:Bz H x vc vk vr vd):K_ uh 55 #[.agg #[vc,vk,vr,vd],U s] w (Bv w0 H L (Y I (Cn x s))):=by
 have HX:=A5 hx;obtain⟨b1,c1,b2,c2,b3,c3,b4,c4,rfl,rfl,rfl,rfl,l1,l2,l3,l4⟩:=hx.shapes;clear hx;go_enter func55,ntmps55;have m1:=m.alloc (IB x b1 c1 b2 c2 b3 c3 b4 c4);generalize aa:w.heap.size=xb at*;go_wp2_with fail;(go_loopw [5] (λi wr=>∃k:Nat,k<=x.d.length/\i= Y I k/\(x.d.take k).all (λc=> !T (c.name=s))=B/\AC w0 H ((xb,IB x b1 c1 b2 c2 b3 c3 b4 c4)::L) wr) (λi _=>x.d.length-(intOf i).toNat));case atStart=>exact⟨0,un _,Z,Z,m1⟩
 case round=>
  clear m1;obtain⟨k,hk,rfl,ly,m1⟩:=hrel;have es:=m1.e1;have HA:=A5 ly;clear ly;by_cases lg:k<x.d.length
  .have lJ:(k:Int)<x.d.length:=A0;obtain⟨lu,off,rfl,lx⟩:=eB HX.out.d lg;have lx:=lx.cell m1;by_cases hq:x.d[k].name=s
   .have HQ:=A5 hq;have hsl:(x.d[k].name.toList==s.toList)=true:=PL;go_wp2_with fail;go_ret;exact⟨CH (by unfold Cn;rw[KF k lg (t_ HQ.out) HA.out]),m1.drop⟩
   .have HQ:=A5 hq;(have hsl:(x.d[k].name.toList==s.toList)=false:=bF λe=>hq ((AW _ _).1 e));go_wp2_with fail;exact UH
  .have hge:¬(k:Int)<x.d.length:=A0;go_wp2_with fail;go_ret;exact⟨CH (by unfold Cn;rw[EQ k lg HA.out]),m1.drop⟩
theorem Cl (x:AI) (vc vk vr vd:V_) (s:ByteArray) (m:AC w0 H L w) (hx:Bz H x vc vk vr vd):K_ uh 54 #[.agg #[vc,vk,vr,vd],U s] w (Bv w0 H L (Y I (E6 x s))):=by
 have HX:=A5 hx;obtain⟨b1,c1,b2,c2,b3,c3,b4,c4,rfl,rfl,rfl,rfl,l1,l2,l3,l4⟩:=hx.shapes;clear hx;go_enter func54,ntmps54;have m1:=m.alloc (IB x b1 c1 b2 c2 b3 c3 b4 c4);generalize aa:w.heap.size=xb at*;go_wp2_with fail;(go_loopw [5] (λi wr=>∃k:Nat,k<=x.c.length/\i= Y I k/\(x.c.take k).all (λc=> !T (c.name=s))=B/\AC w0 H ((xb,IB x b1 c1 b2 c2 b3 c3 b4 c4)::L) wr) (λi _=>x.c.length-(intOf i).toNat));case atStart=>exact⟨0,un _,Z,Z,m1⟩
 case round=>
  clear m1;obtain⟨k,hk,rfl,ly,m1⟩:=hrel;have es:=m1.e1;have HA:=A5 ly;clear ly;by_cases lg:k<x.c.length
  .have lJ:(k:Int)<x.c.length:=A0;obtain⟨lu,off,rfl,lx⟩:=iZ HX.out.k lg;have lx:=lx.cell m1;by_cases hq:x.c[k].name=s
   .have HQ:=A5 hq;have hsl:(x.c[k].name.toList==s.toList)=true:=PL;go_wp2_with fail;go_ret;exact⟨CH (by unfold E6;rw[KF k lg (t_ HQ.out) HA.out]),m1.drop⟩
   .have HQ:=A5 hq;(have hsl:(x.c[k].name.toList==s.toList)=false:=bF λe=>hq ((AW _ _).1 e));go_wp2_with fail;exact UH
  .have hge:¬(k:Int)<x.c.length:=A0;go_wp2_with fail;go_ret;exact⟨CH (by unfold E6;rw[EQ k lg HA.out]),m1.drop⟩
theorem JB (x:AI) (vc vk vr vd:V_) (s:ByteArray) (m:AC w0 H L w) (hx:Bz H x vc vk vr vd):K_ uh 252 #[.agg #[vc,vk,vr,vd],U s] w (Bv w0 H L (Y I (Eh x s))):=by
 have HX:=A5 hx;obtain⟨b1,c1,b2,c2,b3,c3,b4,c4,rfl,rfl,rfl,rfl,l1,l2,l3,l4⟩:=hx.shapes;clear hx;go_enter func252,ntmps252;have m1:=m.alloc (IB x b1 c1 b2 c2 b3 c3 b4 c4);generalize aa:w.heap.size=xb at*;go_wp2_with fail;(go_loopw [5] (λi wr=>∃k:Nat,k<=x.k.length/\i= Y I k/\(x.k.take k).all (λc=> !T (c.name=s))=B/\AC w0 H ((xb,IB x b1 c1 b2 c2 b3 c3 b4 c4)::L) wr) (λi _=>x.k.length-(intOf i).toNat));case atStart=>exact⟨0,un _,Z,Z,m1⟩
 case round=>
  clear m1;obtain⟨k,hk,rfl,ly,m1⟩:=hrel;have es:=m1.e1;have HA:=A5 ly;clear ly;by_cases lg:k<x.k.length
  .have lJ:(k:Int)<x.k.length:=A0;obtain⟨lu,off,rfl,lx⟩:=ZX HX.out.c lg;have lx:=lx.cell m1;by_cases hq:x.k[k].name=s
   .have HQ:=A5 hq;have hsl:(x.k[k].name.toList==s.toList)=true:=PL;go_wp2_with fail;go_ret;exact⟨CH (by unfold Eh;rw[KF k lg (t_ HQ.out) HA.out]),m1.drop⟩
   .have HQ:=A5 hq;(have hsl:(x.k[k].name.toList==s.toList)=false:=bF λe=>hq ((AW _ _).1 e));go_wp2_with fail;exact UH
  .have hge:¬(k:Int)<x.k.length:=A0;go_wp2_with fail;go_ret;exact⟨CH (by unfold Eh;rw[EQ k lg HA.out]),m1.drop⟩
def mO:Obj:= C #[U ui,N G,Y I 0,N G,Y I 0,Y I 0,Y I 0,Y I 0] 258
theorem R9 (op:Nat) (aa:op<256) (mm:Int) (m:AC w0 H L w):K_ uh 197 #[Y .u8 op,Y I mm] w (Bv w0 H L (CR op mm).val):=by
 have m1:=m.alloc mO;unfold mO at m1;have es:=m1.e0;unfold CR;by_cases h:op=13/\mm=1
 .rw[p_ h];obtain⟨rfl,rfl⟩:=h;go_enter func197,ntmps197;go_wp2_with fail;refine b_ (v:=Pk.val) (by simp[results,results197,go_sem];rfl) Z ?_;exact⟨Z,(m.alloc _).drop⟩
 .rw[n_ h];have ae:=A5 aa;clear aa;go_enter func197,ntmps197;have hx:(((op:Int)==13)&&(mm==1))=false:=BL;cases h1:((op:Int)==13);all_goals (have h2:((op:Int)==13)=B->(mm==1)=false:=(by intro h3;simpa[h3] using hx);simp only[h1,forall_const,reduceCtorEq,false_implies,um] at h2;clear hx;go_wp2_with fail;refine(TH op ae.out m1).mono ?_;rintro e w' ⟨rfl,m2⟩;generalize SJ op=q at*;unfold UV.val;have ad:=m2.e0;go_wp2_with fail;refine b_ (v:=q.val) (by simp[results,results197,go_sem,ad];rfl) Z ?_;exact⟨Z,(AC.setL [U q.word,N q.to,Y I q.args,N q.number,Y I q.low,Y I q.high,Y I q.name,Y I q.places] 0 m2).drop⟩)
def FF.v (y:FF):V_:= .agg #[Y .u8 y.kind,Y I y.chan,Y I y.value,Y I y.to,Y I y.go]
theorem XY (y:FF) (hy:y.fit) (mV many:Int) (last:Bool) (hr:0<=mV/\mV<=9223372036854775807) (hm:0<=many/\many<=9223372036854775807) (m:AC w0 H L w):K_ uh 199 #[y.v,Y I mV,Y I many,N last] w (Bv w0 H L (N (Mu y mV many last))):=by
 obtain⟨kind,chan,value,to,go⟩:=y;have hk:=hy.k;clear hy;unfold FF.v;simp only at*;have m1:=m.alloc (C #[Y .u8 kind,Y I chan,Y I value,Y I to,Y I go] 198);have es:=m1.e0;unfold Mu F6;simp only;cases hg:T (0<=go/\go<=many-1)
 .go_enter func199,ntmps199;go_wp2_with (go_at_call 137;refine BQ (AH _ _ _ _) ?_);all_goals (go_ret;exact⟨A8 (by simp),(m.alloc _).drop⟩)
 .by_cases k1:kind=1
  .subst k1;have h4:T (to= -1)=(to== -1):=V6;cases h1:T (0<=chan/\chan<=mV-1)
   .go_enter func199,ntmps199;go_wp2_with (go_at_call 137;refine BQ (AH _ _ _ _) ?_);all_goals (go_ret;exact⟨A8 Nv,(m.alloc _).drop⟩)
   .cases h2:T (0<=value/\value<=mV-1)
    .go_enter func199,ntmps199;go_wp2_with (go_at_call 137;refine BQ (AH _ _ _ _) ?_);all_goals (go_ret;exact⟨A8 Nv,(m.alloc _).drop⟩)
    .cases h3:(to== -1)
     .go_enter func199,ntmps199;go_wp2_with (go_at_call 137;refine BQ (AH _ _ _ _) ?_);all_goals (go_ret;exact⟨A8 Nv,(m.alloc _).drop⟩)
     .go_enter func199,ntmps199;go_wp2_with (go_at_call 137;refine BQ (AH _ _ _ _) ?_);all_goals (go_ret;exact⟨A8 Nv,(m.alloc _).drop⟩)
  have ad:((kind:Int)==1)=false:=bF A0;rw[n_ k1];by_cases k2:kind=2
  .subst k2;have h4:T (value=0)=(value==0):=V6;cases h1:T (0<=chan/\chan<=mV-1)
   .go_enter func199,ntmps199;go_wp2_with (go_at_call 137;refine BQ (AH _ _ _ _) ?_);all_goals (go_ret;exact⟨A8 Nv,(m.alloc _).drop⟩)
   .cases h3:(value==0)
    .go_enter func199,ntmps199;go_wp2_with (go_at_call 137;refine BQ (AH _ _ _ _) ?_);all_goals (go_ret;exact⟨A8 Nv,(m.alloc _).drop⟩)
    .cases h2:T (0<=to/\to<=mV-1)
     .go_enter func199,ntmps199;go_wp2_with (go_at_call 137;refine BQ (AH _ _ _ _) ?_);all_goals (go_ret;exact⟨A8 Nv,(m.alloc _).drop⟩)
     .go_enter func199,ntmps199;go_wp2_with (go_at_call 137;refine BQ (AH _ _ _ _) ?_);all_goals (go_ret;exact⟨A8 Nv,(m.alloc _).drop⟩)
  have aa:((kind:Int)==2)=false:=bF A0;rw[n_ k2];have k3:T (kind=3)=((kind:Int)==3):=SQ;have e1:T (chan=0)=(chan==0):=V6;have e2:T (value=0)=(value==0):=V6;have e3:T (to= -1)=(to== -1):=V6;rw[k3,e1,e2,e3];clear k3 e1 e2 e3 k1 k2;cases h0:((kind:Int)==3)
  .go_enter func199,ntmps199;go_wp2_with (go_at_call 137;refine BQ (AH _ _ _ _) ?_);all_goals (go_ret;exact⟨A8 (by simp[]),(m.alloc _).drop⟩)
  .cases h1:(chan==0)
   .go_enter func199,ntmps199;go_wp2_with (go_at_call 137;refine BQ (AH _ _ _ _) ?_);all_goals (go_ret;exact⟨A8 (by simp[]),(m.alloc _).drop⟩)
   .cases h2:(value==0)
    .go_enter func199,ntmps199;go_wp2_with (go_at_call 137;refine BQ (AH _ _ _ _) ?_);all_goals (go_ret;exact⟨A8 (by simp[]),(m.alloc _).drop⟩)
    .cases h3:(to== -1)
     .go_enter func199,ntmps199;go_wp2_with (go_at_call 137;refine BQ (AH _ _ _ _) ?_);all_goals (go_ret;exact⟨A8 (by simp[]),(m.alloc _).drop⟩)
     .cases h5:last
      .go_enter func199,ntmps199;go_wp2_with (go_at_call 137;refine BQ (AH _ _ _ _) ?_);all_goals (go_ret;exact⟨A8 (by simp[]),(m.alloc _).drop⟩)
      .go_enter func199,ntmps199;go_wp2_with (go_at_call 137;refine BQ (AH _ _ _ _) ?_);all_goals (go_ret;exact⟨A8 (by simp[]),(m.alloc _).drop⟩)
theorem kX:(Ek.all λp=>rT YD 10000 251 [V5 p.1] (.i I p.2))=true:=by kernel_rfl
theorem KD (s:ByteArray) (m:AC w0 H L w):K_ uh 251 #[U s] w (Bv w0 H L (Y I (Ev s))):=by
 unfold Ev
 cases hf:Ek.find? (λp=>T (p.1=s)) with
 |some p=>have h1:=List.find?_some hf;have h2:=List.mem_of_find?_eq_some hf;have h1:p.1=s:=o_ h1;subst h1;exact Ts Sj PC (us:=[U p.1]) (uy.1 kX p h2) (by simp only[O0,KH]) Z m
 |none=>have hn:=List.find?_eq_none.1 hf;simp only[Ek,List.forall_mem_cons,decide_eq_true_eq] at hn;obtain⟨n0,n1,n2,n3,n4,n5,n6,n7,n8,n9,ai,ah,ag,af,ae,ad,aa,-⟩:=hn;clear hf;(have e0:(s.toList==[110,101,103])=false:=bF λe=>n0 ((AW _ _).1 Fa));clear n0;(have e1:(s.toList==[110,111,116])=false:=bF λe=>n1 ((AW _ _).1 Fa));clear n1;(have e2:(s.toList==[115,105,122,101])=false:=bF λe=>n2 ((AW _ _).1 Fa));clear n2;(have e3:(s.toList==[115,104,111,119])=false:=bF λe=>n3 ((AW _ _).1 Fa));clear n3;(have e4:(s.toList==[114,101,97,100])=false:=bF λe=>n4 ((AW _ _).1 Fa));clear n4;(have e5:(s.toList==[99,117,116])=false:=bF λe=>n5 ((AW _ _).1 Fa));clear n5;(have e6:(s.toList==[97,100,100])=false:=bF λe=>n6 ((AW _ _).1 Fa));clear n6;(have e7:(s.toList==[115,117,98])=false:=bF λe=>n7 ((AW _ _).1 Fa));clear n7;(have e8:(s.toList==[109,117,108])=false:=bF λe=>n8 ((AW _ _).1 Fa));clear n8;(have e9:(s.toList==[100,105,118])=false:=bF λe=>n9 ((AW _ _).1 Fa));clear n9;(have ar:(s.toList==[109,111,100])=false:=bF λe=>ai ((AW _ _).1 Fa));clear ai;(have aq:(s.toList==[108,116])=false:=bF λe=>ah ((AW _ _).1 Fa));clear ah;(have ao:(s.toList==[108,101])=false:=bF λe=>ag ((AW _ _).1 Fa));clear ag;(have an:(s.toList==[101,113])=false:=bF λe=>af ((AW _ _).1 Fa));clear af;(have ak:(s.toList==[106,111,105,110])=false:=bF λe=>ae ((AW _ _).1 Fa));clear ae;(have e15:(s.toList==[98,121,116,101])=false:=bF λe=>ad ((AW _ _).1 Fa));clear ad;(have aj:(s.toList==[115,97,109,101])=false:=bF λe=>aa ((AW _ _).1 Fa));clear aa;go_enter func251,ntmps251;go_wp2_with fail;go_ret;exact⟨Z,m⟩
def Ec (i:Bu) (va vg vw:V_):V_:= .agg #[Y .u8 i.op,Y I i.to,va,Y I i.n,Y I i.m,U i.name,vg,vw]
abbrev EC (i:Bu) (va vg vw:V_):Obj:= C #[Y .u8 i.op,Y I i.to,va,Y I i.n,Y I i.m,U i.name,vg,vw] 82
abbrev SB (i:Bu) (p1:Option Addr) (q1:Nat) (p2:Option Addr) (q2:Nat) (p3:Option Addr) (q3:Nat):Obj:=EC i (V p1 i.args.length q1) (V p2 i.go.length q2) (V p3 (i.w).length q3)
abbrev S8 (op:Nat) (to:Int) (args:List Int) (n mm:Int) (name:ByteArray) (go:List Int) (ways:List FF) (p1:Option Addr) (q1:Nat) (p2:Option Addr) (q2:Nat) (p3:Option Addr) (q3:Nat):Obj:=EC ⟨op,to,args,n,mm,name,go,ways⟩ (V p1 args.length q1) (V p2 go.length q2) (V p3 (ways).length q3)
abbrev Ew (s:UV):Obj:= C #[U s.word,N s.to,Y I s.args,N s.number,Y I s.low,Y I s.high,Y I s.name,Y I s.places] 258
theorem Gj.shapes {i:Bu} {va vg vw:V_} (h:Gj H i va vg vw):∃b1 c1 b2 c2 b3 c3,va= V b1 i.args.length c1/\vg= V b2 i.go.length c2/\vw= V b3 i.w.length c3/\(i.args.length:Int)<=9223372036854775807/\(i.go.length:Int)<=9223372036854775807/\(i.w.length:Int)<=9223372036854775807:=by obtain⟨_,⟨b1,c1,e1,l1,m1,_⟩,⟨b2,c2,e2,l2,m2,_⟩,b3,c3,e3,l3,m3,_⟩:=h;unfold maxLen at m1 m2 m3;exact⟨b1,c1,b2,c2,b3,c3,e1,e2,e3,by omega,by omega,by omega⟩
theorem Zc (x:AI) (i:Bu) (s:UV) (vc vk vr vd va vg vw:V_) (m:AC w0 H L w) (hx:Bz H x vc vk vr vd) (hi:Gj H i va vg vw):K_ uh 198 #[.agg #[vc,vk,vr,vd],Ec i va vg vw,s.val] w (Bv w0 H L (N (Ca x i s))):=by
 have HX:=A5 hx;have hnm:=hi.1.name;obtain⟨b1,c1,b2,c2,b3,c3,b4,c4,rfl,rfl,rfl,rfl,l1,l2,l3,l4⟩:=hx.shapes;clear hx;obtain⟨b5,c5,b6,c6,b7,c7,rfl,rfl,rfl,l5,l6,l7⟩:=hi.shapes;clear hi;have m3:=((m.alloc (IB x b1 c1 b2 c2 b3 c3 b4 c4)).alloc (SB i b5 c5 b6 c6 b7 c7)).alloc (Ew s);simp only[xE,vM,Nat.reduceAdd] at m3;obtain⟨sw,ae,aa,ad,ag,ah,sn,af⟩:=s;unfold Ec UV.val;have hn:sn=0\/sn=1\/sn=2\/sn=3\/sn=4\/sn=6\/sn=7\/(sn≠0/\sn≠1/\sn≠2/\sn≠3/\sn≠4/\sn≠6/\sn≠7):=A0;rcases hn with rfl|rfl|rfl|rfl|rfl|rfl|rfl|⟨n0,n1,n2,n3,n4,n6,n7⟩
 .by_cases h:i.name=ui
  .have hF:Ca x i ⟨sw,ae,aa,ad,ag,ah,0,af⟩=DB i.args.length aa:=Nj;rw[hF];clear hF;have hl:i.name.toList=[]:=(B5 _).2 h;have hb:(i.name.toList !=[])=false:=(by rw[hl];rfl);by_cases q1:aa= -1
   .subst q1;exact uG
   have ak:(aa== -1)=false:=bF q1;by_cases q2:aa= -2
   .subst q2;have es:=m3.e4;go_enter func198,ntmps198;go_wp2_with (go_at_call 137;refine BQ (AH _ _ _ _) ?_);all_goals (go_ret;exact⟨A8 SY,(((m.alloc _).alloc _).alloc _).drop.drop.drop⟩)
   have aj:(aa== -2)=false:=bF q2;by_cases q3:aa= -3
   .subst q3;exact uG
   have ai:(aa== -3)=false:=bF q3;have es:=m3.e4;go_enter func198,ntmps198;go_wp2_with (go_at_call 137;refine BQ (AH _ _ _ _) ?_);all_goals (go_ret;exact⟨A8 Ry,(((m.alloc _).alloc _).alloc _).drop.drop.drop⟩)
  .have hF:Ca x i ⟨sw,ae,aa,ad,ag,ah,0,af⟩=false:=Nj;rw[hF];clear hF;(have hl:¬i.name.toList=[]:=λe=>h ((B5 _).1 e));have hb:(i.name.toList==[])=false:=bF hl;have es:=m3.e4;go_enter func198,ntmps198;go_wp2_with (go_at_call 137;refine BQ (AH _ _ _ _) ?_);all_goals (go_ret;exact⟨Z,(((m.alloc _).alloc _).alloc _).drop.drop.drop⟩)
 .cases h:DC i.name
  .have hF:Ca x i ⟨sw,ae,aa,ad,ag,ah,1,af⟩=false:=Nj;rw[hF];clear hF;have es:=m3.e4;go_enter func198,ntmps198;go_wp2_with (go_at_call 137;refine BQ (AH _ _ _ _) ?_);refine(Gv i.name hnm _).mono ?_;exact uU
  .have hF:Ca x i ⟨sw,ae,aa,ad,ag,ah,1,af⟩=DB i.args.length aa:=Nj;rw[hF];clear hF;by_cases q1:aa= -1
   .subst q1;exact uD
   have ak:(aa== -1)=false:=bF q1;by_cases q2:aa= -2
   .subst q2;have es:=m3.e4;go_enter func198,ntmps198;go_wp2_with (go_at_call 137;refine BQ (AH _ _ _ _) ?_);refine(Gv i.name hnm _).mono ?_;exact uQ
   have aj:(aa== -2)=false:=bF q2;by_cases q3:aa= -3
   .subst q3;exact uD
   have ai:(aa== -3)=false:=bF q3;have es:=m3.e4;go_enter func198,ntmps198;go_wp2_with (go_at_call 137;refine BQ (AH _ _ _ _) ?_);refine(Gv i.name hnm _).mono ?_;exact uT
 .by_cases h:Cn x i.name<0
  .have hF:Ca x i ⟨sw,ae,aa,ad,ag,ah,2,af⟩=false:=Nj;rw[hF];clear hF;have es:=m3.e4;go_enter func198,ntmps198;go_wp2_with (go_at_call 137;refine BQ (AH _ _ _ _) ?_);refine(Cd x _ _ _ _ i.name m3 HX.out).mono ?_;rintro e w' ⟨rfl,m4⟩;clear es;have es:=m4.e4;go_wp2_with (go_at_call 137;refine BQ (AH _ _ _ _) ?_);all_goals (go_ret;exact⟨Z,m4.drop.drop.drop⟩)
  .have hF:Ca x i ⟨sw,ae,aa,ad,ag,ah,2,af⟩=DB i.args.length aa:=Nj;rw[hF];clear hF;by_cases q1:aa= -1
   .subst q1;exact uH
   have ak:(aa== -1)=false:=bF q1;by_cases q2:aa= -2
   .subst q2;have es:=m3.e4;go_enter func198,ntmps198;go_wp2_with (go_at_call 137;refine BQ (AH _ _ _ _) ?_);refine(Cd x _ _ _ _ i.name m3 HX.out).mono ?_;rintro e w' ⟨rfl,m4⟩;clear es;have es:=m4.e4;go_wp2_with (go_at_call 137;refine BQ (AH _ _ _ _) ?_);all_goals (go_ret;exact⟨A8 SY,m4.drop.drop.drop⟩)
   have aj:(aa== -2)=false:=bF q2;by_cases q3:aa= -3
   .subst q3;exact uH
   have ai:(aa== -3)=false:=bF q3;have es:=m3.e4;go_enter func198,ntmps198;go_wp2_with (go_at_call 137;refine BQ (AH _ _ _ _) ?_);refine(Cd x _ _ _ _ i.name m3 HX.out).mono ?_;rintro e w' ⟨rfl,m4⟩;clear es;have es:=m4.e4;go_wp2_with (go_at_call 137;refine BQ (AH _ _ _ _) ?_);all_goals (go_ret;exact⟨A8 Ry,m4.drop.drop.drop⟩)
 .generalize hp:Ev i.name=Mq;by_cases h:Mq=0
  .have hF:Ca x i ⟨sw,ae,aa,ad,ag,ah,3,af⟩=false:=(by simp[Ca,FP,hp,h]);rw[hF];clear hF;subst h;have es:=m3.e4;go_enter func198,ntmps198;go_wp2_with (go_at_call 137;refine BQ (AH _ _ _ _) ?_);refine(KD i.name m3).mono ?_;rintro e w' ⟨rfl,m4⟩;clear es;have es:=m4.e4;rw[hp];go_wp2_with (go_at_call 137;refine BQ (AH _ _ _ _) ?_);all_goals (go_ret;exact⟨Z,m4.drop.drop.drop⟩)
  .have hF:Ca x i ⟨sw,ae,aa,ad,ag,ah,3,af⟩=DB i.args.length Mq:=(by simp[Ca,FP,hp,h]);rw[hF];clear hF;have h0:(Mq==0)=false:=bF h;clear h;by_cases q1:Mq= -1
   .subst q1;exact uO
   have ak:(Mq== -1)=false:=bF q1;by_cases q2:Mq= -2
   .subst q2;have es:=m3.e4;go_enter func198,ntmps198;go_wp2_with (go_at_call 137;refine BQ (AH _ _ _ _) ?_);refine(KD i.name m3).mono ?_;rintro e w' ⟨rfl,m4⟩;clear es;have es:=m4.e4;rw[hp];go_wp2_with (go_at_call 137;refine BQ (AH _ _ _ _) ?_);all_goals (go_ret;exact⟨A8 SY,m4.drop.drop.drop⟩)
   have aj:(Mq== -2)=false:=bF q2;by_cases q3:Mq= -3
   .subst q3;exact uO
   have ai:(Mq== -3)=false:=bF q3;have es:=m3.e4;go_enter func198,ntmps198;go_wp2_with (go_at_call 137;refine BQ (AH _ _ _ _) ?_);refine(KD i.name m3).mono ?_;rintro e w' ⟨rfl,m4⟩;clear es;have es:=m4.e4;rw[hp];go_wp2_with (go_at_call 137;refine BQ (AH _ _ _ _) ?_);all_goals (go_ret;exact⟨A8 Ry,m4.drop.drop.drop⟩)
 .rcases Cy (λc:AK=>T (c.name=i.name)) x.k with ⟨he,_⟩|⟨k,hk,he,_⟩
  .have he:Eh x i.name= -1:=he;have hF:Ca x i ⟨sw,ae,aa,ad,ag,ah,4,af⟩=false:=(by simp[Ca,FP,he]);rw[hF];clear hF;have es:=m3.e4;go_enter func198,ntmps198;go_wp2_with (go_at_call 137;refine BQ (AH _ _ _ _) ?_);refine(JB x _ _ _ _ i.name m3 HX.out).mono ?_;exact uK
  .have he:Eh x i.name=(k:Int):=he;have hF:Ca x i ⟨sw,ae,aa,ad,ag,ah,4,af⟩=DB i.args.length x.k[k].f.length:=(by have h1:¬((k:Int)<0):=A0;simp[Ca,FP,he,h1,M7,vH hk]);rw[hF];clear hF;have ao:(k:Int)<x.k.length:=A0;obtain⟨lu,off,sv,rfl,-,lx,hs,-⟩:=HX.out.c.getClassQ (vH hk);have HC:=A5 lx;clear lx;obtain⟨sb,sc,rfl,-,an,-⟩:=hs;have an:=A9 an;have es:=m3.e4;go_enter func198,ntmps198;go_wp2_with (go_at_call 137;refine BQ (AH _ _ _ _) ?_);refine(JB x _ _ _ _ i.name m3 HX.out).mono ?_;rintro e w' ⟨rfl,m4⟩;clear es;have es:=m4.e4;rw[he];have lx:=HC.out.cell m4;go_wp2_with (go_at_call 137;refine BQ (AH _ _ _ _) ?_);all_goals (go_ret;exact⟨A8 lv,m4.drop.drop.drop⟩)
 .rcases Cy (λc:Aj=>T (c.name=i.name)) x.c with ⟨he,_⟩|⟨k,hk,he,_⟩
  .have he:E6 x i.name= -1:=he;have hF:Ca x i ⟨sw,ae,aa,ad,ag,ah,6,af⟩=false:=(by simp[Ca,FP,he]);rw[hF];clear hF;have es:=m3.e4;go_enter func198,ntmps198;go_wp2_with (go_at_call 137;refine BQ (AH _ _ _ _) ?_);refine(Cl x _ _ _ _ i.name m3 HX.out).mono ?_;exact uK
  .have he:E6 x i.name=(k:Int):=he;have h1:¬((k:Int)<0):=A0;have ao:(k:Int)<x.c.length:=A0;by_cases ha:aa<0
   .have hF:Ca x i ⟨sw,ae,aa,ad,ag,ah,6,af⟩=DB i.args.length x.c[k].parts:=(by simp[Ca,FP,he,h1,ha,Of,vH hk]);rw[hF];clear hF;obtain⟨lu,off,rfl,-,-,lx,-⟩:=HX.out.k.getCase (vH hk);have HC:=A5 lx;clear lx;generalize x.c[k].parts=Mq at*;by_cases q1:Mq= -1
    .subst q1;exact uV
    have ak:(Mq== -1)=false:=bF q1;by_cases q2:Mq= -2
    .subst q2;have es:=m3.e4;go_enter func198,ntmps198;go_wp2_with (go_at_call 137;refine BQ (AH _ _ _ _) ?_);refine(Cl x _ _ _ _ i.name m3 HX.out).mono ?_;rintro e w' ⟨rfl,m4⟩;clear es;have es:=m4.e4;rw[he];have lx:=HC.out.cell m4;go_wp2_with (go_at_call 137;refine BQ (AH _ _ _ _) ?_);all_goals (go_ret;exact⟨A8 SY,m4.drop.drop.drop⟩)
    have aj:(Mq== -2)=false:=bF q2;by_cases q3:Mq= -3
    .subst q3;exact uV
    have ai:(Mq== -3)=false:=bF q3;have es:=m3.e4;go_enter func198,ntmps198;go_wp2_with (go_at_call 137;refine BQ (AH _ _ _ _) ?_);refine(Cl x _ _ _ _ i.name m3 HX.out).mono ?_;rintro e w' ⟨rfl,m4⟩;clear es;have es:=m4.e4;rw[he];have lx:=HC.out.cell m4;go_wp2_with (go_at_call 137;refine BQ (AH _ _ _ _) ?_);all_goals (go_ret;exact⟨A8 Ry,m4.drop.drop.drop⟩)
   .have hF:Ca x i ⟨sw,ae,aa,ad,ag,ah,6,af⟩=DB i.args.length aa:=(by simp[Ca,FP,he,h1,ha]);rw[hF];clear hF;have q1:¬aa= -1:=A0;have q2:¬aa= -2:=A0;have q3:¬aa= -3:=A0;have ak:(aa== -1)=false:=bF q1;have aj:(aa== -2)=false:=bF q2;have ai:(aa== -3)=false:=bF q3;have es:=m3.e4;go_enter func198,ntmps198;go_wp2_with (go_at_call 137;refine BQ (AH _ _ _ _) ?_);refine(Cl x _ _ _ _ i.name m3 HX.out).mono ?_;rintro e w' ⟨rfl,m4⟩;clear es;have es:=m4.e4;rw[he];go_wp2_with (go_at_call 137;refine BQ (AH _ _ _ _) ?_);all_goals (go_ret;exact⟨A8 lv,m4.drop.drop.drop⟩)
 .by_cases h:Aw x.r i.name<0
  .have hF:Ca x i ⟨sw,ae,aa,ad,ag,ah,7,af⟩=false:=Nj;rw[hF];clear hF;have es:=m3.e4;go_enter func198,ntmps198;go_wp2_with (go_at_call 137;refine BQ (AH _ _ _ _) ?_);refine BQ (Ge _ x.r i.name (HX.out.r.strsAt m3)) ?_;go_wp2_with (go_at_call 137;refine BQ (AH _ _ _ _) ?_);all_goals (go_ret;exact⟨Z,(((m.alloc _).alloc _).alloc _).drop.drop.drop⟩)
  .have hF:Ca x i ⟨sw,ae,aa,ad,ag,ah,7,af⟩=DB i.args.length aa:=Nj;rw[hF];clear hF;by_cases q1:aa= -1
   .subst q1;exact uS
   have ak:(aa== -1)=false:=bF q1;by_cases q2:aa= -2
   .subst q2;have es:=m3.e4;go_enter func198,ntmps198;go_wp2_with (go_at_call 137;refine BQ (AH _ _ _ _) ?_);refine BQ (Ge _ x.r i.name (HX.out.r.strsAt m3)) ?_;go_wp2_with (go_at_call 137;refine BQ (AH _ _ _ _) ?_);all_goals (go_ret;exact⟨A8 SY,(((m.alloc _).alloc _).alloc _).drop.drop.drop⟩)
   have aj:(aa== -2)=false:=bF q2;by_cases q3:aa= -3
   .subst q3;exact uS
   have ai:(aa== -3)=false:=bF q3;have es:=m3.e4;go_enter func198,ntmps198;go_wp2_with (go_at_call 137;refine BQ (AH _ _ _ _) ?_);refine BQ (Ge _ x.r i.name (HX.out.r.strsAt m3)) ?_;go_wp2_with (go_at_call 137;refine BQ (AH _ _ _ _) ?_);all_goals (go_ret;exact⟨A8 Ry,(((m.alloc _).alloc _).alloc _).drop.drop.drop⟩)
 .have e0:((sn:Int)==0)=false:=bF A0;have e1:((sn:Int)==1)=false:=bF A0;have e2:((sn:Int)==2)=false:=bF A0;have e3:((sn:Int)==3)=false:=bF A0;have e4:((sn:Int)==4)=false:=bF A0;have e6:((sn:Int)==6)=false:=bF A0;have e7:((sn:Int)==7)=false:=bF A0;cases h:B3 i.name
  .have hF:Ca x i ⟨sw,ae,aa,ad,ag,ah,sn,af⟩=false:=(by simp[Ca,FP,h,n0,n1,n2,n3,n4,n6,n7]);rw[hF];clear hF;have es:=m3.e4;go_enter func198,ntmps198;go_wp2_with (go_at_call 137;refine BQ (AH _ _ _ _) ?_);refine(Bp i.name hnm _).mono ?_;exact uU
  .have hF:Ca x i ⟨sw,ae,aa,ad,ag,ah,sn,af⟩=DB i.args.length aa:=(by simp[Ca,FP,h,n0,n1,n2,n3,n4,n6,n7]);rw[hF];clear hF;by_cases q1:aa= -1
   .subst q1;exact uL
   have ak:(aa== -1)=false:=bF q1;by_cases q2:aa= -2
   .subst q2;have es:=m3.e4;go_enter func198,ntmps198;go_wp2_with (go_at_call 137;refine BQ (AH _ _ _ _) ?_);refine(Bp i.name hnm _).mono ?_;exact uQ
   have aj:(aa== -2)=false:=bF q2;by_cases q3:aa= -3
   .subst q3;exact uL
   have ai:(aa== -3)=false:=bF q3;have es:=m3.e4;go_enter func198,ntmps198;go_wp2_with (go_at_call 137;refine BQ (AH _ _ _ _) ?_);refine(Bp i.name hnm _).mono ?_;exact uT
section
variable {K:Act->World->Prop}
def CN:Code->List Code
 | .seq x y=>CN x++CN y
 |c=>[c]
section
variable {P:P_} {Q:Exit->Act->W_->Prop}
def LK (P:P_) (Q:Exit->Act->W_->Prop):List Code->(Act->W_->Prop)->Act->W_->Prop
 |[],K,a,w=>K a w
 |c::l,K,a,w=>∀K':Act->W_->Prop,(∀a w,LK P Q l K a w->K' a w)->c.wp P (Exit.then K' Q) a w
theorem fL {K:Act->W_->Prop} (S:Act->W_->Prop):∀(l1:List Code) {l2:List Code} {a:Act} {w:W_},(∀K':Act->W_->Prop,(∀a w,S a w->K' a w)->LK P Q l1 K' a w)->(∀a w,S a w->LK P Q l2 K a w)->LK P Q (l1++l2) K a w
 |[],l2,a,w,h1,h2=>h1 _ h2
 |c::l1,l2,a,w,h1,h2=>by
  have mono:∀(l:List Code) (K1 K2:Act->W_->Prop),(∀a w,K1 a w->K2 a w)->∀a w,LK P Q l K1 a w->LK P Q l K2 a w:=by
   intro l
   induction l with
   |nil=>exact λK1 K2 h a w=>h a w
   |cons d l ih=>exact λK1 K2 h a w h1 K' hK'=>h1 K' λa w h2=>hK' a w (ih K1 K2 h a w h2)
  have app:∀(l:List Code) (a:Act) (w:W_),LK P Q l (λa w=>LK P Q l2 K a w) a w->LK P Q (l++l2) K a w:=by
   intro l
   induction l with
   |nil=>exact λa w h=>h
   |cons d l ih=>exact λa w h K' hK'=>h K' λa w h2=>hK' a w (ih a w h2)
  exact app (c::l1) a w (h1 _ h2)
theorem pr:∀(c:Code) {l:List Code} {K:Act->W_->Prop} {a:Act} {w:W_},LK P Q (CN c++l) K a w->c.wp P (Exit.then (LK P Q l K) Q) a w:=by
 have one:∀(c:Code),CN c=[c]->∀{l:List Code} {K:Act->W_->Prop} {a:Act} {w:W_},LK P Q (CN c++l) K a w->c.wp P (Exit.then (LK P Q l K) Q) a w:=(by intro c hc l K a w h;rw[hc] at h;exact h _ λ_ _ h=>h);intro c
 induction c with
 |seq x y aa ihy=>
  intro l K a w h;unfold CN at h;rw[wo] at h;refine wp_seq (wp_mono (aa h) λe a w he=>?_)
  cases e with
  |normal=>exact ihy he
  |exit id=>exact he
  |goto l=>exact he
  |ret=>exact he
  |panic c=>exact he
  |outgrown=>exact he
 |_=>exact one _ Z
theorem TS {c:Code} {l1 l2:List Code} (hc:CN c=l1++l2) (S:Act->W_->Prop) {a:Act} (h1:∀K:Act->W_->Prop,(∀a w,S a w->K a w)->LK P Q l1 K a w) (h2:∀a w,S a w->LK P Q l2 (Q .normal) a w):c.wp P Q a w:=by have h:=fL (P:=P) (Q:=Q) (K:=Q .normal) S l1 h1 h2;rw[<-hc,<-vt (CN c)] at h;exact lR
theorem M9 (n:Nat) {l:List Code} (S:Act->W_->Prop) {a:Act} (h1:∀K':Act->W_->Prop,(∀a w,S a w->K' a w)->LK P Q (l.take n) K' a w) (h2:∀a w,S a w->LK P Q (l.drop n) K a w):LK P Q l K a w:=by have:=fL (P:=P) (Q:=Q) (K:=K) S (l.take n) h1 h2;rwa [wT] at this
theorem De {c:Code} (n:Nat):CN c=(CN c).take n++(CN c).drop n:=(wT n _).symm
end
theorem Ii (t:Array V_) (h:t.size=n):∃u:Nat->V_,t=((vA n).map u).toArray:=by refine⟨λk=>t.getD k undef,?_⟩;subst h;(refine Array.ext (by simp) λi h1 h2=>?_);simp[Array.getD,h1]
end
section
variable {j k:Nat} {ls:Array Bool} {oi:Oper}
section
variable {P:P_} {ops:Array Oper} {Q:Exit->Act->W_->Prop} {S:W_->Prop} {n:Nat}
def Dd (n:Nat) (ls:Array Bool):Prop:=∃e,n<=e/\ls.getD e G=B
theorem Dd.set (h:Dd n ls):Dd n (ls.setIfInBounds i B):=by obtain⟨e,h1,h2⟩:=h;exact⟨e,h1,getD_set_true h2⟩
theorem Bo {e:Nat} (h:i≠e):(ls.setIfInBounds i B).getD e G=ls.getD e false:=by simp[wY h]
def A6 (P:P_) (ops:Array Oper) (Q:Exit->Act->W_->Prop) (S:W_->Prop) (n:Nat):Nat->Array Bool->Act->W_->Prop
 |0,ls,a,w=>uj .any ops ls=[]/\Q .normal a w
 |k+1,ls,a,w=>(uj .any ops ls=[]->Q .normal a w)/\
   ∀i,i∈uj .any ops ls->wpOp P ops Q i (λa' w'=>(Dd n (ls.setIfInBounds i B)\/S w')/\A6 P ops Q S n k (ls.setIfInBounds i B) a' w') a w
theorem A6.any:∀(k:Nat) {ls:Array Bool} {a:Act} {w:W_},A6 P ops Q S n k ls a w->wpAny P .any ops Q k ls a w
 |0,_,_,_,h=>h
 |k+1,_,_,_,h=>⟨h.1,λi hi=>wpOp_mono (λ_ _ hx=>hx.2.any k) (h.2 i hi)⟩
def VL (ops:Array Oper) (n:Nat) (ls:Array Bool):Bool:=(vA ls.size).all λe=>T (e<n)|| !ls.getD e G
theorem XZ (h:VL ops n ls=B):¬Dd n ls:=by
 rintro⟨e,h1,h2⟩
 have lg:e<ls.size:=by
  rcases vj e ls.size with h3|h3
  .exact h3
  .simp[wS h3] at h2
 have h3:=uy.1 h e (vN.2 lg);rw[h2] at h3;simp at h3;omega
theorem DS (h:i∈uj .any ops ls):ls.getD i G=false:=by
 have h0:=(mem_ready.1 h).1;rcases vj i ls.size with hl|hl
 .simp[hl] at h0⊢;exact h0
 .simp[wS hl]
theorem Tn {oj:Oper} (hi:i∈uj .any ops ls) (hj:j∈uj .any ops ls) (aa:ops[j]?=O oj):∀e∈oj.after,vP .any e=B->e.on≠i:=by intro e he hb heq;obtain⟨_,o,ho,ly⟩:=mem_ready.1 hj;rw[aa] at ho;cases ho;have h1:=ly e he hb;rw[heq,DS hi] at h1;cases h1
theorem A6.swap {v:V_} {Tq:Array Bool->W_->Prop} {Uq:W_->Prop} (hi:ops[i]?=O oi) (ae:∀(j:Nat) (o:Oper) cs b,ops[j]?=O o->o.op≠ .select cs b) (hQ:∀c a w,Q (.panic c) (a.put oi.dst v) w->Q (.panic c) a w) (ai:∀ls w,Tq ls w->Dd n (ls.setIfInBounds i B)\/S w) (ah:∀ls w,Tq ls w->Uq w) (hT:∀ls w j w',Tq ls w->i∈uj .any ops ls->j∈uj .any ops ls->j≠i->(Dd n ((ls.setIfInBounds i B).setIfInBounds j B)\/S w')->(Dd n (ls.setIfInBounds j B)\/S w')/\Tq (ls.setIfInBounds j B) w'):∀(k:Nat) (ls:Array Bool) (a:Act) (w:W_),(∀j oj,ops[j]?=O oj->j≠i->ls.getD j B=G->(∀e∈oj.after,vP .any e=B->e.on≠i)->oi.apart ops oj=B)->i∈uj .any ops ls->YieldsIf P ops Uq oi v a->Tq ls w->A6 P ops Q S n k (ls.setIfInBounds i B) (a.put oi.dst v) w->A6 P ops Q S n (k+1) ls a w:=by
 intro k
 induction k with
 |zero=>
  intro ls a w _ hr hy hC h;refine⟨λh0=>(by rw[h0] at hr;cases hr),λj hj=>?_⟩;by_cases e:j=i
  .subst e;exact hy.wpOp hi (ah _ _ hC) ⟨ai _ _ hC,h⟩
  .have hx:=ready_mono hj e;rw[h.1] at hx;cases hx
 |succ k ih=>
  intro ls a w aa hr hy hC h;refine⟨λh0=>(by rw[h0] at hr;cases hr),λj hj=>?_⟩;by_cases e:j=i
  .subst e;exact hy.wpOp hi (ah _ _ hC) ⟨ai _ _ hC,h⟩
  .obtain⟨ag,oj,af,_⟩:=mem_ready.1 hj;have ad:=wpOp_putIf af (aa j oj af e ag (Tn hr hj af)) (λcs b=>ae i oi cs b hi) (λcs b=>ae j oj cs b af) hQ hy (h.2 j (ready_mono hj e));refine wpOp_mono (λa' w' hx=>?_) ad;obtain⟨aq,ao⟩:=hT ls w j w' hC hr hj e hx.2.1;refine⟨aq,ih _ a' w' (λx ox ak aj an hno=>aa x ox ak aj ?_ hno) (ready_mono hr (Ne.symm e)) hx.1 ao ?_⟩
   .by_cases ej:j=x
    .subst ej;exact ag
    .rwa [getD_set_ne B ej] at an
   .rw[Array.setIfInBounds_comm _ _ e];exact hx.2.2
theorem A6.pure {v:V_} {a:Act} (hi:ops[i]?=O oi) (hs:vX ops=B) (hf:vY .any ops ls i=B) (hr:(uj .any ops ls).contains i=B) (hin:i<n) (hQ:∀c a w,Q (.panic c) (a.put oi.dst v) w->Q (.panic c) a w) (hy:uz oi (yielded ops a.tmps)=B/\∀w,(x_ a.eval oi).run P w= .ok (.value v) w) (hS:S w) (h:A6 P ops Q S n k (ls.setIfInBounds i B) (a.put oi.dst v) w):A6 P ops Q S n (k+1) ls a w:=by refine A6.swap (Tq:=λls w=>Dd n ls\/S w) (Uq:=λ_=>True) hi (wV hs) hQ (λ_ _ h=>h.imp Dd.set id) (λ_ _ _=>trivial) ?_ k ls a w (wW hi hf) (by simpa using hr) (.inl ⟨hy.1,λw _=>hy.2 w⟩) (.inr hS) h;exact lV
theorem A6.done {ls:Array Bool} {a:Act} {w:W_} (hr:uj .any ops ls=[]) (h:Q .normal a w):∀k,A6 P ops Q S n k ls a w
 |0=>⟨hr,h⟩
 |_+1=>⟨λ_=>h,by rw[hr];intro i hi;cases hi⟩
theorem A6.one {i k:Nat} {ls:Array Bool} {a:Act} {w:W_} (hr:uj .any ops ls=[i])
  (h:wpOp P ops Q i (λa' w'=>(Dd n (ls.setIfInBounds i B)\/S w')/\A6 P ops Q S n k (ls.setIfInBounds i B) a' w') a w):A6 P ops Q S n (k+1) ls a w:=
 ⟨λh0=>(by rw[hr] at h0;cases h0),λj hj=>by
  rw[hr] at hj
  obtain rfl:=wA.1 hj
  exact h⟩
theorem A6.two {i j k:Nat} {ls:Array Bool} {a:Act} {w:W_} (hr:uj .any ops ls=[i,j])
  (h:wpOp P ops Q i (λa' w'=>(Dd n (ls.setIfInBounds i B)\/S w')/\A6 P ops Q S n k (ls.setIfInBounds i B) a' w') a w)
  (h':wpOp P ops Q j (λa' w'=>(Dd n (ls.setIfInBounds j B)\/S w')/\A6 P ops Q S n k (ls.setIfInBounds j B) a' w') a w):A6 P ops Q S n (k+1) ls a w:=
 ⟨λh0=>(by rw[hr] at h0;cases h0),λx hx=>by
  rw[hr] at hx
  rcases ut.1 hx with rfl|hx
  .exact h
  .obtain rfl:=wA.1 hx
   exact h'⟩
theorem A6.op {i k:Nat} {o:Oper} {ls:Array Bool} {a:Act} {w:W_} (ho:ops[i]?=O o) (hw:uz o (yielded ops a.tmps)=B)
  (h:∀K:Act->W_->Prop,(∀a w,(Dd n (ls.setIfInBounds i B)\/S w)->A6 P ops Q S n k (ls.setIfInBounds i B) a w->K a w)->Oper.wp P o a w K Q):
  wpOp P ops Q i (λa' w'=>(Dd n (ls.setIfInBounds i B)\/S w')/\A6 P ops Q S n k (ls.setIfInBounds i B) a' w') a w:=
 wpOp_step ho λK hK=>by rw[p_ hw];exact h K (λa w h1 h2=>hK a w ⟨h1,h2⟩)
theorem A6.opIf {i k:Nat} {o:Oper} {ls:Array Bool} {a:Act} {w:W_} (ho:ops[i]?=O o)
  (h:∀K:Act->W_->Prop,(∀a w,(Dd n (ls.setIfInBounds i B)\/S w)->A6 P ops Q S n k (ls.setIfInBounds i B) a w->K a w)->if uz o (yielded ops a.tmps)=B then Oper.wp P o a w K Q else K (a.put o.dst undef) w):
  wpOp P ops Q i (λa' w'=>(Dd n (ls.setIfInBounds i B)\/S w')/\A6 P ops Q S n k (ls.setIfInBounds i B) a' w') a w:=
 wpOp_step ho λK hK=>h K (λa w h1 h2=>hK a w ⟨h1,h2⟩)
theorem A6.start {id:Nat} {a:Act} {w:W_} (S:W_->Prop) (n:Nat) (hm:P.follows .mixedOrders=B) (h:A6 P ops Q S n ops.size (wH ops.size G) a w.drew):
  (Code.region id ops B).wp P Q a w:=wp_region_any hm (h.any _)
end
end
section
variable {P:Program} {Q:Exit->Act->World->Prop} {j k:Nat} {ls:Array Bool} {o oi:Oper}
section
variable {P:P_} {ops:Array Oper} {Q:Exit->Act->W_->Prop} {S:W_->Prop} {n:Nat}
def Iu (ops:Array Oper) (ls:Array Bool):Prop:=∀(j:Nat) (o:Oper),ops[j]?=O o->ls.getD j G=B->∀e∈o.after,vP .any e=B->ls.getD e.on G=B
def KS (ops:Array Oper) (i:Nat):Nat->Nat->Bool
 |0,_=>G
 |k+1,j=>match ops[j]? with|some o=>o.after.any λe=>vP .any e&&(e.on==i||KS ops i k e.on)|none=>G
theorem Ga {i:Nat} {ls:Array Bool} (hc:Iu ops ls):∀(k j:Nat) (o:Oper),ops[j]?=O o->(∀e∈o.after,vP .any e=B->ls.getD e.on G=B)->KS ops i k j=B->ls.getD i G=B
 |0,j,o,ho,hw,h=>by simp[KS] at h
 |k+1,j,o,ho,hw,h=>by
  unfold KS at h
  rw[ho] at h
  obtain⟨e,he,hb⟩:=Array.any_eq_true'.1 h
  simp only[vD,vI,beq_iff_eq] at hb
  have hl:=hw e he hb.1
  rcases hb.2 with h1|h1
  .rw[<-h1];exact hl
  .have h2:∃o',ops[e.on]?=O o':=by
    cases h3:ops[e.on]? with
    |some o'=>exact⟨o',Z⟩
    |none=>
     cases k with
     |zero=>simp[KS] at h1
     |succ k=>unfold KS at h1;rw[h3] at h1;cases h1
   obtain⟨o',ho'⟩:=h2
   exact Ga hc k e.on o' ho' (hc e.on o' ho' hl) h1
def fI (ops:Array Oper) (n i:Nat):Bool:=(vA ops.size).all λj=>T (j<n)||KS ops i ops.size j
def Tu (ops:Array Oper) (ls:Array Bool):Bool:=(vA ops.size).all λj=> !ls.getD j G||match ops[j]? with|some o=>o.after.all λe=> !vP .any e||ls.getD e.on G|none=>B
theorem bV (h:Tu ops ls=B):Iu ops ls:=by intro j o ho hl e he hb;have lg:j<ops.size:=(vU.1 ho).1;have h1:=uy.1 h j (vN.2 lg);rw[hl,ho] at h1;simp only[wL,vQ] at h1;have h2:=Array.all_eq_true'.1 h1 e he;rw[hb] at h2;simpa using h2
theorem Ib (hj:j∈uj .any ops ls) (ho:ops[j]?=O o):∀e∈o.after,vP .any e=B->ls.getD e.on G=true:=by intro e he hb;obtain⟨_,o',aa,ly⟩:=mem_ready.1 hj;rw[ho] at aa;cases aa;exact ly e he hb
theorem Iu.set (h:Iu ops ls) (hj:j∈uj .any ops ls):Iu ops (ls.setIfInBounds j B):=by
 intro k o ho hl e he hb;refine getD_set_true ?_;by_cases e1:j=k
 .subst e1;exact Ib hj ho e he hb
 .rw[Bo e1] at hl;exact h k o ho hl e he hb
theorem A6.takeT {v:V_} {a:Act} (hi:ops[i]?=O oi) (hs:vX ops=B) (hf:vY .any ops ls i=B) (hr:(uj .any ops ls).contains i=B) (hn:(fI ops n i&&VL ops n ls&&Tu ops ls)=B) (hQ:∀c a w,Q (.panic c) (a.put oi.dst v) w->Q (.panic c) a w) (hy:uz oi (yielded ops a.tmps)=B/\∀w,S w->(x_ a.eval oi).run P w= .ok (.value v) w) (hS:S w) (h:A6 P ops Q S n k (ls.setIfInBounds i B) (a.put oi.dst v) w):A6 P ops Q S n (k+1) ls a w:=by
 rw[vD,vD] at hn;obtain⟨⟨hn1,ag⟩,af⟩:=hn
 have ad:∀{j:Nat} {ls:Array Bool},Iu ops ls->i∈uj .any ops ls->j∈uj .any ops ls->¬n<=j:=by
  intro j ls hc h1 h2 mN;obtain⟨_,o,ho,_⟩:=mem_ready.1 h2;have lg:j<ops.size:=(vU.1 ho).1;have h3:=uy.1 hn1 j (vN.2 lg);simp only[vI,decide_eq_true_eq] at h3;rcases h3 with h3|h3
  .omega
  .have h4:=Ga hc ops.size j o ho (Ib h2 ho) h3;rw[DS h1] at h4;cases h4
 have aa:∀{ls:Array Bool} {j:Nat},¬n<=j->¬Dd n ls->¬Dd n (ls.setIfInBounds j B):=(by rintro ls j h1 h2 ⟨e,h3,h4⟩;rw[Bo A0] at h4;exact h2 ⟨e,h3,h4⟩);refine A6.swap (Tq:=λls w=>¬Dd n ls/\S w/\Iu ops ls) (Uq:=S) hi (wV hs) hQ (λ_ _ h=> .inr h.2.1) (λ_ _ h=>h.2.1) ?_ k ls a w (wW hi hf) (by simpa using hr) (.inl hy) ⟨XZ ag,hS,bV af⟩ h;intro ls w j w' hT h1 h2 _ hx;have hj:=ad hT.2.2 h1 h2;have ah:=ad hT.2.2 h1 h1;have hno:=aa hj hT.1;have ae:S w':=hx.resolve_left (aa hj (aa ah hT.1));exact⟨.inr ae,hno,ae,hT.2.2.set h2⟩
end
theorem A6.tk {ops:Array Oper} {S:W_->Prop} {v:V_} {a:Act} (hi:ops[i]?=O oi) (hS:S w) (hv:∀w,S w->(x_ a.eval oi).run P w= .ok (.value v) w) (h:A6 P ops Q S n k (ls.setIfInBounds i B) (a.put oi.dst v) w) (hs:vX ops=true:=by kernel_rfl) (hf:vY .any ops ls i=true:=by kernel_rfl) (hr:(uj .any ops ls).contains i=true:=by kernel_rfl) (hn:(fI ops n i&&VL ops n ls&&Tu ops ls)=true:=by kernel_rfl) (hw:uz oi (yielded ops a.tmps)=true:=by kernel_rfl) (hQ:∀c a w,Q (.panic c) (a.put oi.dst v) w->Q (.panic c) a w:=by exact λ_ _ _ h=>h):A6 P ops Q S n (k+1) ls a w:=A6.takeT hi hs hf hr hn hQ ⟨hw,hv⟩ hS h
theorem A6.pu {ops:Array Oper} {S:W_->Prop} {v:V_} {a:Act} (hi:ops[i]?=O oi) (hS:S w) (hv:∀w,(x_ a.eval oi).run P w= .ok (.value v) w) (h:A6 P ops Q S n k (ls.setIfInBounds i B) (a.put oi.dst v) w) (hs:vX ops=true:=by kernel_rfl) (hf:vY .any ops ls i=true:=by kernel_rfl) (hr:(uj .any ops ls).contains i=true:=by kernel_rfl) (hn:i<n:=by decide) (hw:uz oi (yielded ops a.tmps)=true:=by kernel_rfl) (hQ:∀c a w,Q (.panic c) (a.put oi.dst v) w->Q (.panic c) a w:=by exact λ_ _ _ h=>h):A6 P ops Q S n (k+1) ls a w:=A6.pure hi hs hf hr hn hQ ⟨hw,hv⟩ hS h
end
section
variable {k:Nat} {ls:Array Bool} {oi:Oper}
section
variable {P:P_} {ops:Array Oper} {Q:Exit->Act->W_->Prop} {S:W_->Prop} {n:Nat}
theorem A6.skip {a:Act} (hi:ops[i]?=O oi) (hs:vX ops=B) (hf:vY .any ops ls i=B) (hr:(uj .any ops ls).contains i=B) (hin:i<n) (hQ:∀c a w,Q (.panic c) (a.put oi.dst undef) w->Q (.panic c) a w) (hw:uz oi (yielded ops a.tmps)=G) (hS:S w) (h:A6 P ops Q S n k (ls.setIfInBounds i B) (a.put oi.dst undef) w):A6 P ops Q S n (k+1) ls a w:=by refine A6.swap (Tq:=λls w=>Dd n ls\/S w) (Uq:=λ_=>True) hi (wV hs) hQ (λ_ _ h=>h.imp Dd.set id) (λ_ _ _=>trivial) ?_ k ls a w (wW hi hf) (by simpa using hr) (.inr ⟨hw,Z⟩) (.inr hS) h;exact lV
theorem A6.call {i k:Nat} {o:Oper} {ls:Array Bool} {a:Act} {w:W_} (hr:uj .any ops ls=[i]) (ho:ops[i]?=O o) (hw:uz o (yielded ops a.tmps)=B)
  (h:∀K:Act->W_->Prop,(∀a w,(Dd n (ls.setIfInBounds i B)\/S w)->A6 P ops Q S n k (ls.setIfInBounds i B) a w->K a w)->Oper.wp P o a w K Q):A6 P ops Q S n (k+1) ls a w:=
 A6.one hr (A6.op ho hw h)
end
end
section
section
variable {P:P_} {ops:Array Oper} {Q:Exit->Act->W_->Prop} {S:W_->Prop} {p:Nat->Bool}
end
end
