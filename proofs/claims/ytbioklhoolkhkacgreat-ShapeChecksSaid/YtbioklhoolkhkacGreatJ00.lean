/- What the texts share: tactic blocks and proofs that stand often, each as a theorem with an automatic argument. -/
import Derived.Below
import Derived.BigQuiet
import Derived.Carry
import Derived.ChangeKeysEq
import Derived.ChangeSame
import Derived.ChangeSlices
import Derived.ControlIn
import Derived.Deep.AppendSrc
import Derived.Deep.DeepMust
import Derived.Deep.Fields
import Derived.Deep.LoopGhost
import Derived.Deep.MidRow
import Derived.Deep.QuietTactic
import Derived.Deep.RegionHeld3
import Derived.Deep.Slices
import Derived.Great.BuildSlice
import Derived.JoinedOf
import Derived.KernelRfl
import Derived.Laws.BitsAllLaws
import Derived.Laws.IdiomStrings
import Derived.Laws.MakeOwn
import Derived.Laws.StructEq
import Derived.Lib.ConvBytes
import Derived.Lib.Hide
import Derived.Lib.SliceRun
import Derived.Lib.SmallJoins
import Derived.MapKept
import Derived.OrdersIn
import Derived.OwnWalkIn
import Derived.ProofKit
import Derived.RangeFuncCalls
import Derived.RangeFuncFrom
import Derived.RangeFuncIn
import Derived.RangeFuncLeaves
import Derived.RangeFuncRecord
import Derived.Scope
import Derived.SizedLaws
import Derived.SliceStrings
import Derived.Sort.OwnSorted
import Derived.StillTail
import Derived.StillTailTactics
import Derived.TacticsInMore
import Derived.WalkKit
import Derived.WalkLawsBesides
import Derived.WalkSpells
namespace Go.Proofs.YtbioklhoolkhkacGreat
set_option maxRecDepth 100000
set_option maxHeartbeats 0
set_option linter.unusedVariables false
set_option linter.unusedSimpArgs false
set_option linter.unusedSectionVars false
open Go Go.RowKit
 universe u
open Option renaming some→O,none→X
open Bool renaming true→B,false→G
open Decidable renaming decide→T
open _root_.Go renaming Value→V_,World→W_,Calls→K_,execOp→x_,Operand→O_,Program→P_,TypeId→T_,run_underlying→u_,bodyPost_ret→b_,Ending→E_
open _root_.Go.Value renaming slice→V,int→Y,pointer→M,string→U,bool→N
open _root_.Go.IntKind renaming i64→I
open _root_.Go.Obj renaming cells→C
theorem Z {α:Sort u} {a:α}:a=a:=rfl
theorem n_ {c:Prop} {h:Decidable c} (k:¬c) {α:Sort u} {t e:α}:ite c t e=e:=if_neg k
theorem p_ {c:Prop} {h:Decidable c} (k:c) {α:Sort u} {t e:α}:ite c t e=t:=if_pos k
theorem f_ {p:Prop} [Decidable p] (h:¬p):decide p=false:=decide_eq_false h
theorem t_ {p:Prop} [Decidable p] (h:p):decide p=true:=decide_eq_true h
theorem o_ {p:Prop} [Decidable p] (h:decide p=true):p:=of_decide_eq_true h
def a_ {a:Prop} {b:Sort u} (h:a) (k:¬a):b:=absurd h k
variable {P:Prop}
theorem bF {α:Type} [BEq α] [LawfulBEq α] {a b:α} (h:a≠b):(a==b)=false:=beq_eq_false_iff_ne.2 h
theorem A5 {p:Prop} (h:p):Hid p:=Lib.hid h
theorem AO:(∀(a:Act) (d:Tmp) (v:V_),a.put (O d) v={a with tmps:=a.tmps.setIfInBounds d v})/\(∀(a:Act) (v:V_),a.put X v=a)/\
  (∀{α:Type} {l:List α} {i:Nat} {a:α},l.toArray.setIfInBounds i a=(l.set i a).toArray)/\(∀{α:Type} {x:α} {xs:List α} {a:α},(x::xs).set 0 a=a::xs)/\
  (∀{α:Type} {x:α} {xs:List α} {i:Nat} {a:α},(x::xs).set (i+1) a=x::xs.set i a)/\(∀{α:Type} {xs:List α} {i:Nat} (h:i<xs.toArray.size),xs.toArray[i]=xs[i]'(by simpa using h))/\
  (∀{α:Type} {a:α} {l:List α} {i:Nat} (h:i+1<(a::l).length),(a::l)[i+1]=l[i]'(by simpa using h))/\∀{α:Type} {a:α} {l:List α} (h:0<(a::l).length),(a::l)[0]=a:=
  ⟨λ_ _ _=>rfl,λ_ _=>rfl,List.setIfInBounds_toArray ..,List.set_cons_zero,List.set_cons_succ,λh=>List.getElem_toArray h,λh=>List.getElem_cons_succ ..,λh=>List.getElem_cons_zero ..⟩
theorem A0 (h:P:=by omega):P:=h
theorem AD (h:P:=by decide):P:=h
theorem CZ (h:P:=by cases h):P:=h
theorem B8 (h:P:=by simp[oo]):P:=h
theorem In (h:P:=by simp[hn]):P:=h
theorem Gd (h:P:=by simp[es]):P:=h
theorem Br (h:P:=by exact AT):P:=h
theorem A7 (h:P:=by kernel_rfl):P:=h
theorem BL (h:P:=by simp;omega):P:=h
theorem Fp (h:P:=by rw[hn];rfl):P:=h
theorem CE (h:P:=by simpa using h):P:=h
theorem NT (h:P:=by simpa using he):P:=h
theorem QH (h:P:=by simpa using hq):P:=h
theorem GW (h:P:=by simpa using h2):P:=h
theorem IV (h:P:=by simpa using h1):P:=h
theorem Pg (h:P:=by simp only[VR]):P:=h
theorem Mn (h:P:=by simpa using hj):P:=h
theorem ND (h:P:=by simpa using hi):P:=h
theorem Mx (h:P:=by simpa using hl):P:=h
theorem Mt (h:P:=by rw[HM.out,h2]):P:=h
theorem QN (h:P:=by simp only[BM]):P:=h
theorem Pn (h:P:=by rw[HKN.out];rfl):P:=h
theorem Bd (h:P:=by simp[Op.operands]):P:=h
theorem Tv (h:P:=by unfold maxLen;simp):P:=h
theorem Sv (h:P:=by rw[HRG.out];omega):P:=h
theorem Jh (h:P:=by rw[hch.length];rfl):P:=h
theorem As (h:P:=by intro w';exact LT):P:=h
theorem CJ (h:P:=by unfold maxLen;omega):P:=h
theorem Yw (h:P:=by simp[Bk.plain,hr]):P:=h
theorem Ri (h:P:=by have:=HY.out;omega):P:=h
theorem Sb (h:P:=by have:=HZ.out;omega):P:=h
theorem EU (h:P:=by have:=HN.out;omega):P:=h
theorem Yn (h:P:=by rw[N4];omega):P:=h
theorem Kd (h:P:=by have:=ad.out;omega):P:=h
theorem ZC (h:P:=by have:=HL.out;omega):P:=h
theorem Nj (h:P:=by simp[Ca,FP,h]):P:=h
theorem SE (h:P:=by rw[bne_iff_ne];omega):P:=h
theorem Z9 (h:P:=by simp[Op.operands,hy]):P:=h
theorem Em (h:P:=by rw[GA];omega):P:=h
theorem Yc (h:P:=by rw[<-HRES.out];simp[]):P:=h
theorem BC (h:P:=by rintro w' rfl;exact LT):P:=h
theorem Rc (h:P:=by rw[HY.out];exact HQ.out):P:=h
theorem gn (h:P:=by rw[av.out];exact HAC.out):P:=h
theorem V6 (h:P:=by rw[Bool.eq_iff_iff];simp):P:=h
theorem am (h:P:=by rw[HR.out,bf.out HCF.out]):P:=h
theorem Fa (h:P:=by rw[e,ByteArray.toList_eq]):P:=h
theorem Yr (h:P:=by rw[<-Array.toList_inj,ad]):P:=h
theorem ZB (h:P:=by rw[List.length_drop];omega):P:=h
theorem Nn (h:P:=by rw[List.length_take];omega):P:=h
theorem jw (h:P:=by rw[hF.depth] at hd;cases hd):P:=h
theorem jx (h:P:=by rw[Wt s k lg HO.out]):P:=h
theorem ju (h:P:=by have:=H5.out;simpa using this):P:=h
theorem Ys (h:P:=by rw[(BA h1).done.2];simp):P:=h
theorem jM (h:P:=by rw[j.size];have:=hf.lt;omega):P:=h
theorem PL (h:P:=by rw[hq];exact beq_self_eq_true _):P:=h
theorem SQ (h:P:=by rw[Bool.eq_iff_iff];simp;omega):P:=h
theorem d9 (h:P:=by rw[List.length_set];exact HY.out):P:=h
theorem jO (h:P:=by have:=aa.out;unfold maxLen;omega):P:=h
theorem cM (h:P:=by unfold maxLen;have:=ag.out;omega):P:=h
theorem eA (h:P:=by unfold maxLen;have:=ai.out;omega):P:=h
theorem Vn (h:P:=by rw[Array.getElem?_toList];exact ho):P:=h
theorem gX (h:P:=by rw[<-HNM.out,<-HR1.out];exact hof2):P:=h
theorem mY (h:P:=by simp[results,Tryz.results27,go_sem]):P:=h
theorem i7 (h:P:=by simp[results,Tryz.results49,go_sem]):P:=h
theorem gt (h:P:=by rw[List.length_set,av.out];exact hac2):P:=h
theorem d8 (h:P:=by rw[(A0:s[k].toNat=34)];rfl):P:=h
theorem dI (h:P:=by rw[(Gx hch).1];exact Cu):P:=h
theorem LE (h:P:=by simp[results,Tryz.results50,go_sem,es3]):P:=h
theorem OP (h:P:=by simp[results,Tryz.results120,go_sem,es]):P:=h
theorem VP (h:P:=by rw[List.length_map,List.length_take];omega):P:=h
theorem Fu (h:P:=by intro u hu;rw[List.mem_singleton.1 hu];rfl):P:=h
theorem eH (h:P:=by rw[HZ.out,List.take_of_length_le A0]):P:=h
theorem JA (h:P:=by rintro w' ⟨L',hm⟩;have es:=hm.e7;exact LT):P:=h
theorem dB (h:P:=by rw[<-HZ.out,List.take_of_length_le A0]):P:=h
theorem iS (h:P:=by rw[List.cons_append,List.cons_append];exact m1):P:=h
theorem JZ (h:P:=by intro w' hm;have a1:=HC.out.cell hm;exact LT):P:=h
theorem S6 (h:P:=by simp[results,Tryz.results25,go_sem,es];try rfl):P:=h
theorem Yo (h:P:=by rintro w' ⟨H9,L9,m9⟩;have es:=m9.e0;exact LT):P:=h
theorem em (h:P:=by rw[HTK.out,List.all_append,HA.out];simp[ba.out]):P:=h
theorem ge (h:P:=by rw[HTK.out,List.map_append,<-HZ.out,<-ax.out];rfl):P:=h
theorem Nv (h:P:=by first|(simp only[h4,h3];simp;done)|(simp;done)):P:=h
theorem P8 (h:P:=by first|rfl|(simp[DB];done)|(simp[DB];omega)):P:=h
theorem co (h:P:=by rw[HTK.out,List.foldl_append,<-aq.out];exact ag.out.symm):P:=h
theorem Z2 (h:P:=by unfold B6;simp only[Bu.go0,OO.out,X0.out];try simp):P:=h
theorem mg (h:P:=by first|(rw[List.drop_take];exact hu)|(exfalso;simp at hu)):P:=h
theorem fV (h:P:=by rw[List.take_succ_eq_append_getElem lg,List.map_append];rfl):P:=h
theorem ld (h:P:=by unfold B6;simp only[OO.out];simp[List.dropLast_eq_take]):P:=h
theorem nK (h:P:=by unfold C3;rw[KF k lg (t_ HQ.out) HA.out]):P:=h
theorem lZ (h:P:=by unfold Aw;rw[KF k lg (t_ HQ.out) HA.out]):P:=h
theorem Sc (h:P:=by rintro w' ⟨L',hm⟩;have es:=hm.e18;have ns:=hm.n10;exact LT):P:=h
theorem FV (h:P:=by intro w' hm;have es:=hm.e5;have a1:=HC.out.cell hm;exact LT):P:=h
theorem lH (h:P:=by rw[<-HRES.out];unfold DL;rw[B4 _ x.k k lg hcf];rfl):P:=h
theorem bY (h:P:=by have:=(List.getElem?_eq_some_iff.1 hj).1;rwa [Cx] at this):P:=h
theorem SY (h:P:=by first|rfl|(simp[DB,F6];done)|(simp[DB,F6];omega)):P:=h
theorem WM (h:P:=by repeat (first|refine Jp.set (by simp) ?_|exact⟨[_,_],Z,m5⟩)):P:=h
theorem dQ (h:P:=by simp only[Op.operands,List.mem_toArray];exact List.mem_map_of_mem hp):P:=h
theorem rM (h:P:=by simp only[List.length_append,List.length_take,List.length_drop];omega):P:=h
theorem nS (h:P:=by have:=HA.out;rw[List.take_of_length_le A0] at this;exact this):P:=h
theorem PX (h:P:=by rw[f_ (show ¬(⟨vk,vn,vs⟩:Bk)=⟨0,0,⟨#[]⟩⟩ from hv)]):P:=h
theorem Vh (h:P:=by rw[<-HRES.out,gE lg (by rw[HW.out];exact HB.out),Bool.false_and]):P:=h
theorem Yl (h:P:=by unfold B6;simp only[Bu.go0,Bu.go1,OO.out,X0.out,X1.out];try simp):P:=h
theorem Uc (h:P:=by rw[f_ (show ¬(⟨vk,vn,vs⟩:Bk)=⟨0,0,⟨#[]⟩⟩ from hv)];rfl):P:=h
theorem lO (h:P:=by rw[AU (hm.loc (xb,At c (V b8 c.i.length c8)) (by simp)).1];rfl):P:=h
theorem Kk (h:P:=by rintro w' ⟨L',hm⟩;have d1:=ad.out.cell hm;have f1:=aa.out.cell hm;exact LT):P:=h
theorem ng (h:P:=by rw[show i+1=1+i from Nat.add_comm _ _,Nat.add_comm,<-List.drop_drop,hl];rfl):P:=h
theorem fU (h:P:=by have h1:=HIS.out;have h2:=HN.out;unfold PG at h1;simp only[h2] at h1;exact h1):P:=h
theorem jA (h:P:=by rw[HTK.out,List.flatMap_append,<-List.append_assoc,<-HZ.out];simp[DD,HN.out]):P:=h
theorem nj (h:P:=by rw[HTK.out,List.flatMap_append,<-List.append_assoc,<-HZ.out,<-aj.out];simp[ae.out]):P:=h
theorem rh (h:P:=by intro y hy;rw[List.mem_singleton.1 hy];exact⟨lz.go,HT.out.mono (ad.out.trans aa),ao⟩):P:=h
theorem ri (h:P:=by intro y hy;rw[List.mem_singleton.1 hy];exact⟨by unfold EH;simp only;omega,Sl,aq.out⟩):P:=h
theorem iA (h:P:=by have h1:=HMANY.out;have h2:=HN.out;unfold Nc at h1;rw[n_ A0] at h1;exact h1):P:=h
theorem Ry (h:P:=by unfold DB;rw[n_ q1,n_ q2,n_ q3];first|rfl|(rw[Bool.eq_iff_iff];simp;done)):P:=h
theorem nQ (h:P:=by rw[<-HR.out,f_ HM1.out,Bool.true_and,Bool.false_or];first|rfl|exact cS _ _):P:=h
theorem rm (h:P:=by intro y hy;rw[List.mem_singleton.1 hy];exact⟨by unfold EH;simp only;omega,bc.out,AX.nil _ _⟩):P:=h
theorem Eb (h:P:=by rintro w' ⟨cs,hm⟩;have es:=hm.e3;have f0:=F0.out.cell hm;have f2:=F2.out.cell hm;exact LT):P:=h
theorem nz (h:P:=by rw[G1.out,G2.out,G3.out,G4.out];rw[n_ EU,p_ HN.out];simp[Zva.out]):P:=h
theorem lv (h:P:=by unfold DB;rw[n_ A0,n_ A0,n_ A0];first|rfl|(rw[Bool.eq_iff_iff];simp;done)):P:=h
theorem Ah (h:P:=by classical exact List.perm_iff_count.2 (λa=>by simp only[List.count_append,List.count_cons,List.cons_append,List.nil_append,List.append_assoc];omega)):P:=h
theorem KP (h:P:=by intro w' hm;have es:=hm.e5;have a0:=D0.out.cell hm;have a1:=D1.out.cell hm;have a2:=D2.out.cell hm;have a3:=D3.out.cell hm;have a4:=D4.out.cell hm;exact LT):P:=h
theorem kH (h:P:=by first|exact List.Perm.refl _|exact Ah):P:=h
theorem WZ (h:P:=by intro w' hm;have es:=hm.e11;have a0:=P0.out.cell hm;have a1:=P1.out.cell hm;have a2:=P2.out.cell hm;have a3:=P3.out.cell hm;have a4:=P4.out.cell hm;have a5:=P5.out.cell hm;have a6:=P6.out.cell hm;have a7:=P7.out.cell hm;exact LT):P:=h
theorem ci (h:P:=by rintro w' ⟨L',hm,aa,hsub⟩;have au:=AU (hm.loc _ aa).1;have lg:=Af (hm.loc _ aa).1;simp only at au lg;obtain⟨g',af,lx,-,ad,-,-⟩:=HAC.out.at ae.out hm hsub;cases af;have aj:=lx _ _ aq.out.2;clear lx;exact LT):P:=h
theorem Zy (h:P:=by rintro w' ⟨L',hm⟩;have mu:=hm;unfold BY Bs at mu;have es:=mu.e0;have ns:=mu.n10;obtain⟨g',ad,lx,-,aa,-,-⟩:=HAC.out.at Em hm (λp hp=>by simp[hp]);cases ad;have c2:=lx _ _ ah.out.2;clear lx;exact LT):P:=h
theorem QC (h:P:=by first|exact List.Perm.refl _|exact Ah|exact(by classical exact List.perm_iff_count.2 (λa=>by simp only[List.count_append,List.count_cons,List.cons_append,List.nil_append,List.append_assoc]))):P:=h
theorem jI (h:P:=by rintro w' ⟨H9,L',hl9,hm,ad⟩;have af:=AU (hm.loc _ ad).1;have ae:=Af (hm.loc _ ad).1;simp only[BY] at af ae;have a0:=((aa.out 0 _ Z).mono hl9).cell hm;rw[Nat.add_zero] at a0;have a1:=((aa.out 1 _ Z).mono hl9).cell hm;have a2:=((aa.out 2 _ Z).mono hl9).cell hm;have a3:=((aa.out 3 _ Z).mono hl9).cell hm;have a4:=((aa.out 4 _ Z).mono hl9).cell hm;have a5:=((aa.out 5 _ Z).mono hl9).cell hm;have a6:=((aa.out 6 _ Z).mono hl9).cell hm;exact LT):P:=h
theorem O7 (h:P:=by first|(rintro w' ⟨L',hm,i1,i2,i3,i4,i5⟩;have es:=Bw (w:=w') (L:=[(t7,C #[Y I (a:Int),V ae s'.t.length ad,V ag (B7 s').length af] 250),(tb,C #[Y I (k:Int)] 3),(f.fb,Ac c ib ic f.ab f.sb f.mb),(f.nb,C #[M (O ⟨f.fb,0,X⟩)] 186)]) (λp hp=>by simp only[List.mem_cons,List.not_mem_nil,or_false] at hp;rcases hp with rfl|rfl|rfl|rfl<;>exact(hm.loc _ (by assumption)).1);simp only[BS,Ac] at es;have cf:w'.cell? ⟨f.sb,k,X⟩=O (V pb j pc):=(by rw[AU (hm.loc _ i3).1];simpa using ao.out);go_simp;done)|(rintro w' ⟨L',hm,i1,i2,i3,i4,i5⟩;have es:=Bw (w:=w') (L:=[(t7,C #[Y I (a:Int),V ae s'.t.length ad,V ag (B7 s').length af] 250),(tb,C #[Y I (k:Int)] 3),(f.fb,Ac c ib ic f.ab f.sb f.mb),(f.nb,C #[M (O ⟨f.fb,0,X⟩)] 186)]) (λp hp=>by simp only[List.mem_cons,List.not_mem_nil,or_false] at hp;rcases hp with rfl|rfl|rfl|rfl<;>exact(hm.loc _ (by assumption)).1);simp only[BS,Ac] at es;have cf:w'.cell? ⟨f.sb,k,X⟩=O (V pb j pc):=(by rw[AU (hm.loc _ i3).1];simpa using ao.out);go_simp;with_reducible rfl)):P:=h
theorem AT (h:P:=by first|(go_simp;done)|(go_simp;rfl)):P:=h
theorem LT (h:P:=by first|(go_simp;done)|(go_simp;with_reducible rfl)):P:=h
theorem BW (h:P:=by simp[intOf];omega):P:=h
theorem uc (h:P:=by
  have OO:=A5 oo;have X0:=A5 hx0;clear oo hx0;have X1:=A5 hx1;clear hx1;clear e0;go_wp2_with fail;refine EA (F:=λw'=>Code.wp _ _ _ _ w') m3 ?_;clear es m1 m2 m3 d0 d1 d2 d3 d4 d5 d6 d7;intro wr mr;refine B1 mr [VK (V (O ⟨xb+1,0,X⟩) 0 0),VK (M (O ⟨xb+1+1,6,X⟩)),VK (V (O ⟨g0,go0,X⟩) go.length c6),VK (M (O ⟨g0,go0,X⟩)),VK (Y I x0),VK (V tb eJ.length tc),VK (.agg #[Y I x0,Y I (-1),(V tb eJ.length tc)]),VK (M (O ⟨xb+1+1,6,X⟩)),VK (V (O ⟨g0,go0,X⟩) go.length c6),VK (M (O ⟨g0,go0+1,X⟩)),VK (Y I x1),VK (V tb eJ.length tc),VK (.agg #[Y I x1,Y I (-1),(V tb eJ.length tc)]),⟨[13],λzb=> V (O ⟨(zb.getD 0 Ax).b,0,X⟩) 2 2,O ([],[],λzb d=>d.bl=[(d.b,C #[Y I x0,Y I (-1),(V tb eJ.length tc),Y I x1,Y I (-1),(V tb eJ.length tc)] 167)]),G⟩] (nf 13++[B]) ?_ ?_
  .refine⟨?_,?_,?_,?_,?_,?_,?_,?_,?_,?_,?_,?_,?_,?_,trivial⟩
   ·(refine Al.vk Z λbs w hb m=>?_);have es:=m.e8;have e0:=E0.out.cell m;have e1:=E1.out.cell m;exact AT
   ·(refine Al.vk Z λbs w hb m=>?_);have es:=m.e8;have e0:=E0.out.cell m;have e1:=E1.out.cell m;exact AT
   ·(refine Al.vk Z λbs w hb m=>?_);have es:=m.e8;have e0:=E0.out.cell m;have e1:=E1.out.cell m;exact AT
   ·(refine Al.vk Z λbs w hb m=>?_);have es:=m.e8;have e0:=E0.out.cell m;have e1:=E1.out.cell m;exact AT
   ·(refine Al.vk Z λbs w hb m=>?_);have es:=m.e8;have e0:=E0.out.cell m;have e1:=E1.out.cell m;exact AT
   ·(refine Al.vk Z λbs w hb m=>?_);have es:=m.e8;have e0:=E0.out.cell m;have e1:=E1.out.cell m;exact AT
   ·(refine Al.vk Z λbs w hb m=>?_);have es:=m.e8;have e0:=E0.out.cell m;have e1:=E1.out.cell m;exact AT
   ·(refine Al.vk Z λbs w hb m=>?_);have es:=m.e8;have e0:=E0.out.cell m;have e1:=E1.out.cell m;exact AT
   ·(refine Al.vk Z λbs w hb m=>?_);have es:=m.e8;have e0:=E0.out.cell m;have e1:=E1.out.cell m;exact AT
   ·(refine Al.vk Z λbs w hb m=>?_);have es:=m.e8;have e0:=E0.out.cell m;have e1:=E1.out.cell m;exact AT
   ·(refine Al.vk Z λbs w hb m=>?_);have es:=m.e8;have e0:=E0.out.cell m;have e1:=E1.out.cell m;exact AT
   ·(refine Al.vk Z λbs w hb m=>?_);have es:=m.e8;have e0:=E0.out.cell m;have e1:=E1.out.cell m;exact AT
   ·(refine Al.vk Z λbs w hb m=>?_);have es:=m.e8;have e0:=E0.out.cell m;have e1:=E1.out.cell m;exact AT
   ·(refine Al.make _ _ Z Z Z λbs w hb m=>?_);show(x_ _ _).run _ _= .ok (.value (V (O ⟨w.heap.size,0,X⟩) 2 2)) (w.alloc (C #[Y I x0,Y I (-1),(V tb eJ.length tc),Y I x1,Y I (-1),(V tb eJ.length tc)] 167));have es:=m.e8;have e0:=E0.out.cell m;have e1:=E1.out.cell m;exact AT
  .intro bs wd hb md;replace md:=AC.like1 mr (bs 13).bl md;have ok13:(bs 13).bl=[((bs 13).b,C #[Y I x0,Y I (-1),(V tb eJ.length tc),Y I x1,Y I (-1),(V tb eJ.length tc)] 167)]:=hb 13 _ _ Z Z;rw[ok13] at md;(try simp only[List.cons_append,List.nil_append] at md);simp only[List.length_cons,List.length_nil,Nat.reduceAdd,List.toList_toArray,List.drop_succ_cons,List.drop_zero];have hnx:Hid (∀y∈([(⟨x0,(-1),eJ⟩,(V tb eJ.length tc)),(⟨x1,(-1),eJ⟩,(V tb eJ.length tc))]:List (Av×V_)),OL H y):=A5 (by intro y hy;rcases List.mem_cons.1 hy with rfl|hy<;>first|exact⟨hf0,Sl,HT.out⟩|(rw[List.mem_singleton.1 hy];exact⟨hf1,Sl,HT.out⟩));have m5:=(md.perm Ah:AC _ _ ((xb+1,C #[] 167)::((bs 13).b,C #[Y I x0,Y I (-1),(V tb eJ.length tc),Y I x1,Y I (-1),(V tb eJ.length tc)] 167)::(xb+1+1,S8 op to args n mm name go ways b5 c5 (O ⟨g0,go0,X⟩) c6 b7 c7)::(xb,At c (V (O ⟨lu,off,X⟩) c.i.length ic))::L) _);go_wp2_with (at_builtin;refine AG (w0:=w0) (H:=H) Z _ _ 164 Z 167 3 40 (.agg #[Y I 0,Y I 0,V X 0 0]) Tryz.underlying164 A7 Z AD _ 0 [] (AP.row m5 (Nat.le_refl _) AD Z Z) Z _ 2 (EX [(⟨x0,(-1),eJ⟩,(V tb eJ.length tc)),(⟨x1,(-1),eJ⟩,(V tb eJ.length tc))]) (Fr.loc (cs:=EX [(⟨x0,(-1),eJ⟩,(V tb eJ.length tc)),(⟨x1,(-1),eJ⟩,(V tb eJ.length tc))]) m5 (.tail _ (.head _))) Z Z (Es (H:=H) _ hnx.out) A0 CJ ?_);intro v' w' kF;(try simp only[Nat.zero_add,List.nil_append] at kF);obtain⟨pb,pc,rfl,-,-⟩:=kF.shape;clear m5 md;go_wp2_with fail;go_ret;exact JF.of (l:=[(⟨x0,(-1),eJ⟩,(V tb eJ.length tc)),(⟨x1,(-1),eJ⟩,(V tb eJ.length tc))]) kF.drop.drop.drop (Bl.refl _) hnx.out Yl):P:=h
theorem ud (h:P:=by
  have OO:=A5 oo;have X0:=A5 hx0;clear oo hx0;have X1:=A5 hx1;clear hx1;go_wp2_with fail;refine EA (F:=λw'=>Code.wp _ _ _ _ w') mr ?_;clear es mr;intro wq mq;refine B1 mq [VK (V X 0 0),VK (M (O ⟨p3,6,X⟩)),VK (V (O ⟨g0,go0,X⟩) go.length c6),VK (M (O ⟨g0,go0,X⟩)),VK (Y I x0),VK (V tb eJ.length tc),VK (.agg #[Y I x0,(V tb eJ.length tc),V X 0 0]),VK (M (O ⟨p3,6,X⟩)),VK (V (O ⟨g0,go0,X⟩) go.length c6),VK (M (O ⟨g0,go0+1,X⟩)),VK (Y I x1),VK (V tb eJ.length tc),VK (.agg #[Y I x1,(V tb eJ.length tc),V X 0 0]),⟨[13],λzb=> V (O ⟨(zb.getD 0 Ax).b,0,X⟩) 2 2,O ([],[],λzb d=>d.bl=[(d.b,C #[Y I x0,(V tb eJ.length tc),V X 0 0,Y I x1,(V tb eJ.length tc),V X 0 0] 250)]),G⟩] (nf 13++[B]) ?_ ?_
  .refine⟨?_,?_,?_,?_,?_,?_,?_,?_,?_,?_,?_,?_,?_,?_,trivial⟩
   ·(refine Al.vk Z λbs w hb m=>?_);have es:=m.e6;have e0:=E0.out.cell m;have e1:=E1.out.cell m;exact AT
   ·(refine Al.vk Z λbs w hb m=>?_);have es:=m.e6;have e0:=E0.out.cell m;have e1:=E1.out.cell m;exact AT
   ·(refine Al.vk Z λbs w hb m=>?_);have es:=m.e6;have e0:=E0.out.cell m;have e1:=E1.out.cell m;exact AT
   ·(refine Al.vk Z λbs w hb m=>?_);have es:=m.e6;have e0:=E0.out.cell m;have e1:=E1.out.cell m;exact AT
   ·(refine Al.vk Z λbs w hb m=>?_);have es:=m.e6;have e0:=E0.out.cell m;have e1:=E1.out.cell m;exact AT
   ·(refine Al.vk Z λbs w hb m=>?_);have es:=m.e6;have e0:=E0.out.cell m;have e1:=E1.out.cell m;exact AT
   ·(refine Al.vk Z λbs w hb m=>?_);have es:=m.e6;have e0:=E0.out.cell m;have e1:=E1.out.cell m;exact AT
   ·(refine Al.vk Z λbs w hb m=>?_);have es:=m.e6;have e0:=E0.out.cell m;have e1:=E1.out.cell m;exact AT
   ·(refine Al.vk Z λbs w hb m=>?_);have es:=m.e6;have e0:=E0.out.cell m;have e1:=E1.out.cell m;exact AT
   ·(refine Al.vk Z λbs w hb m=>?_);have es:=m.e6;have e0:=E0.out.cell m;have e1:=E1.out.cell m;exact AT
   ·(refine Al.vk Z λbs w hb m=>?_);have es:=m.e6;have e0:=E0.out.cell m;have e1:=E1.out.cell m;exact AT
   ·(refine Al.vk Z λbs w hb m=>?_);have es:=m.e6;have e0:=E0.out.cell m;have e1:=E1.out.cell m;exact AT
   ·(refine Al.vk Z λbs w hb m=>?_);have es:=m.e6;have e0:=E0.out.cell m;have e1:=E1.out.cell m;exact AT
   ·(refine Al.make _ _ Z Z Z λbs w hb m=>?_);show(x_ _ _).run _ _= .ok (.value (V (O ⟨w.heap.size,0,X⟩) 2 2)) (w.alloc (C #[Y I x0,(V tb eJ.length tc),V X 0 0,Y I x1,(V tb eJ.length tc),V X 0 0] 250));have es:=m.e6;have e0:=E0.out.cell m;have e1:=E1.out.cell m;exact AT
  .intro bs wd hb md;replace md:=AC.like1 mq (bs 13).bl md;have ok13:(bs 13).bl=[((bs 13).b,C #[Y I x0,(V tb eJ.length tc),V X 0 0,Y I x1,(V tb eJ.length tc),V X 0 0] 250)]:=hb 13 _ _ Z Z;rw[ok13] at md;(try simp only[List.cons_append,List.nil_append] at md);simp only[List.length_cons,List.length_nil,Nat.reduceAdd,List.toList_toArray,List.drop_succ_cons,List.drop_zero];have hnx:Hid (∀y∈([(⟨x0,(-1),eJ⟩,(V tb eJ.length tc),V X 0 0),(⟨x1,(-1),eJ⟩,(V tb eJ.length tc),V X 0 0)]:List (Av×V_×V_)),IC H y):=A5 (by intro y hy;simp only[List.mem_cons,List.not_mem_nil,or_false] at hy;rcases hy with rfl|rfl<;>first|exact⟨hf0,HT.out,AX.nil _ _⟩|exact⟨hf1,HT.out,AX.nil _ _⟩);go_wp2_with (at_builtin;refine AG (w0:=w0) (H:=H) Z _ _ 251 Z 250 3 56 (.agg #[Y I 0,V X 0 0,V X 0 0]) Tryz.underlying251 A7 Z AD _ 0 [] (AP.nil md) Z _ 2 (Dh [(⟨x0,(-1),eJ⟩,(V tb eJ.length tc),V X 0 0),(⟨x1,(-1),eJ⟩,(V tb eJ.length tc),V X 0 0)]) (Fr.loc (cs:=Dh [(⟨x0,(-1),eJ⟩,(V tb eJ.length tc),V X 0 0),(⟨x1,(-1),eJ⟩,(V tb eJ.length tc),V X 0 0)]) md (.head _)) Z Z (DT (H:=H) _ hnx.out) A0 CJ ?_);intro v' w' kF;(try simp only[Nat.zero_add,List.nil_append] at kF);clear md;obtain⟨pb,pc,rfl,-,-⟩:=kF.shape;go_wp2_with fail;simp only[LK];exact key _ _ ⟨Z,Z,Z,_,Z,NN.of (l:=[(⟨x0,(-1),eJ⟩,(V tb eJ.length tc),V X 0 0),(⟨x1,(-1),eJ⟩,(V tb eJ.length tc),V X 0 0)]) kF.drop.drop.drop.drop.drop (Bl.refl _) hnx.out Yl⟩):P:=h
theorem pI (h:P:=by
  generalize wr.heap.size=yb at*;generalize CM i=zs at*;(go_loopw [7] (λv7 wr=>∃j:Nat,j<=zs.length/\v7= Y I j/\Hid ((zs.take j).all (λr=>rk.getD r.toNat G)=B)/\AC w0 H2 ((yb,SB i b5 c5 b6 c6 b7 c7)::(fb,Fv (V (O ⟨c1,c2,X⟩) n cC) (V (O ⟨t1,t2,X⟩) n cT) (V (O ⟨o1,o2,X⟩) n cO) (V (O ⟨k1,k2,X⟩) n cK))::(xb,At c (V (O ⟨lu,off,X⟩) n ic))::L) wr) (λv7 _=>zs.length-(intOf v7).toNat));case atStart=>exact⟨0,Nat.zero_le _,Z,A5 Z,m8⟩
  case round=>
   clear m8;obtain⟨j,hj,rfl,HAJ,m9⟩:=hrel;have es:=m9.e13;by_cases hlj:j<zs.length
   .have hljI:(j:Int)<zs.length:=A0;obtain⟨p1,p2,rfl,dp,_⟩:=HSL.out.getI (List.getElem?_eq_getElem hlj);have hzz:=HZS.out zs[j] (List.getElem_mem hlj);have hjx:=A5 (Z:zs[j]=zs[j]);obtain⟨ra,hra⟩:∃ra:Nat,zs[j]=(ra:Int):=⟨zs[j].toNat,by omega⟩;have HRA:=A5 hra;rw[hra] at dp hzz;clear hra hjx;have hrr:ra<rg:=(by have:=HRG.out;omega);have hrI:(ra:Int)<rg:=A0;obtain⟨x,hx⟩:∃x,rk[ra]?=O x:=⟨_,List.getElem?_eq_getElem (by rw[HRK.out];exact hrr)⟩;have HX:=A5 hx;obtain⟨q1,q2,rfl,dq⟩:=HKV.out.getB hx;have dp:=dp.cell m9;have dq:=(dq.mono HLE2.out).cell m9;have dK:=(HDK.out.mono HLE2.out).cell m9;have HPX:=A5 (show rk.getD zs[j].toNat G=x by rw[HRA.out,Int.toNat_natCast,List.getD_eq_getElem?_getD,HX.out];rfl);clear hx
    cases x with
    |false=>have hb:=A5 (show Dp c (AB c) K k i=B by rw[HB2.out,B4 _ zs j hlj HPX.out];rfl);go_wp2_with fail;go_quiet (fail);go_wp2_with fail;go_ret;exact⟨H',K,HKN.out,HLE.out,CH (HGOT.out hb.out).symm,((m9.drewN _).weaken HLE2.out).drop.drop.drop⟩
    |true=>go_wp2_with fail;go_quiet (fail);go_wp2_with fail;go_roundw;(case rel=>exact⟨j+1,by omega,by go_num,A5 (by rw[Bi _ _ _ hlj,HAJ.out,HPX.out];rfl),m9.drewN _⟩);case measure=>simp[intOf];omega
   .have hge:¬(j:Int)<zs.length:=A0
    have hb:=A5 (show Dp c (AB c) K k i=G by
     have:=HAJ.out;rw[List.take_of_length_le A0] at this
     rw[HB2.out,this];rfl)
    go_wp2_with fail;go_roundw;(case rel=>exact⟨k+1,by omega,by go_num,A5 (HNXT.out hb.out),(m9.weaken HLE2.out).drop⟩);case measure=>simp[intOf];omega):P:=h
theorem qD (h:P:=by
  refine⟨?_,?_,?_,?_,?_,?_,trivial⟩
  ·(refine Al.vk Z λbs w hb m=>?_);have es:=m.e1;have a1:=A1.out.cell m;have a2:=A2.out.cell m;have a3:=A3.out.cell m;have a4:=A4.out.cell m;exact AT
  ·(refine Al.vk Z λbs w hb m=>?_);have es:=m.e1;have a1:=A1.out.cell m;have a2:=A2.out.cell m;have a3:=A3.out.cell m;have a4:=A4.out.cell m;exact AT
  ·(refine Al.vk Z λbs w hb m=>?_);have es:=m.e1;have a1:=A1.out.cell m;have a2:=A2.out.cell m;have a3:=A3.out.cell m;have a4:=A4.out.cell m;exact AT
  ·(refine Al.vk Z λbs w hb m=>?_);have es:=m.e1;have a1:=A1.out.cell m;have a2:=A2.out.cell m;have a3:=A3.out.cell m;have a4:=A4.out.cell m;exact AT
  ·(refine Al.vk Z λbs w hb m=>?_);have es:=m.e1;have a1:=A1.out.cell m;have a2:=A2.out.cell m;have a3:=A3.out.cell m;have a4:=A4.out.cell m;exact AT
  ·(refine Al.vk Z λbs w hb m=>?_);have es:=m.e1;have a1:=A1.out.cell m;have a2:=A2.out.cell m;have a3:=A3.out.cell m;have a4:=A4.out.cell m;exact AT):P:=h
theorem uY (h:P:=by rintro e w2 ⟨v,L1,rfl,hv,m2⟩;exact⟨_,Z,⟨0,0,v,L1⟩,hv,Z,m2.perm ((Ah:((fb,C #[V b1 x.k.length c1,V b2 x.c.length c2,V b3 x.r.length c3,V b4 x.d.length c4,.map (O fm),.map (O pm),.map X,.map (O sb),.map (O ob)] 227)::(L2++((xb,C #[V b1 x.k.length c1,V b2 x.c.length c2,V b3 x.r.length c3,V b4 x.d.length c4] 27)::LR))).Perm (L2++((fb,C #[V b1 x.k.length c1,V b2 x.c.length c2,V b3 x.r.length c3,V b4 x.d.length c4,.map (O fm),.map (O pm),.map X,.map (O sb),.map (O ob)] 227)::(xb,C #[V b1 x.k.length c1,V b2 x.c.length c2,V b3 x.r.length c3,V b4 x.d.length c4] 27)::LR))).append_left L1)⟩):P:=h
theorem pq (h:P:=by
  refine⟨?_,?_,?_,?_,?_,?_,?_,trivial⟩
  ·(refine Al.vk Z λbs w hb m=>?_);have es:=m.e3;exact AT
  ·(refine Al.vk Z λbs w hb m=>?_);have es:=m.e3;exact AT
  ·(refine Al.vk Z λbs w hb m=>?_);have es:=m.e3;exact AT
  ·(refine Al.vk Z λbs w hb m=>?_);have es:=m.e3;exact AT
  ·(refine Al.vk Z λbs w hb m=>?_);have es:=m.e3;exact AT
  ·(refine Al.vk Z λbs w hb m=>?_);have es:=m.e3;exact AT
  ·(refine Al.vk Z λbs w hb m=>?_);have es:=m.e3;exact AT):P:=h
theorem pg (h:P:=by
  intro bs wd hb md;replace md:=AC.like0 m6 md;(try simp only[List.cons_append,List.nil_append] at md);simp only[List.length_cons,List.length_nil,Nat.reduceAdd,List.toList_toArray,List.drop_succ_cons,List.drop_zero];clear hb;have es:=md.e16;go_wp2_with fail;intro K3 hK3;cases is
  .go_wp2_with fail;intro K4 hK4;go_wp2_with fail;go_ret;exact⟨A8 (by rw[<-HR.out];rfl),md.drop.drop⟩
  .by_cases hm1:mz= -1
   .have z1:(mz== -1)=true:=beq_iff_eq.2 hm1;have HM1:=A5 hm1;clear hm1;go_wp2_with fail;intro K4 hK4;go_wp2_with fail;go_ret;exact⟨A8 (by rw[<-HR.out,HM1.out];rfl),md.drop.drop⟩
   .have z1:(mz== -1)=false:=beq_eq_false_iff_ne.2 hm1;have HM1:=A5 hm1;clear hm1;go_wp2_with fail;intro K4 hK4;go_wp2_with fail;go_ret;exact⟨A8 nQ,md.drop.drop⟩):P:=h
theorem pj (h:P:=by have hn1:xs.length-1<=xs.length:=A0;go_wp2_with fail;rw[show xs.length-(xs.length-1)=1 by omega,hcl];simp only[Result.andThen_ok,Oper.upon_value];go_wp2_with fail;go_ret;have mf:AC w0 H ((g,C ((Dj nB k xs.length).setIfInBounds (xs.length-1) (U ByteArray.empty)) 9)::L) (W2.setCell ⟨g,xs.length-1,X⟩ (U ByteArray.empty)):=md2.set .head;have mN:(xs.eraseIdx k).length=xs.length-1:=(by rw[List.length_eraseIdx,p_ hk]);refine⟨_,[(g,C ((Dj nB k xs.length).setIfInBounds (xs.length-1) (U ByteArray.empty)) 9)],Z,?_,mf⟩;rw[<-mN];refine BT.row A0 CJ (by rw[Array.size_setIfInBounds,hds];exact lC) ?_ (λx hx=>lz x (List.mem_of_mem_eraseIdx hx));rw[mN,Array.toList_setIfInBounds,List.take_set,List.set_eq_of_length_le Nn,Vz nB k xs.length hk A0,htk,UC]):P:=h
theorem uZ (h:P:=by have HB:Hid ((T (0<=y.go/\y.go<=(c.i.length:Int)-1)&&(if y.kind=1 then T (0<=y.chan/\y.chan<=c.g-1)&&(T (0<=y.value/\y.value<=c.g-1)&&T (y.to= -1)) else if y.kind=2 then T (0<=y.chan/\y.chan<=c.g-1)&&(T (y.value=0)&&T (0<=y.to/\y.to<=c.g-1)) else T (y.kind=3)&&(T (y.chan=0)&&(T (y.value=0)&&(T (y.to= -1)&&T (k+1=l.length))))))=G):=A5 (by rw[G1.out,G2.out,G3.out,G4.out];rw[n_ EU,p_ HN.out];simp[]);go_wp2_with (go_at_call 229;refine(Ad _ _ _ _).mono ?_;rintro e w3 ⟨rfl,rfl⟩;first|rw[G1.out]|rw[G2.out]|rw[G3.out]|rw[G4.out]);go_ret;exact⟨A8 Vh,mS.drop.drop⟩):P:=h
theorem lI (h:P:=by
  refine⟨?_,?_,?_,?_,?_,?_,?_,?_,?_,trivial⟩
  ·(refine Al.vk Z λbs w hb m=>?_);exact AT
  ·(refine Al.vk Z λbs w hb m=>?_);exact AT
  ·(refine Al.vk Z λbs w hb m=>?_);exact AT
  ·(refine Al.vk Z λbs w hb m=>?_);have f1:=F1.out.cell m;exact AT
  ·(refine Al.vk Z λbs w hb m=>?_);exact AT
  ·(refine Al.vk Z λbs w hb m=>?_);exact AT
  ·(refine Al.vk Z λbs w hb m=>?_);exact AT
  ·(refine Al.vk Z λbs w hb m=>?_);have f2:=F2.out.cell m;exact AT
  ·(refine Al.vk Z λbs w hb m=>?_);exact AT):P:=h
theorem mh (h:P:=by
  obtain⟨k,hk,rfl,ly⟩:=hrel;have HA:=A5 ly;clear ly;by_cases lg:k<xs.length
  .obtain⟨lu,off,rfl,lx⟩:=HAT.out k lg;have lJ:(k:Int)<xs.length:=A0;by_cases hq:xs[k]=s
   .have HQ:=A5 hq;have hsl:(xs[k].toList==s.toList)=true:=PL;go_wp2_with fail;go_ret;exact⟨CH lZ,Z⟩
   .have HQ:=A5 hq;(have hsl:(xs[k].toList==s.toList)=false:=bF λe=>hq ((AW _ _).1 e));go_wp2_with fail;go_round;(case rel=>exact⟨k+1,by omega,by go_num,Ea lg HA.out (f_ HQ.out)⟩);case measure=>simp[intOf];omega
  .go_wp2_with fail;go_ret;exact⟨CH (by unfold Aw;rw[EQ k lg HA.out]),Z⟩):P:=h
theorem j3 (h:P:=by have HB:Hid ((T (0<=y.go/\y.go<=(c.i.length:Int)-1)&&(if y.kind=1 then T (0<=y.chan/\y.chan<=c.g-1)&&(T (0<=y.value/\y.value<=c.g-1)&&T (y.to= -1)) else if y.kind=2 then T (0<=y.chan/\y.chan<=c.g-1)&&(T (y.value=0)&&T (0<=y.to/\y.to<=c.g-1)) else T (y.kind=3)&&(T (y.chan=0)&&(T (y.value=0)&&(T (y.to= -1)&&T (k+1=l.length))))))=G):=A5 (by rw[G1.out,G2.out,G3.out,G4.out];rw[p_ HN.out];simp[]);go_wp2_with (go_at_call 229;refine(Ad _ _ _ _).mono ?_;rintro e w3 ⟨rfl,rfl⟩;first|rw[G1.out]|rw[G2.out]|rw[G3.out]|rw[G4.out]);go_ret;exact⟨A8 Vh,mS.drop.drop⟩):P:=h
theorem lK (h:P:=by simp only[List.setIfInBounds_toArray,List.set_cons_zero,List.set_cons_succ] at mT;refine hK _ _ (.inr ⟨_,_,hl9,mT,by simp⟩) ?_;clear hK K HS es;(try simp only[AO]);refine A6.one (i:=11) A7 (A6.op Z A7 λK hK=>?_);go_simp;refine hK _ _ (.inr ⟨_,_,hl9,mT,by simp⟩) ?_;clear hK K;(try simp only[AO]);refine A6.done A7 ?_ _;exact key q b1 n1 c1 b2 n2 c2 _ ⟨H9,hl9,hq1,hq2,mT⟩):P:=h
theorem uB (h:P:=by
  unfold Bs at m1;have es:=m1.e2;unfold AE.val AE.form;simp only[Nat.reduceEqDiff,if_true,if_false,reduceIte];have hvv:=hv;go_enter Tryz.func102,Tryz.ntmps102;go_wp2_with fail;refine(Bp _ HF.out.to _).mono ?_;rintro e w1 ⟨rfl,rfl⟩;cases hn:B3 ct
  .go_wp2_with fail;go_ret;exact⟨A8 In,m1.drop⟩
  by_cases hcf:cf=ByteArray.empty;rotate_left
  ·(have hl:¬cf.toList=[]:=λe=>hcf ((B5 _).1 e));have hb:(cf.toList==[])=false:=beq_eq_false_iff_ne.2 hl;go_wp2_with fail;go_ret;exact⟨A8 (by simp[hn,hcf]),m1.drop⟩
  subst hcf;go_wp2_with fail;go_ret;exact⟨A8 (by simp[hn,C0]),m1.drop⟩):P:=h
theorem uI (h:P:=by
  unfold Bs at m1;have es:=m1.e2;unfold AE.val AE.form;simp only[Nat.reduceEqDiff,if_true,if_false,reduceIte];have hvv:=hv;go_enter Tryz.func102,Tryz.ntmps102;go_wp2_with fail;refine(Bp _ HF.out.to _).mono ?_;rintro e w1 ⟨rfl,rfl⟩;cases hn:B3 ct
  .go_wp2_with fail;go_ret;exact⟨A8 In,m1.drop⟩
  by_cases hcf:cf=ByteArray.empty;rotate_left
  ·(have hl:¬cf.toList=[]:=λe=>hcf ((B5 _).1 e));have hb:(cf.toList==[])=false:=beq_eq_false_iff_ne.2 hl;go_wp2_with fail;go_ret;exact⟨A8 (by simp[hn,hcf]),m1.drop⟩
  subst hcf;go_wp2_with fail;go_ret;exact⟨A8 (by simp[hn,hdv]),m1.drop⟩):P:=h
theorem nX (h:P:=by
  have hs:T ((⟨xk,xn,xs⟩:Bk)=⟨yk,yn,ys⟩)=((T (xk=yk)&&T (xn=yn))&&T (xs=ys)):=(by rw[Bool.eq_iff_iff];simp[Bk.ext_iff'];exact and_assoc.symm);rw[hs];clear hs;by_cases h1:xk=yk
  .subst h1;by_cases h2:xn=yn
   .subst h2;by_cases h3:xs=ys
    .subst h3;go_simp
    ·(have h3':(xs.toList==ys.toList)=false:=bF λe=>h3 ((AW _ _).1 e));simp only[decide_eq_true_eq,h3,decide_false,Bool.and_false,decide_true,Bool.and_self];go_simp
   .have h2':(xn==yn)=false:=GW;go_simp
  .have h1':((xk:Int)==(yk:Int))=false:=(by simpa using (by omega:¬(xk:Int)=yk));go_simp):P:=h
theorem Yf (h:P:=by intro bs wd hb md;replace md:=AC.like0 mr md;(try simp only[List.cons_append,List.nil_append] at md);simp only[List.length_cons,List.length_nil,Nat.reduceAdd,List.toList_toArray,List.drop_succ_cons,List.drop_zero];clear hb;go_wp2_with fail;(try simp only[LK]);exact HKEY.out _ _ ⟨Z,Z,Z,Z,Z,Z,congrArg (λz=>O (Y I z)) iA,congrArg (λz=>O (N z)) fU,md⟩):P:=h
theorem uV (h:P:=by have es:=m3.e4;go_enter Tryz.func198,Tryz.ntmps198;go_wp2_with (go_at_call 137;refine(AH _ _ _ _).mono ?_;rintro e w' ⟨rfl,rfl⟩);refine(Cl x _ _ _ _ i.name m3 HX.out).mono ?_;rintro e w' ⟨rfl,m4⟩;clear es;have es:=m4.e4;rw[he];have lx:=HC.out.cell m4;go_wp2_with (go_at_call 137;refine(AH _ _ _ _).mono ?_;rintro e w' ⟨rfl,rfl⟩);all_goals (go_ret;exact⟨A8 P8,m4.drop.drop.drop⟩)):P:=h
theorem uC (h:P:=by have lJ:(k:Int)<xs.length:=A0;obtain⟨lu,off,rfl,lx,lC⟩:=HS.out.getStr lg;have lx:=lx.cell m1;have htk:xs.take (k+1)=xs.take k++[xs[k]]:=List.take_succ_eq_append_getElem lg;have HTK:=A5 htk;clear htk;obtain⟨es1,cl1,W1,hup,hl1,m2⟩:=AC.update (P:=Tryz.prog) (t:=229) IZ Tryz.underlying229 m1 HL.out xs[k] (.bool B);have HL1:=A5 hl1;clear hl1;go_wp2_with fail;go_roundw;(case rel=>exact⟨k+1,es1,cl1,by omega,by go_num,A5 (by rw[HTK.out,NM];exact HL1.out),m2⟩);case measure=>simp[intOf];omega):P:=h
theorem j8 (h:P:=by have m3:=((M0.set (i:=0) (v:= V vb1 x.k.length vc1) (.tail .head)).set (i:=1) (v:= V vb2 x.r.length vc2) (.tail .head));simp only[List.setIfInBounds_toArray,List.set_cons_zero,List.set_cons_succ] at m3;have es3:=m3.e0;refine b_ (v:= .tuple #[.agg #[V vb1 x.k.length vc1,V vb2 x.r.length vc2],Y I 6]) LE Z ?_;rw[HRD.out];exact⟨H,_,_,Z,Bl.refl H,H1.out,H2.out,AC.dropL L3 (AC.dropL (L1++(L0++L2)) (AC.dropL Lc m3.drop.drop.drop.drop))⟩):P:=h
theorem j5 (h:P:=by have OO:=A5 oo;clear oo;have m5:=(m3.perm Ah:AC _ _ ((xb+1,C #[] 167)::(xb+1+1,S8 op to args n mm name go ways b5 c5 b6 c6 b7 c7)::(xb,At c (V (O ⟨lu,off,X⟩) c.i.length ic))::L) _);go_wp2_with fail;go_ret;exact JF.of (l:=[]) (AP.row m5 (Nat.le_refl _) AD Z Z).drop.drop (Bl.refl _) (λ_ h=>by cases h) (by unfold B6;simp only[OO.out];try simp)):P:=h
theorem uJ (h:P:=by have m3:=((M0.set (i:=0) (v:= V vb1 x.k.length vc1) (.tail .head)).set (i:=1) (v:= V vb2 x.r.length vc2) (.tail .head));simp only[List.setIfInBounds_toArray,List.set_cons_zero,List.set_cons_succ] at m3;have es3:=m3.e0;refine b_ (v:= .tuple #[.agg #[V vb1 x.k.length vc1,V vb2 x.r.length vc2],Y I 6]) LE Z ?_;rw[HRD.out];exact⟨H,_,_,Z,Bl.refl H,H1.out,H2.out,AC.dropL L3 (AC.dropL Lf (AC.dropL Lc m3.drop.drop.drop.drop))⟩):P:=h
theorem uW (h:P:=by have m3:=((M0.set (i:=0) (v:= V vb1 x.k.length vc1) (.tail .head)).set (i:=1) (v:= V vb2 x.r.length vc2) (.tail .head));simp only[List.setIfInBounds_toArray,List.set_cons_zero,List.set_cons_succ] at m3;have es3:=m3.e0;refine b_ (v:= .tuple #[.agg #[V vb1 x.k.length vc1,V vb2 x.r.length vc2],Y I 7]) LE Z ?_;rw[HRD.out];exact⟨H,_,_,Z,Bl.refl H,H1.out,H2.out,AC.dropL L3 (AC.dropL Lf (AC.dropL Lc m3.drop.drop.drop.drop))⟩):P:=h
theorem uH (h:P:=by have es:=m3.e4;go_enter Tryz.func198,Tryz.ntmps198;go_wp2_with (go_at_call 137;refine(AH _ _ _ _).mono ?_;rintro e w' ⟨rfl,rfl⟩);refine(Cd x _ _ _ _ i.name m3 HX.out).mono ?_;rintro e w' ⟨rfl,m4⟩;clear es;have es:=m4.e4;go_wp2_with (go_at_call 137;refine(AH _ _ _ _).mono ?_;rintro e w' ⟨rfl,rfl⟩);all_goals (go_ret;exact⟨A8 P8,m4.drop.drop.drop⟩)):P:=h
theorem lW (h:P:=by(refine BM.of (by rw[Array.length_toList,size_madeCells,Cx,hn,lC]) λj x hj=>?_);have hjl:j<c*(AL z).length:=bY;rw[Hw _ A0 c j hjl] at hj;obtain⟨y,e1,e2⟩:=(hzc R').get hj;refine⟨y,?_,e2⟩;have hjl':j<c*i.size:=(by rw[lC,<-hn];exact hjl);unfold madeCells;simp only[Array.getElem?_toList,Array.getElem?_map,Array.getElem?_range,hjl',Option.map_some,hvl];rw[Array.getElem?_toList] at e1;simp[hjl',getElem!_def,e1]):P:=h
theorem uO (h:P:=by have es:=m3.e4;go_enter Tryz.func198,Tryz.ntmps198;go_wp2_with (go_at_call 137;refine(AH _ _ _ _).mono ?_;rintro e w' ⟨rfl,rfl⟩);refine(KD i.name m3).mono ?_;rintro e w' ⟨rfl,m4⟩;clear es;have es:=m4.e4;rw[hp];go_wp2_with (go_at_call 137;refine(AH _ _ _ _).mono ?_;rintro e w' ⟨rfl,rfl⟩);all_goals (go_ret;exact⟨A8 P8,m4.drop.drop.drop⟩)):P:=h
theorem uS (h:P:=by have es:=m3.e4;go_enter Tryz.func198,Tryz.ntmps198;go_wp2_with (go_at_call 137;refine(AH _ _ _ _).mono ?_;rintro e w' ⟨rfl,rfl⟩);refine(Ge _ x.r i.name (HX.out.r.strsAt m3)).mono ?_;rintro e w' ⟨rfl,rfl⟩;go_wp2_with (go_at_call 137;refine(AH _ _ _ _).mono ?_;rintro e w' ⟨rfl,rfl⟩);all_goals (go_ret;exact⟨A8 P8,(((m.alloc _).alloc _).alloc _).drop.drop.drop⟩)):P:=h
theorem uD (h:P:=by have es:=m3.e4;go_enter Tryz.func198,Tryz.ntmps198;go_wp2_with (go_at_call 137;refine(AH _ _ _ _).mono ?_;rintro e w' ⟨rfl,rfl⟩);refine(Gv i.name hnm _).mono ?_;rintro e w' ⟨rfl,rfl⟩;rw[h];go_wp2_with (go_at_call 137;refine(AH _ _ _ _).mono ?_;rintro e w' ⟨rfl,rfl⟩);all_goals (go_ret;exact⟨A8 P8,(((m.alloc _).alloc _).alloc _).drop.drop.drop⟩)):P:=h
theorem uL (h:P:=by have es:=m3.e4;go_enter Tryz.func198,Tryz.ntmps198;go_wp2_with (go_at_call 137;refine(AH _ _ _ _).mono ?_;rintro e w' ⟨rfl,rfl⟩);refine(Bp i.name hnm _).mono ?_;rintro e w' ⟨rfl,rfl⟩;rw[h];go_wp2_with (go_at_call 137;refine(AH _ _ _ _).mono ?_;rintro e w' ⟨rfl,rfl⟩);all_goals (go_ret;exact⟨A8 P8,(((m.alloc _).alloc _).alloc _).drop.drop.drop⟩)):P:=h
theorem mw (h:P:=by(refine BM.of (by simp[Cx,hn,lC]) λj x hj=>?_);have hjl:j<len*(AL z).length:=bY;rw[Hw _ A0 len j hjl] at hj;obtain⟨c,e1,e2⟩:=hzc.get hj;refine⟨c,?_,e2⟩;have hjl':j<len*i.size:=(by rw[lC,<-hn];exact hjl);simp only[Array.getElem?_toList,Array.getElem?_map,Array.getElem?_range,hjl',Option.map_some,hvl];rw[Array.getElem?_toList] at e1;simp[hjl',getElem!_def,e1]):P:=h
theorem uX (h:P:=by exact(m10.perm Ah:AC _ _ ((nb,C #[Y I ((k:Int)+1),(V tb eJ.length tc),V X 0 0] 250)::(p3,S8 op to args n mm name go ways b5 c5 b6 c6 (O ⟨w7,o7,X⟩) c7)::(p2,C #[(V tb eJ.length tc)] 79)::(p1,C #[Y I (k:Int)] 3)::(L5++LB)) _)):P:=h
theorem uM (h:P:=by(refine Al.call Z Z Z λbs w L2 hb m=>?_);refine BU.ofCall (f:=230) (args:=#[V (O ⟨lu,off,X⟩) c.i.length c8,.func (.func 231) #[] #[M (O ⟨xb,0,X⟩),M (O ⟨xb+1,0,X⟩)]]) Br ?_;refine(UD x c (O ⟨lu,off,X⟩) c8 fb xb (xb+1) hreg hins _ c.i m HI.out (by simp) (by simp) HF.out).mono ?_;rintro e w2 ⟨rfl,m2⟩;rw[HAB.out];exact⟨_,Z,Z,m2⟩):P:=h
theorem tw (h:P:=by
  by_cases h0:len*i.size=0
  .have hl0:len=0:=(by rcases Nat.mul_eq_zero.1 h0 with h|h;exact h;omega);subst hl0;have:Instr.fill (λj=>O (j*i.size,i.size)) #[] us.toList=O cells:=(by simpa[show Array.range 0=#[] from Z] using h3);simp[Instr.buildSlice,u_ hd,sizeOf,typeInfo,hi,show Array.range 0=#[] from Z,this,newRow]
  .exact run_buildSlice (P:=P) w t e len us cells i v hd hi hv (by rw[lC];omega) h0 h3):P:=h
theorem nJ (h:P:=by
  by_cases h0:n=0/\s=ByteArray.empty
  .obtain⟨rfl,rfl⟩:=h0;go_wp2_with fail;go_ret;exact⟨A8 (by simp[Bk.plain]),m1.drop⟩
  .have hp:Bk.plain ⟨0,n,s⟩=false:=(by simp only[Bk.plain];simp;intro h1 h2;exact h0 ⟨h1,h2⟩);rw[hp];go_wp2_with fail
   all_goals first
    |(go_ret;exact⟨Z,m1.drop⟩)
    |(exfalso;rename_i h1 h2;exact h0 ⟨h1,(B5 s).1 h2⟩)
    |(rename_i h1 h2;subst h1;go_ret;exact⟨Z,m1.drop⟩)):P:=h
theorem nZ (h:P:=by
  by_cases hct:ct=ByteArray.empty;rotate_left
  ·(have hl:¬ct.toList=[]:=λe=>hct ((B5 _).1 e));have hb:(ct.toList==[])=false:=beq_eq_false_iff_ne.2 hl;go_wp2_with fail;go_ret;exact⟨A8 (by simp[hn,hct]),m1.drop⟩
  subst hct;go_wp2_with fail;refine(Nx ⟨0,0,ByteArray.empty⟩ HF.out.v m1).mono ?_;rintro e w4 ⟨rfl,m6⟩;go_wp2_with fail;go_ret;exact⟨A8 In,m6.drop⟩):P:=h
theorem li (h:P:=by
  by_cases hct:ct=ByteArray.empty;rotate_left
  ·(have hl:¬ct.toList=[]:=λe=>hct ((B5 _).1 e));have hb:(ct.toList==[])=false:=beq_eq_false_iff_ne.2 hl;go_wp2_with fail;go_ret;exact⟨A8 (by simp[hn,hct]),m1.drop⟩
  subst hct;go_wp2_with fail;refine(Nx ⟨vk,vn,vs⟩ HF.out.v m1).mono ?_;rintro e w4 ⟨rfl,m6⟩;go_wp2_with fail;go_ret;exact⟨A8 In,m6.drop⟩):P:=h
theorem uA (h:P:=by have m1:=m.alloc (C #[N G,N B,N G,.func (.func 165) #[] #[]] 181);have es:=m1.e2;go_enter Tryz.func120,Tryz.ntmps120;go_wp2_with fail;refine b_ (v:= .tuple #[.agg #[N G,N B,N G,.func (.func 165) #[] #[]],N B]) OP Z ?_;exact⟨Z,m1.drop⟩):P:=h
theorem Kn (h:P:=by(refine Al.vk Z λbs w hb m=>?_);have es:=m.e16;have ef:=Bw (w:=w) (L:=[(fb,Bc vc vk vr vd (.map (O q1)) (.map (O q2)) (.map (O q3)) v4 (.map (O q5)))]) (λp hp=>by rw[List.mem_singleton.1 hp];exact m.imm _ _ HFB.out);simp only[BS,Bc] at ef;exact AT):P:=h
theorem SN (h:P:=by intro bs;simp only[DK,VK,SK,List.length_cons,List.length_nil,Nat.reduceAdd,List.getElem?_toArray,List.getElem?_cons_succ,List.getElem?_cons_zero,Option.bind_some,Option.map_some,Option.getD_some,Du.value,List.map_cons,List.map_nil,Act.put,List.setIfInBounds_toArray,List.set_cons_succ,List.set_cons_zero,List.getD_cons_zero,List.getD_cons_succ];exact Z):P:=h
theorem lw (h:P:=by
  unfold DG
  cases h:xs.findIdx? p with
  |none=>refine .inl ⟨Z,?_⟩;rw[List.find?_eq_none];intro y hy;have:=List.findIdx?_eq_none_iff.1 h y hy;rw[this];simp
  |some k=>obtain⟨hk,h1,h2⟩:=List.findIdx?_eq_some_iff_getElem.1 h;refine .inr ⟨k,hk,Z,?_⟩;rw[List.find?_eq_some_iff_getElem];exact⟨h1,k,hk,Z,λj hj=>by have:=h2 j hj;simpa using this⟩):P:=h
theorem nh (h:P:=by(refine Al.vk Z λbs w hb m=>?_);have ef:=Bw (w:=w) (L:=[(fb,Bc (V b1 x.k.length c1) (V b2 x.c.length c2) (V b3 x.r.length c3) (V b4 x.d.length c4) v1 v2 v3 v4 v5)]) (λp hp=>by rw[List.mem_singleton.1 hp];exact m.imm _ _ HFB.out);simp only[BS,Bc] at ef;exact AT):P:=h
theorem o8 (h:P:=by(refine run_firstCells_some (P:=P) w.drew i.size m ⟨(R b).1,o',X⟩ m c' ovs (by rw[l4.length,l1,lC]) λj v hj=>?_);have hjl:=(List.getElem?_eq_some_iff.1 hj).1;rw[l4.length,l1] at hjl;have hc0:c'≠0:=(by intro e0;have:m=0:=A0;subst this;simp at hjl);have:=l5 j v hj;rw[Addr.add_eq,ho.resolve_left hc0];exact this):P:=h
theorem nW (h:P:=by intro bs wd hb md;replace md:=AC.like0 mr md;(try simp only[List.cons_append,List.nil_append] at md);simp only[List.length_cons,List.length_nil,Nat.reduceAdd,List.toList_toArray,List.drop_succ_cons,List.drop_zero];clear hb mr;go_wp2_with fail;go_roundw;(case rel=>exact⟨k+1,by omega,by go_num,md⟩);case measure=>simp[intOf];omega):P:=h
theorem uG (h:P:=by have es:=m3.e4;go_enter Tryz.func198,Tryz.ntmps198;go_wp2_with (go_at_call 137;refine(AH _ _ _ _).mono ?_;rintro e w' ⟨rfl,rfl⟩);all_goals (go_ret;exact⟨A8 P8,(((m.alloc _).alloc _).alloc _).drop.drop.drop⟩)):P:=h
theorem Z7 (h:P:=by intro bs wd hb md;replace md:=AC.like0 mr md;(try simp only[List.cons_append,List.nil_append] at md);simp only[List.length_cons,List.length_nil,Nat.reduceAdd,List.toList_toArray,List.drop_succ_cons,List.drop_zero];clear hb;go_wp2_with fail;go_roundw;(case rel=>exact⟨k+1,by omega,by go_num,md⟩);case measure=>simp[intOf];omega):P:=h
theorem jc (h:P:=by refine(M2 m1).mono ?_;rintro e w1 ⟨rfl,m2⟩;have m3:=m2.alloc (C #[N G,N G,N G,.func (.func 166) #[] #[]] 181);have es:=m3.e2;have ns:=m3.n9;go_wp2_with fail;go_ret;exact⟨A8 (by simp),m3.drop.drop⟩):P:=h
theorem uP (h:P:=by refine(Lw m1).mono ?_;rintro e w1 ⟨rfl,m2⟩;have m3:=m2.alloc (C #[N B,N G,N G,.func (.func 166) #[] #[]] 181);have es:=m3.e2;have ns:=m3.n9;go_wp2_with fail;go_ret;exact⟨A8 (by simp),m3.drop.drop⟩):P:=h
theorem uF (h:P:=by refine(ML m1).mono ?_;rintro e w1 ⟨rfl,m2⟩;have m3:=m2.alloc (C #[N G,N B,N G,.func (.func 165) #[] #[]] 181);have es:=m3.e2;have ns:=m3.n9;go_wp2_with fail;go_ret;exact⟨A8 (by simp),m3.drop.drop⟩):P:=h
theorem uR (h:P:=by refine(Mc m1).mono ?_;rintro e w1 ⟨rfl,m2⟩;have m3:=m2.alloc (C #[N G,N G,N B,.func (.func 163) #[] #[]] 181);have es:=m3.e2;have ns:=m3.n9;go_wp2_with fail;go_ret;exact⟨A8 (by simp),m3.drop.drop⟩):P:=h
theorem uN (h:P:=by refine(MP m1).mono ?_;rintro e w1 ⟨rfl,m2⟩;have m3:=m2.alloc (C #[N G,N B,N G,.func (.func 165) #[] #[]] 181);have es:=m3.e2;have ns:=m3.n9;go_wp2_with fail;go_ret;exact⟨A8 (by simp),m3.drop.drop⟩):P:=h
theorem lT (h:P:=by exact HKEY.out _ _ ⟨Z,Z,Z,Z,Z,Z,congrArg (λz=>O (Y I z)) iA,congrArg (λz=>O (N z)) fU,mr⟩):P:=h
theorem ne (h:P:=by obtain⟨j,hj,rfl⟩:=List.mem_iff_getElem.1 hx;have hjl:j<c*(AL z).length:=(by rwa [Cx] at hj);have:=Hw (AL z) A0 c j hjl;rw[List.getElem?_eq_getElem hj,List.getElem?_eq_getElem (Nat.mod_lt _ A0)] at this;rw[Option.some.inj this];exact Ci lY _ (List.getElem_mem _)):P:=h
theorem nM (h:P:=by
  by_cases hct:ct=ByteArray.empty;rotate_left
  ·(have hl:¬ct.toList=[]:=λe=>hct ((B5 _).1 e));have hb:(ct.toList==[])=false:=beq_eq_false_iff_ne.2 hl;go_wp2_with fail;go_ret;exact⟨A8 (by simp[hct]),m1.drop⟩
  subst hct;go_wp2_with fail;go_ret;exact⟨A8 (by simp[C0]),m1.drop⟩):P:=h
theorem lX (h:P:=by
  by_cases hct:ct=ByteArray.empty;rotate_left
  ·(have hl:¬ct.toList=[]:=λe=>hct ((B5 _).1 e));have hb:(ct.toList==[])=false:=beq_eq_false_iff_ne.2 hl;go_wp2_with fail;go_ret;exact⟨A8 (by simp[hct]),m1.drop⟩
  subst hct;go_wp2_with fail;go_ret;exact⟨A8 (by simp[hdv]),m1.drop⟩):P:=h
theorem nq (h:P:=by(refine Al.wk (λbs=>by first|rfl|(go_simp;done)) λbs w hb m=>?_);have ef:=Bw (w:=w) (L:=[(fb,Bc vc vk vr vd v1 v2 v3 (.map (O q4)) v5)]) (λp hp=>by rw[List.mem_singleton.1 hp];exact m.imm _ _ HFB.out);simp only[BS,Bc] at ef;exact AT):P:=h
theorem mL (h:P:=by have hl0:=A5 (show JD k K3 y r=G by rw[HLO.out];rfl);go_wp2_with fail;go_quiet (fail);go_wp2_with fail;go_roundw;(case rel=>exact⟨r+1,K3,ag3,by omega,by go_num,Z,A5 (by rw[HSR.out];unfold GN;rw[hl0.out];rfl),HTK3,HKF3,m5.drewN _⟩);case measure=>simp[intOf];omega):P:=h
theorem uT (h:P:=by rintro e w' ⟨rfl,rfl⟩;rw[h];go_wp2_with (go_at_call 137;refine(AH _ _ _ _).mono ?_;rintro e w' ⟨rfl,rfl⟩);all_goals (go_ret;exact⟨A8 Ry,(((m.alloc _).alloc _).alloc _).drop.drop.drop⟩)):P:=h
theorem uE (h:P:=by have Zto:=A5 zto;clear zto;go_wp2_with (go_at_call 229;refine(Ad _ _ _ _).mono ?_;rintro e w3 ⟨rfl,rfl⟩;first|rw[G1.out]|rw[G2.out]|rw[G3.out]|rw[G4.out]);go_ret;exact⟨A8 Vh,mS.drop.drop⟩):P:=h
theorem so (h:P:=by have Zva:=A5 zva;clear zva;go_wp2_with (go_at_call 229;refine(Ad _ _ _ _).mono ?_;rintro e w3 ⟨rfl,rfl⟩;first|rw[G1.out]|rw[G2.out]|rw[G3.out]|rw[G4.out]);go_ret;exact⟨A8 Vh,mS.drop.drop⟩):P:=h
theorem u9 (h:P:=by(refine Al.make _ _ Z Z Z λbs w hb m=>?_);show(x_ _ _).run _ _= .ok (.value (V (O ⟨w.heap.size,0,X⟩) n n)) (w.alloc (C (List.replicate n (N G)).toArray 4));exact FI (bytes:=1) Z Z Tryz.underlying158 A7 Z A0 A0):P:=h
theorem Z0 (h:P:=by(refine Al.vk Z λbs w hb m=>?_);have ef:=Bw (w:=w) (L:=[(fb,Ac c (O ⟨lu,off,X⟩) ic ab sb mb)]) (λp hp=>by rw[List.mem_singleton.1 hp];exact(m.loc _ (.tail _ (.tail _ HF.out.f))).1);simp only[BS,Ac] at ef;exact AT):P:=h
theorem ll (h:P:=by
  clear hq;go_wp2_with fail;go_quiet (fail);go_wp2_with fail;go_roundw
  case rel=>
   refine⟨k+1,by omega,by go_num,A5 (λj q1 q2 hj=>?_),mk.drewN _⟩;rcases Nat.lt_succ_iff_lt_or_eq.1 hj with hj|rfl
   .exact ly.out j q1 q2 hj
   .exact HQ.out
  case measure=>simp[intOf];omega):P:=h
theorem Z6 (h:P:=by(refine Al.vk Z λbs w hb m=>?_);have ef:=Bw (w:=w) (L:=[(fb,Ac c (O ⟨lu,off,X⟩) ic ab sb mb)]) (λp hp=>by rw[List.mem_singleton.1 hp];exact(m.loc _ (.tail _ hF)).1);simp only[BS,Ac] at ef;exact AT):P:=h
theorem uQ (h:P:=by rintro e w' ⟨rfl,rfl⟩;rw[h];go_wp2_with (go_at_call 137;refine(AH _ _ _ _).mono ?_;rintro e w' ⟨rfl,rfl⟩);all_goals (go_ret;exact⟨A8 SY,(((m.alloc _).alloc _).alloc _).drop.drop.drop⟩)):P:=h
theorem nw (h:P:=by obtain⟨sb15,sc15,nw15,e15,-,-⟩:∃sb sc news,(bs 15).v= V sb c.f.length sc/\Ai Aq H2 news c.f/\Ba 9 1 (bs 15).v c.f.length news (bs 15).bl:=hb.at 15 A7 Z Z;rw[e15];exact AT):P:=h
theorem cL (h:P:=by rintro e w' ⟨rfl,rfl⟩;(first|rw[hin]|(rw[show T ((32:Int)<=10/\(10:Int)<=126)=G by decide]));go_wp2_with fail;go_round;(case rel=>exact⟨k+1,by omega,by go_num,Np s k lg HA.out HO.out⟩);case measure=>simp[intOf];omega):P:=h
theorem iE (h:P:=by rintro e w2 ⟨rfl,m4⟩;go_wp2_with fail;refine(G9 _ HF.out.to m4).mono ?_;rintro e w3 ⟨rfl,m5⟩;have es:=m5.e2;cases hn:B3 ct;all_goals (go_wp2_with fail;go_ret;exact⟨A8 In,m5.drop.drop⟩)):P:=h
theorem jS (h:P:=by rintro e w2 ⟨rfl,m2⟩;rw[show xs.any (λy=> !p y)= !xs.all p by rw[List.all_eq_not_any_not];simp];obtain⟨q,hq⟩:∃q,xs.all p=q:=⟨_,Z⟩;rw[hq];have HQ:=A5 hq;clear hq;go_wp2_with fail;go_ret;exact⟨A8 (by rw[HQ.out]),m2.drop⟩):P:=h
theorem uK (h:P:=by rintro e w' ⟨rfl,m4⟩;clear es;have es:=m4.e4;rw[he];go_wp2_with (go_at_call 137;refine(AH _ _ _ _).mono ?_;rintro e w' ⟨rfl,rfl⟩);all_goals (go_ret;exact⟨Z,m4.drop.drop.drop⟩)):P:=h
theorem nE (h:P:=by have hge:¬(k:Int)<xs.length:=A0;(have ly:xs=ys:=List.ext_getElem HL.out λj h1 h2=>HE.out j A0 h1 h2);have HALL:=A5 ly;clear ly;go_wp2_with fail;go_ret;exact⟨A8 (t_ HALL.out).symm,mk⟩):P:=h
theorem lV (h:P:=by intro ls w j w' hT h1 h2 hji hx;have hc:Dd n (ls.setIfInBounds j B)\/S w':=(by refine hx.imp (λ⟨e,h3,h4⟩=>?_) id;rw[Array.setIfInBounds_comm _ _ (Ne.symm hji),Bo A0] at h4;exact⟨e,h3,h4⟩);exact⟨hc,hc⟩):P:=h
theorem mZ (h:P:=by refine b_ (v:= .tuple #[.agg #[V (O ⟨g,0,X⟩) x.k.length c1,V b2 x.r.length c2],Y I 0]) LE Z ?_;rw[HRD.out];exact⟨H9,_,_,Z,hl9,hs1,hs2,m9⟩):P:=h
theorem tX (h:P:=by have OO:=A5 oo;clear oo;go_wp2_with fail;simp only[LK];exact key _ _ ⟨Z,Z,Z,_,Z,NN.of (l:=[]) (AP.nil mr.drop.drop.drop.drop) (Bl.refl _) (λ_ h=>by cases h) (by unfold B6;simp only[OO.out];try simp)⟩):P:=h
theorem lq (h:P:=by rintro e w2 ⟨rfl,m4⟩;go_wp2_with fail;refine(G9 _ Zd m4).mono ?_;rintro e w3 ⟨rfl,m5⟩;have es:=m5.e2;rw[Wv];go_wp2_with fail;go_ret;exact⟨A8 (by simp),m5.drop.drop⟩):P:=h
theorem jG (h:P:=by go_roundw;(case rel=>exact⟨k+1,by omega,by go_num,A5 (λj hj=>by rcases Nat.lt_succ_iff_lt_or_eq.1 hj with h|h;exact HA.out j h;subst h;rw[HW.out];exact HB.out),mS.drop⟩);case measure=>simp[intOf];omega):P:=h
theorem tj (h:P:=by
  by_cases h200:s.size<=200
  .go_wp2_with fail;go_ret;exact⟨A8 (by rw[Ul s k lg h200 HA.out];simp;omega),Z⟩
  .go_wp2_with fail;go_ret;exact⟨A8 (by rw[Uo s A0];simp;omega),Z⟩):P:=h
theorem eU (h:P:=by rw[HQ.out];rintro e w2 ⟨rfl,m2⟩;go_wp2_with fail;go_roundw;(case rel=>exact⟨k+1,by omega,by go_num,by rw[HTK.out,List.any_append,HA.out,List.any_cons,HQ.out];rfl,m2⟩);case measure=>simp[intOf];omega):P:=h
theorem iO (h:P:=by
  obtain⟨L1,h1,h2⟩:=h.split;refine⟨L1,⟨?_,?_⟩,h2⟩
  .rw[List.length_append,List.map_append];exact h1
  .intro z hm;rcases List.mem_append.1 hm with hm|hm
   .exact hz z hm
   .rw[List.mem_singleton.1 hm];exact hx):P:=h
theorem YT (h:P:=by(refine Al.wk (λbs=>by first|rfl|(go_simp;done)) λbs w hb m=>?_);have es:=m.e3;have hkv:=hkv.out;unfold Mr at hkv;exact AT):P:=h
theorem lP (h:P:=by(have hnl:k ∉ l:=λh=>by rw[q3 k h] at hd;cases hd);exact base (λk' o' h1 h2 h3=>hnl (by rw[<-huniq k' o' h1 h2];exact h3.1)) λk' o' h1 h2 h3=>a_ (by rw[<-huniq k' o' h1 h2];exact h3) hnl):P:=h
theorem o9 (h:P:=by
  obtain⟨a⟩:=a;obtain⟨b⟩:=b;have:(ByteArray.mk a==ByteArray.mk b)=(a==b):=Z;rw[this];by_cases e:a=b
  .subst e;simp
  .rw[bF e,f_ (λh=>e (by cases h;rfl))]):P:=h
theorem Rt (h:P:=by rw[HQ.out];rintro e w2 ⟨rfl,m2⟩;go_wp2_with fail;go_roundw;(case rel=>exact⟨k+1,by omega,by go_num,by rw[Bi _ _ _ lg,HA.out,HY.out,HQ.out];rfl,m2⟩);case measure=>simp[intOf];omega):P:=h
theorem Yk (h:P:=by refine Nw.ofK ?_ (EY.keep A7);(refine Al.val Z Z Z λbs w hb m=>?_);show(x_ _ _).run _ _= .ok (.value (M (O ⟨fb,0,X⟩))) w;exact AT):P:=h
theorem tU (h:P:=by have H5:=A5 h5;clear h5 kF mA mB;go_wp2_with fail;go_roundw;(case rel=>exact⟨k+1,L5,by omega,by go_num,A5 (by rw[HTK.out,HZ.out];exact H5.out),m5⟩);case measure=>simp[intOf];omega):P:=h
theorem jr (h:P:=by(refine Al.make _ _ Z Z Z λbs w hb m=>?_);show(x_ _ _).run _ _= .ok (.value (V (O ⟨w.heap.size,0,X⟩) 0 0)) (w.alloc (C #[] 9));exact AT):P:=h
theorem lN (h:P:=by(refine Al.make _ _ Z Z Z λbs w hb m=>?_);show(x_ _ _).run _ _= .ok (.value (V (O ⟨w.heap.size,0,X⟩) 0 0)) (w.alloc (C #[] 3));exact AT):P:=h
theorem cJ (h:P:=by obtain⟨L5,h5,m5⟩:=kF.split;rw[Nat.zero_add,List.nil_append] at h5;obtain⟨sb5,sc5,e5,_⟩:=h5.shape;exact BU.append Z Z Z hr ⟨⟨0,0,v',L5⟩,⟨sb5,sc5,news,e5,hch,h5⟩,Z,m5⟩):P:=h
theorem lf (h:P:=by(have hl:¬cf.toList=[]:=λe=>hcf ((B5 _).1 e));have hb:(cf.toList==[])=false:=beq_eq_false_iff_ne.2 hl;go_wp2_with fail;go_ret;exact⟨A8 (by simp[hn,hcf]),m1.drop⟩):P:=h
theorem Kg (h:P:=by(refine Al.vk Z λbs w hb m=>?_);have es:=m.e3;have f0:=F0.out.cell m;have ka:=HKA.out;unfold Mr at ka;exact AT):P:=h
theorem Z3 (h:P:=by have HOK:=HOK;have me:=md;go_wp2_with fail;go_roundw;(case rel=>exact⟨k+1,by omega,by go_num,HSN.out (by first|exact HOK.out|(rw[HOK.out])),md⟩);case measure=>simp[intOf];omega):P:=h
theorem uU (h:P:=by rintro e w' ⟨rfl,rfl⟩;rw[h];go_wp2_with (go_at_call 137;refine(AH _ _ _ _).mono ?_;rintro e w' ⟨rfl,rfl⟩);all_goals (go_ret;exact⟨Z,(((m.alloc _).alloc _).alloc _).drop.drop.drop⟩)):P:=h
theorem Gc (h:P:=by(refine Al.vk Z λbs w hb m=>?_);have es:=m.e8;have e0:=E0.out.cell m;have e1:=E1.out.cell m;exact AT):P:=h
theorem GX (h:P:=by(refine Al.vk Z λbs w hb m=>?_);have es:=m.e8;have f3:=D3.out.cell m;have f4:=D4.out.cell m;exact AT):P:=h
theorem lS (h:P:=by(have hl:¬cf.toList=[]:=λe=>hcf ((B5 _).1 e));have hb:(cf.toList==[])=false:=beq_eq_false_iff_ne.2 hl;go_wp2_with fail;go_ret;exact⟨A8 (by simp[hcf]),m1.drop⟩):P:=h
theorem lh (h:P:=by rw[Ho,hst] at m3;have es:=md.e3;go_wp2_with fail;go_roundw;(case rel=>exact⟨r+1,by omega,by go_num,m3⟩);case measure=>simp[intOf];omega):P:=h
theorem Gk (h:P:=by(refine Al.vk Z λbs w hb m=>?_);have es:=m.e6;have e0:=E0.out.cell m;have e1:=E1.out.cell m;exact AT):P:=h
theorem lR (h:P:=by
  (refine wp_mono (pr c h) λe a w he=>?_)
  cases e with
  |normal=>exact he
  |exit id=>exact he
  |goto l=>exact he
  |ret=>exact he
  |panic c=>exact he
  |outgrown=>exact he):P:=h
theorem Yh (h:P:=by(refine Al.wk (λbs=>by first|rfl|(go_simp;done)) λbs w hb m=>?_);have es:=m.e16;exact AT):P:=h
theorem EF (h:P:=by(refine Al.vk Z λbs w hb m=>?_);have es:=m.e3;have f0:=F0.out.cell m;have f2:=F2.out.cell m;exact AT):P:=h
theorem fD (h:P:=by have es:=m3.e2;have ns:=m3.n9;go_wp2_with fail;go_ret;exact⟨A8 (by simp),m3.drop.drop⟩):P:=h
theorem cN (h:P:=by(refine Al.make _ _ Z Z Z λbs w hb m=>?_);show(x_ _ _).run _ _= .ok (.value (.map (O w.heap.size))) (w.alloc (.map #[] 0));exact AT):P:=h
theorem kA (h:P:=by
  rw[List.eraseIdx_eq_take_drop_succ,List.map_append];congr 1
  first
   |(rw[List.take_of_length_le ZB])
   |(rw[List.drop_of_length_le A0];rfl)):P:=h
theorem dY (h:P:=by rw[List.map_cons,List.nodup_cons];refine⟨λhc=>?_,m.nd⟩;obtain⟨p,hp,he⟩:=List.mem_map.1 hc;have:=Af (m.loc p hp).1;rw[he] at this;exact Nat.lt_irrefl _ this):P:=h
theorem al (h:P:=by(have hl0:¬s.toList=[]:=λe=>hs0 ((B5 s).1 e));go_enter Tryz.func200,Tryz.ntmps200;go_wp2_with fail;go_ret;exact⟨A8 (by simp[Bk.plain,hs0]),m1.drop⟩):P:=h
theorem YL (h:P:=by rintro e w' ⟨rfl,rfl⟩;rw[hin];go_wp2_with fail;go_round;(case rel=>exact⟨k+1,by omega,by go_num,R7 s k lg HA.out HO.out⟩);case measure=>simp[intOf];omega):P:=h
theorem NK (h:P:=by(refine Al.wk (λbs=>by first|rfl|(go_simp;done)) λbs w hb m=>?_);have es:=m.e17;exact AT):P:=h
theorem YE (h:P:=by rintro e w' ⟨rfl,rfl⟩;rw[hin];go_wp2_with fail;go_round;(case rel=>exact⟨k+1,by omega,by go_num,Np s k lg HA.out HO.out⟩);case measure=>simp[intOf];omega):P:=h
theorem gF (h:P:=by
  rw[J0] at h;by_cases e:c=0
  .rw[t_ e] at h;cases h
  .rw[f_ e] at h;cases h;exact⟨_,by simp[binOp,Op.intDiv,e];rfl,by simp only[VR]⟩):P:=h
theorem cQ (h:P:=by go_ret;have hcf:=HCF.out;exact⟨A8 (by rw[<-HRES.out];unfold DL;rw[HA3.out,B4 _ x.c k lg hcf];rfl),(AC.dropL _ (AC.dropL _ (mk5.drop))).drop⟩):P:=h
theorem DF (h:P:=by(refine Al.vk Z λbs w hb m=>?_);have es:=m.e3;have hkv:=hkv.out;unfold Mr at hkv;exact AT):P:=h
theorem Xj (h:P:=by(refine Al.wk (λbs=>by first|rfl|(go_simp;done)) λbs w hb m=>?_);have es:=m.eqs;simp only[BS,At,Pb] at es;exact AT):P:=h
theorem jP (h:P:=by(refine Al.wk (λbs=>by first|rfl|(go_simp;done)) λbs w hb m=>?_);have es:=m.e1;exact AT):P:=h
theorem Wb (h:P:=by refine(S0 _ _ m' hs).mono ?_;rintro e w2 ⟨b,lL,cl,rfl,hl,m2⟩;exact⟨_,Z,⟨b,0,undef,[(b,.map lL cl)]⟩,⟨lL,cl,Z,hl⟩,Z,(back _ _ m2).dropLK⟩):P:=h
theorem Fq (h:P:=by(refine Al.vk Z λbs w hb m=>?_);have es:=m.e8;have e0:=E0.out.cell m;exact AT):P:=h
theorem cI (h:P:=by rintro e w' ⟨rfl,m3⟩;have es:=m3.e0;rw[t_ hr];go_wp2_with fail;go_ret;exact⟨A8 (by simp[Bk.plain,hs0,hl0]),m3.drop⟩):P:=h
theorem j6 (h:P:=by have hn1:(n==0)=false:=(by simpa using hn0);go_enter Tryz.func200,Tryz.ntmps200;go_wp2_with fail;go_ret;exact⟨A8 (by simp[Bk.plain,hn0]),m1.drop⟩):P:=h
theorem hX (h:P:=by
  intro c hc;simp only[List.mem_append] at hc;rcases hc with (hc|hc)|hc
  .exact g5 c (List.mem_of_mem_take hc)
  .exact h1 c hc
  .exact g5 c (List.mem_of_mem_drop hc)):P:=h
theorem jt (h:P:=by refine(Ad _ _ _ _).mono ?_;rintro e w' ⟨rfl,rfl⟩;rw[hin];go_wp2_with fail;all_goals (go_ret;exact⟨A8 jx,Z⟩)):P:=h
theorem DZ (h:P:=by(refine Al.vk Z λbs w hb m=>?_);have es:=m.e6;have e0:=E0.out.cell m;exact AT):P:=h
theorem jE (h:P:=by(refine Al.wk (λbs=>by first|rfl|(go_simp;done)) λbs w hb m=>?_);have es:=m.e0;exact AT):P:=h
theorem iL (h:P:=by clear es;go_roundw;(case rel=>exact⟨k+1,zs,L0,by omega,by go_num,HO.out,HZ,A5 ZC,mk⟩);case measure=>simp[intOf];omega):P:=h
theorem jX (h:P:=by rintro e w' ⟨rfl,m3⟩;have es:=m3.e0;rw[t_ hr];go_wp2_with fail;go_ret;exact⟨A8 Yw,m3.drop⟩):P:=h
theorem ip (h:P:=by refine(AH _ _ _ _).mono ?_;rintro e w' ⟨rfl,rfl⟩;rw[hin];go_wp2_with fail;all_goals (go_ret;exact⟨A8 jx,Z⟩)):P:=h
theorem fW (h:P:=by refine(IK _ _ _ _).mono ?_;rintro e w' ⟨rfl,rfl⟩;rw[hin];go_wp2_with fail;all_goals (go_ret;exact⟨A8 jx,Z⟩)):P:=h
theorem eN (h:P:=by obtain⟨g,cc,rfl⟩:=h8.pos A0;exact BU.append Z Z Z hr ⟨⟨g,cc,V (O ⟨g,0,X⟩) (eJ.length+1) cc,L8⟩,⟨Z,h8⟩,Z,m8⟩):P:=h
theorem fJ (h:P:=by
  intro l
  induction l with
  |nil=>exact λm h=>h
  |cons c l ih=>exact λm h=>ih _ (Pf (p:=λv=>∃n:Int,v= Y I n) ⟨_,Z⟩ m h)):P:=h
theorem it (h:P:=by(refine Al.vk Z λbs w hb m=>?_);have hl:=HKY.out w _ m (.tail _ (.tail _ HMM.out.1));rw[HOT.out] at hl;exact AT):P:=h
theorem dE (h:P:=by have lU:o.dst≠O t:=hno i di o (by rw[DV hi,p_ Z]) ti ho;rw[QL lU];exact j.rest t y hy λk dk op hk=>hno k dk op (hl k hk)):P:=h
theorem YI (h:P:=by obtain⟨L5,h5,m5⟩:=kF.split;rw[Nat.zero_add,List.nil_append] at h5;exact BU.append Z Z Z hr ⟨⟨0,0,v',L5⟩,⟨news,hch,h5⟩,Z,m5⟩):P:=h
theorem Xz (h:P:=by have es:=m.e6;have e0:=E0.out.cell m;have e1:=E1.out.cell m;exact AT):P:=h
theorem jv (h:P:=by go_ret;exact⟨A8 (by rw[HE.out,HEND1.out,t_ HL.out,HEND2.out,HBAD.out HOK.out];first|rfl|(simp;done)),md.drop.drop.drop⟩):P:=h
theorem UH (h:P:=by go_roundw;(case rel=>exact⟨k+1,by omega,by go_num,Ea lg HA.out (f_ HQ.out),m1⟩);case measure=>simp[intOf];omega):P:=h
theorem gI (h:P:=by go_roundw;(case rel=>exact⟨k+1,by omega,by go_num,by rw[Bi _ _ _ lg,HA.out,hb];rfl,md⟩);case measure=>simp[intOf];omega):P:=h
theorem iT (h:P:=by refine(RN ⟨vk,vn,vs⟩ HF.out.v m5).mono ?_;rintro e w4 ⟨rfl,m6⟩;go_wp2_with fail;go_ret;exact⟨A8 In,m6.drop.drop⟩):P:=h
theorem T5 (h:P:=by have HQ:=A5 hq;clear hq;go_wp2_with fail;go_ret;exact⟨H3,K1.out,A8 (by rw[<-HRES.out];unfold N0;rw[HQ.out];simp),m4.drop⟩):P:=h
theorem Wl (h:P:=by(refine Al.wk (λbs=>by first|rfl|(go_simp;done)) λbs w hb m=>?_);have e2:=E2.out.cell m;exact AT):P:=h
theorem XA (h:P:=by(refine Al.wk (λbs=>by first|rfl|(go_simp;done)) λbs w hb m=>?_);have d2:=D2.out.cell m;exact AT):P:=h
theorem EZ (h:P:=by(refine Al.vk Z λbs w hb m=>?_);have es:=m.e16;exact AT):P:=h
theorem iQ (h:P:=by(refine Al.vk Z λbs w hb m=>?_);have es:=m.eqs;simp only[BS,List.cons_append,FZ] at es;exact AT):P:=h
theorem eZ (h:P:=by
  rcases h.2 with ⟨h1,h2,_⟩|⟨g,cap,nB,h1,h2,h3,_⟩
  .exact⟨X,0,by rw[h1,h2],by omega,by simp[maxLen]⟩
  .exact⟨_,_,h1,h2,h3⟩):P:=h
theorem jl (h:P:=by(refine Al.vk Z λbs w hb m=>?_);have hl:=HL4.out _ _ (HG.out.2.2.2) w _ m;rw[HCD.out] at hl;exact AT):P:=h
theorem gU (h:P:=by have mu:=md;unfold BY at mu;have es:=mu.e0;go_wp2_with fail;go_ret;rw[HRD.out];exact⟨_,Lr,Z,HO.out,md.drop⟩):P:=h
theorem rL (h:P:=by rw[HRD.out];exact⟨H,_,_,Z,Bl.refl H,H1.out,H2.out,AC.dropL L3 (AC.dropL (L1++(L0++L2)) (AC.dropL Lc m3.drop.drop.drop.drop))⟩):P:=h
theorem XH (h:P:=by
  rcases hl2 k hk with rfl|hk
  .rintro⟨dc,dc',t1,s1,n1⟩;have:=t1.det ti;subst this;rw[hs] at s1;cases s1;exact n1 hh
  .exact j.noact k hk):P:=h
theorem hM (h:P:=by(refine Al.vk Z λbs w hb m=>?_);have hl:=HL3.out 2 2 md0 Z Pn w _ m;exact AT):P:=h
theorem fQ (h:P:=by rw[size_zeroCells,hzc,List.length_append,l4.length,l1,hnl,lC,<-Nat.add_mul,<-Nat.add_mul];exact Nat.mul_le_mul_right _ A0):P:=h
theorem QZ (h:P:=by(refine Al.vk Z λbs w hb m=>?_);have es:=m.e6;exact AT):P:=h
theorem Ep (h:P:=by(refine Al.vk Z λbs w hb m=>?_);have es:=m.e17;exact AT):P:=h
theorem Pc (h:P:=by(refine Al.vk Z λbs w hb m=>?_);have es:=m.e3;exact AT):P:=h
theorem fB (h:P:=by(refine Al.vk Z λbs w hb m=>?_);have es:=m.eqs;simp only[BS,At,Pb] at es;exact AT):P:=h
theorem eE (h:P:=by
  obtain⟨rfl,h1⟩:=h1;refine⟨by rw[ih.1];rfl,λx hx=>?_⟩;rcases List.mem_cons.1 hx with rfl|hx
  .exact h1
  .exact ih.2 x hx):P:=h
theorem gS (h:P:=by intro bs hb;refine .inr ⟨hk,by simp[Region.wanted,hg],λw L' m=>?_⟩;unfold Du.cons at m;rw[hn] at m⊢;exact h bs w L' hb m):P:=h
theorem FH (h:P:=by(refine Al.vk Z λbs w hb m=>?_);have es:=m.e1;exact AT):P:=h
theorem Fe (h:P:=by(refine Al.vk Z λbs w hb m=>?_);have es:=m.eqs;simp only[BS,Ac] at es;exact AT):P:=h
theorem iK (h:P:=by
  have:=congrArg (·[0]?) e1;simp only[List.getElem?_take,List.getElem?_drop] at this;split at this
  .simpa using this
  .cases this):P:=h
theorem jB (h:P:=by(have hno:∀k,k<sp.length->Ht ops k≠O t:=λk hk e=>hh ⟨k,hk,e⟩);rw[j.old t λk hk _=>hno k hk,p2 t hno]):P:=h
theorem UI (h:P:=by have es:=m.e8;have e0:=E0.out.cell m;exact AT):P:=h
theorem j9 (h:P:=by rintro e w2 ⟨b,lL,cl,l,rfl,hp,hm,m2⟩;exact⟨_,Z,⟨b,0,undef,[(b,.map lL cl)]⟩,⟨lL,cl,l,Z,hp,hm⟩,Z,m2⟩):P:=h
theorem Wf (h:P:=by rintro e w' ⟨rfl,rfl⟩;rw[hin];go_wp2_with fail;all_goals (go_ret;exact⟨A8 (by rw[Xu s k lg HO.out]),Z⟩)):P:=h
theorem gL (h:P:=by go_ret;rw[HRD.out];exact⟨_,Lc2,_,Z,by rw[List.length_set];exact hac2,by rw[<-HNM.out,<-HR1.out];exact hof2,m9⟩):P:=h
theorem PO (h:P:=by have es:=m.e6;have e0:=E0.out.cell m;exact AT):P:=h
theorem fH (h:P:=by rintro e w' ⟨rfl,m3⟩;rw[f_ hr];go_wp2_with fail;go_ret;exact⟨A8 Yw,m3.drop⟩):P:=h
theorem CD (h:P:=by(refine Al.vk Z λbs w hb m=>?_);have es:=m.e0;exact AT):P:=h
theorem YG (h:P:=by clear es g0 hza;go_roundw;(case rel=>exact⟨j+1,_,by omega,by go_num,Z,mj⟩);case measure=>simp[intOf];omega):P:=h
theorem Bb (h:P:=by(refine Al.wk (λbs=>by first|rfl|(go_simp;done)) λbs w hb m=>?_);exact AT):P:=h
theorem QF (h:P:=by go_ret;exact⟨A8 Vh,mS.drop.drop⟩):P:=h
theorem Xp (h:P:=by go_ret;refine⟨CH (Ym ?_).symm,m⟩;have:=HA.out;rw[List.take_of_length_le A0] at this;exact this):P:=h
theorem Xx (h:P:=by have HALL:=A5 ly;clear ly;go_wp2_with fail;go_ret;exact⟨_,L3,Z,by rw[<-HALL.out];exact HO.out,m⟩):P:=h
theorem dD (h:P:=by
  cases hh:H w.heap.size with
  |none=>rfl
  |some o'=>exact a_ (Af (m.imm _ _ hh)) (Nat.lt_irrefl _)):P:=h
theorem jC (h:P:=by simp only[nI,XU,XQ];repeat' (first|rfl|(split<;>try simp only[Option.map_none,Option.map_map]))):P:=h
theorem iP (h:P:=by simp only[Option.map_eq_some_iff] at ho;obtain⟨v,hv,e⟩:=ho;cases e;exact Ag.pure' h Z (AM hT hv)):P:=h
theorem XC (h:P:=by simp only[List.size_toArray,List.length_append,List.length_take,List.length_drop,Array.length_toList];omega):P:=h
theorem iI (h:P:=by
  cases hx:Hd i with
  |none=>rfl
  |some x=>have:=(j.held i x.1 x.2.1 x.2.2 hx).1;rw[hi] at this;cases this):P:=h
theorem jN (h:P:=by simp only[List.size_toArray,List.length_append,List.length_take,List.length_drop,Array.length_toList];omega):P:=h
theorem jV (h:P:=by go_ret;refine⟨_,L4,Z,⟨?_,λx hx=>lz x (List.mem_of_mem_eraseIdx hx)⟩,m8⟩;rw[nC,hmap];exact hq4):P:=h
theorem iN (h:P:=by
  rw[hg] at hb';show b<s.nx+1;by_cases e:b=s.nx
  .omega
  .rw[n_ e] at hb';have:=h.lt b hb';omega):P:=h
theorem cV (h:P:=by(split at h<;>try (cases h;done));(split at h<;>try (cases h;done));obtain⟨_,h⟩:=Ej h;cases h):P:=h
theorem tF (h:P:=by refine A5 ?_;rw[<-HAP.out,HDR.out];have h9:=HD.out;rw[HE.out] at h9;exact(BZ.apply_good h9).symm):P:=h
theorem NA (h:P:=by go_ret;refine⟨_,Z,?_,Z⟩;have:=HA.out;rw[List.take_of_length_le A0] at this;rw[this];rfl):P:=h
theorem tP (h:P:=by clear hend hlt2;go_wp2_with fail;go_roundw;(case rel=>exact HREL.out);case measure=>simp[intOf];omega):P:=h
theorem je (h:P:=by(refine Al.vk Z λbs w hb m=>?_);have f1:=F1.out.cell m;exact AT):P:=h
theorem iY (h:P:=by(refine Al.vk Z λbs w hb m=>?_);have f2:=F2.out.cell m;exact AT):P:=h
theorem jT (h:P:=by(refine Al.vk Z λbs w hb m=>?_);have hl:=HL5.out w _ m;exact AT):P:=h
theorem LX (h:P:=by(refine Al.vk Z λbs w hb m=>?_);have d1:=D1.out.cell m;exact AT):P:=h
theorem YM (h:P:=by(refine Al.vk Z λbs w hb m=>?_);have d2:=D2.out.cell m;exact AT):P:=h
theorem eP (h:P:=by rintro e w' ⟨rfl,rfl⟩;rw[hin0];go_wp2_with fail;go_ret;exact⟨A8 (by rw[Uw s hl]),Z⟩):P:=h
theorem NO (h:P:=by go_ret;refine⟨_,Z,?_,m⟩;have:=HA.out;rw[List.take_of_length_le A0] at this;rw[this];rfl):P:=h
theorem cF (h:P:=by go_ret;exact⟨A8 (by rw[HE.out,HBAD.out HOK.out];first|rfl|(simp;done)),md.drop.drop.drop⟩):P:=h
theorem eV (h:P:=by rw[HZ.out,List.length_append];have:=aQ (i.w.take k);rw[List.length_take] at this;omega):P:=h
theorem rU (h:P:=by rw[f_ hr];go_wp2_with fail;go_ret;exact⟨A8 Yw,m1.drop⟩):P:=h
theorem cY (h:P:=by unfold AE.form;rw[n_ h1,n_ h2,n_ h3,n_ h4,n_ h5,n_ h6,n_ h7]):P:=h
theorem iJ (h:P:=by rw[t_ hr];go_wp2_with fail;go_ret;exact⟨A8 Yw,m1.drop⟩):P:=h
theorem cG (h:P:=by go_ret;refine⟨_,Z,?_,Z⟩;rw[show xs.all p=G from B4 _ xs k lg HQ.out];simp):P:=h
theorem Xg (h:P:=by rw[HQ.out];rintro e w2 ⟨rfl,m2⟩;go_wp2_with fail;go_ret;exact⟨CH (HIX.out HQ.out).symm,m2⟩):P:=h
theorem eS (h:P:=by have h1:=tk.not;have h2:=tk.mono (k:=i) (by rw[hK.done.2];simp);rw[e,h1] at h2;cases h2):P:=h
theorem fM (h:P:=by unfold DL at hfm;simp only[Bool.and_eq_true] at hfm;exact List.all_eq_true.1 hfm.2.2.2.2.2.2):P:=h
theorem iG (h:P:=by rintro e w' ⟨rfl,rfl⟩;go_wp2_with fail;go_ret;exact⟨A8 (by simp[Bk.plain]),m1.drop⟩):P:=h
theorem XM (h:P:=by simp only[List.mem_cons,List.not_mem_nil,or_false] at hy;rcases hy with rfl|rfl<;>simp):P:=h
theorem fG (h:P:=by have:=HF.out.w k i HI.out;unfold B6;(repeat' split);(all_goals simp);all_goals omega):P:=h
theorem PY (h:P:=by rw[HQ.out];rintro e w2 ⟨rfl,m2⟩;go_wp2_with fail;go_ret;exact⟨A8 (by simp),m2.drop⟩):P:=h
theorem eM (h:P:=by exact⟨_,_,_,_,_,_,_,_,_,_,_,_,_,_,_,_,_,_,_,_,_,_,_,_,_,_,_,Z⟩):P:=h
theorem Tm (h:P:=by
  rw[DV hi] at hk;by_cases e:k=i
  .exact .inl e
  .rw[n_ e] at hk;exact .inr hk):P:=h
theorem jK (h:P:=by go_ret;exact⟨A8 (by rw[<-HRES.out,B4 _ x.d k lg HQ.out]),m1.drop⟩):P:=h
theorem jy (h:P:=by
  by_cases e2:a=b
  .subst e2;rfl
  .rw[f_ e2,f_ (Ne.symm e2)]):P:=h
theorem X3 (h:P:=by go_ret;exact⟨H',K,HKN.out,HLE.out,CH (HGOT.out hb.out).symm,mi.drop.drop.drop⟩):P:=h
theorem Wn (h:P:=by have hge:¬(k:Int)<xs.length:=A0;go_wp2_with fail;go_ret;exact⟨Z,mk⟩):P:=h
theorem jf (h:P:=by simp only[VR];refine⟨_,hsub,?_⟩;congr 1;apply Array.ext';simp[lC,List.take_drop]):P:=h
theorem XD (h:P:=by have hy:(AJ.leaf:AJ Fk).get b=O y:=hy;rw[AJ.get_leaf] at hy;cases hy):P:=h
theorem jD (h:P:=by
  rw[n_ hc];rcases ho with h0|h0
  .exact .inl A0
  .exact .inr (by rw[h0])):P:=h
theorem j7 (h:P:=by simp only[List.set_append_right _ _ (Nat.le_add_right _ _),Nat.add_sub_cancel_left]):P:=h
theorem fS (h:P:=by cases hk;simp only[VR] at hx;subst hx;simp[Builtin.len_,u_ hd,goInt]):P:=h
theorem fK (h:P:=by unfold x_;simp only[ho,hl,Sem.run_bind,hr,Result.andThen_ok,Sem.run_pure]):P:=h
theorem Ak (h:P:=by exact Al.skip Z Z (λ_=>rfl) (λbs=>by first|rfl|(go_simp;done))):P:=h
theorem fP (h:P:=by have:len<=len*ue.size:=Nat.le_mul_of_pos_right _ hpos;unfold maxLen;omega):P:=h
theorem eR (h:P:=by rw[hx] at hH;cases hH;have:=tk.det (.here hs);subst this;exact⟨by omega,hR1⟩):P:=h
theorem Ms (h:P:=by rintro e w1 ⟨rfl,m2⟩;go_wp2_with fail;go_ret;exact⟨A8 (by simp),m2.drop⟩):P:=h
theorem AA (h:P:=by(refine Al.vk Z λbs w hb m=>?_);exact AT):P:=h
theorem gM (h:P:=by go_ret;exact⟨A8 (f_ (λe=>HL.out (by rw[e]))).symm,m⟩):P:=h
theorem U9 (h:P:=by
  rw[DV hi];by_cases e:k=i
  .rw[p_ e]
  .rw[n_ e];exact hk):P:=h
theorem UO (h:P:=by rintro e w2 ⟨v,L1,rfl,hv,m2⟩;exact⟨_,Z,⟨0,0,v,L1⟩,hv,Z,m2⟩):P:=h
theorem dL (h:P:=by rintro e w2 ⟨u,Lr,rfl,ha,m2⟩;exact⟨_,Z,⟨0,0,u,Lr⟩,ha,Z,m2⟩):P:=h
theorem NU (h:P:=by rintro e w1 ⟨rfl,rfl⟩;go_wp2;go_ret;exact⟨A8 (by simp),m1.drop⟩):P:=h
theorem Xb (h:P:=by have:=HA.out;rw[List.take_of_length_le A0] at this;exact this):P:=h
theorem UJ (h:P:=by go_ret;exact⟨H,G,Bl.refl _,Z,(λh=>by cases h),m1.drop⟩):P:=h
theorem WT (h:P:=by go_ret;rw[HRD.out];exact⟨rs,Lc,_,Z,HAC.out,HOF.out,md.drop⟩):P:=h
theorem Wd (h:P:=by
  rcases q with _|_|_|_|q
  .rfl
  .rfl
  .rfl
  .rfl
  .omega):P:=h
theorem X8 (h:P:=by simp only[resolve,hb,pure_bind,invoke];exact⟨_,Z⟩):P:=h
theorem Wy (h:P:=by simp only[VR];rw[e1];exact⟨Nat.lt_succ_self _,Z⟩):P:=h
theorem We (h:P:=by rw[Bool.eq_iff_iff];simp only[decide_eq_true_eq];omega):P:=h
theorem Wr (h:P:=by exact List.Perm.append_right _ List.perm_append_comm):P:=h
theorem TP (h:P:=by go_ret;exact⟨_,(by intro h;cases h),⟨Z,m⟩⟩):P:=h
theorem NH (h:P:=by go_ret;exact⟨A8 In,m1.drop⟩):P:=h
theorem XL (h:P:=by exact⟨_,Z,⟨0,0,undef,[]⟩,Z,Z,m2⟩):P:=h
theorem PU (h:P:=by rintro e w2 ⟨rfl,m2⟩;exact⟨_,Z,Z,m2⟩):P:=h
theorem Cp (h:P:=by first|(go_simp;done)|(go_simp;rfl)):P:=h
theorem Sr (h:P:=by rw[hb] at h;simp at h;simp;omega):P:=h
theorem UR (h:P:=by rw[f_ e] at h;cases h):P:=h
theorem Mv (h:P:=by go_ret;exact⟨A8 HK.out,Z⟩):P:=h
theorem IW (h:P:=by go_ret;exact⟨A8 HK.out,m2⟩):P:=h
theorem Nb (h:P:=by go_ret;exact⟨v,L1,Z,h1,m1⟩):P:=h
theorem GS (h:P:=by go_ret;exact⟨Z,m1.drop⟩):P:=h
