/- An evaluator of closed calls: a region whose order is drawn comes to what one order comes to. No program in sight. An evaluator of closed calls: code in pieces, each run by the kernel alone. No program in sight. The frame of a closed law's proof: the row's last step. No program's function in sight. An evaluator of closed calls, made ready for the kernel: operations whose parts that do not change are worked out once. No program in sight. An evaluator of closed calls, made ready for the kernel: code and calls. No program in sight. An evaluator of closed calls, made ready for the kernel: regions whose order is drawn. No program in sight. -/
import Derived.Test.YtbioklhoolkhkadGreatDoorK07
import Derived.Test.YtbioklhoolkhkadGreatDoorK06
import Derived.Test.YtbioklhoolkhkadGreatDoorRows
import Derived.ProofKit
import Derived.Below
import Derived.ChangeSame
import Derived.Lib.SmallJoins
import Derived.Test.YtbioklhoolkhkadGreatDoorK04
import Derived.Test.YtbioklhoolkhkadGreatDoorK05
namespace Go.Proofs.YtbioklhoolkhkadGreatDoor
set_option linter.unusedVariables false
set_option linter.unusedSimpArgs false
set_option linter.unusedSectionVars false
open Go Go.RowKit
noncomputable section

theorem first_not {α : Type} {p : α → Prop} : ∀ {l : List α}, (∃ k ∈ l, ¬ p k) → ∃ l1 i l2, l = l1 ++ i :: l2 ∧ (∀ k ∈ l1, p k) ∧ ¬ p i
  | [], h => by obtain ⟨k, hk, _⟩ := h; cases hk
  | x :: l, h => by
    classical
    by_cases hx : p x
    · obtain ⟨k, hk, hn⟩ := h
      rcases List.mem_cons.1 hk with rfl | hk
      · exact absurd hx hn
      · obtain ⟨l1, i, l2, rfl, h1, h2⟩ := first_not (p := p) ⟨k, hk, hn⟩
        exact ⟨x :: l1, i, l2, rfl, fun k hk => by rcases List.mem_cons.1 hk with rfl | hk; exact hx; exact h1 k hk, h2⟩
    · exact ⟨[], x, l, rfl, (fun k hk => by cases hk), hx⟩
section
variable {P : Program} {E : Env} {call : CallF} {nt : Nat} {ops : Array Oper} {cl : Tree Nat} {fr fr' : Nat → Option Obj} {w0 w w' : World} {ds : List Deferred} {df d d' : DSt} {l : List Nat} {listed : Array Bool} {Hd : HoldF} {R R1 : Nat → Nat × Nat} {act : Act} {F : Fence} {n : Nat} {Q : Exit → Act → World → Prop}
theorem runC_append {ops : List Oper} : ∀ (l1 : List Nat) {l2 : List Nat} {d df : DSt}, runC E call nt ops cl (l1 ++ l2) d = some df → ∃ d1, runC E call nt ops cl l1 d = some d1 ∧ runC E call nt ops cl l2 d1 = some df
  | [], l2, d, df, h => ⟨d, rfl, h⟩
  | i :: l1, l2, d, df, h => by
    simp only [List.cons_append, runC] at h ⊢
    split at h <;> try (cases h; done)
    rename_i d1 h1
    obtain ⟨d2, g1, g2⟩ := runC_append l1 h
    exact ⟨d2, g1, g2⟩
/-- Where nothing may come up, all has been. -/
theorem J.allListed (st : Stat ops cl df) (j : J P E call nt ops cl fr w0 ds df l d listed Hd fr' R act w) (hsz : listed.size = ops.size) (hr : Region.ready .any ops listed = []) : ∀ k ∈ l, listed[k]? = some true := by
  intro k hk
  false_or_by_contra
  rename_i hn
  obtain ⟨l1, i, l2, rfl, h1, h2⟩ := first_not (p := fun k => listed[k]? = some true) ⟨k, hk, hn⟩
  obtain ⟨di, r1, r2⟩ := runC_append l1 j.run
  simp only [runC] at r2
  split at r2 <;> try (cases r2; done)
  rename_i di' hs
  obtain ⟨q1, _, _⟩ := runC_done l1 r1
  obtain ⟨o, x, ho, _⟩ := (stepC_inv hs).put
  rw [Array.getElem?_toList] at ho
  obtain ⟨m, hm, hb⟩ := (stepC_inv hs).before
  have hlt : i < listed.size := by
    rw [hsz]
    exact (Array.getElem?_eq_some_iff.1 ho).1
  have hmem : i ∈ Region.ready .any ops listed := by
    refine mem_ready.2 ⟨?_, o, ho, fun e he hbe => ?_⟩
    · rw [Array.getD_eq_getD_getElem?]
      cases hx : listed[i]? with
      | none => rw [Array.getElem?_eq_none_iff] at hx; omega
      | some b =>
        cases b with
        | false => rfl
        | true => exact absurd hx h2
    · have h3 := (q1 e.on).1 (hb e.on (st.all i m o hm ho e he hbe))
      have h4 : listed[e.on]? = some true := by
        rcases h3 with h3 | h3
        · exact j.done _ h3
        · exact h1 _ h3
      rw [Array.getD_eq_getD_getElem?, h4]
      rfl
  rw [hr] at hmem
  cases hmem
theorem J.finish (st : Stat ops cl df) (j : J P E call nt ops cl fr w0 ds df l d listed Hd fr' R act w) (hd : DoneOK ops d.done) (hsz : listed.size = ops.size) (hr : Region.ready .any ops listed = []) :
    ∃ R2, Ext d.s.nx R R2 ∧ d.s.nx ≤ df.s.nx ∧ Rel fr w0 nt ds R2 df.a df.s act w := by
  have hl := j.allListed st hsz hr
  obtain ⟨q1, q2, q3⟩ := runC_done l j.run
  have j' : J P E call nt ops cl fr w0 ds df (l ++ []) d listed Hd fr' R act w := by rw [List.append_nil]; exact j
  obtain ⟨d2, Hd2, fr2, R2, c1, j2, c3, c4, c5, c6⟩ := J.catch st.all st.one l j' hl (fun k hk q oq hq hiq => by
    rcases (q1 q).1 (st.full q oq hq) with h | h
    · exact j.done q h
    · exact hl q h) hd
  rw [j.run] at c1
  cases c1
  exact ⟨R2, c4, c5, j2.hr.less j2.frs, fun t x hx => j2.rest t x hx fun k dk op _ tk => (by cases tk), j2.nt, j2.ds⟩
theorem J.any (hE : EnvOK P E) (hc : CallOK P call) (hF : Loose F) (st : Stat ops cl df) {R0 : Nat → Nat × Nat} {n0 : Nat} (hQ : ∀ R' act' w', Ext n0 R0 R' → n0 ≤ df.s.nx → Rel fr w0 nt ds R' df.a df.s act' w' → Q .normal act' w') :
    ∀ (fuel : Nat) (listed : Array Bool) (l : List Nat) (d : DSt) (Hd : HoldF) (fr' : Nat → Option Obj) (R : Nat → Nat × Nat) (act : Act) (w : World), J P E call nt ops cl fr w0 ds df l d listed Hd fr' R act w → DoneOK ops d.done → (∃ c rest, d.hist = (c, d.s.h) :: rest) → listed.size = ops.size → listed.toList.count false ≤ fuel →
      Ext n0 R0 R → n0 ≤ d.s.nx → wpAnyIn F n P .any ops Q fuel listed act w := by
  intro fuel
  induction fuel with
  | zero =>
    intro listed l d Hd fr' R act w j hd hh hsz hcnt hE0 hn0
    have hr : Region.ready .any ops listed = [] := by
      cases hx : Region.ready .any ops listed with
      | nil => rfl
      | cons i rs =>
        have hi := ready_not (ops := ops) (listed := listed) (i := i) (by rw [hx]; exact .head _)
        have : false ∈ listed.toList := by
          rw [← Array.getElem?_toList] at hi
          exact List.mem_of_getElem? hi
        have := List.count_pos_iff.2 this
        omega
    obtain ⟨R2, h1, h2, h3⟩ := j.finish st hd hsz hr
    exact ⟨hr, hQ R2 act w (hE0.trans hn0 h1) (Nat.le_trans hn0 h2) h3⟩
  | succ fuel ih =>
    intro listed l d Hd fr' R act w j hd hh hsz hcnt hE0 hn0
    refine ⟨fun hr => ?_, fun i hi => ?_⟩
    · obtain ⟨R2, h1, h2, h3⟩ := j.finish st hd hsz hr
      exact hQ R2 act w (hE0.trans hn0 h1) (Nat.le_trans hn0 h2) h3
    · refine j.next hE hc hF st hd hh hi fun l2 d2 Hd2 fr2 R2 act2 w2 g1 g2 j2 g3 g4 => ?_
      refine ih _ l2 d2 Hd2 fr2 R2 act2 w2 j2 g3 g4 (by simpa using hsz) ?_ (hE0.trans hn0 g1) (Nat.le_trans hn0 g2)
      have hi' := ready_not hi
      obtain ⟨hlt, hgi⟩ := Array.getElem?_eq_some_iff.1 hi'
      have hm : false ∈ listed.toList := by
        rw [← Array.getElem?_toList] at hi'
        exact List.mem_of_getElem? hi'
      have h1 : (listed.setIfInBounds i true).toList.count false = listed.toList.count false - 1 := by
        rw [Array.toList_setIfInBounds, List.count_set (by simpa using hlt)]
        simp [hgi]
      omega
/-- A region whose order is drawn. -/
theorem draw_ok (hm : P.follows .mixedOrders = true) (hE : EnvOK P E) : DrawOK P (drawA E) := by
  intro call hc nt ops a s r h F m fr R w0 w ds act id Q hF hrel hQ
  unfold drawA at h
  simp only at h
  obtain ⟨hst, h⟩ := bif_some h
  split at h <;> try (cases h; done)
  rename_i df hrun
  obtain ⟨hdn, h⟩ := bif_some h
  cases h
  have hdn := nbeq_of hdn
  have st : Stat ops (closM ops.toList 0 .leaf) df := {
    mask := closM_ok ops
    all := closM_all ops
    full := fun k o ho => by
      rw [hdn, show Nat.shiftLeft 1 ops.toList.length = 1 <<< ops.toList.length from rfl, Nat.one_shiftLeft, Nat.testBit_two_pow_sub_one]
      have := (Array.getElem?_eq_some_iff.1 ho).1
      simpa using this
    one := fun k k' t o o' ho ho' hd hd' => stat_one hst k k' t o o' (by rw [Array.getElem?_toList]; exact ho) (by rw [Array.getElem?_toList]; exact ho') hd hd'
    sees := fun i m o ho hm' t ht k ok hk hd => stat_sees hst (by rw [Array.getElem?_toList]; exact ho) hm' t ht k ok (by rw [Array.getElem?_toList]; exact hk) hd
    gd := fun i m o ho hm' g b og hg hog => by
      obtain ⟨⟨m2, e1, _, e2⟩, _⟩ := statOK_of ops.toList 0 rfl hst i o (Nat.zero_le _) (by rw [Array.getElem?_toList]; exact ho)
      rw [hm'] at e1
      cases e1
      exact e2 g b og hg (by rw [Array.getElem?_toList]; exact hog) }
  have hlst : ∀ k : Nat, (Array.replicate ops.size false)[k]? ≠ some true := fun k h => by
    rw [Array.getElem?_replicate] at h
    split at h <;> cases h
  refine wpIn_region_any hm ?_
  refine J.any hE hc hF st (R0 := R) (n0 := s.nx) hQ ops.size _ _ _ (fun _ => none) fr R act _ ⟨hrun, fun k hk => ?_, fun i k hi _ => absurd hi (hlst i), ⟨hrel.hr.os, hrel.hr.tape, hrel.hr.output, hrel.hr.fr, hrel.hr.lt, hrel.hr.own, hrel.hr.inj⟩, fun _ _ h => h, fun i D sz o h => (by cases h), fun i k D sz o s2 o2 h => (by cases h), fun i hi => absurd hi (hlst i), fun i di di' hi => absurd hi (hlst i), fun i di di' op t hi => absurd hi (hlst i), fun t x hx _ => hrel.tr t x hx, hrel.nt, hrel.ds, fun i j oj hi => ?_⟩ (fun i k hi => ?_) ⟨none, [], rfl⟩ (by simp) (by simp) (Ext.refl _ _) (Nat.le_refl _)
  · rw [Nat.zero_testBit] at hk; cases hk
  · rw [Nat.zero_testBit] at hi; cases hi
  · rw [Nat.zero_testBit] at hi; cases hi
end
end
end Go.Proofs.YtbioklhoolkhkadGreatDoor
namespace Go.Proofs.YtbioklhoolkhkadGreatDoor
set_option linter.unusedVariables false
set_option linter.unusedSimpArgs false
set_option linter.unusedSectionVars false
open Go Go.RowKit
noncomputable section

/-- Code as a list of steps. -/
def flatC : Code → List Code
  | .seq x y => flatC x ++ flatC y
  | c => [c]
def bodyOf (fn : Func) : Code := match fn.body with
  | some c => c
  | none => .skip
section
variable {P : Program} {E : Env} {draw : Draw} {F : Fence} {m : Nat} {Q : Exit → Act → World → Prop}
def WL (F : Fence) (m : Nat) (P : Program) (Q : Exit → Act → World → Prop) : List Code → Act → World → Prop
  | [], a, w => Q .normal a w
  | c :: l, a, w => c.wpIn F m P (Exit.then (WL F m P Q l) Q) a w
theorem WL_append : ∀ (l1 : List Code) {l2 : List Code} {a : Act} {w : World}, WL F m P (Exit.then (WL F m P Q l2) Q) l1 a w → WL F m P Q (l1 ++ l2) a w
  | [], l2, a, w, h => h
  | c :: l1, l2, a, w, h => by
    refine wpIn_mono (Q := Exit.then (WL F m P (Exit.then (WL F m P Q l2) Q) l1) (Exit.then (WL F m P Q l2) Q)) h fun e a w he => ?_
    cases e with
    | normal => exact WL_append l1 he
    | exit id => exact he
    | goto l => exact he
    | ret => exact he
    | panic c => exact he
    | outgrown => exact he
theorem WL_flat : ∀ (c : Code) {l : List Code} {a : Act} {w : World}, WL F m P Q (flatC c ++ l) a w → c.wpIn F m P (Exit.then (WL F m P Q l) Q) a w
  | .seq x y, l, a, w, h => by
    unfold flatC at h
    rw [List.append_assoc] at h
    refine wpIn_seq ?_
    refine wpIn_mono (WL_flat x h) fun e a w he => ?_
    cases e with
    | normal => exact WL_flat y he
    | exit id => exact he
    | goto l => exact he
    | ret => exact he
    | panic c => exact he
    | outgrown => exact he
  | .skip, l, a, w, h => h
  | .label _, l, a, w, h => h
  | .ret, l, a, w, h => h
  | .exit _, l, a, w, h => h
  | .goto _, l, a, w, h => h
  | .region .., l, a, w, h => h
  | .cond .., l, a, w, h => h
  | .block .., l, a, w, h => h
  | .loop _, l, a, w, h => h
  | .rangeFunc .., l, a, w, h => h
  | .scope _, l, a, w, h => h
  | .refuse _, l, a, w, h => h
/-- What a list of steps comes to. -/
def PieceOK (P : Program) (inr : Bool) (nt : Nat) (l : List Code) (a : Tree AV) (s : St) (x : Ex) (a' : Tree AV) (s' : St) : Prop :=
  ∀ (F : Fence) (m : Nat) (fr : Nat → Option Obj) (R : Nat → Nat × Nat) (w0 w : World) (ds : List Deferred) (act : Act) (Q : Exit → Act → World → Prop), Loose F → F.round.isSome = inr → Rel fr w0 nt ds R a s act w →
  (∀ fr' ds' R' act' w', Grown inr fr ds fr' ds' → Ext s.nx R R' → s.nx ≤ s'.nx → Rel fr' w0 nt ds' R' a' s' act' w' → Q x.to act' w') → WL F m P Q l act w
theorem PieceOK.append {inr : Bool} {nt : Nat} {l1 l2 : List Code} {a a1 a2 : Tree AV} {s s1 s2 : St} {x : Ex} (h : PieceOK P inr nt l1 a s .nrm a1 s1) (h' : PieceOK P inr nt l2 a1 s1 x a2 s2) : PieceOK P inr nt (l1 ++ l2) a s x a2 s2 := by
  intro F m fr R w0 w ds act Q hF hro hrel hQ
  refine WL_append l1 (h F m fr R w0 w ds act _ hF hro hrel fun fr1 ds1 R1 act1 w1 hG1 hE1 hn1 hr1 => ?_)
  exact h' F m fr1 R1 w0 w1 ds1 act1 Q hF hro hr1 fun fr2 ds2 R2 act2 w2 hG2 hE2 hn2 hr2 => hQ fr2 ds2 R2 act2 w2 (hG1.trans hG2) (hE1.trans hn1 hE2) (Nat.le_trans hn1 hn2) hr2
/-- A piece that is left early: what follows does not matter. -/
theorem PieceOK.leave {inr : Bool} {nt : Nat} {l1 l2 : List Code} {a a1 : Tree AV} {s s1 : St} {x : Ex} (h : PieceOK P inr nt l1 a s x a1 s1) (hx : x ≠ .nrm) : PieceOK P inr nt (l1 ++ l2) a s x a1 s1 := by
  intro F m fr R w0 w ds act Q hF hro hrel hQ
  refine WL_append l1 (h F m fr R w0 w ds act _ hF hro hrel fun fr1 ds1 R1 act1 w1 hG1 hE1 hn1 hr1 => ?_)
  have := hQ fr1 ds1 R1 act1 w1 hG1 hE1 hn1 hr1
  cases x with
  | nrm => exact absurd rfl hx
  | exit id => exact this
  | goto l => exact this
  | ret => exact this
/-- A list of steps evaluated. -/
def evL (E : Env) (draw : Draw) (n : Nat) (inr : Bool) (nt : Nat) : List Code → Tree AV → St → Option (Ex × Tree AV × St)
  | [], a, s => some (.nrm, a, s)
  | c :: l, a, s => match ev E draw n inr nt c a s with
    | none => none
    | some (x, a, s) => match x with
      | .nrm => evL E draw n inr nt l a s
      | x => some (x, a, s)
theorem evL_sound (hE : EnvOK P E) (hD : DrawOK P draw) {n : Nat} {inr : Bool} {nt : Nat} : ∀ (l : List Code) {a : Tree AV} {s : St} {x : Ex} {a' : Tree AV} {s' : St}, evL E draw n inr nt l a s = some (x, a', s') → PieceOK P inr nt l a s x a' s'
  | [], a, s, x, a', s', h => by
    cases h
    exact fun F m fr R w0 w ds act Q hF hro hrel hQ => hQ fr ds R act w (Grown.refl _ _ _) (Ext.refl _ _) (Nat.le_refl _) hrel
  | c :: l, a, s, x, a', s', h => by
    simp only [evL] at h
    split at h <;> try (cases h; done)
    rename_i x1 a1 s1 hx
    have hc := (ev_sound hE hD n).1 n (Nat.le_refl _) inr nt c a s x1 a1 s1 hx
    intro F m fr R w0 w ds act Q hF hro hrel hQ
    refine hc F m fr R w0 w ds act _ hF hro hrel fun fr1 ds1 R1 act1 w1 hG1 hE1 hn1 hr1 => ?_
    cases x1 with
    | nrm => exact evL_sound hE hD l h F m fr1 R1 w0 w1 ds1 act1 Q hF hro hr1 fun fr2 ds2 R2 act2 w2 hG2 hE2 hn2 hr2 => hQ fr2 ds2 R2 act2 w2 (hG1.trans hG2) (hE1.trans hn1 hE2) (Nat.le_trans hn1 hn2) hr2
    | exit id => cases h; exact hQ fr1 ds1 R1 act1 w1 hG1 hE1 hn1 hr1
    | goto l => cases h; exact hQ fr1 ds1 R1 act1 w1 hG1 hE1 hn1 hr1
    | ret => cases h; exact hQ fr1 ds1 R1 act1 w1 hG1 hE1 hn1 hr1
end
/-- Are all of these there? -/
def subT (t : Tree AV) : List (Nat × AV) → Bool
  | [] => true
  | e :: l => match t.get e.1 with
    | some y => bif eqV y e.2 then subT t l else false
    | none => false
theorem subT_of {t : Tree AV} : ∀ {l : List (Nat × AV)}, subT t l = true → ∀ e ∈ l, t.get e.1 = some e.2
  | [], _, e, he => by cases he
  | e' :: l, h, e, he => by
    simp only [subT] at h
    split at h <;> try (cases h; done)
    rename_i y hy
    cases hb : eqV y e'.2 with
    | false => rw [hb] at h; cases h
    | true =>
      rw [hb, cond_true] at h
      rcases List.mem_cons.1 he with rfl | he
      · rw [hy, eqV_of hb]
      · exact subT_of h e he
def eqEx : Ex → Ex → Bool
  | .nrm, .nrm => true
  | .ret, .ret => true
  | _, _ => false
/-- A piece, with all that is needed of what is there ahead of it and behind it. -/
def pieceB (E : Env) (draw : Draw) (n : Nat) (nt : Nat) (l : List Code) (ta : List (Nat × AV)) (sb : List (Nat × Blk)) (nx : Nat) (x : Ex) (ta' : List (Nat × AV)) (sb' : List (Nat × Blk)) (nx' : Nat) : Bool :=
  match evL E draw n false nt l (treeOf ta) ⟨treeOf sb, nx⟩ with
  | some (y, a, s) => eqEx y x && subT a ta' && subB s.h sb' && Nat.beq s.nx nx'
  | none => false
section
variable {P : Program} {E : Env} {draw : Draw}
theorem piece_ok (hE : EnvOK P E) (hD : DrawOK P draw) {n nt : Nat} {l : List Code} {ta ta' : List (Nat × AV)} {sb sb' : List (Nat × Blk)} {nx nx' : Nat} {x : Ex} (h : pieceB E draw n nt l ta sb nx x ta' sb' nx' = true) :
    PieceOK P false nt l (treeOf ta) ⟨treeOf sb, nx⟩ x (treeOf ta') ⟨treeOf sb', nx'⟩ := by
  unfold pieceB at h
  split at h <;> try (cases h; done)
  rename_i y a s hev
  simp only [Bool.and_eq_true] at h
  obtain ⟨⟨⟨h1, h2⟩, h3⟩, h4⟩ := h
  have hyx : y = x := by cases y <;> cases x <;> first | rfl | cases h1
  subst hyx
  have h4 := nbeq_of h4
  intro F m fr R w0 w ds act Q hF hro hrel hQ
  refine evL_sound hE hD l hev F m fr R w0 w ds act Q hF hro hrel fun fr1 ds1 R1 act1 w1 hG1 hE1 hn1 hr1 => ?_
  have hsub : ∀ b blk, (treeOf sb').get b = some blk → s.h.get b = some blk := fun b blk hb => subB_of h3 _ (treeOf_get hb)
  have hsub2 : ∀ b, (treeOf sb').get b ≠ none → s.h.get b ≠ none := fun b hb => by
    cases hx : (treeOf sb').get b with
    | none => exact absurd hx hb
    | some blk => rw [hsub b blk hx]; simp
  refine hQ fr1 ds1 R1 act1 w1 hG1 hE1 (by rw [← h4]; exact hn1) ⟨?_, fun t z hz => ?_, hr1.nt, hr1.ds⟩
  · have := hr1.hr
    rw [← h4]
    exact ⟨this.os, this.tape, this.output, this.fr, fun b hb => this.lt b (hsub2 b hb), fun b z hz => this.own b z (hsub b z hz), fun b c hb hc e => this.inj b c (hsub2 b hb) (hsub2 c hc) e⟩
  · rw [← h4]
    exact hr1.tr t z (subT_of h2 _ (treeOf_get hz))
/-- A call evaluated ahead. -/
def litB (E : Env) (draw : Draw) (n : Nat) (c : LitC) : Bool := match callE E draw n (.fn c.f c.fst c.caps) c.xs ⟨treeOf c.sb, c.nx⟩ with
  | some (r, s) => eqV r c.r && subB s.h c.sb' && Nat.beq s.nx c.nx'
  | none => false
theorem lit_ok (hE : EnvOK P E) (hD : DrawOK P draw) {n : Nat} {c : LitC} (h : litB E draw n c = true) : LitOK P c := by
  unfold litB at h
  split at h <;> try (cases h; done)
  rename_i r s hc
  simp only [Bool.and_eq_true] at h
  obtain ⟨⟨h1, h2⟩, h3⟩ := h
  have h1 := eqV_of h1
  have h3 := nbeq_of h3
  subst h1
  obtain ⟨g1, g2⟩ := (ev_sound hE hD n).2.2 n (Nat.le_refl _) _ _ _ _ _ _ _ hc
  refine ⟨g1, fun fr R w0 w us cs vs hr hus hcs hxs => (callsIn_wide (n := 0)).1 (CallsIn.mono (g2 Fence.wide 0 fr R w0 w us cs vs (.inl rfl) hr hus hcs hxs) ?_)⟩
  rintro e w' ⟨v, R', rfl, k1, k2, k3, k4⟩
  have hsub : ∀ b blk, (treeOf c.sb').get b = some blk → s.h.get b = some blk := fun b blk hb => subB_of h2 _ (treeOf_get hb)
  have hsub2 : ∀ b, (treeOf c.sb').get b ≠ none → s.h.get b ≠ none := fun b hb => by
    cases hx : (treeOf c.sb').get b with
    | none => exact absurd hx hb
    | some blk => rw [hsub b blk hx]; simp
  rw [h3] at k2 k4
  refine ⟨v, R', rfl, k1, k2, ?_, k4⟩
  rw [← h3]
  exact ⟨k3.os, k3.tape, k3.output, k3.fr, fun b hb => k3.lt b (hsub2 b hb), fun b z hz => k3.own b z (hsub b z hz), fun b d hb hd e => k3.inj b d (hsub2 b hb) (hsub2 d hd) e⟩
/-- A function without arguments whose body comes to a truth value. -/
theorem known_ok {f : FuncId} {fn : Func} {c : Code} (hp : P.funcs[f]? = some fn) (hname : (fn.name == "runtime.NumGoroutine") = false) (hb : fn.body = some c) (hE : EnvOK P E) {x : Ex} {a : Tree AV} {s : St} (hpc : PieceOK P false fn.ntmps (flatC c) .leaf ⟨.leaf, 0⟩ x a s)
    (hx : x = .nrm ∨ x = .ret) {b : Bool} (hr : mapO (resA E a s) fn.results.toList = some [.b b]) : KnownOK P f (.b b) := by
  have h1 : fn.name ≠ "runtime.NumGoroutine" := by simpa using hname
  refine ⟨fun args w => by simp [callFunc, hp, h1, hb], fun fr R s0 w0 w hh => ?_⟩
  classical
  let fr2 : Nat → Option Obj := fun k => if ∃ b, s0.h.get b ≠ none ∧ (R b).1 = k then w.heap[k]? else fr k
  have hfr2 : ∀ k o, fr k = some o → fr2 k = some o := fun k o hk => by
    have : ¬ ∃ b, s0.h.get b ≠ none ∧ (R b).1 = k := by
      rintro ⟨b, hb, e⟩
      cases hx : s0.h.get b with
      | none => exact hb hx
      | some y =>
        have := (hh.own b y hx).1
        rw [e, hk] at this
        cases this
    show (if _ then _ else _) = _
    rw [if_neg this]
    exact hk
  have hr2 : HR fr2 R ⟨.leaf, 0⟩ w0 w := by
    refine ⟨hh.os, hh.tape, hh.output, fun k o hk => ?_, fun b hb => absurd (Tree.get_leaf b) hb, fun b y hy => ?_, fun b c hb => absurd (Tree.get_leaf b) hb⟩
    · by_cases e : ∃ b, s0.h.get b ≠ none ∧ (R b).1 = k
      · have h3 : fr2 k = w.heap[k]? := if_pos e
        rw [← h3]
        exact hk
      · have h3 : fr2 k = fr k := if_neg e
        rw [h3] at hk
        exact hh.fr k o hk
    · have hy : (Tree.leaf : Tree Blk).get b = some y := hy
      rw [Tree.get_leaf] at hy
      cases hy
  have back : ∀ w' R' s', HR fr2 R' s' w0 w' → HR fr R s0 w0 w' := fun w' R' s' h => by
    refine ⟨h.os, h.tape, h.output, fun k o hk => h.fr k o (hfr2 k o hk), hh.lt, fun b y hy => ?_, hh.inj⟩
    obtain ⟨g1, o, g2, g3⟩ := hh.own b y hy
    refine ⟨g1, o, h.fr _ _ ?_, g3⟩
    have h3 : fr2 (R b).1 = w.heap[(R b).1]? := if_pos ⟨b, by rw [hy]; simp, rfl⟩
    rw [h3]
    exact g2
  refine (callsIn_wide (n := 0)).1 (callsIn_of_wp_marks (R := fun e w' => ∃ v, e = .returned v ∧ HR fr R s0 w0 w' ∧ ∀ R' n', VR R' n' (.b b) v) hp hb trivial ?_ rfl)
  have hrel : Rel fr2 w0 fn.ntmps [] R .leaf ⟨.leaf, 0⟩ { tmps := #[] ++ Array.replicate (fn.ntmps - (#[] : Array Value).size) undef, defers := [] } w := by
    refine ⟨hr2, fun t x hx => ?_, by simp, rfl⟩
    rw [Tree.get_leaf] at hx
    cases hx
  refine wpIn_mono (WL_flat (l := []) c (Q := bodyPostM Fence.wide 0 P fn (fun e w' => ∃ v, e = .returned v ∧ HR fr R s0 w0 w' ∧ ∀ R' n', VR R' n' (.b b) v)) ?_) fun e a w he => ?_
  · rw [List.append_nil]
    refine hpc Fence.wide 0 fr2 R w0 w [] _ _ (.inl rfl) rfl hrel fun fr1 ds1 R1 act1 w1 hG1 hE1 hn1 hr1 => ?_
    have key : LeavesInM Fence.wide 0 P fn act1.tmps (fun e w' => ∃ v, e = .returned v ∧ HR fr R s0 w0 w' ∧ ∀ R' n', VR R' n' (.b b) v) act1.defers .returning w1 := by
      obtain ⟨ms, _, hnd, hds, hfr, hms⟩ := hG1
      rw [hr1.ds, hds, List.append_nil]
      refine leaves_marks rfl (fr := fr2) (R := R1) (s := s) (w0 := w0) (fun w' hw' => ?_) ms w1 (hr1.hr.less hfr) hnd fun D hD => ?_
      · obtain ⟨v, g1, g2⟩ := res_sound hE hw' hr1.tr hr
        simp only [resultA, VR] at g2
        subst g2
        exact ⟨_, g1, _, rfl, back w' _ _ hw', fun R' n' => by simp only [VR]⟩
      · obtain ⟨g1, g2⟩ := hms D hD
        refine ⟨hr1.hr.fr D _ g1, g2, fun b hb' e => ?_⟩
        cases hx' : s.h.get b with
        | none => exact hb' hx'
        | some y =>
          have := (hr1.hr.own b y hx').1
          rw [e, g1] at this
          cases this
    rcases hx with rfl | rfl
    · exact key
    · exact key
  · cases e with
    | normal => exact he
    | exit id => exact he
    | goto l => exact he
    | ret => exact he
    | panic c => exact he
    | outgrown => exact he
end
end
end Go.Proofs.YtbioklhoolkhkadGreatDoor
namespace Go.Proofs.YtbioklhoolkhkadGreatDoor
set_option linter.unusedVariables false
set_option linter.unusedSimpArgs false
open Go.ChangeShapes Go.WideShapes Go.ChangeAt Go.RowKit Go.Joins Go.Deep
noncomputable section

theorem Tryz.own : ownKnob Tryz.prog.godebug = none := by kernel_rfl
theorem Tryz.laidOut : laidOutB Tryz.prog = true := by kernel_rfl

section
variable {H : Type} {enc : TypeId × Value → H} {P : Program}
theorem post_of_below {f : Func} {s : ChangeSpec} {apart fresh handsOn again : Bool} {W W' : World} {args : Array Value} {v : Value} {ds gs : List (DataW H)} {before pa pv : List MemPlace}
    (hW : DataW.Whole enc P f.params.toList s.vars apart W args.toList ds gs before)
    (hres : ∀ (b : Nat) (sp : Nat → Bool) (hd : Bool), DataW.TrodAll enc P W' b sp hd f.resultTypes.toList (v.resultList f.resultTypes.size) (s.fn H (ds ++ gs)).results [])
    (hargs : ∀ sp : Nat → Bool, (∀ p ∈ before, sp p.block = true) → DataW.TrodAll enc P W' 0 sp true f.params.toList args.toList (s.fn H (ds ++ gs)).args pa)
    (hvars : ∀ sp : Nat → Bool, (∀ p ∈ before, sp p.block = true) → DataW.TrodVars enc P W' sp s.vars (s.fn H (ds ++ gs)).vars pv)
    (hps : before = pa ++ pv) (hb : Below W.heap.size W W')
    (hok : ∀ (j : Nat) (t : TypeId) (r : Value), f.resultTypes[j]? = some t → (v.resultList f.resultTypes.size)[j]? = some r → Value.okWide P W' .any 0 t r) :
    s.post enc P f apart fresh handsOn again W args v W' := by
  have hlt : ∀ p ∈ before, p.block < W.heap.size := fun p hp => hW.lt p hp
  have hold : ∀ p ∈ before, (fun b => decide (b < W.heap.size)) p.block = true := fun p hp => by simpa using hlt p hp
  refine ⟨ds, gs, before, [], pa, pv, hW, hres _ _ _, hargs _ hold, hvars _ hold, World.keptBut_mono (fun p hp => ⟨hp, ?_⟩) (hb.frame (· ∈ before)), fun _ => ?_⟩
  · rw [hps, List.mem_append] at hp
    exact Or.inr hp
  · obtain ⟨_, _, _, _, _, hz, hn⟩ := hW
    refine ⟨hok, _, _, ([] ++ pa) ++ pv, ⟨[] ++ pa, pv, trodAll_append (hargs _ (fun _ _ => rfl)) (hres _ _ _), hvars _ (fun _ _ => rfl), rfl, ?_, ?_⟩, ?_⟩
    · intro b off hp
      have hin : MemPlace.cell b off ∈ before := by rw [hps]; simpa using hp
      rw [hb.frozen (hlt _ hin)]
      exact hz b off hin
    · intro ha
      have := hn ha
      rw [hps] at this
      simpa using this
    · intro p hp _
      rw [hps]
      simpa using hp

end
theorem names_ok : (Tryz.prog.funcs.toList.all fun fn => !(fn.name == "runtime.NumGoroutine")) = true := by kernel_rfl
theorem follows_ok : Tryz.prog.follows .mixedOrders = true := by kernel_rfl
/-- A known function leaves all as it was. -/
theorem KnownOK.below {P : Program} {f : FuncId} {b : Bool} (h : KnownOK P f (.b b)) (w : World) : Calls P f #[] w fun e w' => e = .returned (.bool b) ∧ Below w.heap.size w w' := by
  refine (h.2 (fun k => w.heap[k]?) (fun _ => (0, 0)) ⟨.leaf, 0⟩ w w ⟨rfl, rfl, rfl, fun k o h => h, fun b hb => absurd (Tree.get_leaf b) hb, fun b y hy => ?_, fun b c hb => absurd (Tree.get_leaf b) hb⟩).mono ?_
  · have hy : (Tree.leaf : Tree Blk).get b = some y := hy
    rw [Tree.get_leaf] at hy
    cases hy
  · rintro e w' ⟨v, rfl, h1, h2⟩
    have h3 := h2 (fun _ => (0, 0)) 0
    simp only [VR] at h3
    subst h3
    refine ⟨rfl, h1.os, h1.tape, h1.output, ?_, fun k hk => ?_⟩
    · rcases Nat.eq_zero_or_pos w.heap.size with h0 | h0
      · omega
      · have hk : w.heap[w.heap.size - 1]? = some (w.heap[w.heap.size - 1]'(by omega)) := Array.getElem?_eq_getElem (by omega)
        have := lt_of_heap (h1.fr _ _ hk)
        omega
    · have hk' : w.heap[k]? = some (w.heap[k]'hk) := Array.getElem?_eq_getElem hk
      rw [hk', h1.fr _ _ hk']
end
end Go.Proofs.YtbioklhoolkhkadGreatDoor
namespace Go.Proofs.YtbioklhoolkhkadGreatDoor
set_option linter.unusedVariables false
set_option linter.unusedSimpArgs false
set_option linter.unusedSectionVars false
open Go Go.RowKit
noncomputable section

structure KTG (d : Nat) where
  run : TT AV d → Option AV
def ktg (d : Nat) : Nat → KTG d := Nat.rec (motive := fun d => Nat → KTG d) (fun _ => ⟨fun x => x⟩) (fun d ih n => Nat.rec ⟨fun x => (ih (Nat.div n 4)).run (P4.a (β := TT AV d) x)⟩ (fun k _ => Nat.rec ⟨fun x => (ih (Nat.div n 4)).run (P4.b (β := TT AV d) x)⟩ (fun k _ => Nat.rec ⟨fun x => (ih (Nat.div n 4)).run (P4.c (β := TT AV d) x)⟩ (fun _ _ => ⟨fun x => (ih (Nat.div n 4)).run (P4.d (β := TT AV d) x)⟩) k) k) (Nat.mod n 4)) d
theorem ktg_succ (d n : Nat) : ktg (d + 1) n = if n % 4 = 0 then ⟨fun x => (ktg d (n / 4)).run (TT.pa x)⟩ else if n % 4 = 1 then ⟨fun x => (ktg d (n / 4)).run (TT.pb x)⟩ else if n % 4 = 2 then ⟨fun x => (ktg d (n / 4)).run (TT.pc x)⟩ else ⟨fun x => (ktg d (n / 4)).run (TT.pd x)⟩ := rec4 _ _ _ _ _
theorem ktg_eq : ∀ (d n : Nat) (x : TT AV d), (ktg d n).run x = TT.get d x n
  | 0, n, x => rfl
  | d + 1, n, x => by
    rw [ktg_succ, TT.get_succ]
    split
    · exact ktg_eq d (n / 4) (TT.pa x)
    · split
      · exact ktg_eq d (n / 4) (TT.pb x)
      · split
        · exact ktg_eq d (n / 4) (TT.pc x)
        · exact ktg_eq d (n / 4) (TT.pd x)
structure KTS (d : Nat) where
  run : TT AV d → Option AV → TT AV d
def kts (d : Nat) : Nat → KTS d := Nat.rec (motive := fun d => Nat → KTS d) (fun _ => ⟨fun _ v => v⟩) (fun d ih n => Nat.rec ⟨fun (x : P4 (TT AV d)) v => P4.mk ((ih (Nat.div n 4)).run x.a v) x.b x.c x.d⟩ (fun k _ => Nat.rec ⟨fun (x : P4 (TT AV d)) v => P4.mk x.a ((ih (Nat.div n 4)).run x.b v) x.c x.d⟩ (fun k _ => Nat.rec ⟨fun (x : P4 (TT AV d)) v => P4.mk x.a x.b ((ih (Nat.div n 4)).run x.c v) x.d⟩ (fun _ _ => ⟨fun (x : P4 (TT AV d)) v => P4.mk x.a x.b x.c ((ih (Nat.div n 4)).run x.d v)⟩) k) k) (Nat.mod n 4)) d
theorem kts_succ (d n : Nat) : kts (d + 1) n = if n % 4 = 0 then ⟨fun x v => TT.mk4 ((kts d (n / 4)).run (TT.pa x) v) (TT.pb x) (TT.pc x) (TT.pd x)⟩ else if n % 4 = 1 then ⟨fun x v => TT.mk4 (TT.pa x) ((kts d (n / 4)).run (TT.pb x) v) (TT.pc x) (TT.pd x)⟩ else if n % 4 = 2 then ⟨fun x v => TT.mk4 (TT.pa x) (TT.pb x) ((kts d (n / 4)).run (TT.pc x) v) (TT.pd x)⟩ else ⟨fun x v => TT.mk4 (TT.pa x) (TT.pb x) (TT.pc x) ((kts d (n / 4)).run (TT.pd x) v)⟩ := rec4 _ _ _ _ _
theorem kts_eq (v : Option AV) : ∀ (d n : Nat) (x : TT AV d), (kts d n).run x v = TT.set v d x n
  | 0, n, x => rfl
  | d + 1, n, x => by
    rw [kts_succ, TT.set_succ]
    split
    · simp only [kts_eq v d (n / 4)]
    · split
      · simp only [kts_eq v d (n / 4)]
      · split
        · simp only [kts_eq v d (n / 4)]
        · simp only [kts_eq v d (n / 4)]
structure KOpd where
  run : Tree AV → Option AV
def kget (n : Nat) : KOpd := Bool.rec ⟨fun a => a.hi.get n⟩ ⟨fun a => (ktg 4 n).run a.lo⟩ (Nat.beq (Nat.div n 256) 0)
theorem kget_eq (n : Nat) (a : Tree AV) : (kget n).run a = a.get n := by
  unfold kget Tree.get
  cases Nat.beq (Nat.div n 256) 0 with
  | true => exact ktg_eq 4 n a.lo
  | false => rfl
structure KSet where
  run : Tree AV → AV → Tree AV
def kset (n : Nat) : KSet := Bool.rec ⟨fun a x => ⟨a.lo, a.hi.set n (some x)⟩⟩ ⟨fun a x => ⟨(kts 4 n).run a.lo (some x), a.hi⟩⟩ (Nat.beq (Nat.div n 256) 0)
theorem kset_eq (n : Nat) (a : Tree AV) (x : AV) : (kset n).run a x = a.set n (some x) := by
  unfold kset Tree.set
  cases Nat.beq (Nat.div n 256) 0 with
  | true =>
    show (⟨(kts 4 n).run a.lo (some x), a.hi⟩ : Tree AV) = ⟨TT.set (some x) 4 a.lo n, a.hi⟩
    rw [kts_eq]
  | false => rfl
def kopd (x : Operand) : KOpd := Operand.rec (fun t => kget t) (fun v => ⟨fun _ => ofV 2 v⟩) (fun _ => ⟨fun _ => none⟩) (fun f => ⟨fun _ => some (.fn f [] [])⟩) x
theorem kopd_eq (x : Operand) (a : Tree AV) : (kopd x).run a = opd a x := by
  cases x
  case tmp t => exact kget_eq t a
  all_goals rfl
structure KArgs where
  run : Tree AV → Option (List AV)
def kargs (l : List Operand) : KArgs := List.rec ⟨fun _ => some []⟩ (fun x _ ih => ⟨fun a => Option.rec none (fun v => Option.rec none (fun vs => some (v :: vs)) (ih.run a)) ((kopd x).run a)⟩) l
theorem kargs_eq (a : Tree AV) : ∀ l : List Operand, (kargs l).run a = mapO (opd a) l
  | [] => rfl
  | x :: l => by
    show (Option.rec none (fun v => Option.rec none (fun vs => some (v :: vs)) ((kargs l).run a)) ((kopd x).run a) : Option (List AV)) = _
    rw [kargs_eq a l, kopd_eq, mapO]
    cases opd a x with
    | none => rfl
    | some v => cases mapO (opd a) l <;> rfl
/-- A pointer's block and place. -/
def asP (x : AV) : Option (Nat × Nat) := AV.rec (motive_1 := fun _ => Option (Nat × Nat)) (motive_2 := fun _ => Unit) (fun _ => none) (fun _ _ => none) (fun _ => none) none (fun b o => some (b, o)) none (fun _ _ _ _ _ _ => none) none (fun _ => none) none (fun _ _ _ _ _ => none) (fun _ => none) none (fun _ _ => none) (fun _ _ => none) () (fun _ _ _ _ => ()) x
def asSl (x : AV) : Option (Nat × Nat × Nat) := AV.rec (motive_1 := fun _ => Option (Nat × Nat × Nat)) (motive_2 := fun _ => Unit) (fun _ => none) (fun k n => none) (fun _ => none) none (fun b o => none) none (fun b o l _ _ _ => some (b, o, l)) none (fun _ => none) none (fun _ _ _ _ _ => none) (fun _ => none) none (fun _ _ => none) (fun _ _ => none) () (fun _ _ _ _ => ()) x
def asTup (x : AV) : Option (List AV) := AV.rec (motive_1 := fun _ => Option (List AV)) (motive_2 := fun _ => Unit) (fun _ => none) (fun k n => none) (fun _ => none) none (fun b o => none) none (fun _ _ _ _ _ _ => none) none (fun _ => none) none (fun _ _ _ _ _ => none) (fun _ => none) none (fun _ _ => none) (fun l _ => some l) () (fun _ _ _ _ => ()) x
def asN (x : AV) : Option Nat := AV.rec (motive_1 := fun _ => Option Nat) (motive_2 := fun _ => Unit) (fun _ => none) (fun k n => Int.rec (fun n => some n) (fun _ => none) n) (fun _ => none) none (fun b o => none) none (fun _ _ _ _ _ _ => none) none (fun _ => none) none (fun _ _ _ _ _ => none) (fun _ => none) none (fun _ _ => none) (fun _ _ => none) () (fun _ _ _ _ => ()) x
/-- May it lie in one cell? -/
def oneK (x : AV) : Bool := AV.rec (motive_1 := fun _ => Bool) (motive_2 := fun _ => Unit) (fun _ => true) (fun _ _ => true) (fun _ => true) true (fun _ _ => true) true (fun _ _ _ _ _ _ => true) true (fun _ => true) true (fun _ _ _ _ _ => true) (fun _ => true) true (fun _ _ => false) (fun _ _ => false) () (fun _ _ _ _ => ()) x
def thereK (x : AV) : Bool := AV.rec (motive_1 := fun _ => Bool) (motive_2 := fun _ => Unit) (fun _ => false) (fun _ _ => false) (fun _ => false) false (fun _ _ => true) false (fun _ _ _ _ _ _ => false) false (fun _ => false) false (fun _ _ _ _ _ => true) (fun _ => false) false (fun _ _ => false) (fun _ _ => false) () (fun _ _ _ _ => ()) x
def asCs (x : Blk) : Option (List AV) := Blk.rec (fun _ cs => some cs) (fun _ => none) (fun _ cs => some cs) (fun _ _ _ _ _ _ => none) x
def asRw (x : Blk) : Option (TypeId × List AV) := Blk.rec (fun e cs => some (e, cs)) (fun _ => none) (fun _ cs => none) (fun _ _ _ _ _ _ => none) x
def dpK (l : List AV) (n : Nat) : List AV := Nat.rec (fun l => l) (fun _ ih l => List.rec (motive := fun _ => List AV) [] (fun _ l _ => ih l) l) n l
theorem dpK_eq : ∀ (n : Nat) (l : List AV), dpK l n = l.drop n
  | 0, l => rfl
  | n + 1, [] => rfl
  | n + 1, x :: l => dpK_eq n l
/-- Cells from a place on, if there are so many. -/
def tkK (n : Nat) : List AV → Option (List AV) := Nat.rec (fun _ => some []) (fun _ ih l => List.rec (motive := fun _ => Option (List AV)) none (fun x l _ => Option.rec none (fun r => some (x :: r)) (ih l)) l) n
theorem tkK_eq : ∀ (n : Nat) (l : List AV), tkK n l = if n ≤ l.length then some (l.take n) else none
  | 0, l => by simp; rfl
  | n + 1, [] => by rw [if_neg (by simp)]; rfl
  | n + 1, x :: l => by
    show (Option.rec none (fun r => some (x :: r)) (tkK n l) : Option (List AV)) = _
    rw [tkK_eq n l]
    by_cases h : n ≤ l.length
    · rw [if_pos h, if_pos (by simpa using h)]; rfl
    · rw [if_neg h, if_neg (by simpa using h)]
def hdK (l : List AV) : Option AV := List.rec (motive := fun _ => Option AV) none (fun x _ _ => some x) l
def wrK (v : AV) (n : Nat) : List AV → Option (List AV) := Nat.rec (fun l => List.rec (motive := fun _ => Option (List AV)) none (fun _ l _ => some (v :: l)) l) (fun _ ih l => List.rec (motive := fun _ => Option (List AV)) none (fun x l _ => Option.rec none (fun r => some (x :: r)) (ih l)) l) n
theorem wrK_eq (v : AV) : ∀ (n : Nat) (l : List AV), wrK v n l = if n + 1 ≤ l.length then some (wrL l n [v]) else none
  | 0, [] => by rw [if_neg (by simp)]; rfl
  | 0, x :: l => by
    rw [if_pos (by simp)]
    show some (v :: l) = some (v :: wrL l 0 [])
    cases l <;> rfl
  | n + 1, [] => by rw [if_neg (by simp)]; rfl
  | n + 1, x :: l => by
    show (Option.rec none (fun r => some (x :: r)) (wrK v n l) : Option (List AV)) = _
    rw [wrK_eq v n l]
    by_cases h : n + 1 ≤ l.length
    · rw [if_pos h, if_pos (by simpa using h)]; rfl
    · rw [if_neg h, if_neg (by simpa using h)]
structure KV where
  run : Tree AV → St → Option AV
structure KO where
  run : CallF → Tree AV → St → Option (Option AV × St)
inductive KQ where
  | v (x : KV)
  | o (x : KO)
def KQ.ev (q : KQ) (call : CallF) (a : Tree AV) (s : St) : Option (Option AV × St) := match q with
  | .v x => (x.run a s).map fun v => (some v, s)
  | .o x => x.run call a s
def kload1 (x : KOpd) : KV := ⟨fun a s => Option.rec none (fun p => Option.rec none (fun q => Prod.rec (fun b o => Option.rec none (fun blk => Option.rec none (fun cs => hdK (dpK cs o)) (asCs blk)) (s.h.get b)) q) (asP p)) (x.run a)⟩
def kloadR (z : Nat) (x : KOpd) : KV := ⟨fun a s => Option.rec none (fun p => Option.rec none (fun q => Prod.rec (fun b o => Option.rec none (fun blk => Option.rec none (fun cs => Option.rec none (fun l => some (.agg l)) (tkK z (dpK cs o))) (asCs blk)) (s.h.get b)) q) (asP p)) (x.run a)⟩
def kstore1 (E : Env) (op : Op) (x v : KOpd) : KO := ⟨fun _ a s => Option.rec none (fun w => Bool.rec (evOp E a s op) (Option.rec none (fun p => Option.rec none (fun q => Prod.rec (fun b o => Option.rec none (fun blk => Option.rec none (fun cs => Prod.rec (fun e cs => Option.rec none (fun cs => some (none, ⟨s.h.set b (some (.cells e cs)), s.nx⟩)) (wrK w o cs)) cs) (asRw blk)) (s.h.get b)) q) (asP p)) (x.run a)) (oneK w)) (v.run a)⟩
def kfa (q : Nat) (x : KOpd) : KV := ⟨fun a s => Option.rec none (fun p => Option.rec none (fun r => Prod.rec (fun b o => some (.p b (Nat.add o q))) r) (asP p)) (x.run a)⟩
def kia (z : Nat) (x i : KOpd) : KV := ⟨fun a s => Option.rec none (fun p => Option.rec none (fun r => Option.rec none (fun i => Option.rec none (fun i => Bool.rec none (some (.p r.1 (Nat.add r.2.1 (Nat.mul i z)))) (Nat.ble (Nat.succ i) r.2.2)) (asN i)) (i.run a)) (asSl p)) (x.run a)⟩
def kbin (E : Env) (o : BinOp) (t : TypeId) (x y : KOpd) : KV := ⟨fun a s => Option.rec none (fun x => Option.rec none (fun y => binA E o t x y) (y.run a)) (x.run a)⟩
/-- The others, each by its own function. -/
def kgen (E : Env) (o : Oper) : KQ := match o.op with
  | .pick c x y => .o ⟨fun _ a s => eo_pick E a s c x y⟩
  | .alloc e => .o ⟨fun _ a s => eo_alloc E a s e⟩
  | .box e x => .o ⟨fun _ a s => eo_box E a s e x⟩
  | .field t x f => .o ⟨fun _ a s => eo_field E a s t x f⟩
  | .load t x => .o ⟨fun _ a s => eo_load E a s t x⟩
  | .store t x v => .o ⟨fun _ a s => eo_store E a s t x v⟩
  | .indexAddr t x i => .o ⟨fun _ a s => eo_indexAddr E a s t x i⟩
  | .index t x i => .o ⟨fun _ a s => eo_index E a s t x i⟩
  | .unOp p _ x => .o ⟨fun _ a s => eo_unOp E a s p x⟩
  | .build t ps => .o ⟨fun _ a s => eo_build E a s t ps⟩
  | .buildSlice t n ps => .o ⟨fun _ a s => eo_buildSlice E a s t n ps⟩
  | .makeSlice t l c => .o ⟨fun _ a s => eo_makeSlice E a s t l c⟩
  | .makeMap t r => .o ⟨fun _ a s => eo_makeMap E a s t r⟩
  | .mapUpdate t m k v => .o ⟨fun _ a s => evOp.evUpd E a s t m k v⟩
  | .insert t m k v => .o ⟨fun _ a s => evOp.evUpd E a s t m k v⟩
  | .lookup t x k ok => .o ⟨fun _ a s => eo_lookup E a s t x k ok⟩
  | .slice t x l h m => .o ⟨fun _ a s => eo_slice E a s t x l h m⟩
  | .makeFunc fn fst cap => .o ⟨fun _ a s => eo_makeFunc E a s fn fst cap⟩
  | _ => .o ⟨fun call a s => evO E call a s o⟩
def kop (E : Env) (o : Oper) : KQ := match o.op with
  | .move x => .v ⟨fun a s => (kopd x).run a⟩
  | .assign x => .v ⟨fun a s => (kopd x).run a⟩
  | .nilCheck x => .v ⟨fun a s => Option.rec none (fun v => Bool.rec none (some v) (thereK v)) ((kopd x).run a)⟩
  | .load t x => match E.tt.get t with
    | some u => match isRowK u.k with
      | false => match Nat.beq u.size 1 with
        | true => .v (kload1 (kopd x))
        | false => kgen E o
      | true => match Nat.ble 1 u.size with
        | true => .v (kloadR u.size (kopd x))
        | false => kgen E o
    | none => kgen E o
  | .store t x v => match E.tt.get t with
    | some u => match Nat.beq u.size 1 with
      | true => .o (kstore1 E (.store t x v) (kopd x) (kopd v))
      | false => kgen E o
    | none => kgen E o
  | .fieldAddr t x f => match E.tt.get t with
    | some u => match u.k with
      | .str fs => match nthL fs f with
        | some (q, ft) => match E.tt.get ft with
          | some uf => match Nat.beq uf.size 0 with
            | false => .v (kfa q (kopd x))
            | true => kgen E o
          | none => kgen E o
        | none => kgen E o
      | _ => kgen E o
    | none => kgen E o
  | .indexAddr t x i => match E.tt.get t with
    | some u => match u.k with
      | .slice e => match E.tt.get e with
        | some ue => .v (kia ue.size (kopd x) (kopd i))
        | none => kgen E o
      | _ => kgen E o
    | none => kgen E o
  | .binOp p t x y _ => .v (kbin E p t (kopd x) (kopd y))
  | .extract x i => .v ⟨fun a s => Option.rec none (fun v => Option.rec none (fun l => nthL l i) (asTup v)) ((kopd x).run a)⟩
  | .call c => match c.callee with
    | .value f => .o ⟨fun call a s => Option.rec none (fun xs => Option.rec none (fun f => Option.rec none (fun r => Prod.rec (fun v s => some (some v, s)) r) (call f xs s)) ((kopd f).run a)) ((kargs c.args.toList).run a)⟩
    | .builtin b => .o ⟨fun call a s => Option.rec none (fun xs => evB E s b c.argTypes.toList xs) ((kargs c.args.toList).run a)⟩
    | _ => kgen E o
  | _ => kgen E o
section
variable {E : Env} {call : CallF} {a : Tree AV} {s : St}
theorem kgen_eq {o : Oper} : (kgen E o).ev call a s = evO E call a s o := by
  unfold kgen
  split
  case h_19 => rfl
  all_goals
    rename_i hop
    unfold evO
    rw [hop]
    rfl
theorem asCs_eq (s : St) (b : Nat) : (s.cellsR b).map Prod.snd = (s.h.get b).bind asCs := by
  unfold St.cellsR
  cases s.h.get b with
  | none => rfl
  | some x => cases x <;> rfl
theorem kload1_eq {t : TypeId} {x : Operand} {u : TI} (hu : E.tt.get t = some u) (hk : isRowK u.k = false) (hz : Nat.beq u.size 1 = true) : (KQ.v (kload1 (kopd x))).ev call a s = eo_load E a s t x := by
  unfold KQ.ev kload1 eo_load
  simp only [kopd_eq]
  cases opd a x with
  | none => rfl
  | some p =>
    cases p
    case p b o =>
      simp only [hu, nbeq_of hz]
      show Option.map _ (Option.rec none (fun blk => Option.rec none (fun cs => hdK (dpK cs o)) (asCs blk)) (s.h.get b) : Option AV) = _
      unfold St.load St.cellsR
      cases s.h.get b with
      | none => rfl
      | some blk =>
        have key : ∀ cs : List AV, Option.map (fun v => (some v, s)) (hdK (dpK cs o)) = match (bif Nat.ble (o + 1) cs.length then some (tkL (dpL cs o) 1) else none) with
          | some l => (ofCells u l).map fun v => (some v, s)
          | none => none := fun cs => by
          rw [dpK_eq, dpL_eq, tkL_eq]
          by_cases h : o + 1 ≤ cs.length
          · rw [Nat.ble_eq_true_of_le h, cond_true]
            have hd : cs.drop o = cs[o] :: cs.drop (o + 1) := by rw [List.drop_eq_getElem_cons (by omega)]
            rw [hd]
            show some (some cs[o], s) = _
            simp only [ofCells, hk, cond_false, List.take_succ_cons, List.take_zero, Option.map_some]
          · have hb : Nat.ble (o + 1) cs.length = false := by
              cases hb : Nat.ble (o + 1) cs.length
              · rfl
              · exact absurd (nble_of hb) h
            rw [hb, cond_false, List.drop_eq_nil_of_le (by omega)]
            rfl
        cases blk
        case cells e cs => exact key cs
        case ro e cs => exact key cs
        case map es => rfl
        case loop => rfl
    all_goals rfl
theorem ble_false {n m : Nat} (h : ¬ n ≤ m) : Nat.ble n m = false := by
  cases hb : Nat.ble n m
  · rfl
  · exact absurd (nble_of hb) h
theorem kloadR_eq {t : TypeId} {x : Operand} {u : TI} (hu : E.tt.get t = some u) (hk : isRowK u.k = true) (hz : Nat.ble 1 u.size = true) : (KQ.v (kloadR u.size (kopd x))).ev call a s = eo_load E a s t x := by
  unfold KQ.ev kloadR eo_load
  simp only [kopd_eq]
  cases opd a x with
  | none => rfl
  | some p =>
    cases p
    case p b o =>
      simp only [hu]
      show Option.map _ (Option.rec none (fun blk => Option.rec none (fun cs => Option.rec none (fun l => some (.agg l)) (tkK u.size (dpK cs o))) (asCs blk)) (s.h.get b) : Option AV) = _
      unfold St.load St.cellsR
      cases s.h.get b with
      | none => rfl
      | some blk =>
        have key : ∀ cs : List AV, Option.map (fun v => (some v, s)) (Option.rec none (fun l => some (AV.agg l)) (tkK u.size (dpK cs o)) : Option AV) = match (bif Nat.ble (o + u.size) cs.length then some (tkL (dpL cs o) u.size) else none) with
          | some l => (ofCells u l).map fun v => (some v, s)
          | none => none := fun cs => by
          have h1 := nble_of hz
          rw [dpK_eq, dpL_eq, tkL_eq, tkK_eq]
          by_cases h : o + u.size ≤ cs.length
          · rw [Nat.ble_eq_true_of_le h, cond_true, if_pos (by rw [List.length_drop]; omega)]
            simp only [ofCells, hk, cond_true]
          · rw [ble_false h, cond_false, if_neg (by rw [List.length_drop]; omega)]
            rfl
        cases blk
        case cells e cs => exact key cs
        case ro e cs => exact key cs
        case map es => rfl
        case loop => rfl
    all_goals rfl
theorem kstore1_eq {t : TypeId} {x v : Operand} {u : TI} (hu : E.tt.get t = some u) (hz : Nat.beq u.size 1 = true) : (KQ.o (kstore1 E (.store t x v) (kopd x) (kopd v))).ev call a s = eo_store E a s t x v := by
  unfold KQ.ev kstore1
  simp only [kopd_eq]
  cases hv : opd a v with
  | none =>
    unfold eo_store
    rw [hv]
    show none = _
    split <;> rfl
  | some w =>
    show (Bool.rec (eo_store E a s t x v) (Option.rec none (fun p => Option.rec none (fun q => Prod.rec (fun b o => Option.rec none (fun blk => Option.rec none (fun cs => Prod.rec (fun e cs => Option.rec none (fun cs => some (none, ⟨s.h.set b (some (.cells e cs)), s.nx⟩)) (wrK w o cs)) cs) (asRw blk)) (s.h.get b)) q) (asP p)) (opd a x)) (oneK w) : Option (Option AV × St)) = _
    have main : oneA w = true → cellsA w = [w] → (Option.rec none (fun p => Option.rec none (fun q => Prod.rec (fun b o => Option.rec none (fun blk => Option.rec none (fun cs => Prod.rec (fun e cs => Option.rec none (fun cs => some (none, ⟨s.h.set b (some (.cells e cs)), s.nx⟩)) (wrK w o cs)) cs) (asRw blk)) (s.h.get b)) q) (asP p)) (opd a x) : Option (Option AV × St)) = eo_store E a s t x v := fun h1 h2 => by
      unfold eo_store
      rw [hv]
      cases opd a x with
      | none => rfl
      | some p =>
        cases p
        case p b o =>
          simp only [hu, h2, nbeq_of hz]
          have h3 : (Nat.beq [w].length 1 && allOne [w]) = true := by
            simp only [allOne, h1, cond_true, Bool.and_true]; rfl
          rw [h3, cond_true]
          show (Option.rec none (fun blk => Option.rec none (fun cs => Prod.rec (fun e cs => Option.rec none (fun cs => some (none, ⟨s.h.set b (some (.cells e cs)), s.nx⟩)) (wrK w o cs)) cs) (asRw blk)) (s.h.get b) : Option (Option AV × St)) = _
          unfold St.store St.cells
          cases s.h.get b with
          | none => rfl
          | some blk =>
            cases blk
            case cells e cs =>
              show (Option.rec none (fun cs => some (none, ⟨s.h.set b (some (.cells e cs)), s.nx⟩)) (wrK w o cs) : Option (Option AV × St)) = _
              rw [wrK_eq]
              show _ = Option.map _ (bif Nat.ble (o + 1) cs.length then some (⟨s.h.set b (some (.cells e (wrL cs o [w]))), s.nx⟩ : St) else none)
              by_cases h : o + 1 ≤ cs.length
              · rw [Nat.ble_eq_true_of_le h, if_pos h]; rfl
              · rw [ble_false h, if_neg h]; rfl
            all_goals rfl
        all_goals rfl
    cases w
    case agg l => rfl
    case tup l => rfl
    all_goals exact main rfl rfl
theorem kfa_eq {t ft : TypeId} {x : Operand} {f q : Nat} {fs : List (Nat × TypeId)} {u uf : TI} (hu : E.tt.get t = some u) (hk : u.k = .str fs) (hf : nthL fs f = some (q, ft)) (huf : E.tt.get ft = some uf) (hz : Nat.beq uf.size 0 = false) : (KQ.v (kfa q (kopd x))).ev call a s = eo_fieldAddr E a s t x f := by
  unfold KQ.ev kfa eo_fieldAddr
  simp only [kopd_eq]
  cases opd a x with
  | none => rfl
  | some p =>
    cases p
    case p b o => simp only [hu, hk, hf, huf, hz, cond_false]; rfl
    all_goals rfl
theorem kia_eq {t e : TypeId} {x i : Operand} {u ue : TI} (hu : E.tt.get t = some u) (hk : u.k = .slice e) (hue : E.tt.get e = some ue) : (KQ.v (kia ue.size (kopd x) (kopd i))).ev call a s = eo_indexAddr E a s t x i := by
  unfold KQ.ev kia eo_indexAddr
  simp only [kopd_eq]
  cases opd a x with
  | none => rfl
  | some p =>
    cases p
    case sl b o l c ex z =>
      cases opd a i with
      | none => rfl
      | some j =>
        cases j
        case i k n =>
          cases n with
          | ofNat n =>
            simp only [hu, hk, hue]
            show Option.map _ (Bool.rec none (some (.p b (o + n * ue.size))) (Nat.blt n l) : Option AV) = _
            cases Nat.blt n l <;> rfl
          | negSucc n => rfl
        all_goals rfl
    case p b o =>
      simp only [hu, hk]
      show none = _
      split <;> rfl
    all_goals rfl
theorem kop_eq (o : Oper) : (kop E o).ev call a s = evO E call a s o := by
  unfold kop
  split
  · rename_i x hop
    unfold evO; rw [hop]; simp only [evOp, eo_move, KQ.ev, kopd_eq]
  · rename_i x hop
    unfold evO; rw [hop]; simp only [evOp, eo_assign, KQ.ev, kopd_eq]
  · rename_i x hop
    unfold evO; rw [hop]
    simp only [evOp, eo_nilCheck, KQ.ev, kopd_eq]
    cases opd a x with
    | none => rfl
    | some v => cases v <;> rfl
  · rename_i t x hop
    have h0 : evO E call a s o = eo_load E a s t x := by unfold evO; rw [hop]; rfl
    repeat' split
    all_goals first | exact kgen_eq | (rw [h0]; first | exact kload1_eq (by assumption) (by assumption) (by assumption) | exact kloadR_eq (by assumption) (by assumption) (by assumption))
  · rename_i t x v hop
    have h0 : evO E call a s o = eo_store E a s t x v := by unfold evO; rw [hop]; rfl
    repeat' split
    all_goals first | exact kgen_eq | (rw [h0]; exact kstore1_eq (by assumption) (by assumption))
  · rename_i t x f hop
    have h0 : evO E call a s o = eo_fieldAddr E a s t x f := by unfold evO; rw [hop]; rfl
    repeat' split
    all_goals first | exact kgen_eq | (rw [h0]; exact kfa_eq (by assumption) (by assumption) (by assumption) (by assumption) (by assumption))
  · rename_i t x i hop
    have h0 : evO E call a s o = eo_indexAddr E a s t x i := by unfold evO; rw [hop]; rfl
    repeat' split
    all_goals first | exact kgen_eq | (rw [h0]; exact kia_eq (by assumption) (by assumption) (by assumption))
  · rename_i p t x y t2 hop
    unfold evO; rw [hop]
    simp only [evOp, eo_binOp, KQ.ev, kbin, kopd_eq]
    cases opd a x with
    | none => rfl
    | some v => cases opd a y <;> rfl
  · rename_i x i hop
    unfold evO; rw [hop]
    simp only [evOp, eo_extract, KQ.ev, kopd_eq]
    cases opd a x with
    | none => rfl
    | some v => cases v <;> rfl
  · rename_i c hop
    split
    · rename_i f hf
      unfold evO; rw [hop]
      simp only [KQ.ev, kargs_eq, kopd_eq, hf]
      cases mapO (opd a) c.args.toList with
      | none => rfl
      | some xs =>
        cases opd a f with
        | none => rfl
        | some f =>
          show (Option.rec none (fun r => Prod.rec (fun v s => some (some v, s)) r) (call f xs s) : Option (Option AV × St)) = match call f xs s with
            | some r => some (some r.1, r.2)
            | none => none
          cases call f xs s <;> rfl
    · rename_i b hf
      unfold evO; rw [hop]
      simp only [KQ.ev, kargs_eq, hf]
      cases mapO (opd a) c.args.toList <;> rfl
    · exact kgen_eq
  · exact kgen_eq
end
structure KSt where
  run : CallF → Tree AV → St → Option (Tree AV × St)
def kdst (d : Option Tmp) (nt : Nat) (q : KQ) : KSt := KQ.rec (fun v => Option.rec ⟨fun _ a s => Option.rec none (fun _ => some (a, s)) (v.run a s)⟩ (fun d => Bool.rec ⟨fun call a s => Option.rec none (fun _ => none) (v.run a s)⟩ ⟨fun _ a s => Option.rec none (fun x => some ((kset d).run a x, s)) (v.run a s)⟩ (Nat.blt d nt)) d)
  (fun o => Option.rec ⟨fun call a s => Option.rec none (fun r => Prod.rec (fun _ s => some (a, s)) r) (o.run call a s)⟩ (fun d => Bool.rec ⟨fun call a s => Option.rec none (fun _ => none) (o.run call a s)⟩ ⟨fun call a s => Option.rec none (fun r => Prod.rec (fun x s => some ((kset d).run a (Option.rec (.tup []) (fun x => x) x), s)) r) (o.run call a s)⟩ (Nat.blt d nt)) d) q
theorem kdst_eq {call : CallF} {a : Tree AV} {s : St} (d : Option Tmp) (nt : Nat) (q : KQ) : (kdst d nt q).run call a s = match q.ev call a s with
    | none => none
    | some r => match putA nt a d (valA r.1) with
      | some a => some (a, r.2)
      | none => none := by
  unfold kdst putA KQ.ev
  cases q with
  | v x =>
    cases d with
    | none =>
      show (Option.rec none (fun _ => some (a, s)) (x.run a s) : Option (Tree AV × St)) = _
      simp only
      cases x.run a s <;> rfl
    | some d =>
      simp only
      cases Nat.blt d nt with
      | false =>
        show (Option.rec none (fun _ => none) (x.run a s) : Option (Tree AV × St)) = _
        cases x.run a s <;> rfl
      | true =>
        show (Option.rec none (fun x => some ((kset d).run a x, s)) (x.run a s) : Option (Tree AV × St)) = _
        simp only [kset_eq]
        cases x.run a s <;> rfl
  | o x =>
    cases d with
    | none =>
      show (Option.rec none (fun r => Prod.rec (fun _ s => some (a, s)) r) (x.run call a s) : Option (Tree AV × St)) = _
      simp only
      cases x.run call a s <;> rfl
    | some d =>
      simp only
      cases Nat.blt d nt with
      | false =>
        show (Option.rec none (fun _ => none) (x.run call a s) : Option (Tree AV × St)) = _
        cases x.run call a s <;> rfl
      | true =>
        show (Option.rec none (fun r => Prod.rec (fun x s => some ((kset d).run a (Option.rec (.tup []) (fun x => x) x), s)) r) (x.run call a s) : Option (Tree AV × St)) = _
        simp only [kset_eq]
        cases x.run call a s with
        | none => rfl
        | some r =>
          obtain ⟨y, s'⟩ := r
          cases y <;> rfl
/-- A guard's temporary. -/
def kguard (ops : List Oper) (g : Nat) (b : Bool) : Option KOpd := match nthL ops g with
  | none => none
  | some o => match o.dst with
    | none => none
    | some d => some (kget d)
def asG (b : Bool) (x : AV) : Option Bool := match x with
  | .b c => some (match b with
    | true => c
    | false => !c)
  | .tup _ => some false
  | _ => none
theorem kguard_eq {ops : List Oper} {g : Nat} {b : Bool} {q : KOpd} {a : Tree AV} (h : kguard ops g b = some q) : guardA ops a (some (g, b)) = (q.run a).bind (asG b) := by
  unfold kguard at h
  simp only [guardA]
  cases ho : nthL ops g with
  | none => rw [ho] at h; cases h
  | some o =>
    rw [ho] at h
    simp only at h ⊢
    cases hd : o.dst with
    | none => rw [hd] at h; cases h
    | some d =>
      rw [hd] at h
      cases h
      rw [kget_eq]
      simp only
      cases a.get d with
      | none => rfl
      | some x => cases x <;> rfl
def kstep (E : Env) (nt : Nat) (ops : List Oper) (o : Oper) : KSt := match o.guard with
  | none => kdst o.dst nt (kop E o)
  | some (g, b) => match kguard ops g b with
    | none => ⟨fun call a s => stepA E call nt ops o a s⟩
    | some q => ⟨fun call a s => Option.rec none (fun x => Option.rec none (fun c => Bool.rec ((kdst o.dst nt (.v ⟨fun _ _ => some (.tup [])⟩)).run call a s) ((kdst o.dst nt (kop E o)).run call a s) c) (asG b x)) (q.run a)⟩
theorem kstep_eq {E : Env} {call : CallF} {a : Tree AV} {s : St} {nt : Nat} {ops : List Oper} {o : Oper} : (kstep E nt ops o).run call a s = stepA E call nt ops o a s := by
  unfold kstep
  split
  · rename_i hg
    rw [kdst_eq, kop_eq]
    unfold stepA
    rw [hg]
    rfl
  · rename_i g b hg
    split
    · rfl
    · rename_i q hq
      unfold stepA
      rw [hg, kguard_eq hq]
      simp only [kdst_eq, kop_eq]
      cases q.run a with
      | none => rfl
      | some x =>
        simp only [Option.bind_some]
        cases asG b x with
        | none => rfl
        | some c =>
          cases c
          · simp only [KQ.ev, Option.map_some, valA]
            cases putA nt a o.dst (.tup []) <;> rfl
          · rfl
def kops (E : Env) (nt : Nat) (ops : List Oper) (l : List Oper) : KSt := List.rec ⟨fun _ a s => some (a, s)⟩ (fun o _ ih => ⟨fun call a s => Option.rec none (fun r => Prod.rec (fun a s => ih.run call a s) r) ((kstep E nt ops o).run call a s)⟩) l
theorem kops_eq {E : Env} {call : CallF} {nt : Nat} {ops : List Oper} : ∀ (l : List Oper) (a : Tree AV) (s : St), (kops E nt ops l).run call a s = evOps E call nt ops l a s
  | [], a, s => rfl
  | o :: l, a, s => by
    show (Option.rec none (fun r => Prod.rec (fun a s => (kops E nt ops l).run call a s) r) ((kstep E nt ops o).run call a s) : Option (Tree AV × St)) = _
    rw [kstep_eq, evOps]
    cases stepA E call nt ops o a s with
    | none => rfl
    | some r => exact kops_eq l r.1 r.2
end
end Go.Proofs.YtbioklhoolkhkadGreatDoor
namespace Go.Proofs.YtbioklhoolkhkadGreatDoor
set_option linter.unusedVariables false
set_option linter.unusedSimpArgs false
set_option linter.unusedSectionVars false
open Go Go.RowKit
noncomputable section

structure KE where
  e : Bool → Nat → Code → Tree AV → St → Option (Ex × Tree AV × St)
  call : CallF
structure KN where
  run : KE → Tree AV → St → Option (Ex × Tree AV × St)
def asB (x : AV) : Option Bool := AV.rec (motive_1 := fun _ => Option Bool) (motive_2 := fun _ => Unit) (fun x => some x) (fun _ _ => none) (fun _ => none) none (fun b o => none) none (fun _ _ _ _ _ _ => none) none (fun _ => none) none (fun _ _ _ _ _ => none) (fun _ => none) none (fun _ _ => none) (fun _ _ => none) () (fun _ _ _ _ => ()) x
def kseq (inr : Bool) (nt : Nat) (x y : Code) : KN := ⟨fun K a s => Option.rec none (fun r => Prod.rec (fun x p => Ex.rec (Prod.rec (fun a s => K.e inr nt y a s) p) (fun i => some (.exit i, p)) (fun l => some (.goto l, p)) (some (.ret, p)) x) r) (K.e inr nt x a s)⟩
def kcond (inr : Bool) (nt : Nat) (c : KOpd) (x y : Code) : KN := ⟨fun K a s => Option.rec none (fun v => Option.rec none (fun b => Bool.rec (K.e inr nt y a s) (K.e inr nt x a s) b) (asB v)) (c.run a)⟩
def kblock (inr : Bool) (nt id : Nat) (x : Code) : KN := ⟨fun K a s => Option.rec none (fun r => Prod.rec (fun x p => Ex.rec (some (.nrm, p)) (fun j => Bool.rec (some (.exit j, p)) (some (.nrm, p)) (Nat.beq j id)) (fun l => some (.goto l, p)) (some (.ret, p)) x) r) (K.e inr nt x a s)⟩
def kscope (inr : Bool) (nt : Nat) (x : Code) : KN := ⟨fun K a s => Option.rec none (fun r => Prod.rec (fun x p => Ex.rec (some (.nrm, p)) (fun j => some (.exit j, p)) (fun l => none) (some (.ret, p)) x) r) (K.e inr nt x a s)⟩
def kreg (q : KSt) : KN := ⟨fun K a s => Option.rec none (fun r => some (.nrm, r)) (q.run K.call a s)⟩
def knode (E : Env) (kd : Nat → List Oper → KSt) (inr : Bool) (nt : Nat) (c : Code) : KN := match c with
  | .skip => ⟨fun K a s => some (.nrm, a, s)⟩
  | .label _ => ⟨fun K a s => some (.nrm, a, s)⟩
  | .ret => ⟨fun K a s => some (.ret, a, s)⟩
  | .exit i => ⟨fun K a s => some (.exit i, a, s)⟩
  | .goto l => ⟨fun K a s => some (.goto l, a, s)⟩
  | .region _ ops d => match d with
    | true => kreg (kd nt ops.toList)
    | false => kreg (kops E nt ops.toList ops.toList)
  | .seq x y => kseq inr nt x y
  | .cond c x y => kcond inr nt (kopd c) x y
  | .block id x => kblock inr nt id x
  | .loop x => kseq inr nt x (.loop x)
  | .scope x => kscope inr nt x
  | .rangeFunc g ps asg body => match inr with
    | true => ⟨fun _ _ _ => none⟩
    | false => ⟨fun K a s => evRange K.call (K.e false nt) nt a s g ps asg body⟩
  | _ => ⟨fun _ _ _ => none⟩
def klaid (l : List AV) : Nat → Tree AV → Tree AV := List.rec (fun _ t => t) (fun v _ ih n t => ih (Nat.succ n) (t.set n (some v))) l
theorem klaid_eq : ∀ (l : List AV) (n : Nat) (t : Tree AV), klaid l n t = laidA l n t
  | [], n, t => rfl
  | v :: l, n, t => klaid_eq l (n + 1) (t.set n (some v))
structure KRes where
  run : Tree AV → St → Option (List AV)
def kres1 (E : Env) (r : ResultVar) : KV := match r with
  | .tmp t => ⟨fun a _ => a.get t⟩
  | .cell t ty => ⟨fun a s => resA E a s (.cell t ty)⟩
theorem kres1_eq (E : Env) (a : Tree AV) (s : St) (r : ResultVar) : (kres1 E r).run a s = resA E a s r := by cases r <;> rfl
def kres (E : Env) (l : List ResultVar) : KRes := List.rec ⟨fun _ _ => some []⟩ (fun r _ ih => ⟨fun a s => Option.rec none (fun v => Option.rec none (fun vs => some (v :: vs)) (ih.run a s)) ((kres1 E r).run a s)⟩) l
theorem kres_eq (E : Env) (a : Tree AV) (s : St) : ∀ l : List ResultVar, (kres E l).run a s = mapO (resA E a s) l
  | [] => rfl
  | r :: l => by
    show (Option.rec none (fun v => Option.rec none (fun vs => some (v :: vs)) ((kres E l).run a s)) ((kres1 E r).run a s) : Option (List AV)) = _
    rw [kres_eq E a s l, kres1_eq, mapO]
    cases resA E a s r with
    | none => rfl
    | some v => cases mapO (resA E a s) l <;> rfl
/-- What the results make. -/
def kone (l : List AV) : AV := List.rec (motive := fun _ => AV) (.tup l) (fun v m _ => List.rec (motive := fun _ => AV) v (fun _ _ _ => .tup l) m) l
theorem kone_eq (l : List AV) : kone l = resultA l := by
  match l with
  | [] => rfl
  | [v] => rfl
  | v :: w :: l => rfl
structure KF where
  run : KE → List AV → List AV → List AV → St → Option (AV × St)
structure KB where
  run : KE → List AV → St → Option (AV × St)
def kbody (E : Env) (nt : Nat) (rs : KRes) (c : Code) : KB := ⟨fun K xs s => Bool.rec none (Option.rec none (fun r => Prod.rec (fun x p => Prod.rec (fun a s => Bool.rec none (Option.rec none (fun l => some (kone l, s)) (rs.run a s)) (Ex.rec true (fun _ => false) (fun _ => false) true x)) p) r) (K.e false nt c (klaid xs 0 .leaf) s)) (Nat.ble xs.length nt)⟩
theorem kbody_eq {E : Env} {K : KE} {fn : Func} {c : Code} {xs : List AV} {s : St} : (kbody E fn.ntmps (kres E fn.results.toList) c).run K xs s = callIn E (K.e false) fn c xs s := by
  unfold kbody callIn
  simp only
  cases Nat.ble xs.length fn.ntmps with
  | false => rfl
  | true =>
    rw [cond_true, klaid_eq]
    cases K.e false fn.ntmps c (laidA xs 0 .leaf) s with
    | none => rfl
    | some r =>
      obtain ⟨x, a, s'⟩ := r
      have key : (Option.rec none (fun l => some (kone l, s')) ((kres E fn.results.toList).run a s') : Option (AV × St)) = match mapO (resA E a s') fn.results.toList with
        | some l => some (resultA l, s')
        | none => none := by
        rw [kres_eq]
        cases mapO (resA E a s') fn.results.toList with
        | none => rfl
        | some l => show some (kone l, s') = _; rw [kone_eq]
      cases x with
      | nrm => exact key
      | exit i => rfl
      | goto l => rfl
      | ret => exact key
def kfn (E : Env) (f : FuncId) : KF := match E.kn.get f with
  | some x => ⟨fun K fst caps xs s => callFn E (K.e false) f fst caps xs s⟩
  | none => match E.lit with
    | [] => match E.ft.get f with
      | none => ⟨fun K fst caps xs s => none⟩
      | some fn => match fn.body with
        | none => ⟨fun K fst caps xs s => none⟩
        | some c => ⟨fun K fst caps xs s => (kbody E fn.ntmps (kres E fn.results.toList) c).run K (fst ++ (xs ++ caps)) s⟩
    | _ :: _ => ⟨fun K fst caps xs s => callFn E (K.e false) f fst caps xs s⟩
theorem kfn_eq {E : Env} {f : FuncId} {K : KE} {fst caps xs : List AV} {s : St} : (kfn E f).run K fst caps xs s = callFn E (K.e false) f fst caps xs s := by
  unfold kfn
  split
  · rfl
  · rename_i hk
    split
    · rename_i hl
      unfold callFn
      rw [hk, hl]
      simp only [litA]
      split
      · rename_i hf; rw [hf]
      · rename_i fn hf
        rw [hf]
        simp only
        split
        · rename_i hb; rw [hb]
        · rename_i c hb
          rw [hb]
          exact kbody_eq
    · rfl
def kcall (E : Env) (K : KE) (f : AV) (xs : List AV) (s : St) : Option (AV × St) := match f with
  | .fn f fst caps => (kfn E f).run K fst caps xs s
  | .y l => callY (K.e true) l xs s
  | _ => none
def kE (E : Env) (kd : Nat → List Oper → KSt) (n : Nat) : KE := Nat.rec ⟨fun _ _ _ _ _ => none, fun _ _ _ => none⟩ (fun _ ih => ⟨fun inr nt c a s => (knode E kd inr nt c).run ih a s, fun f xs s => kcall E ih f xs s⟩) n
theorem kseq_eq {K : KE} {inr : Bool} {nt : Nat} {x y : Code} {a : Tree AV} {s : St} : (kseq inr nt x y).run K a s = match K.e inr nt x a s with
    | some (.nrm, a, s) => K.e inr nt y a s
    | r => r := by
  unfold kseq
  simp only
  cases K.e inr nt x a s with
  | none => rfl
  | some r =>
    obtain ⟨x, a, s⟩ := r
    cases x <;> rfl
theorem kE_eq {E : Env} {kd : Nat → List Oper → KSt} {draw : Draw} (hd : ∀ call nt ops a s, (kd nt ops).run call a s = draw call nt ops a s) : ∀ n, (kE E kd n).e = ev E draw n ∧ (kE E kd n).call = callE E draw n
  | 0 => by
    refine ⟨?_, ?_⟩
    · funext inr nt c a s
      show none = _
      rw [ev]
    · funext f xs s
      show none = _
      rw [callE]
  | n + 1 => by
    obtain ⟨h1, h2⟩ := kE_eq (E := E) hd n
    refine ⟨?_, ?_⟩
    · funext inr nt c a s
      show (knode E kd inr nt c).run (kE E kd n) a s = _
      cases c
      case region id ops d =>
        cases d with
        | true =>
          show (Option.rec none (fun r => some (.nrm, r)) ((kd nt ops.toList).run (kE E kd n).call a s) : Option (Ex × Tree AV × St)) = _
          rw [hd, h2]
          simp only [ev]
          cases draw (callE E draw n) nt ops.toList a s <;> rfl
        | false =>
          show (Option.rec none (fun r => some (.nrm, r)) ((kops E nt ops.toList ops.toList).run (kE E kd n).call a s) : Option (Ex × Tree AV × St)) = _
          rw [kops_eq, h2]
          simp only [ev]
          cases evOps E (callE E draw n) nt ops.toList ops.toList a s <;> rfl
      case seq x y =>
        show (kseq inr nt x y).run (kE E kd n) a s = _
        rw [kseq_eq, h1]
        simp only [ev]
        cases ev E draw n inr nt x a s with
        | none => rfl
        | some r =>
          obtain ⟨x', a', s'⟩ := r
          cases x' <;> rfl
      case loop x =>
        show (kseq inr nt x (.loop x)).run (kE E kd n) a s = _
        rw [kseq_eq, h1]
        simp only [ev]
        cases ev E draw n inr nt x a s with
        | none => rfl
        | some r =>
          obtain ⟨x', a', s'⟩ := r
          cases x' <;> rfl
      case cond c x y =>
        show (Option.rec none (fun v => Option.rec none (fun b => Bool.rec ((kE E kd n).e inr nt y a s) ((kE E kd n).e inr nt x a s) b) (asB v)) ((kopd c).run a) : Option (Ex × Tree AV × St)) = _
        rw [kopd_eq, h1]
        simp only [ev]
        cases opd a c with
        | none => rfl
        | some v =>
          cases v
          case b q => cases q <;> rfl
          all_goals rfl
      case block id x =>
        show (kblock inr nt id x).run (kE E kd n) a s = _
        unfold kblock
        simp only [ev]
        rw [h1]
        cases ev E draw n inr nt x a s with
        | none => rfl
        | some r =>
          obtain ⟨x, a, s⟩ := r
          cases x
          case exit j => simp only; cases Nat.beq j id <;> rfl
          all_goals rfl
      case scope x =>
        show (kscope inr nt x).run (kE E kd n) a s = _
        unfold kscope
        simp only [ev]
        rw [h1]
        cases ev E draw n inr nt x a s with
        | none => rfl
        | some r =>
          obtain ⟨x, a, s⟩ := r
          cases x <;> rfl
      case rangeFunc g ps asg body =>
        cases inr with
        | true => show none = _; simp only [ev]
        | false =>
          show evRange (kE E kd n).call ((kE E kd n).e false nt) nt a s g ps asg body = _
          rw [h1, h2]
          simp only [ev]
      all_goals first | rfl | (simp only [ev]; rfl) | (simp only [ev, knode])
    · funext f xs s
      show kcall E (kE E kd n) f xs s = _
      unfold kcall
      cases f
      case fn f fst caps =>
        simp only [callE]
        rw [kfn_eq, h1]
      case y l =>
        simp only [callE]
        rw [h1]
      all_goals first | rfl | (simp only [callE]; done)
end
end Go.Proofs.YtbioklhoolkhkadGreatDoor
namespace Go.Proofs.YtbioklhoolkhkadGreatDoor
set_option linter.unusedVariables false
set_option linter.unusedSimpArgs false
set_option linter.unusedSectionVars false
open Go Go.RowKit
noncomputable section

structure KPut where
  run : Tree AV → AV → Option (Tree AV)
def kput (nt : Nat) (d : Option Tmp) : KPut := Option.rec ⟨fun a _ => some a⟩ (fun d => Bool.rec ⟨fun _ _ => none⟩ ⟨fun a x => some ((kset d).run a x)⟩ (Nat.blt d nt)) d
theorem kput_eq (nt : Nat) (d : Option Tmp) (a : Tree AV) (x : AV) : (kput nt d).run a x = putA nt a d x := by
  unfold kput putA
  cases d with
  | none => rfl
  | some d =>
    simp only
    cases Nat.blt d nt with
    | false => rfl
    | true => show some ((kset d).run a x) = _; rw [kset_eq]; rfl
abbrev Hist := List (Option Nat × Tree Blk)
structure KH where
  run : CallF → Tree AV → St → Hist → Option (Tree AV × St × Hist)
def unD (x : Option DSt) : Option (Tree AV × St × Hist) := x.map fun d => (d.a, d.s, d.hist)
def reD (n : Nat) (r : Tree AV × St × Hist) : DSt := ⟨r.1, r.2.1, n, r.2.2⟩
/-- It looks at no block. -/
def isPu : Op → Bool
  | .move _ => true
  | .assign _ => true
  | .pick _ _ _ => true
  | .nilCheck _ => true
  | .fieldAddr _ _ _ => true
  | .field _ _ _ => true
  | .indexAddr _ _ _ => true
  | .index _ _ _ => true
  | .binOp _ _ _ _ _ => true
  | .unOp _ _ _ => true
  | .extract _ _ => true
  | .build _ _ => true
  | .makeFunc _ _ _ => true
  | _ => false
theorem evOp_pu {E : Env} {a : Tree AV} {op : Op} (hp : isPu op = true) (s s' : St) : evOp E a s op = (evOp E a s' op).map fun r => (r.1, s) := by
  cases op <;> simp only [isPu] at hp <;> try (cases hp; done)
  all_goals
    simp only [evOp, eo_move, eo_assign, eo_pick, eo_nilCheck, eo_fieldAddr, eo_field, eo_indexAddr, eo_index, eo_binOp, eo_unOp, eo_extract, eo_build, eo_makeFunc]
    repeat' (first | rfl | (simp only [Option.map_map]; rfl) | (split <;> try simp only [Option.map_none, Option.map_some, Option.map_map, cond_map]))
mutual
theorem eqV_refl : ∀ x : AV, eqV x x = true
  | .b x => by simp [eqV]
  | .i k x => by simp [eqV, ieq_eq]
  | .s l => by simp [eqV, beqL_eq]
  | .np => rfl
  | .p b o => by simp [eqV]
  | .ns => rfl
  | .sl b o l c e z => by simp [eqV]
  | .nm => rfl
  | .m b => by simp [eqV]
  | .nf => rfl
  | .fn f l m => by simp [eqV, eqVL_refl l, eqVL_refl m]
  | .y b => by simp [eqV]
  | .ni => rfl
  | .agg l => by simp [eqV, eqVL_refl l]
  | .tup l => by simp [eqV, eqVL_refl l]
theorem eqVL_refl : ∀ l : List AV, eqVL l l = true
  | [] => rfl
  | x :: l => by simp [eqVL, eqV_refl x, eqVL_refl l]
end
def isCC : Op → Bool
  | .call _ => true
  | .convert _ _ _ => true
  | _ => false
/-- What an operation reads. -/
def krd (E : Env) (o : Oper) : KV := match isCC o.op with
  | true => ⟨fun a s => evR E a s.h o.op⟩
  | false => match kop E o with
    | .v x => x
    | .o _ => ⟨fun a s => evR E a s.h o.op⟩
def kbit (m c : Nat) : Bool := Nat.beq (Nat.mod (Nat.div m (Nat.pow 2 c)) 2) 1
theorem kbit_eq (m c : Nat) : kbit m c = m.testBit c := by
  rw [Nat.testBit_eq_decide_div_mod_eq]
  unfold kbit
  show Nat.beq (m / 2 ^ c % 2) 1 = _
  by_cases h : m / 2 ^ c % 2 = 1
  · rw [h]; rfl
  · rw [nbeq_ne h, decide_eq_false h]
theorem evR_of {E : Env} {a : Tree AV} {h : Tree Blk} {op : Op} (hc : isCC op = false) : evR E a h op = match evOp E a ⟨h, 0⟩ op with
    | some (some x, _) => some x
    | _ => none := by
  cases op <;> first | rfl | (simp only [isCC] at hc; cases hc)
theorem evO_of {E : Env} {call : CallF} {a : Tree AV} {s : St} {o : Oper} (hc : isCC o.op = false) : evO E call a s o = evOp E a s o.op := by
  unfold evO
  cases ho : o.op <;> rw [ho] at hc <;> first | rfl | (simp only [isCC] at hc; cases hc)
theorem krd_eq {E : Env} {a : Tree AV} {h : Tree Blk} {o : Oper} : (krd E o).run a ⟨h, 0⟩ = evR E a h o.op := by
  unfold krd
  split
  · rfl
  · rename_i hc
    split
    · rename_i x hx
      have h1 := kop_eq (E := E) (call := fun _ _ _ => none) (a := a) (s := ⟨h, 0⟩) o
      rw [hx, evO_of hc] at h1
      rw [evR_of hc, ← h1]
      simp only [KQ.ev]
      cases x.run a ⟨h, 0⟩ <;> rfl
    · rfl
theorem krd_pu {E : Env} {a : Tree AV} {s : St} {h : Tree Blk} {o : Oper} (hp : isPu o.op = true) : (krd E o).run a s = evR E a h o.op := by
  have hc : isCC o.op = false := by
    cases ho : o.op <;> rw [ho] at hp <;> first | rfl | (simp only [isPu] at hp; cases hp)
  have hall : ∀ s : St, (match evOp E a s o.op with
    | some (some x, _) => some x
    | _ => none : Option AV) = evR E a h o.op := fun s => by
    rw [evR_of hc, evOp_pu hp s ⟨h, 0⟩]
    cases evOp E a ⟨h, 0⟩ o.op with
    | none => rfl
    | some r =>
      obtain ⟨x, s'⟩ := r
      cases x <;> rfl
  unfold krd
  rw [hc]
  simp only
  split
  · rename_i x hx
    have h1 := kop_eq (E := E) (call := fun _ _ _ => none) (a := a) (s := s) o
    rw [hx, evO_of hc] at h1
    rw [← hall s, ← h1]
    simp only [KQ.ev]
    cases x.run a s <;> rfl
  · simp only
    rw [← hall ⟨s.h, 0⟩, evR_of hc]
theorem sameA_pu {E : Env} {a : Tree AV} {op : Op} {x : AV} (hx : ∀ h, evR E a h op = some x) (m : Nat) : ∀ l : Hist, sameA E a op m x l = true
  | [] => rfl
  | (c, h) :: l => by
    simp only [sameA, hx h, eqV_refl x, cond_true]
    cases c with
    | none => rfl
    | some c =>
      simp only
      rw [sameA_pu hx m l]
      cases m.testBit c <;> rfl
theorem firstA_pu {E : Env} {a : Tree AV} {s : St} {o : Oper} (hp : isPu o.op = true) (m : Nat) {l : Hist} (hl : l ≠ []) : firstA E a o.op m l = (krd E o).run a s := by
  cases l with
  | nil => exact absurd rfl hl
  | cons e l =>
    obtain ⟨c, h⟩ := e
    simp only [firstA]
    rw [krd_pu hp (h := h)]
    cases hv : evR E a h o.op with
    | none => rfl
    | some x =>
      have hx : ∀ h', evR E a h' o.op = some x := fun h' => by rw [← hv, ← krd_pu (s := s) hp, ← krd_pu (s := s) hp]
      cases c with
      | none => rfl
      | some c =>
        simp only
        rw [sameA_pu hx m l]
        cases m.testBit c <;> rfl
def ksame (v : KV) (a : Tree AV) (m : Nat) (x : AV) (l : Hist) : Bool := List.rec true (fun e _ ih => Prod.rec (fun c h => Option.rec false (fun y => Bool.rec false (Option.rec true (fun c => Bool.rec ih true (kbit m c)) c) (eqV x y)) (v.run a ⟨h, 0⟩)) e) l
theorem ksame_eq {E : Env} {a : Tree AV} {o : Oper} {m : Nat} {x : AV} : ∀ l : Hist, ksame (krd E o) a m x l = sameA E a o.op m x l
  | [] => rfl
  | (c, h) :: l => by
    show (Option.rec false (fun y => Bool.rec false (Option.rec true (fun c => Bool.rec (ksame (krd E o) a m x l) true (kbit m c)) c) (eqV x y)) ((krd E o).run a ⟨h, 0⟩) : Bool) = _
    rw [ksame_eq l, krd_eq]
    simp only [sameA]
    cases evR E a h o.op with
    | none => rfl
    | some y =>
      simp only
      cases eqV x y with
      | false => rfl
      | true =>
        cases c with
        | none => rfl
        | some c => simp only [kbit_eq]; cases m.testBit c <;> rfl
def kfirst (v : KV) (m : Nat) (a : Tree AV) (l : Hist) : Option AV := List.rec none (fun e l _ => Prod.rec (fun c h => Option.rec none (fun x => Option.rec (some x) (fun c => Bool.rec (Bool.rec none (some x) (ksame v a m x l)) (some x) (kbit m c)) c) (v.run a ⟨h, 0⟩)) e) l
theorem kfirst_eq {E : Env} {a : Tree AV} {o : Oper} {m : Nat} (l : Hist) : kfirst (krd E o) m a l = firstA E a o.op m l := by
  cases l with
  | nil => rfl
  | cons e l =>
    obtain ⟨c, h⟩ := e
    show (Option.rec none (fun x => Option.rec (some x) (fun c => Bool.rec (Bool.rec none (some x) (ksame (krd E o) a m x l)) (some x) (kbit m c)) c) ((krd E o).run a ⟨h, 0⟩) : Option AV) = _
    rw [krd_eq]
    simp only [firstA]
    cases evR E a h o.op with
    | none => rfl
    | some x =>
      cases c with
      | none => rfl
      | some c =>
        simp only [kbit_eq, ksame_eq]
        cases m.testBit c with
        | true => rfl
        | false => cases sameA E a o.op m x l <;> rfl
theorem evA_none {E : Env} {a : Tree AV} {op : Op} (h : isAop op = false) : evA E a op = none := by
  cases op <;> first | rfl | (simp only [isAop] at h; cases h)
def kqo (q : KQ) : KO := KQ.rec (fun v => ⟨fun call a s => Option.rec none (fun x => some (some x, s)) (v.run a s)⟩) (fun o => o) q
theorem kqo_eq (q : KQ) (call : CallF) (a : Tree AV) (s : St) : (kqo q).run call a s = q.ev call a s := by
  cases q with
  | v x =>
    show (Option.rec none (fun y => some (some y, s)) (x.run a s) : Option (Option AV × St)) = _
    unfold KQ.ev
    simp only
    cases x.run a s <;> rfl
  | o x => rfl
def kskip (nt dn : Nat) (o : Oper) (m : Nat) : KH := match subM m dn with
  | true => ⟨fun _ a s hist => Option.rec none (fun a => some (a, s, hist)) ((kput nt o.dst).run a (.tup []))⟩
  | false => ⟨fun _ _ _ _ => none⟩
def kreadP (p : KPut) (v : KV) : KH := ⟨fun _ a s hist => Option.rec none (fun x => Option.rec none (fun a => some (a, s, hist)) (p.run a x)) (v.run a s)⟩
def kreadH (p : KPut) (v : KV) (m : Nat) : KH := ⟨fun _ a s hist => Option.rec none (fun x => Option.rec none (fun a => some (a, s, hist)) (p.run a x)) (kfirst v m a hist)⟩
def kactA (p : KPut) (q : KO) (i : Nat) : KH := ⟨fun call a s hist => Option.rec none (fun r => Prod.rec (fun x s2 => Bool.rec none (Option.rec none (fun a => some (a, s2, (some i, s2.h) :: hist)) (p.run a (Option.rec (.tup []) (fun x => x) x))) (Nat.ble s.nx s2.nx)) r) (q.run call a s)⟩
def kact (E : Env) (nt : Nat) (ops : List Oper) (cl : Tree Nat) (i dn : Nat) (o : Oper) (m : Nat) : KH := match insTo ops o with
  | some i' => ⟨fun call a s hist => unD (stepIns nt i ⟨a, s, dn, hist⟩ o m i')⟩
  | none => match isRC o.op with
    | true => match subM m dn with
      | false => ⟨fun _ _ _ _ => none⟩
      | true => match isPu o.op with
        | true => kreadP (kput nt o.dst) (krd E o)
        | false => kreadH (kput nt o.dst) (krd E o) m
    | false => match isAop o.op with
      | true => ⟨fun call a s hist => match evA E a o.op with
        | some r => unD (stepNew E nt ops cl i ⟨a, s, dn, hist⟩ o m r)
        | none => unD (stepAct E call nt ops i ⟨a, s, dn, hist⟩ o m)⟩
      | false => match Nat.beq m dn && fillsOK ops dn ops 0 with
        | true => kactA (kput nt o.dst) (kqo (kop E o)) i
        | false => ⟨fun _ _ _ _ => none⟩
def kdstep (E : Env) (nt : Nat) (ops : List Oper) (cl : Tree Nat) (i dn : Nat) : KH := match nthL ops i with
  | none => ⟨fun _ _ _ _ => none⟩
  | some o => match cl.get i with
    | none => ⟨fun _ _ _ _ => none⟩
    | some m => match dn.testBit i with
      | true => ⟨fun _ _ _ _ => none⟩
      | false => match o.guard with
        | none => kact E nt ops cl i dn o m
        | some g => ⟨fun call a s hist => Option.rec none (fun b => Bool.rec ((kskip nt dn o m).run call a s hist) ((kact E nt ops cl i dn o m).run call a s hist) b) (guardA ops a (some g))⟩
/-- The step that is evaluated as such. -/
structure StepR (x : Option DSt) (y : Option (Tree AV × St × Hist)) (n : Nat) : Prop where
  eq : x = y.map (reD n)
  ne : ∀ r, y = some r → r.2.2 ≠ []
section
variable {E : Env} {call : CallF} {a : Tree AV} {s : St} {nt : Nat} {ops : List Oper} {cl : Tree Nat} {i dn m : Nat} {o : Oper} {hist : Hist}
theorem StepR.none {n : Nat} : StepR none none n := ⟨rfl, fun r h => by cases h⟩
theorem StepR.unD {x : Option DSt} {n : Nat} (h1 : ∀ d, x = some d → d.done = n) (h2 : ∀ d, x = some d → d.hist ≠ []) : StepR x (unD x) n := by
  cases x with
  | none => exact .none
  | some d =>
    refine ⟨?_, fun r hr => ?_⟩
    · have := h1 d rfl
      subst this
      rfl
    · cases hr; exact h2 d rfl
theorem kskip_ok (hh : hist ≠ []) : StepR (stepSkip nt i ⟨a, s, dn, hist⟩ o m) ((kskip nt dn o m).run call a s hist) (Nat.lor dn (Nat.shiftLeft 1 i)) := by
  unfold kskip stepSkip
  cases subM m dn with
  | false => exact .none
  | true =>
    simp only [cond_true, kput_eq]
    cases putA nt a o.dst (.tup []) with
    | none => exact .none
    | some a' => exact ⟨rfl, fun r hr => by cases hr; exact hh⟩
theorem stepIns_done {d d' : DSt} {i' : Nat} (h : stepIns nt i d o m i' = some d') : d'.done = Nat.lor d.done (Nat.shiftLeft 1 i) ∧ d'.hist = d.hist := by
  unfold stepIns at h
  cases hb : (subM m d.done && m.testBit i') with
  | false => rw [hb] at h; cases h
  | true =>
    rw [hb, cond_true] at h
    repeat' (split at h)
    all_goals first | (cases h; done) | (cases h; exact ⟨rfl, rfl⟩)
theorem stepNew_done {d d' : DSt} {r : Blk × (Nat → AV)} (h : stepNew E nt ops cl i d o m r = some d') : d'.done = Nat.lor d.done (Nat.shiftLeft 1 i) ∧ d'.hist = d.hist := by
  unfold stepNew at h
  cases hb : subM m d.done with
  | false => rw [hb] at h; cases h
  | true =>
    rw [hb, cond_true] at h
    repeat' (split at h)
    all_goals first | (cases h; done) | (cases h; exact ⟨rfl, rfl⟩)
theorem stepAct_done {d d' : DSt} (h : stepAct E call nt ops i d o m = some d') : d'.done = Nat.lor d.done (Nat.shiftLeft 1 i) ∧ d'.hist ≠ [] := by
  unfold stepAct at h
  cases hb : (Nat.beq m d.done && fillsOK ops d.done ops 0) with
  | false => rw [hb] at h; cases h
  | true =>
    rw [hb, cond_true] at h
    split at h <;> try (cases h; done)
    rename_i r hr
    cases hb2 : Nat.ble d.s.nx r.2.nx with
    | false => rw [hb2] at h; cases h
    | true =>
      rw [hb2, cond_true] at h
      split at h <;> try (cases h; done)
      cases h
      exact ⟨rfl, List.cons_ne_nil _ _⟩
theorem kact_ok (hh : hist ≠ []) : StepR (match insTo ops o with
        | some i' => stepIns nt i ⟨a, s, dn, hist⟩ o m i'
        | none => bif isRC o.op then stepRead E nt i ⟨a, s, dn, hist⟩ o m else match evA E a o.op with
          | some r => stepNew E nt ops cl i ⟨a, s, dn, hist⟩ o m r
          | none => stepAct E call nt ops i ⟨a, s, dn, hist⟩ o m) ((kact E nt ops cl i dn o m).run call a s hist) (Nat.lor dn (Nat.shiftLeft 1 i)) := by
  unfold kact
  cases insTo ops o with
  | some i' => exact .unD (fun d hd => (stepIns_done hd).1) fun d hd => by rw [(stepIns_done hd).2]; exact hh
  | none =>
    simp only
    cases isRC o.op with
    | true =>
      simp only [cond_true]
      unfold stepRead
      simp only
      cases subM m dn with
      | false => exact .none
      | true =>
        simp only [cond_true]
        cases hp : isPu o.op with
        | true =>
          simp only [kreadP]
          rw [firstA_pu (s := s) hp m hh]
          cases (krd E o).run a s with
          | none => exact .none
          | some x =>
            simp only [kput_eq]
            cases putA nt a o.dst x with
            | none => exact .none
            | some a' => exact ⟨rfl, fun r hr => by cases hr; exact hh⟩
        | false =>
          simp only [kreadH, kfirst_eq]
          cases firstA E a o.op m hist with
          | none => exact .none
          | some x =>
            simp only [kput_eq]
            cases putA nt a o.dst x with
            | none => exact .none
            | some a' => exact ⟨rfl, fun r hr => by cases hr; exact hh⟩
    | false =>
      simp only [cond_false]
      cases hA : isAop o.op with
      | true =>
        simp only
        cases evA E a o.op with
        | some r => exact .unD (fun d hd => (stepNew_done hd).1) fun d hd => by rw [(stepNew_done hd).2]; exact hh
        | none => exact .unD (fun d hd => (stepAct_done hd).1) fun d hd => (stepAct_done hd).2
      | false =>
        rw [evA_none hA]
        simp only
        unfold stepAct
        simp only
        cases Nat.beq m dn && fillsOK ops dn ops 0 with
        | false => exact .none
        | true =>
          simp only [cond_true, kactA, kqo_eq, kop_eq]
          cases evO E call a s o with
          | none => exact .none
          | some r =>
            obtain ⟨x, s2⟩ := r
            simp only
            cases Nat.ble s.nx s2.nx with
            | false => exact .none
            | true =>
              simp only [cond_true, kput_eq]
              have hx : (Option.rec (AV.tup []) (fun x => x) x : AV) = valA x := by cases x <;> rfl
              rw [hx]
              cases putA nt a o.dst (valA x) with
              | none => exact .none
              | some a' => exact ⟨rfl, fun r hr => by cases hr; exact List.cons_ne_nil _ _⟩
theorem kdstep_ok (hh : hist ≠ []) : StepR (stepC E call nt ops cl i ⟨a, s, dn, hist⟩) ((kdstep E nt ops cl i dn).run call a s hist) (Nat.lor dn (Nat.shiftLeft 1 i)) := by
  unfold kdstep stepC
  cases nthL ops i with
  | none => exact .none
  | some o =>
    simp only
    cases cl.get i with
    | none => exact .none
    | some m =>
      simp only
      cases dn.testBit i with
      | true => exact .none
      | false =>
        simp only [cond_false]
        cases hg : o.guard with
        | none =>
          simp only [guardA]
          exact kact_ok hh
        | some g =>
          simp only
          cases guardA ops a (some g) with
          | none => exact .none
          | some b =>
            cases b with
            | false => exact kskip_ok hh
            | true => exact kact_ok hh
structure KR where
  run : CallF → Tree AV → St → Hist → Option (Tree AV × St)
def krun (E : Env) (nt : Nat) (ops : List Oper) (cl : Tree Nat) (full : Nat) (l : List Nat) : Nat → KR := List.rec (fun dn => Bool.rec ⟨fun _ _ _ _ => none⟩ ⟨fun _ a s _ => some (a, s)⟩ (Nat.beq dn full)) (fun i _ ih dn => ⟨fun call a s hist => Option.rec none (fun r => Prod.rec (fun a r => Prod.rec (fun s hist => (ih (Nat.lor dn (Nat.shiftLeft 1 i))).run call a s hist) r) r) ((kdstep E nt ops cl i dn).run call a s hist)⟩) l
theorem krun_eq {full : Nat} : ∀ (l : List Nat) (dn : Nat) (a : Tree AV) (s : St) (hist : Hist), hist ≠ [] → (krun E nt ops cl full l dn).run call a s hist = match runC E call nt ops cl l ⟨a, s, dn, hist⟩ with
    | some d => bif Nat.beq d.done full then some (d.a, d.s) else none
    | none => none
  | [], dn, a, s, hist, hh => by
    simp only [runC]
    show (KR.run (Bool.rec ⟨fun _ _ _ _ => none⟩ ⟨fun _ a s _ => some (a, s)⟩ (Nat.beq dn full)) call a s hist : Option (Tree AV × St)) = _
    cases Nat.beq dn full <;> rfl
  | i :: l, dn, a, s, hist, hh => by
    show (Option.rec none (fun r => Prod.rec (fun a r => Prod.rec (fun s hist => (krun E nt ops cl full l (Nat.lor dn (Nat.shiftLeft 1 i))).run call a s hist) r) r) ((kdstep E nt ops cl i dn).run call a s hist) : Option (Tree AV × St)) = _
    have hs := kdstep_ok (E := E) (call := call) (a := a) (s := s) (nt := nt) (ops := ops) (cl := cl) (i := i) (dn := dn) hh
    simp only [runC]
    rw [hs.eq]
    cases hr : (kdstep E nt ops cl i dn).run call a s hist with
    | none => rfl
    | some r =>
      obtain ⟨a', s', h'⟩ := r
      exact krun_eq l _ a' s' h' (hs.ne _ hr)
def kdraw (E : Env) (nt : Nat) (ops : List Oper) : KSt := match statOK ops (closM ops 0 .leaf) ops 0 with
  | true => ⟨fun call a s => (krun E nt ops (closM ops 0 .leaf) (Nat.shiftLeft 1 ops.length - 1) (ordA ops.length (closM ops 0 .leaf) (insL ops ops 0) ops ops 0 0) 0).run call a s [(none, s.h)]⟩
  | false => ⟨fun _ _ _ => none⟩
theorem kdraw_eq (E : Env) (call : CallF) (nt : Nat) (ops : List Oper) (a : Tree AV) (s : St) : (kdraw E nt ops).run call a s = drawA E call nt ops a s := by
  unfold kdraw drawA
  simp only
  cases statOK ops (closM ops 0 .leaf) ops 0 with
  | false => rfl
  | true =>
    simp only [cond_true]
    exact krun_eq _ _ _ _ _ (List.cons_ne_nil _ _)
end
end
end Go.Proofs.YtbioklhoolkhkadGreatDoor
