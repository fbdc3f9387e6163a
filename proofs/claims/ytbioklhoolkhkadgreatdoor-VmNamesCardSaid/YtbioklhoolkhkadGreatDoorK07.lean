/- An evaluator of closed calls: a new block, in every order. No program in sight. An evaluator of closed calls: the evaluation catches up by one step. No program in sight. An evaluator of closed calls: the evaluation catches up. No program in sight. An evaluator of closed calls: a guard, in every order. No program in sight. An evaluator of closed calls: a read, in every order. No program in sight. An evaluator of closed calls: what the check of a drawn region says. No program in sight. An evaluator of closed calls: an entry put into a map of this region, in every order. No program in sight. An evaluator of closed calls: an entry put into a map of this region, in every order: what holds behind it. No program in sight. An evaluator of closed calls: an entry put into a map of this region, in every order. No program in sight. An evaluator of closed calls: a call, a store or the like in a drawn region: what holds behind it. No program in sight. An evaluator of closed calls: one operation of a drawn region, in every order. No program in sight. -/
import Derived.Test.YtbioklhoolkhkadGreatDoorK06
namespace Go.Proofs.YtbioklhoolkhkadGreatDoor
set_option linter.unusedVariables false
set_option linter.unusedSimpArgs false
set_option linter.unusedSectionVars false
open Go Go.RowKit
noncomputable section

def hdAdd (Hd : HoldF) (i : Nat) (x : Nat × Nat × Obj) : HoldF := fun k => if k = i then some x else Hd k
section
variable {P : Program} {E : Env} {call : CallF} {nt : Nat} {ops : Array Oper} {cl : Tree Nat} {fr fr' : Nat → Option Obj} {w0 w : World} {ds : List Deferred} {df d : DSt} {l : List Nat} {listed : Array Bool} {Hd : HoldF} {R : Nat → Nat × Nat} {act : Act}
theorem J.new (j : J P E call nt ops cl fr w0 ds df l d listed Hd fr' R act w) (hmask : MaskOK ops cl) (hone : ∀ (k k' t : Nat) (o o' : Oper), ops[k]? = some o → ops[k']? = some o' → o.dst = some t → o'.dst = some t → k = k')
    {i : Nat} (hr : i ∈ Region.ready .any ops listed) {di di' : DSt} (ti : Tr E call nt ops.toList cl l d i di) (hs : stepC E call nt ops.toList cl i di = some di') {o : Oper} (ho : ops[i]? = some o) {blk : Blk} {mk : Nat → AV} (hA : evA E di.a o.op = some (blk, mk)) {ents : List (Nat × AV × AV)} (hents : entsA E cl di.done i di.a ops.toList blk o.dst = some ents) (hsn : di'.s = di.s.new (fillB blk ents)) (hh : di'.hist = di.hist) (hp : putA nt di.a o.dst (mk di.s.nx) = some di'.a)
    {ob : Obj} {v : Value} {sz : Nat} (hB : ∀ R' n', OKR E call nt ops cl l d Hd R i R' n' → BR R' n' sz (fillB blk []) ob) (hV : ∀ R' n' b, b < n' → R' b = (w.heap.size, sz) → VR R' n' (mk b) v) :
    J P E call nt ops cl fr w0 ds df l d (listed.setIfInBounds i true) (hdAdd Hd i (w.heap.size, sz, ob)) (frAdd fr' w.heap.size ob) R (act.put o.dst v) (w.alloc ob) := by
  have hi := ready_not hr
  have hl : ∀ k, listed[k]? = some true → (listed.setIfInBounds i true)[k]? = some true := fun k hk => by
    rw [list_get hi]
    by_cases e : k = i
    · rw [if_pos e]
    · rw [if_neg e]; exact hk
  have hl2 : ∀ k, (listed.setIfInBounds i true)[k]? = some true → k = i ∨ listed[k]? = some true := fun k hk => by
    rw [list_get hi] at hk
    by_cases e : k = i
    · exact .inl e
    · rw [if_neg e] at hk; exact .inr hk
  have hni : Hd i = none := by
    cases hx : Hd i with
    | none => rfl
    | some x =>
      have := (j.held i x.1 x.2.1 x.2.2 hx).1
      rw [hi] at this
      cases this
  have hold : ∀ k x, Hd k = some x → hdAdd Hd i (w.heap.size, sz, ob) k = some x := fun k x hk => by
    unfold hdAdd
    rw [if_neg (fun e => by rw [e, hni] at hk; cases hk)]
    exact hk
  have hok : ∀ k R' n', OKR E call nt ops cl l d (hdAdd Hd i (w.heap.size, sz, ob)) R k R' n' → OKR E call nt ops cl l d Hd R k R' n' := fun k R' n' h => ⟨h.1, h.2.1, fun k2 D s2 o2 dk hk hk2 tk => h.2.2 k2 D s2 o2 dk hk (hold _ _ hk2) tk⟩
  have hsz : ∀ k D s2 o2, Hd k = some (D, s2, o2) → D < w.heap.size := fun k D s2 o2 hk => lt_of_heap (j.hr.fr D o2 (j.held k D s2 o2 hk).2.1)
  have hfn : fr w.heap.size = none := by
    cases hx : fr w.heap.size with
    | none => rfl
    | some y =>
      have := lt_of_heap (j.hr.fr _ _ (j.frs _ _ hx))
      omega
  have hni : ∀ ty t k v, o.op = .insert ty (.tmp t) k v → o.guard ≠ none := fun ty t k v e => by rw [e] at hA; cases hA
  have hnone : entsIn ents (listed.setIfInBounds i true) = [] := by
    unfold entsIn
    rw [List.filter_eq_nil_iff]
    intro e he hl'
    have h1 := hl2 e.1 (by simpa using hl')
    obtain ⟨oe, ty, k, v, t, g1, g2, g3, g4⟩ := entsA_ins hents he
    rw [Array.getElem?_toList] at g1
    rcases h1 with e1 | e1
    · rw [e1, ho] at g1
      cases g1
      rw [g3] at hA
      cases hA
    · obtain ⟨m, hm1, hm2, _⟩ := g4.mask
      have := j.closed e.1 i e1 (hmask e.1 m hm1 i hm2)
      rw [hi] at this
      cases this
  refine ⟨j.run, fun k hk => hl k (j.done k hk), j.closed.add hr, j.hr.hold ob, fun k y hk => ?_, fun k D s2 o2 hk => ?_, fun k k' D s2 o2 s3 o3 hk hk' => ?_, fun k hk => ?_, fun k dk dk' hk tk sk => ?_, fun k dk dk' op t hk tk sk hop hdst => ?_, fun t y hy hno => ?_, ?_, ?_, fun k q oq h1 h2 h3 => hl q (j.fills k q oq h1 h2 h3)⟩
  · unfold frAdd
    rw [if_neg (fun e => by rw [e, hfn] at hk; cases hk)]
    exact j.frs k y hk
  · by_cases e : k = i
    · subst e
      unfold hdAdd at hk
      rw [if_pos rfl] at hk
      cases hk
      refine ⟨by rw [list_get hi, if_pos rfl], if_pos rfl, hfn, di, di', o, blk, mk, ents, ti, hs, ho, hA, hsn, hents, fun R' n' h => ?_⟩
      rw [hnone]
      exact hB R' n' (hok _ R' n' h.1)
    · have hk2 : Hd k = some (D, s2, o2) := by
        unfold hdAdd at hk
        rw [if_neg e] at hk
        exact hk
      obtain ⟨h1, h2, h3, dk, dk', op, b2, m2, ents2, t2, s4, h4, h5, h6, h8, h7⟩ := j.held k D s2 o2 hk2
      have hne := ents_ne h8 ho hni
      refine ⟨hl k h1, ?_, h3, dk, dk', op, b2, m2, ents2, t2, s4, h4, h5, h6, h8, fun R' n' h => ?_⟩
      rotate_left
      · rw [entsIn_add hi hne]
        have h' := h.less hi hne
        exact h7 R' n' ⟨hok _ R' n' h'.1, fun e he hl => hok _ R' n' (h'.2 e he hl)⟩
      unfold frAdd
      have := hsz k D s2 o2 hk2
      rw [if_neg (by omega)]
      exact h2
  · unfold hdAdd at hk hk'
    by_cases e : k = i
    · by_cases e' : k' = i
      · rw [e, e']
      · rw [if_pos e] at hk
        rw [if_neg e'] at hk'
        cases hk
        have := hsz _ _ _ _ hk'
        omega
    · rw [if_neg e] at hk
      by_cases e' : k' = i
      · rw [if_pos e'] at hk'
        cases hk'
        have := hsz _ _ _ _ hk
        omega
      · rw [if_neg e'] at hk'
        exact j.inj k k' D s2 o2 s3 o3 hk hk'
  · rcases hl2 k hk with rfl | hk
    · rintro ⟨dc, dc', t1, s1, n1⟩
      have := t1.det ti
      subst this
      rw [hs] at s1
      cases s1
      exact n1 hh
    · exact j.noact k hk
  · rcases hl2 k hk with rfl | hk
    · right
      unfold hdAdd
      rw [if_pos rfl]
      simp
    · rcases j.all k dk dk' hk tk sk with h | h
      · exact .inl h
      · right
        cases hx : Hd k with
        | none => exact absurd hx h
        | some x => rw [hold k x hx]; simp
  · by_cases hki : k = i
    · subst hki
      have := tk.det ti
      subst this
      rw [hs] at sk
      cases sk
      rw [ho] at hop
      cases hop
      rw [hdst] at hp
      refine ⟨v, mk dk.s.nx, ?_, ?_, fun R' n' h => ?_⟩
      · rw [hdst]; exact put_eq (by rw [j.nt]; exact putA_lt hp)
      · rw [putA_get hp, if_pos rfl]
      · obtain ⟨g1, g2⟩ := h.2.2 k w.heap.size sz ob dk (.inl rfl) (by unfold hdAdd; rw [if_pos rfl]) tk
        exact hV R' n' dk.s.nx g1 g2
    · have hk' := (hl2 k hk).resolve_left hki
      obtain ⟨u, y, h1, h2, h3⟩ := j.early k dk dk' op t hk' tk sk hop hdst
      refine ⟨u, y, ?_, h2, fun R' n' h => h3 R' n' (hok k R' n' h)⟩
      rw [put_ne (fun e => hki (hone k i t op o hop ho hdst e))]
      exact h1
  · have hne : o.dst ≠ some t := hno i di o (by rw [list_get hi, if_pos rfl]) ti ho
    rw [put_ne hne]
    exact j.rest t y hy fun k dk op hk => hno k dk op (hl k hk)
  · rw [put_size]; exact j.nt
  · rw [put_defers]; exact j.ds
end
end
end Go.Proofs.YtbioklhoolkhkadGreatDoor
namespace Go.Proofs.YtbioklhoolkhkadGreatDoor
set_option linter.unusedVariables false
set_option linter.unusedSimpArgs false
set_option linter.unusedSectionVars false
open Go Go.RowKit
noncomputable section

def DoneOK (ops : Array Oper) (m : Nat) : Prop := ∀ i k, m.testBit i = true → Before ops k i → m.testBit k = true
section
variable {P : Program} {E : Env} {call : CallF} {nt : Nat} {ops : Array Oper} {cl : Tree Nat} {fr fr' fr2 : Nat → Option Obj} {w0 w : World} {ds : List Deferred} {df d d' : DSt} {l : List Nat} {listed : Array Bool} {Hd Hd2 : HoldF} {R R1 : Nat → Nat × Nat} {act : Act} {i : Nat}
theorem step_ahead (hall : MaskAll ops cl) (hd : DoneOK ops d.done) (hs : stepC E call nt ops.toList cl i d = some d') {k : Nat} (hb : Before ops k i) : d.done.testBit k = true := by
  obtain ⟨m, hm, hsub⟩ := (stepC_inv hs).before
  cases hb with
  | edge ho h1 h2 => exact hsub _ (hall _ _ _ hm ho _ h1 h2)
  | step ho h1 h2 h3 => exact hd _ _ (hsub _ (hall _ _ _ hm ho _ h1 h2)) h3
theorem J.step (j : J P E call nt ops cl fr w0 ds df (i :: l) d listed Hd fr' R act w) (hi : listed[i]? = some true) (hs : stepC E call nt ops.toList cl i d = some d')
    (hE : Ext d.s.nx R R1) (hw : HR fr2 R1 d'.s w0 w) (hok : OKR E call nt ops cl (i :: l) d Hd R i R1 d'.s.nx) (hoks : ∀ k R' n', OKR E call nt ops cl l d' Hd2 R1 k R' n' → OKR E call nt ops cl (i :: l) d Hd R k R' n')
    (hH : ∀ k x, Hd2 k = some x → Hd k = some x ∧ k ≠ i) (hH2 : ∀ k, k ≠ i → Hd k ≠ none → Hd2 k ≠ none) (hf : ∀ k o, fr k = some o → fr2 k = some o) (hf2 : ∀ k D sz o, Hd2 k = some (D, sz, o) → fr2 D = some o) (hfi : ∀ (q : Nat) (oq : Oper), ops[q]? = some oq → insTo ops.toList oq = some i → listed[q]? = some true) :
    J P E call nt ops cl fr w0 ds df l d' listed Hd2 fr2 R1 act w := by
  have hK := stepC_inv hs
  have hrun := j.run
  simp only [runC, hs] at hrun
  have hne : ∀ {k dk}, Tr E call nt ops.toList cl l d' k dk → i ≠ k := fun {k dk} tk e => by
    have h1 := tk.not
    have h2 := tk.mono (k := i) (by rw [hK.done.2]; simp)
    rw [e, h1] at h2
    cases h2
  have up : ∀ {k dk}, Tr E call nt ops.toList cl l d' k dk → Tr E call nt ops.toList cl (i :: l) d k dk := fun {k dk} tk => .next hs (hne tk) tk
  refine ⟨hrun, fun k hk => ?_, j.closed, hw, hf, fun k D sz o hk => ?_, fun k k' D sz o sz' o' hk hk' => j.inj k k' D sz o sz' o' (hH _ _ hk).1 (hH _ _ hk').1, fun k hk ha => j.noact k hk (ha.next hs), fun k dk dk' hk tk sk => ?_, fun k dk dk' op t hk tk sk hop hdst => ?_, fun t x hx hno => ?_, j.nt, j.ds, fun k q oq h1 h2 h3 => ?_⟩
  · rw [hK.done.2, Bool.or_eq_true, decide_eq_true_iff] at hk
    rcases hk with hk | rfl
    · exact j.done k hk
    · exact hi
  · obtain ⟨g1, g2⟩ := hH _ _ hk
    obtain ⟨h1, h2, h3, dk, dk', op, b2, m2, ents, t2, s4, h4, h5, h6, h8, h7⟩ := j.held k D sz o g1
    rcases Tr.inv hs t2 with ⟨e, _⟩ | ⟨_, t3⟩
    · exact absurd e g2
    · exact ⟨h1, hf2 k D sz o hk, h3, dk, dk', op, b2, m2, ents, t3, s4, h4, h5, h6, h8, fun R' n' h => h7 R' n' ⟨hoks k R' n' h.1, fun e he hl => hoks e.1 R' n' (h.2 e he hl)⟩⟩
  · rcases j.all k dk dk' hk (up tk) sk with h | h
    · exact .inl h
    · exact .inr (hH2 k (Ne.symm (hne tk)) h)
  · obtain ⟨u, y, h1, h2, h3⟩ := j.early k dk dk' op t hk (up tk) sk hop hdst
    exact ⟨u, y, h1, h2, fun R' n' h => h3 R' n' (hoks k R' n' h)⟩
  · obtain ⟨o, y, ho, hp⟩ := hK.put
    have ho' : ops[i]? = some o := by rw [← Array.getElem?_toList]; exact ho
    by_cases e : o.dst = some t
    · obtain ⟨u, z, h1, h2, h3⟩ := j.early i d d' o t hi (.here hs) hs ho' e
      rw [hx] at h2
      cases h2
      exact ⟨u, h1, h3 R1 d'.s.nx hok⟩
    · have e1 : d'.a.get t = d.a.get t := by rw [putA_get hp, if_neg e]
      rw [e1] at hx
      obtain ⟨u, h1, h2⟩ := j.rest t x hx fun k dk op hk tk hop => by
        rcases Tr.inv hs tk with ⟨rfl, _⟩ | ⟨_, t3⟩
        · rw [ho'] at hop
          cases hop
          exact e
        · exact hno k dk op hk t3 hop
      exact ⟨u, h1, h2.mono hok.2.1 hE⟩
  · rw [hK.done.2, Bool.or_eq_true, decide_eq_true_iff] at h1
    rcases h1 with h1 | rfl
    · exact j.fills k q oq h1 h2 h3
    · exact hfi q oq h2 h3
theorem J.stepRead (j : J P E call nt ops cl fr w0 ds df (i :: l) d listed Hd fr' R act w) (hi : listed[i]? = some true) (hs : stepC E call nt ops.toList cl i d = some d') (hsame : d'.s = d.s) (hdc : ∀ k, Before ops k i → d.done.testBit k = true) (hfi : ∀ (q : Nat) (oq : Oper), ops[q]? = some oq → insTo ops.toList oq = some i → listed[q]? = some true) :
    J P E call nt ops cl fr w0 ds df l d' listed Hd fr' R act w := by
  obtain ⟨_, _, q3⟩ := runC_done (i :: l) j.run
  have hni : Hd i = none := by
    cases hx : Hd i with
    | none => rfl
    | some x =>
      obtain ⟨_, _, _, dk, dk', op, b2, m2, _, t2, s4, _, _, h6, _⟩ := j.held i x.1 x.2.1 x.2.2 hx
      have := t2.det (.here hs)
      subst this
      rw [hs] at s4
      cases s4
      rw [hsame] at h6
      have h7 : dk.s.nx = dk.s.nx + 1 := congrArg St.nx h6
      omega
  refine j.step hi hs (Ext.refl _ _) (by rw [hsame]; exact j.hr) ⟨Ext.refl _ _, by rw [hsame]; exact Nat.le_refl _, fun k D sz o dk hk hH tk => ?_⟩ (fun k R' n' h => ⟨by rw [← hsame]; exact h.1, by rw [← hsame]; exact h.2.1, fun k2 D sz o dk hk hH tk => ?_⟩) (fun k x hk => ⟨hk, fun e => by rw [e, hni] at hk; cases hk⟩) (fun k _ h => h) j.frs (fun k D sz o hk => (j.held k D sz o hk).2.1) hfi
  · rcases hk with rfl | hk
    · rw [hni] at hH; cases hH
    · have h1 := q3 k tk.mem
      rw [hdc k hk] at h1
      cases h1
  · rcases Tr.inv hs tk with ⟨rfl, _⟩ | ⟨_, t3⟩
    · rw [hni] at hH; cases hH
    · exact h.2.2 k2 D sz o dk hk hH t3
def hdDel (Hd : HoldF) (i : Nat) : HoldF := fun k => if k = i then none else Hd k
theorem J.stepNew (hall : MaskAll ops cl) (hone : ∀ (k k' t : Nat) (o o' : Oper), ops[k]? = some o → ops[k']? = some o' → o.dst = some t → o'.dst = some t → k = k') (hd : DoneOK ops d.done) (j : J P E call nt ops cl fr w0 ds df (i :: l) d listed Hd fr' R act w) (hi : listed[i]? = some true) (hs : stepC E call nt ops.toList cl i d = some d') {D sz : Nat} {o : Obj} (hx : Hd i = some (D, sz, o)) (hfi : ∀ (q : Nat) (oq : Oper), ops[q]? = some oq → insTo ops.toList oq = some i → listed[q]? = some true) :
    J P E call nt ops cl fr w0 ds df l d' listed (hdDel Hd i) (frDel fr' D) (rAdd R d.s.nx (D, sz)) act w := by
  obtain ⟨_, _, q3⟩ := runC_done (i :: l) j.run
  have hdc : ∀ k, Before ops k i → d.done.testBit k = true := fun k hb => step_ahead hall hd hs hb
  obtain ⟨h1, h2, h3, dk, dk', op, b2, m2, ents, t2, s4, h4, h5, h6, h8, h7⟩ := j.held i D sz o hx
  have := t2.det (.here hs)
  subst this
  rw [hs] at s4
  cases s4
  have hnx : d'.s.nx = dk.s.nx + 1 := congrArg St.nx h6
  have hR1 : rAdd R dk.s.nx (D, sz) dk.s.nx = (D, sz) := if_pos rfl
  have hok : OKR E call nt ops cl (i :: l) dk Hd R i (rAdd R dk.s.nx (D, sz)) d'.s.nx := ⟨rAdd_ext _ _ _, by omega, fun k D' sz' o' dk2 hk hH tk => by
    rcases hk with rfl | hk
    · rw [hx] at hH
      cases hH
      have := tk.det (.here hs)
      subst this
      exact ⟨by omega, hR1⟩
    · have g1 := q3 k tk.mem
      rw [hdc k hk] at g1
      cases g1⟩
  have hins : ∀ e ∈ ents, listed[e.1]? = some true ∧ OKR E call nt ops cl (i :: l) dk Hd R e.1 (rAdd R dk.s.nx (D, sz)) d'.s.nx := fun e he => by
    obtain ⟨oe, g1, g2⟩ := ents_insTo hone h4 h5 h8 he
    refine ⟨hfi e.1 oe g1 g2, rAdd_ext _ _ _, by omega, fun k D' sz' o' dk2 hk hH tk => ?_⟩
    obtain ⟨oe', ty, ko, vo, t, q1, _, q4, q5⟩ := entsA_ins h8 he
    rw [Array.getElem?_toList, g1] at q1
    cases q1
    obtain ⟨m, hm1, hm2, hm3⟩ := q5.mask
    rcases hk with rfl | hk
    · obtain ⟨_, _, _, _, _, op2, _, _, _, _, _, p1, p2, _⟩ := j.held e.1 D' sz' o' hH
      rw [g1] at p1
      cases p1
      rw [q4] at p2
      cases p2
    · have hd2 : ∀ q, m.testBit q = true → ∀ k, k = q ∨ Before ops k q → k = i ∨ dk.done.testBit k = true := fun q hq k hk => by
        rcases hm3 q hq with h | h
        · rcases hk with rfl | hk
          · exact .inr h
          · exact .inr (hd q k h hk)
        · subst h
          rcases hk with rfl | hk
          · exact .inl rfl
          · exact .inr (hdc k hk)
      have : k = i ∨ dk.done.testBit k = true := by
        cases hk with
        | edge p1 p2 p3 =>
          rw [g1] at p1
          cases p1
          exact hd2 _ (hall e.1 m _ hm1 g1 _ p2 p3) _ (.inl rfl)
        | step p1 p2 p3 p4 =>
          rw [g1] at p1
          cases p1
          exact hd2 _ (hall e.1 m _ hm1 g1 _ p2 p3) _ (.inr p4)
      rcases this with rfl | hdk
      · rw [hx] at hH
        cases hH
        have := tk.det (.here hs)
        subst this
        exact ⟨by omega, hR1⟩
      · have g1 := q3 k tk.mem
        rw [hdk] at g1
        cases g1
  have hall2 : entsIn ents listed = ents := by
    unfold entsIn
    rw [List.filter_eq_self]
    intro e he
    rw [(hins e he).1]
    rfl
  rw [hall2] at h7
  have h7 := h7 _ _ ⟨hok, fun e he _ => (hins e he).2⟩
  refine j.step hi hs (rAdd_ext _ _ _) ?_ hok (fun k R' n' h => ?_) (fun k x hk => ?_) (fun k hne hk => ?_) (fun k y hk => ?_) (fun k D' sz' o' hk => ?_) hfi
  · rw [h6]
    exact j.hr.commit h2 (by rw [hnx] at h7; exact h7)
  · refine ⟨fun b hb => ?_, by have := h.2.1; omega, fun k2 D' sz' o' dk2 hk hH tk => ?_⟩
    · rw [h.1 b (by omega)]
      exact rAdd_ext R dk.s.nx (D, sz) b hb
    · rcases Tr.inv hs tk with ⟨e, e2⟩ | ⟨hne, t3⟩
      · rw [e, hx] at hH
        cases hH
        rw [e2]
        refine ⟨by have := h.2.1; omega, ?_⟩
        rw [h.1 dk.s.nx (by omega)]
        exact hR1
      · exact h.2.2 k2 D' sz' o' dk2 hk (by unfold hdDel; rw [if_neg (Ne.symm hne)]; exact hH) t3
  · unfold hdDel at hk
    by_cases e : k = i
    · rw [if_pos e] at hk; cases hk
    · rw [if_neg e] at hk; exact ⟨hk, e⟩
  · unfold hdDel
    rw [if_neg hne]
    exact hk
  · unfold frDel
    rw [if_neg (fun e => by rw [e, h3] at hk; cases hk)]
    exact j.frs k y hk
  · unfold hdDel at hk
    by_cases e : k = i
    · rw [if_pos e] at hk; cases hk
    · rw [if_neg e] at hk
      unfold frDel
      rw [if_neg (fun e2 => e (by subst e2; exact j.inj k i _ _ _ _ _ hk hx))]
      exact (j.held k D' sz' o' hk).2.1
end
end
end Go.Proofs.YtbioklhoolkhkadGreatDoor
namespace Go.Proofs.YtbioklhoolkhkadGreatDoor
set_option linter.unusedVariables false
set_option linter.unusedSimpArgs false
set_option linter.unusedSectionVars false
open Go Go.RowKit
noncomputable section

section
variable {P : Program} {E : Env} {call : CallF} {nt : Nat} {ops : Array Oper} {cl : Tree Nat} {fr fr' : Nat → Option Obj} {w0 w : World} {ds : List Deferred} {df d d' : DSt} {l : List Nat} {listed : Array Bool} {Hd : HoldF} {R : Nat → Nat × Nat} {act : Act} {i : Nat}
theorem DoneOK.step (hall : MaskAll ops cl) (hd : DoneOK ops d.done) (hs : stepC E call nt ops.toList cl i d = some d') : DoneOK ops d'.done := fun j k hj hb => by
  rw [(stepC_inv hs).done.2, Bool.or_eq_true, decide_eq_true_iff] at hj
  rw [(stepC_inv hs).done.2, Bool.or_eq_true]
  rcases hj with hj | rfl
  · exact .inl (hd j k hj hb)
  · exact .inl (step_ahead hall hd hs hb)
/-- What is listed already, ahead in the list, is done in the evaluation too. -/
theorem J.catch (hall : MaskAll ops cl) (hone : ∀ (k k' t : Nat) (o o' : Oper), ops[k]? = some o → ops[k']? = some o' → o.dst = some t → o'.dst = some t → k = k') : ∀ (l1 : List Nat) {l2 : List Nat} {d : DSt} {Hd : HoldF} {fr' : Nat → Option Obj} {R : Nat → Nat × Nat}, J P E call nt ops cl fr w0 ds df (l1 ++ l2) d listed Hd fr' R act w → (∀ k ∈ l1, listed[k]? = some true) → (∀ k ∈ l1, ∀ (q : Nat) (oq : Oper), ops[q]? = some oq → insTo ops.toList oq = some k → listed[q]? = some true) → DoneOK ops d.done →
    ∃ d2 Hd2 fr2 R2, runC E call nt ops.toList cl l1 d = some d2 ∧ J P E call nt ops cl fr w0 ds df l2 d2 listed Hd2 fr2 R2 act w ∧ DoneOK ops d2.done ∧ Ext d.s.nx R R2 ∧ d.s.nx ≤ d2.s.nx ∧ d2.hist = d.hist
  | [], l2, d, Hd, fr', R, j, _, _, hd => ⟨d, Hd, fr', R, rfl, j, hd, Ext.refl _ _, Nat.le_refl _, rfl⟩
  | i :: l1, l2, d, Hd, fr', R, j, hl, hfi, hd => by
    have hi := hl i (.head _)
    have hrun := j.run
    simp only [List.cons_append, runC] at hrun
    cases hs : stepC E call nt ops.toList cl i d with
    | none => rw [hs] at hrun; cases hrun
    | some d' =>
      have hK := stepC_inv hs
      have hdc : ∀ k, Before ops k i → d.done.testBit k = true := fun k hb => step_ahead hall hd hs hb
      have hh : d'.hist = d.hist := by
        by_cases e : d'.hist = d.hist
        · exact e
        · exact absurd ⟨d, d', .here hs, hs, e⟩ (j.noact i hi)
      have hrunc : runC E call nt ops.toList cl (i :: l1) d = runC E call nt ops.toList cl l1 d' := by simp only [runC, hs]
      have fin : ∀ {Hd' fr'' R'}, J P E call nt ops cl fr w0 ds df (l1 ++ l2) d' listed Hd' fr'' R' act w → Ext d.s.nx R R' → d.s.nx ≤ d'.s.nx →
          ∃ d2 Hd2 fr2 R2, runC E call nt ops.toList cl (i :: l1) d = some d2 ∧ J P E call nt ops cl fr w0 ds df l2 d2 listed Hd2 fr2 R2 act w ∧ DoneOK ops d2.done ∧ Ext d.s.nx R R2 ∧ d.s.nx ≤ d2.s.nx ∧ d2.hist = d.hist := fun {Hd' fr'' R'} j' hE hn => by
        obtain ⟨d2, Hd2, fr2, R2, h1, h2, h3, h4, h5, h6⟩ := J.catch hall hone l1 j' (fun k hk => hl k (.tail _ hk)) (fun k hk => hfi k (.tail _ hk)) (hd.step hall hs)
        exact ⟨d2, Hd2, fr2, R2, by rw [hrunc]; exact h1, h2, h3, hE.trans hn h4, Nat.le_trans hn h5, by rw [h6, hh]⟩
      by_cases hsame : d'.s = d.s
      · exact fin (j.stepRead hi hs hsame hdc (hfi i (.head _))) (Ext.refl _ _) (by rw [hsame]; exact Nat.le_refl _)
      · have hne := (j.all i d d' hi (.here hs) hs).resolve_left hsame
        cases hx : Hd i with
        | none => exact absurd hx hne
        | some x =>
          obtain ⟨D, sz, o⟩ := x
          exact fin (j.stepNew hall hone hd hi hs hx (hfi i (.head _))) (rAdd_ext _ _ _) hK.nx
theorem evA_congr {a a' : Tree AV} {op : Op} (h : ∀ x ∈ op.operands, opd a x = opd a' x) : evA E a op = evA E a' op := by
  cases op
  case box t x => simp only [evA, h x (by simp [Op.operands])]
  case buildSlice t n ps => simp only [evA, partsA_congr (fun p hp => h p.2 (by simp only [Op.operands, List.mem_toArray]; exact List.mem_map_of_mem hp))]
  case makeSlice t x y => simp only [evA, h x (by simp [Op.operands]), h y (by simp [Op.operands])]
  all_goals rfl
end
end
end Go.Proofs.YtbioklhoolkhkadGreatDoor
namespace Go.Proofs.YtbioklhoolkhkadGreatDoor
set_option linter.unusedVariables false
set_option linter.unusedSimpArgs false
set_option linter.unusedSectionVars false
open Go Go.RowKit
noncomputable section

theorem guardA_pick {ops : List Oper} {a : Tree AV} {gd : Option (Nat × Bool)} {l : List Nat} (h : ∀ g b og d, gd = some (g, b) → ops[g]? = some og → og.dst = some d → d ∈ l) : guardA ops (pickT a l) gd = guardA ops a gd := by
  cases gd with
  | none => rfl
  | some p =>
    obtain ⟨g, b⟩ := p
    simp only [guardA, nthL_eq]
    cases ho : ops[g]? with
    | none => rfl
    | some og =>
      simp only
      cases hd : og.dst with
      | none => rfl
      | some d => simp only [pickT_get, if_pos (h g b og d rfl ho hd)]
section
variable {P : Program} {E : Env} {call : CallF} {nt : Nat} {ops : Array Oper} {cl : Tree Nat} {fr fr' : Nat → Option Obj} {w0 w : World} {ds : List Deferred} {df d : DSt} {l : List Nat} {listed : Array Bool} {Hd : HoldF} {R : Nat → Nat × Nat} {act : Act}
theorem J.wanted (j : J P E call nt ops cl fr w0 ds df l d listed Hd fr' R act w) (hmask : MaskOK ops cl) (hfull : ∀ (k : Nat) (o : Oper), ops[k]? = some o → df.done.testBit k = true)
    (hone : ∀ (k k' t : Nat) (o o' : Oper), ops[k]? = some o → ops[k']? = some o' → o.dst = some t → o'.dst = some t → k = k') {i : Nat} {di : DSt} (hi : Tr E call nt ops.toList cl l d i di)
    (hb : ∀ k, Before ops k i → listed[k]? = some true) (hn : listed[i]? ≠ some true) {m : Nat} (hm : cl.get i = some m) {o : Oper} (hg : ∀ g b og, o.guard = some (g, b) → ops[g]? = some og → m.testBit g = true) {r : Bool} (hr : guardA ops.toList di.a o.guard = some r) :
    Region.wanted o (yielded ops act.tmps) = r := by
  obtain ⟨R', n', hok⟩ := j.ex
  cases hgd : o.guard with
  | none => rw [hgd] at hr; cases hr; unfold Region.wanted; rw [hgd]
  | some p =>
    obtain ⟨g, b⟩ := p
    cases hog : ops[g]? with
    | none =>
      have hp : guardA ops.toList (pickT di.a []) o.guard = some r := by
        rw [guardA_pick (fun g' b' og d' e1 e2 e3 => by
          rw [hgd] at e1
          cases e1
          rw [Array.getElem?_toList, hog] at e2
          cases e2)]
        exact hr
      exact guard_sound (s := ⟨.leaf, n'⟩) (R := R') (a := pickT di.a []) (TR.pick fun t ht => by cases ht) hp
    | some og =>
      have hp : guardA ops.toList (pickT di.a og.dst.toList) o.guard = some r := by
        rw [guardA_pick (fun g' b' og' d' e1 e2 e3 => by
          rw [hgd] at e1
          cases e1
          rw [Array.getElem?_toList, hog] at e2
          cases e2
          rw [e3]; simp)]
        exact hr
      refine guard_sound (s := ⟨.leaf, n'⟩) (R := R') (a := pickT di.a og.dst.toList) (TR.pick fun t ht x hx => ?_) hp
      have hdst : og.dst = some t := by
        cases hd : og.dst with
        | none => rw [hd] at ht; cases ht
        | some d' => rw [hd] at ht; simp at ht; rw [ht]
      exact j.sees hmask hfull hi hb hn hm (fun k ok hk hkd => .inl (by rw [hone k g t ok og hk hog hkd hdst]; exact hg g b og hgd hog)) (fun k k' o1 o2 h1 h2 h3 h4 => hone k k' t o1 o2 h1 h2 h3 h4) hx (hok i)
/-- What an operation looks at, in every order. -/
theorem J.tr (j : J P E call nt ops cl fr w0 ds df l d listed Hd fr' R act w) (hmask : MaskOK ops cl) (hfull : ∀ (k : Nat) (o : Oper), ops[k]? = some o → df.done.testBit k = true)
    (hone : ∀ (k k' t : Nat) (o o' : Oper), ops[k]? = some o → ops[k']? = some o' → o.dst = some t → o'.dst = some t → k = k') {i : Nat} {di : DSt} (hi : Tr E call nt ops.toList cl l d i di)
    (hb : ∀ k, Before ops k i → listed[k]? = some true) (hn : listed[i]? ≠ some true) {m : Nat} (hm : cl.get i = some m) {ts : List Nat} (ht : ∀ t ∈ ts, ∀ (k : Nat) (ok : Oper), ops[k]? = some ok → ok.dst = some t → m.testBit k = true ∨ ∃ mk, cl.get k = some mk ∧ mk.testBit i = true)
    {R' : Nat → Nat × Nat} {n' : Nat} (hok : OKR E call nt ops cl l d Hd R i R' n') : TR R' n' (pickT di.a ts) act :=
  TR.pick fun t h x hx => j.sees hmask hfull hi hb hn hm (ht t h) (fun k k' o1 o2 h1 h2 h3 h4 => hone k k' t o1 o2 h1 h2 h3 h4) hx hok
end
end
end Go.Proofs.YtbioklhoolkhkadGreatDoor
namespace Go.Proofs.YtbioklhoolkhkadGreatDoor
set_option linter.unusedVariables false
set_option linter.unusedSimpArgs false
set_option linter.unusedSectionVars false
open Go Go.RowKit
noncomputable section

section
variable {R R1 : Nat → Nat × Nat} {n n1 : Nat}
mutual
theorem VR.lower : ∀ {x : AV} {v v0 : Value}, VR R1 n1 x v → VR R n x v0 → Ext n R R1 → VR R n x v
  | .b _, _, _, h, _, _ => by simp only [VR] at h ⊢; exact h
  | .i _ _, _, _, h, _, _ => by simp only [VR] at h ⊢; exact h
  | .s _, _, _, h, _, _ => by simp only [VR] at h ⊢; exact h
  | .np, _, _, h, _, _ => by simp only [VR] at h ⊢; exact h
  | .p b o, _, _, h, h0, hE => by simp only [VR] at h h0 ⊢; rw [← hE b h0.1]; exact ⟨h0.1, h.2⟩
  | .ns, _, _, h, _, _ => by simp only [VR] at h ⊢; exact h
  | .sl b o l c e z, _, _, h, h0, hE => by simp only [VR] at h h0 ⊢; rw [← hE b h0.1]; exact ⟨h0.1, h.2⟩
  | .nm, _, _, h, _, _ => by simp only [VR] at h ⊢; exact h
  | .m b, _, _, h, h0, hE => by simp only [VR] at h h0 ⊢; rw [← hE b h0.1]; exact ⟨h0.1, h.2⟩
  | .nf, _, _, h, _, _ => by simp only [VR] at h ⊢; exact h
  | .fn f fst caps, _, _, h, h0, hE => by
    simp only [VR] at h h0 ⊢
    obtain ⟨us, vs, h1, h2, h3⟩ := h
    obtain ⟨us0, vs0, g1, g2, _⟩ := h0
    exact ⟨us, vs, VRL.lower h1 g1 hE, VRL.lower h2 g2 hE, h3⟩
  | .y b, _, _, h, h0, hE => by simp only [VR] at h h0 ⊢; rw [← hE b h0.1]; exact ⟨h0.1, h.2⟩
  | .ni, _, _, h, _, _ => by simp only [VR] at h ⊢; exact h
  | .agg l, _, _, h, h0, hE => by
    simp only [VR] at h h0 ⊢
    obtain ⟨vs, h1, h2⟩ := h
    obtain ⟨vs0, g1, _⟩ := h0
    exact ⟨vs, VRL.lower h1 g1 hE, h2⟩
  | .tup l, _, _, h, h0, hE => by
    simp only [VR] at h h0 ⊢
    obtain ⟨vs, h1, h2⟩ := h
    obtain ⟨vs0, g1, _⟩ := h0
    exact ⟨vs, VRL.lower h1 g1 hE, h2⟩
theorem VRL.lower : ∀ {l : List AV} {vs vs0 : List Value}, VRL R1 n1 l vs → VRL R n l vs0 → Ext n R R1 → VRL R n l vs
  | [], _, _, h, _, _ => by simp only [VRL] at h ⊢; exact h
  | x :: l, _, _, h, h0, hE => by
    simp only [VRL] at h h0 ⊢
    obtain ⟨u, us, h1, h2, h3⟩ := h
    obtain ⟨u0, us0, _, g2, g3⟩ := h0
    exact ⟨u, us, h1, VR.lower h2 g2 hE, VRL.lower h3 g3 hE⟩
end
theorem VRL.there : ∀ {l : List AV} {vs : List Value} {x : AV}, VRL R n l vs → x ∈ l → ∃ v, VR R n x v
  | [], _, _, _, hx => by cases hx
  | y :: l, _, x, h, hx => by
    simp only [VRL] at h
    obtain ⟨u, us, _, h1, h2⟩ := h
    rcases List.mem_cons.1 hx with rfl | hx
    · exact ⟨u, h1⟩
    · exact VRL.there h2 hx
theorem VRL.some : ∀ {l : List AV}, (∀ x ∈ l, ∃ v, VR R n x v) → ∃ vs, VRL R n l vs
  | [], _ => ⟨[], by simp only [VRL]⟩
  | x :: l, h => by
    obtain ⟨v, hv⟩ := h x (.head _)
    obtain ⟨vs, hvs⟩ := VRL.some fun y hy => h y (.tail _ hy)
    exact ⟨v :: vs, by simp only [VRL]; exact ⟨v, vs, rfl, hv, hvs⟩⟩
theorem BR.lower {sz : Nat} {x : Blk} {o o0 : Obj} (h : BR R1 n1 sz x o) (h0 : BR R n sz x o0) (hE : Ext n R R1) : BR R n sz x o := by
  cases x with
  | cells e cs =>
    obtain ⟨arr, h1, h2, h3, h4, h5⟩ := h
    obtain ⟨_, _, _, _, g4, _⟩ := h0
    exact ⟨arr, h1, h2, h3, h4.lower g4 hE, h5⟩
  | ro e cs =>
    obtain ⟨arr, f, h1, h2, h3, h4, h5⟩ := h
    obtain ⟨_, _, _, _, _, g4, _⟩ := h0
    exact ⟨arr, f, h1, h2, h3, h4.lower g4 hE, h5⟩
  | map es =>
    obtain ⟨mes, c, es1, h1, hp, hd, h2, h3⟩ := h
    obtain ⟨_, _, es0, _, gp, _, g2, g3⟩ := h0
    have hpp := hp.trans gp.symm
    obtain ⟨_, k2⟩ := VRL.some fun y hy => g2.there (x := y) ((hpp.map Prod.fst).mem_iff.1 hy)
    obtain ⟨_, k3⟩ := VRL.some fun y hy => g3.there (x := y) ((hpp.map Prod.snd).mem_iff.1 hy)
    exact ⟨mes, c, es1, h1, hp, hd, h2.lower k2 hE, h3.lower k3 hE⟩
  | loop =>
    obtain ⟨r, h1, h2, h3, h4, h5, h6, h7, h8⟩ := h
    obtain ⟨_, _, _, _, _, _, _, _, g8⟩ := h0
    refine ⟨r, h1, h2, h3, h4, h5, h6, h7, fun t x hx => ?_⟩
    obtain ⟨v, e1, e2⟩ := h8 t x hx
    obtain ⟨v0, _, f2⟩ := g8 t x hx
    exact ⟨v, e1, e2.lower f2 hE⟩
end
section
variable {P : Program} {E : Env} {call : CallF} {nt : Nat} {ops : Array Oper} {cl : Tree Nat} {fr fr' : Nat → Option Obj} {w0 w : World} {ds : List Deferred} {df d : DSt} {l : List Nat} {listed : Array Bool} {Hd : HoldF} {R : Nat → Nat × Nat} {act : Act}
/-- A read, in every order: what it makes. -/
theorem J.reads (hE : EnvOK P E) (j : J P E call nt ops cl fr w0 ds df l d listed Hd fr' R act w) (hmask : MaskOK ops cl) (hfull : ∀ (k : Nat) (o : Oper), ops[k]? = some o → df.done.testBit k = true)
    (hone : ∀ (k k' t : Nat) (o o' : Oper), ops[k]? = some o → ops[k']? = some o' → o.dst = some t → o'.dst = some t → k = k') {i : Nat} {di : DSt} (hi : Tr E call nt ops.toList cl l d i di)
    (hb : ∀ k, Before ops k i → listed[k]? = some true) (hn : listed[i]? ≠ some true) {m : Nat} (hm : cl.get i = some m) {o : Oper} (ht : ∀ t ∈ tmpsOf o.op.operands.toList, ∀ (k : Nat) (ok : Oper), ops[k]? = some ok → ok.dst = some t → m.testBit k = true ∨ ∃ mk, cl.get k = some mk ∧ mk.testBit i = true)
    (hr : isRC o.op = true) {x : AV} (hx : evR E di.a d.s.h o.op = some x) :
    ∃ v w', (execOp act.eval o).run P w = .ok (.value v) w' ∧ HR fr' R d.s w0 w' ∧ ∀ R' n', OKR E call nt ops cl l d Hd R i R' n' → VR R' n' x v := by
  have hx2 : evR E (pickT di.a (tmpsOf o.op.operands.toList)) d.s.h o.op = some x := by
    rw [evR_congr fun y hy => opd_pick (Array.mem_toList_iff.2 hy)]
    exact hx
  have one : ∀ R' n', OKR E call nt ops cl l d Hd R i R' n' → ∃ v w', (execOp act.eval o).run P w = .ok (.value v) w' ∧ HR fr' R' ⟨d.s.h, n'⟩ w0 w' ∧ VR R' n' x v := fun R' n' hok =>
    evR_sound hE (j.hr.wide hok.1 hok.2.1) (j.tr hmask hfull hone hi hb hn hm ht hok) hr hx2
  obtain ⟨R1, n1, hok1⟩ := j.ex
  obtain ⟨v, w', h1, h2, h3⟩ := one R1 n1 (hok1 i)
  refine ⟨v, w', h1, ?_, fun R' n' hok => ?_⟩
  · exact ⟨h2.os, h2.tape, h2.output, h2.fr, j.hr.lt, fun b y hy => by
      obtain ⟨g1, ob, g2, g3⟩ := h2.own b y hy
      have hlt := j.hr.lt b (by rw [hy]; simp)
      rw [(hok1 i).1 b hlt] at g1 g2 g3
      obtain ⟨_, ob0, _, g4⟩ := j.hr.own b y hy
      exact ⟨g1, ob, g2, g3.lower g4 (hok1 i).1⟩, j.hr.inj⟩
  · obtain ⟨v2, w2, e1, _, e3⟩ := one R' n' hok
    rw [h1] at e1
    cases e1
    exact e3
end
end
end Go.Proofs.YtbioklhoolkhkadGreatDoor
namespace Go.Proofs.YtbioklhoolkhkadGreatDoor
set_option linter.unusedVariables false
set_option linter.unusedSimpArgs false
set_option linter.unusedSectionVars false
open Go Go.RowKit
noncomputable section

section
variable {ops : List Oper} {cl : Tree Nat}
theorem seesOK_of {i m : Nat} : ∀ {l : List Nat}, seesOK ops cl i m l = true → ∀ t ∈ l, ∀ k, dstAt t ops 0 = some k → m.testBit k = true ∨ ∃ mk, cl.get k = some mk ∧ mk.testBit i = true
  | [], h, t, ht => by cases ht
  | u :: l, h, t, ht => fun k hk => by
    unfold seesOK at h
    have h1 : ∀ (c x : Bool), (bif c then x else false) = true → c = true ∧ x = true := fun c x hc => by cases c <;> first | exact ⟨rfl, hc⟩ | cases hc
    obtain ⟨g1, g2⟩ := h1 _ _ h
    rcases List.mem_cons.1 ht with e | ht
    · subst e
      rw [hk] at g1
      simp only at g1
      cases hm : m.testBit k with
      | true => exact .inl rfl
      | false =>
        rw [hm, cond_false] at g1
        cases hc : cl.get k with
        | none => rw [hc] at g1; cases g1
        | some mk => rw [hc] at g1; exact .inr ⟨mk, rfl, g1⟩
    · exact seesOK_of g2 t ht k hk
theorem statOK_of : ∀ (l : List Oper) (i : Nat), ops.drop i = l → statOK ops cl l i = true → ∀ k o, i ≤ k → ops[k]? = some o →
    (∃ m, cl.get k = some m ∧ seesOK ops cl k m (tmpsOf o.op.operands.toList) = true ∧ ∀ g b og, o.guard = some (g, b) → ops[g]? = some og → m.testBit g = true) ∧ ∀ k' o' t, k < k' → ops[k']? = some o' → o.dst = some t → o'.dst ≠ some t
  | [], i, hl, _, k, o, hk, ho => by
    have := congrArg List.length hl
    have hlt := (List.getElem?_eq_some_iff.1 ho).1
    simp at this
    omega
  | p :: l, i, hl, h, k, o, hk, ho => by
    have hp : ops[i]? = some p := by
      have := congrArg (fun l => l[0]?) hl
      simpa using this
    have hl1 : ops.drop (i + 1) = l := by
      rw [show i + 1 = 1 + i from Nat.add_comm _ _, Nat.add_comm, ← List.drop_drop, hl]; rfl
    have h1 : ∀ (c x : Bool), (bif c then x else false) = true → c = true ∧ x = true := fun c x hc => by cases c <;> first | exact ⟨rfl, hc⟩ | cases hc
    unfold statOK at h
    obtain ⟨g1, g2⟩ := h1 _ _ h
    cases hm : cl.get i with
    | none => rw [hm] at g2; cases g2
    | some m =>
      rw [hm] at g2
      simp only at g2
      obtain ⟨g3, g4⟩ := h1 _ _ g2
      obtain ⟨g5, g6⟩ := h1 _ _ g4
      rcases Nat.lt_or_ge i k with hik | hik
      · exact statOK_of l (i + 1) hl1 g6 k o hik ho
      · obtain rfl : i = k := by omega
        rw [hp] at ho
        cases ho
        refine ⟨⟨m, hm, g3, fun g b og e1 e2 => ?_⟩, fun k' o' t hk' ho' hd => ?_⟩
        · rw [e1] at g5
          simp only [nthL_eq, e2] at g5
          exact g5
        · unfold freshDst at g1
          rw [hd] at g1
          simp only at g1
          cases hda : dstAt t l 0 with
          | some q => rw [hda] at g1; cases g1
          | none =>
            refine dstAt_none hda o' ?_
            rw [← hl1]
            refine List.mem_iff_getElem?.2 ⟨k' - (i + 1), ?_⟩
            rw [List.getElem?_drop, show i + 1 + (k' - (i + 1)) = k' by omega]
            exact ho'
theorem stat_one (h : statOK ops cl ops 0 = true) (k k' t : Nat) (o o' : Oper) (ho : ops[k]? = some o) (ho' : ops[k']? = some o') (hd : o.dst = some t) (hd' : o'.dst = some t) : k = k' := by
  rcases Nat.lt_trichotomy k k' with hlt | e | hlt
  · exact absurd hd' ((statOK_of ops 0 rfl h k o (Nat.zero_le _) ho).2 k' o' t hlt ho' hd)
  · exact e
  · exact absurd hd ((statOK_of ops 0 rfl h k' o' (Nat.zero_le _) ho').2 k o t hlt ho hd')
theorem stat_sees (h : statOK ops cl ops 0 = true) {i m : Nat} {o : Oper} (ho : ops[i]? = some o) (hm : cl.get i = some m) (t : Nat) (ht : t ∈ tmpsOf o.op.operands.toList) (k : Nat) (ok : Oper) (hk : ops[k]? = some ok) (hd : ok.dst = some t) : m.testBit k = true ∨ ∃ mk, cl.get k = some mk ∧ mk.testBit i = true := by
  obtain ⟨⟨m', hm', hs, _⟩, _⟩ := statOK_of ops 0 rfl h i o (Nat.zero_le _) ho
  rw [hm] at hm'
  cases hm'
  cases hx : dstAt t ops 0 with
  | none => exact absurd hd (dstAt_none hx ok (List.mem_of_getElem? hk))
  | some k2 =>
    obtain ⟨_, o2, h2, h3⟩ := dstAt_some hx
    rw [Nat.sub_zero] at h2
    have := stat_one h k2 k t o2 ok h2 hk h3 hd
    subst this
    exact seesOK_of hs t ht k2 hx
end
end
end Go.Proofs.YtbioklhoolkhkadGreatDoor
namespace Go.Proofs.YtbioklhoolkhkadGreatDoor
set_option linter.unusedVariables false
set_option linter.unusedSimpArgs false
set_option linter.unusedSectionVars false
open Go Go.RowKit
noncomputable section

section
variable {P : Program} {E : Env} {fr : Nat → Option Obj} {R : Nat → Nat × Nat} {s : St} {w0 w : World}
/-- A block of the frame written. -/
theorem HR.refr (h : HR fr R s w0 w) {D : Nat} {o : Obj} (hD : fr D = some o) (o' : Obj) : HR (frAdd fr D o') R s w0 (w.putObj D o') := by
  have hl := lt_of_heap (h.fr D o hD)
  refine ⟨h.os, h.tape, h.output, fun k x hk => ?_, h.lt, fun b x hb => ?_, h.inj⟩
  · unfold frAdd at hk
    by_cases e : k = D
    · rw [if_pos e] at hk
      cases hk
      rw [e]
      exact World.putObj_heap_same hl
    · rw [if_neg e] at hk
      rw [World.putObj_heap_other e]
      exact h.fr k x hk
  · obtain ⟨h1, o2, h2, h3⟩ := h.own b x hb
    have e : (R b).1 ≠ D := fun e => by rw [e, hD] at h1; cases h1
    refine ⟨by unfold frAdd; rw [if_neg e]; exact h1, o2, ?_, h3⟩
    rw [World.putObj_heap_other e]
    exact h2
end
theorem Dist.other {es m1 m2 : List (Nat × AV × AV)} {e : Nat × AV × AV} (h : Dist ((m1 ++ e :: m2).map Prod.snd)) : ∀ e' ∈ m1 ++ m2, eqA1 e.2.1 e'.2.1 = some false := fun e' he => by
  rw [List.map_append, List.map_cons] at h
  rcases List.mem_append.1 he with he | he
  · exact h.split e'.2 (List.mem_map_of_mem he)
  · have h2 := h.perm (es' := m2.map Prod.snd ++ e.2 :: m1.map Prod.snd) (by
      refine List.perm_middle.trans ((List.Perm.cons _ List.perm_append_comm).trans List.perm_middle.symm))
    exact h2.split e'.2 (List.mem_map_of_mem he)
section
variable {listed : Array Bool}
/-- One more entry is there. -/
theorem entsIn_one {ents : List (Nat × AV × AV)} {i : Nat} {e : AV × AV} (hi : listed[i]? = some false) (hn : (ents.map Prod.fst).Nodup) (he : (i, e) ∈ ents) :
    ((entsIn ents listed) ++ [(i, e)]).Perm (entsIn ents (listed.setIfInBounds i true)) ∧ ∃ m1 m2, ents = m1 ++ (i, e) :: m2 ∧ ∀ e' ∈ entsIn ents listed, e' ∈ m1 ++ m2 := by
  obtain ⟨m1, m2, rfl⟩ := List.append_of_mem he
  have hne : ∀ e' ∈ m1 ++ m2, e'.1 ≠ i := fun e' he' e1 => by
    have hp := (List.perm_middle (l₁ := m1) (a := (i, e)) (l₂ := m2)).map Prod.fst
    have := hp.nodup_iff.1 hn
    rw [List.map_cons, List.nodup_cons] at this
    exact this.1 (List.mem_map.2 ⟨e', he', e1⟩)
  have f1 : ∀ l : List (Nat × AV × AV), (∀ e' ∈ l, e' ∈ m1 ++ m2) → entsIn l (listed.setIfInBounds i true) = entsIn l listed := fun l hl => by
    unfold entsIn
    refine List.filter_congr fun e' he' => ?_
    rw [list_get hi, if_neg (hne e' (hl e' he'))]
  have a1 : entsIn (m1 ++ (i, e) :: m2) listed = entsIn m1 listed ++ entsIn m2 listed := by
    unfold entsIn
    rw [List.filter_append, List.filter_cons_of_neg (by simp [hi])]
  have a2 : entsIn (m1 ++ (i, e) :: m2) (listed.setIfInBounds i true) = entsIn m1 listed ++ (i, e) :: entsIn m2 listed := by
    rw [← f1 m1 fun e' h => List.mem_append_left _ h, ← f1 m2 fun e' h => List.mem_append_right _ h]
    unfold entsIn
    rw [List.filter_append, List.filter_cons_of_pos (by simp [list_get hi])]
  refine ⟨?_, m1, m2, rfl, fun e' he' => ?_⟩
  · rw [a1, a2]
    refine List.perm_append_comm.trans ?_
    rw [List.singleton_append]
    exact List.perm_middle.symm
  · rw [a1] at he'
    rcases List.mem_append.1 he' with h | h
    · exact List.mem_append_left _ (List.mem_filter.1 h).1
    · exact List.mem_append_right _ (List.mem_filter.1 h).1
end
section
variable {P : Program} {E : Env} {call : CallF} {nt : Nat} {ops : Array Oper} {cl : Tree Nat} {fr fr' : Nat → Option Obj} {w0 w w' : World} {ds : List Deferred} {df d : DSt} {l : List Nat} {listed : Array Bool} {Hd : HoldF} {R : Nat → Nat × Nat} {act : Act}
theorem Tr.doneOK (hall : MaskAll ops cl) {l : List Nat} {d di : DSt} {i : Nat} (h : Tr E call nt ops.toList cl l d i di) (hd : DoneOK ops d.done) : DoneOK ops di.done := by
  induction h with
  | here _ => exact hd
  | next hs _ _ ih => exact ih (hd.step hall hs)
/-- What an insert looks at, as the evaluation saw it when the map was made. -/
theorem J.insSees (j : J P E call nt ops cl fr w0 ds df l d listed Hd fr' R act w) (hall : MaskAll ops cl) (hd : DoneOK ops d.done) (hmask : MaskOK ops cl) (hfull : ∀ (k : Nat) (o : Oper), ops[k]? = some o → df.done.testBit k = true)
    (hone : ∀ (k k' t : Nat) (o o' : Oper), ops[k]? = some o → ops[k']? = some o' → o.dst = some t → o'.dst = some t → k = k')
    {i i' : Nat} {di d0 : DSt} (ti : Tr E call nt ops.toList cl l d i di) (t0 : Tr E call nt ops.toList cl l d i' d0) (hb : ∀ k, Before ops k i → listed[k]? = some true) (hn : listed[i]? ≠ some true) {m : Nat} (hm : cl.get i = some m) (hmi : m.testBit i' = true)
    (hm3 : ∀ q, m.testBit q = true → d0.done.testBit q = true ∨ q = i') {tq : Nat} (ht : ∀ (k : Nat) (ok : Oper), ops[k]? = some ok → ok.dst = some tq → m.testBit k = true ∨ ∃ mk, cl.get k = some mk ∧ mk.testBit i = true)
    (hne : ∀ oi, ops[i']? = some oi → oi.dst ≠ some tq) {x : AV} (hx : d0.a.get tq = some x) {R' : Nat → Nat × Nat} {n' : Nat} (hok : OKR E call nt ops cl l d Hd R i R' n') : ∃ v, act.tmps[tq]? = some v ∧ VR R' n' x v := by
  obtain ⟨q1, q2, q3⟩ := runC_done l j.run
  refine j.sees' hfull t0 (fun k k' o o' => hone k k' tq o o') hok.1 hok.2.1 (fun k o ho hdst => ?_) hx
  rcases ht k o ho hdst with hk | ⟨mk, hmk, hki⟩
  · rcases hm3 k hk with h | h
    · exact .inl ⟨h, hb k (hmask i m hm k hk), hok.sub (hmask i m hm k hk)⟩
    · subst h
      exact absurd hdst (hne o ho)
  · refine .inr ⟨?_, fun h => hn (j.closed k i h (hmask k mk hmk i hki))⟩
    cases hdk : d0.done.testBit k with
    | false => rfl
    | true =>
      have hdi : d0.done.testBit i = true := t0.doneOK hall hd k i hdk (hmask k mk hmk i hki)
      have hii : i ≠ i' := fun e => by
        have := t0.not
        rw [← e, hdi] at this
        cases this
      have h1 := ti.anti t0 (q3 i ti.mem) (q3 i' t0.mem) hii hdi
      obtain ⟨di', hs⟩ := ti.step
      obtain ⟨m', hm', hbef⟩ := (stepC_inv hs).before
      rw [hm] at hm'
      cases hm'
      rw [hbef i' hmi] at h1
      cases h1
end
end
end Go.Proofs.YtbioklhoolkhkadGreatDoor
namespace Go.Proofs.YtbioklhoolkhkadGreatDoor
set_option linter.unusedVariables false
set_option linter.unusedSimpArgs false
set_option linter.unusedSectionVars false
open Go Go.RowKit
noncomputable section

theorem putObj_same {w : World} {D : Nat} {o o' : Obj} (hl : D < w.heap.size) (h : w.putObj D o = w.putObj D o') : o = o' := by
  have := congrArg (fun w : World => w.heap[D]?) h
  simp only [World.putObj_heap_same hl] at this
  exact Option.some.inj this
section
variable {P : Program} {E : Env} {call : CallF} {nt : Nat} {ops : Array Oper} {cl : Tree Nat} {fr fr' : Nat → Option Obj} {w0 w w' : World} {ds : List Deferred} {df d : DSt} {l : List Nat} {listed : Array Bool} {Hd : HoldF} {R : Nat → Nat × Nat} {act : Act}
/-- The map's block, where an entry comes. -/
theorem J.insMap (j : J P E call nt ops cl fr w0 ds df l d listed Hd fr' R act w) (hmask : MaskOK ops cl) (hfull : ∀ (k : Nat) (o : Oper), ops[k]? = some o → df.done.testBit k = true)
    (hone : ∀ (k k' t : Nat) (o o' : Oper), ops[k]? = some o → ops[k']? = some o' → o.dst = some t → o'.dst = some t → k = k')
    {i : Nat} (hr : i ∈ Region.ready .any ops listed) {di di' : DSt} (ti : Tr E call nt ops.toList cl l d i di) (hs : stepC E call nt ops.toList cl i di = some di') {o : Oper} (ho : ops[i]? = some o) {m : Nat} (hm : cl.get i = some m) {i' t b : Nat} {ty : TypeId} {k v : Operand} (hto : insTo ops.toList o = some i') (hmi : m.testBit i' = true)
    (hop : o.op = .insert ty (.tmp t) k v) (hb : di.a.get t = some (.m b)) :
    ∃ d0 d0' oi ents, Tr E call nt ops.toList cl l d i' d0 ∧ stepC E call nt ops.toList cl i' d0 = some d0' ∧ ops[i']? = some oi ∧ oi.dst = some t ∧ evA E d0.a oi.op = some (.map [], fun b => .m b) ∧ entsA E cl d0.done i' d0.a ops.toList (.map []) oi.dst = some ents ∧ listed[i']? = some true ∧ d0'.a.get t = some (.m d0.s.nx) ∧
      ∃ D sz ob, Hd i' = some (D, sz, ob) ∧ fr' D = some ob ∧ fr D = none ∧ ∀ R' n', OKRs E call nt ops cl l d Hd R i' ents listed R' n' → BR R' n' sz (.map ((entsIn ents listed).map Prod.snd)) ob := by
  obtain ⟨q1, q2, q3⟩ := runC_done l j.run
  obtain ⟨ty', t', k', v', oi, ti', h1, h2, h3, h4⟩ := insTo_spec hto
  rw [hop] at h1
  injection h1 with _ h1
  injection h1 with h1
  subst h1
  rw [Array.getElem?_toList] at h3
  obtain ⟨_, oi2, g1, g2⟩ := dstAt_some h2
  rw [Nat.sub_zero, Array.getElem?_toList, h3] at g1
  cases g1
  have hbi : Before ops i' i := hmask i m hm i' hmi
  have hli := ready_before j.closed hr hbi
  have hnd : d.done.testBit i' = false := by
    cases hx : d.done.testBit i' with
    | false => rfl
    | true =>
      have := j.fills i' i o hx ho hto
      rw [ready_not hr] at this
      cases this
  have hl : i' ∈ l := ((q1 i').1 (hfull i' oi h3)).resolve_left (by rw [hnd]; simp)
  obtain ⟨d0, t0⟩ := Tr.ex l j.run hl
  obtain ⟨d0', s0⟩ := t0.step
  obtain ⟨m', hm', hbef⟩ := (stepC_inv hs).before
  rw [hm] at hm'
  cases hm'
  have hset : di.a.get t = d0'.a.get t := Tr.set t0 s0 ti q2 hnd (hbef i' hmi) fun q oq _ hne hoq hdst => hne (hone q i' t oq oi (by rw [← Array.getElem?_toList]; exact hoq) h3 hdst g2)
  have hev : ∀ a, evA E a oi.op = some (.map [], fun b => .m b) := fun a => by rw [h4]; rfl
  have hK := stepC_inv s0
  have key : ∃ ents, entsA E cl d0.done i' d0.a ops.toList (.map []) oi.dst = some ents ∧ d0'.s = d0.s.new (fillB (.map []) ents) ∧ d0'.a.get t = some (.m d0.s.nx) := by
    rw [hb] at hset
    cases hK with
    | skip a1 a2 a3 a4 a5 a6 =>
      rw [Array.getElem?_toList, h3] at a1
      cases a1
      rw [g2] at a6
      rw [putA_get a6, if_pos rfl] at hset
      cases hset
    | read a1 a2 a3 a4 a5 a6 =>
      rw [Array.getElem?_toList, h3] at a1
      cases a1
      rw [h4] at a6
      cases a6
    | new a1 a2 a3 a4 a5 a6 a7 a8 a9 =>
      rw [Array.getElem?_toList, h3] at a1
      cases a1
      rw [hev] at a7
      cases a7
      refine ⟨_, a8, rfl, ?_⟩
      rw [g2] at a9
      rw [putA_get a9, if_pos rfl]
    | act a1 a2 a3 a4 a5 a6 a7 =>
      rw [Array.getElem?_toList, h3] at a1
      cases a1
      rw [hev] at a7
      cases a7
    | ins a1 a2 a3 a4 a5 a6 a7 a8 =>
      rw [Array.getElem?_toList, h3] at a1
      cases a1
      rw [h4] at a8
      cases a8
  obtain ⟨ents, e1, e2, e3⟩ := key
  have hHd := (j.all i' d0 d0' hli t0 s0).resolve_left (fun e => by
    rw [e] at e2
    have : d0.s.nx = d0.s.nx + 1 := congrArg St.nx e2
    omega)
  cases hx : Hd i' with
  | none => exact absurd hx hHd
  | some x =>
    obtain ⟨D, sz, ob⟩ := x
    obtain ⟨_, f1, f2, dk, dk', op, b2, m2, ents2, t2, s4, p4, p5, p6, p8, p7⟩ := j.held i' D sz ob hx
    have := t2.det t0
    subst this
    rw [h3] at p4
    cases p4
    rw [hev] at p5
    cases p5
    rw [e1] at p8
    cases p8
    exact ⟨dk, d0', oi, ents, t0, s0, h3, g2, hev _, e1, hli, e3, D, sz, ob, rfl, f1, f2, p7⟩
end
end
end Go.Proofs.YtbioklhoolkhkadGreatDoor
namespace Go.Proofs.YtbioklhoolkhkadGreatDoor
set_option linter.unusedVariables false
set_option linter.unusedSimpArgs false
set_option linter.unusedSectionVars false
open Go Go.RowKit
noncomputable section

section
variable {P : Program} {E : Env} {call : CallF} {nt : Nat} {ops : Array Oper} {cl : Tree Nat} {fr fr' : Nat → Option Obj} {w0 w w' : World} {ds : List Deferred} {df d : DSt} {l : List Nat} {listed : Array Bool} {Hd : HoldF} {R : Nat → Nat × Nat} {act : Act}
/-- A held block's content changes. -/
theorem J.swap (j : J P E call nt ops cl fr w0 ds df l d listed Hd fr' R act w) {i i' : Nat} (hr : i ∈ Region.ready .any ops listed) {di di' : DSt} (ti : Tr E call nt ops.toList cl l d i di) (hs : stepC E call nt ops.toList cl i di = some di') {o : Oper} (ho : ops[i]? = some o) (hdn : o.dst = none) (hsame : di'.s = di.s) (hh : di'.hist = di.hist)
    {D sz : Nat} {ob ob' : Obj} (hx : Hd i' = some (D, sz, ob)) (hne : ∀ k D2 s2 o2, Hd k = some (D2, s2, o2) → k ≠ i' → ∀ dk op blk ents, Tr E call nt ops.toList cl l d k dk → ops[k]? = some op → entsA E cl dk.done k dk.a ops.toList blk op.dst = some ents → ∀ e ∈ ents, e.1 ≠ i)
    (hB : ∀ dk blk op ents, Tr E call nt ops.toList cl l d i' dk → ops[i']? = some op → (∃ mk, evA E dk.a op.op = some (blk, mk)) → entsA E cl dk.done i' dk.a ops.toList blk op.dst = some ents → ∀ R' n', OKRs E call nt ops cl l d Hd R i' ents (listed.setIfInBounds i true) R' n' → BR R' n' sz (fillB blk (entsIn ents (listed.setIfInBounds i true))) ob')
    (hw : HR (frAdd fr' D ob') R d.s w0 w') : J P E call nt ops cl fr w0 ds df l d (listed.setIfInBounds i true) (hdAdd Hd i' (D, sz, ob')) (frAdd fr' D ob') R act w' := by
  have hi := ready_not hr
  have hl : ∀ k, listed[k]? = some true → (listed.setIfInBounds i true)[k]? = some true := fun k hk => by
    rw [list_get hi]
    by_cases e : k = i
    · rw [if_pos e]
    · rw [if_neg e]; exact hk
  have hl2 : ∀ k, (listed.setIfInBounds i true)[k]? = some true → k = i ∨ listed[k]? = some true := fun k hk => by
    rw [list_get hi] at hk
    by_cases e : k = i
    · exact .inl e
    · rw [if_neg e] at hk; exact .inr hk
  have hok : ∀ k R' n', OKR E call nt ops cl l d (hdAdd Hd i' (D, sz, ob')) R k R' n' → OKR E call nt ops cl l d Hd R k R' n' := fun k R' n' h => ⟨h.1, h.2.1, fun k2 D2 s2 o2 dk hk hk2 tk => by
    by_cases e : k2 = i'
    · rw [e, hx] at hk2
      cases hk2
      exact h.2.2 k2 D sz ob' dk hk (by unfold hdAdd; rw [if_pos e]) tk
    · exact h.2.2 k2 D2 s2 o2 dk hk (by unfold hdAdd; rw [if_neg e]; exact hk2) tk⟩
  obtain ⟨hx1, hx2, hx3, _⟩ := j.held i' D sz ob hx
  refine ⟨j.run, fun k hk => hl k (j.done k hk), j.closed.add hr, hw, fun k y hk => ?_, fun k D2 s2 o2 hk => ?_, fun k k' D2 s2 o2 s3 o3 hk hk' => ?_, fun k hk => ?_, fun k dk dk' hk tk sk => ?_, fun k dk dk' op t hk tk sk hop hdst => ?_, fun t y hy hno => ?_, j.nt, j.ds, fun k q oq h1 h2 h3 => hl q (j.fills k q oq h1 h2 h3)⟩
  · unfold frAdd
    rw [if_neg (fun e => by rw [e, hx3] at hk; cases hk)]
    exact j.frs k y hk
  · by_cases e : k = i'
    · subst e
      unfold hdAdd at hk
      rw [if_pos rfl] at hk
      cases hk
      obtain ⟨h1, h2, h3, dk, dk', op, b2, m2, ents, t2, s4, h4, h5, h6, h8, h7⟩ := j.held k D sz ob hx
      exact ⟨hl k h1, by unfold frAdd; rw [if_pos rfl], h3, dk, dk', op, b2, m2, ents, t2, s4, h4, h5, h6, h8, fun R' n' h => hB dk b2 op ents t2 h4 ⟨m2, h5⟩ h8 R' n' ⟨hok _ R' n' h.1, fun e he hle => hok _ R' n' (h.2 e he hle)⟩⟩
    · have hk2 : Hd k = some (D2, s2, o2) := by
        unfold hdAdd at hk
        rw [if_neg e] at hk
        exact hk
      obtain ⟨h1, h2, h3, dk, dk', op, b2, m2, ents, t2, s4, h4, h5, h6, h8, h7⟩ := j.held k D2 s2 o2 hk2
      have hno := hne k D2 s2 o2 hk2 e dk op b2 ents t2 h4 h8
      refine ⟨hl k h1, ?_, h3, dk, dk', op, b2, m2, ents, t2, s4, h4, h5, h6, h8, fun R' n' h => ?_⟩
      · unfold frAdd
        rw [if_neg (fun e2 => e (by subst e2; exact j.inj k i' _ _ _ _ _ hk2 hx))]
        exact h2
      · rw [entsIn_add hi hno]
        have h' := h.less hi hno
        exact h7 R' n' ⟨hok _ R' n' h'.1, fun e he hl => hok _ R' n' (h'.2 e he hl)⟩
  · have back : ∀ k D2 s2 o2, hdAdd Hd i' (D, sz, ob') k = some (D2, s2, o2) → ∃ o3, Hd k = some (D2, s2, o3) := fun k D2 s2 o2 h => by
      unfold hdAdd at h
      by_cases e : k = i'
      · rw [if_pos e] at h
        cases h
        exact ⟨ob, by rw [e]; exact hx⟩
      · rw [if_neg e] at h
        exact ⟨o2, h⟩
    obtain ⟨_, g1⟩ := back k D2 s2 o2 hk
    obtain ⟨_, g2⟩ := back k' D2 s3 o3 hk'
    exact j.inj k k' D2 _ _ _ _ g1 g2
  · rcases hl2 k hk with rfl | hk
    · rintro ⟨dc, dc', t1, s1, n1⟩
      have := t1.det ti
      subst this
      rw [hs] at s1
      cases s1
      exact n1 hh
    · exact j.noact k hk
  · rcases hl2 k hk with rfl | hk
    · have := tk.det ti
      subst this
      rw [hs] at sk
      cases sk
      exact .inl hsame
    · rcases j.all k dk dk' hk tk sk with h | h
      · exact .inl h
      · right
        unfold hdAdd
        by_cases e : k = i'
        · rw [if_pos e]; simp
        · rw [if_neg e]; exact h
  · rcases hl2 k hk with rfl | hk'
    · rw [ho] at hop
      cases hop
      rw [hdn] at hdst
      cases hdst
    · obtain ⟨u, y, h1, h2, h3⟩ := j.early k dk dk' op t hk' tk sk hop hdst
      exact ⟨u, y, h1, h2, fun R' n' h => h3 R' n' (hok k R' n' h)⟩
  · exact j.rest t y hy fun k dk op hk => hno k dk op (hl k hk)
theorem notT_of {t u : Nat} (h : notT t (.tmp u) = true) : u ≠ t := fun e => by
  simp only [notT, Bool.not_eq_true'] at h
  rw [nbeq_eq e] at h
  cases h
/-- An entry put into a map of this region, in every order. -/
theorem J.ins (hE : EnvOK P E) (j : J P E call nt ops cl fr w0 ds df l d listed Hd fr' R act w) (hall : MaskAll ops cl) (hd : DoneOK ops d.done) (hmask : MaskOK ops cl) (hfull : ∀ (k : Nat) (o : Oper), ops[k]? = some o → df.done.testBit k = true)
    (hone : ∀ (k k' t : Nat) (o o' : Oper), ops[k]? = some o → ops[k']? = some o' → o.dst = some t → o'.dst = some t → k = k')
    {i : Nat} (hr : i ∈ Region.ready .any ops listed) {di di' : DSt} (ti : Tr E call nt ops.toList cl l d i di) (hs : stepC E call nt ops.toList cl i di = some di') {o : Oper} (ho : ops[i]? = some o) {m : Nat} (hm : cl.get i = some m)
    (ht : ∀ t ∈ tmpsOf o.op.operands.toList, ∀ (k : Nat) (ok : Oper), ops[k]? = some ok → ok.dst = some t → m.testBit k = true ∨ ∃ mk, cl.get k = some mk ∧ mk.testBit i = true)
    {i' t b : Nat} {ty : TypeId} {k v : Operand} (hto : insTo ops.toList o = some i') (hmi : m.testBit i' = true)
    (hop : o.op = .insert ty (.tmp t) k v) (hb : di.a.get t = some (.m b)) (hsame : di'.s = di.s) (hh : di'.hist = di.hist) :
    ∃ w' Hd2 fr2, o.dst = none ∧ (execOp act.eval o).run P w = .ok .skip w' ∧ J P E call nt ops cl fr w0 ds df l d (listed.setIfInBounds i true) Hd2 fr2 R act w' := by
  have hi := ready_not hr
  have hnl : listed[i]? ≠ some true := by rw [hi]; simp
  have hbe : ∀ q, Before ops q i → listed[q]? = some true := fun q hq => ready_before j.closed hr hq
  obtain ⟨d0, d0', oi, ents, t0, s0, hoi, hdst, hA, hents, hli, ha0, D, sz, ob, hx, f1, f2, hBR⟩ := j.insMap hmask hfull hone hr ti hs ho hm hto hmi hop hb
  obtain ⟨n1, n2, n3, n4⟩ := entsA_map hents
  obtain ⟨e, he⟩ := n2 i o ty k v t (by rw [Array.getElem?_toList]; exact ho) hdst hop
  obtain ⟨x, y⟩ := e
  obtain ⟨o2, ty2, k2, v2, tt2, g1, g2, g3, g4⟩ := n1 _ he
  rw [Array.getElem?_toList, ho] at g1
  cases g1
  rw [hdst] at g2
  cases g2
  rw [hop] at g3
  injection g3 with z1 z2 z3 z4
  subst z1 z3 z4
  obtain ⟨m', hm', _, hm3⟩ := g4.mask
  rw [hm] at hm'
  cases hm'
  -- what the key and the value are
  have sees : ∀ R' n', OKR E call nt ops cl l d Hd R i R' n' → VR R' n' x (act.eval k) ∧ VR R' n' y (act.eval v) := fun R' n' hok => by
    have one : ∀ p : Operand, p ∈ o.op.operands → notT t p = true → ∀ z, opd d0.a p = some z → VR R' n' z (act.eval p) := fun p hp hnt z hz => by
      cases p with
      | tmp u =>
        obtain ⟨q, hq1, hq2⟩ := j.insSees hall hd hmask hfull hone ti t0 hbe hnl hm hmi hm3 (tq := u) (ht u (List.mem_filterMap.2 ⟨.tmp u, Array.mem_toList_iff.2 hp, rfl⟩)) (fun oi' hoi' hd' => by
          rw [hoi] at hoi'
          cases hoi'
          rw [hdst] at hd'
          exact notT_of hnt (Option.some.inj hd').symm) (x := z) hz hok
        have : act.eval (.tmp u) = q := by simp [Act.eval, Array.getD_eq_getD_getElem?, hq1]
        rw [this]
        exact hq2
      | const c => exact opd_sound (a := .leaf) (act := act) (fun t x h => by rw [Tree.get_leaf] at h; cases h) (o := .const c) (by rw [← hz]; rfl)
      | func f => exact opd_sound (a := .leaf) (act := act) (fun t x h => by rw [Tree.get_leaf] at h; cases h) (o := .func f) (by rw [← hz]; rfl)
      | global g => cases hz
    exact ⟨one k (by rw [hop]; simp [Op.operands]) g4.nk x g4.hk, one v (by rw [hop]; simp [Op.operands]) g4.nv y g4.hv⟩
  obtain ⟨u, kt, et, uk, hu, huk, hkt, hkx, hya⟩ := g4.ty
  -- the map
  obtain ⟨R1, n1', hok1⟩ := j.ex
  have mapv : act.eval (.tmp t) = .map (some D) := by
    obtain ⟨q, z, q1, q2, q3⟩ := j.early i' d0 d0' oi t hli t0 s0 hoi hdst
    rw [ha0] at q2
    cases q2
    have q4 := q3 R1 n1' (hok1 i')
    simp only [VR] at q4
    rw [((hok1 i').2.2 i' D sz ob d0 (.inl rfl) hx t0).2] at q4
    simp [Act.eval, Array.getD_eq_getD_getElem?, q1, q4.2]
  obtain ⟨pp, m1, m2, hsplit, hrest⟩ := entsIn_one hi n3 he
  have hunl : ∀ e' ∈ entsIn ents listed, eqA1 x e'.2.1 = some false := fun e' he' => by
    have h4 := n4
    rw [hsplit] at h4
    exact h4.other (es := []) e' (hrest e' he')
  have hD : d.s.nx = d.s.nx := rfl
  have hsz := j.hr.fr D ob f1
  have hlt := lt_of_heap hsz
  have step : ∀ R' n', OKRs E call nt ops cl l d Hd R i' ents listed R' n' → OKR E call nt ops cl l d Hd R i R' n' →
      ∃ (mes' : Array MapEntry) (cl' : Nat) (es1 : List (AV × AV)), (Instr.mapUpdate ty (.map (some D)) (act.eval k) (act.eval v)).run P w = .ok () (w.putObj D (.map mes' cl')) ∧ es1.Perm ((entsIn ents listed).map Prod.snd) ∧
        VRL R' n' ((es1 ++ [(x, y)]).map Prod.fst) (mes'.toList.map (·.key)) ∧ VRL R' n' ((es1 ++ [(x, y)]).map Prod.snd) (mes'.toList.map (·.val)) := fun R' n' h h' => by
    obtain ⟨mes, c0, es1, rfl, hp, hdi, v1, v2⟩ := hBR R' n' h
    obtain ⟨s1, s2⟩ := sees R' n' h'
    have hnew : updM x y es1 = some (es1 ++ [(x, y)]) := updM_no fun e1 he1 => by
      obtain ⟨e2, he2, rfl⟩ := List.mem_map.1 (hp.mem_iff.1 he1)
      exact hunl e2 he2
    obtain ⟨mes', cl', r1, r2, r3⟩ := upd_run hE hu huk hkt hkx s1 s2 hsz v1 v2 hnew
    exact ⟨mes', cl', es1, r1, hp, r2, r3⟩
  obtain ⟨mes', cl', es1, r1, _, _, _⟩ := step R1 n1' ⟨hok1 i', fun e _ _ => hok1 e.1⟩ (hok1 i)
  refine ⟨w.putObj D (.map mes' cl'), hdAdd Hd i' (D, sz, .map mes' cl'), frAdd fr' D (.map mes' cl'), g4.ds, ?_, ?_⟩
  · have : execOp act.eval o = (do Instr.mapUpdate ty (act.eval (.tmp t)) (act.eval k) (act.eval v); pure .skip) := by
      unfold execOp
      rw [hop]
    rw [this, mapv]
    simp [Sem.run_bind, r1]
  · refine j.swap hr ti hs ho g4.ds hsame hh hx (fun q D2 s2 o3 hq hqi dk op blk ents2 tk hopq hen e' he' e1 => ?_) (fun dk blk op ents2 tk hopq hev hen R' n' h => ?_) (j.hr.refr f1 _)
    · obtain ⟨o4, ty4, k4, v4, t4, w1, w2, w3, _⟩ := entsA_ins hen he'
      rw [e1, Array.getElem?_toList, ho] at w1
      cases w1
      rw [hop] at w3
      injection w3 with _ w3
      injection w3 with w3
      subst w3
      exact hqi (hone q i' t op oi hopq hoi w2 hdst)
    · have := tk.det t0
      subst this
      rw [hoi] at hopq
      cases hopq
      obtain ⟨mk, hev⟩ := hev
      rw [hA] at hev
      cases hev
      rw [hents] at hen
      cases hen
      have hoki : OKR E call nt ops cl l d Hd R i R' n' := h.2 _ he (by rw [list_get hi, if_pos rfl])
      have hless : OKRs E call nt ops cl l d Hd R i' ents listed R' n' := ⟨h.1, fun e' he' hl' => h.2 e' he' (by
        rw [list_get hi]
        by_cases e : e'.1 = i
        · rw [if_pos e]
        · rw [if_neg e]; exact hl')⟩
      obtain ⟨mes2, cl2, es2, r2, hp2, w1, w2⟩ := step R' n' hless hoki
      rw [r1] at r2
      have r3 := putObj_same hlt (Result.ok.inj r2).2
      cases r3
      refine ⟨mes', cl', es2 ++ [(x, y)], rfl, ?_, ?_, w1, w2⟩
      · have p0 := pp.map Prod.snd
        rw [List.map_append] at p0
        exact (hp2.append_right [(x, y)]).trans p0
      · have : Dist (ents.map Prod.snd) := n4
        unfold Dist at this ⊢
        rw [List.map_map] at this ⊢
        exact this.sublist ((List.filter_sublist (p := fun e : Nat × AV × AV => (listed.setIfInBounds i true)[e.1]? == some true)).map _)
end
end
end Go.Proofs.YtbioklhoolkhkadGreatDoor
namespace Go.Proofs.YtbioklhoolkhkadGreatDoor
set_option linter.unusedVariables false
set_option linter.unusedSimpArgs false
set_option linter.unusedSectionVars false
open Go Go.RowKit
noncomputable section

section
variable {P : Program} {E : Env} {F : Fence} {m : Nat} {fr : Nat → Option Obj} {R : Nat → Nat × Nat} {a a' : Tree AV} {s s' : St} {w0 w : World} {nt : Nat} {ds : List Deferred} {act : Act}
theorem OpRes.upon2 {r : Option AV} {o : Oper} {mm : Sem Next} (hr : OpRes P fr R s.nx w0 w mm r s') {K : Act → World → Prop} {Q : Exit → Act → World → Prop} (hK : ∀ R' v w', Ext s.nx R R' → s.nx ≤ s'.nx → HR fr R' s' w0 w' → VR R' s'.nx (valA r) v → K (act.put o.dst v) w') : o.uponIn F m P act K Q (mm.run P w) := by
  obtain ⟨R', w', hE, hn, hh, hx⟩ := hr
  cases r with
  | some x =>
    obtain ⟨v, hv, hxv⟩ := hx
    rw [hv, Oper.uponIn_value]
    exact hK R' v w' hE hn hh hxv
  | none =>
    rw [hx, Oper.uponIn_skip]
    exact hK R' _ w' hE hn hh VR.undef
theorem evO_put (hE : EnvOK P E) {call : CallF} (hc : CallOK P call) (hF : Loose F) (hh : HR fr R s w0 w) (hT : TR R s.nx a act) {o : Oper} {r : Option AV} (ho : evO E call a s o = some (r, s')) {K : Act → World → Prop} {Q : Exit → Act → World → Prop}
    (hK : ∀ R' v w', Ext s.nx R R' → s.nx ≤ s'.nx → HR fr R' s' w0 w' → VR R' s'.nx (valA r) v → K (act.put o.dst v) w') : o.wpIn F m P act w K Q := by
  refine ⟨fun f _ => hF.fn f, ?_⟩
  have hnd : ∀ c, o.op ≠ .defer c := fun c e => by
    unfold evO at ho
    rw [e] at ho
    cases ho
  rw [Oper.semAt_eq _ _ _ hnd]
  unfold evO at ho
  split at ho
  · rename_i c hop
    split at ho <;> try (cases ho; done)
    rename_i xs hxs
    have hargs : VRL R s.nx xs (c.args.map act.eval).toList := by
      rw [Array.toList_map]; exact opds_sound hT hxs
    have he : execOp act.eval o = (do let d ← resolve act.eval c o.type; invoke d.target d.args : Sem Next) := by unfold execOp; rw [hop]
    rw [he]
    split at ho <;> try (cases ho; done)
    · rename_i b hb
      have he2 : ∃ consts, (do let d ← resolve act.eval c o.type; invoke d.target d.args : Sem Next) = builtin b c.argTypes o.type consts (c.args.map act.eval) := by
        simp only [resolve, hb, pure_bind, invoke]
        exact ⟨_, rfl⟩
      obtain ⟨consts, he2⟩ := he2
      rw [he2]
      exact (b_sound hE hh hargs o.type consts ho).upon2 hK
    · rename_i f hf
      split at ho <;> try (cases ho; done)
      rename_i fa hfa
      split at ho <;> try (cases ho; done)
      rename_i q hq
      cases ho
      have he2 : (do let d ← resolve act.eval c o.type; invoke d.target d.args : Sem Next) = (do let d ← Deferred.ofValue (act.eval f) (c.args.map act.eval); invoke d.target d.args : Sem Next) := by
        simp only [resolve, hf]
      rw [he2]
      exact hc _ _ _ _ _ hq F m fr R w0 w _ _ hF hh (opd_sound hT hfa) hargs o act K Q hK
  · rename_i src dst x hop
    split at ho
    · rename_i r' hr'
      cases ho
      have he : execOp act.eval o = (do pure (.value (← convert src dst (act.eval x))) : Sem Next) := by unfold execOp; rw [hop]
      rw [he]
      exact (conv_sound hE hh hT hr').upon2 hK
    · exact (op_sound hE hh hT ho).upon2 hK
  · rename_i op hop
    exact (op_sound hE hh hT ho).upon2 hK
end
section
variable {P : Program} {E : Env} {call : CallF} {nt : Nat} {ops : Array Oper} {cl : Tree Nat} {fr fr' : Nat → Option Obj} {w0 w w' : World} {ds : List Deferred} {df d d' : DSt} {l : List Nat} {listed : Array Bool} {Hd : HoldF} {R R1 : Nat → Nat × Nat} {act : Act}
/-- A stage ends. -/
theorem J.acts {i : Nat} (j : J P E call nt ops cl fr w0 ds df (i :: l) d listed Hd fr' R act w) (hone : ∀ (k k' t : Nat) (o o' : Oper), ops[k]? = some o → ops[k']? = some o' → o.dst = some t → o'.dst = some t → k = k')
    (hr : i ∈ Region.ready .any ops listed) (hs : stepC E call nt ops.toList cl i d = some d') {o : Oper} (ho : ops[i]? = some o) (hto : insTo ops.toList o = none) (hA : evA E d.a o.op = none) {x : AV} (hp : putA nt d.a o.dst x = some d'.a) (hnx : d.s.nx ≤ d'.s.nx)
    (hE : Ext d.s.nx R R1) (hw : HR fr' R1 d'.s w0 w') {v : Value} (hv : VR R1 d'.s.nx x v) : J P E call nt ops cl fr w0 ds df l d' (listed.setIfInBounds i true) Hd fr' R1 (act.put o.dst v) w' := by
  have hi := ready_not hr
  have hK := stepC_inv hs
  have hl : ∀ k, listed[k]? = some true → (listed.setIfInBounds i true)[k]? = some true := fun k hk => by
    rw [list_get hi]
    by_cases e : k = i
    · rw [if_pos e]
    · rw [if_neg e]; exact hk
  have hl2 : ∀ k, (listed.setIfInBounds i true)[k]? = some true → k = i ∨ listed[k]? = some true := fun k hk => by
    rw [list_get hi] at hk
    by_cases e : k = i
    · exact .inl e
    · rw [if_neg e] at hk; exact .inr hk
  have hni : Hd i = none := by
    cases hx : Hd i with
    | none => rfl
    | some x =>
      have := (j.held i x.1 x.2.1 x.2.2 hx).1
      rw [hi] at this
      cases this
  have hrun := j.run
  simp only [runC, hs] at hrun
  have hne : ∀ {k dk}, Tr E call nt ops.toList cl l d' k dk → i ≠ k := fun {k dk} tk e => by
    have h1 := tk.not
    have h2 := tk.mono (k := i) (by rw [hK.done.2]; simp)
    rw [e, h1] at h2
    cases h2
  have up : ∀ {k dk}, Tr E call nt ops.toList cl l d' k dk → Tr E call nt ops.toList cl (i :: l) d k dk := fun {k dk} tk => .next hs (hne tk) tk
  have hok : ∀ k R' n', OKR E call nt ops cl l d' Hd R1 k R' n' → OKR E call nt ops cl (i :: l) d Hd R k R' n' := fun k R' n' h => ⟨fun b hb => by rw [h.1 b (Nat.lt_of_lt_of_le hb hnx), hE b hb], Nat.le_trans hnx h.2.1, fun k2 D sz o2 dk hk hH tk => by
    rcases Tr.inv hs tk with ⟨rfl, _⟩ | ⟨_, t3⟩
    · rw [hni] at hH; cases hH
    · exact h.2.2 k2 D sz o2 dk hk hH t3⟩
  refine ⟨hrun, fun k hk => ?_, j.closed.add hr, hw, j.frs, fun k D sz o2 hk => ?_, j.inj, fun k hk ha => ?_, fun k dk dk' hk tk sk => ?_, fun k dk dk' op t hk tk sk hop hdst => ?_, fun t y hy hno => ?_, ?_, ?_, fun k q oq h1 h2 h3 => ?_⟩
  · rw [hK.done.2, Bool.or_eq_true, decide_eq_true_iff] at hk
    rcases hk with hk | rfl
    · exact hl k (j.done k hk)
    · rw [list_get hi, if_pos rfl]
  · obtain ⟨h1, h2, h3, dk, dk', op, b2, m2, ents, t2, s4, h4, h5, h6, h8, h7⟩ := j.held k D sz o2 hk
    rcases Tr.inv hs t2 with ⟨e, _⟩ | ⟨_, t3⟩
    · rw [e, hi] at h1; cases h1
    · have hne2 : ∀ e ∈ ents, e.1 ≠ i := fun e he e1 => by
        obtain ⟨oe, g1, g2⟩ := ents_insTo hone h4 h5 h8 he
        rw [e1, ho] at g1
        cases g1
        rw [hto] at g2
        cases g2
      refine ⟨hl k h1, h2, h3, dk, dk', op, b2, m2, ents, t3, s4, h4, h5, h6, h8, fun R' n' h => ?_⟩
      rw [entsIn_add hi hne2]
      have h' := h.less hi hne2
      exact h7 R' n' ⟨hok k R' n' h'.1, fun e he hl => hok e.1 R' n' (h'.2 e he hl)⟩
  · rcases hl2 k hk with rfl | hk
    · obtain ⟨_, _, t1, _⟩ := ha
      exact hne t1 rfl
    · exact j.noact k hk (ha.next hs)
  · rcases hl2 k hk with rfl | hk
    · exact absurd rfl (hne tk)
    · exact j.all k dk dk' hk (up tk) sk
  · rcases hl2 k hk with rfl | hk
    · exact absurd rfl (hne tk)
    · obtain ⟨u, y, h1, h2, h3⟩ := j.early k dk dk' op t hk (up tk) sk hop hdst
      refine ⟨u, y, ?_, h2, fun R' n' h => h3 R' n' (hok k R' n' h)⟩
      rw [put_ne (fun e => hne tk (hone i k t o op ho hop e hdst))]
      exact h1
  · by_cases e : o.dst = some t
    · rw [e] at hp
      rw [putA_get hp, if_pos rfl] at hy
      cases hy
      exact ⟨v, by rw [e]; exact put_eq (by rw [j.nt]; exact putA_lt hp), hv⟩
    · rw [putA_get hp, if_neg e] at hy
      obtain ⟨u, h1, h2⟩ := j.rest t y hy fun k dk op hk tk hop => by
        rcases Tr.inv hs tk with ⟨rfl, _⟩ | ⟨_, t3⟩
        · rw [hi] at hk; cases hk
        · exact hno k dk op (hl k hk) t3 hop
      exact ⟨u, by rw [put_ne e]; exact h1, h2.mono hnx hE⟩
  · rw [put_size]; exact j.nt
  · rw [put_defers]; exact j.ds
  · rw [hK.done.2, Bool.or_eq_true, decide_eq_true_iff] at h1
    rcases h1 with h1 | rfl
    · exact hl q (j.fills k q oq h1 h2 h3)
    · obtain ⟨_, _, _, _, oi, ti', _, _, g3, g4⟩ := insTo_spec h3
      rw [Array.getElem?_toList, ho] at g3
      cases g3
      rw [g4] at hA
      cases hA
theorem Tr.split {l : List Nat} {d di : DSt} {i : Nat} (h : Tr E call nt ops.toList cl l d i di) : ∃ l1 l2, l = l1 ++ i :: l2 ∧ runC E call nt ops.toList cl l1 d = some di ∧ ∀ k ∈ l1, di.done.testBit k = true := by
  induction h with
  | here _ => exact ⟨[], _, rfl, rfl, fun k hk => by cases hk⟩
  | next hs hne t ih =>
    obtain ⟨l1, l2, rfl, h2, h3⟩ := ih
    refine ⟨_ :: l1, l2, rfl, by simp only [runC, hs]; exact h2, fun k hk => ?_⟩
    rcases List.mem_cons.1 hk with rfl | hk
    · exact t.mono (by rw [(stepC_inv hs).done.2]; simp)
    · exact h3 k hk
end
section
variable {R R' : Nat → Nat × Nat} {n n' : Nat}
theorem BR.size {sz sz' : Nat} {blk : Blk} {ob : Obj} (h : BR R n sz blk ob) (h' : BR R' n' sz' blk ob) : BR R n sz' blk ob := by
  cases blk with
  | cells e cs =>
    obtain ⟨arr, rfl, h2, h3, h4, h5⟩ := h
    obtain ⟨arr', e1, g2, g3, _, _⟩ := h'
    cases e1
    exact ⟨arr, rfl, g2, g3, h4, h5⟩
  | ro e cs =>
    obtain ⟨arr, f, rfl, h2, h3, h4, h5⟩ := h
    obtain ⟨arr', f', e1, g2, g3, _, _⟩ := h'
    cases e1
    exact ⟨arr, f, rfl, g2, g3, h4, h5⟩
  | map es => exact h
  | loop => exact h
theorem alloc_same {w : World} {o o' : Obj} (h : w.alloc o = w.alloc o') : o = o' := by
  have h1 := heap_alloc_new w o
  have h2 := heap_alloc_new w o'
  rw [h, h2] at h1
  exact (Option.some.inj h1).symm
end
end
end Go.Proofs.YtbioklhoolkhkadGreatDoor
namespace Go.Proofs.YtbioklhoolkhkadGreatDoor
set_option linter.unusedVariables false
set_option linter.unusedSimpArgs false
set_option linter.unusedSectionVars false
open Go Go.RowKit
noncomputable section

section
variable {P : Program} {E : Env} {call : CallF} {nt : Nat} {ops : Array Oper} {cl : Tree Nat} {fr fr' : Nat → Option Obj} {w0 w w' : World} {ds : List Deferred} {df d d' : DSt} {l : List Nat} {listed : Array Bool} {Hd : HoldF} {R R1 : Nat → Nat × Nat} {act : Act} {F : Fence} {n : Nat} {Q : Exit → Act → World → Prop}
theorem fillB_nil {E : Env} {a : Tree AV} {op : Op} {blk : Blk} {mk : Nat → AV} (h : evA E a op = some (blk, mk)) : fillB blk [] = blk := by
  cases blk with
  | map es => rw [(evA_map h).1]; rfl
  | cells => rfl
  | ro => rfl
  | loop => rfl
theorem insTo_no {ops : List Oper} {o : Oper} (h : isRC o.op = true) (ty : TypeId) (t : Nat) (k v : Operand) : o.op ≠ .insert ty (.tmp t) k v := fun e => by
  rw [e] at h
  cases h
/-- What is known of a drawn region at rest. -/
structure Stat (ops : Array Oper) (cl : Tree Nat) (df : DSt) : Prop where
  mask : MaskOK ops cl
  all : MaskAll ops cl
  full : ∀ (k : Nat) (o : Oper), ops[k]? = some o → df.done.testBit k = true
  one : ∀ (k k' t : Nat) (o o' : Oper), ops[k]? = some o → ops[k']? = some o' → o.dst = some t → o'.dst = some t → k = k'
  sees : ∀ (i m : Nat) (o : Oper), ops[i]? = some o → cl.get i = some m → ∀ t ∈ tmpsOf o.op.operands.toList, ∀ (k : Nat) (ok : Oper), ops[k]? = some ok → ok.dst = some t → m.testBit k = true ∨ ∃ mk, cl.get k = some mk ∧ mk.testBit i = true
  gd : ∀ (i m : Nat) (o : Oper), ops[i]? = some o → cl.get i = some m → ∀ g b og, o.guard = some (g, b) → ops[g]? = some og → m.testBit g = true
/-- A new block, in every order. -/
theorem J.news (hE : EnvOK P E) (st : Stat ops cl df) (j : J P E call nt ops cl fr w0 ds df l d listed Hd fr' R act w) {i : Nat} (hr : i ∈ Region.ready .any ops listed) {di di' : DSt} (ti : Tr E call nt ops.toList cl l d i di) (hs : stepC E call nt ops.toList cl i di = some di') {o : Oper} (ho : ops[i]? = some o) {m : Nat} (hm : cl.get i = some m)
    {blk : Blk} {mk : Nat → AV} (hA : evA E di.a o.op = some (blk, mk)) {ents : List (Nat × AV × AV)} (hents : entsA E cl di.done i di.a ops.toList blk o.dst = some ents) (hsn : di'.s = di.s.new (fillB blk ents)) (hh : di'.hist = di.hist) (hp : putA nt di.a o.dst (mk di.s.nx) = some di'.a) :
    ∃ v w' Hd2 fr2, (execOp act.eval o).run P w = .ok (.value v) w' ∧ J P E call nt ops cl fr w0 ds df l d (listed.setIfInBounds i true) Hd2 fr2 R (act.put o.dst v) w' := by
  have hi := ready_not hr
  have hnl : listed[i]? ≠ some true := by rw [hi]; simp
  have hbe : ∀ q, Before ops q i → listed[q]? = some true := fun q hq => ready_before j.closed hr hq
  have hA2 : evA E (pickT di.a (tmpsOf o.op.operands.toList)) o.op = some (blk, mk) := by
    rw [evA_congr fun y hy => opd_pick (Array.mem_toList_iff.2 hy)]
    exact hA
  have one : ∀ R' n', OKR E call nt ops cl l d Hd R i R' n' → _ := fun R' n' hok => evA_sound hE (j.tr st.mask st.full st.one ti hbe hnl hm (st.sees i m o ho hm) hok) hA2 w
  obtain ⟨R1, n1, hok1⟩ := j.ex
  obtain ⟨ob, v, sz, r1, r2, r3⟩ := one R1 n1 (hok1 i)
  refine ⟨v, w.alloc ob, _, _, r1, j.new st.mask st.one hr ti hs ho hA hents hsn hh hp (sz := sz) (fun R' n' hok => ?_) r3⟩
  rw [fillB_nil hA]
  obtain ⟨ob2, v2, sz2, e1, e2, _⟩ := one R' n' hok
  rw [r1] at e1
  have e3 := alloc_same (Result.ok.inj e1).2
  subst e3
  exact e2.size r2
/-- One operation, in every order. -/
theorem J.next (hE : EnvOK P E) (hc : CallOK P call) (hF : Loose F) (st : Stat ops cl df) (j : J P E call nt ops cl fr w0 ds df l d listed Hd fr' R act w) (hd : DoneOK ops d.done) (hh : ∃ c rest, d.hist = (c, d.s.h) :: rest) {i : Nat} (hr : i ∈ Region.ready .any ops listed) {K : Act → World → Prop}
    (hK : ∀ l2 d2 Hd2 fr2 R2 act2 w2, Ext d.s.nx R R2 → d.s.nx ≤ d2.s.nx → J P E call nt ops cl fr w0 ds df l2 d2 (listed.setIfInBounds i true) Hd2 fr2 R2 act2 w2 → DoneOK ops d2.done → (∃ c rest, d2.hist = (c, d2.s.h) :: rest) → K act2 w2) : wpOpIn F n P ops Q i K act w := by
  obtain ⟨o, ho⟩ := ready_op hr
  have hi := ready_not hr
  have hnl : listed[i]? ≠ some true := by rw [hi]; simp
  have hbe : ∀ q, Before ops q i → listed[q]? = some true := fun q hq => ready_before j.closed hr hq
  obtain ⟨q1, q2, q3⟩ := runC_done l j.run
  have hl : i ∈ l := ((q1 i).1 (st.full i o ho)).resolve_left (fun h => hnl (j.done i h))
  obtain ⟨di, ti⟩ := Tr.ex l j.run hl
  obtain ⟨di', hs⟩ := ti.step
  have hoL : ops.toList[i]? = some o := by rw [Array.getElem?_toList]; exact ho
  have hfn : ∀ f, o.about P w act.eval = some f → F.fn f := fun f _ => hF.fn f
  have stay : ∀ Hd2 fr2 act2 w2, J P E call nt ops cl fr w0 ds df l d (listed.setIfInBounds i true) Hd2 fr2 R act2 w2 → K act2 w2 := fun Hd2 fr2 act2 w2 j2 => hK l d Hd2 fr2 R act2 w2 (Ext.refl _ _) (Nat.le_refl _) j2 hd hh
  have wantd : ∀ {m : Nat} {r : Bool}, cl.get i = some m → guardA ops.toList di.a o.guard = some r → Region.wanted o (yielded ops act.tmps) = r := fun {m r} hm hg =>
    j.wanted st.mask st.full st.one ti hbe hnl hm (st.gd i m o ho hm) hg
  unfold wpOpIn
  rw [ho]
  simp only
  have hKi := stepC_inv hs
  cases hKi with
  | skip a1 a2 a3 a4 a5 a6 =>
    rw [hoL] at a1
    cases a1
    rw [wantd a2 a4]
    simp only [Bool.false_eq_true, if_false]
    refine ⟨hfn, stay _ _ _ _ (j.add st.one hr ti hs ho (fun _ _ _ _ _ e => ?_) rfl rfl a6 j.hr fun R' n' _ => VR.undef)⟩
    rw [e] at a4
    cases a4
  | @read _ m x a a1 a2 a3 a4 a5 a6 a7 a8 =>
    rw [hoL] at a1
    cases a1
    rw [wantd a2 a4]
    simp only [if_true]
    obtain ⟨c, rest, hrest⟩ := hh
    obtain ⟨l1, e1, e2⟩ := ti.hist
    have hx : evR E di.a d.s.h o.op = some x := by
      refine firstA_all a7 (l1 := l1) (c := c) (l2 := rest) (by rw [e1, hrest]) fun p hp => ?_
      obtain ⟨c', hc', ha⟩ := e2 p hp
      refine ⟨c', hc', ?_⟩
      cases hb : m.testBit c' with
      | false => rfl
      | true => exact absurd ha (j.noact c' (hbe c' (st.mask i m a2 c' hb)))
    obtain ⟨v, w', r1, r2, r3⟩ := j.reads hE st.mask st.full st.one ti hbe hnl a2 (st.sees i m o ho a2) a6 hx
    refine ⟨hfn, ?_⟩
    have hnd : ∀ c, o.op ≠ .defer c := fun c e => by rw [e] at a6; cases a6
    rw [Oper.semAt_eq _ _ _ hnd, r1, Oper.uponIn_value]
    exact stay _ _ _ _ (j.add st.one hr ti hs ho (fun ty t k v e => absurd e (insTo_no (ops := []) a6 ty t k v)) rfl rfl a8 r2 r3)
  | @new _ m blk mk ents a a1 a2 a3 a4 a5 a6 a7 a8 a9 =>
    rw [hoL] at a1
    cases a1
    rw [wantd a2 a4]
    simp only [if_true]
    obtain ⟨v, w', Hd2, fr2, r1, j2⟩ := j.news hE st hr ti hs ho a2 a7 a8 rfl rfl a9
    refine ⟨hfn, ?_⟩
    have hnd : ∀ c, o.op ≠ .defer c := fun c e => by rw [e] at a7; cases a7
    rw [Oper.semAt_eq _ _ _ hnd, r1, Oper.uponIn_value]
    exact stay _ _ _ _ j2
  | @ins _ m i' t b ty k v a a1 a2 a3 a4 a5 a6 a7 a8 a9 a10 =>
    rw [hoL] at a1
    cases a1
    rw [wantd a2 a4]
    simp only [if_true]
    obtain ⟨w', Hd2, fr2, r0, r1, j2⟩ := j.ins hE st.all hd st.mask st.full st.one hr ti hs ho a2 (st.sees i m o ho a2) a6 a7 a8 a9 rfl rfl
    refine ⟨hfn, ?_⟩
    have hnd : ∀ c, o.op ≠ .defer c := fun c e => by rw [e] at a8; cases a8
    rw [Oper.semAt_eq _ _ _ hnd, r1, Oper.uponIn_skip, r0]
    exact stay _ _ _ _ j2
  | @act _ r s2 a a1 a2 a3 a4 a5 a6 a7 a8 a9 a10 a11 =>
    rw [hoL] at a1
    cases a1
    rw [wantd a2 a4]
    simp only [if_true]
    obtain ⟨l1, l2, hl12, hrun1, hl1⟩ := ti.split
    subst hl12
    have hb1 : ∀ k, di.done.testBit k = true → listed[k]? = some true := fun k hk => hbe k (st.mask i _ a2 k hk)
    obtain ⟨d2, Hd2, fr2, R2, c1, j2, c3, c4, c5, c6⟩ := J.catch st.all st.one l1 j (fun k hk => hb1 k (hl1 k hk)) (fun k hk q oq hq hiq => by
      have := fillsOK_spec ops.toList 0 a8 q oq k (by rw [Array.getElem?_toList]; exact hq) hiq (hl1 k hk)
      rw [Nat.zero_add] at this
      exact hb1 q this) hd
    rw [hrun1] at c1
    cases c1
    obtain ⟨_, _, p3⟩ := runC_done (i :: l2) j2.run
    have hni : Hd2 i = none := by
      cases hx : Hd2 i with
      | none => rfl
      | some x =>
        have := (j2.held i x.1 x.2.1 x.2.2 hx).1
        rw [hi] at this
        cases this
    have hok : OKR E call nt ops cl (i :: l2) di Hd2 R2 i R2 di.s.nx := ⟨Ext.refl _ _, Nat.le_refl _, fun k D sz o2 dk hk hH tk => by
      rcases hk with rfl | hk
      · rw [hni] at hH; cases hH
      · have g1 := p3 k tk.mem
        rw [step_ahead st.all c3 hs hk] at g1
        cases g1⟩
    have ti2 : Tr E call nt ops.toList cl (i :: l2) di i di := .here hs
    have hT := j2.tr st.mask st.full st.one ti2 hbe hnl a2 (st.sees i _ o ho a2) hok
    have ho2 : evO E call (pickT di.a (tmpsOf o.op.operands.toList)) di.s o = some (r, s2) := by
      rw [evO_congr fun y hy => opd_pick (Array.mem_toList_iff.2 hy)]
      exact a9
    refine evO_put hE hc hF j2.hr hT ho2 fun R' v w' g1 g2 g3 g4 => ?_
    refine hK l2 _ Hd2 fr2 R' _ w' (c4.trans c5 g1) (Nat.le_trans c5 a10) (j2.acts st.one hr hs ho a5 a7 a11 a10 g1 g3 g4) (c3.step st.all hs) ⟨some i, di.hist, rfl⟩
end
end
end Go.Proofs.YtbioklhoolkhkadGreatDoor
