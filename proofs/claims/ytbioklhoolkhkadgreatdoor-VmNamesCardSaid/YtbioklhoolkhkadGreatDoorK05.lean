/- An evaluator of closed calls: what it says of code and of calls is so. No program in sight. An evaluator of closed calls: operations that change no block; what an operation looks at. No program in sight. An evaluator of closed calls: equality of values; new blocks whose number comes later; what waits for what. No program in sight. An evaluator of closed calls: blocks that are there but have no number yet; a tree of what an operation looks at. No program in sight. An evaluator of closed calls: a region whose order is drawn, evaluated in one order. No program in sight. -/
import Derived.Test.YtbioklhoolkhkadGreatDoorK04
import Derived.Scope
namespace Go.Proofs.YtbioklhoolkhkadGreatDoor
set_option linter.unusedVariables false
set_option linter.unusedSimpArgs false
set_option linter.unusedSectionVars false
open Go Go.RowKit
noncomputable section

section
variable {P : Program} {E : Env} {draw : Draw} {F : Fence} {m : Nat} {fr : Nat → Option Obj} {R : Nat → Nat × Nat} {s s' : St} {w0 w : World} {nt : Nat} {ds : List Deferred} {a : Tree AV} {act : Act}
theorem run_list_mapM {α : Type} {g : α → Option AV} {f : α → Sem Value} {n : Nat} (h : ∀ x y, g x = some y → ∃ v, (f x).run P w = .ok v w ∧ VR R n y v) : ∀ (l : List α) {xs : List AV}, mapO g l = some xs → ∃ vs, (l.mapM f).run P w = .ok vs w ∧ VRL R n xs vs
  | [], xs, hx => by
    cases hx
    exact ⟨[], by simp [List.mapM_nil], by simp only [VRL]⟩
  | x :: l, xs, hx => by
    unfold mapO at hx
    cases hy : g x with
    | none => rw [hy] at hx; cases hx
    | some y =>
      rw [hy] at hx
      cases hl : mapO g l with
      | none => rw [hl] at hx; cases hx
      | some ys =>
        rw [hl] at hx
        cases hx
        obtain ⟨v, hv, hR⟩ := h x y hy
        obtain ⟨vs, hvs, hRs⟩ := run_list_mapM h l hl
        exact ⟨v :: vs, by simp [List.mapM_cons, Sem.run_bind, hv, hvs], by simp only [VRL]; exact ⟨v, vs, rfl, hR, hRs⟩⟩
theorem res_sound (hE : EnvOK P E) (h : HR fr R s w0 w) (hT : TR R s.nx a act) {fn : Func} {l : List AV} (hl : mapO (resA E a s) fn.results.toList = some l) :
    ∃ v, (results fn act.tmps).run P w = .ok v w ∧ VR R s.nx (resultA l) v := by
  obtain ⟨f, hf, hf1, hf2⟩ : ∃ f : ResultVar → Sem Value, results fn act.tmps = (do let vs ← fn.results.mapM f; pure (if h : vs.size = 1 then vs[0] else .tuple vs)) ∧ (∀ t, f (.tmp t) = pure (act.tmps.getD t undef)) ∧ ∀ t ty, f (.cell t ty) = (do loadVar ty (← asAddr (act.tmps.getD t undef))) := ⟨_, rfl, fun _ => rfl, fun _ _ => rfl⟩
  have key : ∀ x y, resA E a s x = some y → ∃ v, (f x).run P w = .ok v w ∧ VR R s.nx y v := fun x y hy => by
    cases x with
    | tmp t =>
      obtain ⟨v, h1, h2⟩ := hT t y hy
      exact ⟨v, by rw [hf1]; simp [Array.getD_eq_getD_getElem?, h1], h2⟩
    | cell t ty =>
      simp only [resA] at hy
      split at hy <;> try (cases hy; done)
      rename_i b o ht
      split at hy <;> try (cases hy; done)
      rename_i u hu
      split at hy <;> try (cases hy; done)
      rename_i l hl
      obtain ⟨v, h1, h2⟩ := run_loadA hE h hu hl hy
      refine ⟨v, ?_, h2⟩
      obtain ⟨p, h3, h4⟩ := hT t _ ht
      simp only [VR] at h4
      obtain ⟨_, rfl⟩ := h4
      simp only [Instr.loadAt, Instr.sureAddr, Sem.run_bind, Sem.run_pure, Result.andThen_ok] at h1
      rw [hf2]
      simp [Array.getD_eq_getD_getElem?, h3, asAddr, h1]
  obtain ⟨vs, h1, h2⟩ := run_list_mapM key fn.results.toList hl
  refine ⟨if h : vs.toArray.size = 1 then vs.toArray[0] else .tuple vs.toArray, ?_, ?_⟩
  · rw [hf, Array.mapM_eq_mapM_toList, map_eq_pure_bind]
    simp only [Sem.run_bind, h1, Result.andThen_ok, Sem.run_pure]
  · cases l with
    | nil =>
      simp only [VRL] at h2
      subst h2
      simp only [resultA, VR]
      exact ⟨[], rfl, rfl⟩
    | cons x l =>
      cases l with
      | nil =>
        simp only [VRL] at h2
        obtain ⟨u, us, rfl, h3, rfl⟩ := h2
        exact h3
      | cons y l =>
        have h3 := h2.length
        simp only [resultA, VR]
        refine ⟨vs, h2, ?_⟩
        rw [dif_neg]
        simp [h3]
theorem HR.less {fr' : Nat → Option Obj} (h : HR fr' R s w0 w) (hf : ∀ k o, fr k = some o → fr' k = some o) : HR fr R s w0 w := by
  refine ⟨h.os, h.tape, h.output, fun k o hk => h.fr k o (hf k o hk), h.lt, fun b x hb => ⟨?_, (h.own b x hb).2⟩, h.inj⟩
  have h1 := (h.own b x hb).1
  cases hx : fr (R b).1 with
  | none => rfl
  | some o =>
    have := hf _ _ hx
    rw [h1] at this
    cases this
/-- A block of nobody's written. -/
theorem HR.aside (h : HR fr R s w0 w) {D : Nat} (hD : fr D = none) (hD2 : ∀ b, s.h.get b ≠ none → (R b).1 ≠ D) (hl : D < w.heap.size) (o : Obj) : HR fr R s w0 (w.putObj D o) :=
 by
  refine ⟨h.os, h.tape, h.output, fun k o' hk => ?_, h.lt, fun b x hb => ?_, h.inj⟩
  · have hk' : k ≠ D := fun e => by
      rw [e, hD] at hk
      cases hk
    rw [World.putObj_heap_other hk']
    exact h.fr k o' hk
  · obtain ⟨h1, o', h2, h3⟩ := h.own b x hb
    exact ⟨h1, o', by rw [World.putObj_heap_other (hD2 b (by rw [hb]; simp))]; exact h2, h3⟩
theorem leaves_marks {fn : Func} {tmps : Array Value} {Rr : Ending → World → Prop} (hF : F.depth = none) (hres : ∀ w', HR fr R s w0 w' → ∃ v, (results fn tmps).run P w' = .ok v w' ∧ Rr (.returned v) w') :
    ∀ (ms : List Nat) (w : World), HR fr R s w0 w → ms.Nodup → (∀ D ∈ ms, w.heap[D]? = some (.deferred (some [])) ∧ fr D = none ∧ ∀ b, s.h.get b ≠ none → (R b).1 ≠ D) →
    LeavesInM F m P fn tmps Rr (ms.map fun D => { target := .collected D, args := #[] }) .returning w
  | [], w, h, _, _ => hres w h
  | D :: ms, w, h, hn, hm => by
    obtain ⟨h1, h2, h3⟩ := hm D (.head _)
    refine ⟨by simp, .inl ⟨D, w.putObj D (.deferred none), rfl, run_takeDeferred h1, ?_⟩⟩
    refine leaves_marks hF hres ms _ (h.aside h2 h3 (lt_of_heap h1) _) hn.tail fun D' hD' => ?_
    obtain ⟨g1, g2, g3⟩ := hm D' (.tail _ hD')
    have : D' ≠ D := fun e => by subst e; exact (List.nodup_cons.1 hn).1 hD'
    exact ⟨by rw [World.putObj_heap_other this]; exact g1, g2, g3⟩
def frAdd (fr : Nat → Option Obj) (D : Nat) (o : Obj) : Nat → Option Obj := fun k => if k = D then some o else fr k
/-- A block is made and lies in the frame. -/
theorem HR.hold (h : HR fr R s w0 w) (o : Obj) : HR (frAdd fr w.heap.size o) R s w0 (w.alloc o) := by
  have hF : ∀ k o', fr k = some o' → k < w.heap.size := fun k o' hk => lt_of_heap (h.fr k o' hk)
  refine ⟨h.os, h.tape, h.output, fun k o' hk => ?_, h.lt, fun b y hy => ?_, h.inj⟩
  · unfold frAdd at hk
    by_cases e : k = w.heap.size
    · rw [if_pos e] at hk
      cases hk
      rw [e]
      exact heap_alloc_new w o
    · rw [if_neg e] at hk
      rw [World.heap_alloc_lt' w o k (hF k o' hk)]
      exact h.fr k o' hk
  · obtain ⟨h1, o', h2, h3⟩ := h.own b y hy
    have hl := lt_of_heap h2
    refine ⟨?_, o', ?_, h3⟩
    · unfold frAdd
      rw [if_neg (by omega)]
      exact h1
    · rw [World.heap_alloc_lt' w o _ hl]; exact h2
theorem stepR_scope {b : Frame} {a : Act} {k : List Item} {cs : List Frame} {w : World} {c : Code} : step P (lone (b.atR a (.code (.scope c) :: k)) cs w) = .next (lone (b.atR a (.code c :: .inScope c :: k)) cs w) :=
  step_lone_go (by simp [stepG, stepG.exec, Frame.atR])
theorem stepR_inScope {b : Frame} {a : Act} {k : List Item} {cs : List Frame} {w : World} {c : Code} : step P (lone (b.atR a (.inScope c :: k)) cs w) = .next (lone (b.atR a k) cs w) :=
  step_lone_go (by simp [stepG, stepG.exec, Frame.atR])
/-- A scope through which the run goes without a jump to a label. -/
theorem wpIn_scopeIn {Q : Exit → Act → World → Prop} {a : Act} {w : World} {c : Code} (h : c.wpIn F m P (Exit.noGoto Q) a w) : (Code.scope c).wpIn F m P Q a w := by
  intro b k cs hro hb hr
  have h0 : (lone (b.atR a (.code (.scope c) :: k)) cs w).fenced P F := fenced_calm hb hr rfl
  obtain ⟨e, a₁, w₁, hq, harr⟩ := h b (.inScope c :: k) cs hro hb hr
  cases e with
  | normal => exact ⟨.normal, a₁, w₁, hq, .head h0 stepR_scope (StepsIn.trans harr (.one (fenced_calm hb hr rfl) stepR_inScope))⟩
  | exit id =>
    have hx : exitTo id (.inScope c :: k) = exitTo id k := by simp [exitTo]
    exact ⟨.exit id, a₁, w₁, hq, fun k' hk => .head h0 stepR_scope (harr.1 k' (by rw [hx]; exact hk)),
      fun hr' hk => let ⟨k₁, h1, h2⟩ := harr.2 hr' (by rw [hx]; exact hk); ⟨k₁, h1, .head h0 stepR_scope h2⟩⟩
  | goto l => exact hq.elim
  | ret => exact ⟨_, a₁, w₁, hq, .of_steps (.one h0 stepR_scope) harr⟩
  | panic ch => exact ⟨_, a₁, w₁, hq, .of_steps (.one h0 stepR_scope) harr⟩
  | outgrown => exact ⟨_, a₁, w₁, hq, .of_steps (.one h0 stepR_scope) harr⟩
theorem code_ok (hE : EnvOK P E) (hD : DrawOK P draw) {N : Nat} (ihc : ∀ inr nt c a s x a' s', ev E draw N inr nt c a s = some (x, a', s') → CodeOK P inr nt c a s x a' s') (ihf : CallOK P (callE E draw N)) (ihn : FnOK P (callE E draw N)) {inr : Bool} {nt : Nat} {c : Code} (hc : ∀ c', c ≠ .loop c') {a : Tree AV} {s : St} {x : Ex} {a' : Tree AV} {s' : St}
    (h : ev E draw (N + 1) inr nt c a s = some (x, a', s')) : CodeOK P inr nt c a s x a' s' := by
  intro F m fr R w0 w ds act Q hF hro hrel hQ
  have hQ0 : some (x, a', s') = some (x, a, s) → Q x.to act w := fun e => by
    cases e
    exact hQ fr ds R act w (Grown.refl _ _ _) (Ext.refl _ _) (Nat.le_refl _) hrel
  cases c with
  | loop c => exact absurd rfl (hc c)
  | skip =>
    simp only [ev] at h
    cases h
    exact wpIn_skip (hQ0 rfl)
  | label l =>
    simp only [ev] at h
    cases h
    exact wpIn_label (hQ0 rfl)
  | ret =>
    simp only [ev] at h
    cases h
    exact wpIn_ret (hQ0 rfl)
  | exit i =>
    simp only [ev] at h
    cases h
    exact wpIn_exit (hQ0 rfl)
  | goto l =>
    simp only [ev] at h
    cases h
    exact wpIn_goto (hQ0 rfl)
  | region id ops d =>
    simp only [ev] at h
    cases d with
    | true =>
      simp only at h
      cases hr : draw (callE E draw N) nt ops.toList a s with
      | none => rw [hr] at h; cases h
      | some r =>
        rw [hr] at h
        cases h
        exact hD _ ihf nt ops a s r hr F m fr R w0 w ds act id Q hF hrel fun R' act' w' h1 h2 h3 => hQ fr ds R' act' w' (Grown.refl _ _ _) h1 h2 h3
    | false =>
      simp only at h
      cases hr : evOps E (callE E draw N) nt ops.toList ops.toList a s with
      | none => rw [hr] at h; cases h
      | some r =>
        rw [hr] at h
        cases h
        refine wpIn_region ?_
        have := evOps_sound (F := F) (m := m) (Q := Q) hE ihf hF ops.toList 0 R a s act w r rfl hrel hr fun R' act' w' h1 h2 h3 => hQ fr ds R' act' w' (Grown.refl _ _ _) h1 h2 h3
        rw [Array.length_toList, ← List.range_eq_range'] at this
        exact this
  | seq y z =>
    simp only [ev] at h
    refine wpIn_seq ?_
    cases hx : ev E draw N inr nt y a s with
    | none => rw [hx] at h; cases h
    | some r =>
      obtain ⟨x1, a1, s1⟩ := r
      rw [hx] at h
      refine ihc _ _ _ _ _ _ _ _ hx F m fr R w0 w ds act _ hF hro hrel fun fr1 ds1 R1 act1 w1 hG1 hE1 hn1 hr1 => ?_
      cases x1 with
      | nrm =>
        simp only at h
        exact ihc _ _ _ _ _ _ _ _ h F m fr1 R1 w0 w1 ds1 act1 Q hF hro hr1 fun fr2 ds2 R2 act2 w2 hG2 hE2 hn2 hr2 => hQ fr2 ds2 R2 act2 w2 (hG1.trans hG2) (hE1.trans hn1 hE2) (Nat.le_trans hn1 hn2) hr2
      | exit id => cases h; exact hQ fr1 ds1 R1 act1 w1 hG1 hE1 hn1 hr1
      | goto l => cases h; exact hQ fr1 ds1 R1 act1 w1 hG1 hE1 hn1 hr1
      | ret => cases h; exact hQ fr1 ds1 R1 act1 w1 hG1 hE1 hn1 hr1
  | cond q y z =>
    simp only [ev] at h
    split at h <;> try (cases h; done)
    · rename_i hq
      have hv := opd_sound hrel.tr hq
      simp only [VR] at hv
      exact wpIn_cond_true hv (ihc _ _ _ _ _ _ _ _ h F m fr R w0 w ds act Q hF hro hrel hQ)
    · rename_i hq
      have hv := opd_sound hrel.tr hq
      simp only [VR] at hv
      exact wpIn_cond_false hv (ihc _ _ _ _ _ _ _ _ h F m fr R w0 w ds act Q hF hro hrel hQ)
  | block id y =>
    simp only [ev] at h
    refine wpIn_block ?_
    cases hx : ev E draw N inr nt y a s with
    | none => rw [hx] at h; cases h
    | some r =>
      obtain ⟨x1, a1, s1⟩ := r
      rw [hx] at h
      refine ihc _ _ _ _ _ _ _ _ hx F m fr R w0 w ds act _ hF hro hrel fun fr1 ds1 R1 act1 w1 hG1 hE1 hn1 hr1 => ?_
      cases x1 with
      | nrm => cases h; exact hQ fr1 ds1 R1 act1 w1 hG1 hE1 hn1 hr1
      | goto l => cases h; exact hQ fr1 ds1 R1 act1 w1 hG1 hE1 hn1 hr1
      | ret => cases h; exact hQ fr1 ds1 R1 act1 w1 hG1 hE1 hn1 hr1
      | exit j =>
        simp only at h
        show if j = id then Q .normal act1 w1 else Q (.exit j) act1 w1
        by_cases e : j = id
        · rw [if_pos e]
          rw [nbeq_eq e, cond_true] at h
          cases h
          exact hQ fr1 ds1 R1 act1 w1 hG1 hE1 hn1 hr1
        · rw [if_neg e]
          rw [nbeq_ne e, cond_false] at h
          cases h
          exact hQ fr1 ds1 R1 act1 w1 hG1 hE1 hn1 hr1
  | rangeFunc g ps asg body =>
    simp only [ev] at h
    cases inr with
    | true => cases h
    | false =>
      simp only [evRange] at h
      split at h <;> try (cases h; done)
      rename_i f fst caps hg
      split at h <;> try (cases h; done)
      rename_i r hr
      split at h <;> try (cases h; done)
      rename_i tm2 nt2 ps2 asg2 body2 pend hget
      have hv := opd_sound hrel.tr hg
      simp only [VR] at hv
      obtain ⟨us, cs, hus, hcs, hgv⟩ := hv
      obtain ⟨hcf, hcall⟩ := ihn f fst caps _ _ r.1 r.2 hr
      have hround : F.round = none := by
        cases hx : F.round with
        | none => rfl
        | some l => rw [hx] at hro; cases hro
      have h1 := hrel.hr.hold (.deferred (some []))
      refine wpIn_rangeFunc fun fn hfn => ?_
      have h2 := h1.new (.loop a nt ps.toList asg body none) (.loop { state := .ready, pending := none, fn := fn, tmps := act.tmps, params := ps, assign := asg, body := body, defers := w.heap.size }) 0 ⟨_, rfl, rfl, rfl, by simp, rfl, rfl, hrel.nt, fun t x hx => by
        obtain ⟨v, g1, g2⟩ := hrel.tr t x hx
        exact ⟨v, g1, g2.mono (Nat.le_succ _) fun b hb => if_neg (Nat.ne_of_lt hb)⟩⟩
      obtain ⟨hh, hExt⟩ := h2
      have hl : (w.alloc (.deferred (some []))).heap.size = w.heap.size + 1 := World.size_alloc _ _
      rw [hl] at hh hExt
      have hres : ∀ W : World, (resolve act.eval (rangeCall g (w.heap.size + 1)) 0).run P W = .ok { target := .fn (.func f) cs.toArray, args := us.toArray ++ #[.func (.yield (w.heap.size + 1)) #[] #[]] } W := fun W => by
        simp only [resolve, hgv]
        simp [go_sem]
      refine ⟨w.heap.size + 1, [{ target := .collected w.heap.size, args := #[] }], ((w.alloc (.deferred (some []))).alloc (.loop { state := .ready, pending := none, fn := fn, tmps := act.tmps, params := ps, assign := asg, body := body, defers := w.heap.size })), _, ((w.alloc (.deferred (some []))).alloc (.loop { state := .ready, pending := none, fn := fn, tmps := act.tmps, params := ps, assign := asg, body := body, defers := w.heap.size })), f, us.toArray ++ #[.func (.yield (w.heap.size + 1)) #[] #[]] ++ cs.toArray, ((w.alloc (.deferred (some []))).alloc (.loop { state := .ready, pending := none, fn := fn, tmps := act.tmps, params := ps, assign := asg, body := body, defers := w.heap.size })), ?_, hres _, fun f' _ => hF.fn f', ?_, fun hd => (by rw [hF.depth] at hd; cases hd), ?_⟩
      · rw [hround]
        exact run_enterLoop_outer fn act.tmps ps asg body
      · simp [invoke, hcf]
      · refine CallsIn.mono (hcall F (m - 1) _ _ w0 _ us cs #[.func (.yield (w.heap.size + 1)) #[] #[]] hF hh (hus.mono (Nat.le_succ _) hExt) (hcs.mono (Nat.le_succ _) hExt) ?_) ?_
        · simp only [VRL, VR]
          exact ⟨_, [], rfl, ⟨Nat.lt_succ_self _, by simp⟩, rfl⟩
        · rintro e w2 ⟨v, R2, rfl, g1, g2, g3, g4⟩
          have g1' : R2 s.nx = (w.heap.size + 1, 0) := by
            rw [g1 s.nx (Nat.lt_succ_self _)]
            exact if_pos rfl
          obtain ⟨k1, ob, k2, k3⟩ := g3.own s.nx _ hget
          rw [g1'] at k1 k2
          obtain ⟨⟨st2, pe2, fn2, tms2, pss2, as2, bo2, de2⟩, rfl, q1, q2, _⟩ := k3
          simp only at q1 q2
          subst q2
          have hend := run_endLoop (P := P) k2 (by simp only; rw [q1]; cases pe2 <;> simp)
          have hExt2 : Ext s.nx R R2 := hExt.trans (Nat.le_succ _) g1
          have hn2 : s.nx ≤ r.2.nx := Nat.le_of_succ_le g2
          have hG : Grown false fr ds (frAdd fr w.heap.size (.deferred (some []))) ({ target := .collected w.heap.size, args := #[] } :: ds) := by
            refine ⟨[w.heap.size], fun e => (by cases e), by simp, rfl, fun k o hk => ?_, fun D hD => ?_⟩
            · unfold frAdd
              have := lt_of_heap (hrel.hr.fr k o hk)
              rw [if_neg (by omega)]
              exact hk
            · simp only [List.mem_singleton] at hD
              subst hD
              refine ⟨if_pos rfl, ?_⟩
              cases hx : fr w.heap.size with
              | none => rfl
              | some o =>
                have := lt_of_heap (hrel.hr.fr _ o hx)
                omega
          have hw4 : HR (frAdd fr w.heap.size (.deferred (some []))) R2 ⟨r.2.h.set s.nx none, r.2.nx⟩ w0 (w2.putObj (w.heap.size + 1) (.loop { state := .exhausted, pending := pe2, fn := fn2, tmps := tms2, params := pss2, assign := as2, body := bo2, defers := de2 })) := by
            refine (g3.forget s.nx).aside k1 (fun b hb e => ?_) (lt_of_heap k2) _
            have hb' : b ≠ s.nx ∧ r.2.h.get b ≠ none := by
              have hb2 : (r.2.h.set s.nx none).get b ≠ none := hb
              rw [Tree.get_set] at hb2
              by_cases e2 : b = s.nx
              · rw [if_pos e2] at hb2; exact absurd rfl hb2
              · rw [if_neg e2] at hb2; exact ⟨e2, hb2⟩
            exact hb'.1 (g3.inj b s.nx hb'.2 (by rw [hget]; simp) (by rw [e, g1']))
          have hrel4 : Rel (frAdd fr w.heap.size (.deferred (some []))) w0 nt ({ target := .collected w.heap.size, args := #[] } :: ds) R2 a ⟨r.2.h.set s.nx none, r.2.nx⟩ { act with defers := [{ target := .collected w.heap.size, args := #[] }] ++ act.defers } (w2.putObj (w.heap.size + 1) (.loop { state := .exhausted, pending := pe2, fn := fn2, tmps := tms2, params := pss2, assign := as2, body := bo2, defers := de2 })) :=
            ⟨hw4, hrel.tr.mono hn2 hExt2, hrel.nt, by rw [← hrel.ds]; rfl⟩
          refine ⟨_, _, hend, ?_⟩
          cases pe2 with
          | none =>
            simp only at h ⊢
            cases h
            exact hQ _ _ R2 _ _ hG hExt2 hn2 hrel4
          | some c' =>
            simp only at h ⊢
            exact ihc _ _ _ _ _ _ _ _ h F m _ R2 w0 _ _ _ Q hF hro hrel4 fun fr5 ds5 R5 act5 w5 hG5 hE5 hn5 hr5 => hQ fr5 ds5 R5 act5 w5 (hG.trans hG5) (hExt2.trans hn2 hE5) (Nat.le_trans hn2 hn5) hr5
  | scope y =>
    simp only [ev] at h
    split at h <;> try (cases h; done)
    rename_i x1 a1 s1 hx
    refine wpIn_scopeIn ?_
    refine ihc _ _ _ _ _ _ _ _ hx F m fr R w0 w ds act _ hF hro hrel fun fr1 ds1 R1 act1 w1 hG1 hE1 hn1 hr1 => ?_
    cases x1 with
    | nrm => cases h; exact hQ fr1 ds1 R1 act1 w1 hG1 hE1 hn1 hr1
    | exit id => cases h; exact hQ fr1 ds1 R1 act1 w1 hG1 hE1 hn1 hr1
    | goto l => cases h
    | ret => cases h; exact hQ fr1 ds1 R1 act1 w1 hG1 hE1 hn1 hr1
  | refuse why => simp only [ev] at h; cases h
/-- Some of the blocks alone, the others in the frame; and back. -/
theorem HR.apart (h : HR fr R s w0 w) {sb : List (Nat × Blk)} (hsb : ∀ e ∈ sb, s.h.get e.1 = some e.2) : ∃ fr2 : Nat → Option Obj, HR fr2 R ⟨treeOf sb, s.nx⟩ w0 w ∧
    ∀ (sb' : List (Nat × Blk)) (nx' : Nat) (R' : Nat → Nat × Nat) (w' : World), Ext s.nx R R' → s.nx ≤ nx' → HR fr2 R' ⟨treeOf sb', nx'⟩ w0 w' → HR fr R' ⟨setAll (delAll s.h sb) sb', nx'⟩ w0 w' := by
  classical
  let fr2 : Nat → Option Obj := fun k => if ∃ b, s.h.get b ≠ none ∧ (treeOf sb).get b = none ∧ (R b).1 = k then w.heap[k]? else fr k
  have hsub : ∀ b blk, (treeOf sb).get b = some blk → s.h.get b = some blk := fun b blk hb => hsb _ (treeOf_get hb)
  have hfr2 : ∀ k o, fr k = some o → fr2 k = some o := fun k o hk => by
    have : ¬ ∃ b, s.h.get b ≠ none ∧ (treeOf sb).get b = none ∧ (R b).1 = k := by
      rintro ⟨b, hb, _, e⟩
      cases hx : s.h.get b with
      | none => exact hb hx
      | some y =>
        have := (h.own b y hx).1
        rw [e, hk] at this
        cases this
    show (if _ then _ else _) = _
    rw [if_neg this]
    exact hk
  refine ⟨fr2, ⟨h.os, h.tape, h.output, fun k o hk => ?_, fun b hb => ?_, fun b y hy => ?_, fun b c hb hc e => ?_⟩, fun sb' nx' R' w' hE hn h' => ?_⟩
  · by_cases e : ∃ b, s.h.get b ≠ none ∧ (treeOf sb).get b = none ∧ (R b).1 = k
    · have h3 : fr2 k = w.heap[k]? := if_pos e
      rw [← h3]
      exact hk
    · have h3 : fr2 k = fr k := if_neg e
      rw [h3] at hk
      exact h.fr k o hk
  · cases hx : (treeOf sb).get b with
    | none => exact absurd hx hb
    | some y => exact h.lt b (by rw [hsub b y hx]; simp)
  · have hy' := hsub b y hy
    obtain ⟨g1, o, g2, g3⟩ := h.own b y hy'
    refine ⟨?_, o, g2, g3⟩
    have : ¬ ∃ c, s.h.get c ≠ none ∧ (treeOf sb).get c = none ∧ (R c).1 = (R b).1 := by
      rintro ⟨c, hc, hcn, e⟩
      have := h.inj c b hc (by rw [hy']; simp) e
      subst this
      have hy2 : (treeOf sb).get c = some y := hy
      rw [hcn] at hy2
      cases hy2
    show (if _ then _ else _) = _
    rw [if_neg this]
    exact g1
  · refine h.inj b c ?_ ?_ e
    · cases hx : (treeOf sb).get b with
      | none => exact absurd hx hb
      | some y => rw [hsub b y hx]; simp
    · cases hx : (treeOf sb).get c with
      | none => exact absurd hx hc
      | some y => rw [hsub c y hx]; simp
  · have hg : ∀ b y, (setAll (delAll s.h sb) sb').get b = some y → (treeOf sb').get b = some y ∨ ((treeOf sb').get b = none ∧ (treeOf sb).get b = none ∧ s.h.get b = some y) := fun b y hy => by
      rw [setAll_get, delAll_get] at hy
      cases h1 : (treeOf sb').get b with
      | some z => rw [h1] at hy; cases hy; exact .inl rfl
      | none =>
        rw [h1] at hy
        cases h2 : (treeOf sb).get b with
        | some z => rw [h2] at hy; cases hy
        | none => rw [h2] at hy; exact .inr ⟨rfl, rfl, hy⟩
    have hrest : ∀ b y, (treeOf sb).get b = none → s.h.get b = some y → b < s.nx ∧ ∃ o, fr2 (R b).1 = some o ∧ w.heap[(R b).1]? = some o ∧ BR R s.nx (R b).2 y o := fun b y h1 h2 => by
      obtain ⟨g1, o, g2, g3⟩ := h.own b y h2
      refine ⟨h.lt b (by rw [h2]; simp), o, ?_, g2, g3⟩
      have : fr2 (R b).1 = w.heap[(R b).1]? := if_pos ⟨b, by rw [h2]; simp, h1, rfl⟩
      rw [this]
      exact g2
    have hun : ∀ (b : Nat), (setAll (delAll s.h sb) sb').get b ≠ none → ∃ y, (setAll (delAll s.h sb) sb').get b = some y := fun b hb => by
      cases hx : (setAll (delAll s.h sb) sb').get b with
      | none => exact absurd hx hb
      | some y => exact ⟨y, rfl⟩
    refine ⟨h'.os, h'.tape, h'.output, fun k o hk => h'.fr k o (hfr2 k o hk), fun b hb => ?_, fun b y hy => ?_, fun b c hb hc e => ?_⟩
    · obtain ⟨y, hy⟩ := hun b hb
      rcases hg b y hy with h1 | ⟨_, h2, h3⟩
      · exact h'.lt b (by show (treeOf sb').get b ≠ none; rw [h1]; simp)
      · exact Nat.lt_of_lt_of_le (hrest b y h2 h3).1 hn
    · rcases hg b y hy with h1 | ⟨_, h2, h3⟩
      · obtain ⟨g1, g2⟩ := h'.own b y h1
        refine ⟨?_, g2⟩
        cases hx : fr (R' b).1 with
        | none => rfl
        | some z => rw [hfr2 _ _ hx] at g1; cases g1
      · obtain ⟨hlt, o, k1, k2, k3⟩ := hrest b y h2 h3
        rw [hE b hlt]
        exact ⟨(h.own b y h3).1, o, h'.fr _ _ k1, k3.mono hn hE⟩
    · obtain ⟨y, hy⟩ := hun b hb
      obtain ⟨z, hz⟩ := hun c hc
      have cross : ∀ b y c z, (treeOf sb').get b = some y → (treeOf sb).get c = none → s.h.get c = some z → (R' b).1 ≠ (R' c).1 := fun b y c z h1 h2 h3 e => by
        obtain ⟨hlt, o, k1, _, _⟩ := hrest c z h2 h3
        have := (h'.own b y h1).1
        rw [e, hE c hlt, k1] at this
        cases this
      rcases hg b y hy with h1 | ⟨_, h2, h3⟩ <;> rcases hg c z hz with k1 | ⟨_, k2, k3⟩
      · exact h'.inj b c (by show (treeOf sb').get b ≠ none; rw [h1]; simp) (by show (treeOf sb').get c ≠ none; rw [k1]; simp) e
      · exact absurd e (cross b y c z h1 k2 k3)
      · exact absurd e.symm (cross c z b y k1 h2 h3)
      · have e1 := hE b (hrest b y h2 h3).1
        have e2 := hE c (hrest c z k2 k3).1
        rw [e1, e2] at e
        exact h.inj b c (by rw [h3]; simp) (by rw [k3]; simp) e
theorem fn_ok (hE : EnvOK P E) {N : Nat} (ihc : ∀ inr nt c a s x a' s', ev E draw N inr nt c a s = some (x, a', s') → CodeOK P inr nt c a s x a' s') : FnOK P (callE E draw (N + 1)) := by
  intro f fst caps xs s r s' h
  simp only [callE, callFn] at h
  split at h
  · rename_i kx hkx
    obtain ⟨k1, k2⟩ := hE.kn f kx hkx
    split at h <;> try (cases h; done)
    cases h
    refine ⟨k1, fun F m fr R w0 w us cs vs hF hr hus hcs hxs => ?_⟩
    simp only [VRL] at hus hcs hxs
    subst hus hcs
    obtain ⟨vs⟩ := vs
    simp only at hxs
    subst hxs
    refine hF.calls (Calls.mono (k2 fr R s w0 w hr) ?_)
    rintro e w' ⟨v, rfl, h1, h2⟩
    exact ⟨v, R, rfl, Ext.refl _ _, Nat.le_refl _, h1, h2 R s.nx⟩
  split at h
  · rename_i q hq
    cases h
    obtain ⟨c, hc, rfl, hnx, rfl, rfl, rfl, hsb, e⟩ := litA_spec hq
    obtain ⟨l1, l2⟩ := hE.lit c hc
    have er : r = c.r := congrArg Prod.fst e
    have es : s' = ⟨setAll (delAll s.h c.sb) c.sb', c.nx'⟩ := congrArg Prod.snd e
    subst er es
    refine ⟨l1, fun F m fr R w0 w us cs vs hF hr hus hcs hxs => ?_⟩
    rw [← hnx] at hus hcs hxs
    obtain ⟨fr2, f1, f2⟩ := hr.apart hsb
    rw [← hnx] at f1
    refine hF.calls (Calls.mono (l2 fr2 R w0 w us cs vs f1 hus hcs hxs) ?_)
    rintro e w' ⟨v, R', rfl, g1, g2, g3, g4⟩
    rw [← hnx]
    exact ⟨v, R', rfl, g1, g2, f2 c.sb' c.nx' R' w' (by rw [← hnx]; exact g1) (by rw [← hnx]; exact g2) g3, g4⟩
  split at h <;> try (cases h; done)
  rename_i fn hfn
  obtain ⟨hp, hname⟩ := hE.ft f fn hfn
  split at h <;> try (cases h; done)
  rename_i c hb
  have h1 : fn.name ≠ "runtime.NumGoroutine" := by simpa using hname
  refine ⟨fun args w => by simp [callFunc, hp, h1, hb], fun F m fr R w0 w us cs vs hF hr hus hcs hxs => ?_⟩
  unfold callIn at h
  cases hlen : Nat.ble (fst ++ (xs ++ caps)).length fn.ntmps with
  | false => rw [hlen] at h; cases h
  | true =>
    rw [hlen, cond_true] at h
    split at h <;> try (cases h; done)
    rename_i x a1 s1 hx
    have hargs : VRL R s.nx (fst ++ (xs ++ caps)) (us.toArray ++ vs ++ cs.toArray).toList := by
      simp only [Array.toList_append, List.append_assoc]
      exact hus.append (hxs.append hcs)
    refine hF.calls ?_
    refine (callsIn_wide (n := 0)).1 (callsIn_of_wp_marks (R := fun e w' => ∃ v R', e = .returned v ∧ Ext s.nx R R' ∧ s.nx ≤ s'.nx ∧ HR fr R' s' w0 w' ∧ VR R' s'.nx r v) hp hb trivial ?_ rfl)
    have hsz : (us.toArray ++ vs ++ cs.toArray).size = (fst ++ (xs ++ caps)).length := by rw [← hargs.length, Array.length_toList]
    have hrel : Rel fr w0 fn.ntmps [] R (laidA (fst ++ (xs ++ caps)) 0 .leaf) s { tmps := us.toArray ++ vs ++ cs.toArray ++ Array.replicate (fn.ntmps - (us.toArray ++ vs ++ cs.toArray).size) undef, defers := [] } w := by
      refine ⟨hr, TR.laid hargs _, ?_, rfl⟩
      have := nble_of hlen
      simp only [Array.size_append, Array.size_replicate]
      simp only [Array.size_append] at hsz
      omega
    refine ihc _ _ _ _ _ _ _ _ hx Fence.wide 0 fr R w0 w [] _ _ (.inl rfl) rfl hrel fun fr1 ds1 R1 act1 w1 hG1 hE1 hn1 hr1 => ?_
    have key : ∀ l, mapO (resA E a1 s1) fn.results.toList = some l → some (resultA l, s1) = some (r, s') → LeavesInM Fence.wide 0 P fn act1.tmps (fun e w' => ∃ v R', e = .returned v ∧ Ext s.nx R R' ∧ s.nx ≤ s'.nx ∧ HR fr R' s' w0 w' ∧ VR R' s'.nx r v) act1.defers .returning w1 := fun l hl e => by
      cases e
      obtain ⟨ms, _, hnd, hds, hfr, hms⟩ := hG1
      rw [hr1.ds, hds, List.append_nil]
      refine leaves_marks rfl (fr := fr) (R := R1) (s := s') (w0 := w0) (fun w' hw' => ?_) ms w1 (hr1.hr.less hfr) hnd fun D hD => ?_
      · obtain ⟨v, h1, h2⟩ := res_sound hE hw' hr1.tr hl
        exact ⟨v, h1, v, R1, rfl, hE1, hn1, hw', h2⟩
      · obtain ⟨g1, g2⟩ := hms D hD
        refine ⟨hr1.hr.fr D _ g1, g2, fun b hb' e => ?_⟩
        cases hx' : s'.h.get b with
        | none => exact hb' hx'
        | some y =>
          have := (hr1.hr.own b y hx').1
          rw [e, g1] at this
          cases this
    cases x with
    | exit i => cases h
    | goto l => cases h
    | nrm =>
      simp only at h
      split at h <;> try (cases h; done)
      rename_i l hl
      exact key l hl h
    | ret =>
      simp only at h
      split at h <;> try (cases h; done)
      rename_i l hl
      exact key l hl h
theorem Loose.inRound {F : Fence} (h : Loose F) (l : Nat) : Loose (F.inRound l) := by
  rcases h with rfl | ⟨l', rfl⟩
  · exact .inr ⟨l, rfl⟩
  · exact .inr ⟨l, rfl⟩
theorem bind_sound {n nt : Nat} : ∀ (ps : List Tmp) (xs : List AV) (vs : List Value) (tm tm1 : Tree AV) (T : Array Value), bindA nt ps xs tm = some tm1 → VRL R n xs vs → T.size = nt → (∀ t x, tm.get t = some x → ∃ v, T[t]? = some v ∧ VR R n x v) →
    vs.length = ps.length ∧ ((ps.zip vs).foldl (fun (T : Array Value) (p : Tmp × Value) => T.setIfInBounds p.1 p.2) T).size = nt ∧ ∀ t x, tm1.get t = some x → ∃ v, ((ps.zip vs).foldl (fun (T : Array Value) (p : Tmp × Value) => T.setIfInBounds p.1 p.2) T)[t]? = some v ∧ VR R n x v
  | [], [], vs, tm, tm1, T, h, hv, hT, ht => by
    cases h
    simp only [VRL] at hv
    subst hv
    exact ⟨rfl, hT, ht⟩
  | [], _ :: _, vs, tm, tm1, T, h, hv, hT, ht => by cases h
  | _ :: _, [], vs, tm, tm1, T, h, hv, hT, ht => by cases h
  | p :: ps, x :: xs, vs, tm, tm1, T, h, hv, hT, ht => by
    simp only [VRL] at hv
    obtain ⟨u, us, rfl, h1, h2⟩ := hv
    simp only [bindA] at h
    cases hb : Nat.blt p nt with
    | false => rw [hb] at h; cases h
    | true =>
      rw [hb, cond_true] at h
      have hlt := nblt_of hb
      obtain ⟨g1, g2, g3⟩ := bind_sound ps xs us _ tm1 (T.setIfInBounds p u) h h2 (by rw [Array.size_setIfInBounds, hT]) fun t y hy => by
        rw [Tree.get_set] at hy
        by_cases e : t = p
        · subst e
          rw [if_pos rfl] at hy
          cases hy
          exact ⟨u, by simp [hT, hlt], h1⟩
        · rw [if_neg e] at hy
          obtain ⟨v, e1, e2⟩ := ht t y hy
          exact ⟨v, by rw [Array.getElem?_setIfInBounds_ne (Ne.symm e)]; exact e1, e2⟩
      exact ⟨by simp [g1], g2, g3⟩
/-- A block put into the frame, and taken back. -/
theorem HR.lend (h : HR fr R s w0 w) {l : Nat} {blk : Blk} (hl : s.h.get l = some blk) : fr (R l).1 = none ∧ ∃ o, w.heap[(R l).1]? = some o ∧ BR R s.nx (R l).2 blk o ∧ HR (fun k => if k = (R l).1 then some o else fr k) R ⟨s.h.set l none, s.nx⟩ w0 w := by
  obtain ⟨h1, o, h2, h3⟩ := h.own l blk hl
  have hg : ∀ c, (s.h.set l none).get c = if c = l then none else s.h.get c := fun c => Tree.get_set _ _ _ _
  have hs : ∀ c, (s.h.set l none).get c ≠ none → s.h.get c ≠ none ∧ c ≠ l := fun c hc => by
    rw [hg] at hc
    by_cases e : c = l
    · rw [if_pos e] at hc; exact absurd rfl hc
    · rw [if_neg e] at hc; exact ⟨hc, e⟩
  refine ⟨h1, o, h2, h3, h.os, h.tape, h.output, fun k x hk => ?_, fun c hc => h.lt c (hs c hc).1, fun c y hy => ?_, fun c d hc hd e => h.inj c d (hs c hc).1 (hs d hd).1 e⟩
  · by_cases e : k = (R l).1
    · simp only [if_pos e] at hk
      cases hk
      rw [e]
      exact h2
    · simp only [if_neg e] at hk
      exact h.fr k x hk
  · have hc := hs c (by rw [show (s.h.set l none).get c = some y from hy]; simp)
    have hy' : s.h.get c = some y := by
      have := hy
      simp only [hg, if_neg hc.2] at this
      exact this
    obtain ⟨g1, g2⟩ := h.own c y hy'
    refine ⟨?_, g2⟩
    rw [if_neg (fun e => hc.2 (h.inj c l hc.1 (by rw [hl]; simp) e))]
    exact g1
theorem HR.back {fr3 : Nat → Option Obj} (h : HR fr3 R s w0 w) {l D : Nat} {o : Obj} (hD : fr3 D = some o) (hl : l < s.nx) (hR : (R l).1 = D) (hf : ∀ k o, fr k = some o → fr3 k = some o) (hfD : fr D = none) {blk : Blk} {o' : Obj} (hb : BR R s.nx (R l).2 blk o') :
    HR fr R ⟨s.h.set l (some blk), s.nx⟩ w0 (w.putObj D o') := by
  have hg : ∀ c, (s.h.set l (some blk)).get c = if c = l then some blk else s.h.get c := fun c => Tree.get_set _ _ _ _
  have hlt := lt_of_heap (h.fr D o hD)
  have hne : ∀ c, s.h.get c ≠ none → (R c).1 ≠ D := fun c hc e => by
    cases hx : s.h.get c with
    | none => exact hc hx
    | some y =>
      have := (h.own c y hx).1
      rw [e, hD] at this
      cases this
  refine ⟨h.os, h.tape, h.output, fun k x hk => ?_, fun c hc => ?_, fun c y hy => ?_, fun c d hc hd e => ?_⟩
  · have hk' : k ≠ D := fun e => by rw [e, hfD] at hk; cases hk
    rw [World.putObj_heap_other hk']
    exact h.fr k x (hf k x hk)
  · simp only [hg] at hc
    by_cases e : c = l
    · rw [e]; exact hl
    · rw [if_neg e] at hc; exact h.lt c hc
  · simp only [hg] at hy
    by_cases e : c = l
    · subst e
      rw [if_pos rfl] at hy
      cases hy
      rw [hR]
      exact ⟨hfD, o', World.putObj_heap_same hlt, hb⟩
    · rw [if_neg e] at hy
      obtain ⟨g1, o2, g2, g3⟩ := h.own c y hy
      refine ⟨?_, o2, ?_, g3⟩
      · cases hx : fr (R c).1 with
        | none => rfl
        | some z => rw [hf _ _ hx] at g1; cases g1
      · rw [World.putObj_heap_other (hne c (by rw [hy]; simp))]
        exact g2
  · simp only [hg] at hc hd
    by_cases ec : c = l
    · by_cases ed : d = l
      · rw [ec, ed]
      · rw [if_neg ed] at hd
        rw [ec, hR] at e
        exact absurd e.symm (hne d hd)
    · rw [if_neg ec] at hc
      by_cases ed : d = l
      · rw [ed, hR] at e
        exact absurd e (hne c hc)
      · rw [if_neg ed] at hd
        exact h.inj c d hc hd e
/-- A round. -/
theorem yield_ok (hE : EnvOK P E) {N : Nat} (ihc : ∀ inr nt c a s x a' s', ev E draw N inr nt c a s = some (x, a', s') → CodeOK P inr nt c a s x a' s') {l : Nat} {xs : List AV} {r : AV} (h : callE E draw (N + 1) (.y l) xs s = some (r, s')) (hF : Loose F) (hr : HR fr R s w0 w) (hl : l < s.nx) {vs : Array Value} (hxs : VRL R s.nx xs vs.toList)
    {o : Oper} {K : Act → World → Prop} {Q : Exit → Act → World → Prop} (hK : ∀ R' v w', Ext s.nx R R' → s.nx ≤ s'.nx → HR fr R' s' w0 w' → VR R' s'.nx r v → K (act.put o.dst v) w') :
    o.uponIn F m P act K Q ((do let d ← Deferred.ofValue (.func (.yield (R l).1) #[] #[]) vs; invoke d.target d.args : Sem Next).run P w) := by
  simp only [callE, callY] at h
  split at h <;> try (cases h; done)
  rename_i tm nt2 ps asg body pend hget
  split at h <;> try (cases h; done)
  split at h <;> try (cases h; done)
  rename_i tm1 htm
  split at h <;> try (cases h; done)
  rename_i a1 s1 hx1
  split at h <;> try (cases h; done)
  rename_i x a2 s2 hx2
  split at h <;> try (cases h; done)
  rename_i hg2
  cases h
  obtain ⟨hfD, ob, hob, hBR, hlend⟩ := hr.lend hget
  obtain ⟨rec, rfl, e1, e2, e3, e4, e5, e6, e7⟩ := hBR
  obtain ⟨b1, b2, b3⟩ := bind_sound ps xs vs.toList tm tm1 rec.tmps htm hxs e6 e7
  have hrun : (do let d ← Deferred.ofValue (.func (.yield (R l).1) #[] #[]) vs; invoke d.target d.args : Sem Next).run P w = .ok (.round (R l).1 rec.fn ((ps.zip vs.toList).foldl (fun (T : Array Value) (p : Tmp × Value) => T.setIfInBounds p.1 p.2) rec.tmps) asg body) w := by
    have := run_yield (P := P) (args := vs) hob (by rw [e3]; simpa using b1)
    rw [e4, e5] at this
    have hz : (rec.params.zip vs).foldl (fun tmps (t, a) => tmps.setIfInBounds t a) rec.tmps = (ps.zip vs.toList).foldl (fun (T : Array Value) (p : Tmp × Value) => T.setIfInBounds p.1 p.2) rec.tmps := by
      rw [e3, ← Array.foldl_toList, Array.toList_zip]
    rw [hz] at this
    simpa [Deferred.ofValue, invoke] using this
  rw [hrun, Oper.uponIn_round]
  refine ⟨fun hd => (by rw [hF.depth] at hd; cases hd), ?_⟩
  refine roundIn_of_wpIn (hF.fn _) ?_
  have hrel : Rel (fun k => if k = (R l).1 then some (.loop rec) else fr k) w0 nt2 [] R tm1 ⟨s.h.set l none, s.nx⟩ { tmps := (ps.zip vs.toList).foldl (fun (T : Array Value) (p : Tmp × Value) => T.setIfInBounds p.1 p.2) rec.tmps, defers := [] } w := ⟨hlend, b3, b2, rfl⟩
  refine ihc _ _ _ _ _ _ _ _ hx1 (F.inRound (R l).1) (m - 1) _ R w0 w [] _ _ (hF.inRound _) rfl hrel fun fr2 ds2 R2 act2 w2 hG2 hE2 hn2 hr2 => ?_
  obtain ⟨ms, hms, _, hds2, hfr2, _⟩ := hG2
  obtain rfl := hms rfl
  have hfr2D : fr2 (R l).1 = some (.loop rec) := hfr2 _ _ (if_pos rfl)
  have hw2 := hr2.hr.fr _ _ hfr2D
  have hbusy : HR (fun k => if k = (R l).1 then some (.loop { rec with state := .busy }) else fr2 k) R2 s1 w0 (w2.putObj (R l).1 (.loop { rec with state := .busy })) := by
    have hlt := lt_of_heap hw2
    refine ⟨hr2.hr.os, hr2.hr.tape, hr2.hr.output, fun k x hk => ?_, hr2.hr.lt, fun b x hb => ?_, hr2.hr.inj⟩
    · by_cases e : k = (R l).1
      · simp only [if_pos e] at hk
        cases hk
        rw [e]
        exact World.putObj_heap_same hlt
      · simp only [if_neg e] at hk
        rw [World.putObj_heap_other e]
        exact hr2.hr.fr k x hk
    · obtain ⟨h1, o2, h2, h3⟩ := hr2.hr.own b x hb
      have e : (R2 b).1 ≠ (R l).1 := fun e => by rw [e, hfr2D] at h1; cases h1
      refine ⟨by rw [if_neg e]; exact h1, o2, ?_, h3⟩
      rw [World.putObj_heap_other e]
      exact h2
  refine ⟨_, run_beginRound hw2 (by rw [e1]), ?_⟩
  refine ihc _ _ _ _ _ _ _ _ hx2 (F.inRound (R l).1) (m - 1) _ R2 w0 _ [] _ _ (hF.inRound _) rfl ⟨hbusy, hr2.tr, hr2.nt, by rw [hr2.ds, hds2]; rfl⟩ fun fr3 ds3 R3 act3 w3 hG3 hE3 hn3 hr3 => ?_
  obtain ⟨ms, hms, _, _, hfr3, _⟩ := hG3
  obtain rfl := hms rfl
  have hfr3D : fr3 (R l).1 = some (.loop { rec with state := .busy }) := hfr3 _ _ (if_pos rfl)
  have hw3 := hr3.hr.fr _ _ hfr3D
  have hn2' : s.nx ≤ s1.nx := hn2
  have hE13 : Ext s.nx R R3 := Ext.trans (n' := s1.nx) hE2 hn2' hE3
  have hn13 : s.nx ≤ s2.nx := Nat.le_trans hn2' hn3
  have hR3 : R3 l = R l := hE13 l hl
  have fin : ∀ jump : Option Code, jump = pendOf x → ∃ v w', (Instr.endRound (R l).1 jump).run P w3 = .ok v w' ∧ K (act.put o.dst v) w' := fun jump hj => by
    refine ⟨_, _, run_endRound jump hw3, hK R3 _ _ hE13 hn13 ?_ ?_⟩
    · refine hr3.hr.back (l := l) hfr3D (Nat.lt_of_lt_of_le hl hn13) (by rw [hR3]) (fun k z hk => ?_) hfD ?_
      · have hk' : k ≠ (R l).1 := fun e => by rw [e, hfD] at hk; cases hk
        have g1 := hfr2 k z (by simp only [if_neg hk']; exact hk)
        exact hfr3 k z (by simp only [if_neg hk']; exact g1)
      · refine ⟨_, rfl, ?_, hj, e3, e4, e5, e6, fun t y hy => ?_⟩
        · subst hj
          cases x <;> rfl
        · obtain ⟨v, g1, g2⟩ := e7 t y hy
          exact ⟨v, g1, g2.mono hn13 hE13⟩
    · subst hj
      simp only [VR]
  cases x with
  | nrm => exact fin _ rfl
  | exit i => exact fin _ rfl
  | goto t => exact fin _ rfl
  | ret => exact fin _ rfl
theorem call_ok (hE : EnvOK P E) {N : Nat} (ihc : ∀ inr nt c a s x a' s', ev E draw N inr nt c a s = some (x, a', s') → CodeOK P inr nt c a s x a' s') : CallOK P (callE E draw (N + 1)) := by
  intro f xs s r s' h F m fr R w0 w fv vs hF hr hf hxs o act K Q hK
  cases f
  case fn f fst caps =>
    simp only [VR] at hf
    obtain ⟨us, cs, hus, hcs, rfl⟩ := hf
    obtain ⟨hcf, hc⟩ := fn_ok hE ihc f fst caps xs s r s' h
    have hrun : (do let d ← Deferred.ofValue (.func (.func f) us.toArray cs.toArray) vs; invoke d.target d.args : Sem Next).run P w = .ok (.enter f (us.toArray ++ vs ++ cs.toArray)) w := by
      simp [Deferred.ofValue, invoke, hcf]
    rw [hrun, Oper.uponIn_enter]
    refine ⟨fun hd => (by rw [hF.depth] at hd; cases hd), CallsIn.mono (hc F (m - 1) fr R w0 w us cs vs hF hr hus hcs hxs) ?_⟩
    rintro e w' ⟨v, R', rfl, h1, h2, h3, h4⟩
    exact hK R' v w' h1 h2 h3 h4
  case y l =>
    simp only [VR] at hf
    obtain ⟨hl, rfl⟩ := hf
    exact yield_ok hE ihc h hF hr hl hxs hK
  all_goals (simp only [callE] at h; cases h)
theorem ev_sound (hE : EnvOK P E) (hD : DrawOK P draw) : ∀ N, (∀ n, n ≤ N → ∀ inr nt c a s x a' s', ev E draw n inr nt c a s = some (x, a', s') → CodeOK P inr nt c a s x a' s') ∧ (∀ n, n ≤ N → CallOK P (callE E draw n)) ∧ ∀ n, n ≤ N → FnOK P (callE E draw n) := by
  intro N
  induction N with
  | zero =>
    refine ⟨fun n hn inr nt c a s x a' s' h => ?_, fun n hn f xs s r s' h => ?_, fun n hn f fst caps xs s r s' h => ?_⟩
    · obtain rfl : n = 0 := by omega
      simp only [ev] at h
      cases h
    · obtain rfl : n = 0 := by omega
      simp only [callE] at h
      cases h
    · obtain rfl : n = 0 := by omega
      simp only [callE] at h
      cases h
  | succ N ih =>
    obtain ⟨ihc, ihf, ihn⟩ := ih
    refine ⟨fun n hn inr nt c a s x a' s' h => ?_, fun n hn => ?_, fun n hn => ?_⟩
    · rcases Nat.lt_or_ge n (N + 1) with hl | hl
      · exact ihc n (by omega) inr nt c a s x a' s' h
      obtain rfl : n = N + 1 := by omega
      by_cases hc : ∃ c', c = .loop c'
      · obtain ⟨c', rfl⟩ := hc
        exact loop_ok (N := N) (fun k hk a s x a' s' h => ihc k hk inr nt c' a s x a' s' h) h
      · exact code_ok hE hD (ihc N (Nat.le_refl _)) (ihf N (Nat.le_refl _)) (ihn N (Nat.le_refl _)) (fun c' e => hc ⟨c', e⟩) h
    · rcases Nat.lt_or_ge n (N + 1) with hl | hl
      · exact ihf n (by omega)
      obtain rfl : n = N + 1 := by omega
      exact call_ok hE (ihc N (Nat.le_refl _))
    · rcases Nat.lt_or_ge n (N + 1) with hl | hl
      · exact ihn n (by omega)
      obtain rfl : n = N + 1 := by omega
      exact fn_ok hE (ihc N (Nat.le_refl _))
end
end
end Go.Proofs.YtbioklhoolkhkadGreatDoor
namespace Go.Proofs.YtbioklhoolkhkadGreatDoor
set_option linter.unusedVariables false
set_option linter.unusedSimpArgs false
set_option linter.unusedSectionVars false
open Go Go.RowKit
noncomputable section

/-- It makes a value and changes no block. -/
def isR : Op → Bool
  | .move _ => true
  | .assign _ => true
  | .pick _ _ _ => true
  | .nilCheck _ => true
  | .fieldAddr _ _ _ => true
  | .field _ _ _ => true
  | .load _ _ => true
  | .indexAddr _ _ _ => true
  | .index _ _ _ => true
  | .binOp _ _ _ _ _ => true
  | .unOp _ _ _ => true
  | .extract _ _ => true
  | .build _ _ => true
  | .lookup _ _ _ _ => true
  | .slice _ _ _ _ _ => true
  | .convert _ _ _ => true
  | .makeFunc _ _ _ => true
  | _ => false
section
variable {E : Env} {a a' : Tree AV} {s : St}
theorem St.load_nx (h : Tree Blk) (n b o k : Nat) : St.load ⟨h, n⟩ b o k = St.load ⟨h, 0⟩ b o k := rfl
theorem lookA_nx (h : Tree Blk) (n : Nat) (k x : AV) : lookA ⟨h, n⟩ k x = lookA ⟨h, 0⟩ k x := by
  cases x <;> rfl
theorem sliceA_nx (h : Tree Blk) (n : Nat) (u : TI) (x : AV) (l k : Option AV) : sliceA E ⟨h, n⟩ u x l k = sliceA E ⟨h, 0⟩ u x l k := rfl
theorem sliceM_nx (h : Tree Blk) (n : Nat) (u : TI) (x : AV) (l : Option AV) (k m : AV) : sliceM E ⟨h, n⟩ u x l k m = sliceM E ⟨h, 0⟩ u x l k m := rfl
theorem cond_map {α β : Type} (f : α → β) (c : Bool) (x y : Option α) : (bif c then x else y).map f = bif c then x.map f else y.map f := by cases c <;> rfl
theorem evOp_nx {op : Op} (hR : isR op = true) (h : Tree Blk) (n : Nat) : evOp E a ⟨h, n⟩ op = (evOp E a ⟨h, 0⟩ op).map fun r => (r.1, ⟨h, n⟩) := by
  cases op <;> simp only [isR] at hR <;> try (cases hR; done)
  case move x => simp only [evOp, eo_move, eo_assign, eo_pick, eo_nilCheck, eo_alloc, eo_box, eo_fieldAddr, eo_field, eo_load, eo_store, eo_indexAddr, eo_index, eo_binOp, eo_unOp, eo_extract, eo_build, eo_buildSlice, eo_makeSlice, eo_makeMap, eo_lookup, eo_slice, eo_convert, eo_makeFunc, Option.map_map]; rfl
  case assign x => simp only [evOp, eo_move, eo_assign, eo_pick, eo_nilCheck, eo_alloc, eo_box, eo_fieldAddr, eo_field, eo_load, eo_store, eo_indexAddr, eo_index, eo_binOp, eo_unOp, eo_extract, eo_build, eo_buildSlice, eo_makeSlice, eo_makeMap, eo_lookup, eo_slice, eo_convert, eo_makeFunc, Option.map_map]; rfl
  case load t x =>
    simp only [evOp, eo_move, eo_assign, eo_pick, eo_nilCheck, eo_alloc, eo_box, eo_fieldAddr, eo_field, eo_load, eo_store, eo_indexAddr, eo_index, eo_binOp, eo_unOp, eo_extract, eo_build, eo_buildSlice, eo_makeSlice, eo_makeMap, eo_lookup, eo_slice, eo_convert, eo_makeFunc, St.load_nx h n]
    repeat' (first | rfl | (split <;> try simp only [Option.map_none, Option.map_map]))
  case lookup t x k ok =>
    simp only [evOp, eo_move, eo_assign, eo_pick, eo_nilCheck, eo_alloc, eo_box, eo_fieldAddr, eo_field, eo_load, eo_store, eo_indexAddr, eo_index, eo_binOp, eo_unOp, eo_extract, eo_build, eo_buildSlice, eo_makeSlice, eo_makeMap, eo_lookup, eo_slice, eo_convert, eo_makeFunc, lookA_nx h n]
    repeat' (first | rfl | (split <;> try simp only [Option.map_none, Option.map_map, cond_map]))
  case convert t t2 x =>
    simp only [evOp, eo_move, eo_assign, eo_pick, eo_nilCheck, eo_alloc, eo_box, eo_fieldAddr, eo_field, eo_load, eo_store, eo_indexAddr, eo_index, eo_binOp, eo_unOp, eo_extract, eo_build, eo_buildSlice, eo_makeSlice, eo_makeMap, eo_lookup, eo_slice, eo_convert, eo_makeFunc, St.load_nx h n]
    repeat' (first | rfl | (split <;> try simp only [Option.map_none, Option.map_map, cond_map]))
  case slice t x l hh m =>
    simp only [evOp, eo_move, eo_assign, eo_pick, eo_nilCheck, eo_alloc, eo_box, eo_fieldAddr, eo_field, eo_load, eo_store, eo_indexAddr, eo_index, eo_binOp, eo_unOp, eo_extract, eo_build, eo_buildSlice, eo_makeSlice, eo_makeMap, eo_lookup, eo_slice, eo_convert, eo_makeFunc, sliceA_nx h n, sliceM_nx h n]
    repeat' (first | rfl | (split <;> try simp only [Option.map_none, Option.map_map, cond_map]))
  all_goals
    simp only [evOp, eo_move, eo_assign, eo_pick, eo_nilCheck, eo_alloc, eo_box, eo_fieldAddr, eo_field, eo_load, eo_store, eo_indexAddr, eo_index, eo_binOp, eo_unOp, eo_extract, eo_build, eo_buildSlice, eo_makeSlice, eo_makeMap, eo_lookup, eo_slice, eo_convert, eo_makeFunc]
    repeat' (first | rfl | (split <;> try simp only [Option.map_none, Option.map_map, cond_map]))
theorem mapO_congr {α β : Type} {f g : α → Option β} : ∀ {l : List α}, (∀ x ∈ l, f x = g x) → mapO f l = mapO g l
  | [], _ => rfl
  | x :: l, h => by
    unfold mapO
    rw [h x (.head _), mapO_congr fun y hy => h y (.tail _ hy)]
theorem partsA_congr {ps : List (Nat × Operand)} (h : ∀ p ∈ ps, opd a p.2 = opd a' p.2) : partsA a ps = partsA a' ps := mapO_congr fun p hp => by rw [h p hp]
theorem optA_congr {o : Option Operand} (h : ∀ x, o = some x → opd a x = opd a' x) : optA a o = optA a' o := by
  cases o with
  | none => rfl
  | some x => simp only [optA, h x rfl]
theorem evUpd_congr {t : TypeId} {m k v : Operand} (h1 : opd a m = opd a' m) (h2 : opd a k = opd a' k) (h3 : opd a v = opd a' v) : evOp.evUpd E a s t m k v = evOp.evUpd E a' s t m k v := by
  simp only [evOp.evUpd, h1, h2, h3]
theorem evOp_congr {op : Op} (h : ∀ x ∈ op.operands, opd a x = opd a' x) : evOp E a s op = evOp E a' s op := by
  cases op
  case build t ps => simp only [evOp, eo_move, eo_assign, eo_pick, eo_nilCheck, eo_alloc, eo_box, eo_fieldAddr, eo_field, eo_load, eo_store, eo_indexAddr, eo_index, eo_binOp, eo_unOp, eo_extract, eo_build, eo_buildSlice, eo_makeSlice, eo_makeMap, eo_lookup, eo_slice, eo_convert, eo_makeFunc, partsA_congr (fun p hp => h p.2 (by simp only [Op.operands, List.mem_toArray]; exact List.mem_map_of_mem hp))]
  case buildSlice t n ps => simp only [evOp, eo_move, eo_assign, eo_pick, eo_nilCheck, eo_alloc, eo_box, eo_fieldAddr, eo_field, eo_load, eo_store, eo_indexAddr, eo_index, eo_binOp, eo_unOp, eo_extract, eo_build, eo_buildSlice, eo_makeSlice, eo_makeMap, eo_lookup, eo_slice, eo_convert, eo_makeFunc, partsA_congr (fun p hp => h p.2 (by simp only [Op.operands, List.mem_toArray]; exact List.mem_map_of_mem hp))]
  case slice t x l hh m =>
    cases m with
    | none => simp only [evOp, eo_move, eo_assign, eo_pick, eo_nilCheck, eo_alloc, eo_box, eo_fieldAddr, eo_field, eo_load, eo_store, eo_indexAddr, eo_index, eo_binOp, eo_unOp, eo_extract, eo_build, eo_buildSlice, eo_makeSlice, eo_makeMap, eo_lookup, eo_slice, eo_convert, eo_makeFunc, h x (by simp [Op.operands]), optA_congr (o := l) (fun y hy => h y (by simp [Op.operands, hy])), optA_congr (o := hh) (fun y hy => h y (by simp [Op.operands, hy]))]
    | some m =>
      cases hh with
      | none => simp only [evOp, eo_move, eo_assign, eo_pick, eo_nilCheck, eo_alloc, eo_box, eo_fieldAddr, eo_field, eo_load, eo_store, eo_indexAddr, eo_index, eo_binOp, eo_unOp, eo_extract, eo_build, eo_buildSlice, eo_makeSlice, eo_makeMap, eo_lookup, eo_slice, eo_convert, eo_makeFunc, h x (by simp [Op.operands]), h m (by simp [Op.operands]), optA_congr (o := l) (fun y hy => h y (by simp [Op.operands, hy]))]
      | some hh => simp only [evOp, eo_move, eo_assign, eo_pick, eo_nilCheck, eo_alloc, eo_box, eo_fieldAddr, eo_field, eo_load, eo_store, eo_indexAddr, eo_index, eo_binOp, eo_unOp, eo_extract, eo_build, eo_buildSlice, eo_makeSlice, eo_makeMap, eo_lookup, eo_slice, eo_convert, eo_makeFunc, h x (by simp [Op.operands]), h m (by simp [Op.operands]), h hh (by simp [Op.operands]), optA_congr (o := l) (fun y hy => h y (by simp [Op.operands, hy]))]
  case makeFunc fn fst cap =>
    have h1 : mapO (opd a) fst.toList = mapO (opd a') fst.toList := mapO_congr fun y hy => h y (by simp only [Op.operands, Array.mem_append]; exact .inl (Array.mem_toList_iff.1 hy))
    have h2 : mapO (opd a) cap.toList = mapO (opd a') cap.toList := mapO_congr fun y hy => h y (by simp only [Op.operands, Array.mem_append]; exact .inr (Array.mem_toList_iff.1 hy))
    simp only [evOp, eo_move, eo_assign, eo_pick, eo_nilCheck, eo_alloc, eo_box, eo_fieldAddr, eo_field, eo_load, eo_store, eo_indexAddr, eo_index, eo_binOp, eo_unOp, eo_extract, eo_build, eo_buildSlice, eo_makeSlice, eo_makeMap, eo_lookup, eo_slice, eo_convert, eo_makeFunc, h1, h2]
  case mapUpdate t m k v => exact evUpd_congr (h m (by simp [Op.operands])) (h k (by simp [Op.operands])) (h v (by simp [Op.operands]))
  case insert t m k v => exact evUpd_congr (h m (by simp [Op.operands])) (h k (by simp [Op.operands])) (h v (by simp [Op.operands]))
  case pick c x y => simp only [evOp, eo_move, eo_assign, eo_pick, eo_nilCheck, eo_alloc, eo_box, eo_fieldAddr, eo_field, eo_load, eo_store, eo_indexAddr, eo_index, eo_binOp, eo_unOp, eo_extract, eo_build, eo_buildSlice, eo_makeSlice, eo_makeMap, eo_lookup, eo_slice, eo_convert, eo_makeFunc, h c (by simp [Op.operands]), h x (by simp [Op.operands]), h y (by simp [Op.operands])]
  case store t x y => simp only [evOp, eo_move, eo_assign, eo_pick, eo_nilCheck, eo_alloc, eo_box, eo_fieldAddr, eo_field, eo_load, eo_store, eo_indexAddr, eo_index, eo_binOp, eo_unOp, eo_extract, eo_build, eo_buildSlice, eo_makeSlice, eo_makeMap, eo_lookup, eo_slice, eo_convert, eo_makeFunc, h x (by simp [Op.operands]), h y (by simp [Op.operands])]
  case binOp o t x y t2 => simp only [evOp, eo_move, eo_assign, eo_pick, eo_nilCheck, eo_alloc, eo_box, eo_fieldAddr, eo_field, eo_load, eo_store, eo_indexAddr, eo_index, eo_binOp, eo_unOp, eo_extract, eo_build, eo_buildSlice, eo_makeSlice, eo_makeMap, eo_lookup, eo_slice, eo_convert, eo_makeFunc, h x (by simp [Op.operands]), h y (by simp [Op.operands])]
  case makeSlice t x y => simp only [evOp, eo_move, eo_assign, eo_pick, eo_nilCheck, eo_alloc, eo_box, eo_fieldAddr, eo_field, eo_load, eo_store, eo_indexAddr, eo_index, eo_binOp, eo_unOp, eo_extract, eo_build, eo_buildSlice, eo_makeSlice, eo_makeMap, eo_lookup, eo_slice, eo_convert, eo_makeFunc, h x (by simp [Op.operands]), h y (by simp [Op.operands])]
  case indexAddr t x y => simp only [evOp, eo_move, eo_assign, eo_pick, eo_nilCheck, eo_alloc, eo_box, eo_fieldAddr, eo_field, eo_load, eo_store, eo_indexAddr, eo_index, eo_binOp, eo_unOp, eo_extract, eo_build, eo_buildSlice, eo_makeSlice, eo_makeMap, eo_lookup, eo_slice, eo_convert, eo_makeFunc, h x (by simp [Op.operands]), h y (by simp [Op.operands])]
  case index t x y => simp only [evOp, eo_move, eo_assign, eo_pick, eo_nilCheck, eo_alloc, eo_box, eo_fieldAddr, eo_field, eo_load, eo_store, eo_indexAddr, eo_index, eo_binOp, eo_unOp, eo_extract, eo_build, eo_buildSlice, eo_makeSlice, eo_makeMap, eo_lookup, eo_slice, eo_convert, eo_makeFunc, h x (by simp [Op.operands]), h y (by simp [Op.operands])]
  case lookup t x y ok => simp only [evOp, eo_move, eo_assign, eo_pick, eo_nilCheck, eo_alloc, eo_box, eo_fieldAddr, eo_field, eo_load, eo_store, eo_indexAddr, eo_index, eo_binOp, eo_unOp, eo_extract, eo_build, eo_buildSlice, eo_makeSlice, eo_makeMap, eo_lookup, eo_slice, eo_convert, eo_makeFunc, h x (by simp [Op.operands]), h y (by simp [Op.operands])]
  case move x => simp only [evOp, eo_move, eo_assign, eo_pick, eo_nilCheck, eo_alloc, eo_box, eo_fieldAddr, eo_field, eo_load, eo_store, eo_indexAddr, eo_index, eo_binOp, eo_unOp, eo_extract, eo_build, eo_buildSlice, eo_makeSlice, eo_makeMap, eo_lookup, eo_slice, eo_convert, eo_makeFunc, h x (by simp [Op.operands])]
  case assign x => simp only [evOp, eo_move, eo_assign, eo_pick, eo_nilCheck, eo_alloc, eo_box, eo_fieldAddr, eo_field, eo_load, eo_store, eo_indexAddr, eo_index, eo_binOp, eo_unOp, eo_extract, eo_build, eo_buildSlice, eo_makeSlice, eo_makeMap, eo_lookup, eo_slice, eo_convert, eo_makeFunc, h x (by simp [Op.operands])]
  case box t x => simp only [evOp, eo_move, eo_assign, eo_pick, eo_nilCheck, eo_alloc, eo_box, eo_fieldAddr, eo_field, eo_load, eo_store, eo_indexAddr, eo_index, eo_binOp, eo_unOp, eo_extract, eo_build, eo_buildSlice, eo_makeSlice, eo_makeMap, eo_lookup, eo_slice, eo_convert, eo_makeFunc, h x (by simp [Op.operands])]
  case load t x => simp only [evOp, eo_move, eo_assign, eo_pick, eo_nilCheck, eo_alloc, eo_box, eo_fieldAddr, eo_field, eo_load, eo_store, eo_indexAddr, eo_index, eo_binOp, eo_unOp, eo_extract, eo_build, eo_buildSlice, eo_makeSlice, eo_makeMap, eo_lookup, eo_slice, eo_convert, eo_makeFunc, h x (by simp [Op.operands])]
  case nilCheck x => simp only [evOp, eo_move, eo_assign, eo_pick, eo_nilCheck, eo_alloc, eo_box, eo_fieldAddr, eo_field, eo_load, eo_store, eo_indexAddr, eo_index, eo_binOp, eo_unOp, eo_extract, eo_build, eo_buildSlice, eo_makeSlice, eo_makeMap, eo_lookup, eo_slice, eo_convert, eo_makeFunc, h x (by simp [Op.operands])]
  case unOp o t x => simp only [evOp, eo_move, eo_assign, eo_pick, eo_nilCheck, eo_alloc, eo_box, eo_fieldAddr, eo_field, eo_load, eo_store, eo_indexAddr, eo_index, eo_binOp, eo_unOp, eo_extract, eo_build, eo_buildSlice, eo_makeSlice, eo_makeMap, eo_lookup, eo_slice, eo_convert, eo_makeFunc, h x (by simp [Op.operands])]
  case convert t t2 x => simp only [evOp, eo_move, eo_assign, eo_pick, eo_nilCheck, eo_alloc, eo_box, eo_fieldAddr, eo_field, eo_load, eo_store, eo_indexAddr, eo_index, eo_binOp, eo_unOp, eo_extract, eo_build, eo_buildSlice, eo_makeSlice, eo_makeMap, eo_lookup, eo_slice, eo_convert, eo_makeFunc, h x (by simp [Op.operands])]
  case fieldAddr t x f => simp only [evOp, eo_move, eo_assign, eo_pick, eo_nilCheck, eo_alloc, eo_box, eo_fieldAddr, eo_field, eo_load, eo_store, eo_indexAddr, eo_index, eo_binOp, eo_unOp, eo_extract, eo_build, eo_buildSlice, eo_makeSlice, eo_makeMap, eo_lookup, eo_slice, eo_convert, eo_makeFunc, h x (by simp [Op.operands])]
  case field t x f => simp only [evOp, eo_move, eo_assign, eo_pick, eo_nilCheck, eo_alloc, eo_box, eo_fieldAddr, eo_field, eo_load, eo_store, eo_indexAddr, eo_index, eo_binOp, eo_unOp, eo_extract, eo_build, eo_buildSlice, eo_makeSlice, eo_makeMap, eo_lookup, eo_slice, eo_convert, eo_makeFunc, h x (by simp [Op.operands])]
  case extract x i => simp only [evOp, eo_move, eo_assign, eo_pick, eo_nilCheck, eo_alloc, eo_box, eo_fieldAddr, eo_field, eo_load, eo_store, eo_indexAddr, eo_index, eo_binOp, eo_unOp, eo_extract, eo_build, eo_buildSlice, eo_makeSlice, eo_makeMap, eo_lookup, eo_slice, eo_convert, eo_makeFunc, h x (by simp [Op.operands])]
  all_goals rfl
end
end
end Go.Proofs.YtbioklhoolkhkadGreatDoor
namespace Go.Proofs.YtbioklhoolkhkadGreatDoor
set_option linter.unusedVariables false
set_option linter.unusedSimpArgs false
set_option linter.unusedSectionVars false
open Go Go.RowKit
noncomputable section

/-- A new block: its content, and the value by its number. -/
def evA (E : Env) (a : Tree AV) : Op → Option (Blk × (Nat → AV))
  | .alloc e => match E.tt.get e with
    | some u => match u.z with
      | some z => bif allOne (cellsA z) then some (.cells e (cellsA z), fun b => .p b 0) else none
      | none => none
    | none => none
  | .box e x => match opd a x with
    | some v => bif allOne (cellsA v) then some (.cells e (cellsA v), fun b => .p b 0) else none
    | none => none
  | .makeMap t r => match r with
    | none => some (.map [], fun b => .m b)
    | some _ => none
  | .buildSlice t n ps => match E.tt.get t with
    | some u => match u.k with
      | .slice e => match E.tt.get e with
        | some ue => match ue.z with
          | some z => match partsA a ps.toList with
            | some ps => bif Nat.beq (cellsA z).length ue.size && Nat.blt 0 ue.size && Nat.ble (n * ue.size) 16777216 then match fillA (fun i => some (i * ue.size, ue.size)) (repL (cellsA z) n) ps with
              | some cs => bif allOne cs && Nat.beq cs.length (n * ue.size) then some (.cells e cs, fun b => .sl b 0 n n true ue.size) else none
              | none => none
              else none
            | none => none
          | none => none
        | none => none
      | _ => none
    | none => none
  | .makeSlice t l c => match opd a l with
    | some (.i _ (.ofNat n)) => match opd a c with
      | some (.i _ (.ofNat m)) => match E.tt.get t with
        | some u => match u.k with
          | .slice e => match E.tt.get e with
            | some ue => match ue.z with
              | some z => bif Nat.beq n m && Nat.beq (cellsA z).length ue.size && Nat.blt 0 ue.size && Nat.ble (n * ue.size) 16777216 && Nat.ble (ue.bytes * n) 281474976710656 && allOne (cellsA z) then some (.cells e (repL (cellsA z) n), fun b => .sl b 0 n n true ue.size) else none
              | none => none
            | none => none
          | _ => none
        | none => none
      | _ => none
    | _ => none
  | _ => none
section
variable {P : Program} {E : Env} {R : Nat → Nat × Nat} {n : Nat} {a : Tree AV} {act : Act} {w : World}
theorem newBuildSlice (hE : EnvOK P E) {t : TypeId} {u : TI} (hu : E.tt.get t = some u) {e : TypeId} (hk : u.k = .slice e) {ue : TI} (hue : E.tt.get e = some ue) {z : AV} (hz : ue.z = some z) (hn : (cellsA z).length = ue.size) (hpos : 0 < ue.size)
    {len : Nat} (hsm : len * ue.size ≤ 16777216) {ps : List (Nat × AV)} {us : Array (Nat × Value)} (h1 : us.toList.map Prod.fst = ps.map Prod.fst) (h2 : VRL R n (ps.map Prod.snd) (us.toList.map Prod.snd))
    {cs : List AV} (hf : fillA (fun i => some (i * ue.size, ue.size)) (repL (cellsA z) len) ps = some cs) (hone : allOne cs = true) (hcl : cs.length = len * ue.size) :
    ∃ ob v sz, (Instr.buildSlice t len us).run P w = .ok v (w.alloc ob) ∧ BR R n sz (.cells e cs) ob ∧ ∀ R' n' b, b < n' → R' b = (w.heap.size, sz) → VR R' n' (.sl b 0 len len true ue.size) v := by
  obtain ⟨_, ⟨d, hd, hk'⟩, -⟩ := hE.tt t u hu
  obtain ⟨_, _, i, hi, hsz, _, hzz⟩ := hE.tt e ue hue
  rw [hk] at hk'
  obtain rfl : d = .slice e := hk'
  obtain ⟨v, hv, hR⟩ := hzz z hz
  have hzc := (hR R n).cells
  have hvl := hzc.length
  simp only [Array.length_toList] at hvl
  have hini : VRL R n (repL (cellsA z) len) ((Array.range (len * i.size)).map (v.cells[· % v.cells.size]!)).toList := by
    refine VRL.of (by simp [repL_length, hn, hsz]) fun j x hj => ?_
    have hjl : j < len * (cellsA z).length := by have := (List.getElem?_eq_some_iff.1 hj).1; rwa [repL_length] at this
    rw [repL_get _ (by omega) len j hjl] at hj
    obtain ⟨c, e1, e2⟩ := hzc.get hj
    refine ⟨c, ?_, e2⟩
    have hjl' : j < len * i.size := by rw [hsz, ← hn]; exact hjl
    simp only [Array.getElem?_toList, Array.getElem?_map, Array.getElem?_range, hjl', Option.map_some, hvl]
    rw [Array.getElem?_toList] at e1
    simp [hjl', getElem!_def, e1]
  obtain ⟨cells, h3, h4⟩ := fill_sound (place := fun j => some (j * i.size, i.size)) (placeA := fun j => some (j * ue.size, ue.size)) (fun j o y hj => by rw [hsz]; exact hj) ps us.toList h1 h2 hini hf
  have hrun : (Instr.buildSlice t len us).run P w = .ok (.slice (some ⟨w.heap.size, 0, none⟩) len len) (w.alloc (.cells cells e)) := by
    by_cases h0 : len * i.size = 0
    · have hl0 : len = 0 := by rcases Nat.mul_eq_zero.1 h0 with h | h; exact h; omega
      subst hl0
      have : Instr.fill (fun j => some (j * i.size, i.size)) #[] us.toList = some cells := by simpa [show Array.range 0 = #[] from rfl] using h3
      simp [Instr.buildSlice, run_underlying hd, sizeOf, typeInfo, hi, show Array.range 0 = #[] from rfl, this, newRow]
    · exact run_buildSlice (P := P) w t e len us cells i v hd hi hv (by rw [hsz]; omega) h0 h3
  refine ⟨.cells cells e, .slice (some ⟨w.heap.size, 0, none⟩) len len, cs.length, hrun, ?_, fun R' n' b hb e1 => ?_⟩
  · have := BR.row (e := e) h4 (allOne_spec hone)
    simpa using this
  · simp only [VR]
    rw [e1]
    refine ⟨hb, 0, len, rfl, .inr rfl, fun _ => rfl, Nat.le_refl _, Nat.le_refl _, ?_, by rw [hcl]; omega⟩
    have : len ≤ len * ue.size := Nat.le_mul_of_pos_right _ hpos
    unfold maxLen; omega
theorem newMakeSlice (hE : EnvOK P E) {t : TypeId} {u : TI} (hu : E.tt.get t = some u) {e : TypeId} (hk : u.k = .slice e) {ue : TI} (hue : E.tt.get e = some ue) {z : AV} (hz : ue.z = some z) (hn : (cellsA z).length = ue.size) (hpos : 0 < ue.size)
    {c : Nat} (hsm : c * ue.size ≤ 16777216) (hby : ue.bytes * c ≤ 281474976710656) (hone : allOne (cellsA z) = true) (k k' : IntKind) :
    ∃ ob v sz, (Instr.makeSlice t (.int k (Int.ofNat c)) (.int k' (Int.ofNat c))).run P w = .ok v (w.alloc ob) ∧ BR R n sz (.cells e (repL (cellsA z) c)) ob ∧ ∀ R' n' b, b < n' → R' b = (w.heap.size, sz) → VR R' n' (.sl b 0 c c true ue.size) v := by
  obtain ⟨_, ⟨d, hd, hk'⟩, -⟩ := hE.tt t u hu
  obtain ⟨_, _, i, hi, hsz, hbz, hzz⟩ := hE.tt e ue hue
  rw [hk] at hk'
  obtain rfl : d = .slice e := hk'
  obtain ⟨v, hv, hR⟩ := hzz z hz
  have hcl : c ≤ c * ue.size := Nat.le_mul_of_pos_right _ hpos
  have hr := run_makeSlice (P := P) w t e i v hd hi hv k k' (c : Int) (c : Int) (by omega) (by omega) (by rw [Int.toNat_natCast, hsz]; exact hsm) (by rw [hbz, ← Int.natCast_mul]; omega) (by omega)
  rw [Int.toNat_natCast] at hr
  have hzc := fun R' => (hR R' n).cells
  have hvl := (hzc R).length
  simp only [Array.length_toList] at hvl
  have hini : ∀ R', VRL R' n (repL (cellsA z) c) (madeCells v.cells (c * i.size)).toList := fun R' => by
    refine VRL.of (by rw [Array.length_toList, size_madeCells, repL_length, hn, hsz]) fun j x hj => ?_
    have hjl : j < c * (cellsA z).length := by have := (List.getElem?_eq_some_iff.1 hj).1; rwa [repL_length] at this
    rw [repL_get _ (by omega) c j hjl] at hj
    obtain ⟨y, e1, e2⟩ := (hzc R').get hj
    refine ⟨y, ?_, e2⟩
    have hjl' : j < c * i.size := by rw [hsz, ← hn]; exact hjl
    unfold madeCells
    simp only [Array.getElem?_toList, Array.getElem?_map, Array.getElem?_range, hjl', Option.map_some, hvl]
    rw [Array.getElem?_toList] at e1
    simp [hjl', getElem!_def, e1]
  have hao : ∀ x ∈ repL (cellsA z) c, oneA x = true := fun x hx => by
    obtain ⟨j, hj, rfl⟩ := List.mem_iff_getElem.1 hx
    have hjl : j < c * (cellsA z).length := by rwa [repL_length] at hj
    have := repL_get (cellsA z) (by omega) c j hjl
    rw [List.getElem?_eq_getElem hj, List.getElem?_eq_getElem (Nat.mod_lt _ (by omega))] at this
    rw [Option.some.inj this]
    exact allOne_spec hone _ (List.getElem_mem _)
  refine ⟨.cells (madeCells v.cells (c * i.size)) e, .slice (some ⟨w.heap.size, 0, none⟩) c c, (repL (cellsA z) c).length, hr, ?_, fun R' n' b hb e1 => ?_⟩
  · have := BR.row (e := e) (hini R) hao
    simpa using this
  · simp only [VR]
    rw [e1]
    exact ⟨hb, 0, c, rfl, .inr rfl, fun _ => rfl, Nat.le_refl _, Nat.le_refl _, by unfold maxLen; omega, by rw [repL_length, hn]; omega⟩
theorem evA_sound (hE : EnvOK P E) (hT : TR R n a act) {o : Oper} {blk : Blk} {mk : Nat → AV} (h : evA E a o.op = some (blk, mk)) (w : World) :
    ∃ ob v sz, (execOp act.eval o).run P w = .ok (.value v) (w.alloc ob) ∧ BR R n sz blk ob ∧ ∀ R' n' b, b < n' → R' b = (w.heap.size, sz) → VR R' n' (mk b) v := by
  obtain ⟨d, op, ty, pos, af, gd⟩ := o
  cases op <;> simp only [evA] at h <;> try (cases h; done)
  case alloc e =>
    split at h <;> try (cases h; done)
    rename_i u hu
    split at h <;> try (cases h; done)
    rename_i z hz
    cases h1 : allOne (cellsA z) with
    | false => rw [h1] at h; cases h
    | true =>
      rw [h1, cond_true] at h
      cases h
      obtain ⟨_, _, i, hi, _, _, hzz⟩ := hE.tt e u hu
      obtain ⟨v, hv, hR⟩ := hzz z hz
      refine ⟨.cells v.cells e, .pointer (some ⟨w.heap.size, 0, none⟩), (cellsA z).length, ?_, ?_, fun R' n' b hb e1 => ?_⟩
      · simp [execOp, Instr.alloc, zeroValue, typeInfo, hi, hv, newVar, newRow]
      · have := BR.row (e := e) ((hR R n).cells) (allOne_spec h1)
        simpa using this
      · simp only [VR]; rw [e1]; exact ⟨hb, rfl⟩
  case box e x =>
    split at h <;> try (cases h; done)
    rename_i z hz
    cases h1 : allOne (cellsA z) with
    | false => rw [h1] at h; cases h
    | true =>
      rw [h1, cond_true] at h
      cases h
      have hx := opd_sound hT hz
      refine ⟨.cells (act.eval x).cells e, .pointer (some ⟨w.heap.size, 0, none⟩), (cellsA z).length, ?_, ?_, fun R' n' b hb e1 => ?_⟩
      · simp [execOp, Instr.box, newVar, newRow]
      · have := BR.row (e := e) hx.cells (allOne_spec h1)
        simpa using this
      · simp only [VR]; rw [e1]; exact ⟨hb, rfl⟩
  case makeMap t r =>
    cases r with
    | some r => cases h
    | none =>
      cases h
      refine ⟨.map #[] 0, .map (some w.heap.size), 0, ?_, ⟨#[], 0, [], rfl, .nil, by simp [Dist], by simp [VRL], by simp [VRL]⟩, fun R' n' b hb e1 => ?_⟩
      · have := run_makeMap (P := P) t w
        simp [execOp, Sem.run_bind, this]
      · simp only [VR]; rw [e1]; exact ⟨hb, rfl⟩
  case buildSlice t len ps =>
    split at h <;> try (cases h; done)
    rename_i u hu
    split at h <;> try (cases h; done)
    rename_i e hk
    split at h <;> try (cases h; done)
    rename_i ue hue
    split at h <;> try (cases h; done)
    rename_i z hz
    split at h <;> try (cases h; done)
    rename_i ps' hps
    cases hb : (Nat.beq (cellsA z).length ue.size && Nat.blt 0 ue.size && Nat.ble (len * ue.size) 16777216) with
    | false => rw [hb] at h; cases h
    | true =>
      rw [hb, cond_true] at h
      rw [Bool.and_eq_true, Bool.and_eq_true] at hb
      split at h <;> try (cases h; done)
      rename_i cs hf
      cases hb2 : (allOne cs && Nat.beq cs.length (len * ue.size)) with
      | false => rw [hb2] at h; cases h
      | true =>
        rw [hb2, cond_true] at h
        cases h
        rw [Bool.and_eq_true] at hb2
        obtain ⟨h1, h2⟩ := parts_sound hT hps
        have q1 : (cellsA z).length = ue.size := nbeq_of hb.1.1
        have q2 : 0 < ue.size := nblt_of hb.1.2
        have q3 : len * ue.size ≤ 16777216 := nble_of hb.2
        have q4 : cs.length = len * ue.size := nbeq_of hb2.2
        have g1 : (ps.map fun (i, x) => (i, act.eval x)).toList.map Prod.fst = ps'.map Prod.fst := by simpa using h1
        have g2 : VRL R n (ps'.map Prod.snd) ((ps.map fun (i, x) => (i, act.eval x)).toList.map Prod.snd) := by simpa using h2
        obtain ⟨ob, v, sz, w1, w2, w3⟩ := newBuildSlice (w := w) hE hu hk hue hz q1 q2 q3 g1 g2 hf hb2.1 q4
        exact ⟨ob, v, sz, by simp [execOp, Sem.run_bind, w1], w2, w3⟩
  case makeSlice t l c =>
    split at h <;> try (cases h; done)
    rename_i k1 j1 hl
    split at h <;> try (cases h; done)
    rename_i k2 j2 hc
    split at h <;> try (cases h; done)
    rename_i u hu
    split at h <;> try (cases h; done)
    rename_i e hk
    split at h <;> try (cases h; done)
    rename_i ue hue
    split at h <;> try (cases h; done)
    rename_i z hz
    cases hb : (Nat.beq j1 j2 && Nat.beq (cellsA z).length ue.size && Nat.blt 0 ue.size && Nat.ble (j1 * ue.size) 16777216 && Nat.ble (ue.bytes * j1) 281474976710656 && allOne (cellsA z)) with
    | false => rw [hb] at h; cases h
    | true =>
      rw [hb, cond_true] at h
      cases h
      simp only [Bool.and_eq_true] at hb
      obtain ⟨⟨⟨⟨⟨b1, b2⟩, b3⟩, b4⟩, b5⟩, b6⟩ := hb
      have b1 := nbeq_of b1
      subst b1
      have hlv := opd_sound hT hl
      have hcv := opd_sound hT hc
      simp only [VR] at hlv hcv
      obtain ⟨ob, v, sz, w1, w2, w3⟩ := newMakeSlice (R := R) (n := n) (w := w) hE hu hk hue hz (nbeq_of b2) (nblt_of b3) (nble_of b4) (nble_of b5) b6 k1 k2
      exact ⟨ob, v, sz, by simp [execOp, Sem.run_bind, hlv, hcv] at w1 ⊢; simp [w1], w2, w3⟩
/-- k is to be done ahead of i. -/
inductive Before (ops : Array Oper) : Nat → Nat → Prop where
  | edge {i : Nat} {o : Oper} {e : Edge} : ops[i]? = some o → e ∈ o.after → Region.binds .any e = true → Before ops e.on i
  | step {i k : Nat} {o : Oper} {e : Edge} : ops[i]? = some o → e ∈ o.after → Region.binds .any e = true → Before ops k e.on → Before ops k i
/-- What has been done is closed. -/
def Closed (ops : Array Oper) (listed : Array Bool) : Prop := ∀ i k, listed[i]? = some true → Before ops k i → listed[k]? = some true
end
end
end Go.Proofs.YtbioklhoolkhkadGreatDoor
namespace Go.Proofs.YtbioklhoolkhkadGreatDoor
set_option linter.unusedVariables false
set_option linter.unusedSimpArgs false
set_option linter.unusedSectionVars false
open Go Go.RowKit
noncomputable section

section
variable {P : Program} {E : Env} {fr : Nat → Option Obj} {R : Nat → Nat × Nat} {n : Nat} {a a' : Tree AV} {s : St} {act : Act} {w0 w : World}
def frDel (fr : Nat → Option Obj) (D : Nat) : Nat → Option Obj := fun k => if k = D then none else fr k
def rAdd (R : Nat → Nat × Nat) (b : Nat) (x : Nat × Nat) : Nat → Nat × Nat := fun c => if c = b then x else R c
theorem rAdd_ext (R : Nat → Nat × Nat) (b : Nat) (x : Nat × Nat) : Ext b R (rAdd R b x) := fun c hc => if_neg (by omega)
/-- A block of the frame gets its number. -/
theorem HR.commit (h : HR fr R s w0 w) {D sz : Nat} {o : Obj} {blk : Blk} (hD : fr D = some o) (hb : BR (rAdd R s.nx (D, sz)) (s.nx + 1) sz blk o) :
    HR (frDel fr D) (rAdd R s.nx (D, sz)) (s.new blk) w0 w := by
  have hg : ∀ b, (s.new blk).h.get b = if b = s.nx then some blk else s.h.get b := fun b => Tree.get_set _ _ _ _
  have hne : ∀ b, s.h.get b ≠ none → (R b).1 ≠ D := fun b hb' e => by
    cases hx : s.h.get b with
    | none => exact hb' hx
    | some x =>
      have := (h.own b x hx).1
      rw [e, hD] at this
      cases this
  refine ⟨h.os, h.tape, h.output, fun k o' hk => ?_, fun b hb' => ?_, fun b y hy => ?_, fun b c hb' hc' e => ?_⟩
  · unfold frDel at hk
    by_cases e : k = D
    · rw [if_pos e] at hk; cases hk
    · rw [if_neg e] at hk; exact h.fr k o' hk
  · rw [hg] at hb'
    show b < s.nx + 1
    by_cases e : b = s.nx
    · omega
    · rw [if_neg e] at hb'; have := h.lt b hb'; omega
  · rw [hg] at hy
    by_cases e : b = s.nx
    · subst e
      rw [if_pos rfl] at hy
      cases hy
      simp only [rAdd, if_true]
      exact ⟨if_pos rfl, o, h.fr D o hD, hb⟩
    · rw [if_neg e] at hy
      obtain ⟨h1, o', h2, h3⟩ := h.own b y hy
      have hRb : rAdd R s.nx (D, sz) b = R b := if_neg e
      rw [hRb]
      refine ⟨?_, o', h2, BR.mono h3 (Nat.le_succ _) (rAdd_ext R s.nx (D, sz))⟩
      unfold frDel
      by_cases e2 : (R b).1 = D
      · exact if_pos e2
      · rw [if_neg e2]; exact h1
  · rw [hg] at hb' hc'
    by_cases eb : b = s.nx
    · by_cases ec : c = s.nx
      · rw [eb, ec]
      · rw [if_neg ec] at hc'
        simp only [rAdd, if_pos eb, if_neg ec] at e
        exact absurd e.symm (hne c hc')
    · rw [if_neg eb] at hb'
      by_cases ec : c = s.nx
      · simp only [rAdd, if_neg eb, if_pos ec] at e
        exact absurd e (hne b hb')
      · rw [if_neg ec] at hc'
        simp only [rAdd, if_neg eb, if_neg ec] at e
        exact h.inj b c hb' hc' e
theorem HR.wide (h : HR fr R s w0 w) {R' : Nat → Nat × Nat} {n' : Nat} (hE : Ext s.nx R R') (hn : s.nx ≤ n') : HR fr R' ⟨s.h, n'⟩ w0 w := by
  have hR : ∀ b x, s.h.get b = some x → R' b = R b := fun b x hx => hE b (h.lt b (by rw [hx]; simp))
  refine ⟨h.os, h.tape, h.output, h.fr, fun b hb => Nat.lt_of_lt_of_le (h.lt b hb) hn, fun b x hx => ?_, fun b c hb hc e => ?_⟩
  · rw [hR b x hx]
    obtain ⟨h1, o, h2, h3⟩ := h.own b x hx
    exact ⟨h1, o, h2, h3.mono hn hE⟩
  · have hb' := hE b (h.lt b hb)
    have hc' := hE c (h.lt c hc)
    rw [hb', hc'] at e
    exact h.inj b c hb hc e
/-- Only these temporaries. -/
def pickT (a : Tree AV) : List Nat → Tree AV
  | [] => .leaf
  | t :: l => (pickT a l).set t (a.get t)
theorem pickT_get (a : Tree AV) : ∀ (l : List Nat) (t : Nat), (pickT a l).get t = if t ∈ l then a.get t else none
  | [], t => by simp [pickT, Tree.get_leaf]
  | u :: l, t => by
    simp only [pickT]
    rw [Tree.get_set]
    by_cases e : t = u
    · subst e; simp
    · rw [if_neg e, pickT_get a l t]; simp [e]
theorem TR.pick {l : List Nat} (h : ∀ t ∈ l, ∀ x, a.get t = some x → ∃ v, act.tmps[t]? = some v ∧ VR R n x v) : TR R n (pickT a l) act := fun t x hx => by
  rw [pickT_get] at hx
  by_cases e : t ∈ l
  · rw [if_pos e] at hx; exact h t e x hx
  · rw [if_neg e] at hx; cases hx
def tmpsOf (l : List Operand) : List Nat := l.filterMap fun
  | .tmp t => some t
  | _ => none
theorem opd_pick {l : List Operand} {x : Operand} (hx : x ∈ l) : opd (pickT a (tmpsOf l)) x = opd a x := by
  cases x <;> simp only [opd]
  case tmp t =>
    rw [pickT_get, if_pos]
    exact List.mem_filterMap.2 ⟨.tmp t, hx, rfl⟩
theorem evO_congr {call : CallF} {o : Oper} (h : ∀ x ∈ o.op.operands, opd a x = opd a' x) : evO E call a s o = evO E call a' s o := by
  unfold evO
  cases ho : o.op with
  | call c =>
    rw [ho] at h
    have h1 : mapO (opd a) c.args.toList = mapO (opd a') c.args.toList := mapO_congr fun y hy => h y (by
      simp only [Op.operands, Call.operands]
      have := Array.mem_toList_iff.1 hy
      cases c.callee <;> simp [this])
    simp only [h1]
    cases hc : c.callee with
    | value f =>
      have h2 : opd a f = opd a' f := h f (by simp [Op.operands, Call.operands, hc])
      simp only [h2]
    | _ => rfl
  | convert src dst x =>
    rw [ho] at h
    have h1 : opd a x = opd a' x := h x (by simp [Op.operands])
    have h2 : evOp E a s (.convert src dst x) = evOp E a' s (.convert src dst x) := evOp_congr h
    simp only [convA, h1, h2]
  | _ => rw [ho] at h; exact evOp_congr h
end
end
end Go.Proofs.YtbioklhoolkhkadGreatDoor
namespace Go.Proofs.YtbioklhoolkhkadGreatDoor
set_option linter.unusedVariables false
set_option linter.unusedSimpArgs false
set_option linter.unusedSectionVars false
open Go Go.RowKit
noncomputable section

def maskA (t : Tree Nat) : List Edge → Nat
  | [] => 0
  | e :: l => bif Region.binds .any e then (match t.get e.on with
    | some m => Nat.lor (Nat.lor (Nat.shiftLeft 1 e.on) m) (maskA t l)
    | none => Nat.lor (Nat.shiftLeft 1 e.on) (maskA t l)) else maskA t l
/-- What each operation waits for, by way of others too: bit masks. -/
def closM : List Oper → Nat → Tree Nat → Tree Nat
  | [], _, t => t
  | o :: l, i, t => closM l (i + 1) (t.set i (some (maskA t o.after.toList)))
def subM (m m' : Nat) : Bool := Nat.beq (Nat.lor m m') m'
/-- Where the evaluation of a region stands. hist: the stages' heaps, the newest first, each with the operation that began it. -/
structure DSt where
  a : Tree AV
  s : St
  done : Nat
  hist : List (Option Nat × Tree Blk)
/-- Does it make a value out of values and of what lies in blocks? -/
def isRC : Op → Bool
  | .call c => match c.callee with
    | .builtin .len => true
    | .builtin .max => true
    | .builtin .min => true
    | _ => false
  | op => isR op
def evR (E : Env) (a : Tree AV) (h : Tree Blk) : Op → Option AV
  | .call c => match mapO (opd a) c.args.toList with
    | none => none
    | some xs => match c.callee with
      | .builtin b => match evB E ⟨h, 0⟩ b c.argTypes.toList xs with
        | some (some x, _) => some x
        | _ => none
      | _ => none
  | op => match evOp E a ⟨h, 0⟩ op with
    | some (some x, _) => some x
    | _ => none
/-- The same value at each stage at which it may be done. -/
def sameA (E : Env) (a : Tree AV) (op : Op) (m : Nat) (x : AV) : List (Option Nat × Tree Blk) → Bool
  | [] => true
  | (c, h) :: l => match evR E a h op with
    | some y => bif eqV x y then (match c with
      | none => true
      | some c => bif m.testBit c then true else sameA E a op m x l) else false
    | none => false
def firstA (E : Env) (a : Tree AV) (op : Op) (m : Nat) : List (Option Nat × Tree Blk) → Option AV
  | [] => none
  | (c, h) :: l => match evR E a h op with
    | some x => match c with
      | none => some x
      | some c => bif m.testBit c then some x else bif sameA E a op m x l then some x else none
    | none => none
/-- The operation that makes a temporary. -/
def dstAt (t : Nat) : List Oper → Nat → Option Nat
  | [], _ => none
  | o :: l, i => match o.dst with
    | some d => bif Nat.beq d t then some i else dstAt t l (i + 1)
    | none => dstAt t l (i + 1)
/-- The map that an operation fills, if it is made in this region. -/
def insTo (ops : List Oper) (o : Oper) : Option Nat := match o.op with
  | .insert _ (.tmp t) _ _ => match dstAt t ops 0 with
    | some i => match nthL ops i with
      | some oi => match oi.op with
        | .makeMap _ none => some i
        | _ => none
      | none => none
    | none => none
  | _ => none
def notT (t : Nat) : Operand → Bool
  | .tmp u => !Nat.beq u t
  | _ => true
/-- What an insert puts into the map that operation i makes (as temporary t). -/
def insOne (E : Env) (cl : Tree Nat) (dn i t : Nat) (a : Tree AV) (j : Nat) (o : Oper) (ty : TypeId) (k v : Operand) : Option (AV × AV) := match o.guard with
  | some _ => none
  | none => match o.dst with
    | some _ => none
    | none => match cl.get j with
      | none => none
      | some m => bif m.testBit i && subM m (Nat.lor dn (Nat.shiftLeft 1 i)) && notT t k && notT t v then (match opd a k with
        | none => none
        | some x => match opd a v with
          | none => none
          | some y => match E.tt.get ty with
            | none => none
            | some u => match u.k with
              | .map kt _ => match E.tt.get kt with
                | some uk => bif keyK uk.k x && evOp.oneOrAgg y then some (x, y) else none
                | none => none
              | _ => none) else none
def insA (E : Env) (cl : Tree Nat) (dn i t : Nat) (a : Tree AV) : List Oper → Nat → Option (List (Nat × AV × AV))
  | [], _ => some []
  | o :: l, j => match o.op with
    | .insert ty (.tmp u) k v => bif Nat.beq u t then (match insOne E cl dn i t a j o ty k v with
      | none => none
      | some e => match insA E cl dn i t a l (j + 1) with
        | none => none
        | some r => some ((j, e) :: r)) else insA E cl dn i t a l (j + 1)
    | _ => insA E cl dn i t a l (j + 1)
def distA : List (AV × AV) → Bool
  | [] => true
  | e :: l => match lookM e.1 l with
    | some none => distA l
    | _ => false
/-- All that will be put into a new map in this region. -/
def entsA (E : Env) (cl : Tree Nat) (dn i : Nat) (a : Tree AV) (ops : List Oper) (blk : Blk) (dst : Option Tmp) : Option (List (Nat × AV × AV)) := match blk with
  | .map _ => match dst with
    | some t => match insA E cl dn i t a ops 0 with
      | some l => bif distA (l.map Prod.snd) then some l else none
      | none => none
    | none => some []
  | _ => some []
def fillB (blk : Blk) (l : List (Nat × AV × AV)) : Blk := match blk with
  | .map _ => .map (l.map Prod.snd)
  | b => b
/-- All that goes into the maps that have been made is there. -/
def fillsOK (ops : List Oper) (dn : Nat) : List Oper → Nat → Bool
  | [], _ => true
  | o :: l, j => match insTo ops o with
    | some i => bif dn.testBit i then (bif dn.testBit j then fillsOK ops dn l (j + 1) else false) else fillsOK ops dn l (j + 1)
    | none => fillsOK ops dn l (j + 1)
def dNext (d : DSt) (i : Nat) (a : Tree AV) (s : St) (hist : List (Option Nat × Tree Blk)) : DSt := ⟨a, s, Nat.lor d.done (Nat.shiftLeft 1 i), hist⟩
def stepSkip (nt : Nat) (i : Nat) (d : DSt) (o : Oper) (m : Nat) : Option DSt := bif subM m d.done then (match putA nt d.a o.dst (.tup []) with
  | some a => some (dNext d i a d.s d.hist)
  | none => none) else none
def stepIns (nt : Nat) (i : Nat) (d : DSt) (o : Oper) (m i' : Nat) : Option DSt := bif subM m d.done && m.testBit i' then (match o.op with
  | .insert _ (.tmp t) _ _ => match d.a.get t with
    | some (.m _) => match putA nt d.a o.dst (.tup []) with
      | some a => some (dNext d i a d.s d.hist)
      | none => none
    | _ => none
  | _ => none) else none
def stepRead (E : Env) (nt : Nat) (i : Nat) (d : DSt) (o : Oper) (m : Nat) : Option DSt := bif subM m d.done then (match firstA E d.a o.op m d.hist with
  | some x => match putA nt d.a o.dst x with
    | some a => some (dNext d i a d.s d.hist)
    | none => none
  | none => none) else none
def stepNew (E : Env) (nt : Nat) (ops : List Oper) (cl : Tree Nat) (i : Nat) (d : DSt) (o : Oper) (m : Nat) (r : Blk × (Nat → AV)) : Option DSt := bif subM m d.done then (match entsA E cl d.done i d.a ops r.1 o.dst with
  | some ents => match putA nt d.a o.dst (r.2 d.s.nx) with
    | some a => some (dNext d i a (d.s.new (fillB r.1 ents)) d.hist)
    | none => none
  | none => none) else none
def stepAct (E : Env) (call : CallF) (nt : Nat) (ops : List Oper) (i : Nat) (d : DSt) (o : Oper) (m : Nat) : Option DSt := bif Nat.beq m d.done && fillsOK ops d.done ops 0 then (match evO E call d.a d.s o with
  | some r => bif Nat.ble d.s.nx r.2.nx then (match putA nt d.a o.dst (valA r.1) with
    | some a => some (dNext d i a r.2 ((some i, r.2.h) :: d.hist))
    | none => none) else none
  | none => none) else none
def stepC (E : Env) (call : CallF) (nt : Nat) (ops : List Oper) (cl : Tree Nat) (i : Nat) (d : DSt) : Option DSt := match nthL ops i with
  | none => none
  | some o => match cl.get i with
    | none => none
    | some m => bif d.done.testBit i then none else match guardA ops d.a o.guard with
      | none => none
      | some false => stepSkip nt i d o m
      | some true => match insTo ops o with
        | some i' => stepIns nt i d o m i'
        | none => bif isRC o.op then stepRead E nt i d o m else match evA E d.a o.op with
          | some r => stepNew E nt ops cl i d o m r
          | none => stepAct E call nt ops i d o m
def runC (E : Env) (call : CallF) (nt : Nat) (ops : List Oper) (cl : Tree Nat) : List Nat → DSt → Option DSt
  | [], d => some d
  | i :: l, d => match stepC E call nt ops cl i d with
    | some d => runC E call nt ops cl l d
    | none => none
def isAop : Op → Bool
  | .alloc _ => true
  | .box _ _ => true
  | .makeMap _ _ => true
  | .buildSlice _ _ _ => true
  | .makeSlice _ _ _ => true
  | _ => false
/-- The bits of m below n that are not in d. -/
def bitsA (m d : Nat) : Nat → Nat → List Nat
  | 0, _ => []
  | k + 1, i => bif m.testBit i then (bif d.testBit i then bitsA m d k (i + 1) else i :: bitsA m d k (i + 1)) else bitsA m d k (i + 1)
/-- The map-filling operations of a region: which map, and which operation. -/
def insL (ops : List Oper) : List Oper → Nat → List (Nat × Nat)
  | [], _ => []
  | o :: l, j => match insTo ops o with
    | some i => (i, j) :: insL ops l (j + 1)
    | none => insL ops l (j + 1)
/-- What is to be done ahead of operation i: for a map, what all its entries need. -/
def preA (cl : Tree Nat) (i : Nat) : List (Nat × Nat) → Nat → Nat
  | [], m => m
  | (i', j) :: l, m => bif Nat.beq i' i then preA cl i l (Nat.lor m (match cl.get j with
    | some mj => mj
    | none => 0)) else preA cl i l m
/-- Those of a list that may be done, in order; and the others. -/
def passA (cl : Tree Nat) (ins : List (Nat × Nat)) : List Nat → Nat → List Nat → List Nat × List Nat × Nat
  | [], d, rest => ([], rest.reverse, d)
  | i :: l, d, rest => match cl.get i with
    | some m => bif subM (preA cl i ins m) (Nat.lor d (Nat.shiftLeft 1 i)) then (match passA cl ins l (Nat.lor d (Nat.shiftLeft 1 i)) rest with
        | (x, y, z) => (i :: x, y, z)) else passA cl ins l d (i :: rest)
    | none => passA cl ins l d (i :: rest)
def sortA (cl : Tree Nat) (ins : List (Nat × Nat)) : Nat → List Nat → Nat → List Nat
  | 0, l, _ => l
  | n + 1, l, d => match passA cl ins l d [] with
    | (x, [], _) => x
    | (x, y :: ys, z) => x ++ sortA cl ins n (y :: ys) z
def batchA (cl : Tree Nat) (ins : List (Nat × Nat)) (n : Nat) (l : List Nat) (d : Nat) : List Nat := match ins with
  | [] => l
  | _ => sortA cl ins n l d
/-- The order: each call, store or the like as soon as may be, what it waits for right ahead of it. -/
def ordA (n : Nat) (cl : Tree Nat) (ins : List (Nat × Nat)) (ops : List Oper) : List Oper → Nat → Nat → List Nat
  | [], _, d => batchA cl ins n (bitsA (Nat.shiftLeft 1 n - 1) d n 0) d
  | o :: l, i, d => bif isRC o.op then ordA n cl ins ops l (i + 1) d else bif isAop o.op then ordA n cl ins ops l (i + 1) d else match insTo ops o with
    | some _ => ordA n cl ins ops l (i + 1) d
    | none => match cl.get i with
      | none => []
      | some m => batchA cl ins n (bitsA m d n 0) d ++ i :: ordA n cl ins ops l (i + 1) (Nat.lor d (Nat.lor m (Nat.shiftLeft 1 i)))
def seesOK (ops : List Oper) (cl : Tree Nat) (i m : Nat) : List Nat → Bool
  | [] => true
  | t :: l => bif (match dstAt t ops 0 with
    | none => true
    | some k => bif m.testBit k then true else match cl.get k with
      | some mk => mk.testBit i
      | none => false) then seesOK ops cl i m l else false
def freshDst (o : Oper) (l : List Oper) : Bool := match o.dst with
  | none => true
  | some d => match dstAt d l 0 with
    | none => true
    | some _ => false
/-- Each temporary is made once; what an operation looks at is made ahead of it, or behind it. -/
def statOK (ops : List Oper) (cl : Tree Nat) : List Oper → Nat → Bool
  | [], _ => true
  | o :: l, i => bif freshDst o l then (match cl.get i with
    | none => false
    | some m => bif seesOK ops cl i m (tmpsOf o.op.operands.toList) then (bif (match o.guard with
      | none => true
      | some (g, _) => match nthL ops g with
        | none => true
        | some og => m.testBit g) then statOK ops cl l (i + 1) else false) else false) else false
def drawA (E : Env) : Draw := fun call nt ops a s =>
  let cl := closM ops 0 .leaf
  bif statOK ops cl ops 0 then (match runC E call nt ops cl (ordA ops.length cl (insL ops ops 0) ops ops 0 0) ⟨a, s, 0, [(none, s.h)]⟩ with
    | some d => bif Nat.beq d.done (Nat.shiftLeft 1 ops.length - 1) then some (d.a, d.s) else none
    | none => none) else none
end
end Go.Proofs.YtbioklhoolkhkadGreatDoor
