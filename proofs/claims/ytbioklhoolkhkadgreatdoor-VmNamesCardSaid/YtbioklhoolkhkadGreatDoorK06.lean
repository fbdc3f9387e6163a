/- An evaluator of closed calls: the masks say what waits for what; what may come up next. No program in sight. An evaluator of closed calls: what one step of a drawn region's evaluation is. No program in sight. An evaluator of closed calls: reads, at whatever stage they come. No program in sight. An evaluator of closed calls: what the types are, read off the program. No program in sight. An evaluator of closed calls: where a step comes in a drawn region's evaluation. No program in sight. An evaluator of closed calls: maps that are made and filled in one drawn region. No program in sight. An evaluator of closed calls: what holds in every order of a drawn region. No program in sight. An evaluator of closed calls: numbers for held blocks. No program in sight. An evaluator of closed calls: a read or a skipped operation, in every order. No program in sight. -/
import Derived.Test.YtbioklhoolkhkadGreatDoorK05
import Derived.Laws.StructEq
import Derived.ChangeKeysEq
namespace Go.Proofs.YtbioklhoolkhkadGreatDoor
set_option linter.unusedVariables false
set_option linter.unusedSimpArgs false
set_option linter.unusedSectionVars false
open Go Go.RowKit
noncomputable section

theorem bit_lor (m m' k : Nat) : (Nat.lor m m').testBit k = (m.testBit k || m'.testBit k) := Nat.testBit_or m m' k
theorem bit_one (i k : Nat) : (Nat.shiftLeft 1 i).testBit k = decide (i = k) := by
  show (1 <<< i).testBit k = _
  rw [Nat.shiftLeft_eq, Nat.one_mul, Nat.testBit_two_pow]
theorem subM_of {m m' : Nat} (h : subM m m' = true) {k : Nat} (hk : m.testBit k = true) : m'.testBit k = true := by
  have := nbeq_of h
  rw [← this, bit_lor, hk]
  rfl
theorem bit_add (d i k : Nat) : (Nat.lor d (Nat.shiftLeft 1 i)).testBit k = (d.testBit k || decide (i = k)) := by rw [bit_lor, bit_one]
section
variable {ops : Array Oper}
/-- The masks are true. -/
def MaskOK (ops : Array Oper) (t : Tree Nat) : Prop := ∀ i m, t.get i = some m → ∀ k, m.testBit k = true → Before ops k i
theorem maskA_sound {t : Tree Nat} (ht : MaskOK ops t) : ∀ (l : List Edge) {k : Nat}, (maskA t l).testBit k = true → ∃ e ∈ l, Region.binds .any e = true ∧ (k = e.on ∨ Before ops k e.on)
  | [], k, h => by simp [maskA] at h
  | e :: l, k, h => by
    unfold maskA at h
    cases hb : Region.binds .any e with
    | false =>
      rw [hb, cond_false] at h
      obtain ⟨e', h1, h2⟩ := maskA_sound ht l h
      exact ⟨e', .tail _ h1, h2⟩
    | true =>
      rw [hb, cond_true] at h
      cases hm : t.get e.on with
      | none =>
        rw [hm] at h
        simp only at h
        rw [bit_lor, bit_one, Bool.or_eq_true] at h
        rcases h with h | h
        · exact ⟨e, .head _, hb, .inl (of_decide_eq_true h).symm⟩
        · obtain ⟨e', h1, h2⟩ := maskA_sound ht l h
          exact ⟨e', .tail _ h1, h2⟩
      | some m =>
        rw [hm] at h
        simp only at h
        rw [bit_lor, bit_lor, bit_one, Bool.or_eq_true, Bool.or_eq_true] at h
        rcases h with (h | h) | h
        · exact ⟨e, .head _, hb, .inl (of_decide_eq_true h).symm⟩
        · exact ⟨e, .head _, hb, .inr (ht _ _ hm _ h)⟩
        · obtain ⟨e', h1, h2⟩ := maskA_sound ht l h
          exact ⟨e', .tail _ h1, h2⟩
theorem closM_sound : ∀ (l : List Oper) (i : Nat) (t : Tree Nat), ops.toList.drop i = l → MaskOK ops t → MaskOK ops (closM l i t)
  | [], i, t, _, ht => ht
  | o :: l, i, t, hl, ht => by
    have ho : ops[i]? = some o := by
      have := congrArg (fun l => l[0]?) hl
      simpa using this
    refine closM_sound l (i + 1) _ (by rw [show i + 1 = 1 + i from Nat.add_comm _ _, Nat.add_comm, ← List.drop_drop, hl]; rfl) fun j m hj k hk => ?_
    rw [Tree.get_set] at hj
    by_cases e : j = i
    · rw [if_pos e] at hj
      cases hj
      subst e
      obtain ⟨e', h1, h2, h3⟩ := maskA_sound ht _ hk
      have h1 := Array.mem_toList_iff.1 h1
      rcases h3 with rfl | h3
      · exact .edge ho h1 h2
      · exact .step ho h1 h2 h3
    · rw [if_neg e] at hj
      exact ht j m hj k hk
theorem closM_ok (ops : Array Oper) : MaskOK ops (closM ops.toList 0 .leaf) := closM_sound _ 0 _ rfl fun i m h => by rw [Tree.get_leaf] at h; cases h
/-- Each thing directly waited for is in the mask. -/
def MaskAll (ops : Array Oper) (t : Tree Nat) : Prop := ∀ i m o, t.get i = some m → ops[i]? = some o → ∀ e ∈ o.after, Region.binds .any e = true → m.testBit e.on = true
theorem maskA_all {t : Tree Nat} : ∀ (l : List Edge) {e : Edge}, e ∈ l → Region.binds .any e = true → (maskA t l).testBit e.on = true
  | [], e, h, _ => by cases h
  | e' :: l, e, h, hb => by
    unfold maskA
    cases hb' : Region.binds .any e' with
    | false =>
      rw [cond_false]
      rcases List.mem_cons.1 h with rfl | h
      · rw [hb] at hb'; cases hb'
      · exact maskA_all l h hb
    | true =>
      rw [cond_true]
      have key : ∀ x : Nat, ((Nat.lor (Nat.shiftLeft 1 e'.on) x).testBit e.on = true ∨ e ≠ e') := fun x => by
        by_cases he : e = e'
        · left; rw [he, bit_lor, bit_one]; simp
        · exact .inr he
      rcases List.mem_cons.1 h with rfl | h
      · cases hm : t.get e.on with
        | none =>
          simp only
          rw [bit_lor, bit_one]
          simp
        | some m =>
          simp only
          rw [bit_lor, bit_lor, bit_one]
          simp
      · have := maskA_all (t := t) l h hb
        cases hm : t.get e'.on with
        | none =>
          simp only
          rw [bit_lor, this, Bool.or_true]
        | some m =>
          simp only
          rw [bit_lor, this, Bool.or_true]
theorem closM_all' : ∀ (l : List Oper) (i : Nat) (t : Tree Nat), ops.toList.drop i = l → MaskAll ops t → MaskAll ops (closM l i t)
  | [], i, t, _, ht => ht
  | o :: l, i, t, hl, ht => by
    have ho : ops[i]? = some o := by
      have := congrArg (fun l => l[0]?) hl
      simpa using this
    refine closM_all' l (i + 1) _ (by rw [show i + 1 = 1 + i from Nat.add_comm _ _, Nat.add_comm, ← List.drop_drop, hl]; rfl) fun j m o' hj ho' e he hb => ?_
    rw [Tree.get_set] at hj
    by_cases ej : j = i
    · rw [if_pos ej] at hj
      cases hj
      subst ej
      rw [ho] at ho'
      cases ho'
      exact maskA_all _ (Array.mem_toList_iff.2 he) hb
    · rw [if_neg ej] at hj
      exact ht j m o' hj ho' e he hb
theorem closM_all (ops : Array Oper) : MaskAll ops (closM ops.toList 0 .leaf) := closM_all' _ 0 _ rfl fun i m o h => by rw [Tree.get_leaf] at h; cases h
theorem getD_some {listed : Array Bool} {i : Nat} {d : Bool} (h : listed.getD i d ≠ d) : listed[i]? = some (!d) := by
  rw [Array.getD_eq_getD_getElem?] at h
  cases hx : listed[i]? with
  | none => rw [hx] at h; exact absurd rfl h
  | some b => rw [hx] at h; cases b <;> cases d <;> first | rfl | exact absurd rfl h
/-- What may come up next has all ahead of it behind it. -/
theorem ready_before {listed : Array Bool} (hc : Closed ops listed) {i : Nat} (hr : i ∈ Region.ready .any ops listed) {k : Nat} (hb : Before ops k i) : listed[k]? = some true := by
  obtain ⟨_, o, ho, he⟩ := mem_ready.1 hr
  cases hb with
  | edge ho' h1 h2 =>
    rw [ho] at ho'
    cases ho'
    exact getD_some (d := false) (by rw [he _ h1 h2]; simp)
  | step ho' h1 h2 h3 =>
    rw [ho] at ho'
    cases ho'
    exact hc _ _ (getD_some (d := false) (by rw [he _ h1 h2]; simp)) h3
theorem ready_not {listed : Array Bool} {i : Nat} (hr : i ∈ Region.ready .any ops listed) : listed[i]? = some false := getD_some (d := true) (by rw [(mem_ready.1 hr).1]; simp)
theorem ready_op {listed : Array Bool} {i : Nat} (hr : i ∈ Region.ready .any ops listed) : ∃ o, ops[i]? = some o := ⟨_, (mem_ready.1 hr).2.choose_spec.1⟩
theorem list_get {listed : Array Bool} {i : Nat} (hi : listed[i]? = some false) (k : Nat) : (listed.setIfInBounds i true)[k]? = if k = i then some true else listed[k]? := by
  by_cases e : k = i
  · subst e
    have hl := (Array.getElem?_eq_some_iff.1 hi).1
    rw [if_pos rfl]
    simp [hl]
  · rw [if_neg e, Array.getElem?_setIfInBounds_ne (Ne.symm e)]
theorem Closed.add {listed : Array Bool} (hc : Closed ops listed) {i : Nat} (hr : i ∈ Region.ready .any ops listed) : Closed ops (listed.setIfInBounds i true) := fun j k hj hb => by
  have hi := ready_not hr
  rw [list_get hi] at hj ⊢
  by_cases ek : k = i
  · rw [if_pos ek]
  · rw [if_neg ek]
    by_cases ej : j = i
    · rw [ej] at hb; exact ready_before hc hr hb
    · rw [if_neg ej] at hj; exact hc j k hj hb
end
end
end Go.Proofs.YtbioklhoolkhkadGreatDoor
namespace Go.Proofs.YtbioklhoolkhkadGreatDoor
set_option linter.unusedVariables false
set_option linter.unusedSimpArgs false
set_option linter.unusedSectionVars false
open Go Go.RowKit
noncomputable section

/-- One step, by its kind. -/
inductive StepK (E : Env) (call : CallF) (nt : Nat) (ops : List Oper) (cl : Tree Nat) (i : Nat) (d : DSt) : DSt → Prop where
  | skip {o : Oper} {m : Nat} {a : Tree AV} : ops[i]? = some o → cl.get i = some m → d.done.testBit i = false → guardA ops d.a o.guard = some false → (∀ k, m.testBit k = true → d.done.testBit k = true) → putA nt d.a o.dst (.tup []) = some a →
    StepK E call nt ops cl i d ⟨a, d.s, Nat.lor d.done (Nat.shiftLeft 1 i), d.hist⟩
  | read {o : Oper} {m : Nat} {x : AV} {a : Tree AV} : ops[i]? = some o → cl.get i = some m → d.done.testBit i = false → guardA ops d.a o.guard = some true → (∀ k, m.testBit k = true → d.done.testBit k = true) → isRC o.op = true → firstA E d.a o.op m d.hist = some x → putA nt d.a o.dst x = some a →
    StepK E call nt ops cl i d ⟨a, d.s, Nat.lor d.done (Nat.shiftLeft 1 i), d.hist⟩
  | new {o : Oper} {m : Nat} {blk : Blk} {mk : Nat → AV} {ents : List (Nat × AV × AV)} {a : Tree AV} : ops[i]? = some o → cl.get i = some m → d.done.testBit i = false → guardA ops d.a o.guard = some true → (∀ k, m.testBit k = true → d.done.testBit k = true) → insTo ops o = none → evA E d.a o.op = some (blk, mk) → entsA E cl d.done i d.a ops blk o.dst = some ents → putA nt d.a o.dst (mk d.s.nx) = some a →
    StepK E call nt ops cl i d ⟨a, d.s.new (fillB blk ents), Nat.lor d.done (Nat.shiftLeft 1 i), d.hist⟩
  | act {o : Oper} {r : Option AV} {s : St} {a : Tree AV} : ops[i]? = some o → cl.get i = some d.done → d.done.testBit i = false → guardA ops d.a o.guard = some true → insTo ops o = none → isRC o.op = false → evA E d.a o.op = none → fillsOK ops d.done ops 0 = true → evO E call d.a d.s o = some (r, s) → d.s.nx ≤ s.nx → putA nt d.a o.dst (valA r) = some a →
    StepK E call nt ops cl i d ⟨a, s, Nat.lor d.done (Nat.shiftLeft 1 i), (some i, s.h) :: d.hist⟩
  | ins {o : Oper} {m i' t b : Nat} {ty : TypeId} {k v : Operand} {a : Tree AV} : ops[i]? = some o → cl.get i = some m → d.done.testBit i = false → guardA ops d.a o.guard = some true → (∀ k, m.testBit k = true → d.done.testBit k = true) → insTo ops o = some i' → m.testBit i' = true → o.op = .insert ty (.tmp t) k v → d.a.get t = some (.m b) → putA nt d.a o.dst (.tup []) = some a →
    StepK E call nt ops cl i d ⟨a, d.s, Nat.lor d.done (Nat.shiftLeft 1 i), d.hist⟩
section
variable {E : Env} {call : CallF} {nt : Nat} {ops : List Oper} {cl : Tree Nat}
theorem stepC_inv {i : Nat} {d d' : DSt} (h : stepC E call nt ops cl i d = some d') : StepK E call nt ops cl i d d' := by
  unfold stepC at h
  split at h <;> try (cases h; done)
  rename_i o ho
  rw [nthL_eq] at ho
  split at h <;> try (cases h; done)
  rename_i m hm
  cases hd : d.done.testBit i with
  | true => rw [hd] at h; cases h
  | false =>
    rw [hd, cond_false] at h
    split at h <;> try (cases h; done)
    · rename_i hg
      unfold stepSkip at h
      cases hs : subM m d.done with
      | false => rw [hs] at h; cases h
      | true =>
        rw [hs, cond_true] at h
        split at h <;> try (cases h; done)
        rename_i a ha
        cases h
        exact .skip ho hm hd hg (fun k hk => subM_of hs hk) ha
    · rename_i hg
      cases hti : insTo ops o with
      | some i' =>
        rw [hti] at h
        simp only at h
        unfold stepIns at h
        cases hs : (subM m d.done && m.testBit i') with
        | false => rw [hs] at h; cases h
        | true =>
          rw [hs, cond_true] at h
          rw [Bool.and_eq_true] at hs
          obtain ⟨hs, hmi⟩ := hs
          split at h <;> try (cases h; done)
          rename_i ty t k v hop
          split at h <;> try (cases h; done)
          rename_i b hb
          split at h <;> try (cases h; done)
          rename_i a ha
          cases h
          exact .ins ho hm hd hg (fun k hk => subM_of hs hk) hti hmi hop hb ha
      | none =>
        rw [hti] at h
        simp only at h
        cases hr : isRC o.op with
        | true =>
          rw [hr, cond_true] at h
          unfold stepRead at h
          cases hs : subM m d.done with
          | false => rw [hs] at h; cases h
          | true =>
            rw [hs, cond_true] at h
            split at h <;> try (cases h; done)
            rename_i x hx
            split at h <;> try (cases h; done)
            rename_i a ha
            cases h
            exact .read ho hm hd hg (fun k hk => subM_of hs hk) hr hx ha
        | false =>
          rw [hr, cond_false] at h
          split at h <;> try (cases h; done)
          · rename_i r hA
            obtain ⟨blk, mk⟩ := r
            unfold stepNew at h
            cases hs : subM m d.done with
            | false => rw [hs] at h; cases h
            | true =>
              rw [hs, cond_true] at h
              split at h <;> try (cases h; done)
              rename_i ents hents
              split at h <;> try (cases h; done)
              rename_i a ha
              cases h
              exact .new ho hm hd hg (fun k hk => subM_of hs hk) hti hA hents ha
          · rename_i hA
            unfold stepAct at h
            cases hs : (Nat.beq m d.done && fillsOK ops d.done ops 0) with
            | false => rw [hs] at h; cases h
            | true =>
              rw [hs, cond_true] at h
              rw [Bool.and_eq_true] at hs
              obtain ⟨hs, hfo⟩ := hs
              have hs := nbeq_of hs
              subst hs
              split at h <;> try (cases h; done)
              rename_i r hr'
              obtain ⟨r, s⟩ := r
              cases hn : Nat.ble d.s.nx s.nx with
              | false => rw [hn] at h; cases h
              | true =>
                rw [hn, cond_true] at h
                split at h <;> try (cases h; done)
                rename_i a ha
                cases h
                exact .act ho hm hd hg hti hr hA hfo hr' (nble_of hn) ha
theorem StepK.done {i : Nat} {d d' : DSt} (h : StepK E call nt ops cl i d d') : d.done.testBit i = false ∧ ∀ k, d'.done.testBit k = (d.done.testBit k || decide (i = k)) := by
  cases h <;> exact ⟨by assumption, fun k => bit_add _ _ _⟩
theorem StepK.before {i : Nat} {d d' : DSt} (h : StepK E call nt ops cl i d d') : ∃ m, cl.get i = some m ∧ ∀ k, m.testBit k = true → d.done.testBit k = true := by
  cases h <;> first | exact ⟨_, by assumption, by assumption⟩ | exact ⟨_, by assumption, fun k hk => hk⟩
/-- In a run each is done once, and what is done stays so. -/
theorem runC_done : ∀ (l : List Nat) {d d' : DSt}, runC E call nt ops cl l d = some d' → (∀ k, d'.done.testBit k = true ↔ d.done.testBit k = true ∨ k ∈ l) ∧ l.Nodup ∧ ∀ k ∈ l, d.done.testBit k = false
  | [], d, d', h => by
    cases h
    exact ⟨fun k => by simp, List.nodup_nil, fun k hk => by cases hk⟩
  | i :: l, d, d', h => by
    simp only [runC] at h
    split at h <;> try (cases h; done)
    rename_i d1 h1
    obtain ⟨g1, g2⟩ := (stepC_inv h1).done
    obtain ⟨r1, r2, r3⟩ := runC_done l h
    have hi : i ∉ l := fun hi => by
      have := r3 i hi
      rw [g2] at this
      simp at this
    refine ⟨fun k => ?_, List.nodup_cons.2 ⟨hi, r2⟩, fun k hk => ?_⟩
    · rw [r1, g2, Bool.or_eq_true, decide_eq_true_iff, List.mem_cons]
      constructor
      · rintro ((h | h) | h)
        · exact .inl h
        · exact .inr (.inl h.symm)
        · exact .inr (.inr h)
      · rintro (h | h | h)
        · exact .inl (.inl h)
        · exact .inl (.inr h.symm)
        · exact .inr h
    · rcases List.mem_cons.1 hk with rfl | hk
      · exact g1
      · have := r3 k hk
        rw [g2, Bool.or_eq_false_iff] at this
        exact this.1
end
end
end Go.Proofs.YtbioklhoolkhkadGreatDoor
namespace Go.Proofs.YtbioklhoolkhkadGreatDoor
set_option linter.unusedVariables false
set_option linter.unusedSimpArgs false
set_option linter.unusedSectionVars false
open Go Go.RowKit
noncomputable section

section
variable {P : Program} {E : Env} {fr : Nat → Option Obj} {R : Nat → Nat × Nat} {n : Nat} {a a' : Tree AV} {h : Tree Blk} {act : Act} {w0 w : World}
theorem evR_congr {op : Op} (hc : ∀ x ∈ op.operands, opd a x = opd a' x) : evR E a h op = evR E a' h op := by
  unfold evR
  cases op with
  | call c =>
    have h1 : mapO (opd a) c.args.toList = mapO (opd a') c.args.toList := mapO_congr fun y hy => hc y (by
      simp only [Op.operands, Call.operands]
      have := Array.mem_toList_iff.1 hy
      cases c.callee <;> simp [this])
    simp only [h1]
  | _ => simp only [evOp_congr hc]
theorem evB_nx {b : Builtin} (hb : b = .len ∨ b = .max ∨ b = .min) (h : Tree Blk) (n : Nat) (ats : List TypeId) (xs : List AV) : evB E ⟨h, n⟩ b ats xs = (evB E ⟨h, 0⟩ b ats xs).map fun r => (r.1, ⟨h, n⟩) := by
  have hl : ∀ u x, lenA ⟨h, n⟩ u x = lenA ⟨h, 0⟩ u x := fun u x => rfl
  rcases hb with rfl | rfl | rfl
  · simp only [evB, eb_len, hl]
    repeat' (first | rfl | (split <;> try simp only [Option.map_none, Option.map_map]))
  · simp only [evB, eb_max, eb_min]
    repeat' (first | rfl | (split <;> try simp only [Option.map_none, Option.map_map]))
  · simp only [evB, eb_max, eb_min]
    repeat' (first | rfl | (split <;> try simp only [Option.map_none, Option.map_map]))
theorem OpRes.stay {mm : Sem Next} {x : AV} (hr : OpRes P fr R n w0 w mm (some x) ⟨h, n⟩) : ∃ v w', mm.run P w = .ok (.value v) w' ∧ HR fr R ⟨h, n⟩ w0 w' ∧ VR R n x v := by
  obtain ⟨R', w', hE, hn, hh, v, hv, hx⟩ := hr
  have hE' : Ext n R' R := fun b hb => (hE b hb).symm
  exact ⟨v, w', hv, hh.wide (s := ⟨h, n⟩) hE' (Nat.le_refl _), hx.mono (Nat.le_refl _) hE'⟩
/-- A read: what it makes, and the world is as it was. -/
theorem evR_sound (hE : EnvOK P E) (hh : HR fr R ⟨h, n⟩ w0 w) (hT : TR R n a act) {o : Oper} (hr : isRC o.op = true) {x : AV} (ho : evR E a h o.op = some x) :
    ∃ v w', (execOp act.eval o).run P w = .ok (.value v) w' ∧ HR fr R ⟨h, n⟩ w0 w' ∧ VR R n x v := by
  have hplain : isR o.op = true → (∀ x s', evOp E a ⟨h, 0⟩ o.op = some (some x, s') → ∃ v w', (execOp act.eval o).run P w = .ok (.value v) w' ∧ HR fr R ⟨h, n⟩ w0 w' ∧ VR R n x v) := fun hi x s' he => by
    have := evOp_nx (E := E) (a := a) hi h n
    rw [he] at this
    exact (op_sound hE hh hT this).stay
  cases hop : o.op with
  | call c =>
    rw [hop] at hr ho
    simp only [evR] at ho
    split at ho <;> try (cases ho; done)
    rename_i xs hxs
    split at ho <;> try (cases ho; done)
    rename_i b hb
    split at ho <;> try (cases ho; done)
    rename_i y s' he
    cases ho
    have hb' : b = .len ∨ b = .max ∨ b = .min := by
      simp only [isRC, hb] at hr
      cases b <;> first | exact .inl rfl | exact .inr (.inl rfl) | exact .inr (.inr rfl) | cases hr
    have hn := evB_nx (E := E) hb' h n c.argTypes.toList xs
    rw [he] at hn
    have hargs : VRL R n xs (c.args.map act.eval).toList := by
      rw [Array.toList_map]; exact opds_sound hT hxs
    have he2 : ∃ consts, execOp act.eval o = builtin b c.argTypes o.type consts (c.args.map act.eval) := by
      unfold execOp
      rw [hop]
      simp only [resolve, hb, pure_bind, invoke]
      exact ⟨_, rfl⟩
    obtain ⟨consts, he2⟩ := he2
    rw [he2]
    exact (b_sound (s := ⟨h, n⟩) hE hh hargs o.type consts hn).stay
  | _ =>
    rw [hop] at hr ho hplain
    simp only [isRC] at hr
    simp only [evR] at ho
    split at ho <;> try (cases ho; done)
    rename_i y s' he
    cases ho
    exact hplain hr _ _ he
/-- At each stage at which it may be done it makes the same. -/
theorem sameA_all {op : Op} {m : Nat} {x : AV} : ∀ (l1 : List (Option Nat × Tree Blk)) {c : Option Nat} {h : Tree Blk} {l2 : List (Option Nat × Tree Blk)}, sameA E a op m x (l1 ++ (c, h) :: l2) = true → (∀ p ∈ l1, ∃ c', p.1 = some c' ∧ m.testBit c' = false) → evR E a h op = some x
  | [], c, h, l2, hs, _ => by
    simp only [List.nil_append, sameA] at hs
    split at hs <;> try (cases hs; done)
    rename_i y hy
    cases he : eqV x y with
    | false => rw [he] at hs; cases hs
    | true => rw [hy, eqV_of he]
  | p :: l1, c, h, l2, hs, hp => by
    obtain ⟨c', h'⟩ := p
    obtain ⟨c1, e1, e2⟩ := hp _ (.head _)
    cases e1
    simp only [List.cons_append, sameA] at hs
    split at hs <;> try (cases hs; done)
    rename_i y hy
    cases he : eqV x y with
    | false => rw [he] at hs; cases hs
    | true =>
      rw [he, cond_true, e2, cond_false] at hs
      exact sameA_all l1 hs fun p hp' => hp p (.tail _ hp')
theorem firstA_all {op : Op} {m : Nat} {x : AV} {l : List (Option Nat × Tree Blk)} (hf : firstA E a op m l = some x) {l1 : List (Option Nat × Tree Blk)} {c : Option Nat} {h : Tree Blk} {l2 : List (Option Nat × Tree Blk)} (hl : l = l1 ++ (c, h) :: l2) (hp : ∀ p ∈ l1, ∃ c', p.1 = some c' ∧ m.testBit c' = false) : evR E a h op = some x := by
  subst hl
  cases l1 with
  | nil =>
    simp only [List.nil_append, firstA] at hf
    split at hf <;> try (cases hf; done)
    rename_i y hy
    rw [hy]
    cases c with
    | none => exact hf
    | some c =>
      simp only at hf
      cases hb : m.testBit c with
      | true => rw [hb, cond_true] at hf; exact hf
      | false =>
        rw [hb, cond_false] at hf
        cases hs : sameA E a op m y l2 with
        | true => rw [hs, cond_true] at hf; exact hf
        | false => rw [hs] at hf; cases hf
  | cons p l1 =>
    obtain ⟨c', h'⟩ := p
    obtain ⟨c1, e1, e2⟩ := hp _ (.head _)
    cases e1
    simp only [List.cons_append, firstA] at hf
    split at hf <;> try (cases hf; done)
    rename_i y hy
    rw [e2, cond_false] at hf
    cases hs : sameA E a op m y (l1 ++ (c, h) :: l2) with
    | false => rw [hs] at hf; cases hf
    | true =>
      rw [hs, cond_true] at hf
      cases hf
      exact sameA_all l1 hs fun p hp' => hp p (.tail _ hp')
end
end
end Go.Proofs.YtbioklhoolkhkadGreatDoor
namespace Go.Proofs.YtbioklhoolkhkadGreatDoor
set_option linter.unusedVariables false
set_option linter.unusedSimpArgs false
open Go Go.RowKit
noncomputable section

def tkOf (d : TypeDesc) : TK := match d with
  | .struct fs => .str (fs.toList.map fun f => (f.offset, f.type))
  | .array n e => .arr n e
  | .int k => .int k
  | .slice e => .slice e
  | .map k e => .map k e
  | .string => .string
  | .bool => .bool
  | .pointer e => .ptr e
  | .func _ _ _ => .func
  | _ => .other
def eqOf (t : Nat) : List (Nat × List TK) → Option (List TK)
  | [] => none
  | e :: l => bif Nat.beq e.1 t then some e.2 else eqOf t l
/-- What a type is. -/
def tiOf (P : Program) (eqs : List (Nat × List TK)) (t : Nat) : Option TI := match P.info? t with
  | none => none
  | some i => match P.underlying t with
    | none => none
    | some d => some ⟨tkOf d, eqOf t eqs, i.size, i.bytes, match i.zero with
      | some z => ofV 2 z
      | none => none⟩
/-- A tree made as it is asked for: at j lies f (a * j + b). -/
def bldT {β : Type} (f : Nat → Option β) (n fuel : Nat) : Nat → Nat → Tree0 β := Nat.rec (fun _ _ => .leaf) (fun _ ih a b => Bool.rec .leaf (.node (f b) (ih (Nat.mul a 4) (Nat.add b a)) (ih (Nat.mul a 4) (Nat.add b (Nat.mul a 2))) (ih (Nat.mul a 4) (Nat.add b (Nat.mul a 3))) (ih (Nat.mul a 4) (Nat.add b (Nat.mul a 4)))) (Nat.ble (Nat.succ b) n)) fuel
theorem bldT_get {β : Type} (f : Nat → Option β) (n : Nat) : ∀ (fuel a b j : Nat) (x : β), (bldT f n fuel a b).get j = some x → f (a * j + b) = some x
  | 0, a, b, j, x, h => by cases h
  | fuel + 1, a, b, j, x, h => by
    change (Bool.rec Tree0.leaf (Tree0.node (f b) (bldT f n fuel (a * 4) (b + a)) (bldT f n fuel (a * 4) (b + a * 2)) (bldT f n fuel (a * 4) (b + a * 3)) (bldT f n fuel (a * 4) (b + a * 4))) (Nat.ble (Nat.succ b) n) : Tree0 β).get j = some x at h
    cases hb : Nat.ble (Nat.succ b) n with
    | false => rw [hb] at h; cases h
    | true =>
      rw [hb] at h
      change (Tree0.node (f b) (bldT f n fuel (a * 4) (b + a)) (bldT f n fuel (a * 4) (b + a * 2)) (bldT f n fuel (a * 4) (b + a * 3)) (bldT f n fuel (a * 4) (b + a * 4))).get j = some x at h
      cases j with
      | zero => rw [Tree0.get_zero] at h; rw [Nat.mul_zero, Nat.zero_add]; exact h
      | succ j =>
        rw [Tree0.get_succ] at h
        have hj := Nat.div_add_mod j 4
        have key : ∀ k, j % 4 = k → a * (j + 1) + b = a * 4 * (j / 4) + (b + a * (k + 1)) := fun k hk => by
          have e : 4 * (j / 4) + (k + 1) = j + 1 := by omega
          calc a * (j + 1) + b = a * (4 * (j / 4) + (k + 1)) + b := by rw [e]
            _ = a * 4 * (j / 4) + (b + a * (k + 1)) := by rw [Nat.mul_add, Nat.mul_assoc, Nat.add_assoc, Nat.add_comm (a * (k + 1)) b]
        split at h
        · rename_i e
          have := bldT_get f n fuel _ _ _ x h
          rw [key 0 e]; simpa using this
        · split at h
          · rename_i e
            have := bldT_get f n fuel _ _ _ x h
            rw [key 1 e]; exact this
          · split at h
            · rename_i e
              have := bldT_get f n fuel _ _ _ x h
              rw [key 2 e]; exact this
            · rename_i e0 e1 e2
              have := bldT_get f n fuel _ _ _ x h
              rw [key 3 (by omega)]; exact this
def bldL {β : Type} (f : Nat → Option β) (d : Nat) : Nat → Nat → TT β d := Nat.rec (motive := fun d => Nat → Nat → TT β d) (fun b _ => f b) (fun _ ih b st => P4.mk (ih b (Nat.mul st 4)) (ih (Nat.add b st) (Nat.mul st 4)) (ih (Nat.add b (Nat.mul st 2)) (Nat.mul st 4)) (ih (Nat.add b (Nat.mul st 3)) (Nat.mul st 4))) d
theorem bldL_get {β : Type} (f : Nat → Option β) : ∀ (d b st n : Nat), n < 4 ^ d → TT.get d (bldL f d b st) n = f (b + st * n)
  | 0, b, st, n, h => by
    have e : n = 0 := by simpa using h
    subst e; rfl
  | d + 1, b, st, n, h => by
    have h' : n / 4 < 4 ^ d := by rw [Nat.pow_succ] at h; omega
    show TT.get (d + 1) (TT.mk4 (bldL f d b (st * 4)) (bldL f d (b + st) (st * 4)) (bldL f d (b + st * 2) (st * 4)) (bldL f d (b + st * 3) (st * 4))) n = _
    have key : ∀ k, n % 4 = k → st * n = st * k + st * 4 * (n / 4) := fun k hk => by
      have e : k + 4 * (n / 4) = n := by omega
      calc st * n = st * (k + 4 * (n / 4)) := by rw [e]
        _ = st * k + st * 4 * (n / 4) := by rw [Nat.mul_add, Nat.mul_assoc]
    rw [TT.get_succ]
    simp only [TT.pa_mk, TT.pb_mk, TT.pc_mk, TT.pd_mk]
    by_cases h0 : n % 4 = 0
    · rw [if_pos h0, bldL_get f d _ _ _ h', key 0 h0]; simp
    · rw [if_neg h0]
      by_cases h1 : n % 4 = 1
      · rw [if_pos h1, bldL_get f d _ _ _ h', key 1 h1, Nat.mul_one, Nat.add_assoc]
      · rw [if_neg h1]
        by_cases h2 : n % 4 = 2
        · rw [if_pos h2, bldL_get f d _ _ _ h', key 2 h2, Nat.add_assoc]
        · rw [if_neg h2, bldL_get f d _ _ _ h', key 3 (by omega), Nat.add_assoc]
def buildT {β : Type} (f : Nat → Option β) (n : Nat) : Tree β := ⟨bldL f 4 0 1, bldT f n n 1 0⟩
theorem buildT_get {β : Type} (f : Nat → Option β) (n k : Nat) (x : β) (h : (buildT f n).get k = some x) : f k = some x := by
  by_cases hk : k < 256
  · rw [Tree.get_lo _ hk] at h
    have := bldL_get f 4 0 1 k hk
    change TT.get 4 (bldL f 4 0 1) k = some x at h
    rw [this, Nat.one_mul, Nat.zero_add] at h
    exact h
  · rw [Tree.get_hi _ hk] at h
    have := bldT_get _ _ n 1 0 _ x h
    rwa [Nat.one_mul, Nat.add_zero] at this
def envOf (P : Program) (eqs : List (Nat × List TK)) (kn : Tree AV) (lit : List LitC) : Env := ⟨buildT (tiOf P eqs) P.types.size, buildT (fun f => P.funcs[f]?) P.funcs.size, kn, lit⟩
theorem eqOf_mem {t : Nat} : ∀ {l : List (Nat × List TK)} {ks : List TK}, eqOf t l = some ks → (t, ks) ∈ l
  | [], ks, h => by cases h
  | e :: l, ks, h => by
    simp only [eqOf] at h
    cases hb : Nat.beq e.1 t with
    | true =>
      rw [hb, cond_true] at h
      cases h
      rw [← nbeq_of hb]
      exact .head _
    | false => rw [hb, cond_false] at h; exact .tail _ (eqOf_mem h)
theorem tkOf_ok (d : TypeDesc) : TKOK (tkOf d) d := by
  cases d
  case struct fs => exact ⟨fs, rfl, fun i => by simp [tkOf]⟩
  case func ps rs v => exact ⟨ps, rs, v, rfl⟩
  all_goals first | rfl | exact ⟨fun _ h => (by cases h), fun _ _ h => (by cases h), fun _ h => (by cases h)⟩
/-- The table that is read off the program is right. -/
theorem env_ok {P : Program} {eqs : List (Nat × List TK)} {kn : Tree AV} {lit : List LitC} (hn : (P.funcs.toList.all fun fn => !(fn.name == "runtime.NumGoroutine")) = true) (he : ∀ e ∈ eqs, EqOK P e.1 e.2) (hk : ∀ f x, kn.get f = some x → KnownOK P f x) (hl : ∀ c ∈ lit, LitOK P c) : EnvOK P (envOf P eqs kn lit) := by
  refine ⟨hl, hk, fun t u h => ?_, fun f fn h => ?_⟩
  · have h2 := buildT_get _ _ _ _ h
    unfold tiOf at h2
    split at h2 <;> try (cases h2; done)
    rename_i i hi
    split at h2 <;> try (cases h2; done)
    rename_i d hd
    cases h2
    refine ⟨fun ks hks => he _ (eqOf_mem hks), ⟨d, hd, tkOf_ok d⟩, i, hi, rfl, rfl, fun z hz => ?_⟩
    simp only at hz
    split at hz <;> try (cases hz; done)
    rename_i z0 hz0
    exact ⟨z0, hz0, fun R n => ofV_sound 2 hz⟩
  · have h2 : P.funcs[f]? = some fn := buildT_get _ _ _ _ h
    refine ⟨h2, ?_⟩
    have h3 := List.all_eq_true.1 hn fn (by rw [← Array.getElem?_toList] at h2; exact List.mem_of_getElem? h2)
    simpa using h3
section
variable {P : Program}
def scalK : TypeDesc → TK → Bool
  | .bool, .bool => true
  | .int _, .int _ => true
  | .string, .string => true
  | _, _ => false
theorem scalK_of {d : TypeDesc} {q : TK} (h : scalK d q = true) : (d = .bool ∧ q = .bool) ∨ (∃ k k', d = .int k ∧ q = .int k') ∨ (d = .string ∧ q = .string) := by
  unfold scalK at h
  split at h
  · exact .inl ⟨rfl, rfl⟩
  · exact .inr (.inl ⟨_, _, rfl, rfl⟩)
  · exact .inr (.inr ⟨rfl, rfl⟩)
  · cases h
/-- Fields that are scalars, one cell each. -/
def fieldsOK (P : Program) : List Field → Nat → List TK → Bool
  | [], _, [] => true
  | f :: fs, k, q :: ks => (f.name != "_") && Nat.beq f.offset k && (match P.underlying f.type with
    | some d => scalK d q
    | none => false) && fieldsOK P fs (k + 1) ks
  | _, _, _ => false
theorem eqFields_ok {R R' : Nat → Nat × Nat} {n n' : Nat} {d : Nat} {xs ys : Array Value} {w : World} : ∀ (fs : List Field) (k : Nat) (ks : List TK) (l m : List AV) {r : Bool}, fieldsOK P fs k ks = true → VRL R n l (xs.toList.drop k) → VRL R' n' m (ys.toList.drop k) → eqAK ks l m = some r →
    (Op.eqFields (d + 1) xs ys fs).run P w = .ok r w
  | [], k, ks, l, m, r, hf, hl, hm, h => by
    cases ks with
    | nil =>
      cases l with
      | nil =>
        cases m with
        | nil => cases h; simp [Op.eqFields]
        | cons => cases h
      | cons => cases h
    | cons => cases hf
  | f :: fs, k, [], l, m, r, hf, hl, hm, h => by cases hf
  | f :: fs, k, q :: ks, [], m, r, hf, hl, hm, h => by cases h
  | f :: fs, k, q :: ks, x :: l, [], r, hf, hl, hm, h => by cases h
  | f :: fs, k, q :: ks, x :: l, y :: m, r, hf, hl, hm, h => by
    simp only [VRL] at hl hm
    obtain ⟨u, us, hu, hx, hl2⟩ := hl
    obtain ⟨v, vs, hv, hy, hm2⟩ := hm
    simp only [fieldsOK, Bool.and_eq_true, bne_iff_ne, ne_eq] at hf
    obtain ⟨⟨⟨f1, f2⟩, f3⟩, f4⟩ := hf
    have f2 := nbeq_of f2
    have hxs : xs[k]? = some u := by
      have := congrArg (fun l => l[0]?) hu
      simpa using this
    have hys : ys[k]? = some v := by
      have := congrArg (fun l => l[0]?) hv
      simpa using this
    have hus : xs.toList.drop (k + 1) = us := by
      have := congrArg List.tail hu
      rw [List.tail_drop] at this
      simpa using this
    have hvs : ys.toList.drop (k + 1) = vs := by
      have := congrArg List.tail hv
      rw [List.tail_drop] at this
      simpa using this
    simp only [eqAK] at h
    cases hkk : (keyK q x && keyK q y) with
    | false => rw [hkk] at h; cases h
    | true =>
      rw [hkk, cond_true] at h
      rw [Bool.and_eq_true] at hkk
      have ih : ∀ r', eqAK ks l m = some r' → (Op.eqFields (d + 1) xs ys fs).run P w = .ok r' w := fun r' hr' => eqFields_ok fs (k + 1) ks l m f4 (by rw [hus]; exact hl2) (by rw [hvs]; exact hm2) hr'
      have one : ∀ c, eqA1 x y = some c → ∃ dd, P.underlying f.type = some dd ∧ dd.isRow = false ∧ (Op.equalIn (d + 1) f.type u v).run P w = .ok c w := fun c hc => by
        cases hun : P.underlying f.type with
        | none => rw [hun] at f3; cases f3
        | some dd =>
          rw [hun] at f3
          refine ⟨dd, rfl, ?_⟩
          rcases scalK_of f3 with ⟨rfl, rfl⟩ | ⟨_, _, rfl, rfl⟩ | ⟨rfl, rfl⟩
          · cases x <;> simp only [keyK, Bool.false_eq_true, false_and] at hkk
            cases y <;> simp only [keyK, Bool.false_eq_true, and_false] at hkk
            simp only [VR] at hx hy
            subst hx hy
            cases hc
            exact ⟨rfl, run_equalIn_bool' w d _ _ _ hun⟩
          · cases x <;> simp only [keyK, Bool.false_eq_true, false_and] at hkk
            cases y <;> simp only [keyK, Bool.false_eq_true, and_false] at hkk
            rename_i k1 a k2 b
            simp only [VR] at hx hy
            subst hx hy
            simp only [eqA1] at hc
            by_cases e : k1 = k2
            · subst e
              rw [decide_eq_true rfl, cond_true, ieq_eq] at hc
              cases hc
              refine ⟨rfl, ?_⟩
              rw [run_equalIn_int w d _ _ _ _ _ hun]
              congr 1
            · rw [decide_eq_false e] at hc; cases hc
          · cases x <;> simp only [keyK, Bool.false_eq_true, false_and] at hkk
            cases y <;> simp only [keyK, Bool.false_eq_true, and_false] at hkk
            simp only [VR] at hx hy
            obtain ⟨rfl, hxl⟩ := hx
            obtain ⟨rfl, hyl⟩ := hy
            cases hc
            refine ⟨rfl, ?_⟩
            rw [run_equalIn_string w d _ _ _ hun, str_beq hxl hyl]
      have parts : ∀ dd, P.underlying f.type = some dd → dd.isRow = false → (part f.type xs f.offset).run P w = .ok u w ∧ (part f.type ys f.offset).run P w = .ok v w := fun dd h1 h2 => by
        unfold part
        simp only [Sem.run_bind, run_isAgg h1, h2, Result.andThen_ok, Bool.false_eq_true, if_false, f2, hxs, hys]
        exact ⟨rfl, rfl⟩
      cases hc : eqA1 x y with
      | none => rw [hc] at h; cases h
      | some c =>
        rw [hc] at h
        obtain ⟨dd, o1, o2, o3⟩ := one c hc
        obtain ⟨p1, p2⟩ := parts dd o1 o2
        cases c with
        | true =>
          simp only at h
          simp only [Op.eqFields, f1, ne_eq, not_false_eq_true, if_true, Sem.run_bind, p1, p2, o3, Result.andThen_ok, Bool.not_true, Bool.false_eq_true, if_false]
          exact ih r h
        | false =>
          simp only at h
          split at h <;> try (cases h; done)
          cases h
          simp only [Op.eqFields, f1, ne_eq, not_false_eq_true, if_true, Sem.run_bind, p1, p2, o3, Result.andThen_ok, Bool.not_false, Sem.run_pure]
theorem scal_eq {R R' : Nat → Nat × Nat} {n n' : Nat} {d : Nat} {w : World} {t : Nat} {dd : TypeDesc} {q : TK} (hun : P.underlying t = some dd) (hs : scalK dd q = true) {x y : AV} {u v : Value} (hkx : keyK q x = true) (hky : keyK q y = true) (hx : VR R n x u) (hy : VR R' n' y v) {c : Bool} (hc : eqA1 x y = some c) :
    dd.isRow = false ∧ (Op.equalIn (d + 1) t u v).run P w = .ok c w := by
  rcases scalK_of hs with ⟨rfl, rfl⟩ | ⟨_, _, rfl, rfl⟩ | ⟨rfl, rfl⟩
  · cases x <;> simp only [keyK, Bool.false_eq_true] at hkx
    cases y <;> simp only [keyK, Bool.false_eq_true] at hky
    simp only [VR] at hx hy
    subst hx hy
    cases hc
    exact ⟨rfl, run_equalIn_bool' w d _ _ _ hun⟩
  · cases x <;> simp only [keyK, Bool.false_eq_true] at hkx
    cases y <;> simp only [keyK, Bool.false_eq_true] at hky
    rename_i k1 a k2 b
    simp only [VR] at hx hy
    subst hx hy
    simp only [eqA1] at hc
    by_cases e : k1 = k2
    · subst e
      rw [decide_eq_true rfl, cond_true, ieq_eq] at hc
      cases hc
      refine ⟨rfl, ?_⟩
      rw [run_equalIn_int w d _ _ _ _ _ hun]
      congr 1
    · rw [decide_eq_false e] at hc; cases hc
  · cases x <;> simp only [keyK, Bool.false_eq_true] at hkx
    cases y <;> simp only [keyK, Bool.false_eq_true] at hky
    simp only [VR] at hx hy
    obtain ⟨rfl, hxl⟩ := hx
    obtain ⟨rfl, hyl⟩ := hy
    cases hc
    refine ⟨rfl, ?_⟩
    rw [run_equalIn_string w d _ _ _ hun, str_beq hxl hyl]
theorem eqItems_ok {R R' : Nat → Nat × Nat} {n n' : Nat} {d : Nat} {xs ys : Array Value} {w : World} {e : Nat} {dd : TypeDesc} {q : TK} (hun : P.underlying e = some dd) (hs : scalK dd q = true) : ∀ (m k : Nat) (l l' : List AV) {r : Bool}, VRL R n l (xs.toList.drop k) → VRL R' n' l' (ys.toList.drop k) → eqAK (List.replicate m q) l l' = some r →
    (Op.eqItems (d + 1) e 1 xs ys (List.range' k m)).run P w = .ok r w
  | 0, k, l, l', r, hl, hl', h => by
    cases l with
    | nil =>
      cases l' with
      | nil => cases h; simp [Op.eqItems]
      | cons => cases h
    | cons => cases h
  | m + 1, k, [], l', r, hl, hl', h => by cases h
  | m + 1, k, x :: l, [], r, hl, hl', h => by cases h
  | m + 1, k, x :: l, y :: l', r, hl, hl', h => by
    simp only [VRL] at hl hl'
    obtain ⟨u, us, hu, hx, hl2⟩ := hl
    obtain ⟨v, vs, hv, hy, hm2⟩ := hl'
    have hxs : xs[k]? = some u := by
      have := congrArg (fun l => l[0]?) hu
      simpa using this
    have hys : ys[k]? = some v := by
      have := congrArg (fun l => l[0]?) hv
      simpa using this
    have hus : xs.toList.drop (k + 1) = us := by
      have := congrArg List.tail hu
      rw [List.tail_drop] at this
      simpa using this
    have hvs : ys.toList.drop (k + 1) = vs := by
      have := congrArg List.tail hv
      rw [List.tail_drop] at this
      simpa using this
    rw [List.replicate_succ] at h
    simp only [eqAK] at h
    obtain ⟨hkk, h⟩ := (show (keyK q x && keyK q y) = true ∧ _ from by
      cases hkk : (keyK q x && keyK q y) with
      | false => rw [hkk] at h; cases h
      | true => rw [hkk, cond_true] at h; exact ⟨rfl, h⟩)
    rw [Bool.and_eq_true] at hkk
    have ih : ∀ r', eqAK (List.replicate m q) l l' = some r' → (Op.eqItems (d + 1) e 1 xs ys (List.range' (k + 1) m)).run P w = .ok r' w := fun r' hr' => eqItems_ok hun hs m (k + 1) l l' (by rw [hus]; exact hl2) (by rw [hvs]; exact hm2) hr'
    rw [List.range'_succ]
    cases hc : eqA1 x y with
    | none => rw [hc] at h; cases h
    | some c =>
      rw [hc] at h
      obtain ⟨o2, o3⟩ := scal_eq (w := w) (d := d) hun hs hkk.1 hkk.2 hx hy hc
      have p1 : (part e xs (k * 1)).run P w = .ok u w := by
        unfold part
        simp only [Sem.run_bind, run_isAgg hun, o2, Result.andThen_ok, Bool.false_eq_true, if_false, Nat.mul_one, hxs]
        rfl
      have p2 : (part e ys (k * 1)).run P w = .ok v w := by
        unfold part
        simp only [Sem.run_bind, run_isAgg hun, o2, Result.andThen_ok, Bool.false_eq_true, if_false, Nat.mul_one, hys]
        rfl
      cases c with
      | true =>
        simp only at h
        simp only [Op.eqItems, Sem.run_bind, p1, p2, o3, Result.andThen_ok, Bool.not_true, Bool.false_eq_true, if_false]
        exact ih r h
      | false =>
        simp only at h
        split at h <;> try (cases h; done)
        cases h
        simp only [Op.eqItems, Sem.run_bind, p1, p2, o3, Result.andThen_ok, Bool.not_false, if_true, Sem.run_pure]
theorem eqOK_arr {t e : Nat} {m : Nat} {q : TK} {i : TypeInfo} {dd : TypeDesc} (hu : P.underlying t = some (.array m e)) (hi : P.info? e = some i) (hc : P.cellsOf e = 1) (hun : P.underlying e = some dd) (hs : scalK dd q = true) (hg : P.eqGuardType P.depth t = false) : EqOK P t (List.replicate m q) := by
  refine ⟨hg, fun R R' n n' l l' xs ys r w hl hl' h => ?_⟩
  show (Op.equalIn (9998 + 1 + 1) t (.agg xs.toArray) (.agg ys.toArray)).run P w = .ok r w
  rw [run_equalIn_array w _ _ _ hu hi, hc, List.range_eq_range']
  exact eqItems_ok hun hs m 0 l l' (by simpa using hl) (by simpa using hl') h
theorem eqOK_of {t : Nat} {ks : List TK} (hu : P.underlying t = some (.struct (P.fieldsOf t))) (hs : P.stoodInHeld t = false) (hg : P.eqGuardType P.depth t = false) (hf : fieldsOK P (P.fieldsOf t).toList 0 ks = true) : EqOK P t ks := by
  refine ⟨hg, fun R R' n n' l m xs ys r w hl hm h => ?_⟩
  show (Op.equalIn (9998 + 1 + 1) t (.agg xs.toArray) (.agg ys.toArray)).run P w = .ok r w
  rw [run_equalIn_struct w _ t _ _ hu hs]
  exact eqFields_ok _ 0 ks l m hf (by simpa using hl) (by simpa using hm) h
end
def runA (P : Program) (eqs : List (Nat × List TK)) (kn : Tree AV) (fuel : Nat) (f : FuncId) : Option (AV × St) := callE (envOf P eqs kn []) (drawA (envOf P eqs kn [])) fuel (.fn f [] []) [] ⟨.leaf, 0⟩
end
end Go.Proofs.YtbioklhoolkhkadGreatDoor
namespace Go.Proofs.YtbioklhoolkhkadGreatDoor
set_option linter.unusedVariables false
set_option linter.unusedSimpArgs false
set_option linter.unusedSectionVars false
open Go Go.RowKit
noncomputable section

theorem Before.trans {ops : Array Oper} {i j k : Nat} (h : Before ops k i) (h' : Before ops j k) : Before ops j i := by
  induction h with
  | edge ho h1 h2 => exact .step ho h1 h2 h'
  | step ho h1 h2 _ ih => exact .step ho h1 h2 (ih h')
section
variable {E : Env} {call : CallF} {nt : Nat} {ops : List Oper} {cl : Tree Nat}
/-- In the run of l from d, step i comes at di. -/
inductive Tr (E : Env) (call : CallF) (nt : Nat) (ops : List Oper) (cl : Tree Nat) : List Nat → DSt → Nat → DSt → Prop where
  | here {i : Nat} {l : List Nat} {d d' : DSt} : stepC E call nt ops cl i d = some d' → Tr E call nt ops cl (i :: l) d i d
  | next {i j : Nat} {l : List Nat} {d d' di : DSt} : stepC E call nt ops cl j d = some d' → j ≠ i → Tr E call nt ops cl l d' i di → Tr E call nt ops cl (j :: l) d i di
theorem Tr.mem {l : List Nat} {d di : DSt} {i : Nat} (h : Tr E call nt ops cl l d i di) : i ∈ l := by
  induction h with
  | here _ => exact .head _
  | next _ _ _ ih => exact .tail _ ih
theorem Tr.step {l : List Nat} {d di : DSt} {i : Nat} (h : Tr E call nt ops cl l d i di) : ∃ d', stepC E call nt ops cl i di = some d' := by
  induction h with
  | here h => exact ⟨_, h⟩
  | next _ _ _ ih => exact ih
theorem Tr.ex : ∀ (l : List Nat) {d df : DSt} {i : Nat}, runC E call nt ops cl l d = some df → i ∈ l → ∃ di, Tr E call nt ops cl l d i di
  | [], d, df, i, h, hi => by cases hi
  | j :: l, d, df, i, h, hi => by
    simp only [runC] at h
    split at h <;> try (cases h; done)
    rename_i d1 h1
    by_cases e : j = i
    · subst e; exact ⟨d, .here h1⟩
    · rcases List.mem_cons.1 hi with rfl | hi
      · exact absurd rfl e
      · obtain ⟨di, h2⟩ := Tr.ex l h hi
        exact ⟨di, .next h1 e h2⟩
theorem Tr.det {l : List Nat} {d di di' : DSt} {i : Nat} (h : Tr E call nt ops cl l d i di) (h' : Tr E call nt ops cl l d i di') : di = di' := by
  induction h with
  | here _ =>
    cases h' with
    | here _ => rfl
    | next _ hne _ => exact absurd rfl hne
  | next h1 hne _ ih =>
    cases h' with
    | here _ => exact absurd rfl hne
    | next h2 _ h3 =>
      rw [h1] at h2
      cases h2
      exact ih h3
theorem Tr.mono {l : List Nat} {d di : DSt} {i : Nat} (h : Tr E call nt ops cl l d i di) {k : Nat} (hk : d.done.testBit k = true) : di.done.testBit k = true := by
  induction h with
  | here _ => exact hk
  | next h1 _ _ ih => exact ih (by rw [(stepC_inv h1).done.2, hk, Bool.true_or])
theorem Tr.done {l : List Nat} {d di : DSt} {i : Nat} (h : Tr E call nt ops cl l d i di) {k : Nat} (hk : di.done.testBit k = true) : d.done.testBit k = true ∨ k ∈ l := by
  induction h with
  | here _ => exact .inl hk
  | next h1 _ _ ih =>
    rcases ih hk with h | h
    · rw [(stepC_inv h1).done.2, Bool.or_eq_true, decide_eq_true_iff] at h
      rcases h with h | h
      · exact .inl h
      · exact .inr (by rw [h]; exact .head _)
    · exact .inr (.tail _ h)
theorem Tr.not {l : List Nat} {d di : DSt} {i : Nat} (h : Tr E call nt ops cl l d i di) : di.done.testBit i = false := by
  obtain ⟨d', h⟩ := h.step
  exact (stepC_inv h).done.1
theorem putA_get {nt : Nat} {a a' : Tree AV} {x : AV} {dst : Option Tmp} (h : putA nt a dst x = some a') (t : Nat) : a'.get t = if dst = some t then some x else a.get t := by
  cases dst with
  | none => cases h; simp
  | some d =>
    simp only [putA] at h
    cases hb : Nat.blt d nt with
    | false => rw [hb] at h; cases h
    | true =>
      rw [hb, cond_true] at h
      cases h
      rw [Tree.get_set]
      by_cases e : t = d
      · subst e; simp
      · rw [if_neg e, if_neg (fun e' => e (Option.some.inj e').symm)]
/-- What a step makes. -/
theorem StepK.put {i : Nat} {d d' : DSt} (h : StepK E call nt ops cl i d d') : ∃ o x, ops[i]? = some o ∧ putA nt d.a o.dst x = some d'.a := by
  cases h <;> exact ⟨_, _, by assumption, by assumption⟩
theorem StepK.get {i : Nat} {d d' : DSt} (h : StepK E call nt ops cl i d d') {t : Nat} (ht : ∀ o, ops[i]? = some o → o.dst ≠ some t) : d'.a.get t = d.a.get t := by
  obtain ⟨o, x, ho, hp⟩ := h.put
  rw [putA_get hp, if_neg (ht o ho)]
theorem Tr.get {l : List Nat} {d di : DSt} {i : Nat} (h : Tr E call nt ops cl l d i di) {t : Nat} (ht : ∀ k o, k ∈ l → di.done.testBit k = true → ops[k]? = some o → o.dst ≠ some t) : di.a.get t = d.a.get t := by
  induction h with
  | here _ => rfl
  | next h1 _ h2 ih =>
    rw [ih fun k o hk => ht k o (.tail _ hk)]
    refine (stepC_inv h1).get fun o ho => ht _ o (.head _) ?_ ho
    exact h2.mono (by rw [(stepC_inv h1).done.2]; simp)
/-- An operation that begins a stage. -/
def ActAt (E : Env) (call : CallF) (nt : Nat) (ops : List Oper) (cl : Tree Nat) (l : List Nat) (d : DSt) (c : Nat) : Prop := ∃ dc dc', Tr E call nt ops cl l d c dc ∧ stepC E call nt ops cl c dc = some dc' ∧ dc'.hist ≠ dc.hist
theorem StepK.hist {i : Nat} {d d' : DSt} (h : StepK E call nt ops cl i d d') : d'.hist = d.hist ∨ (d'.hist = (some i, d'.s.h) :: d.hist ∧ cl.get i = some d.done) := by
  cases h <;> first | exact .inl rfl | exact .inr ⟨rfl, by assumption⟩
theorem ActAt.next {l : List Nat} {d d' : DSt} {c j : Nat} (h1 : stepC E call nt ops cl j d = some d') (h : ActAt E call nt ops cl l d' c) : ActAt E call nt ops cl (j :: l) d c := by
  obtain ⟨dc, dc', h2, h3, h4⟩ := h
  refine ⟨dc, dc', .next h1 (fun e => ?_) h2, h3, h4⟩
  subst e
  have h5 := h2.not
  have h6 : dc.done.testBit j = true := h2.mono (by rw [(stepC_inv h1).done.2]; simp)
  rw [h5] at h6
  cases h6
theorem Tr.hist {l : List Nat} {d di : DSt} {i : Nat} (h : Tr E call nt ops cl l d i di) : ∃ l1, di.hist = l1 ++ d.hist ∧ ∀ p ∈ l1, ∃ c, p.1 = some c ∧ ActAt E call nt ops cl l d c := by
  induction h with
  | here _ => exact ⟨[], rfl, fun p hp => by cases hp⟩
  | next h1 hne h2 ih =>
    rename_i i j l d d' di
    obtain ⟨l1, e1, e2⟩ := ih
    rcases (stepC_inv h1).hist with e3 | ⟨e3, _⟩
    · rw [e3] at e1
      refine ⟨l1, e1, fun p hp => ?_⟩
      obtain ⟨c, c1, c2⟩ := e2 p hp
      exact ⟨c, c1, c2.next h1⟩
    · rw [e3] at e1
      refine ⟨l1 ++ [(some j, d'.s.h)], by rw [e1]; simp, fun p hp => ?_⟩
      rcases List.mem_append.1 hp with hp | hp
      · obtain ⟨c, c1, c2⟩ := e2 p hp
        exact ⟨c, c1, c2.next h1⟩
      · rcases List.mem_singleton.1 hp with rfl
        exact ⟨j, rfl, d, d', .here h1, h1, by rw [e3]; simp⟩
/-- Numbers grow. -/
theorem StepK.nx {i : Nat} {d d' : DSt} (h : StepK E call nt ops cl i d d') : d.s.nx ≤ d'.s.nx := by
  cases h with
  | skip => exact Nat.le_refl _
  | read => exact Nat.le_refl _
  | new => exact Nat.le_succ _
  | act _ _ _ _ _ _ _ _ _ h _ => exact h
  | ins => exact Nat.le_refl _
theorem Tr.nx {l : List Nat} {d di : DSt} {i : Nat} (h : Tr E call nt ops cl l d i di) : d.s.nx ≤ di.s.nx := by
  induction h with
  | here _ => exact Nat.le_refl _
  | next h1 _ _ ih => exact Nat.le_trans (stepC_inv h1).nx ih
theorem Tr.inv {l : List Nat} {d d' dk : DSt} {j k : Nat} (h1 : stepC E call nt ops cl j d = some d') (h : Tr E call nt ops cl (j :: l) d k dk) : (k = j ∧ dk = d) ∨ (j ≠ k ∧ Tr E call nt ops cl l d' k dk) := by
  cases h with
  | here _ => exact .inl ⟨rfl, rfl⟩
  | next h2 hne h3 =>
    rw [h1] at h2
    cases h2
    exact .inr ⟨hne, h3⟩
/-- What comes ahead has its number ahead. -/
theorem Tr.lt {l : List Nat} {d di di' dk : DSt} {i k : Nat} (h : Tr E call nt ops cl l d i di) (hs : stepC E call nt ops cl i di = some di') (hk : Tr E call nt ops cl l d k dk) (hd : d.done.testBit i = false) (hik : dk.done.testBit i = true) : di'.s.nx ≤ dk.s.nx := by
  induction h with
  | here h1 =>
    rw [h1] at hs
    cases hs
    rcases Tr.inv h1 hk with ⟨_, e⟩ | ⟨_, h2⟩
    · rw [e, hd] at hik; cases hik
    · exact h2.nx
  | next h1 hne _ ih =>
    rcases Tr.inv h1 hk with ⟨_, e⟩ | ⟨_, h2⟩
    · rw [e, hd] at hik; cases hik
    · refine ih hs h2 ?_ hik
      rw [(stepC_inv h1).done.2, hd, Bool.false_or]
      exact decide_eq_false hne
/-- One of two comes ahead of the other. -/
theorem Tr.total {l : List Nat} {d di dk : DSt} {i k : Nat} (h : Tr E call nt ops cl l d i di) (hk : Tr E call nt ops cl l d k dk) (hne : i ≠ k) : dk.done.testBit i = true ∨ di.done.testBit k = true := by
  induction h with
  | here h1 =>
    rcases Tr.inv h1 hk with ⟨e, _⟩ | ⟨_, h2⟩
    · exact absurd e.symm hne
    · exact .inl (h2.mono (by rw [(stepC_inv h1).done.2]; simp))
  | next h1 _ h3 ih =>
    rcases Tr.inv h1 hk with ⟨e, _⟩ | ⟨_, h2⟩
    · subst e
      exact .inr (h3.mono (by rw [(stepC_inv h1).done.2]; simp))
    · exact ih h2 hne
end
end
end Go.Proofs.YtbioklhoolkhkadGreatDoor
namespace Go.Proofs.YtbioklhoolkhkadGreatDoor
set_option linter.unusedVariables false
set_option linter.unusedSimpArgs false
set_option linter.unusedSectionVars false
open Go Go.RowKit
noncomputable section

section
variable {E : Env} {cl : Tree Nat} {dn i t : Nat} {a : Tree AV}
theorem bif_some {α : Type} {c : Bool} {x : Option α} {y : α} (h : (bif c then x else none) = some y) : c = true ∧ x = some y := by
  cases c
  · cases h
  · exact ⟨rfl, h⟩
/-- What is said of one entry. -/
structure InsOK (E : Env) (cl : Tree Nat) (dn i t : Nat) (a : Tree AV) (j : Nat) (o : Oper) (ty : TypeId) (k v : Operand) (x y : AV) : Prop where
  gd : o.guard = none
  ds : o.dst = none
  mask : ∃ m, cl.get j = some m ∧ m.testBit i = true ∧ ∀ q, m.testBit q = true → dn.testBit q = true ∨ q = i
  nk : notT t k = true
  nv : notT t v = true
  hk : opd a k = some x
  hv : opd a v = some y
  ty : ∃ u kt et uk, E.tt.get ty = some u ∧ u.k = .map kt et ∧ E.tt.get kt = some uk ∧ keyK uk.k x = true ∧ evOp.oneOrAgg y = true
theorem insOne_spec {j : Nat} {o : Oper} {ty : TypeId} {k v : Operand} {e : AV × AV} (h : insOne E cl dn i t a j o ty k v = some e) : InsOK E cl dn i t a j o ty k v e.1 e.2 := by
  unfold insOne at h
  split at h <;> try (cases h; done)
  rename_i hg
  split at h <;> try (cases h; done)
  rename_i hd
  split at h <;> try (cases h; done)
  rename_i m hm
  obtain ⟨hc, h⟩ := bif_some h
  simp only [Bool.and_eq_true] at hc
  obtain ⟨⟨⟨c1, c2⟩, c3⟩, c4⟩ := hc
  split at h <;> try (cases h; done)
  rename_i x hx
  split at h <;> try (cases h; done)
  rename_i y hy
  split at h <;> try (cases h; done)
  rename_i u hu
  split at h <;> try (cases h; done)
  rename_i kt et huk
  split at h <;> try (cases h; done)
  rename_i uk hkt
  obtain ⟨hc, h⟩ := bif_some h
  cases h
  rw [Bool.and_eq_true] at hc
  refine ⟨hg, hd, ⟨m, hm, c1, fun q hq => ?_⟩, c3, c4, hx, hy, u, kt, et, uk, hu, huk, hkt, hc.1, hc.2⟩
  have := subM_of c2 hq
  rw [bit_add, Bool.or_eq_true, decide_eq_true_iff] at this
  exact this.imp id Eq.symm
theorem insA_spec : ∀ (l : List Oper) (j0 : Nat) {r : List (Nat × AV × AV)}, insA E cl dn i t a l j0 = some r →
    (∀ e ∈ r, j0 ≤ e.1 ∧ ∃ o ty k v, l[e.1 - j0]? = some o ∧ o.op = .insert ty (.tmp t) k v ∧ InsOK E cl dn i t a e.1 o ty k v e.2.1 e.2.2) ∧
    (∀ q o ty k v, l[q]? = some o → o.op = .insert ty (.tmp t) k v → ∃ e, (j0 + q, e) ∈ r) ∧ (r.map Prod.fst).Pairwise (· < ·)
  | [], j0, r, h => by
    cases h
    exact ⟨fun e he => by (cases he), fun q o ty k v hq => by simp at hq, by simp⟩
  | o :: l, j0, r, h => by
    have go1 : (∀ ty k v, o.op ≠ .insert ty (.tmp t) k v) → insA E cl dn i t a l (j0 + 1) = some r → (∀ e ∈ r, j0 ≤ e.1 ∧ ∃ o' ty k v, (o :: l)[e.1 - j0]? = some o' ∧ o'.op = .insert ty (.tmp t) k v ∧ InsOK E cl dn i t a e.1 o' ty k v e.2.1 e.2.2) ∧
        (∀ q o' ty k v, (o :: l)[q]? = some o' → o'.op = .insert ty (.tmp t) k v → ∃ e, (j0 + q, e) ∈ r) ∧ (r.map Prod.fst).Pairwise (· < ·) := fun hno h => by
      obtain ⟨h1, h2, h3⟩ := insA_spec l (j0 + 1) h
      refine ⟨fun e he => ?_, fun q o' ty k v hq ho => ?_, h3⟩
      · obtain ⟨g1, o', ty, k, v, g2, g3⟩ := h1 e he
        refine ⟨by omega, o', ty, k, v, ?_, g3⟩
        rw [show e.1 - j0 = (e.1 - (j0 + 1)) + 1 by omega, List.getElem?_cons_succ]
        exact g2
      · cases q with
        | zero => simp at hq; subst hq; exact absurd ho (hno ty k v)
        | succ q =>
          obtain ⟨e, he⟩ := h2 q o' ty k v (by simpa using hq) ho
          exact ⟨e, by rw [show j0 + (q + 1) = j0 + 1 + q by omega]; exact he⟩
    unfold insA at h
    split at h
    · rename_i ty u k v hop
      cases hb : Nat.beq u t with
      | false =>
        rw [hb, cond_false] at h
        refine go1 (fun ty' k' v' e => ?_) h
        rw [hop] at e
        injection e with _ e
        injection e with e
        rw [nbeq_eq e] at hb
        cases hb
      | true =>
        rw [hb, cond_true] at h
        have hut := nbeq_of hb
        rw [hut] at hop
        split at h <;> try (cases h; done)
        rename_i e he
        split at h <;> try (cases h; done)
        rename_i r' hr'
        cases h
        obtain ⟨h1, h2, h3⟩ := insA_spec l (j0 + 1) hr'
        refine ⟨fun e' he' => ?_, fun q o' ty' k' v' hq ho => ?_, ?_⟩
        · rcases List.mem_cons.1 he' with rfl | he'
          · exact ⟨Nat.le_refl _, o, ty, k, v, by simp, hop, insOne_spec he⟩
          · obtain ⟨g1, o', ty', k', v', g2, g3⟩ := h1 e' he'
            refine ⟨by omega, o', ty', k', v', ?_, g3⟩
            rw [show e'.1 - j0 = (e'.1 - (j0 + 1)) + 1 by omega, List.getElem?_cons_succ]
            exact g2
        · cases q with
          | zero => exact ⟨e, .head _⟩
          | succ q =>
            obtain ⟨e', he'⟩ := h2 q o' ty' k' v' (by simpa using hq) ho
            exact ⟨e', .tail _ (by rw [show j0 + (q + 1) = j0 + 1 + q by omega]; exact he')⟩
        · rw [List.map_cons, List.pairwise_cons]
          refine ⟨fun j hj => ?_, h3⟩
          obtain ⟨e', he', rfl⟩ := List.mem_map.1 hj
          have := (h1 e' he').1
          show j0 < e'.1
          omega
    · rename_i hno
      exact go1 (fun ty k v e => hno ty t k v e) h
theorem distA_spec : ∀ {l : List (AV × AV)}, distA l = true → Dist l
  | [], _ => by simp [Dist]
  | e :: l, h => by
    unfold distA at h
    split at h <;> try (cases h; done)
    rename_i hl
    have ih := distA_spec h
    unfold Dist at ih ⊢
    rw [List.map_cons, List.pairwise_cons]
    refine ⟨fun b hb => ?_, ih⟩
    obtain ⟨e', he', rfl⟩ := List.mem_map.1 hb
    rcases lookM_inv hl with ⟨_, h2⟩ | ⟨_, e1, _, _, h2, _⟩
    · exact h2 e' he'
    · cases h2
/-- The entries of a new map. -/
theorem entsA_map {ops : List Oper} {es : List (AV × AV)} {dst : Option Tmp} {ents : List (Nat × AV × AV)} (h : entsA E cl dn i a ops (.map es) dst = some ents) :
    (∀ e ∈ ents, ∃ o ty k v t, ops[e.1]? = some o ∧ dst = some t ∧ o.op = .insert ty (.tmp t) k v ∧ InsOK E cl dn i t a e.1 o ty k v e.2.1 e.2.2) ∧
    (∀ q o ty k v t, ops[q]? = some o → dst = some t → o.op = .insert ty (.tmp t) k v → ∃ e, (q, e) ∈ ents) ∧ (ents.map Prod.fst).Nodup ∧ Dist (ents.map Prod.snd) := by
  unfold entsA at h
  simp only at h
  split at h
  · rename_i t
    split at h <;> try (cases h; done)
    rename_i l hl
    obtain ⟨hd, h⟩ := bif_some h
    cases h
    obtain ⟨h1, h2, h3⟩ := insA_spec ops 0 hl
    refine ⟨fun e he => ?_, fun q o ty k v t' hq ht ho => ?_, h3.imp fun h => Nat.ne_of_lt h, distA_spec hd⟩
    · obtain ⟨_, o, ty, k, v, g1, g2, g3⟩ := h1 e he
      exact ⟨o, ty, k, v, t, by simpa using g1, rfl, g2, g3⟩
    · cases ht
      obtain ⟨e, he⟩ := h2 q o ty k v hq ho
      exact ⟨e, by simpa using he⟩
  · cases h
    exact ⟨fun e he => (by cases he), fun q o ty k v t _ ht => (by cases ht), by simp, by simp [Dist]⟩
theorem entsA_other {ops : List Oper} {blk : Blk} {dst : Option Tmp} {ents : List (Nat × AV × AV)} (h : entsA E cl dn i a ops blk dst = some ents) (hb : ∀ es, blk ≠ .map es) : ents = [] ∧ ∀ l, fillB blk l = blk := by
  cases blk with
  | map es => exact absurd rfl (hb es)
  | cells e cs => cases h; exact ⟨rfl, fun _ => rfl⟩
  | ro e cs => cases h; exact ⟨rfl, fun _ => rfl⟩
  | loop => cases h; exact ⟨rfl, fun _ => rfl⟩
/-- Each entry is one of the region's inserts. -/
theorem entsA_ins {ops : List Oper} {blk : Blk} {dst : Option Tmp} {ents : List (Nat × AV × AV)} (h : entsA E cl dn i a ops blk dst = some ents) {e : Nat × AV × AV} (he : e ∈ ents) :
    ∃ o ty k v t, ops[e.1]? = some o ∧ dst = some t ∧ o.op = .insert ty (.tmp t) k v ∧ InsOK E cl dn i t a e.1 o ty k v e.2.1 e.2.2 := by
  cases blk with
  | map es => exact (entsA_map h).1 e he
  | cells => cases h; cases he
  | ro => cases h; cases he
  | loop => cases h; cases he
theorem insTo_spec {ops : List Oper} {o : Oper} {i : Nat} (h : insTo ops o = some i) : ∃ ty t k v oi ti, o.op = .insert ty (.tmp t) k v ∧ dstAt t ops 0 = some i ∧ ops[i]? = some oi ∧ oi.op = .makeMap ti none := by
  unfold insTo at h
  split at h <;> try (cases h; done)
  rename_i ty t k v hop
  split at h <;> try (cases h; done)
  rename_i i' hi'
  split at h <;> try (cases h; done)
  rename_i oi hoi
  rw [nthL_eq] at hoi
  split at h <;> try (cases h; done)
  rename_i ti hti
  cases h
  exact ⟨ty, t, k, v, oi, ti, hop, hi', hoi, hti⟩
theorem insTo_none {ops : List Oper} {o : Oper} (h : ∀ ty t k v, o.op ≠ .insert ty (.tmp t) k v) : insTo ops o = none := by
  cases hi : insTo ops o with
  | none => rfl
  | some i =>
    obtain ⟨ty, t, k, v, _, _, h1, _⟩ := insTo_spec hi
    exact absurd h1 (h ty t k v)
theorem fillsOK_spec {ops : List Oper} {dn : Nat} : ∀ (l : List Oper) (j0 : Nat), fillsOK ops dn l j0 = true → ∀ q o i, l[q]? = some o → insTo ops o = some i → dn.testBit i = true → dn.testBit (j0 + q) = true
  | [], j0, _, q, o, i, hq, _, _ => by simp at hq
  | o :: l, j0, h, q, o', i, hq, hi, hd => by
    have rest : fillsOK ops dn l (j0 + 1) = true ∧ (insTo ops o = some i → dn.testBit j0 = true) := by
      unfold fillsOK at h
      split at h
      · rename_i i' hi'
        cases hb : dn.testBit i' with
        | false =>
          rw [hb, cond_false] at h
          refine ⟨h, fun e => ?_⟩
          rw [hi'] at e
          cases e
          rw [hb] at hd
          cases hd
        | true =>
          rw [hb, cond_true] at h
          cases hb2 : dn.testBit j0 with
          | false => rw [hb2] at h; cases h
          | true => rw [hb2, cond_true] at h; exact ⟨h, fun _ => rfl⟩
      · rename_i hi'
        refine ⟨h, fun e => ?_⟩
        rw [hi'] at e
        cases e
    cases q with
    | zero =>
      simp at hq
      subst hq
      exact rest.2 hi
    | succ q =>
      have := fillsOK_spec l (j0 + 1) rest.1 q o' i (by simpa using hq) hi hd
      rw [show j0 + (q + 1) = j0 + 1 + q by omega]
      exact this
end
section
variable {ops : List Oper} {cl : Tree Nat}
theorem dstAt_none {t : Nat} : ∀ {l : List Oper} {i : Nat}, dstAt t l i = none → ∀ o ∈ l, o.dst ≠ some t
  | [], i, h, o, ho => by cases ho
  | p :: l, i, h, o, ho => by
    unfold dstAt at h
    cases hd : p.dst with
    | none =>
      rw [hd] at h
      rcases List.mem_cons.1 ho with rfl | ho
      · rw [hd]; simp
      · exact dstAt_none h o ho
    | some d =>
      rw [hd] at h
      simp only at h
      cases hb : Nat.beq d t with
      | true => rw [hb, cond_true] at h; cases h
      | false =>
        rw [hb, cond_false] at h
        rcases List.mem_cons.1 ho with rfl | ho
        · rw [hd]
          intro e
          have := Option.some.inj e
          rw [nbeq_eq this] at hb
          cases hb
        · exact dstAt_none h o ho
theorem dstAt_some {t k : Nat} : ∀ {l : List Oper} {i : Nat}, dstAt t l i = some k → i ≤ k ∧ ∃ o, l[k - i]? = some o ∧ o.dst = some t
  | [], i, h => by cases h
  | p :: l, i, h => by
    unfold dstAt at h
    have go1 : dstAt t l (i + 1) = some k → i ≤ k ∧ ∃ o, (p :: l)[k - i]? = some o ∧ o.dst = some t := fun h => by
      obtain ⟨h1, o, h2, h3⟩ := dstAt_some h
      refine ⟨by omega, o, ?_, h3⟩
      rw [show k - i = (k - (i + 1)) + 1 by omega, List.getElem?_cons_succ]
      exact h2
    cases hd : p.dst with
    | none => rw [hd] at h; exact go1 h
    | some d =>
      rw [hd] at h
      simp only at h
      cases hb : Nat.beq d t with
      | false => rw [hb, cond_false] at h; exact go1 h
      | true =>
        rw [hb, cond_true] at h
        cases h
        exact ⟨Nat.le_refl _, p, by simp, by rw [hd, nbeq_of hb]⟩
theorem evA_map {E : Env} {a : Tree AV} {op : Op} {es : List (AV × AV)} {mk : Nat → AV} (h : evA E a op = some (.map es, mk)) : es = [] ∧ ∃ ti, op = .makeMap ti none := by
  cases op
  case makeMap t r =>
    cases r with
    | none => cases h; exact ⟨rfl, t, rfl⟩
    | some r => cases h
  case alloc e =>
    simp only [evA] at h
    split at h <;> try (cases h; done)
    split at h <;> try (cases h; done)
    obtain ⟨_, h⟩ := bif_some h
    cases h
  case box e x =>
    simp only [evA] at h
    split at h <;> try (cases h; done)
    obtain ⟨_, h⟩ := bif_some h
    cases h
  case buildSlice t n ps =>
    simp only [evA] at h
    split at h <;> try (cases h; done)
    split at h <;> try (cases h; done)
    split at h <;> try (cases h; done)
    split at h <;> try (cases h; done)
    split at h <;> try (cases h; done)
    obtain ⟨_, h⟩ := bif_some h
    split at h <;> try (cases h; done)
    obtain ⟨_, h⟩ := bif_some h
    cases h
  case makeSlice t x y =>
    simp only [evA] at h
    split at h <;> try (cases h; done)
    split at h <;> try (cases h; done)
    split at h <;> try (cases h; done)
    split at h <;> try (cases h; done)
    split at h <;> try (cases h; done)
    split at h <;> try (cases h; done)
    obtain ⟨_, h⟩ := bif_some h
    cases h
  all_goals cases h
theorem ents_insTo {E : Env} {dn i : Nat} {a : Tree AV} {ops : Array Oper} (hone : ∀ (k k' t : Nat) (o o' : Oper), ops[k]? = some o → ops[k']? = some o' → o.dst = some t → o'.dst = some t → k = k') {o : Oper} (ho : ops[i]? = some o) {blk : Blk} {mk : Nat → AV} (hA : evA E a o.op = some (blk, mk))
    {ents : List (Nat × AV × AV)} (h : entsA E cl dn i a ops.toList blk o.dst = some ents) {e : Nat × AV × AV} (he : e ∈ ents) : ∃ oe, ops[e.1]? = some oe ∧ insTo ops.toList oe = some i := by
  have hblk : ∃ es, blk = .map es := by
    cases blk with
    | map es => exact ⟨es, rfl⟩
    | cells => cases h; cases he
    | ro => cases h; cases he
    | loop => cases h; cases he
  obtain ⟨es, rfl⟩ := hblk
  obtain ⟨_, ti, hti⟩ := evA_map hA
  obtain ⟨oe, ty, k, v, t, h1, h2, h3, _⟩ := entsA_ins h he
  rw [Array.getElem?_toList] at h1
  refine ⟨oe, h1, ?_⟩
  cases hd : dstAt t ops.toList 0 with
  | none => exact absurd h2 (dstAt_none hd o (by rw [← Array.getElem?_toList] at ho; exact List.mem_of_getElem? ho))
  | some i' =>
    obtain ⟨_, o', g1, g2⟩ := dstAt_some hd
    rw [Nat.sub_zero, Array.getElem?_toList] at g1
    have := hone i' i t o' o g1 ho g2 h2
    subst this
    unfold insTo
    simp only [h3, hd, nthL_eq, Array.getElem?_toList, ho, hti]
end
end
end Go.Proofs.YtbioklhoolkhkadGreatDoor
namespace Go.Proofs.YtbioklhoolkhkadGreatDoor
set_option linter.unusedVariables false
set_option linter.unusedSimpArgs false
set_option linter.unusedSectionVars false
open Go Go.RowKit
noncomputable section

section
variable {E : Env} {call : CallF} {nt : Nat} {ops : List Oper} {cl : Tree Nat}
theorem Tr.anti {l : List Nat} {d di dk : DSt} {i k : Nat} (h : Tr E call nt ops cl l d i di) (hk : Tr E call nt ops cl l d k dk) (h1 : d.done.testBit i = false) (h2 : d.done.testBit k = false) (hne : i ≠ k) (hik : dk.done.testBit i = true) : di.done.testBit k = false := by
  induction h with
  | here _ => exact h2
  | next hs hne2 h3 ih =>
    rcases Tr.inv hs hk with ⟨_, e⟩ | ⟨hjk, h4⟩
    · rw [e, h1] at hik; cases hik
    · refine ih h4 ?_ ?_ hne hik
      · rw [(stepC_inv hs).done.2, h1, Bool.false_or]; exact decide_eq_false hne2
      · rw [(stepC_inv hs).done.2, h2, Bool.false_or]; exact decide_eq_false hjk
theorem Tr.set {l : List Nat} {d di dk dk' : DSt} {i k t : Nat} (hk : Tr E call nt ops cl l d k dk) (hs : stepC E call nt ops cl k dk = some dk') (hi : Tr E call nt ops cl l d i di) (hn : l.Nodup) (h1 : d.done.testBit k = false) (hik : di.done.testBit k = true)
    (ht : ∀ j o, j ∈ l → j ≠ k → ops[j]? = some o → o.dst ≠ some t) : di.a.get t = dk'.a.get t := by
  induction hk with
  | here h2 =>
    rw [h2] at hs
    cases hs
    rcases Tr.inv h2 hi with ⟨_, e⟩ | ⟨_, h3⟩
    · rw [e, h1] at hik; cases hik
    · exact h3.get fun j o hj _ ho => ht j o (.tail _ hj) (fun e => by subst e; exact (List.nodup_cons.1 hn).1 hj) ho
  | next h2 hne _ ih =>
    rcases Tr.inv h2 hi with ⟨_, e⟩ | ⟨_, h3⟩
    · rw [e, h1] at hik; cases hik
    · refine ih hs h3 (List.nodup_cons.1 hn).2 ?_ hik fun j o hj => ht j o (.tail _ hj)
      rw [(stepC_inv h2).done.2, h1, Bool.false_or]
      exact decide_eq_false hne
end
abbrev HoldF := Nat → Option (Nat × Nat × Obj)
/-- R', n' go on from where the evaluation stands, and have the held blocks that i waits for. -/
def OKR (E : Env) (call : CallF) (nt : Nat) (ops : Array Oper) (cl : Tree Nat) (l : List Nat) (d : DSt) (Hd : HoldF) (R : Nat → Nat × Nat) (i : Nat) (R' : Nat → Nat × Nat) (n' : Nat) : Prop :=
  Ext d.s.nx R R' ∧ d.s.nx ≤ n' ∧ ∀ k D sz o dk, (k = i ∨ Before ops k i) → Hd k = some (D, sz, o) → Tr E call nt ops.toList cl l d k dk → dk.s.nx < n' ∧ R' dk.s.nx = (D, sz)
theorem OKR.sub {E : Env} {call : CallF} {nt : Nat} {ops : Array Oper} {cl : Tree Nat} {l : List Nat} {d : DSt} {Hd : HoldF} {R R' : Nat → Nat × Nat} {i k n' : Nat} (h : OKR E call nt ops cl l d Hd R i R' n') (hb : Before ops k i) : OKR E call nt ops cl l d Hd R k R' n' :=
  ⟨h.1, h.2.1, fun j D sz o dj hj => h.2.2 j D sz o dj (.inr (by rcases hj with rfl | hj; exact hb; exact hb.trans hj))⟩
/-- The entries that are there. -/
def entsIn (ents : List (Nat × AV × AV)) (listed : Array Bool) : List (Nat × AV × AV) := ents.filter fun e => listed[e.1]? == some true
def OKRs (E : Env) (call : CallF) (nt : Nat) (ops : Array Oper) (cl : Tree Nat) (l : List Nat) (d : DSt) (Hd : HoldF) (R : Nat → Nat × Nat) (i : Nat) (ents : List (Nat × AV × AV)) (listed : Array Bool) (R' : Nat → Nat × Nat) (n' : Nat) : Prop :=
  OKR E call nt ops cl l d Hd R i R' n' ∧ ∀ e ∈ ents, listed[e.1]? = some true → OKR E call nt ops cl l d Hd R e.1 R' n'
/-- What holds at a stage's boundary, in every order. -/
structure J (P : Program) (E : Env) (call : CallF) (nt : Nat) (ops : Array Oper) (cl : Tree Nat) (fr : Nat → Option Obj) (w0 : World) (ds : List Deferred) (df : DSt) (l : List Nat) (d : DSt) (listed : Array Bool) (Hd : HoldF) (fr' : Nat → Option Obj) (R : Nat → Nat × Nat) (act : Act) (w : World) : Prop where
  run : runC E call nt ops.toList cl l d = some df
  done : ∀ k, d.done.testBit k = true → listed[k]? = some true
  closed : Closed ops listed
  hr : HR fr' R d.s w0 w
  frs : ∀ k o, fr k = some o → fr' k = some o
  held : ∀ i D sz o, Hd i = some (D, sz, o) → listed[i]? = some true ∧ fr' D = some o ∧ fr D = none ∧ ∃ di di' op blk mk ents, Tr E call nt ops.toList cl l d i di ∧ stepC E call nt ops.toList cl i di = some di' ∧ ops[i]? = some op ∧ evA E di.a op.op = some (blk, mk) ∧ di'.s = di.s.new (fillB blk ents) ∧ entsA E cl di.done i di.a ops.toList blk op.dst = some ents ∧
    ∀ R' n', OKRs E call nt ops cl l d Hd R i ents listed R' n' → BR R' n' sz (fillB blk (entsIn ents listed)) o
  inj : ∀ i k D sz o sz' o', Hd i = some (D, sz, o) → Hd k = some (D, sz', o') → i = k
  noact : ∀ i, listed[i]? = some true → ¬ ActAt E call nt ops.toList cl l d i
  all : ∀ i di di', listed[i]? = some true → Tr E call nt ops.toList cl l d i di → stepC E call nt ops.toList cl i di = some di' → di'.s = di.s ∨ Hd i ≠ none
  early : ∀ i di di' op t, listed[i]? = some true → Tr E call nt ops.toList cl l d i di → stepC E call nt ops.toList cl i di = some di' → ops[i]? = some op → op.dst = some t →
    ∃ v x, act.tmps[t]? = some v ∧ di'.a.get t = some x ∧ ∀ R' n', OKR E call nt ops cl l d Hd R i R' n' → VR R' n' x v
  rest : ∀ t x, d.a.get t = some x → (∀ i di op, listed[i]? = some true → Tr E call nt ops.toList cl l d i di → ops[i]? = some op → op.dst ≠ some t) → ∃ v, act.tmps[t]? = some v ∧ VR R d.s.nx x v
  nt : act.tmps.size = nt
  ds : act.defers = ds
  fills : ∀ (i j : Nat) (oj : Oper), d.done.testBit i = true → ops[j]? = some oj → insTo ops.toList oj = some i → listed[j]? = some true
section
variable {P : Program} {E : Env} {call : CallF} {nt : Nat} {ops : Array Oper} {cl : Tree Nat} {fr fr' : Nat → Option Obj} {w0 w : World} {ds : List Deferred} {df d : DSt} {l : List Nat} {listed : Array Bool} {Hd : HoldF} {R : Nat → Nat × Nat} {act : Act}
/-- What a temporary holds is what the evaluation has there. -/
theorem J.sees' (j : J P E call nt ops cl fr w0 ds df l d listed Hd fr' R act w) (hfull : ∀ (k : Nat) (o : Oper), ops[k]? = some o → df.done.testBit k = true) {i : Nat} {di : DSt} (hi : Tr E call nt ops.toList cl l d i di) {t : Nat}
    (hone : ∀ (k k' : Nat) (o o' : Oper), ops[k]? = some o → ops[k']? = some o' → o.dst = some t → o'.dst = some t → k = k') {R' : Nat → Nat × Nat} {n' : Nat} (hE : Ext d.s.nx R R') (hn' : d.s.nx ≤ n')
    (hk : ∀ (k : Nat) (o : Oper), ops[k]? = some o → o.dst = some t → (di.done.testBit k = true ∧ listed[k]? = some true ∧ OKR E call nt ops cl l d Hd R k R' n') ∨ (di.done.testBit k = false ∧ listed[k]? ≠ some true)) {x : AV} (hx : di.a.get t = some x) :
    ∃ v, act.tmps[t]? = some v ∧ VR R' n' x v := by
  obtain ⟨q1, q2, q3⟩ := runC_done l j.run
  have hget : ∀ {k : Nat}, ops.toList[k]? = ops[k]? := fun {k} => Array.getElem?_toList
  have base : (∀ (k : Nat) (o : Oper), ops[k]? = some o → o.dst = some t → ¬ (k ∈ l ∧ di.done.testBit k = true)) → (∀ (k : Nat) (o : Oper), ops[k]? = some o → o.dst = some t → k ∈ l → listed[k]? ≠ some true) → ∃ v, act.tmps[t]? = some v ∧ VR R' n' x v := fun g1 g2 => by
    have e : di.a.get t = d.a.get t := hi.get fun k o hk hd ho hdst => g1 k o (by rw [← hget]; exact ho) hdst ⟨hk, hd⟩
    rw [e] at hx
    obtain ⟨v, h1, h2⟩ := j.rest t x hx fun k dk o hl hk ho hdst => g2 k o ho hdst hk.mem hl
    exact ⟨v, h1, h2.mono hn' hE⟩
  by_cases hke : ∃ (k : Nat) (o : Oper), ops[k]? = some o ∧ o.dst = some t
  · obtain ⟨k, o, ho, hdst⟩ := hke
    have huniq : ∀ (k' : Nat) (o' : Oper), ops[k']? = some o' → o'.dst = some t → k' = k := fun k' o' h1 h2 => hone _ _ _ _ h1 ho h2 hdst
    rcases hk k o ho hdst with ⟨hdk, hkl, hok⟩ | ⟨hdk, hkl⟩
    · by_cases hd : d.done.testBit k = true
      · have hnl : k ∉ l := fun h => by rw [q3 k h] at hd; cases hd
        exact base (fun k' o' h1 h2 h3 => hnl (by rw [← huniq k' o' h1 h2]; exact h3.1)) fun k' o' h1 h2 h3 => absurd (by rw [← huniq k' o' h1 h2]; exact h3) hnl
      · have hl : k ∈ l := ((q1 k).1 (hfull k o ho)).resolve_left hd
        obtain ⟨dk, tk⟩ := Tr.ex l j.run hl
        obtain ⟨dk', hs⟩ := tk.step
        obtain ⟨v, y, h1, h2, h3⟩ := j.early k dk dk' o t hkl tk hs ho hdst
        have := Tr.set (t := t) tk hs hi q2 (by simpa using hd) hdk fun k' o' _ hne ho' hdst' => hne (huniq k' o' (by rw [← hget]; exact ho') hdst')
        rw [hx, h2] at this
        cases this
        exact ⟨v, h1, h3 R' n' hok⟩
    · exact base (fun k' o' h1 h2 h3 => by rw [huniq k' o' h1 h2, hdk] at h3; cases h3.2) fun k' o' h1 h2 _ => by rw [huniq k' o' h1 h2]; exact hkl
  · exact base (fun k o ho hdst _ => hke ⟨k, o, ho, hdst⟩) fun k o ho hdst _ => absurd ⟨k, o, ho, hdst⟩ hke
/-- What an operation that may come up sees in a temporary is what the evaluation saw. -/
theorem J.sees (j : J P E call nt ops cl fr w0 ds df l d listed Hd fr' R act w) (hmask : MaskOK ops cl) (hfull : ∀ (k : Nat) (o : Oper), ops[k]? = some o → df.done.testBit k = true) {i : Nat} {di : DSt} (hi : Tr E call nt ops.toList cl l d i di)
    (hb : ∀ k, Before ops k i → listed[k]? = some true) (hn : listed[i]? ≠ some true) {m : Nat} (hm : cl.get i = some m) {t : Nat} (ht : ∀ (k : Nat) (ok : Oper), ops[k]? = some ok → ok.dst = some t → m.testBit k = true ∨ ∃ mk, cl.get k = some mk ∧ mk.testBit i = true)
    (hone : ∀ (k k' : Nat) (o o' : Oper), ops[k]? = some o → ops[k']? = some o' → o.dst = some t → o'.dst = some t → k = k') {x : AV} (hx : di.a.get t = some x) {R' : Nat → Nat × Nat} {n' : Nat} (ok : OKR E call nt ops cl l d Hd R i R' n') :
    ∃ v, act.tmps[t]? = some v ∧ VR R' n' x v := by
  obtain ⟨q1, q2, q3⟩ := runC_done l j.run
  have hget : ∀ {k : Nat}, ops.toList[k]? = ops[k]? := fun {k} => Array.getElem?_toList
  have base : (∀ (k : Nat) (o : Oper), ops[k]? = some o → o.dst = some t → ¬ (k ∈ l ∧ di.done.testBit k = true)) → (∀ (k : Nat) (o : Oper), ops[k]? = some o → o.dst = some t → k ∈ l → listed[k]? ≠ some true) → ∃ v, act.tmps[t]? = some v ∧ VR R' n' x v := fun g1 g2 => by
    have e : di.a.get t = d.a.get t := hi.get fun k o hk hd ho hdst => g1 k o (by rw [← hget]; exact ho) hdst ⟨hk, hd⟩
    rw [e] at hx
    obtain ⟨v, h1, h2⟩ := j.rest t x hx fun k dk o hl hk ho hdst => g2 k o ho hdst hk.mem hl
    exact ⟨v, h1, h2.mono ok.2.1 ok.1⟩
  by_cases hk : ∃ (k : Nat) (o : Oper), ops[k]? = some o ∧ o.dst = some t
  · obtain ⟨k, o, ho, hdst⟩ := hk
    have huniq : ∀ (k' : Nat) (o' : Oper), ops[k']? = some o' → o'.dst = some t → k' = k := fun k' o' h1 h2 => hone _ _ _ _ h1 ho h2 hdst
    rcases ht k o ho hdst with hmk | ⟨mk, hmk, hki⟩
    · have hkl := hb k (hmask i m hm k hmk)
      by_cases hd : d.done.testBit k = true
      · have hnl : k ∉ l := fun h => by rw [q3 k h] at hd; cases hd
        exact base (fun k' o' h1 h2 h3 => hnl (by rw [← huniq k' o' h1 h2]; exact h3.1)) fun k' o' h1 h2 h3 => absurd (by rw [← huniq k' o' h1 h2]; exact h3) hnl
      · have hl : k ∈ l := ((q1 k).1 (hfull k o ho)).resolve_left hd
        obtain ⟨dk, hdk⟩ := Tr.ex l j.run hl
        obtain ⟨dk', hs⟩ := hdk.step
        obtain ⟨v, y, h1, h2, h3⟩ := j.early k dk dk' o t hkl hdk hs ho hdst
        obtain ⟨di', hsi⟩ := hi.step
        obtain ⟨m', hm', hbef⟩ := (stepC_inv hsi).before
        rw [hm] at hm'
        cases hm'
        have hik : di.done.testBit k = true := hbef k hmk
        have := Tr.set (t := t) hdk hs hi q2 (by simpa using hd) hik fun k' o' _ hne ho' hdst' => hne (huniq k' o' (by rw [← hget]; exact ho') hdst')
        rw [hx, h2] at this
        cases this
        exact ⟨v, h1, h3 R' n' (ok.sub (hmask i m hm k hmk))⟩
    · have hkn : listed[k]? ≠ some true := fun h => hn (j.closed k i h (hmask k mk hmk i hki))
      refine base (fun k' o' h1 h2 h3 => ?_) fun k' o' h1 h2 _ => by rw [huniq k' o' h1 h2]; exact hkn
      obtain ⟨h3, h4⟩ := h3
      rw [huniq k' o' h1 h2] at h3 h4
      obtain ⟨dk, hdk⟩ := Tr.ex l j.run h3
      obtain ⟨dk', hs⟩ := hdk.step
      obtain ⟨m', hm', hbef⟩ := (stepC_inv hs).before
      rw [hmk] at hm'
      cases hm'
      have hki' := hbef i hki
      have hne : i ≠ k := fun e => by
        have := hdk.not
        rw [← e] at this
        have h5 := hbef i hki
        rw [this] at h5
        cases h5
      have := hi.anti hdk (q3 i hi.mem) (q3 k h3) hne hki'
      rw [h4] at this
      cases this
  · exact base (fun k o ho hdst _ => hk ⟨k, o, ho, hdst⟩) fun k o ho hdst _ => absurd ⟨k, o, ho, hdst⟩ hk
end
end
end Go.Proofs.YtbioklhoolkhkadGreatDoor
namespace Go.Proofs.YtbioklhoolkhkadGreatDoor
set_option linter.unusedVariables false
set_option linter.unusedSimpArgs false
set_option linter.unusedSectionVars false
open Go Go.RowKit
noncomputable section

section
variable {E : Env} {call : CallF} {nt : Nat} {ops : List Oper} {cl : Tree Nat}
theorem runC_nx : ∀ (l : List Nat) {d df : DSt}, runC E call nt ops cl l d = some df → d.s.nx ≤ df.s.nx
  | [], d, df, h => by cases h; exact Nat.le_refl _
  | i :: l, d, df, h => by
    simp only [runC] at h
    split at h <;> try (cases h; done)
    rename_i d1 h1
    exact Nat.le_trans (stepC_inv h1).nx (runC_nx l h)
theorem Tr.nx_final {l : List Nat} {d df dk dk' : DSt} {k : Nat} (h : Tr E call nt ops cl l d k dk) (hs : stepC E call nt ops cl k dk = some dk') (hr : runC E call nt ops cl l d = some df) : dk'.s.nx ≤ df.s.nx := by
  induction h with
  | here h1 =>
    rw [h1] at hs
    cases hs
    simp only [runC, h1] at hr
    exact runC_nx _ hr
  | next h1 _ _ ih =>
    simp only [runC, h1] at hr
    exact ih hs hr
end
section
variable {P : Program} {E : Env} {call : CallF} {nt : Nat} {ops : Array Oper} {cl : Tree Nat} {fr fr' : Nat → Option Obj} {w0 w : World} {ds : List Deferred} {df d : DSt} {l : List Nat} {listed : Array Bool} {Hd : HoldF} {R : Nat → Nat × Nat} {act : Act}
theorem J.uniq (j : J P E call nt ops cl fr w0 ds df l d listed Hd fr' R act w) {i k : Nat} {di dk : DSt} {x y : Nat × Nat × Obj} (hi : Hd i = some x) (hk : Hd k = some y) (ti : Tr E call nt ops.toList cl l d i di) (tk : Tr E call nt ops.toList cl l d k dk) (e : di.s.nx = dk.s.nx) : i = k := by
  obtain ⟨D, sz, o⟩ := x
  obtain ⟨D2, sz2, o2⟩ := y
  obtain ⟨_, _, _, ei, ei', _, bi, _, _, t1, s1, _, _, n1, _⟩ := j.held i D sz o hi
  obtain ⟨_, _, _, ek, ek', _, bk, _, _, t2, s2, _, _, n2, _⟩ := j.held k D2 sz2 o2 hk
  have e1 := t1.det ti
  subst e1
  have e2 := t2.det tk
  subst e2
  obtain ⟨_, _, q3⟩ := runC_done l j.run
  by_cases hne : i = k
  · exact hne
  · rcases t1.total t2 hne with h | h
    · have := t1.lt s1 t2 (q3 i t1.mem) h
      rw [n1] at this
      have : ei.s.nx + 1 ≤ ek.s.nx := this
      omega
    · have := t2.lt s2 t1 (q3 k t2.mem) h
      rw [n2] at this
      have : ek.s.nx + 1 ≤ ei.s.nx := this
      omega
/-- There are such numbers. -/
theorem J.ex (j : J P E call nt ops cl fr w0 ds df l d listed Hd fr' R act w) : ∃ R' n', ∀ i, OKR E call nt ops cl l d Hd R i R' n' := by
  classical
  let C : Nat → Nat × Nat → Prop := fun b p => ∃ k o dk, Hd k = some (p.1, p.2, o) ∧ Tr E call nt ops.toList cl l d k dk ∧ dk.s.nx = b
  refine ⟨fun b => if hx : ∃ p, C b p then hx.choose else R b, df.s.nx, fun i => ⟨fun b hb => ?_, runC_nx l j.run, fun k D sz o dk _ hk tk => ⟨?_, ?_⟩⟩⟩
  · have : ¬ ∃ p, C b p := by
      rintro ⟨p, k, o, dk, _, tk, e⟩
      have := tk.nx
      omega
    simp only [dif_neg this]
  · obtain ⟨_, _, _, ek, ek', _, bk, _, _, t2, s2, _, _, n2, _⟩ := j.held k D sz o hk
    have e2 := t2.det tk
    subst e2
    have := t2.nx_final s2 j.run
    rw [n2] at this
    exact this
  · have hx : ∃ p, C dk.s.nx p := ⟨(D, sz), k, o, dk, hk, tk, rfl⟩
    simp only [dif_pos hx]
    obtain ⟨k2, o2, dk2, h2, t2, e2⟩ := hx.choose_spec
    have := j.uniq h2 hk t2 tk e2
    subst this
    rw [hk] at h2
    have h3 := Option.some.inj h2
    have h4 := (Prod.mk.inj h3).1
    have h5 := (Prod.mk.inj (Prod.mk.inj h3).2).1
    exact Prod.ext h4.symm h5.symm
end
end
end Go.Proofs.YtbioklhoolkhkadGreatDoor
namespace Go.Proofs.YtbioklhoolkhkadGreatDoor
set_option linter.unusedVariables false
set_option linter.unusedSimpArgs false
set_option linter.unusedSectionVars false
open Go Go.RowKit
noncomputable section

theorem put_ne {act : Act} {dst : Option Tmp} {t : Nat} {v : Value} (h : dst ≠ some t) : (act.put dst v).tmps[t]? = act.tmps[t]? := by
  cases dst with
  | none => rfl
  | some d =>
    have hd : d ≠ t := fun e => h (by rw [e])
    show (act.tmps.setIfInBounds d v)[t]? = _
    rw [Array.getElem?_setIfInBounds_ne hd]
theorem put_eq {act : Act} {t : Nat} {v : Value} (h : t < act.tmps.size) : (act.put (some t) v).tmps[t]? = some v := by
  show (act.tmps.setIfInBounds t v)[t]? = _
  simp [h]
theorem put_size {act : Act} {dst : Option Tmp} {v : Value} : (act.put dst v).tmps.size = act.tmps.size := by
  cases dst with
  | none => rfl
  | some d => show (act.tmps.setIfInBounds d v).size = _; rw [Array.size_setIfInBounds]
theorem put_defers {act : Act} {dst : Option Tmp} {v : Value} : (act.put dst v).defers = act.defers := by
  cases dst <;> rfl
theorem putA_lt {nt : Nat} {a a' : Tree AV} {t : Nat} {x : AV} (h : putA nt a (some t) x = some a') : t < nt := by
  simp only [putA] at h
  cases hb : Nat.blt t nt with
  | false => rw [hb] at h; cases h
  | true => exact nblt_of hb
section
variable {P : Program} {E : Env} {call : CallF} {nt : Nat} {ops : Array Oper} {cl : Tree Nat} {fr fr' : Nat → Option Obj} {w0 w w' : World} {ds : List Deferred} {df d : DSt} {l : List Nat} {listed : Array Bool} {Hd : HoldF} {R : Nat → Nat × Nat} {act : Act}
/-- Nothing is added to a map by what is no insert of it. -/
theorem entsIn_add {ents : List (Nat × AV × AV)} {i : Nat} (hi : listed[i]? = some false) (hn : ∀ e ∈ ents, e.1 ≠ i) : entsIn ents (listed.setIfInBounds i true) = entsIn ents listed := by
  unfold entsIn
  refine List.filter_congr fun e he => ?_
  rw [list_get hi, if_neg (hn e he)]
theorem OKRs.less {ents : List (Nat × AV × AV)} {i k n' : Nat} {R' : Nat → Nat × Nat} (hi : listed[i]? = some false) (hn : ∀ e ∈ ents, e.1 ≠ i) (h : OKRs E call nt ops cl l d Hd R k ents (listed.setIfInBounds i true) R' n') : OKRs E call nt ops cl l d Hd R k ents listed R' n' :=
  ⟨h.1, fun e he hl => h.2 e he (by rw [list_get hi, if_neg (hn e he)]; exact hl)⟩
theorem ents_ne {i j : Nat} {a : Tree AV} {dn : Nat} {blk : Blk} {dst : Option Tmp} {ents : List (Nat × AV × AV)} {o : Oper} (h : entsA E cl dn i a ops.toList blk dst = some ents) (ho : ops[j]? = some o) (hni : ∀ ty t k v, o.op = .insert ty (.tmp t) k v → o.guard ≠ none) : ∀ e ∈ ents, e.1 ≠ j := fun e he e1 => by
  obtain ⟨o', ty, k, v, t, h1, _, h3, h4⟩ := entsA_ins h he
  rw [e1, Array.getElem?_toList, ho] at h1
  cases h1
  exact hni ty t k v h3 h4.gd
theorem J.add (j : J P E call nt ops cl fr w0 ds df l d listed Hd fr' R act w) (hone : ∀ (k k' t : Nat) (o o' : Oper), ops[k]? = some o → ops[k']? = some o' → o.dst = some t → o'.dst = some t → k = k')
    {i : Nat} (hr : i ∈ Region.ready .any ops listed) {di di' : DSt} (ti : Tr E call nt ops.toList cl l d i di) (hs : stepC E call nt ops.toList cl i di = some di') {o : Oper} (ho : ops[i]? = some o) (hni : ∀ ty t k v, o.op = .insert ty (.tmp t) k v → o.guard ≠ none) (hsame : di'.s = di.s) (hh : di'.hist = di.hist) {x : AV} (hp : putA nt di.a o.dst x = some di'.a)
    (hw : HR fr' R d.s w0 w') {v : Value} (hv : ∀ R' n', OKR E call nt ops cl l d Hd R i R' n' → VR R' n' x v) :
    J P E call nt ops cl fr w0 ds df l d (listed.setIfInBounds i true) Hd fr' R (act.put o.dst v) w' := by
  have hi := ready_not hr
  have hl : ∀ k, listed[k]? = some true → (listed.setIfInBounds i true)[k]? = some true := fun k hk => by
    rw [list_get hi]
    by_cases e : k = i
    · rw [if_pos e]
    · rw [if_neg e]; exact hk
  have hl2 : ∀ k, (listed.setIfInBounds i true)[k]? = some true → k = i ∨ listed[k]? = some true := fun k hk => by
    rw [list_get hi] at hk
    by_cases e : k = i
    · exact .inl e
    · rw [if_neg e] at hk; exact .inr hk
  refine ⟨j.run, fun k hk => hl k (j.done k hk), j.closed.add hr, hw, j.frs, fun k D sz ob hk => ?_, j.inj, fun k hk => ?_, fun k dk dk' hk tk sk => ?_, fun k dk dk' op t hk tk sk hop hdst => ?_, fun t y hy hno => ?_, ?_, ?_, fun k q oq h1 h2 h3 => hl q (j.fills k q oq h1 h2 h3)⟩
  · obtain ⟨h1, h2, h3, dk, dk', op, b2, m2, ents, t2, s4, h4, h5, h6, h8, h7⟩ := j.held k D sz ob hk
    have hne := ents_ne h8 ho hni
    refine ⟨hl k h1, h2, h3, dk, dk', op, b2, m2, ents, t2, s4, h4, h5, h6, h8, fun R' n' h => ?_⟩
    rw [entsIn_add hi hne]
    exact h7 R' n' (h.less hi hne)
  · rcases hl2 k hk with rfl | hk
    · rintro ⟨dc, dc', t1, s1, n1⟩
      have := t1.det ti
      subst this
      rw [hs] at s1
      cases s1
      exact n1 hh
    · exact j.noact k hk
  · rcases hl2 k hk with rfl | hk
    · have := tk.det ti
      subst this
      rw [hs] at sk
      cases sk
      exact .inl hsame
    · exact j.all k dk dk' hk tk sk
  · by_cases hki : k = i
    · subst hki
      have := tk.det ti
      subst this
      rw [hs] at sk
      cases sk
      rw [ho] at hop
      cases hop
      rw [hdst] at hp
      refine ⟨v, x, ?_, ?_, hv⟩
      · rw [hdst]; exact put_eq (by rw [j.nt]; exact putA_lt hp)
      · rw [putA_get hp, if_pos rfl]
    · have hk' := (hl2 k hk).resolve_left hki
      obtain ⟨u, y, h1, h2, h3⟩ := j.early k dk dk' op t hk' tk sk hop hdst
      refine ⟨u, y, ?_, h2, h3⟩
      rw [put_ne (fun e => hki (hone k i t op o hop ho hdst e))]
      exact h1
  · have hne : o.dst ≠ some t := hno i di o (by rw [list_get hi, if_pos rfl]) ti ho
    rw [put_ne hne]
    exact j.rest t y hy fun k dk op hk => hno k dk op (hl k hk)
  · rw [put_size]; exact j.nt
  · rw [put_defers]; exact j.ds
end
end
end Go.Proofs.YtbioklhoolkhkadGreatDoor
