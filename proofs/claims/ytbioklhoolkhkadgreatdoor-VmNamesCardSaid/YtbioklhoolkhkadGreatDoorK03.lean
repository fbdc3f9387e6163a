/- An evaluator of closed calls: lengths, conversions, maps. No program in sight. An evaluator of closed calls: maps written, append, copy. No program in sight. An evaluator of closed calls: append. No program in sight. An evaluator of closed calls: one operation, all kinds but calls. No program in sight. -/
import Derived.Test.YtbioklhoolkhkadGreatDoorK02
namespace Go.Proofs.YtbioklhoolkhkadGreatDoor
set_option linter.unusedVariables false
set_option linter.unusedSimpArgs false
set_option linter.unusedSectionVars false
open Go Go.RowKit
noncomputable section

section
variable {P : Program} {E : Env} {F : Nat → Option Obj} {R : Nat → Nat × Nat} {s s' : St} {w0 w : World} {n : Nat}
theorem HR.map (h : HR F R s w0 w) {b : Nat} {es : List (AV × AV)} (hb : s.h.get b = some (.map es)) :
    ∃ (mes : Array MapEntry) (cl : Nat) (es1 : List (AV × AV)), w.heap[(R b).1]? = some (.map mes cl) ∧ es1.Perm es ∧ Dist es ∧ VRL R s.nx (es1.map Prod.fst) (mes.toList.map (·.key)) ∧ VRL R s.nx (es1.map Prod.snd) (mes.toList.map (·.val)) := by
  obtain ⟨_, o, h1, mes, cl, es1, rfl, hp, hd, h3, h4⟩ := h.own b _ hb
  exact ⟨mes, cl, es1, h1, hp, hd, h3, h4⟩
theorem op_len (hE : EnvOK P E) (h : HR F R s w0 w) {t ty : TypeId} {u : TI} (hu : E.tt.get t = some u) {x : AV} {v : Value} (hx : VR R s.nx x v) {k : Nat} (hk : lenA s u x = some k) :
    (Builtin.len_ #[t] ty #[v]).run P w = .ok (.int .i64 (k : Int)) w := by
  obtain ⟨_, ⟨d, hd, hkd⟩, -⟩ := hE.tt t u hu
  unfold lenA at hk
  split at hk
  · rename_i l hke
    rw [hke] at hkd
    obtain rfl : d = .string := hkd
    cases hk
    simp only [VR] at hx
    obtain ⟨rfl, _⟩ := hx
    simp [Builtin.len_, run_underlying hd, bytesA_size, goInt]
  · rename_i e hke
    rw [hke] at hkd
    obtain rfl : d = .slice e := hkd
    cases hk
    simp only [VR] at hx
    subst hx
    simp [Builtin.len_, run_underlying hd, goInt]
  · rename_i e b o m c ex zq hke
    rw [hke] at hkd
    obtain rfl : d = .slice e := hkd
    cases hk
    simp only [VR] at hx
    obtain ⟨_, o', c', rfl, _⟩ := hx
    simp [Builtin.len_, run_underlying hd, goInt]
  · rename_i e1 e2 hke
    rw [hke] at hkd
    obtain rfl : d = .map e1 e2 := hkd
    cases hk
    simp only [VR] at hx
    subst hx
    simp [Builtin.len_, run_underlying hd, goInt]
  · rename_i e1 e2 b hke
    rw [hke] at hkd
    obtain rfl : d = .map e1 e2 := hkd
    simp only [VR] at hx
    obtain ⟨_, rfl⟩ := hx
    split at hk
    · rename_i es hes
      cases hk
      obtain ⟨mes, cl, es1, h1, hp, _, h2, _⟩ := h.map hes
      have hl := h2.length
      simp only [List.length_map, Array.length_toList] at hl
      rw [hp.length_eq] at hl
      simp [Builtin.len_, run_underlying hd, goInt, MapKept.run_getObj_map h1, hl]
    · cases hk
  · cases hk
theorem baEq (a b : ByteArray) : (a == b) = decide (a = b) := by
  obtain ⟨a⟩ := a
  obtain ⟨b⟩ := b
  have : (ByteArray.mk a == ByteArray.mk b) = (a == b) := rfl
  rw [this]
  by_cases e : a = b
  · subst e; simp
  · rw [beq_eq_false_iff_ne.2 e, decide_eq_false (fun h => e (by cases h; rfl))]
theorem eqA1_spec {x y : AV} {r : Bool} (h : eqA1 x y = some r) {a b : Value} (hx : VR R n x a) {R' : Nat → Nat × Nat} {n' : Nat} (hy : VR R' n' y b) {d : TypeDesc} {k : TK} (hk : TKOK k d) (hkx : keyK k x = true) :
    Instr.sameNow d a b = some r := by
  unfold eqA1 at h
  split at h <;> (try simp only [VR] at hx hy)
  · subst hx; subst hy
    cases h
    cases k <;> simp only [keyK] at hkx <;> try (cases hkx)
    obtain rfl : d = .bool := hk
    rfl
  · rename_i k1 x' k2 y'
    subst hx; subst hy
    by_cases e : k1 = k2
    · subst e
      rw [decide_eq_true rfl, cond_true] at h
      cases h
      cases k <;> simp only [keyK] at hkx <;> try (cases hkx)
      obtain rfl : d = .int _ := hk
      rw [ieq_eq]
      simp only [Instr.sameNow, if_true]
      congr 1
    · rw [decide_eq_false e] at h; cases h
  · rename_i l m
    obtain ⟨rfl, hl⟩ := hx
    obtain ⟨rfl, hm⟩ := hy
    cases h
    cases k <;> simp only [keyK] at hkx <;> try (cases hkx)
    obtain rfl : d = .string := hk
    simp only [Instr.sameNow, baEq, beqL_eq]
    congr 1
    by_cases e : l = m
    · subst e; simp
    · rw [decide_eq_false e, decide_eq_false]
      intro h
      exact e (bytesA_inj hl hm h)
  · cases h
theorem check_key {t : TypeId} {d : TypeDesc} (hd : P.underlying t = some d) {k : TK} (hk : TKOK k d) {x : AV} (hkx : keyK k x = true) {a : Value} (b : Bool) (j : Nat) : (Instr.checkKey b (j + 1) t a).run P w = .ok () w := by
  cases k <;> cases x <;> simp only [keyK] at hkx <;> try (cases hkx)
  all_goals
    obtain rfl := show d = _ from hk
    simp [Instr.checkKey, run_underlying hd]
/-- A key sought. -/
theorem find_sound {d : TypeDesc} {k : TK} (hk : TKOK k d) {x : AV} (hkx : keyK k x = true) {a : Value} (hx : VR R n x a) : ∀ (es : List (AV × AV)) (mes : List MapEntry) (j : Nat) {r : Option AV}, VRL R n (es.map Prod.fst) (mes.map (·.key)) → VRL R n (es.map Prod.snd) (mes.map (·.val)) → lookM x es = some r →
    match r with
    | none => Instr.findNow d a mes j = some none
    | some y => ∃ i v, Instr.findNow d a mes j = some (some (i, v)) ∧ VR R n y v
  | [], [], j, r, h1, h2, h => by cases h; rfl
  | [], _ :: _, j, r, h1, h2, h => by simp [VRL] at h1
  | _ :: _, [], j, r, h1, h2, h => by simp [VRL] at h1
  | e :: es, m :: mes, j, r, h1, h2, h => by
    simp only [List.map_cons, VRL, List.cons.injEq] at h1 h2
    obtain ⟨_, _, ⟨rfl, rfl⟩, a1, a2⟩ := h1
    obtain ⟨_, _, ⟨rfl, rfl⟩, b1, b2⟩ := h2
    unfold lookM at h
    cases he : eqA1 x e.1 with
    | none => rw [he] at h; cases h
    | some q =>
      have hs := eqA1_spec he hx a1 hk hkx
      rw [he] at h
      unfold Instr.findNow
      rw [hs]
      cases q with
      | true => cases h; exact ⟨j, m.val, rfl, b1⟩
      | false => exact find_sound hk hkx hx es mes (j + 1) a2 b2 h
theorem op_lookup (hE : EnvOK P E) (h : HR F R s w0 w) {t : TypeId} {u : TI} (hu : E.tt.get t = some u) {kt et : TypeId} (hk : u.k = .map kt et) {uk ue : TI} (huk : E.tt.get kt = some uk) (hue : E.tt.get et = some ue) {z : AV} (hz : ue.z = some z)
    {x k : AV} {v kv : Value} (hx : VR R s.nx x v) (hkx : keyK uk.k k = true) (hkv : VR R s.nx k kv) {r : Option AV} (hr : lookA s k x = some r) (ok : Bool) :
    OpRes P F R s.nx w0 w (do pure (.value (← Instr.lookup t v kv ok))) (some (bif ok then .tup [r.getD z, .b r.isSome] else r.getD z)) s := by
  obtain ⟨_, ⟨d, hd, hkd⟩, -⟩ := hE.tt t u hu
  obtain ⟨_, ⟨dk, hdk, hkk⟩, -⟩ := hE.tt kt uk huk
  obtain ⟨_, _, i, hi, _, _, hzz⟩ := hE.tt et ue hue
  rw [hk] at hkd
  obtain rfl : d = .map kt et := hkd
  obtain ⟨zv, hzv, hR⟩ := hzz z hz
  have hzero : (zeroValue et).run P w = .ok zv w := by simp [zeroValue, typeInfo, hi, hzv]
  have key : ∃ yv : Value, VR R s.nx (r.getD z) yv ∧ (Instr.lookup t v kv ok).run P w = .ok (if ok = true then .tuple #[yv, .bool r.isSome] else yv) w := by
    cases x
    case m b =>
      simp only [VR] at hx
      simp only [lookA] at hr
      obtain ⟨_, rfl⟩ := hx
      split at hr
      · rename_i es hes
        obtain ⟨mes, cl, es1, h1, hp, hdi, h2, h3⟩ := h.map hes
        have hf := find_sound hkk hkx hkv es1 mes.toList 0 h2 h3 (lookM_perm hp hdi hr)
        have hrun : ∀ (q : Option (Nat × Value)), Instr.findNow dk kv mes.toList 0 = some q → (Instr.lookup t (.map (some (R b).1)) kv ok).run P w = .ok (if ok = true then .tuple #[(match q with | some p => p.2 | none => zv), .bool q.isSome] else (match q with | some p => p.2 | none => zv)) w := fun q hq => by
          unfold Instr.lookup
          simp only [Sem.run_bind, run_underlying hd, Result.andThen_ok, MapKept.run_getObj_map h1, Sem.run_pure, check_key hdk hkk hkx]
          unfold Instr.findKey
          simp only [Sem.run_bind, run_underlying hdk, Result.andThen_ok, hq, Sem.run_pure]
          cases q with
          | none => simp only [Sem.run_pure, Result.andThen_ok, Sem.run_bind, hzero]; cases ok <;> rfl
          | some p => simp only [Sem.run_pure, Result.andThen_ok, Sem.run_bind]; cases ok <;> rfl
        cases r with
        | none => exact ⟨zv, hR R s.nx, hrun none hf⟩
        | some y =>
          obtain ⟨i', v', e1, e2⟩ := hf
          exact ⟨v', e2, hrun _ e1⟩
      · cases hr
    case nm =>
      simp only [VR] at hx
      simp only [lookA] at hr
      cases hr
      subst hx
      refine ⟨zv, hR R s.nx, ?_⟩
      unfold Instr.lookup
      simp only [Sem.run_bind, run_underlying hd, Result.andThen_ok, Sem.run_pure, check_key hdk hkk hkx]
      unfold Instr.findKey
      simp only [Sem.run_bind, run_underlying hdk, Result.andThen_ok, Instr.findNow, Sem.run_pure, hzero]
      cases ok <;> rfl
    all_goals (simp only [lookA] at hr; cases hr)
  obtain ⟨yv, e1, e2⟩ := key
  refine OpRes.val h e2 ?_
  cases ok
  · exact e1
  · simp only [cond_true, if_true, VR]
    refine ⟨[yv, .bool r.isSome], ?_, rfl⟩
    simp only [VRL, VR]
    exact ⟨yv, _, rfl, e1, _, _, rfl, rfl, rfl⟩
end
end
end Go.Proofs.YtbioklhoolkhkadGreatDoor
namespace Go.Proofs.YtbioklhoolkhkadGreatDoor
set_option linter.unusedVariables false
set_option linter.unusedSimpArgs false
set_option linter.unusedSectionVars false
open Go Go.RowKit
noncomputable section

section
variable {P : Program} {E : Env} {F : Nat → Option Obj} {R : Nat → Nat × Nat} {s s' : St} {w0 w : World} {n : Nat}
theorem same_bits {d : TypeDesc} {a b : Value} (h : Instr.sameNow d a b = some true) (q : Nat) : Instr.sameBits (q + 1) b a = true := by
  cases d <;> cases a <;> cases b <;> simp only [Instr.sameNow] at h <;> try (cases h)
  case int.int.int =>
    rename_i k k1 n1 k2 n2
    by_cases e : k1 = k2
    · rw [if_pos e] at h
      have h2 : (n1 == n2) = true := Option.some.inj h
      subst e
      simp only [beq_iff_eq] at h2
      subst h2
      simp [Instr.sameBits]
    · rw [if_neg e] at h; cases h
  case string.string.string =>
    rename_i l m
    have h2 := Option.some.inj h
    rw [baEq, decide_eq_true_eq] at h2
    subst h2
    simp [Instr.sameBits, baEq]
  case bool.bool.bool =>
    rename_i l m
    have h2 := Option.some.inj h
    simp only [beq_iff_eq] at h2
    subst h2
    simp [Instr.sameBits]
/-- A key sought, to be written. -/
theorem upd_sound {d : TypeDesc} {k : TK} (hk : TKOK k d) {x y : AV} (hkx : keyK k x = true) {a b : Value} (hx : VR R n x a) (hy : VR R n y b) : ∀ (es : List (AV × AV)) (mes : List MapEntry) (j : Nat) {es' : List (AV × AV)}, VRL R n (es.map Prod.fst) (mes.map (·.key)) → VRL R n (es.map Prod.snd) (mes.map (·.val)) → updM x y es = some es' →
    (Instr.findNow d a mes j = some none ∧ es' = es ++ [(x, y)]) ∨
    ∃ i v e, Instr.findNow d a mes j = some (some (j + i, v)) ∧ mes[i]? = some e ∧ (∀ q, Instr.sameBits (q + 1) e.key a = true) ∧
      VRL R n (es'.map Prod.fst) ((mes.modify i fun e => { e with key := a, val := b }).map (·.key)) ∧ VRL R n (es'.map Prod.snd) ((mes.modify i fun e => { e with key := a, val := b }).map (·.val))
  | [], [], j, es', h1, h2, h => by cases h; exact .inl ⟨rfl, rfl⟩
  | [], _ :: _, j, es', h1, h2, h => by simp [VRL] at h1
  | _ :: _, [], j, es', h1, h2, h => by simp [VRL] at h1
  | e :: es, m :: mes, j, es', h1, h2, h => by
    simp only [List.map_cons, VRL, List.cons.injEq] at h1 h2
    obtain ⟨_, _, ⟨rfl, rfl⟩, a1, a2⟩ := h1
    obtain ⟨_, _, ⟨rfl, rfl⟩, b1, b2⟩ := h2
    unfold updM at h
    cases he : eqA1 x e.1 with
    | none => rw [he] at h; cases h
    | some q =>
      have hs := eqA1_spec he hx a1 hk hkx
      rw [he] at h
      unfold Instr.findNow
      rw [hs]
      cases q with
      | true =>
        cases h
        refine .inr ⟨0, m.val, m, rfl, rfl, fun q => ?_, ?_, ?_⟩
        · exact same_bits hs q
        · simp only [List.modify_zero_cons, List.map_cons, VRL]
          exact ⟨_, _, rfl, hx, a2⟩
        · simp only [List.modify_zero_cons, List.map_cons, VRL]
          exact ⟨_, _, rfl, hy, b2⟩
      | false =>
        simp only at h
        cases hu : updM x y es with
        | none => rw [hu] at h; cases h
        | some es2 =>
          rw [hu] at h
          cases h
          rcases upd_sound hk hkx hx hy es mes (j + 1) a2 b2 hu with ⟨c1, c2⟩ | ⟨i, v, e', c1, c2, c3, c4, c5⟩
          · exact .inl ⟨c1, by rw [c2]; rfl⟩
          · refine .inr ⟨i + 1, v, e', by rw [c1, Nat.add_assoc, Nat.add_comm 1 i], by simpa using c2, c3, ?_, ?_⟩
            · simp only [List.modify_succ_cons, List.map_cons, VRL]
              exact ⟨_, _, rfl, a1, c4⟩
            · simp only [List.modify_succ_cons, List.map_cons, VRL]
              exact ⟨_, _, rfl, b1, c5⟩
/-- A map written, in the world. -/
theorem upd_run (hE : EnvOK P E) {t : TypeId} {u : TI} (hu : E.tt.get t = some u) {kt et : TypeId} (hk : u.k = .map kt et) {uk : TI} (huk : E.tt.get kt = some uk)
    {D : Nat} {k y : AV} {kv yv : Value} (hkx : keyK uk.k k = true) (hkv : VR R n k kv) (hy : VR R n y yv) {mes : Array MapEntry} {cl : Nat} (h1 : w.heap[D]? = some (.map mes cl)) {es es' : List (AV × AV)} (h2 : VRL R n (es.map Prod.fst) (mes.toList.map (·.key))) (h3 : VRL R n (es.map Prod.snd) (mes.toList.map (·.val))) (hup : updM k y es = some es') :
    ∃ (mes' : Array MapEntry) (cl' : Nat), (Instr.mapUpdate t (.map (some D)) kv yv).run P w = .ok () (w.putObj D (.map mes' cl')) ∧ VRL R n (es'.map Prod.fst) (mes'.toList.map (·.key)) ∧ VRL R n (es'.map Prod.snd) (mes'.toList.map (·.val)) := by
  obtain ⟨_, ⟨d, hd, hkd⟩, -⟩ := hE.tt t u hu
  obtain ⟨_, ⟨dk, hdk, hkk⟩, -⟩ := hE.tt kt uk huk
  rw [hk] at hkd
  obtain rfl : d = .map kt et := hkd
  rcases upd_sound hkk hkx hkv hy es mes.toList 0 h2 h3 hup with ⟨c1, c2⟩ | ⟨i, v, e, c1, c2, c3, c4, c5⟩
  · refine ⟨mes.push { key := kv, val := yv, born := cl }, cl + 1, ?_, ?_, ?_⟩
    · unfold Instr.mapUpdate
      simp only [Sem.run_bind, run_underlying hd, Result.andThen_ok, MapKept.run_getObj_map h1, Sem.run_pure, check_key hdk hkk hkx]
      unfold Instr.findKey
      simp only [Sem.run_bind, run_underlying hdk, Result.andThen_ok]
      rw [c1]
      simp only [Sem.run_pure, Result.andThen_ok, Sem.run_bind, MapKept.run_setObj_map _ h1]
      rfl
    · rw [c2]
      simp only [List.map_append, List.map_cons, List.map_nil, Array.toList_push]
      exact h2.append (by simp only [VRL]; exact ⟨_, _, rfl, hkv, rfl⟩)
    · rw [c2]
      simp only [List.map_append, List.map_cons, List.map_nil, Array.toList_push]
      exact h3.append (by simp only [VRL]; exact ⟨_, _, rfl, hy, rfl⟩)
  · rw [Nat.zero_add] at c1
    refine ⟨mes.modify i fun e => { e with key := kv, val := yv }, cl, ?_, by rw [Array.toList_modify]; exact c4, by rw [Array.toList_modify]; exact c5⟩
    unfold Instr.mapUpdate
    simp only [Sem.run_bind, run_underlying hd, Result.andThen_ok, MapKept.run_getObj_map h1, Sem.run_pure, check_key hdk hkk hkx]
    unfold Instr.findKey
    simp only [Sem.run_bind, run_underlying hdk, Result.andThen_ok]
    rw [c1]
    have c2' : mes[i]? = some e := by rw [← Array.getElem?_toList]; exact c2
    simp only [Sem.run_pure, Result.andThen_ok, c2', Option.map_some, Option.getD_some]
    unfold Instr.keyThatStays
    rw [if_pos (c3 9999)]
    simp only [Sem.run_pure, Sem.run_bind, Result.andThen_ok, pure_bind]
    exact MapKept.run_setObj_map _ h1
theorem op_mapUpdate (hE : EnvOK P E) (h : HR F R s w0 w) {t : TypeId} {u : TI} (hu : E.tt.get t = some u) {kt et : TypeId} (hk : u.k = .map kt et) {uk : TI} (huk : E.tt.get kt = some uk)
    {b : Nat} {k y : AV} {kv yv : Value} (hkx : keyK uk.k k = true) (hkv : VR R s.nx k kv) (hy : VR R s.nx y yv) {es es' : List (AV × AV)} (hes : s.h.get b = some (.map es)) (hup : updM k y es = some es') :
    OpRes P F R s.nx w0 w (do Instr.mapUpdate t (.map (some (R b).1)) kv yv; pure .skip) none ⟨s.h.set b (some (.map es')), s.nx⟩ := by
  obtain ⟨mes, cl, es1, h1, hp, hdi, h2, h3⟩ := h.map hes
  obtain ⟨g1, u', g2, g3⟩ := updM_perm hp hdi hup
  obtain ⟨mes', cl', r1, r2, r3⟩ := upd_run hE hu hk huk hkx hkv hy h1 h2 h3 g2
  refine ⟨R, w.putObj (R b).1 (.map mes' cl'), fun _ _ => rfl, Nat.le_refl _, ?_, ?_⟩
  · refine h.put (by rw [hes]; simp) (.map es') (.map mes' cl') ⟨mes', cl', u', rfl, g3, g1, r2, r3⟩ rfl rfl rfl ?_ fun j hj => ?_
    · have := lt_of_heap h1
      simp [World.putObj, this]
    · simp [World.putObj, Array.getElem?_setIfInBounds_ne (Ne.symm hj)]
  · simp [Sem.run_bind, r1]
end
end
end Go.Proofs.YtbioklhoolkhkadGreatDoor
namespace Go.Proofs.YtbioklhoolkhkadGreatDoor
set_option linter.unusedVariables false
set_option linter.unusedSimpArgs false
set_option linter.unusedSectionVars false
open Go Go.RowKit
noncomputable section

section
variable {P : Program} {E : Env} {F : Nat → Option Obj} {R : Nat → Nat × Nat} {s s' : St} {w0 w : World} {n : Nat}
theorem VRL.ones {l : List AV} {vs : List Value} (h : VRL R n l vs) (h1 : ∀ c ∈ l, oneA c = true) : ∀ v ∈ vs, v.oneCell' = true := fun v hm => by
  obtain ⟨j, hj, rfl⟩ := List.mem_iff_getElem.1 hm
  have hl := h.length
  obtain ⟨u, e1, e2⟩ := h.get (j := j) (List.getElem?_eq_getElem (by omega))
  rw [List.getElem?_eq_getElem hj] at e1
  cases e1
  exact e2.one (h1 _ (List.getElem_mem _))
theorem byteCells_of {l : List Nat} (h : ∀ c ∈ l, c < 256) : byteCells (bytesA l) = l.map fun c : Nat => Value.int .u8 (c : Int) := by
  unfold byteCells
  have := bytesA_list h
  conv => rhs; rw [← this]
  rw [List.map_map]
  rfl
/-- What is appended. -/
theorem src_sound (hE : EnvOK P E) (h : HR F R s w0 w) {tx : TypeId} {ux : TI} (hux : E.tt.get tx = some ux) {z : Nat} {y : AV} {yv : Value} (hy : VR R s.nx y yv) {l : List AV} {k : Nat} (hs : srcA s ux z y = some (l, k)) :
    ∃ news, Go.Src P z tx yv k news w ∧ VRL R s.nx l news ∧ ∀ c ∈ l, oneA c = true := by
  obtain ⟨_, ⟨d, hd, hk⟩, -⟩ := hE.tt tx ux hux
  unfold srcA at hs
  split at hs
  · rename_i e hke
    rw [hke] at hk
    obtain rfl : d = .slice e := hk
    cases hs
    simp only [VR] at hy
    subst hy
    exact ⟨[], Go.Src.ofNil w hd 0, by simp [VRL], fun c hc => (by cases hc)⟩
  · rename_i l' hke
    rw [hke] at hk
    obtain rfl : d = .string := hk
    cases hz : Nat.beq z 1 with
    | false => rw [hz] at hs; cases hs
    | true =>
      rw [hz, cond_true] at hs
      cases hs
      have hz := nbeq_of hz
      subst hz
      simp only [VR] at hy
      obtain ⟨rfl, hb⟩ := hy
      have h1 := Go.Src.ofString (P := P) w hd (bytesA l')
      rw [bytesA_size, byteCells_of hb] at h1
      refine ⟨_, h1, VRL.of (by simp) fun j x hj => ?_, fun c hc => ?_⟩
      · rw [List.getElem?_map] at hj
        cases hg : l'[j]? with
        | none => rw [hg] at hj; cases hj
        | some c =>
          rw [hg] at hj
          cases hj
          exact ⟨.int .u8 (c : Int), by rw [List.getElem?_map, hg]; rfl, by simp only [VR]; rfl⟩
      · obtain ⟨x, _, rfl⟩ := List.mem_map.1 hc
        rfl
  · rename_i e b o m c ex q hke
    rw [hke] at hk
    obtain rfl : d = .slice e := hk
    cases hz : Nat.beq q z with
    | false => rw [hz] at hs; cases hs
    | true =>
      rw [hz, cond_true] at hs
      cases hl : s.load b o (m * z) with
      | none => rw [hl] at hs; cases hs
      | some cs =>
        rw [hl] at hs
        cases hs
        obtain ⟨h1, h2, h3, vs, h4, h5⟩ := h.load hl
        simp only [VR] at hy
        obtain ⟨_, o', c', rfl, ho, _, _, hlc, _⟩ := hy
        refine ⟨vs, Go.Src.ofSlice w hd ⟨(R b).1, o', none⟩ k c' vs (by rw [h4.length, h1]) (fun j u hu => ?_) (h4.ones h3), h4, h3⟩
        have hj := (List.getElem?_eq_some_iff.1 hu).1
        rw [h4.length, h1] at hj
        have hc0 : c' ≠ 0 := by
          intro e0
          have : k = 0 := by omega
          subst this
          simp at hj
        have ho' : o' = o := ho.resolve_left hc0
        rw [Addr.add_eq, ho']
        exact h5 j u hu
  · cases hs
/-- There is room: the cells go into the row. -/
theorem run_append_room_row (t tx ty e : TypeId) (i : TypeInfo) (ht : P.underlying t = some (.slice e)) (hi : P.info? e = some i) (g sLen sCap : Nat) (cur : Array Value) (hg : w.heap[g]? = some (.cells cur e (0, 0))) (x : Value) (n : Nat) (news : List Value) (hs : Go.Src P i.size tx x n news w)
    (hroom : sLen + n ≤ sCap) (hfit : sLen * i.size + news.length ≤ cur.size) :
    (Builtin.append_ #[t, tx] ty #[.slice (some ⟨g, 0, none⟩) sLen sCap, x]).run P w = .ok (.slice (some ⟨g, 0, none⟩) (sLen + n) sCap) (w.setRow g (cur.toList.take (sLen * i.size) ++ news ++ cur.toList.drop (sLen * i.size + news.length)).toArray) := by
  have hst := run_storeCells_at (P := P) g (sLen * i.size) e news 0 cur w hg (by omega) hs.one
  simp only [Nat.add_zero] at hst
  rcases hs.kind with ⟨e', hk⟩ | hk <;> simp [Builtin.append_, run_underlying ht, run_underlying hk, sizeOf, typeInfo, hi, hs.len, hroom, hs.cells, Addr.add_eq, hst]
/-- Cells written behind what is known of a row. -/
theorem HR.writeX (h : HR F R s w0 w) {b o : Nat} {e : TypeId} {cs vs : List AV} {us : List Value} (hc : s.cells b = some (e, cs)) (ho : o ≤ cs.length) (hv : VRL R s.nx vs us) (h1 : ∀ c ∈ vs, oneA c = true) (hfit : o + vs.length ≤ (R b).2) :
    ∃ w', (storeCells ⟨(R b).1, o, none⟩ us).run P w = .ok () w' ∧ HR F R ⟨s.h.set b (some (.cells e (tkL cs o ++ vs ++ dpL cs (o + vs.length)))), s.nx⟩ w0 w' := by
  obtain ⟨hg, arr, g1, g2, g3, g4, g5⟩ := h.at hc
  have hul := hv.length
  have hone : ∀ v ∈ us, v.oneCell' = true := hv.ones h1
  refine ⟨_, run_storeCells_at (P := P) (R b).1 o e us 0 arr w g1 (by omega) hone, ?_⟩
  simp only [Nat.add_zero]
  refine h.put (by rw [hg]; simp) _ _ ⟨_, rfl, ?_, ?_, ?_, ?_⟩ rfl rfl rfl (setRow_heap w _ arr _ e _ g1) fun k hk => setRow_other w _ k _ hk
  · simp only [List.size_toArray, List.length_append, List.length_take, List.length_drop, Array.length_toList]; omega
  · rw [tkL_eq, dpL_eq]; simp only [List.length_append, List.length_take, List.length_drop]; omega
  · rw [tkL_eq, dpL_eq]
    have hN : (cs.take o ++ vs ++ cs.drop (o + vs.length)).length = max cs.length (o + vs.length) := by simp only [List.length_append, List.length_take, List.length_drop]; omega
    rw [hN]
    have hal : arr.toList.length = arr.size := Array.length_toList
    have e1 := take_mid arr.toList us o (max cs.length (o + us.length)) (by omega) (by omega)
    rw [← hul]
    rw [e1]
    have p1 : (arr.toList.take (max cs.length (o + us.length))).take o = (arr.toList.take cs.length).take o := by
      rw [List.take_take, List.take_take]; congr 1; omega
    have p2 : (arr.toList.take (max cs.length (o + us.length))).drop (o + us.length) = (arr.toList.take cs.length).drop (o + us.length) := by
      by_cases hle : o + us.length ≤ cs.length
      · rw [Nat.max_eq_left hle]
      · rw [Nat.max_eq_right (by omega), List.drop_eq_nil_of_le (by rw [List.length_take]; omega), List.drop_eq_nil_of_le (by rw [List.length_take]; omega)]
    rw [p1, p2]
    exact ((g4.take o).append hv).append (g4.drop _)
  · rw [tkL_eq, dpL_eq]
    intro c hc
    simp only [List.mem_append] at hc
    rcases hc with (hc | hc) | hc
    · exact g5 c (List.mem_of_mem_take hc)
    · exact h1 c hc
    · exact g5 c (List.mem_of_mem_drop hc)
/-- A slice that grew. -/
theorem op_grown (h : HR F R s w0 w) {e : TypeId} {cs : List AV} {vs : List Value} (hv : VRL R s.nx cs vs) (h1 : ∀ c ∈ cs, oneA c = true) (more : Array Value) {k c z : Nat} (hkc : k ≤ c) (hc : c ≤ maxLen) (hsz : c * z ≤ vs.length + more.size) {m : Sem Value}
    (hr : m.run P w = .ok (.slice (some ⟨w.heap.size, 0, none⟩) k c) (w.drew.alloc (.cells (vs.toArray ++ more) e))) :
    OpRes P F R s.nx w0 w (do pure (.value (← m))) (some (.sl s.nx 0 k k false z)) (s.new (.cells e cs)) := by
  have hd := h.drew
  have hR : (fun b => if b = s.nx then (w.drew.heap.size, vs.length + more.size) else R b) s.nx = (w.heap.size, vs.length + more.size) := if_pos rfl
  have hE : Ext s.nx R (fun b => if b = s.nx then (w.drew.heap.size, vs.length + more.size) else R b) := fun b hb => if_neg (by omega)
  obtain ⟨h2, h3⟩ := hd.new (.cells e cs) (.cells (vs.toArray ++ more) e) (vs.length + more.size) ⟨vs.toArray ++ more, rfl, by simp, by rw [← hv.length]; omega, by
    rw [← hv.length]
    simpa using hv.mono (Nat.le_succ _) hE, h1⟩
  refine ⟨_, _, h3, Nat.le_succ _, h2, .slice (some ⟨w.heap.size, 0, none⟩) k c, by simp [Sem.run_bind, hr], ?_⟩
  simp only [VR]
  exact ⟨Nat.lt_succ_self _, 0, c, by simp, .inr rfl, fun h => (by cases h), hkc, hkc, hc, by simp; omega⟩
/-- Append, all of it. -/
theorem op_append (hE : EnvOK P E) (h : HR F R s w0 w) {t tx ty e : TypeId} {u0 u ux : TI} (hu0 : E.tt.get t = some u0) (hk0 : u0.k = .slice e) (hu : E.tt.get e = some u) {z : AV} (hz : u.z = some z) (hzn : (cellsA z).length = u.size) (hpos : 0 < u.size) (hux : E.tt.get tx = some ux)
    {x y x' : AV} {xv yv : Value} (hx : VR R s.nx x xv) (hy : VR R s.nx y yv) (ha : appendA s e u ux x y = some (x', s')) :
    OpRes P F R s.nx w0 w (do pure (.value (← Builtin.append_ #[t, tx] ty #[xv, yv]))) (some x') s' := by
  obtain ⟨_, ⟨d, hd, hkd⟩, -⟩ := hE.tt t u0 hu0
  obtain ⟨_, _, i, hi, hsz, hby, hzz⟩ := hE.tt e u hu
  rw [hk0] at hkd
  obtain rfl : d = .slice e := hkd
  obtain ⟨zv, hzv, hRz⟩ := hzz z hz
  have hzc : zv.cells.size = i.size := by rw [hsz, ← hzn, ← (hRz R s.nx).cells.length, Array.length_toList]
  unfold appendA at ha
  cases hsr : srcA s ux u.size y with
  | none => rw [hsr] at ha; cases ha
  | some p =>
    obtain ⟨l, k⟩ := p
    rw [hsr] at ha
    simp only at ha
    obtain ⟨news, hsrc, hv, hone⟩ := src_sound hE h hux hy hsr
    rw [← hsz] at hsrc
    have hnl := hsrc.newsLen
    split at ha
    · -- onto nil
      simp only [VR] at hx
      subst hx
      cases hk : Nat.beq k 0 with
      | true =>
        rw [hk, cond_true] at ha
        cases ha
        have := nbeq_of hk
        subst this
        refine OpRes.val h (v := .slice none 0 0) ?_ (by simp only [VR])
        rcases hsrc.kind with ⟨e', hkk⟩ | hkk <;> simp [Builtin.append_, run_underlying hd, run_underlying hkk, sizeOf, typeInfo, hi, hsrc.len, hsrc.cells]
      | false =>
        rw [hk, cond_false] at ha
        have hk0 : k ≠ 0 := fun e0 => by subst e0; cases hk
        cases hb : (Nat.ble (k * u.bytes) 140737488355328 && Nat.ble k 1000000) with
        | false => rw [hb] at ha; cases ha
        | true =>
          rw [hb, cond_true] at ha
          cases ha
          rw [Bool.and_eq_true] at hb
          have hb1 := nble_of hb.1
          have hb2 := nble_of hb.2
          have hold : (Builtin.firstCells i.size 0 (.slice none 0 0)).run P w.drew = .ok ([] : List Value).toArray w.drew := by simp [Builtin.firstCells]
          have hr := run_append_grow_src (P := P) w t tx ty e i zv hd hi hzv none 0 0 [] hold yv k news hsrc (by omega) (by omega) (growslice_fits (by omega) (by rw [Nat.zero_add, hby]; exact hb1))
          rw [Nat.zero_add, List.nil_append] at hr
          have hge := grownCap_ge w k 0 e
          refine op_grown h hv hone _ hge (grownCap_le_maxLen w k 0 e (by unfold maxLen; omega)) ?_ hr
          rw [size_zeroCells, hzc, hnl, hsz, ← Nat.add_mul]
          exact Nat.mul_le_mul_right _ (by omega)
    · rename_i b o m c ex q
      cases hk : Nat.beq k 0 with
      | true =>
        rw [hk, cond_true] at ha
        cases ha
        have := nbeq_of hk
        subst this
        have hx' := hx
        simp only [VR] at hx
        obtain ⟨_, o', c', rfl, ho, _, _, hlc, _⟩ := hx
        have hn0 : news = [] := List.eq_nil_of_length_eq_zero (by simpa using hnl)
        subst hn0
        refine OpRes.val h (v := .slice (some ⟨(R b).1, o', none⟩) m c') ?_ hx'
        rcases hsrc.kind with ⟨e', hkk⟩ | hkk <;> simp [Builtin.append_, run_underlying hd, run_underlying hkk, sizeOf, typeInfo, hi, hsrc.len, hsrc.cells, hlc, storeCells]
      | false =>
        rw [hk, cond_false] at ha
        have hk0 : k ≠ 0 := fun e0 => by subst e0; cases hk
        cases hin : (Nat.ble (m + k) c && Nat.beq q u.size) with
        | true =>
          rw [hin, cond_true] at ha
          rw [Bool.and_eq_true] at hin
          have hi1 := nble_of hin.1
          have hi2 := nbeq_of hin.2
          cases hcs : s.cells b with
          | none => rw [hcs] at ha; cases ha
          | some pc =>
            obtain ⟨e', cs'⟩ := pc
            rw [hcs] at ha
            simp only at ha
            cases hx2 : (Nat.beq e' e && Nat.ble (o + m * u.size) cs'.length) with
            | false => rw [hx2] at ha; cases ha
            | true =>
              rw [hx2, cond_true] at ha
              cases ha
              rw [Bool.and_eq_true] at hx2
              have he' := nbeq_of hx2.1
              have hle := nble_of hx2.2
              subst he'
              have hx' := hx
              simp only [VR] at hx
              obtain ⟨hbn, o', c', rfl, ho, hex, hccl, hlc, hcm, hfit⟩ := hx
              rw [hi2] at hfit
              have ho' : o' = o := ho.resolve_left (by omega)
              subst ho'
              have hma : m * u.size + news.length = (m + k) * u.size := by rw [hnl, hsz, Nat.add_mul]
              have hfs : (m + k) * u.size ≤ c' * u.size := Nat.mul_le_mul_right _ (by omega)
              have hnv := hv.length
              obtain ⟨w', hst, hh⟩ := h.writeX (P := P) hcs hle hv hone (by omega)
              refine ⟨R, w', Ext.refl _ _, Nat.le_refl _, hh, .slice (some ⟨(R b).1, o', none⟩) (m + k) c', ?_, ?_⟩
              · have hr : (Builtin.append_ #[t, tx] ty #[.slice (some ⟨(R b).1, o', none⟩) m c', yv]).run P w = .ok (.slice (some ⟨(R b).1, o', none⟩) (m + k) c') w' := by
                  have hroom : m + k ≤ c' := by omega
                  rw [← hsz] at hst
                  rcases hsrc.kind with ⟨e2, hkk⟩ | hkk <;> simp [Builtin.append_, run_underlying hd, run_underlying hkk, sizeOf, typeInfo, hi, hsrc.len, hroom, hsrc.cells, Addr.add_eq, hst]
                simp [Sem.run_bind, hr]
              · simp only [VR]
                rw [hi2]
                exact ⟨hbn, o', c', rfl, .inr rfl, hex, hccl, by omega, hcm, hfit⟩
        | false =>
        rw [hin, cond_false] at ha
        cases hgr : (ex && Nat.blt c (m + k) && Nat.beq q u.size && Nat.ble ((m + k) * u.bytes) 140737488355328 && Nat.ble (m + k) 1000000) with
        | true =>
          rw [hgr, cond_true] at ha
          simp only [Bool.and_eq_true] at hgr
          obtain ⟨⟨⟨⟨hg1, hg2⟩, hg3⟩, hg4⟩, hg5⟩ := hgr
          have hg2 := nblt_of hg2
          have hq := nbeq_of hg3
          have hg4 := nble_of hg4
          have hg5 := nble_of hg5
          cases hl : s.load b o (m * u.size) with
          | none => rw [hl] at ha; cases ha
          | some old =>
            rw [hl] at ha
            cases ha
            obtain ⟨l1, l2, l3, ovs, l4, l5⟩ := h.load hl
            simp only [VR] at hx
            obtain ⟨_, o', c', rfl, ho, hex, hccl, hlc, hcm, hfit⟩ := hx
            have hcc := hex hg1
            have hones : ∀ c ∈ old ++ l, oneA c = true := fun c hc => by
              rcases List.mem_append.1 hc with hc | hc
              · exact l3 c hc
              · exact hone c hc
            have hold : (Builtin.firstCells i.size m (.slice (some ⟨(R b).1, o', none⟩) m c')).run P w.drew = .ok ovs.toArray w.drew := by
              refine run_firstCells_some (P := P) w.drew i.size m ⟨(R b).1, o', none⟩ m c' ovs (by rw [l4.length, l1, hsz]) fun j v hj => ?_
              have hjl := (List.getElem?_eq_some_iff.1 hj).1
              rw [l4.length, l1] at hjl
              have hc0 : c' ≠ 0 := by
                intro e0
                have : m = 0 := by omega
                subst this
                simp at hjl
              have := l5 j v hj
              rw [Addr.add_eq, ho.resolve_left hc0]
              exact this
            have hr := run_append_grow_src (P := P) w t tx ty e i zv hd hi hzv (some ⟨(R b).1, o', none⟩) m c' ovs hold yv k news hsrc (by omega) (by omega) (growslice_fits (by omega) (by rw [hby]; exact hg4))
            have hge := grownCap_ge w (m + k) c' e
            have hcl := grownCap_le_maxLen w (m + k) c' e (by unfold maxLen; omega)
            refine op_grown h (l4.append hv) hones _ hge hcl ?_ hr
            rw [size_zeroCells, hzc, List.length_append, l4.length, l1, hnl, hsz, ← Nat.add_mul, ← Nat.add_mul]
            exact Nat.mul_le_mul_right _ (by omega)
        | false =>
        rw [hgr, cond_false] at ha
        cases hb : (Nat.beq o 0 && Nat.beq q u.size && Nat.ble ((m + k) * u.bytes) 140737488355328 && Nat.ble (m + k) 1000000) with
        | false => rw [hb] at ha; cases ha
        | true =>
          rw [hb, cond_true] at ha
          rw [Bool.and_eq_true, Bool.and_eq_true, Bool.and_eq_true] at hb
          obtain ⟨⟨⟨hb1, hb2⟩, hb3⟩, hb4⟩ := hb
          have ho0 := nbeq_of hb1
          have hq := nbeq_of hb2
          have hb3 := nble_of hb3
          have hb4 := nble_of hb4
          subst ho0
          cases hcs : s.cells b with
          | none => rw [hcs] at ha; cases ha
          | some pc =>
            obtain ⟨e', cs'⟩ := pc
            rw [hcs] at ha
            simp only at ha
            cases he : Nat.beq e' e with
            | false => rw [he] at ha; cases ha
            | true =>
              rw [he, cond_true] at ha
              have he' := nbeq_of he
              subst he'
              cases hl : s.load b 0 (m * u.size) with
              | none => rw [hl] at ha; cases ha
              | some old =>
                rw [hl] at ha
                cases ha
                obtain ⟨l1, l2, l3, ovs, l4, l5⟩ := h.load hl
                obtain ⟨hgb, arr, g1, g2, g3, g4, g5⟩ := h.at hcs
                simp only [VR] at hx
                obtain ⟨_, o', c', rfl, ho, hex, hccl, hlc, hcm, hfit⟩ := hx
                rw [hq] at hfit
                have hones : ∀ c ∈ old ++ l, oneA c = true := fun c hc => by
                  rcases List.mem_append.1 hc with hc | hc
                  · exact l3 c hc
                  · exact hone c hc
                have hold : (Builtin.firstCells i.size m (.slice (some ⟨(R b).1, o', none⟩) m c')).run P w.drew = .ok ovs.toArray w.drew := by
                  refine run_firstCells_some (P := P) w.drew i.size m ⟨(R b).1, o', none⟩ m c' ovs (by rw [l4.length, l1, hsz]) fun j v hj => ?_
                  have hjl := (List.getElem?_eq_some_iff.1 hj).1
                  rw [l4.length, l1] at hjl
                  have hc0 : c' ≠ 0 := by
                    intro e0
                    have : m = 0 := by omega
                    subst this
                    simp at hjl
                  have := l5 j v hj
                  rw [Addr.add_eq, ho.resolve_left hc0]
                  exact this
                by_cases hroom : m + k ≤ c'
                · -- there is room
                  have hc0 : c' ≠ 0 := by omega
                  obtain rfl : o' = 0 := ho.resolve_left hc0
                  have hnot : (ex && Nat.blt c (m + k)) = false := by
                    cases hexx : ex with
                    | false => rfl
                    | true =>
                      have hcc := hex hexx
                      cases hlt : Nat.blt c (m + k) with
                      | false => rfl
                      | true => have := nblt_of hlt; omega
                  rw [hnot, cond_false]
                  have hfs : (m + k) * i.size ≤ c' * i.size := Nat.mul_le_mul_right _ hroom
                  have hcu : c' * i.size ≤ arr.size := by rw [hsz, g2]; omega
                  have hma : m * i.size + news.length = (m + k) * i.size := by rw [hnl, Nat.add_mul]
                  have hr := run_append_room_row (P := P) t tx ty e' i hd hi (R b).1 m c' arr g1 yv k news hsrc hroom (by omega)
                  -- the row has a new number
                  have hf := h.forget b
                  have hR' : Ext s.nx R (fun j => if j = s.nx then R b else R j) := fun j hj => if_neg (by omega)
                  have hgn : ∀ j, ((s.h.set b none).set s.nx (some (.cells e' (old ++ l)))).get j = if j = s.nx then some (.cells e' (old ++ l)) else if j = b then none else s.h.get j := fun j => by
                    rw [Tree.get_set, Tree.get_set]
                  have hovs : (arr.toList.take (m * i.size)) = ovs := by
                    apply List.ext_getElem?
                    intro j
                    by_cases hj : j < m * i.size
                    · have hjo : j < ovs.length := by rw [l4.length, l1, ← hsz]; exact hj
                      have h5 := l5 j ovs[j] (List.getElem?_eq_getElem hjo)
                      rw [Nat.zero_add, cell_of_heap g1] at h5
                      rw [List.getElem?_take_of_lt hj, List.getElem?_eq_getElem hjo, ← h5, Array.getElem?_toList]
                    · rw [List.getElem?_take_eq_none (by omega), List.getElem?_eq_none (by rw [l4.length, l1, ← hsz]; omega)]
                  refine ⟨_, w.setRow (R b).1 (arr.toList.take (m * i.size) ++ news ++ arr.toList.drop (m * i.size + news.length)).toArray, hR', Nat.le_succ _, ⟨h.os, h.tape, h.output, fun j o' hj => ?_, fun j hj => ?_, fun j y hy => ?_, fun j j' hj hj' ee => ?_⟩, .slice (some ⟨(R b).1, 0, none⟩) (m + k) c', by simp [Sem.run_bind, hr], ?_⟩
                  · have hFb := (h.own b _ hgb).1
                    rw [setRow_other w _ j _ (fun e0 => by rw [e0, hFb] at hj; cases hj)]
                    exact h.fr j o' hj
                  · simp only [St.new] at hj ⊢
                    rw [hgn] at hj
                    by_cases e1 : j = s.nx
                    · omega
                    · rw [if_neg e1] at hj
                      by_cases e2 : j = b
                      · rw [if_pos e2] at hj; exact absurd rfl hj
                      · rw [if_neg e2] at hj; have := h.lt j hj; omega
                  · simp only [St.new] at hy ⊢
                    rw [hgn] at hy
                    by_cases e1 : j = s.nx
                    · rw [if_pos e1] at hy
                      cases hy
                      rw [if_pos e1]
                      refine ⟨(h.own b _ hgb).1, _, setRow_heap w _ arr _ e' _ g1, _, rfl, ?_, ?_, ?_, hones⟩
                      · simp only [List.size_toArray, List.length_append, List.length_take, List.length_drop, Array.length_toList]; omega
                      · rw [List.length_append, l1, ← hv.length, ← hsz, hma, ← g2]; omega
                      · have e3 : (old ++ l).length = (ovs ++ news).length := by rw [List.length_append, List.length_append, l4.length, hv.length]
                        rw [e3, hovs]
                        simp only [List.take_left]
                        exact (l4.append hv).mono (Nat.le_succ _) hR'
                    · rw [if_neg e1] at hy
                      rw [if_neg e1]
                      by_cases e2 : j = b
                      · rw [if_pos e2] at hy; cases hy
                      · rw [if_neg e2] at hy
                        obtain ⟨f1, o2, f2, f3⟩ := h.own j y hy
                        refine ⟨f1, o2, ?_, f3.mono (Nat.le_succ _) hR'⟩
                        rw [setRow_other w _ _ _ (fun e4 => e2 (h.inj j b (by rw [hy]; simp) (by rw [hgb]; simp) e4))]
                        exact f2
                  · simp only [St.new] at hj hj'
                    rw [hgn] at hj hj'
                    by_cases e1 : j = s.nx
                    · by_cases e2 : j' = s.nx
                      · rw [e1, e2]
                      · rw [if_neg e2] at hj'
                        by_cases e3 : j' = b
                        · rw [if_pos e3] at hj'; exact absurd rfl hj'
                        · rw [if_neg e3] at hj'
                          simp only [if_pos e1, if_neg e2] at ee
                          exact absurd (h.inj b j' (by rw [hgb]; simp) hj' ee) (fun e4 => e3 e4.symm)
                    · rw [if_neg e1] at hj
                      by_cases e3 : j = b
                      · rw [if_pos e3] at hj; exact absurd rfl hj
                      · rw [if_neg e3] at hj
                        by_cases e2 : j' = s.nx
                        · simp only [if_neg e1, if_pos e2] at ee
                          exact absurd (h.inj j b hj (by rw [hgb]; simp) ee) e3
                        · rw [if_neg e2] at hj'
                          by_cases e4 : j' = b
                          · rw [if_pos e4] at hj'; exact absurd rfl hj'
                          · rw [if_neg e4] at hj'
                            simp only [if_neg e1, if_neg e2] at ee
                            exact h.inj j j' hj hj' ee
                  · simp only [VR, if_true, St.new]
                    refine ⟨Nat.lt_succ_self _, 0, c', rfl, .inr rfl, fun h => (by cases h), hroom, hroom, hcm, ?_⟩
                    rw [← hsz, ← g2]; omega
                · -- there is none
                  have hr := run_append_grow_src (P := P) w t tx ty e' i zv hd hi hzv (some ⟨(R b).1, o', none⟩) m c' ovs hold yv k news hsrc (by omega) (by omega) (growslice_fits (by omega) (by rw [hby]; exact hb3))
                  have hge := grownCap_ge w (m + k) c' e'
                  have hcl := grownCap_le_maxLen w (m + k) c' e' (by unfold maxLen; omega)
                  have hszz : grownCap w (m + k) c' e' * u.size ≤ (ovs ++ news).length + (Builtin.zeroCells zv.cells (grownCap w (m + k) c' e' - (m + k))).size := by
                    rw [size_zeroCells, hzc, List.length_append, l4.length, l1, hnl, hsz, ← Nat.add_mul, ← Nat.add_mul]
                    exact Nat.mul_le_mul_right _ (by omega)
                  by_cases hcb : (ex && Nat.blt c (m + k)) = true
                  · rw [hcb, cond_true]
                    exact op_grown h (l4.append hv) hones _ hge hcl hszz hr
                  · rw [Bool.eq_false_iff.2 hcb, cond_false]
                    exact op_grown (h.forget b) (s := ⟨s.h.set b none, s.nx⟩) (l4.append hv) hones _ hge hcl hszz hr
    · cases ha
end
end
end Go.Proofs.YtbioklhoolkhkadGreatDoor
namespace Go.Proofs.YtbioklhoolkhkadGreatDoor
set_option linter.unusedVariables false
set_option linter.unusedSimpArgs false
set_option linter.unusedSectionVars false
open Go Go.RowKit
noncomputable section

def optA (a : Tree AV) (o : Option Operand) : Option (Option AV) := match o with
  | some o => (opd a o).map some
  | none => some none
def isThere : AV → Bool
  | .p _ _ => true
  | .fn _ _ _ => true
  | _ => false
/-- The bytes of cells. -/
def bytesOf : List AV → Option (List Nat)
  | [] => some []
  | .i .u8 (.ofNat n) :: l => bif Nat.blt n 256 then (bytesOf l).map fun r => n :: r else none
  | _ :: _ => none
def eo_move (E : Env) (a : Tree AV) (s : St) (x : Operand) : Option (Option AV × St) := (opd a x).map fun v => (some v, s)
def eo_assign (E : Env) (a : Tree AV) (s : St) (x : Operand) : Option (Option AV × St) := (opd a x).map fun v => (some v, s)
def eo_pick (E : Env) (a : Tree AV) (s : St) (c x y : Operand) : Option (Option AV × St) := match opd a c with
    | some (.b true) => (opd a x).map fun v => (some v, s)
    | some (.b false) => (opd a y).map fun v => (some v, s)
    | _ => none
def eo_nilCheck (E : Env) (a : Tree AV) (s : St) (x : Operand) : Option (Option AV × St) := match opd a x with
    | some v => bif isThere v then some (some v, s) else none
    | none => none
def eo_alloc (E : Env) (a : Tree AV) (s : St) (e : TypeId) : Option (Option AV × St) := match E.tt.get e with
    | some u => match u.z with
      | some z => bif allOne (cellsA z) then some (some (.p s.nx 0), s.new (.cells e (cellsA z))) else none
      | none => none
    | none => none
def eo_box (E : Env) (a : Tree AV) (s : St) (e : TypeId) (x : Operand) : Option (Option AV × St) := match opd a x with
    | some v => bif allOne (cellsA v) then some (some (.p s.nx 0), s.new (.cells e (cellsA v))) else none
    | none => none
def eo_fieldAddr (E : Env) (a : Tree AV) (s : St) (t : TypeId) (x : Operand) (f : Nat) : Option (Option AV × St) := match opd a x with
    | some (.p b o) => match E.tt.get t with
      | some u => match u.k with
        | .str fs => match nthL fs f with
          | some (q, ft) => match E.tt.get ft with
            | some uf => bif Nat.beq uf.size 0 then none else some (some (.p b (o + q)), s)
            | none => none
          | none => none
        | _ => none
      | none => none
    | _ => none
def eo_field (E : Env) (a : Tree AV) (s : St) (t : TypeId) (x : Operand) (f : Nat) : Option (Option AV × St) := match opd a x with
    | some (.agg l) => match E.tt.get t with
      | some u => match u.k with
        | .str fs => match nthL fs f with
          | some (q, ft) => match E.tt.get ft with
            | some uf => bif Nat.ble (q + uf.size) l.length then (ofCells uf (tkL (dpL l q) uf.size)).map fun v => (some v, s) else none
            | none => none
          | none => none
        | _ => none
      | none => none
    | _ => none
def eo_load (E : Env) (a : Tree AV) (s : St) (t : TypeId) (x : Operand) : Option (Option AV × St) := match opd a x with
    | some (.p b o) => match E.tt.get t with
      | some u => match s.load b o u.size with
        | some l => (ofCells u l).map fun v => (some v, s)
        | none => none
      | none => none
    | _ => none
def eo_store (E : Env) (a : Tree AV) (s : St) (t : TypeId) (x v : Operand) : Option (Option AV × St) := match opd a x with
    | some (.p b o) => match opd a v with
      | some v => match E.tt.get t with
        | some u => bif Nat.beq (cellsA v).length u.size && allOne (cellsA v) then (s.store b o (cellsA v)).map fun s => (none, s) else none
        | none => none
      | none => none
    | _ => none
def eo_indexAddr (E : Env) (a : Tree AV) (s : St) (t : TypeId) (x i : Operand) : Option (Option AV × St) := match opd a x with
    | some (.sl b o l _ _ _) => match opd a i with
      | some (.i _ (.ofNat j)) => match E.tt.get t with
        | some u => match u.k with
          | .slice e => match E.tt.get e with
            | some ue => bif Nat.blt j l then some (some (.p b (o + j * ue.size)), s) else none
            | none => none
          | _ => none
        | none => none
      | _ => none
    | some (.p b o) => match opd a i with
      | some (.i _ (.ofNat j)) => match E.tt.get t with
        | some u => match u.k with
          | .arr n e => match E.tt.get e with
            | some ue => bif Nat.blt j n then some (some (.p b (o + j * ue.size)), s) else none
            | none => none
          | _ => none
        | none => none
      | _ => none
    | _ => none
def eo_index (E : Env) (a : Tree AV) (s : St) (t : TypeId) (x i : Operand) : Option (Option AV × St) := match opd a x with
    | some (.s l) => match opd a i with
      | some (.i _ (.ofNat j)) => match E.tt.get t with
        | some u => match u.k with
          | .string => (nthL l j).map fun c => (some (.i .u8 (.ofNat c)), s)
          | _ => none
        | none => none
      | _ => none
    | some (.agg l) => match opd a i with
      | some (.i _ (.ofNat j)) => match E.tt.get t with
        | some u => match u.k with
          | .arr n e => match E.tt.get e with
            | some ue => bif Nat.blt j n && Nat.ble (j * ue.size + ue.size) l.length then (ofCells ue (tkL (dpL l (j * ue.size)) ue.size)).map fun v => (some v, s) else none
            | none => none
          | _ => none
        | none => none
      | _ => none
    | _ => none
def eo_binOp (E : Env) (a : Tree AV) (s : St) (o : BinOp) (t : TypeId) (x y : Operand) : Option (Option AV × St) := match opd a x with
    | some x => match opd a y with
      | some y => (binA E o t x y).map fun v => (some v, s)
      | none => none
    | none => none
def eo_unOp (E : Env) (a : Tree AV) (s : St) (o : UnOp) (x : Operand) : Option (Option AV × St) := match opd a x with
    | some (.b c) => match o with
      | .not => some (some (.b (!c)), s)
      | _ => none
    | some (.i k n) => match o with
      | .neg => some (some (.i k (k.wrap (0 - n))), s)
      | _ => none
    | _ => none
def eo_extract (E : Env) (a : Tree AV) (s : St) (x : Operand) (i : Nat) : Option (Option AV × St) := match opd a x with
    | some (.tup l) => (nthL l i).map fun v => (some v, s)
    | _ => none
def eo_build (E : Env) (a : Tree AV) (s : St) (t : TypeId) (ps : Array (Nat × Operand)) : Option (Option AV × St) := match E.tt.get t with
    | some u => match u.k, u.z with
      | .str fs, some (.agg z) => match placesS E fs with
        | some pl => match partsA a ps.toList with
          | some ps => (fillA (nthL pl) z ps).map fun cs => (some (.agg cs), s)
          | none => none
        | none => none
      | .arr _ e, some (.agg z) => match E.tt.get e with
        | some ue => match partsA a ps.toList with
          | some ps => (fillA (fun i => some (i * ue.size, ue.size)) z ps).map fun cs => (some (.agg cs), s)
          | none => none
        | none => none
      | _, _ => none
    | none => none
def eo_buildSlice (E : Env) (a : Tree AV) (s : St) (t : TypeId) (n : Nat) (ps : Array (Nat × Operand)) : Option (Option AV × St) := match E.tt.get t with
    | some u => match u.k with
      | .slice e => match E.tt.get e with
        | some ue => match ue.z with
          | some z => match partsA a ps.toList with
            | some ps => bif Nat.beq (cellsA z).length ue.size && Nat.blt 0 ue.size && Nat.ble (n * ue.size) 16777216 then match fillA (fun i => some (i * ue.size, ue.size)) (repL (cellsA z) n) ps with
              | some cs => bif allOne cs && Nat.beq cs.length (n * ue.size) then some (some (.sl s.nx 0 n n true ue.size), s.new (.cells e cs)) else none
              | none => none
              else none
            | none => none
          | none => none
        | none => none
      | _ => none
    | none => none
def eo_makeSlice (E : Env) (a : Tree AV) (s : St) (t : TypeId) (l c : Operand) : Option (Option AV × St) := match opd a l with
    | some (.i _ (.ofNat n)) => match opd a c with
      | some (.i _ (.ofNat m)) => match E.tt.get t with
        | some u => match u.k with
          | .slice e => match E.tt.get e with
            | some ue => match ue.z with
              | some z => bif Nat.beq n m && Nat.beq (cellsA z).length ue.size && Nat.blt 0 ue.size && Nat.ble (n * ue.size) 16777216 && Nat.ble (ue.bytes * n) 281474976710656 && allOne (cellsA z) then some (some (.sl s.nx 0 n n true ue.size), s.new (.cells e (repL (cellsA z) n))) else none
              | none => none
            | none => none
          | _ => none
        | none => none
      | _ => none
    | _ => none
def eo_makeMap (E : Env) (a : Tree AV) (s : St) (t : TypeId) (r : Option Operand) : Option (Option AV × St) := match r with
    | none => some (some (.m s.nx), s.new (.map []))
    | some _ => none
def eo_lookup (E : Env) (a : Tree AV) (s : St) (t : TypeId) (x k : Operand) (ok : Bool) : Option (Option AV × St) := match opd a x with
    | some x => match opd a k with
      | some k => match E.tt.get t with
        | some u => match u.k with
          | .map kt et => match E.tt.get kt with
            | some uk => match E.tt.get et with
              | some ue => match ue.z with
                | some z => bif keyK uk.k k then match lookA s k x with
                  | some r => some (some (bif ok then .tup [r.getD z, .b r.isSome] else r.getD z), s)
                  | none => none
                  else none
                | none => none
              | none => none
            | none => none
          | _ => none
        | none => none
      | none => none
    | none => none
def eo_slice (E : Env) (a : Tree AV) (s : St) (t : TypeId) (x : Operand) (l h m : Option Operand) : Option (Option AV × St) := match m with
    | none => match opd a x with
      | some x => match E.tt.get t with
        | some u => match optA a l with
          | some l => match optA a h with
            | some h => (sliceA E s u x l h).map fun v => (some v, s)
            | none => none
          | none => none
        | none => none
      | none => none
    | some m => match opd a x with
      | some x => match E.tt.get t with
        | some u => match optA a l with
          | some l => match h with
            | some h => match opd a h with
             | none => none
             | some h => match opd a m with
              | some m => (sliceM E s u x l h m).map fun v => (some v, s)
              | none => none
            | none => none
          | none => none
        | none => none
      | none => none
def eo_convert (E : Env) (a : Tree AV) (s : St) (src dst : TypeId) (x : Operand) : Option (Option AV × St) := match opd a x with
    | some (.s l) => match E.tt.get dst with
      | some u => match u.k with
        | .string => match E.tt.get src with
          | some _ => some (some (.s l), s)
          | none => none
        | _ => none
      | none => none
    | some .ns => match E.tt.get dst with
      | some u => match u.k with
        | .string => match E.tt.get src with
          | some us => match us.k with
            | .slice e => match E.tt.get e with
              | some ue => match ue.k with
                | .int .u8 => some (some (.s []), s)
                | _ => none
              | none => none
            | _ => none
          | none => none
        | _ => none
      | none => none
    | some (.sl b o n _ _ _) => match E.tt.get dst with
      | some u => match u.k with
        | .string => match E.tt.get src with
          | some us => match us.k with
            | .slice e => match E.tt.get e with
              | some ue => match ue.k with
                | .int .u8 => match s.load b o n with
                  | some l => (bytesOf l).map fun l => (some (.s l), s)
                  | none => none
                | _ => none
              | none => none
            | _ => none
          | none => none
        | _ => none
      | none => none
    | some (.i _ n) => match E.tt.get dst with
      | some u => match u.k with
        | .int k => match E.tt.get src with
          | some _ => some (some (.i k (k.wrap n)), s)
          | none => none
        | _ => none
      | none => none
    | _ => none
def eo_makeFunc (E : Env) (a : Tree AV) (s : St) (fn : Fn) (fst cap : Array Operand) : Option (Option AV × St) := match fn with
    | .func f => match mapO (opd a) fst.toList with
      | some l => match mapO (opd a) cap.toList with
        | some m => some (some (.fn f l m), s)
        | none => none
      | none => none
    | _ => none
/-- What one operation makes: a value (or none), and the blocks behind it. -/
def evOp (E : Env) (a : Tree AV) (s : St) : Op → Option (Option AV × St)
  | .move x => eo_move E a s x
  | .assign x => eo_assign E a s x
  | .pick c x y => eo_pick E a s c x y
  | .nilCheck x => eo_nilCheck E a s x
  | .alloc e => eo_alloc E a s e
  | .box e x => eo_box E a s e x
  | .fieldAddr t x f => eo_fieldAddr E a s t x f
  | .field t x f => eo_field E a s t x f
  | .load t x => eo_load E a s t x
  | .store t x v => eo_store E a s t x v
  | .indexAddr t x i => eo_indexAddr E a s t x i
  | .index t x i => eo_index E a s t x i
  | .binOp o t x y _ => eo_binOp E a s o t x y
  | .unOp o _ x => eo_unOp E a s o x
  | .extract x i => eo_extract E a s x i
  | .build t ps => eo_build E a s t ps
  | .buildSlice t n ps => eo_buildSlice E a s t n ps
  | .makeSlice t l c => eo_makeSlice E a s t l c
  | .makeMap t r => eo_makeMap E a s t r
  | .mapUpdate t m k v => evUpd E a s t m k v
  | .insert t m k v => evUpd E a s t m k v
  | .lookup t x k ok => eo_lookup E a s t x k ok
  | .slice t x l h m => eo_slice E a s t x l h m
  | .convert src dst x => eo_convert E a s src dst x
  | .makeFunc fn fst cap => eo_makeFunc E a s fn fst cap
  | _ => none
 where
  evUpd (E : Env) (a : Tree AV) (s : St) (t : TypeId) (m k v : Operand) : Option (Option AV × St) := match opd a m with
    | some (.m b) => match opd a k with
      | some k => match opd a v with
        | some v => match E.tt.get t with
          | some u => match u.k with
            | .map kt _ => match E.tt.get kt with
              | some uk => bif keyK uk.k k && oneOrAgg v then match s.h.get b with
                | some (.map es) => (updM k v es).map fun es => (none, ⟨s.h.set b (some (.map es)), s.nx⟩)
                | _ => none
                else none
              | none => none
            | _ => none
          | none => none
        | none => none
      | none => none
    | _ => none
  oneOrAgg : AV → Bool
    | .tup _ => false
    | _ => true
end
end Go.Proofs.YtbioklhoolkhkadGreatDoor
