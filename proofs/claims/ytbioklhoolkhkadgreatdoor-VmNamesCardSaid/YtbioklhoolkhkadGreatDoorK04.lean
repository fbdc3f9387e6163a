/- An evaluator of closed calls: each operation does what the evaluator says. No program in sight. An evaluator of closed calls: the built-in functions. No program in sight. An evaluator of closed calls: code and calls. No program in sight. An evaluator of closed calls: code, and functions entered. No program in sight. -/
import Derived.Test.YtbioklhoolkhkadGreatDoorK03
import Derived.Laws.IdiomStrings
import Derived.OrdersIn
import Derived.RangeFuncLeaves
import Derived.RangeFuncCalls
import Derived.RangeFuncIn
import Derived.RangeFuncRecord
import Derived.RangeFuncFrom
import Derived.ControlIn
namespace Go.Proofs.YtbioklhoolkhkadGreatDoor
set_option linter.unusedVariables false
set_option linter.unusedSimpArgs false
set_option linter.unusedSectionVars false
open Go Go.RowKit
noncomputable section

section
variable {P : Program} {E : Env} {F : Nat → Option Obj} {R : Nat → Nat × Nat} {s s' : St} {w0 w : World} {n : Nat}
theorem OpRes.pure' {m : Sem Next} {x : AV} {v : Value} (h : HR F R s w0 w) (hr : m.run P w = .ok (.value v) w) (hx : VR R s.nx x v) : OpRes P F R s.nx w0 w m (some x) s :=
  ⟨R, w, fun _ _ => rfl, Nat.le_refl _, h, v, hr, hx⟩
theorem less_map : ∀ (l m : List Nat), (∀ c ∈ l, c < 256) → (∀ c ∈ m, c < 256) → Op.bytesLess (l.map UInt8.ofNat) (m.map UInt8.ofNat) = ltL l m
  | [], [], _, _ => rfl
  | [], _ :: _, _, _ => rfl
  | _ :: _, [], _, _ => rfl
  | x :: l, y :: m, hl, hm => by
    have ih := less_map l m (fun c hc => hl c (.tail _ hc)) (fun c hc => hm c (.tail _ hc))
    have hx := hl x (.head _)
    have hy := hm y (.head _)
    have ex : (UInt8.ofNat x).toNat = x := by simp; omega
    have ey : (UInt8.ofNat y).toNat = y := by simp; omega
    simp only [List.map_cons, Op.bytesLess, ltL, ih]
    by_cases h1 : x < y
    · have : UInt8.ofNat x < UInt8.ofNat y := by rw [UInt8.lt_iff_toNat_lt, ex, ey]; exact h1
      rw [show Nat.blt x y = true from Nat.ble_eq_true_of_le h1]
      simp [this]
    · have h2 : ¬ UInt8.ofNat x < UInt8.ofNat y := by rw [UInt8.lt_iff_toNat_lt, ex, ey]; exact h1
      have h3 : Nat.blt x y = false := by
        cases hb : Nat.blt x y with
        | false => rfl
        | true => exact absurd (nblt_of hb) h1
      rw [h3, cond_false]
      by_cases e : x = y
      · subst e
        rw [Nat.beq_refl, cond_true]
        simp
      · have h4 : UInt8.ofNat x ≠ UInt8.ofNat y := fun h => e (by rw [← ex, ← ey, h])
        rw [nbeq_ne e, cond_false]
        simp [h2, h4]
theorem less_bytes {l m : List Nat} (hl : ∀ c ∈ l, c < 256) (hm : ∀ c ∈ m, c < 256) : Op.bytesLess (bytesA l).toList (bytesA m).toList = ltL l m := by
  rw [bytes_toList, bytes_toList]
  simpa [bytesA] using less_map l m hl hm
theorem binA_sound (hE : EnvOK P E) {o : BinOp} {t : TypeId} {x y r : AV} (h : binA E o t x y = some r) {a b : Value} (hx : VR R n x a) (hy : VR R n y b) (p q : Operand) :
    ∃ v, ((do eqGuard o t p q a b; binOp o t a b : Sem Value)).run P w = .ok v w ∧ VR R n r v := by
  have hg : ∀ o : BinOp, o ≠ .eql → o ≠ .neq → (eqGuard o t p q a b).run P w = .ok () w := fun o h1 h2 => by cases o <;> first | rfl | exact absurd rfl h1 | exact absurd rfl h2
  have hi : ∀ (o : BinOp), o ≠ .eql → o ≠ .neq → ∀ v, (binOp o t a b).run P w = .ok v w → ((do eqGuard o t p q a b; binOp o t a b : Sem Value)).run P w = .ok v w := fun o h1 h2 v hv => by simp [Sem.run_bind, hg o h1 h2, hv]
  unfold binA at h
  split at h
  · cases hu : E.tt.get t with
    | none => rw [hu] at h; cases h
    | some u =>
      rw [hu] at h
      simp only [Option.map_eq_some_iff] at h
      obtain ⟨c, h, rfl⟩ := h
      rw [eqF_eq] at h
      have := run_eqA (w := w) hE hu h hx hy p q false
      exact ⟨_, this, by simp only [VR]; rfl⟩
  · cases hu : E.tt.get t with
    | none => rw [hu] at h; cases h
    | some u =>
      rw [hu] at h
      simp only [Option.map_eq_some_iff] at h
      obtain ⟨c, h, rfl⟩ := h
      rw [eqF_eq] at h
      have := run_eqA (w := w) hE hu h hx hy p q true
      exact ⟨_, this, by simp only [VR]; rfl⟩
  · split at h
    · simp only [VR] at hx hy
      subst hx; subst hy
      rename_i k a' k' c
      rw [ile_eq] at h
      by_cases hc : 0 ≤ c
      · rw [decide_eq_true hc] at h
        cases h
        refine ⟨.int k (k.wrap (a' * 2 ^ (min c.toNat k.bits))), hi .shl (by decide) (by decide) _ ?_, by simp only [VR]⟩
        simp only [binOp, Op.shift]
        rw [if_neg (by omega)]
        rfl
      · rw [decide_eq_false hc] at h; cases h
    · cases h
  · split at h
    · simp only [VR] at hx hy
      subst hx; subst hy
      rename_i k a' k' c
      rw [ile_eq] at h
      by_cases hc : 0 ≤ c
      · rw [decide_eq_true hc] at h
        cases h
        refine ⟨.int k (a'.fdiv (2 ^ (min c.toNat k.bits))), hi .shr (by decide) (by decide) _ ?_, by simp only [VR]⟩
        simp only [binOp, Op.shift]
        rw [if_neg (by omega)]
        rfl
      · rw [decide_eq_false hc] at h; cases h
    · cases h
  · rename_i n1 n2 n3 n4
    split at h
    · simp only [VR] at hx hy
      subst hx; subst hy
      rename_i k a' k' c
      by_cases e : k = k'
      · subst e
        rw [decide_eq_true rfl, cond_true] at h
        obtain ⟨v, h1, h2⟩ := run_binI (P := P) (w := w) (R := R) (n := n) h t
        exact ⟨v, hi o n1 n2 v h1, h2⟩
      · rw [decide_eq_false e] at h; cases h
    · simp only [VR] at hx hy
      obtain ⟨rfl, hl⟩ := hx
      obtain ⟨rfl, hm⟩ := hy
      rename_i l m
      split at h
      · cases hb : Nat.ble (l.length + m.length) 1000000 with
        | false => rw [hb] at h; cases h
        | true =>
          rw [hb, cond_true] at h
          cases h
          have hb := nble_of hb
          refine ⟨.string (bytesA l ++ bytesA m), hi .add (by decide) (by decide) _ ?_, ?_⟩
          · simp only [binOp, Op.stringOp, bytesA_size]
            rw [if_neg (by simp [IntKind.max, IntKind.signed, IntKind.bits]; omega)]
            rfl
          · simp only [VR]
            refine ⟨by rw [bytesA_append], fun c hc => ?_⟩
            rcases List.mem_append.1 hc with hc | hc
            · exact hl c hc
            · exact hm c hc
      · cases h
        refine ⟨.bool (ltL l m), hi .lss (by decide) (by decide) _ ?_, by simp only [VR]⟩
        simp only [binOp, Op.stringOp, less_bytes hl hm]
        rfl
      · cases h
        refine ⟨.bool (ltL l m || beqL l m), hi .leq (by decide) (by decide) _ ?_, by simp only [VR]⟩
        simp only [binOp, Op.stringOp, less_bytes hl hm, str_beq hl hm]
        rfl
      · cases h
        refine ⟨.bool (!(ltL l m || beqL l m)), hi .gtr (by decide) (by decide) _ ?_, by simp only [VR]⟩
        simp only [binOp, Op.stringOp, less_bytes hl hm, str_beq hl hm]
        rfl
      · cases h
        refine ⟨.bool (!ltL l m), hi .geq (by decide) (by decide) _ ?_, by simp only [VR]⟩
        simp only [binOp, Op.stringOp, less_bytes hl hm]
        rfl
      · cases h
    · cases h
theorem upd_op_sound (hE : EnvOK P E) (h : HR F R s w0 w) {a : Tree AV} {act : Act} (hT : TR R s.nx a act) {t : TypeId} {m k v : Operand} {r : Option AV} (ho : evOp.evUpd E a s t m k v = some (r, s')) :
    OpRes P F R s.nx w0 w (do Instr.mapUpdate t (act.eval m) (act.eval k) (act.eval v); pure .skip) r s' := by
  unfold evOp.evUpd at ho
  split at ho <;> try (cases ho; done)
  rename_i b hm
  split at ho <;> try (cases ho; done)
  rename_i k' hk
  split at ho <;> try (cases ho; done)
  rename_i v' hv
  split at ho <;> try (cases ho; done)
  rename_i u hu
  split at ho <;> try (cases ho; done)
  rename_i kt et hke
  split at ho <;> try (cases ho; done)
  rename_i uk huk
  cases hb : (keyK uk.k k' && evOp.oneOrAgg v') with
  | false => rw [hb] at ho; cases ho
  | true =>
    rw [hb, cond_true] at ho
    rw [Bool.and_eq_true] at hb
    split at ho <;> try (cases ho; done)
    rename_i es hes
    simp only [Option.map_eq_some_iff] at ho
    obtain ⟨es', hup, e⟩ := ho
    cases e
    have hmv := opd_sound hT hm
    simp only [VR] at hmv
    rw [hmv.2]
    exact op_mapUpdate hE h hu hke huk hb.1 (opd_sound hT hk) (opd_sound hT hv) hes hup
theorem os_move (hE : EnvOK P E) (h : HR F R s w0 w) {a : Tree AV} {act : Act} (hT : TR R s.nx a act) (x : Operand) {r : Option AV} (ho : evOp E a s (.move x) = some (r, s')) : OpRes P F R s.nx w0 w (pure (.value (act.eval x))) r s' := by
  simp only [evOp, eo_move] at ho
  simp only [Option.map_eq_some_iff] at ho
  obtain ⟨v, hv, e⟩ := ho
  cases e
  exact OpRes.pure' h rfl (opd_sound hT hv)
theorem os_assign (hE : EnvOK P E) (h : HR F R s w0 w) {a : Tree AV} {act : Act} (hT : TR R s.nx a act) (x : Operand) {r : Option AV} (ho : evOp E a s (.assign x) = some (r, s')) : OpRes P F R s.nx w0 w (pure (.value (act.eval x))) r s' := by
  simp only [evOp, eo_assign] at ho
  simp only [Option.map_eq_some_iff] at ho
  obtain ⟨v, hv, e⟩ := ho
  cases e
  exact OpRes.pure' h rfl (opd_sound hT hv)
theorem os_pick (hE : EnvOK P E) (h : HR F R s w0 w) {a : Tree AV} {act : Act} (hT : TR R s.nx a act) (c x y : Operand) {r : Option AV} (ho : evOp E a s (.pick c x y) = some (r, s')) : OpRes P F R s.nx w0 w (do pure (.value (if ← asBool (act.eval c) then act.eval x else act.eval y))) r s' := by
  simp only [evOp, eo_pick] at ho
  split at ho <;> try (cases ho; done)
  · rename_i hc
    simp only [Option.map_eq_some_iff] at ho
    obtain ⟨v, hv, e⟩ := ho
    cases e
    have hcv := opd_sound hT hc
    simp only [VR] at hcv
    exact OpRes.pure' h (v := act.eval x) (by simp [hcv, asBool]) (opd_sound hT hv)
  · rename_i hc
    simp only [Option.map_eq_some_iff] at ho
    obtain ⟨v, hv, e⟩ := ho
    cases e
    have hcv := opd_sound hT hc
    simp only [VR] at hcv
    exact OpRes.pure' h (v := act.eval y) (by simp [hcv, asBool]) (opd_sound hT hv)
theorem os_alloc (hE : EnvOK P E) (h : HR F R s w0 w) {a : Tree AV} {act : Act} (hT : TR R s.nx a act) (e : TypeId) {r : Option AV} (ho : evOp E a s (.alloc e) = some (r, s')) : OpRes P F R s.nx w0 w (do pure (.value (← Instr.alloc e true (.tuple #[])))) r s' := by
  simp only [evOp, eo_alloc] at ho
  split at ho <;> try (cases ho; done)
  rename_i u hu
  split at ho <;> try (cases ho; done)
  rename_i z hz
  cases hb : allOne (cellsA z) with
  | false => rw [hb] at ho; cases ho
  | true =>
    rw [hb, cond_true] at ho
    cases ho
    exact op_alloc hE h hu hz hb
theorem os_box (hE : EnvOK P E) (h : HR F R s w0 w) {a : Tree AV} {act : Act} (hT : TR R s.nx a act) (e : TypeId) (x : Operand) {r : Option AV} (ho : evOp E a s (.box e x) = some (r, s')) : OpRes P F R s.nx w0 w (do pure (.value (← Instr.box e (act.eval x)))) r s' := by
  simp only [evOp, eo_box] at ho
  split at ho <;> try (cases ho; done)
  rename_i v hv
  cases hb : allOne (cellsA v) with
  | false => rw [hb] at ho; cases ho
  | true =>
    rw [hb, cond_true] at ho
    cases ho
    exact op_box h (opd_sound hT hv) hb
theorem os_build (hE : EnvOK P E) (h : HR F R s w0 w) {a : Tree AV} {act : Act} (hT : TR R s.nx a act) (t : TypeId) (ps : Array (Nat × Operand)) {r : Option AV} (ho : evOp E a s (.build t ps) = some (r, s')) : OpRes P F R s.nx w0 w (do pure (.value (← Instr.build t (ps.map fun (i, x) => (i, act.eval x))))) r s' := by
  simp only [evOp, eo_build] at ho
  split at ho <;> try (cases ho; done)
  rename_i u hu
  split at ho <;> try (cases ho; done)
  · rename_i fs z hk hz
    split at ho <;> try (cases ho; done)
    rename_i pl hpl
    split at ho <;> try (cases ho; done)
    rename_i ps' hps
    simp only [Option.map_eq_some_iff] at ho
    obtain ⟨cs, hf, e⟩ := ho
    cases e
    obtain ⟨h1, h2⟩ := parts_sound hT hps
    have := op_build (us := ps.map fun (i, x) => (i, act.eval x)) hE h hu hk hz hpl (by simpa using h1) (by simpa using h2) hf
    exact this
  · rename_i m e z hk hz
    split at ho <;> try (cases ho; done)
    rename_i ue hue
    split at ho <;> try (cases ho; done)
    rename_i ps' hps
    simp only [Option.map_eq_some_iff] at ho
    obtain ⟨cs, hf, e⟩ := ho
    cases e
    obtain ⟨h1, h2⟩ := parts_sound hT hps
    have := op_build_arr (us := ps.map fun (i, x) => (i, act.eval x)) hE h hu hk hue hz (by simpa using h1) (by simpa using h2) hf
    exact this
theorem os_buildSlice (hE : EnvOK P E) (h : HR F R s w0 w) {a : Tree AV} {act : Act} (hT : TR R s.nx a act) (t : TypeId) (len : Nat) (ps : Array (Nat × Operand)) {r : Option AV} (ho : evOp E a s (.buildSlice t len ps) = some (r, s')) : OpRes P F R s.nx w0 w (do pure (.value (← Instr.buildSlice t len (ps.map fun (i, x) => (i, act.eval x))))) r s' := by
  simp only [evOp, eo_buildSlice] at ho
  split at ho <;> try (cases ho; done)
  rename_i u hu
  split at ho <;> try (cases ho; done)
  rename_i e hk
  split at ho <;> try (cases ho; done)
  rename_i ue hue
  split at ho <;> try (cases ho; done)
  rename_i z hz
  split at ho <;> try (cases ho; done)
  rename_i ps' hps
  cases hb : (Nat.beq (cellsA z).length ue.size && Nat.blt 0 ue.size && Nat.ble (len * ue.size) 16777216) with
  | false => rw [hb] at ho; cases ho
  | true =>
    rw [hb, cond_true] at ho
    rw [Bool.and_eq_true, Bool.and_eq_true] at hb
    split at ho <;> try (cases ho; done)
    rename_i cs hf
    cases hb2 : (allOne cs && Nat.beq cs.length (len * ue.size)) with
    | false => rw [hb2] at ho; cases ho
    | true =>
      rw [hb2, cond_true] at ho
      cases ho
      rw [Bool.and_eq_true] at hb2
      obtain ⟨h1, h2⟩ := parts_sound hT hps
      have q1 : (cellsA z).length = ue.size := nbeq_of hb.1.1
      have q2 : 0 < ue.size := nblt_of hb.1.2
      have q3 : len * ue.size ≤ 16777216 := nble_of hb.2
      have q4 : cs.length = len * ue.size := nbeq_of hb2.2
      have g1 : (ps.map fun (i, x) => (i, act.eval x)).toList.map Prod.fst = ps'.map Prod.fst := by simpa using h1
      have g2 : VRL R s.nx (ps'.map Prod.snd) ((ps.map fun (i, x) => (i, act.eval x)).toList.map Prod.snd) := by simpa using h2
      exact op_buildSlice hE h hu hk hue hz q1 q2 q3 g1 g2 hf hb2.1 q4
theorem os_insert (hE : EnvOK P E) (h : HR F R s w0 w) {a : Tree AV} {act : Act} (hT : TR R s.nx a act) (t : TypeId) (m k v : Operand) {r : Option AV} (ho : evOp E a s (.insert t m k v) = some (r, s')) : OpRes P F R s.nx w0 w (do Instr.mapUpdate t (act.eval m) (act.eval k) (act.eval v); pure .skip) r s' := upd_op_sound hE h hT ho
theorem os_mapUpdate (hE : EnvOK P E) (h : HR F R s w0 w) {a : Tree AV} {act : Act} (hT : TR R s.nx a act) (t : TypeId) (m k v : Operand) {r : Option AV} (ho : evOp E a s (.mapUpdate t m k v) = some (r, s')) : OpRes P F R s.nx w0 w (do Instr.mapUpdate t (act.eval m) (act.eval k) (act.eval v); pure .skip) r s' := upd_op_sound hE h hT ho
theorem os_load (hE : EnvOK P E) (h : HR F R s w0 w) {a : Tree AV} {act : Act} (hT : TR R s.nx a act) (t : TypeId) (x : Operand) {r : Option AV} (ho : evOp E a s (.load t x) = some (r, s')) : OpRes P F R s.nx w0 w (do pure (.value (← Instr.loadAt t (act.eval x)))) r s' := by
  simp only [evOp, eo_load] at ho
  split at ho <;> try (cases ho; done)
  rename_i b q hx
  split at ho <;> try (cases ho; done)
  rename_i u hu
  split at ho <;> try (cases ho; done)
  rename_i l hl
  simp only [Option.map_eq_some_iff] at ho
  obtain ⟨v, hv, e⟩ := ho
  cases e
  have hxv := opd_sound hT hx
  simp only [VR] at hxv
  obtain ⟨v', h1, h2⟩ := run_loadA hE h hu hl hv
  rw [hxv.2]
  exact OpRes.val h h1 h2
theorem os_store (hE : EnvOK P E) (h : HR F R s w0 w) {a : Tree AV} {act : Act} (hT : TR R s.nx a act) (t : TypeId) (x v : Operand) {r : Option AV} (ho : evOp E a s (.store t x v) = some (r, s')) : OpRes P F R s.nx w0 w (do Instr.storeAt t (act.eval x) (act.eval v); pure .skip) r s' := by
  simp only [evOp, eo_store] at ho
  split at ho <;> try (cases ho; done)
  rename_i b q hx
  split at ho <;> try (cases ho; done)
  rename_i v' hv
  split at ho <;> try (cases ho; done)
  rename_i u hu
  cases hb : (Nat.beq (cellsA v').length u.size && allOne (cellsA v')) with
  | false => rw [hb] at ho; cases ho
  | true =>
    rw [hb, cond_true] at ho
    rw [Bool.and_eq_true] at hb
    simp only [Option.map_eq_some_iff] at ho
    obtain ⟨s2, hs2, e⟩ := ho
    cases e
    have hxv := opd_sound hT hx
    simp only [VR] at hxv
    obtain ⟨e1, w', h1, h2⟩ := run_storeA hE h hu (opd_sound hT hv) (nbeq_of hb.1) (allOne_spec hb.2) hs2
    refine ⟨R, w', fun _ _ => rfl, by omega, h2, ?_⟩
    rw [hxv.2]
    simp [Sem.run_bind, h1]
theorem os_nilCheck (hE : EnvOK P E) (h : HR F R s w0 w) {a : Tree AV} {act : Act} (hT : TR R s.nx a act) (x : Operand) {r : Option AV} (ho : evOp E a s (.nilCheck x) = some (r, s')) (d : Option Tmp) (ty : TypeId) (pos : String) (af : Array Edge) (gd : Option (Nat × Bool)) : OpRes P F R s.nx w0 w (execOp act.eval ⟨d, .nilCheck x, ty, pos, af, gd⟩) r s' := by
  simp only [evOp, eo_nilCheck] at ho
  split at ho <;> try (cases ho; done)
  rename_i v hv
  have hvv := opd_sound hT hv
  cases v <;> simp only [isThere, cond_true, cond_false] at ho <;> try (cases ho; done)
  case p b q =>
    cases ho
    have hvv' := hvv
    simp only [VR] at hvv
    exact OpRes.pure' h (v := act.eval x) (by unfold execOp; simp only [hvv.2]; rfl) hvv'
  case fn f l m =>
    cases ho
    have hvv' := hvv
    simp only [VR] at hvv
    obtain ⟨us, vs, _, _, e⟩ := hvv
    exact OpRes.pure' h (v := act.eval x) (by unfold execOp; simp only [e]; rfl) hvv'
theorem os_binOp (hE : EnvOK P E) (h : HR F R s w0 w) {a : Tree AV} {act : Act} (hT : TR R s.nx a act) (op : BinOp) (t : TypeId) (x y : Operand) (t2 : TypeId) {r : Option AV} (ho : evOp E a s (.binOp op t x y t2) = some (r, s')) : OpRes P F R s.nx w0 w (do pure (.value (← (do eqGuard op t x y (act.eval x) (act.eval y); binOp op t (act.eval x) (act.eval y) : Sem Value)))) r s' := by
  simp only [evOp, eo_binOp] at ho
  split at ho <;> try (cases ho; done)
  rename_i x' hx
  split at ho <;> try (cases ho; done)
  rename_i y' hy
  simp only [Option.map_eq_some_iff] at ho
  obtain ⟨v, hv, e⟩ := ho
  cases e
  obtain ⟨v', h1, h2⟩ := binA_sound (P := P) (w := w) hE hv (opd_sound hT hx) (opd_sound hT hy) x y
  exact OpRes.val h h1 h2
theorem os_unOp (hE : EnvOK P E) (h : HR F R s w0 w) {a : Tree AV} {act : Act} (hT : TR R s.nx a act) (op : UnOp) (t : TypeId) (x : Operand) {r : Option AV} (ho : evOp E a s (.unOp op t x) = some (r, s')) : OpRes P F R s.nx w0 w (do pure (.value (← Op.unary op (act.eval x)))) r s' := by
  simp only [evOp, eo_unOp] at ho
  split at ho <;> try (cases ho; done)
  · rename_i c hx
    have hxv := opd_sound hT hx
    simp only [VR] at hxv
    cases op <;> simp only at ho <;> try (cases ho; done)
    cases ho
    exact OpRes.val h (v := .bool (!c)) (by rw [hxv]; simp [Op.unary]) (by simp only [VR])
  · rename_i k j hx
    have hxv := opd_sound hT hx
    simp only [VR] at hxv
    cases op <;> simp only at ho <;> try (cases ho; done)
    cases ho
    exact OpRes.val h (v := .int k (k.wrap (0 - j))) (by rw [hxv]; simp [Op.unary, Op.intArith]) (by simp only [VR])
theorem bytesOf_spec : ∀ (l : List AV) {r : List Nat}, bytesOf l = some r → r.length = l.length ∧ (∀ c ∈ r, c < 256) ∧ ∀ (j : Nat) (c : Nat), r[j]? = some c → l[j]? = some (.i .u8 (.ofNat c))
  | [], r, h => by
    cases h
    exact ⟨rfl, fun c hc => (by cases hc), fun j c hj => by simp at hj⟩
  | x :: l, r, h => by
    unfold bytesOf at h
    split at h <;> try (cases h; done)
    · rename_i heq
      cases heq
    · rename_i n l2 heq
      cases heq
      cases hb : Nat.blt n 256 with
      | false => rw [hb] at h; cases h
      | true =>
        rw [hb, cond_true] at h
        simp only [Option.map_eq_some_iff] at h
        obtain ⟨r2, h2, rfl⟩ := h
        obtain ⟨g1, g2, g3⟩ := bytesOf_spec l h2
        refine ⟨by simp [g1], fun c hc => ?_, fun j c hj => ?_⟩
        · rcases List.mem_cons.1 hc with rfl | hc
          · exact nblt_of hb
          · exact g2 c hc
        · cases j with
          | zero => simp at hj; subst hj; rfl
          | succ j => simpa using g3 j c (by simpa using hj)
theorem os_convert (hE : EnvOK P E) (h : HR F R s w0 w) {a : Tree AV} {act : Act} (hT : TR R s.nx a act) (src dst : TypeId) (x : Operand) {r : Option AV} (ho : evOp E a s (.convert src dst x) = some (r, s')) : OpRes P F R s.nx w0 w (do pure (.value (← convert src dst (act.eval x)))) r s' := by
  simp only [evOp, eo_convert] at ho
  split at ho <;> try (cases ho; done)
  · rename_i l hx
    split at ho <;> try (cases ho; done)
    rename_i u hu
    split at ho <;> try (cases ho; done)
    rename_i hk
    split at ho <;> try (cases ho; done)
    rename_i us hus
    cases ho
    have hxv := opd_sound hT hx
    have hxv' := hxv
    simp only [VR] at hxv
    obtain ⟨_, ⟨d, hd, hkd⟩, -⟩ := hE.tt _ _ hu
    obtain ⟨_, ⟨ds, hds, hksd⟩, -⟩ := hE.tt _ _ hus
    rw [hk] at hkd
    obtain rfl : d = .string := hkd
    refine OpRes.val h (v := act.eval x) ?_ hxv'
    rw [hxv.1]
    unfold convert
    simp only [Sem.run_bind, run_underlying hds, run_underlying hd, Result.andThen_ok]
    cases ds <;> simp
  · rename_i hx
    split at ho <;> try (cases ho; done)
    rename_i u hu
    split at ho <;> try (cases ho; done)
    rename_i hk
    split at ho <;> try (cases ho; done)
    rename_i us hus
    split at ho <;> try (cases ho; done)
    rename_i e hke
    split at ho <;> try (cases ho; done)
    rename_i ue hue
    split at ho <;> try (cases ho; done)
    rename_i hku
    cases ho
    have hxv := opd_sound hT hx
    simp only [VR] at hxv
    obtain ⟨_, ⟨d, hd, hkd⟩, -⟩ := hE.tt _ _ hu
    obtain ⟨_, ⟨ds, hds, hksd⟩, -⟩ := hE.tt _ _ hus
    obtain ⟨_, ⟨de, hde, hkde⟩, -⟩ := hE.tt _ _ hue
    rw [hk] at hkd
    rw [hke] at hksd
    rw [hku] at hkde
    obtain rfl : d = .string := hkd
    obtain rfl : ds = .slice e := hksd
    obtain rfl : de = .int .u8 := hkde
    refine OpRes.val h (v := .string (bytesA [])) ?_ (by simp only [VR]; exact ⟨trivial, fun c hc => by cases hc⟩)
    rw [hxv]
    have := run_convert_bytes_back (P := P) w src dst e ⟨0, 0, none⟩ 0 [] hds hde hd (fun j hj => by cases hj)
    unfold convert at this ⊢
    simp only [Sem.run_bind, run_underlying hds, run_underlying hd, run_underlying hde, Result.andThen_ok]
    rfl
  · rename_i b o m c ex zz hx
    split at ho <;> try (cases ho; done)
    rename_i u hu
    split at ho <;> try (cases ho; done)
    rename_i hk
    split at ho <;> try (cases ho; done)
    rename_i us hus
    split at ho <;> try (cases ho; done)
    rename_i e hke
    split at ho <;> try (cases ho; done)
    rename_i ue hue
    split at ho <;> try (cases ho; done)
    rename_i hku
    split at ho <;> try (cases ho; done)
    rename_i l hl
    simp only [Option.map_eq_some_iff] at ho
    obtain ⟨bl, hbl, e1⟩ := ho
    cases e1
    have hxv := opd_sound hT hx
    simp only [VR] at hxv
    obtain ⟨_, ⟨d, hd, hkd⟩, -⟩ := hE.tt _ _ hu
    obtain ⟨_, ⟨ds, hds, hksd⟩, -⟩ := hE.tt _ _ hus
    obtain ⟨_, ⟨de, hde, hkde⟩, -⟩ := hE.tt _ _ hue
    rw [hk] at hkd
    rw [hke] at hksd
    rw [hku] at hkde
    obtain rfl : d = .string := hkd
    obtain rfl : ds = .slice e := hksd
    obtain rfl : de = .int .u8 := hkde
    obtain ⟨_, o', c', hxe, hoo, _, _, hlc, _⟩ := hxv
    obtain ⟨l1, _, _, vs, l4, l5⟩ := h.load hl
    obtain ⟨b1, b2, b3⟩ := bytesOf_spec l hbl
    refine OpRes.val h (v := .string (bytesA bl)) ?_ (by simp only [VR]; exact ⟨trivial, b2⟩)
    rw [hxe]
    have hlen : (bl.map UInt8.ofNat).length = m := by rw [List.length_map, b1, l1]
    have := run_convert_bytes_back (P := P) w src dst e ⟨(R b).1, o', none⟩ c' (bl.map UInt8.ofNat) hds hde hd (fun j hj => by
      have hjm : j < m := by rw [hlen] at hj; exact hj
      have ho' : o' = o := hoo.resolve_left (by omega)
      subst ho'
      have hjb : j < bl.length := by simpa using hj
      have hlj := b3 j (bl[j]) (List.getElem?_eq_getElem hjb)
      obtain ⟨v, hv1, hv2⟩ := l4.get hlj
      simp only [VR] at hv2
      rw [Addr.add_eq, l5 j v hv1, hv2]
      have hb256 := b2 bl[j] (List.getElem_mem _)
      simp
      omega)
    rw [hlen] at this
    exact this
  · rename_i k j hx
    split at ho <;> try (cases ho; done)
    rename_i u hu
    split at ho <;> try (cases ho; done)
    rename_i k' hk
    split at ho <;> try (cases ho; done)
    rename_i us hus
    cases ho
    have hxv := opd_sound hT hx
    simp only [VR] at hxv
    obtain ⟨_, ⟨d, hd, hkd⟩, -⟩ := hE.tt _ _ hu
    obtain ⟨_, ⟨ds, hds, hksd⟩, -⟩ := hE.tt _ _ hus
    rw [hk] at hkd
    obtain rfl : d = .int k' := hkd
    refine OpRes.val h (v := .int k' (k'.wrap j)) ?_ (by simp only [VR])
    rw [hxv]
    unfold convert
    simp only [Sem.run_bind, run_underlying hds, run_underlying hd, Result.andThen_ok]
    cases ds <;> simp [Conv.intToInt]
theorem os_makeFunc (hE : EnvOK P E) (h : HR F R s w0 w) {a : Tree AV} {act : Act} (hT : TR R s.nx a act) (fn : Fn) (fst cap : Array Operand) {r : Option AV} (ho : evOp E a s (.makeFunc fn fst cap) = some (r, s')) : OpRes P F R s.nx w0 w (do pure (.value (← Instr.makeFunc fn (fst.map act.eval) (cap.map act.eval)))) r s' := by
  simp only [evOp, eo_makeFunc] at ho
  split at ho <;> try (cases ho; done)
  rename_i f
  split at ho <;> try (cases ho; done)
  rename_i l hl
  split at ho <;> try (cases ho; done)
  rename_i m hm
  cases ho
  have h1 := opds_sound hT hl
  have h2 := opds_sound hT hm
  refine OpRes.val h (v := .func (.func f) (fst.map act.eval) (cap.map act.eval)) (by simp [Instr.makeFunc]) ?_
  simp only [VR]
  exact ⟨_, _, h1, h2, by congr 1 <;> (apply Array.ext'; simp)⟩
theorem os_makeMap (hE : EnvOK P E) (h : HR F R s w0 w) {a : Tree AV} {act : Act} (hT : TR R s.nx a act) (t : TypeId) (rs : Option Operand) {r : Option AV} (ho : evOp E a s (.makeMap t rs) = some (r, s')) : OpRes P F R s.nx w0 w (do pure (.value (← Instr.makeMap t (rs.map act.eval)))) r s' := by
  simp only [evOp, eo_makeMap] at ho
  split at ho <;> try (cases ho; done)
  cases ho
  exact op_makeMap h t
theorem os_makeSlice (hE : EnvOK P E) (h : HR F R s w0 w) {a : Tree AV} {act : Act} (hT : TR R s.nx a act) (t : TypeId) (l c : Operand) {r : Option AV} (ho : evOp E a s (.makeSlice t l c) = some (r, s')) : OpRes P F R s.nx w0 w (do pure (.value (← Instr.makeSlice t (act.eval l) (act.eval c)))) r s' := by
  simp only [evOp, eo_makeSlice] at ho
  split at ho <;> try (cases ho; done)
  rename_i k1 j1 hl
  split at ho <;> try (cases ho; done)
  rename_i k2 j2 hc
  split at ho <;> try (cases ho; done)
  rename_i u hu
  split at ho <;> try (cases ho; done)
  rename_i e hk
  split at ho <;> try (cases ho; done)
  rename_i ue hue
  split at ho <;> try (cases ho; done)
  rename_i z hz
  cases hb : (Nat.beq j1 j2 && Nat.beq (cellsA z).length ue.size && Nat.blt 0 ue.size && Nat.ble (j1 * ue.size) 16777216 && Nat.ble (ue.bytes * j1) 281474976710656 && allOne (cellsA z)) with
  | false => rw [hb] at ho; cases ho
  | true =>
    rw [hb, cond_true] at ho
    cases ho
    simp only [Bool.and_eq_true] at hb
    obtain ⟨⟨⟨⟨⟨b1, b2⟩, b3⟩, b4⟩, b5⟩, b6⟩ := hb
    have b1 := nbeq_of b1
    subst b1
    have hlv := opd_sound hT hl
    have hcv := opd_sound hT hc
    simp only [VR] at hlv hcv
    rw [hlv, hcv]
    exact op_makeSlice hE h hu hk hue hz (nbeq_of b2) (nblt_of b3) (nble_of b4) (nble_of b5) b6 k1 k2
theorem os_slice (hE : EnvOK P E) (h : HR F R s w0 w) {a : Tree AV} {act : Act} (hT : TR R s.nx a act) (t : TypeId) (x : Operand) (l hh m : Option Operand) {r : Option AV} (ho : evOp E a s (.slice t x l hh m) = some (r, s')) : OpRes P F R s.nx w0 w (do pure (.value (← Instr.sliceAt t (act.eval x) (l.map act.eval) (hh.map act.eval) (m.map act.eval)))) r s' := by
  simp only [evOp, eo_slice] at ho
  split at ho
  · split at ho <;> try (cases ho; done)
    rename_i x' hx
    split at ho <;> try (cases ho; done)
    rename_i u hu
    split at ho <;> try (cases ho; done)
    rename_i l' hl
    split at ho <;> try (cases ho; done)
    rename_i h' hh'
    simp only [Option.map_eq_some_iff] at ho
    obtain ⟨v, hv, e⟩ := ho
    cases e
    exact op_slice hE h hT hu (opd_sound hT hx) hl hh' hv
  · split at ho <;> try (cases ho; done)
    rename_i x' hx
    split at ho <;> try (cases ho; done)
    rename_i u hu
    split at ho <;> try (cases ho; done)
    rename_i l' hl
    split at ho <;> try (cases ho; done)
    rename_i ho'
    split at ho <;> try (cases ho; done)
    rename_i h' hh'
    split at ho <;> try (cases ho; done)
    rename_i m' hm'
    simp only [Option.map_eq_some_iff] at ho
    obtain ⟨v, hv, e⟩ := ho
    cases e
    exact op_sliceM hE h hT hu (opd_sound hT hx) hl hh' hm' hv
theorem os_fieldAddr (hE : EnvOK P E) (h : HR F R s w0 w) {a : Tree AV} {act : Act} (hT : TR R s.nx a act) (t : TypeId) (x : Operand) (f : Nat) {r : Option AV} (ho : evOp E a s (.fieldAddr t x f) = some (r, s')) : OpRes P F R s.nx w0 w (do pure (.value (← Instr.fieldAt t (act.eval x) f))) r s' := by
  simp only [evOp, eo_fieldAddr] at ho
  split at ho <;> try (cases ho; done)
  rename_i b q hx
  split at ho <;> try (cases ho; done)
  rename_i u hu
  split at ho <;> try (cases ho; done)
  rename_i fs hk
  split at ho <;> try (cases ho; done)
  rename_i q' ft hf
  split at ho <;> try (cases ho; done)
  rename_i uf huf
  cases hb : Nat.beq uf.size 0 with
  | true => rw [hb] at ho; cases ho
  | false =>
    rw [hb, cond_false] at ho
    cases ho
    have hxv := opd_sound hT hx
    simp only [VR] at hxv
    rw [nthL_eq] at hf
    rw [hxv.2]
    exact OpRes.val h (op_fieldAddr hE hu hk hf huf (fun e => by rw [e] at hb; cases hb) _ _) (by simp only [VR]; exact ⟨hxv.1, trivial⟩)
theorem os_field (hE : EnvOK P E) (h : HR F R s w0 w) {a : Tree AV} {act : Act} (hT : TR R s.nx a act) (t : TypeId) (x : Operand) (f : Nat) {r : Option AV} (ho : evOp E a s (.field t x f) = some (r, s')) : OpRes P F R s.nx w0 w (do pure (.value (← Instr.field t (act.eval x) f))) r s' := by
  simp only [evOp, eo_field] at ho
  split at ho <;> try (cases ho; done)
  rename_i l hx
  split at ho <;> try (cases ho; done)
  rename_i u hu
  split at ho <;> try (cases ho; done)
  rename_i fs hk
  split at ho <;> try (cases ho; done)
  rename_i q' ft hf
  split at ho <;> try (cases ho; done)
  rename_i uf huf
  cases hb : Nat.ble (q' + uf.size) l.length with
  | false => rw [hb] at ho; cases ho
  | true =>
    rw [hb, cond_true] at ho
    simp only [Option.map_eq_some_iff] at ho
    obtain ⟨v, hv, e⟩ := ho
    cases e
    rw [nthL_eq] at hf
    exact op_field hE h hu hk hf huf (opd_sound hT hx) (nble_of hb) hv
theorem os_indexAddr (hE : EnvOK P E) (h : HR F R s w0 w) {a : Tree AV} {act : Act} (hT : TR R s.nx a act) (t : TypeId) (x i : Operand) {r : Option AV} (ho : evOp E a s (.indexAddr t x i) = some (r, s')) : OpRes P F R s.nx w0 w (do pure (.value (← Instr.indexAt t (act.eval x) (act.eval i)))) r s' := by
  simp only [evOp, eo_indexAddr] at ho
  split at ho <;> try (cases ho; done)
  · rename_i b q l c ex zz hx
    split at ho <;> try (cases ho; done)
    rename_i k j hi
    split at ho <;> try (cases ho; done)
    rename_i u hu
    split at ho <;> try (cases ho; done)
    rename_i e hk
    split at ho <;> try (cases ho; done)
    rename_i ue hue
    cases hb : Nat.blt j l with
    | false => rw [hb] at ho; cases ho
    | true =>
      rw [hb, cond_true] at ho
      cases ho
      have hiv := opd_sound hT hi
      simp only [VR] at hiv
      have hxv := opd_sound hT hx
      have hr := op_indexAddr (P := P) (w := w) hE hu hk hue hxv (k := k) (nblt_of hb)
      simp only [VR] at hxv
      rw [hiv]
      exact OpRes.val h hr (by simp only [VR]; exact ⟨hxv.1, trivial⟩)
  · rename_i b q hx
    split at ho <;> try (cases ho; done)
    rename_i k j hi
    split at ho <;> try (cases ho; done)
    rename_i u hu
    split at ho <;> try (cases ho; done)
    rename_i m e hk
    split at ho <;> try (cases ho; done)
    rename_i ue hue
    cases hb : Nat.blt j m with
    | false => rw [hb] at ho; cases ho
    | true =>
      rw [hb, cond_true] at ho
      cases ho
      have hiv := opd_sound hT hi
      have hxv := opd_sound hT hx
      simp only [VR] at hiv hxv
      obtain ⟨hbn, hxe⟩ := hxv
      rw [hiv, hxe]
      exact OpRes.val h (op_indexAddr_arr (P := P) (w := w) hE hu hk hue _ _ (k := k) (nblt_of hb)) (by simp only [VR]; exact ⟨hbn, trivial⟩)
theorem os_index (hE : EnvOK P E) (h : HR F R s w0 w) {a : Tree AV} {act : Act} (hT : TR R s.nx a act) (t : TypeId) (x i : Operand) {r : Option AV} (ho : evOp E a s (.index t x i) = some (r, s')) : OpRes P F R s.nx w0 w (do pure (.value (← Instr.index t (act.eval x) (act.eval i)))) r s' := by
  simp only [evOp, eo_index] at ho
  split at ho <;> try (cases ho; done)
  · rename_i l hx
    split at ho <;> try (cases ho; done)
    rename_i k j hi
    split at ho <;> try (cases ho; done)
    rename_i u hu
    split at ho <;> try (cases ho; done)
    rename_i hk
    simp only [Option.map_eq_some_iff] at ho
    obtain ⟨c, hc, e⟩ := ho
    cases e
    have hiv := opd_sound hT hi
    have hxv := opd_sound hT hx
    simp only [VR] at hiv hxv
    obtain ⟨hxe, hxb⟩ := hxv
    rw [nthL_eq] at hc
    obtain ⟨_, ⟨d, hd, hkd⟩, -⟩ := hE.tt _ _ hu
    rw [hk] at hkd
    obtain rfl : d = .string := hkd
    have hjl := (List.getElem?_eq_some_iff.1 hc).1
    have hbj : (bytesA l)[j]? = some (UInt8.ofNat c) := by
      have : (bytesA l)[j]? = (bytesA l).data[j]? := by
        by_cases hj : j < (bytesA l).size
        · rw [getElem?_pos (bytesA l) j hj, getElem?_pos (bytesA l).data j hj]; rfl
        · rw [bytesA_size] at hj; omega
      rw [this]
      simp [bytesA, hc]
    have hcb := hxb c (List.mem_of_getElem? hc)
    refine OpRes.val h (v := .int .u8 (c : Int)) ?_ (by simp only [VR]; rfl)
    rw [hxe, hiv]
    have h0 : (0 : Int) ≤ Int.ofNat j := Int.natCast_nonneg j
    simp [Instr.index, asIntOf, run_underlying hd, hbj, Nat.mod_eq_of_lt hcb]
  · rename_i l hx
    split at ho <;> try (cases ho; done)
    rename_i k j hi
    split at ho <;> try (cases ho; done)
    rename_i u hu
    split at ho <;> try (cases ho; done)
    rename_i m e hk
    split at ho <;> try (cases ho; done)
    rename_i ue hue
    cases hb : (Nat.blt j m && Nat.ble (j * ue.size + ue.size) l.length) with
    | false => rw [hb] at ho; cases ho
    | true =>
      rw [hb, cond_true] at ho
      simp only [Option.map_eq_some_iff] at ho
      obtain ⟨y, hy, e⟩ := ho
      cases e
      rw [Bool.and_eq_true] at hb
      have hiv := opd_sound hT hi
      simp only [VR] at hiv
      rw [hiv]
      exact op_index_arr hE h hu hk hue (opd_sound hT hx) (nblt_of hb.1) (nble_of hb.2) hy
theorem os_lookup (hE : EnvOK P E) (h : HR F R s w0 w) {a : Tree AV} {act : Act} (hT : TR R s.nx a act) (t : TypeId) (x k : Operand) (ok : Bool) {r : Option AV} (ho : evOp E a s (.lookup t x k ok) = some (r, s')) : OpRes P F R s.nx w0 w (do pure (.value (← Instr.lookup t (act.eval x) (act.eval k) ok))) r s' := by
  simp only [evOp, eo_lookup] at ho
  split at ho <;> try (cases ho; done)
  rename_i x' hx
  split at ho <;> try (cases ho; done)
  rename_i k' hk
  split at ho <;> try (cases ho; done)
  rename_i u hu
  split at ho <;> try (cases ho; done)
  rename_i kt et hke
  split at ho <;> try (cases ho; done)
  rename_i uk huk
  split at ho <;> try (cases ho; done)
  rename_i ue hue
  split at ho <;> try (cases ho; done)
  rename_i z hz
  cases hb : keyK uk.k k' with
  | false => rw [hb] at ho; cases ho
  | true =>
    rw [hb, cond_true] at ho
    split at ho <;> try (cases ho; done)
    rename_i r' hr
    cases ho
    exact op_lookup hE h hu hke huk hue hz (opd_sound hT hx) hb (opd_sound hT hk) hr ok
theorem os_extract (hE : EnvOK P E) (h : HR F R s w0 w) {a : Tree AV} {act : Act} (hT : TR R s.nx a act) (x : Operand) (i : Nat) {r : Option AV} (ho : evOp E a s (.extract x i) = some (r, s')) : OpRes P F R s.nx w0 w (do pure (.value (← Instr.extract (act.eval x) i))) r s' := by
  simp only [evOp, eo_extract] at ho
  split at ho <;> try (cases ho; done)
  rename_i l hx
  simp only [Option.map_eq_some_iff] at ho
  obtain ⟨v, hv, e⟩ := ho
  cases e
  rw [nthL_eq] at hv
  exact op_extract h (opd_sound hT hx) hv
theorem op_sound (hE : EnvOK P E) (h : HR F R s w0 w) {a : Tree AV} {act : Act} (hT : TR R s.nx a act) {o : Oper} {r : Option AV} (ho : evOp E a s o.op = some (r, s')) : OpRes P F R s.nx w0 w (execOp act.eval o) r s' := by
  obtain ⟨d, op, ty, pos, af, gd⟩ := o
  cases op
  case move x => exact os_move hE h hT x ho
  case assign x => exact os_assign hE h hT x ho
  case pick c x y => exact os_pick hE h hT c x y ho
  case alloc e => exact os_alloc hE h hT e ho
  case box e x => exact os_box hE h hT e x ho
  case build t ps => exact os_build hE h hT t ps ho
  case buildSlice t len ps => exact os_buildSlice hE h hT t len ps ho
  case insert t m k v => exact os_insert hE h hT t m k v ho
  case mapUpdate t m k v => exact os_mapUpdate hE h hT t m k v ho
  case load t x => exact os_load hE h hT t x ho
  case store t x v => exact os_store hE h hT t x v ho
  case nilCheck x => exact os_nilCheck hE h hT x ho d ty pos af gd
  case binOp op t x y t2 => exact os_binOp hE h hT op t x y t2 ho
  case unOp op t x => exact os_unOp hE h hT op t x ho
  case convert src dst x => exact os_convert hE h hT src dst x ho
  case makeFunc fn fst cap => exact os_makeFunc hE h hT fn fst cap ho
  case makeMap t rs => exact os_makeMap hE h hT t rs ho
  case makeSlice t l c => exact os_makeSlice hE h hT t l c ho
  case slice t x l hh m => exact os_slice hE h hT t x l hh m ho
  case fieldAddr t x f => exact os_fieldAddr hE h hT t x f ho
  case field t x f => exact os_field hE h hT t x f ho
  case indexAddr t x i => exact os_indexAddr hE h hT t x i ho
  case index t x i => exact os_index hE h hT t x i ho
  case lookup t x k ok => exact os_lookup hE h hT t x k ok ho
  case extract x i => exact os_extract hE h hT x i ho
  all_goals cases ho
end
end
end Go.Proofs.YtbioklhoolkhkadGreatDoor
namespace Go.Proofs.YtbioklhoolkhkadGreatDoor
set_option linter.unusedVariables false
set_option linter.unusedSimpArgs false
set_option linter.unusedSectionVars false
open Go Go.RowKit
noncomputable section

def copyA (s : St) (z : Nat) (x y : AV) : Option (Nat × St) := match x, y with
  | .sl b o n _ _ q, .sl b' o' m _ _ q' => bif Nat.beq q z && Nat.beq q' z then match s.load b' o' ((bif Nat.ble m n then m else n) * z) with
      | some l => (s.store b o l).map fun s => (bif Nat.ble m n then m else n, s)
      | none => none
    else none
  | .sl _ _ _ _ _ _, .ns => some (0, s)
  | .ns, .ns => some (0, s)
  | .ns, .sl _ _ _ _ _ _ => some (0, s)
  | _, _ => none
def eb_len (E : Env) (s : St) (ats : List TypeId) (xs : List AV) : Option (Option AV × St) := match ats, xs with
    | [t], [x] => match E.tt.get t with
      | some u => (lenA s u x).map fun n => (some (.i .i64 (.ofNat n)), s)
      | none => none
    | _, _ => none
def eb_append (E : Env) (s : St) (ats : List TypeId) (xs : List AV) : Option (Option AV × St) := match ats, xs with
    | [t, tx], [x, y] => match E.tt.get t with
      | some u0 => match u0.k with
        | .slice e => match E.tt.get e with
          | some u => match u.z with
            | some z => match E.tt.get tx with
              | some ux => bif Nat.beq (cellsA z).length u.size && Nat.blt 0 u.size then (appendA s e u ux x y).map fun r => (some r.1, r.2) else none
              | none => none
            | none => none
          | none => none
        | _ => none
      | none => none
    | _, _ => none
def eb_copy (E : Env) (s : St) (ats : List TypeId) (xs : List AV) : Option (Option AV × St) := match ats, xs with
    | [t, tx], [x, y] => match E.tt.get t with
      | some u0 => match u0.k with
        | .slice e => match E.tt.get e with
          | some u => (copyA s u.size x y).map fun r => (some (.i .i64 (.ofNat r.1)), r.2)
          | none => none
        | _ => none
      | none => none
    | _, _ => none
def eb_clear (E : Env) (s : St) (ats : List TypeId) (xs : List AV) : Option (Option AV × St) := match ats, xs with
    | [t], [x] => match E.tt.get t with
      | some u0 => match u0.k with
        | .slice e => match E.tt.get e with
          | some u => match u.z with
            | some z => match x with
              | .ns => some (some (.tup []), s)
              | .sl b o n _ _ q => bif Nat.beq q u.size && Nat.beq (cellsA z).length u.size && Nat.blt 0 u.size && allOne (cellsA z) then (s.store b o (repL (cellsA z) n)).map fun s => (some (.tup []), s) else none
              | _ => none
            | none => none
          | none => none
        | _ => none
      | none => none
    | _, _ => none
def eb_max (E : Env) (s : St) (ats : List TypeId) (xs : List AV) : Option (Option AV × St) := match xs with
    | [.i k x, .i _ y] => some (some (.i k (bif ile y x then x else y)), s)
    | _ => none
def eb_min (E : Env) (s : St) (ats : List TypeId) (xs : List AV) : Option (Option AV × St) := match xs with
    | [.i k x, .i _ y] => some (some (.i k (bif ile x y then x else y)), s)
    | _ => none
/-- What a built-in function makes. -/
def evB (E : Env) (s : St) (b : Builtin) (ats : List TypeId) (xs : List AV) : Option (Option AV × St) := match b with
  | .len => eb_len E s ats xs
  | .append => eb_append E s ats xs
  | .copy => eb_copy E s ats xs
  | .clear => eb_clear E s ats xs
  | .max => eb_max E s ats xs
  | .min => eb_min E s ats xs
  | _ => none
section
variable {P : Program} {E : Env} {F : Nat → Option Obj} {R : Nat → Nat × Nat} {s s' : St} {w0 w : World} {n : Nat}
theorem VRL.two {x y : AV} {vs : Array Value} (h : VRL R n [x, y] vs.toList) : ∃ a b, vs = #[a, b] ∧ VR R n x a ∧ VR R n y b := by
  simp only [VRL] at h
  obtain ⟨a, us, e, h1, b, us', e', h2, e''⟩ := h
  subst e''
  subst e'
  exact ⟨a, b, by rw [← Array.toList_inj, e], h1, h2⟩
theorem VRL.single {x : AV} {vs : Array Value} (h : VRL R n [x] vs.toList) : ∃ a, vs = #[a] ∧ VR R n x a := by
  simp only [VRL] at h
  obtain ⟨a, us, e, h1, e'⟩ := h
  subst e'
  exact ⟨a, by rw [← Array.toList_inj, e], h1⟩
theorem op_copy (hE : EnvOK P E) (h : HR F R s w0 w) {t tx ty e : TypeId} {u0 u : TI} (hu0 : E.tt.get t = some u0) (hk0 : u0.k = .slice e) (hu : E.tt.get e = some u)
    {x y : AV} {xv yv : Value} (hx : VR R s.nx x xv) (hy : VR R s.nx y yv) {k : Nat} (hc : copyA s u.size x y = some (k, s')) :
    s'.nx = s.nx ∧ ∃ w', (Builtin.copy_ #[t, tx] ty #[xv, yv]).run P w = .ok (.int .i64 (k : Int)) w' ∧ HR F R s' w0 w' := by
  obtain ⟨_, ⟨d, hd, hkd⟩, -⟩ := hE.tt t u0 hu0
  obtain ⟨_, _, i, hi, hsz, _, _⟩ := hE.tt e u hu
  rw [hk0] at hkd
  obtain rfl : d = .slice e := hkd
  unfold copyA at hc
  split at hc
  · rename_i b o n c ex q b' o' m c' ex' q'
    cases hb : (Nat.beq q u.size && Nat.beq q' u.size) with
    | false => rw [hb] at hc; cases hc
    | true =>
      rw [hb, cond_true] at hc
      rw [Bool.and_eq_true] at hb
      have hq := nbeq_of hb.1
      have hq' := nbeq_of hb.2
      have hmin : (bif Nat.ble m n then m else n) = Nat.min m n := by
        cases hm : Nat.ble m n with
        | true => exact (Nat.min_eq_left (nble_of hm)).symm
        | false =>
          have : ¬ m ≤ n := fun hle => by rw [Nat.ble_eq_true_of_le hle] at hm; cases hm
          have hnm : n ≤ m := by omega
          exact (Nat.min_eq_right hnm).symm
      rw [hmin] at hc
      cases hl : s.load b' o' (Nat.min m n * u.size) with
      | none => rw [hl] at hc; cases hc
      | some l =>
        rw [hl] at hc
        simp only [Option.map_eq_some_iff] at hc
        obtain ⟨s1, hs1, e1⟩ := hc
        cases e1
        obtain ⟨h1, h2, h3, vs, h4, h5⟩ := h.load hl
        simp only [VR] at hx hy
        obtain ⟨_, p, pc, rfl, ho, _, hlc, _⟩ := hx
        obtain ⟨_, p', pc', rfl, ho', _, hlc', _⟩ := hy
        have hle1 : Nat.min m n ≤ m := Nat.min_le_left m n
        have hle2 : Nat.min m n ≤ n := Nat.min_le_right m n
        have hlen : vs.length = Nat.min m n * u.size := by rw [h4.length, h1]
        have hfc : ∀ w'', (∀ j v, vs[j]? = some v → w''.cell? ((⟨(R b').1, p', none⟩ : Addr).add j) = some v) → (Builtin.firstCells u.size (Nat.min m n) (.slice (some ⟨(R b').1, p', none⟩) m pc')).run P w'' = .ok vs.toArray w'' := fun w'' hw => run_firstCells_some w'' u.size (Nat.min m n) _ m pc' vs hlen hw
        have hcell : ∀ j v, vs[j]? = some v → w.cell? ((⟨(R b').1, p', none⟩ : Addr).add j) = some v := fun j v hv => by
          have hj := (List.getElem?_eq_some_iff.1 hv).1
          rw [hlen] at hj
          have hc0 : pc' ≠ 0 := by
            intro e0
            have : Nat.min m n = 0 := by omega
            rw [this] at hj
            simp at hj
          rw [Addr.add_eq, ho'.resolve_left hc0]
          exact h5 j v hv
        obtain ⟨e1, w', hr, hh⟩ := h.write (P := P) hs1 h4 h3
        refine ⟨e1, w', ?_, hh⟩
        have hst : (storeCells ⟨(R b).1, p, none⟩ vs).run P w = .ok () w' := by
          rcases Nat.eq_zero_or_pos (Nat.min m n) with h0 | hpos
          · rw [h0, Nat.zero_mul] at hlen
            have : vs = [] := List.eq_nil_of_length_eq_zero hlen
            subst this
            have e2 : (storeCells ⟨(R b).1, p, none⟩ []).run P w = .ok () w := rfl
            have e3 : (storeCells ⟨(R b).1, o, none⟩ []).run P w = .ok () w := rfl
            rw [e3] at hr
            rw [e2]; exact hr
          · rw [ho.resolve_left (by omega)]; exact hr
        have hf := hfc w hcell
        simp [Builtin.copy_, run_underlying hd, sizeOf, typeInfo, hi, hsz, Builtin.lenOf, hf, hst, goInt]
  · rename_i b o n c ex q
    cases hc
    simp only [VR] at hx hy
    obtain ⟨_, p, pc, rfl, ho, _, hlc, _⟩ := hx
    subst hy
    refine ⟨rfl, w, ?_, h⟩
    have e2 : (storeCells ⟨(R b).1, p, none⟩ []).run P w = .ok () w := rfl
    simp [Builtin.copy_, run_underlying hd, sizeOf, typeInfo, hi, Builtin.lenOf, Builtin.firstCells, e2, goInt]
  · cases hc
    simp only [VR] at hx hy
    subst hx
    subst hy
    refine ⟨rfl, w, ?_, h⟩
    simp [Builtin.copy_, run_underlying hd, sizeOf, typeInfo, hi, Builtin.lenOf, Builtin.firstCells, goInt]
  · rename_i b o n c ex q
    cases hc
    simp only [VR] at hx hy
    subst hx
    obtain ⟨_, p, pc, rfl, ho, _, hlc, _⟩ := hy
    refine ⟨rfl, w, ?_, h⟩
    have hf := run_firstCells_some (P := P) w i.size 0 ⟨(R b).1, p, none⟩ n pc [] (by simp) (fun j v hv => by simp at hv)
    simp [Builtin.copy_, run_underlying hd, sizeOf, typeInfo, hi, Builtin.lenOf, hf, goInt]
  · cases hc
theorem op_clear (hE : EnvOK P E) (h : HR F R s w0 w) {t ty e : TypeId} {u0 u : TI} (hu0 : E.tt.get t = some u0) (hk0 : u0.k = .slice e) (hu : E.tt.get e = some u) {z : AV} (hz : u.z = some z) (hzn : (cellsA z).length = u.size) (hpos : 0 < u.size) (hone : allOne (cellsA z) = true)
    {b o m c q : Nat} {ex : Bool} {xv : Value} (hx : VR R s.nx (.sl b o m c ex q) xv) (hs : s.store b o (repL (cellsA z) m) = some s') :
    s'.nx = s.nx ∧ ∃ w', (Builtin.clear_ #[t] ty #[xv]).run P w = .ok (.tuple #[]) w' ∧ HR F R s' w0 w' := by
  obtain ⟨_, ⟨d, hd, hkd⟩, -⟩ := hE.tt t u0 hu0
  obtain ⟨_, _, i, hi, hsz, hby, hzz⟩ := hE.tt e u hu
  rw [hk0] at hkd
  obtain rfl : d = .slice e := hkd
  obtain ⟨zv, hzv, hRz⟩ := hzz z hz
  have hzc : zv.cells.size = u.size := by rw [← hzn, ← (hRz R s.nx).cells.length, Array.length_toList]
  have hini : VRL R s.nx (repL (cellsA z) m) (Builtin.zeroCells zv.cells m).toList := by
    refine VRL.of (by simp [Builtin.zeroCells, repL_length, hzn, hzc]) fun j x hj => ?_
    have hjl : j < m * (cellsA z).length := by have := (List.getElem?_eq_some_iff.1 hj).1; rwa [repL_length] at this
    rw [repL_get _ (by omega) m j hjl] at hj
    obtain ⟨y, e1, e2⟩ := ((hRz R s.nx).cells).get hj
    refine ⟨y, ?_, e2⟩
    have hjl' : j < m * zv.cells.size := by rw [hzc, ← hzn]; exact hjl
    unfold Builtin.zeroCells
    rw [hzn, ← hzc] at e1
    simp only [Array.getElem?_toList, Array.getElem?_map, Array.getElem?_range, hjl', Option.map_some]
    rw [Array.getElem?_toList] at e1
    simp [hjl', getElem!_def, e1]
  have hao : ∀ x ∈ repL (cellsA z) m, oneA x = true := fun x hx => by
    obtain ⟨j, hj, rfl⟩ := List.mem_iff_getElem.1 hx
    have hjl : j < m * (cellsA z).length := by rwa [repL_length] at hj
    have := repL_get (cellsA z) (by omega) m j hjl
    rw [List.getElem?_eq_getElem hj, List.getElem?_eq_getElem (Nat.mod_lt _ (by omega))] at this
    rw [Option.some.inj this]
    exact allOne_spec hone _ (List.getElem_mem _)
  obtain ⟨e1, w', hst, hh⟩ := h.write (P := P) hs hini hao
  simp only [VR] at hx
  obtain ⟨_, o', c', rfl, ho, _, _, hlc, _⟩ := hx
  by_cases hm : m = 0
  · subst hm
    have hnil : (Builtin.zeroCells zv.cells 0).toList = [] := by simp [Builtin.zeroCells]
    rw [hnil] at hst
    have hw : w' = w := by
      simp only [storeCells, Sem.run_pure] at hst
      exact (Result.ok.inj hst).2.symm
    subst hw
    refine ⟨e1, w', ?_, hh⟩
    simp [Builtin.clear_, run_underlying hd]
  · have ho' : o' = o := ho.resolve_left (by omega)
    subst ho'
    refine ⟨e1, w', ?_, hh⟩
    cases m with
    | zero => exact absurd rfl hm
    | succ m => simp [Builtin.clear_, run_underlying hd, zeroValue, typeInfo, hi, hzv, hst]
theorem b_sound (hE : EnvOK P E) (h : HR F R s w0 w) {b : Builtin} {ats : Array TypeId} {xs : List AV} {vs : Array Value} (hv : VRL R s.nx xs vs.toList) (ty : TypeId) (consts : Array Bool) {r : Option AV}
    (ho : evB E s b ats.toList xs = some (r, s')) : OpRes P F R s.nx w0 w (builtin b ats ty consts vs) r s' := by
  unfold evB at ho
  cases b
  case len =>
    simp only [eb_len] at ho
    split at ho <;> try (cases ho; done)
    rename_i t x hats
    have hats' : ats = #[t] := by rw [← Array.toList_inj, hats]
    subst hats'
    obtain ⟨a, rfl, ha⟩ := hv.single
    split at ho <;> try (cases ho; done)
    rename_i u hu
    simp only [Option.map_eq_some_iff] at ho
    obtain ⟨k, hk, e⟩ := ho
    cases e
    exact OpRes.val h (op_len hE h hu ha hk) (by simp only [VR]; rfl)
  case append =>
    simp only [eb_append] at ho
    split at ho <;> try (cases ho; done)
    rename_i t tx x y hats
    have hats' : ats = #[t, tx] := by rw [← Array.toList_inj, hats]
    subst hats'
    obtain ⟨a, a', rfl, ha, ha'⟩ := hv.two
    split at ho <;> try (cases ho; done)
    rename_i u0 hu0
    split at ho <;> try (cases ho; done)
    rename_i e hk0
    split at ho <;> try (cases ho; done)
    rename_i u hu
    split at ho <;> try (cases ho; done)
    rename_i z hz
    split at ho <;> try (cases ho; done)
    rename_i ux hux
    cases hb : (Nat.beq (cellsA z).length u.size && Nat.blt 0 u.size) with
    | false => rw [hb] at ho; cases ho
    | true =>
      rw [hb, cond_true] at ho
      rw [Bool.and_eq_true] at hb
      simp only [Option.map_eq_some_iff] at ho
      obtain ⟨q, hq, e⟩ := ho
      cases e
      exact op_append hE h hu0 hk0 hu hz (nbeq_of hb.1) (nblt_of hb.2) hux ha ha' hq
  case copy =>
    simp only [eb_copy] at ho
    split at ho <;> try (cases ho; done)
    rename_i t tx x y hats
    have hats' : ats = #[t, tx] := by rw [← Array.toList_inj, hats]
    subst hats'
    obtain ⟨a, a', rfl, ha, ha'⟩ := hv.two
    split at ho <;> try (cases ho; done)
    rename_i u0 hu0
    split at ho <;> try (cases ho; done)
    rename_i e hk0
    split at ho <;> try (cases ho; done)
    rename_i u hu
    simp only [Option.map_eq_some_iff] at ho
    obtain ⟨q, hq, e⟩ := ho
    cases e
    obtain ⟨e1, w', hr, hh⟩ := op_copy hE h hu0 hk0 hu ha ha' hq (ty := ty) (tx := tx)
    exact ⟨R, w', Ext.refl _ _, by rw [e1]; exact Nat.le_refl _, hh, .int .i64 (q.1 : Int), by simp [builtin, Sem.run_bind, hr], by simp only [VR]; rfl⟩
  case clear =>
    simp only [eb_clear] at ho
    split at ho <;> try (cases ho; done)
    rename_i t x hats
    have hats' : ats = #[t] := by rw [← Array.toList_inj, hats]
    subst hats'
    obtain ⟨a, rfl, ha⟩ := hv.single
    split at ho <;> try (cases ho; done)
    rename_i u0 hu0
    split at ho <;> try (cases ho; done)
    rename_i e hk0
    split at ho <;> try (cases ho; done)
    rename_i u hu
    split at ho <;> try (cases ho; done)
    rename_i z hz
    split at ho <;> try (cases ho; done)
    · cases ho
      obtain ⟨_, ⟨d, hd, hkd⟩, -⟩ := hE.tt t u0 hu0
      rw [hk0] at hkd
      obtain rfl : d = .slice e := hkd
      simp only [VR] at ha
      subst ha
      refine OpRes.val h (v := .tuple #[]) ?_ (by simp only [VR]; exact ⟨[], rfl, rfl⟩)
      simp [Builtin.clear_, run_underlying hd]
    · rename_i b o m c ex q
      cases hb : (Nat.beq q u.size && Nat.beq (cellsA z).length u.size && Nat.blt 0 u.size && allOne (cellsA z)) with
      | false => rw [hb] at ho; cases ho
      | true =>
        rw [hb, cond_true] at ho
        simp only [Bool.and_eq_true] at hb
        simp only [Option.map_eq_some_iff] at ho
        obtain ⟨s1, hs1, e1⟩ := ho
        cases e1
        obtain ⟨e1, w', hr, hh⟩ := op_clear (ty := ty) hE h hu0 hk0 hu hz (nbeq_of hb.1.1.2) (nblt_of hb.1.2) hb.2 ha hs1
        exact ⟨R, w', Ext.refl _ _, by rw [e1]; exact Nat.le_refl _, hh, .tuple #[], by simp [builtin, Sem.run_bind, hr], by simp only [VR]; exact ⟨[], rfl, rfl⟩⟩
  case max =>
    simp only [eb_max] at ho
    split at ho <;> try (cases ho; done)
    obtain ⟨a, a', rfl, ha, ha'⟩ := hv.two
    rename_i k x k' y
    cases ho
    simp only [VR] at ha ha'
    subst ha
    subst ha'
    refine OpRes.val h (v := .int k (if y > x then y else x)) ?_ ?_
    · simp [Builtin.max_, Builtin.max2]
    · simp only [VR]
      rw [ile_eq]
      by_cases hyx : y ≤ x
      · rw [decide_eq_true hyx, cond_true, if_neg (by omega)]
      · rw [decide_eq_false hyx, cond_false, if_pos (by omega)]
  case min =>
    simp only [eb_min] at ho
    split at ho <;> try (cases ho; done)
    obtain ⟨a, a', rfl, ha, ha'⟩ := hv.two
    rename_i k x k' y
    cases ho
    simp only [VR] at ha ha'
    subst ha
    subst ha'
    refine OpRes.val h (v := .int k (if y < x then y else x)) ?_ ?_
    · simp [Builtin.min_, Builtin.min2]
    · simp only [VR]
      rw [ile_eq]
      by_cases hyx : x ≤ y
      · rw [decide_eq_true hyx, cond_true, if_neg (by omega)]
      · rw [decide_eq_false hyx, cond_false, if_pos (by omega)]
  all_goals cases ho
end
end
end Go.Proofs.YtbioklhoolkhkadGreatDoor
namespace Go.Proofs.YtbioklhoolkhkadGreatDoor
set_option linter.unusedVariables false
set_option linter.unusedSimpArgs false
set_option linter.unusedSectionVars false
open Go Go.RowKit
noncomputable section

def putA (nt : Nat) (a : Tree AV) (d : Option Tmp) (x : AV) : Option (Tree AV) := match d with
  | none => some a
  | some d => bif Nat.blt d nt then some (a.set d (some x)) else none
def valA : Option AV → AV
  | some x => x
  | none => .tup []
/-- Is the guard met? -/
def guardA (ops : List Oper) (a : Tree AV) : Option (Nat × Bool) → Option Bool
  | none => some true
  | some (g, b) => match nthL ops g with
    | none => some false
    | some o => match o.dst with
      | none => some false
      | some d => match a.get d with
        | some (.b c) => some (match b with
          | true => c
          | false => !c)
        | some (.tup _) => some false
        | _ => none
/-- A text's bytes, as a new row that is only read. -/
def convA (E : Env) (a : Tree AV) (s : St) (src dst : TypeId) (x : Operand) : Option (Option AV × St) := match opd a x with
  | some (.sl b o n c ex q) => bif Nat.beq src dst then (match E.tt.get dst with
    | some u => match u.k with
      | .slice e => match E.tt.get e with
        | some ue => match ue.k with
          | .int .u8 => match s.cellsR b with
            | some (e', cs) => some (some (.sl b o n c ex q), ⟨s.h.set b (some (.ro e' cs)), s.nx⟩)
            | none => none
          | _ => none
        | none => none
      | _ => none
    | none => none) else none
  | some (.s l) => match E.tt.get dst with
    | some u => match u.k with
      | .slice e => match E.tt.get e with
        | some ue => match ue.k with
          | .int .u8 => match E.tt.get src with
            | some us => match us.k with
              | .string => bif Nat.ble l.length 1000000 then some (some (.sl s.nx 0 l.length l.length false 1), s.new (.ro e (l.map fun c => .i .u8 (.ofNat c)))) else none
              | _ => none
            | none => none
          | _ => none
        | none => none
      | _ => none
    | none => none
  | _ => none
/-- One operation, calls too. -/
def evO (E : Env) (call : CallF) (a : Tree AV) (s : St) (o : Oper) : Option (Option AV × St) := match o.op with
  | .call c => match mapO (opd a) c.args.toList with
    | none => none
    | some xs => match c.callee with
      | .builtin b => evB E s b c.argTypes.toList xs
      | .value f => match opd a f with
        | some f => match call f xs s with
          | some r => some (some r.1, r.2)
          | none => none
        | none => none
      | _ => none
  | .convert src dst x => match convA E a s src dst x with
    | some r => some r
    | none => evOp E a s o.op
  | op => evOp E a s op
def stepA (E : Env) (call : CallF) (nt : Nat) (ops : List Oper) (o : Oper) (a : Tree AV) (s : St) : Option (Tree AV × St) := match guardA ops a o.guard with
  | none => none
  | some false => match putA nt a o.dst (.tup []) with
    | some a => some (a, s)
    | none => none
  | some true => match evO E call a s o with
    | none => none
    | some r => match putA nt a o.dst (valA r.1) with
      | some a => some (a, r.2)
      | none => none
/-- A region in its order. -/
def evOps (E : Env) (call : CallF) (nt : Nat) (ops : List Oper) : List Oper → Tree AV → St → Option (Tree AV × St)
  | [], a, s => some (a, s)
  | o :: l, a, s => match stepA E call nt ops o a s with
    | none => none
    | some r => evOps E call nt ops l r.1 r.2
inductive Ex where
  | nrm
  | exit (id : Nat)
  | goto (l : Nat)
  | ret
def Ex.to : Ex → Exit
  | .nrm => .normal
  | .exit id => .exit id
  | .goto l => .goto l
  | .ret => .ret
def laidA : List AV → Nat → Tree AV → Tree AV
  | [], _, t => t
  | v :: l, n, t => laidA l (n + 1) (t.set n (some v))
def resA (E : Env) (a : Tree AV) (s : St) : ResultVar → Option AV
  | .tmp t => a.get t
  | .cell t ty => match a.get t with
    | some (.p b o) => match E.tt.get ty with
      | some u => match s.load b o u.size with
        | some l => ofCells u l
        | none => none
      | none => none
    | _ => none
def resultA : List AV → AV
  | [v] => v
  | l => .tup l
section
variable {R : Nat → Nat × Nat} {n : Nat}
theorem laidA_get : ∀ (l : List AV) (n : Nat) (t : Tree AV) {j : Nat} {x : AV}, (laidA l n t).get j = some x → (∃ i, l[i]? = some x ∧ j = n + i) ∨ t.get j = some x
  | [], n, t, j, x, h => .inr h
  | v :: l, n, t, j, x, h => by
    rcases laidA_get l (n + 1) _ h with ⟨i, h1, h2⟩ | h1
    · exact .inl ⟨i + 1, by simpa using h1, by omega⟩
    · rw [Tree.get_set] at h1
      by_cases e : j = n
      · rw [if_pos e] at h1
        cases h1
        exact .inl ⟨0, rfl, by omega⟩
      · rw [if_neg e] at h1
        exact .inr h1
theorem TR.laid {l : List AV} {vs : Array Value} (h : VRL R n l vs.toList) (k : Nat) : TR R n (laidA l 0 .leaf) { tmps := vs ++ Array.replicate k undef, defers := [] } := fun t x hx => by
  rcases laidA_get l 0 .leaf hx with ⟨i, h1, h2⟩ | h1
  · obtain ⟨u, e1, e2⟩ := h.get h1
    refine ⟨u, ?_, e2⟩
    have hi := (List.getElem?_eq_some_iff.1 e1).1
    rw [Array.length_toList] at hi
    simp only
    rw [h2, Nat.zero_add, Array.getElem?_append_left hi, ← Array.getElem?_toList]
    exact e1
  · rw [Tree.get_leaf] at h1; cases h1
end
/-- What holds between the evaluator and the machine. -/
structure Rel (fr : Nat → Option Obj) (w0 : World) (nt : Nat) (ds : List Deferred) (R : Nat → Nat × Nat) (a : Tree AV) (s : St) (act : Act) (w : World) : Prop where
  hr : HR fr R s w0 w
  tr : TR R s.nx a act
  nt : act.tmps.size = nt
  ds : act.defers = ds
def Loose (F : Fence) : Prop := F = Fence.wide ∨ ∃ l, F = Fence.wide.inRound l
theorem Loose.fn {F : Fence} (h : Loose F) (f : FuncId) : F.fn f := by
  rcases h with rfl | ⟨l, rfl⟩ <;> exact trivial
theorem Loose.depth {F : Fence} (h : Loose F) : F.depth = none := by
  rcases h with rfl | ⟨l, rfl⟩ <;> rfl
theorem Loose.calls {F : Fence} (h : Loose F) {n : Nat} {P : Program} {f : FuncId} {args : Array Value} {w : World} {R : Ending → World → Prop} (hc : Calls P f args w R) : CallsIn F n P f args w R := by
  rcases h with rfl | ⟨l, rfl⟩
  · exact callsIn_wide.2 hc
  · exact (callsIn_wide (n := n)).2 hc
section
variable {P : Program} {E : Env} {F : Fence} {m : Nat} {fr : Nat → Option Obj} {R : Nat → Nat × Nat} {a a' : Tree AV} {s s' : St} {w0 w : World} {nt : Nat} {ds : List Deferred} {act : Act}
theorem Rel.put (h : Rel fr w0 nt ds R a s act w) {R' : Nat → Nat × Nat} {w' : World} (hE : Ext s.nx R R') (hn : s.nx ≤ s'.nx) (hr : HR fr R' s' w0 w') {d : Option Tmp} {x : AV} {v : Value} (hx : VR R' s'.nx x v) (hp : putA nt a d x = some a') :
    Rel fr w0 nt ds R' a' s' (act.put d v) w' := by
  have ht := h.tr.mono hn hE
  cases d with
  | none =>
    cases hp
    exact ⟨hr, ht, h.nt, h.ds⟩
  | some d =>
    simp only [putA] at hp
    cases hb : Nat.blt d nt with
    | false => rw [hb] at hp; cases hp
    | true =>
      rw [hb, cond_true] at hp
      cases hp
      have hd := nblt_of hb
      refine ⟨hr, ht.put (by rw [h.nt]; exact hd) hx, ?_, h.ds⟩
      show (act.tmps.setIfInBounds d v).size = nt
      rw [Array.size_setIfInBounds, h.nt]
theorem VR.undef {R : Nat → Nat × Nat} {n : Nat} : VR R n (.tup []) undef := by
  simp only [VR]
  exact ⟨[], rfl, rfl⟩
theorem guard_sound (h : TR R s.nx a act) {ops : Array Oper} {o : Oper} {r : Bool} (hg : guardA ops.toList a o.guard = some r) : Region.wanted o (yielded ops act.tmps) = r := by
  unfold Region.wanted
  cases hgd : o.guard with
  | none => rw [hgd] at hg; cases hg; rfl
  | some g =>
    obtain ⟨g, b⟩ := g
    rw [hgd] at hg
    simp only [guardA, nthL_eq, Array.getElem?_toList] at hg
    simp only [yielded]
    cases ho : ops[g]? with
    | none => rw [ho] at hg; cases hg; simp
    | some o' =>
      rw [ho] at hg
      simp only at hg
      cases hd : o'.dst with
      | none => rw [hd] at hg; cases hg; simp [hd]
      | some d =>
        rw [hd] at hg
        simp only at hg
        simp only [Option.bind_some, hd]
        cases hx : a.get d with
        | none => rw [hx] at hg; cases hg
        | some x =>
          obtain ⟨v, hv, hR⟩ := h d x hx
          rw [hx] at hg
          rw [hv]
          cases x <;> simp only at hg <;> try (cases hg; done)
          case b c =>
            simp only [VR] at hR
            subst hR
            cases hg
            cases b <;> cases c <;> rfl
          case tup l =>
            simp only [VR] at hR
            obtain ⟨vs, _, rfl⟩ := hR
            cases hg
            rfl
/-- A call of a function's value. -/
def CallOK (P : Program) (call : CallF) : Prop := ∀ f xs s r s', call f xs s = some (r, s') → ∀ (F : Fence) (m : Nat) (fr : Nat → Option Obj) (R : Nat → Nat × Nat) (w0 w : World) (fv : Value) (vs : Array Value), Loose F → HR fr R s w0 w → VR R s.nx f fv → VRL R s.nx xs vs.toList →
  ∀ (o : Oper) (act : Act) (K : Act → World → Prop) (Q : Exit → Act → World → Prop), (∀ R' v w', Ext s.nx R R' → s.nx ≤ s'.nx → HR fr R' s' w0 w' → VR R' s'.nx r v → K (act.put o.dst v) w') →
  o.uponIn F m P act K Q ((do let d ← Deferred.ofValue fv vs; invoke d.target d.args : Sem Next).run P w)
theorem OpRes.upon {r : Option AV} {o : Oper} {mm : Sem Next} (hr : OpRes P fr R s.nx w0 w mm r s') (h : Rel fr w0 nt ds R a s act w) (hp : putA nt a o.dst (valA r) = some a') {K : Act → World → Prop} {Q : Exit → Act → World → Prop} (hK : ∀ R' act' w', Ext s.nx R R' → s.nx ≤ s'.nx → Rel fr w0 nt ds R' a' s' act' w' → K act' w') : o.uponIn F m P act K Q (mm.run P w) := by
  obtain ⟨R', w', hE, hn, hh, hx⟩ := hr
  cases r with
  | some x =>
    obtain ⟨v, hv, hxv⟩ := hx
    rw [hv, Oper.uponIn_value]
    exact hK R' _ w' hE hn (h.put hE hn hh hxv hp)
  | none =>
    rw [hx, Oper.uponIn_skip]
    exact hK R' _ w' hE hn (h.put hE hn hh VR.undef hp)
/-- A text's bytes. -/
theorem conv_sound (hE : EnvOK P E) (h : HR fr R s w0 w) (hT : TR R s.nx a act) {src dst : TypeId} {x : Operand} {r : Option AV} (hc : convA E a s src dst x = some (r, s')) : OpRes P fr R s.nx w0 w (do pure (.value (← convert src dst (act.eval x)))) r s' := by
  unfold convA at hc
  split at hc <;> try (cases hc; done)
  · rename_i b o n c ex q hx
    cases hsd : Nat.beq src dst with
    | false => rw [hsd] at hc; cases hc
    | true =>
    rw [hsd, cond_true] at hc
    have hsd := nbeq_of hsd
    subst hsd
    split at hc <;> try (cases hc; done)
    rename_i u hu
    split at hc <;> try (cases hc; done)
    rename_i e hk
    split at hc <;> try (cases hc; done)
    rename_i ue hue
    split at hc <;> try (cases hc; done)
    rename_i hku
    split at hc <;> try (cases hc; done)
    rename_i e' cs hcs
    cases hc
    obtain ⟨_, ⟨d, hd, hkd⟩, -⟩ := hE.tt _ _ hu
    obtain ⟨_, ⟨de, hde, hkde⟩, -⟩ := hE.tt _ _ hue
    rw [hk] at hkd
    rw [hku] at hkde
    obtain rfl : d = .slice e := hkd
    obtain rfl : de = .int .u8 := hkde
    have hxv := opd_sound hT hx
    have hxv' := hxv
    simp only [VR] at hxv
    obtain ⟨_, o', c', hxe, _⟩ := hxv
    obtain ⟨hb, arr, f, g1, g2, g3, g4, g5⟩ := h.atR hcs
    have hlt := lt_of_heap g1
    have hgl : w.heap[(R b).1] = .cells arr e' f := by
      have := g1
      rw [Array.getElem?_eq_getElem hlt] at this
      exact Option.some.inj this
    have hsh : w.shape? (R b).1 = some (e', arr.size) := by simp [World.shape?, g1]
    obtain ⟨flo, fhi⟩ := f
    have hnew : (w.freeze ⟨(R b).1, arr.size, none⟩ 1).heap[(R b).1]? = some (.cells arr e' (if flo == fhi then (arr.size, arr.size + 1) else (min flo arr.size, max fhi (arr.size + 1)))) := by
      simp [World.freeze, Array.getElem?_modify, g1]
    refine ⟨R, w.freeze ⟨(R b).1, arr.size, none⟩ 1, Ext.refl _ _, Nat.le_refl _, h.put hb (.ro e' cs) _ ⟨arr, _, rfl, g2, by omega, g4, g5⟩ rfl rfl rfl hnew fun k hk => by simp [World.freeze, Array.getElem?_modify, Ne.symm hk], act.eval x, ?_, hxv'⟩
    rw [hxe]
    have hr : (convert src src (.slice (some ⟨(R b).1, o', none⟩) n c')).run P w = .ok (.slice (some ⟨(R b).1, o', none⟩) n c') (w.freeze ⟨(R b).1, arr.size, none⟩ 1) := by
      unfold convert
      simp only [Sem.run_bind, run_underlying hd, run_underlying hde, Result.andThen_ok, beq_self_eq_true]
      simp [markStringish, hsh]
    simp [Sem.run_bind, hr]
  rename_i l hx
  split at hc <;> try (cases hc; done)
  rename_i u hu
  split at hc <;> try (cases hc; done)
  rename_i e hk
  split at hc <;> try (cases hc; done)
  rename_i ue hue
  split at hc <;> try (cases hc; done)
  rename_i hku
  split at hc <;> try (cases hc; done)
  rename_i us hus
  split at hc <;> try (cases hc; done)
  rename_i hks
  cases hlb : Nat.ble l.length 1000000 with
  | false => rw [hlb] at hc; cases hc
  | true =>
  rw [hlb, cond_true] at hc
  have hlb := nble_of hlb
  cases hc
  have hxv := opd_sound hT hx
  simp only [VR] at hxv
  obtain ⟨hxe, hl⟩ := hxv
  obtain ⟨_, ⟨d, hd, hkd⟩, -⟩ := hE.tt _ _ hu
  obtain ⟨_, ⟨ds, hds, hksd⟩, -⟩ := hE.tt _ _ hus
  obtain ⟨_, ⟨de, hde, hkde⟩, i, hi, hsz, -⟩ := hE.tt _ _ hue
  rw [hk] at hkd
  rw [hks] at hksd
  rw [hku] at hkde
  obtain rfl : d = .slice e := hkd
  obtain rfl : ds = .string := hksd
  obtain rfl : de = .int .u8 := hkde
  have hr := run_bytes_of_string (P := P) w src dst e (bytesA l) hds hd hde
  have hge := grownCap_ge w (bytesA l).size 0 e
  rw [bytesA_size] at hr hge
  have hrow : (bytesRow (bytesA l) (grownCap w l.length 0 e)).toList = (l.map fun c : Nat => Value.int .u8 (c : Int)) ++ List.replicate (grownCap w l.length 0 e - l.length) (.int .u8 0) := by
    unfold bytesRow
    rw [bytesA_size]
    have := byteCells_of hl
    unfold byteCells at this
    simp only [Array.toList_append, Array.toList_map, Array.toList_replicate]
    rw [← this]
  have hrs : (bytesRow (bytesA l) (grownCap w l.length 0 e)).size = grownCap w l.length 0 e := by
    rw [← Array.length_toList, hrow]
    simp
    omega
  have hcl := grownCap_le_maxLen w l.length 0 e (by unfold maxLen; omega)
  have hE' : Ext s.nx R (fun b => if b = s.nx then (w.drew.heap.size, grownCap w l.length 0 e) else R b) := fun b hb => if_neg (by omega)
  obtain ⟨h2, h3⟩ := h.drew.new (.ro e (l.map fun c => .i .u8 (.ofNat c))) (.cells (bytesRow (bytesA l) (grownCap w l.length 0 e)) e ((bytesRow (bytesA l) (grownCap w l.length 0 e)).size, (bytesRow (bytesA l) (grownCap w l.length 0 e)).size + 1)) (grownCap w l.length 0 e) ⟨_, _, rfl, hrs, by rw [List.length_map]; omega, by
    rw [List.length_map, hrow, List.take_left' (by simp)]
    refine VRL.of (by simp) fun j y hj => ?_
    rw [List.getElem?_map] at hj
    cases hc : l[j]? with
    | none => rw [hc] at hj; cases hj
    | some c =>
      rw [hc] at hj
      cases hj
      exact ⟨.int .u8 (c : Int), by simp [hc], by simp only [VR]; rfl⟩, fun c hc => by
    obtain ⟨n, _, rfl⟩ := List.mem_map.1 hc
    rfl⟩
  refine ⟨_, _, h3, Nat.le_succ _, h2, .slice (some ⟨w.heap.size, 0, none⟩) l.length (grownCap w l.length 0 e), by rw [hxe]; simp [Sem.run_bind, hr], ?_⟩
  simp only [VR]
  exact ⟨Nat.lt_succ_self _, 0, _, by simp, .inr rfl, fun h => (by cases h), hge, hge, hcl, by simp⟩
theorem evO_sound (hE : EnvOK P E) {call : CallF} (hc : CallOK P call) (hF : Loose F) (h : Rel fr w0 nt ds R a s act w) {o : Oper} {r : Option AV} (ho : evO E call a s o = some (r, s')) (hp : putA nt a o.dst (valA r) = some a') {K : Act → World → Prop} {Q : Exit → Act → World → Prop} (hK : ∀ R' act' w', Ext s.nx R R' → s.nx ≤ s'.nx → Rel fr w0 nt ds R' a' s' act' w' → K act' w') : o.wpIn F m P act w K Q := by
  refine ⟨fun f _ => hF.fn f, ?_⟩
  have hnd : ∀ c, o.op ≠ .defer c := fun c e => by
    unfold evO at ho
    rw [e] at ho
    cases ho
  rw [Oper.semAt_eq _ _ _ hnd]
  unfold evO at ho
  split at ho
  · rename_i c hop
    split at ho <;> try (cases ho; done)
    rename_i xs hxs
    have hargs : VRL R s.nx xs (c.args.map act.eval).toList := by
      rw [Array.toList_map]; exact opds_sound h.tr hxs
    have he : execOp act.eval o = (do let d ← resolve act.eval c o.type; invoke d.target d.args : Sem Next) := by unfold execOp; rw [hop]
    rw [he]
    split at ho <;> try (cases ho; done)
    · rename_i b hb
      have he2 : ∃ consts, (do let d ← resolve act.eval c o.type; invoke d.target d.args : Sem Next) = builtin b c.argTypes o.type consts (c.args.map act.eval) := by
        simp only [resolve, hb, pure_bind, invoke]
        exact ⟨_, rfl⟩
      obtain ⟨consts, he2⟩ := he2
      rw [he2]
      exact (b_sound hE h.hr hargs o.type consts ho).upon h hp hK
    · rename_i f hf
      split at ho <;> try (cases ho; done)
      rename_i fa hfa
      split at ho <;> try (cases ho; done)
      rename_i q hq
      cases ho
      have he2 : (do let d ← resolve act.eval c o.type; invoke d.target d.args : Sem Next) = (do let d ← Deferred.ofValue (act.eval f) (c.args.map act.eval); invoke d.target d.args : Sem Next) := by
        simp only [resolve, hf]
      rw [he2]
      exact hc _ _ _ _ _ hq F m fr R w0 w _ _ hF h.hr (opd_sound h.tr hfa) hargs o act K Q fun R' v w' h1 h2 h3 h4 => hK R' _ w' h1 h2 (h.put h1 h2 h3 h4 hp)
  · rename_i src dst x hop
    split at ho
    · rename_i r' hr'
      cases ho
      have he : execOp act.eval o = (do pure (.value (← convert src dst (act.eval x))) : Sem Next) := by unfold execOp; rw [hop]
      rw [he]
      exact (conv_sound hE h.hr h.tr hr').upon h hp hK
    · exact (op_sound hE h.hr h.tr ho).upon h hp hK
  · rename_i op hop
    exact (op_sound hE h.hr h.tr ho).upon h hp hK
theorem stepA_sound (hE : EnvOK P E) {call : CallF} (hc : CallOK P call) (hF : Loose F) (h : Rel fr w0 nt ds R a s act w) {ops : Array Oper} {i : Nat} {o : Oper} (hi : ops[i]? = some o) {r : Tree AV × St} (ho : stepA E call nt ops.toList o a s = some r)
    {K : Act → World → Prop} {Q : Exit → Act → World → Prop} (hK : ∀ R' act' w', Ext s.nx R R' → s.nx ≤ r.2.nx → Rel fr w0 nt ds R' r.1 r.2 act' w' → K act' w') : wpOpIn F m P ops Q i K act w := by
  unfold stepA at ho
  unfold wpOpIn
  rw [hi]
  simp only
  split at ho <;> try (cases ho; done)
  · rename_i hg
    rw [guard_sound h.tr hg]
    simp only [Bool.false_eq_true, if_false]
    split at ho <;> try (cases ho; done)
    rename_i a1 hp
    cases ho
    exact ⟨fun f _ => hF.fn f, hK R _ w (Ext.refl _ _) (Nat.le_refl _) (h.put (Ext.refl _ _) (Nat.le_refl _) h.hr VR.undef hp)⟩
  · rename_i hg
    rw [guard_sound h.tr hg]
    simp only [if_true]
    split at ho <;> try (cases ho; done)
    rename_i q hq
    split at ho <;> try (cases ho; done)
    rename_i a1 hp
    cases ho
    exact evO_sound hE hc hF h hq hp hK
theorem evOps_sound (hE : EnvOK P E) {call : CallF} (hc : CallOK P call) (hF : Loose F) {ops : Array Oper} {Q : Exit → Act → World → Prop} :
    ∀ (l : List Oper) (k : Nat) (R : Nat → Nat × Nat) (a : Tree AV) (s : St) (act : Act) (w : World) (r : Tree AV × St), ops.toList.drop k = l → Rel fr w0 nt ds R a s act w → evOps E call nt ops.toList l a s = some r →
    (∀ R' act' w', Ext s.nx R R' → s.nx ≤ r.2.nx → Rel fr w0 nt ds R' r.1 r.2 act' w' → Q .normal act' w') → wpOpsIn F m P ops Q (List.range' k l.length) act w
  | [], k, R, a, s, act, w, r, hl, h, ho, hQ => by
    cases ho
    exact hQ R act w (Ext.refl _ _) (Nat.le_refl _) h
  | o :: l, k, R, a, s, act, w, r, hl, h, ho, hQ => by
    simp only [evOps] at ho
    split at ho <;> try (cases ho; done)
    rename_i q hq
    have hk : ops[k]? = some o := by
      have := congrArg (fun l => l[0]?) hl
      simpa using this
    rw [List.length_cons, List.range'_succ, wpOpsIn_cons]
    refine stepA_sound hE hc hF h hk hq fun R1 act1 w1 h1 h2 h3 => ?_
    refine evOps_sound hE hc hF l (k + 1) R1 q.1 q.2 act1 w1 r ?_ h3 ho fun R2 act2 w2 g1 g2 g3 => hQ R2 act2 w2 (fun b hb => by rw [g1 b (Nat.lt_of_lt_of_le hb h2), h1 b hb]) (Nat.le_trans h2 g2) g3
    rw [show k + 1 = 1 + k from Nat.add_comm _ _, Nat.add_comm, ← List.drop_drop, hl]; rfl
end
end
end Go.Proofs.YtbioklhoolkhkadGreatDoor
namespace Go.Proofs.YtbioklhoolkhkadGreatDoor
set_option linter.unusedVariables false
set_option linter.unusedSimpArgs false
set_option linter.unusedSectionVars false
open Go Go.RowKit
noncomputable section

/-- How a region whose order is drawn is evaluated. -/
abbrev Draw := CallF → Nat → List Oper → Tree AV → St → Option (Tree AV × St)
/-- A round's parameters laid. -/
def bindA (nt : Nat) : List Tmp → List AV → Tree AV → Option (Tree AV)
  | [], [], t => some t
  | p :: ps, x :: xs, t => bif Nat.blt p nt then bindA nt ps xs (t.set p (some x)) else none
  | _, _, _ => none
/-- What a round leaves to be done. -/
def pendOf : Ex → Option Code
  | .nrm => none
  | .exit i => some (.exit i)
  | .goto l => some (.goto l)
  | .ret => some .ret
def evRange (call : CallF) (evc : Code → Tree AV → St → Option (Ex × Tree AV × St)) (nt : Nat) (a : Tree AV) (s : St) (g : Operand) (ps : Array Tmp) (asg body : Code) : Option (Ex × Tree AV × St) := match opd a g with
  | some (.fn f fst caps) => match call (.fn f fst caps) [.y s.nx] (s.new (.loop a nt ps.toList asg body none)) with
    | none => none
    | some r => match r.2.h.get s.nx with
      | some (.loop _ _ _ _ _ pend) => match pend with
        | none => some (.nrm, a, ⟨r.2.h.set s.nx none, r.2.nx⟩)
        | some c => evc c a ⟨r.2.h.set s.nx none, r.2.nx⟩
      | _ => none
  | _ => none
def callIn (E : Env) (evc : Nat → Code → Tree AV → St → Option (Ex × Tree AV × St)) (fn : Func) (c : Code) (xs : List AV) (s : St) : Option (AV × St) := bif Nat.ble xs.length fn.ntmps then match evc fn.ntmps c (laidA xs 0 .leaf) s with
    | none => none
    | some (x, a, s) => match x with
      | .exit _ => none
      | .goto _ => none
      | _ => match mapO (resA E a s) fn.results.toList with
        | some l => some (resultA l, s)
        | none => none
  else none
def callFn (E : Env) (evc : Nat → Code → Tree AV → St → Option (Ex × Tree AV × St)) (f : FuncId) (fst caps xs : List AV) (s : St) : Option (AV × St) := match E.kn.get f with
  | some x => match fst, xs, caps with
    | [], [], [] => some (x, s)
    | _, _, _ => none
  | none => match litA f fst caps xs s E.lit with
    | some r => some r
    | none => match E.ft.get f with
      | none => none
      | some fn => match fn.body with
        | none => none
        | some c => callIn E evc fn c (fst ++ (xs ++ caps)) s
def callY (evc : Nat → Code → Tree AV → St → Option (Ex × Tree AV × St)) (l : Nat) (xs : List AV) (s : St) : Option (AV × St) := match s.h.get l with
  | some (.loop tm nt ps asg body pend) => match pend with
    | some _ => none
    | none => match bindA nt ps xs tm with
      | none => none
      | some tm1 => match evc nt asg tm1 ⟨s.h.set l none, s.nx⟩ with
        | some (.nrm, a1, s1) => match evc nt body a1 s1 with
          | none => none
          | some (x, _, s2) => match s2.h.get l with
            | some _ => none
            | none => some (.b (pendOf x).isNone, ⟨s2.h.set l (some (.loop tm nt ps asg body (pendOf x))), s2.nx⟩)
        | _ => none
  | _ => none
mutual
def ev (E : Env) (draw : Draw) : Nat → Bool → Nat → Code → Tree AV → St → Option (Ex × Tree AV × St)
  | 0, _, _, _, _, _ => none
  | n + 1, inr, nt, c, a, s => match c with
    | .skip => some (.nrm, a, s)
    | .label _ => some (.nrm, a, s)
    | .ret => some (.ret, a, s)
    | .exit i => some (.exit i, a, s)
    | .goto l => some (.goto l, a, s)
    | .region _ ops d => match d with
      | true => match draw (callE E draw n) nt ops.toList a s with
        | some r => some (.nrm, r.1, r.2)
        | none => none
      | false => match evOps E (callE E draw n) nt ops.toList ops.toList a s with
        | some r => some (.nrm, r.1, r.2)
        | none => none
    | .seq x y => match ev E draw n inr nt x a s with
      | some (.nrm, a, s) => ev E draw n inr nt y a s
      | r => r
    | .cond c x y => match opd a c with
      | some (.b true) => ev E draw n inr nt x a s
      | some (.b false) => ev E draw n inr nt y a s
      | _ => none
    | .block id x => match ev E draw n inr nt x a s with
      | some (.exit j, a, s) => bif Nat.beq j id then some (.nrm, a, s) else some (.exit j, a, s)
      | r => r
    | .loop x => match ev E draw n inr nt x a s with
      | some (.nrm, a, s) => ev E draw n inr nt (.loop x) a s
      | r => r
    | .scope x => match ev E draw n inr nt x a s with
      | none => none
      | some (x, a, s) => match x with
        | .goto _ => none
        | x => some (x, a, s)
    | .rangeFunc g ps asg body => match inr with
      | true => none
      | false => evRange (callE E draw n) (ev E draw n false nt) nt a s g ps asg body
    | _ => none
def callE (E : Env) (draw : Draw) : Nat → AV → List AV → St → Option (AV × St)
  | 0, _, _, _ => none
  | n + 1, f, xs, s => match f with
    | .fn f fst caps => callFn E (ev E draw n false) f fst caps xs s
    | .y l => callY (ev E draw n true) l xs s
    | _ => none
end
/-- The frame and the deferred calls have grown by marks of loops over functions. -/
def Grown (inr : Bool) (fr : Nat → Option Obj) (ds : List Deferred) (fr' : Nat → Option Obj) (ds' : List Deferred) : Prop :=
  ∃ ms : List Nat, (inr = true → ms = []) ∧ ms.Nodup ∧ ds' = ms.map (fun D => { target := .collected D, args := #[] }) ++ ds ∧ (∀ k o, fr k = some o → fr' k = some o) ∧ ∀ D ∈ ms, fr' D = some (.deferred (some [])) ∧ fr D = none
theorem Grown.refl (inr : Bool) (fr : Nat → Option Obj) (ds : List Deferred) : Grown inr fr ds fr ds := ⟨[], fun _ => rfl, List.nodup_nil, rfl, fun _ _ h => h, fun _ h => by cases h⟩
theorem Grown.trans {inr : Bool} {f1 f2 f3 : Nat → Option Obj} {d1 d2 d3 : List Deferred} (h : Grown inr f1 d1 f2 d2) (h' : Grown inr f2 d2 f3 d3) : Grown inr f1 d1 f3 d3 := by
  obtain ⟨ms, h0, h1, rfl, h2, h3⟩ := h
  obtain ⟨ns, g0, g1, rfl, g2, g3⟩ := h'
  refine ⟨ns ++ ms, fun e => by rw [h0 e, g0 e]; rfl, ?_, by simp, fun k o hk => g2 k o (h2 k o hk), fun D hD => ?_⟩
  · refine List.nodup_append.2 ⟨g1, h1, fun x hx y hy e => ?_⟩
    subst e
    have := (g3 x hx).2
    rw [(h3 x hy).1] at this
    cases this
  · rcases List.mem_append.1 hD with hD | hD
    · refine ⟨(g3 D hD).1, ?_⟩
      cases hf : f1 D with
      | none => rfl
      | some o => have := h2 D o hf; rw [(g3 D hD).2] at this; cases this
    · exact ⟨g2 D _ (h3 D hD).1, (h3 D hD).2⟩
def CodeOK (P : Program) (inr : Bool) (nt : Nat) (c : Code) (a : Tree AV) (s : St) (x : Ex) (a' : Tree AV) (s' : St) : Prop :=
  ∀ (F : Fence) (m : Nat) (fr : Nat → Option Obj) (R : Nat → Nat × Nat) (w0 w : World) (ds : List Deferred) (act : Act) (Q : Exit → Act → World → Prop), Loose F → F.round.isSome = inr → Rel fr w0 nt ds R a s act w →
  (∀ fr' ds' R' act' w', Grown inr fr ds fr' ds' → Ext s.nx R R' → s.nx ≤ s'.nx → Rel fr' w0 nt ds' R' a' s' act' w' → Q x.to act' w') → c.wpIn F m P Q act w
/-- A call of a function with a body. -/
def FnOK (P : Program) (call : CallF) : Prop := ∀ f fst caps xs s r s', call (.fn f fst caps) xs s = some (r, s') → (∀ args w, (callFunc f args).run P w = .ok (.enter f args) w) ∧
  ∀ (F : Fence) (m : Nat) (fr : Nat → Option Obj) (R : Nat → Nat × Nat) (w0 w : World) (us cs : List Value) (vs : Array Value), Loose F → HR fr R s w0 w → VRL R s.nx fst us → VRL R s.nx caps cs → VRL R s.nx xs vs.toList →
    CallsIn F m P f (us.toArray ++ vs ++ cs.toArray) w fun e w' => ∃ v R', e = .returned v ∧ Ext s.nx R R' ∧ s.nx ≤ s'.nx ∧ HR fr R' s' w0 w' ∧ VR R' s'.nx r v
def DrawOK (P : Program) (draw : Draw) : Prop := ∀ (call : CallF), CallOK P call → ∀ (nt : Nat) (ops : Array Oper) (a : Tree AV) (s : St) (r : Tree AV × St), draw call nt ops.toList a s = some r →
  ∀ (F : Fence) (m : Nat) (fr : Nat → Option Obj) (R : Nat → Nat × Nat) (w0 w : World) (ds : List Deferred) (act : Act) (id : Nat) (Q : Exit → Act → World → Prop), Loose F → Rel fr w0 nt ds R a s act w →
  (∀ R' act' w', Ext s.nx R R' → s.nx ≤ r.2.nx → Rel fr w0 nt ds R' r.1 r.2 act' w' → Q .normal act' w') → (Code.region id ops true).wpIn F m P Q act w
theorem Ext.trans {n n' : Nat} {R R' R'' : Nat → Nat × Nat} (h : Ext n R R') (hn : n ≤ n') (h' : Ext n' R' R'') : Ext n R R'' := fun b hb => by rw [h' b (Nat.lt_of_lt_of_le hb hn), h b hb]
theorem least {p : Nat → Prop} (h : ∃ k, p k) : ∃ k, p k ∧ ∀ j, p j → k ≤ j := by
  obtain ⟨k, hk⟩ := h
  induction k using Nat.strongRecOn with
  | _ k ih =>
    by_cases hs : ∃ j, j < k ∧ p j
    · obtain ⟨j, hj, hp⟩ := hs
      exact ih j hj hp
    · refine ⟨k, hk, fun j hj => ?_⟩
      by_cases hl : j < k
      · exact absurd ⟨j, hl, hj⟩ hs
      · omega
section
variable {P : Program} {E : Env} {draw : Draw}
theorem loop_ok {inr : Bool} {nt : Nat} {c : Code} {N : Nat} (ih : ∀ n, n ≤ N → ∀ a s x a' s', ev E draw n inr nt c a s = some (x, a', s') → CodeOK P inr nt c a s x a' s') {a : Tree AV} {s : St} {x : Ex} {a' : Tree AV} {s' : St}
    (h : ev E draw (N + 1) inr nt (.loop c) a s = some (x, a', s')) : CodeOK P inr nt (.loop c) a s x a' s' := by
  intro F m fr R w0 w ds act Q hF hro hrel hQ
  classical
  let J : Nat → Act → World → Prop := fun k act1 w1 => k ≤ N + 1 ∧ ∃ a1 s1 fr1 ds1 R1, ev E draw k inr nt (.loop c) a1 s1 = some (x, a', s') ∧ Grown inr fr ds fr1 ds1 ∧ Ext s.nx R R1 ∧ s.nx ≤ s1.nx ∧ Rel fr1 w0 nt ds1 R1 a1 s1 act1 w1
  let μ : Act → World → Nat := fun act1 w1 => if hx : ∃ k, J k act1 w1 then (least hx).choose else 0
  refine wpIn_loop (fun act1 w1 => ∃ k, J k act1 w1) μ ⟨N + 1, Nat.le_refl _, a, s, fr, ds, R, h, Grown.refl _ _ _, Ext.refl _ _, Nat.le_refl _, hrel⟩ ?_
  intro act1 w1 hJ
  have hμ : μ act1 w1 = (least hJ).choose := dif_pos hJ
  obtain ⟨hk, a1, s1, fr1, ds1, R1, he, hG, hE, hn, hr1⟩ := (least hJ).choose_spec.1
  rw [hμ]
  generalize (least hJ).choose = k at hk he
  cases k with
  | zero => simp only [ev] at he; cases he
  | succ k =>
    simp only [ev] at he
    have hkN : k ≤ N := by omega
    cases hx : ev E draw k inr nt c a1 s1 with
    | none => rw [hx] at he; cases he
    | some r =>
      obtain ⟨x1, a2, s2⟩ := r
      rw [hx] at he
      refine ih k hkN _ _ _ _ _ hx F m fr1 R1 w0 w1 ds1 act1 _ hF hro hr1 fun fr2 ds2 R2 act2 w2 hG2 hE2 hn2 hr2 => ?_
      cases x1 with
      | nrm =>
        simp only at he
        have hJ2 : J k act2 w2 := ⟨by omega, a2, s2, fr2, ds2, R2, he, hG.trans hG2, hE.trans hn hE2, Nat.le_trans hn hn2, hr2⟩
        refine ⟨⟨k, hJ2⟩, ?_⟩
        have hJ3 : ∃ k, J k act2 w2 := ⟨k, hJ2⟩
        have : μ act2 w2 = (least hJ3).choose := dif_pos hJ3
        rw [this]
        exact Nat.lt_succ_of_le ((least hJ3).choose_spec.2 k hJ2)
      | exit id => cases he; exact hQ fr2 ds2 R2 act2 w2 (hG.trans hG2) (hE.trans hn hE2) (Nat.le_trans hn hn2) hr2
      | goto l => cases he; exact hQ fr2 ds2 R2 act2 w2 (hG.trans hG2) (hE.trans hn hE2) (Nat.le_trans hn hn2) hr2
      | ret => cases he; exact hQ fr2 ds2 R2 act2 w2 (hG.trans hG2) (hE.trans hn hE2) (Nat.le_trans hn hn2) hr2
end
end
end Go.Proofs.YtbioklhoolkhkadGreatDoor
