/- A law: a map with integer keys, in a block of a call's own. No program in sight. The walk: what the kinds of deeds do, a map of functions. Plain law: what a valid heap is, and that moving keeps it so. No program in sight. Plain law: each deed keeps a heap valid. No program in sight. Plain law: what any deed does, and that it keeps a heap valid. No program in sight. The walk: any deed. The walks: are all values of a list ones of a heap, and none of the old half? The walks: words of a heap that is handed over; the old half of one that is not busy. The walk: a list of objects copied. -/
import Derived.Test.YthipkmmdjhpklaaK01
import Derived.MapKept
import Derived.Carry
import Derived.Test.YthipkmmdjhpklaaK03
import Derived.Test.YthipkmmdjhpklaaK05
import Derived.Test.YthipkmmdjhpklaaK04
import Derived.Test.YthipkmmdjhpklaaK06
namespace Go.Proofs.Ythipkmmdjhpklaa
set_option linter.unusedVariables false
set_option linter.unusedSimpArgs false
open Go.RowKit

section
variable {P : Program} {w : World}
/-- The entries, as a list of keys and values. -/
def IntMap (q : IntKind) (es : Array MapEntry) (l : List (Int × Value)) : Prop := es.toList.map (fun e => (e.key, e.val)) = l.map fun p => (Value.int q p.1, p.2)
theorem findNow_int (q : IntKind) (k : Int) : ∀ (es : List MapEntry) (l : List (Int × Value)) (i : Nat), es.map (fun e => (e.key, e.val)) = l.map (fun p => (Value.int q p.1, p.2)) →
    (l.lookup k = none ∧ Instr.findNow (.int q) (.int q k) es i = some none) ∨ ∃ j v, l.lookup k = some v ∧ Instr.findNow (.int q) (.int q k) es i = some (some (j, v))
  | [], [], i, _ => .inl ⟨rfl, rfl⟩
  | [], _ :: _, i, h => by simp at h
  | _ :: _, [], i, h => by simp at h
  | e :: es, p :: l, i, h => by
    simp only [List.map_cons, List.cons.injEq, Prod.mk.injEq] at h
    obtain ⟨⟨h1, h2⟩, h3⟩ := h
    unfold Instr.findNow
    rw [h1]
    obtain ⟨pk, pv⟩ := p
    simp only at h1 h2
    simp only [Instr.sameNow, if_true]
    by_cases hk : k = pk
    · subst hk
      simp only [beq_self_eq_true]
      exact .inr ⟨i, pv, by simp [List.lookup], by rw [h2]⟩
    · have hk' : (k == pk) = false := by simpa using hk
      rw [hk']
      simp only [List.lookup, hk']
      exact findNow_int q k es l (i + 1) h3
theorem run_checkKey_int {kt : TypeId} {q q' : IntKind} (hk : P.underlying kt = some (.int q)) (b : Bool) (n : Nat) (k : Int) : (Instr.checkKey b (n + 1) kt (.int q' k)).run P w = .ok () w := by
  simp [Instr.checkKey, run_underlying hk]
theorem run_lookup_int {t kt et : TypeId} {q : IntKind} {b : Nat} {es : Array MapEntry} {clock : Nat} {l : List (Int × Value)} {z : Value} (ht : P.underlying t = some (.map kt et)) (hk : P.underlying kt = some (.int q)) (hz : (zeroValue et).run P w = .ok z w)
    (hb : w.heap[b]? = some (.map es clock)) (hl : IntMap q es l) (k : Int) (c : Bool) :
    (Instr.lookup t (.map (some b)) (.int q k) c).run P w = .ok (if c = true then .tuple #[(l.lookup k).getD z, .bool (l.lookup k).isSome] else (l.lookup k).getD z) w := by
  unfold Instr.lookup
  simp only [Sem.run_bind, run_underlying ht, Result.andThen_ok, MapKept.run_getObj_map hb, Sem.run_pure, run_checkKey_int hk]
  unfold Instr.findKey
  simp only [Sem.run_bind, run_underlying hk, Result.andThen_ok]
  rcases findNow_int q k es.toList l 0 hl with ⟨h1, h2⟩ | ⟨j, v, h1, h2⟩
  · rw [h2, h1]
    simp only [Sem.run_pure, Result.andThen_ok, Sem.run_bind, hz]
    cases c <;> rfl
  · rw [h2, h1]
    simp only [Sem.run_pure, Result.andThen_ok, Sem.run_bind]
    cases c <;> rfl
theorem run_insert_int {t kt et : TypeId} {q : IntKind} {b : Nat} {es : Array MapEntry} {clock : Nat} {l : List (Int × Value)} (ht : P.underlying t = some (.map kt et)) (hk : P.underlying kt = some (.int q))
    (hb : w.heap[b]? = some (.map es clock)) (hl : IntMap q es l) (k : Int) (v : Value) (hno : l.lookup k = none) :
    (Instr.mapUpdate t (.map (some b)) (.int q k) v).run P w = .ok () (w.putObj b (.map (es.push { key := .int q k, val := v, born := clock }) (clock + 1))) := by
  unfold Instr.mapUpdate
  simp only [Sem.run_bind, run_underlying ht, Result.andThen_ok, MapKept.run_getObj_map hb, Sem.run_pure, run_checkKey_int hk]
  unfold Instr.findKey
  simp only [Sem.run_bind, run_underlying hk, Result.andThen_ok]
  rcases findNow_int q k es.toList l 0 hl with ⟨h1, h2⟩ | ⟨j, v', h1, h2⟩
  · rw [h2]
    simp only [Sem.run_pure, Result.andThen_ok, Sem.run_bind, MapKept.run_setObj_map _ hb]
    rfl
  · rw [hno] at h1; cases h1
theorem IntMap.nil (q : IntKind) : IntMap q #[] [] := rfl
theorem IntMap.push {q : IntKind} {es : Array MapEntry} {l : List (Int × Value)} (h : IntMap q es l) (k : Int) (v : Value) (n : Nat) : IntMap q (es.push { key := .int q k, val := v, born := n }) (l ++ [(k, v)]) := by
  unfold IntMap at h ⊢
  simp [h]
theorem Mem.insert {w0 W : World} {H : Hp} {L : List (Nat × Obj)} {t kt et : TypeId} {q : IntKind} {b : Nat} {es : Array MapEntry} {clock : Nat} {l : List (Int × Value)} (ht : P.underlying t = some (.map kt et)) (hk : P.underlying kt = some (.int q))
    (m : Mem w0 H ((b, .map es clock) :: L) W) (hl : IntMap q es l) (k : Int) (v : Value) (hno : l.lookup k = none) :
    ∃ es' W', (Instr.mapUpdate t (.map (some b)) (.int q k) v).run P W = .ok () W' ∧ IntMap q es' (l ++ [(k, v)]) ∧ Mem w0 H ((b, .map es' (clock + 1)) :: L) W' :=
  ⟨_, _, run_insert_int ht hk (m.loc _ (.head _)).1 hl k v hno, hl.push k v clock, m.putObj .head⟩
theorem Mem.lookup {w0 W : World} {H : Hp} {L : List (Nat × Obj)} {t kt et : TypeId} {q : IntKind} {b : Nat} {es : Array MapEntry} {clock : Nat} {l : List (Int × Value)} {z : Value} (ht : P.underlying t = some (.map kt et)) (hk : P.underlying kt = some (.int q)) (hz : (zeroValue et).run P W = .ok z W)
    (m : Mem w0 H L W) (hp : (b, Obj.map es clock) ∈ L) (hl : IntMap q es l) (k : Int) (c : Bool) :
    (Instr.lookup t (.map (some b)) (.int q k) c).run P W = .ok (if c = true then .tuple #[(l.lookup k).getD z, .bool (l.lookup k).isSome] else (l.lookup k).getD z) W :=
  run_lookup_int ht hk hz (m.loc _ hp).1 hl k c
end
end Go.Proofs.Ythipkmmdjhpklaa
namespace Go.Proofs.Ythipkmmdjhpklaa
set_option linter.unusedVariables false
set_option linter.unusedSimpArgs false
open Go.RowKit

def dfun (n : Nat) : Value := .func (.func n) #[] #[]
def deedFuns : List (Int × Value) := [(1, dfun 94), (2, dfun 95), (3, dfun 96), (4, dfun 97), (5, dfun 98), (6, dfun 99), (7, dfun 100), (8, dfun 101), (9, dfun 102)]
theorem putObj_at {w : World} {b : Nat} {o : Obj} (h : b < w.heap.size) : (w.putObj b o).heap[b]? = some o := World.putObj_heap_same h
theorem putObj_lt {w : World} {b c : Nat} {o : Obj} (h : c < w.heap.size) : c < (w.putObj b o).heap.size := by simpa [World.putObj] using h
set_option maxRecDepth 10000 in
set_option maxHeartbeats 1000000 in
theorem deeds_any {w0 w : World} {H : Hp} {L : List (Nat × Obj)} (m : Mem w0 H L w) :
    Calls Try.prog 76 #[] w fun e w' => e = .returned (.map (some w.heap.size)) ∧ ∃ es clock, IntMap .u8 es deedFuns ∧ Mem w0 H ((w.heap.size, .map es clock) :: L) w' := by
  have m0 := m.alloc (.map #[] 0)
  have hl0 := IntMap.nil .u8
  generalize hW : w.alloc (.map #[] 0) = W0 at *
  go_enter Try.func76, Try.ntmps76
  go_wp2_with fail
  rw [run_makeMap, hW]
  obtain ⟨es1, W1, hr, hl1, m1⟩ := Mem.insert (P := Try.prog) Try.underlying118 Try.underlying5 m0 hl0 1 (dfun 94) rfl
  go_wp2_with fail
  first | rw [hr] | (unfold dfun at hr; rw [hr])
  clear hr m0 hl0
  obtain ⟨es2, W2, hr, hl2, m2⟩ := Mem.insert (P := Try.prog) Try.underlying118 Try.underlying5 m1 hl1 2 (dfun 95) rfl
  go_wp2_with fail
  first | rw [hr] | (unfold dfun at hr; rw [hr])
  clear hr m1 hl1
  obtain ⟨es3, W3, hr, hl3, m3⟩ := Mem.insert (P := Try.prog) Try.underlying118 Try.underlying5 m2 hl2 3 (dfun 96) rfl
  go_wp2_with fail
  first | rw [hr] | (unfold dfun at hr; rw [hr])
  clear hr m2 hl2
  obtain ⟨es4, W4, hr, hl4, m4⟩ := Mem.insert (P := Try.prog) Try.underlying118 Try.underlying5 m3 hl3 4 (dfun 97) rfl
  go_wp2_with fail
  first | rw [hr] | (unfold dfun at hr; rw [hr])
  clear hr m3 hl3
  obtain ⟨es5, W5, hr, hl5, m5⟩ := Mem.insert (P := Try.prog) Try.underlying118 Try.underlying5 m4 hl4 5 (dfun 98) rfl
  go_wp2_with fail
  first | rw [hr] | (unfold dfun at hr; rw [hr])
  clear hr m4 hl4
  obtain ⟨es6, W6, hr, hl6, m6⟩ := Mem.insert (P := Try.prog) Try.underlying118 Try.underlying5 m5 hl5 6 (dfun 99) rfl
  go_wp2_with fail
  first | rw [hr] | (unfold dfun at hr; rw [hr])
  clear hr m5 hl5
  obtain ⟨es7, W7, hr, hl7, m7⟩ := Mem.insert (P := Try.prog) Try.underlying118 Try.underlying5 m6 hl6 7 (dfun 100) rfl
  go_wp2_with fail
  first | rw [hr] | (unfold dfun at hr; rw [hr])
  clear hr m6 hl6
  obtain ⟨es8, W8, hr, hl8, m8⟩ := Mem.insert (P := Try.prog) Try.underlying118 Try.underlying5 m7 hl7 8 (dfun 101) rfl
  go_wp2_with fail
  first | rw [hr] | (unfold dfun at hr; rw [hr])
  clear hr m7 hl7
  obtain ⟨es9, W9, hr, hl9, m9⟩ := Mem.insert (P := Try.prog) Try.underlying118 Try.underlying5 m8 hl8 9 (dfun 102) rfl
  go_wp2_with fail
  first | rw [hr] | (unfold dfun at hr; rw [hr])
  clear hr m8 hl8
  go_wp2_with fail
  go_ret
  exact ⟨rfl, es9, _, hl9, m9⟩
end Go.Proofs.Ythipkmmdjhpklaa
namespace Go.Proofs.Ythipkmmdjhpklaa
set_option linter.unusedVariables false
set_option linter.unusedSimpArgs false
open Go.RowKit

/-- A value of a heap: old says whether it may refer to the old half. -/
def ValIn (half : Int) (nn on : Nat) (old : Bool) (x : ValM) : Prop :=
  x.plain = true ∧ (x.kind = 5 → (x.n % 2 = half ∧ (x.n / 2).toNat < nn) ∨ (x.n % 2 ≠ half ∧ old = true ∧ (x.n / 2).toNat < on))
theorem ValIn.mono {half : Int} {nn nn' on : Nat} {old old' : Bool} {x : ValM} (h : ValIn half nn on old x) (hn : nn ≤ nn') (ho : old = true → old' = true) : ValIn half nn' on old' x := by
  refine ⟨h.1, fun hk => ?_⟩
  rcases h.2 hk with h1 | h1
  · exact .inl ⟨h1.1, by omega⟩
  · exact .inr ⟨h1.1, ho h1.2.1, h1.2.2⟩
def lens (l : List ObjM) : List Nat := l.map fun o => o.slots.length
def lensO (l : List (ObjM × Int)) : List Nat := l.map fun p => p.1.slots.length
structure ObjIn (half : Int) (nn on : Nat) (old : Bool) (o : ObjM) : Prop where
  plain : o.plain = true
  len : o.slots.length ≤ 400
  sl : ∀ x ∈ o.slots, ValIn half nn on old x
theorem ObjIn.mono {half : Int} {nn nn' on : Nat} {old old' : Bool} {o : ObjM} (h : ObjIn half nn on old o) (hn : nn ≤ nn') (ho : old = true → old' = true) : ObjIn half nn' on old' o :=
  ⟨h.plain, h.len, fun x hx => (h.sl x hx).mono hn ho⟩
/-- All of a valid heap but for its registers. -/
structure HCore (h : HeapM) : Prop where
  size : 0 ≤ h.size ∧ h.size ≤ 6000
  half : h.half = 0 ∨ h.half = 1
  idle : h.busy = false → h.old = [] ∧ h.scan = 0
  s0 : 0 ≤ h.scan
  s1 : h.scan ≤ h.new.length
  new : ∀ (i : Nat) (o : ObjM), h.new[i]? = some o → ObjIn h.half h.new.length h.old.length (decide (h.scan ≤ i)) o
  old : ∀ p ∈ h.old, -1 ≤ p.2 ∧ p.2 < h.new.length ∧ ObjIn h.half h.new.length h.old.length true p.1
  words : wordsM (lens h.new) + dueL h.old ≤ h.size
  sum : wordsM (lensO h.old) ≤ h.size
structure HOk (h : HeapM) : Prop where
  core : HCore h
  s2 : h.scan = 0 ∨ h.scan < h.new.length
  regl : h.regs.length ≤ 4000
  regs : ∀ x ∈ h.regs, ValIn h.half h.new.length h.old.length false x

theorem wordsM_ge (l : List Nat) : (l.length : Int) ≤ wordsM l := by
  induction l with
  | nil => simp [wordsM]
  | cons a l ih => simp only [wordsM, List.length_cons]; omega
theorem dueL_ge (l : List (ObjM × Int)) (h : ∀ p ∈ l, -1 ≤ p.2) : (unc l : Int) ≤ dueL l := by
  induction l with
  | nil => simp [unc, dueL]
  | cons p l ih =>
    have h1 := ih fun q hq => h q (.tail _ hq)
    have h2 := h p (.head _)
    simp only [unc, dueL]
    by_cases e : p.2 = -1
    · rw [if_pos (by omega), if_pos e]; omega
    · rw [if_neg (by omega), if_neg e]; omega
theorem dueL_set : ∀ (l : List (ObjM × Int)) (i : Nat) (h : i < l.length) (t : Int), l[i].2 = -1 → t ≠ -1 → dueL (l.set i (l[i].1, t)) + (1 + (l[i].1.slots.length : Int)) = dueL l
  | p :: l, 0, _, t, h1, h2 => by
    have h1' : p.2 = -1 := h1
    simp only [List.set_cons_zero, dueL, List.getElem_cons_zero]
    rw [if_neg h2, if_pos h1']; omega
  | p :: l, i + 1, h, t, h1, h2 => by
    have := dueL_set l i (by simpa using h) t (by simpa using h1) h2
    simp only [List.set_cons_succ, dueL, List.getElem_cons_succ]
    omega
theorem lensO_set (l : List (ObjM × Int)) (i : Nat) (h : i < l.length) (t : Int) : lensO (l.set i (l[i].1, t)) = lensO l := by
  unfold lensO
  rw [List.map_set]
  apply List.ext_getElem (by simp)
  intro j h1 h2
  rw [List.getElem_set]
  split
  · rename_i e; subst e; simp
  · rfl
theorem wordsM_append (l l' : List Nat) : wordsM (l ++ l') = wordsM l + wordsM l' := by
  induction l with
  | nil => simp [wordsM]
  | cons a l ih => simp only [List.cons_append, wordsM, ih]; omega
theorem HCore.bounds {h : HeapM} (c : HCore h) : h.new.length ≤ 6000 ∧ h.old.length ≤ 6000 ∧ h.new.length + unc h.old ≤ 6000 := by
  have h1 := wordsM_ge (lens h.new)
  have h2 := wordsM_ge (lensO h.old)
  have h3 := dueL_ge h.old fun p hp => (c.old p hp).1
  have h4 := c.words
  have h5 := c.sum
  have h6 := c.size.2
  simp only [lens, lensO, List.length_map] at h1 h2 h4 h5
  omega
theorem isText_size {s : ByteArray} (h : isText s = true) : s.size ≤ 200 := by
  unfold isText at h
  simp only [Bool.and_eq_true, decide_eq_true_eq] at h
  exact h.2
theorem isName_size' {s : ByteArray} (h : isName s = true) : s.size ≤ 40 := by
  unfold isName at h
  simp only [Bool.and_eq_true, decide_eq_true_eq] at h
  exact h.2.2
theorem plain_cases {x : ValM} (h : x.plain = true) : x.kind ≤ 5 ∧ x.s.size ≤ 200 ∧ (x.kind ≠ 5 → -1000000000 ≤ x.n ∧ x.n ≤ 1000000000) ∧ (x.kind = 5 → 0 ≤ x.n) := by
  unfold ValM.plain at h
  have he : ByteArray.empty.size = 0 := rfl
  split at h
  · simp only [Bool.and_eq_true, decide_eq_true_eq] at h
    rw [h.1, h.2, he]; omega
  · split at h
    · simp only [Bool.and_eq_true, decide_eq_true_eq] at h
      rw [h.1, he]; omega
    · split at h
      · simp only [Bool.and_eq_true, decide_eq_true_eq] at h
        rw [h.1, he]; omega
      · split at h
        · simp only [Bool.and_eq_true, decide_eq_true_eq] at h
          have := isText_size h.2
          omega
        · split at h
          · simp only [Bool.and_eq_true, decide_eq_true_eq] at h
            have := isName_size' h.2
            omega
          · split at h
            · simp only [Bool.and_eq_true, decide_eq_true_eq] at h
              rw [h.1, he]; omega
            · cases h
theorem ValIn.can {half : Int} {nn on : Nat} {old : Bool} {x : ValM} (h : ValIn half nn on old x) (hn : nn ≤ 6000) (ho : on ≤ 6000) (hh : half = 0 ∨ half = 1) : CanV half on x := by
  obtain ⟨h1, h2, h3, h4⟩ := plain_cases h.1
  refine ⟨⟨by omega, ?_, by unfold maxLen; omega⟩, h4, fun hold => ?_⟩
  · unfold I64
    by_cases hk : x.kind = 5
    · have := h4 hk
      rcases h.2 hk with h5 | h5 <;> omega
    · have := h3 hk; omega
  · rcases h.2 hold.1 with h5 | h5
    · exact absurd h5.1 hold.2
    · exact h5.2.2
theorem HCore.can {h : HeapM} (c : HCore h) : CanMove h.half h.old h.new.length := by
  have hb := c.bounds
  refine ⟨c.half, fun p hp => ?_, fun p hp => ?_, by omega, by omega⟩
  · have := c.old p hp; omega
  · have := (c.old p hp).2.2.len; omega
theorem HCore.scanOk {h : HeapM} (c : HCore h) : ScanOk h := by
  have hb := c.bounds
  refine ⟨c.can, fun o ho v hv => ?_, fun p hp v hv => ?_, c.s0, c.s1⟩
  · obtain ⟨i, hi, rfl⟩ := List.mem_iff_getElem.1 ho
    exact ((c.new i _ (List.getElem?_eq_getElem hi)).sl v hv).can (by omega) (by omega) c.half
  · exact ((c.old p hp).2.2.sl v hv).can (by omega) (by omega) c.half

/-- One value moved, as what becomes of the heap. -/
def HeapM.afterMove (h : HeapM) (x : ValM) : HeapM := { h with old := (moveN h.half h.old h.new.length x).2.1, new := h.new ++ (moveN h.half h.old h.new.length x).2.2 }
theorem refV_in {half : Int} (hh : half = 0 ∨ half = 1) {nn on : Nat} {old : Bool} (k : Int) (h0 : 0 ≤ k) (hk : k < nn) : ValIn half nn on old (refV half k) := by
  refine ⟨?_, fun _ => .inl ?_⟩
  · unfold ValM.plain refV
    simp
    omega
  · unfold refV; simp only; omega
theorem HCore.move {h : HeapM} (c : HCore h) {x : ValM} (hx : ValIn h.half h.new.length h.old.length true x) :
    HCore (h.afterMove x) ∧ ValIn h.half (h.afterMove x).new.length h.old.length false (moveN h.half h.old h.new.length x).1 ∧ (h.afterMove x).old.length = h.old.length ∧ h.new.length ≤ (h.afterMove x).new.length := by
  have hb := c.bounds
  have hcv := hx.can hb.1 hb.2.1 c.half
  unfold HeapM.afterMove
  rcases moveN_cases (nn := h.new.length) hcv.o with ⟨h1, h2⟩ | ⟨i, hi, h1, h2, ⟨h3, h4⟩ | ⟨h3, h4⟩⟩
  · rw [h2]
    simp only [List.append_nil]
    refine ⟨c, ⟨hx.1, fun hk => ?_⟩, trivial, Nat.le_refl _⟩
    rcases hx.2 hk with h5 | h5
    · exact .inl h5
    · exact absurd ⟨hk, h5.1⟩ h1
  · have hp := c.old _ (List.getElem_mem hi)
    have hm1 : h.old[i].2 = -1 := by omega
    rw [h4]
    simp only [List.length_append, List.length_set, List.length_singleton]
    have hnn : h.new.length ≤ h.new.length + 1 := by omega
    refine ⟨⟨c.size, c.half, fun hb => ?_, c.s0, ?_, ?_, ?_, ?_, ?_⟩, refV_in c.half _ (by omega) (by omega), trivial, hnn⟩
    · have := (c.idle hb).1
      rw [this] at hi
      simp at hi
    · simp only [List.length_append, List.length_singleton]
      have := c.s1; omega
    · intro j o hj
      simp only [List.length_append, List.length_set, List.length_singleton]
      rw [List.getElem?_append] at hj
      split at hj
      · exact (c.new j o hj).mono hnn (fun h => h)
      · rename_i hge
        have hj0 : j - h.new.length = 0 := by
          rcases Nat.eq_zero_or_pos (j - h.new.length) with e | e
          · exact e
          · rw [List.getElem?_eq_none (by simp; omega)] at hj; cases hj
        rw [hj0] at hj
        simp only [List.getElem?_cons_zero, Option.some.injEq] at hj
        subst hj
        refine hp.2.2.mono hnn fun _ => ?_
        have := c.s1
        exact decide_eq_true (by omega)
    · intro p hp'
      simp only [List.length_append, List.length_set, List.length_singleton]
      rcases List.mem_or_eq_of_mem_set hp' with hp' | rfl
      · obtain ⟨e1, e2, e3⟩ := c.old p hp'
        exact ⟨e1, by omega, e3.mono hnn fun h => h⟩
      · exact ⟨by simp only; omega, by simp only; omega, hp.2.2.mono hnn fun h => h⟩
    · have h5 := dueL_set h.old i hi (h.new.length : Int) hm1 (by omega)
      have h6 := c.words
      simp only [lens, List.map_append, List.map_singleton, wordsM_append, wordsM] at h6 ⊢
      omega
    · simp only
      rw [lensO_set]
      exact c.sum
  · have hp := c.old _ (List.getElem_mem hi)
    rw [h4]
    simp only [List.append_nil]
    exact ⟨c, refV_in c.half _ (by omega) (by omega), trivial, Nat.le_refl _⟩
/-- A list of values moved. -/
def HeapM.afterMoves (h : HeapM) (l : List ValM) : HeapM := { h with old := (movesN h.half h.old h.new.length l).2.1, new := h.new ++ (movesN h.half h.old h.new.length l).2.2 }
theorem afterMoves_cons (h : HeapM) (x : ValM) (l : List ValM) : h.afterMoves (x :: l) = (h.afterMove x).afterMoves l := by
  unfold HeapM.afterMoves HeapM.afterMove
  simp only [movesN, List.length_append, List.append_assoc]
theorem HCore.moves : ∀ (l : List ValM) {h : HeapM}, HCore h → (∀ x ∈ l, ValIn h.half h.new.length h.old.length true x) →
    HCore (h.afterMoves l) ∧ (∀ y ∈ (movesN h.half h.old h.new.length l).1, ValIn h.half (h.afterMoves l).new.length h.old.length false y) ∧ (h.afterMoves l).old.length = h.old.length ∧ h.new.length ≤ (h.afterMoves l).new.length
  | [], h, c, _ => by
    have e : h.afterMoves [] = h := by unfold HeapM.afterMoves; simp [movesN]
    rw [e]
    exact ⟨c, fun y hy => (by cases hy), rfl, Nat.le_refl _⟩
  | x :: l, h, c, hx => by
    obtain ⟨c1, v1, o1, n1⟩ := c.move (hx x (.head _))
    have hl : ∀ y ∈ l, ValIn (h.afterMove x).half (h.afterMove x).new.length (h.afterMove x).old.length true y := fun y hy => by
      rw [o1]; exact (hx y (.tail _ hy)).mono n1 fun h => h
    obtain ⟨c2, v2, o2, n2⟩ := HCore.moves l c1 hl
    rw [afterMoves_cons]
    refine ⟨c2, fun y hy => ?_, by omega, by omega⟩
    have e1 : (h.afterMove x).half = h.half := rfl
    have e2 : (h.afterMove x).old = (moveN h.half h.old h.new.length x).2.1 := rfl
    have e3 : (h.afterMove x).new.length = h.new.length + (moveN h.half h.old h.new.length x).2.2.length := by simp [HeapM.afterMove]
    simp only [movesN] at hy
    rcases List.mem_cons.1 hy with rfl | hy
    · exact v1.mono n2 fun h => h
    · have := v2 y (by rw [e1, e2, e3]; exact hy)
      rwa [o1] at this
end Go.Proofs.Ythipkmmdjhpklaa
namespace Go.Proofs.Ythipkmmdjhpklaa
set_option linter.unusedVariables false
set_option linter.unusedSimpArgs false
open Go.RowKit

/-! ### Scanning -/
theorem lens_set (l : List ObjM) (i : Nat) (o : ObjM) (h : i < l.length) (he : o.slots.length = l[i].slots.length) : lens (l.set i o) = lens l := by
  unfold lens
  rw [List.map_set]
  apply List.ext_getElem (by simp)
  intro j h1 h2
  rw [List.getElem_set]
  split
  · rename_i e; subst e; simp [he]
  · rfl
/-- An object of the new half replaced by one as long. -/
theorem HCore.setObj {h : HeapM} (c : HCore h) (i : Nat) (o : ObjM) (hi : i < h.new.length) (he : o.slots.length = h.new[i].slots.length) (ho : ObjIn h.half h.new.length h.old.length (decide (h.scan ≤ i)) o) : HCore { h with new := h.new.set i o } := by
  refine ⟨c.size, c.half, c.idle, c.s0, by simpa using c.s1, fun j p hj => ?_, fun p hp => ?_, ?_, c.sum⟩
  · simp only [List.length_set] at hj ⊢
    rw [List.getElem?_set] at hj
    split at hj
    · rename_i e; subst e
      simp only [hi, if_true, Option.some.injEq] at hj
      subst hj
      exact ho
    · exact c.new j p hj
  · simpa using c.old p hp
  · simp only
    rw [lens_set _ _ _ hi he]
    exact c.words
theorem set_append_of_lt {α : Type} (l r : List α) (i : Nat) (x : α) (h : i < l.length) : (l ++ r).set i x = l.set i x ++ r := List.set_append_left _ _ h
theorem HCore.scan1 {h : HeapM} (c : HCore h) (hb : h.busy = true) (hi : h.scan < h.new.length) : HCore h.scan1 ∧ h.new.length ≤ h.scan1.new.length ∧ h.scan1.old.length = h.old.length ∧ h.scan1.half = h.half ∧ h.scan1.busy = h.busy ∧ h.scan1.regs = h.regs ∧ h.scan1.scan = h.scan + 1 := by
  have hs0 := c.s0
  have hi' : h.scan.toNat < h.new.length := by omega
  have ho := c.new _ _ (List.getElem?_eq_getElem hi')
  obtain ⟨c1, v1, o1, n1⟩ := HCore.moves h.new[h.scan.toNat].slots c (fun x hx => (ho.sl x hx).mono (Nat.le_refl _) fun _ => rfl)
  have hlt : h.scan.toNat < (h.afterMoves h.new[h.scan.toNat].slots).new.length := by omega
  have hget : (h.afterMoves h.new[h.scan.toNat].slots).new[h.scan.toNat] = h.new[h.scan.toNat] := by
    simp only [HeapM.afterMoves]
    rw [List.getElem_append_left hi']
  have c2 := c1.setObj h.scan.toNat { h.new[h.scan.toNat] with slots := (movesN h.half h.old h.new.length h.new[h.scan.toNat].slots).1 } hlt (by rw [hget]; simp only [movesN_len])
    ⟨ho.plain, by simp only [movesN_len]; exact ho.len, fun y hy => by rw [o1]; exact (v1 y hy).mono (Nat.le_refl _) (fun h => by cases h)⟩
  have hsc : h.scan1 = { h with old := (h.afterMoves h.new[h.scan.toNat].slots).old, new := (h.afterMoves h.new[h.scan.toNat].slots).new.set h.scan.toNat { h.new[h.scan.toNat] with slots := (movesN h.half h.old h.new.length h.new[h.scan.toNat].slots).1 }, scan := h.scan + 1 } := by
    rw [scan1_eq hi']
    simp only [HeapM.afterMoves]
    rw [set_append_of_lt _ _ _ _ hi']
  have hgs : ((h.afterMoves h.new[h.scan.toNat].slots).new.set h.scan.toNat { h.new[h.scan.toNat] with slots := (movesN h.half h.old h.new.length h.new[h.scan.toNat].slots).1 })[h.scan.toNat]? = some { h.new[h.scan.toNat] with slots := (movesN h.half h.old h.new.length h.new[h.scan.toNat].slots).1 } := by
    rw [List.getElem?_set_self hlt]
  have hl2 : ((h.afterMoves h.new[h.scan.toNat].slots).new.set h.scan.toNat { h.new[h.scan.toNat] with slots := (movesN h.half h.old h.new.length h.new[h.scan.toNat].slots).1 }).length = (h.afterMoves h.new[h.scan.toNat].slots).new.length := List.length_set
  have e1 : (h.afterMoves h.new[h.scan.toNat].slots).half = h.half := rfl
  have e2 : (h.afterMoves h.new[h.scan.toNat].slots).size = h.size := rfl
  have e3 : (h.afterMoves h.new[h.scan.toNat].slots).scan = h.scan := rfl
  rw [hsc]
  generalize hA : h.afterMoves h.new[h.scan.toNat].slots = A at *
  generalize hO : ({ h.new[h.scan.toNat] with slots := (movesN h.half h.old h.new.length h.new[h.scan.toNat].slots).1 } : ObjM) = O at *
  refine ⟨⟨c.size, c.half, fun hb' => ?_, by simp only; omega, by simp only [hl2]; omega, fun j p hj => ?_, fun p hp => ?_, ?_, ?_⟩, by simp only [hl2]; exact n1, o1, rfl, rfl, rfl, rfl⟩
  · simp only [hb] at hb'; cases hb'
  · simp only at hj ⊢
    have h1 := c2.new j p hj
    simp only [e1, e3] at h1
    by_cases e : j = h.scan.toNat
    · subst e
      rw [hgs] at hj
      cases hj
      refine ⟨h1.plain, h1.len, fun y hy => ?_⟩
      rw [← hO] at hy
      have h2 := v1 y hy
      rw [hl2, o1]
      exact h2.mono (Nat.le_refl _) fun h => by cases h
    · refine h1.mono (Nat.le_refl _) fun hd => ?_
      have := of_decide_eq_true hd
      exact decide_eq_true (by omega)
  · have := c2.old p hp
    simp only [e1] at this ⊢
    exact this
  · have := c2.words
    simp only [e2] at this ⊢
    exact this
  · have := c2.sum
    simp only [e2] at this ⊢
    exact this
theorem HCore.endIf {h : HeapM} (c : HCore h) : HCore h.endIf ∧ h.endIf.new = h.new ∧ (h.endIf.scan = 0 ∨ h.endIf.scan < h.endIf.new.length) ∧ h.endIf.half = h.half ∧ h.endIf.regs = h.regs := by
  unfold HeapM.endIf
  by_cases e : h.scan = h.new.length
  · rw [if_pos e]
    refine ⟨⟨c.size, c.half, fun _ => ⟨rfl, rfl⟩, by simp, by simp, fun j p hj => ?_, fun p hp => (by cases hp), ?_, ?_⟩, rfl, .inl rfl, rfl, rfl⟩
    · simp only at hj ⊢
      have h1 := c.new j p hj
      have hjl : j < h.new.length := by
        rcases Nat.lt_or_ge j h.new.length with h2 | h2
        · exact h2
        · rw [List.getElem?_eq_none h2] at hj; cases hj
      refine ⟨h1.plain, h1.len, fun y hy => ?_⟩
      obtain ⟨h2, h3⟩ := h1.sl y hy
      refine ⟨h2, fun hk => ?_⟩
      rcases h3 hk with h4 | h4
      · exact .inl h4
      · have := of_decide_eq_true h4.2.1
        omega
    · have h1 := c.words
      have h2 := dueL_ge h.old fun p hp => (c.old p hp).1
      simp only [dueL]
      omega
    · simp only [lensO, List.map_nil, wordsM]; exact c.size.1
  · rw [if_neg e]
    refine ⟨c, rfl, ?_, rfl, rfl⟩
    have := c.s1
    omega
theorem HOk.regsTo {h h' : HeapM} (o : HOk h) (c : HCore h') (s2 : h'.scan = 0 ∨ h'.scan < h'.new.length) (hh : h'.half = h.half) (hr : h'.regs = h.regs) (hn : h.new.length ≤ h'.new.length) : HOk h' := by
  refine ⟨c, s2, by rw [hr]; exact o.regl, fun x hx => ?_⟩
  rw [hr] at hx
  obtain ⟨h1, h2⟩ := o.regs x hx
  refine ⟨h1, fun hk => ?_⟩
  rcases h2 hk with h3 | h3
  · exact .inl ⟨by rw [hh]; exact h3.1, by omega⟩
  · exact absurd h3.2.1 (by simp)
theorem HOk.scanned {h : HeapM} (o : HOk h) (hb : h.busy = true) (hi : h.scan < h.new.length) : HOk h.scan1.endIf := by
  obtain ⟨c1, n1, o1, e1, e2, e3, e4⟩ := o.core.scan1 hb hi
  obtain ⟨c2, n2, s2, e5, e6⟩ := c1.endIf
  exact o.regsTo c2 s2 (e5.trans e1) (e6.trans e3) (by rw [n2]; exact n1)
theorem HOk.ended {h : HeapM} (o : HOk h) : HOk h.endIf := by
  obtain ⟨c2, n2, s2, e5, e6⟩ := o.core.endIf
  exact o.regsTo c2 s2 e5 e6 (by rw [n2]; exact Nat.le_refl _)
theorem HOk.stepM : ∀ (n : Nat) {h : HeapM}, HOk h → HOk (h.stepM n).2
  | 0, h, o => o
  | n + 1, h, o => by
    unfold HeapM.stepM
    split
    · exact o
    · rename_i hb
      have hb' : h.busy = true := by simpa using hb
      split
      · rename_i hi
        exact HOk.stepM n (o.scanned hb' hi)
      · exact o.ended
/-! ### A collection begins -/
theorem lensO_oldOf (l : List ObjM) : lensO (oldOf l) = lens l := by unfold lensO oldOf lens; simp
theorem dueL_oldOf : ∀ (l : List ObjM), dueL (oldOf l) = wordsM (lens l)
  | [] => rfl
  | o :: l => by
    have := dueL_oldOf l
    unfold oldOf lens at this ⊢
    simp only [List.map_cons, dueL, wordsM, this, if_true]
theorem HOk.started {h : HeapM} (o : HOk h) (hb : h.busy = false) : HCore { h with half := 1 - h.half, busy := true, scan := 0, old := oldOf h.new, new := [] } ∧ ∀ x ∈ h.regs, ValIn (1 - h.half) 0 h.new.length true x := by
  have c := o.core
  have hflip : ∀ {x : ValM} {b : Bool}, ValIn h.half h.new.length h.old.length b x → ValIn (1 - h.half) 0 h.new.length true x := fun {x b} hx => by
    refine ⟨hx.1, fun hk => .inr ?_⟩
    have h4 := (plain_cases hx.1).2.2.2 hk
    have hh := c.half
    rcases hx.2 hk with h3 | h3
    · exact ⟨by omega, rfl, h3.2⟩
    · have := (c.idle hb).1
      rw [this] at h3
      simp at h3
  refine ⟨⟨c.size, by have := c.half; simp only; omega, fun h => (by cases h), by simp, by simp, fun j p hj => (by simp at hj), fun p hp => ?_, ?_, ?_⟩, fun x hx => hflip (o.regs x hx)⟩
  · simp only [oldOf_length, List.length_nil]
    unfold oldOf at hp
    obtain ⟨q, hq, rfl⟩ := List.mem_map.1 hp
    obtain ⟨i, hi, rfl⟩ := List.mem_iff_getElem.1 hq
    have h1 := c.new i _ (List.getElem?_eq_getElem hi)
    exact ⟨by simp, by simp, h1.plain, h1.len, fun x hx => hflip (h1.sl x hx)⟩
  · simp only [lens, List.map_nil, wordsM, dueL_oldOf]
    have h1 := c.words
    have h2 := dueL_ge h.old fun p hp => (c.old p hp).1
    simp only [lens] at h1 ⊢
    omega
  · simp only [lensO_oldOf]
    have h1 := c.words
    have h2 := dueL_ge h.old fun p hp => (c.old p hp).1
    omega
theorem HOk.begin {h : HeapM} (o : HOk h) (hb : h.busy = false) : HOk h.begin := by
  obtain ⟨c0, r0⟩ := o.started hb
  obtain ⟨c1, v1, o1, n1⟩ := HCore.moves h.regs c0 (fun x hx => by simp only [oldOf_length, List.length_nil]; exact r0 x hx)
  simp only [HeapM.afterMoves, List.nil_append, List.length_nil] at c1 v1 o1
  have hc : HCore h.begin := ⟨c1.size, c1.half, c1.idle, c1.s0, c1.s1, c1.new, c1.old, c1.words, c1.sum⟩
  refine ⟨hc, .inl rfl, by simp only [HeapM.begin, movesN_len]; exact o.regl, fun x hx => ?_⟩
  have := v1 x hx
  have e : (movesN (1 - h.half) (oldOf h.new) 0 h.regs).2.1.length = (oldOf h.new).length := o1
  simp only [HeapM.begin]
  rw [e]
  exact this
end Go.Proofs.Ythipkmmdjhpklaa
namespace Go.Proofs.Ythipkmmdjhpklaa
set_option linter.unusedVariables false
set_option linter.unusedSimpArgs false
open Go.RowKit

/-- What a deed does: its error, its result, the heap. -/
def HeapM.do (h : HeapM) (d : DeedM) : Int × ValM × HeapM :=
  if d.kind = 1 then h.doMake d else if d.kind = 2 then h.doGet d else if d.kind = 3 then h.doPut d else if d.kind = 4 then h.doMove d else if d.kind = 5 then h.doSet d
  else if d.kind = 6 then h.doSame d else if d.kind = 7 then h.doRead d else if d.kind = 8 then h.doBegin else if d.kind = 9 then h.doStep d else (2, unitV, h)

theorem are_mem {h : HeapM} {l : List Int} (ha : ¬ h.are l = false) {x : Int} (hx : x ∈ l) : 0 ≤ x ∧ x.toNat < h.regs.length := by
  have h1 : h.are l = true := by cases h2 : h.are l; exact absurd h2 ha; rfl
  have := of_decide_eq_true (List.all_eq_true.1 h1 x hx)
  omega
theorem reg_mem {h : HeapM} {x : Int} (hx : x.toNat < h.regs.length) : h.reg x ∈ h.regs := by
  unfold HeapM.reg
  rw [List.getD_eq_getElem?_getD, List.getElem?_eq_getElem hx]
  exact List.getElem_mem hx
theorem HOk.setReg {h : HeapM} (o : HOk h) (k : Nat) (v : ValM) (hv : ValIn h.half h.new.length h.old.length false v) : HOk { h with regs := h.regs.set k v } := by
  have c := o.core
  refine ⟨⟨c.size, c.half, c.idle, c.s0, c.s1, c.new, c.old, c.words, c.sum⟩, o.s2, by simpa using o.regl, fun x hx => ?_⟩
  rcases List.mem_or_eq_of_mem_set hx with hx | rfl
  · exact o.regs x hx
  · exact hv
theorem HOk.move {h : HeapM} (o : HOk h) (d : DeedM) : HOk (h.doMove d).2.2 := by
  unfold HeapM.doMove
  split
  · exact o
  · rename_i ha
    have hb := are_mem ha (x := d.b) (by simp)
    exact o.setReg _ _ (o.regs _ (reg_mem hb.2))
theorem HOk.set {h : HeapM} (o : HOk h) (d : DeedM) : HOk (h.doSet d).2.2 := by
  unfold HeapM.doSet
  split
  · exact o
  · split
    · exact o
    · rename_i hn
      refine o.setReg _ _ ⟨?_, fun hk => absurd (.inl hk) hn⟩
      have h1 : inB h.half h.old.length h.new.length d.val = true := by
        cases h2 : inB h.half h.old.length h.new.length d.val with
        | true => rfl
        | false => exact absurd (.inr h2) hn
      unfold inB at h1
      rw [Bool.and_eq_true] at h1
      exact h1.1
theorem HOk.setSlot {h : HeapM} (o : HOk h) (k n : Nat) (v : ValM) (hv : ValIn h.half h.new.length h.old.length false v) : HOk (h.setSlot k n v) := by
  unfold HeapM.setSlot
  cases hk : h.new[k]? with
  | none => exact o
  | some p =>
    have hi : k < h.new.length := (List.getElem?_eq_some_iff.1 hk).1
    have he : h.new[k] = p := (List.getElem?_eq_some_iff.1 hk).2
    have h1 := o.core.new k p hk
    have c1 := o.core.setObj k { p with slots := p.slots.set n v } hi (by rw [he]; simp) ⟨h1.plain, by simpa using h1.len, fun y hy => by
      rcases List.mem_or_eq_of_mem_set hy with hy | rfl
      · exact h1.sl y hy
      · exact hv.mono (Nat.le_refl _) (fun h => by cases h)⟩
    exact o.regsTo c1 (by simpa using o.s2) rfl rfl (by simp)
theorem HOk.put {h : HeapM} (o : HOk h) (d : DeedM) : HOk (h.doPut d).2.2 := by
  unfold HeapM.doPut
  split
  · exact o
  · rename_i ha
    split
    · exact o
    · have hb := are_mem ha (x := d.c) (by simp)
      exact o.setSlot _ _ _ (o.regs _ (reg_mem hb.2))
theorem slotE_zero {h : HeapM} {x : ValM} {n : Int} (he : ¬ h.slotE x n ≠ 0) : x.kind = 5 ∧ 0 ≤ n ∧ n.toNat < (h.slotsAt (x.n / 2).toNat).length := by
  unfold HeapM.slotE at he
  split at he
  · exact absurd (by decide) he
  · split at he
    · rename_i h1 h2
      exact ⟨by simpa using h1, h2.1, by omega⟩
    · exact absurd (by decide) he
theorem HOk.getTo {h : HeapM} (o : HOk h) (k n a : Nat) (hn : n < (h.slotsAt k).length) : HOk (h.getTo k n a) := by
  have hx : ValIn h.half h.new.length h.old.length true ((h.slotsAt k).getD n unitV) := by
    rw [List.getD_eq_getElem?_getD, List.getElem?_eq_getElem hn]
    simp only [Option.getD_some]
    have hm := List.getElem_mem hn
    generalize (h.slotsAt k)[n] = y at *
    unfold HeapM.slotsAt at hm
    cases hk : h.new[k]? with
    | none => rw [hk] at hm; cases hm
    | some p =>
      rw [hk] at hm
      exact ((o.core.new k p hk).sl y hm).mono (Nat.le_refl _) fun _ => rfl
  obtain ⟨c1, v1, o1, n1⟩ := o.core.move hx
  have oA : HOk (h.afterMove ((h.slotsAt k).getD n unitV)) := o.regsTo c1 (by
    have := o.s2
    rcases this with h2 | h2
    · exact .inl h2
    · right; show h.scan < _; omega) rfl rfl n1
  unfold HeapM.getTo
  simp only
  rw [← o1] at v1
  have oB := oA.setReg a (moveN h.half h.old h.new.length ((h.slotsAt k).getD n unitV)).1 v1
  exact oB.setSlot k n _ v1
theorem HOk.get {h : HeapM} (o : HOk h) (d : DeedM) : HOk (h.doGet d).2.2 := by
  unfold HeapM.doGet
  split
  · exact o
  · split
    · exact o
    · rename_i he
      exact o.getTo _ _ _ (slotE_zero he).2.2
theorem HOk.make {h : HeapM} (o : HOk h) (d : DeedM) : HOk (h.doMake d).2.2 := by
  unfold HeapM.doMake
  split
  · exact o
  split
  · exact o
  split
  · exact o
  split
  · exact o
  split
  · exact o
  split
  · exact o
  rename_i h1 h2 h3 h4 h5 h6
  have c := o.core
  have hp : d.obj.plain = true := by
    have h7 : (d.obj.plain && decide (d.obj.slots.length ≤ 400)) = true := by
      cases h8 : (d.obj.plain && decide (d.obj.slots.length ≤ 400)) with
      | true => rfl
      | false => exact absurd h8 h3
    rw [Bool.and_eq_true] at h7
    exact h7.1
  have hnn : h.new.length ≤ h.new.length + 1 := by omega
  have hob : ∀ b, ObjIn h.half (h.new.length + 1) h.old.length b (h.made d) := fun b => ⟨hp, by simp only [HeapM.made, List.length_map]; omega, fun x hx => by
    obtain ⟨r, hr, rfl⟩ := List.mem_map.1 hx
    exact (o.regs _ (reg_mem (are_mem h2 hr).2)).mono hnn (fun h => by cases h)⟩
  refine ⟨⟨c.size, c.half, c.idle, c.s0, ?_, fun j p hj => ?_, fun p hp => ?_, ?_, c.sum⟩, ?_, by simpa using o.regl, fun x hx => ?_⟩
  · simp only [List.length_append, List.length_singleton]; have := c.s1; omega
  · simp only [List.length_append, List.length_singleton]
    simp only at hj
    rw [List.getElem?_append] at hj
    split at hj
    · exact (c.new j p hj).mono hnn fun h => h
    · rename_i hge
      have hj0 : j - h.new.length = 0 := by
        rcases Nat.eq_zero_or_pos (j - h.new.length) with e | e
        · exact e
        · rw [List.getElem?_eq_none (by simp; omega)] at hj; cases hj
      rw [hj0] at hj
      simp only [List.getElem?_cons_zero, Option.some.injEq] at hj
      subst hj
      exact hob _
  · simp only [List.length_append, List.length_singleton]
    obtain ⟨e1, e2, e3⟩ := c.old p hp
    exact ⟨e1, by omega, e3.mono hnn fun h => h⟩
  · simp only [lens, List.map_append, List.map_singleton, wordsM_append, wordsM]
    have h7 : h.used = wordsM (List.map (fun o => o.slots.length) h.new) := rfl
    have h8 : h.due = dueL h.old := rfl
    have h9 : (h.made d).slots.length = d.list.length := by simp [HeapM.made]
    rw [h9]
    omega
  · simp only [List.length_append, List.length_singleton]
    have := o.s2
    omega
  · simp only [List.length_append, List.length_singleton]
    rcases List.mem_or_eq_of_mem_set hx with hx | rfl
    · exact (o.regs x hx).mono hnn fun h => h
    · exact refV_in c.half _ (by omega) (by omega)
theorem HOk.do {h : HeapM} (o : HOk h) (d : DeedM) : HOk (h.do d).2.2 := by
  unfold HeapM.do
  split
  · exact o.make d
  split
  · exact o.get d
  split
  · exact o.put d
  split
  · exact o.move d
  split
  · exact o.set d
  split
  · unfold HeapM.doSame; split <;> exact o
  split
  · unfold HeapM.doRead; split <;> exact o
  split
  · unfold HeapM.doBegin
    split
    · exact o
    · rename_i hb
      exact o.begin (by simpa using hb)
  split
  · unfold HeapM.doStep
    split
    · exact o
    · exact HOk.stepM _ o
  · exact o
end Go.Proofs.Ythipkmmdjhpklaa
namespace Go.Proofs.Ythipkmmdjhpklaa
set_option linter.unusedVariables false
set_option linter.unusedSimpArgs false
open Go.RowKit

theorem HCore.usedB {h : HeapM} (c : HCore h) : h.regs.length ≤ h.regs.length := Nat.le_refl _
theorem HOk.regOk {h : HeapM} (o : HOk h) : RegOk h := fun x hx hk => by
  have h1 := o.regs x hx
  have h2 := (plain_cases h1.1).2.2.2 hk
  rcases h1.2 hk with h3 | h3
  · exact ⟨h2, h3.2⟩
  · exact absurd h3.2.1 (by simp)
theorem HOk.slotsB {h : HeapM} (o : HOk h) : ∀ p ∈ h.new, p.slots.length ≤ 100000 := fun p hp => by
  obtain ⟨i, hi, rfl⟩ := List.mem_iff_getElem.1 hp
  have := (o.core.new i _ (List.getElem?_eq_getElem hi)).len
  omega
theorem HOk.canStart {h : HeapM} (o : HOk h) (hb : h.busy = false) : h.old = [] ∧ (h.half = 0 ∨ h.half = 1) ∧ h.new.length ≤ 100000 ∧ CanMove (1 - h.half) (oldOf h.new) 0 ∧ ∀ x ∈ h.regs, CanV (1 - h.half) h.new.length x := by
  have hbb := o.core.bounds
  obtain ⟨c0, r0⟩ := o.started hb
  have hh : (1 - h.half) = 0 ∨ (1 - h.half) = 1 := by have := o.core.half; omega
  exact ⟨(o.core.idle hb).1, o.core.half, by omega, c0.can, fun x hx => (r0 x hx).can (by omega) (by omega) hh⟩
/-- Each kind's function does what the kind does. -/
theorem deed_calls (b : Nat) (h : HeapM) (d : DeedM) (lv sv : Value) {w0 w : World} {H : Hp} {L : List (Nat × Obj)} (hc : HeapOwn TH b h w0 H L w) (hd : DeedR H d lv sv) (o : HOk h) (ha : d.a ≤ 100000) (v : Value) (hv : deedFuns.lookup (d.kind : Int) = some v) :
    ∃ f, v = dfun f ∧ (∀ args w, (callFunc f args).run Try.prog w = .ok (.enter f args) w) ∧ Calls Try.prog f #[.pointer (some ⟨b, 0, none⟩), d.v lv sv] w (DeedEnd b w0 H L (h.do d)) := by
  have hbb := o.core.bounds
  have hrl := o.regl
  have hr : h.regs.length ≤ 100000 := by omega
  have hsb := o.slotsB
  have hsz := o.core.size.2
  have hk : d.kind = 1 ∨ d.kind = 2 ∨ d.kind = 3 ∨ d.kind = 4 ∨ d.kind = 5 ∨ d.kind = 6 ∨ d.kind = 7 ∨ d.kind = 8 ∨ d.kind = 9 := by
    simp only [deedFuns, List.lookup] at hv
    repeat' split at hv
    all_goals first | (rename_i e; have := eq_of_beq e; omega) | (cases hv; done) | skip
  rcases hk with e | e | e | e | e | e | e | e | e <;> rw [e] at hv <;> cases hv
  · have hdo : h.do d = h.doMake d := by unfold HeapM.do; simp [e]
    rw [hdo]
    exact ⟨_, rfl, fun args w => (enters_of (P := Try.prog) Try.func94 (by kernel_rfl) rfl) args w, make_any b h d lv sv hc hd hr (by omega) (by omega) hsb (fun p hp => by have := (o.core.old p hp).2.2.len; omega) o.core.half (by omega)⟩
  · have hdo : h.do d = h.doGet d := by unfold HeapM.do; simp [e]
    rw [hdo]
    exact ⟨_, rfl, fun args w => (enters_of (P := Try.prog) Try.func95 (by kernel_rfl) rfl) args w, get_any b h d lv sv hc hd hr (by omega) hsb o.regOk o.core.can o.core.scanOk.new⟩
  · have hdo : h.do d = h.doPut d := by unfold HeapM.do; simp [e]
    rw [hdo]
    exact ⟨_, rfl, fun args w => (enters_of (P := Try.prog) Try.func96 (by kernel_rfl) rfl) args w, put_any b h d lv sv hc hd hr (by omega) hsb o.regOk⟩
  · have hdo : h.do d = h.doMove d := by unfold HeapM.do; simp [e]
    rw [hdo]
    exact ⟨_, rfl, fun args w => (enters_of (P := Try.prog) Try.func97 (by kernel_rfl) rfl) args w, copy_any b h d lv sv hc hd hr⟩
  · have hdo : h.do d = h.doSet d := by unfold HeapM.do; simp [e]
    rw [hdo]
    exact ⟨_, rfl, fun args w => (enters_of (P := Try.prog) Try.func98 (by kernel_rfl) rfl) args w, set_any b h d lv sv hc hd hr (by omega) (by omega)⟩
  · have hdo : h.do d = h.doSame d := by unfold HeapM.do; simp [e]
    rw [hdo]
    exact ⟨_, rfl, fun args w => (enters_of (P := Try.prog) Try.func99 (by kernel_rfl) rfl) args w, same_any b h d lv sv hc hd hr⟩
  · have hdo : h.do d = h.doRead d := by unfold HeapM.do; simp [e]
    rw [hdo]
    exact ⟨_, rfl, fun args w => (enters_of (P := Try.prog) Try.func100 (by kernel_rfl) rfl) args w, read_any b h d lv sv hc hd hr (by omega) o.regOk⟩
  · have hdo : h.do d = h.doBegin := by unfold HeapM.do; simp [e]
    rw [hdo]
    exact ⟨_, rfl, fun args w => (enters_of (P := Try.prog) Try.func101 (by kernel_rfl) rfl) args w, start_any b h d lv sv hc hd o.canStart⟩
  · have hdo : h.do d = h.doStep d := by unfold HeapM.do; simp [e]
    rw [hdo]
    exact ⟨_, rfl, fun args w => (enters_of (P := Try.prog) Try.func102 (by kernel_rfl) rfl) args w, step_any b h d lv sv hc hd (fun _ => o.core.scanOk) ha⟩
theorem zero_deed (w : World) : (zeroValue 116).run Try.prog w = .ok .nilFunc w := by kernel_rfl
theorem perm_do1 {α : Type} (r d : α) (LH L : List α) : (LH ++ (r :: d :: L)).Perm (r :: d :: (LH ++ L)) := (by classical exact List.perm_iff_count.2 (fun a => by simp only [List.count_append, List.count_cons, List.cons_append, List.nil_append, List.append_assoc]; omega))
theorem perm_do2 {α : Type} (r d : α) (R : List α) : (r :: d :: R).Perm (d :: r :: R) := .swap _ _ _
theorem perm_do3 {α : Type} (m r d : α) (R : List α) : (m :: r :: d :: R).Perm (d :: r :: m :: R) := (by classical exact List.perm_iff_count.2 (fun a => by simp only [List.count_append, List.count_cons, List.cons_append, List.nil_append, List.append_assoc]; omega))
theorem perm_do4 {α : Type} (m r d : α) (LH L : List α) : (m :: r :: d :: (LH ++ L)).Perm (LH ++ (r :: d :: m :: L)) := (by classical exact List.perm_iff_count.2 (fun a => by simp only [List.count_append, List.count_cons, List.cons_append, List.nil_append, List.append_assoc]; omega))
theorem perm_do5 {α : Type} (m r d : α) (LH L : List α) : (LH ++ (r :: d :: m :: L)).Perm (r :: d :: m :: (LH ++ L)) := (by classical exact List.perm_iff_count.2 (fun a => by simp only [List.count_append, List.count_cons, List.cons_append, List.nil_append, List.append_assoc]; omega))
set_option maxRecDepth 10000 in
set_option maxHeartbeats 4000000 in
theorem do_any (b : Nat) (h : HeapM) (d : DeedM) (lv sv : Value) {w0 w : World} {H : Hp} {L : List (Nat × Obj)} (hc : HeapOwn TH b h w0 H L w) (hd : DeedR H d lv sv) (o : HOk h) (ha : d.a ≤ 100000) :
    Calls Try.prog 51 #[.pointer (some ⟨b, 0, none⟩), d.v lv sv] w (DeedEnd b w0 H L (h.do d)) := by
  have HD := Lib.hid hd
  obtain ⟨lb, lc, rfl, _, _, _, _⟩ := hd.list
  obtain ⟨sb2, sc2, rfl, _, _, _, _⟩ := hd.slots
  have hdk := hd.k
  clear hd
  have hc1 := (hc.alloc (DBox d (.slice lb d.list.length lc) (.slice sb2 d.obj.slots.length sc2))).alloc (.cells #[.int .u8 0, .int .i64 0, .string ⟨#[]⟩] 50)
  rw [World.size_alloc] at hc1
  have HO := Lib.hid o; clear o
  show Calls Try.prog 51 #[.pointer (some ⟨b, 0, none⟩), .agg #[.int .u8 d.kind, .int .i64 d.a, .int .i64 d.b, .int .i64 d.c, .slice lb d.list.length lc, .int .u8 d.obj.kind, .string d.obj.name, .int .i64 d.obj.n, .slice sb2 d.obj.slots.length sc2, .int .u8 d.val.kind, .int .i64 d.val.n, .string d.val.s]] w _
  obtain ⟨LH, mA, back⟩ := HeapOwn.out (L1 := []) hc1
  have mB := mA.perm (perm_do1 _ _ LH L)
  clear mA
  generalize hW : (w.alloc (DBox d (.slice lb d.list.length lc) (.slice sb2 d.obj.slots.length sc2))).alloc (.cells #[.int .u8 0, .int .i64 0, .string ⟨#[]⟩] 50) = W at *
  go_enter Try.func51, Try.ntmps51
  go_wp2_with fail
  try rw [hW]
  refine AnyFrom.start (fun w' => ∃ L', Mem w0 H ((w.heap.size, DBox d (.slice lb d.list.length lc) (.slice sb2 d.obj.slots.length sc2)) :: L') w') 9 (by kernel_rfl) ?_
  have mW := mB.drew
  clear mB
  generalize W.drew = W2 at *
  have HS : ∃ L', Mem w0 H ((w.heap.size, DBox d (.slice lb d.list.length lc) (.slice sb2 d.obj.slots.length sc2)) :: L') W2 := ⟨_, mW.perm (perm_do2 _ _ _)⟩
  refine AnyFrom.takeT (i := 1) (v := ?_) rfl (by kernel_rfl) (by kernel_rfl) (by kernel_rfl) (by kernel_rfl) (fun _ _ _ h => h) ⟨by rfl, ?_⟩ HS ?_
  rotate_left
  · first | (rintro w' ⟨L', hm⟩; have es := hm.eqs; simp only [DBox, EqsL] at es; go_simp; done) | (rintro w' ⟨L', hm⟩; have es := hm.eqs; simp only [DBox, EqsL] at es; go_simp; with_reducible rfl)
  simp only [Act.put, List.setIfInBounds_toArray, List.set_cons_zero, List.set_cons_succ]
  refine AnyFrom.takeT (i := 2) (v := ?_) rfl (by kernel_rfl) (by kernel_rfl) (by kernel_rfl) (by kernel_rfl) (fun _ _ _ h => h) ⟨by rfl, ?_⟩ HS ?_
  rotate_left
  · first | (rintro w' ⟨L', hm⟩; have es := hm.eqs; simp only [DBox, EqsL] at es; go_simp; done) | (rintro w' ⟨L', hm⟩; have es := hm.eqs; simp only [DBox, EqsL] at es; go_simp; with_reducible rfl)
  simp only [Act.put, List.setIfInBounds_toArray, List.set_cons_zero, List.set_cons_succ]
  refine AnyFrom.one (i := 0) (by kernel_rfl) (AnyFrom.op rfl (by rfl) fun K hK => ?_)
  go_simp
  refine (deeds_any mW).mono ?_
  rintro e w3 ⟨rfl, es9, clock, hl, m3⟩
  have m4 := m3.perm (perm_do3 _ _ _ _)
  refine hK _ _ (.inr ⟨_, m4⟩) ?_
  clear hK K HS
  try simp only [Act.put, List.setIfInBounds_toArray, List.set_cons_zero, List.set_cons_succ]
  have HS : ∃ L', Mem w0 H ((w.heap.size, DBox d (.slice lb d.list.length lc) (.slice sb2 d.obj.slots.length sc2)) :: L') w3 := ⟨_, m4⟩
  have hlook := Mem.lookup (P := Try.prog) Try.underlying118 Try.underlying5 (zero_deed w3) m3 (.head _) hl d.kind true
  simp only [if_true] at hlook
  generalize hmb : W2.heap.size = mb at *
  generalize hlv : deedFuns.lookup (d.kind : Int) = fo at *
  generalize hfv : fo.getD Value.nilFunc = fv at *
  generalize hsm : fo.isSome = sm at *
  refine AnyFrom.one (i := 3) (by kernel_rfl) (AnyFrom.op rfl (by rfl) fun K hK => ?_)
  go_simp
  first | rw [hlook] | skip
  go_simp
  refine hK _ _ (.inr ⟨_, m4⟩) ?_
  clear hK K hlook
  try simp only [Act.put, List.setIfInBounds_toArray, List.set_cons_zero, List.set_cons_succ]
  refine AnyFrom.one (i := 4) (by kernel_rfl) (AnyFrom.op rfl (by rfl) fun K hK => ?_)
  go_simp
  refine hK _ _ (.inr ⟨_, m4⟩) ?_
  clear hK K
  try simp only [Act.put, List.setIfInBounds_toArray, List.set_cons_zero, List.set_cons_succ]
  refine AnyFrom.pure (i := 5) (v := ?_) rfl (by kernel_rfl) (by kernel_rfl) (by kernel_rfl) (by decide) (fun _ _ _ h => h) ⟨by rfl, ?_⟩ HS ?_
  rotate_left
  · first | (intro w'; go_simp; done) | (intro w'; go_simp; with_reducible rfl)
  simp only [Act.put, List.setIfInBounds_toArray, List.set_cons_zero, List.set_cons_succ]
  refine AnyFrom.pure (i := 6) (v := ?_) rfl (by kernel_rfl) (by kernel_rfl) (by kernel_rfl) (by decide) (fun _ _ _ h => h) ⟨by rfl, ?_⟩ HS ?_
  rotate_left
  · first | (intro w'; go_simp; done) | (intro w'; go_simp; with_reducible rfl)
  simp only [Act.put, List.setIfInBounds_toArray, List.set_cons_zero, List.set_cons_succ]
  refine AnyFrom.pure (i := 7) (v := ?_) rfl (by kernel_rfl) (by kernel_rfl) (by kernel_rfl) (by decide) (fun _ _ _ h => h) ⟨by rfl, ?_⟩ HS ?_
  rotate_left
  · first | (intro w'; go_simp; done) | (intro w'; go_simp; with_reducible rfl)
  simp only [Act.put, List.setIfInBounds_toArray, List.set_cons_zero, List.set_cons_succ]
  refine AnyFrom.pure (i := 8) (v := ?_) rfl (by kernel_rfl) (by kernel_rfl) (by kernel_rfl) (by decide) (fun _ _ _ h => h) ⟨by rfl, ?_⟩ HS ?_
  rotate_left
  · first | (intro w'; go_simp; done) | (intro w'; go_simp; with_reducible rfl)
  simp only [Act.put, List.setIfInBounds_toArray, List.set_cons_zero, List.set_cons_succ]
  refine AnyFrom.done (by kernel_rfl) ?_ _
  cases fo with
  | none =>
    simp only [Option.getD_none, Option.isSome_none] at hfv hsm
    subst hfv
    subst hsm
    have hdo : h.do d = (2, unitV, h) := by
      have hne : ∀ k : Nat, (k = 1 ∨ k = 2 ∨ k = 3 ∨ k = 4 ∨ k = 5 ∨ k = 6 ∨ k = 7 ∨ k = 8 ∨ k = 9) → d.kind ≠ k := by
        intro k hk e
        rw [e] at hlv
        rcases hk with rfl | rfl | rfl | rfl | rfl | rfl | rfl | rfl | rfl <;> cases hlv
      unfold HeapM.do
      simp [hne]
    have HDO := Lib.hid hdo; clear hdo hlv
    go_wp2_with fail
    refine (unit_any m4).mono ?_
    rintro e w9 ⟨rfl, m9⟩
    have mu9 := m9
    unfold DBox at mu9
    have es := mu9.eqs
    simp only [EqsL] at es
    have ns := mu9.nes
    simp only [NeL, NeFrom] at ns
    unfold ValM.v unitV
    go_wp2_with fail
    refine bodyPost_ret (v := .tuple #[unitV.v, .int .i64 2]) (by simp [results, Try.results51, go_sem, es, ns]; rfl) rfl ?_
    rw [HDO.out]
    refine ⟨rfl, H, Hle.refl _, back (MemB.done (ks := [w.heap.size, w.heap.size + 1, mb]) ?_)⟩
    repeat (first | exact ⟨[_, _, _], rfl, m9⟩ | refine MemB.set (by simp) ?_)
  | some v =>
    simp only [Option.getD_some, Option.isSome_some] at hfv hsm
    subst hfv
    subst hsm
    have hc5 := back (m3.perm (perm_do4 _ _ _ LH L))
    obtain ⟨f, rfl, hent, hcall⟩ := deed_calls b h d _ _ hc5 HD.out HO.out ha v hlv
    clear hlv hl
    have HC := Lib.hid hcall; clear hcall
    have mu := m4
    unfold DBox at mu
    have es := mu.eqs
    simp only [EqsL] at es
    unfold dfun
    go_wp2_with fail
    refine HC.out.mono ?_
    rintro e w5 ⟨rfl, H', hle, hc6⟩
    obtain ⟨LH2, m6, back2⟩ := HeapOwn.out (L1 := []) hc6
    have m7 := m6.perm (perm_do5 _ _ _ LH2 L)
    clear es mu m6 HC hent
    have mu := m7
    unfold DBox at mu
    have es := mu.eqs
    simp only [EqsL] at es
    have ns := mu.nes
    simp only [NeL, NeFrom] at ns
    generalize hres : h.do d = res at *
    unfold ValM.v
    go_wp2_with fail
    refine bodyPost_ret (v := .tuple #[res.2.1.v, .int .i64 res.1]) (by simp [results, Try.results51, go_sem, es, ns]; rfl) rfl ?_
    refine ⟨rfl, H', hle, back2 (MemB.done (ks := [w.heap.size + 1, w.heap.size, mb]) ?_)⟩
    repeat (first | exact ⟨[_, _, _], rfl, m7⟩ | refine MemB.set (by simp) ?_)
end Go.Proofs.Ythipkmmdjhpklaa
namespace Go.Proofs.Ythipkmmdjhpklaa
set_option linter.unusedVariables false
set_option linter.unusedSimpArgs false
open Go.RowKit

set_option maxHeartbeats 1000000 in
theorem IndexAll_any (v : Value) (xs : List ValM) (q : Nat) (p : ValM → Bool) {w0 w : World} {H : Hp} {L : List (Nat × Obj)} (m : Mem w0 H L w) (hv : SlR encVal H v xs)
    (hcall : ∀ x ∈ xs, ∀ W, Mem w0 H L W → Calls Try.prog 105 #[x.v, .pointer (some ⟨q, 0, none⟩)] W (Ret w0 H L (.bool (p x)))) :
    Calls Try.prog 112 #[v, (.func (.func 105) #[] #[.pointer (some ⟨q, 0, none⟩)])] w fun e w' => ∃ i : Int, e = .returned (.int .i64 i) ∧ decide (0 ≤ i) = xs.any p ∧ Mem w0 H L w' := by
  have HV := Lib.hid hv
  have HCL := Lib.hid hcall; clear hcall
  obtain ⟨b, c, rfl, hc1, hc2, _, _⟩ := hv
  have hc2 := size_le_maxLen hc2
  go_enter Try.func112, Try.ntmps112
  go_wp2_with fail
  go_loopw [5, 8] (fun _ i wr => ∃ k : Nat, k ≤ xs.length ∧ i = .int .i64 k ∧ (xs.take k).any p = false ∧ Mem w0 H L wr) (fun _ i _ => xs.length - (intOf i).toNat)
  case atStart => exact ⟨0, Nat.zero_le _, rfl, rfl, m⟩
  case round =>
    obtain ⟨k, hk, rfl, hall, m2⟩ := hrel
    have HA := Lib.hid hall; clear hall
    by_cases hlt : k < xs.length
    · obtain ⟨blk, off, rfl, c0, c1, c2, hfit⟩ := HV.out.getV hlt
      have c0 := c0.cell m2
      have c1 := c1.cell m2
      have c2 := c2.cell m2
      have HF := Lib.hid hfit; clear hfit
      have hcl := HCL.out _ (List.getElem_mem hlt)
      unfold ValM.v at hcl
      have HC2 := Lib.hid hcl; clear hcl
      have hltI : (k : Int) < xs.length := by omega
      have htk : (xs.take (k + 1)).any p = ((xs.take k).any p || p xs[k]) := by rw [List.take_succ_eq_append_getElem hlt, List.any_append]; simp
      have HTK := Lib.hid htk; clear htk
      have hmem := List.getElem_mem hlt
      have HMEM := Lib.hid hmem; clear hmem
      go_wp2_with fail
      refine (HC2.out _ m2).mono ?_
      rintro e w3 ⟨rfl, m3⟩
      cases hq : p xs[k]
      · have HQ := Lib.hid hq
        go_wp2_with fail
        go_roundw
        case rel => exact ⟨k + 1, by omega, by go_num, by rw [HTK.out, HA.out, HQ.out]; rfl, m3⟩
        case measure => simp [intOf]; omega
      · have HQ := Lib.hid hq
        go_wp2_with fail
        go_ret
        refine ⟨_, rfl, ?_, m3⟩
        rw [show xs.any p = true from List.any_eq_true.2 ⟨_, HMEM.out, HQ.out⟩]
        simp
    · go_wp2_with fail
      go_ret
      refine ⟨_, rfl, ?_, m2⟩
      have := HA.out
      rw [List.take_of_length_le (by omega)] at this
      rw [this]
      rfl
set_option maxHeartbeats 1000000 in
theorem ContainsAll_any (v : Value) (xs : List ValM) (q : Nat) (p : ValM → Bool) {w0 w : World} {H : Hp} {L : List (Nat × Obj)} (m : Mem w0 H L w) (hv : SlR encVal H v xs)
    (hcall : ∀ x ∈ xs, ∀ W, Mem w0 H L W → Calls Try.prog 105 #[x.v, .pointer (some ⟨q, 0, none⟩)] W (Ret w0 H L (.bool (p x)))) :
    Calls Try.prog 104 #[v, (.func (.func 105) #[] #[.pointer (some ⟨q, 0, none⟩)])] w (Ret w0 H L (.bool (xs.any p))) := by
  go_enter Try.func104, Try.ntmps104
  go_wp2_with fail
  refine (IndexAll_any v xs q p m hv hcall).mono ?_
  rintro e w1 ⟨i, rfl, hi, m1⟩
  have hi2 : decide (i ≥ 0) = xs.any p := hi
  have HI := Lib.hid hi; clear hi
  go_wp2_with fail
  all_goals go_ret
  all_goals first
    | exact ⟨ret_bool (by rw [← HI.out]), m1⟩
    | exact ⟨ret_bool (by rw [← HI.out]; simp; omega), m1⟩

set_option maxHeartbeats 1000000 in
theorem IndexOld_any (v : Value) (xs : List ValM) (q : Nat) (p : ValM → Bool) {w0 w : World} {H : Hp} {L : List (Nat × Obj)} (m : Mem w0 H L w) (hv : SlR encVal H v xs)
    (hcall : ∀ x ∈ xs, ∀ W, Mem w0 H L W → Calls Try.prog 82 #[.pointer (some ⟨q, 0, none⟩), x.v] W (Ret w0 H L (.bool (p x)))) :
    Calls Try.prog 112 #[v, (.func (.func 82) #[.pointer (some ⟨q, 0, none⟩)] #[])] w fun e w' => ∃ i : Int, e = .returned (.int .i64 i) ∧ decide (0 ≤ i) = xs.any p ∧ Mem w0 H L w' := by
  have HV := Lib.hid hv
  have HCL := Lib.hid hcall; clear hcall
  obtain ⟨b, c, rfl, hc1, hc2, _, _⟩ := hv
  have hc2 := size_le_maxLen hc2
  go_enter Try.func112, Try.ntmps112
  go_wp2_with fail
  go_loopw [5, 8] (fun _ i wr => ∃ k : Nat, k ≤ xs.length ∧ i = .int .i64 k ∧ (xs.take k).any p = false ∧ Mem w0 H L wr) (fun _ i _ => xs.length - (intOf i).toNat)
  case atStart => exact ⟨0, Nat.zero_le _, rfl, rfl, m⟩
  case round =>
    obtain ⟨k, hk, rfl, hall, m2⟩ := hrel
    have HA := Lib.hid hall; clear hall
    by_cases hlt : k < xs.length
    · obtain ⟨blk, off, rfl, c0, c1, c2, hfit⟩ := HV.out.getV hlt
      have c0 := c0.cell m2
      have c1 := c1.cell m2
      have c2 := c2.cell m2
      have HF := Lib.hid hfit; clear hfit
      have hcl := HCL.out _ (List.getElem_mem hlt)
      unfold ValM.v at hcl
      have HC2 := Lib.hid hcl; clear hcl
      have hltI : (k : Int) < xs.length := by omega
      have htk : (xs.take (k + 1)).any p = ((xs.take k).any p || p xs[k]) := by rw [List.take_succ_eq_append_getElem hlt, List.any_append]; simp
      have HTK := Lib.hid htk; clear htk
      have hmem := List.getElem_mem hlt
      have HMEM := Lib.hid hmem; clear hmem
      go_wp2_with fail
      refine (HC2.out _ m2).mono ?_
      rintro e w3 ⟨rfl, m3⟩
      cases hq : p xs[k]
      · have HQ := Lib.hid hq
        go_wp2_with fail
        go_roundw
        case rel => exact ⟨k + 1, by omega, by go_num, by rw [HTK.out, HA.out, HQ.out]; rfl, m3⟩
        case measure => simp [intOf]; omega
      · have HQ := Lib.hid hq
        go_wp2_with fail
        go_ret
        refine ⟨_, rfl, ?_, m3⟩
        rw [show xs.any p = true from List.any_eq_true.2 ⟨_, HMEM.out, HQ.out⟩]
        simp
    · go_wp2_with fail
      go_ret
      refine ⟨_, rfl, ?_, m2⟩
      have := HA.out
      rw [List.take_of_length_le (by omega)] at this
      rw [this]
      rfl
set_option maxHeartbeats 1000000 in
theorem ContainsOld_any (v : Value) (xs : List ValM) (q : Nat) (p : ValM → Bool) {w0 w : World} {H : Hp} {L : List (Nat × Obj)} (m : Mem w0 H L w) (hv : SlR encVal H v xs)
    (hcall : ∀ x ∈ xs, ∀ W, Mem w0 H L W → Calls Try.prog 82 #[.pointer (some ⟨q, 0, none⟩), x.v] W (Ret w0 H L (.bool (p x)))) :
    Calls Try.prog 104 #[v, (.func (.func 82) #[.pointer (some ⟨q, 0, none⟩)] #[])] w (Ret w0 H L (.bool (xs.any p))) := by
  go_enter Try.func104, Try.ntmps104
  go_wp2_with fail
  refine (IndexOld_any v xs q p m hv hcall).mono ?_
  rintro e w1 ⟨i, rfl, hi, m1⟩
  have hi2 : decide (i ≥ 0) = xs.any p := hi
  have HI := Lib.hid hi; clear hi
  go_wp2_with fail
  all_goals go_ret
  all_goals first
    | exact ⟨ret_bool (by rw [← HI.out]), m1⟩
    | exact ⟨ret_bool (by rw [← HI.out]; simp; omega), m1⟩

theorem perm_al1 {α : Type} (x q b : α) (L : List α) : (x :: q :: b :: L).Perm (b :: x :: q :: L) := (by classical exact List.perm_iff_count.2 (fun a => by simp only [List.count_append, List.count_cons, List.cons_append, List.nil_append, List.append_assoc]; omega))
section
variable {size half scan : Int} {busy : Bool} {ob nb : Option Addr} {on oc nn nc : Nat} {vr : Value} {w0 : World} {H : Hp} {L : List (Nat × Obj)} {w : World}
theorem all1_any (b q : Nat) (x : ValM) (hx : x.fit) (m : Mem w0 H ((q, .cells #[.pointer (some ⟨b, 0, none⟩)] 88) :: (b, HBox TH size half scan busy (.slice ob on oc) (.slice nb nn nc) vr) :: L) w) (hon : on ≤ 100000) (hnn : nn ≤ 100000) :
    Calls Try.prog 105 #[x.v, .pointer (some ⟨q, 0, none⟩)] w (Ret w0 H ((q, .cells #[.pointer (some ⟨b, 0, none⟩)] 88) :: (b, HBox TH size half scan busy (.slice ob on oc) (.slice nb nn nc) vr) :: L) (.bool (!inB half on nn x))) := by
  have HX := Lib.hid hx; clear hx
  have hs := Lib.hid HX.out.s
  show Calls Try.prog 105 #[.agg #[.int .u8 x.kind, .int .i64 x.n, .string x.s], .pointer (some ⟨q, 0, none⟩)] w _
  have m1 := m.alloc (.cells #[.int .u8 x.kind, .int .i64 x.n, .string x.s] 50)
  have mu := m
  unfold HBox at mu
  have es := mu.eqs; simp only [EqsL, and_true] at es
  go_enter Try.func105, Try.ntmps105
  go_wp2_with fail
  refine (isValue_any b x HX.out (m1.perm (perm_al1 _ _ _ _)) hon hnn).mono ?_
  rintro e w1 ⟨rfl, m2⟩
  go_wp2_with fail
  go_ret
  exact ⟨rfl, (m2.perm (perm_al1 _ _ _ _).symm).drop⟩
theorem all_any (b : Nat) (v : Value) (xs : List ValM) (hv : SlR encVal H v xs) (m : Mem w0 H ((b, HBox TH size half scan busy (.slice ob on oc) (.slice nb nn nc) vr) :: L) w) (hon : on ≤ 100000) (hnn : nn ≤ 100000) :
    Calls Try.prog 90 #[.pointer (some ⟨b, 0, none⟩), v] w (Ret w0 H ((b, HBox TH size half scan busy (.slice ob on oc) (.slice nb nn nc) vr) :: L) (.bool (xs.all (inB half on nn)))) := by
  have m1 := m.alloc (.cells #[.pointer (some ⟨b, 0, none⟩)] 88)
  go_enter Try.func90, Try.ntmps90
  go_wp2_with fail
  refine (ContainsAll_any v xs w.heap.size (fun x => !inB half on nn x) m1 hv (fun x hx W hW => ?hc)).mono ?_
  case hc =>
    obtain ⟨i, hi, rfl⟩ := List.mem_iff_getElem.1 hx
    obtain ⟨b', c', rfl, _, _, _, _⟩ := id hv
    obtain ⟨_, _, _, _, _, _, hfit⟩ := hv.getV hi
    exact all1_any b _ _ hfit hW hon hnn
  rintro e w1 ⟨rfl, m2⟩
  go_wp2_with fail
  go_ret
  exact ⟨ret_bool (by simp [List.all_eq_not_any_not]), m2.drop⟩
def isOldB (half : Int) (x : ValM) : Bool := decide (x.kind = 5 ∧ x.n.tmod 2 ≠ half)
theorem isMoved_any (b : Nat) (v : Value) (xs : List ValM) (hv : SlR encVal H v xs) {vo vn : Value} (m : Mem w0 H ((b, HBox TH size half scan busy vo vn vr) :: L) w) :
    Calls Try.prog 91 #[.pointer (some ⟨b, 0, none⟩), v] w (Ret w0 H ((b, HBox TH size half scan busy vo vn vr) :: L) (.bool (!xs.any (isOldB half)))) := by
  go_enter Try.func91, Try.ntmps91
  go_wp2_with fail
  refine (ContainsOld_any v xs b (isOldB half) m hv (fun x hx W hW => ?hc)).mono ?_
  case hc =>
    obtain ⟨i, hi, rfl⟩ := List.mem_iff_getElem.1 hx
    obtain ⟨b', c', rfl, _, _, _, _⟩ := id hv
    obtain ⟨_, _, _, _, _, _, hfit⟩ := hv.getV hi
    exact isOld_any b _ hfit hW
  rintro e w1 ⟨rfl, m2⟩
  go_wp2_with fail
  go_ret
  exact ⟨rfl, m2⟩
end
end Go.Proofs.Ythipkmmdjhpklaa
namespace Go.Proofs.Ythipkmmdjhpklaa
set_option linter.unusedVariables false
set_option linter.unusedSimpArgs false
open Go.RowKit

set_option maxRecDepth 10000 in
set_option maxHeartbeats 4000000 in
theorem words_fr (v : Value) (os : List ObjM) {w0 w : World} {H : Hp} {L : List (Nat × Obj)} (hv : SlR encObj H v os) (hb : ∀ o ∈ os, o.slots.length ≤ 100000) (hl : os.length ≤ 100000) (m : Mem w0 H L w) :
    Calls Try.prog 78 #[v] w (Ret w0 H L (.int .i64 (wordsM (lens os)))) := by
  have HV := Lib.hid hv
  have HB := Lib.hid hb; clear hb
  obtain ⟨b, c, rfl, hc1, hc2, _, _⟩ := hv
  have hc2 := size_le_maxLen hc2
  go_enter Try.func78, Try.ntmps78
  go_wp2_with fail
  go_loopw [2, 4, 7] (fun v2 _ v7 wr => ∃ k : Nat, k ≤ os.length ∧ v7 = .int .i64 k ∧ v2 = .int .i64 (wordsM ((lens os).take k)) ∧ Mem w0 H L wr) (fun _ _ i _ => os.length - (intOf i).toNat)
  case atStart => exact ⟨0, Nat.zero_le _, rfl, rfl, m⟩
  case round =>
    obtain ⟨k, hk, rfl, rfl, m2⟩ := hrel
    by_cases hlt : k < os.length
    · obtain ⟨blk, off, sv, rfl, c0, c1, c2, c3, hsl, hfit⟩ := HV.out.getObj hlt
      obtain ⟨b1, c1', rfl, -, -, -, -⟩ := hsl
      have c0 := c0.cell m2
      have c1 := c1.cell m2
      have c2 := c2.cell m2
      have c3 := c3.cell m2
      have hlen : (lens os).length = os.length := by simp [lens]
      have hbd := wordsM_bound ((lens os).take k) (fun n hn => by
        obtain ⟨o, ho, rfl⟩ := List.mem_map.1 (List.mem_of_mem_take hn)
        have := HB.out o ho
        omega)
      have hbk := HB.out _ (List.getElem_mem hlt)
      have hlen2 : ((lens os).take k).length = k := by rw [List.length_take]; omega
      rw [hlen2] at hbd
      have hsn : wordsM ((lens os).take (k + 1)) = wordsM ((lens os).take k) + (1 + (os[k].slots.length : Int)) := by
        rw [List.take_succ_eq_append_getElem (by omega), wordsM_snoc]
        simp [lens]
      have HSN := Lib.hid hsn; clear hsn
      have HF := Lib.hid hfit; clear hfit
      generalize os[k].slots.length = nk at *
      generalize wordsM ((lens os).take k) = wk at *
      have hkb : (k : Int) * 9000000000001 ≤ 900000000000100000 := by omega
      go_wp2_with fail
      go_roundw
      case rel => exact ⟨k + 1, by omega, by go_num, by rw [HSN.out], (m2.alloc _).drop⟩
      case measure => simp [intOf]; omega
    · have hk' : k = (lens os).length := by simp [lens]; omega
      go_wp2_with fail
      go_ret
      exact ⟨by first | rfl | (rw [hk', List.take_length]; rfl) | (rw [List.take_length]; rfl), m2⟩
section
variable {size half scan : Int} {busy : Bool} {vr : Value} {w0 : World} {H : Hp} {L : List (Nat × Obj)} {w : World}
set_option maxRecDepth 10000 in
set_option maxHeartbeats 1000000 in
theorem used_fr (b : Nat) (vo vn : Value) (os : List ObjM) (hv : SlR encObj H vn os) (hb : ∀ o ∈ os, o.slots.length ≤ 100000) (hl : os.length ≤ 100000) (m : Mem w0 H ((b, HBox TH size half scan busy vo vn vr) :: L) w) :
    Calls Try.prog 54 #[.pointer (some ⟨b, 0, none⟩)] w (Ret w0 H ((b, HBox TH size half scan busy vo vn vr) :: L) (.int .i64 (wordsM (lens os)))) := by
  have HV := Lib.hid hv
  obtain ⟨nb, nc, rfl, _, _, _, _⟩ := hv
  have mu := m
  unfold HBox at mu
  have es := mu.eqs; simp only [EqsL, and_true] at es
  go_enter Try.func54, Try.ntmps54
  go_wp2_with fail
  refine (words_fr _ os HV.out hb hl m).mono ?_
  rintro e w1 ⟨rfl, m1⟩
  go_wp2_with fail
  go_ret
  exact ⟨rfl, m1⟩
set_option maxRecDepth 10000 in
set_option maxHeartbeats 1000000 in
theorem due_no (b : Nat) (ob : Option Addr) (oc : Nat) (vn : Value) (m : Mem w0 H ((b, HBox TH size half scan busy (.slice ob 0 oc) vn vr) :: L) w) :
    Calls Try.prog 55 #[.pointer (some ⟨b, 0, none⟩)] w (Ret w0 H ((b, HBox TH size half scan busy (.slice ob 0 oc) vn vr) :: L) (.int .i64 0)) := by
  have mu := m
  unfold HBox at mu
  have es := mu.eqs; simp only [EqsL, and_true] at es
  go_enter Try.func55, Try.ntmps55
  go_wp2_with fail
  clear es mu
  go_loopw [2, 4, 11] (fun v2 _ v11 wr => v11 = .int .i64 0 ∧ v2 = .int .i64 0 ∧ Mem w0 H ((b, HBox TH size half scan busy (.slice ob 0 oc) vn vr) :: L) wr) (fun _ _ _ _ => 0)
  case atStart => exact ⟨rfl, rfl, m⟩
  case round =>
    obtain ⟨rfl, rfl, m2⟩ := hrel
    go_wp2_with fail
    go_ret
    exact ⟨rfl, m2⟩
set_option maxRecDepth 10000 in
set_option maxHeartbeats 1000000 in
theorem isOldValid_no (b : Nat) (ob : Option Addr) (oc : Nat) (vn : Value) (m : Mem w0 H ((b, HBox TH size half scan busy (.slice ob 0 oc) vn vr) :: L) w) (hs : 0 ≤ size) :
    Calls Try.prog 93 #[.pointer (some ⟨b, 0, none⟩)] w (Ret w0 H ((b, HBox TH size half scan busy (.slice ob 0 oc) vn vr) :: L) (.bool true)) := by
  have m1 := m.alloc (.map #[] 0)
  have m2 := m1.drop
  clear m1
  have HM := Lib.hid m2
  generalize hW : w.alloc (.map #[] 0) = W at *
  have mu := m2
  unfold HBox at mu
  have es := mu.eqs; simp only [EqsL, and_true] at es
  go_enter Try.func93, Try.ntmps93
  go_wp2_with fail
  rw [run_makeMap, hW]
  go_wp2_with fail
  clear es mu
  go_loopw [4, 15] (fun v4 v15 wr => v15 = .int .i64 0 ∧ v4 = .int .i64 0 ∧ Mem w0 H ((b, HBox TH size half scan busy (.slice ob 0 oc) vn vr) :: L) wr) (fun _ _ _ => 0)
  case atStart => exact ⟨rfl, rfl, m2⟩
  case round =>
    obtain ⟨rfl, rfl, m3⟩ := hrel
    have mu := m3
    unfold HBox at mu
    have es := mu.eqs; simp only [EqsL, and_true] at es
    go_wp2_with fail
    go_ret
    exact ⟨by first | rfl | (simp; omega), m3⟩
end
end Go.Proofs.Ythipkmmdjhpklaa
namespace Go.Proofs.Ythipkmmdjhpklaa
set_option linter.unusedVariables false
set_option linter.unusedSimpArgs false
open Go.RowKit

theorem OwnSlots.snoc {rs : List RowM} {os : List ObjM} {Ls L0 : List (Nat × Obj)} {r : RowM} {o : ObjM} (h : OwnSlots rs os Ls) (a : r.kind = o.kind) (b : r.name = o.name) (c : r.n = o.n) (d : o.fit) (e : OwnV r.sv o.slots L0) : OwnSlots (rs ++ [r]) (os ++ [o]) (Ls ++ L0) :=
  h.append (OwnSlots.one a b c d e)
theorem perm_ob1 {α : Type} (y o : α) (L0 Ln Ls L : List α) : (y :: (L0 ++ (o :: (Ln ++ (Ls ++ L))))).Perm (Ln ++ (y :: (L0 ++ (o :: (Ls ++ L))))) := (by classical exact List.perm_iff_count.2 (fun a => by simp only [List.count_append, List.count_cons, List.cons_append, List.nil_append, List.append_assoc]; omega))
theorem perm_ob2 {α : Type} (o : α) (L0 Ln Ls L : List α) : (Ln ++ (L0 ++ (o :: (Ls ++ L)))).Perm (o :: (Ln ++ ((Ls ++ L0) ++ L))) := (by classical exact List.perm_iff_count.2 (fun a => by simp only [List.count_append, List.count_cons, List.cons_append, List.nil_append, List.append_assoc]; omega))
set_option maxRecDepth 10000 in
set_option maxHeartbeats 4000000 in
theorem objects_any (v : Value) (os : List ObjM) {w0 w : World} {H : Hp} {L : List (Nat × Obj)} (hv : SlR encObj H v os) (hb : ∀ o ∈ os, o.slots.length ≤ 100000) (hl : os.length ≤ 100000) (m : Mem w0 H L w) :
    Calls Try.prog 74 #[v] w fun e w' => ∃ nb nc rs Ln Ls, e = .returned (.slice nb rs.length nc) ∧ AccL 48 4 (.slice nb rs.length nc) rs.length (rowCs rs) Ln ∧ OwnSlots rs os Ls ∧ Mem w0 H (Ln ++ (Ls ++ L)) w' := by
  have HV := Lib.hid hv
  have HB := Lib.hid hb; clear hb
  obtain ⟨b, c, rfl, hc1, hc2, _, _⟩ := hv
  have hc2 := size_le_maxLen hc2
  go_enter Try.func74, Try.ntmps74
  go_wp2_with fail
  go_loopw [2, 4, 7] (fun v2 _ v7 wr => ∃ (k : Nat) (nb : Option Addr) (nc : Nat) (rs : List RowM) (Ln Ls : List (Nat × Obj)), k ≤ os.length ∧ v7 = .int .i64 k ∧ v2 = .slice nb k nc ∧ rs.length = k ∧ AccL 48 4 (.slice nb k nc) k (rowCs rs) Ln ∧ OwnSlots rs (os.take k) Ls ∧ Mem w0 H (Ln ++ (Ls ++ L)) wr) (fun _ _ i _ => os.length - (intOf i).toNat)
  case atStart => exact ⟨0, none, 0, [], [], [], Nat.zero_le _, rfl, rfl, rfl, AccL.nil, .nil, m⟩
  case round =>
    obtain ⟨k, nb, nc, rs, Ln, Ls, hk, rfl, rfl, hrk, hn, hs, m2⟩ := hrel
    have HRK := Lib.hid hrk; clear hrk
    by_cases hlt : k < os.length
    · obtain ⟨blk, off, sv, rfl, c0, c1, c2, c3, hsl, hfit⟩ := HV.out.getObj hlt
      have HSL := Lib.hid hsl
      obtain ⟨b1, c1', rfl, -, hc1', -, -⟩ := hsl
      have c0 := c0.cell m2
      have c1 := c1.cell m2
      have c2 := c2.cell m2
      have c3 := c3.cell m2
      have hbk := HB.out _ (List.getElem_mem hlt)
      have htk : os.take (k + 1) = os.take k ++ [os[k]] := List.take_succ_eq_append_getElem hlt
      have HTK := Lib.hid htk; clear htk
      have HF := Lib.hid hfit; clear hfit
      generalize hok : os[k] = o at *
      clear hok
      have hltI : (k : Int) < os.length := by omega
      have m3 := m2.alloc (.cells #[.int .u8 o.kind, .string o.name, .int .i64 o.n, .slice b1 o.slots.length c1'] 48)
      obtain ⟨bn, cn, hnv, hn1, hn2⟩ := hn.shape
      cases hnv
      go_wp2_with fail
      refine (object_any o HF.out _ m3 HSL.out hbk).mono ?_
      rintro e w5 ⟨b5, c5, L0, rfl, hown, m4⟩
      have m5 := (m4.alloc (.cells #[.int .u8 o.kind, .string o.name, .int .i64 o.n, .slice b5 o.slots.length c5] 48)).perm (perm_ob1 _ _ L0 Ln Ls L)
      clear c0 c1 c2 c3 m3 m4
      go_wp2_with (at_builtin; go_must (refine wpList_append_mem (w0 := w0) (H := H) (L := _ :: _) rfl _ _ 28 rfl 48 4 56 (.agg #[.int .u8 0, .string ByteArray.empty, .int .i64 0, .slice none 0 0]) Try.underlying28 (by kernel_rfl) rfl (by decide) (.slice nb k nc) k (rowCs rs) (hn.join m5) rfl (.slice (some ⟨w5.heap.size, 0, none⟩) 1 1) 1 [.int .u8 o.kind, .string o.name, .int .i64 o.n, .slice b5 o.slots.length c5] (Src.loc (e := 48) (hn.join m5).mem (.head _)) rfl rfl (by simp [Value.oneCell']) (by omega) (by unfold maxLen; omega) ?_))
      intro v' w6 hacc
      obtain ⟨b6, c6, rfl, _, _⟩ := hacc.shape
      obtain ⟨Ln3, hn3, m7⟩ := hacc.drop.split
      have m8 := (m7.perm (perm_ob2 _ L0 Ln3 Ls L)).drop
      go_wp2_with fail
      go_roundw
      case rel =>
        refine ⟨k + 1, b6, c6, rs ++ [⟨o.kind, o.name, o.n, .slice b5 o.slots.length c5⟩], Ln3, Ls ++ L0, by omega, by go_num, rfl, by rw [List.length_append, HRK.out]; rfl, ?_, ?_, m8⟩
        · rw [rowCs_append]; exact hn3
        · rw [HTK.out]; exact hs.snoc rfl rfl rfl HF.out hown
      case measure => simp [intOf]; omega
    · have hge : ¬ (k : Int) < os.length := by omega
      go_wp2_with fail
      go_ret
      have hk' : k = os.length := by omega
      rw [hk', List.take_length] at hs
      have hr := HRK.out
      subst hr
      first | exact ⟨nb, nc, rs, rfl, Ln, hn, Ls, hs, m2⟩ | exact ⟨nb, nc, rs, Ln, Ls, rfl, hn, hs, m2⟩
end Go.Proofs.Ythipkmmdjhpklaa
