/- Plain lemmas: an abstract view of memory. 'H' is the part of the heap that nobody writes any more, 'L' lists the blocks that the running calls own; 'Mem' says that a world bears both. No program in sight. -/
import Derived.WalkKit
import Derived.WalkSpells
import Derived.WalkLawsBesides
import Derived.Lib.Hide
namespace Go.Proofs.YtpkcdkbbhiafnaaDoor
set_option linter.unusedVariables false
set_option linter.unusedSimpArgs false
open Go.RowKit

abbrev Hp := Nat → Option Obj
def Hle (H H' : Hp) : Prop := ∀ k o, H k = some o → H' k = some o
theorem Hle.refl (H : Hp) : Hle H H := fun _ _ h => h
theorem Hle.trans {H H' H'' : Hp} (h : Hle H H') (h' : Hle H' H'') : Hle H H'' := fun k o hk => h' k o (h k o hk)

/-- What the heap of a world is above 'H' and beside 'L'. -/
structure Mem (w0 : World) (H : Hp) (L : List (Nat × Obj)) (w : World) : Prop where
  os : w.os = w0.os
  tape : w.tape = w0.tape
  output : w.output = w0.output
  imm : ∀ k o, H k = some o → w.heap[k]? = some o
  loc : ∀ p, p ∈ L → w.heap[p.1]? = some p.2 ∧ H p.1 = none
  nd : (L.map Prod.fst).Nodup

theorem lt_of_heap {w : World} {k : Nat} {o : Obj} (h : w.heap[k]? = some o) : k < w.heap.size := (Array.getElem?_eq_some_iff.1 h).1

section
variable {w0 w w' : World} {H H' : Hp} {L L' : List (Nat × Obj)}

theorem World.heap_alloc_lt' (w : World) (o : Obj) (k : Nat) (h : k < w.heap.size) : (w.alloc o).heap[k]? = w.heap[k]? := Below.heap_alloc w o k h
theorem Mem.start (w : World) : Mem w (fun k => w.heap[k]?) [] w :=
  { os := rfl, tape := rfl, output := rfl, imm := fun _ _ h => h, loc := fun _ h => (by cases h), nd := List.nodup_nil }

/-- At the end: nothing that was there has turned. -/
theorem Mem.below {L : List (Nat × Obj)} (m : Mem w0 H L w) (h : Hle (fun k => w0.heap[k]?) H) : Below w0.heap.size w0 w := by
  refine ⟨m.os, m.tape, m.output, ?_, fun k hk => ?_⟩
  · rcases Nat.eq_zero_or_pos w0.heap.size with h0 | h0
    · omega
    · have hk : w0.heap[w0.heap.size - 1]? = some (w0.heap[w0.heap.size - 1]'(by omega)) := Array.getElem?_eq_getElem (by omega)
      have := lt_of_heap (m.imm _ _ (h _ _ hk))
      omega
  · have hk' : w0.heap[k]? = some (w0.heap[k]'hk) := Array.getElem?_eq_getElem hk
    rw [hk', m.imm _ _ (h _ _ hk')]

theorem Mem.drew (m : Mem w0 H L w) : Mem w0 H L w.drew := ⟨m.os, m.tape, m.output, m.imm, m.loc, m.nd⟩
theorem Mem.drewN (m : Mem w0 H L w) (n : Nat) : Mem w0 H L (w.drewN n) := ⟨m.os, m.tape, m.output, m.imm, m.loc, m.nd⟩

theorem Mem.alloc (m : Mem w0 H L w) (o : Obj) : Mem w0 H ((w.heap.size, o) :: L) (w.alloc o) := by
  have hnew : (w.alloc o).heap[w.heap.size]? = some o := heap_alloc_new w o
  have hold : ∀ k o', w.heap[k]? = some o' → (w.alloc o).heap[k]? = some o' := fun k o' h => by
    rw [World.heap_alloc_lt' w o k (lt_of_heap h)]; exact h
  refine ⟨m.os, m.tape, m.output, fun k o' h => hold _ _ (m.imm k o' h), fun p hp => ?_, ?_⟩
  · cases hp with
    | head =>
      refine ⟨hnew, ?_⟩
      cases hh : H w.heap.size with
      | none => rfl
      | some o' => exact absurd (lt_of_heap (m.imm _ _ hh)) (Nat.lt_irrefl _)
    | tail _ hp => exact ⟨hold _ _ (m.loc p hp).1, (m.loc p hp).2⟩
  · rw [List.map_cons, List.nodup_cons]
    refine ⟨fun hc => ?_, m.nd⟩
    obtain ⟨p, hp, he⟩ := List.mem_map.1 hc
    have := lt_of_heap (m.loc p hp).1
    rw [he] at this
    exact Nat.lt_irrefl _ this

theorem Mem.drop {p : Nat × Obj} (m : Mem w0 H (p :: L) w) : Mem w0 H L w :=
  ⟨m.os, m.tape, m.output, m.imm, fun q hq => m.loc q (.tail _ hq), (List.nodup_cons.1 (by simpa using m.nd)).2⟩

theorem Mem.perm (m : Mem w0 H L w) (hp : L.Perm L') : Mem w0 H L' w :=
  ⟨m.os, m.tape, m.output, m.imm, fun q hq => m.loc q (hp.mem_iff.2 hq), (hp.map Prod.fst).nodup_iff.1 m.nd⟩

/-- A block that nobody writes any more. -/
def Hp.put (H : Hp) (k : Nat) (o : Obj) : Hp := fun j => if j = k then some o else H j
theorem Hp.put_same (H : Hp) (k : Nat) (o : Obj) : (H.put k o) k = some o := if_pos rfl
theorem Hle.put {H : Hp} {k : Nat} (o : Obj) (h : H k = none) : Hle H (H.put k o) := fun j o' hj => by
  unfold Hp.put
  split
  · rename_i e; subst e; rw [h] at hj; cases hj
  · exact hj

theorem Mem.freeze {k : Nat} {o : Obj} (m : Mem w0 H ((k, o) :: L) w) : Mem w0 (H.put k o) L w ∧ Hle H (H.put k o) := by
  have hk := m.loc (k, o) (.head _)
  refine ⟨⟨m.os, m.tape, m.output, fun j o' hj => ?_, fun q hq => ?_, m.drop.nd⟩, Hle.put o hk.2⟩
  · unfold Hp.put at hj
    split at hj
    · rename_i e; subst e; cases hj; exact hk.1
    · exact m.imm _ _ hj
  · refine ⟨(m.loc q (.tail _ hq)).1, ?_⟩
    unfold Hp.put
    rw [if_neg]
    · exact (m.loc q (.tail _ hq)).2
    · intro e
      have hn := (List.nodup_cons.1 (by simpa using m.nd : (k :: L.map Prod.fst).Nodup)).1
      exact hn (List.mem_map.2 ⟨q, hq, e⟩)

/-- A listed block turned into another one. -/
inductive LUpd : List (Nat × Obj) → Nat → Obj → Obj → List (Nat × Obj) → Prop
  | head {k : Nat} {o o' : Obj} {L : List (Nat × Obj)} : LUpd ((k, o) :: L) k o o' ((k, o') :: L)
  | tail {k : Nat} {o o' : Obj} {p : Nat × Obj} {L L' : List (Nat × Obj)} : LUpd L k o o' L' → LUpd (p :: L) k o o' (p :: L')
theorem LUpd.mem {k : Nat} {o o' : Obj} (h : LUpd L k o o' L') : (k, o) ∈ L := by
  induction h with
  | head => exact .head _
  | tail _ ih => exact .tail _ ih
theorem LUpd.keys {k : Nat} {o o' : Obj} (h : LUpd L k o o' L') : L'.map Prod.fst = L.map Prod.fst := by
  induction h with
  | head => rfl
  | tail _ ih => simp [ih]
theorem LUpd.of_mem {k : Nat} {o o' : Obj} (h : LUpd L k o o' L') (hn : (L.map Prod.fst).Nodup) : ∀ p, p ∈ L' → p = (k, o') ∨ (p ∈ L ∧ p.1 ≠ k) := by
  induction h with
  | @head k o o' L =>
    intro p hp
    cases hp with
    | head => exact .inl rfl
    | tail _ hp =>
      refine .inr ⟨.tail _ hp, fun e => ?_⟩
      have hn := (List.nodup_cons.1 (by simpa using hn : (k :: L.map Prod.fst).Nodup)).1
      exact hn (List.mem_map.2 ⟨p, hp, e⟩)
  | @tail k o o' q L L' hu ih =>
    intro p hp
    have hn' := List.nodup_cons.1 (by simpa using hn : (q.1 :: L.map Prod.fst).Nodup)
    cases hp with
    | head =>
      refine .inr ⟨.head _, fun e => hn'.1 (List.mem_map.2 ⟨(k, o), hu.mem, e.symm⟩)⟩
    | tail _ hp =>
      rcases ih hn'.2 p hp with h | ⟨h, h2⟩
      · exact .inl h
      · exact .inr ⟨.tail _ h, h2⟩

theorem Mem.setObj {k : Nat} {o o' : Obj} (m : Mem w0 H L w) (hu : LUpd L k o o' L') (ho : w'.os = w.os) (ht : w'.tape = w.tape) (hp : w'.output = w.output)
    (hk : w'.heap[k]? = some o') (hr : ∀ j, j ≠ k → w'.heap[j]? = w.heap[j]?) : Mem w0 H L' w' := by
  have hkL := m.loc _ hu.mem
  refine ⟨ho.trans m.os, ht.trans m.tape, hp.trans m.output, fun j oj hj => ?_, fun p hp => ?_, by rw [hu.keys]; exact m.nd⟩
  · have hne : j ≠ k := fun e => by rw [e, hkL.2] at hj; cases hj
    rw [hr j hne]; exact m.imm j oj hj
  · rcases hu.of_mem m.nd p hp with rfl | ⟨hpL, hne⟩
    · exact ⟨hk, hkL.2⟩
    · exact ⟨by rw [hr _ hne]; exact (m.loc p hpL).1, (m.loc p hpL).2⟩

theorem heap_setCell_at (w : World) (b i : Nat) (v : Value) {c : Array Value} {t : TypeId} {f : Nat × Nat} (h : w.heap[b]? = some (.cells c t f)) :
    (w.setCell ⟨b, i, none⟩ v).heap[b]? = some (.cells (c.setIfInBounds i v) t f) := by
  simp [World.setCell, Array.getElem?_modify, h]

theorem Mem.set {b i : Nat} {v : Value} {c : Array Value} {t : TypeId} {f : Nat × Nat} (m : Mem w0 H L w) (hu : LUpd L b (.cells c t f) (.cells (c.setIfInBounds i v) t f) L') :
    Mem w0 H L' (w.setCell ⟨b, i, none⟩ v) :=
  m.setObj hu rfl rfl rfl (heap_setCell_at w b i v (m.loc _ hu.mem).1) fun j hj => Below.heap_setCell w _ _ j hj

/-- What the walk wants of the listed blocks, as rewriting rules. -/
def EqsL (w : World) : List (Nat × Obj) → Prop
  | [] => True
  | (b, .cells c _ (0, 0)) :: L => (b < w.heap.size ∧ (∀ i, w.cell? ⟨b, i, none⟩ = c[i]?) ∧ (∀ i, w.frozen? ⟨b, i, none⟩ = false)) ∧ EqsL w L
  | _ :: L => EqsL w L
theorem cell_of_heap {w : World} {b : Nat} {c : Array Value} {t : TypeId} {f : Nat × Nat} (h : w.heap[b]? = some (.cells c t f)) (i : Nat) : w.cell? ⟨b, i, none⟩ = c[i]? := by
  simp [World.cell?, h]
theorem frozen_of_heap {w : World} {b : Nat} {c : Array Value} {t : TypeId} (h : w.heap[b]? = some (.cells c t (0, 0))) (i : Nat) : w.frozen? ⟨b, i, none⟩ = false := by
  simp [World.frozen?, h]
theorem eqsL_of (h : ∀ p, p ∈ L → w.heap[p.1]? = some p.2) : EqsL w L := by
  induction L with
  | nil => trivial
  | cons p L ih =>
    have ihL := ih fun q hq => h q (.tail _ hq)
    obtain ⟨b, o⟩ := p
    have hb := h (b, o) (.head _)
    unfold EqsL
    split
    · rename_i heq; cases heq
    · rename_i heq
      simp only [List.cons.injEq, Prod.mk.injEq] at heq
      obtain ⟨⟨rfl, rfl⟩, rfl⟩ := heq
      exact ⟨⟨lt_of_heap hb, cell_of_heap hb, frozen_of_heap hb⟩, ihL⟩
    · rename_i heq
      simp only [List.cons.injEq] at heq
      obtain ⟨rfl, rfl⟩ := heq
      exact ihL
theorem Mem.eqs (m : Mem w0 H L w) : EqsL w L := eqsL_of fun p hp => (m.loc p hp).1

/-- The listed blocks are different ones, as rewriting rules. -/
def NeFrom (b : Nat) : List (Nat × Obj) → Prop
  | [] => True
  | (b', _) :: L => (b ≠ b' ∧ b' ≠ b) ∧ NeFrom b L
def NeL : List (Nat × Obj) → Prop
  | [] => True
  | (b, _) :: L => NeFrom b L ∧ NeL L
theorem neFrom_of {b : Nat} : ∀ L : List (Nat × Obj), b ∉ L.map Prod.fst → NeFrom b L
  | [], _ => trivial
  | (b', o) :: L, h => by
    rw [List.map_cons, List.mem_cons, not_or] at h
    exact ⟨⟨h.1, fun e => h.1 e.symm⟩, neFrom_of L h.2⟩
theorem neL_of : ∀ L : List (Nat × Obj), (L.map Prod.fst).Nodup → NeL L
  | [], _ => trivial
  | (b, o) :: L, h => by
    rw [List.map_cons, List.nodup_cons] at h
    exact ⟨neFrom_of L h.1, neL_of L h.2⟩
theorem Mem.nes (m : Mem w0 H L w) : NeL L := neL_of L m.nd

/-! ### What lies in the part that nobody writes -/
def CellH (H : Hp) (b i : Nat) (v : Value) : Prop := ∃ c t f, H b = some (.cells c t f) ∧ c[i]? = some v
theorem CellH.mono {b i : Nat} {v : Value} (h : CellH H b i v) (hl : Hle H H') : CellH H' b i v := by
  obtain ⟨c, t, f, h1, h2⟩ := h
  exact ⟨c, t, f, hl _ _ h1, h2⟩
theorem CellH.cell {b i : Nat} {v : Value} (h : CellH H b i v) (m : Mem w0 H L w) : w.cell? ⟨b, i, none⟩ = some v := by
  obtain ⟨c, t, f, h1, h2⟩ := h
  rw [cell_of_heap (m.imm _ _ h1), h2]
theorem CellH.lt {b i : Nat} {v : Value} (h : CellH H b i v) (m : Mem w0 H L w) : b < w.heap.size := by
  obtain ⟨c, t, f, h1, h2⟩ := h
  exact lt_of_heap (m.imm _ _ h1)
theorem CellH.of_world {w : World} {b i : Nat} {v : Value} (h : w.cell? ⟨b, i, none⟩ = some v) : CellH (fun k => w.heap[k]?) b i v := by
  unfold World.cell? at h
  simp only [Option.isSome_none, Bool.false_eq_true, if_false] at h
  split at h
  · rename_i c t f hc; exact ⟨c, t, f, hc, h⟩
  · cases h

/-- One element of a slice: how many cells, and which. -/
structure Enc (α : Type) where
  size : Nat
  rep : Hp → List Value → α → Prop
  mono : ∀ {H H' : Hp} {cs : List Value} {x : α}, Hle H H' → rep H cs x → rep H' cs x
  len : ∀ {H : Hp} {cs : List Value} {x : α}, rep H cs x → cs.length = size

def SlR {α : Type} (E : Enc α) (H : Hp) (v : Value) (xs : List α) : Prop :=
  ∃ b c, v = .slice b xs.length c ∧ xs.length ≤ c ∧ c ≤ maxLen ∧ (b = none → c = 0) ∧
    ∀ i, (h : i < xs.length) → ∃ blk off cs, b = some ⟨blk, off, none⟩ ∧ E.rep H cs xs[i] ∧ ∀ j u, cs[j]? = some u → CellH H blk (off + i * E.size + j) u
theorem SlR.mono {α : Type} {E : Enc α} {v : Value} {xs : List α} (h : SlR E H v xs) (hl : Hle H H') : SlR E H' v xs := by
  obtain ⟨b, c, hv, h1, h2, h3, hc⟩ := h
  refine ⟨b, c, hv, h1, h2, h3, fun i hi => ?_⟩
  obtain ⟨blk, off, cs, e1, e2, e3⟩ := hc i hi
  exact ⟨blk, off, cs, e1, E.mono hl e2, fun j u hj => (e3 j u hj).mono hl⟩
theorem SlR.nil {α : Type} (E : Enc α) (H : Hp) : SlR E H (.slice none 0 0) [] :=
  ⟨none, 0, rfl, Nat.le_refl _, by simp [maxLen], fun _ => rfl, fun i hi => absurd hi (Nat.not_lt_zero _)⟩

/-- One cell; p: what is known of the element. -/
def encV {α : Type} (f : α → Value) (p : α → Prop) : Enc α := ⟨1, fun _ cs x => cs = [f x] ∧ p x, fun _ h => h, fun h => by rw [h.1]; rfl⟩
def I64 (n : Int) : Prop := -9223372036854775808 ≤ n ∧ n ≤ 9223372036854775807
def encInt : Enc Int := encV (Value.int .i64) I64
def encStr : Enc ByteArray := encV Value.string (fun s => s.size ≤ maxLen)
def encSl {α : Type} (E : Enc α) : Enc (List α) := ⟨1, fun H cs x => ∃ v, cs = [v] ∧ SlR E H v x, fun hl ⟨v, h1, h2⟩ => ⟨v, h1, h2.mono hl⟩, fun ⟨v, h1, _⟩ => by rw [h1]; rfl⟩
def Enc.prod {α β : Type} (A : Enc α) (B : Enc β) : Enc (α × β) :=
  ⟨A.size + B.size, fun H cs x => ∃ c1 c2, cs = c1 ++ c2 ∧ A.rep H c1 x.1 ∧ B.rep H c2 x.2, fun hl ⟨c1, c2, h1, h3, h4⟩ => ⟨c1, c2, h1, A.mono hl h3, B.mono hl h4⟩,
    fun ⟨c1, c2, h1, h3, h4⟩ => by rw [h1, List.length_append, A.len h3, B.len h4]⟩
def Enc.as {α β : Type} (A : Enc α) (f : β → α) : Enc β := ⟨A.size, fun H cs x => A.rep H cs (f x), fun hl h => A.mono hl h, fun h => A.len h⟩

/-- One-cell elements: the cell itself. -/
theorem SlR.cellV {α : Type} {f : α → Value} {p : α → Prop} {b : Option Addr} {n c : Nat} {xs : List α} (h : SlR (encV f p) H (.slice b n c) xs) {i : Nat} (hi : i < xs.length) :
    ∃ blk off, b = some ⟨blk, off, none⟩ ∧ CellH H blk (off + i) (f xs[i]) ∧ p xs[i] := by
  obtain ⟨b', c', hv, _, _, _, hc⟩ := h
  cases hv
  obtain ⟨blk, off, cs, e1, e2, e3⟩ := hc i hi
  have e2' : cs = [f xs[i]] ∧ p xs[i] := e2
  obtain ⟨e2', e4⟩ := e2'
  subst e2'
  refine ⟨blk, off, e1, ?_, e4⟩
  have := e3 0 _ rfl
  simpa [encV] using this
theorem SlR.all {α : Type} {f : α → Value} {p : α → Prop} {v : Value} {xs : List α} (h : SlR (encV f p) H v xs) : ∀ x ∈ xs, p x := by
  obtain ⟨b', c', hv, _, _, _, hc⟩ := h
  intro x hx
  obtain ⟨i, hi, rfl⟩ := List.mem_iff_getElem.1 hx
  obtain ⟨blk, off, cs, e1, e2, e3⟩ := hc i hi
  exact e2.2
end
/-- Hides a fact from the walk, under the fact's own name in later use. -/
theorem hideIt {p : Prop} (h : p) : Hid p := h
end Go.Proofs.YtpkcdkbbhiafnaaDoor
