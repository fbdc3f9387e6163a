/- Plain lemmas: an abstract view of memory. 'H' is the part of the heap that nobody writes any more, 'L' lists the blocks that the running calls own; 'Mem' says that a world bears both. No program in sight. Plain lemmas: a slice that a call makes by append: 'MemAcc', with its law at append; what it reads as when it is done. No program in sight. Plain law: what chapter 24's gate computes, as functions on lists and integers. No program in sight. A law for a region that draws its order: loads come first where every operation ahead of number n keeps what they read, and those from n on wait for them; what looks at no memory comes first anywhere. No program in sight. A region that draws its order: a load comes first, too, where what is carried out from number n on waits for it by way of others. No program in sight. A region that draws its order: an operation that is not wanted. No program in sight. A region that draws its order, as in RegionF and RegionG; which operations may break S is said by p (and need not be the last ones). No program in sight. Plain law: what chapter 15's heap is: values, objects, heaps, as lists and integers; how they lie in memory. No program in sight. -/
import Derived.WalkKit
import Derived.WalkSpells
import Derived.WalkLawsBesides
import Derived.Lib.Hide
import Derived.Deep.RegionHeld3
namespace Go.Proofs.Ythipkmmdjhpklaa
set_option linter.unusedVariables false
set_option linter.unusedSimpArgs false
open Go.RowKit

abbrev Hp := Nat → Option Obj
def Hle (H H' : Hp) : Prop := ∀ k o, H k = some o → H' k = some o
theorem Hle.refl (H : Hp) : Hle H H := fun _ _ h => h
theorem Hle.trans {H H' H'' : Hp} (h : Hle H H') (h' : Hle H' H'') : Hle H H'' := fun k o hk => h' k o (h k o hk)

/-- What the heap of a world is above 'H' and beside 'L'. -/
structure Mem (w0 : World) (H : Hp) (L : List (Nat × Obj)) (w : World) : Prop where
  os : w.os = w0.os
  tape : w.tape = w0.tape
  output : w.output = w0.output
  imm : ∀ k o, H k = some o → w.heap[k]? = some o
  loc : ∀ p, p ∈ L → w.heap[p.1]? = some p.2 ∧ H p.1 = none
  nd : (L.map Prod.fst).Nodup

theorem lt_of_heap {w : World} {k : Nat} {o : Obj} (h : w.heap[k]? = some o) : k < w.heap.size := (Array.getElem?_eq_some_iff.1 h).1

section
variable {w0 w w' : World} {H H' : Hp} {L L' : List (Nat × Obj)}

theorem World.heap_alloc_lt' (w : World) (o : Obj) (k : Nat) (h : k < w.heap.size) : (w.alloc o).heap[k]? = w.heap[k]? := Below.heap_alloc w o k h
theorem Mem.start (w : World) : Mem w (fun k => w.heap[k]?) [] w :=
  { os := rfl, tape := rfl, output := rfl, imm := fun _ _ h => h, loc := fun _ h => (by cases h), nd := List.nodup_nil }

/-- At the end: nothing that was there has turned. -/
theorem Mem.below {L : List (Nat × Obj)} (m : Mem w0 H L w) (h : Hle (fun k => w0.heap[k]?) H) : Below w0.heap.size w0 w := by
  refine ⟨m.os, m.tape, m.output, ?_, fun k hk => ?_⟩
  · rcases Nat.eq_zero_or_pos w0.heap.size with h0 | h0
    · omega
    · have hk : w0.heap[w0.heap.size - 1]? = some (w0.heap[w0.heap.size - 1]'(by omega)) := Array.getElem?_eq_getElem (by omega)
      have := lt_of_heap (m.imm _ _ (h _ _ hk))
      omega
  · have hk' : w0.heap[k]? = some (w0.heap[k]'hk) := Array.getElem?_eq_getElem hk
    rw [hk', m.imm _ _ (h _ _ hk')]

theorem Mem.drew (m : Mem w0 H L w) : Mem w0 H L w.drew := ⟨m.os, m.tape, m.output, m.imm, m.loc, m.nd⟩
theorem Mem.drewN (m : Mem w0 H L w) (n : Nat) : Mem w0 H L (w.drewN n) := ⟨m.os, m.tape, m.output, m.imm, m.loc, m.nd⟩

theorem Mem.alloc (m : Mem w0 H L w) (o : Obj) : Mem w0 H ((w.heap.size, o) :: L) (w.alloc o) := by
  have hnew : (w.alloc o).heap[w.heap.size]? = some o := heap_alloc_new w o
  have hold : ∀ k o', w.heap[k]? = some o' → (w.alloc o).heap[k]? = some o' := fun k o' h => by
    rw [World.heap_alloc_lt' w o k (lt_of_heap h)]; exact h
  refine ⟨m.os, m.tape, m.output, fun k o' h => hold _ _ (m.imm k o' h), fun p hp => ?_, ?_⟩
  · cases hp with
    | head =>
      refine ⟨hnew, ?_⟩
      cases hh : H w.heap.size with
      | none => rfl
      | some o' => exact absurd (lt_of_heap (m.imm _ _ hh)) (Nat.lt_irrefl _)
    | tail _ hp => exact ⟨hold _ _ (m.loc p hp).1, (m.loc p hp).2⟩
  · rw [List.map_cons, List.nodup_cons]
    refine ⟨fun hc => ?_, m.nd⟩
    obtain ⟨p, hp, he⟩ := List.mem_map.1 hc
    have := lt_of_heap (m.loc p hp).1
    rw [he] at this
    exact Nat.lt_irrefl _ this

theorem Mem.drop {p : Nat × Obj} (m : Mem w0 H (p :: L) w) : Mem w0 H L w :=
  ⟨m.os, m.tape, m.output, m.imm, fun q hq => m.loc q (.tail _ hq), (List.nodup_cons.1 (by simpa using m.nd)).2⟩

theorem Mem.perm (m : Mem w0 H L w) (hp : L.Perm L') : Mem w0 H L' w :=
  ⟨m.os, m.tape, m.output, m.imm, fun q hq => m.loc q (hp.mem_iff.2 hq), (hp.map Prod.fst).nodup_iff.1 m.nd⟩

/-- A block that nobody writes any more. -/
def Hp.put (H : Hp) (k : Nat) (o : Obj) : Hp := fun j => if j = k then some o else H j
theorem Hp.put_same (H : Hp) (k : Nat) (o : Obj) : (H.put k o) k = some o := if_pos rfl
theorem Hle.put {H : Hp} {k : Nat} (o : Obj) (h : H k = none) : Hle H (H.put k o) := fun j o' hj => by
  unfold Hp.put
  split
  · rename_i e; subst e; rw [h] at hj; cases hj
  · exact hj

theorem Mem.freeze {k : Nat} {o : Obj} (m : Mem w0 H ((k, o) :: L) w) : Mem w0 (H.put k o) L w ∧ Hle H (H.put k o) := by
  have hk := m.loc (k, o) (.head _)
  refine ⟨⟨m.os, m.tape, m.output, fun j o' hj => ?_, fun q hq => ?_, m.drop.nd⟩, Hle.put o hk.2⟩
  · unfold Hp.put at hj
    split at hj
    · rename_i e; subst e; cases hj; exact hk.1
    · exact m.imm _ _ hj
  · refine ⟨(m.loc q (.tail _ hq)).1, ?_⟩
    unfold Hp.put
    rw [if_neg]
    · exact (m.loc q (.tail _ hq)).2
    · intro e
      have hn := (List.nodup_cons.1 (by simpa using m.nd : (k :: L.map Prod.fst).Nodup)).1
      exact hn (List.mem_map.2 ⟨q, hq, e⟩)

/-- A listed block turned into another one. -/
inductive LUpd : List (Nat × Obj) → Nat → Obj → Obj → List (Nat × Obj) → Prop
  | head {k : Nat} {o o' : Obj} {L : List (Nat × Obj)} : LUpd ((k, o) :: L) k o o' ((k, o') :: L)
  | tail {k : Nat} {o o' : Obj} {p : Nat × Obj} {L L' : List (Nat × Obj)} : LUpd L k o o' L' → LUpd (p :: L) k o o' (p :: L')
theorem LUpd.mem {k : Nat} {o o' : Obj} (h : LUpd L k o o' L') : (k, o) ∈ L := by
  induction h with
  | head => exact .head _
  | tail _ ih => exact .tail _ ih
theorem LUpd.keys {k : Nat} {o o' : Obj} (h : LUpd L k o o' L') : L'.map Prod.fst = L.map Prod.fst := by
  induction h with
  | head => rfl
  | tail _ ih => simp [ih]
theorem LUpd.of_mem {k : Nat} {o o' : Obj} (h : LUpd L k o o' L') (hn : (L.map Prod.fst).Nodup) : ∀ p, p ∈ L' → p = (k, o') ∨ (p ∈ L ∧ p.1 ≠ k) := by
  induction h with
  | @head k o o' L =>
    intro p hp
    cases hp with
    | head => exact .inl rfl
    | tail _ hp =>
      refine .inr ⟨.tail _ hp, fun e => ?_⟩
      have hn := (List.nodup_cons.1 (by simpa using hn : (k :: L.map Prod.fst).Nodup)).1
      exact hn (List.mem_map.2 ⟨p, hp, e⟩)
  | @tail k o o' q L L' hu ih =>
    intro p hp
    have hn' := List.nodup_cons.1 (by simpa using hn : (q.1 :: L.map Prod.fst).Nodup)
    cases hp with
    | head =>
      refine .inr ⟨.head _, fun e => hn'.1 (List.mem_map.2 ⟨(k, o), hu.mem, e.symm⟩)⟩
    | tail _ hp =>
      rcases ih hn'.2 p hp with h | ⟨h, h2⟩
      · exact .inl h
      · exact .inr ⟨.tail _ h, h2⟩

theorem Mem.setObj {k : Nat} {o o' : Obj} (m : Mem w0 H L w) (hu : LUpd L k o o' L') (ho : w'.os = w.os) (ht : w'.tape = w.tape) (hp : w'.output = w.output)
    (hk : w'.heap[k]? = some o') (hr : ∀ j, j ≠ k → w'.heap[j]? = w.heap[j]?) : Mem w0 H L' w' := by
  have hkL := m.loc _ hu.mem
  refine ⟨ho.trans m.os, ht.trans m.tape, hp.trans m.output, fun j oj hj => ?_, fun p hp => ?_, by rw [hu.keys]; exact m.nd⟩
  · have hne : j ≠ k := fun e => by rw [e, hkL.2] at hj; cases hj
    rw [hr j hne]; exact m.imm j oj hj
  · rcases hu.of_mem m.nd p hp with rfl | ⟨hpL, hne⟩
    · exact ⟨hk, hkL.2⟩
    · exact ⟨by rw [hr _ hne]; exact (m.loc p hpL).1, (m.loc p hpL).2⟩

theorem heap_setCell_at (w : World) (b i : Nat) (v : Value) {c : Array Value} {t : TypeId} {f : Nat × Nat} (h : w.heap[b]? = some (.cells c t f)) :
    (w.setCell ⟨b, i, none⟩ v).heap[b]? = some (.cells (c.setIfInBounds i v) t f) := by
  simp [World.setCell, Array.getElem?_modify, h]

theorem Mem.set {b i : Nat} {v : Value} {c : Array Value} {t : TypeId} {f : Nat × Nat} (m : Mem w0 H L w) (hu : LUpd L b (.cells c t f) (.cells (c.setIfInBounds i v) t f) L') :
    Mem w0 H L' (w.setCell ⟨b, i, none⟩ v) :=
  m.setObj hu rfl rfl rfl (heap_setCell_at w b i v (m.loc _ hu.mem).1) fun j hj => Below.heap_setCell w _ _ j hj

/-- What the walk wants of the listed blocks, as rewriting rules. -/
def EqsL (w : World) : List (Nat × Obj) → Prop
  | [] => True
  | (b, .cells c _ (0, 0)) :: L => (b < w.heap.size ∧ (∀ i, w.cell? ⟨b, i, none⟩ = c[i]?) ∧ (∀ i, w.frozen? ⟨b, i, none⟩ = false)) ∧ EqsL w L
  | _ :: L => EqsL w L
theorem cell_of_heap {w : World} {b : Nat} {c : Array Value} {t : TypeId} {f : Nat × Nat} (h : w.heap[b]? = some (.cells c t f)) (i : Nat) : w.cell? ⟨b, i, none⟩ = c[i]? := by
  simp [World.cell?, h]
theorem frozen_of_heap {w : World} {b : Nat} {c : Array Value} {t : TypeId} (h : w.heap[b]? = some (.cells c t (0, 0))) (i : Nat) : w.frozen? ⟨b, i, none⟩ = false := by
  simp [World.frozen?, h]
theorem eqsL_of (h : ∀ p, p ∈ L → w.heap[p.1]? = some p.2) : EqsL w L := by
  induction L with
  | nil => trivial
  | cons p L ih =>
    have ihL := ih fun q hq => h q (.tail _ hq)
    obtain ⟨b, o⟩ := p
    have hb := h (b, o) (.head _)
    unfold EqsL
    split
    · rename_i heq; cases heq
    · rename_i heq
      simp only [List.cons.injEq, Prod.mk.injEq] at heq
      obtain ⟨⟨rfl, rfl⟩, rfl⟩ := heq
      exact ⟨⟨lt_of_heap hb, cell_of_heap hb, frozen_of_heap hb⟩, ihL⟩
    · rename_i heq
      simp only [List.cons.injEq] at heq
      obtain ⟨rfl, rfl⟩ := heq
      exact ihL
theorem Mem.eqs (m : Mem w0 H L w) : EqsL w L := eqsL_of fun p hp => (m.loc p hp).1

/-- The listed blocks are different ones, as rewriting rules. -/
def NeFrom (b : Nat) : List (Nat × Obj) → Prop
  | [] => True
  | (b', _) :: L => (b ≠ b' ∧ b' ≠ b) ∧ NeFrom b L
def NeL : List (Nat × Obj) → Prop
  | [] => True
  | (b, _) :: L => NeFrom b L ∧ NeL L
theorem neFrom_of {b : Nat} : ∀ L : List (Nat × Obj), b ∉ L.map Prod.fst → NeFrom b L
  | [], _ => trivial
  | (b', o) :: L, h => by
    rw [List.map_cons, List.mem_cons, not_or] at h
    exact ⟨⟨h.1, fun e => h.1 e.symm⟩, neFrom_of L h.2⟩
theorem neL_of : ∀ L : List (Nat × Obj), (L.map Prod.fst).Nodup → NeL L
  | [], _ => trivial
  | (b, o) :: L, h => by
    rw [List.map_cons, List.nodup_cons] at h
    exact ⟨neFrom_of L h.1, neL_of L h.2⟩
theorem Mem.nes (m : Mem w0 H L w) : NeL L := neL_of L m.nd

/-! ### What lies in the part that nobody writes -/
def CellH (H : Hp) (b i : Nat) (v : Value) : Prop := ∃ c t f, H b = some (.cells c t f) ∧ c[i]? = some v
theorem CellH.mono {b i : Nat} {v : Value} (h : CellH H b i v) (hl : Hle H H') : CellH H' b i v := by
  obtain ⟨c, t, f, h1, h2⟩ := h
  exact ⟨c, t, f, hl _ _ h1, h2⟩
theorem CellH.cell {b i : Nat} {v : Value} (h : CellH H b i v) (m : Mem w0 H L w) : w.cell? ⟨b, i, none⟩ = some v := by
  obtain ⟨c, t, f, h1, h2⟩ := h
  rw [cell_of_heap (m.imm _ _ h1), h2]
theorem CellH.lt {b i : Nat} {v : Value} (h : CellH H b i v) (m : Mem w0 H L w) : b < w.heap.size := by
  obtain ⟨c, t, f, h1, h2⟩ := h
  exact lt_of_heap (m.imm _ _ h1)
theorem CellH.of_world {w : World} {b i : Nat} {v : Value} (h : w.cell? ⟨b, i, none⟩ = some v) : CellH (fun k => w.heap[k]?) b i v := by
  unfold World.cell? at h
  simp only [Option.isSome_none, Bool.false_eq_true, if_false] at h
  split at h
  · rename_i c t f hc; exact ⟨c, t, f, hc, h⟩
  · cases h

/-- One element of a slice: how many cells, and which. -/
structure Enc (α : Type) where
  size : Nat
  rep : Hp → List Value → α → Prop
  mono : ∀ {H H' : Hp} {cs : List Value} {x : α}, Hle H H' → rep H cs x → rep H' cs x
  len : ∀ {H : Hp} {cs : List Value} {x : α}, rep H cs x → cs.length = size

def SlR {α : Type} (E : Enc α) (H : Hp) (v : Value) (xs : List α) : Prop :=
  ∃ b c, v = .slice b xs.length c ∧ xs.length ≤ c ∧ c ≤ maxLen ∧ (b = none → c = 0) ∧
    ∀ i, (h : i < xs.length) → ∃ blk off cs, b = some ⟨blk, off, none⟩ ∧ E.rep H cs xs[i] ∧ ∀ j u, cs[j]? = some u → CellH H blk (off + i * E.size + j) u
theorem SlR.mono {α : Type} {E : Enc α} {v : Value} {xs : List α} (h : SlR E H v xs) (hl : Hle H H') : SlR E H' v xs := by
  obtain ⟨b, c, hv, h1, h2, h3, hc⟩ := h
  refine ⟨b, c, hv, h1, h2, h3, fun i hi => ?_⟩
  obtain ⟨blk, off, cs, e1, e2, e3⟩ := hc i hi
  exact ⟨blk, off, cs, e1, E.mono hl e2, fun j u hj => (e3 j u hj).mono hl⟩
theorem SlR.nil {α : Type} (E : Enc α) (H : Hp) : SlR E H (.slice none 0 0) [] :=
  ⟨none, 0, rfl, Nat.le_refl _, by simp [maxLen], fun _ => rfl, fun i hi => absurd hi (Nat.not_lt_zero _)⟩

/-- One cell; p: what is known of the element. -/
def encV {α : Type} (f : α → Value) (p : α → Prop) : Enc α := ⟨1, fun _ cs x => cs = [f x] ∧ p x, fun _ h => h, fun h => by rw [h.1]; rfl⟩
def I64 (n : Int) : Prop := -9223372036854775808 ≤ n ∧ n ≤ 9223372036854775807
def encInt : Enc Int := encV (Value.int .i64) I64
def encStr : Enc ByteArray := encV Value.string (fun s => s.size ≤ maxLen)
def encSl {α : Type} (E : Enc α) : Enc (List α) := ⟨1, fun H cs x => ∃ v, cs = [v] ∧ SlR E H v x, fun hl ⟨v, h1, h2⟩ => ⟨v, h1, h2.mono hl⟩, fun ⟨v, h1, _⟩ => by rw [h1]; rfl⟩
def Enc.prod {α β : Type} (A : Enc α) (B : Enc β) : Enc (α × β) :=
  ⟨A.size + B.size, fun H cs x => ∃ c1 c2, cs = c1 ++ c2 ∧ A.rep H c1 x.1 ∧ B.rep H c2 x.2, fun hl ⟨c1, c2, h1, h3, h4⟩ => ⟨c1, c2, h1, A.mono hl h3, B.mono hl h4⟩,
    fun ⟨c1, c2, h1, h3, h4⟩ => by rw [h1, List.length_append, A.len h3, B.len h4]⟩
def Enc.as {α β : Type} (A : Enc α) (f : β → α) : Enc β := ⟨A.size, fun H cs x => A.rep H cs (f x), fun hl h => A.mono hl h, fun h => A.len h⟩

/-- One-cell elements: the cell itself. -/
theorem SlR.cellV {α : Type} {f : α → Value} {p : α → Prop} {b : Option Addr} {n c : Nat} {xs : List α} (h : SlR (encV f p) H (.slice b n c) xs) {i : Nat} (hi : i < xs.length) :
    ∃ blk off, b = some ⟨blk, off, none⟩ ∧ CellH H blk (off + i) (f xs[i]) ∧ p xs[i] := by
  obtain ⟨b', c', hv, _, _, _, hc⟩ := h
  cases hv
  obtain ⟨blk, off, cs, e1, e2, e3⟩ := hc i hi
  have e2' : cs = [f xs[i]] ∧ p xs[i] := e2
  obtain ⟨e2', e4⟩ := e2'
  subst e2'
  refine ⟨blk, off, e1, ?_, e4⟩
  have := e3 0 _ rfl
  simpa [encV] using this
theorem SlR.all {α : Type} {f : α → Value} {p : α → Prop} {v : Value} {xs : List α} (h : SlR (encV f p) H v xs) : ∀ x ∈ xs, p x := by
  obtain ⟨b', c', hv, _, _, _, hc⟩ := h
  intro x hx
  obtain ⟨i, hi, rfl⟩ := List.mem_iff_getElem.1 hx
  obtain ⟨blk, off, cs, e1, e2, e3⟩ := hc i hi
  exact e2.2
end
/-- Hides a fact from the walk, under the fact's own name in later use. -/
theorem hideIt {p : Prop} (h : p) : Hid p := h
end Go.Proofs.Ythipkmmdjhpklaa
namespace Go.Proofs.Ythipkmmdjhpklaa
set_option linter.unusedVariables false
set_option linter.unusedSimpArgs false
open Go.RowKit

/-- The call owns the slice 'v' of n elements ('size' cells each) whose cells are 'xs', beside L. -/
def MemAcc (w0 : World) (H : Hp) (L : List (Nat × Obj)) (e : TypeId) (size : Nat) (v : Value) (n : Nat) (xs : List Value) (w : World) : Prop :=
  xs.length = n * size ∧
  ((v = .slice none 0 0 ∧ n = 0 ∧ Mem w0 H L w) ∨
   ∃ g cap cur, v = .slice (some ⟨g, 0, none⟩) n cap ∧ n ≤ cap ∧ cap ≤ maxLen ∧ cur.size = cap * size ∧ cur.toList.take (n * size) = xs ∧ Mem w0 H ((g, .cells cur e (0, 0)) :: L) w)

/-- What is appended. -/
def Src (w : World) (x : Value) (m : Nat) (news : List Value) : Prop :=
  (x = .slice none 0 0 ∧ m = 0 ∧ news = []) ∨ ∃ a c, x = .slice (some a) m c ∧ ∀ j u, news[j]? = some u → w.cell? (a.add j) = some u

section
variable {w0 w w' : World} {H H' : Hp} {L L' : List (Nat × Obj)} {e : TypeId} {size : Nat} {v : Value} {n : Nat} {xs : List Value}

theorem MemAcc.nil (m : Mem w0 H L w) : MemAcc w0 H L e size (.slice none 0 0) 0 [] w := ⟨by simp, .inl ⟨rfl, rfl, m⟩⟩
theorem MemAcc.row {g cap : Nat} {cur : Array Value} (m : Mem w0 H ((g, .cells cur e (0, 0)) :: L) w) (hn : n ≤ cap) (hc : cap ≤ maxLen) (hs : cur.size = cap * size) (hx : cur.toList.take (n * size) = xs) :
    MemAcc w0 H L e size (.slice (some ⟨g, 0, none⟩) n cap) n xs w := by
  refine ⟨?_, .inr ⟨g, cap, cur, rfl, hn, hc, hs, hx, m⟩⟩
  rw [← hx, List.length_take, Array.length_toList, hs]
  exact Nat.min_eq_left (Nat.mul_le_mul_right _ hn)
theorem MemAcc.mem (h : MemAcc w0 H L e size v n xs w) : Mem w0 H L w := by
  rcases h.2 with ⟨_, _, m⟩ | ⟨g, cap, cur, _, _, _, _, _, m⟩
  · exact m
  · exact m.drop
theorem MemAcc.map (h : MemAcc w0 H L e size v n xs w) (f : ∀ L0, Mem w0 H (L0 ++ L) w → Mem w0 H' (L0 ++ L') w') : MemAcc w0 H' L' e size v n xs w' := by
  refine ⟨h.1, ?_⟩
  rcases h.2 with ⟨h1, h2, m⟩ | ⟨g, cap, cur, h1, h2, h3, h4, h5, m⟩
  · exact .inl ⟨h1, h2, f [] m⟩
  · exact .inr ⟨g, cap, cur, h1, h2, h3, h4, h5, f [_] m⟩
/-- The owned blocks as one more list, the block p ahead of it; and back. -/
theorem MemAcc.opened {p : Nat × Obj} (h : MemAcc w0 H (p :: L) e size v n xs w) :
    ∃ L0, Mem w0 H (p :: (L0 ++ L)) w ∧ ∀ (H' : Hp) (p' : Nat × Obj) (L' : List (Nat × Obj)) (w' : World), Mem w0 H' (p' :: (L0 ++ L')) w' → MemAcc w0 H' (p' :: L') e size v n xs w' := by
  rcases h.2 with ⟨h1, h2, m⟩ | ⟨g, cap, cur, h1, h2, h3, h4, h5, m⟩
  · exact ⟨[], m, fun H' p' L' w' m' => ⟨h.1, .inl ⟨h1, h2, m'⟩⟩⟩
  · exact ⟨[_], m.perm (List.Perm.swap _ _ _), fun H' p' L' w' m' => ⟨h.1, .inr ⟨g, cap, cur, h1, h2, h3, h4, h5, m'.perm (List.Perm.swap _ _ _)⟩⟩⟩
/-- The same with the owned block as a list of its own. -/
def AccL (e : TypeId) (size : Nat) (v : Value) (n : Nat) (xs : List Value) (L0 : List (Nat × Obj)) : Prop :=
  xs.length = n * size ∧
  ((v = .slice none 0 0 ∧ n = 0 ∧ L0 = []) ∨
   ∃ g cap cur, v = .slice (some ⟨g, 0, none⟩) n cap ∧ n ≤ cap ∧ cap ≤ maxLen ∧ cur.size = cap * size ∧ cur.toList.take (n * size) = xs ∧ L0 = [(g, .cells cur e (0, 0))])
theorem AccL.nil : AccL e size (.slice none 0 0) 0 [] [] := ⟨by simp, .inl ⟨rfl, rfl, rfl⟩⟩
theorem AccL.join {L0 : List (Nat × Obj)} (h : AccL e size v n xs L0) (m : Mem w0 H (L0 ++ L) w) : MemAcc w0 H L e size v n xs w := by
  refine ⟨h.1, ?_⟩
  rcases h.2 with ⟨h1, h2, rfl⟩ | ⟨g, cap, cur, h1, h2, h3, h4, h5, rfl⟩
  · exact .inl ⟨h1, h2, m⟩
  · exact .inr ⟨g, cap, cur, h1, h2, h3, h4, h5, m⟩
theorem MemAcc.split (h : MemAcc w0 H L e size v n xs w) : ∃ L0, AccL e size v n xs L0 ∧ Mem w0 H (L0 ++ L) w := by
  rcases h.2 with ⟨h1, h2, m⟩ | ⟨g, cap, cur, h1, h2, h3, h4, h5, m⟩
  · exact ⟨[], ⟨h.1, .inl ⟨h1, h2, rfl⟩⟩, m⟩
  · exact ⟨[_], ⟨h.1, .inr ⟨g, cap, cur, h1, h2, h3, h4, h5, rfl⟩⟩, m⟩
theorem AccL.shape {L0 : List (Nat × Obj)} (h : AccL e size v n xs L0) : ∃ b c, v = .slice b n c ∧ n ≤ c ∧ c ≤ maxLen := by
  rcases h.2 with ⟨h1, h2, _⟩ | ⟨g, cap, cur, h1, h2, h3, _⟩
  · exact ⟨none, 0, by rw [h1, h2], by omega, by simp [maxLen]⟩
  · exact ⟨_, _, h1, h2, h3⟩
theorem MemAcc.drew (h : MemAcc w0 H L e size v n xs w) : MemAcc w0 H L e size v n xs w.drew := h.map fun _ m => m.drew
theorem MemAcc.drewN (h : MemAcc w0 H L e size v n xs w) (k : Nat) : MemAcc w0 H L e size v n xs (w.drewN k) := h.map fun _ m => m.drewN k
theorem MemAcc.drop {p : Nat × Obj} (h : MemAcc w0 H (p :: L) e size v n xs w) : MemAcc w0 H L e size v n xs w :=
  h.map fun L0 m => (m.perm (List.perm_middle)).drop
theorem MemAcc.alloc (h : MemAcc w0 H L e size v n xs w) (o : Obj) : MemAcc w0 H ((w.heap.size, o) :: L) e size v n xs (w.alloc o) :=
  h.map fun _ m => (m.alloc o).perm (List.perm_middle.symm)

/-- A literal's own block, as what is appended. -/
theorem Src.loc {k m c : Nat} {cs : List Value} (hm : Mem w0 H L w) (h : (k, Obj.cells cs.toArray e (0, 0)) ∈ L) : Src w (.slice (some ⟨k, 0, none⟩) m c) m cs := by
  refine .inr ⟨_, c, rfl, fun j u hu => ?_⟩
  rw [Addr.add_lit, Nat.zero_add, cell_of_heap (hm.loc _ h).1]
  simpa using hu
theorem LUpd.app {k : Nat} {o o' : Obj} (h : LUpd L k o o' L') : ∀ L0, LUpd (L0 ++ L) k o o' (L0 ++ L')
  | [] => h
  | _ :: L0 => .tail (LUpd.app h L0)
theorem MemAcc.set {b i : Nat} {u : Value} {c : Array Value} {t : TypeId} {f : Nat × Nat} (h : MemAcc w0 H L e size v n xs w) (hu : LUpd L b (.cells c t f) (.cells (c.setIfInBounds i u) t f) L') :
    MemAcc w0 H L' e size v n xs (w.setCell ⟨b, i, none⟩ u) := h.map fun L0 m => m.set (hu.app L0)
theorem MemAcc.shape (h : MemAcc w0 H L e size v n xs w) : ∃ b c, v = .slice b n c ∧ n ≤ c ∧ c ≤ maxLen := by
  rcases h.2 with ⟨h1, h2, _⟩ | ⟨g, cap, cur, h1, h2, h3, _⟩
  · exact ⟨none, 0, by rw [h1, h2], by omega, by simp [maxLen]⟩
  · exact ⟨_, _, h1, h2, h3⟩
theorem MemAcc.swap {p q : Nat × Obj} (h : MemAcc w0 H (p :: q :: L) e size v n xs w) : MemAcc w0 H (q :: p :: L) e size v n xs w :=
  h.map fun L0 m => m.perm ((List.Perm.swap q p L).append_left L0)

variable {P : Program}
theorem run_append_mem (t ty e : TypeId) (i : TypeInfo) (z : Value) (size bytes : Nat) (ht : P.underlying t = some (.slice e)) (hi : P.info? e = some i) (hz : i.zero = some z)
    (hsize : i.size = size) (hby : i.bytes = bytes) (hzs : z.cells.size = size) (hsz : 0 < size)
    (v : Value) (n : Nat) (xs : List Value) (hacc : MemAcc w0 H L e size v n xs w)
    (x : Value) (m : Nat) (news : List Value) (hsrc : Src w x m news) (hl : news.length = m * size) (h1 : ∀ u ∈ news, u.oneCell' = true)
    (hbytes : (n + m) * bytes ≤ 140737488355328) (h63 : n + m ≤ maxLen) :
    ∃ v' w', (Builtin.append_ #[t, t] ty #[v, x]).run P w = .ok v' w' ∧ MemAcc w0 H L e size v' (n + m) (xs ++ news) w' := by
  subst hsize
  subst hby
  have hsmall : n + m ≤ 9223372036854775807 := by simp only [maxLen] at h63; omega
  have hlen : (xs ++ news).length = (n + m) * i.size := by rw [List.length_append, hacc.1, hl, Nat.add_mul]
  -- a new block
  have grown : ∀ (old : Nat), Mem w0 H L w →
      MemAcc w0 H L e i.size (.slice (some ⟨w.heap.size, 0, none⟩) (n + m) (grownCap w (n + m) old e)) (n + m) (xs ++ news)
        (w.drew.alloc (.cells (xs.toArray ++ news.toArray ++ Builtin.zeroCells z.cells (grownCap w (n + m) old e - (n + m))) e)) := by
    intro old hm
    have hge := grownCap_ge w (n + m) old e
    have hcm : grownCap w (n + m) old e ≤ maxLen := grownCap_le_maxLen w (n + m) old e h63
    refine MemAcc.row (hm.drew.alloc _) hge hcm ?_ ?_
    · simp only [Array.size_append, List.size_toArray, size_zeroCells, hzs, hacc.1, hl, ← Nat.add_mul]
      congr 1
      omega
    · simp only [Array.toList_append, List.append_assoc]
      rw [← List.append_assoc, ← hlen]
      exact List.take_left
  rcases hsrc with ⟨rfl, rfl, rfl⟩ | ⟨a, c, rfl, hnews⟩
  · -- nothing is appended
    refine ⟨v, w, ?_, by simpa using hacc⟩
    rcases hacc.2 with ⟨rfl, rfl, _⟩ | ⟨g, cap, cur, rfl, hnc, _, _, _, _⟩
    · simp [Builtin.append_, run_underlying ht, sizeOf, typeInfo, hi, Builtin.lenOf, Builtin.firstCells]
    · simp [Builtin.append_, run_underlying ht, sizeOf, typeInfo, hi, Builtin.lenOf, Builtin.firstCells, hnc, storeCells]
  · rcases hacc.2 with ⟨rfl, rfl, hm⟩ | ⟨g, cap, cur, rfl, hnc, hcm, hcs, htake, hm⟩
    · have hx : xs = [] := List.eq_nil_of_length_eq_zero (by simpa using hacc.1)
      subst hx
      by_cases hm0 : m = 0
      · subst hm0
        have hn : news = [] := List.eq_nil_of_length_eq_zero (by simpa using hl)
        subst hn
        refine ⟨.slice none 0 0, w, ?_, by simpa using hacc⟩
        simp [Builtin.append_, run_underlying ht, sizeOf, typeInfo, hi, Builtin.lenOf, Builtin.firstCells, loadCells, loadCellsFrom]
      · have hr := run_append_nil (P := P) w t ty e i z ht hi hz a m c news hl hnews (by omega) (by omega) (by have hb := hbytes; simp only [Nat.zero_add] at hb; omega)
        have hgr := grown 0 hm
        simp only [Nat.zero_add, List.nil_append, Array.empty_append] at hgr ⊢
        exact ⟨_, _, hr, hgr⟩
    · have hg := (hm.loc _ (.head _)).1
      by_cases hroom : n + m ≤ cap
      · have hfit : n * i.size + news.length ≤ cur.size := by rw [hl, hcs, ← Nat.add_mul]; exact Nat.mul_le_mul_right _ hroom
        have hr := run_append_room (P := P) w t ty e i ht hi g n cap cur hg a m c news hl hnews h1 hroom hfit
        refine ⟨_, _, hr, MemAcc.row (cur := (cur.toList.take (n * i.size) ++ news ++ cur.toList.drop (n * i.size + news.length)).toArray) (hm.setObj .head rfl rfl rfl (setRow_heap w g cur _ e _ hg) fun j hj => setRow_other w g j _ hj) hroom hcm ?_ ?_⟩
        · simp only [List.size_toArray, List.length_append, List.length_take, List.length_drop, Array.length_toList]
          omega
        · simp only
          rw [htake, ← hlen]
          exact List.take_left
      · have holds : ∀ j u, xs[j]? = some u → w.cell? ((⟨g, 0, none⟩ : Addr).add j) = some u := by
          intro j u hu
          rw [Addr.add_lit, Nat.zero_add, cell_of_heap hg]
          rw [← htake, List.getElem?_take] at hu
          split at hu
          · simpa using hu
          · cases hu
        have hr := run_append_grow (P := P) w t ty e i z ht hi hz ⟨g, 0, none⟩ n cap xs hacc.1 holds a m c news hl hnews (by omega) (by omega) (growslice_fits (by omega) hbytes)
        exact ⟨_, _, hr, grown cap hm.drop⟩

theorem wpList_append_mem {ops : Array Oper} {rest : List Oper} {o : Oper} {a : Act} {Q : Exit → Act → World → Prop} (hgd : o.guard = none) (s x : Operand) (t : TypeId)
    (ho : o.op = .call { callee := .builtin .append, args := #[s, x], argTypes := #[t, t] })
    (e : TypeId) (size bytes : Nat) (z : Value) (ht : P.underlying t = some (.slice e)) (hi : (P.info? e).map (fun i => (i.zero, i.size, i.bytes)) = some (some z, size, bytes))
    (hzs : z.cells.size = size) (hsz : 0 < size)
    (v : Value) (n : Nat) (xs : List Value) (hacc : MemAcc w0 H L e size v n xs w) (hs : a.eval s = v)
    (xv : Value) (m : Nat) (news : List Value) (hsrc : Src w xv m news) (hx : a.eval x = xv) (hl : news.length = m * size) (h1 : ∀ u ∈ news, u.oneCell' = true)
    (hbytes : (n + m) * bytes ≤ 140737488355328) (h63 : n + m ≤ maxLen)
    (h : ∀ v' w', MemAcc w0 H L e size v' (n + m) (xs ++ news) w' → wpList P ops Q rest (a.put o.dst v') w') : wpList P ops Q (o :: rest) a w := by
  obtain ⟨i, hi1, hi2, hi3, hi4⟩ := info_parts hi
  obtain ⟨v', w', hr, h2⟩ := run_append_mem (P := P) t o.type e i z size bytes ht hi1 hi2 hi3 hi4 hzs hsz v n xs hacc xv m news hsrc hl h1 hbytes h63
  refine wpList_plain hgd fun K hK => ?_
  unfold Oper.wp execOp
  simp only [ho, resolve, invoke, builtin, Sem.run_bind, Sem.run_pure, Result.andThen_ok, List.map_toArray, List.map_cons, List.map_nil, hs, hx, hr]
  exact hK _ _ (h v' w' h2)

end

/-- The same as one step of a region that draws its order. -/
theorem step_append_mem {P : Program} {w0 w : World} {H : Hp} {L : List (Nat × Obj)} {ops : Array Oper} {o : Oper} {a : Act} {K : Act → World → Prop} {Q : Exit → Act → World → Prop} {E : Prop} (hgd : o.guard = none) (s x : Operand) (t : TypeId)
    (ho : o.op = .call { callee := .builtin .append, args := #[s, x], argTypes := #[t, t] })
    (e : TypeId) (size bytes : Nat) (z : Value) (ht : P.underlying t = some (.slice e)) (hi : (P.info? e).map (fun i => (i.zero, i.size, i.bytes)) = some (some z, size, bytes))
    (hzs : z.cells.size = size) (hsz : 0 < size)
    (v : Value) (n : Nat) (xs : List Value) (hacc : MemAcc w0 H L e size v n xs w) (hs : a.eval s = v)
    (xv : Value) (m : Nat) (news : List Value) (hsrc : Src w xv m news) (hx : a.eval x = xv) (hl : news.length = m * size) (h1 : ∀ u ∈ news, u.oneCell' = true)
    (hbytes : (n + m) * bytes ≤ 140737488355328) (h63 : n + m ≤ maxLen)
    (h : ∀ v' w', MemAcc w0 H L e size v' (n + m) (xs ++ news) w' → K (a.put o.dst v') w') :
    if Region.wanted o (yielded ops a.tmps) = true then Oper.wp P o a w K Q else E := by
  have hw : Region.wanted o (yielded ops a.tmps) = true := by simp [Region.wanted, hgd]
  rw [if_pos hw]
  obtain ⟨i, hi1, hi2, hi3, hi4⟩ := info_parts hi
  obtain ⟨v', w', hr, h2⟩ := run_append_mem (P := P) t o.type e i z size bytes ht hi1 hi2 hi3 hi4 hzs hsz v n xs hacc xv m news hsrc hl h1 hbytes h63
  unfold Oper.wp execOp
  simp only [ho, resolve, invoke, builtin, Sem.run_bind, Sem.run_pure, Result.andThen_ok, List.map_toArray, List.map_cons, List.map_nil, hs, hx, hr]
  exact h v' w' h2

/-- A slice expression's value, kept under a name (for the walk: 'attribute [local go_sem high] run_slice_lV'). -/
def sliceV (a : Option Addr) (l h m s : Nat) : Value := Go.sliced a l h m s
theorem run_slice_lV {P : Program} (w : World) (t : TypeId) (a : Option Addr) (len cap : Nat) (ht : P.underlying t = some (.slice (P.elem t))) (kl : IntKind) (l : Int) (h0 : 0 ≤ l) (h1 : l ≤ len) :
    (Instr.slice t (.slice a len cap) (some (.int kl l)) none none).run P w = ((sizeOf (P.elem t)).run P w).andThen fun s w => .ok (sliceV a l.toNat len cap s) w :=
  run_slice_l w t a len cap ht kl l h0 h1

@[go_sem] theorem cells_sliceV (a : Option Addr) (l h m s : Nat) : (sliceV a l h m s).cells = #[sliceV a l h m s] := rfl
@[go_sem] theorem run_store_sliceV (P : Program) (w : World) (ad : Addr) (a : Option Addr) (l h m s : Nat) (md : Mode) : (store ad (sliceV a l h m s) md).run P w = stored P w ad (sliceV a l h m s) md := run_store P w ad _ md rfl

/-! ### What the owned cells read as -/
inductive Chunks {α : Type} (E : Enc α) (H : Hp) : List Value → List α → Prop
  | nil : Chunks E H [] []
  | cons {cs : List Value} {x : α} {xs : List Value} {ys : List α} : E.rep H cs x → cs.length = E.size → Chunks E H xs ys → Chunks E H (cs ++ xs) (x :: ys)
section
variable {α : Type} {E : Enc α} {H H' : Hp} {xs xs' : List Value} {ys ys' : List α}
theorem Chunks.append (h : Chunks E H xs ys) (h' : Chunks E H xs' ys') : Chunks E H (xs ++ xs') (ys ++ ys') := by
  induction h with
  | nil => exact h'
  | cons h1 h2 _ ih => rw [List.append_assoc]; exact .cons h1 h2 ih
theorem Chunks.mono (h : Chunks E H xs ys) (hl : Hle H H') : Chunks E H' xs ys := by
  induction h with
  | nil => exact .nil
  | cons h1 h2 _ ih => exact .cons (E.mono hl h1) h2 ih
theorem Chunks.one {cs : List Value} {x : α} (h : E.rep H cs x) (hl : cs.length = E.size) : Chunks E H cs [x] := by
  have := Chunks.cons h hl Chunks.nil
  rwa [List.append_nil] at this
theorem Chunks.length (h : Chunks E H xs ys) : xs.length = ys.length * E.size := by
  induction h with
  | nil => simp
  | cons _ h2 _ ih => rw [List.length_append, h2, ih, List.length_cons, Nat.add_mul, Nat.one_mul, Nat.add_comm]
theorem Chunks.get (h : Chunks E H xs ys) : ∀ i, (hi : i < ys.length) → ∃ cs, E.rep H cs ys[i] ∧ cs.length = E.size ∧ ∀ j u, cs[j]? = some u → xs[i * E.size + j]? = some u := by
  induction h with
  | nil => intro i hi; exact absurd hi (Nat.not_lt_zero _)
  | @cons cs x xs ys h1 h2 _ ih =>
    intro i hi
    cases i with
    | zero =>
      refine ⟨cs, h1, h2, fun j u hu => ?_⟩
      rw [Nat.zero_mul, Nat.zero_add, List.getElem?_append_left (List.getElem?_eq_some_iff.1 hu).1]
      exact hu
    | succ i =>
      obtain ⟨c', e1, e2, e3⟩ := ih i (by simpa using hi)
      refine ⟨c', e1, e2, fun j u hu => ?_⟩
      rw [List.getElem?_append_right (by rw [h2, Nat.add_mul]; omega), h2, show (i + 1) * E.size + j - E.size = i * E.size + j by rw [Nat.add_mul]; omega]
      exact e3 j u hu
theorem Chunks.ofV {f : α → Value} {p : α → Prop} (ys : List α) (h : ∀ y ∈ ys, p y) : Chunks (encV f p) H (ys.map f) ys := by
  induction ys with
  | nil => exact .nil
  | cons y ys ih => exact .cons (cs := [f y]) ⟨rfl, h y (.head _)⟩ rfl (ih fun z hz => h z (.tail _ hz))

/-- Done: what was owned is written no more, and reads as ys. -/
theorem MemAcc.done {w0 w : World} {L : List (Nat × Obj)} {e : TypeId} {size n : Nat} {v : Value} (h : MemAcc w0 H L e size v n xs w) (hc : Chunks E H xs ys) (hs : size = E.size) (hn : n = ys.length) :
    ∃ H', Mem w0 H' L w ∧ Hle H H' ∧ SlR E H' v ys := by
  subst hs; subst hn
  rcases h.2 with ⟨rfl, hn, m⟩ | ⟨g, cap, cur, rfl, hnc, hcm, hcs, htake, m⟩
  · obtain rfl := List.eq_nil_of_length_eq_zero hn
    exact ⟨H, m, Hle.refl H, SlR.nil E H⟩
  · obtain ⟨m', hle⟩ := m.freeze
    refine ⟨_, m', hle, some ⟨g, 0, none⟩, cap, rfl, hnc, hcm, fun h => (by cases h), fun i hi => ?_⟩
    obtain ⟨cs, e1, e2, e3⟩ := hc.get i hi
    refine ⟨g, 0, cs, rfl, E.mono hle e1, fun j u hu => ⟨cur, e, (0, 0), Hp.put_same _ _ _, ?_⟩⟩
    have := e3 j u hu
    rw [← htake, List.getElem?_take] at this
    split at this
    · simpa using this
    · cases this

/-- A part of it, as a slice expression makes it. -/
theorem SlR.sliced {b : Option Addr} {n c i j : Nat} (h : SlR E H (.slice b n c) ys) (hij : i ≤ j) (hjn : j ≤ n) :
    SlR E H (sliceV b i j c E.size) ((ys.drop i).take (j - i)) := by
  obtain ⟨b', c', hv, hnc, hcm, h0, hc⟩ := h
  cases hv
  have hlen : ((ys.drop i).take (j - i)).length = j - i := by rw [List.length_take, List.length_drop]; omega
  refine ⟨_, _, by rw [hlen]; rfl, by omega, by omega, fun hb => ?_, fun k hk => ?_⟩
  · cases b with
    | none => have := h0 rfl; omega
    | some a =>
      split at hb
      · omega
      · cases hb
  · rw [hlen] at hk
    have hk' : i + k < ys.length := by omega
    obtain ⟨blk, off, cs, e1, e2, e3⟩ := hc (i + k) hk'
    subst e1
    refine ⟨blk, off + i * E.size, cs, ?_, ?_, fun jj u hu => ?_⟩
    · rw [if_neg (by omega)]
      simp only [Option.map_some, Addr.add_lit]
    · simpa using e2
    · have := e3 jj u hu
      rwa [show off + (i + k) * E.size + jj = off + i * E.size + k * E.size + jj by rw [Nat.add_mul]; omega] at this
/-- A slice that is written no more, as what is appended. -/
theorem SlR.src {w0 w : World} {L : List (Nat × Obj)} {v : Value} (h : SlR E H v ys) (m : Mem w0 H L w) :
    ∃ news, Chunks E H news ys ∧ Src w v ys.length news := by
  obtain ⟨b, c, rfl, hnc, hcm, h0, hc⟩ := h
  have key : ∀ d k, k + d = ys.length → ∃ news, Chunks E H news (ys.drop k) ∧ ∀ blk off, b = some ⟨blk, off, none⟩ → ∀ j u, news[j]? = some u → w.cell? ⟨blk, off + k * E.size + j, none⟩ = some u := by
    intro d
    induction d with
    | zero =>
      intro k hk
      rw [List.drop_of_length_le (by omega)]
      exact ⟨[], .nil, fun _ _ _ j u hu => by simp at hu⟩
    | succ d ih =>
      intro k hk
      have hlt : k < ys.length := by omega
      obtain ⟨news, h1, h2⟩ := ih (k + 1) (by omega)
      obtain ⟨blk, off, cs, e1, e2, e3⟩ := hc k hlt
      rw [List.drop_eq_getElem_cons hlt]
      refine ⟨cs ++ news, .cons e2 (E.len e2) h1, fun blk' off' hb j u hu => ?_⟩
      rw [e1] at hb
      cases hb
      by_cases hj : j < cs.length
      · rw [List.getElem?_append_left hj] at hu
        exact (e3 j u hu).cell m
      · rw [List.getElem?_append_right (by omega)] at hu
        have := h2 blk off e1 _ u hu
        rw [E.len e2] at this
        rw [E.len e2] at hj
        rwa [show off + (k + 1) * E.size + (j - E.size) = off + k * E.size + j by rw [Nat.add_mul]; omega] at this
  obtain ⟨news, h1, h2⟩ := key ys.length 0 (by omega)
  rw [List.drop_zero] at h1
  refine ⟨news, h1, ?_⟩
  cases b with
  | none =>
    have hy : ys.length = 0 := by have := h0 rfl; omega
    have hy' : ys = [] := List.eq_nil_of_length_eq_zero hy
    subst hy'
    have hn : news = [] := by cases h1; rfl
    subst hn
    rw [h0 rfl]
    exact .inl ⟨rfl, rfl, rfl⟩
  | some a =>
    refine .inr ⟨a, c, rfl, fun j u hu => ?_⟩
    have hy : 0 < ys.length := by
      rcases Nat.eq_zero_or_pos ys.length with h | h
      · have hy' : ys = [] := List.eq_nil_of_length_eq_zero h
        subst hy'
        cases h1
        simp at hu
      · exact h
    obtain ⟨blk, off, _, e1, _⟩ := hc 0 hy
    cases e1
    rw [Addr.add_lit]
    have := h2 blk off rfl j u hu
    rwa [Nat.zero_mul, Nat.add_zero] at this
theorem Chunks.oneCell (h : Chunks E H xs ys) (hE : ∀ cs x, E.rep H cs x → ∀ u ∈ cs, u.oneCell' = true) : ∀ u ∈ xs, u.oneCell' = true := by
  induction h with
  | nil => intro u hu; cases hu
  | cons h1 _ _ ih =>
    intro u hu
    rcases List.mem_append.1 hu with hu | hu
    · exact hE _ _ h1 u hu
    · exact ih u hu
theorem Mem.weaken {w0 w : World} {L : List (Nat × Obj)} (m : Mem w0 H' L w) (h : Hle H H') : Mem w0 H L w :=
  ⟨m.os, m.tape, m.output, fun k o hk => m.imm k o (h k o hk), fun p hp => ⟨(m.loc p hp).1, by
    cases hh : H p.1 with
    | none => rfl
    | some o => have := h _ _ hh; rw [(m.loc p hp).2] at this; cases this⟩, m.nd⟩
theorem MemAcc.weaken {w0 w : World} {L : List (Nat × Obj)} {e : TypeId} {size n : Nat} {v : Value} {xs : List Value} (h : MemAcc w0 H' L e size v n xs w) (hl : Hle H H') : MemAcc w0 H L e size v n xs w :=
  h.map fun _ m => m.weaken hl
theorem Chunks.anyH {f : α → Value} {p : α → Prop} {xs : List Value} {ys : List α} (h : Chunks (encV f p) H xs ys) : Chunks (encV f p) H' xs ys := by
  induction h with
  | nil => exact .nil
  | cons h1 h2 _ ih => exact .cons h1 h2 ih
theorem Mem.thaw {w0 w : World} {L : List (Nat × Obj)} {g : Nat} {o : Obj} (m : Mem w0 (H.put g o) L w) (h : H g = none) : Mem w0 H ((g, o) :: L) w := by
  have m' := m.weaken (Hle.put o h)
  refine ⟨m'.os, m'.tape, m'.output, m'.imm, fun p hp => ?_, ?_⟩
  · cases hp with
    | head => exact ⟨m.imm g o (Hp.put_same _ _ _), h⟩
    | tail _ hp => exact m'.loc p hp
  · rw [List.map_cons, List.nodup_cons]
    refine ⟨fun hc => ?_, m'.nd⟩
    obtain ⟨p, hp, he⟩ := List.mem_map.1 hc
    have := (m.loc p hp).2
    rw [he, Hp.put_same] at this
    cases this
/-- What is owned, lent for reading, and given back. -/
theorem AccL.borrow {w0 w : World} {L L0 : List (Nat × Obj)} {e : TypeId} {size n : Nat} {v : Value} (h : AccL e size v n xs L0) (hc : Chunks E H xs ys) (hs : size = E.size) (hn : n = ys.length) (m : Mem w0 H (L0 ++ L) w) :
    ∃ H', Mem w0 H' L w ∧ Hle H H' ∧ SlR E H' v ys ∧ ∀ (L' : List (Nat × Obj)) (w' : World), Mem w0 H' L' w' → Mem w0 H (L0 ++ L') w' := by
  rcases h.2 with ⟨rfl, h2, rfl⟩ | ⟨g, cap, cur, rfl, h2, h3, h4, h5, rfl⟩
  · obtain rfl : ys = [] := List.eq_nil_of_length_eq_zero (by omega)
    exact ⟨H, m, Hle.refl H, SlR.nil E H, fun _ _ m' => m'⟩
  · have hg := (m.loc _ (.head _)).2
    subst hs; subst hn
    obtain ⟨m', hle⟩ := m.freeze
    refine ⟨_, m', hle, ⟨some ⟨g, 0, none⟩, cap, rfl, h2, h3, fun h => (by cases h), fun i hi => ?_⟩, fun _ _ m' => m'.thaw hg⟩
    obtain ⟨cs, e1, e2, e3⟩ := hc.get i hi
    refine ⟨g, 0, cs, rfl, E.mono hle e1, fun j u hu => ⟨cur, e, (0, 0), Hp.put_same _ _ _, ?_⟩⟩
    have := e3 j u hu
    rw [← h5, List.getElem?_take] at this
    split at this
    · simpa using this
    · cases this
/-- A list of elements, written out, that is written no more. -/
theorem Mem.lit {w0 w : World} {L : List (Nat × Obj)} {b : Nat} {cs : List Value} {e : TypeId} (m : Mem w0 H ((b, .cells cs.toArray e (0, 0)) :: L) w) (hc : Chunks E H cs ys) (hm : ys.length ≤ maxLen) :
    ∃ H', Mem w0 H' L w ∧ Hle H H' ∧ SlR E H' (.slice (some ⟨b, 0, none⟩) ys.length ys.length) ys := by
  have hl := hc.length
  have ha : MemAcc w0 H L e E.size (.slice (some ⟨b, 0, none⟩) ys.length ys.length) ys.length cs w := by
    refine MemAcc.row m (Nat.le_refl _) hm (by simpa using hl) ?_
    simp only
    rw [← hl]; exact List.take_length
  exact ha.done hc rfl rfl
end
end Go.Proofs.Ythipkmmdjhpklaa
namespace Go.Proofs.Ythipkmmdjhpklaa
set_option linter.unusedVariables false
set_option linter.unusedSimpArgs false
open Go.RowKit

/-- A byte of a text. -/
def okByte (c : UInt8) : Bool := c == 10 || (32 ≤ c && c ≤ 126)
def isText (s : ByteArray) : Bool := s.data.toList.all okByte && decide (s.size ≤ 200)

structure GateM where
  first : Int
  queue : List ByteArray
  next : Int

/-- The error of a gate. -/
def GateM.chk (g : GateM) : Int :=
  if g.first < 0 ∨ 1000000000 < g.first ∨ g.next < 0 ∨ 1000000000 < g.next then 3
  else if 64 < g.queue.length then 5
  else if g.queue.all isText then 0 else 4

def Ret (w0 : World) (H : Hp) (L : List (Nat × Obj)) (c : Value) (e : Ending) (w' : World) : Prop := e = .returned c ∧ Mem w0 H L w'
def RetR (w0 : World) (H : Hp) (L : List (Nat × Obj)) (R : Value → Hp → Prop) (e : Ending) (w' : World) : Prop := ∃ r H', e = .returned r ∧ Mem w0 H' L w' ∧ Hle H H' ∧ R r H'

def GateV (H : Hp) (v : Value) (g : GateM) : Prop := ∃ q, v = .agg #[.int .i64 g.first, q, .int .i64 g.next] ∧ SlR encStr H q g.queue
theorem GateV.mono {H H' : Hp} {v : Value} {g : GateM} (h : GateV H v g) (hl : Hle H H') : GateV H' v g := by
  obtain ⟨q, h1, h2⟩ := h
  exact ⟨q, h1, h2.mono hl⟩

theorem okByte_iff (c : UInt8) : okByte c = true ↔ (c.toNat = 10 ∨ (32 ≤ c.toNat ∧ c.toNat ≤ 126)) := by
  unfold okByte
  simp [UInt8.le_iff_toNat_le, ← UInt8.toNat_inj]
theorem okByte_not (c : UInt8) : okByte c = false ↔ (c.toNat ≠ 10 ∧ (c.toNat < 32 ∨ 126 < c.toNat)) := by
  have h := okByte_iff c
  cases hb : okByte c
  · rw [hb] at h; simp at h; simp; omega
  · rw [hb] at h; simp at h; simp; omega

theorem all_take_succ {α : Type} (p : α → Bool) (l : List α) (k : Nat) (h : k < l.length) : (l.take (k + 1)).all p = ((l.take k).all p && p l[k]) := by
  rw [List.take_succ_eq_append_getElem h, List.all_append]; simp
theorem all_false_of {α : Type} (p : α → Bool) (l : List α) (k : Nat) (h : k < l.length) (hp : p l[k] = false) : l.all p = false := by
  rw [List.all_eq_false]; exact ⟨l[k], List.getElem_mem h, by simp [hp]⟩

theorem isText_bad (s : ByteArray) (k : Nat) (h : k < s.size) (hb : okByte s[k] = false) : isText s = false := by
  unfold isText
  rw [all_false_of okByte s.data.toList k (by simpa using h) hb]
  rfl
theorem isText_long (s : ByteArray) (h : 200 < s.size) : isText s = false := by
  unfold isText
  rw [decide_eq_false (by omega), Bool.and_false]
theorem isText_good (s : ByteArray) (k : Nat) (hk : ¬ k < s.size) (hl : s.size ≤ 200) (h : (s.data.toList.take k).all okByte = true) : isText s = true := by
  rw [List.take_of_length_le (by simpa using hk)] at h
  unfold isText
  rw [h, decide_eq_true hl]
  rfl
theorem okByte_snoc (s : ByteArray) (k : Nat) (h : k < s.size) (ha : (s.data.toList.take k).all okByte = true) (hb : okByte s[k] = true) : (s.data.toList.take (k + 1)).all okByte = true := by
  rw [all_take_succ _ _ _ (by simpa using h), ha]
  exact hb
theorem size_le_maxLen {n : Nat} (h : n ≤ maxLen) : n ≤ 9223372036854775807 := by unfold maxLen at h; omega

/-- What put, ack and offer do to a gate, with the error. -/
def GateM.put1 (g : GateM) (s : ByteArray) : Int × GateM :=
  if isText s = false then (4, g) else if g.queue.length = 64 then (8, g) else if 1000000000 < g.first + g.queue.length then (3, g) else (0, { g with queue := g.queue ++ [s] })
def GateM.ack1 (g : GateM) (n : Int) : Int × GateM :=
  if n < 0 ∨ g.first + g.queue.length < n then (3, g) else if g.first < n then (0, { g with first := n, queue := g.queue.drop (n - g.first).toNat }) else (0, g)
def GateM.offer1 (g : GateM) (n : Int) (s : ByteArray) : Bool × Int × GateM :=
  if isText s = false then (false, 4, g) else if n < 0 ∨ g.next < n ∨ 999999999 < n then (false, 3, g) else if n < g.next then (false, 0, g) else (true, 0, { g with next := g.next + 1 })
def GateM.zero : GateM := ⟨0, [], 0⟩
/-- The exported functions: the checks of a gate first. -/
def GateM.with1 (g : GateM) (r : Int × GateM) : GateM × Int := if g.chk ≠ 0 then (.zero, g.chk) else if r.1 ≠ 0 then (.zero, r.1) else (r.2, 0)
/-- The bounds under which a gate's numbers are reckoned. -/
def GateM.small (g : GateM) : Prop := -2000000000 ≤ g.first ∧ g.first ≤ 2000000000 ∧ -2000000000 ≤ g.next ∧ g.next ≤ 2000000000 ∧ g.queue.length ≤ 64
theorem GateM.small_of {g : GateM} (h : g.chk = 0) : g.small := by
  unfold GateM.chk at h
  unfold GateM.small
  split at h
  · cases h
  · split at h
    · cases h
    · omega

end Go.Proofs.Ythipkmmdjhpklaa
namespace Go.Proofs.Ythipkmmdjhpklaa
set_option linter.unusedVariables false
set_option linter.unusedSimpArgs false
open Go

section
variable {P : Program} {ops : Array Oper} {Q : Exit → Act → World → Prop} {S : World → Prop} {n : Nat}

/-- One from n on has come up. -/
def Spent (n : Nat) (ls : Array Bool) : Prop := ∃ e, n ≤ e ∧ ls.getD e false = true
theorem Spent.set {i : Nat} {ls : Array Bool} (h : Spent n ls) : Spent n (ls.setIfInBounds i true) := by
  obtain ⟨e, h1, h2⟩ := h
  exact ⟨e, h1, getD_set_true h2⟩
theorem getD_set_other {ls : Array Bool} {i e : Nat} (h : i ≠ e) : (ls.setIfInBounds i true).getD e false = ls.getD e false := by
  simp [Array.getElem?_setIfInBounds_ne h]

/-- Every order from here on, S behind each operation till one from n on has come up. -/
def AnyFrom (P : Program) (ops : Array Oper) (Q : Exit → Act → World → Prop) (S : World → Prop) (n : Nat) : Nat → Array Bool → Act → World → Prop
  | 0, ls, a, w => Region.ready .any ops ls = [] ∧ Q .normal a w
  | k + 1, ls, a, w => (Region.ready .any ops ls = [] → Q .normal a w) ∧
      ∀ i, i ∈ Region.ready .any ops ls → wpOp P ops Q i (fun a' w' => (Spent n (ls.setIfInBounds i true) ∨ S w') ∧ AnyFrom P ops Q S n k (ls.setIfInBounds i true) a' w') a w

theorem AnyFrom.any : ∀ (k : Nat) {ls : Array Bool} {a : Act} {w : World}, AnyFrom P ops Q S n k ls a w → wpAny P .any ops Q k ls a w
  | 0, _, _, _, h => h
  | k + 1, _, _, _, h => ⟨h.1, fun i hi => wpOp_mono (fun _ _ hx => hx.2.any k) (h.2 i hi)⟩

/-- Do number n and all behind it wait for number i? -/
def waitsAll (ops : Array Oper) (n i : Nat) : Bool := (List.range ops.size).all fun j => decide (j < n) || match ops[j]? with | some o => o.after.any fun e => Region.binds .any e && e.on == i | none => false
def fresh (ops : Array Oper) (n : Nat) (ls : Array Bool) : Bool := (List.range ls.size).all fun e => decide (e < n) || !ls.getD e false
theorem fresh_spec {ls : Array Bool} (h : fresh ops n ls = true) : ¬ Spent n ls := by
  rintro ⟨e, h1, h2⟩
  have hlt : e < ls.size := by
    rcases Nat.lt_or_ge e ls.size with h3 | h3
    · exact h3
    · simp [Array.getElem?_eq_none h3] at h2
  have h3 := List.all_eq_true.1 h e (List.mem_range.2 hlt)
  rw [h2] at h3
  simp at h3
  omega

theorem unlisted_of_ready2 {i : Nat} {ls : Array Bool} (h : i ∈ Region.ready .any ops ls) : ls.getD i false = false := by
  have h0 := (mem_ready.1 h).1
  rcases Nat.lt_or_ge i ls.size with hl | hl
  · simp [hl] at h0 ⊢; exact h0
  · simp [Array.getElem?_eq_none hl]
theorem ready_waits2 {i j : Nat} {oj : Oper} {ls : Array Bool} (hi : i ∈ Region.ready .any ops ls) (hj : j ∈ Region.ready .any ops ls) (hoj : ops[j]? = some oj) :
    ∀ e ∈ oj.after, Region.binds .any e = true → e.on ≠ i := by
  intro e he hb heq
  obtain ⟨_, o, ho, hall⟩ := mem_ready.1 hj
  rw [hoj] at ho
  cases ho
  have h1 := hall e he hb
  rw [heq, unlisted_of_ready2 hi] at h1
  cases h1

/-- The common step: T says when the operation may be carried out, and what of the others keeps T. -/
theorem AnyFrom.swap {i : Nat} {oi : Oper} {v : Value} {T : Array Bool → World → Prop} {U : World → Prop} (hi : ops[i]? = some oi) (hsel : ∀ (j : Nat) (o : Oper) cs b, ops[j]? = some o → o.op ≠ .select cs b)
    (hQ : ∀ c a w, Q (.panic c) (a.put oi.dst v) w → Q (.panic c) a w)
    (hTS : ∀ ls w, T ls w → Spent n (ls.setIfInBounds i true) ∨ S w) (hTU : ∀ ls w, T ls w → U w)
    (hT : ∀ ls w j w', T ls w → i ∈ Region.ready .any ops ls → j ∈ Region.ready .any ops ls → j ≠ i → (Spent n ((ls.setIfInBounds i true).setIfInBounds j true) ∨ S w') → (Spent n (ls.setIfInBounds j true) ∨ S w') ∧ T (ls.setIfInBounds j true) w') :
    ∀ (k : Nat) (ls : Array Bool) (a : Act) (w : World),
      (∀ j oj, ops[j]? = some oj → j ≠ i → ls.getD j true = false → (∀ e ∈ oj.after, Region.binds .any e = true → e.on ≠ i) → oi.apart ops oj = true) →
      i ∈ Region.ready .any ops ls → YieldsIf P ops U oi v a → T ls w →
      AnyFrom P ops Q S n k (ls.setIfInBounds i true) (a.put oi.dst v) w → AnyFrom P ops Q S n (k + 1) ls a w := by
  intro k
  induction k with
  | zero =>
    intro ls a w _ hr hy hC h
    refine ⟨fun h0 => (by rw [h0] at hr; cases hr), fun j hj => ?_⟩
    by_cases e : j = i
    · subst e; exact hy.wpOp hi (hTU _ _ hC) ⟨hTS _ _ hC, h⟩
    · have hx := ready_mono hj e
      rw [h.1] at hx
      cases hx
  | succ k ih =>
    intro ls a w hfree hr hy hC h
    refine ⟨fun h0 => (by rw [h0] at hr; cases hr), fun j hj => ?_⟩
    by_cases e : j = i
    · subst e; exact hy.wpOp hi (hTU _ _ hC) ⟨hTS _ _ hC, h⟩
    · obtain ⟨hju, oj, hoj, _⟩ := mem_ready.1 hj
      have hstep := wpOp_putIf hoj (hfree j oj hoj e hju (ready_waits2 hr hj hoj)) (fun cs b => hsel i oi cs b hi) (fun cs b => hsel j oj cs b hoj) hQ hy (h.2 j (ready_mono hj e))
      refine wpOp_mono (fun a' w' hx => ?_) hstep
      obtain ⟨hS', hT'⟩ := hT ls w j w' hC hr hj e hx.2.1
      refine ⟨hS', ih _ a' w' (fun x ox hx' hxi hun hno => hfree x ox hx' hxi ?_ hno) (ready_mono hr (Ne.symm e)) hx.1 hT' ?_⟩
      · by_cases ej : j = x
        · subst ej; exact hju
        · rwa [getD_set_ne true ej] at hun
      · rw [Array.setIfInBounds_comm _ _ e]
        exact hx.2.2

/-! The walk's moves. -/
/-- What yields in every world that meets S, and is waited for by number n and all behind it. -/
theorem AnyFrom.take {i : Nat} {oi : Oper} {v : Value} {k : Nat} {ls : Array Bool} {a : Act} {w : World} (hi : ops[i]? = some oi) (hs : Region.noSelect ops = true)
    (hf : Region.free .any ops ls i = true) (hr : (Region.ready .any ops ls).contains i = true) (hn : (waitsAll ops n i && fresh ops n ls) = true)
    (hQ : ∀ c a w, Q (.panic c) (a.put oi.dst v) w → Q (.panic c) a w) (hy : Region.wanted oi (yielded ops a.tmps) = true ∧ ∀ w, S w → (execOp a.eval oi).run P w = .ok (.value v) w) (hS : S w)
    (h : AnyFrom P ops Q S n k (ls.setIfInBounds i true) (a.put oi.dst v) w) : AnyFrom P ops Q S n (k + 1) ls a w := by
  rw [Bool.and_eq_true] at hn
  have hni : ∀ {j : Nat} {ls : Array Bool}, i ∈ Region.ready .any ops ls → j ∈ Region.ready .any ops ls → ¬ n ≤ j := by
    intro j ls h1 h2 hle
    obtain ⟨_, o, ho, _⟩ := mem_ready.1 h2
    have hlt : j < ops.size := (Array.getElem?_eq_some_iff.1 ho).1
    have h3 := List.all_eq_true.1 hn.1 j (List.mem_range.2 hlt)
    rw [ho] at h3
    simp only [Bool.or_eq_true, decide_eq_true_eq] at h3
    rcases h3 with h3 | h3
    · omega
    · obtain ⟨e, he, hb⟩ := Array.any_eq_true'.1 h3
      simp only [Bool.and_eq_true, beq_iff_eq] at hb
      exact ready_waits2 h1 h2 ho e he hb.1 hb.2
  have hspent : ∀ {ls : Array Bool} {j : Nat}, ¬ n ≤ j → ¬ Spent n ls → ¬ Spent n (ls.setIfInBounds j true) := by
    rintro ls j h1 h2 ⟨e, h3, h4⟩
    rw [getD_set_other (by omega)] at h4
    exact h2 ⟨e, h3, h4⟩
  refine AnyFrom.swap (T := fun ls w => ¬ Spent n ls ∧ S w) (U := S) hi (Region.noSelect_spec hs) hQ (fun _ _ h => .inr h.2) (fun _ _ h => h.2) ?_ k ls a w (Region.free_spec hi hf) (by simpa using hr) (.inl hy) ⟨fresh_spec hn.2, hS⟩ h
  intro ls w j w' hT h1 h2 _ hx
  have hj := hni h1 h2
  have hi' := hni h1 h1
  have hno := hspent hj hT.1
  have hS' : S w' := hx.resolve_left (hspent hj (hspent hi' hT.1))
  exact ⟨.inr hS', hno, hS'⟩
/-- What yields in whatever world. -/
theorem AnyFrom.pure {i : Nat} {oi : Oper} {v : Value} {k : Nat} {ls : Array Bool} {a : Act} {w : World} (hi : ops[i]? = some oi) (hs : Region.noSelect ops = true)
    (hf : Region.free .any ops ls i = true) (hr : (Region.ready .any ops ls).contains i = true) (hin : i < n)
    (hQ : ∀ c a w, Q (.panic c) (a.put oi.dst v) w → Q (.panic c) a w) (hy : Region.wanted oi (yielded ops a.tmps) = true ∧ ∀ w, (execOp a.eval oi).run P w = .ok (.value v) w) (hS : S w)
    (h : AnyFrom P ops Q S n k (ls.setIfInBounds i true) (a.put oi.dst v) w) : AnyFrom P ops Q S n (k + 1) ls a w := by
  refine AnyFrom.swap (T := fun ls w => Spent n ls ∨ S w) (U := fun _ => True) hi (Region.noSelect_spec hs) hQ (fun _ _ h => h.imp Spent.set id) (fun _ _ _ => trivial) ?_ k ls a w (Region.free_spec hi hf) (by simpa using hr) (.inl ⟨hy.1, fun w _ => hy.2 w⟩) (.inr hS) h
  intro ls w j w' hT h1 h2 hji hx
  have hc : Spent n (ls.setIfInBounds j true) ∨ S w' := by
    refine hx.imp (fun ⟨e, h3, h4⟩ => ?_) id
    rw [Array.setIfInBounds_comm _ _ (Ne.symm hji), getD_set_other (by omega)] at h4
    exact ⟨e, h3, h4⟩
  exact ⟨hc, hc⟩
theorem AnyFrom.done {ls : Array Bool} {a : Act} {w : World} (hr : Region.ready .any ops ls = []) (h : Q .normal a w) : ∀ k, AnyFrom P ops Q S n k ls a w
  | 0 => ⟨hr, h⟩
  | _ + 1 => ⟨fun _ => h, by rw [hr]; intro i hi; cases hi⟩
theorem AnyFrom.one {i k : Nat} {ls : Array Bool} {a : Act} {w : World} (hr : Region.ready .any ops ls = [i])
    (h : wpOp P ops Q i (fun a' w' => (Spent n (ls.setIfInBounds i true) ∨ S w') ∧ AnyFrom P ops Q S n k (ls.setIfInBounds i true) a' w') a w) : AnyFrom P ops Q S n (k + 1) ls a w :=
  ⟨fun h0 => (by rw [hr] at h0; cases h0), fun j hj => by
    rw [hr] at hj
    obtain rfl := List.mem_singleton.1 hj
    exact h⟩
theorem AnyFrom.two {i j k : Nat} {ls : Array Bool} {a : Act} {w : World} (hr : Region.ready .any ops ls = [i, j])
    (h : wpOp P ops Q i (fun a' w' => (Spent n (ls.setIfInBounds i true) ∨ S w') ∧ AnyFrom P ops Q S n k (ls.setIfInBounds i true) a' w') a w)
    (h' : wpOp P ops Q j (fun a' w' => (Spent n (ls.setIfInBounds j true) ∨ S w') ∧ AnyFrom P ops Q S n k (ls.setIfInBounds j true) a' w') a w) : AnyFrom P ops Q S n (k + 1) ls a w :=
  ⟨fun h0 => (by rw [hr] at h0; cases h0), fun x hx => by
    rw [hr] at hx
    rcases List.mem_cons.1 hx with rfl | hx
    · exact h
    · obtain rfl := List.mem_singleton.1 hx
      exact h'⟩
/-- One operation carried out. -/
theorem AnyFrom.op {i k : Nat} {o : Oper} {ls : Array Bool} {a : Act} {w : World} (ho : ops[i]? = some o) (hw : Region.wanted o (yielded ops a.tmps) = true)
    (h : ∀ K : Act → World → Prop, (∀ a w, (Spent n (ls.setIfInBounds i true) ∨ S w) → AnyFrom P ops Q S n k (ls.setIfInBounds i true) a w → K a w) → Oper.wp P o a w K Q) :
    wpOp P ops Q i (fun a' w' => (Spent n (ls.setIfInBounds i true) ∨ S w') ∧ AnyFrom P ops Q S n k (ls.setIfInBounds i true) a' w') a w :=
  wpOp_step ho fun K hK => by rw [if_pos hw]; exact h K (fun a w h1 h2 => hK a w ⟨h1, h2⟩)
theorem AnyFrom.opIf {i k : Nat} {o : Oper} {ls : Array Bool} {a : Act} {w : World} (ho : ops[i]? = some o)
    (h : ∀ K : Act → World → Prop, (∀ a w, (Spent n (ls.setIfInBounds i true) ∨ S w) → AnyFrom P ops Q S n k (ls.setIfInBounds i true) a w → K a w) → if Region.wanted o (yielded ops a.tmps) = true then Oper.wp P o a w K Q else K (a.put o.dst undef) w) :
    wpOp P ops Q i (fun a' w' => (Spent n (ls.setIfInBounds i true) ∨ S w') ∧ AnyFrom P ops Q S n k (ls.setIfInBounds i true) a' w') a w :=
  wpOp_step ho fun K hK => h K (fun a w h1 h2 => hK a w ⟨h1, h2⟩)
theorem AnyFrom.start {id : Nat} {a : Act} {w : World} (S : World → Prop) (n : Nat) (hm : P.follows .mixedOrders = true) (h : AnyFrom P ops Q S n ops.size (Array.replicate ops.size false) a w.drew) :
    (Code.region id ops true).wp P Q a w := wp_region_any hm (h.any _)
end
end Go.Proofs.Ythipkmmdjhpklaa
namespace Go.Proofs.Ythipkmmdjhpklaa
set_option linter.unusedVariables false
set_option linter.unusedSimpArgs false
open Go

section
variable {P : Program} {ops : Array Oper} {Q : Exit → Act → World → Prop} {S : World → Prop} {n : Nat}
/-- What has come up has come up behind what it waits for. -/
def Closed (ops : Array Oper) (ls : Array Bool) : Prop := ∀ (j : Nat) (o : Oper), ops[j]? = some o → ls.getD j false = true → ∀ e ∈ o.after, Region.binds .any e = true → ls.getD e.on false = true
/-- Does number j wait for number i, by way of k others at most? -/
def anc (ops : Array Oper) (i : Nat) : Nat → Nat → Bool
  | 0, _ => false
  | k + 1, j => match ops[j]? with | some o => o.after.any fun e => Region.binds .any e && (e.on == i || anc ops i k e.on) | none => false
theorem anc_spec {i : Nat} {ls : Array Bool} (hc : Closed ops ls) : ∀ (k j : Nat) (o : Oper), ops[j]? = some o → (∀ e ∈ o.after, Region.binds .any e = true → ls.getD e.on false = true) → anc ops i k j = true → ls.getD i false = true
  | 0, j, o, ho, hw, h => by simp [anc] at h
  | k + 1, j, o, ho, hw, h => by
    unfold anc at h
    rw [ho] at h
    obtain ⟨e, he, hb⟩ := Array.any_eq_true'.1 h
    simp only [Bool.and_eq_true, Bool.or_eq_true, beq_iff_eq] at hb
    have hl := hw e he hb.1
    rcases hb.2 with h1 | h1
    · rw [← h1]; exact hl
    · have h2 : ∃ o', ops[e.on]? = some o' := by
        cases h3 : ops[e.on]? with
        | some o' => exact ⟨o', rfl⟩
        | none =>
          cases k with
          | zero => simp [anc] at h1
          | succ k => unfold anc at h1; rw [h3] at h1; cases h1
      obtain ⟨o', ho'⟩ := h2
      exact anc_spec hc k e.on o' ho' (hc e.on o' ho' hl) h1
def waitsT (ops : Array Oper) (n i : Nat) : Bool := (List.range ops.size).all fun j => decide (j < n) || anc ops i ops.size j
def closedB (ops : Array Oper) (ls : Array Bool) : Bool := (List.range ops.size).all fun j => !ls.getD j false || match ops[j]? with | some o => o.after.all fun e => !Region.binds .any e || ls.getD e.on false | none => true
theorem closed_of {ls : Array Bool} (h : closedB ops ls = true) : Closed ops ls := by
  intro j o ho hl e he hb
  have hlt : j < ops.size := (Array.getElem?_eq_some_iff.1 ho).1
  have h1 := List.all_eq_true.1 h j (List.mem_range.2 hlt)
  rw [hl, ho] at h1
  simp only [Bool.not_true, Bool.false_or] at h1
  have h2 := Array.all_eq_true'.1 h1 e he
  rw [hb] at h2
  simpa using h2
theorem ready_listed {j : Nat} {ls : Array Bool} {o : Oper} (hj : j ∈ Region.ready .any ops ls) (ho : ops[j]? = some o) : ∀ e ∈ o.after, Region.binds .any e = true → ls.getD e.on false = true := by
  intro e he hb
  obtain ⟨_, o', ho', hall⟩ := mem_ready.1 hj
  rw [ho] at ho'
  cases ho'
  exact hall e he hb
theorem Closed.set {j : Nat} {ls : Array Bool} (h : Closed ops ls) (hj : j ∈ Region.ready .any ops ls) : Closed ops (ls.setIfInBounds j true) := by
  intro k o ho hl e he hb
  refine getD_set_true ?_
  by_cases e1 : j = k
  · subst e1
    exact ready_listed hj ho e he hb
  · rw [getD_set_other e1] at hl
    exact h k o ho hl e he hb
theorem AnyFrom.takeT {i : Nat} {oi : Oper} {v : Value} {k : Nat} {ls : Array Bool} {a : Act} {w : World} (hi : ops[i]? = some oi) (hs : Region.noSelect ops = true)
    (hf : Region.free .any ops ls i = true) (hr : (Region.ready .any ops ls).contains i = true) (hn : (waitsT ops n i && fresh ops n ls && closedB ops ls) = true)
    (hQ : ∀ c a w, Q (.panic c) (a.put oi.dst v) w → Q (.panic c) a w) (hy : Region.wanted oi (yielded ops a.tmps) = true ∧ ∀ w, S w → (execOp a.eval oi).run P w = .ok (.value v) w) (hS : S w)
    (h : AnyFrom P ops Q S n k (ls.setIfInBounds i true) (a.put oi.dst v) w) : AnyFrom P ops Q S n (k + 1) ls a w := by
  rw [Bool.and_eq_true, Bool.and_eq_true] at hn
  obtain ⟨⟨hn1, hn2⟩, hn3⟩ := hn
  have hni : ∀ {j : Nat} {ls : Array Bool}, Closed ops ls → i ∈ Region.ready .any ops ls → j ∈ Region.ready .any ops ls → ¬ n ≤ j := by
    intro j ls hc h1 h2 hle
    obtain ⟨_, o, ho, _⟩ := mem_ready.1 h2
    have hlt : j < ops.size := (Array.getElem?_eq_some_iff.1 ho).1
    have h3 := List.all_eq_true.1 hn1 j (List.mem_range.2 hlt)
    simp only [Bool.or_eq_true, decide_eq_true_eq] at h3
    rcases h3 with h3 | h3
    · omega
    · have h4 := anc_spec hc ops.size j o ho (ready_listed h2 ho) h3
      rw [unlisted_of_ready2 h1] at h4
      cases h4
  have hspent : ∀ {ls : Array Bool} {j : Nat}, ¬ n ≤ j → ¬ Spent n ls → ¬ Spent n (ls.setIfInBounds j true) := by
    rintro ls j h1 h2 ⟨e, h3, h4⟩
    rw [getD_set_other (by omega)] at h4
    exact h2 ⟨e, h3, h4⟩
  refine AnyFrom.swap (T := fun ls w => ¬ Spent n ls ∧ S w ∧ Closed ops ls) (U := S) hi (Region.noSelect_spec hs) hQ (fun _ _ h => .inr h.2.1) (fun _ _ h => h.2.1) ?_ k ls a w (Region.free_spec hi hf) (by simpa using hr) (.inl hy) ⟨fresh_spec hn2, hS, closed_of hn3⟩ h
  intro ls w j w' hT h1 h2 _ hx
  have hj := hni hT.2.2 h1 h2
  have hi' := hni hT.2.2 h1 h1
  have hno := hspent hj hT.1
  have hS' : S w' := hx.resolve_left (hspent hj (hspent hi' hT.1))
  exact ⟨.inr hS', hno, hS', hT.2.2.set h2⟩
end
end Go.Proofs.Ythipkmmdjhpklaa
namespace Go.Proofs.Ythipkmmdjhpklaa
set_option linter.unusedVariables false
set_option linter.unusedSimpArgs false
open Go

section
variable {P : Program} {ops : Array Oper} {Q : Exit → Act → World → Prop} {S : World → Prop} {n : Nat}
theorem AnyFrom.skip {i : Nat} {oi : Oper} {k : Nat} {ls : Array Bool} {a : Act} {w : World} (hi : ops[i]? = some oi) (hs : Region.noSelect ops = true)
    (hf : Region.free .any ops ls i = true) (hr : (Region.ready .any ops ls).contains i = true) (hin : i < n)
    (hQ : ∀ c a w, Q (.panic c) (a.put oi.dst undef) w → Q (.panic c) a w) (hw : Region.wanted oi (yielded ops a.tmps) = false) (hS : S w)
    (h : AnyFrom P ops Q S n k (ls.setIfInBounds i true) (a.put oi.dst undef) w) : AnyFrom P ops Q S n (k + 1) ls a w := by
  refine AnyFrom.swap (T := fun ls w => Spent n ls ∨ S w) (U := fun _ => True) hi (Region.noSelect_spec hs) hQ (fun _ _ h => h.imp Spent.set id) (fun _ _ _ => trivial) ?_ k ls a w (Region.free_spec hi hf) (by simpa using hr) (.inr ⟨hw, rfl⟩) (.inr hS) h
  intro ls w j w' hT h1 h2 hji hx
  have hc : Spent n (ls.setIfInBounds j true) ∨ S w' := by
    refine hx.imp (fun ⟨e, h3, h4⟩ => ?_) id
    rw [Array.setIfInBounds_comm _ _ (Ne.symm hji), getD_set_other (by omega)] at h4
    exact ⟨e, h3, h4⟩
  exact ⟨hc, hc⟩
/-- The only one that may be next, carried out. -/
theorem AnyFrom.call {i k : Nat} {o : Oper} {ls : Array Bool} {a : Act} {w : World} (hr : Region.ready .any ops ls = [i]) (ho : ops[i]? = some o) (hw : Region.wanted o (yielded ops a.tmps) = true)
    (h : ∀ K : Act → World → Prop, (∀ a w, (Spent n (ls.setIfInBounds i true) ∨ S w) → AnyFrom P ops Q S n k (ls.setIfInBounds i true) a w → K a w) → Oper.wp P o a w K Q) : AnyFrom P ops Q S n (k + 1) ls a w :=
  AnyFrom.one hr (AnyFrom.op ho hw h)
end
end Go.Proofs.Ythipkmmdjhpklaa
namespace Go.Proofs.Ythipkmmdjhpklaa
set_option linter.unusedVariables false
set_option linter.unusedSimpArgs false
open Go

section
variable {P : Program} {ops : Array Oper} {Q : Exit → Act → World → Prop} {S : World → Prop} {p : Nat → Bool}
def SpentP (p : Nat → Bool) (ls : Array Bool) : Prop := ∃ e, p e = true ∧ ls.getD e false = true
theorem SpentP.set {i : Nat} {ls : Array Bool} (h : SpentP p ls) : SpentP p (ls.setIfInBounds i true) := by
  obtain ⟨e, h1, h2⟩ := h
  exact ⟨e, h1, getD_set_true h2⟩
def AnyP (P : Program) (ops : Array Oper) (Q : Exit → Act → World → Prop) (S : World → Prop) (p : Nat → Bool) : Nat → Array Bool → Act → World → Prop
  | 0, ls, a, w => Region.ready .any ops ls = [] ∧ Q .normal a w
  | k + 1, ls, a, w => (Region.ready .any ops ls = [] → Q .normal a w) ∧
      ∀ i, i ∈ Region.ready .any ops ls → wpOp P ops Q i (fun a' w' => (SpentP p (ls.setIfInBounds i true) ∨ S w') ∧ AnyP P ops Q S p k (ls.setIfInBounds i true) a' w') a w

theorem AnyP.any : ∀ (k : Nat) {ls : Array Bool} {a : Act} {w : World}, AnyP P ops Q S p k ls a w → wpAny P .any ops Q k ls a w
  | 0, _, _, _, h => h
  | k + 1, _, _, _, h => ⟨h.1, fun i hi => wpOp_mono (fun _ _ hx => hx.2.any k) (h.2 i hi)⟩

def freshP (ops : Array Oper) (p : Nat → Bool) (ls : Array Bool) : Bool := (List.range ls.size).all fun e => !p e || !ls.getD e false
theorem freshP_spec {ls : Array Bool} (h : freshP ops p ls = true) : ¬ SpentP p ls := by
  rintro ⟨e, h1, h2⟩
  have hlt : e < ls.size := by
    rcases Nat.lt_or_ge e ls.size with h3 | h3
    · exact h3
    · simp [Array.getElem?_eq_none h3] at h2
  have h3 := List.all_eq_true.1 h e (List.mem_range.2 hlt)
  rw [h1, h2] at h3
  simp at h3

theorem AnyP.swap {i : Nat} {oi : Oper} {v : Value} {T : Array Bool → World → Prop} {U : World → Prop} (hi : ops[i]? = some oi) (hsel : ∀ (j : Nat) (o : Oper) cs b, ops[j]? = some o → o.op ≠ .select cs b)
    (hQ : ∀ c a w, Q (.panic c) (a.put oi.dst v) w → Q (.panic c) a w)
    (hTS : ∀ ls w, T ls w → SpentP p (ls.setIfInBounds i true) ∨ S w) (hTU : ∀ ls w, T ls w → U w)
    (hT : ∀ ls w j w', T ls w → i ∈ Region.ready .any ops ls → j ∈ Region.ready .any ops ls → j ≠ i → (SpentP p ((ls.setIfInBounds i true).setIfInBounds j true) ∨ S w') → (SpentP p (ls.setIfInBounds j true) ∨ S w') ∧ T (ls.setIfInBounds j true) w') :
    ∀ (k : Nat) (ls : Array Bool) (a : Act) (w : World),
      (∀ j oj, ops[j]? = some oj → j ≠ i → ls.getD j true = false → (∀ e ∈ oj.after, Region.binds .any e = true → e.on ≠ i) → oi.apart ops oj = true) →
      i ∈ Region.ready .any ops ls → YieldsIf P ops U oi v a → T ls w →
      AnyP P ops Q S p k (ls.setIfInBounds i true) (a.put oi.dst v) w → AnyP P ops Q S p (k + 1) ls a w := by
  intro k
  induction k with
  | zero =>
    intro ls a w _ hr hy hC h
    refine ⟨fun h0 => (by rw [h0] at hr; cases hr), fun j hj => ?_⟩
    by_cases e : j = i
    · subst e; exact hy.wpOp hi (hTU _ _ hC) ⟨hTS _ _ hC, h⟩
    · have hx := ready_mono hj e
      rw [h.1] at hx
      cases hx
  | succ k ih =>
    intro ls a w hfree hr hy hC h
    refine ⟨fun h0 => (by rw [h0] at hr; cases hr), fun j hj => ?_⟩
    by_cases e : j = i
    · subst e; exact hy.wpOp hi (hTU _ _ hC) ⟨hTS _ _ hC, h⟩
    · obtain ⟨hju, oj, hoj, _⟩ := mem_ready.1 hj
      have hstep := wpOp_putIf hoj (hfree j oj hoj e hju (ready_waits2 hr hj hoj)) (fun cs b => hsel i oi cs b hi) (fun cs b => hsel j oj cs b hoj) hQ hy (h.2 j (ready_mono hj e))
      refine wpOp_mono (fun a' w' hx => ?_) hstep
      obtain ⟨hS', hT'⟩ := hT ls w j w' hC hr hj e hx.2.1
      refine ⟨hS', ih _ a' w' (fun x ox hx' hxi hun hno => hfree x ox hx' hxi ?_ hno) (ready_mono hr (Ne.symm e)) hx.1 hT' ?_⟩
      · by_cases ej : j = x
        · subst ej; exact hju
        · rwa [getD_set_ne true ej] at hun
      · rw [Array.setIfInBounds_comm _ _ e]
        exact hx.2.2

theorem AnyP.pure {i : Nat} {oi : Oper} {v : Value} {k : Nat} {ls : Array Bool} {a : Act} {w : World} (hi : ops[i]? = some oi) (hs : Region.noSelect ops = true)
    (hf : Region.free .any ops ls i = true) (hr : (Region.ready .any ops ls).contains i = true) (hin : p i = false)
    (hQ : ∀ c a w, Q (.panic c) (a.put oi.dst v) w → Q (.panic c) a w) (hy : Region.wanted oi (yielded ops a.tmps) = true ∧ ∀ w, (execOp a.eval oi).run P w = .ok (.value v) w) (hS : S w)
    (h : AnyP P ops Q S p k (ls.setIfInBounds i true) (a.put oi.dst v) w) : AnyP P ops Q S p (k + 1) ls a w := by
  refine AnyP.swap (T := fun ls w => SpentP p ls ∨ S w) (U := fun _ => True) hi (Region.noSelect_spec hs) hQ (fun _ _ h => h.imp SpentP.set id) (fun _ _ _ => trivial) ?_ k ls a w (Region.free_spec hi hf) (by simpa using hr) (.inl ⟨hy.1, fun w _ => hy.2 w⟩) (.inr hS) h
  intro ls w j w' hT h1 h2 hji hx
  have hc : SpentP p (ls.setIfInBounds j true) ∨ S w' := by
    refine hx.imp (fun ⟨e, h3, h4⟩ => ?_) id
    rw [Array.setIfInBounds_comm _ _ (Ne.symm hji), getD_set_other (fun e' => by rw [e', h3] at hin; cases hin)] at h4
    exact ⟨e, h3, h4⟩
  exact ⟨hc, hc⟩
theorem AnyP.done {ls : Array Bool} {a : Act} {w : World} (hr : Region.ready .any ops ls = []) (h : Q .normal a w) : ∀ k, AnyP P ops Q S p k ls a w
  | 0 => ⟨hr, h⟩
  | _ + 1 => ⟨fun _ => h, by rw [hr]; intro i hi; cases hi⟩
theorem AnyP.one {i k : Nat} {ls : Array Bool} {a : Act} {w : World} (hr : Region.ready .any ops ls = [i])
    (h : wpOp P ops Q i (fun a' w' => (SpentP p (ls.setIfInBounds i true) ∨ S w') ∧ AnyP P ops Q S p k (ls.setIfInBounds i true) a' w') a w) : AnyP P ops Q S p (k + 1) ls a w :=
  ⟨fun h0 => (by rw [hr] at h0; cases h0), fun j hj => by
    rw [hr] at hj
    obtain rfl := List.mem_singleton.1 hj
    exact h⟩
theorem AnyP.two {i j k : Nat} {ls : Array Bool} {a : Act} {w : World} (hr : Region.ready .any ops ls = [i, j])
    (h : wpOp P ops Q i (fun a' w' => (SpentP p (ls.setIfInBounds i true) ∨ S w') ∧ AnyP P ops Q S p k (ls.setIfInBounds i true) a' w') a w)
    (h' : wpOp P ops Q j (fun a' w' => (SpentP p (ls.setIfInBounds j true) ∨ S w') ∧ AnyP P ops Q S p k (ls.setIfInBounds j true) a' w') a w) : AnyP P ops Q S p (k + 1) ls a w :=
  ⟨fun h0 => (by rw [hr] at h0; cases h0), fun x hx => by
    rw [hr] at hx
    rcases List.mem_cons.1 hx with rfl | hx
    · exact h
    · obtain rfl := List.mem_singleton.1 hx
      exact h'⟩
theorem AnyP.op {i k : Nat} {o : Oper} {ls : Array Bool} {a : Act} {w : World} (ho : ops[i]? = some o) (hw : Region.wanted o (yielded ops a.tmps) = true)
    (h : ∀ K : Act → World → Prop, (∀ a w, (SpentP p (ls.setIfInBounds i true) ∨ S w) → AnyP P ops Q S p k (ls.setIfInBounds i true) a w → K a w) → Oper.wp P o a w K Q) :
    wpOp P ops Q i (fun a' w' => (SpentP p (ls.setIfInBounds i true) ∨ S w') ∧ AnyP P ops Q S p k (ls.setIfInBounds i true) a' w') a w :=
  wpOp_step ho fun K hK => by rw [if_pos hw]; exact h K (fun a w h1 h2 => hK a w ⟨h1, h2⟩)
theorem AnyP.opIf {i k : Nat} {o : Oper} {ls : Array Bool} {a : Act} {w : World} (ho : ops[i]? = some o)
    (h : ∀ K : Act → World → Prop, (∀ a w, (SpentP p (ls.setIfInBounds i true) ∨ S w) → AnyP P ops Q S p k (ls.setIfInBounds i true) a w → K a w) → if Region.wanted o (yielded ops a.tmps) = true then Oper.wp P o a w K Q else K (a.put o.dst undef) w) :
    wpOp P ops Q i (fun a' w' => (SpentP p (ls.setIfInBounds i true) ∨ S w') ∧ AnyP P ops Q S p k (ls.setIfInBounds i true) a' w') a w :=
  wpOp_step ho fun K hK => h K (fun a w h1 h2 => hK a w ⟨h1, h2⟩)
theorem AnyP.start {id : Nat} {a : Act} {w : World} (S : World → Prop) (p : Nat → Bool) (hm : P.follows .mixedOrders = true) (h : AnyP P ops Q S p ops.size (Array.replicate ops.size false) a w.drew) :
    (Code.region id ops true).wp P Q a w := wp_region_any hm (h.any _)
def waitsTP (ops : Array Oper) (p : Nat → Bool) (i : Nat) : Bool := (List.range ops.size).all fun j => !p j || anc ops i ops.size j
theorem AnyP.takeT {i : Nat} {oi : Oper} {v : Value} {k : Nat} {ls : Array Bool} {a : Act} {w : World} (hi : ops[i]? = some oi) (hs : Region.noSelect ops = true)
    (hf : Region.free .any ops ls i = true) (hr : (Region.ready .any ops ls).contains i = true) (hn : (waitsTP ops p i && freshP ops p ls && closedB ops ls) = true)
    (hQ : ∀ c a w, Q (.panic c) (a.put oi.dst v) w → Q (.panic c) a w) (hy : Region.wanted oi (yielded ops a.tmps) = true ∧ ∀ w, S w → (execOp a.eval oi).run P w = .ok (.value v) w) (hS : S w)
    (h : AnyP P ops Q S p k (ls.setIfInBounds i true) (a.put oi.dst v) w) : AnyP P ops Q S p (k + 1) ls a w := by
  rw [Bool.and_eq_true, Bool.and_eq_true] at hn
  obtain ⟨⟨hn1, hn2⟩, hn3⟩ := hn
  have hni : ∀ {j : Nat} {ls : Array Bool}, Closed ops ls → i ∈ Region.ready .any ops ls → j ∈ Region.ready .any ops ls → ¬ p j = true := by
    intro j ls hc h1 h2 hle
    obtain ⟨_, o, ho, _⟩ := mem_ready.1 h2
    have hlt : j < ops.size := (Array.getElem?_eq_some_iff.1 ho).1
    have h3 := List.all_eq_true.1 hn1 j (List.mem_range.2 hlt)
    simp only [Bool.or_eq_true, decide_eq_true_eq] at h3
    rcases h3 with h3 | h3
    · rw [hle] at h3; cases h3
    · have h4 := anc_spec hc ops.size j o ho (ready_listed h2 ho) h3
      rw [unlisted_of_ready2 h1] at h4
      cases h4
  have hspent : ∀ {ls : Array Bool} {j : Nat}, ¬ p j = true → ¬ SpentP p ls → ¬ SpentP p (ls.setIfInBounds j true) := by
    rintro ls j h1 h2 ⟨e, h3, h4⟩
    rw [getD_set_other (fun e' => h1 (by rw [e', h3]))] at h4
    exact h2 ⟨e, h3, h4⟩
  refine AnyP.swap (T := fun ls w => ¬ SpentP p ls ∧ S w ∧ Closed ops ls) (U := S) hi (Region.noSelect_spec hs) hQ (fun _ _ h => .inr h.2.1) (fun _ _ h => h.2.1) ?_ k ls a w (Region.free_spec hi hf) (by simpa using hr) (.inl hy) ⟨freshP_spec hn2, hS, closed_of hn3⟩ h
  intro ls w j w' hT h1 h2 _ hx
  have hj := hni hT.2.2 h1 h2
  have hi' := hni hT.2.2 h1 h1
  have hno := hspent hj hT.1
  have hS' : S w' := hx.resolve_left (hspent hj (hspent hi' hT.1))
  exact ⟨.inr hS', hno, hS', hT.2.2.set h2⟩
theorem AnyP.skip {i : Nat} {oi : Oper} {k : Nat} {ls : Array Bool} {a : Act} {w : World} (hi : ops[i]? = some oi) (hs : Region.noSelect ops = true)
    (hf : Region.free .any ops ls i = true) (hr : (Region.ready .any ops ls).contains i = true) (hin : p i = false)
    (hQ : ∀ c a w, Q (.panic c) (a.put oi.dst undef) w → Q (.panic c) a w) (hw : Region.wanted oi (yielded ops a.tmps) = false) (hS : S w)
    (h : AnyP P ops Q S p k (ls.setIfInBounds i true) (a.put oi.dst undef) w) : AnyP P ops Q S p (k + 1) ls a w := by
  refine AnyP.swap (T := fun ls w => SpentP p ls ∨ S w) (U := fun _ => True) hi (Region.noSelect_spec hs) hQ (fun _ _ h => h.imp SpentP.set id) (fun _ _ _ => trivial) ?_ k ls a w (Region.free_spec hi hf) (by simpa using hr) (.inr ⟨hw, rfl⟩) (.inr hS) h
  intro ls w j w' hT h1 h2 hji hx
  have hc : SpentP p (ls.setIfInBounds j true) ∨ S w' := by
    refine hx.imp (fun ⟨e, h3, h4⟩ => ?_) id
    rw [Array.setIfInBounds_comm _ _ (Ne.symm hji), getD_set_other (fun e' => by rw [e', h3] at hin; cases hin)] at h4
    exact ⟨e, h3, h4⟩
  exact ⟨hc, hc⟩
theorem AnyP.call {i k : Nat} {o : Oper} {ls : Array Bool} {a : Act} {w : World} (hr : Region.ready .any ops ls = [i]) (ho : ops[i]? = some o) (hw : Region.wanted o (yielded ops a.tmps) = true)
    (h : ∀ K : Act → World → Prop, (∀ a w, (SpentP p (ls.setIfInBounds i true) ∨ S w) → AnyP P ops Q S p k (ls.setIfInBounds i true) a w → K a w) → Oper.wp P o a w K Q) : AnyP P ops Q S p (k + 1) ls a w :=
  AnyP.one hr (AnyP.op ho hw h)
end
end Go.Proofs.Ythipkmmdjhpklaa
namespace Go.Proofs.Ythipkmmdjhpklaa
set_option linter.unusedVariables false
set_option linter.unusedSimpArgs false
open Go.RowKit

structure ValM where
  kind : Nat
  n : Int
  s : ByteArray
theorem ValM.ext_iff' (a b : ValM) : a = b ↔ a.kind = b.kind ∧ a.n = b.n ∧ a.s = b.s := by
  cases a; cases b; simp
instance : DecidableEq ValM := fun a b => decidable_of_iff _ (ValM.ext_iff' a b).symm
structure ObjM where
  kind : Nat
  name : ByteArray
  n : Int
  slots : List ValM
structure HeapM where
  size : Int
  half : Int
  scan : Int
  busy : Bool
  old : List (ObjM × Int)
  new : List ObjM
  regs : List ValM
structure DeedM where
  kind : Nat
  a : Int
  b : Int
  c : Int
  list : List Int
  obj : ObjM
  val : ValM

def nameByte (c : UInt8) : Bool := 33 ≤ c && c ≤ 126 && c != 34
def isName (s : ByteArray) : Bool := s.data.toList.all nameByte && decide (1 ≤ s.size ∧ s.size ≤ 40)
theorem nameByte_iff (c : UInt8) : nameByte c = true ↔ (33 ≤ c.toNat ∧ c.toNat ≤ 126 ∧ c.toNat ≠ 34) := by
  unfold nameByte
  simp [UInt8.le_iff_toNat_le, ← UInt8.toNat_inj, and_assoc]
theorem nameByte_not (c : UInt8) : nameByte c = false ↔ (c.toNat < 33 ∨ 126 < c.toNat ∨ c.toNat = 34) := by
  have h := nameByte_iff c
  cases hb : nameByte c
  · rw [hb] at h; simp at h; simp; omega
  · rw [hb] at h; simp at h; simp; omega
theorem isName_bad (s : ByteArray) (k : Nat) (h : k < s.size) (hb : nameByte s[k] = false) : isName s = false := by
  unfold isName
  rw [all_false_of nameByte s.data.toList k (by simpa using h) hb]
  rfl
theorem isName_size (s : ByteArray) (h : ¬ (1 ≤ s.size ∧ s.size ≤ 40)) : isName s = false := by
  unfold isName
  rw [decide_eq_false h, Bool.and_false]
theorem isName_good (s : ByteArray) (k : Nat) (hk : ¬ k < s.size) (hl : 1 ≤ s.size ∧ s.size ≤ 40) (h : (s.data.toList.take k).all nameByte = true) : isName s = true := by
  rw [List.take_of_length_le (by simpa using hk)] at h
  unfold isName
  rw [h, decide_eq_true hl]
  rfl
theorem isName_all (s : ByteArray) (k : Nat) (hk : ¬ k < s.size) (h : (s.data.toList.take k).all nameByte = true) : isName s = decide (1 ≤ s.size ∧ s.size ≤ 40) := by
  rw [List.take_of_length_le (by simpa using hk)] at h
  unfold isName
  rw [h, Bool.true_and]
theorem nameByte_snoc (s : ByteArray) (k : Nat) (h : k < s.size) (ha : (s.data.toList.take k).all nameByte = true) (hb : nameByte s[k] = true) : (s.data.toList.take (k + 1)).all nameByte = true := by
  rw [all_take_succ _ _ _ (by simpa using h), ha]
  exact hb

/-- A value, whatever objects there are. -/
def ValM.plain (v : ValM) : Bool :=
  if v.kind = 0 then decide (v.n = 0) && decide (v.s = ByteArray.empty)
  else if v.kind = 1 then decide (v.s = ByteArray.empty) && decide (-1000000000 ≤ v.n ∧ v.n ≤ 1000000000)
  else if v.kind = 2 then decide (v.s = ByteArray.empty) && decide (0 ≤ v.n ∧ v.n ≤ 1)
  else if v.kind = 3 then decide (v.n = 0) && isText v.s
  else if v.kind = 4 then decide (v.n = 0) && isName v.s
  else if v.kind = 5 then decide (v.s = ByteArray.empty) && decide (0 ≤ v.n)
  else false
def ObjM.plain (o : ObjM) : Bool := decide (1 ≤ o.kind ∧ o.kind ≤ 5) && (decide (o.name = ByteArray.empty) || isName o.name) && decide (-1 ≤ o.n ∧ o.n ≤ 1000000000)
/-- Does a value refer to the other half than this one? -/
def oldV (half : Int) (v : ValM) : Prop := v.kind = 5 ∧ v.n % 2 ≠ half
instance (half : Int) (v : ValM) : Decidable (oldV half v) := by unfold oldV; infer_instance
def refV (half : Int) (k : Int) : ValM := ⟨5, 2 * k + half, ByteArray.empty⟩
def unitV : ValM := ⟨0, 0, ByteArray.empty⟩
def intV (n : Int) : ValM := ⟨1, n, ByteArray.empty⟩
def boolV (b : Bool) : ValM := ⟨2, if b then 1 else 0, ByteArray.empty⟩
def textV (s : ByteArray) : ValM := ⟨3, 0, s⟩

/-- One value moved: what becomes of it, of the old half, and what is put behind the new one (which has nn objects). -/
def moveN (half : Int) (old : List (ObjM × Int)) (nn : Nat) (v : ValM) : ValM × List (ObjM × Int) × List ObjM :=
  if oldV half v then
    match old[(v.n / 2).toNat]? with
    | none => (v, old, [])
    | some (o, t) => if t < 0 then (refV half nn, old.set (v.n / 2).toNat (o, (nn : Int)), [o]) else (refV half t, old, [])
  else (v, old, [])
def movesN (half : Int) : List (ObjM × Int) → Nat → List ValM → List ValM × List (ObjM × Int) × List ObjM
  | old, _, [] => ([], old, [])
  | old, nn, v :: l =>
    ((moveN half old nn v).1 :: (movesN half (moveN half old nn v).2.1 (nn + (moveN half old nn v).2.2.length) l).1,
      (movesN half (moveN half old nn v).2.1 (nn + (moveN half old nn v).2.2.length) l).2.1,
      (moveN half old nn v).2.2 ++ (movesN half (moveN half old nn v).2.1 (nn + (moveN half old nn v).2.2.length) l).2.2)

/-! ### How they lie in memory -/
def ValM.v (x : ValM) : Value := .agg #[.int .u8 x.kind, .int .i64 x.n, .string x.s]
def ValM.cs (x : ValM) : List Value := [.int .u8 x.kind, .int .i64 x.n, .string x.s]
structure ValM.fit (x : ValM) : Prop where
  k : x.kind < 256
  n : I64 x.n
  s : x.s.size ≤ maxLen
def encVal : Enc ValM := ⟨3, fun _ cs x => cs = x.cs ∧ x.fit, fun _ h => h, fun h => by rw [h.1]; rfl⟩
structure ObjM.fit (o : ObjM) : Prop where
  k : o.kind < 256
  n : I64 o.n
  s : o.name.size ≤ maxLen
def encObj : Enc ObjM := ⟨4, fun H cs o => ∃ sv, cs = [.int .u8 o.kind, .string o.name, .int .i64 o.n, sv] ∧ o.fit ∧ SlR encVal H sv o.slots, fun hl ⟨sv, h1, h2, h3⟩ => ⟨sv, h1, h2, h3.mono hl⟩, fun ⟨sv, h1, _⟩ => by rw [h1]; rfl⟩
def encHeld : Enc (ObjM × Int) := ⟨5, fun H cs p => ∃ sv, cs = [.int .u8 p.1.kind, .string p.1.name, .int .i64 p.1.n, sv, .int .i64 p.2] ∧ p.1.fit ∧ I64 p.2 ∧ SlR encVal H sv p.1.slots, fun hl ⟨sv, h1, h2, h3, h4⟩ => ⟨sv, h1, h2, h3, h4.mono hl⟩, fun ⟨sv, h1, _⟩ => by rw [h1]; rfl⟩
/-- A heap that is handed over. -/
def HeapV (H : Hp) (v : Value) (h : HeapM) : Prop :=
  ∃ vo vn vr, v = .agg #[.int .i64 h.size, .int .i64 h.half, .int .i64 h.scan, .bool h.busy, vo, vn, vr] ∧ SlR encHeld H vo h.old ∧ SlR encObj H vn h.new ∧ SlR encVal H vr h.regs ∧ I64 h.size ∧ I64 h.half ∧ I64 h.scan
theorem HeapV.mono {H H' : Hp} {v : Value} {h : HeapM} (hv : HeapV H v h) (hl : Hle H H') : HeapV H' v h := by
  obtain ⟨vo, vn, vr, h1, h2, h3, h4, h5⟩ := hv
  exact ⟨vo, vn, vr, h1, h2.mono hl, h3.mono hl, h4.mono hl, h5⟩

theorem SlR.getV {H : Hp} {b : Option Addr} {n c : Nat} {xs : List ValM} (h : SlR encVal H (.slice b n c) xs) {i : Nat} (hi : i < xs.length) :
    ∃ blk off, b = some ⟨blk, off, none⟩ ∧ CellH H blk (off + i * 3) (.int .u8 xs[i].kind) ∧ CellH H blk (off + i * 3 + 1) (.int .i64 xs[i].n) ∧ CellH H blk (off + i * 3 + 2) (.string xs[i].s) ∧ xs[i].fit := by
  obtain ⟨b', c', hv, _, _, _, hc⟩ := h
  cases hv
  obtain ⟨blk, off, cs, e1, e2, e3⟩ := hc i hi
  obtain ⟨rfl, e4⟩ := e2
  exact ⟨blk, off, e1, e3 0 _ rfl, e3 1 _ rfl, e3 2 _ rfl, e4⟩
theorem SlR.getObj {H : Hp} {b : Option Addr} {n c : Nat} {xs : List ObjM} (h : SlR encObj H (.slice b n c) xs) {i : Nat} (hi : i < xs.length) :
    ∃ blk off sv, b = some ⟨blk, off, none⟩ ∧ CellH H blk (off + i * 4) (.int .u8 xs[i].kind) ∧ CellH H blk (off + i * 4 + 1) (.string xs[i].name) ∧ CellH H blk (off + i * 4 + 2) (.int .i64 xs[i].n) ∧ CellH H blk (off + i * 4 + 3) sv ∧ SlR encVal H sv xs[i].slots ∧ xs[i].fit := by
  obtain ⟨b', c', hv, _, _, _, hc⟩ := h
  cases hv
  obtain ⟨blk, off, cs, e1, e2, e3⟩ := hc i hi
  obtain ⟨sv, rfl, e4, e5⟩ := e2
  exact ⟨blk, off, sv, e1, e3 0 _ rfl, e3 1 _ rfl, e3 2 _ rfl, e3 3 _ rfl, e5, e4⟩
theorem SlR.getHeld {H : Hp} {b : Option Addr} {n c : Nat} {xs : List (ObjM × Int)} (h : SlR encHeld H (.slice b n c) xs) {i : Nat} (hi : i < xs.length) :
    ∃ blk off sv, b = some ⟨blk, off, none⟩ ∧ CellH H blk (off + i * 5) (.int .u8 xs[i].1.kind) ∧ CellH H blk (off + i * 5 + 1) (.string xs[i].1.name) ∧ CellH H blk (off + i * 5 + 2) (.int .i64 xs[i].1.n) ∧ CellH H blk (off + i * 5 + 3) sv ∧ CellH H blk (off + i * 5 + 4) (.int .i64 xs[i].2) ∧ SlR encVal H sv xs[i].1.slots ∧ xs[i].1.fit ∧ I64 xs[i].2 := by
  obtain ⟨b', c', hv, _, _, _, hc⟩ := h
  cases hv
  obtain ⟨blk, off, cs, e1, e2, e3⟩ := hc i hi
  obtain ⟨sv, rfl, e4, e5, e6⟩ := e2
  exact ⟨blk, off, sv, e1, e3 0 _ rfl, e3 1 _ rfl, e3 2 _ rfl, e3 3 _ rfl, e3 4 _ rfl, e6, e4, e5⟩
theorem val_oneCell {H : Hp} {cs : List Value} {xs : List ValM} (h : Chunks encVal H cs xs) : ∀ u ∈ cs, u.oneCell' = true :=
  h.oneCell fun cs x hx u hu => by
    obtain ⟨rfl, _⟩ := hx
    simp only [ValM.cs, List.mem_cons, List.not_mem_nil, or_false] at hu
    rcases hu with rfl | rfl | rfl <;> rfl
theorem Chunks.valH {H H' : Hp} {xs : List Value} {ys : List ValM} (h : Chunks encVal H xs ys) : Chunks encVal H' xs ys := by
  induction h with
  | nil => exact .nil
  | cons h1 h2 _ ih => exact .cons h1 h2 ih
theorem Chunks.vlen {H : Hp} {xs : List Value} {ys : List ValM} (h : Chunks encVal H xs ys) : xs.length = ys.length * 3 := h.length
end Go.Proofs.Ythipkmmdjhpklaa
