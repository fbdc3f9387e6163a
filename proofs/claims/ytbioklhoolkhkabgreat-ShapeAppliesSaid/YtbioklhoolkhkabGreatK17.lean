/- The frame of the laws' proofs (chapter 23): layouts and changes that came in. No program's function in sight. A closed call in pieces (Sh): what there is between them. A closed call in pieces (Sh): the table. -/
import Derived.Test.YtbioklhoolkhkabGreatK08
import Derived.Test.YtbioklhoolkhkabGreatK09
import Derived.SliceStrings
import Derived.ChangeSlices
import Derived.Deep.Slices
import Derived.Deep.Fields
import Derived.Test.YtbioklhoolkhkabGreatProg
namespace Go.Proofs.YtbioklhoolkhkabGreat
set_option linter.unusedVariables false
set_option linter.unusedSimpArgs false
open Go.ChangeShapes Go.WideShapes Go.ChangeAt Go.RowKit Go.Joins Go.Deep

section
variable {H : Type} {enc : TypeId × Value → H} {P : Program}
/-- The heap as it was when the call came in. -/
abbrev heapOf (W : World) : Hp := fun k => W.heap[k]?
theorem start_cell {W : World} {a : Addr} {v : Value} (h : W.cell? a = some v) : a.spot = none ∧ CellH (heapOf W) a.block a.off v := by
  have hs := World.cell?_spot h
  obtain ⟨b, o, s⟩ := a
  simp only at hs
  subst hs
  refine ⟨rfl, ?_⟩
  unfold World.cell? at h
  cases hh : W.heap[b]? with
  | none => simp [hh] at h
  | some ob =>
    cases ob <;> simp [hh] at h
    rename_i c t f
    exact ⟨c, t, f, hh, by simpa using h⟩
theorem I64_of_wf {n : Int} (h : (Lit.int .i64 n).wf = true) : I64 n := by
  simp [Lit.wf, IntKind.min, IntKind.max, IntKind.bits, IntKind.signed] at h
  unfold I64
  omega
theorem u8_of_wf {n : Int} (h : (Lit.int .u8 n).wf = true) : n.toNat < 256 ∧ (n.toNat : Int) = n := by
  simp [Lit.wf, IntKind.min, IntKind.max, IntKind.bits, IntKind.signed] at h
  omega
theorem cells_add {W : World} {b o : Nat} {i j n : Nat} {v : Value} {a : Addr} (ha : a = ⟨b, o, none⟩) (h : W.cell? ((a.add (i * n)).add j) = some v) : CellH (heapOf W) b (o + i * n + j) v := by
  subst ha
  have := (start_cell h).2
  rw [add_add, Addr.add_lit] at this
  rw [Nat.add_assoc]
  exact this
/-- A slice that came in, its elements opened one by one. -/
theorem open_rows {α : Type} [Inhabited α] (E : Enc α) (hE : 0 < E.size) {W : World} {base : Nat} {spare : Nat → Bool} {held : Bool} {t e : TypeId} {fuel : Nat} {v : Value} {x : DataW H × List MemPlace} (ht : P.underlying t = some (.slice e)) (hC : P.cellsOf e = E.size)
    (hel : ∀ (cs : List Value) (n : Nat) (y : DataW H × List MemPlace), DataW.trod enc P W base spare held n e cs = some y → ∃ z, E.rep (heapOf W) cs z)
    (h : DataW.trod enc P W base spare held fuel t [v] = some x) : ∃ l, SlR E (heapOf W) v l := by
  rcases open_slice ht h with ⟨hcs, _⟩ | ⟨a, len, cap, m, n, D, Pl, hcs, _, hl, hm, hmm, _, hi⟩
  · cases hcs
    exact ⟨[], SlR.nil _ _⟩
  · cases hcs
    have hle : len ≤ m := by rw [hmm]; split <;> omega
    rw [hC] at hi
    have hsp0 : 0 < m → a.spot = none := fun h0 => by
      obtain ⟨cs, hc, htr⟩ := hi 0 h0
      obtain ⟨_, hcl, hat⟩ := World.cells?_some hc
      have q0 := hat 0 (by omega)
      rw [List.getElem?_eq_getElem (by omega : 0 < cs.length)] at q0
      simpa [Addr.add] using (start_cell q0).1
    have each : ∀ i : Nat, ∃ y : α × List Value, i < m → a.spot = none ∧ E.rep (heapOf W) y.2 y.1 ∧ ∀ j u, y.2[j]? = some u → CellH (heapOf W) a.block (a.off + i * E.size + j) u := by
      intro i
      by_cases him : i < m
      · obtain ⟨cs, hc, htr⟩ := hi i him
        obtain ⟨z, hz⟩ := hel cs n _ htr
        obtain ⟨_, hcl, hat⟩ := World.cells?_some hc
        have hsp : a.spot = none := hsp0 (by omega)
        refine ⟨(z, cs), fun _ => ⟨hsp, hz, fun j u hu => ?_⟩⟩
        have hj : j < E.size := by
          have h9 : j < cs.length := (List.getElem?_eq_some_iff.1 hu).1
          omega
        have q := hat j hj
        rw [hu] at q
        exact cells_add (b := a.block) (o := a.off) (by cases a; simp at hsp; rw [hsp]) q
      · exact ⟨(default, []), fun h => absurd h him⟩
    obtain ⟨g, hg⟩ : ∃ g : Nat → α × List Value, ∀ i, i < m → a.spot = none ∧ E.rep (heapOf W) (g i).2 (g i).1 ∧ ∀ j u, (g i).2[j]? = some u → CellH (heapOf W) a.block (a.off + i * E.size + j) u :=
      ⟨fun i => Classical.choose (each i), fun i => Classical.choose_spec (each i)⟩
    have hll : ((List.range len).map fun i => (g i).1).length = len := by simp
    refine ⟨(List.range len).map fun i => (g i).1, some a, cap, by rw [hll], by omega, hm, fun h => (by cases h), fun i hi => ?_⟩
    rw [hll] at hi
    obtain ⟨hsp, hr, hc⟩ := hg i (by omega)
    obtain ⟨b, o, sp⟩ := a
    simp only at hsp
    subst hsp
    simp only [List.getElem_map, List.getElem_range]
    exact ⟨b, o, _, rfl, hr, hc⟩
instance : Inhabited ByteArray := ⟨ByteArray.empty⟩
instance : Inhabited ClassM := ⟨⟨ByteArray.empty, []⟩⟩
instance : Inhabited ChangeM := ⟨⟨0, ByteArray.empty, ByteArray.empty, ByteArray.empty, ⟨0, 0, ByteArray.empty⟩⟩⟩
variable {W : World} {base : Nat} {spare : Nat → Bool} {held : Bool} {t e : TypeId} {fuel : Nat} {v : Value} {x : DataW H × List MemPlace}
/-- Texts that came in. -/
theorem open_strs (ht : P.underlying t = some (.slice e)) (he : P.underlying e = some .string) (hc : P.cellsOf e = 1) (h : DataW.trod enc P W base spare held fuel t [v] = some x) : ∃ l, SlR encStr (heapOf W) v l :=
  open_rows encStr (by decide) ht hc (fun cs n y hy => by
    obtain ⟨s, rfl, _, hw⟩ := DataW.trod_string he hy
    exact ⟨s, rfl, hw⟩) h
/-- A value that came in. -/
theorem el_val {cs : List Value} {f0 f1 f2 : Field} (he : P.underlying e = some (.struct #[f0, f1, f2])) (hC : P.cellsOf e = 3)
    (o0 : (f0.offset, P.cellsOf f0.type) = (0, 1)) (o1 : (f1.offset, P.cellsOf f1.type) = (1, 1)) (o2 : (f2.offset, P.cellsOf f2.type) = (2, 1))
    (k0 : P.underlying f0.type = some (.int .u8)) (k1 : P.underlying f1.type = some (.int .i64)) (k2 : P.underlying f2.type = some .string)
    (h : DataW.trod enc P W base spare held fuel e cs = some x) : ∃ z : ValM, encVal.rep (heapOf W) cs z := by
  obtain ⟨ys, n', _, _, hcl, hys, hf⟩ := DataW.trod_struct he h
  rw [hC] at hcl
  simp only [Prod.mk.injEq] at o0 o1 o2
  have g0 := hf 0 f0 rfl
  have g1 := hf 1 f1 rfl
  have g2 := hf 2 f2 rfl
  rw [o0.1, o0.2] at g0
  rw [o1.1, o1.2] at g1
  rw [o2.1, o2.2] at g2
  match cs, hcl with
  | [c0, c1, c2], _ =>
    match ys, hys with
    | [y0, y1, y2], _ =>
      obtain ⟨n0, e0, _, w0⟩ := DataW.trod_int k0 (x := y0) (by simpa using g0)
      obtain ⟨n1, e1, _, w1⟩ := DataW.trod_int k1 (x := y1) (by simpa using g1)
      obtain ⟨s2, e2, _, w2⟩ := DataW.trod_string k2 (x := y2) (by simpa using g2)
      simp only [List.cons.injEq, and_true] at e0 e1 e2
      subst e0; subst e1; subst e2
      obtain ⟨a1, a2⟩ := u8_of_wf w0
      exact ⟨⟨n0.toNat, n1, s2⟩, by simp [ValM.cs, a2], ⟨a1, I64_of_wf w1, w2⟩⟩
end
section
variable {H : Type} {enc : TypeId × Value → H} {W : World} {base : Nat} {spare : Nat → Bool} {held : Bool} {fuel : Nat} {v : Value} {x : DataW H × List MemPlace}
set_option maxRecDepth 100000 in
/-- A class that came in. -/
theorem el_class {cs : List Value} (h : DataW.trod enc Tryz.prog W base spare held fuel 39 cs = some x) : ∃ z : ClassM, encClass.rep (heapOf W) cs z := by
  obtain ⟨ys, n', _, _, hcl, hys, hf⟩ := DataW.trod_struct Tryz.underlying39 h
  rw [show Tryz.prog.cellsOf 39 = 2 from by kernel_rfl] at hcl
  have g0 : DataW.trod enc Tryz.prog W base spare held n' 9 ((cs.drop 0).take (Tryz.prog.cellsOf 9)) = ys[0]? := hf 0 _ rfl
  have g1 : DataW.trod enc Tryz.prog W base spare held n' 23 ((cs.drop 1).take (Tryz.prog.cellsOf 23)) = ys[1]? := hf 1 _ rfl
  simp only [show Tryz.prog.cellsOf 9 = 1 from by kernel_rfl, show Tryz.prog.cellsOf 23 = 1 from by kernel_rfl] at g0 g1
  match cs, hcl with
  | [c0, c1], _ =>
    match ys, hys with
    | [y0, y1], _ =>
      obtain ⟨s0, e0, _, w0⟩ := DataW.trod_string Tryz.underlying9 (x := y0) (by simpa using g0)
      obtain ⟨l, hl⟩ := open_strs Tryz.underlying23 Tryz.underlying9 (by kernel_rfl) (x := y1) (v := c1) (by simpa using g1)
      simp only [List.cons.injEq, and_true] at e0
      subst e0
      exact ⟨⟨s0, l⟩, c1, rfl, w0, hl⟩
set_option maxRecDepth 100000 in
theorem open_classes (h : DataW.trod enc Tryz.prog W base spare held fuel 22 [v] = some x) : ∃ l, SlR encClass (heapOf W) v l :=
  open_rows encClass (by decide) Tryz.underlying22 (by kernel_rfl) (fun cs n y hy => el_class hy) h
set_option maxRecDepth 100000 in
/-- A change that came in. -/
theorem el_change {cs : List Value} (h : DataW.trod enc Tryz.prog W base spare held fuel 43 cs = some x) : ∃ z : ChangeM, encChange.rep (heapOf W) cs z := by
  obtain ⟨ys, n', _, _, hcl, hys, hf⟩ := DataW.trod_struct Tryz.underlying43 h
  rw [show Tryz.prog.cellsOf 43 = 7 from by kernel_rfl] at hcl
  have g0 : DataW.trod enc Tryz.prog W base spare held n' 5 ((cs.drop 0).take (Tryz.prog.cellsOf 5)) = ys[0]? := hf 0 _ rfl
  have g1 : DataW.trod enc Tryz.prog W base spare held n' 9 ((cs.drop 1).take (Tryz.prog.cellsOf 9)) = ys[1]? := hf 1 _ rfl
  have g2 : DataW.trod enc Tryz.prog W base spare held n' 9 ((cs.drop 2).take (Tryz.prog.cellsOf 9)) = ys[2]? := hf 2 _ rfl
  have g3 : DataW.trod enc Tryz.prog W base spare held n' 9 ((cs.drop 3).take (Tryz.prog.cellsOf 9)) = ys[3]? := hf 3 _ rfl
  have g4 : DataW.trod enc Tryz.prog W base spare held n' 41 ((cs.drop 4).take (Tryz.prog.cellsOf 41)) = ys[4]? := hf 4 _ rfl
  simp only [show Tryz.prog.cellsOf 5 = 1 from by kernel_rfl, show Tryz.prog.cellsOf 9 = 1 from by kernel_rfl, show Tryz.prog.cellsOf 41 = 3 from by kernel_rfl] at g0 g1 g2 g3 g4
  match cs, hcl with
  | [c0, c1, c2, c3, c4, c5, c6], _ =>
    match ys, hys with
    | [y0, y1, y2, y3, y4], _ =>
      obtain ⟨n0, e0, _, w0⟩ := DataW.trod_int (k := .u8) Tryz.underlying5 (x := y0) (by simpa using g0)
      obtain ⟨s1, e1, _, w1⟩ := DataW.trod_string Tryz.underlying9 (x := y1) (by simpa using g1)
      obtain ⟨s2, e2, _, w2⟩ := DataW.trod_string Tryz.underlying9 (x := y2) (by simpa using g2)
      obtain ⟨s3, e3, _, w3⟩ := DataW.trod_string Tryz.underlying9 (x := y3) (by simpa using g3)
      obtain ⟨z, hz, hzf⟩ := el_val (cs := [c4, c5, c6]) Tryz.underlying41 (by kernel_rfl) (by kernel_rfl) (by kernel_rfl) (by kernel_rfl) Tryz.underlying5 Tryz.underlying3 Tryz.underlying9 (x := y4) (by simpa using g4)
      simp only [List.cons.injEq, and_true] at e0 e1 e2 e3
      simp only [ValM.cs, List.cons.injEq, and_true] at hz
      obtain ⟨rfl, rfl, rfl⟩ := hz
      subst e0; subst e1; subst e2; subst e3
      obtain ⟨a1, a2⟩ := u8_of_wf w0
      exact ⟨⟨n0.toNat, s1, s2, s3, z⟩, by simp [ChangeM.cs, a2], ⟨a1, w1, w2, w3, hzf⟩⟩
set_option maxRecDepth 100000 in
theorem open_changes (h : DataW.trod enc Tryz.prog W base spare held fuel 26 [v] = some x) : ∃ l, SlR encChange (heapOf W) v l :=
  open_rows encChange (by decide) Tryz.underlying26 (by kernel_rfl) (fun cs n y hy => el_change hy) h
set_option maxRecDepth 100000 in
/-- A layout that came in. -/
theorem open_layout {r : _root_.Go.Reach} {b0 : Nat} {d : DataW H} {p : List MemPlace}
    (hv : Value.okWide Tryz.prog W r b0 25 v) (h : DataW.Trod enc Tryz.prog W base spare held 25 v d p) :
    ∃ (y : LayM) (v1 v2 : Value), v = .agg #[v1, v2] ∧ SlR encClass (heapOf W) v1 y.classes ∧ SlR encStr (heapOf W) v2 y.roots := by
  obtain ⟨v0, v1, y0, y1, n, rfl, _, _, h0, h1⟩ := open_agg2 Tryz.underlying25 (by kernel_rfl) (by kernel_rfl) hv h
  obtain ⟨l0, hl0⟩ := open_classes h0
  obtain ⟨l1, hl1⟩ := open_strs Tryz.underlying23 Tryz.underlying9 (by kernel_rfl) h1
  exact ⟨⟨l0, l1⟩, v0, v1, rfl, hl0, hl1⟩
end
end Go.Proofs.YtbioklhoolkhkabGreat
namespace Go.Proofs.YtbioklhoolkhkabGreat
set_option linter.unusedVariables false
set_option maxRecDepth 100000
open Go
def ShLits : List LitC := []
def ShT0 : List (Nat × AV) := []
def ShB0 : List (Nat × Blk) := []
def ShT1 : List (Nat × AV) := [(35, .b false), (1, .p 22 0), (2, .sl 25 0 5 5 true 7), (3, .p 29 0), (0, .b false)]
def ShB1 : List (Nat × Blk) := [(1, .cells 9 [.s [120], .s [121]]),
  (2, .cells 39 [.s [80], .sl 1 0 2 2 true 1]),
  (3, .cells 9 [.s [97], .s [98]]),
  (5, .cells 3 [.i .i64 (.ofNat 0)]),
  (6, .cells 120 [.i .u8 (.ofNat 4), .i .i64 (.ofNat 0), .ns, .i .i64 (.ofNat 0), .i .i64 (.ofNat 0), .s [], .ns, .ns, .i .u8 (.ofNat 69), .i .i64 (.negSucc 0), .sl 5 0 1 1 true 1, .i .i64 (.ofNat 0), .i .i64 (.ofNat 0), .s [], .ns, .ns]),
  (8, .cells 3 [.i .i64 (.ofNat 0)]),
  (9, .cells 120 [.i .u8 (.ofNat 4), .i .i64 (.ofNat 0), .ns, .i .i64 (.ofNat 0), .i .i64 (.ofNat 0), .s [], .ns, .ns, .i .u8 (.ofNat 69), .i .i64 (.negSucc 0), .sl 8 0 1 1 true 1, .i .i64 (.ofNat 0), .i .i64 (.ofNat 0), .s [], .ns, .ns]),
  (10, .cells 83 [.s [109, 97, 105, 110], .i .i64 (.ofNat 0), .i .i64 (.ofNat 1), .sl 6 0 2 2 true 8, .s [115, 116, 97, 114, 116], .i .i64 (.ofNat 0), .i .i64 (.ofNat 1), .sl 9 0 2 2 true 8]),
  (12, .cells 9 [.s [121], .s [122]]),
  (13, .cells 39 [.s [81], .sl 12 0 2 2 true 1]),
  (14, .cells 9 [.s [99], .s [98], .s [100]]),
  (16, .cells 3 [.i .i64 (.ofNat 0)]),
  (17, .cells 120 [.i .u8 (.ofNat 4), .i .i64 (.ofNat 0), .ns, .i .i64 (.ofNat 0), .i .i64 (.ofNat 0), .s [], .ns, .ns, .i .u8 (.ofNat 69), .i .i64 (.negSucc 0), .sl 16 0 1 1 true 1, .i .i64 (.ofNat 0), .i .i64 (.ofNat 0), .s [], .ns, .ns]),
  (19, .cells 3 [.i .i64 (.ofNat 0)]),
  (20, .cells 120 [.i .u8 (.ofNat 4), .i .i64 (.ofNat 0), .ns, .i .i64 (.ofNat 0), .i .i64 (.ofNat 0), .s [], .ns, .ns, .i .u8 (.ofNat 69), .i .i64 (.negSucc 0), .sl 19 0 1 1 true 1, .i .i64 (.ofNat 0), .i .i64 (.ofNat 0), .s [], .ns, .ns]),
  (21, .cells 83 [.s [109, 97, 105, 110], .i .i64 (.ofNat 0), .i .i64 (.ofNat 1), .sl 17 0 2 2 true 8, .s [115, 116, 97, 114, 116], .i .i64 (.ofNat 0), .i .i64 (.ofNat 1), .sl 20 0 2 2 true 8]),
  (22, .cells 50 [.sl 2 0 1 1 true 2, .ns, .sl 3 0 2 2 true 1, .sl 10 0 2 2 true 4, .sl 13 0 1 1 true 2, .ns, .sl 14 0 3 3 true 1, .sl 21 0 2 2 true 4]),
  (25, .cells 43 [.i .u8 (.ofNat 4), .s [80], .s [], .s [81], .i .u8 (.ofNat 0), .i .i64 (.ofNat 0), .s [], .i .u8 (.ofNat 2), .s [81], .s [120], .s [], .i .u8 (.ofNat 0), .i .i64 (.ofNat 0), .s [], .i .u8 (.ofNat 1), .s [81], .s [122], .s [], .i .u8 (.ofNat 1), .i .i64 (.ofNat 7), .s [], .i .u8 (.ofNat 7), .s [97], .s [], .s [99], .i .u8 (.ofNat 0), .i .i64 (.ofNat 0), .s [], .i .u8 (.ofNat 5), .s [100], .s [], .s [], .i .u8 (.ofNat 2), .i .i64 (.ofNat 1), .s []]),
  (28, .cells 41 [.i .u8 (.ofNat 1), .i .i64 (.ofNat 1), .s [], .i .u8 (.ofNat 1), .i .i64 (.ofNat 2), .s []]),
  (29, .cells 55 [.i .u8 (.ofNat 1), .s [80], .i .i64 (.ofNat 0), .sl 28 0 2 2 true 3])]
def ShT2 : List (Nat × AV) := [(1, .p 22 0), (2, .sl 25 0 5 5 true 7), (3, .p 29 0), (5, .i .i64 (.ofNat 0)), (4, .p 1347 0), (0, .b false)]
def ShB2 : List (Nat × Blk) := [(1, .cells 9 [.s [120], .s [121]]),
  (2, .cells 39 [.s [80], .sl 1 0 2 2 true 1]),
  (3, .cells 9 [.s [97], .s [98]]),
  (5, .cells 3 [.i .i64 (.ofNat 0)]),
  (6, .cells 120 [.i .u8 (.ofNat 4), .i .i64 (.ofNat 0), .ns, .i .i64 (.ofNat 0), .i .i64 (.ofNat 0), .s [], .ns, .ns, .i .u8 (.ofNat 69), .i .i64 (.negSucc 0), .sl 5 0 1 1 true 1, .i .i64 (.ofNat 0), .i .i64 (.ofNat 0), .s [], .ns, .ns]),
  (8, .cells 3 [.i .i64 (.ofNat 0)]),
  (9, .cells 120 [.i .u8 (.ofNat 4), .i .i64 (.ofNat 0), .ns, .i .i64 (.ofNat 0), .i .i64 (.ofNat 0), .s [], .ns, .ns, .i .u8 (.ofNat 69), .i .i64 (.negSucc 0), .sl 8 0 1 1 true 1, .i .i64 (.ofNat 0), .i .i64 (.ofNat 0), .s [], .ns, .ns]),
  (10, .cells 83 [.s [109, 97, 105, 110], .i .i64 (.ofNat 0), .i .i64 (.ofNat 1), .sl 6 0 2 2 true 8, .s [115, 116, 97, 114, 116], .i .i64 (.ofNat 0), .i .i64 (.ofNat 1), .sl 9 0 2 2 true 8]),
  (12, .cells 9 [.s [121], .s [122]]),
  (13, .cells 39 [.s [81], .sl 12 0 2 2 true 1]),
  (14, .cells 9 [.s [99], .s [98], .s [100]]),
  (16, .cells 3 [.i .i64 (.ofNat 0)]),
  (17, .cells 120 [.i .u8 (.ofNat 4), .i .i64 (.ofNat 0), .ns, .i .i64 (.ofNat 0), .i .i64 (.ofNat 0), .s [], .ns, .ns, .i .u8 (.ofNat 69), .i .i64 (.negSucc 0), .sl 16 0 1 1 true 1, .i .i64 (.ofNat 0), .i .i64 (.ofNat 0), .s [], .ns, .ns]),
  (19, .cells 3 [.i .i64 (.ofNat 0)]),
  (20, .cells 120 [.i .u8 (.ofNat 4), .i .i64 (.ofNat 0), .ns, .i .i64 (.ofNat 0), .i .i64 (.ofNat 0), .s [], .ns, .ns, .i .u8 (.ofNat 69), .i .i64 (.negSucc 0), .sl 19 0 1 1 true 1, .i .i64 (.ofNat 0), .i .i64 (.ofNat 0), .s [], .ns, .ns]),
  (21, .cells 83 [.s [109, 97, 105, 110], .i .i64 (.ofNat 0), .i .i64 (.ofNat 1), .sl 17 0 2 2 true 8, .s [115, 116, 97, 114, 116], .i .i64 (.ofNat 0), .i .i64 (.ofNat 1), .sl 20 0 2 2 true 8]),
  (22, .cells 50 [.sl 2 0 1 1 true 2, .ns, .sl 3 0 2 2 true 1, .sl 10 0 2 2 true 4, .sl 13 0 1 1 true 2, .ns, .sl 14 0 3 3 true 1, .sl 21 0 2 2 true 4]),
  (25, .cells 43 [.i .u8 (.ofNat 4), .s [80], .s [], .s [81], .i .u8 (.ofNat 0), .i .i64 (.ofNat 0), .s [], .i .u8 (.ofNat 2), .s [81], .s [120], .s [], .i .u8 (.ofNat 0), .i .i64 (.ofNat 0), .s [], .i .u8 (.ofNat 1), .s [81], .s [122], .s [], .i .u8 (.ofNat 1), .i .i64 (.ofNat 7), .s [], .i .u8 (.ofNat 7), .s [97], .s [], .s [99], .i .u8 (.ofNat 0), .i .i64 (.ofNat 0), .s [], .i .u8 (.ofNat 5), .s [100], .s [], .s [], .i .u8 (.ofNat 2), .i .i64 (.ofNat 1), .s []]),
  (28, .cells 41 [.i .u8 (.ofNat 1), .i .i64 (.ofNat 1), .s [], .i .u8 (.ofNat 1), .i .i64 (.ofNat 2), .s []]),
  (29, .cells 55 [.i .u8 (.ofNat 1), .s [80], .i .i64 (.ofNat 0), .sl 28 0 2 2 true 3]),
  (1327, .cells 41 [.i .u8 (.ofNat 1), .i .i64 (.ofNat 2), .s [], .i .u8 (.ofNat 1), .i .i64 (.ofNat 7), .s []]),
  (1347, .cells 55 [.i .u8 (.ofNat 1), .s [81], .i .i64 (.ofNat 0), .sl 1327 0 2 2 false 3])]
def ShT3 : List (Nat × AV) := [(5, .i .i64 (.ofNat 0)), (4, .p 1347 0), (7, .i .i64 (.ofNat 0)), (6, .p 2989 0), (1, .p 22 0), (0, .b false)]
def ShB3 : List (Nat × Blk) := [(1, .cells 9 [.s [120], .s [121]]),
  (2, .cells 39 [.s [80], .sl 1 0 2 2 true 1]),
  (3, .cells 9 [.s [97], .s [98]]),
  (5, .cells 3 [.i .i64 (.ofNat 0)]),
  (6, .cells 120 [.i .u8 (.ofNat 4), .i .i64 (.ofNat 0), .ns, .i .i64 (.ofNat 0), .i .i64 (.ofNat 0), .s [], .ns, .ns, .i .u8 (.ofNat 69), .i .i64 (.negSucc 0), .sl 5 0 1 1 true 1, .i .i64 (.ofNat 0), .i .i64 (.ofNat 0), .s [], .ns, .ns]),
  (8, .cells 3 [.i .i64 (.ofNat 0)]),
  (9, .cells 120 [.i .u8 (.ofNat 4), .i .i64 (.ofNat 0), .ns, .i .i64 (.ofNat 0), .i .i64 (.ofNat 0), .s [], .ns, .ns, .i .u8 (.ofNat 69), .i .i64 (.negSucc 0), .sl 8 0 1 1 true 1, .i .i64 (.ofNat 0), .i .i64 (.ofNat 0), .s [], .ns, .ns]),
  (10, .cells 83 [.s [109, 97, 105, 110], .i .i64 (.ofNat 0), .i .i64 (.ofNat 1), .sl 6 0 2 2 true 8, .s [115, 116, 97, 114, 116], .i .i64 (.ofNat 0), .i .i64 (.ofNat 1), .sl 9 0 2 2 true 8]),
  (12, .cells 9 [.s [121], .s [122]]),
  (13, .cells 39 [.s [81], .sl 12 0 2 2 true 1]),
  (14, .cells 9 [.s [99], .s [98], .s [100]]),
  (16, .cells 3 [.i .i64 (.ofNat 0)]),
  (17, .cells 120 [.i .u8 (.ofNat 4), .i .i64 (.ofNat 0), .ns, .i .i64 (.ofNat 0), .i .i64 (.ofNat 0), .s [], .ns, .ns, .i .u8 (.ofNat 69), .i .i64 (.negSucc 0), .sl 16 0 1 1 true 1, .i .i64 (.ofNat 0), .i .i64 (.ofNat 0), .s [], .ns, .ns]),
  (19, .cells 3 [.i .i64 (.ofNat 0)]),
  (20, .cells 120 [.i .u8 (.ofNat 4), .i .i64 (.ofNat 0), .ns, .i .i64 (.ofNat 0), .i .i64 (.ofNat 0), .s [], .ns, .ns, .i .u8 (.ofNat 69), .i .i64 (.negSucc 0), .sl 19 0 1 1 true 1, .i .i64 (.ofNat 0), .i .i64 (.ofNat 0), .s [], .ns, .ns]),
  (21, .cells 83 [.s [109, 97, 105, 110], .i .i64 (.ofNat 0), .i .i64 (.ofNat 1), .sl 17 0 2 2 true 8, .s [115, 116, 97, 114, 116], .i .i64 (.ofNat 0), .i .i64 (.ofNat 1), .sl 20 0 2 2 true 8]),
  (22, .cells 50 [.sl 2 0 1 1 true 2, .ns, .sl 3 0 2 2 true 1, .sl 10 0 2 2 true 4, .sl 13 0 1 1 true 2, .ns, .sl 14 0 3 3 true 1, .sl 21 0 2 2 true 4]),
  (1327, .cells 41 [.i .u8 (.ofNat 1), .i .i64 (.ofNat 2), .s [], .i .u8 (.ofNat 1), .i .i64 (.ofNat 7), .s []]),
  (1347, .cells 55 [.i .u8 (.ofNat 1), .s [81], .i .i64 (.ofNat 0), .sl 1327 0 2 2 false 3]),
  (2512, .cells 41 [.i .u8 (.ofNat 1), .i .i64 (.ofNat 5), .s [], .i .u8 (.ofNat 3), .i .i64 (.ofNat 0), .s [120], .i .u8 (.ofNat 2), .i .i64 (.ofNat 1), .s []]),
  (2519, .cells 41 [.i .u8 (.ofNat 1), .i .i64 (.ofNat 2), .s [], .i .u8 (.ofNat 1), .i .i64 (.ofNat 7), .s []]),
  (2540, .cells 55 [.i .u8 (.ofNat 1), .s [81], .i .i64 (.ofNat 0), .sl 2519 0 2 2 false 3]),
  (2541, .cells 41 [.i .u8 (.ofNat 0), .i .i64 (.ofNat 0), .s []]),
  (2543, .cells 101 [.s [109, 97, 105, 110], .i .i64 (.ofNat 0), .sl 2541 0 1 1 true 3, .ns]),
  (2544, .cells 104 [.i .i64 (.ofNat 1), .sl 2543 0 1 1 true 4]),
  (2989, .cells 64 [.i .i64 (.ofNat 2), .sl 2544 0 1 1 true 2, .sl 2512 0 3 3 true 3, .sl 2540 0 1 1 false 4])]
def ShT4 : List (Nat × AV) := [(1, .p 22 0), (10, .i .i64 (.ofNat 1)), (11, .i .i64 (.ofNat 6)), (0, .b false)]
def ShB4 : List (Nat × Blk) := [(1, .cells 9 [.s [120], .s [121]]),
  (2, .cells 39 [.s [80], .sl 1 0 2 2 true 1]),
  (3, .cells 9 [.s [97], .s [98]]),
  (5, .cells 3 [.i .i64 (.ofNat 0)]),
  (6, .cells 120 [.i .u8 (.ofNat 4), .i .i64 (.ofNat 0), .ns, .i .i64 (.ofNat 0), .i .i64 (.ofNat 0), .s [], .ns, .ns, .i .u8 (.ofNat 69), .i .i64 (.negSucc 0), .sl 5 0 1 1 true 1, .i .i64 (.ofNat 0), .i .i64 (.ofNat 0), .s [], .ns, .ns]),
  (8, .cells 3 [.i .i64 (.ofNat 0)]),
  (9, .cells 120 [.i .u8 (.ofNat 4), .i .i64 (.ofNat 0), .ns, .i .i64 (.ofNat 0), .i .i64 (.ofNat 0), .s [], .ns, .ns, .i .u8 (.ofNat 69), .i .i64 (.negSucc 0), .sl 8 0 1 1 true 1, .i .i64 (.ofNat 0), .i .i64 (.ofNat 0), .s [], .ns, .ns]),
  (10, .cells 83 [.s [109, 97, 105, 110], .i .i64 (.ofNat 0), .i .i64 (.ofNat 1), .sl 6 0 2 2 true 8, .s [115, 116, 97, 114, 116], .i .i64 (.ofNat 0), .i .i64 (.ofNat 1), .sl 9 0 2 2 true 8]),
  (12, .cells 9 [.s [121], .s [122]]),
  (13, .cells 39 [.s [81], .sl 12 0 2 2 true 1]),
  (14, .cells 9 [.s [99], .s [98], .s [100]]),
  (16, .cells 3 [.i .i64 (.ofNat 0)]),
  (17, .cells 120 [.i .u8 (.ofNat 4), .i .i64 (.ofNat 0), .ns, .i .i64 (.ofNat 0), .i .i64 (.ofNat 0), .s [], .ns, .ns, .i .u8 (.ofNat 69), .i .i64 (.negSucc 0), .sl 16 0 1 1 true 1, .i .i64 (.ofNat 0), .i .i64 (.ofNat 0), .s [], .ns, .ns]),
  (19, .cells 3 [.i .i64 (.ofNat 0)]),
  (20, .cells 120 [.i .u8 (.ofNat 4), .i .i64 (.ofNat 0), .ns, .i .i64 (.ofNat 0), .i .i64 (.ofNat 0), .s [], .ns, .ns, .i .u8 (.ofNat 69), .i .i64 (.negSucc 0), .sl 19 0 1 1 true 1, .i .i64 (.ofNat 0), .i .i64 (.ofNat 0), .s [], .ns, .ns]),
  (21, .cells 83 [.s [109, 97, 105, 110], .i .i64 (.ofNat 0), .i .i64 (.ofNat 1), .sl 17 0 2 2 true 8, .s [115, 116, 97, 114, 116], .i .i64 (.ofNat 0), .i .i64 (.ofNat 1), .sl 20 0 2 2 true 8]),
  (22, .cells 50 [.sl 2 0 1 1 true 2, .ns, .sl 3 0 2 2 true 1, .sl 10 0 2 2 true 4, .sl 13 0 1 1 true 2, .ns, .sl 14 0 3 3 true 1, .sl 21 0 2 2 true 4])]
def ShT5 : List (Nat × AV) := [(0, .b true)]
def ShB5 : List (Nat × Blk) := []
end Go.Proofs.YtbioklhoolkhkabGreat
namespace Go.Proofs.YtbioklhoolkhkabGreat
set_option linter.unusedVariables false
set_option maxRecDepth 100000
open Go
noncomputable def ShEnv : Env := envOf Tryz.prog [(219, [.int .i64, .int .i64, .int .i64, .int .i64]), (41, [.int .i64, .int .i64, .string])] (treeOf []) ShLits
end Go.Proofs.YtbioklhoolkhkabGreat
