/- The frame of the laws' proofs: a slice of acts that came in. No program's function in sight. -/
import Derived.Test.YtpkcdkbbhiafnaaFrameB
import Derived.Test.YtpkcdkbbhiafnaaGateS
import Derived.Deep.Slices
import Derived.Deep.Fields
namespace Go.Proofs.Ytpkcdkbbhiafnaa
set_option linter.unusedVariables false
set_option linter.unusedSimpArgs false
open Go.ChangeShapes Go.WideShapes Go.ChangeAt Go.RowKit Go.Joins Go.Deep

section
variable {H : Type} {enc : TypeId × Value → H} {P : Program}
theorem cells_add {W : World} {b o : Nat} {i j n : Nat} {v : Value} {a : Addr} (ha : a = ⟨b, o, none⟩) (h : W.cell? ((a.add (i * n)).add j) = some v) : CellH (heapOf W) b (o + i * n + j) v := by
  subst ha
  have := (start_cell h).2
  rw [add_add, Addr.add_lit] at this
  rw [Nat.add_assoc]
  exact this
/-- A slice of structs of a byte, an int and a string that came in. -/
theorem open_acts {W : World} {base : Nat} {spare : Nat → Bool} {held : Bool} {t e : TypeId} {f0 f1 f2 : Field} {fuel : Nat} {v : Value} {x : DataW H × List MemPlace} (ht : P.underlying t = some (.slice e)) (he : P.underlying e = some (.struct #[f0, f1, f2]))
    (hone : oneCellFields P #[f0, f1, f2] = true) (hC : P.cellsOf e = 3) (k0 : P.underlying f0.type = some (.int .u8)) (k1 : P.underlying f1.type = some (.int .i64)) (k2 : P.underlying f2.type = some .string)
    (h : DataW.trod enc P W base spare held fuel t [v] = some x) : ∃ l, SlR encAct (heapOf W) v l := by
  rcases open_slice ht h with ⟨hcs, _⟩ | ⟨a, len, cap, m, n, D, Pl, hcs, _, hl, hm, hmm, _, hi⟩
  · cases hcs
    exact ⟨[], SlR.nil _ _⟩
  · cases hcs
    have hle : len ≤ m := by rw [hmm]; split <;> omega
    rw [hC] at hi
    have hsp0 : 0 < m → a.spot = none := fun h0 => by
      obtain ⟨cs, hc, htr⟩ := hi 0 h0
      obtain ⟨_, hcl, hat⟩ := World.cells?_some hc
      have q0 := hat 0 (by omega)
      rw [List.getElem?_eq_getElem (by omega : 0 < cs.length)] at q0
      simpa [Addr.add] using (start_cell q0).1
    have each : ∀ i : Nat, ∃ y : ActM, i < m → a.spot = none ∧ (I64 y.n ∧ y.s.size ≤ maxLen) ∧ CellH (heapOf W) a.block (a.off + i * 3) (.int .u8 y.kind.toNat) ∧ CellH (heapOf W) a.block (a.off + i * 3 + 1) (.int .i64 y.n) ∧ CellH (heapOf W) a.block (a.off + i * 3 + 2) (.string y.s) := by
      intro i
      by_cases him : i < m
      · obtain ⟨cs, hc, htr⟩ := hi i him
        obtain ⟨ys, n', _, _, _, _, hf⟩ := DataW.trod_struct he htr
        obtain ⟨_, hcl, hat⟩ := World.cells?_some hc
        match cs, hcl with
        | [c0, c1, c2], _ =>
          obtain ⟨o0, p0⟩ := hone_of hone 0 f0 rfl
          obtain ⟨o1, p1⟩ := hone_of hone 1 f1 rfl
          obtain ⟨o2, p2⟩ := hone_of hone 2 f2 rfl
          have g0 := hf 0 f0 rfl
          have g1 := hf 1 f1 rfl
          have g2 := hf 2 f2 rfl
          rw [o0, p0] at g0
          rw [o1, p1] at g1
          rw [o2, p2] at g2
          have q0 := hat 0 (by omega)
          have q1 := hat 1 (by omega)
          have q2 := hat 2 (by omega)
          have hys : ys.length = 3 := by assumption
          match ys, hys with
          | [y0, y1, y2], _ =>
            obtain ⟨n0, e0, _, w0⟩ := DataW.trod_int k0 (x := y0) (by simpa using g0)
            obtain ⟨n1, e1, _, w1⟩ := DataW.trod_int k1 (x := y1) (by simpa using g1)
            obtain ⟨s2, e2, _, w2⟩ := DataW.trod_string k2 (x := y2) (by simpa using g2)
            simp only [List.cons.injEq, and_true] at e0 e1 e2
            subst e0; subst e1; subst e2
            have hsp : a.spot = none := hsp0 (by omega)
            refine ⟨⟨UInt8.ofNat n0.toNat, n1, s2⟩, fun _ => ⟨hsp, ⟨I64_of_wf w1, w2⟩, ?_, ?_, ?_⟩⟩
            · have := cells_add (b := a.block) (o := a.off) (by cases a; simp at hsp; rw [hsp]) q0
              simp only
              rw [byte_of_wf w0]
              exact this
            · exact cells_add (b := a.block) (o := a.off) (by cases a; simp at hsp; rw [hsp]) q1
            · exact cells_add (b := a.block) (o := a.off) (by cases a; simp at hsp; rw [hsp]) q2
      · exact ⟨⟨0, 0, ByteArray.empty⟩, fun h => absurd h him⟩
    obtain ⟨g, hg⟩ : ∃ g : Nat → ActM, ∀ i, i < m → a.spot = none ∧ (I64 (g i).n ∧ (g i).s.size ≤ maxLen) ∧ CellH (heapOf W) a.block (a.off + i * 3) (.int .u8 (g i).kind.toNat) ∧ CellH (heapOf W) a.block (a.off + i * 3 + 1) (.int .i64 (g i).n) ∧ CellH (heapOf W) a.block (a.off + i * 3 + 2) (.string (g i).s) :=
      ⟨fun i => Classical.choose (each i), fun i => Classical.choose_spec (each i)⟩
    have hll : ((List.range len).map g).length = len := by simp
    refine ⟨(List.range len).map g, some a, cap, by rw [hll], by omega, hm, fun h => (by cases h), fun i hi => ?_⟩
    rw [hll] at hi
    obtain ⟨hsp, hb, c0, c1, c2⟩ := hg i (by omega)
    obtain ⟨b, o, sp⟩ := a
    simp only at hsp
    subst hsp
    simp only [List.getElem_map, List.getElem_range]
    refine ⟨b, o, _, rfl, ⟨rfl, hb.1, hb.2⟩, fun j u hu => ?_⟩
    match j, hu with
    | 0, hu => cases hu; exact c0
    | 1, hu => cases hu; exact c1
    | 2, hu => cases hu; exact c2
    | j + 3, hu => simp at hu
end
end Go.Proofs.Ytpkcdkbbhiafnaa
