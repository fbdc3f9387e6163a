/- The frame of the laws' proofs: arguments opened (lists of deeds), the row's last step. No program's function in sight. The frame of the laws' proofs: deeds that came in, and what a law is given. No program's function in sight. -/
import Derived.Test.YthipkmmdjhpklaaK09
import Derived.ProofKit
import Derived.Below
import Derived.ChangeSame
import Derived.SliceStrings
import Derived.Lib.SmallJoins
import Derived.ChangeSlices
import Derived.Deep.Slices
import Derived.Deep.Fields
namespace Go.Proofs.Ythipkmmdjhpklaa
set_option linter.unusedVariables false
set_option linter.unusedSimpArgs false
open Go.ChangeShapes Go.WideShapes Go.ChangeAt Go.RowKit Go.Joins Go.Deep

theorem Try.own : ownKnob Try.prog.godebug = none := by kernel_rfl
theorem Try.laidOut : laidOutB Try.prog = true := by kernel_rfl

section
variable {H : Type} {enc : TypeId × Value → H} {P : Program}
theorem post_of_below {f : Func} {s : ChangeSpec} {apart fresh handsOn again : Bool} {W W' : World} {args : Array Value} {v : Value} {ds gs : List (DataW H)} {before pa pv : List MemPlace}
    (hW : DataW.Whole enc P f.params.toList s.vars apart W args.toList ds gs before)
    (hres : ∀ (b : Nat) (sp : Nat → Bool) (hd : Bool), DataW.TrodAll enc P W' b sp hd f.resultTypes.toList (v.resultList f.resultTypes.size) (s.fn H (ds ++ gs)).results [])
    (hargs : ∀ sp : Nat → Bool, (∀ p ∈ before, sp p.block = true) → DataW.TrodAll enc P W' 0 sp true f.params.toList args.toList (s.fn H (ds ++ gs)).args pa)
    (hvars : ∀ sp : Nat → Bool, (∀ p ∈ before, sp p.block = true) → DataW.TrodVars enc P W' sp s.vars (s.fn H (ds ++ gs)).vars pv)
    (hps : before = pa ++ pv) (hb : Below W.heap.size W W')
    (hok : ∀ (j : Nat) (t : TypeId) (r : Value), f.resultTypes[j]? = some t → (v.resultList f.resultTypes.size)[j]? = some r → Value.okWide P W' .any 0 t r) :
    s.post enc P f apart fresh handsOn again W args v W' := by
  have hlt : ∀ p ∈ before, p.block < W.heap.size := fun p hp => hW.lt p hp
  have hold : ∀ p ∈ before, (fun b => decide (b < W.heap.size)) p.block = true := fun p hp => by simpa using hlt p hp
  refine ⟨ds, gs, before, [], pa, pv, hW, hres _ _ _, hargs _ hold, hvars _ hold, World.keptBut_mono (fun p hp => ⟨hp, ?_⟩) (hb.frame (· ∈ before)), fun _ => ?_⟩
  · rw [hps, List.mem_append] at hp
    exact Or.inr hp
  · obtain ⟨_, _, _, _, _, hz, hn⟩ := hW
    refine ⟨hok, _, _, ([] ++ pa) ++ pv, ⟨[] ++ pa, pv, trodAll_append (hargs _ (fun _ _ => rfl)) (hres _ _ _), hvars _ (fun _ _ => rfl), rfl, ?_, ?_⟩, ?_⟩
    · intro b off hp
      have hin : MemPlace.cell b off ∈ before := by rw [hps]; simpa using hp
      rw [hb.frozen (hlt _ hin)]
      exact hz b off hin
    · intro ha
      have := hn ha
      rw [hps] at this
      simpa using this
    · intro p hp _
      rw [hps]
      simpa using hp

/-- The heap as it was when the call came in. -/
abbrev heapOf (W : World) : Hp := fun k => W.heap[k]?
theorem start_cell {W : World} {a : Addr} {v : Value} (h : W.cell? a = some v) : a.spot = none ∧ CellH (heapOf W) a.block a.off v := by
  have hs := World.cell?_spot h
  obtain ⟨b, o, s⟩ := a
  simp only at hs
  subst hs
  refine ⟨rfl, ?_⟩
  unfold World.cell? at h
  cases hh : W.heap[b]? with
  | none => simp [hh] at h
  | some ob =>
    cases ob <;> simp [hh] at h
    rename_i c t f
    exact ⟨c, t, f, hh, by simpa using h⟩
theorem I64_of_wf {n : Int} (h : (Lit.int .i64 n).wf = true) : I64 n := by
  simp [Lit.wf, IntKind.min, IntKind.max, IntKind.bits, IntKind.signed] at h
  unfold I64
  omega
theorem u8_of_wf {n : Int} (h : (Lit.int .u8 n).wf = true) : n.toNat < 256 ∧ (n.toNat : Int) = n := by
  simp [Lit.wf, IntKind.min, IntKind.max, IntKind.bits, IntKind.signed] at h
  omega
theorem cells_add {W : World} {b o : Nat} {i j n : Nat} {v : Value} {a : Addr} (ha : a = ⟨b, o, none⟩) (h : W.cell? ((a.add (i * n)).add j) = some v) : CellH (heapOf W) b (o + i * n + j) v := by
  subst ha
  have := (start_cell h).2
  rw [add_add, Addr.add_lit] at this
  rw [Nat.add_assoc]
  exact this
/-- A slice that came in, its elements opened one by one. -/
theorem open_rows {α : Type} [Inhabited α] (E : Enc α) (hE : 0 < E.size) {W : World} {base : Nat} {spare : Nat → Bool} {held : Bool} {t e : TypeId} {fuel : Nat} {v : Value} {x : DataW H × List MemPlace} (ht : P.underlying t = some (.slice e)) (hC : P.cellsOf e = E.size)
    (hel : ∀ (cs : List Value) (n : Nat) (y : DataW H × List MemPlace), DataW.trod enc P W base spare held n e cs = some y → ∃ z, E.rep (heapOf W) cs z)
    (h : DataW.trod enc P W base spare held fuel t [v] = some x) : ∃ l, SlR E (heapOf W) v l := by
  rcases open_slice ht h with ⟨hcs, _⟩ | ⟨a, len, cap, m, n, D, Pl, hcs, _, hl, hm, hmm, _, hi⟩
  · cases hcs
    exact ⟨[], SlR.nil _ _⟩
  · cases hcs
    have hle : len ≤ m := by rw [hmm]; split <;> omega
    rw [hC] at hi
    have hsp0 : 0 < m → a.spot = none := fun h0 => by
      obtain ⟨cs, hc, htr⟩ := hi 0 h0
      obtain ⟨_, hcl, hat⟩ := World.cells?_some hc
      have q0 := hat 0 (by omega)
      rw [List.getElem?_eq_getElem (by omega : 0 < cs.length)] at q0
      simpa [Addr.add] using (start_cell q0).1
    have each : ∀ i : Nat, ∃ y : α × List Value, i < m → a.spot = none ∧ E.rep (heapOf W) y.2 y.1 ∧ ∀ j u, y.2[j]? = some u → CellH (heapOf W) a.block (a.off + i * E.size + j) u := by
      intro i
      by_cases him : i < m
      · obtain ⟨cs, hc, htr⟩ := hi i him
        obtain ⟨z, hz⟩ := hel cs n _ htr
        obtain ⟨_, hcl, hat⟩ := World.cells?_some hc
        have hsp : a.spot = none := hsp0 (by omega)
        refine ⟨(z, cs), fun _ => ⟨hsp, hz, fun j u hu => ?_⟩⟩
        have hj : j < E.size := by
          have h9 : j < cs.length := (List.getElem?_eq_some_iff.1 hu).1
          omega
        have q := hat j hj
        rw [hu] at q
        exact cells_add (b := a.block) (o := a.off) (by cases a; simp at hsp; rw [hsp]) q
      · exact ⟨(default, []), fun h => absurd h him⟩
    obtain ⟨g, hg⟩ : ∃ g : Nat → α × List Value, ∀ i, i < m → a.spot = none ∧ E.rep (heapOf W) (g i).2 (g i).1 ∧ ∀ j u, (g i).2[j]? = some u → CellH (heapOf W) a.block (a.off + i * E.size + j) u :=
      ⟨fun i => Classical.choose (each i), fun i => Classical.choose_spec (each i)⟩
    have hll : ((List.range len).map fun i => (g i).1).length = len := by simp
    refine ⟨(List.range len).map fun i => (g i).1, some a, cap, by rw [hll], by omega, hm, fun h => (by cases h), fun i hi => ?_⟩
    rw [hll] at hi
    obtain ⟨hsp, hr, hc⟩ := hg i (by omega)
    obtain ⟨b, o, sp⟩ := a
    simp only at hsp
    subst hsp
    simp only [List.getElem_map, List.getElem_range]
    exact ⟨b, o, _, rfl, hr, hc⟩
instance : Inhabited ValM := ⟨⟨0, 0, ByteArray.empty⟩⟩
instance : Inhabited ObjM := ⟨⟨0, ByteArray.empty, 0, []⟩⟩
instance : Inhabited DeedM := ⟨⟨0, 0, 0, 0, [], default, default⟩⟩
variable {W : World} {base : Nat} {spare : Nat → Bool} {held : Bool} {t e : TypeId} {fuel : Nat} {v : Value} {x : DataW H × List MemPlace}
/-- Integers that came in. -/
theorem open_intsR (ht : P.underlying t = some (.slice e)) (he : P.underlying e = some (.int .i64)) (hc : P.cellsOf e = 1) (h : DataW.trod enc P W base spare held fuel t [v] = some x) : ∃ l, SlR encInt (heapOf W) v l :=
  open_rows encInt (by decide) ht hc (fun cs n y hy => by
    obtain ⟨k, rfl, _, hw⟩ := DataW.trod_int he hy
    exact ⟨k, rfl, I64_of_wf hw⟩) h
/-- A value that came in. -/
theorem el_val {cs : List Value} {f0 f1 f2 : Field} (he : P.underlying e = some (.struct #[f0, f1, f2])) (hC : P.cellsOf e = 3)
    (o0 : (f0.offset, P.cellsOf f0.type) = (0, 1)) (o1 : (f1.offset, P.cellsOf f1.type) = (1, 1)) (o2 : (f2.offset, P.cellsOf f2.type) = (2, 1))
    (k0 : P.underlying f0.type = some (.int .u8)) (k1 : P.underlying f1.type = some (.int .i64)) (k2 : P.underlying f2.type = some .string)
    (h : DataW.trod enc P W base spare held fuel e cs = some x) : ∃ z : ValM, encVal.rep (heapOf W) cs z := by
  obtain ⟨ys, n', _, _, hcl, hys, hf⟩ := DataW.trod_struct he h
  rw [hC] at hcl
  simp only [Prod.mk.injEq] at o0 o1 o2
  have g0 := hf 0 f0 rfl
  have g1 := hf 1 f1 rfl
  have g2 := hf 2 f2 rfl
  rw [o0.1, o0.2] at g0
  rw [o1.1, o1.2] at g1
  rw [o2.1, o2.2] at g2
  match cs, hcl with
  | [c0, c1, c2], _ =>
    match ys, hys with
    | [y0, y1, y2], _ =>
      obtain ⟨n0, e0, _, w0⟩ := DataW.trod_int k0 (x := y0) (by simpa using g0)
      obtain ⟨n1, e1, _, w1⟩ := DataW.trod_int k1 (x := y1) (by simpa using g1)
      obtain ⟨s2, e2, _, w2⟩ := DataW.trod_string k2 (x := y2) (by simpa using g2)
      simp only [List.cons.injEq, and_true] at e0 e1 e2
      subst e0; subst e1; subst e2
      obtain ⟨a1, a2⟩ := u8_of_wf w0
      exact ⟨⟨n0.toNat, n1, s2⟩, by simp [ValM.cs, a2], ⟨a1, I64_of_wf w1, w2⟩⟩
/-- Values that came in. -/
theorem open_vals {f0 f1 f2 : Field} (ht : P.underlying t = some (.slice e)) (he : P.underlying e = some (.struct #[f0, f1, f2])) (hC : P.cellsOf e = 3)
    (o0 : (f0.offset, P.cellsOf f0.type) = (0, 1)) (o1 : (f1.offset, P.cellsOf f1.type) = (1, 1)) (o2 : (f2.offset, P.cellsOf f2.type) = (2, 1))
    (k0 : P.underlying f0.type = some (.int .u8)) (k1 : P.underlying f1.type = some (.int .i64)) (k2 : P.underlying f2.type = some .string)
    (h : DataW.trod enc P W base spare held fuel t [v] = some x) : ∃ l, SlR encVal (heapOf W) v l :=
  open_rows encVal (by decide) ht hC (fun cs n y hy => el_val he hC o0 o1 o2 k0 k1 k2 hy) h
/-- A slot's object that came in. -/
theorem el_obj {cs : List Value} {ve : TypeId} {f0 f1 f2 f3 : Field} {v0 v1 v2 : Field} (he : P.underlying e = some (.struct #[f0, f1, f2, f3])) (hC : P.cellsOf e = 4)
    (o0 : (f0.offset, P.cellsOf f0.type) = (0, 1)) (o1 : (f1.offset, P.cellsOf f1.type) = (1, 1)) (o2 : (f2.offset, P.cellsOf f2.type) = (2, 1)) (o3 : (f3.offset, P.cellsOf f3.type) = (3, 1))
    (k0 : P.underlying f0.type = some (.int .u8)) (k1 : P.underlying f1.type = some .string) (k2 : P.underlying f2.type = some (.int .i64))
    (kv : P.underlying f3.type = some (.slice ve)) (hve : P.underlying ve = some (.struct #[v0, v1, v2])) (hvC : P.cellsOf ve = 3)
    (p0 : (v0.offset, P.cellsOf v0.type) = (0, 1)) (p1 : (v1.offset, P.cellsOf v1.type) = (1, 1)) (p2 : (v2.offset, P.cellsOf v2.type) = (2, 1))
    (l0 : P.underlying v0.type = some (.int .u8)) (l1 : P.underlying v1.type = some (.int .i64)) (l2 : P.underlying v2.type = some .string)
    (h : DataW.trod enc P W base spare held fuel e cs = some x) : ∃ z : ObjM, encObj.rep (heapOf W) cs z := by
  obtain ⟨ys, n', _, _, hcl, hys, hf⟩ := DataW.trod_struct he h
  rw [hC] at hcl
  simp only [Prod.mk.injEq] at o0 o1 o2 o3
  have g0 := hf 0 f0 rfl
  have g1 := hf 1 f1 rfl
  have g2 := hf 2 f2 rfl
  have g3 := hf 3 f3 rfl
  rw [o0.1, o0.2] at g0
  rw [o1.1, o1.2] at g1
  rw [o2.1, o2.2] at g2
  rw [o3.1, o3.2] at g3
  match cs, hcl with
  | [c0, c1, c2, c3], _ =>
    match ys, hys with
    | [y0, y1, y2, y3], _ =>
      obtain ⟨n0, e0, _, w0⟩ := DataW.trod_int k0 (x := y0) (by simpa using g0)
      obtain ⟨s1, e1, _, w1⟩ := DataW.trod_string k1 (x := y1) (by simpa using g1)
      obtain ⟨n2, e2, _, w2⟩ := DataW.trod_int k2 (x := y2) (by simpa using g2)
      obtain ⟨l, hl⟩ := open_vals kv hve hvC p0 p1 p2 l0 l1 l2 (x := y3) (v := c3) (by simpa using g3)
      simp only [List.cons.injEq, and_true] at e0 e1 e2
      subst e0; subst e1; subst e2
      obtain ⟨a1, a2⟩ := u8_of_wf w0
      exact ⟨⟨n0.toNat, s1, n2, l⟩, c3, by simp [a2], ⟨a1, I64_of_wf w2, w1⟩, hl⟩
end
end Go.Proofs.Ythipkmmdjhpklaa
namespace Go.Proofs.Ythipkmmdjhpklaa
set_option linter.unusedVariables false
set_option linter.unusedSimpArgs false
open Go.ChangeShapes Go.WideShapes Go.ChangeAt Go.RowKit Go.Joins Go.Deep

set_option maxRecDepth 100000 in
/-- A deed that came in. -/
theorem el_deed {H : Type} {enc : TypeId × Value → H} {W : World} {base : Nat} {spare : Nat → Bool} {held : Bool} {fuel : Nat} {x : DataW H × List MemPlace} {cs : List Value}
    (h : DataW.trod enc Try.prog W base spare held fuel 52 cs = some x) : ∃ z : DeedM, encDeed.rep (heapOf W) cs z := by
  obtain ⟨ys, n', _, _, hcl, hys, hf⟩ := DataW.trod_struct Try.underlying52 h
  rw [show Try.prog.cellsOf 52 = 12 from by kernel_rfl] at hcl
  have g0 : DataW.trod enc Try.prog W base spare held n' 5 ((cs.drop 0).take (Try.prog.cellsOf 5)) = ys[0]? := hf 0 _ rfl
  have g1 : DataW.trod enc Try.prog W base spare held n' 3 ((cs.drop 1).take (Try.prog.cellsOf 3)) = ys[1]? := hf 1 _ rfl
  have g2 : DataW.trod enc Try.prog W base spare held n' 3 ((cs.drop 2).take (Try.prog.cellsOf 3)) = ys[2]? := hf 2 _ rfl
  have g3 : DataW.trod enc Try.prog W base spare held n' 3 ((cs.drop 3).take (Try.prog.cellsOf 3)) = ys[3]? := hf 3 _ rfl
  have g4 : DataW.trod enc Try.prog W base spare held n' 46 ((cs.drop 4).take (Try.prog.cellsOf 46)) = ys[4]? := hf 4 _ rfl
  have g5 : DataW.trod enc Try.prog W base spare held n' 48 ((cs.drop 5).take (Try.prog.cellsOf 48)) = ys[5]? := hf 5 _ rfl
  have g6 : DataW.trod enc Try.prog W base spare held n' 50 ((cs.drop 9).take (Try.prog.cellsOf 50)) = ys[6]? := hf 6 _ rfl
  simp only [show Try.prog.cellsOf 5 = 1 from by kernel_rfl, show Try.prog.cellsOf 3 = 1 from by kernel_rfl, show Try.prog.cellsOf 46 = 1 from by kernel_rfl, show Try.prog.cellsOf 48 = 4 from by kernel_rfl, show Try.prog.cellsOf 50 = 3 from by kernel_rfl] at g0 g1 g2 g3 g4 g5 g6
  match cs, hcl with
  | [c0, c1, c2, c3, c4, c5, c6, c7, c8, c9, c10, c11], _ =>
    match ys, hys with
    | [y0, y1, y2, y3, y4, y5, y6], _ =>
      obtain ⟨n0, e0, _, w0⟩ := DataW.trod_int (k := .u8) Try.underlying5 (x := y0) (by simpa using g0)
      obtain ⟨n1, e1, _, w1⟩ := DataW.trod_int (k := .i64) Try.underlying3 (x := y1) (by simpa using g1)
      obtain ⟨n2, e2, _, w2⟩ := DataW.trod_int (k := .i64) Try.underlying3 (x := y2) (by simpa using g2)
      obtain ⟨n3, e3, _, w3⟩ := DataW.trod_int (k := .i64) Try.underlying3 (x := y3) (by simpa using g3)
      obtain ⟨l, hl⟩ := open_intsR Try.underlying46 Try.underlying3 (by kernel_rfl) (x := y4) (v := c4) (by simpa using g4)
      obtain ⟨o, sv, ho, hof, hos⟩ := el_obj (cs := [c5, c6, c7, c8]) Try.underlying48 (by kernel_rfl) (by kernel_rfl) (by kernel_rfl) (by kernel_rfl) (by kernel_rfl) Try.underlying5 Try.underlying9 Try.underlying3 Try.underlying29 Try.underlying50 (by kernel_rfl) (by kernel_rfl) (by kernel_rfl) (by kernel_rfl) Try.underlying5 Try.underlying3 Try.underlying9 (x := y5) (by simpa using g5)
      obtain ⟨z, hz, hzf⟩ := el_val (cs := [c9, c10, c11]) Try.underlying50 (by kernel_rfl) (by kernel_rfl) (by kernel_rfl) (by kernel_rfl) Try.underlying5 Try.underlying3 Try.underlying9 (x := y6) (by simpa using g6)
      simp only [List.cons.injEq, and_true] at e0 e1 e2 e3 ho
      simp only [ValM.cs, List.cons.injEq, and_true] at hz
      obtain ⟨rfl, rfl, rfl, rfl⟩ := ho
      obtain ⟨rfl, rfl, rfl⟩ := hz
      subst e0; subst e1; subst e2; subst e3
      obtain ⟨a1, a2⟩ := u8_of_wf w0
      exact ⟨⟨n0.toNat, n1, n2, n3, l, o, z⟩, c4, c8, by simp [DeedM.cs, a2], ⟨a1, I64_of_wf w1, I64_of_wf w2, I64_of_wf w3, hl, hof, hos, hzf⟩⟩
set_option maxRecDepth 100000 in
/-- A list of deeds that came in. -/
theorem open_deeds {H : Type} {enc : TypeId × Value → H} {W : World} {base : Nat} {spare : Nat → Bool} {held : Bool} {fuel : Nat} {v : Value} {x : DataW H × List MemPlace}
    (h : DataW.trod enc Try.prog W base spare held fuel 22 [v] = some x) : ∃ l, SlR encDeed (heapOf W) v l :=
  open_rows encDeed (by decide) Try.underlying22 (by kernel_rfl) (fun cs n y hy => el_deed hy) h
set_option maxRecDepth 100000 in
/-- What a law is given: sizes, and deeds. -/
theorem open_played {H : Type} {enc : TypeId × Value → H} {W : World} {r : _root_.Go.Reach} {b0 base : Nat} {spare : Nat → Bool} {held : Bool} {v : Value} {d : DataW H} {p : List MemPlace}
    (hv : Value.okWide Try.prog W r b0 24 v) (h : DataW.Trod enc Try.prog W base spare held 24 v d p) :
    ∃ size regs dv ds, v = .agg #[.int .i64 size, .int .i64 regs, dv] ∧ I64 size ∧ I64 regs ∧ SlR encDeed (heapOf W) dv ds := by
  obtain ⟨v0, v1, v2, y0, y1, y2, n, rfl, _, _, h0, h1, h2⟩ := open_agg3 Try.underlying24 (by kernel_rfl) (by kernel_rfl) hv h
  obtain ⟨n0, e0, _, w0⟩ := DataW.trod_int (k := .i64) Try.underlying3 h0
  obtain ⟨n1, e1, _, w1⟩ := DataW.trod_int (k := .i64) Try.underlying3 h1
  obtain ⟨l, hl⟩ := open_deeds h2
  simp only [List.cons.injEq, and_true] at e0 e1
  subst e0; subst e1
  exact ⟨n0, n1, v2, l, rfl, I64_of_wf w0, I64_of_wf w1, hl⟩
end Go.Proofs.Ythipkmmdjhpklaa
