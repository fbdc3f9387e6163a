/- The frame of the laws' proofs: arguments opened (lists of deeds), the row's last step. No program's function in sight. The frame of the laws' proofs: deeds that came in, and what a law is given. No program's function in sight. Plain law: in a valid heap each copy is like what was copied, and no two are one; each deed keeps it so. No program in sight. The walk: is the old half of a heap valid? The walk: the words that are due, of a heap handed over. -/
import Derived.Test.YthipkmmdjhpklaaK09
import Derived.ProofKit
import Derived.Below
import Derived.ChangeSame
import Derived.SliceStrings
import Derived.Lib.SmallJoins
import Derived.ChangeSlices
import Derived.Deep.Slices
import Derived.Deep.Fields
import Derived.Test.YthipkmmdjhpklaaK15
import Derived.Test.YthipkmmdjhpklaaK11
namespace Go.Proofs.Ythipkmmdjhpklaa
set_option linter.unusedVariables false
set_option linter.unusedSimpArgs false
open Go.ChangeShapes Go.WideShapes Go.ChangeAt Go.RowKit Go.Joins Go.Deep

theorem Try.own : ownKnob Try.prog.godebug = none := by kernel_rfl
theorem Try.laidOut : laidOutB Try.prog = true := by kernel_rfl

section
variable {H : Type} {enc : TypeId × Value → H} {P : Program}
theorem post_of_below {f : Func} {s : ChangeSpec} {apart fresh handsOn again : Bool} {W W' : World} {args : Array Value} {v : Value} {ds gs : List (DataW H)} {before pa pv : List MemPlace}
    (hW : DataW.Whole enc P f.params.toList s.vars apart W args.toList ds gs before)
    (hres : ∀ (b : Nat) (sp : Nat → Bool) (hd : Bool), DataW.TrodAll enc P W' b sp hd f.resultTypes.toList (v.resultList f.resultTypes.size) (s.fn H (ds ++ gs)).results [])
    (hargs : ∀ sp : Nat → Bool, (∀ p ∈ before, sp p.block = true) → DataW.TrodAll enc P W' 0 sp true f.params.toList args.toList (s.fn H (ds ++ gs)).args pa)
    (hvars : ∀ sp : Nat → Bool, (∀ p ∈ before, sp p.block = true) → DataW.TrodVars enc P W' sp s.vars (s.fn H (ds ++ gs)).vars pv)
    (hps : before = pa ++ pv) (hb : Below W.heap.size W W')
    (hok : ∀ (j : Nat) (t : TypeId) (r : Value), f.resultTypes[j]? = some t → (v.resultList f.resultTypes.size)[j]? = some r → Value.okWide P W' .any 0 t r) :
    s.post enc P f apart fresh handsOn again W args v W' := by
  have hlt : ∀ p ∈ before, p.block < W.heap.size := fun p hp => hW.lt p hp
  have hold : ∀ p ∈ before, (fun b => decide (b < W.heap.size)) p.block = true := fun p hp => by simpa using hlt p hp
  refine ⟨ds, gs, before, [], pa, pv, hW, hres _ _ _, hargs _ hold, hvars _ hold, World.keptBut_mono (fun p hp => ⟨hp, ?_⟩) (hb.frame (· ∈ before)), fun _ => ?_⟩
  · rw [hps, List.mem_append] at hp
    exact Or.inr hp
  · obtain ⟨_, _, _, _, _, hz, hn⟩ := hW
    refine ⟨hok, _, _, ([] ++ pa) ++ pv, ⟨[] ++ pa, pv, trodAll_append (hargs _ (fun _ _ => rfl)) (hres _ _ _), hvars _ (fun _ _ => rfl), rfl, ?_, ?_⟩, ?_⟩
    · intro b off hp
      have hin : MemPlace.cell b off ∈ before := by rw [hps]; simpa using hp
      rw [hb.frozen (hlt _ hin)]
      exact hz b off hin
    · intro ha
      have := hn ha
      rw [hps] at this
      simpa using this
    · intro p hp _
      rw [hps]
      simpa using hp

/-- The heap as it was when the call came in. -/
abbrev heapOf (W : World) : Hp := fun k => W.heap[k]?
theorem start_cell {W : World} {a : Addr} {v : Value} (h : W.cell? a = some v) : a.spot = none ∧ CellH (heapOf W) a.block a.off v := by
  have hs := World.cell?_spot h
  obtain ⟨b, o, s⟩ := a
  simp only at hs
  subst hs
  refine ⟨rfl, ?_⟩
  unfold World.cell? at h
  cases hh : W.heap[b]? with
  | none => simp [hh] at h
  | some ob =>
    cases ob <;> simp [hh] at h
    rename_i c t f
    exact ⟨c, t, f, hh, by simpa using h⟩
theorem I64_of_wf {n : Int} (h : (Lit.int .i64 n).wf = true) : I64 n := by
  simp [Lit.wf, IntKind.min, IntKind.max, IntKind.bits, IntKind.signed] at h
  unfold I64
  omega
theorem u8_of_wf {n : Int} (h : (Lit.int .u8 n).wf = true) : n.toNat < 256 ∧ (n.toNat : Int) = n := by
  simp [Lit.wf, IntKind.min, IntKind.max, IntKind.bits, IntKind.signed] at h
  omega
theorem cells_add {W : World} {b o : Nat} {i j n : Nat} {v : Value} {a : Addr} (ha : a = ⟨b, o, none⟩) (h : W.cell? ((a.add (i * n)).add j) = some v) : CellH (heapOf W) b (o + i * n + j) v := by
  subst ha
  have := (start_cell h).2
  rw [add_add, Addr.add_lit] at this
  rw [Nat.add_assoc]
  exact this
/-- A slice that came in, its elements opened one by one. -/
theorem open_rows {α : Type} [Inhabited α] (E : Enc α) (hE : 0 < E.size) {W : World} {base : Nat} {spare : Nat → Bool} {held : Bool} {t e : TypeId} {fuel : Nat} {v : Value} {x : DataW H × List MemPlace} (ht : P.underlying t = some (.slice e)) (hC : P.cellsOf e = E.size)
    (hel : ∀ (cs : List Value) (n : Nat) (y : DataW H × List MemPlace), DataW.trod enc P W base spare held n e cs = some y → ∃ z, E.rep (heapOf W) cs z)
    (h : DataW.trod enc P W base spare held fuel t [v] = some x) : ∃ l, SlR E (heapOf W) v l := by
  rcases open_slice ht h with ⟨hcs, _⟩ | ⟨a, len, cap, m, n, D, Pl, hcs, _, hl, hm, hmm, _, hi⟩
  · cases hcs
    exact ⟨[], SlR.nil _ _⟩
  · cases hcs
    have hle : len ≤ m := by rw [hmm]; split <;> omega
    rw [hC] at hi
    have hsp0 : 0 < m → a.spot = none := fun h0 => by
      obtain ⟨cs, hc, htr⟩ := hi 0 h0
      obtain ⟨_, hcl, hat⟩ := World.cells?_some hc
      have q0 := hat 0 (by omega)
      rw [List.getElem?_eq_getElem (by omega : 0 < cs.length)] at q0
      simpa [Addr.add] using (start_cell q0).1
    have each : ∀ i : Nat, ∃ y : α × List Value, i < m → a.spot = none ∧ E.rep (heapOf W) y.2 y.1 ∧ ∀ j u, y.2[j]? = some u → CellH (heapOf W) a.block (a.off + i * E.size + j) u := by
      intro i
      by_cases him : i < m
      · obtain ⟨cs, hc, htr⟩ := hi i him
        obtain ⟨z, hz⟩ := hel cs n _ htr
        obtain ⟨_, hcl, hat⟩ := World.cells?_some hc
        have hsp : a.spot = none := hsp0 (by omega)
        refine ⟨(z, cs), fun _ => ⟨hsp, hz, fun j u hu => ?_⟩⟩
        have hj : j < E.size := by
          have h9 : j < cs.length := (List.getElem?_eq_some_iff.1 hu).1
          omega
        have q := hat j hj
        rw [hu] at q
        exact cells_add (b := a.block) (o := a.off) (by cases a; simp at hsp; rw [hsp]) q
      · exact ⟨(default, []), fun h => absurd h him⟩
    obtain ⟨g, hg⟩ : ∃ g : Nat → α × List Value, ∀ i, i < m → a.spot = none ∧ E.rep (heapOf W) (g i).2 (g i).1 ∧ ∀ j u, (g i).2[j]? = some u → CellH (heapOf W) a.block (a.off + i * E.size + j) u :=
      ⟨fun i => Classical.choose (each i), fun i => Classical.choose_spec (each i)⟩
    have hll : ((List.range len).map fun i => (g i).1).length = len := by simp
    refine ⟨(List.range len).map fun i => (g i).1, some a, cap, by rw [hll], by omega, hm, fun h => (by cases h), fun i hi => ?_⟩
    rw [hll] at hi
    obtain ⟨hsp, hr, hc⟩ := hg i (by omega)
    obtain ⟨b, o, sp⟩ := a
    simp only at hsp
    subst hsp
    simp only [List.getElem_map, List.getElem_range]
    exact ⟨b, o, _, rfl, hr, hc⟩
instance : Inhabited ValM := ⟨⟨0, 0, ByteArray.empty⟩⟩
instance : Inhabited ObjM := ⟨⟨0, ByteArray.empty, 0, []⟩⟩
instance : Inhabited DeedM := ⟨⟨0, 0, 0, 0, [], default, default⟩⟩
variable {W : World} {base : Nat} {spare : Nat → Bool} {held : Bool} {t e : TypeId} {fuel : Nat} {v : Value} {x : DataW H × List MemPlace}
/-- Integers that came in. -/
theorem open_intsR (ht : P.underlying t = some (.slice e)) (he : P.underlying e = some (.int .i64)) (hc : P.cellsOf e = 1) (h : DataW.trod enc P W base spare held fuel t [v] = some x) : ∃ l, SlR encInt (heapOf W) v l :=
  open_rows encInt (by decide) ht hc (fun cs n y hy => by
    obtain ⟨k, rfl, _, hw⟩ := DataW.trod_int he hy
    exact ⟨k, rfl, I64_of_wf hw⟩) h
/-- A value that came in. -/
theorem el_val {cs : List Value} {f0 f1 f2 : Field} (he : P.underlying e = some (.struct #[f0, f1, f2])) (hC : P.cellsOf e = 3)
    (o0 : (f0.offset, P.cellsOf f0.type) = (0, 1)) (o1 : (f1.offset, P.cellsOf f1.type) = (1, 1)) (o2 : (f2.offset, P.cellsOf f2.type) = (2, 1))
    (k0 : P.underlying f0.type = some (.int .u8)) (k1 : P.underlying f1.type = some (.int .i64)) (k2 : P.underlying f2.type = some .string)
    (h : DataW.trod enc P W base spare held fuel e cs = some x) : ∃ z : ValM, encVal.rep (heapOf W) cs z := by
  obtain ⟨ys, n', _, _, hcl, hys, hf⟩ := DataW.trod_struct he h
  rw [hC] at hcl
  simp only [Prod.mk.injEq] at o0 o1 o2
  have g0 := hf 0 f0 rfl
  have g1 := hf 1 f1 rfl
  have g2 := hf 2 f2 rfl
  rw [o0.1, o0.2] at g0
  rw [o1.1, o1.2] at g1
  rw [o2.1, o2.2] at g2
  match cs, hcl with
  | [c0, c1, c2], _ =>
    match ys, hys with
    | [y0, y1, y2], _ =>
      obtain ⟨n0, e0, _, w0⟩ := DataW.trod_int k0 (x := y0) (by simpa using g0)
      obtain ⟨n1, e1, _, w1⟩ := DataW.trod_int k1 (x := y1) (by simpa using g1)
      obtain ⟨s2, e2, _, w2⟩ := DataW.trod_string k2 (x := y2) (by simpa using g2)
      simp only [List.cons.injEq, and_true] at e0 e1 e2
      subst e0; subst e1; subst e2
      obtain ⟨a1, a2⟩ := u8_of_wf w0
      exact ⟨⟨n0.toNat, n1, s2⟩, by simp [ValM.cs, a2], ⟨a1, I64_of_wf w1, w2⟩⟩
/-- Values that came in. -/
theorem open_vals {f0 f1 f2 : Field} (ht : P.underlying t = some (.slice e)) (he : P.underlying e = some (.struct #[f0, f1, f2])) (hC : P.cellsOf e = 3)
    (o0 : (f0.offset, P.cellsOf f0.type) = (0, 1)) (o1 : (f1.offset, P.cellsOf f1.type) = (1, 1)) (o2 : (f2.offset, P.cellsOf f2.type) = (2, 1))
    (k0 : P.underlying f0.type = some (.int .u8)) (k1 : P.underlying f1.type = some (.int .i64)) (k2 : P.underlying f2.type = some .string)
    (h : DataW.trod enc P W base spare held fuel t [v] = some x) : ∃ l, SlR encVal (heapOf W) v l :=
  open_rows encVal (by decide) ht hC (fun cs n y hy => el_val he hC o0 o1 o2 k0 k1 k2 hy) h
/-- A slot's object that came in. -/
theorem el_obj {cs : List Value} {ve : TypeId} {f0 f1 f2 f3 : Field} {v0 v1 v2 : Field} (he : P.underlying e = some (.struct #[f0, f1, f2, f3])) (hC : P.cellsOf e = 4)
    (o0 : (f0.offset, P.cellsOf f0.type) = (0, 1)) (o1 : (f1.offset, P.cellsOf f1.type) = (1, 1)) (o2 : (f2.offset, P.cellsOf f2.type) = (2, 1)) (o3 : (f3.offset, P.cellsOf f3.type) = (3, 1))
    (k0 : P.underlying f0.type = some (.int .u8)) (k1 : P.underlying f1.type = some .string) (k2 : P.underlying f2.type = some (.int .i64))
    (kv : P.underlying f3.type = some (.slice ve)) (hve : P.underlying ve = some (.struct #[v0, v1, v2])) (hvC : P.cellsOf ve = 3)
    (p0 : (v0.offset, P.cellsOf v0.type) = (0, 1)) (p1 : (v1.offset, P.cellsOf v1.type) = (1, 1)) (p2 : (v2.offset, P.cellsOf v2.type) = (2, 1))
    (l0 : P.underlying v0.type = some (.int .u8)) (l1 : P.underlying v1.type = some (.int .i64)) (l2 : P.underlying v2.type = some .string)
    (h : DataW.trod enc P W base spare held fuel e cs = some x) : ∃ z : ObjM, encObj.rep (heapOf W) cs z := by
  obtain ⟨ys, n', _, _, hcl, hys, hf⟩ := DataW.trod_struct he h
  rw [hC] at hcl
  simp only [Prod.mk.injEq] at o0 o1 o2 o3
  have g0 := hf 0 f0 rfl
  have g1 := hf 1 f1 rfl
  have g2 := hf 2 f2 rfl
  have g3 := hf 3 f3 rfl
  rw [o0.1, o0.2] at g0
  rw [o1.1, o1.2] at g1
  rw [o2.1, o2.2] at g2
  rw [o3.1, o3.2] at g3
  match cs, hcl with
  | [c0, c1, c2, c3], _ =>
    match ys, hys with
    | [y0, y1, y2, y3], _ =>
      obtain ⟨n0, e0, _, w0⟩ := DataW.trod_int k0 (x := y0) (by simpa using g0)
      obtain ⟨s1, e1, _, w1⟩ := DataW.trod_string k1 (x := y1) (by simpa using g1)
      obtain ⟨n2, e2, _, w2⟩ := DataW.trod_int k2 (x := y2) (by simpa using g2)
      obtain ⟨l, hl⟩ := open_vals kv hve hvC p0 p1 p2 l0 l1 l2 (x := y3) (v := c3) (by simpa using g3)
      simp only [List.cons.injEq, and_true] at e0 e1 e2
      subst e0; subst e1; subst e2
      obtain ⟨a1, a2⟩ := u8_of_wf w0
      exact ⟨⟨n0.toNat, s1, n2, l⟩, c3, by simp [a2], ⟨a1, I64_of_wf w2, w1⟩, hl⟩
end
end Go.Proofs.Ythipkmmdjhpklaa
namespace Go.Proofs.Ythipkmmdjhpklaa
set_option linter.unusedVariables false
set_option linter.unusedSimpArgs false
open Go.ChangeShapes Go.WideShapes Go.ChangeAt Go.RowKit Go.Joins Go.Deep

set_option maxRecDepth 100000 in
/-- A deed that came in. -/
theorem el_deed {H : Type} {enc : TypeId × Value → H} {W : World} {base : Nat} {spare : Nat → Bool} {held : Bool} {fuel : Nat} {x : DataW H × List MemPlace} {cs : List Value}
    (h : DataW.trod enc Try.prog W base spare held fuel 52 cs = some x) : ∃ z : DeedM, encDeed.rep (heapOf W) cs z := by
  obtain ⟨ys, n', _, _, hcl, hys, hf⟩ := DataW.trod_struct Try.underlying52 h
  rw [show Try.prog.cellsOf 52 = 12 from by kernel_rfl] at hcl
  have g0 : DataW.trod enc Try.prog W base spare held n' 5 ((cs.drop 0).take (Try.prog.cellsOf 5)) = ys[0]? := hf 0 _ rfl
  have g1 : DataW.trod enc Try.prog W base spare held n' 3 ((cs.drop 1).take (Try.prog.cellsOf 3)) = ys[1]? := hf 1 _ rfl
  have g2 : DataW.trod enc Try.prog W base spare held n' 3 ((cs.drop 2).take (Try.prog.cellsOf 3)) = ys[2]? := hf 2 _ rfl
  have g3 : DataW.trod enc Try.prog W base spare held n' 3 ((cs.drop 3).take (Try.prog.cellsOf 3)) = ys[3]? := hf 3 _ rfl
  have g4 : DataW.trod enc Try.prog W base spare held n' 46 ((cs.drop 4).take (Try.prog.cellsOf 46)) = ys[4]? := hf 4 _ rfl
  have g5 : DataW.trod enc Try.prog W base spare held n' 48 ((cs.drop 5).take (Try.prog.cellsOf 48)) = ys[5]? := hf 5 _ rfl
  have g6 : DataW.trod enc Try.prog W base spare held n' 50 ((cs.drop 9).take (Try.prog.cellsOf 50)) = ys[6]? := hf 6 _ rfl
  simp only [show Try.prog.cellsOf 5 = 1 from by kernel_rfl, show Try.prog.cellsOf 3 = 1 from by kernel_rfl, show Try.prog.cellsOf 46 = 1 from by kernel_rfl, show Try.prog.cellsOf 48 = 4 from by kernel_rfl, show Try.prog.cellsOf 50 = 3 from by kernel_rfl] at g0 g1 g2 g3 g4 g5 g6
  match cs, hcl with
  | [c0, c1, c2, c3, c4, c5, c6, c7, c8, c9, c10, c11], _ =>
    match ys, hys with
    | [y0, y1, y2, y3, y4, y5, y6], _ =>
      obtain ⟨n0, e0, _, w0⟩ := DataW.trod_int (k := .u8) Try.underlying5 (x := y0) (by simpa using g0)
      obtain ⟨n1, e1, _, w1⟩ := DataW.trod_int (k := .i64) Try.underlying3 (x := y1) (by simpa using g1)
      obtain ⟨n2, e2, _, w2⟩ := DataW.trod_int (k := .i64) Try.underlying3 (x := y2) (by simpa using g2)
      obtain ⟨n3, e3, _, w3⟩ := DataW.trod_int (k := .i64) Try.underlying3 (x := y3) (by simpa using g3)
      obtain ⟨l, hl⟩ := open_intsR Try.underlying46 Try.underlying3 (by kernel_rfl) (x := y4) (v := c4) (by simpa using g4)
      obtain ⟨o, sv, ho, hof, hos⟩ := el_obj (cs := [c5, c6, c7, c8]) Try.underlying48 (by kernel_rfl) (by kernel_rfl) (by kernel_rfl) (by kernel_rfl) (by kernel_rfl) Try.underlying5 Try.underlying9 Try.underlying3 Try.underlying29 Try.underlying50 (by kernel_rfl) (by kernel_rfl) (by kernel_rfl) (by kernel_rfl) Try.underlying5 Try.underlying3 Try.underlying9 (x := y5) (by simpa using g5)
      obtain ⟨z, hz, hzf⟩ := el_val (cs := [c9, c10, c11]) Try.underlying50 (by kernel_rfl) (by kernel_rfl) (by kernel_rfl) (by kernel_rfl) Try.underlying5 Try.underlying3 Try.underlying9 (x := y6) (by simpa using g6)
      simp only [List.cons.injEq, and_true] at e0 e1 e2 e3 ho
      simp only [ValM.cs, List.cons.injEq, and_true] at hz
      obtain ⟨rfl, rfl, rfl, rfl⟩ := ho
      obtain ⟨rfl, rfl, rfl⟩ := hz
      subst e0; subst e1; subst e2; subst e3
      obtain ⟨a1, a2⟩ := u8_of_wf w0
      exact ⟨⟨n0.toNat, n1, n2, n3, l, o, z⟩, c4, c8, by simp [DeedM.cs, a2], ⟨a1, I64_of_wf w1, I64_of_wf w2, I64_of_wf w3, hl, hof, hos, hzf⟩⟩
set_option maxRecDepth 100000 in
/-- A list of deeds that came in. -/
theorem open_deeds {H : Type} {enc : TypeId × Value → H} {W : World} {base : Nat} {spare : Nat → Bool} {held : Bool} {fuel : Nat} {v : Value} {x : DataW H × List MemPlace}
    (h : DataW.trod enc Try.prog W base spare held fuel 22 [v] = some x) : ∃ l, SlR encDeed (heapOf W) v l :=
  open_rows encDeed (by decide) Try.underlying22 (by kernel_rfl) (fun cs n y hy => el_deed hy) h
set_option maxRecDepth 100000 in
/-- What a law is given: sizes, and deeds. -/
theorem open_played {H : Type} {enc : TypeId × Value → H} {W : World} {r : _root_.Go.Reach} {b0 base : Nat} {spare : Nat → Bool} {held : Bool} {v : Value} {d : DataW H} {p : List MemPlace}
    (hv : Value.okWide Try.prog W r b0 24 v) (h : DataW.Trod enc Try.prog W base spare held 24 v d p) :
    ∃ size regs dv ds, v = .agg #[.int .i64 size, .int .i64 regs, dv] ∧ I64 size ∧ I64 regs ∧ SlR encDeed (heapOf W) dv ds := by
  obtain ⟨v0, v1, v2, y0, y1, y2, n, rfl, _, _, h0, h1, h2⟩ := open_agg3 Try.underlying24 (by kernel_rfl) (by kernel_rfl) hv h
  obtain ⟨n0, e0, _, w0⟩ := DataW.trod_int (k := .i64) Try.underlying3 h0
  obtain ⟨n1, e1, _, w1⟩ := DataW.trod_int (k := .i64) Try.underlying3 h1
  obtain ⟨l, hl⟩ := open_deeds h2
  simp only [List.cons.injEq, and_true] at e0 e1
  subst e0; subst e1
  exact ⟨n0, n1, v2, l, rfl, I64_of_wf w0, I64_of_wf w1, hl⟩
end Go.Proofs.Ythipkmmdjhpklaa
namespace Go.Proofs.Ythipkmmdjhpklaa
set_option linter.unusedVariables false
set_option linter.unusedSimpArgs false
open Go.RowKit

def ObjM.like (o p : ObjM) : Prop := o.kind = p.kind ∧ o.name = p.name ∧ o.n = p.n ∧ o.slots.length = p.slots.length
theorem ObjM.like.refl (o : ObjM) : o.like o := ⟨rfl, rfl, rfl, rfl⟩
theorem ObjM.like.trans {o p q : ObjM} (h : o.like p) (h' : p.like q) : o.like q := ⟨h.1.trans h'.1, h.2.1.trans h'.2.1, h.2.2.1.trans h'.2.2.1, h.2.2.2.trans h'.2.2.2⟩
structure Copies (h : HeapM) : Prop where
  same : ∀ (i : Nat) (p : ObjM × Int), h.old[i]? = some p → 0 ≤ p.2 → ∃ o, h.new[p.2.toNat]? = some o ∧ o.like p.1
  inj : ∀ (i j : Nat) (p q : ObjM × Int), h.old[i]? = some p → h.old[j]? = some q → 0 ≤ p.2 → p.2 = q.2 → i = j
theorem Copies.nil {h : HeapM} (e : h.old = []) : Copies h := ⟨fun i p hp => (by rw [e] at hp; simp at hp), fun i j p q hp => (by rw [e] at hp; simp at hp)⟩
/-- Nothing but the new half changes, and there each object stays like itself. -/
theorem Copies.to {h h' : HeapM} (c : Copies h) (ho : h'.old = h.old) (hn : ∀ (k : Nat) (o : ObjM), h.new[k]? = some o → ∃ o', h'.new[k]? = some o' ∧ o'.like o) : Copies h' := by
  refine ⟨fun i p hp h0 => ?_, fun i j p q hp hq => ?_⟩
  · rw [ho] at hp
    obtain ⟨o, e1, e2⟩ := c.same i p hp h0
    obtain ⟨o', e3, e4⟩ := hn _ o e1
    exact ⟨o', e3, e4.trans e2⟩
  · rw [ho] at hp hq
    exact c.inj i j p q hp hq
theorem Copies.move {h : HeapM} (s : Copies h) (c : HCore h) {x : ValM} (hx : ValIn h.half h.new.length h.old.length true x) : Copies (h.afterMove x) := by
  have hb := c.bounds
  have hcv := hx.can hb.1 hb.2.1 c.half
  unfold HeapM.afterMove
  rcases moveN_cases (nn := h.new.length) hcv.o with ⟨h1, h2⟩ | ⟨i, hi, h1, h2, ⟨h3, h4⟩ | ⟨h3, h4⟩⟩
  · rw [h2]
    simp only [List.append_nil]
    exact s
  · rw [h4]
    refine ⟨fun j p hp h0 => ?_, fun j k p q hp hq h0 he => ?_⟩
    · simp only at hp ⊢
      rw [List.getElem?_set] at hp
      split at hp
      · rename_i e; subst e
        simp only [hi, if_true, Option.some.injEq] at hp
        subst hp
        simp only [Int.toNat_natCast]
        exact ⟨h.old[i].1, by rw [List.getElem?_append_right (Nat.le_refl _), Nat.sub_self]; rfl, ObjM.like.refl _⟩
      · obtain ⟨o, e1, e2⟩ := s.same j p hp h0
        exact ⟨o, by rw [List.getElem?_append_left (lt_of_some e1)]; exact e1, e2⟩
    · simp only at hp hq
      rw [List.getElem?_set] at hp hq
      split at hp
      · rename_i e; subst e
        simp only [hi, if_true, Option.some.injEq] at hp
        subst hp
        split at hq
        · assumption
        · have := c.inOld hq
          simp only at he
          omega
      · rename_i hne
        split at hq
        · rename_i e; subst e
          simp only [hi, if_true, Option.some.injEq] at hq
          subst hq
          have := c.inOld hp
          simp only at he
          omega
        · exact s.inj j k p q hp hq h0 he
  · rw [h4]
    simp only [List.append_nil]
    exact s
theorem Copies.moves : ∀ (l : List ValM) {h : HeapM}, Copies h → HCore h → (∀ x ∈ l, ValIn h.half h.new.length h.old.length true x) → Copies (h.afterMoves l)
  | [], h, s, c, _ => by
    have e : h.afterMoves [] = h := by unfold HeapM.afterMoves; simp [movesN]
    rw [e]
    exact s
  | x :: l, h, s, c, hx => by
    obtain ⟨c1, v1, o1, n1⟩ := c.move (hx x (.head _))
    have hl : ∀ y ∈ l, ValIn (h.afterMove x).half (h.afterMove x).new.length (h.afterMove x).old.length true y := fun y hy => by
      rw [o1]; exact (hx y (.tail _ hy)).mono n1 fun h => h
    rw [afterMoves_cons]
    exact Copies.moves l (s.move c (hx x (.head _))) c1 hl
theorem Copies.setObj {h : HeapM} (s : Copies h) {i : Nat} {o o' : ObjM} (hi : h.new[i]? = some o) (he : o'.like o) : Copies { h with new := h.new.set i o' } := by
  refine s.to rfl fun k p hp => ?_
  simp only
  by_cases e : i = k
  · subst e
    rw [hp] at hi
    cases hi
    exact ⟨o', by rw [List.getElem?_set_self (lt_of_some hp)], he⟩
  · exact ⟨p, by rw [List.getElem?_set_ne e]; exact hp, ObjM.like.refl p⟩
theorem Copies.scan1 {h : HeapM} (s : Copies h) (c : HCore h) (hi : h.scan < h.new.length) : Copies h.scan1 := by
  have hs0 := c.s0
  have hi' : h.scan.toNat < h.new.length := by omega
  have hg := List.getElem?_eq_getElem hi'
  have ho := c.inNew hg
  have s1 := Copies.moves h.new[h.scan.toNat].slots s c ho.sl
  have hgA : (h.afterMoves h.new[h.scan.toNat].slots).new[h.scan.toNat]? = some h.new[h.scan.toNat] := by
    simp only [HeapM.afterMoves]
    rw [List.getElem?_append_left hi', hg]
  have s2 := s1.setObj (o' := ⟨h.new[h.scan.toNat].kind, h.new[h.scan.toNat].name, h.new[h.scan.toNat].n, (movesN h.half h.old h.new.length h.new[h.scan.toNat].slots).1⟩) hgA ⟨rfl, rfl, rfl, by simp only [movesN_len]⟩
  rw [scan1_eq hi']
  simp only [HeapM.afterMoves] at s2
  rw [set_append_of_lt _ _ _ _ hi'] at s2
  exact ⟨s2.same, s2.inj⟩
theorem Copies.endIf {h : HeapM} (s : Copies h) : Copies h.endIf := by
  unfold HeapM.endIf
  split
  · exact Copies.nil rfl
  · exact s
theorem Copies.stepM : ∀ (n : Nat) {h : HeapM}, Copies h → HOk h → Copies (h.stepM n).2
  | 0, h, s, o => s
  | n + 1, h, s, o => by
    unfold HeapM.stepM
    split
    · exact s
    · rename_i hb
      have hb' : h.busy = true := by simpa using hb
      split
      · rename_i hi
        exact Copies.stepM n (s.scan1 o.core hi).endIf (o.scanned hb' hi)
      · exact s.endIf
theorem Copies.begin {h : HeapM} (o : HOk h) (hb : h.busy = false) : Copies h.begin := by
  obtain ⟨c0, r0⟩ := o.started hb
  have s0 : Copies { h with half := 1 - h.half, busy := true, scan := 0, old := oldOf h.new, new := [] } := by
    refine ⟨fun i p hp h0 => ?_, fun i j p q hp hq h0 => ?_⟩
    all_goals
      simp only [oldOf, List.getElem?_map, Option.map_eq_some_iff] at hp
      obtain ⟨z, _, rfl⟩ := hp
      simp at h0
  have s1 := Copies.moves h.regs s0 c0 (fun x hx => by simp only [oldOf_length, List.length_nil]; exact r0 x hx)
  simp only [HeapM.afterMoves, List.nil_append, List.length_nil] at s1
  exact ⟨s1.same, s1.inj⟩
theorem Copies.setSlot {h : HeapM} (s : Copies h) (k n : Nat) (v : ValM) : Copies (h.setSlot k n v) := by
  unfold HeapM.setSlot
  cases hk : h.new[k]? with
  | none => exact s
  | some p => exact s.setObj hk ⟨rfl, rfl, rfl, by simp⟩
theorem Copies.do {h : HeapM} (s : Copies h) (o : HOk h) (d : DeedM) : Copies (h.do d).2.2 := by
  unfold HeapM.do
  split
  · unfold HeapM.doMake
    repeat' split
    all_goals first
      | exact s
      | (refine s.to rfl fun k p hp => ⟨p, ?_, ObjM.like.refl p⟩
         simp only
         rw [List.getElem?_append_left (lt_of_some hp)]
         exact hp)
  split
  · unfold HeapM.doGet
    split
    · exact s
    · split
      · exact s
      · rename_i he
        have hn := (slotE_zero he).2.2
        simp only
        unfold HeapM.getTo
        have hx : ValIn h.half h.new.length h.old.length true ((h.slotsAt ((h.reg d.b).n / 2).toNat).getD d.c.toNat unitV) := by
          rw [List.getD_eq_getElem?_getD, List.getElem?_eq_getElem hn]
          simp only [Option.getD_some]
          have hm := List.getElem_mem hn
          generalize (h.slotsAt ((h.reg d.b).n / 2).toNat)[d.c.toNat] = y at *
          unfold HeapM.slotsAt at hm
          cases hk : h.new[((h.reg d.b).n / 2).toNat]? with
          | none => rw [hk] at hm; cases hm
          | some p =>
            rw [hk] at hm
            exact ((o.core.new _ p hk).sl y hm).mono (Nat.le_refl _) fun _ => rfl
        have s1 := s.move o.core hx
        refine Copies.setSlot ?_ _ _ _
        exact ⟨s1.same, s1.inj⟩
  split
  · unfold HeapM.doPut
    split
    · exact s
    · split
      · exact s
      · exact s.setSlot _ _ _
  split
  · unfold HeapM.doMove; split
    · exact s
    · exact ⟨s.same, s.inj⟩
  split
  · unfold HeapM.doSet
    repeat' split
    all_goals first | exact s | exact ⟨s.same, s.inj⟩
  split
  · unfold HeapM.doSame; split <;> exact s
  split
  · unfold HeapM.doRead; split <;> exact s
  split
  · unfold HeapM.doBegin
    split
    · exact s
    · rename_i hb
      exact Copies.begin o (by simpa using hb)
  split
  · unfold HeapM.doStep
    split
    · exact s
    · exact Copies.stepM _ s o
  · exact s
/-- A heap that the program takes for valid. -/
structure HGood (h : HeapM) : Prop where
  ok : HOk h
  cp : Copies h
theorem HGood.do {h : HeapM} (g : HGood h) (d : DeedM) : HGood (h.do d).2.2 := ⟨g.ok.do d, g.cp.do g.ok d⟩
theorem plays_good : ∀ (l : List DeedM) {h : HeapM}, HGood h → HGood (h.plays l).2
  | [], h, o => o
  | d :: l, h, o => plays_good l (o.do d)
end Go.Proofs.Ythipkmmdjhpklaa
namespace Go.Proofs.Ythipkmmdjhpklaa
set_option linter.unusedVariables false
set_option linter.unusedSimpArgs false
open Go.RowKit

theorem valIn_inB {half : Int} {nn on : Nat} {b : Bool} {x : ValM} (hx : ValIn half nn on b x) : inB half on nn x = true := by
  unfold inB
  rw [hx.1]
  simp only [Bool.true_and, Bool.or_eq_true, decide_eq_true_eq]
  by_cases hk : x.kind = 5
  · right
    rcases hx.2 hk with h3 | h3
    · rw [if_neg (by unfold oldV; simp only [hk]; simp; exact h3.1)]; exact h3.2
    · rw [if_pos ⟨hk, h3.1⟩]; exact h3.2.2
  · exact .inl hk
theorem objIn_all {half : Int} {nn on : Nat} {b : Bool} {o : ObjM} (ho : ObjIn half nn on b o) : o.slots.all (inB half on nn) = true := List.all_eq_true.2 fun x hx => valIn_inB (ho.sl x hx)
theorem objIn_plain {half : Int} {nn on : Nat} {b : Bool} {o : ObjM} (ho : ObjIn half nn on b o) : (o.plain && decide (o.slots.length ≤ 400)) = true := by rw [ho.plain, decide_eq_true ho.len]; rfl
theorem valIn_new {half : Int} {nn on : Nat} {x : ValM} (hx : ValIn half nn on false x) : isOldB half x = false := by
  unfold isOldB
  refine decide_eq_false fun hk => ?_
  have h5 := (plain_cases hx.1).2.2.2 hk.1
  rcases hx.2 hk.1 with h3 | h3
  · exact hk.2 (by rw [tmod2 h5]; exact h3.1)
  · simp at h3
/-- The places of the copies of the first ones. -/
def tos (l : List (ObjM × Int)) : List Int := (l.filter fun p => decide (0 ≤ p.2)).map Prod.snd
theorem tos_snoc (l : List (ObjM × Int)) (p : ObjM × Int) : tos (l ++ [p]) = tos l ++ (if 0 ≤ p.2 then [p.2] else []) := by
  unfold tos
  rw [List.filter_append, List.map_append]
  by_cases h : 0 ≤ p.2
  · rw [if_pos h, List.filter_cons_of_pos (by simpa using h)]; rfl
  · rw [if_neg h, List.filter_cons_of_neg (by simpa using h)]; rfl
theorem not_tos {h : HeapM} (g : HGood h) {k : Nat} (hk : k < h.old.length) : h.old[k].2 ∉ tos (h.old.take k) := by
  intro hm
  unfold tos at hm
  obtain ⟨p, hp, he⟩ := List.mem_map.1 hm
  obtain ⟨hp1, hp2⟩ := List.mem_filter.1 hp
  obtain ⟨j, hj, hj2⟩ := List.mem_iff_getElem.1 hp1
  rw [List.length_take] at hj
  rw [List.getElem_take] at hj2
  have h1 : h.old[j]? = some p := by rw [List.getElem?_eq_getElem (by omega), hj2]
  have := g.cp.inj j k p _ h1 (List.getElem?_eq_getElem hk) (by simpa using hp2) he
  omega
theorem sum_take (l : List (ObjM × Int)) (k : Nat) : 0 ≤ wordsM (lensO (l.take k)) ∧ wordsM (lensO (l.take k)) ≤ wordsM (lensO l) := by
  have e : l = l.take k ++ l.drop k := (List.take_append_drop k l).symm
  have e2 : wordsM (lensO l) = wordsM (lensO (l.take k)) + wordsM (lensO (l.drop k)) := by
    conv => lhs; rw [e]
    unfold lensO
    rw [List.map_append, wordsM_append]
  have h1 := wordsM_ge (lensO (l.take k))
  have h2 := wordsM_ge (lensO (l.drop k))
  omega
theorem sum_snoc (l : List (ObjM × Int)) (k : Nat) (hk : k < l.length) : wordsM (lensO (l.take (k + 1))) = wordsM (lensO (l.take k)) + (1 + (l[k].1.slots.length : Int)) := by
  rw [List.take_succ_eq_append_getElem hk]
  unfold lensO
  rw [List.map_append, wordsM_append]
  simp [wordsM]
theorem perm_ov1 {α : Type} (p q b : α) (L : List α) : (p :: q :: b :: L).Perm (b :: p :: q :: L) := (by classical exact List.perm_iff_count.2 (fun a => by simp only [List.count_append, List.count_cons, List.cons_append, List.nil_append, List.append_assoc]; omega))
theorem perm_ov2 {α : Type} (b p q : α) (L : List α) : (b :: p :: q :: L).Perm (p :: q :: b :: L) := (by classical exact List.perm_iff_count.2 (fun a => by simp only [List.count_append, List.count_cons, List.cons_append, List.nil_append, List.append_assoc]; omega))
theorem perm_ov3 {α : Type} (p q b : α) (L : List α) : (p :: q :: b :: L).Perm (q :: p :: b :: L) := (by classical exact List.perm_iff_count.2 (fun a => by simp only [List.count_append, List.count_cons, List.cons_append, List.nil_append, List.append_assoc]; omega))
theorem perm_ov5 {α : Type} (x q p b : α) (L : List α) : (x :: q :: p :: b :: L).Perm (x :: p :: q :: b :: L) := (by classical exact List.perm_iff_count.2 (fun a => by simp only [List.count_append, List.count_cons, List.cons_append, List.nil_append, List.append_assoc]; omega))
theorem perm_ov4 {α : Type} (x q p b : α) (L : List α) : (x :: q :: p :: b :: L).Perm (q :: p :: b :: x :: L) := (by classical exact List.perm_iff_count.2 (fun a => by simp only [List.count_append, List.count_cons, List.cons_append, List.nil_append, List.append_assoc]; omega))
set_option maxRecDepth 10000 in
set_option maxHeartbeats 8000000 in
theorem isOldValid_any (b : Nat) (h : HeapM) (g : HGood h) (vo vn vr : Value) {w0 w : World} {H : Hp} {L : List (Nat × Obj)} (ho : SlR encHeld H vo h.old) (hn : SlR encObj H vn h.new)
    (m : Mem w0 H ((b, HBox TH h.size h.half h.scan h.busy vo vn vr) :: L) w) :
    Calls Try.prog 93 #[.pointer (some ⟨b, 0, none⟩)] w (Ret w0 H ((b, HBox TH h.size h.half h.scan h.busy vo vn vr) :: L) (.bool true)) := by
  have HO := Lib.hid ho
  have HN := Lib.hid hn
  obtain ⟨ob, oc, rfl, _, hoc, _, _⟩ := ho
  obtain ⟨nb, nc, rfl, _, hnc, _, _⟩ := hn
  have hoc := size_le_maxLen hoc
  have hnc := size_le_maxLen hnc
  have hbd := g.ok.core.bounds
  have hsm := g.ok.core.sum
  have hsz := g.ok.core.size
  have HG := Lib.hid g; clear g
  have m1 := m.alloc (.map #[] 0)
  generalize hW : w.alloc (.map #[] 0) = W0 at *
  generalize hmb : w.heap.size = mb at *
  have mu := m1
  unfold HBox at mu
  have es := mu.eqs
  simp only [EqsL] at es
  go_enter Try.func93, Try.ntmps93
  go_wp2_with fail
  rw [run_makeMap, hW, hmb]
  go_wp2_with fail
  clear es mu
  go_loopw [4, 6, 7, 15] (fun v4 _ _ v15 wr => ∃ (k : Nat) (es : Array MapEntry) (cl : Nat), k ≤ h.old.length ∧ v15 = .int .i64 k ∧ v4 = .int .i64 (wordsM (lensO (h.old.take k))) ∧ IntMap .i64 es (seenL (tos (h.old.take k))) ∧ Mem w0 H ((mb, .map es cl) :: (b, HBox TH h.size h.half h.scan h.busy (.slice ob h.old.length oc) (.slice nb h.new.length nc) vr) :: L) wr) (fun _ _ _ i _ => h.old.length - (intOf i).toNat)
  case atStart => exact ⟨0, #[], 0, Nat.zero_le _, rfl, rfl, IntMap.nil .i64, m1⟩
  case round =>
    obtain ⟨k, es0, cl, hk, rfl, rfl, hl, m2⟩ := hrel
    clear m1
    have HL := Lib.hid hl; clear hl
    by_cases hlt : k < h.old.length
    · obtain ⟨blk, off, sv, rfl, c0, c1, c2, c3, c4, hsl, hfit, hti⟩ := HO.out.getHeld hlt
      have HSL := Lib.hid hsl
      obtain ⟨b1, c1', rfl, _, hc1', _, _⟩ := hsl
      have hc1' := size_le_maxLen hc1'
      have hin := HG.out.ok.core.inOld (List.getElem?_eq_getElem hlt)
      have hcp := HG.out.cp.same k _ (List.getElem?_eq_getElem hlt)
      have hnt := not_tos HG.out hlt
      have hst := sum_take h.old k
      have hss := sum_snoc h.old k hlt
      have hst2 := sum_take h.old (k + 1)
      have htk : tos (h.old.take (k + 1)) = tos (h.old.take k) ++ (if 0 ≤ h.old[k].2 then [h.old[k].2] else []) := by rw [List.take_succ_eq_append_getElem hlt, tos_snoc]
      have c0 := c0.cell m2
      have c1 := c1.cell m2
      have c2 := c2.cell m2
      have c3 := c3.cell m2
      have c4 := c4.cell m2
      have HCP := Lib.hid hcp; clear hcp
      have HTK := Lib.hid htk; clear htk
      have HNT := Lib.hid hnt; clear hnt
      generalize h.old[k] = p at *
      obtain ⟨o, t⟩ := p
      simp only at *
      have HF := Lib.hid hfit; clear hfit
      obtain ⟨ht1, ht2, hoin⟩ := hin
      have hol := hoin.len
      have HIN := Lib.hid hoin; clear hoin
      have hltI : (k : Int) < h.old.length := by omega
      have HSS := Lib.hid hss
      rw [hss] at hst2
      clear hss
      generalize wordsM (lensO (h.old.take k)) = sm at *
      have hwr : IntKind.i64.wrap (sm + (1 + (o.slots.length : Int))) = sm + (1 + (o.slots.length : Int)) := wrap_small _ (by omega) (by omega)
      have m3 := m2.alloc (.cells #[.int .u8 o.kind, .string o.name, .int .i64 o.n, .slice b1 o.slots.length c1', .int .i64 t] 87)
      have m4 := m3.alloc (.cells #[.int .u8 o.kind, .string o.name, .int .i64 o.n, .slice b1 o.slots.length c1'] 48)
      rw [World.size_alloc] at m4
      go_wp2_with fail
      refine (words1 _ ⟨o.kind, o.name, o.n, .slice b1 o.slots.length c1'⟩ o.slots.length ⟨_, _, rfl⟩ (by omega) m4).mono ?_
      rintro e w5 ⟨rfl, m5⟩
      clear c0 c1 c2 c3 c4 m3 m4
      have mu := m5
      unfold HBox at mu
      have es := mu.eqs
      simp only [EqsL] at es
      go_wp2_with fail
      clear es mu
      have hd1 : decide (t < -1) = false := decide_eq_false (by omega)
      have hd2 : decide ((h.new.length : Int) ≤ t) = false := decide_eq_false (by omega)
      have hd3 : ¬ t < -1 := by omega
      have hd4 : ¬ (h.new.length : Int) ≤ t := by omega
      refine AnyFrom.start (fun w' => ∃ L', Mem w0 H ((wr.heap.size, .cells #[.int .u8 o.kind, .string o.name, .int .i64 o.n, .slice b1 o.slots.length c1', .int .i64 t] 87) :: (mb, .map es0 cl) :: (b, .cells #[.int .i64 h.size, .int .i64 h.half, .int .i64 h.scan, .bool h.busy, .slice (some ⟨blk, off, none⟩) h.old.length oc, .slice nb h.new.length nc, vr] TH) :: L') w') 34 (by kernel_rfl) ?_
      have mW := m5.drew
      generalize w5.drew = W at *
      unfold HBox at mW
      clear m5
      have HS : (fun w' => ∃ L', Mem w0 H ((wr.heap.size, .cells #[.int .u8 o.kind, .string o.name, .int .i64 o.n, .slice b1 o.slots.length c1', .int .i64 t] 87) :: (mb, .map es0 cl) :: (b, .cells #[.int .i64 h.size, .int .i64 h.half, .int .i64 h.scan, .bool h.busy, .slice (some ⟨blk, off, none⟩) h.old.length oc, .slice nb h.new.length nc, vr] TH) :: L') w') W := ⟨_, mW⟩
      refine AnyFrom.take (i := 0) (v := ?_) rfl (by kernel_rfl) (by kernel_rfl) (by kernel_rfl) (by kernel_rfl) (fun _ _ _ h => h) ⟨by kernel_rfl, ?_⟩ HS ?_
      rotate_left
      · first | (rintro w' ⟨L', hm⟩; have es := hm.eqs; simp only [EqsL] at es; go_simp; done) | (rintro w' ⟨L', hm⟩; have es := hm.eqs; simp only [EqsL] at es; go_simp; with_reducible rfl)
      simp only [Act.put, List.setIfInBounds_toArray, List.set_cons_zero, List.set_cons_succ, List.getElem_toArray, List.getElem_cons_succ, List.getElem_cons_zero]
      refine AnyFrom.take (i := 1) (v := ?_) rfl (by kernel_rfl) (by kernel_rfl) (by kernel_rfl) (by kernel_rfl) (fun _ _ _ h => h) ⟨by kernel_rfl, ?_⟩ HS ?_
      rotate_left
      · first | (rintro w' ⟨L', hm⟩; have es := hm.eqs; simp only [EqsL] at es; go_simp; done) | (rintro w' ⟨L', hm⟩; have es := hm.eqs; simp only [EqsL] at es; go_simp; with_reducible rfl)
      simp only [Act.put, List.setIfInBounds_toArray, List.set_cons_zero, List.set_cons_succ, List.getElem_toArray, List.getElem_cons_succ, List.getElem_cons_zero]
      refine AnyFrom.call (i := 2) (by kernel_rfl) rfl (by kernel_rfl) fun K hK => ?_
      go_simp
      refine (isObject_any o HF.out b1 c1' mW (by omega)).mono ?_
      rintro e w7 ⟨rfl, mA⟩
      rw [objIn_plain HIN.out]
      refine hK _ _ (.inr ⟨_, mA⟩) ?_
      clear hK K HS mW
      try simp only [Act.put, List.setIfInBounds_toArray, List.set_cons_zero, List.set_cons_succ, List.getElem_toArray, List.getElem_cons_succ, List.getElem_cons_zero]
      have HS : (fun w' => ∃ L', Mem w0 H ((wr.heap.size, .cells #[.int .u8 o.kind, .string o.name, .int .i64 o.n, .slice b1 o.slots.length c1', .int .i64 t] 87) :: (mb, .map es0 cl) :: (b, .cells #[.int .i64 h.size, .int .i64 h.half, .int .i64 h.scan, .bool h.busy, .slice (some ⟨blk, off, none⟩) h.old.length oc, .slice nb h.new.length nc, vr] TH) :: L') w') w7 := ⟨_, mA⟩
      refine AnyFrom.pure (i := 3) (v := ?_) rfl (by kernel_rfl) (by kernel_rfl) (by kernel_rfl) (by decide) (fun _ _ _ h => h) ⟨by kernel_rfl, ?_⟩ HS ?_
      rotate_left
      · first | (intro w'; go_simp; done) | (intro w'; go_simp; with_reducible rfl)
      simp only [Act.put, List.setIfInBounds_toArray, List.set_cons_zero, List.set_cons_succ, List.getElem_toArray, List.getElem_cons_succ, List.getElem_cons_zero]
      refine AnyFrom.pure (i := 4) (v := ?_) rfl (by kernel_rfl) (by kernel_rfl) (by kernel_rfl) (by decide) (fun _ _ _ h => h) ⟨by kernel_rfl, ?_⟩ HS ?_
      rotate_left
      · first | (intro w'; go_simp; done) | (intro w'; go_simp; with_reducible rfl)
      simp only [Act.put, List.setIfInBounds_toArray, List.set_cons_zero, List.set_cons_succ, List.getElem_toArray, List.getElem_cons_succ, List.getElem_cons_zero]
      refine AnyFrom.pure (i := 5) (v := ?_) rfl (by kernel_rfl) (by kernel_rfl) (by kernel_rfl) (by decide) (fun _ _ _ h => h) ⟨by kernel_rfl, ?_⟩ HS ?_
      rotate_left
      · first | (intro w'; go_simp; done) | (intro w'; go_simp; with_reducible rfl)
      simp only [Act.put, List.setIfInBounds_toArray, List.set_cons_zero, List.set_cons_succ, List.getElem_toArray, List.getElem_cons_succ, List.getElem_cons_zero]
      refine AnyFrom.take (i := 6) (v := ?_) rfl (by kernel_rfl) (by kernel_rfl) (by kernel_rfl) (by kernel_rfl) (fun _ _ _ h => h) ⟨by kernel_rfl, ?_⟩ HS ?_
      rotate_left
      · first | (rintro w' ⟨L', hm⟩; have es := hm.eqs; simp only [EqsL] at es; go_simp; done) | (rintro w' ⟨L', hm⟩; have es := hm.eqs; simp only [EqsL] at es; go_simp; with_reducible rfl)
      simp only [Act.put, List.setIfInBounds_toArray, List.set_cons_zero, List.set_cons_succ, List.getElem_toArray, List.getElem_cons_succ, List.getElem_cons_zero]
      refine AnyFrom.take (i := 7) (v := ?_) rfl (by kernel_rfl) (by kernel_rfl) (by kernel_rfl) (by kernel_rfl) (fun _ _ _ h => h) ⟨by kernel_rfl, ?_⟩ HS ?_
      rotate_left
      · first | (rintro w' ⟨L', hm⟩; have es := hm.eqs; simp only [EqsL] at es; go_simp; done) | (rintro w' ⟨L', hm⟩; have es := hm.eqs; simp only [EqsL] at es; go_simp; with_reducible rfl)
      simp only [Act.put, List.setIfInBounds_toArray, List.set_cons_zero, List.set_cons_succ, List.getElem_toArray, List.getElem_cons_succ, List.getElem_cons_zero]
      refine AnyFrom.take (i := 8) (v := ?_) rfl (by kernel_rfl) (by kernel_rfl) (by kernel_rfl) (by kernel_rfl) (fun _ _ _ h => h) ⟨by kernel_rfl, ?_⟩ HS ?_
      rotate_left
      · first | (rintro w' ⟨L', hm⟩; have es := hm.eqs; simp only [EqsL] at es; go_simp; done) | (rintro w' ⟨L', hm⟩; have es := hm.eqs; simp only [EqsL] at es; go_simp; with_reducible rfl)
      simp only [Act.put, List.setIfInBounds_toArray, List.set_cons_zero, List.set_cons_succ, List.getElem_toArray, List.getElem_cons_succ, List.getElem_cons_zero]
      refine AnyFrom.call (i := 9) (by kernel_rfl) rfl (by kernel_rfl) fun K hK => ?_
      go_simp
      refine (all_any b _ o.slots HSL.out (mA.perm (perm_ov1 _ _ _ _)) (by omega) (by omega)).mono ?_
      rintro e w8 ⟨rfl, mB0⟩
      have mB := mB0.perm (perm_ov2 _ _ _ _)
      unfold HBox at mB
      clear mB0
      rw [objIn_all HIN.out]
      refine hK _ _ (.inr ⟨_, mB⟩) ?_
      clear hK K HS mA
      try simp only [Act.put, List.setIfInBounds_toArray, List.set_cons_zero, List.set_cons_succ, List.getElem_toArray, List.getElem_cons_succ, List.getElem_cons_zero]
      have HS : (fun w' => ∃ L', Mem w0 H ((wr.heap.size, .cells #[.int .u8 o.kind, .string o.name, .int .i64 o.n, .slice b1 o.slots.length c1', .int .i64 t] 87) :: (mb, .map es0 cl) :: (b, .cells #[.int .i64 h.size, .int .i64 h.half, .int .i64 h.scan, .bool h.busy, .slice (some ⟨blk, off, none⟩) h.old.length oc, .slice nb h.new.length nc, vr] TH) :: L') w') w8 := ⟨_, mB⟩
      refine AnyFrom.pure (i := 10) (v := ?_) rfl (by kernel_rfl) (by kernel_rfl) (by kernel_rfl) (by decide) (fun _ _ _ h => h) ⟨by kernel_rfl, ?_⟩ HS ?_
      rotate_left
      · first | (intro w'; go_simp; done) | (intro w'; go_simp; with_reducible rfl)
      simp only [Act.put, List.setIfInBounds_toArray, List.set_cons_zero, List.set_cons_succ, List.getElem_toArray, List.getElem_cons_succ, List.getElem_cons_zero]
      refine AnyFrom.pure (i := 11) (v := ?_) rfl (by kernel_rfl) (by kernel_rfl) (by kernel_rfl) (by decide) (fun _ _ _ h => h) ⟨by kernel_rfl, ?_⟩ HS ?_
      rotate_left
      · first | (intro w'; go_simp; done) | (intro w'; go_simp; with_reducible rfl)
      simp only [Act.put, List.setIfInBounds_toArray, List.set_cons_zero, List.set_cons_succ, List.getElem_toArray, List.getElem_cons_succ, List.getElem_cons_zero]
      refine AnyFrom.pure (i := 12) (v := ?_) rfl (by kernel_rfl) (by kernel_rfl) (by kernel_rfl) (by decide) (fun _ _ _ h => h) ⟨by kernel_rfl, ?_⟩ HS ?_
      rotate_left
      · first | (intro w'; go_simp; done) | (intro w'; go_simp; with_reducible rfl)
      simp only [Act.put, List.setIfInBounds_toArray, List.set_cons_zero, List.set_cons_succ, List.getElem_toArray, List.getElem_cons_succ, List.getElem_cons_zero]
      refine AnyFrom.take (i := 13) (v := ?_) rfl (by kernel_rfl) (by kernel_rfl) (by kernel_rfl) (by kernel_rfl) (fun _ _ _ h => h) ⟨by kernel_rfl, ?_⟩ HS ?_
      rotate_left
      · first | (rintro w' ⟨L', hm⟩; have es := hm.eqs; simp only [EqsL] at es; go_simp; done) | (rintro w' ⟨L', hm⟩; have es := hm.eqs; simp only [EqsL] at es; go_simp; with_reducible rfl)
      simp only [Act.put, List.setIfInBounds_toArray, List.set_cons_zero, List.set_cons_succ, List.getElem_toArray, List.getElem_cons_succ, List.getElem_cons_zero]
      refine AnyFrom.take (i := 14) (v := ?_) rfl (by kernel_rfl) (by kernel_rfl) (by kernel_rfl) (by kernel_rfl) (fun _ _ _ h => h) ⟨by kernel_rfl, ?_⟩ HS ?_
      rotate_left
      · first | (rintro w' ⟨L', hm⟩; have es := hm.eqs; simp only [EqsL] at es; go_simp; done) | (rintro w' ⟨L', hm⟩; have es := hm.eqs; simp only [EqsL] at es; go_simp; with_reducible rfl)
      simp only [Act.put, List.setIfInBounds_toArray, List.set_cons_zero, List.set_cons_succ, List.getElem_toArray, List.getElem_cons_succ, List.getElem_cons_zero]
      refine AnyFrom.pure (i := 15) (v := .bool false) rfl (by kernel_rfl) (by kernel_rfl) (by kernel_rfl) (by decide) (fun _ _ _ h => h) ⟨by kernel_rfl, ?_⟩ HS ?_
      · first | (intro w'; go_simp; done) | (intro w'; go_simp; with_reducible rfl)
      simp only [Act.put, List.setIfInBounds_toArray, List.set_cons_zero, List.set_cons_succ, List.getElem_toArray, List.getElem_cons_succ, List.getElem_cons_zero]
      refine AnyFrom.pure (i := 16) (v := ?_) rfl (by kernel_rfl) (by kernel_rfl) (by kernel_rfl) (by decide) (fun _ _ _ h => h) ⟨by kernel_rfl, ?_⟩ HS ?_
      rotate_left
      · first | (intro w'; go_simp; done) | (intro w'; go_simp; with_reducible rfl)
      simp only [Act.put, List.setIfInBounds_toArray, List.set_cons_zero, List.set_cons_succ, List.getElem_toArray, List.getElem_cons_succ, List.getElem_cons_zero]
      refine AnyFrom.pure (i := 17) (v := ?_) rfl (by kernel_rfl) (by kernel_rfl) (by kernel_rfl) (by decide) (fun _ _ _ h => h) ⟨by kernel_rfl, ?_⟩ HS ?_
      rotate_left
      · first | (intro w'; go_simp; done) | (intro w'; go_simp; with_reducible rfl)
      simp only [Act.put, List.setIfInBounds_toArray, List.set_cons_zero, List.set_cons_succ, List.getElem_toArray, List.getElem_cons_succ, List.getElem_cons_zero]
      refine AnyFrom.take (i := 18) (v := ?_) rfl (by kernel_rfl) (by kernel_rfl) (by kernel_rfl) (by kernel_rfl) (fun _ _ _ h => h) ⟨by kernel_rfl, ?_⟩ HS ?_
      rotate_left
      · first | (rintro w' ⟨L', hm⟩; have es := hm.eqs; simp only [EqsL] at es; go_simp; done) | (rintro w' ⟨L', hm⟩; have es := hm.eqs; simp only [EqsL] at es; go_simp; with_reducible rfl)
      simp only [Act.put, List.setIfInBounds_toArray, List.set_cons_zero, List.set_cons_succ, List.getElem_toArray, List.getElem_cons_succ, List.getElem_cons_zero]
      refine AnyFrom.take (i := 19) (v := ?_) rfl (by kernel_rfl) (by kernel_rfl) (by kernel_rfl) (by kernel_rfl) (fun _ _ _ h => h) ⟨by kernel_rfl, ?_⟩ HS ?_
      rotate_left
      · first | (rintro w' ⟨L', hm⟩; have es := hm.eqs; simp only [EqsL] at es; go_simp; done) | (rintro w' ⟨L', hm⟩; have es := hm.eqs; simp only [EqsL] at es; go_simp; with_reducible rfl)
      simp only [Act.put, List.setIfInBounds_toArray, List.set_cons_zero, List.set_cons_succ, List.getElem_toArray, List.getElem_cons_succ, List.getElem_cons_zero]
      refine AnyFrom.pure (i := 20) (v := ?_) rfl (by kernel_rfl) (by kernel_rfl) (by kernel_rfl) (by decide) (fun _ _ _ h => h) ⟨by kernel_rfl, ?_⟩ HS ?_
      rotate_left
      · first | (intro w'; go_simp; done) | (intro w'; go_simp; with_reducible rfl)
      simp only [Act.put, List.setIfInBounds_toArray, List.set_cons_zero, List.set_cons_succ, List.getElem_toArray, List.getElem_cons_succ, List.getElem_cons_zero]
      refine AnyFrom.take (i := 21) (v := ?_) rfl (by kernel_rfl) (by kernel_rfl) (by kernel_rfl) (by kernel_rfl) (fun _ _ _ h => h) ⟨by kernel_rfl, ?_⟩ HS ?_
      rotate_left
      · first | (rintro w' ⟨L', hm⟩; have es := hm.eqs; simp only [EqsL] at es; go_simp; done) | (rintro w' ⟨L', hm⟩; have es := hm.eqs; simp only [EqsL] at es; go_simp; with_reducible rfl)
      simp only [Act.put, List.setIfInBounds_toArray, List.set_cons_zero, List.set_cons_succ, List.getElem_toArray, List.getElem_cons_succ, List.getElem_cons_zero]
      refine AnyFrom.take (i := 22) (v := ?_) rfl (by kernel_rfl) (by kernel_rfl) (by kernel_rfl) (by kernel_rfl) (fun _ _ _ h => h) ⟨by kernel_rfl, ?_⟩ HS ?_
      rotate_left
      · first | (rintro w' ⟨L', hm⟩; have es := hm.eqs; simp only [EqsL] at es; go_simp; done) | (rintro w' ⟨L', hm⟩; have es := hm.eqs; simp only [EqsL] at es; go_simp; with_reducible rfl)
      simp only [Act.put, List.setIfInBounds_toArray, List.set_cons_zero, List.set_cons_succ, List.getElem_toArray, List.getElem_cons_succ, List.getElem_cons_zero]
      refine AnyFrom.take (i := 23) (v := ?_) rfl (by kernel_rfl) (by kernel_rfl) (by kernel_rfl) (by kernel_rfl) (fun _ _ _ h => h) ⟨by kernel_rfl, ?_⟩ HS ?_
      rotate_left
      · first | (rintro w' ⟨L', hm⟩; have es := hm.eqs; simp only [EqsL] at es; go_simp; done) | (rintro w' ⟨L', hm⟩; have es := hm.eqs; simp only [EqsL] at es; go_simp; with_reducible rfl)
      simp only [Act.put, List.setIfInBounds_toArray, List.set_cons_zero, List.set_cons_succ, List.getElem_toArray, List.getElem_cons_succ, List.getElem_cons_zero]
      refine AnyFrom.take (i := 24) (v := ?_) rfl (by kernel_rfl) (by kernel_rfl) (by kernel_rfl) (by kernel_rfl) (fun _ _ _ h => h) ⟨by kernel_rfl, ?_⟩ HS ?_
      rotate_left
      · first | (rintro w' ⟨L', hm⟩; have es := hm.eqs; simp only [EqsL] at es; go_simp; done) | (rintro w' ⟨L', hm⟩; have es := hm.eqs; simp only [EqsL] at es; go_simp; with_reducible rfl)
      simp only [Act.put, List.setIfInBounds_toArray, List.set_cons_zero, List.set_cons_succ, List.getElem_toArray, List.getElem_cons_succ, List.getElem_cons_zero]
      refine AnyFrom.pure (i := 25) (v := ?_) rfl (by kernel_rfl) (by kernel_rfl) (by kernel_rfl) (by decide) (fun _ _ _ h => h) ⟨by kernel_rfl, ?_⟩ HS ?_
      rotate_left
      · first | (intro w'; go_simp; done) | (intro w'; go_simp; with_reducible rfl)
      simp only [Act.put, List.setIfInBounds_toArray, List.set_cons_zero, List.set_cons_succ, List.getElem_toArray, List.getElem_cons_succ, List.getElem_cons_zero]
      refine AnyFrom.pure (i := 26) (v := .bool false) rfl (by kernel_rfl) (by kernel_rfl) (by kernel_rfl) (by decide) (fun _ _ _ h => h) ⟨by kernel_rfl, ?_⟩ HS ?_
      · first | (intro w'; go_simp; done) | (intro w'; go_simp; with_reducible rfl)
      simp only [Act.put, List.setIfInBounds_toArray, List.set_cons_zero, List.set_cons_succ, List.getElem_toArray, List.getElem_cons_succ, List.getElem_cons_zero]
      refine AnyFrom.pure (i := 27) (v := ?_) rfl (by kernel_rfl) (by kernel_rfl) (by kernel_rfl) (by decide) (fun _ _ _ h => h) ⟨by kernel_rfl, ?_⟩ HS ?_
      rotate_left
      · first | (intro w'; go_simp; done) | (intro w'; go_simp; with_reducible rfl)
      simp only [Act.put, List.setIfInBounds_toArray, List.set_cons_zero, List.set_cons_succ, List.getElem_toArray, List.getElem_cons_succ, List.getElem_cons_zero]
      refine AnyFrom.pure (i := 28) (v := ?_) rfl (by kernel_rfl) (by kernel_rfl) (by kernel_rfl) (by decide) (fun _ _ _ h => h) ⟨by kernel_rfl, ?_⟩ HS ?_
      rotate_left
      · first | (intro w'; go_simp; done) | (intro w'; go_simp; with_reducible rfl)
      simp only [Act.put, List.setIfInBounds_toArray, List.set_cons_zero, List.set_cons_succ, List.getElem_toArray, List.getElem_cons_succ, List.getElem_cons_zero]
      refine AnyFrom.pure (i := 29) (v := ?_) rfl (by kernel_rfl) (by kernel_rfl) (by kernel_rfl) (by decide) (fun _ _ _ h => h) ⟨by kernel_rfl, ?_⟩ HS ?_
      rotate_left
      · first | (intro w'; go_simp; done) | (intro w'; go_simp; with_reducible rfl)
      simp only [Act.put, List.setIfInBounds_toArray, List.set_cons_zero, List.set_cons_succ, List.getElem_toArray, List.getElem_cons_succ, List.getElem_cons_zero]
      refine AnyFrom.take (i := 30) (v := ?_) rfl (by kernel_rfl) (by kernel_rfl) (by kernel_rfl) (by kernel_rfl) (fun _ _ _ h => h) ⟨by kernel_rfl, ?_⟩ HS ?_
      rotate_left
      · first | (rintro w' ⟨L', hm⟩; have es := hm.eqs; simp only [EqsL] at es; go_simp; done) | (rintro w' ⟨L', hm⟩; have es := hm.eqs; simp only [EqsL] at es; go_simp; with_reducible rfl)
      simp only [Act.put, List.setIfInBounds_toArray, List.set_cons_zero, List.set_cons_succ, List.getElem_toArray, List.getElem_cons_succ, List.getElem_cons_zero]
      refine AnyFrom.take (i := 31) (v := ?_) rfl (by kernel_rfl) (by kernel_rfl) (by kernel_rfl) (by kernel_rfl) (fun _ _ _ h => h) ⟨by kernel_rfl, ?_⟩ HS ?_
      rotate_left
      · first | (rintro w' ⟨L', hm⟩; have es := hm.eqs; simp only [EqsL] at es; go_simp; done) | (rintro w' ⟨L', hm⟩; have es := hm.eqs; simp only [EqsL] at es; go_simp; with_reducible rfl)
      simp only [Act.put, List.setIfInBounds_toArray, List.set_cons_zero, List.set_cons_succ, List.getElem_toArray, List.getElem_cons_succ, List.getElem_cons_zero]
      refine AnyFrom.take (i := 32) (v := .bool false) rfl (by kernel_rfl) (by kernel_rfl) (by kernel_rfl) (by kernel_rfl) (fun _ _ _ h => h) ⟨by kernel_rfl, ?_⟩ HS ?_
      · rintro w' ⟨L', hm⟩
        have hlook := Mem.lookup (P := Try.prog) Try.underlying123 Try.underlying3 (zero_bool w') hm (b := mb) (clock := cl) (by simp) HL.out t false
        rw [seenL_lookup, if_neg HNT.out] at hlook
        go_simp
        first | done | (rw [hlook]; done) | (rw [hlook]; go_simp)
      simp only [Act.put, List.setIfInBounds_toArray, List.set_cons_zero, List.set_cons_succ, List.getElem_toArray, List.getElem_cons_succ, List.getElem_cons_zero]
      refine AnyFrom.pure (i := 33) (v := ?_) rfl (by kernel_rfl) (by kernel_rfl) (by kernel_rfl) (by decide) (fun _ _ _ h => h) ⟨by kernel_rfl, ?_⟩ HS ?_
      rotate_left
      · first | (intro w'; go_simp; done) | (intro w'; go_simp; with_reducible rfl)
      simp only [Act.put, List.setIfInBounds_toArray, List.set_cons_zero, List.set_cons_succ, List.getElem_toArray, List.getElem_cons_succ, List.getElem_cons_zero]
      refine AnyFrom.done (by kernel_rfl) ?_ _
      clear hd1 hd2 hd3 hd4
      by_cases ht : t = -1
      · subst ht
        have es := mB.eqs
        simp only [EqsL] at es
        go_wp2_with fail
        go_roundw
        case rel =>
          refine ⟨k + 1, es0, cl, by omega, by go_num, by rw [HSS.out], ?_, ?_⟩
          · rw [HTK.out, if_neg (by omega), List.append_nil]
            exact HL.out
          · exact mB.drop
        case measure => simp [intOf]; omega
      · obtain ⟨j, rfl⟩ := Int.eq_ofNat_of_zero_le (show 0 ≤ t by omega)
        obtain ⟨o2, e1, l1, l2, l3, l4⟩ := HCP.out (by omega)
        rw [Int.toNat_natCast] at e1
        have hj : j < h.new.length := by omega
        have hjI : (j : Int) < h.new.length := by omega
        have hjo : h.new[j] = o2 := (List.getElem?_eq_some_iff.1 e1).2
        obtain ⟨blk2, off2, sv2, rfl, d0, d1, d2, d3, hsl2, hf2⟩ := HN.out.getObj hj
        rw [hjo] at d0 d1 d2 hsl2
        obtain ⟨b3, c3', rfl, _, hc3', _, _⟩ := hsl2
        rw [l4] at d3
        rw [l1] at d0
        rw [l2] at d1
        rw [l3] at d2
        clear hjo e1 l1 l2 l3 l4 hf2 HCP
        obtain ⟨es1, W1, hins, hl1, m7⟩ := Mem.insert (P := Try.prog) Try.underlying123 Try.underlying3 (mB.perm (perm_ov3 _ _ _ _)) HL.out j (.bool true) (by rw [seenL_lookup, if_neg HNT.out])
        rw [← seenL_snoc] at hl1
        have HL1 := Lib.hid hl1; clear hl1
        have es := mB.eqs
        simp only [EqsL] at es
        have es1' := m7.eqs
        simp only [EqsL] at es1'
        go_wp2_with fail
        clear es es1' hins mB
        refine AnyFrom.start (fun w' => ∃ L', Mem w0 H ((mb, .map es1 (cl + 1)) :: (wr.heap.size, .cells #[.int .u8 o.kind, .string o.name, .int .i64 o.n, .slice b1 o.slots.length c1', .int .i64 j] 87) :: (b, .cells #[.int .i64 h.size, .int .i64 h.half, .int .i64 h.scan, .bool h.busy, .slice (some ⟨blk, off, none⟩) h.old.length oc, .slice (some ⟨blk2, off2, none⟩) h.new.length nc, vr] TH) :: L') w') 11 (by kernel_rfl) ?_
        have mW := m7.drew
        generalize W1.drew = W at *
        clear m7
        have HS : (fun w' => ∃ L', Mem w0 H ((mb, .map es1 (cl + 1)) :: (wr.heap.size, .cells #[.int .u8 o.kind, .string o.name, .int .i64 o.n, .slice b1 o.slots.length c1', .int .i64 j] 87) :: (b, .cells #[.int .i64 h.size, .int .i64 h.half, .int .i64 h.scan, .bool h.busy, .slice (some ⟨blk, off, none⟩) h.old.length oc, .slice (some ⟨blk2, off2, none⟩) h.new.length nc, vr] TH) :: L') w') W := ⟨_, mW⟩
        refine AnyFrom.pure (i := 0) (v := ?_) rfl (by kernel_rfl) (by kernel_rfl) (by kernel_rfl) (by decide) (fun _ _ _ h => h) ⟨by kernel_rfl, ?_⟩ HS ?_
        rotate_left
        · first | (intro w'; go_simp; done) | (intro w'; go_simp; with_reducible rfl)
        simp only [Act.put, List.setIfInBounds_toArray, List.set_cons_zero, List.set_cons_succ, List.getElem_toArray, List.getElem_cons_succ, List.getElem_cons_zero]
        refine AnyFrom.take (i := 1) (v := ?_) rfl (by kernel_rfl) (by kernel_rfl) (by kernel_rfl) (by kernel_rfl) (fun _ _ _ h => h) ⟨by kernel_rfl, ?_⟩ HS ?_
        rotate_left
        · first | (rintro w' ⟨L', hm⟩; have es := hm.eqs; simp only [EqsL] at es; have d0 := d0.cell hm; have d1 := d1.cell hm; have d2 := d2.cell hm; have d3 := d3.cell hm; go_simp; done) | (rintro w' ⟨L', hm⟩; have es := hm.eqs; simp only [EqsL] at es; have d0 := d0.cell hm; have d1 := d1.cell hm; have d2 := d2.cell hm; have d3 := d3.cell hm; go_simp; with_reducible rfl)
        simp only [Act.put, List.setIfInBounds_toArray, List.set_cons_zero, List.set_cons_succ, List.getElem_toArray, List.getElem_cons_succ, List.getElem_cons_zero]
        refine AnyFrom.take (i := 2) (v := ?_) rfl (by kernel_rfl) (by kernel_rfl) (by kernel_rfl) (by kernel_rfl) (fun _ _ _ h => h) ⟨by kernel_rfl, ?_⟩ HS ?_
        rotate_left
        · first | (rintro w' ⟨L', hm⟩; have es := hm.eqs; simp only [EqsL] at es; have d0 := d0.cell hm; have d1 := d1.cell hm; have d2 := d2.cell hm; have d3 := d3.cell hm; go_simp; done) | (rintro w' ⟨L', hm⟩; have es := hm.eqs; simp only [EqsL] at es; have d0 := d0.cell hm; have d1 := d1.cell hm; have d2 := d2.cell hm; have d3 := d3.cell hm; go_simp; with_reducible rfl)
        simp only [Act.put, List.setIfInBounds_toArray, List.set_cons_zero, List.set_cons_succ, List.getElem_toArray, List.getElem_cons_succ, List.getElem_cons_zero]
        refine AnyFrom.take (i := 3) (v := ?_) rfl (by kernel_rfl) (by kernel_rfl) (by kernel_rfl) (by kernel_rfl) (fun _ _ _ h => h) ⟨by kernel_rfl, ?_⟩ HS ?_
        rotate_left
        · first | (rintro w' ⟨L', hm⟩; have es := hm.eqs; simp only [EqsL] at es; have d0 := d0.cell hm; have d1 := d1.cell hm; have d2 := d2.cell hm; have d3 := d3.cell hm; go_simp; done) | (rintro w' ⟨L', hm⟩; have es := hm.eqs; simp only [EqsL] at es; have d0 := d0.cell hm; have d1 := d1.cell hm; have d2 := d2.cell hm; have d3 := d3.cell hm; go_simp; with_reducible rfl)
        simp only [Act.put, List.setIfInBounds_toArray, List.set_cons_zero, List.set_cons_succ, List.getElem_toArray, List.getElem_cons_succ, List.getElem_cons_zero]
        refine AnyFrom.take (i := 4) (v := ?_) rfl (by kernel_rfl) (by kernel_rfl) (by kernel_rfl) (by kernel_rfl) (fun _ _ _ h => h) ⟨by kernel_rfl, ?_⟩ HS ?_
        rotate_left
        · first | (rintro w' ⟨L', hm⟩; have es := hm.eqs; simp only [EqsL] at es; have d0 := d0.cell hm; have d1 := d1.cell hm; have d2 := d2.cell hm; have d3 := d3.cell hm; go_simp; done) | (rintro w' ⟨L', hm⟩; have es := hm.eqs; simp only [EqsL] at es; have d0 := d0.cell hm; have d1 := d1.cell hm; have d2 := d2.cell hm; have d3 := d3.cell hm; go_simp; with_reducible rfl)
        simp only [Act.put, List.setIfInBounds_toArray, List.set_cons_zero, List.set_cons_succ, List.getElem_toArray, List.getElem_cons_succ, List.getElem_cons_zero]
        refine AnyFrom.take (i := 5) (v := ?_) rfl (by kernel_rfl) (by kernel_rfl) (by kernel_rfl) (by kernel_rfl) (fun _ _ _ h => h) ⟨by kernel_rfl, ?_⟩ HS ?_
        rotate_left
        · first | (rintro w' ⟨L', hm⟩; have es := hm.eqs; simp only [EqsL] at es; have d0 := d0.cell hm; have d1 := d1.cell hm; have d2 := d2.cell hm; have d3 := d3.cell hm; go_simp; done) | (rintro w' ⟨L', hm⟩; have es := hm.eqs; simp only [EqsL] at es; have d0 := d0.cell hm; have d1 := d1.cell hm; have d2 := d2.cell hm; have d3 := d3.cell hm; go_simp; with_reducible rfl)
        simp only [Act.put, List.setIfInBounds_toArray, List.set_cons_zero, List.set_cons_succ, List.getElem_toArray, List.getElem_cons_succ, List.getElem_cons_zero]
        refine AnyFrom.take (i := 6) (v := ?_) rfl (by kernel_rfl) (by kernel_rfl) (by kernel_rfl) (by kernel_rfl) (fun _ _ _ h => h) ⟨by kernel_rfl, ?_⟩ HS ?_
        rotate_left
        · first | (rintro w' ⟨L', hm⟩; have es := hm.eqs; simp only [EqsL] at es; have d0 := d0.cell hm; have d1 := d1.cell hm; have d2 := d2.cell hm; have d3 := d3.cell hm; go_simp; done) | (rintro w' ⟨L', hm⟩; have es := hm.eqs; simp only [EqsL] at es; have d0 := d0.cell hm; have d1 := d1.cell hm; have d2 := d2.cell hm; have d3 := d3.cell hm; go_simp; with_reducible rfl)
        simp only [Act.put, List.setIfInBounds_toArray, List.set_cons_zero, List.set_cons_succ, List.getElem_toArray, List.getElem_cons_succ, List.getElem_cons_zero]
        refine AnyFrom.take (i := 7) (v := ?_) rfl (by kernel_rfl) (by kernel_rfl) (by kernel_rfl) (by kernel_rfl) (fun _ _ _ h => h) ⟨by kernel_rfl, ?_⟩ HS ?_
        rotate_left
        · first | (rintro w' ⟨L', hm⟩; have es := hm.eqs; simp only [EqsL] at es; have d0 := d0.cell hm; have d1 := d1.cell hm; have d2 := d2.cell hm; have d3 := d3.cell hm; go_simp; done) | (rintro w' ⟨L', hm⟩; have es := hm.eqs; simp only [EqsL] at es; have d0 := d0.cell hm; have d1 := d1.cell hm; have d2 := d2.cell hm; have d3 := d3.cell hm; go_simp; with_reducible rfl)
        simp only [Act.put, List.setIfInBounds_toArray, List.set_cons_zero, List.set_cons_succ, List.getElem_toArray, List.getElem_cons_succ, List.getElem_cons_zero]
        refine AnyFrom.take (i := 8) (v := ?_) rfl (by kernel_rfl) (by kernel_rfl) (by kernel_rfl) (by kernel_rfl) (fun _ _ _ h => h) ⟨by kernel_rfl, ?_⟩ HS ?_
        rotate_left
        · first | (rintro w' ⟨L', hm⟩; have es := hm.eqs; simp only [EqsL] at es; have d0 := d0.cell hm; have d1 := d1.cell hm; have d2 := d2.cell hm; have d3 := d3.cell hm; go_simp; done) | (rintro w' ⟨L', hm⟩; have es := hm.eqs; simp only [EqsL] at es; have d0 := d0.cell hm; have d1 := d1.cell hm; have d2 := d2.cell hm; have d3 := d3.cell hm; go_simp; with_reducible rfl)
        simp only [Act.put, List.setIfInBounds_toArray, List.set_cons_zero, List.set_cons_succ, List.getElem_toArray, List.getElem_cons_succ, List.getElem_cons_zero]
        refine AnyFrom.call (i := 9) (by kernel_rfl) rfl (by kernel_rfl) fun K hK => ?_
        go_simp
        generalize hxo : World.alloc W _ = wX
        have mX : Mem w0 H ((W.heap.size, .cells #[.int .u8 0, .string ByteArray.empty, .int .i64 0, .slice none 0 0] 48) :: (mb, .map es1 (cl + 1)) :: (wr.heap.size, .cells #[.int .u8 o.kind, .string o.name, .int .i64 o.n, .slice b1 o.slots.length c1', .int .i64 j] 87) :: (b, .cells #[.int .i64 h.size, .int .i64 h.half, .int .i64 h.scan, .bool h.busy, .slice (some ⟨blk, off, none⟩) h.old.length oc, .slice (some ⟨blk2, off2, none⟩) h.new.length nc, vr] TH) :: L) wX := by rw [← hxo]; exact mW.alloc _
        generalize hxk : W.heap.size = kx at *
        clear hxo
        refine hK _ _ (.inr ⟨_, mX.perm (perm_ov4 _ _ _ _ _)⟩) ?_
        clear hK K HS mW
        try simp only [Act.put, List.setIfInBounds_toArray, List.set_cons_zero, List.set_cons_succ, List.getElem_toArray, List.getElem_cons_succ, List.getElem_cons_zero]
        have HS : (fun w' => ∃ L', Mem w0 H ((mb, .map es1 (cl + 1)) :: (wr.heap.size, .cells #[.int .u8 o.kind, .string o.name, .int .i64 o.n, .slice b1 o.slots.length c1', .int .i64 j] 87) :: (b, .cells #[.int .i64 h.size, .int .i64 h.half, .int .i64 h.scan, .bool h.busy, .slice (some ⟨blk, off, none⟩) h.old.length oc, .slice (some ⟨blk2, off2, none⟩) h.new.length nc, vr] TH) :: L') w') wX := ⟨_, mX.perm (perm_ov4 _ _ _ _ _)⟩
        have es := mX.eqs
        simp only [EqsL] at es
        have ns := mX.nes
        simp only [NeL, NeFrom] at ns
        refine AnyFrom.call (i := 10) (by kernel_rfl) rfl (by kernel_rfl) fun K hK => ?_
        go_simp
        generalize hwy : World.setCell _ _ _ = wY
        have mY := (((mX.set (i := 0) (v := .int .u8 o.kind) .head).set (i := 1) (v := .string o.name) .head).set (i := 2) (v := .int .i64 o.n) .head).set (i := 3) (v := .slice b3 o.slots.length c3') .head
        simp only [List.setIfInBounds_toArray, List.set_cons_zero, List.set_cons_succ] at mY
        rw [hwy] at mY
        refine hK _ _ (.inr ⟨_, mY.perm (perm_ov4 _ _ _ _ _)⟩) ?_
        clear hK K HS es ns mX
        try simp only [Act.put, List.setIfInBounds_toArray, List.set_cons_zero, List.set_cons_succ, List.getElem_toArray, List.getElem_cons_succ, List.getElem_cons_zero]
        refine AnyFrom.done (by kernel_rfl) ?_ _
        have mZ := mY
        clear mY
        have es := mZ.eqs
        simp only [EqsL] at es
        go_wp2_with fail
        go_roundw
        case rel =>
          refine ⟨k + 1, es1, cl + 1, by omega, by go_num, by rw [HSS.out], ?_, ?_⟩
          · rw [HTK.out, if_pos (by omega)]
            exact HL1.out
          · exact (mZ.perm (perm_ov5 _ _ _ _ _)).drop.drop
        case measure => simp [intOf]; omega
    · have hge : ¬ (k : Int) < h.old.length := by omega
      have hkk : k = h.old.length := by omega
      have hst := sum_take h.old k
      have hsl : wordsM (lensO (h.old.take k)) ≤ h.size := by omega
      clear hkk hst hsm
      generalize wordsM (lensO (h.old.take k)) = sm at *
      have mu := m2
      unfold HBox at mu
      have es := mu.eqs
      simp only [EqsL] at es
      go_wp2_with fail
      go_ret
      exact ⟨by first | rfl | simp, m2.drop⟩
end Go.Proofs.Ythipkmmdjhpklaa
namespace Go.Proofs.Ythipkmmdjhpklaa
set_option linter.unusedVariables false
set_option linter.unusedSimpArgs false
open Go.RowKit

set_option maxRecDepth 10000 in
set_option maxHeartbeats 2000000 in
theorem due_fr (b : Nat) (old : List (ObjM × Int)) (size half scan : Int) (busy : Bool) (vo vn vr : Value) {w0 w : World} {H : Hp} {L : List (Nat × Obj)} (ho : SlR encHeld H vo old) (hol : old.length ≤ 100000) (hsl : ∀ p ∈ old, p.1.slots.length ≤ 100000) (hvn : ∃ a b c, vn = .slice a b c) (hvr : ∃ a b c, vr = .slice a b c)
    (m : Mem w0 H ((b, HBox TH size half scan busy vo vn vr) :: L) w) :
    Calls Try.prog 55 #[.pointer (some ⟨b, 0, none⟩)] w (Ret w0 H ((b, HBox TH size half scan busy vo vn vr) :: L) (.int .i64 (dueL old))) := by
  have HO := Lib.hid ho
  obtain ⟨ob, oc, rfl, _, hoc, _, _⟩ := ho
  have hoc := size_le_maxLen hoc
  obtain ⟨na, nn, nc, rfl⟩ := hvn
  obtain ⟨ra, rn, rc, rfl⟩ := hvr
  have HSL := Lib.hid hsl; clear hsl
  have mu := m
  unfold HBox at mu
  have es := mu.eqs; simp only [EqsL, and_true] at es
  go_enter Try.func55, Try.ntmps55
  go_wp2_with fail
  clear es mu
  go_loopw [2, 4, 11] (fun v2 _ v11 wr => ∃ k : Nat, k ≤ old.length ∧ v11 = .int .i64 k ∧ v2 = .int .i64 (dueL (old.take k)) ∧ Mem w0 H ((b, HBox TH size half scan busy (.slice ob old.length oc) (.slice na nn nc) (.slice ra rn rc)) :: L) wr) (fun _ _ i _ => old.length - (intOf i).toNat)
  case atStart => exact ⟨0, Nat.zero_le _, rfl, rfl, m⟩
  case round =>
    obtain ⟨k, hk, rfl, rfl, m2⟩ := hrel
    by_cases hlt : k < old.length
    · obtain ⟨blk, off, sv, rfl, c0, c1, c2, c3, c4, hsl, hfit, hti⟩ := HO.out.getHeld hlt
      obtain ⟨sb, sc, rfl, _, _, _, _⟩ := hsl
      have c0 := c0.cell m2
      have c1 := c1.cell m2
      have c2 := c2.cell m2
      have c3 := c3.cell m2
      have c4 := c4.cell m2
      have hbd := dueL_bound (old.take k) (fun p hp => HSL.out p (List.mem_of_mem_take hp))
      have hbk := HSL.out _ (List.getElem_mem hlt)
      have hlen : (old.take k).length = k := by rw [List.length_take]; omega
      rw [hlen] at hbd
      have hsn : dueL (old.take (k + 1)) = dueL (old.take k) + (if old[k].2 = -1 then 1 + (old[k].1.slots.length : Int) else 0) := by rw [List.take_succ_eq_append_getElem hlt, dueL_snoc]
      have HSN := Lib.hid hsn; clear hsn hlen
      have HF := Lib.hid hfit; clear hfit hti
      have hltI : (k : Int) < old.length := by omega
      generalize old[k] = p at *
      obtain ⟨o, t⟩ := p
      simp only at *
      generalize dueL (old.take k) = wk at *
      by_cases ht : t = -1
      · subst ht
        have m3 := (m2.alloc (.cells #[.int .u8 o.kind, .string o.name, .int .i64 o.n, .slice sb o.slots.length sc, .int .i64 (-1)] 87)).alloc (.cells #[.int .u8 o.kind, .string o.name, .int .i64 o.n, .slice sb o.slots.length sc] 48)
        rw [World.size_alloc] at m3
        go_wp2_with fail
        refine (words1 _ ⟨o.kind, o.name, o.n, .slice sb o.slots.length sc⟩ o.slots.length ⟨sb, sc, rfl⟩ hbk m3).mono ?_
        rintro e w5 ⟨rfl, m4⟩
        go_wp2_with fail
        go_roundw
        case rel => exact ⟨k + 1, by omega, by go_num, by rw [HSN.out]; simp, m4.drop⟩
        case measure => simp [intOf]; omega
      · have ht' : (t == -1) = false := beq_eq_false_iff_ne.2 ht
        have HT := Lib.hid ht; clear ht
        go_wp2_with fail
        go_roundw
        case rel => exact ⟨k + 1, by omega, by go_num, by rw [HSN.out, if_neg HT.out, Int.add_zero], (m2.alloc _).drop⟩
        case measure => simp [intOf]; omega
    · have hk' : k = old.length := by omega
      subst hk'
      go_wp2_with fail
      go_ret
      exact ⟨by first | rfl | (rw [List.take_length]; rfl), m2⟩
end Go.Proofs.Ythipkmmdjhpklaa
