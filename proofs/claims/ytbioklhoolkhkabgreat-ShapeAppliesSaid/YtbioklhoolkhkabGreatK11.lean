/- Plain lemmas: a layout of chapter 23 that a call owns: its classes, the fields of each, its roots, in blocks of the call's own. No program's function in sight. The walks: texts in a block of the call's own: one deleted, one put behind; lists copied. The walks: lists of texts and of classes copied. The walk: a layout of one's own. The walks: the number of a class in a layout of the call's own. The walk: a change done to the roots of a layout of the call's own. -/
import Derived.Test.YtbioklhoolkhkabGreatK10
import Derived.Test.YtbioklhoolkhkabGreatK09
import Derived.Lib.SliceRun
import Derived.Deep.CutRange
namespace Go.Proofs.YtbioklhoolkhkabGreat
set_option linter.unusedVariables false
set_option linter.unusedSimpArgs false
open Go.RowKit

section
variable {w0 w : World} {H H' : Hp} {L L0 : List (Nat × Obj)} {e : TypeId} {size n : Nat} {v : Value} {cs : List Value}
theorem AccL.at {b : Option Addr} {c : Nat} (h : AccL e size (.slice b n c) n cs L0) (hp : 0 < cs.length) (m : Mem w0 H L w) (hs : ∀ p, p ∈ L0 → p ∈ L) :
    ∃ g, b = some ⟨g, 0, none⟩ ∧ (∀ i u, cs[i]? = some u → w.cell? ⟨g, i, none⟩ = some u) ∧ (∀ i, w.frozen? ⟨g, i, none⟩ = false) ∧ g < w.heap.size ∧ n ≤ c ∧ c ≤ maxLen := by
  rcases h.2 with ⟨_, h2, _⟩ | ⟨g, cap, cur, h1, h2, h3, h4, h5, rfl⟩
  · have := h.1
    rw [h2, Nat.zero_mul] at this
    omega
  · cases h1
    have hg := (m.loc _ (hs _ (.head _))).1
    refine ⟨g, rfl, fun i u hu => ?_, frozen_of_heap hg, lt_of_heap hg, h2, h3⟩
    rw [cell_of_heap hg]
    rw [← h5, List.getElem?_take] at hu
    split at hu
    · simpa using hu
    · cases hu
theorem take_set_lt {α : Type} (l : List α) (n k : Nat) (x : α) (h : k < n) : (l.set k x).take n = (l.take n).set k x := by
  rw [List.take_set]
theorem AccL.set1 {g c k : Nat} {x : Value} (h : AccL e size (.slice (some ⟨g, 0, none⟩) n c) n cs L0) (hk : k < cs.length) (m : Mem w0 H (L0 ++ L) w) :
    ∃ L0', AccL e size (.slice (some ⟨g, 0, none⟩) n c) n (cs.set k x) L0' ∧ Mem w0 H (L0' ++ L) (w.setCell ⟨g, k, none⟩ x) := by
  rcases h.2 with ⟨h1, _⟩ | ⟨g', cap, cur, h1, h2, h3, h4, h5, rfl⟩
  · cases h1
  · cases h1
    have m' := m.set (i := k) (v := x) (.head (o' := .cells (cur.setIfInBounds k x) e (0, 0)))
    have hlen := h.1
    refine ⟨[(g, .cells (cur.setIfInBounds k x) e (0, 0))], ⟨by rw [List.length_set]; exact h.1, .inr ⟨g, c, _, rfl, h2, h3, by simpa using h4, ?_, rfl⟩⟩, m'⟩
    rw [Array.toList_setIfInBounds, take_set_lt _ _ _ _ (by omega), h5]
theorem Mem.dropL : ∀ (L0 : List (Nat × Obj)), Mem w0 H (L0 ++ L) w → Mem w0 H L w
  | [], m => m
  | _ :: L0, m => Mem.dropL L0 m.drop
end
/-! ### Texts in a block of the call's own -/
structure OwnS (sv : Value) (xs : List ByteArray) (L0 : List (Nat × Obj)) : Prop where
  acc : AccL 9 1 sv xs.length (xs.map Value.string) L0
  fit : ∀ x ∈ xs, x.size ≤ maxLen
theorem OwnS.nil : OwnS (.slice none 0 0) [] [] := ⟨AccL.nil, fun _ h => (by cases h)⟩
theorem strs_chunks {H : Hp} (xs : List ByteArray) (h : ∀ x ∈ xs, x.size ≤ maxLen) : Chunks encStr H (xs.map Value.string) xs := Chunks.ofV (f := Value.string) (p := fun s => s.size ≤ maxLen) xs h
theorem chunks_strs {H : Hp} {cs : List Value} {l : List ByteArray} (h : Chunks encStr H cs l) : cs = l.map Value.string ∧ ∀ v ∈ l, v.size ≤ maxLen := by
  induction h with
  | nil => exact ⟨rfl, fun _ h => (by cases h)⟩
  | cons h1 _ _ ih =>
    obtain ⟨rfl, h1⟩ := h1
    refine ⟨by rw [ih.1]; rfl, fun x hx => ?_⟩
    rcases List.mem_cons.1 hx with rfl | hx
    · exact h1
    · exact ih.2 x hx
theorem str_oneCell {xs : List ByteArray} : ∀ u ∈ xs.map Value.string, u.oneCell' = true := by
  intro u hu
  obtain ⟨x, _, rfl⟩ := List.mem_map.1 hu
  rfl
section
variable {w0 w : World} {H : Hp} {L L0 : List (Nat × Obj)} {v : Value} {xs : List ByteArray}
theorem OwnS.of {H' : Hp} {cs : List Value} (h : MemAcc w0 H L 9 1 v xs.length cs w) (hc : Chunks encStr H' cs xs) : ∃ L0, OwnS v xs L0 ∧ Mem w0 H (L0 ++ L) w := by
  obtain ⟨L0, h1, h2⟩ := h.split
  obtain ⟨rfl, hf⟩ := chunks_strs hc
  exact ⟨L0, ⟨h1, hf⟩, h2⟩
theorem OwnS.freeze (h : OwnS v xs L0) (m : Mem w0 H (L0 ++ L) w) : ∃ H', Mem w0 H' L w ∧ Hle H H' ∧ SlR encStr H' v xs :=
  (h.acc.join m).done (strs_chunks xs h.fit) rfl rfl
theorem OwnS.shape (h : OwnS v xs L0) : ∃ b c, v = .slice b xs.length c ∧ xs.length ≤ c ∧ c ≤ maxLen := h.acc.shape
theorem OwnS.at {b : Option Addr} {c : Nat} (h : OwnS (.slice b xs.length c) xs L0) {i : Nat} (hi : i < xs.length) (m : Mem w0 H L w) (hs : ∀ p, p ∈ L0 → p ∈ L) :
    ∃ g, b = some ⟨g, 0, none⟩ ∧ w.cell? ⟨g, i, none⟩ = some (.string xs[i]) ∧ (∀ i, w.frozen? ⟨g, i, none⟩ = false) ∧ g < w.heap.size ∧ xs.length ≤ c ∧ c ≤ maxLen := by
  obtain ⟨g, h1, h2, h3, h4, h5, h6⟩ := h.acc.at (by rw [List.length_map]; omega) m hs
  exact ⟨g, h1, h2 i _ (by simp [hi]), h3, h4, h5, h6⟩
theorem OwnS.strsAt (h : OwnS v xs L0) (m : Mem w0 H L w) (hs : ∀ p, p ∈ L0 → p ∈ L) : StrsAt w v xs := by
  obtain ⟨b, c, rfl, h1, h2⟩ := h.shape
  refine ⟨b, c, rfl, by omega, fun i hi => ?_⟩
  obtain ⟨g, rfl, hc, _⟩ := h.at hi m hs
  exact ⟨g, 0, rfl, by rw [Nat.zero_add]; exact hc⟩
theorem OwnS.set {g c : Nat} (h : OwnS (.slice (some ⟨g, 0, none⟩) xs.length c) xs L0) {i : Nat} (hi : i < xs.length) (x : ByteArray) (hx : x.size ≤ maxLen) (m : Mem w0 H (L0 ++ L) w) :
    ∃ L0', OwnS (.slice (some ⟨g, 0, none⟩) xs.length c) (xs.set i x) L0' ∧ Mem w0 H (L0' ++ L) (w.setCell ⟨g, i, none⟩ (.string x)) := by
  obtain ⟨L1, h1, m1⟩ := h.acc.set1 (k := i) (x := .string x) (by simpa using hi) m
  refine ⟨L1, ⟨by rw [List.length_set, ← List.map_set] at *; exact h1, fun v hv => ?_⟩, m1⟩
  rcases List.mem_or_eq_of_mem_set hv with hv | rfl
  · exact h.fit v hv
  · exact hx
end
/-! ### Classes -/
def clsCs : List (ByteArray × Value) → List Value
  | [] => []
  | r :: l => [.string r.1, r.2] ++ clsCs l
theorem clsCs_length : ∀ l : List (ByteArray × Value), (clsCs l).length = l.length * 2
  | [] => rfl
  | r :: l => by simp [clsCs, clsCs_length l]; omega
theorem clsCs_get : ∀ (l : List (ByteArray × Value)) (i : Nat) (h : i < l.length), (clsCs l)[i * 2]? = some (.string l[i].1) ∧ (clsCs l)[i * 2 + 1]? = some l[i].2
  | r :: l, 0, _ => by simp [clsCs]
  | r :: l, i + 1, h => by
    have := clsCs_get l i (by simpa using h)
    have e : (i + 1) * 2 + 1 = i * 2 + 1 + 2 := by omega
    have e0 : (i + 1) * 2 = i * 2 + 2 := by omega
    simpa [clsCs, e, e0] using this
theorem clsCs_set1 : ∀ (l : List (ByteArray × Value)) (i : Nat) (h : i < l.length) (x : ByteArray), (clsCs l).set (i * 2) (.string x) = clsCs (l.set i (x, l[i].2))
  | r :: l, 0, _, x => by simp [clsCs]
  | r :: l, i + 1, h, x => by
    have := clsCs_set1 l i (by simpa using h) x
    have e0 : (i + 1) * 2 = i * 2 + 2 := by omega
    simpa [clsCs, e0] using this
theorem clsCs_set2 : ∀ (l : List (ByteArray × Value)) (i : Nat) (h : i < l.length) (x : Value), (clsCs l).set (i * 2 + 1) x = clsCs (l.set i (l[i].1, x))
  | r :: l, 0, _, x => by simp [clsCs]
  | r :: l, i + 1, h, x => by
    have := clsCs_set2 l i (by simpa using h) x
    have e : (i + 1) * 2 + 1 = i * 2 + 1 + 2 := by omega
    simpa [clsCs, e] using this
theorem clsCs_append (l l' : List (ByteArray × Value)) : clsCs (l ++ l') = clsCs l ++ clsCs l' := by
  induction l with
  | nil => rfl
  | cons r l ih => simp [clsCs, ih]
/-- Rows whose fields the call owns. -/
inductive OwnF : List (ByteArray × Value) → List ClassM → List (Nat × Obj) → Prop
  | nil : OwnF [] [] []
  | cons {r : ByteArray × Value} {c : ClassM} {rs : List (ByteArray × Value)} {cs : List ClassM} {L0 L : List (Nat × Obj)} : r.1 = c.name → c.name.size ≤ maxLen → OwnS r.2 c.fields L0 → OwnF rs cs L → OwnF (r :: rs) (c :: cs) (L0 ++ L)
theorem OwnF.length {rs : List (ByteArray × Value)} {cs : List ClassM} {L : List (Nat × Obj)} (h : OwnF rs cs L) : rs.length = cs.length := by
  induction h with
  | nil => rfl
  | cons _ _ _ _ ih => simp [ih]
theorem OwnF.append {rs rs' : List (ByteArray × Value)} {cs cs' : List ClassM} {L L' : List (Nat × Obj)} (h : OwnF rs cs L) (h' : OwnF rs' cs' L') : OwnF (rs ++ rs') (cs ++ cs') (L ++ L') := by
  induction h with
  | nil => exact h'
  | cons a b c _ ih => rw [List.append_assoc]; exact .cons a b c ih
theorem OwnF.one {r : ByteArray × Value} {c : ClassM} {L0 : List (Nat × Obj)} (a : r.1 = c.name) (b : c.name.size ≤ maxLen) (d : OwnS r.2 c.fields L0) : OwnF [r] [c] L0 := by
  have := OwnF.cons a b d .nil
  rwa [List.append_nil] at this
theorem OwnF.at {rs : List (ByteArray × Value)} {cs : List ClassM} {Ls : List (Nat × Obj)} (h : OwnF rs cs Ls) : ∀ (i : Nat) (hi : i < rs.length) (hj : i < cs.length),
    (rs[i].1 = cs[i].name ∧ cs[i].name.size ≤ maxLen) ∧ ∃ L1 L0 L2, Ls = L1 ++ (L0 ++ L2) ∧ OwnS rs[i].2 cs[i].fields L0 ∧ ∀ nm sv fs L0', nm.size ≤ maxLen → OwnS sv fs L0' → OwnF (rs.set i (nm, sv)) (cs.set i ⟨nm, fs⟩) (L1 ++ (L0' ++ L2)) := by
  induction h with
  | nil => intro i hi; simp at hi
  | @cons r c rs cs L0 L a b d h ih =>
    intro i hi hj
    cases i with
    | zero => exact ⟨⟨a, b⟩, [], L0, L, rfl, d, fun nm sv fs L0' h1 h2 => OwnF.cons (r := (nm, sv)) (c := ⟨nm, fs⟩) (L0 := L0') (L := L) rfl h1 h2 h⟩
    | succ i =>
      obtain ⟨h1, L1, L0', L2, rfl, h2, h3⟩ := ih i (by simpa using hi) (by simpa using hj)
      refine ⟨h1, L0 ++ L1, L0', L2, by rw [List.append_assoc], h2, fun nm sv fs L0'' g1 g2 => ?_⟩
      rw [List.append_assoc]
      exact .cons a b d (h3 nm sv fs L0'' g1 g2)
/-- Rows whose fields are written no more. -/
inductive RowsC (H : Hp) : List (ByteArray × Value) → List ClassM → Prop
  | nil : RowsC H [] []
  | cons {r : ByteArray × Value} {c : ClassM} {rs : List (ByteArray × Value)} {cs : List ClassM} : r.1 = c.name → c.name.size ≤ maxLen → SlR encStr H r.2 c.fields → RowsC H rs cs → RowsC H (r :: rs) (c :: cs)
theorem RowsC.mono {H H' : Hp} {rs : List (ByteArray × Value)} {cs : List ClassM} (h : RowsC H rs cs) (hl : Hle H H') : RowsC H' rs cs := by
  induction h with
  | nil => exact .nil
  | cons a b d _ ih => exact .cons a b (d.mono hl) ih
theorem RowsC.length {H : Hp} {rs : List (ByteArray × Value)} {cs : List ClassM} (h : RowsC H rs cs) : rs.length = cs.length := by
  induction h with
  | nil => rfl
  | cons _ _ _ _ ih => simp [ih]
theorem RowsC.chunks {H : Hp} {rs : List (ByteArray × Value)} {cs : List ClassM} (h : RowsC H rs cs) : Chunks encClass H (clsCs rs) cs := by
  induction h with
  | nil => exact .nil
  | @cons r c rs cs a b d _ ih => exact .cons (E := encClass) ⟨r.2, by rw [a], b, d⟩ rfl ih
theorem RowsC.of {H : Hp} {xs : List Value} {cs : List ClassM} (h : Chunks encClass H xs cs) : ∃ rs, xs = clsCs rs ∧ RowsC H rs cs := by
  induction h with
  | nil => exact ⟨[], rfl, .nil⟩
  | @cons ys c xs cs h1 _ _ ih =>
    obtain ⟨rs, rfl, hr⟩ := ih
    obtain ⟨sv, rfl, h2, h3⟩ := h1
    exact ⟨(c.name, sv) :: rs, rfl, .cons rfl h2 h3 hr⟩
theorem RowsC.get {H : Hp} {rs : List (ByteArray × Value)} {cs : List ClassM} (h : RowsC H rs cs) : ∀ (i : Nat) (hi : i < rs.length) (hj : i < cs.length), rs[i].1 = cs[i].name ∧ cs[i].name.size ≤ maxLen ∧ SlR encStr H rs[i].2 cs[i].fields := by
  induction h with
  | nil => intro i hi; simp at hi
  | cons a b d _ ih =>
    intro i hi hj
    cases i with
    | zero => exact ⟨a, b, d⟩
    | succ i => exact ih i (by simpa using hi) (by simpa using hj)
theorem RowsC.drop {H : Hp} {rs : List (ByteArray × Value)} {cs : List ClassM} (h : RowsC H rs cs) : ∀ k, RowsC H (rs.drop k) (cs.drop k) := by
  induction h with
  | nil => intro k; simp; exact .nil
  | cons a b d h ih =>
    intro k
    cases k with
    | zero => exact .cons a b d h
    | succ k => exact ih k
theorem OwnF.freeze {rs : List (ByteArray × Value)} {cs : List ClassM} {Ls : List (Nat × Obj)} (h : OwnF rs cs Ls) : ∀ {w0 w : World} {H : Hp} {L : List (Nat × Obj)}, Mem w0 H (Ls ++ L) w → ∃ H', Mem w0 H' L w ∧ Hle H H' ∧ RowsC H' rs cs := by
  induction h with
  | nil => intro w0 w H L m; exact ⟨H, m, Hle.refl H, .nil⟩
  | cons a b d _ ih =>
    intro w0 w H L m
    rw [List.append_assoc] at m
    obtain ⟨H1, m1, hl1, s1⟩ := d.freeze m
    obtain ⟨H2, m2, hl2, s2⟩ := ih m1
    exact ⟨H2, m2, hl1.trans hl2, .cons a b (s1.mono hl2) s2⟩
/-! ### A layout that the call changes -/
abbrev LBox (T : TypeId) (vc vr : Value) : Obj := .cells #[vc, vr] T
abbrev TLay : TypeId := 77
def LayOwn (T : TypeId) (b : Nat) (x : LayM) (w0 : World) (H : Hp) (L : List (Nat × Obj)) (w : World) : Prop :=
  ∃ vc vr rs Lc Lf Lr, AccL 39 2 vc rs.length (clsCs rs) Lc ∧ OwnF rs x.classes Lf ∧ OwnS vr x.roots Lr ∧ Mem w0 H ((b, LBox T vc vr) :: (Lc ++ (Lf ++ (Lr ++ L)))) w
end Go.Proofs.YtbioklhoolkhkabGreat
namespace Go.Proofs.YtbioklhoolkhkabGreat
set_option linter.unusedVariables false
set_option linter.unusedSimpArgs false
open Go.RowKit

theorem OwnS.open1 {g c : Nat} {b : Option Addr} {xs : List ByteArray} {L0 : List (Nat × Obj)} (h : OwnS (.slice b xs.length c) xs L0) (hx : 0 < xs.length) :
    ∃ g cur, b = some ⟨g, 0, none⟩ ∧ xs.length ≤ c ∧ c ≤ maxLen ∧ cur.size = c ∧ cur.toList.take xs.length = xs.map Value.string ∧ L0 = [(g, .cells cur 9 (0, 0))] := by
  rcases h.acc.2 with ⟨_, h2, _⟩ | ⟨g, cap, cur, h1, h2, h3, h4, h5, rfl⟩
  · omega
  · cases h1
    exact ⟨g, cur, rfl, h2, h3, by simpa using h4, by simpa using h5, rfl⟩
theorem OwnS.row {g c : Nat} {cur : Array Value} {xs : List ByteArray} (h1 : xs.length ≤ c) (h2 : c ≤ maxLen) (h3 : cur.size = c) (h4 : cur.toList.take xs.length = xs.map Value.string) (h5 : ∀ x ∈ xs, x.size ≤ maxLen) :
    OwnS (.slice (some ⟨g, 0, none⟩) xs.length c) xs [(g, .cells cur 9 (0, 0))] :=
  ⟨⟨by simp, .inr ⟨g, c, cur, rfl, h1, h2, by simpa using h3, by simpa using h4, rfl⟩⟩, h5⟩
/-- The cells behind the shift that deletes element k of n. -/
def delCur (cur : Array Value) (k n : Nat) : Array Value := ((cur.toList.take k ++ (cur.toList.drop (k + 1)).take (n - (k + 1))) ++ cur.toList.drop (n - 1)).toArray
theorem delCur_size (cur : Array Value) (k n : Nat) (hk : k < n) (hn : n ≤ cur.size) : (delCur cur k n).size = cur.size := by
  unfold delCur
  simp only [List.size_toArray, List.length_append, List.length_take, List.length_drop, Array.length_toList]
  omega
theorem delCur_take (cur : Array Value) (k n : Nat) (hk : k < n) (hn : n ≤ cur.size) : (delCur cur k n).toList.take (n - 1) = (cur.toList.take n).eraseIdx k := by
  unfold delCur
  rw [List.take_left' (by simp only [List.length_append, List.length_take, List.length_drop, Array.length_toList]; omega)]
  rw [List.eraseIdx_eq_take_drop_succ, List.take_take, List.drop_take, Nat.min_eq_left (by omega)]
theorem map_eraseIdx {α β : Type} (f : α → β) (l : List α) (k : Nat) : (l.map f).eraseIdx k = (l.eraseIdx k).map f := by
  rw [List.eraseIdx_eq_take_drop_succ, List.eraseIdx_eq_take_drop_succ, List.map_append, List.map_take, List.map_drop]
/-- An append whose run is known, as one step of a region that draws its order. -/
theorem step_append_run {P : Program} {w w' : World} {v' : Value} {ops : Array Oper} {o : Oper} {a : Act} {K : Act → World → Prop} {Q : Exit → Act → World → Prop} {E : Prop} (hgd : o.guard = none) (s x : Operand) (t : TypeId)
    (ho : o.op = .call { callee := .builtin .append, args := #[s, x], argTypes := #[t, t] }) (v : Value) (hs : a.eval s = v) (xv : Value) (hx : a.eval x = xv)
    (hr : (Builtin.append_ #[t, t] o.type #[v, xv]).run P w = .ok v' w') (h : K (a.put o.dst v') w') :
    if Region.wanted o (yielded ops a.tmps) = true then Oper.wp P o a w K Q else E := by
  have hw : Region.wanted o (yielded ops a.tmps) = true := by simp [Region.wanted, hgd]
  rw [if_pos hw]
  unfold Oper.wp execOp
  simp only [ho, resolve, invoke, builtin, Sem.run_bind, Sem.run_pure, Result.andThen_ok, List.map_toArray, List.map_cons, List.map_nil, hs, hx, hr]
  exact h
set_option maxRecDepth 10000 in
set_option maxHeartbeats 4000000 in
theorem Delete_any (v : Value) (xs : List ByteArray) (k : Nat) (hk : k < xs.length) {w0 w : World} {H : Hp} {L L0 : List (Nat × Obj)} (h : OwnS v xs L0) (m : Mem w0 H (L0 ++ L) w) :
    Calls Tryz.prog 80 #[v, .int .i64 k, .int .i64 (k + 1)] w fun e w' => ∃ v' L0', e = .returned v' ∧ OwnS v' (xs.eraseIdx k) L0' ∧ Mem w0 H (L0' ++ L) w' := by
  obtain ⟨b, c, rfl, hc1, hc2⟩ := h.shape
  have hfit := h.fit
  obtain ⟨g, cur, rfl, -, -, hsz, htk, rfl⟩ := h.open1 (g := 0) (by omega)
  have hc2 := size_le_maxLen hc2
  have hkI : ((k : Int) == (k : Int) + 1) = false := beq_eq_false_iff_ne.2 (by omega)
  have hxI : (k : Int) < xs.length := by omega
  go_enter Tryz.func80, Tryz.ntmps80
  go_wp2_with fail
  have hkc : k ≤ c := by omega
  have hk1 : (0 : Int) ≤ (k : Int) + 1 ∧ (k : Int) + 1 ≤ xs.length := by omega
  by_cases hck : c = k + 1
  · subst hck
    have hk2 : (k : Int) ≤ (k : Int) + 1 := by omega
    have hlen : cur.toList.length = (k + 1) := by rw [Array.length_toList]; exact hsz
    refine AnyFrom.start (fun w' => w' = w.drew) 6 (by kernel_rfl) ?_
    have md := m.drew
    generalize w.drew = W at *
    have HS : W = W := rfl
    refine AnyFrom.pure (i := 0) (v := ?_) rfl (by kernel_rfl) (by kernel_rfl) (by kernel_rfl) (by decide) (fun _ _ _ h => h) ⟨by kernel_rfl, ?_⟩ HS ?_
    rotate_left
    · first | (intro w'; go_simp; done) | (intro w'; go_simp; with_reducible rfl)
    simp only [Act.put, List.setIfInBounds_toArray, List.set_cons_zero, List.set_cons_succ, List.getElem_toArray, List.getElem_cons_succ, List.getElem_cons_zero]
    refine AnyFrom.pure (i := 1) (v := ?_) rfl (by kernel_rfl) (by kernel_rfl) (by kernel_rfl) (by decide) (fun _ _ _ h => h) ⟨by kernel_rfl, ?_⟩ HS ?_
    rotate_left
    · first | (intro w'; go_simp; done) | (intro w'; go_simp; with_reducible rfl)
    simp only [Act.put, List.setIfInBounds_toArray, List.set_cons_zero, List.set_cons_succ, List.getElem_toArray, List.getElem_cons_succ, List.getElem_cons_zero]
    refine AnyFrom.pure (i := 2) (v := ?_) rfl (by kernel_rfl) (by kernel_rfl) (by kernel_rfl) (by decide) (fun _ _ _ h => h) ⟨by kernel_rfl, ?_⟩ HS ?_
    rotate_left
    · first | (intro w'; go_simp; done) | (intro w'; go_simp; with_reducible rfl)
    simp only [Act.put, List.setIfInBounds_toArray, List.set_cons_zero, List.set_cons_succ, List.getElem_toArray, List.getElem_cons_succ, List.getElem_cons_zero]
    refine AnyFrom.pure (i := 3) (v := ?_) rfl (by kernel_rfl) (by kernel_rfl) (by kernel_rfl) (by decide) (fun _ _ _ h => h) ⟨by kernel_rfl, ?_⟩ HS ?_
    rotate_left
    · first | (intro w'; go_simp; done) | (intro w'; go_simp; with_reducible rfl)
    simp only [Act.put, List.setIfInBounds_toArray, List.set_cons_zero, List.set_cons_succ, List.getElem_toArray, List.getElem_cons_succ, List.getElem_cons_zero]
    refine AnyFrom.pure (i := 4) (v := ?_) rfl (by kernel_rfl) (by kernel_rfl) (by kernel_rfl) (by decide) (fun _ _ _ h => h) ⟨by kernel_rfl, ?_⟩ HS ?_
    rotate_left
    · first | (intro w'; go_simp; done) | (intro w'; go_simp; with_reducible rfl)
    simp only [Act.put, List.setIfInBounds_toArray, List.set_cons_zero, List.set_cons_succ, List.getElem_toArray, List.getElem_cons_succ, List.getElem_cons_zero]
    refine AnyFrom.pure (i := 5) (v := ?_) rfl (by kernel_rfl) (by kernel_rfl) (by kernel_rfl) (by decide) (fun _ _ _ h => h) ⟨by kernel_rfl, ?_⟩ HS ?_
    rotate_left
    · first | (intro w'; go_simp; done) | (intro w'; go_simp; with_reducible rfl)
    simp only [Act.put, List.setIfInBounds_toArray, List.set_cons_zero, List.set_cons_succ, List.getElem_toArray, List.getElem_cons_succ, List.getElem_cons_zero]
    have hcur := (md.loc _ (.head _)).1
    simp only at hcur
    obtain ⟨ti, hi1, hi2, hi3, hi4⟩ := info_parts (P := Tryz.prog) (e := 9) (z := .string ByteArray.empty) (size := 1) (bytes := 16) (by kernel_rfl)
    have hnl : ((cur.toList.drop (k + 1)).take (0)).length = (0) * ti.size := by
      rw [hi3, List.length_take, List.length_drop]; omega
    have hr := run_append_room (P := Tryz.prog) W 23 23 9 ti Tryz.underlying23 hi1 g k ((k + 1)) cur hcur ⟨g, 0, none⟩ (0) (0) ((cur.toList.drop (k + 1)).take (0)) hnl (by
      intro j u hu
      rw [Addr.add_lit, cell_of_heap hcur]
      rw [List.getElem?_take] at hu
      split at hu
      · rw [List.getElem?_drop] at hu
        first
          | (simpa using hu)
          | (exfalso; omega)
      · cases hu) (by
      intro u hu
      have hu1 := List.mem_of_mem_drop (List.mem_of_mem_take hu)
      have hu2 : u ∈ (cur.toList.take xs.length).drop (k + 1) := by first | (rw [List.drop_take]; exact hu) | (exfalso; simp at hu)
      rw [htk] at hu2
      exact str_oneCell _ (List.mem_of_mem_drop hu2)) (by omega) (by rw [hnl, hi3]; omega)
    have hnn : k + (0) = xs.length - 1 := by omega
    rw [hnl, hi3, Nat.mul_one, Nat.mul_one, hnn] at hr
    have hr2 : (Builtin.append_ #[23, 23] 23 #[.slice (some ⟨g, 0, none⟩) k ((k + 1)), .slice (some ⟨g, 0, none⟩) (0) (0)]).run Tryz.prog W = .ok (.slice (some ⟨g, 0, none⟩) (xs.length - 1) ((k + 1))) (W.setRow g (delCur cur k xs.length)) := (by unfold delCur; rw [show xs.length - (k + 1) = 0 by omega]; exact hr)
    have md2 : Mem w0 H ((g, .cells (delCur cur k xs.length) 9) :: L) (W.setRow g (delCur cur k xs.length)) := md.setObj .head rfl rfl rfl (setRow_heap W g cur _ _ _ hcur) (fun j hj => setRow_other W g j _ hj)
    refine AnyFrom.one (i := 6) (by kernel_rfl) (AnyFrom.opIf rfl fun K hK => ?_)
    refine step_append_run rfl _ _ 23 rfl _ rfl _ rfl hr2 ?_
    clear hr hr2 HS
    generalize W.setRow g (delCur cur k xs.length) = W2 at *
    refine hK _ _ (.inl ⟨6, by decide, by rfl⟩) ?_
    clear hK K
    try simp only [Act.put, List.setIfInBounds_toArray, List.set_cons_zero, List.set_cons_succ, List.getElem_toArray, List.getElem_cons_succ, List.getElem_cons_zero]
    refine AnyFrom.one (i := 7) (by kernel_rfl) (AnyFrom.op rfl (by kernel_rfl) fun K hK => ?_)
    go_simp
    refine hK _ _ (.inl ⟨7, by decide, by rfl⟩) ?_
    clear hK K
    try simp only [Act.put, List.setIfInBounds_toArray, List.set_cons_zero, List.set_cons_succ, List.getElem_toArray, List.getElem_cons_succ, List.getElem_cons_zero]
    refine AnyFrom.done (by kernel_rfl) ?_ _
    have hcur2 := (md2.loc _ (.head _)).1
    simp only at hcur2
    have hds := delCur_size cur k xs.length hk (by omega)
    have hcl := Lib.run_clear_slice (P := Tryz.prog) W2 23 9 0 (.string ByteArray.empty) Tryz.underlying23 (fun w => by go_simp; rfl) rfl rfl g (xs.length - 1) 1 ((k + 1) - (xs.length - 1)) (by decide)
      (fun j hj => by rw [cell_of_heap hcur2]; have : xs.length - 1 + j < (delCur cur k xs.length).size := by omega
                      simp [this]) (fun j hj => frozen_of_heap hcur2 _)
    have hcn : ¬ (k + 1) = xs.length - 1 := by omega
    have hn1 : xs.length - 1 ≤ xs.length := by omega
    go_wp2_with fail
    rw [show xs.length - (xs.length - 1) = 1 by omega, hcl]
    simp only [Result.andThen_ok, Oper.upon_value]
    go_wp2_with fail
    go_ret
    have mf : Mem w0 H ((g, .cells ((delCur cur k xs.length).setIfInBounds (xs.length - 1) (.string ByteArray.empty)) 9) :: L) (W2.setCell ⟨g, xs.length - 1, none⟩ (.string ByteArray.empty)) := md2.set .head
    have hle : (xs.eraseIdx k).length = xs.length - 1 := by rw [List.length_eraseIdx, if_pos hk]
    refine ⟨_, [(g, .cells ((delCur cur k xs.length).setIfInBounds (xs.length - 1) (.string ByteArray.empty)) 9 (0, 0))], rfl, ?_, mf⟩
    rw [← hle]
    refine OwnS.row (by omega) (by unfold maxLen; omega) (by rw [Array.size_setIfInBounds, hds]; exact hsz) ?_ (fun x hx => hfit x (List.mem_of_mem_eraseIdx hx))
    rw [hle, Array.toList_setIfInBounds, List.take_set, List.set_eq_of_length_le (by rw [List.length_take]; omega), delCur_take cur k xs.length hk (by omega), htk, map_eraseIdx]
  · skip
    have hlen : cur.toList.length = c := by rw [Array.length_toList]; exact hsz
    refine AnyFrom.start (fun w' => w' = w.drew) 6 (by kernel_rfl) ?_
    have md := m.drew
    generalize w.drew = W at *
    have HS : W = W := rfl
    refine AnyFrom.pure (i := 0) (v := ?_) rfl (by kernel_rfl) (by kernel_rfl) (by kernel_rfl) (by decide) (fun _ _ _ h => h) ⟨by kernel_rfl, ?_⟩ HS ?_
    rotate_left
    · first | (intro w'; go_simp; done) | (intro w'; go_simp; with_reducible rfl)
    simp only [Act.put, List.setIfInBounds_toArray, List.set_cons_zero, List.set_cons_succ, List.getElem_toArray, List.getElem_cons_succ, List.getElem_cons_zero]
    refine AnyFrom.pure (i := 1) (v := ?_) rfl (by kernel_rfl) (by kernel_rfl) (by kernel_rfl) (by decide) (fun _ _ _ h => h) ⟨by kernel_rfl, ?_⟩ HS ?_
    rotate_left
    · first | (intro w'; go_simp; done) | (intro w'; go_simp; with_reducible rfl)
    simp only [Act.put, List.setIfInBounds_toArray, List.set_cons_zero, List.set_cons_succ, List.getElem_toArray, List.getElem_cons_succ, List.getElem_cons_zero]
    refine AnyFrom.pure (i := 2) (v := ?_) rfl (by kernel_rfl) (by kernel_rfl) (by kernel_rfl) (by decide) (fun _ _ _ h => h) ⟨by kernel_rfl, ?_⟩ HS ?_
    rotate_left
    · first | (intro w'; go_simp; done) | (intro w'; go_simp; with_reducible rfl)
    simp only [Act.put, List.setIfInBounds_toArray, List.set_cons_zero, List.set_cons_succ, List.getElem_toArray, List.getElem_cons_succ, List.getElem_cons_zero]
    refine AnyFrom.pure (i := 3) (v := ?_) rfl (by kernel_rfl) (by kernel_rfl) (by kernel_rfl) (by decide) (fun _ _ _ h => h) ⟨by kernel_rfl, ?_⟩ HS ?_
    rotate_left
    · first | (intro w'; go_simp; done) | (intro w'; go_simp; with_reducible rfl)
    simp only [Act.put, List.setIfInBounds_toArray, List.set_cons_zero, List.set_cons_succ, List.getElem_toArray, List.getElem_cons_succ, List.getElem_cons_zero]
    refine AnyFrom.pure (i := 4) (v := ?_) rfl (by kernel_rfl) (by kernel_rfl) (by kernel_rfl) (by decide) (fun _ _ _ h => h) ⟨by kernel_rfl, ?_⟩ HS ?_
    rotate_left
    · first | (intro w'; go_simp; done) | (intro w'; go_simp; with_reducible rfl)
    simp only [Act.put, List.setIfInBounds_toArray, List.set_cons_zero, List.set_cons_succ, List.getElem_toArray, List.getElem_cons_succ, List.getElem_cons_zero]
    refine AnyFrom.pure (i := 5) (v := ?_) rfl (by kernel_rfl) (by kernel_rfl) (by kernel_rfl) (by decide) (fun _ _ _ h => h) ⟨by kernel_rfl, ?_⟩ HS ?_
    rotate_left
    · first | (intro w'; go_simp; done) | (intro w'; go_simp; with_reducible rfl)
    simp only [Act.put, List.setIfInBounds_toArray, List.set_cons_zero, List.set_cons_succ, List.getElem_toArray, List.getElem_cons_succ, List.getElem_cons_zero]
    have hcur := (md.loc _ (.head _)).1
    simp only at hcur
    obtain ⟨ti, hi1, hi2, hi3, hi4⟩ := info_parts (P := Tryz.prog) (e := 9) (z := .string ByteArray.empty) (size := 1) (bytes := 16) (by kernel_rfl)
    have hnl : ((cur.toList.drop (k + 1)).take (xs.length - (k + 1))).length = (xs.length - (k + 1)) * ti.size := by
      rw [hi3, List.length_take, List.length_drop]; omega
    have hr := run_append_room (P := Tryz.prog) W 23 23 9 ti Tryz.underlying23 hi1 g k (c) cur hcur ⟨g, k + 1, none⟩ (xs.length - (k + 1)) (c - (k + 1)) ((cur.toList.drop (k + 1)).take (xs.length - (k + 1))) hnl (by
      intro j u hu
      rw [Addr.add_lit, cell_of_heap hcur]
      rw [List.getElem?_take] at hu
      split at hu
      · rw [List.getElem?_drop] at hu
        first
          | (simpa using hu)
          | (exfalso; omega)
      · cases hu) (by
      intro u hu
      have hu1 := List.mem_of_mem_drop (List.mem_of_mem_take hu)
      have hu2 : u ∈ (cur.toList.take xs.length).drop (k + 1) := by first | (rw [List.drop_take]; exact hu) | (exfalso; simp at hu)
      rw [htk] at hu2
      exact str_oneCell _ (List.mem_of_mem_drop hu2)) (by omega) (by rw [hnl, hi3]; omega)
    have hnn : k + (xs.length - (k + 1)) = xs.length - 1 := by omega
    rw [hnl, hi3, Nat.mul_one, Nat.mul_one, hnn] at hr
    have hr2 : (Builtin.append_ #[23, 23] 23 #[.slice (some ⟨g, 0, none⟩) k (c), .slice (some ⟨g, k + 1, none⟩) (xs.length - (k + 1)) (c - (k + 1))]).run Tryz.prog W = .ok (.slice (some ⟨g, 0, none⟩) (xs.length - 1) (c)) (W.setRow g (delCur cur k xs.length)) := hr
    have md2 : Mem w0 H ((g, .cells (delCur cur k xs.length) 9) :: L) (W.setRow g (delCur cur k xs.length)) := md.setObj .head rfl rfl rfl (setRow_heap W g cur _ _ _ hcur) (fun j hj => setRow_other W g j _ hj)
    refine AnyFrom.one (i := 6) (by kernel_rfl) (AnyFrom.opIf rfl fun K hK => ?_)
    refine step_append_run rfl _ _ 23 rfl _ rfl _ rfl hr2 ?_
    clear hr hr2 HS
    generalize W.setRow g (delCur cur k xs.length) = W2 at *
    refine hK _ _ (.inl ⟨6, by decide, by rfl⟩) ?_
    clear hK K
    try simp only [Act.put, List.setIfInBounds_toArray, List.set_cons_zero, List.set_cons_succ, List.getElem_toArray, List.getElem_cons_succ, List.getElem_cons_zero]
    refine AnyFrom.one (i := 7) (by kernel_rfl) (AnyFrom.op rfl (by kernel_rfl) fun K hK => ?_)
    go_simp
    refine hK _ _ (.inl ⟨7, by decide, by rfl⟩) ?_
    clear hK K
    try simp only [Act.put, List.setIfInBounds_toArray, List.set_cons_zero, List.set_cons_succ, List.getElem_toArray, List.getElem_cons_succ, List.getElem_cons_zero]
    refine AnyFrom.done (by kernel_rfl) ?_ _
    have hcur2 := (md2.loc _ (.head _)).1
    simp only at hcur2
    have hds := delCur_size cur k xs.length hk (by omega)
    have hcl := Lib.run_clear_slice (P := Tryz.prog) W2 23 9 0 (.string ByteArray.empty) Tryz.underlying23 (fun w => by go_simp; rfl) rfl rfl g (xs.length - 1) 1 (c - (xs.length - 1)) (by decide)
      (fun j hj => by rw [cell_of_heap hcur2]; have : xs.length - 1 + j < (delCur cur k xs.length).size := by omega
                      simp [this]) (fun j hj => frozen_of_heap hcur2 _)
    have hcn : ¬ c = xs.length - 1 := by omega
    have hn1 : xs.length - 1 ≤ xs.length := by omega
    go_wp2_with fail
    rw [show xs.length - (xs.length - 1) = 1 by omega, hcl]
    simp only [Result.andThen_ok, Oper.upon_value]
    go_wp2_with fail
    go_ret
    have mf : Mem w0 H ((g, .cells ((delCur cur k xs.length).setIfInBounds (xs.length - 1) (.string ByteArray.empty)) 9) :: L) (W2.setCell ⟨g, xs.length - 1, none⟩ (.string ByteArray.empty)) := md2.set .head
    have hle : (xs.eraseIdx k).length = xs.length - 1 := by rw [List.length_eraseIdx, if_pos hk]
    refine ⟨_, [(g, .cells ((delCur cur k xs.length).setIfInBounds (xs.length - 1) (.string ByteArray.empty)) 9 (0, 0))], rfl, ?_, mf⟩
    rw [← hle]
    refine OwnS.row (by omega) (by unfold maxLen; omega) (by rw [Array.size_setIfInBounds, hds]; exact hsz) ?_ (fun x hx => hfit x (List.mem_of_mem_eraseIdx hx))
    rw [hle, Array.toList_setIfInBounds, List.take_set, List.set_eq_of_length_le (by rw [List.length_take]; omega), delCur_take cur k xs.length hk (by omega), htk, map_eraseIdx]
end Go.Proofs.YtbioklhoolkhkabGreat
namespace Go.Proofs.YtbioklhoolkhkabGreat
set_option linter.unusedVariables false
set_option linter.unusedSimpArgs false
open Go.RowKit

theorem cls_oneCell {H : Hp} {cs : List Value} {xs : List ClassM} (h : Chunks encClass H cs xs) : ∀ u ∈ cs, u.oneCell' = true :=
  h.oneCell fun cs x hx u hu => by
    obtain ⟨sv, rfl, _, b, c, rfl, _⟩ := hx
    simp only [List.mem_cons, List.not_mem_nil, or_false] at hu
    rcases hu with rfl | rfl <;> rfl
theorem Chunks.strH {H H' : Hp} {xs : List Value} {ys : List ByteArray} (h : Chunks encStr H xs ys) : Chunks encStr H' xs ys := by
  obtain ⟨rfl, hf⟩ := chunks_strs h
  exact strs_chunks ys hf
/-- Texts in a block of the call's own are handed back. -/
def OwnSR (xs : List ByteArray) (w0 : World) (H : Hp) (L : List (Nat × Obj)) (e : Ending) (w' : World) : Prop :=
  ∃ v L0, e = .returned v ∧ OwnS v xs L0 ∧ Mem w0 H (L0 ++ L) w'
set_option maxHeartbeats 1000000 in
theorem CloneS_any (v : Value) (xs : List ByteArray) {w0 w : World} {H : Hp} {L : List (Nat × Obj)} (m : Mem w0 H L w) (hv : SlR encStr H v xs) (hx : xs.length ≤ 100000) :
    Calls Tryz.prog 44 #[v] w (OwnSR xs w0 H L) := by
  have HV := Lib.hid hv
  obtain ⟨b, c, rfl, hc1, hc2, h0, _⟩ := hv
  obtain ⟨news, hch, hsrc⟩ := HV.out.src (m.alloc (.cells #[] 9))
  have HC := Lib.hid hch; clear hch
  have HS := Lib.hid hsrc; clear hsrc
  have h1 := fun w => Lib.run_eql_slice_nil (P := Tryz.prog) w
  cases b with
  | none =>
    have h00 := h0 rfl
    subst h00
    have hxs : xs = [] := List.eq_nil_of_length_eq_zero (by omega)
    subst hxs
    clear HV HC HS h0
    go_enter Tryz.func44, Tryz.ntmps44
    go_wp2_with fail
    go_ret
    exact ⟨_, [], rfl, OwnS.nil, m⟩
  | some a =>
    go_enter Tryz.func44, Tryz.ntmps44
    go_wp2_with (at_builtin; go_must (refine wpList_append_mem (w0 := w0) (H := H) (L := L) rfl _ _ 23 rfl 9 1 16 (.string ByteArray.empty) Tryz.underlying23 (by kernel_rfl) rfl (by decide) _ 0 [] ?hacc rfl _ xs.length news ?hsrc rfl ?hl ?h1 ?hb ?h63 ?_))
    case hacc => exact MemAcc.row (m.alloc (.cells #[] 9)) (Nat.le_refl _) (by decide) rfl rfl
    case hsrc => exact HS.out
    case hl => rw [HC.out.length]; rfl
    case h1 => rw [(chunks_strs HC.out).1]; exact str_oneCell
    case hb => omega
    case h63 => unfold maxLen; omega
    intro v' w' hacc
    obtain ⟨b', c', rfl, _, _⟩ := hacc.shape
    obtain ⟨L0, ho, m2⟩ := OwnS.of hacc HC.out
    go_wp2
    go_ret
    exact ⟨_, L0, by simp, ho, m2⟩
/-- Classes copied: the row of classes is the call's own, their fields are not. -/
def CloneCR (xs : List ClassM) (w0 : World) (H : Hp) (L : List (Nat × Obj)) (e : Ending) (w' : World) : Prop :=
  ∃ v rs L0, e = .returned v ∧ AccL 39 2 v rs.length (clsCs rs) L0 ∧ RowsC H rs xs ∧ Mem w0 H (L0 ++ L) w'
set_option maxHeartbeats 1000000 in
theorem CloneC_any (v : Value) (xs : List ClassM) {w0 w : World} {H : Hp} {L : List (Nat × Obj)} (m : Mem w0 H L w) (hv : SlR encClass H v xs) (hx : xs.length ≤ 100000) :
    Calls Tryz.prog 43 #[v] w (CloneCR xs w0 H L) := by
  have HV := Lib.hid hv
  obtain ⟨b, c, rfl, hc1, hc2, h0, _⟩ := hv
  obtain ⟨news, hch, hsrc⟩ := HV.out.src (m.alloc (.cells #[] 39))
  have HC := Lib.hid hch; clear hch
  have HS := Lib.hid hsrc; clear hsrc
  have h1 := fun w => Lib.run_eql_slice_nil (P := Tryz.prog) w
  cases b with
  | none =>
    have h00 := h0 rfl
    subst h00
    have hxs : xs = [] := List.eq_nil_of_length_eq_zero (by omega)
    subst hxs
    clear HV HC HS h0
    go_enter Tryz.func43, Tryz.ntmps43
    go_wp2_with fail
    go_ret
    exact ⟨_, [], [], rfl, AccL.nil, .nil, m⟩
  | some a =>
    go_enter Tryz.func43, Tryz.ntmps43
    go_wp2_with (at_builtin; go_must (refine wpList_append_mem (w0 := w0) (H := H) (L := L) rfl _ _ 22 rfl 39 2 40 (.agg #[.string ByteArray.empty, .slice none 0 0]) Tryz.underlying22 (by kernel_rfl) rfl (by decide) _ 0 [] ?hacc rfl _ xs.length news ?hsrc rfl ?hl ?h1 ?hb ?h63 ?_))
    case hacc => exact MemAcc.row (m.alloc (.cells #[] 39)) (Nat.le_refl _) (by decide) rfl rfl
    case hsrc => exact HS.out
    case hl => exact HC.out.length
    case h1 => exact cls_oneCell HC.out
    case hb => omega
    case h63 => unfold maxLen; omega
    intro v' w' hacc
    obtain ⟨b', c', rfl, _, _⟩ := hacc.shape
    obtain ⟨rs, hrs, hr⟩ := RowsC.of HC.out
    rw [hrs, ← hr.length] at hacc
    obtain ⟨L0, ho, m2⟩ := hacc.split
    go_wp2
    go_ret
    exact ⟨_, rs, L0, by rw [hr.length]; simp, ho, hr, m2⟩
end Go.Proofs.YtbioklhoolkhkabGreat
namespace Go.Proofs.YtbioklhoolkhkabGreat
set_option linter.unusedVariables false
set_option linter.unusedSimpArgs false
open Go.RowKit

theorem perm_nl1 {α : Type} (b : α) (Lr Lc L : List α) : (b :: (Lr ++ (Lc ++ L))).Perm (b :: (Lc ++ ([] ++ (Lr ++ L)))) := by
  refine .cons _ ?_
  rw [List.nil_append, ← List.append_assoc, ← List.append_assoc]
  exact List.Perm.append_right _ List.perm_append_comm
theorem perm_nl2 {α : Type} (b : α) (L0 Lc L : List α) : (L0 ++ (b :: (Lc ++ L))).Perm (b :: (Lc ++ (L0 ++ L))) := by
  refine List.perm_middle.trans (.cons _ ?_)
  rw [← List.append_assoc, ← List.append_assoc]
  exact List.Perm.append_right _ List.perm_append_comm
theorem perm_nl3 {α : Type} (b : α) (Lc L : List α) : (b :: (Lc ++ L)).Perm (Lc ++ (b :: L)) := List.perm_middle.symm
theorem perm_nl4 {α : Type} (b : α) (Lc L0 Lf R : List α) : (Lc ++ (b :: (L0 ++ (Lf ++ R)))).Perm (b :: (Lc ++ ((Lf ++ L0) ++ R))) := by
  refine List.perm_middle.trans (.cons _ (List.Perm.append_left _ ?_))
  rw [← List.append_assoc]
  exact List.Perm.append_right _ List.perm_append_comm
theorem set_take_succ {α : Type} (l : List α) (k : Nat) (x : α) (h : k < l.length) : (l.set k x).take (k + 1) = l.take k ++ [x] := by
  rw [List.take_succ_eq_append_getElem (by simpa using h)]
  simp [List.take_set]
  rw [List.set_eq_of_length_le (by rw [List.length_take]; omega)]
theorem set_drop_succ {α : Type} (l : List α) (k : Nat) (x : α) : (l.set k x).drop (k + 1) = l.drop (k + 1) := by
  rw [List.drop_set_of_lt (by omega)]
def NewLayR (x : LayM) (w0 : World) (H : Hp) (L : List (Nat × Obj)) (e : Ending) (w' : World) : Prop := ∃ b, e = .returned (.pointer (some ⟨b, 0, none⟩)) ∧ LayOwn TLay b x w0 H L w'
set_option maxRecDepth 10000 in
set_option maxHeartbeats 4000000 in
theorem newLayout_any (v1 v2 : Value) (cs : List ClassM) (rs0 : List ByteArray) {w0 w : World} {H : Hp} {L : List (Nat × Obj)} (m : Mem w0 H L w) (hv1 : SlR encClass H v1 cs) (hv2 : SlR encStr H v2 rs0) (hx1 : cs.length ≤ 100000) (hx2 : rs0.length ≤ 100000) (hf : ∀ c ∈ cs, c.fields.length ≤ 100000) :
    Calls Tryz.prog 25 #[v1, v2] w (NewLayR ⟨cs, rs0⟩ w0 H L) := by
  have H1 := Lib.hid hv1; clear hv1
  have H2 := Lib.hid hv2; clear hv2
  have HF := Lib.hid hf; clear hf
  go_enter Tryz.func25, Tryz.ntmps25
  go_wp2_with fail
  refine (CloneC_any v1 cs m H1.out hx1).mono ?_
  rintro e w1 ⟨vc, rows, Lc, rfl, hac, hrc, m1⟩
  go_wp2_with fail
  refine (CloneS_any v2 rs0 m1 H2.out hx2).mono ?_
  rintro e w2 ⟨vr, Lr, rfl, hor, m2⟩
  obtain ⟨cb, cc, rfl, hcc1, hcc2⟩ := hac.shape
  obtain ⟨rb, rc, rfl, hrc1, hrc2⟩ := hor.shape
  have hrl := Lib.hid hrc.length
  have hcc2' := size_le_maxLen hcc2
  have m3 := m2.alloc (LBox TLay (.slice cb rows.length cc) (.slice rb rs0.length rc))
  generalize hb : w2.heap.size = b at *
  have m4 := m3.perm (perm_nl1 _ _ _ _)
  have HO := Lib.hid hor; clear hor
  have mu := m4
  unfold LBox at mu
  have es := mu.eqs
  simp only [EqsL] at es
  go_wp2_with fail
  clear es mu
  have HAC : ∃ rows' Lc' Lf, AccL 39 2 (.slice cb rows.length cc) rows'.length (clsCs rows') Lc' ∧ Hid (rows'.length = rows.length) ∧ OwnF (rows'.take 0) (cs.take 0) Lf ∧ RowsC H (rows'.drop 0) (cs.drop 0) ∧ Mem w0 H ((b, LBox TLay (.slice cb rows.length cc) (.slice rb rs0.length rc)) :: (Lc' ++ (Lf ++ (Lr ++ L)))) (w2.alloc (LBox TLay (.slice cb rows.length cc) (.slice rb rs0.length rc))) := ⟨rows, Lc, [], hac, Lib.hid rfl, by simp; exact .nil, by simpa using hrc, m4⟩
  go_loopw [6, 18] (fun _ i wr => ∃ (k : Nat) (rows' : List (ByteArray × Value)) (Lc' Lf : List (Nat × Obj)), k ≤ rows.length ∧ i = .int .i64 k ∧ AccL 39 2 (.slice cb rows.length cc) rows'.length (clsCs rows') Lc' ∧ Hid (rows'.length = rows.length) ∧ OwnF (rows'.take k) (cs.take k) Lf ∧ RowsC H (rows'.drop k) (cs.drop k) ∧ Mem w0 H ((b, LBox TLay (.slice cb rows.length cc) (.slice rb rs0.length rc)) :: (Lc' ++ (Lf ++ (Lr ++ L)))) wr) (fun _ i _ => rows.length - (intOf i).toNat)
  case atStart =>
    obtain ⟨r', l1, l2, a1, a2, a3, a4, a5⟩ := HAC
    exact ⟨0, r', l1, l2, Nat.zero_le _, rfl, a1, a2, a3, a4, a5⟩
  case round =>
    clear HAC m4 m3 m2 m1 hac
    obtain ⟨k, rs, Lc', Lf, hk, rfl, hac, hrs, hof, hrd, mk⟩ := hrel
    have hof := Lib.hid hof
    by_cases hlt : k < rows.length
    · have hltI : (k : Int) < rows.length := by omega
      have hk2 : k < cs.length := by rw [← hrl.out]; exact hlt
      have hk3 : k < rs.length := by rw [hrs.out]; exact hlt
      have hgl := clsCs_get rs k hk3
      have hrow := hrd.get 0 (by rw [List.length_drop]; omega) (by rw [List.length_drop]; omega)
      simp only [List.getElem_drop, Nat.add_zero] at hrow
      have HROW := Lib.hid hrow; clear hrow
      have hrlen : rs.length = rows.length := hrs.out
      rw [hrlen] at hac
      have HRL := Lib.hid hrlen; clear hrlen
      obtain ⟨g, rfl, hcell, hfz, hglt, -, -⟩ := hac.at (by rw [clsCs_length]; omega) mk (fun p hp => by simp [hp])
      have c1 := hcell _ _ hgl.2
      have HGL := Lib.hid hgl; clear hgl
      generalize hsv : rs[k].2 = sv at *
      have hsc := HROW.out.2.2.cells1
      have mk0 := mk
      have es := mk0.eqs
      simp only [LBox, EqsL] at es
      go_wp2_with fail
      clear es mk0 hcell hfz hglt c1
      refine AnyFrom.start (fun w' => ∃ L', Mem w0 H ((b, LBox TLay (.slice (some ⟨g, 0, none⟩) rows.length cc) (.slice rb rs0.length rc)) :: (Lc' ++ L')) w') 16 (by kernel_rfl) ?_
      have md := mk.drew
      clear mk
      generalize wr.drew = W at *
      have HS : ∃ L', Mem w0 H ((b, LBox TLay (.slice (some ⟨g, 0, none⟩) rows.length cc) (.slice rb rs0.length rc)) :: (Lc' ++ L')) W := ⟨_, md⟩
      refine AnyFrom.takeT (i := 0) (v := ?_) rfl (by kernel_rfl) (by kernel_rfl) (by kernel_rfl) (by kernel_rfl) (fun _ _ _ h => h) ⟨by kernel_rfl, ?_⟩ HS ?_
      rotate_left
      · first | (rintro w' ⟨L', hm⟩; have es := hm.eqs; simp only [LBox, EqsL] at es; go_simp; done) | (rintro w' ⟨L', hm⟩; have es := hm.eqs; simp only [LBox, EqsL] at es; go_simp; with_reducible rfl)
      simp only [Act.put, List.setIfInBounds_toArray, List.set_cons_zero, List.set_cons_succ, List.getElem_toArray, List.getElem_cons_succ, List.getElem_cons_zero]
      refine AnyFrom.takeT (i := 1) (v := ?_) rfl (by kernel_rfl) (by kernel_rfl) (by kernel_rfl) (by kernel_rfl) (fun _ _ _ h => h) ⟨by kernel_rfl, ?_⟩ HS ?_
      rotate_left
      · first | (rintro w' ⟨L', hm⟩; have es := hm.eqs; simp only [LBox, EqsL] at es; go_simp; done) | (rintro w' ⟨L', hm⟩; have es := hm.eqs; simp only [LBox, EqsL] at es; go_simp; with_reducible rfl)
      simp only [Act.put, List.setIfInBounds_toArray, List.set_cons_zero, List.set_cons_succ, List.getElem_toArray, List.getElem_cons_succ, List.getElem_cons_zero]
      refine AnyFrom.takeT (i := 2) (v := ?_) rfl (by kernel_rfl) (by kernel_rfl) (by kernel_rfl) (by kernel_rfl) (fun _ _ _ h => h) ⟨by kernel_rfl, ?_⟩ HS ?_
      rotate_left
      · first | (rintro w' ⟨L', hm⟩; have es := hm.eqs; simp only [LBox, EqsL] at es; go_simp; done) | (rintro w' ⟨L', hm⟩; have es := hm.eqs; simp only [LBox, EqsL] at es; go_simp; with_reducible rfl)
      simp only [Act.put, List.setIfInBounds_toArray, List.set_cons_zero, List.set_cons_succ, List.getElem_toArray, List.getElem_cons_succ, List.getElem_cons_zero]
      refine AnyFrom.takeT (i := 3) (v := ?_) rfl (by kernel_rfl) (by kernel_rfl) (by kernel_rfl) (by kernel_rfl) (fun _ _ _ h => h) ⟨by kernel_rfl, ?_⟩ HS ?_
      rotate_left
      · first | (rintro w' ⟨L', hm⟩; have es := hm.eqs; simp only [LBox, EqsL] at es; go_simp; done) | (rintro w' ⟨L', hm⟩; have es := hm.eqs; simp only [LBox, EqsL] at es; go_simp; with_reducible rfl)
      simp only [Act.put, List.setIfInBounds_toArray, List.set_cons_zero, List.set_cons_succ, List.getElem_toArray, List.getElem_cons_succ, List.getElem_cons_zero]
      refine AnyFrom.takeT (i := 4) (v := ?_) rfl (by kernel_rfl) (by kernel_rfl) (by kernel_rfl) (by kernel_rfl) (fun _ _ _ h => h) ⟨by kernel_rfl, ?_⟩ HS ?_
      rotate_left
      · first | (rintro w' ⟨L', hm⟩; have es := hm.eqs; simp only [LBox, EqsL] at es; go_simp; done) | (rintro w' ⟨L', hm⟩; have es := hm.eqs; simp only [LBox, EqsL] at es; go_simp; with_reducible rfl)
      simp only [Act.put, List.setIfInBounds_toArray, List.set_cons_zero, List.set_cons_succ, List.getElem_toArray, List.getElem_cons_succ, List.getElem_cons_zero]
      refine AnyFrom.takeT (i := 5) (v := ?_) rfl (by kernel_rfl) (by kernel_rfl) (by kernel_rfl) (by kernel_rfl) (fun _ _ _ h => h) ⟨by kernel_rfl, ?_⟩ HS ?_
      rotate_left
      · first | (rintro w' ⟨L', hm⟩; have es := hm.eqs; simp only [LBox, EqsL] at es; go_simp; done) | (rintro w' ⟨L', hm⟩; have es := hm.eqs; simp only [LBox, EqsL] at es; go_simp; with_reducible rfl)
      simp only [Act.put, List.setIfInBounds_toArray, List.set_cons_zero, List.set_cons_succ, List.getElem_toArray, List.getElem_cons_succ, List.getElem_cons_zero]
      refine AnyFrom.takeT (i := 6) (v := ?_) rfl (by kernel_rfl) (by kernel_rfl) (by kernel_rfl) (by kernel_rfl) (fun _ _ _ h => h) ⟨by kernel_rfl, ?_⟩ HS ?_
      rotate_left
      · first | (rintro w' ⟨L', hm⟩; have es := hm.eqs; simp only [LBox, EqsL] at es; go_simp; done) | (rintro w' ⟨L', hm⟩; have es := hm.eqs; simp only [LBox, EqsL] at es; go_simp; with_reducible rfl)
      simp only [Act.put, List.setIfInBounds_toArray, List.set_cons_zero, List.set_cons_succ, List.getElem_toArray, List.getElem_cons_succ, List.getElem_cons_zero]
      refine AnyFrom.takeT (i := 7) (v := ?_) rfl (by kernel_rfl) (by kernel_rfl) (by kernel_rfl) (by kernel_rfl) (fun _ _ _ h => h) ⟨by kernel_rfl, ?_⟩ HS ?_
      rotate_left
      · first | (rintro w' ⟨L', hm⟩; have es := hm.eqs; simp only [LBox, EqsL] at es; go_simp; done) | (rintro w' ⟨L', hm⟩; have es := hm.eqs; simp only [LBox, EqsL] at es; go_simp; with_reducible rfl)
      simp only [Act.put, List.setIfInBounds_toArray, List.set_cons_zero, List.set_cons_succ, List.getElem_toArray, List.getElem_cons_succ, List.getElem_cons_zero]
      refine AnyFrom.takeT (i := 8) (v := ?_) rfl (by kernel_rfl) (by kernel_rfl) (by kernel_rfl) (by kernel_rfl) (fun _ _ _ h => h) ⟨by kernel_rfl, ?_⟩ HS ?_
      rotate_left
      · first | (rintro w' ⟨L', hm⟩; have es := hm.eqs; simp only [LBox, EqsL] at es; go_simp; done) | (rintro w' ⟨L', hm⟩; have es := hm.eqs; simp only [LBox, EqsL] at es; go_simp; with_reducible rfl)
      simp only [Act.put, List.setIfInBounds_toArray, List.set_cons_zero, List.set_cons_succ, List.getElem_toArray, List.getElem_cons_succ, List.getElem_cons_zero]
      refine AnyFrom.takeT (i := 9) (v := ?_) rfl (by kernel_rfl) (by kernel_rfl) (by kernel_rfl) (by kernel_rfl) (fun _ _ _ h => h) ⟨by kernel_rfl, ?_⟩ HS ?_
      rotate_left
      · first | (rintro w' ⟨L', hm⟩; have es := hm.eqs; simp only [LBox, EqsL] at es; go_simp; done) | (rintro w' ⟨L', hm⟩; have es := hm.eqs; simp only [LBox, EqsL] at es; go_simp; with_reducible rfl)
      simp only [Act.put, List.setIfInBounds_toArray, List.set_cons_zero, List.set_cons_succ, List.getElem_toArray, List.getElem_cons_succ, List.getElem_cons_zero]
      refine AnyFrom.takeT (i := 10) (v := ?_) rfl (by kernel_rfl) (by kernel_rfl) (by kernel_rfl) (by kernel_rfl) (fun _ _ _ h => h) ⟨by kernel_rfl, ?_⟩ HS ?_
      rotate_left
      · first | (rintro w' ⟨L', hm⟩; have es := hm.eqs; simp only [LBox, EqsL] at es; go_simp; done) | (rintro w' ⟨L', hm⟩; have es := hm.eqs; simp only [LBox, EqsL] at es; go_simp; with_reducible rfl)
      simp only [Act.put, List.setIfInBounds_toArray, List.set_cons_zero, List.set_cons_succ, List.getElem_toArray, List.getElem_cons_succ, List.getElem_cons_zero]
      refine AnyFrom.takeT (i := 11) (v := ?_) rfl (by kernel_rfl) (by kernel_rfl) (by kernel_rfl) (by kernel_rfl) (fun _ _ _ h => h) ⟨by kernel_rfl, ?_⟩ HS ?_
      rotate_left
      · first | (rintro w' ⟨L', hm⟩; have es := hm.eqs; simp only [LBox, EqsL] at es; go_simp; done) | (rintro w' ⟨L', hm⟩; have es := hm.eqs; simp only [LBox, EqsL] at es; go_simp; with_reducible rfl)
      simp only [Act.put, List.setIfInBounds_toArray, List.set_cons_zero, List.set_cons_succ, List.getElem_toArray, List.getElem_cons_succ, List.getElem_cons_zero]
      refine AnyFrom.takeT (i := 12) (v := ?_) rfl (by kernel_rfl) (by kernel_rfl) (by kernel_rfl) (by kernel_rfl) (fun _ _ _ h => h) ⟨by kernel_rfl, ?_⟩ HS ?_
      rotate_left
      · first | (rintro w' ⟨L', hm⟩; have es := hm.eqs; simp only [LBox, EqsL] at es; obtain ⟨g', hg', hcell, -, -, -, -⟩ := hac.at (by rw [clsCs_length]; omega) hm (fun p hp => by simp [hp]); cases hg'; have c1 := hcell _ _ HGL.out.2; go_simp; done) | (rintro w' ⟨L', hm⟩; have es := hm.eqs; simp only [LBox, EqsL] at es; obtain ⟨g', hg', hcell, -, -, -, -⟩ := hac.at (by rw [clsCs_length]; omega) hm (fun p hp => by simp [hp]); cases hg'; have c1 := hcell _ _ HGL.out.2; go_simp; with_reducible rfl)
      simp only [Act.put, List.setIfInBounds_toArray, List.set_cons_zero, List.set_cons_succ, List.getElem_toArray, List.getElem_cons_succ, List.getElem_cons_zero]
      refine AnyFrom.one (i := 13) (by kernel_rfl) (AnyFrom.op rfl (by kernel_rfl) fun K hK => ?_)
      go_simp
      refine (CloneS_any sv _ md HROW.out.2.2 (HF.out _ (List.getElem_mem hk2))).mono ?_
      rintro e w3 ⟨vn, L0, rfl, hos, m5⟩
      have m6 := m5.perm (perm_nl2 _ _ _ _)
      refine hK _ _ (.inr ⟨_, m6⟩) ?_
      clear hK K HS
      try simp only [Act.put, List.setIfInBounds_toArray, List.set_cons_zero, List.set_cons_succ, List.getElem_toArray, List.getElem_cons_succ, List.getElem_cons_zero]
      have HS : ∃ L', Mem w0 H ((b, LBox TLay (.slice (some ⟨g, 0, none⟩) rows.length cc) (.slice rb rs0.length rc)) :: (Lc' ++ L')) w3 := ⟨_, m6⟩
      obtain ⟨nb, nc, rfl, _, _⟩ := hos.shape
      refine AnyFrom.pure (i := 14) (v := ?_) rfl (by kernel_rfl) (by kernel_rfl) (by kernel_rfl) (by decide) (fun _ _ _ h => h) ⟨by kernel_rfl, ?_⟩ HS ?_
      rotate_left
      · first | (intro w'; go_simp; done) | (intro w'; go_simp; with_reducible rfl)
      simp only [Act.put, List.setIfInBounds_toArray, List.set_cons_zero, List.set_cons_succ, List.getElem_toArray, List.getElem_cons_succ, List.getElem_cons_zero]
      refine AnyFrom.pure (i := 15) (v := ?_) rfl (by kernel_rfl) (by kernel_rfl) (by kernel_rfl) (by decide) (fun _ _ _ h => h) ⟨by kernel_rfl, ?_⟩ HS ?_
      rotate_left
      · first | (intro w'; go_simp; done) | (intro w'; go_simp; with_reducible rfl)
      simp only [Act.put, List.setIfInBounds_toArray, List.set_cons_zero, List.set_cons_succ, List.getElem_toArray, List.getElem_cons_succ, List.getElem_cons_zero]
      have m7 := m6.perm (perm_nl3 _ _ _)
      obtain ⟨g', hg', hcell, hfz, hglt, -, -⟩ := hac.at (by rw [clsCs_length]; omega) m7 (fun p hp => by simp [hp])
      cases hg'
      have c1 := hcell _ _ HGL.out.2
      have hfz1 := hfz (k * 2 + 1)
      refine AnyFrom.one (i := 16) (by kernel_rfl) (AnyFrom.op rfl (by kernel_rfl) fun K hK => ?_)
      go_simp
      refine hK _ _ (.inl ⟨16, by decide, by rfl⟩) ?_
      clear hK K
      try simp only [Act.put, List.setIfInBounds_toArray, List.set_cons_zero, List.set_cons_succ, List.getElem_toArray, List.getElem_cons_succ, List.getElem_cons_zero]
      refine AnyFrom.done (by kernel_rfl) ?_ _
      obtain ⟨Lc2, hac2, m8⟩ := hac.set1 (k := k * 2 + 1) (x := .slice nb cs[k].fields.length nc) (by rw [clsCs_length]; omega) m7
      rw [clsCs_set2 rs k hk3] at hac2
      have m9 := m8.perm (perm_nl4 _ _ _ _ _)
      clear m8 m7 m6 m5 md hcell hfz c1 hfz1
      go_wp2_with fail
      go_roundw
      case rel =>
        refine ⟨k + 1, rs.set k (rs[k].1, .slice nb cs[k].fields.length nc), Lc2, Lf ++ L0, by omega, by go_num, ?_, Lib.hid (by rw [List.length_set]; exact HRL.out), ?_, ?_, m9⟩
        · rw [List.length_set, HRL.out]; exact hac2
        · rw [set_take_succ _ _ _ hk3, List.take_succ_eq_append_getElem hk2]
          exact hof.out.append (OwnF.one HROW.out.1 HROW.out.2.1 hos)
        · rw [set_drop_succ]
          have := hrd.drop 1
          simpa [List.drop_drop] using this
      case measure => simp [intOf]; omega
    · have hge : ¬ (k : Int) < rows.length := by omega
      have hof2 := hof.out
      rw [List.take_of_length_le (by rw [hrs.out]; omega), List.take_of_length_le (by rw [← hrl.out]; omega)] at hof2
      have HOF := Lib.hid hof2; clear hof2
      go_wp2_with fail
      go_ret
      exact ⟨b, rfl, _, _, rs, Lc', Lf, Lr, hac, HOF.out, HO.out, mk⟩
end Go.Proofs.YtbioklhoolkhkabGreat
namespace Go.Proofs.YtbioklhoolkhkabGreat
set_option linter.unusedVariables false
set_option linter.unusedSimpArgs false
open Go.RowKit

/-- Rows bear the classes' names, and lists of fields. -/
def RowsN (rs : List (ByteArray × Value)) (cs : List ClassM) : Prop := rs.length = cs.length ∧ ∀ (i : Nat) (hi : i < rs.length) (hj : i < cs.length), rs[i].1 = cs[i].name ∧ ∃ sb sn sc, rs[i].2 = .slice sb sn sc
theorem OwnF.rowsN {rs : List (ByteArray × Value)} {cs : List ClassM} {L : List (Nat × Obj)} (h : OwnF rs cs L) : RowsN rs cs := by
  refine ⟨h.length, fun i hi hj => ?_⟩
  obtain ⟨⟨h1, _⟩, _, _, _, _, h2, _⟩ := h.at i hi hj
  obtain ⟨b, c, h3, _⟩ := h2.shape
  exact ⟨h1, b, _, c, h3⟩
theorem AccL.clsAt {w0 w : World} {H : Hp} {L L0 : List (Nat × Obj)} {v : Value} {rs : List (ByteArray × Value)} {cs : List ClassM} (h : AccL 39 2 v rs.length (clsCs rs) L0) (hr : RowsN rs cs) (m : Mem w0 H L w) (hs : ∀ p, p ∈ L0 → p ∈ L) : ClsAt w v cs := by
  obtain ⟨b, c, rfl, h1, h2⟩ := h.shape
  refine ⟨b, c, by rw [hr.1], by rw [← hr.1]; omega, fun i hi => ?_⟩
  have hi' : i < rs.length := by rw [hr.1]; exact hi
  obtain ⟨g, rfl, hcell, _⟩ := h.at (by rw [clsCs_length]; omega) m hs
  obtain ⟨g1, g2⟩ := clsCs_get rs i hi'
  obtain ⟨e1, e2⟩ := hr.2 i hi' hi
  exact ⟨g, 0, rs[i].2, rfl, by rw [Nat.zero_add, ← e1]; exact hcell _ _ g1, by rw [Nat.zero_add]; exact hcell _ _ g2, e2⟩
set_option maxHeartbeats 1000000 in
theorem class1_any (nm s : ByteArray) (sb : Option Addr) (sn sc bn : Nat) {w0 w : World} {H : Hp} {L : List (Nat × Obj)} (m : Mem w0 H L w) (hL : (bn, Obj.cells #[.string s] 9 (0, 0)) ∈ L) :
    Calls Tryz.prog 73 #[.agg #[.string nm, .slice sb sn sc], .pointer (some ⟨bn, 0, none⟩)] w (Ret w0 H L (.bool (decide (nm = s)))) := by
  have m1 := m.alloc (.cells #[.string nm, .slice sb sn sc] 39)
  have hbn := cell_of_heap (m1.loc _ (List.mem_cons_of_mem _ hL)).1 0
  have hlt := lt_of_heap (m.loc _ hL).1
  simp only [List.getElem?_toArray, List.getElem?_cons_zero] at hbn
  have hne : w.heap.size ≠ bn := by simp only at hlt; omega
  have es := m1.eqs; simp only [EqsL, and_true] at es
  by_cases hq : nm = s
  · subst hq
    rw [decide_eq_true rfl]
    have hb : (nm.toList == nm.toList) = true := beq_self_eq_true _
    go_enter Tryz.func73, Tryz.ntmps73
    go_wp2_with fail
    go_ret
    exact ⟨rfl, m1.drop⟩
  · rw [decide_eq_false hq]
    have hb : (nm.toList == s.toList) = false := beq_eq_false_iff_ne.2 fun e => hq ((toList_eq_iff _ _).1 e)
    go_enter Tryz.func73, Tryz.ntmps73
    go_wp2_with fail
    go_ret
    exact ⟨rfl, m1.drop⟩
set_option maxHeartbeats 1000000 in
theorem IndexFuncC_any (v : Value) (xs : List ClassM) (s : ByteArray) (bn : Nat) {w0 w : World} {H : Hp} {L : List (Nat × Obj)} (m : Mem w0 H L w) (hL : (bn, Obj.cells #[.string s] 9 (0, 0)) ∈ L) (hv : ∀ w', Mem w0 H L w' → ClsAt w' v xs) :
    Calls Tryz.prog 72 #[v, .func (.func 73) #[] #[.pointer (some ⟨bn, 0, none⟩)]] w (Ret w0 H L (.int .i64 (placeC xs s))) := by
  have HV := Lib.hid hv; clear hv
  obtain ⟨b, c, rfl, hc2, -⟩ := HV.out w m
  have hc2 := size_le_maxLen hc2
  go_enter Tryz.func72, Tryz.ntmps72
  go_wp2_with fail
  go_loopw [5, 8] (fun _ i wr => ∃ k : Nat, k ≤ xs.length ∧ i = .int .i64 k ∧ (xs.take k).all (fun x => !decide (x.name = s)) = true ∧ Mem w0 H L wr) (fun _ i _ => xs.length - (intOf i).toNat)
  case atStart => exact ⟨0, Nat.zero_le _, rfl, rfl, m⟩
  case round =>
    obtain ⟨k, hk, rfl, hall, mk⟩ := hrel
    have HA := Lib.hid hall; clear hall
    by_cases hlt : k < xs.length
    · obtain ⟨b', c', hv', _, hat⟩ := HV.out wr mk
      cases hv'
      obtain ⟨blk, off, sv, rfl, hcell, hcell2, sb, sn, sc, rfl⟩ := hat k hlt
      clear hat
      have hltI : (k : Int) < xs.length := by omega
      go_wp2_with fail
      refine (class1_any xs[k].name s sb sn sc bn mk hL).mono ?_
      rintro e w1 ⟨rfl, m1⟩
      by_cases hq : xs[k].name = s
      · rw [decide_eq_true hq]
        have HQ := Lib.hid hq; clear hq
        go_wp2_with fail
        go_ret
        exact ⟨ret_int (by unfold placeC; rw [idxF_at k hlt (decide_eq_true HQ.out) HA.out]), m1⟩
      · rw [decide_eq_false hq]
        have HQ := Lib.hid hq; clear hq
        go_wp2_with fail
        go_roundw
        case rel => exact ⟨k + 1, by omega, by go_num, all_not_snoc hlt HA.out (decide_eq_false HQ.out), m1⟩
        case measure => simp [intOf]; omega
    · have hge : ¬ (k : Int) < xs.length := by omega
      go_wp2_with fail
      go_ret
      exact ⟨ret_int (by unfold placeC; rw [idxF_none k hlt HA.out]), mk⟩
set_option maxHeartbeats 1000000 in
theorem LayClass_any (b : Nat) (vc vr : Value) (cs : List ClassM) (rs : List (ByteArray × Value)) (s : ByteArray) {w0 w : World} {H : Hp} {Lc R : List (Nat × Obj)} (m : Mem w0 H ((b, LBox TLay vc vr) :: (Lc ++ R)) w) (hac : AccL 39 2 vc rs.length (clsCs rs) Lc) (hr : RowsN rs cs) :
    Calls Tryz.prog 41 #[.pointer (some ⟨b, 0, none⟩), .string s] w (Ret w0 H ((b, LBox TLay vc vr) :: (Lc ++ R)) (.int .i64 (placeC cs s))) := by
  have HAC := Lib.hid hac
  have HR := Lib.hid hr; clear hr
  obtain ⟨cb, cc, rfl, _, _⟩ := hac.shape
  clear hac
  have m1 := m.alloc (.cells #[.string s] 9)
  have mu := m1
  unfold LBox at mu
  have es := mu.eqs; simp only [EqsL, and_true] at es
  have ns := mu.nes; simp only [NeL, NeFrom, and_true, true_and] at ns
  go_enter Tryz.func41, Tryz.ntmps41
  go_wp2_with fail
  refine (IndexFuncC_any _ cs s _ m1 (.head _) (fun w' m' => HAC.out.clsAt HR.out m' (fun p hp => by simp [hp]))).mono ?_
  rintro e w1 ⟨rfl, m2⟩
  go_wp2_with fail
  go_ret
  exact ⟨rfl, m2.drop⟩
end Go.Proofs.YtbioklhoolkhkabGreat
namespace Go.Proofs.YtbioklhoolkhkabGreat
set_option linter.unusedVariables false
set_option linter.unusedSimpArgs false
open Go.RowKit

def rootsDone (rts : List ByteArray) (c : ChangeM) : Int × List ByteArray :=
  if c.kind = 5 ∧ 0 ≤ placeS rts c.name then (6, rts)
  else if c.kind = 5 then (0, rts ++ [c.name])
  else if placeS rts c.name < 0 then (7, rts)
  else if c.kind = 6 then (0, rts.eraseIdx (placeS rts c.name).toNat)
  else if 0 ≤ placeS rts c.to then (6, rts)
  else (0, rts.set (placeS rts c.name).toNat c.to)
theorem inRoots_eq (x : LayM) (c : ChangeM) : x.inRoots c = ((rootsDone x.roots c).1, { x with roots := (rootsDone x.roots c).2 }) := by
  unfold LayM.inRoots rootsDone
  repeat' split
  all_goals rfl
/-- A list of texts of the call's own in a box's field. -/
def FieldR (f : Value → Nat × Obj) (r : Int × List ByteArray) (w0 : World) (H : Hp) (R : List (Nat × Obj)) (e : Ending) (w' : World) : Prop :=
  ∃ v L0, e = .returned (.int .i64 r.1) ∧ OwnS v r.2 L0 ∧ Mem w0 H (f v :: (L0 ++ R)) w'
theorem perm_ir1 {α : Type} (x b : α) (L0 R : List α) : (x :: b :: (L0 ++ R)).Perm (L0 ++ (x :: b :: R)) := (by classical exact List.perm_iff_count.2 (fun a => by simp only [List.count_append, List.count_cons, List.cons_append, List.nil_append, List.append_assoc]; omega))
theorem perm_ir2 {α : Type} (x b : α) (L0 R : List α) : (L0 ++ (x :: b :: R)).Perm (b :: x :: (L0 ++ R)) := (by classical exact List.perm_iff_count.2 (fun a => by simp only [List.count_append, List.count_cons, List.cons_append, List.nil_append, List.append_assoc]; omega))
theorem perm_ir3 {α : Type} (x y b : α) (L0 R : List α) : (y :: x :: b :: (L0 ++ R)).Perm (L0 ++ (y :: x :: b :: R)) := (by classical exact List.perm_iff_count.2 (fun a => by simp only [List.count_append, List.count_cons, List.cons_append, List.nil_append, List.append_assoc]; omega))
theorem perm_ir4 {α : Type} (y x b : α) (R : List α) : (y :: x :: b :: R).Perm (x :: b :: y :: R) := (by classical exact List.perm_iff_count.2 (fun a => by simp only [List.count_append, List.count_cons, List.cons_append, List.nil_append, List.append_assoc]; omega))
theorem perm_ir5 {α : Type} (x b : α) (L0 R : List α) : (b :: x :: (L0 ++ R)).Perm (x :: b :: (L0 ++ R)) := List.Perm.swap _ _ _
theorem perm_ir6 {α : Type} (x b : α) (L0 R : List α) : (L0 ++ (x :: b :: R)).Perm (x :: b :: (L0 ++ R)) := (by classical exact List.perm_iff_count.2 (fun a => by simp only [List.count_append, List.count_cons, List.cons_append, List.nil_append, List.append_assoc]; omega))
set_option maxRecDepth 10000 in
set_option maxHeartbeats 4000000 in
theorem inRoots_any (b : Nat) (vc vr : Value) (rts : List ByteArray) (c : ChangeM) (hf : c.fit) (hn : rts.length ≤ 100000) {w0 w : World} {H : Hp} {Lr R : List (Nat × Obj)} (hor : OwnS vr rts Lr) (m : Mem w0 H ((b, LBox TLay vc vr) :: (Lr ++ R)) w) (hvc : ∃ cb cn cc, vc = .slice cb cn cc) :
    Calls Tryz.prog 47 #[.pointer (some ⟨b, 0, none⟩), c.val] w (FieldR (fun v => (b, LBox TLay vc v)) (rootsDone rts c) w0 H R) := by
  obtain ⟨cb, cn, cc, rfl⟩ := hvc
  have HF := Lib.hid hf; clear hf
  have HO := Lib.hid hor
  obtain ⟨rb, rc, rfl, hrc1, hrc2⟩ := hor.shape
  clear hor
  have hrc2' := size_le_maxLen hrc2
  have m1 := m.alloc (CBox c)
  generalize hx : w.heap.size = xb at *
  unfold CBox at m1
  have mu := m1
  unfold LBox at mu
  have es := mu.eqs; simp only [EqsL, and_true] at es
  have ns := mu.nes; simp only [NeL, NeFrom, and_true, true_and] at ns
  unfold ChangeM.val
  go_enter Tryz.func47, Tryz.ntmps47
  go_wp2_with fail
  clear es ns mu
  refine AnyFrom.start (fun w' => w' = (w.alloc (CBox c)).drew) 8 (by kernel_rfl) ?_
  have md := m1.drew
  unfold CBox at *
  generalize hW : (w.alloc (.cells #[.int .u8 c.kind, .string c.name, .string c.field, .string c.to, .int .u8 c.v.kind, .int .i64 c.v.n, .string c.v.s] 43)).drew = W at *
  clear m1 m
  have HS : W = W := rfl
  have mu := md
  unfold LBox at mu
  have es := mu.eqs
  simp only [EqsL] at es
  refine AnyFrom.takeT (i := 0) (v := ?_) rfl (by kernel_rfl) (by kernel_rfl) (by kernel_rfl) (by kernel_rfl) (fun _ _ _ h => h) ⟨by kernel_rfl, ?_⟩ HS ?_
  rotate_left
  · first | (rintro w' rfl; go_simp; done) | (rintro w' rfl; go_simp; with_reducible rfl)
  simp only [Act.put, List.setIfInBounds_toArray, List.set_cons_zero, List.set_cons_succ, List.getElem_toArray, List.getElem_cons_succ, List.getElem_cons_zero]
  refine AnyFrom.takeT (i := 1) (v := ?_) rfl (by kernel_rfl) (by kernel_rfl) (by kernel_rfl) (by kernel_rfl) (fun _ _ _ h => h) ⟨by kernel_rfl, ?_⟩ HS ?_
  rotate_left
  · first | (rintro w' rfl; go_simp; done) | (rintro w' rfl; go_simp; with_reducible rfl)
  simp only [Act.put, List.setIfInBounds_toArray, List.set_cons_zero, List.set_cons_succ, List.getElem_toArray, List.getElem_cons_succ, List.getElem_cons_zero]
  refine AnyFrom.takeT (i := 2) (v := ?_) rfl (by kernel_rfl) (by kernel_rfl) (by kernel_rfl) (by kernel_rfl) (fun _ _ _ h => h) ⟨by kernel_rfl, ?_⟩ HS ?_
  rotate_left
  · first | (rintro w' rfl; go_simp; done) | (rintro w' rfl; go_simp; with_reducible rfl)
  simp only [Act.put, List.setIfInBounds_toArray, List.set_cons_zero, List.set_cons_succ, List.getElem_toArray, List.getElem_cons_succ, List.getElem_cons_zero]
  refine AnyFrom.takeT (i := 3) (v := ?_) rfl (by kernel_rfl) (by kernel_rfl) (by kernel_rfl) (by kernel_rfl) (fun _ _ _ h => h) ⟨by kernel_rfl, ?_⟩ HS ?_
  rotate_left
  · first | (rintro w' rfl; go_simp; done) | (rintro w' rfl; go_simp; with_reducible rfl)
  simp only [Act.put, List.setIfInBounds_toArray, List.set_cons_zero, List.set_cons_succ, List.getElem_toArray, List.getElem_cons_succ, List.getElem_cons_zero]
  refine AnyFrom.takeT (i := 4) (v := ?_) rfl (by kernel_rfl) (by kernel_rfl) (by kernel_rfl) (by kernel_rfl) (fun _ _ _ h => h) ⟨by kernel_rfl, ?_⟩ HS ?_
  rotate_left
  · first | (rintro w' rfl; go_simp; done) | (rintro w' rfl; go_simp; with_reducible rfl)
  simp only [Act.put, List.setIfInBounds_toArray, List.set_cons_zero, List.set_cons_succ, List.getElem_toArray, List.getElem_cons_succ, List.getElem_cons_zero]
  refine AnyFrom.takeT (i := 5) (v := ?_) rfl (by kernel_rfl) (by kernel_rfl) (by kernel_rfl) (by kernel_rfl) (fun _ _ _ h => h) ⟨by kernel_rfl, ?_⟩ HS ?_
  rotate_left
  · first | (rintro w' rfl; go_simp; done) | (rintro w' rfl; go_simp; with_reducible rfl)
  simp only [Act.put, List.setIfInBounds_toArray, List.set_cons_zero, List.set_cons_succ, List.getElem_toArray, List.getElem_cons_succ, List.getElem_cons_zero]
  refine AnyFrom.one (i := 6) (by kernel_rfl) (AnyFrom.op rfl (by kernel_rfl) fun K hK => ?_)
  go_simp
  refine (Index_any _ rts c.name (HO.out.strsAt md (fun p hp => by simp [hp]))).mono ?_
  rintro e w1 ⟨rfl, rfl⟩
  refine hK _ _ (.inr rfl) ?_
  clear hK K
  try simp only [Act.put, List.setIfInBounds_toArray, List.set_cons_zero, List.set_cons_succ, List.getElem_toArray, List.getElem_cons_succ, List.getElem_cons_zero]
  refine AnyFrom.one (i := 7) (by kernel_rfl) (AnyFrom.op rfl (by kernel_rfl) fun K hK => ?_)
  go_simp
  refine hK _ _ (.inr rfl) ?_
  clear hK K HS
  try simp only [Act.put, List.setIfInBounds_toArray, List.set_cons_zero, List.set_cons_succ, List.getElem_toArray, List.getElem_cons_succ, List.getElem_cons_zero]
  refine AnyFrom.done (by kernel_rfl) ?_ _
  have hpl := idxF_cases (fun x => decide (x = c.name)) rts
  have hps : placeS rts c.name = idxF (fun x => decide (x = c.name)) rts := rfl
  rw [← hps] at hpl
  have HPS := Lib.hid hps; clear hps
  have HPL := Lib.hid hpl; clear hpl
  generalize hat : placeS rts c.name = at0 at *
  by_cases h5 : c.kind = 5
  · have e5 : ((c.kind : Int) == 5) = true := by rw [h5]; rfl
    by_cases hp : 0 ≤ at0
    · have HRD : Hid (rootsDone rts c = (6, rts)) := Lib.hid (by unfold rootsDone; rw [hat, if_pos ⟨h5, hp⟩])
      have mu := md
      unfold LBox at mu
      have es := mu.eqs
      simp only [EqsL] at es
      go_wp2_with fail
      go_ret
      rw [HRD.out]
      exact ⟨_, Lr, rfl, HO.out, md.drop⟩
    · have HRD : Hid (rootsDone rts c = (0, rts ++ [c.name])) := Lib.hid (by unfold rootsDone; rw [hat, if_neg (fun h => hp h.2), if_pos h5])
      have mu := md
      unfold LBox at mu
      have es := mu.eqs
      simp only [EqsL] at es
      go_wp2_with fail
      clear es mu
      refine AnyFrom.start (fun w' => ∃ L', Mem w0 H ((xb, CBox c) :: (b, LBox TLay (.slice cb cn cc) (.slice rb rts.length rc)) :: L') w') 8 (by kernel_rfl) ?_
      have me := md.drew
      clear md
      generalize W.drew = W1 at *
      have HS : ∃ L', Mem w0 H ((xb, CBox c) :: (b, LBox TLay (.slice cb cn cc) (.slice rb rts.length rc)) :: L') W1 := ⟨_, me⟩
      refine AnyFrom.pure (i := 0) (v := ?_) rfl (by kernel_rfl) (by kernel_rfl) (by kernel_rfl) (by decide) (fun _ _ _ h => h) ⟨by kernel_rfl, ?_⟩ HS ?_
      rotate_left
      · first | (intro w'; go_simp; done) | (intro w'; go_simp; with_reducible rfl)
      simp only [Act.put, List.setIfInBounds_toArray, List.set_cons_zero, List.set_cons_succ, List.getElem_toArray, List.getElem_cons_succ, List.getElem_cons_zero]
      refine AnyFrom.takeT (i := 1) (v := ?_) rfl (by kernel_rfl) (by kernel_rfl) (by kernel_rfl) (by kernel_rfl) (fun _ _ _ h => h) ⟨by kernel_rfl, ?_⟩ HS ?_
      rotate_left
      · first | (rintro w' ⟨L', hm⟩; have es := hm.eqs; simp only [LBox, CBox, EqsL] at es; have ns := hm.nes; simp only [NeL, NeFrom] at ns; go_simp; done) | (rintro w' ⟨L', hm⟩; have es := hm.eqs; simp only [LBox, CBox, EqsL] at es; have ns := hm.nes; simp only [NeL, NeFrom] at ns; go_simp; with_reducible rfl)
      simp only [Act.put, List.setIfInBounds_toArray, List.set_cons_zero, List.set_cons_succ, List.getElem_toArray, List.getElem_cons_succ, List.getElem_cons_zero]
      refine AnyFrom.takeT (i := 2) (v := ?_) rfl (by kernel_rfl) (by kernel_rfl) (by kernel_rfl) (by kernel_rfl) (fun _ _ _ h => h) ⟨by kernel_rfl, ?_⟩ HS ?_
      rotate_left
      · first | (rintro w' ⟨L', hm⟩; have es := hm.eqs; simp only [LBox, CBox, EqsL] at es; have ns := hm.nes; simp only [NeL, NeFrom] at ns; go_simp; done) | (rintro w' ⟨L', hm⟩; have es := hm.eqs; simp only [LBox, CBox, EqsL] at es; have ns := hm.nes; simp only [NeL, NeFrom] at ns; go_simp; with_reducible rfl)
      simp only [Act.put, List.setIfInBounds_toArray, List.set_cons_zero, List.set_cons_succ, List.getElem_toArray, List.getElem_cons_succ, List.getElem_cons_zero]
      refine AnyFrom.takeT (i := 3) (v := ?_) rfl (by kernel_rfl) (by kernel_rfl) (by kernel_rfl) (by kernel_rfl) (fun _ _ _ h => h) ⟨by kernel_rfl, ?_⟩ HS ?_
      rotate_left
      · first | (rintro w' ⟨L', hm⟩; have es := hm.eqs; simp only [LBox, CBox, EqsL] at es; have ns := hm.nes; simp only [NeL, NeFrom] at ns; go_simp; done) | (rintro w' ⟨L', hm⟩; have es := hm.eqs; simp only [LBox, CBox, EqsL] at es; have ns := hm.nes; simp only [NeL, NeFrom] at ns; go_simp; with_reducible rfl)
      simp only [Act.put, List.setIfInBounds_toArray, List.set_cons_zero, List.set_cons_succ, List.getElem_toArray, List.getElem_cons_succ, List.getElem_cons_zero]
      refine AnyFrom.takeT (i := 4) (v := ?_) rfl (by kernel_rfl) (by kernel_rfl) (by kernel_rfl) (by kernel_rfl) (fun _ _ _ h => h) ⟨by kernel_rfl, ?_⟩ HS ?_
      rotate_left
      · first | (rintro w' ⟨L', hm⟩; have es := hm.eqs; simp only [LBox, CBox, EqsL] at es; have ns := hm.nes; simp only [NeL, NeFrom] at ns; go_simp; done) | (rintro w' ⟨L', hm⟩; have es := hm.eqs; simp only [LBox, CBox, EqsL] at es; have ns := hm.nes; simp only [NeL, NeFrom] at ns; go_simp; with_reducible rfl)
      simp only [Act.put, List.setIfInBounds_toArray, List.set_cons_zero, List.set_cons_succ, List.getElem_toArray, List.getElem_cons_succ, List.getElem_cons_zero]
      refine AnyFrom.takeT (i := 5) (v := ?_) rfl (by kernel_rfl) (by kernel_rfl) (by kernel_rfl) (by kernel_rfl) (fun _ _ _ h => h) ⟨by kernel_rfl, ?_⟩ HS ?_
      rotate_left
      · first | (rintro w' ⟨L', hm⟩; have es := hm.eqs; simp only [LBox, CBox, EqsL] at es; have ns := hm.nes; simp only [NeL, NeFrom] at ns; go_simp; done) | (rintro w' ⟨L', hm⟩; have es := hm.eqs; simp only [LBox, CBox, EqsL] at es; have ns := hm.nes; simp only [NeL, NeFrom] at ns; go_simp; with_reducible rfl)
      simp only [Act.put, List.setIfInBounds_toArray, List.set_cons_zero, List.set_cons_succ, List.getElem_toArray, List.getElem_cons_succ, List.getElem_cons_zero]
      refine AnyFrom.takeT (i := 6) (v := ?_) rfl (by kernel_rfl) (by kernel_rfl) (by kernel_rfl) (by kernel_rfl) (fun _ _ _ h => h) ⟨by kernel_rfl, ?_⟩ HS ?_
      rotate_left
      · first | (rintro w' ⟨L', hm⟩; have es := hm.eqs; simp only [LBox, CBox, EqsL] at es; have ns := hm.nes; simp only [NeL, NeFrom] at ns; go_simp; done) | (rintro w' ⟨L', hm⟩; have es := hm.eqs; simp only [LBox, CBox, EqsL] at es; have ns := hm.nes; simp only [NeL, NeFrom] at ns; go_simp; with_reducible rfl)
      simp only [Act.put, List.setIfInBounds_toArray, List.set_cons_zero, List.set_cons_succ, List.getElem_toArray, List.getElem_cons_succ, List.getElem_cons_zero]
      refine AnyFrom.one (i := 7) (by kernel_rfl) (AnyFrom.op rfl (by kernel_rfl) fun K hK => ?_)
      go_simp
      have mA := me.alloc (.cells #[.string c.name] 9)
      have mA2 := mA.perm (perm_ir4 _ _ _ _)
      refine hK _ _ (.inr ⟨_, mA2⟩) ?_
      clear hK K
      try simp only [Act.put, List.setIfInBounds_toArray, List.set_cons_zero, List.set_cons_succ, List.getElem_toArray, List.getElem_cons_succ, List.getElem_cons_zero]
      have mB := mA.perm (perm_ir3 _ _ _ _ _)
      refine AnyFrom.one (i := 8) (by kernel_rfl) (AnyFrom.opIf rfl fun K hK => ?_)
      refine step_append_mem (w0 := w0) (H := H) (L := _ :: _) rfl _ _ 23 rfl 9 1 16 (.string ByteArray.empty) Tryz.underlying23 (by kernel_rfl) rfl (by decide) (.slice rb rts.length rc) rts.length (rts.map Value.string) (HO.out.acc.join mB) rfl (.slice (some ⟨W1.heap.size, 0, none⟩) 1 1) 1 [.string c.name] (Src.loc (e := 9) (cs := [.string c.name]) mB (by simp)) rfl rfl (by intro u hu; rw [List.mem_singleton.1 hu]; rfl) (by omega) (by unfold maxLen; omega) ?_
      intro v' w6 hacc
      obtain ⟨b6, c6, rfl, _, _⟩ := hacc.shape
      obtain ⟨L3, ho3, m7⟩ := hacc.drop.split
      have m8 := m7.perm (perm_ir6 _ _ _ _)
      clear hacc m7 mB mA mA2 me HS
      refine hK _ _ (.inl ⟨8, by decide, by rfl⟩) ?_
      clear hK K
      try simp only [Act.put, List.setIfInBounds_toArray, List.set_cons_zero, List.set_cons_succ, List.getElem_toArray, List.getElem_cons_succ, List.getElem_cons_zero]
      have mu := m8
      unfold LBox at mu
      have es := mu.eqs
      simp only [EqsL] at es
      refine AnyFrom.one (i := 9) (by kernel_rfl) (AnyFrom.op rfl (by kernel_rfl) fun K hK => ?_)
      go_simp
      refine hK _ _ (.inl ⟨9, by decide, by rfl⟩) ?_
      clear hK K
      try simp only [Act.put, List.setIfInBounds_toArray, List.set_cons_zero, List.set_cons_succ, List.getElem_toArray, List.getElem_cons_succ, List.getElem_cons_zero]
      refine AnyFrom.one (i := 10) (by kernel_rfl) (AnyFrom.op rfl (by kernel_rfl) fun K hK => ?_)
      go_simp
      refine hK _ _ (.inl ⟨10, by decide, by rfl⟩) ?_
      clear hK K
      try simp only [Act.put, List.setIfInBounds_toArray, List.set_cons_zero, List.set_cons_succ, List.getElem_toArray, List.getElem_cons_succ, List.getElem_cons_zero]
      refine AnyFrom.one (i := 11) (by kernel_rfl) (AnyFrom.op rfl (by kernel_rfl) fun K hK => ?_)
      go_simp
      refine hK _ _ (.inl ⟨11, by decide, by rfl⟩) ?_
      clear hK K
      try simp only [Act.put, List.setIfInBounds_toArray, List.set_cons_zero, List.set_cons_succ, List.getElem_toArray, List.getElem_cons_succ, List.getElem_cons_zero]
      refine AnyFrom.done (by kernel_rfl) ?_ _
      have m9 := m8.set (i := 1) (v := .slice b6 (rts.length + 1) c6) (.tail .head)
      simp only [List.setIfInBounds_toArray, List.set_cons_zero, List.set_cons_succ] at m9
      clear es mu
      go_wp2_with fail
      go_ret
      rw [HRD.out]
      refine ⟨_, L3, rfl, ⟨?_, fun x hx => ?_⟩, m9.drop⟩
      · simpa using ho3
      · rcases List.mem_append.1 hx with hx | hx
        · exact HO.out.fit x hx
        · rw [List.mem_singleton.1 hx]; exact HF.out.name
  · have e5 : ((c.kind : Int) == 5) = false := by simp; omega
    by_cases hp : at0 < 0
    · have HRD : Hid (rootsDone rts c = (7, rts)) := Lib.hid (by unfold rootsDone; rw [hat, if_neg (fun h => h5 h.1), if_neg h5, if_pos hp])
      have mu := md
      unfold LBox at mu
      have es := mu.eqs
      simp only [EqsL] at es
      go_wp2_with fail
      go_ret
      rw [HRD.out]
      exact ⟨_, Lr, rfl, HO.out, md.drop⟩
    · rcases HPL.out with ⟨h1, -⟩ | ⟨k, hk, hk2, -⟩
      · omega
      subst hk2
      by_cases h6 : c.kind = 6
      · have HRD : Hid (rootsDone rts c = (0, rts.eraseIdx k)) := Lib.hid (by unfold rootsDone; rw [hat, if_neg (fun h => h5 h.1), if_neg h5, if_neg hp, if_pos h6]; rfl)
        have e6 : ((c.kind : Int) == 6) = true := by rw [h6]; rfl
        have mu := md
        unfold LBox at mu
        have es := mu.eqs
        simp only [EqsL] at es
        have ns := mu.nes
        simp only [NeL, NeFrom] at ns
        go_wp2_with fail
        refine (Delete_any _ rts k hk HO.out (md.perm (perm_ir1 _ _ _ _))).mono ?_
        rintro e w5 ⟨v5, L5, rfl, ho5, m5⟩
        obtain ⟨b5, c5, rfl, _, _⟩ := ho5.shape
        have m6 := m5.perm (perm_ir6 _ _ _ _)
        clear es ns mu
        have mu := m6
        unfold LBox at mu
        have es := mu.eqs
        simp only [EqsL] at es
        go_wp2_with fail
        have m9 := m6.set (i := 1) (v := .slice b5 (rts.eraseIdx k).length c5) (.tail .head)
        simp only [List.setIfInBounds_toArray, List.set_cons_zero, List.set_cons_succ] at m9
        go_ret
        rw [HRD.out]
        exact ⟨_, L5, rfl, ho5, m9.drop⟩
      · have e6 : ((c.kind : Int) == 6) = false := by simp; omega
        have mu := md
        unfold LBox at mu
        have es := mu.eqs
        simp only [EqsL] at es
        have ns := mu.nes
        simp only [NeL, NeFrom] at ns
        go_wp2_with fail
        clear es ns mu
        refine AnyFrom.start (fun w' => w' = W.drew) 8 (by kernel_rfl) ?_
        have me := md.drew
        clear md
        generalize W.drew = W1 at *
        have HS : W1 = W1 := rfl
        have mu := me
        unfold LBox at mu
        have es := mu.eqs
        simp only [EqsL] at es
        have ns := mu.nes
        simp only [NeL, NeFrom] at ns
        refine AnyFrom.takeT (i := 0) (v := ?_) rfl (by kernel_rfl) (by kernel_rfl) (by kernel_rfl) (by kernel_rfl) (fun _ _ _ h => h) ⟨by kernel_rfl, ?_⟩ HS ?_
        rotate_left
        · first | (rintro w' rfl; go_simp; done) | (rintro w' rfl; go_simp; with_reducible rfl)
        simp only [Act.put, List.setIfInBounds_toArray, List.set_cons_zero, List.set_cons_succ, List.getElem_toArray, List.getElem_cons_succ, List.getElem_cons_zero]
        refine AnyFrom.takeT (i := 1) (v := ?_) rfl (by kernel_rfl) (by kernel_rfl) (by kernel_rfl) (by kernel_rfl) (fun _ _ _ h => h) ⟨by kernel_rfl, ?_⟩ HS ?_
        rotate_left
        · first | (rintro w' rfl; go_simp; done) | (rintro w' rfl; go_simp; with_reducible rfl)
        simp only [Act.put, List.setIfInBounds_toArray, List.set_cons_zero, List.set_cons_succ, List.getElem_toArray, List.getElem_cons_succ, List.getElem_cons_zero]
        refine AnyFrom.takeT (i := 2) (v := ?_) rfl (by kernel_rfl) (by kernel_rfl) (by kernel_rfl) (by kernel_rfl) (fun _ _ _ h => h) ⟨by kernel_rfl, ?_⟩ HS ?_
        rotate_left
        · first | (rintro w' rfl; go_simp; done) | (rintro w' rfl; go_simp; with_reducible rfl)
        simp only [Act.put, List.setIfInBounds_toArray, List.set_cons_zero, List.set_cons_succ, List.getElem_toArray, List.getElem_cons_succ, List.getElem_cons_zero]
        refine AnyFrom.takeT (i := 3) (v := ?_) rfl (by kernel_rfl) (by kernel_rfl) (by kernel_rfl) (by kernel_rfl) (fun _ _ _ h => h) ⟨by kernel_rfl, ?_⟩ HS ?_
        rotate_left
        · first | (rintro w' rfl; go_simp; done) | (rintro w' rfl; go_simp; with_reducible rfl)
        simp only [Act.put, List.setIfInBounds_toArray, List.set_cons_zero, List.set_cons_succ, List.getElem_toArray, List.getElem_cons_succ, List.getElem_cons_zero]
        refine AnyFrom.takeT (i := 4) (v := ?_) rfl (by kernel_rfl) (by kernel_rfl) (by kernel_rfl) (by kernel_rfl) (fun _ _ _ h => h) ⟨by kernel_rfl, ?_⟩ HS ?_
        rotate_left
        · first | (rintro w' rfl; go_simp; done) | (rintro w' rfl; go_simp; with_reducible rfl)
        simp only [Act.put, List.setIfInBounds_toArray, List.set_cons_zero, List.set_cons_succ, List.getElem_toArray, List.getElem_cons_succ, List.getElem_cons_zero]
        refine AnyFrom.takeT (i := 5) (v := ?_) rfl (by kernel_rfl) (by kernel_rfl) (by kernel_rfl) (by kernel_rfl) (fun _ _ _ h => h) ⟨by kernel_rfl, ?_⟩ HS ?_
        rotate_left
        · first | (rintro w' rfl; go_simp; done) | (rintro w' rfl; go_simp; with_reducible rfl)
        simp only [Act.put, List.setIfInBounds_toArray, List.set_cons_zero, List.set_cons_succ, List.getElem_toArray, List.getElem_cons_succ, List.getElem_cons_zero]
        refine AnyFrom.one (i := 6) (by kernel_rfl) (AnyFrom.op rfl (by kernel_rfl) fun K hK => ?_)
        go_simp
        refine (Contains_any _ rts c.to (HO.out.strsAt me (fun p hp => by simp [hp]))).mono ?_
        rintro e w1 ⟨rfl, rfl⟩
        refine hK _ _ (.inr rfl) ?_
        clear hK K
        try simp only [Act.put, List.setIfInBounds_toArray, List.set_cons_zero, List.set_cons_succ, List.getElem_toArray, List.getElem_cons_succ, List.getElem_cons_zero]
        refine AnyFrom.one (i := 7) (by kernel_rfl) (AnyFrom.op rfl (by kernel_rfl) fun K hK => ?_)
        go_simp
        refine hK _ _ (.inr rfl) ?_
        clear hK K HS
        try simp only [Act.put, List.setIfInBounds_toArray, List.set_cons_zero, List.set_cons_succ, List.getElem_toArray, List.getElem_cons_succ, List.getElem_cons_zero]
        refine AnyFrom.done (by kernel_rfl) ?_ _
        by_cases ht : 0 ≤ placeS rts c.to
        · have HRD : Hid (rootsDone rts c = (6, rts)) := Lib.hid (by unfold rootsDone; rw [hat, if_neg (fun h => h5 h.1), if_neg h5, if_neg (by omega), if_neg h6, if_pos ht])
          rw [decide_eq_true ht]
          go_wp2_with fail
          go_ret
          rw [HRD.out]
          exact ⟨_, Lr, rfl, HO.out, me.drop⟩
        · have HRD : Hid (rootsDone rts c = (0, rts.set k c.to)) := Lib.hid (by unfold rootsDone; rw [hat, if_neg (fun h => h5 h.1), if_neg h5, if_neg (by omega), if_neg h6, if_neg ht]; rfl)
          rw [decide_eq_false ht]
          go_wp2_with fail
          clear es ns mu
          obtain ⟨g, rfl, -, -, -, -, -⟩ := HO.out.at hk me (fun p hp => by simp [hp])
          have hkI : (k : Int) < rts.length := by omega
          refine AnyFrom.start (fun w' => w' = W1.drew) 8 (by kernel_rfl) ?_
          have mf := me.drew
          clear me
          generalize W1.drew = W2 at *
          have HS : W2 = W2 := rfl
          have mu := mf
          unfold LBox at mu
          have es := mu.eqs
          simp only [EqsL] at es
          have ns := mu.nes
          simp only [NeL, NeFrom] at ns
          refine AnyFrom.takeT (i := 0) (v := ?_) rfl (by kernel_rfl) (by kernel_rfl) (by kernel_rfl) (by kernel_rfl) (fun _ _ _ h => h) ⟨by kernel_rfl, ?_⟩ HS ?_
          rotate_left
          · first | (rintro w' rfl; go_simp; done) | (rintro w' rfl; go_simp; with_reducible rfl)
          simp only [Act.put, List.setIfInBounds_toArray, List.set_cons_zero, List.set_cons_succ, List.getElem_toArray, List.getElem_cons_succ, List.getElem_cons_zero]
          refine AnyFrom.takeT (i := 1) (v := ?_) rfl (by kernel_rfl) (by kernel_rfl) (by kernel_rfl) (by kernel_rfl) (fun _ _ _ h => h) ⟨by kernel_rfl, ?_⟩ HS ?_
          rotate_left
          · first | (rintro w' rfl; go_simp; done) | (rintro w' rfl; go_simp; with_reducible rfl)
          simp only [Act.put, List.setIfInBounds_toArray, List.set_cons_zero, List.set_cons_succ, List.getElem_toArray, List.getElem_cons_succ, List.getElem_cons_zero]
          refine AnyFrom.takeT (i := 2) (v := ?_) rfl (by kernel_rfl) (by kernel_rfl) (by kernel_rfl) (by kernel_rfl) (fun _ _ _ h => h) ⟨by kernel_rfl, ?_⟩ HS ?_
          rotate_left
          · first | (rintro w' rfl; go_simp; done) | (rintro w' rfl; go_simp; with_reducible rfl)
          simp only [Act.put, List.setIfInBounds_toArray, List.set_cons_zero, List.set_cons_succ, List.getElem_toArray, List.getElem_cons_succ, List.getElem_cons_zero]
          refine AnyFrom.takeT (i := 3) (v := ?_) rfl (by kernel_rfl) (by kernel_rfl) (by kernel_rfl) (by kernel_rfl) (fun _ _ _ h => h) ⟨by kernel_rfl, ?_⟩ HS ?_
          rotate_left
          · first | (rintro w' rfl; go_simp; done) | (rintro w' rfl; go_simp; with_reducible rfl)
          simp only [Act.put, List.setIfInBounds_toArray, List.set_cons_zero, List.set_cons_succ, List.getElem_toArray, List.getElem_cons_succ, List.getElem_cons_zero]
          refine AnyFrom.takeT (i := 4) (v := ?_) rfl (by kernel_rfl) (by kernel_rfl) (by kernel_rfl) (by kernel_rfl) (fun _ _ _ h => h) ⟨by kernel_rfl, ?_⟩ HS ?_
          rotate_left
          · first | (rintro w' rfl; go_simp; done) | (rintro w' rfl; go_simp; with_reducible rfl)
          simp only [Act.put, List.setIfInBounds_toArray, List.set_cons_zero, List.set_cons_succ, List.getElem_toArray, List.getElem_cons_succ, List.getElem_cons_zero]
          refine AnyFrom.takeT (i := 5) (v := ?_) rfl (by kernel_rfl) (by kernel_rfl) (by kernel_rfl) (by kernel_rfl) (fun _ _ _ h => h) ⟨by kernel_rfl, ?_⟩ HS ?_
          rotate_left
          · first | (rintro w' rfl; go_simp; done) | (rintro w' rfl; go_simp; with_reducible rfl)
          simp only [Act.put, List.setIfInBounds_toArray, List.set_cons_zero, List.set_cons_succ, List.getElem_toArray, List.getElem_cons_succ, List.getElem_cons_zero]
          refine AnyFrom.takeT (i := 6) (v := ?_) rfl (by kernel_rfl) (by kernel_rfl) (by kernel_rfl) (by kernel_rfl) (fun _ _ _ h => h) ⟨by kernel_rfl, ?_⟩ HS ?_
          rotate_left
          · first | (rintro w' rfl; go_simp; done) | (rintro w' rfl; go_simp; with_reducible rfl)
          simp only [Act.put, List.setIfInBounds_toArray, List.set_cons_zero, List.set_cons_succ, List.getElem_toArray, List.getElem_cons_succ, List.getElem_cons_zero]
          refine AnyFrom.pure (i := 7) (v := ?_) rfl (by kernel_rfl) (by kernel_rfl) (by kernel_rfl) (by decide) (fun _ _ _ h => h) ⟨by kernel_rfl, ?_⟩ HS ?_
          rotate_left
          · first | (intro w'; go_simp; done) | (intro w'; go_simp; with_reducible rfl)
          simp only [Act.put, List.setIfInBounds_toArray, List.set_cons_zero, List.set_cons_succ, List.getElem_toArray, List.getElem_cons_succ, List.getElem_cons_zero]
          obtain ⟨g', hg', c1, hfz, hgl, -, -⟩ := HO.out.at hk mf (fun p hp => by simp [hp])
          cases hg'
          have hfz1 := hfz k
          refine AnyFrom.one (i := 8) (by kernel_rfl) (AnyFrom.op rfl (by kernel_rfl) fun K hK => ?_)
          go_simp
          refine hK _ _ (.inl ⟨8, by decide, by rfl⟩) ?_
          clear hK K HS
          try simp only [Act.put, List.setIfInBounds_toArray, List.set_cons_zero, List.set_cons_succ, List.getElem_toArray, List.getElem_cons_succ, List.getElem_cons_zero]
          refine AnyFrom.done (by kernel_rfl) ?_ _
          obtain ⟨L3, ho3, m7⟩ := HO.out.set hk c.to HF.out.to (mf.perm (perm_ir1 _ _ _ _))
          have m8 := m7.perm (perm_ir6 _ _ _ _)
          clear es ns mu c1 hfz hfz1 m7
          go_wp2_with fail
          go_ret
          rw [HRD.out]
          exact ⟨_, L3, rfl, ho3, m8.drop⟩
end Go.Proofs.YtbioklhoolkhkabGreat
