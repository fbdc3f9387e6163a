/- The walks: append of a string; bytes, Bytes. -/
import Derived.Test.YtpkcdkbbhiafnaaDoorGateT
import Derived.Deep.RegionWith
import Derived.Lib.AppendStr
namespace Go.Proofs.YtpkcdkbbhiafnaaDoor
set_option linter.unusedVariables false
set_option linter.unusedSimpArgs false
open Go.RowKit

theorem strChunks {H : Hp} (s : ByteArray) : Chunks encB H (Lib.strCells s) s.data.toList := Chunks.ofV (f := fun b : UInt8 => Value.int .u8 b.toNat) _ (fun _ _ => trivial)
section
variable {w0 w : World} {H : Hp} {L : List (Nat × Obj)} {v : Value} {n : Nat} {xs : List Value} {P : Program}
theorem run_append_mem_string (t u ty e : TypeId) (i : TypeInfo) (ht : P.underlying t = some (.slice e)) (hu : P.underlying u = some .string) (hi : P.info? e = some i) (hz : i.zero = some (.int .u8 0))
    (hsize : i.size = 1) (hby : i.bytes = 1) (hacc : MemAcc w0 H L e 1 v n xs w) (s : ByteArray) (h63 : n + s.size ≤ 1000000) :
    ∃ v' w', (Builtin.append_ #[t, u] ty #[v, .string s]).run P w = .ok v' w' ∧ MemAcc w0 H L e 1 v' (n + s.size) (xs ++ Lib.strCells s) w' := by
  have hlen : (xs ++ Lib.strCells s).length = n + s.size := by rw [List.length_append, hacc.1, Lib.strCells_length, Nat.mul_one]
  have grown : ∀ (old : Nat), Mem w0 H L w →
      MemAcc w0 H L e 1 (.slice (some ⟨w.heap.size, 0, none⟩) (n + s.size) (grownCap w (n + s.size) old e)) (n + s.size) (xs ++ Lib.strCells s)
        (w.drew.alloc (.cells (xs.toArray ++ (Lib.strCells s).toArray ++ Builtin.zeroCells (Value.int .u8 0).cells (grownCap w (n + s.size) old e - (n + s.size))) e)) := by
    intro old hm
    have hge := grownCap_ge w (n + s.size) old e
    have hcm : grownCap w (n + s.size) old e ≤ maxLen := grownCap_le_maxLen w (n + s.size) old e (by unfold maxLen; omega)
    refine MemAcc.row (hm.drew.alloc _) hge hcm ?_ ?_
    · have := size_zeroCells (Value.int .u8 0).cells (grownCap w (n + s.size) old e - (n + s.size))
      simp only [Array.size_append, List.size_toArray, this, hacc.1, Lib.strCells_length]
      simp [Value.cells]
      omega
    · simp only [Array.toList_append, List.append_assoc]
      rw [← List.append_assoc, Nat.mul_one, ← hlen]
      exact List.take_left
  rcases hacc.2 with ⟨rfl, rfl, hm⟩ | ⟨g, cap, cur, rfl, hnc, hcm, hcs, htake, hm⟩
  · have hx : xs = [] := List.eq_nil_of_length_eq_zero (by simpa using hacc.1)
    subst hx
    by_cases hs0 : s.size = 0
    · refine ⟨.slice none 0 0, w, ?_, ?_⟩
      · simp [Builtin.append_, run_underlying ht, run_underlying hu, sizeOf, typeInfo, hi, Builtin.lenOf, hs0, Builtin.firstCells, Lib.run_firstCells_string]
      · have : Lib.strCells s = [] := List.eq_nil_of_length_eq_zero (by rw [Lib.strCells_length, hs0])
        rw [this, hs0]; simpa using hacc
    · have hr := run_append_nil_string (P := P) w t u ty e i _ ht hu hi hz s (by omega) (by omega) (by rw [hby]; omega)
      have hgr := grown 0 hm
      simp only [Nat.zero_add, List.nil_append, Array.empty_append] at hgr ⊢
      refine ⟨_, _, hr, ?_⟩
      have e1 : (Lib.strCells s).toArray = s.data.map (fun b => Value.int .u8 b.toNat) := by
        apply Array.ext'; simp [Lib.strCells]
      simpa [e1] using hgr
  · have hg := (hm.loc _ (.head _)).1
    by_cases hroom : n + s.size ≤ cap
    · have hr := Lib.run_append_room_string (P := P) w t u ty e i ht hu hi hsize g n cap cur hg s hroom (by omega)
      refine ⟨_, _, hr, MemAcc.row (cur := (cur.toList.take n ++ Lib.strCells s ++ cur.toList.drop (n + s.size)).toArray) (hm.setObj .head rfl rfl rfl (setRow_heap w g cur _ e _ hg) fun j hj => setRow_other w g j _ hj) hroom hcm ?_ ?_⟩
      · simp only [List.size_toArray, List.length_append, List.length_take, List.length_drop, Array.length_toList, Lib.strCells_length]
        omega
      · rw [Nat.mul_one] at htake
        simp only
        rw [htake, Nat.mul_one, ← hlen]
        exact List.take_left
    · have holds : ∀ j u, xs[j]? = some u → w.cell? ((⟨g, 0, none⟩ : Addr).add j) = some u := by
        intro j u hu
        rw [Addr.add_lit, Nat.zero_add, cell_of_heap hg]
        rw [← htake, List.getElem?_take] at hu
        split at hu
        · simpa using hu
        · cases hu
      have hr := Lib.run_append_grow_string (P := P) w t u ty e i _ ht hu hi hz ⟨g, 0, none⟩ n cap xs (by rw [hsize]; exact hacc.1) holds s (by omega) (by omega) (by rw [hby]; exact growslice_fits (bytes := 1) (by omega) (by omega))
      exact ⟨_, _, hr, grown cap hm.drop⟩
theorem wpList_append_mem_string {ops : Array Oper} {rest : List Oper} {o : Oper} {a : Act} {Q : Exit → Act → World → Prop} (hgd : o.guard = none) (s x : Operand) (t u : TypeId)
    (ho : o.op = .call { callee := .builtin .append, args := #[s, x], argTypes := #[t, u] })
    (e : TypeId) (ht : P.underlying t = some (.slice e)) (hu : P.underlying u = some .string) (hi : (P.info? e).map (fun i => (i.zero, i.size, i.bytes)) = some (some (.int .u8 0), 1, 1))
    (v : Value) (n : Nat) (xs : List Value) (hacc : MemAcc w0 H L e 1 v n xs w) (hs : a.eval s = v)
    (xv : ByteArray) (hx : a.eval x = .string xv) (h63 : n + xv.size ≤ 1000000)
    (h : ∀ v' w', MemAcc w0 H L e 1 v' (n + xv.size) (xs ++ Lib.strCells xv) w' → wpList P ops Q rest (a.put o.dst v') w') : wpList P ops Q (o :: rest) a w := by
  obtain ⟨i, hi1, hi2, hi3, hi4⟩ := info_parts hi
  obtain ⟨v', w', hr, h2⟩ := run_append_mem_string (P := P) t u o.type e i ht hu hi1 hi2 hi3 hi4 hacc xv h63
  exact Lib.wpList_append_run w hgd s x t u ho v (.string xv) hs hx v' w' hr (h _ _ h2)
/-- The same as one step of a region that draws its order. -/
theorem step_append_mem_string {ops : Array Oper} {o : Oper} {a : Act} {K : Act → World → Prop} {Q : Exit → Act → World → Prop} {E : Prop} (hgd : o.guard = none) (s x : Operand) (t u : TypeId)
    (ho : o.op = .call { callee := .builtin .append, args := #[s, x], argTypes := #[t, u] })
    (e : TypeId) (ht : P.underlying t = some (.slice e)) (hu : P.underlying u = some .string) (hi : (P.info? e).map (fun i => (i.zero, i.size, i.bytes)) = some (some (.int .u8 0), 1, 1))
    (v : Value) (n : Nat) (xs : List Value) (hacc : MemAcc w0 H L e 1 v n xs w) (hs : a.eval s = v)
    (xv : ByteArray) (hx : a.eval x = .string xv) (h63 : n + xv.size ≤ 1000000)
    (h : ∀ v' w', MemAcc w0 H L e 1 v' (n + xv.size) (xs ++ Lib.strCells xv) w' → K (a.put o.dst v') w') :
    if Region.wanted o (yielded ops a.tmps) = true then Oper.wp P o a w K Q else E := by
  have hw : Region.wanted o (yielded ops a.tmps) = true := by simp [Region.wanted, hgd]
  rw [if_pos hw]
  obtain ⟨i, hi1, hi2, hi3, hi4⟩ := info_parts hi
  obtain ⟨v', w', hr, h2⟩ := run_append_mem_string (P := P) t u o.type e i ht hu hi1 hi2 hi3 hi4 hacc xv h63
  exact Lib.wp_append_run w s x t u ho v (.string xv) hs hx v' w' hr (h _ _ h2)
end

/-! ### bytes -/
def textB (s : ByteArray) : List UInt8 := UInt8.ofNat s.size :: s.data.toList
def headB (g : GateM) : List UInt8 := flatB [numberM g.first, numberM g.next, [UInt8.ofNat g.queue.length]]
def restB (l : List ByteArray) : List UInt8 := flatB (l.map textB)
def bytesM (g : GateM) : List UInt8 := headB g ++ restB g.queue
theorem restB_snoc (l : List ByteArray) (s : ByteArray) : restB (l ++ [s]) = restB l ++ [UInt8.ofNat s.size] ++ s.data.toList := by
  simp [restB, flatB, textB]
theorem restB_len (l : List ByteArray) (h : ∀ s ∈ l, s.size ≤ 200) : (restB l).length ≤ 201 * l.length := by
  induction l with
  | nil => simp [restB, flatB]
  | cons s l ih =>
    have h1 := h s (.head _)
    have h2 := ih fun t ht => h t (.tail _ ht)
    have e : restB (s :: l) = textB s ++ restB l := by simp [restB, flatB]
    have e3 : (textB s).length = s.size + 1 := by simp [textB]
    rw [e, List.length_append, e3, List.length_cons]
    omega
theorem headB_len (g : GateM) : (headB g).length = 9 := by simp [headB, flatB, numberM]

theorem concat_pre {w0 W : World} {H : Hp} {Lg : List (Nat × Obj)} {k : Nat} {x : UInt8} {y : Int} {v1 v2 : Value} {l1 l2 : List UInt8} (hy : y = x.toNat) (m : Mem w0 H ((k, .cells #[.int .u8 y] 5) :: Lg) W) (h1 : SlR encB H v1 l1) (h2 : SlR encB H v2 l2) :
    ∃ H3, Mem w0 H3 Lg (W.alloc (.cells #[v1, v2, .slice (some ⟨k, 0, none⟩) 1 1] 22)) ∧ Hle H H3 ∧ SlR (encSl encB) H3 (.slice (some ⟨W.heap.size, 0, none⟩) 3 3) [l1, l2, [x]] := by
  subst hy
  have m1 := (m.alloc (.cells #[v1, v2, .slice (some ⟨k, 0, none⟩) 1 1] 22)).perm (List.Perm.swap _ _ _)
  obtain ⟨H2, m2, hle2, s2⟩ := Mem.lit (E := encB) (ys := [x]) (cs := [.int .u8 x.toNat]) m1 (Chunks.ofV (f := fun b : UInt8 => Value.int .u8 b.toNat) [x] (fun _ _ => trivial)) (by simp [maxLen])
  obtain ⟨H3, m3, hle3, s3⟩ := Mem.lit (E := encSl encB) (ys := [l1, l2, [x]]) (cs := [v1, v2, .slice (some ⟨k, 0, none⟩) 1 1]) m2 (.cons (cs := [_]) ⟨_, rfl, h1.mono hle2⟩ rfl (.cons (cs := [_]) ⟨_, rfl, h2.mono hle2⟩ rfl (.cons (cs := [_]) ⟨_, rfl, s2⟩ rfl .nil))) (by simp [maxLen])
  exact ⟨H3, m3, hle2.trans hle3, s3⟩
end Go.Proofs.YtpkcdkbbhiafnaaDoor
