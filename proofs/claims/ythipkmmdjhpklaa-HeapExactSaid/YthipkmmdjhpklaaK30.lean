/- A list of one's own that loses its first one and grows at its end (a queue): what it owns, and what append makes of it. No program in sight. The walk: the objects that can be reached, breadth first (the law's). The walk: values with references to the new numbers of objects (the law's turned). The walk: a heap after a collection with no other deed (the law's collected). -/
import Derived.Test.YthipkmmdjhpklaaK19
import Derived.ArgAppend
import Derived.Test.YthipkmmdjhpklaaK25
import Derived.Test.YthipkmmdjhpklaaK22
namespace Go.Proofs.Ythipkmmdjhpklaa
set_option linter.unusedVariables false
set_option linter.unusedSimpArgs false
open Go.RowKit

def rowSet : Array Value → Nat → List Value → Array Value
  | c, _, [] => c
  | c, k, u :: us => rowSet (c.setIfInBounds k u) (k + 1) us
theorem rowSet_spec : ∀ (us : List Value) (c : Array Value) (k : Nat), k + us.length ≤ c.size → (rowSet c k us).size = c.size ∧ (rowSet c k us).toList = c.toList.take k ++ us ++ c.toList.drop (k + us.length)
  | [], c, k, h => by simp [rowSet]
  | u :: us, c, k, h => by
    simp only [List.length_cons] at h
    obtain ⟨h1, h2⟩ := rowSet_spec us (c.setIfInBounds k u) (k + 1) (by simp; omega)
    refine ⟨by rw [rowSet, h1]; simp, ?_⟩
    rw [rowSet, h2, Array.toList_setIfInBounds]
    have hk : k < c.toList.length := by simp; omega
    rw [List.take_set, List.drop_set_of_lt (by omega)]
    have e1 : (c.toList.take (k + 1)).set k u = c.toList.take k ++ [u] := by
      rw [List.take_succ_eq_append_getElem hk, List.set_append_right _ _ (by rw [List.length_take]; omega), List.length_take, Nat.min_eq_left (by omega), Nat.sub_self]
      rfl
    rw [e1]
    simp only [List.append_assoc, List.singleton_append, List.length_cons, List.cons_append, List.nil_append]
    rw [show k + 1 + us.length = k + (us.length + 1) by omega]
theorem Mem.setCells {w0 : World} {H : Hp} {L : List (Nat × Obj)} {g : Nat} {t : TypeId} {f : Nat × Nat} : ∀ (us : List Value) (k : Nat) {c : Array Value} {w : World}, Mem w0 H ((g, .cells c t f) :: L) w → Mem w0 H ((g, .cells (rowSet c k us) t f) :: L) (w.setCells g k us)
  | [], k, c, w, m => m
  | u :: us, k, c, w, m => Mem.setCells us (k + 1) (m.set .head)

section
variable {e : TypeId} {size n : Nat} {v : Value} {xs : List Value} {w0 w : World} {H : Hp} {L : List (Nat × Obj)}
def AccQ (e : TypeId) (size : Nat) (v : Value) (n : Nat) (xs : List Value) (L0 : List (Nat × Obj)) : Prop :=
  xs.length = n * size ∧
  ((v = .slice none 0 0 ∧ n = 0 ∧ L0 = []) ∨
   ∃ g off cap cur, v = .slice (some ⟨g, off, none⟩) n cap ∧ n ≤ cap ∧ cap ≤ maxLen ∧ off + cap * size ≤ cur.size ∧ (cur.toList.drop off).take (n * size) = xs ∧ L0 = [(g, .cells cur e (0, 0))])
theorem AccL.queue {L0 : List (Nat × Obj)} (h : AccL e size v n xs L0) : AccQ e size v n xs L0 := by
  refine ⟨h.1, h.2.imp id ?_⟩
  rintro ⟨g, cap, cur, h1, h2, h3, h4, h5, h6⟩
  exact ⟨g, 0, cap, cur, h1, h2, h3, by omega, by simpa using h5, h6⟩
theorem AccQ.shape {L0 : List (Nat × Obj)} (h : AccQ e size v n xs L0) : ∃ b c, v = .slice b n c ∧ n ≤ c ∧ c ≤ maxLen := by
  rcases h.2 with ⟨h1, h2, _⟩ | ⟨g, off, cap, cur, h1, h2, h3, _⟩
  · exact ⟨none, 0, by rw [h1, h2], by omega, by simp [maxLen]⟩
  · exact ⟨_, _, h1, h2, h3⟩
def MemQ (w0 : World) (H : Hp) (L : List (Nat × Obj)) (e : TypeId) (size : Nat) (v : Value) (n : Nat) (xs : List Value) (w : World) : Prop := ∃ L0, AccQ e size v n xs L0 ∧ Mem w0 H (L0 ++ L) w
theorem MemAcc.queue (h : MemAcc w0 H L e size v n xs w) : MemQ w0 H L e size v n xs w := by
  obtain ⟨L0, h1, h2⟩ := h.split
  exact ⟨L0, h1.queue, h2⟩
/-- The first one, and what is left without it. -/
theorem AccQ.first {L0 : List (Nat × Obj)} {x ys : List Value} (h : AccQ e size v (n + 1) (x ++ ys) L0) (hx : x.length = size) (hs : 0 < size) (m : Mem w0 H (L0 ++ L) w) :
    ∃ g off c, v = .slice (some ⟨g, off, none⟩) (n + 1) c ∧ n + 1 ≤ c ∧ c ≤ maxLen ∧ g < w.heap.size ∧ (∀ j u, x[j]? = some u → w.cell? ⟨g, off + j, none⟩ = some u) ∧
      AccQ e size (.slice (some ⟨g, off + size, none⟩) n (c - 1)) n ys L0 ∧ (c = 1 → AccQ e size (.slice (some ⟨g, off, none⟩) n 0) n ys L0) := by
  rcases h.2 with ⟨_, h2, _⟩ | ⟨g, off, cap, cur, rfl, h2, h3, h4, h5, rfl⟩
  · omega
  · have hl := h.1
    rw [List.length_append, hx, Nat.add_mul, Nat.one_mul] at hl
    have hg := (m.loc _ (.head _)).1
    have hce : cap * size = (cap - 1) * size + size := by
      obtain ⟨q, rfl⟩ : ∃ q, cap = q + 1 := ⟨cap - 1, by omega⟩
      rw [Nat.add_sub_cancel, Nat.add_mul, Nat.one_mul]
    have hys : (cur.toList.drop (off + size)).take (n * size) = ys := by
      have h6 := congrArg (List.drop size) h5
      rw [List.drop_take, List.drop_drop, ← hx, List.drop_left, hx, Nat.add_mul, Nat.one_mul, Nat.add_sub_cancel] at h6
      exact h6
    refine ⟨g, off, cap, rfl, h2, h3, lt_of_heap hg, fun j u hj => ?_, ⟨by omega, .inr ⟨g, off + size, cap - 1, cur, rfl, by omega, by omega, by omega, hys, rfl⟩⟩, fun hc => ?_⟩
    · rw [cell_of_heap hg]
      have hjl := lt_of_some hj
      have h7 : (x ++ ys)[j]? = some u := by rw [List.getElem?_append_left hjl]; exact hj
      rw [← h5, List.getElem?_take] at h7
      split at h7
      · rw [List.getElem?_drop] at h7
        simpa using h7
      · cases h7
    · subst hc
      have hn : n = 0 := by omega
      subst hn
      have hy : ys = [] := List.eq_nil_of_length_eq_zero (by omega)
      subst hy
      exact ⟨by simp, .inr ⟨g, off, 0, cur, rfl, Nat.le_refl _, by simp [maxLen], by omega, by simp, rfl⟩⟩
variable {P : Program}
theorem run_append_q (t ty e : TypeId) (i : TypeInfo) (z : Value) (size bytes : Nat) (ht : P.underlying t = some (.slice e)) (hi : P.info? e = some i) (hz : i.zero = some z)
    (hsize : i.size = size) (hby : i.bytes = bytes) (hzs : z.cells.size = size) (hsz : 0 < size)
    (v : Value) (n : Nat) (xs : List Value) (hacc : MemQ w0 H L e size v n xs w)
    (x : Value) (m : Nat) (news : List Value) (hsrc : Src w x m news) (hl : news.length = m * size) (h1 : ∀ u ∈ news, u.oneCell' = true)
    (hbytes : (n + m) * bytes ≤ 140737488355328) (h63 : n + m ≤ maxLen) :
    ∃ v' w', (Builtin.append_ #[t, t] ty #[v, x]).run P w = .ok v' w' ∧ MemQ w0 H L e size v' (n + m) (xs ++ news) w' := by
  obtain ⟨L0, hq, hm0⟩ := hacc
  rcases hq.2 with ⟨h2, h3, h4⟩ | ⟨g, off, cap, cur, rfl, hnc, hcm, hcs, htake, rfl⟩
  · have ha : MemAcc w0 H L e size v n xs w := ⟨hq.1, .inl ⟨h2, h3, by rw [h4] at hm0; exact hm0⟩⟩
    obtain ⟨v', w', hr, h5⟩ := run_append_mem (P := P) t ty e i z size bytes ht hi hz hsize hby hzs hsz v n xs ha x m news hsrc hl h1 hbytes h63
    exact ⟨v', w', hr, h5.queue⟩
  · subst hsize
    subst hby
    have hsmall : n + m ≤ 9223372036854775807 := by simp only [maxLen] at h63; omega
    have hlen : (xs ++ news).length = (n + m) * i.size := by rw [List.length_append, hq.1, hl, Nat.add_mul]
    have hm : Mem w0 H ((g, .cells cur e (0, 0)) :: L) w := hm0
    have hg := (hm.loc _ (.head _)).1
    rcases hsrc with ⟨rfl, rfl, rfl⟩ | ⟨a, c, rfl, hnews⟩
    · refine ⟨.slice (some ⟨g, off, none⟩) n cap, w, ?_, by simpa using ⟨_, hq, hm0⟩⟩
      simp [Builtin.append_, run_underlying ht, sizeOf, typeInfo, hi, Builtin.lenOf, Builtin.firstCells, hnc, storeCells]
    · by_cases hroom : n + m ≤ cap
      · have hmul : (n + m) * i.size ≤ cap * i.size := Nat.mul_le_mul_right _ hroom
        rw [Nat.add_mul] at hmul
        have hin : ∀ j, j < news.length → off + n * i.size + j < cur.size := fun j hj => by omega
        have hr := run_append_room_cells (P := P) (w := w) t ty e i ht hi g off n cap a m c news hl hnews h1 hroom
          (fun j hj => by rw [cell_of_heap hg, Array.getElem?_eq_getElem (hin j hj)]; rfl)
          (fun j hj => by simp [World.frozen?, hg])
        obtain ⟨s1, s2⟩ := rowSet_spec news cur (off + n * i.size) (by omega)
        refine ⟨_, _, hr, [_], ⟨hlen, .inr ⟨g, off, cap, _, rfl, hroom, hcm, ?_, ?_, rfl⟩⟩, Mem.setCells news (off + n * i.size) hm⟩
        · rw [s1]; exact hcs
        · rw [s2]
          have e1 : cur.toList.take (off + n * i.size) = cur.toList.take off ++ xs := by
            rw [List.take_add, htake]
          have e2 : (cur.toList.take off).length = off := by rw [List.length_take]; simp; omega
          rw [e1, List.append_assoc, List.append_assoc, List.drop_left' e2, ← List.append_assoc, ← hlen]
          exact List.take_left
      · have holds : ∀ j u, xs[j]? = some u → w.cell? ((⟨g, off, none⟩ : Addr).add j) = some u := by
          intro j u hu
          rw [Addr.add_lit, cell_of_heap hg]
          rw [← htake, List.getElem?_take] at hu
          split at hu
          · rw [List.getElem?_drop] at hu
            simpa using hu
          · cases hu
        have hr := run_append_grow (P := P) w t ty e i z ht hi hz ⟨g, off, none⟩ n cap xs hq.1 holds a m c news hl hnews (by omega) (by omega) (growslice_fits (by omega) hbytes)
        have hge := grownCap_ge w (n + m) cap e
        have hcm2 : grownCap w (n + m) cap e ≤ maxLen := grownCap_le_maxLen w (n + m) cap e h63
        have hacc2 : MemAcc w0 H L e i.size (.slice (some ⟨w.heap.size, 0, none⟩) (n + m) (grownCap w (n + m) cap e)) (n + m) (xs ++ news)
            (w.drew.alloc (.cells (xs.toArray ++ news.toArray ++ Builtin.zeroCells z.cells (grownCap w (n + m) cap e - (n + m))) e)) := by
          refine MemAcc.row (hm.drop.drew.alloc _) hge hcm2 ?_ ?_
          · simp only [Array.size_append, List.size_toArray, size_zeroCells, hzs, hq.1, hl, ← Nat.add_mul]
            congr 1
            omega
          · simp only [Array.toList_append, List.append_assoc]
            rw [← List.append_assoc, ← hlen]
            exact List.take_left
        exact ⟨_, _, hr, hacc2.queue⟩
theorem wpList_append_q {ops : Array Oper} {rest : List Oper} {o : Oper} {a : Act} {Q : Exit → Act → World → Prop} (hgd : o.guard = none) (s x : Operand) (t : TypeId)
    (ho : o.op = .call { callee := .builtin .append, args := #[s, x], argTypes := #[t, t] })
    (e : TypeId) (size bytes : Nat) (z : Value) (ht : P.underlying t = some (.slice e)) (hi : (P.info? e).map (fun i => (i.zero, i.size, i.bytes)) = some (some z, size, bytes))
    (hzs : z.cells.size = size) (hsz : 0 < size)
    (v : Value) (n : Nat) (xs : List Value) (hacc : MemQ w0 H L e size v n xs w) (hs : a.eval s = v)
    (xv : Value) (m : Nat) (news : List Value) (hsrc : Src w xv m news) (hx : a.eval x = xv) (hl : news.length = m * size) (h1 : ∀ u ∈ news, u.oneCell' = true)
    (hbytes : (n + m) * bytes ≤ 140737488355328) (h63 : n + m ≤ maxLen)
    (h : ∀ v' w', MemQ w0 H L e size v' (n + m) (xs ++ news) w' → wpList P ops Q rest (a.put o.dst v') w') : wpList P ops Q (o :: rest) a w := by
  obtain ⟨i, hi1, hi2, hi3, hi4⟩ := info_parts hi
  obtain ⟨v', w', hr, h2⟩ := run_append_q (P := P) t o.type e i z size bytes ht hi1 hi2 hi3 hi4 hzs hsz v n xs hacc xv m news hsrc hl h1 hbytes h63
  refine wpList_plain hgd fun K hK => ?_
  unfold Oper.wp execOp
  simp only [ho, resolve, invoke, builtin, Sem.run_bind, Sem.run_pure, Result.andThen_ok, List.map_toArray, List.map_cons, List.map_nil, hs, hx, hr]
  exact hK _ _ (h v' w' h2)
end
end Go.Proofs.Ythipkmmdjhpklaa
namespace Go.Proofs.Ythipkmmdjhpklaa
set_option linter.unusedVariables false
set_option linter.unusedSimpArgs false
open Go.RowKit

/-- Which objects were met, as the program keeps it. -/
def metC (l : List Nat) (n : Nat) : List Value := (List.range n).map fun k => .bool (decide (k ∈ l))
theorem metC_len (l : List Nat) (n : Nat) : (metC l n).length = n := by simp [metC]
theorem metC_at (l : List Nat) {n k : Nat} (hk : k < n) : (metC l n)[k]? = some (.bool (decide (k ∈ l))) := by simp [metC, hk]
theorem metC_set (l : List Nat) {n k : Nat} (hk : k < n) : (metC l n).set k (.bool true) = metC (l ++ [k]) n := by
  apply List.ext_getElem (by simp [metC])
  intro j h1 h2
  simp only [metC, List.length_map, List.length_range, List.length_set] at h1 h2
  rw [List.getElem_set]
  by_cases e : k = j
  · subst e; simp [metC]
  · rw [if_neg e]
    have : j ≠ k := fun h => e h.symm
    simp [metC, this]
noncomputable def infoB : TypeInfo := (Try.prog.info? 4).get!
theorem infoB_at : Try.prog.info? 4 = some infoB := by kernel_rfl
theorem infoB_zero : infoB.zero = some (.bool false) := by kernel_rfl
theorem infoB_size : infoB.size = 1 := by kernel_rfl
theorem infoB_bytes : infoB.bytes = 1 := by kernel_rfl
theorem run_make_bools (n : Nat) (hn : n ≤ 100000) (w : World) : (Instr.makeSlice 97 (.int .i64 n) (.int .i64 n)).run Try.prog w = .ok (.slice (some ⟨w.heap.size, 0, none⟩) n n) (w.alloc (.cells (metC [] n).toArray 4)) := by
  have h := run_makeSlice (P := Try.prog) w 97 4 infoB (.bool false) Try.underlying97 infoB_at infoB_zero .i64 .i64 (n : Int) (n : Int) (by omega) (by omega) (by rw [infoB_size]; omega) (by rw [infoB_bytes]; omega) (by omega)
  rw [infoB_size, Int.toNat_natCast, Nat.mul_one] at h
  have e : madeCells (Value.bool false).cells n = (metC [] n).toArray := by
    unfold madeCells metC
    apply Array.ext'
    simp only [Value.cells, Array.toList_map, Array.toList_range, List.map_inj_left, List.mem_range, List.not_mem_nil, decide_false, List.size_toArray, List.length_singleton, Nat.mod_one]
    intro a _
    rfl
  rw [e] at h
  exact h
def OldOk (h : HeapM) (l : List ValM) : Prop := ∀ v ∈ l, OldVal h v ∧ v.fit
def natCs (l : List Nat) : List Value := l.map fun k : Nat => Value.int .i64 (k : Int)
theorem natCs_len (l : List Nat) : (natCs l).length = l.length := by simp [natCs]
theorem natCs_snoc (l : List Nat) (k : Nat) : natCs (l ++ [k]) = natCs l ++ [.int .i64 (k : Int)] := by simp [natCs]
theorem bfsN_skip (f : Nat) (h : HeapM) (out : List Nat) (v : ValM) (todo : List ValM) (hv : ¬ (v.kind = 5 ∧ idx v ∉ out)) : h.bfsN (f + 1) out (v :: todo) = h.bfsN f out todo := by rw [HeapM.bfsN, if_neg hv]
theorem bfsN_met (f : Nat) (h : HeapM) (out : List Nat) (v : ValM) (todo : List ValM) (hv : v.kind = 5 ∧ idx v ∉ out) : h.bfsN (f + 1) out (v :: todo) = h.bfsN f (out ++ [idx v]) (todo ++ h.slotsAt (idx v)) := by rw [HeapM.bfsN, if_pos hv]
theorem perm_b1 {α : Type} (a b : α) (Lq L : List α) : (Lq ++ (a :: b :: L)).Perm (a :: b :: (Lq ++ L)) := (by classical exact List.perm_iff_count.2 (fun a => by simp only [List.count_append, List.count_cons, List.cons_append, List.nil_append, List.append_assoc]; omega))
theorem perm_b5 {α : Type} (l v a b : α) (Lo M : List α) : (Lo ++ (l :: v :: a :: b :: M)).Perm (v :: a :: b :: l :: (Lo ++ M)) := (by classical exact List.perm_iff_count.2 (fun a => by simp only [List.count_append, List.count_cons, List.cons_append, List.nil_append, List.append_assoc]; omega))
theorem perm_b6 {α : Type} (l v a b : α) (Lo Lq M : List α) : (v :: a :: b :: l :: (Lo ++ (Lq ++ M))).Perm (Lq ++ (a :: b :: v :: l :: (Lo ++ M))) := (by classical exact List.perm_iff_count.2 (fun a => by simp only [List.count_append, List.count_cons, List.cons_append, List.nil_append, List.append_assoc]; omega))
theorem perm_b7 {α : Type} (l v a b : α) (Lo Lq M : List α) : (Lq ++ (a :: b :: v :: l :: (Lo ++ M))).Perm (v :: l :: a :: b :: (Lo ++ (Lq ++ M))) := (by classical exact List.perm_iff_count.2 (fun a => by simp only [List.count_append, List.count_cons, List.cons_append, List.nil_append, List.append_assoc]; omega))
theorem nodup_snoc {l : List Nat} {k : Nat} (hn : l.Nodup) (hk : k ∉ l) : (l ++ [k]).Nodup := by
  rw [List.nodup_append]
  exact ⟨hn, by simp, fun a ha b hb => by rw [List.mem_singleton] at hb; subst hb; exact fun e => hk (e ▸ ha)⟩
theorem lt_snoc {l : List Nat} {k n : Nat} (hl : ∀ x ∈ l, x < n) (hk : k < n) : ∀ x ∈ l ++ [k], x < n := fun x hx => by
  rcases List.mem_append.1 hx with hx | hx
  · exact hl x hx
  · rw [List.mem_singleton] at hx; subst hx; exact hk
theorem oldOk_slots {h : HeapM} (o : HOk h) (hb : h.busy = false) (k : Nat) : OldOk h (h.slotsAt k) := fun v hv => by
  obtain ⟨p, hp, hv'⟩ := slotsAt_mem hv
  have := (o.core.new k p hp).sl v hv'
  have hbd := o.core.bounds
  exact ⟨oldVal_slot o hb hv, (this.can hbd.1 hbd.2.1 o.core.half).fit⟩
theorem perm_b4 {α : Type} (l v a b : α) (Lo M : List α) : (l :: v :: a :: b :: (Lo ++ M)).Perm (Lo ++ (l :: v :: a :: b :: M)) := (by classical exact List.perm_iff_count.2 (fun a => by simp only [List.count_append, List.count_cons, List.cons_append, List.nil_append, List.append_assoc]; omega))
theorem perm_b3 {α : Type} (a b : α) (Lo Lq L : List α) : (a :: b :: (Lo ++ (Lq ++ L))).Perm (Lq ++ (a :: b :: (Lo ++ L))) := (by classical exact List.perm_iff_count.2 (fun a => by simp only [List.count_append, List.count_cons, List.cons_append, List.nil_append, List.append_assoc]; omega))
theorem perm_b2 {α : Type} (v a b : α) (Lo Lq L : List α) : (v :: a :: b :: (Lo ++ (Lq ++ L))).Perm (a :: b :: v :: (Lo ++ (Lq ++ L))) := (by classical exact List.perm_iff_count.2 (fun a => by simp only [List.count_append, List.count_cons, List.cons_append, List.nil_append, List.append_assoc]; omega))
set_option maxRecDepth 10000 in
set_option maxHeartbeats 8000000 in
theorem breadth_any (h : HeapM) (g : HGood h) (hb : h.busy = false) (vo vn vr : Value) {w0 w : World} {H : Hp} {L : List (Nat × Obj)} (f : HFr H h vo vn vr) (m : Mem w0 H L w) :
    Calls Try.prog 28 #[HVal h vo vn vr] w fun e w' => ∃ (b : Option Addr) (c : Nat) (L0 : List (Nat × Obj)), e = .returned (.slice b h.bfs.length c) ∧ AccL 3 1 (.slice b h.bfs.length c) h.bfs.length (natCs h.bfs) L0 ∧ Mem w0 H (L0 ++ L) w' := by
  have F := Lib.hid f
  have HN := Lib.hid f.n
  have HR := Lib.hid f.r
  obtain ⟨ob, oc, rfl⟩ := f.o.shape
  obtain ⟨nb, nc, rfl, _, hnc, _, _⟩ := f.n
  obtain ⟨rb, rc, rfl, _, hrc, _, _⟩ := f.r
  clear f
  have hnc := size_le_maxLen hnc
  have hrc := size_le_maxLen hrc
  have hbd := g.ok.core.bounds
  have hrl := g.ok.regl
  have HG := Lib.hid g; clear g
  have HB := Lib.hid hb; clear hb
  unfold HVal
  have m1 := m.alloc (.cells #[.int .i64 h.size, .int .i64 h.half, .int .i64 h.scan, .bool h.busy, .slice ob h.old.length oc, .slice nb h.new.length nc, .slice rb h.regs.length rc] 31)
  have m2 := m1.alloc (.cells (metC [] h.new.length).toArray 4)
  have es := m1.eqs
  simp only [EqsL] at es
  have hmk := run_make_bools h.new.length (by omega)
  obtain ⟨news, hch, hsrc⟩ := HR.out.src m2
  have HC := Lib.hid hch; clear hch
  have HS := Lib.hid hsrc; clear hsrc
  go_enter Try.func28, Try.ntmps28
  go_wp2_with (at_builtin; go_must (refine wpList_append_mem (w0 := w0) (H := H) (L := _) rfl _ _ 29 rfl 50 3 32 (.agg #[.int .u8 0, .int .i64 0, .string ByteArray.empty]) Try.underlying29 (by kernel_rfl) rfl (by decide) _ 0 [] (MemAcc.nil m2) rfl _ h.regs.length news HS.out rfl HC.out.vlen (val_oneCell HC.out) (by omega) (by unfold maxLen; omega) ?_))
  intro v' w' hacc
  obtain ⟨rfl, hfits⟩ := chunks_valCs HC.out
  obtain ⟨Lq, hq, m3⟩ := hacc.queue
  obtain ⟨qb, qc, rfl, _, hqc⟩ := hq.shape
  have m4 := m3.perm (perm_b1 _ _ Lq L)
  clear es hmk m1 m2 m3 hacc
  have HFT := Lib.hid hfits; clear hfits
  go_wp2_with fail
  have hini : OldOk h h.regs := fun v hv => ⟨fun hk => by have := idle_reg HG.out.ok HB.out hv hk; exact ⟨this.1, this.2.1⟩, HFT.out v hv⟩
  generalize w.heap.size + 1 = mb at *
  go_loopw [3, 5, 6] (fun v3 v5 _ wr => ∃ (f : Nat) (out : List Nat) (todo : List ValM) (ub : Option Addr) (uc : Nat) (Lo : List (Nat × Obj)) (tb : Option Addr) (tc : Nat) (Lq : List (Nat × Obj)), v3 = .slice ub out.length uc ∧ v5 = .slice tb todo.length tc ∧ AccL 3 1 (.slice ub out.length uc) out.length (natCs out) Lo ∧ AccQ 50 3 (.slice tb todo.length tc) todo.length (valCs todo) Lq ∧
    h.bfs = h.bfsN f out todo ∧ todo.length + 401 * (6000 - out.length) ≤ f ∧ f ≤ 401 * 6000 + 4000 ∧ out.Nodup ∧ (∀ k ∈ out, k < h.new.length) ∧ OldOk h todo ∧ Mem w0 H ((mb, .cells (metC out h.new.length).toArray 4) :: (w.heap.size, .cells #[.int .i64 h.size, .int .i64 h.half, .int .i64 h.scan, .bool h.busy, .slice ob h.old.length oc, .slice nb h.new.length nc, .slice rb h.regs.length rc] 31) :: (Lo ++ (Lq ++ L))) wr) (fun v3 v5 _ _ => sliceLen v5 + 401 * (6000 - sliceLen v3))
  case atStart => exact ⟨401 * 6000 + h.regs.length, [], h.regs, none, 0, [], qb, qc, Lq, rfl, rfl, AccL.nil, hq, rfl, by simp; omega, by omega, List.nodup_nil, fun k hk => (by cases hk), hini, m4⟩
  case round =>
    obtain ⟨f, out, todo, ub, uc, Lo, tb, tc, Lq, rfl, rfl, ho, hq9, hbf, hff, hf0, hnd, hol, hok, m5⟩ := hrel
    -- ROUND
    clear m4 hini hq
    have HO := Lib.hid ho; clear ho
    have HBF := Lib.hid hbf; clear hbf
    have HND := Lib.hid hnd; clear hnd
    have HOL := Lib.hid hol; clear hol
    have hout6 := len_of_lt HND.out HOL.out
    have es := m5.eqs
    simp only [EqsL] at es
    by_cases hx0 : todo = []
    · subst hx0
      have hbe := HBF.out
      rw [bfsN_nil] at hbe
      have HBE := Lib.hid hbe; clear hbe
      go_wp2_with fail
      go_ret
      rw [HBE.out]
      exact ⟨ub, uc, Lo, rfl, HO.out, Mem.dropL Lq (m5.drop.drop.perm (by rw [← List.append_assoc, ← List.append_assoc]; exact List.perm_append_comm.append_right L))⟩
    · obtain ⟨v, rest, rfl⟩ := List.exists_cons_of_ne_nil hx0
      clear hx0
      obtain ⟨g9, off, c9, hv9, hle9, hcm9, hgl, hcl, hqt, hq1⟩ := AccQ.first (n := rest.length) (x := v.cs) (ys := valCs rest) hq9 rfl (by decide) (m5.perm (perm_b3 _ _ Lo Lq L))
      cases hv9
      have hcm9 := size_le_maxLen hcm9
      have hlen : (v :: rest).length = rest.length + 1 := rfl
      have hovv := hok v (.head _)
      have hokr : OldOk h rest := fun y hy => hok y (.tail _ hy)
      have HKR := Lib.hid hokr; clear hokr
      have HOV := Lib.hid hovv.1
      have HFV := Lib.hid hovv.2
      clear hovv hok hq9
      obtain ⟨f, rfl⟩ : ∃ f', f = f' + 1 := ⟨f - 1, by simp only [List.length_cons] at hff; omega⟩
      have c0 := hcl 0 _ rfl
      have c1 := hcl 1 _ rfl
      have c2 := hcl 2 _ rfl
      rw [Nat.add_zero] at c0
      clear hcl
      have HQT := Lib.hid hqt; clear hqt
      have HQ1 := Lib.hid hq1; clear hq1
      simp only [List.length_cons] at hff
      have hnI : (0 : Int) < (rest.length : Int) + 1 := by omega
      have hnN : 0 < rest.length + 1 := by omega
      obtain ⟨vk, vn, vs⟩ := v
      simp only [hlen] at *
      by_cases hc1 : tc = 1
      · subst hc1
        have hr0 : rest = [] := List.eq_nil_of_length_eq_zero (by omega)
        subst hr0
        simp only [List.length_nil, Nat.zero_add] at *
        have m6 := m5.alloc (.cells #[.int .u8 vk, .int .i64 vn, .string vs] 50)
        by_cases hk : vk = 5
        · subst hk
          have m6 := m5.alloc (.cells #[.int .u8 5, .int .i64 vn, .string vs] 50)
          obtain ⟨hvn, hvl⟩ := HOV.out rfl
          have hhf := HG.out.ok.core.half
          obtain ⟨k, hk⟩ : ∃ k, idx ⟨5, vn, vs⟩ = k := ⟨_, rfl⟩
          have HK := Lib.hid hk
          rw [hk] at hvn hvl
          simp only at hvn
          have hdv : vn.tdiv 2 = (k : Int) := by rw [Int.tdiv_eq_ediv_of_nonneg (by omega)]; omega
          have hwk : IntKind.i64.wrap (k : Int) = (k : Int) := wrap_i64s _ (by omega) (by omega)
          have hkn : (k : Int) < (h.new.length : Int) := by omega
          clear hk hhf
          by_cases hmem : k ∈ out
          · have hmc : (metC out h.new.length).toArray[k]? = some (.bool true) := by rw [List.getElem?_toArray, metC_at out hvl, decide_eq_true hmem]
            have HMC := Lib.hid hmc
            have HVN := Lib.hid hvn; clear hvn
            go_wp2_with fail
            go_roundw
            case rel => exact ⟨f, out, [], ub, uc, Lo, (some ⟨g9, off, none⟩), 0, Lq, rfl, by first | rfl | simp, HO.out, (HQ1.out (by first | rfl | trivial)), by rw [HBF.out]; exact bfsN_skip _ _ _ _ _ (fun hh => hh.2 (by rw [HK.out]; exact hmem)), by first | omega | (simp only [List.length_nil]; omega), by omega, HND.out, HOL.out, HKR.out, m6.drop⟩
            case measure => simp [sliceLen] <;> omega
          · have hmc : (metC out h.new.length).toArray[k]? = some (.bool false) := by rw [List.getElem?_toArray, metC_at out hvl, decide_eq_false hmem]
            have HVN := Lib.hid hvn; clear hvn
            have mS := m5.set (i := k) (v := .bool true) .head
            rw [List.setIfInBounds_toArray, metC_set out hvl] at mS
            have m7 := mS.alloc (.cells #[.int .u8 5, .int .i64 vn, .string vs] 50)
            have m8 := m7.alloc (.cells #[.int .i64 (k : Int)] 3)
            simp only [World.size_setCell, World.size_alloc] at m8
            have m9 := m8.perm (perm_b4 _ _ _ _ Lo (Lq ++ L))
            go_wp2_with (at_builtin; go_must (refine wpList_append_mem (w0 := w0) (H := H) (L := _) rfl _ _ 46 rfl 3 1 8 (.int .i64 0) Try.underlying46 (by kernel_rfl) rfl (by decide) _ out.length (natCs out) (HO.out.join m9) rfl _ 1 [.int .i64 (k : Int)] (Src.loc m8 (.head _)) rfl rfl (by simp; rfl) (by omega) (by unfold maxLen; omega) ?_))
            intro v1 w1 hacc1
            obtain ⟨Lo2, ho2, m10⟩ := hacc1.split
            obtain ⟨ub2, uc2, rfl, _, huc2⟩ := ho2.shape
            clear es m5 m6 mS m7 m8 m9 hacc1 c0 c1 c2
            have m11 := m10.perm (perm_b5 _ _ _ _ Lo2 (Lq ++ L))
            obtain ⟨nblk, noff, nsv, rfl, e0, e1, e2, e3, hsl, hfit⟩ := HN.out.getObj hvl
            have hsk : h.slotsAt k = h.new[k].slots := slotsAt_of (List.getElem?_eq_getElem hvl)
            have HSK := Lib.hid hsk; clear hsk
            have hol4 := (HG.out.ok.core.new k _ (List.getElem?_eq_getElem hvl)).len
            have hoko := oldOk_slots HG.out.ok HB.out k
            rw [HSK.out] at hoko
            have HKO := Lib.hid hoko; clear hoko hfit
            generalize h.new[k] = o at *
            have HSL := Lib.hid hsl
            obtain ⟨sb, sc, rfl, _, hsc, _, _⟩ := hsl
            have hsc := size_le_maxLen hsc
            have es := m11.eqs
            simp only [EqsL] at es
            have c1 := es.1.2.1 1
            have e3 := e3.cell m11
            obtain ⟨news, hch, hsrc⟩ := HSL.out.src m11
            obtain ⟨rfl, hfv⟩ := chunks_valCs hch
            have HS := Lib.hid hsrc; clear hsrc
            have HC := Lib.hid hch; clear hch
            have hqq : MemQ w0 H _ 50 3 (.slice (some ⟨g9, off, none⟩) 0 0) 0 (valCs []) w1 := ⟨Lq, (HQ1.out (by first | rfl | trivial)), m11.perm (perm_b6 _ _ _ _ Lo2 Lq L)⟩
            go_wp2_with (at_builtin; go_must (refine wpList_append_q (w0 := w0) (H := H) (L := _) rfl _ _ 29 rfl 50 3 32 (.agg #[.int .u8 0, .int .i64 0, .string ByteArray.empty]) Try.underlying29 (by kernel_rfl) rfl (by decide) _ 0 (valCs []) hqq rfl _ o.slots.length (valCs o.slots) HS.out rfl HC.out.vlen (val_oneCell HC.out) (by omega) (by unfold maxLen; omega) ?_))
            intro v2 w2 hacc2
            obtain ⟨Lq2, hq2, m12⟩ := hacc2
            obtain ⟨tb2, tc2, rfl, _, _⟩ := hq2.shape
            have m13 := (m12.perm (perm_b7 _ _ _ _ Lo2 Lq2 L)).drop.drop
            clear es m12 m11 m10 c1 e0 e1 e2 e3
            go_wp2_with fail
            go_roundw
            case rel =>
              refine ⟨f, out ++ [k], [] ++ h.slotsAt k, ub2, uc2, Lo2, tb2, tc2, Lq2, by simp, by rw [HSK.out]; simp, ?_, ?_, ?_, ?_, by omega, ?_, ?_, ?_, m13⟩
              · rw [natCs_snoc, List.length_append]; exact ho2
              · rw [HSK.out, valCs_append, List.length_append]; first | exact hq2 | simpa only [List.length_nil, Nat.zero_add] using hq2
              · rw [HBF.out, bfsN_met _ _ _ _ _ ⟨rfl, by rw [HK.out]; exact hmem⟩, HK.out]
              · rw [HSK.out]
                simp only [List.length_append, List.length_singleton, List.length_nil]
                have := len_of_lt (nodup_snoc HND.out hmem) (lt_snoc HOL.out hvl)
                simp only [List.length_append, List.length_singleton] at this
                omega
              · exact nodup_snoc HND.out hmem
              · exact lt_snoc HOL.out hvl
              · intro y hy
                rcases List.mem_append.1 hy with hy | hy
                · exact HKR.out y hy
                · rw [HSK.out] at hy; exact HKO.out y hy
            case measure =>
              have := len_of_lt (nodup_snoc HND.out hmem) (lt_snoc HOL.out hvl)
              simp only [List.length_append, List.length_singleton] at this
              simp [sliceLen] <;> omega
        · have hkI : ((vk : Int) == 5) = false := beq_eq_false_iff_ne.2 (by omega)
          go_wp2_with fail
          go_roundw
          case rel => exact ⟨f, out, [], ub, uc, Lo, (some ⟨g9, off, none⟩), 0, Lq, rfl, by first | rfl | simp, HO.out, (HQ1.out (by first | rfl | trivial)), by rw [HBF.out]; exact bfsN_skip _ _ _ _ _ (fun hh => hk hh.1), by first | omega | (simp only [List.length_nil]; omega), by omega, HND.out, HOL.out, HKR.out, m6.drop⟩
          case measure => simp [sliceLen] <;> omega
      · have hc1' : ¬ (tc : Int) = 1 := by omega
        have hc2 : 1 ≤ tc := by omega
        have m6 := m5.alloc (.cells #[.int .u8 vk, .int .i64 vn, .string vs] 50)
        by_cases hk : vk = 5
        · subst hk
          have m6 := m5.alloc (.cells #[.int .u8 5, .int .i64 vn, .string vs] 50)
          obtain ⟨hvn, hvl⟩ := HOV.out rfl
          have hhf := HG.out.ok.core.half
          obtain ⟨k, hk⟩ : ∃ k, idx ⟨5, vn, vs⟩ = k := ⟨_, rfl⟩
          have HK := Lib.hid hk
          rw [hk] at hvn hvl
          simp only at hvn
          have hdv : vn.tdiv 2 = (k : Int) := by rw [Int.tdiv_eq_ediv_of_nonneg (by omega)]; omega
          have hwk : IntKind.i64.wrap (k : Int) = (k : Int) := wrap_i64s _ (by omega) (by omega)
          have hkn : (k : Int) < (h.new.length : Int) := by omega
          clear hk hhf
          by_cases hmem : k ∈ out
          · have hmc : (metC out h.new.length).toArray[k]? = some (.bool true) := by rw [List.getElem?_toArray, metC_at out hvl, decide_eq_true hmem]
            have HMC := Lib.hid hmc
            have HVN := Lib.hid hvn; clear hvn
            go_wp2_with fail
            go_roundw
            case rel => exact ⟨f, out, rest, ub, uc, Lo, (some ⟨g9, off + 3, none⟩), (tc - 1), Lq, rfl, by first | rfl | simp, HO.out, HQT.out, by rw [HBF.out]; exact bfsN_skip _ _ _ _ _ (fun hh => hh.2 (by rw [HK.out]; exact hmem)), by first | omega | (simp only [List.length_nil]; omega), by omega, HND.out, HOL.out, HKR.out, m6.drop⟩
            case measure => simp [sliceLen] <;> omega
          · have hmc : (metC out h.new.length).toArray[k]? = some (.bool false) := by rw [List.getElem?_toArray, metC_at out hvl, decide_eq_false hmem]
            have HVN := Lib.hid hvn; clear hvn
            have mS := m5.set (i := k) (v := .bool true) .head
            rw [List.setIfInBounds_toArray, metC_set out hvl] at mS
            have m7 := mS.alloc (.cells #[.int .u8 5, .int .i64 vn, .string vs] 50)
            have m8 := m7.alloc (.cells #[.int .i64 (k : Int)] 3)
            simp only [World.size_setCell, World.size_alloc] at m8
            have m9 := m8.perm (perm_b4 _ _ _ _ Lo (Lq ++ L))
            go_wp2_with (at_builtin; go_must (refine wpList_append_mem (w0 := w0) (H := H) (L := _) rfl _ _ 46 rfl 3 1 8 (.int .i64 0) Try.underlying46 (by kernel_rfl) rfl (by decide) _ out.length (natCs out) (HO.out.join m9) rfl _ 1 [.int .i64 (k : Int)] (Src.loc m8 (.head _)) rfl rfl (by simp; rfl) (by omega) (by unfold maxLen; omega) ?_))
            intro v1 w1 hacc1
            obtain ⟨Lo2, ho2, m10⟩ := hacc1.split
            obtain ⟨ub2, uc2, rfl, _, huc2⟩ := ho2.shape
            clear es m5 m6 mS m7 m8 m9 hacc1 c0 c1 c2
            have m11 := m10.perm (perm_b5 _ _ _ _ Lo2 (Lq ++ L))
            obtain ⟨nblk, noff, nsv, rfl, e0, e1, e2, e3, hsl, hfit⟩ := HN.out.getObj hvl
            have hsk : h.slotsAt k = h.new[k].slots := slotsAt_of (List.getElem?_eq_getElem hvl)
            have HSK := Lib.hid hsk; clear hsk
            have hol4 := (HG.out.ok.core.new k _ (List.getElem?_eq_getElem hvl)).len
            have hoko := oldOk_slots HG.out.ok HB.out k
            rw [HSK.out] at hoko
            have HKO := Lib.hid hoko; clear hoko hfit
            generalize h.new[k] = o at *
            have HSL := Lib.hid hsl
            obtain ⟨sb, sc, rfl, _, hsc, _, _⟩ := hsl
            have hsc := size_le_maxLen hsc
            have es := m11.eqs
            simp only [EqsL] at es
            have c1 := es.1.2.1 1
            have e3 := e3.cell m11
            obtain ⟨news, hch, hsrc⟩ := HSL.out.src m11
            obtain ⟨rfl, hfv⟩ := chunks_valCs hch
            have HS := Lib.hid hsrc; clear hsrc
            have HC := Lib.hid hch; clear hch
            have hqq : MemQ w0 H _ 50 3 (.slice (some ⟨g9, off + 3, none⟩) rest.length (tc - 1)) rest.length (valCs rest) w1 := ⟨Lq, HQT.out, m11.perm (perm_b6 _ _ _ _ Lo2 Lq L)⟩
            go_wp2_with (at_builtin; go_must (refine wpList_append_q (w0 := w0) (H := H) (L := _) rfl _ _ 29 rfl 50 3 32 (.agg #[.int .u8 0, .int .i64 0, .string ByteArray.empty]) Try.underlying29 (by kernel_rfl) rfl (by decide) _ rest.length (valCs rest) hqq rfl _ o.slots.length (valCs o.slots) HS.out rfl HC.out.vlen (val_oneCell HC.out) (by omega) (by unfold maxLen; omega) ?_))
            intro v2 w2 hacc2
            obtain ⟨Lq2, hq2, m12⟩ := hacc2
            obtain ⟨tb2, tc2, rfl, _, _⟩ := hq2.shape
            have m13 := (m12.perm (perm_b7 _ _ _ _ Lo2 Lq2 L)).drop.drop
            clear es m12 m11 m10 c1 e0 e1 e2 e3
            go_wp2_with fail
            go_roundw
            case rel =>
              refine ⟨f, out ++ [k], rest ++ h.slotsAt k, ub2, uc2, Lo2, tb2, tc2, Lq2, by simp, by rw [HSK.out]; simp, ?_, ?_, ?_, ?_, by omega, ?_, ?_, ?_, m13⟩
              · rw [natCs_snoc, List.length_append]; exact ho2
              · rw [HSK.out, valCs_append, List.length_append]; first | exact hq2 | simpa only [List.length_nil, Nat.zero_add] using hq2
              · rw [HBF.out, bfsN_met _ _ _ _ _ ⟨rfl, by rw [HK.out]; exact hmem⟩, HK.out]
              · rw [HSK.out]
                simp only [List.length_append, List.length_singleton, List.length_nil]
                have := len_of_lt (nodup_snoc HND.out hmem) (lt_snoc HOL.out hvl)
                simp only [List.length_append, List.length_singleton] at this
                omega
              · exact nodup_snoc HND.out hmem
              · exact lt_snoc HOL.out hvl
              · intro y hy
                rcases List.mem_append.1 hy with hy | hy
                · exact HKR.out y hy
                · rw [HSK.out] at hy; exact HKO.out y hy
            case measure =>
              have := len_of_lt (nodup_snoc HND.out hmem) (lt_snoc HOL.out hvl)
              simp only [List.length_append, List.length_singleton] at this
              simp [sliceLen] <;> omega
        · have hkI : ((vk : Int) == 5) = false := beq_eq_false_iff_ne.2 (by omega)
          go_wp2_with fail
          go_roundw
          case rel => exact ⟨f, out, rest, ub, uc, Lo, (some ⟨g9, off + 3, none⟩), (tc - 1), Lq, rfl, by first | rfl | simp, HO.out, HQT.out, by rw [HBF.out]; exact bfsN_skip _ _ _ _ _ (fun hh => hk hh.1), by first | omega | (simp only [List.length_nil]; omega), by omega, HND.out, HOL.out, HKR.out, m6.drop⟩
          case measure => simp [sliceLen] <;> omega
end Go.Proofs.Ythipkmmdjhpklaa
namespace Go.Proofs.Ythipkmmdjhpklaa
set_option linter.unusedVariables false
set_option linter.unusedSimpArgs false
open Go.RowKit

def turnK (ts : List Int) (half : Int) (v : ValM) : ValM := if v.kind = 5 then refV half (ts.getD (idx v) 0) else v
theorem getElem_mid {α : Type} {l r : List α} {x : α} {k : Nat} (h : l.length = k) (hk : k < (l ++ x :: r).length) : (l ++ x :: r)[k] = x := by
  subst h
  simp
theorem wrap_quo2 (k : Nat) (hk : k ≤ 1000000) : IntKind.i64.wrap (k : Int) = (k : Int) := wrap_i64s _ (by omega) (by omega)
set_option maxRecDepth 10000 in
set_option maxHeartbeats 8000000 in
theorem turned_any (sv : Value) (xs : List ValM) (tv : Value) (ts : List Int) (half : Int) (hh : half = 0 ∨ half = 1) (hx : xs.length ≤ 100000) (hts : ∀ t ∈ ts, 0 ≤ t ∧ t ≤ 100000) (htl : ts.length ≤ 100000)
    (hxs : ∀ v ∈ xs, v.kind = 5 → 0 ≤ v.n ∧ idx v < ts.length) {w0 w : World} {H : Hp} {L : List (Nat × Obj)} (hsv : SlR encVal H sv xs) (htv : SlR encInt H tv ts) (m : Mem w0 H L w) :
    Calls Try.prog 31 #[sv, tv, .int .i64 half] w fun e w' => ∃ (b : Option Addr) (c : Nat) (L0 : List (Nat × Obj)), e = .returned (.slice b xs.length c) ∧ OwnV (.slice b xs.length c) (xs.map (turnK ts half)) L0 ∧ Mem w0 H (L0 ++ L) w' := by
  have HV := Lib.hid hsv
  have HT := Lib.hid htv
  have HTS := Lib.hid hts; clear hts
  have HXS := Lib.hid hxs; clear hxs
  obtain ⟨news, hch, hsrc⟩ := HV.out.src m
  have HC := Lib.hid hch; clear hch
  have HS := Lib.hid hsrc; clear hsrc
  obtain ⟨b, c, rfl, hc1, hc2, _, _⟩ := hsv
  obtain ⟨tb, tc, rfl, ht1, ht2, _, _⟩ := htv
  have hc2 := size_le_maxLen hc2
  have ht2 := size_le_maxLen ht2
  have hh2 : -10 ≤ half ∧ half ≤ 10 := by omega
  go_enter Try.func31, Try.ntmps31
  go_wp2_with (at_builtin; go_must (refine wpList_append_mem (w0 := w0) (H := H) (L := L) rfl _ _ 29 rfl 50 3 32 (.agg #[.int .u8 0, .int .i64 0, .string ByteArray.empty]) Try.underlying29 (by kernel_rfl) rfl (by decide) _ 0 [] (MemAcc.nil m) rfl _ xs.length news HS.out rfl HC.out.vlen (val_oneCell HC.out) (by omega) (by unfold maxLen; omega) ?_))
  intro v' w' hacc
  obtain ⟨b', c', rfl, _, hcc⟩ := hacc.shape
  obtain ⟨L0, ho, m2⟩ := OwnV.of (vs := xs) (by simpa using hacc) HC.out
  clear hacc
  go_wp2_with fail
  go_loopw [8] (fun v8 wr => ∃ (k : Nat) (Ls : List (Nat × Obj)), k ≤ xs.length ∧ v8 = .int .i64 k ∧ OwnV (.slice b' xs.length c') ((xs.take k).map (turnK ts half) ++ xs.drop k) Ls ∧ Mem w0 H (Ls ++ L) wr) (fun v8 _ => xs.length - (intOf v8).toNat)
  case atStart => exact ⟨0, L0, Nat.zero_le _, rfl, by simpa using ho, m2⟩
  case round =>
    obtain ⟨k, Ls, hk, rfl, hk2, m3⟩ := hrel
    clear ho m2
    by_cases hlt : k < xs.length
    · have hlen : ((xs.take k).map (turnK ts half) ++ xs.drop k).length = xs.length := by simp; omega
      rw [List.drop_eq_getElem_cons hlt] at hk2 hlen
      have hml : ((xs.take k).map (turnK ts half)).length = k := by rw [List.length_map, List.length_take]; omega
      have ho2 := hk2
      rw [← hlen] at ho2
      have hki : k < ((xs.take k).map (turnK ts half) ++ xs[k] :: xs.drop (k + 1)).length := by omega
      have hgk : ((xs.take k).map (turnK ts half) ++ xs[k] :: xs.drop (k + 1))[k] = xs[k] := getElem_mid hml hki
      obtain ⟨g, rfl, c0, c1, c2, hfr, hgl, hfit, _, _⟩ := ho2.at hki m3 (fun p hp => by simp [hp])
      rw [hgk] at c0 c1 c2 hfit
      have hstep : (xs.take (k + 1)).map (turnK ts half) ++ xs.drop (k + 1) = ((xs.take k).map (turnK ts half) ++ xs[k] :: xs.drop (k + 1)).set k (turnK ts half xs[k]) := by
        rw [set_mid _ _ _ _ _ hml, List.take_succ_eq_append_getElem hlt, List.map_append]
        rfl
      have HST := Lib.hid hstep; clear hstep
      have hxk := HXS.out _ (List.getElem_mem hlt)
      have HO2 := Lib.hid ho2; clear ho2
      have HK2 := Lib.hid hk2; clear hk2
      have hltI : (k : Int) < xs.length := by omega
      have HFIT := Lib.hid hfit; clear hfit
      generalize xs[k] = x at *
      by_cases h5 : x.kind = 5
      · obtain ⟨hn0, hil⟩ := hxk h5
        obtain ⟨xk, xn, xs'⟩ := x
        simp only at h5
        subst h5
        obtain ⟨i, hi⟩ : ∃ i, idx ⟨5, xn, xs'⟩ = i := ⟨_, rfl⟩
        have HI := Lib.hid hi
        rw [hi] at hil
        have hdv : xn.tdiv 2 = (i : Int) := by
          simp only at hn0
          rw [Int.tdiv_eq_ediv_of_nonneg hn0]
          unfold idx at hi
          simp only at hi
          omega
        clear hi hn0 hxk
        obtain ⟨blk, off, rfl, hcell, hp⟩ := HT.out.cellV hil
        have hcell := hcell.cell m3
        have htb := HTS.out _ (List.getElem_mem hil)
        have hgt : ts.getD i 0 = ts[i] := by rw [List.getD_eq_getElem?_getD, List.getElem?_eq_getElem hil]; rfl
        have HGT := Lib.hid hgt; clear hgt
        generalize ts[i] = t at *
        have hilI : (i : Int) < ts.length := by omega
        have hwi := wrap_quo2 i (by omega)
        go_wp2_with fail
        refine (RRef_any t half (by omega) hh2 m3).mono ?_
        rintro e w4 ⟨rfl, m4⟩
        obtain ⟨_, hgb, d0, d1, d2, hfr2, hgl2, _, _, _⟩ := HO2.out.at hki m4 (fun p hp => by simp [hp])
        cases hgb
        have hyf := refV_fit half t hh (by omega)
        have hty : turnK ts half ⟨5, xn, xs'⟩ = refV half t := by unfold turnK; rw [if_pos rfl, HI.out, HGT.out]
        obtain ⟨Ls2, ho3, m5⟩ := OwnV.set HO2.out hki (refV half t) hyf m4
        rw [set_mid _ _ _ _ _ hml, ← hty] at ho3
        have HO3 := Lib.hid ho3; clear ho3
        have HTY := Lib.hid hty; clear hty
        unfold refV ValM.v
        clear c0 c1 c2 hgl hfr hcell
        go_wp2_with fail
        go_roundw
        case rel =>
          refine ⟨k + 1, Ls2, by omega, by go_num, ?_, m5⟩
          rw [HST.out, set_mid _ _ _ _ _ hml]
          have := HO3.out
          rw [hlen] at this
          exact this
        case measure => simp [intOf]; omega
      · have h5I : ((x.kind : Int) == 5) = false := beq_eq_false_iff_ne.2 (by omega)
        have htk : turnK ts half x = x := by unfold turnK; rw [if_neg h5]
        have HTK := Lib.hid htk; clear htk hxk
        go_wp2_with fail
        go_roundw
        case rel =>
          refine ⟨k + 1, Ls, by omega, by go_num, ?_, m3⟩
          rw [HST.out, HTK.out, set_mid _ _ _ _ _ hml, List.append_assoc]
          exact HK2.out
        case measure => simp [intOf]; omega
    · have hk' : k = xs.length := by omega
      subst hk'
      rw [List.take_length, List.drop_length, List.append_nil] at hk2
      have hge : ¬ (xs.length : Int) < xs.length := by omega
      go_wp2_with fail
      go_ret
      first | exact ⟨b', c', rfl, Ls, hk2, m3⟩ | exact ⟨b', c', by simp, Ls, hk2, m3⟩
end Go.Proofs.Ythipkmmdjhpklaa
namespace Go.Proofs.Ythipkmmdjhpklaa
set_option linter.unusedVariables false
set_option linter.unusedSimpArgs false
open Go.RowKit

theorem perm_co1 {α : Type} (v a b : α) (L : List α) : (v :: a :: b :: L).Perm (b :: a :: v :: L) := (by classical exact List.perm_iff_count.2 (fun a => by simp only [List.count_append, List.count_cons, List.cons_append, List.nil_append, List.append_assoc]; omega))
set_option maxRecDepth 10000 in
set_option maxHeartbeats 8000000 in
theorem collected_any (h : HeapM) (g : HGood h) (hb : h.busy = false) (vo vn vr : Value) {w0 w : World} {H : Hp} {L : List (Nat × Obj)} (f : HFr H h vo vn vr) (m : Mem w0 H L w) :
    Calls Try.prog 30 #[HVal h vo vn vr] w fun e w' => ∃ H' vo vn vr, e = .returned (.tuple #[HVal h.begin.fin vo vn vr, .int .i64 h.begin.finN, .bool true]) ∧ Hle H H' ∧ HFr H' h.begin.fin vo vn vr ∧ Mem w0 H' L w' := by
  have F := Lib.hid f
  obtain ⟨ob, oc, nb, nc, rb, rc, rfl, rfl, rfl⟩ := f.shape6
  clear f
  have HG := Lib.hid g; clear g
  have HB := Lib.hid hb; clear hb
  unfold HVal
  have m1 := (m.alloc (.cells #[.int .i64 h.size, .int .i64 h.half, .int .i64 h.scan, .bool h.busy, .slice ob h.old.length oc, .slice nb h.new.length nc, .slice rb h.regs.length rc] 31)).alloc (.cells #[.int .i64 0, .int .i64 0, .int .i64 0, .bool false, .slice none 0 0, .slice none 0 0, .slice none 0 0] 31)
  simp only [World.size_alloc] at m1
  go_enter Try.func30, Try.ntmps30
  go_wp2_with fail
  refine (Copy_fr h HG.out.ok.hbd _ _ _ F.out m1).mono ?_
  rintro e wa ⟨H1, vo1, vn1, vr1, rfl, hl1, f1, mA⟩
  obtain ⟨ob1, oc1, nb1, nc1, rb1, rc1, rfl, rfl, rfl⟩ := f1.shape6
  have F1 := Lib.hid f1; clear f1
  unfold HVal
  clear m1
  have es := mA.eqs
  simp only [EqsL] at es
  go_wp2_with fail
  have hdb := do_begin HB.out
  refine (Do_ok HG.out _ _ _ F1.out mA dBegin _ _ (deedR_made H1 8 0 0 0 0 ByteArray.empty (by decide) (by unfold I64; omega) (by unfold I64; omega) (by unfold I64; omega) (by decide) (by decide)) (by decide) (by rw [hdb])).mono ?_
  rw [hdb]
  clear hdb
  rintro e w5 ⟨H5, vo5, vn5, vr5, rfl, hl5, f5, m5⟩
  simp only at f5 ⊢
  have G2 := Lib.hid (show HGood h.begin from ⟨HG.out.ok.begin HB.out, Copies.begin HG.out.ok HB.out⟩)
  have hl15 := hl1.trans hl5
  clear hl1 hl5
  generalize hh1 : h.begin = h1 at *
  have HH1 := Lib.hid hh1; clear hh1
  obtain ⟨ob5, oc5, nb5, nc5, rb5, rc5, rfl, rfl, rfl⟩ := f5.shape6
  have F5 := Lib.hid f5; clear f5
  unfold HVal unitV ValM.v
  simp only [Int.natCast_zero]
  have m5b := m5.perm (List.Perm.swap _ _ _)
  clear es mA m5
  have es := m5b.eqs
  simp only [EqsL] at es
  have ns := m5b.nes
  simp only [NeL, NeFrom] at ns
  go_wp2_with fail
  have m6 := ((((((((m5b.set (i := 0) (v := .int .i64 h1.size) .head).set (i := 1) (v := .int .i64 h1.half) .head).set (i := 2) (v := .int .i64 h1.scan) .head).set (i := 3) (v := .bool h1.busy) .head).set (i := 4) (v := .slice ob5 h1.old.length oc5) .head).set (i := 5) (v := .slice nb5 h1.new.length nc5) .head).set (i := 6) (v := .slice rb5 h1.regs.length rc5) .head)).alloc (.cells #[.int .u8 0, .int .i64 0, .string ByteArray.empty] 50)
  simp only [List.setIfInBounds_toArray, List.set_cons_zero, List.set_cons_succ] at m6
  have m7 := m6.drop
  clear es ns m5b m6
  refine (Valid_any h1 G2.out _ _ _ F5.out m7).mono ?_
  rintro e w7 ⟨rfl, mD⟩
  clear m7
  have es := mD.eqs
  simp only [EqsL] at es
  go_wp2_with fail
  refine (Finish_any h1 G2.out _ _ _ F5.out mD).mono ?_
  rintro e w8 ⟨k, h2, H8, vo8, vn8, vr8, hst, hbz, hk6, rfl, hl8, f8, mE⟩
  have hfin := fin_of hst hbz (by omega)
  have hfn := finN_of hst hbz (by omega)
  have G3 := Lib.hid (show HGood h2 from by have := fin_good G2.out; rwa [hfin] at this)
  have HFIN := Lib.hid hfin
  have HFN := Lib.hid hfn
  clear hst hfin hfn
  have HBZ := Lib.hid hbz; clear hbz
  obtain ⟨ob8, oc8, nb8, nc8, rb8, rc8, rfl, rfl, rfl⟩ := f8.shape6
  have F8 := Lib.hid f8; clear f8
  have HL8 := Lib.hid (hl15.trans hl8); clear hl8 hl15
  unfold HVal
  clear es mD
  have es := mE.eqs
  simp only [EqsL] at es
  have ns := mE.nes
  simp only [NeL, NeFrom] at ns
  go_wp2_with fail
  have mF := (((((((mE.set (i := 0) (v := .int .i64 h2.size) .head).set (i := 1) (v := .int .i64 h2.half) .head).set (i := 2) (v := .int .i64 h2.scan) .head).set (i := 3) (v := .bool h2.busy) .head).set (i := 4) (v := .slice ob8 h2.old.length oc8) .head).set (i := 5) (v := .slice nb8 h2.new.length nc8) .head).set (i := 6) (v := .slice rb8 h2.regs.length rc8) .head)
  simp only [List.setIfInBounds_toArray, List.set_cons_zero, List.set_cons_succ] at mF
  generalize hwx : World.setCell _ _ _ = wX2
  rw [hwx] at mF
  clear es ns hwx mE
  refine AnyFrom.start (fun w' => ∃ L', Mem w0 H8 ((w.heap.size, .cells #[.int .i64 h2.size, .int .i64 h2.half, .int .i64 h2.scan, .bool h2.busy, .slice ob8 h2.old.length oc8, .slice nb8 h2.new.length nc8, .slice rb8 h2.regs.length rc8] 31) :: L') w') 16 (by kernel_rfl) ?_
  have mG := mF.drew
  clear mF
  generalize World.drew _ = W at *
  have HS : (fun w' => ∃ L', Mem w0 H8 ((w.heap.size, .cells #[.int .i64 h2.size, .int .i64 h2.half, .int .i64 h2.scan, .bool h2.busy, .slice ob8 h2.old.length oc8, .slice nb8 h2.new.length nc8, .slice rb8 h2.regs.length rc8] 31) :: L') w') W := ⟨_, mG⟩
  refine AnyFrom.take (i := 0) (v := ?_) rfl (by kernel_rfl) (by kernel_rfl) (by kernel_rfl) (by kernel_rfl) (fun _ _ _ h => h) ⟨by kernel_rfl, ?_⟩ HS ?_
  rotate_left
  · first | (rintro w' ⟨L', hm⟩; have es := hm.eqs; simp only [EqsL] at es; go_simp; done) | (rintro w' ⟨L', hm⟩; have es := hm.eqs; simp only [EqsL] at es; go_simp; with_reducible rfl)
  simp only [Act.put, List.setIfInBounds_toArray, List.set_cons_zero, List.set_cons_succ, List.getElem_toArray, List.getElem_cons_succ, List.getElem_cons_zero]
  refine AnyFrom.pure (i := 1) (v := ?_) rfl (by kernel_rfl) (by kernel_rfl) (by kernel_rfl) (by decide) (fun _ _ _ h => h) ⟨by kernel_rfl, ?_⟩ HS ?_
  rotate_left
  · first | (intro w'; go_simp; done) | (intro w'; go_simp; with_reducible rfl)
  simp only [Act.put, List.setIfInBounds_toArray, List.set_cons_zero, List.set_cons_succ, List.getElem_toArray, List.getElem_cons_succ, List.getElem_cons_zero]
  refine AnyFrom.pure (i := 2) (v := ?_) rfl (by kernel_rfl) (by kernel_rfl) (by kernel_rfl) (by decide) (fun _ _ _ h => h) ⟨by kernel_rfl, ?_⟩ HS ?_
  rotate_left
  · first | (intro w'; go_simp; done) | (intro w'; go_simp; with_reducible rfl)
  simp only [Act.put, List.setIfInBounds_toArray, List.set_cons_zero, List.set_cons_succ, List.getElem_toArray, List.getElem_cons_succ, List.getElem_cons_zero]
  refine AnyFrom.pure (i := 3) (v := ?_) rfl (by kernel_rfl) (by kernel_rfl) (by kernel_rfl) (by decide) (fun _ _ _ h => h) ⟨by kernel_rfl, ?_⟩ HS ?_
  rotate_left
  · first | (intro w'; go_simp; done) | (intro w'; go_simp; with_reducible rfl)
  simp only [Act.put, List.setIfInBounds_toArray, List.set_cons_zero, List.set_cons_succ, List.getElem_toArray, List.getElem_cons_succ, List.getElem_cons_zero]
  refine AnyFrom.pure (i := 4) (v := ?_) rfl (by kernel_rfl) (by kernel_rfl) (by kernel_rfl) (by decide) (fun _ _ _ h => h) ⟨by kernel_rfl, ?_⟩ HS ?_
  rotate_left
  · first | (intro w'; go_simp; done) | (intro w'; go_simp; with_reducible rfl)
  simp only [Act.put, List.setIfInBounds_toArray, List.set_cons_zero, List.set_cons_succ, List.getElem_toArray, List.getElem_cons_succ, List.getElem_cons_zero]
  refine AnyFrom.take (i := 5) (v := ?_) rfl (by kernel_rfl) (by kernel_rfl) (by kernel_rfl) (by kernel_rfl) (fun _ _ _ h => h) ⟨by kernel_rfl, ?_⟩ HS ?_
  rotate_left
  · first | (rintro w' ⟨L', hm⟩; have es := hm.eqs; simp only [EqsL] at es; go_simp; done) | (rintro w' ⟨L', hm⟩; have es := hm.eqs; simp only [EqsL] at es; go_simp; with_reducible rfl)
  simp only [Act.put, List.setIfInBounds_toArray, List.set_cons_zero, List.set_cons_succ, List.getElem_toArray, List.getElem_cons_succ, List.getElem_cons_zero]
  refine AnyFrom.call (i := 6) (by kernel_rfl) rfl (by kernel_rfl) fun K hK => ?_
  go_simp
  refine (Valid_any h2 G3.out _ _ _ F8.out mG).mono ?_
  rintro e w9 ⟨rfl, mH⟩
  refine hK _ _ (.inr ⟨_, mH⟩) ?_
  clear hK K HS mG
  try simp only [Act.put, List.setIfInBounds_toArray, List.set_cons_zero, List.set_cons_succ, List.getElem_toArray, List.getElem_cons_succ, List.getElem_cons_zero]
  have HS : (fun w' => ∃ L', Mem w0 H8 ((w.heap.size, .cells #[.int .i64 h2.size, .int .i64 h2.half, .int .i64 h2.scan, .bool h2.busy, .slice ob8 h2.old.length oc8, .slice nb8 h2.new.length nc8, .slice rb8 h2.regs.length rc8] 31) :: L') w') w9 := ⟨_, mH⟩
  refine AnyFrom.pure (i := 7) (v := ?_) rfl (by kernel_rfl) (by kernel_rfl) (by kernel_rfl) (by decide) (fun _ _ _ h => h) ⟨by kernel_rfl, ?_⟩ HS ?_
  rotate_left
  · first | (intro w'; go_simp; done) | (intro w'; go_simp; with_reducible rfl)
  simp only [Act.put, List.setIfInBounds_toArray, List.set_cons_zero, List.set_cons_succ, List.getElem_toArray, List.getElem_cons_succ, List.getElem_cons_zero]
  refine AnyFrom.pure (i := 8) (v := ?_) rfl (by kernel_rfl) (by kernel_rfl) (by kernel_rfl) (by decide) (fun _ _ _ h => h) ⟨by kernel_rfl, ?_⟩ HS ?_
  rotate_left
  · first | (intro w'; go_simp; done) | (intro w'; go_simp; with_reducible rfl)
  simp only [Act.put, List.setIfInBounds_toArray, List.set_cons_zero, List.set_cons_succ, List.getElem_toArray, List.getElem_cons_succ, List.getElem_cons_zero]
  refine AnyFrom.take (i := 9) (v := ?_) rfl (by kernel_rfl) (by kernel_rfl) (by kernel_rfl) (by kernel_rfl) (fun _ _ _ h => h) ⟨by kernel_rfl, ?_⟩ HS ?_
  rotate_left
  · first | (rintro w' ⟨L', hm⟩; have es := hm.eqs; simp only [EqsL] at es; go_simp; done) | (rintro w' ⟨L', hm⟩; have es := hm.eqs; simp only [EqsL] at es; go_simp; with_reducible rfl)
  simp only [Act.put, List.setIfInBounds_toArray, List.set_cons_zero, List.set_cons_succ, List.getElem_toArray, List.getElem_cons_succ, List.getElem_cons_zero]
  refine AnyFrom.take (i := 10) (v := ?_) rfl (by kernel_rfl) (by kernel_rfl) (by kernel_rfl) (by kernel_rfl) (fun _ _ _ h => h) ⟨by kernel_rfl, ?_⟩ HS ?_
  rotate_left
  · first | (rintro w' ⟨L', hm⟩; have es := hm.eqs; simp only [EqsL] at es; go_simp; done) | (rintro w' ⟨L', hm⟩; have es := hm.eqs; simp only [EqsL] at es; go_simp; with_reducible rfl)
  simp only [Act.put, List.setIfInBounds_toArray, List.set_cons_zero, List.set_cons_succ, List.getElem_toArray, List.getElem_cons_succ, List.getElem_cons_zero]
  refine AnyFrom.pure (i := 11) (v := ?_) rfl (by kernel_rfl) (by kernel_rfl) (by kernel_rfl) (by decide) (fun _ _ _ h => h) ⟨by kernel_rfl, ?_⟩ HS ?_
  rotate_left
  · first | (intro w'; go_simp; done) | (intro w'; go_simp; with_reducible rfl)
  simp only [Act.put, List.setIfInBounds_toArray, List.set_cons_zero, List.set_cons_succ, List.getElem_toArray, List.getElem_cons_succ, List.getElem_cons_zero]
  refine AnyFrom.pure (i := 12) (v := ?_) rfl (by kernel_rfl) (by kernel_rfl) (by kernel_rfl) (by decide) (fun _ _ _ h => h) ⟨by kernel_rfl, ?_⟩ HS ?_
  rotate_left
  · first | (intro w'; go_simp; done) | (intro w'; go_simp; with_reducible rfl)
  simp only [Act.put, List.setIfInBounds_toArray, List.set_cons_zero, List.set_cons_succ, List.getElem_toArray, List.getElem_cons_succ, List.getElem_cons_zero]
  have es := mH.eqs
  simp only [EqsL] at es
  have ns := mH.nes
  simp only [NeL, NeFrom] at ns
  refine AnyFrom.call (i := 13) (by kernel_rfl) rfl (by kernel_rfl) fun K hK => ?_
  go_simp
  have mI := (((((((mH.set (i := 0) (v := .int .i64 h2.size) (.tail .head)).set (i := 1) (v := .int .i64 h2.half) (.tail .head)).set (i := 2) (v := .int .i64 h2.scan) (.tail .head)).set (i := 3) (v := .bool h2.busy) (.tail .head)).set (i := 4) (v := .slice ob8 h2.old.length oc8) (.tail .head)).set (i := 5) (v := .slice nb8 h2.new.length nc8) (.tail .head)).set (i := 6) (v := .slice rb8 h2.regs.length rc8) (.tail .head))
  simp only [List.setIfInBounds_toArray, List.set_cons_zero, List.set_cons_succ] at mI
  generalize hwx : World.setCell _ _ _ = wY
  rw [hwx] at mI
  refine hK _ _ (.inr ⟨_, mI⟩) ?_
  clear hK K HS es ns hwx mH
  try simp only [Act.put, List.setIfInBounds_toArray, List.set_cons_zero, List.set_cons_succ, List.getElem_toArray, List.getElem_cons_succ, List.getElem_cons_zero]
  have HS : (fun w' => ∃ L', Mem w0 H8 ((w.heap.size, .cells #[.int .i64 h2.size, .int .i64 h2.half, .int .i64 h2.scan, .bool h2.busy, .slice ob8 h2.old.length oc8, .slice nb8 h2.new.length nc8, .slice rb8 h2.regs.length rc8] 31) :: L') w') wY := ⟨_, mI⟩
  refine AnyFrom.pure (i := 14) (v := ?_) rfl (by kernel_rfl) (by kernel_rfl) (by kernel_rfl) (by decide) (fun _ _ _ h => h) ⟨by kernel_rfl, ?_⟩ HS ?_
  rotate_left
  · first | (intro w'; go_simp; done) | (intro w'; go_simp; with_reducible rfl)
  simp only [Act.put, List.setIfInBounds_toArray, List.set_cons_zero, List.set_cons_succ, List.getElem_toArray, List.getElem_cons_succ, List.getElem_cons_zero]
  refine AnyFrom.pure (i := 15) (v := ?_) rfl (by kernel_rfl) (by kernel_rfl) (by kernel_rfl) (by decide) (fun _ _ _ h => h) ⟨by kernel_rfl, ?_⟩ HS ?_
  rotate_left
  · first | (intro w'; go_simp; done) | (intro w'; go_simp; with_reducible rfl)
  simp only [Act.put, List.setIfInBounds_toArray, List.set_cons_zero, List.set_cons_succ, List.getElem_toArray, List.getElem_cons_succ, List.getElem_cons_zero]
  refine AnyFrom.done (by kernel_rfl) ?_ _
  have es := mI.eqs
  simp only [EqsL] at es
  go_wp2_with fail
  refine bodyPost_ret (v := .tuple #[HVal h2 (.slice ob8 h2.old.length oc8) (.slice nb8 h2.new.length nc8) (.slice rb8 h2.regs.length rc8), .int .i64 k, .bool (!h2.busy)]) (by simp [results, Try.results30, go_sem, es, HVal]) rfl ?_
  exact ⟨H8, .slice ob8 h2.old.length oc8, .slice nb8 h2.new.length nc8, .slice rb8 h2.regs.length rc8, by rw [HH1.out, HFIN.out, HFN.out]; unfold HVal; simp [HBZ.out], HL8.out, by rw [HH1.out, HFIN.out]; exact F8.out, mI.drop.drop⟩
end Go.Proofs.Ythipkmmdjhpklaa
