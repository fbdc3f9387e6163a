/- Plain lemmas: a slice that a call makes by append: 'MemAcc', with its law at append; what it reads as when it is done. No program in sight. -/
import Derived.Test.YtpkcdkbbhiafnaaDoorMem
namespace Go.Proofs.YtpkcdkbbhiafnaaDoor
set_option linter.unusedVariables false
set_option linter.unusedSimpArgs false
open Go.RowKit

/-- The call owns the slice 'v' of n elements ('size' cells each) whose cells are 'xs', beside L. -/
def MemAcc (w0 : World) (H : Hp) (L : List (Nat × Obj)) (e : TypeId) (size : Nat) (v : Value) (n : Nat) (xs : List Value) (w : World) : Prop :=
  xs.length = n * size ∧
  ((v = .slice none 0 0 ∧ n = 0 ∧ Mem w0 H L w) ∨
   ∃ g cap cur, v = .slice (some ⟨g, 0, none⟩) n cap ∧ n ≤ cap ∧ cap ≤ maxLen ∧ cur.size = cap * size ∧ cur.toList.take (n * size) = xs ∧ Mem w0 H ((g, .cells cur e (0, 0)) :: L) w)

/-- What is appended. -/
def Src (w : World) (x : Value) (m : Nat) (news : List Value) : Prop :=
  (x = .slice none 0 0 ∧ m = 0 ∧ news = []) ∨ ∃ a c, x = .slice (some a) m c ∧ ∀ j u, news[j]? = some u → w.cell? (a.add j) = some u

section
variable {w0 w w' : World} {H H' : Hp} {L L' : List (Nat × Obj)} {e : TypeId} {size : Nat} {v : Value} {n : Nat} {xs : List Value}

theorem MemAcc.nil (m : Mem w0 H L w) : MemAcc w0 H L e size (.slice none 0 0) 0 [] w := ⟨by simp, .inl ⟨rfl, rfl, m⟩⟩
theorem MemAcc.row {g cap : Nat} {cur : Array Value} (m : Mem w0 H ((g, .cells cur e (0, 0)) :: L) w) (hn : n ≤ cap) (hc : cap ≤ maxLen) (hs : cur.size = cap * size) (hx : cur.toList.take (n * size) = xs) :
    MemAcc w0 H L e size (.slice (some ⟨g, 0, none⟩) n cap) n xs w := by
  refine ⟨?_, .inr ⟨g, cap, cur, rfl, hn, hc, hs, hx, m⟩⟩
  rw [← hx, List.length_take, Array.length_toList, hs]
  exact Nat.min_eq_left (Nat.mul_le_mul_right _ hn)
theorem MemAcc.mem (h : MemAcc w0 H L e size v n xs w) : Mem w0 H L w := by
  rcases h.2 with ⟨_, _, m⟩ | ⟨g, cap, cur, _, _, _, _, _, m⟩
  · exact m
  · exact m.drop
theorem MemAcc.map (h : MemAcc w0 H L e size v n xs w) (f : ∀ L0, Mem w0 H (L0 ++ L) w → Mem w0 H' (L0 ++ L') w') : MemAcc w0 H' L' e size v n xs w' := by
  refine ⟨h.1, ?_⟩
  rcases h.2 with ⟨h1, h2, m⟩ | ⟨g, cap, cur, h1, h2, h3, h4, h5, m⟩
  · exact .inl ⟨h1, h2, f [] m⟩
  · exact .inr ⟨g, cap, cur, h1, h2, h3, h4, h5, f [_] m⟩
/-- The owned blocks as one more list, the block p ahead of it; and back. -/
theorem MemAcc.opened {p : Nat × Obj} (h : MemAcc w0 H (p :: L) e size v n xs w) :
    ∃ L0, Mem w0 H (p :: (L0 ++ L)) w ∧ ∀ (H' : Hp) (p' : Nat × Obj) (L' : List (Nat × Obj)) (w' : World), Mem w0 H' (p' :: (L0 ++ L')) w' → MemAcc w0 H' (p' :: L') e size v n xs w' := by
  rcases h.2 with ⟨h1, h2, m⟩ | ⟨g, cap, cur, h1, h2, h3, h4, h5, m⟩
  · exact ⟨[], m, fun H' p' L' w' m' => ⟨h.1, .inl ⟨h1, h2, m'⟩⟩⟩
  · exact ⟨[_], m.perm (List.Perm.swap _ _ _), fun H' p' L' w' m' => ⟨h.1, .inr ⟨g, cap, cur, h1, h2, h3, h4, h5, m'.perm (List.Perm.swap _ _ _)⟩⟩⟩
/-- The same with the owned block as a list of its own. -/
def AccL (e : TypeId) (size : Nat) (v : Value) (n : Nat) (xs : List Value) (L0 : List (Nat × Obj)) : Prop :=
  xs.length = n * size ∧
  ((v = .slice none 0 0 ∧ n = 0 ∧ L0 = []) ∨
   ∃ g cap cur, v = .slice (some ⟨g, 0, none⟩) n cap ∧ n ≤ cap ∧ cap ≤ maxLen ∧ cur.size = cap * size ∧ cur.toList.take (n * size) = xs ∧ L0 = [(g, .cells cur e (0, 0))])
theorem AccL.nil : AccL e size (.slice none 0 0) 0 [] [] := ⟨by simp, .inl ⟨rfl, rfl, rfl⟩⟩
theorem AccL.join {L0 : List (Nat × Obj)} (h : AccL e size v n xs L0) (m : Mem w0 H (L0 ++ L) w) : MemAcc w0 H L e size v n xs w := by
  refine ⟨h.1, ?_⟩
  rcases h.2 with ⟨h1, h2, rfl⟩ | ⟨g, cap, cur, h1, h2, h3, h4, h5, rfl⟩
  · exact .inl ⟨h1, h2, m⟩
  · exact .inr ⟨g, cap, cur, h1, h2, h3, h4, h5, m⟩
theorem MemAcc.split (h : MemAcc w0 H L e size v n xs w) : ∃ L0, AccL e size v n xs L0 ∧ Mem w0 H (L0 ++ L) w := by
  rcases h.2 with ⟨h1, h2, m⟩ | ⟨g, cap, cur, h1, h2, h3, h4, h5, m⟩
  · exact ⟨[], ⟨h.1, .inl ⟨h1, h2, rfl⟩⟩, m⟩
  · exact ⟨[_], ⟨h.1, .inr ⟨g, cap, cur, h1, h2, h3, h4, h5, rfl⟩⟩, m⟩
theorem AccL.shape {L0 : List (Nat × Obj)} (h : AccL e size v n xs L0) : ∃ b c, v = .slice b n c ∧ n ≤ c ∧ c ≤ maxLen := by
  rcases h.2 with ⟨h1, h2, _⟩ | ⟨g, cap, cur, h1, h2, h3, _⟩
  · exact ⟨none, 0, by rw [h1, h2], by omega, by simp [maxLen]⟩
  · exact ⟨_, _, h1, h2, h3⟩
theorem MemAcc.drew (h : MemAcc w0 H L e size v n xs w) : MemAcc w0 H L e size v n xs w.drew := h.map fun _ m => m.drew
theorem MemAcc.drewN (h : MemAcc w0 H L e size v n xs w) (k : Nat) : MemAcc w0 H L e size v n xs (w.drewN k) := h.map fun _ m => m.drewN k
theorem MemAcc.drop {p : Nat × Obj} (h : MemAcc w0 H (p :: L) e size v n xs w) : MemAcc w0 H L e size v n xs w :=
  h.map fun L0 m => (m.perm (List.perm_middle)).drop
theorem MemAcc.alloc (h : MemAcc w0 H L e size v n xs w) (o : Obj) : MemAcc w0 H ((w.heap.size, o) :: L) e size v n xs (w.alloc o) :=
  h.map fun _ m => (m.alloc o).perm (List.perm_middle.symm)

/-- A literal's own block, as what is appended. -/
theorem Src.loc {k m c : Nat} {cs : List Value} (hm : Mem w0 H L w) (h : (k, Obj.cells cs.toArray e (0, 0)) ∈ L) : Src w (.slice (some ⟨k, 0, none⟩) m c) m cs := by
  refine .inr ⟨_, c, rfl, fun j u hu => ?_⟩
  rw [Addr.add_lit, Nat.zero_add, cell_of_heap (hm.loc _ h).1]
  simpa using hu
theorem LUpd.app {k : Nat} {o o' : Obj} (h : LUpd L k o o' L') : ∀ L0, LUpd (L0 ++ L) k o o' (L0 ++ L')
  | [] => h
  | _ :: L0 => .tail (LUpd.app h L0)
theorem MemAcc.set {b i : Nat} {u : Value} {c : Array Value} {t : TypeId} {f : Nat × Nat} (h : MemAcc w0 H L e size v n xs w) (hu : LUpd L b (.cells c t f) (.cells (c.setIfInBounds i u) t f) L') :
    MemAcc w0 H L' e size v n xs (w.setCell ⟨b, i, none⟩ u) := h.map fun L0 m => m.set (hu.app L0)
theorem MemAcc.shape (h : MemAcc w0 H L e size v n xs w) : ∃ b c, v = .slice b n c ∧ n ≤ c ∧ c ≤ maxLen := by
  rcases h.2 with ⟨h1, h2, _⟩ | ⟨g, cap, cur, h1, h2, h3, _⟩
  · exact ⟨none, 0, by rw [h1, h2], by omega, by simp [maxLen]⟩
  · exact ⟨_, _, h1, h2, h3⟩
theorem MemAcc.swap {p q : Nat × Obj} (h : MemAcc w0 H (p :: q :: L) e size v n xs w) : MemAcc w0 H (q :: p :: L) e size v n xs w :=
  h.map fun L0 m => m.perm ((List.Perm.swap q p L).append_left L0)

variable {P : Program}
theorem run_append_mem (t ty e : TypeId) (i : TypeInfo) (z : Value) (size bytes : Nat) (ht : P.underlying t = some (.slice e)) (hi : P.info? e = some i) (hz : i.zero = some z)
    (hsize : i.size = size) (hby : i.bytes = bytes) (hzs : z.cells.size = size) (hsz : 0 < size)
    (v : Value) (n : Nat) (xs : List Value) (hacc : MemAcc w0 H L e size v n xs w)
    (x : Value) (m : Nat) (news : List Value) (hsrc : Src w x m news) (hl : news.length = m * size) (h1 : ∀ u ∈ news, u.oneCell' = true)
    (hbytes : (n + m) * bytes ≤ 140737488355328) (h63 : n + m ≤ maxLen) :
    ∃ v' w', (Builtin.append_ #[t, t] ty #[v, x]).run P w = .ok v' w' ∧ MemAcc w0 H L e size v' (n + m) (xs ++ news) w' := by
  subst hsize
  subst hby
  have hsmall : n + m ≤ 9223372036854775807 := by simp only [maxLen] at h63; omega
  have hlen : (xs ++ news).length = (n + m) * i.size := by rw [List.length_append, hacc.1, hl, Nat.add_mul]
  -- a new block
  have grown : ∀ (old : Nat), Mem w0 H L w →
      MemAcc w0 H L e i.size (.slice (some ⟨w.heap.size, 0, none⟩) (n + m) (grownCap w (n + m) old e)) (n + m) (xs ++ news)
        (w.drew.alloc (.cells (xs.toArray ++ news.toArray ++ Builtin.zeroCells z.cells (grownCap w (n + m) old e - (n + m))) e)) := by
    intro old hm
    have hge := grownCap_ge w (n + m) old e
    have hcm : grownCap w (n + m) old e ≤ maxLen := grownCap_le_maxLen w (n + m) old e h63
    refine MemAcc.row (hm.drew.alloc _) hge hcm ?_ ?_
    · simp only [Array.size_append, List.size_toArray, size_zeroCells, hzs, hacc.1, hl, ← Nat.add_mul]
      congr 1
      omega
    · simp only [Array.toList_append, List.append_assoc]
      rw [← List.append_assoc, ← hlen]
      exact List.take_left
  rcases hsrc with ⟨rfl, rfl, rfl⟩ | ⟨a, c, rfl, hnews⟩
  · -- nothing is appended
    refine ⟨v, w, ?_, by simpa using hacc⟩
    rcases hacc.2 with ⟨rfl, rfl, _⟩ | ⟨g, cap, cur, rfl, hnc, _, _, _, _⟩
    · simp [Builtin.append_, run_underlying ht, sizeOf, typeInfo, hi, Builtin.lenOf, Builtin.firstCells]
    · simp [Builtin.append_, run_underlying ht, sizeOf, typeInfo, hi, Builtin.lenOf, Builtin.firstCells, hnc, storeCells]
  · rcases hacc.2 with ⟨rfl, rfl, hm⟩ | ⟨g, cap, cur, rfl, hnc, hcm, hcs, htake, hm⟩
    · have hx : xs = [] := List.eq_nil_of_length_eq_zero (by simpa using hacc.1)
      subst hx
      by_cases hm0 : m = 0
      · subst hm0
        have hn : news = [] := List.eq_nil_of_length_eq_zero (by simpa using hl)
        subst hn
        refine ⟨.slice none 0 0, w, ?_, by simpa using hacc⟩
        simp [Builtin.append_, run_underlying ht, sizeOf, typeInfo, hi, Builtin.lenOf, Builtin.firstCells, loadCells, loadCellsFrom]
      · have hr := run_append_nil (P := P) w t ty e i z ht hi hz a m c news hl hnews (by omega) (by omega) (by have hb := hbytes; simp only [Nat.zero_add] at hb; omega)
        have hgr := grown 0 hm
        simp only [Nat.zero_add, List.nil_append, Array.empty_append] at hgr ⊢
        exact ⟨_, _, hr, hgr⟩
    · have hg := (hm.loc _ (.head _)).1
      by_cases hroom : n + m ≤ cap
      · have hfit : n * i.size + news.length ≤ cur.size := by rw [hl, hcs, ← Nat.add_mul]; exact Nat.mul_le_mul_right _ hroom
        have hr := run_append_room (P := P) w t ty e i ht hi g n cap cur hg a m c news hl hnews h1 hroom hfit
        refine ⟨_, _, hr, MemAcc.row (cur := (cur.toList.take (n * i.size) ++ news ++ cur.toList.drop (n * i.size + news.length)).toArray) (hm.setObj .head rfl rfl rfl (setRow_heap w g cur _ e _ hg) fun j hj => setRow_other w g j _ hj) hroom hcm ?_ ?_⟩
        · simp only [List.size_toArray, List.length_append, List.length_take, List.length_drop, Array.length_toList]
          omega
        · simp only
          rw [htake, ← hlen]
          exact List.take_left
      · have holds : ∀ j u, xs[j]? = some u → w.cell? ((⟨g, 0, none⟩ : Addr).add j) = some u := by
          intro j u hu
          rw [Addr.add_lit, Nat.zero_add, cell_of_heap hg]
          rw [← htake, List.getElem?_take] at hu
          split at hu
          · simpa using hu
          · cases hu
        have hr := run_append_grow (P := P) w t ty e i z ht hi hz ⟨g, 0, none⟩ n cap xs hacc.1 holds a m c news hl hnews (by omega) (by omega) (growslice_fits (by omega) hbytes)
        exact ⟨_, _, hr, grown cap hm.drop⟩

theorem wpList_append_mem {ops : Array Oper} {rest : List Oper} {o : Oper} {a : Act} {Q : Exit → Act → World → Prop} (hgd : o.guard = none) (s x : Operand) (t : TypeId)
    (ho : o.op = .call { callee := .builtin .append, args := #[s, x], argTypes := #[t, t] })
    (e : TypeId) (size bytes : Nat) (z : Value) (ht : P.underlying t = some (.slice e)) (hi : (P.info? e).map (fun i => (i.zero, i.size, i.bytes)) = some (some z, size, bytes))
    (hzs : z.cells.size = size) (hsz : 0 < size)
    (v : Value) (n : Nat) (xs : List Value) (hacc : MemAcc w0 H L e size v n xs w) (hs : a.eval s = v)
    (xv : Value) (m : Nat) (news : List Value) (hsrc : Src w xv m news) (hx : a.eval x = xv) (hl : news.length = m * size) (h1 : ∀ u ∈ news, u.oneCell' = true)
    (hbytes : (n + m) * bytes ≤ 140737488355328) (h63 : n + m ≤ maxLen)
    (h : ∀ v' w', MemAcc w0 H L e size v' (n + m) (xs ++ news) w' → wpList P ops Q rest (a.put o.dst v') w') : wpList P ops Q (o :: rest) a w := by
  obtain ⟨i, hi1, hi2, hi3, hi4⟩ := info_parts hi
  obtain ⟨v', w', hr, h2⟩ := run_append_mem (P := P) t o.type e i z size bytes ht hi1 hi2 hi3 hi4 hzs hsz v n xs hacc xv m news hsrc hl h1 hbytes h63
  refine wpList_plain hgd fun K hK => ?_
  unfold Oper.wp execOp
  simp only [ho, resolve, invoke, builtin, Sem.run_bind, Sem.run_pure, Result.andThen_ok, List.map_toArray, List.map_cons, List.map_nil, hs, hx, hr]
  exact hK _ _ (h v' w' h2)

end

/-- The same as one step of a region that draws its order. -/
theorem step_append_mem {P : Program} {w0 w : World} {H : Hp} {L : List (Nat × Obj)} {ops : Array Oper} {o : Oper} {a : Act} {K : Act → World → Prop} {Q : Exit → Act → World → Prop} {E : Prop} (hgd : o.guard = none) (s x : Operand) (t : TypeId)
    (ho : o.op = .call { callee := .builtin .append, args := #[s, x], argTypes := #[t, t] })
    (e : TypeId) (size bytes : Nat) (z : Value) (ht : P.underlying t = some (.slice e)) (hi : (P.info? e).map (fun i => (i.zero, i.size, i.bytes)) = some (some z, size, bytes))
    (hzs : z.cells.size = size) (hsz : 0 < size)
    (v : Value) (n : Nat) (xs : List Value) (hacc : MemAcc w0 H L e size v n xs w) (hs : a.eval s = v)
    (xv : Value) (m : Nat) (news : List Value) (hsrc : Src w xv m news) (hx : a.eval x = xv) (hl : news.length = m * size) (h1 : ∀ u ∈ news, u.oneCell' = true)
    (hbytes : (n + m) * bytes ≤ 140737488355328) (h63 : n + m ≤ maxLen)
    (h : ∀ v' w', MemAcc w0 H L e size v' (n + m) (xs ++ news) w' → K (a.put o.dst v') w') :
    if Region.wanted o (yielded ops a.tmps) = true then Oper.wp P o a w K Q else E := by
  have hw : Region.wanted o (yielded ops a.tmps) = true := by simp [Region.wanted, hgd]
  rw [if_pos hw]
  obtain ⟨i, hi1, hi2, hi3, hi4⟩ := info_parts hi
  obtain ⟨v', w', hr, h2⟩ := run_append_mem (P := P) t o.type e i z size bytes ht hi1 hi2 hi3 hi4 hzs hsz v n xs hacc xv m news hsrc hl h1 hbytes h63
  unfold Oper.wp execOp
  simp only [ho, resolve, invoke, builtin, Sem.run_bind, Sem.run_pure, Result.andThen_ok, List.map_toArray, List.map_cons, List.map_nil, hs, hx, hr]
  exact h v' w' h2

/-- A slice expression's value, kept under a name (for the walk: 'attribute [local go_sem high] run_slice_lV'). -/
def sliceV (a : Option Addr) (l h m s : Nat) : Value := Go.sliced a l h m s
theorem run_slice_lV {P : Program} (w : World) (t : TypeId) (a : Option Addr) (len cap : Nat) (ht : P.underlying t = some (.slice (P.elem t))) (kl : IntKind) (l : Int) (h0 : 0 ≤ l) (h1 : l ≤ len) :
    (Instr.slice t (.slice a len cap) (some (.int kl l)) none none).run P w = ((sizeOf (P.elem t)).run P w).andThen fun s w => .ok (sliceV a l.toNat len cap s) w :=
  run_slice_l w t a len cap ht kl l h0 h1

@[go_sem] theorem cells_sliceV (a : Option Addr) (l h m s : Nat) : (sliceV a l h m s).cells = #[sliceV a l h m s] := rfl
@[go_sem] theorem run_store_sliceV (P : Program) (w : World) (ad : Addr) (a : Option Addr) (l h m s : Nat) (md : Mode) : (store ad (sliceV a l h m s) md).run P w = stored P w ad (sliceV a l h m s) md := run_store P w ad _ md rfl

/-! ### What the owned cells read as -/
inductive Chunks {α : Type} (E : Enc α) (H : Hp) : List Value → List α → Prop
  | nil : Chunks E H [] []
  | cons {cs : List Value} {x : α} {xs : List Value} {ys : List α} : E.rep H cs x → cs.length = E.size → Chunks E H xs ys → Chunks E H (cs ++ xs) (x :: ys)
section
variable {α : Type} {E : Enc α} {H H' : Hp} {xs xs' : List Value} {ys ys' : List α}
theorem Chunks.append (h : Chunks E H xs ys) (h' : Chunks E H xs' ys') : Chunks E H (xs ++ xs') (ys ++ ys') := by
  induction h with
  | nil => exact h'
  | cons h1 h2 _ ih => rw [List.append_assoc]; exact .cons h1 h2 ih
theorem Chunks.mono (h : Chunks E H xs ys) (hl : Hle H H') : Chunks E H' xs ys := by
  induction h with
  | nil => exact .nil
  | cons h1 h2 _ ih => exact .cons (E.mono hl h1) h2 ih
theorem Chunks.one {cs : List Value} {x : α} (h : E.rep H cs x) (hl : cs.length = E.size) : Chunks E H cs [x] := by
  have := Chunks.cons h hl Chunks.nil
  rwa [List.append_nil] at this
theorem Chunks.length (h : Chunks E H xs ys) : xs.length = ys.length * E.size := by
  induction h with
  | nil => simp
  | cons _ h2 _ ih => rw [List.length_append, h2, ih, List.length_cons, Nat.add_mul, Nat.one_mul, Nat.add_comm]
theorem Chunks.get (h : Chunks E H xs ys) : ∀ i, (hi : i < ys.length) → ∃ cs, E.rep H cs ys[i] ∧ cs.length = E.size ∧ ∀ j u, cs[j]? = some u → xs[i * E.size + j]? = some u := by
  induction h with
  | nil => intro i hi; exact absurd hi (Nat.not_lt_zero _)
  | @cons cs x xs ys h1 h2 _ ih =>
    intro i hi
    cases i with
    | zero =>
      refine ⟨cs, h1, h2, fun j u hu => ?_⟩
      rw [Nat.zero_mul, Nat.zero_add, List.getElem?_append_left (List.getElem?_eq_some_iff.1 hu).1]
      exact hu
    | succ i =>
      obtain ⟨c', e1, e2, e3⟩ := ih i (by simpa using hi)
      refine ⟨c', e1, e2, fun j u hu => ?_⟩
      rw [List.getElem?_append_right (by rw [h2, Nat.add_mul]; omega), h2, show (i + 1) * E.size + j - E.size = i * E.size + j by rw [Nat.add_mul]; omega]
      exact e3 j u hu
theorem Chunks.ofV {f : α → Value} {p : α → Prop} (ys : List α) (h : ∀ y ∈ ys, p y) : Chunks (encV f p) H (ys.map f) ys := by
  induction ys with
  | nil => exact .nil
  | cons y ys ih => exact .cons (cs := [f y]) ⟨rfl, h y (.head _)⟩ rfl (ih fun z hz => h z (.tail _ hz))

/-- Done: what was owned is written no more, and reads as ys. -/
theorem MemAcc.done {w0 w : World} {L : List (Nat × Obj)} {e : TypeId} {size n : Nat} {v : Value} (h : MemAcc w0 H L e size v n xs w) (hc : Chunks E H xs ys) (hs : size = E.size) (hn : n = ys.length) :
    ∃ H', Mem w0 H' L w ∧ Hle H H' ∧ SlR E H' v ys := by
  subst hs; subst hn
  rcases h.2 with ⟨rfl, hn, m⟩ | ⟨g, cap, cur, rfl, hnc, hcm, hcs, htake, m⟩
  · obtain rfl := List.eq_nil_of_length_eq_zero hn
    exact ⟨H, m, Hle.refl H, SlR.nil E H⟩
  · obtain ⟨m', hle⟩ := m.freeze
    refine ⟨_, m', hle, some ⟨g, 0, none⟩, cap, rfl, hnc, hcm, fun h => (by cases h), fun i hi => ?_⟩
    obtain ⟨cs, e1, e2, e3⟩ := hc.get i hi
    refine ⟨g, 0, cs, rfl, E.mono hle e1, fun j u hu => ⟨cur, e, (0, 0), Hp.put_same _ _ _, ?_⟩⟩
    have := e3 j u hu
    rw [← htake, List.getElem?_take] at this
    split at this
    · simpa using this
    · cases this

/-- A part of it, as a slice expression makes it. -/
theorem SlR.sliced {b : Option Addr} {n c i j : Nat} (h : SlR E H (.slice b n c) ys) (hij : i ≤ j) (hjn : j ≤ n) :
    SlR E H (sliceV b i j c E.size) ((ys.drop i).take (j - i)) := by
  obtain ⟨b', c', hv, hnc, hcm, h0, hc⟩ := h
  cases hv
  have hlen : ((ys.drop i).take (j - i)).length = j - i := by rw [List.length_take, List.length_drop]; omega
  refine ⟨_, _, by rw [hlen]; rfl, by omega, by omega, fun hb => ?_, fun k hk => ?_⟩
  · cases b with
    | none => have := h0 rfl; omega
    | some a =>
      split at hb
      · omega
      · cases hb
  · rw [hlen] at hk
    have hk' : i + k < ys.length := by omega
    obtain ⟨blk, off, cs, e1, e2, e3⟩ := hc (i + k) hk'
    subst e1
    refine ⟨blk, off + i * E.size, cs, ?_, ?_, fun jj u hu => ?_⟩
    · rw [if_neg (by omega)]
      simp only [Option.map_some, Addr.add_lit]
    · simpa using e2
    · have := e3 jj u hu
      rwa [show off + (i + k) * E.size + jj = off + i * E.size + k * E.size + jj by rw [Nat.add_mul]; omega] at this
/-- A slice that is written no more, as what is appended. -/
theorem SlR.src {w0 w : World} {L : List (Nat × Obj)} {v : Value} (h : SlR E H v ys) (m : Mem w0 H L w) :
    ∃ news, Chunks E H news ys ∧ Src w v ys.length news := by
  obtain ⟨b, c, rfl, hnc, hcm, h0, hc⟩ := h
  have key : ∀ d k, k + d = ys.length → ∃ news, Chunks E H news (ys.drop k) ∧ ∀ blk off, b = some ⟨blk, off, none⟩ → ∀ j u, news[j]? = some u → w.cell? ⟨blk, off + k * E.size + j, none⟩ = some u := by
    intro d
    induction d with
    | zero =>
      intro k hk
      rw [List.drop_of_length_le (by omega)]
      exact ⟨[], .nil, fun _ _ _ j u hu => by simp at hu⟩
    | succ d ih =>
      intro k hk
      have hlt : k < ys.length := by omega
      obtain ⟨news, h1, h2⟩ := ih (k + 1) (by omega)
      obtain ⟨blk, off, cs, e1, e2, e3⟩ := hc k hlt
      rw [List.drop_eq_getElem_cons hlt]
      refine ⟨cs ++ news, .cons e2 (E.len e2) h1, fun blk' off' hb j u hu => ?_⟩
      rw [e1] at hb
      cases hb
      by_cases hj : j < cs.length
      · rw [List.getElem?_append_left hj] at hu
        exact (e3 j u hu).cell m
      · rw [List.getElem?_append_right (by omega)] at hu
        have := h2 blk off e1 _ u hu
        rw [E.len e2] at this
        rw [E.len e2] at hj
        rwa [show off + (k + 1) * E.size + (j - E.size) = off + k * E.size + j by rw [Nat.add_mul]; omega] at this
  obtain ⟨news, h1, h2⟩ := key ys.length 0 (by omega)
  rw [List.drop_zero] at h1
  refine ⟨news, h1, ?_⟩
  cases b with
  | none =>
    have hy : ys.length = 0 := by have := h0 rfl; omega
    have hy' : ys = [] := List.eq_nil_of_length_eq_zero hy
    subst hy'
    have hn : news = [] := by cases h1; rfl
    subst hn
    rw [h0 rfl]
    exact .inl ⟨rfl, rfl, rfl⟩
  | some a =>
    refine .inr ⟨a, c, rfl, fun j u hu => ?_⟩
    have hy : 0 < ys.length := by
      rcases Nat.eq_zero_or_pos ys.length with h | h
      · have hy' : ys = [] := List.eq_nil_of_length_eq_zero h
        subst hy'
        cases h1
        simp at hu
      · exact h
    obtain ⟨blk, off, _, e1, _⟩ := hc 0 hy
    cases e1
    rw [Addr.add_lit]
    have := h2 blk off rfl j u hu
    rwa [Nat.zero_mul, Nat.add_zero] at this
theorem Chunks.oneCell (h : Chunks E H xs ys) (hE : ∀ cs x, E.rep H cs x → ∀ u ∈ cs, u.oneCell' = true) : ∀ u ∈ xs, u.oneCell' = true := by
  induction h with
  | nil => intro u hu; cases hu
  | cons h1 _ _ ih =>
    intro u hu
    rcases List.mem_append.1 hu with hu | hu
    · exact hE _ _ h1 u hu
    · exact ih u hu
theorem Mem.weaken {w0 w : World} {L : List (Nat × Obj)} (m : Mem w0 H' L w) (h : Hle H H') : Mem w0 H L w :=
  ⟨m.os, m.tape, m.output, fun k o hk => m.imm k o (h k o hk), fun p hp => ⟨(m.loc p hp).1, by
    cases hh : H p.1 with
    | none => rfl
    | some o => have := h _ _ hh; rw [(m.loc p hp).2] at this; cases this⟩, m.nd⟩
theorem MemAcc.weaken {w0 w : World} {L : List (Nat × Obj)} {e : TypeId} {size n : Nat} {v : Value} {xs : List Value} (h : MemAcc w0 H' L e size v n xs w) (hl : Hle H H') : MemAcc w0 H L e size v n xs w :=
  h.map fun _ m => m.weaken hl
theorem Chunks.anyH {f : α → Value} {p : α → Prop} {xs : List Value} {ys : List α} (h : Chunks (encV f p) H xs ys) : Chunks (encV f p) H' xs ys := by
  induction h with
  | nil => exact .nil
  | cons h1 h2 _ ih => exact .cons h1 h2 ih
theorem Mem.thaw {w0 w : World} {L : List (Nat × Obj)} {g : Nat} {o : Obj} (m : Mem w0 (H.put g o) L w) (h : H g = none) : Mem w0 H ((g, o) :: L) w := by
  have m' := m.weaken (Hle.put o h)
  refine ⟨m'.os, m'.tape, m'.output, m'.imm, fun p hp => ?_, ?_⟩
  · cases hp with
    | head => exact ⟨m.imm g o (Hp.put_same _ _ _), h⟩
    | tail _ hp => exact m'.loc p hp
  · rw [List.map_cons, List.nodup_cons]
    refine ⟨fun hc => ?_, m'.nd⟩
    obtain ⟨p, hp, he⟩ := List.mem_map.1 hc
    have := (m.loc p hp).2
    rw [he, Hp.put_same] at this
    cases this
/-- What is owned, lent for reading, and given back. -/
theorem AccL.borrow {w0 w : World} {L L0 : List (Nat × Obj)} {e : TypeId} {size n : Nat} {v : Value} (h : AccL e size v n xs L0) (hc : Chunks E H xs ys) (hs : size = E.size) (hn : n = ys.length) (m : Mem w0 H (L0 ++ L) w) :
    ∃ H', Mem w0 H' L w ∧ Hle H H' ∧ SlR E H' v ys ∧ ∀ (L' : List (Nat × Obj)) (w' : World), Mem w0 H' L' w' → Mem w0 H (L0 ++ L') w' := by
  rcases h.2 with ⟨rfl, h2, rfl⟩ | ⟨g, cap, cur, rfl, h2, h3, h4, h5, rfl⟩
  · obtain rfl : ys = [] := List.eq_nil_of_length_eq_zero (by omega)
    exact ⟨H, m, Hle.refl H, SlR.nil E H, fun _ _ m' => m'⟩
  · have hg := (m.loc _ (.head _)).2
    subst hs; subst hn
    obtain ⟨m', hle⟩ := m.freeze
    refine ⟨_, m', hle, ⟨some ⟨g, 0, none⟩, cap, rfl, h2, h3, fun h => (by cases h), fun i hi => ?_⟩, fun _ _ m' => m'.thaw hg⟩
    obtain ⟨cs, e1, e2, e3⟩ := hc.get i hi
    refine ⟨g, 0, cs, rfl, E.mono hle e1, fun j u hu => ⟨cur, e, (0, 0), Hp.put_same _ _ _, ?_⟩⟩
    have := e3 j u hu
    rw [← h5, List.getElem?_take] at this
    split at this
    · simpa using this
    · cases this
/-- A list of elements, written out, that is written no more. -/
theorem Mem.lit {w0 w : World} {L : List (Nat × Obj)} {b : Nat} {cs : List Value} {e : TypeId} (m : Mem w0 H ((b, .cells cs.toArray e (0, 0)) :: L) w) (hc : Chunks E H cs ys) (hm : ys.length ≤ maxLen) :
    ∃ H', Mem w0 H' L w ∧ Hle H H' ∧ SlR E H' (.slice (some ⟨b, 0, none⟩) ys.length ys.length) ys := by
  have hl := hc.length
  have ha : MemAcc w0 H L e E.size (.slice (some ⟨b, 0, none⟩) ys.length ys.length) ys.length cs w := by
    refine MemAcc.row m (Nat.le_refl _) hm (by simpa using hl) ?_
    simp only
    rw [← hl]; exact List.take_length
  exact ha.done hc rfl rfl
end
end Go.Proofs.YtpkcdkbbhiafnaaDoor
