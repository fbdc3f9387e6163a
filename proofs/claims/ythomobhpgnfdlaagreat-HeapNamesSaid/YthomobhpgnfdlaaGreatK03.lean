/- An evaluator of closed calls: append. No program in sight. An evaluator of closed calls: one operation, all kinds but calls. No program in sight. An evaluator of closed calls: each operation does what the evaluator says. No program in sight. An evaluator of closed calls: the built-in functions. No program in sight. An evaluator of closed calls: code and calls. No program in sight. An evaluator of closed calls: code, and functions entered. No program in sight. -/
import Derived.Test.YthomobhpgnfdlaaGreatK02
import Derived.OrdersIn
import Derived.RangeFuncLeaves
import Derived.RangeFuncCalls
import Derived.RangeFuncIn
import Derived.RangeFuncRecord
import Derived.RangeFuncFrom
import Derived.ControlIn
namespace Go.Proofs.YthomobhpgnfdlaaGreat
set_option linter.unusedVariables false
set_option linter.unusedSimpArgs false
set_option linter.unusedSectionVars false
open Go Go.RowKit

section
variable {P : Program} {E : Env} {F : Nat → Option Obj} {R : Nat → Nat × Nat} {s s' : St} {w0 w : World} {n : Nat}
theorem VRL.ones {l : List AV} {vs : List Value} (h : VRL R n l vs) (h1 : ∀ c ∈ l, oneA c = true) : ∀ v ∈ vs, v.oneCell' = true := fun v hm => by
  obtain ⟨j, hj, rfl⟩ := List.mem_iff_getElem.1 hm
  have hl := h.length
  obtain ⟨u, e1, e2⟩ := h.get (j := j) (List.getElem?_eq_getElem (by omega))
  rw [List.getElem?_eq_getElem hj] at e1
  cases e1
  exact e2.one (h1 _ (List.getElem_mem _))
theorem byteCells_of {l : List Nat} (h : ∀ c ∈ l, c < 256) : byteCells (bytesA l) = l.map fun c : Nat => Value.int .u8 (c : Int) := by
  unfold byteCells
  have := bytesA_list h
  conv => rhs; rw [← this]
  rw [List.map_map]
  rfl
/-- What is appended. -/
theorem src_sound (hE : EnvOK P E) (h : HR F R s w0 w) {tx : TypeId} {ux : TI} (hux : E.tt.get tx = some ux) {z : Nat} {y : AV} {yv : Value} (hy : VR R s.nx y yv) {l : List AV} {k : Nat} (hs : srcA s ux z y = some (l, k)) :
    ∃ news, Go.Src P z tx yv k news w ∧ VRL R s.nx l news ∧ ∀ c ∈ l, oneA c = true := by
  obtain ⟨_, ⟨d, hd, hk⟩, -⟩ := hE.tt tx ux hux
  unfold srcA at hs
  split at hs
  · rename_i e hke
    rw [hke] at hk
    obtain rfl : d = .slice e := hk
    cases hs
    simp only [VR] at hy
    subst hy
    exact ⟨[], Go.Src.ofNil w hd 0, by simp [VRL], fun c hc => (by cases hc)⟩
  · rename_i l' hke
    rw [hke] at hk
    obtain rfl : d = .string := hk
    cases hz : Nat.beq z 1 with
    | false => rw [hz] at hs; cases hs
    | true =>
      rw [hz, cond_true] at hs
      cases hs
      have hz := nbeq_of hz
      subst hz
      simp only [VR] at hy
      obtain ⟨rfl, hb⟩ := hy
      have h1 := Go.Src.ofString (P := P) w hd (bytesA l')
      rw [bytesA_size, byteCells_of hb] at h1
      refine ⟨_, h1, VRL.of (by simp) fun j x hj => ?_, fun c hc => ?_⟩
      · rw [List.getElem?_map] at hj
        cases hg : l'[j]? with
        | none => rw [hg] at hj; cases hj
        | some c =>
          rw [hg] at hj
          cases hj
          exact ⟨.int .u8 (c : Int), by rw [List.getElem?_map, hg]; rfl, by simp only [VR]; rfl⟩
      · obtain ⟨x, _, rfl⟩ := List.mem_map.1 hc
        rfl
  · rename_i e b o m c ex q hke
    rw [hke] at hk
    obtain rfl : d = .slice e := hk
    cases hz : Nat.beq q z with
    | false => rw [hz] at hs; cases hs
    | true =>
      rw [hz, cond_true] at hs
      cases hl : s.load b o (m * z) with
      | none => rw [hl] at hs; cases hs
      | some cs =>
        rw [hl] at hs
        cases hs
        obtain ⟨h1, h2, h3, vs, h4, h5⟩ := h.load hl
        simp only [VR] at hy
        obtain ⟨_, o', c', rfl, ho, _, hlc, _⟩ := hy
        refine ⟨vs, Go.Src.ofSlice w hd ⟨(R b).1, o', none⟩ k c' vs (by rw [h4.length, h1]) (fun j u hu => ?_) (h4.ones h3), h4, h3⟩
        have hj := (List.getElem?_eq_some_iff.1 hu).1
        rw [h4.length, h1] at hj
        have hc0 : c' ≠ 0 := by
          intro e0
          have : k = 0 := by omega
          subst this
          simp at hj
        have ho' : o' = o := ho.resolve_left hc0
        rw [Addr.add_eq, ho']
        exact h5 j u hu
  · cases hs
/-- There is room: the cells go into the row. -/
theorem run_append_room_row (t tx ty e : TypeId) (i : TypeInfo) (ht : P.underlying t = some (.slice e)) (hi : P.info? e = some i) (g sLen sCap : Nat) (cur : Array Value) (hg : w.heap[g]? = some (.cells cur e (0, 0))) (x : Value) (n : Nat) (news : List Value) (hs : Go.Src P i.size tx x n news w)
    (hroom : sLen + n ≤ sCap) (hfit : sLen * i.size + news.length ≤ cur.size) :
    (Builtin.append_ #[t, tx] ty #[.slice (some ⟨g, 0, none⟩) sLen sCap, x]).run P w = .ok (.slice (some ⟨g, 0, none⟩) (sLen + n) sCap) (w.setRow g (cur.toList.take (sLen * i.size) ++ news ++ cur.toList.drop (sLen * i.size + news.length)).toArray) := by
  have hst := run_storeCells_at (P := P) g (sLen * i.size) e news 0 cur w hg (by omega) hs.one
  simp only [Nat.add_zero] at hst
  rcases hs.kind with ⟨e', hk⟩ | hk <;> simp [Builtin.append_, run_underlying ht, run_underlying hk, sizeOf, typeInfo, hi, hs.len, hroom, hs.cells, Addr.add_eq, hst]
/-- A slice that grew. -/
theorem op_grown (h : HR F R s w0 w) {e : TypeId} {cs : List AV} {vs : List Value} (hv : VRL R s.nx cs vs) (h1 : ∀ c ∈ cs, oneA c = true) (more : Array Value) {k c z : Nat} (hkc : k ≤ c) (hc : c ≤ maxLen) (hsz : c * z ≤ vs.length + more.size) {m : Sem Value}
    (hr : m.run P w = .ok (.slice (some ⟨w.heap.size, 0, none⟩) k c) (w.drew.alloc (.cells (vs.toArray ++ more) e))) :
    OpRes P F R s.nx w0 w (do pure (.value (← m))) (some (.sl s.nx 0 k k false z)) (s.new (.cells e cs)) := by
  have hd := h.drew
  have hR : (fun b => if b = s.nx then (w.drew.heap.size, vs.length + more.size) else R b) s.nx = (w.heap.size, vs.length + more.size) := if_pos rfl
  have hE : Ext s.nx R (fun b => if b = s.nx then (w.drew.heap.size, vs.length + more.size) else R b) := fun b hb => if_neg (by omega)
  obtain ⟨h2, h3⟩ := hd.new (.cells e cs) (.cells (vs.toArray ++ more) e) (vs.length + more.size) ⟨vs.toArray ++ more, rfl, by simp, by rw [← hv.length]; omega, by
    rw [← hv.length]
    simpa using hv.mono (Nat.le_succ _) hE, h1⟩
  refine ⟨_, _, h3, Nat.le_succ _, h2, .slice (some ⟨w.heap.size, 0, none⟩) k c, by simp [Sem.run_bind, hr], ?_⟩
  simp only [VR]
  exact ⟨Nat.lt_succ_self _, 0, c, by simp, .inr rfl, fun h => (by cases h), hkc, hc, by simp; omega⟩
/-- Append, all of it. -/
theorem op_append (hE : EnvOK P E) (h : HR F R s w0 w) {t tx ty e : TypeId} {u0 u ux : TI} (hu0 : E.tt.get t = some u0) (hk0 : u0.k = .slice e) (hu : E.tt.get e = some u) {z : AV} (hz : u.z = some z) (hzn : (cellsA z).length = u.size) (hpos : 0 < u.size) (hux : E.tt.get tx = some ux)
    {x y x' : AV} {xv yv : Value} (hx : VR R s.nx x xv) (hy : VR R s.nx y yv) (ha : appendA s e u ux x y = some (x', s')) :
    OpRes P F R s.nx w0 w (do pure (.value (← Builtin.append_ #[t, tx] ty #[xv, yv]))) (some x') s' := by
  obtain ⟨_, ⟨d, hd, hkd⟩, -⟩ := hE.tt t u0 hu0
  obtain ⟨_, _, i, hi, hsz, hby, hzz⟩ := hE.tt e u hu
  rw [hk0] at hkd
  obtain rfl : d = .slice e := hkd
  obtain ⟨zv, hzv, hRz⟩ := hzz z hz
  have hzc : zv.cells.size = i.size := by rw [hsz, ← hzn, ← (hRz R s.nx).cells.length, Array.length_toList]
  unfold appendA at ha
  cases hsr : srcA s ux u.size y with
  | none => rw [hsr] at ha; cases ha
  | some p =>
    obtain ⟨l, k⟩ := p
    rw [hsr] at ha
    simp only at ha
    obtain ⟨news, hsrc, hv, hone⟩ := src_sound hE h hux hy hsr
    rw [← hsz] at hsrc
    have hnl := hsrc.newsLen
    split at ha
    · -- onto nil
      simp only [VR] at hx
      subst hx
      cases hk : Nat.beq k 0 with
      | true =>
        rw [hk, cond_true] at ha
        cases ha
        have := nbeq_of hk
        subst this
        refine OpRes.val h (v := .slice none 0 0) ?_ (by simp only [VR])
        rcases hsrc.kind with ⟨e', hkk⟩ | hkk <;> simp [Builtin.append_, run_underlying hd, run_underlying hkk, sizeOf, typeInfo, hi, hsrc.len, hsrc.cells]
      | false =>
        rw [hk, cond_false] at ha
        have hk0 : k ≠ 0 := fun e0 => by subst e0; cases hk
        cases hb : (Nat.ble (k * u.bytes) 140737488355328 && Nat.ble k 1000000) with
        | false => rw [hb] at ha; cases ha
        | true =>
          rw [hb, cond_true] at ha
          cases ha
          rw [Bool.and_eq_true] at hb
          have hb1 := nble_of hb.1
          have hb2 := nble_of hb.2
          have hold : (Builtin.firstCells i.size 0 (.slice none 0 0)).run P w.drew = .ok ([] : List Value).toArray w.drew := by simp [Builtin.firstCells]
          have hr := run_append_grow_src (P := P) w t tx ty e i zv hd hi hzv none 0 0 [] hold yv k news hsrc (by omega) (by omega) (growslice_fits (by omega) (by rw [Nat.zero_add, hby]; exact hb1))
          rw [Nat.zero_add, List.nil_append] at hr
          have hge := grownCap_ge w k 0 e
          refine op_grown h hv hone _ hge (grownCap_le_maxLen w k 0 e (by unfold maxLen; omega)) ?_ hr
          rw [size_zeroCells, hzc, hnl, hsz, ← Nat.add_mul]
          exact Nat.mul_le_mul_right _ (by omega)
    · rename_i b o m c ex q
      cases hk : Nat.beq k 0 with
      | true =>
        rw [hk, cond_true] at ha
        cases ha
        have := nbeq_of hk
        subst this
        have hx' := hx
        simp only [VR] at hx
        obtain ⟨_, o', c', rfl, ho, _, hlc, _⟩ := hx
        have hn0 : news = [] := List.eq_nil_of_length_eq_zero (by simpa using hnl)
        subst hn0
        refine OpRes.val h (v := .slice (some ⟨(R b).1, o', none⟩) m c') ?_ hx'
        rcases hsrc.kind with ⟨e', hkk⟩ | hkk <;> simp [Builtin.append_, run_underlying hd, run_underlying hkk, sizeOf, typeInfo, hi, hsrc.len, hsrc.cells, hlc, storeCells]
      | false =>
        rw [hk, cond_false] at ha
        have hk0 : k ≠ 0 := fun e0 => by subst e0; cases hk
        cases hb : (Nat.beq o 0 && Nat.beq q u.size && Nat.ble ((m + k) * u.bytes) 140737488355328 && Nat.ble (m + k) 1000000) with
        | false => rw [hb] at ha; cases ha
        | true =>
          rw [hb, cond_true] at ha
          rw [Bool.and_eq_true, Bool.and_eq_true, Bool.and_eq_true] at hb
          obtain ⟨⟨⟨hb1, hb2⟩, hb3⟩, hb4⟩ := hb
          have ho0 := nbeq_of hb1
          have hq := nbeq_of hb2
          have hb3 := nble_of hb3
          have hb4 := nble_of hb4
          subst ho0
          cases hcs : s.cells b with
          | none => rw [hcs] at ha; cases ha
          | some pc =>
            obtain ⟨e', cs'⟩ := pc
            rw [hcs] at ha
            simp only at ha
            cases he : Nat.beq e' e with
            | false => rw [he] at ha; cases ha
            | true =>
              rw [he, cond_true] at ha
              have he' := nbeq_of he
              subst he'
              cases hl : s.load b 0 (m * u.size) with
              | none => rw [hl] at ha; cases ha
              | some old =>
                rw [hl] at ha
                cases ha
                obtain ⟨l1, l2, l3, ovs, l4, l5⟩ := h.load hl
                obtain ⟨hgb, arr, g1, g2, g3, g4, g5⟩ := h.at hcs
                simp only [VR] at hx
                obtain ⟨_, o', c', rfl, ho, hex, hlc, hcm, hfit⟩ := hx
                rw [hq] at hfit
                have hones : ∀ c ∈ old ++ l, oneA c = true := fun c hc => by
                  rcases List.mem_append.1 hc with hc | hc
                  · exact l3 c hc
                  · exact hone c hc
                have hold : (Builtin.firstCells i.size m (.slice (some ⟨(R b).1, o', none⟩) m c')).run P w.drew = .ok ovs.toArray w.drew := by
                  refine run_firstCells_some (P := P) w.drew i.size m ⟨(R b).1, o', none⟩ m c' ovs (by rw [l4.length, l1, hsz]) fun j v hj => ?_
                  have hjl := (List.getElem?_eq_some_iff.1 hj).1
                  rw [l4.length, l1] at hjl
                  have hc0 : c' ≠ 0 := by
                    intro e0
                    have : m = 0 := by omega
                    subst this
                    simp at hjl
                  have := l5 j v hj
                  rw [Addr.add_eq, ho.resolve_left hc0]
                  exact this
                by_cases hroom : m + k ≤ c'
                · -- there is room
                  have hc0 : c' ≠ 0 := by omega
                  obtain rfl : o' = 0 := ho.resolve_left hc0
                  have hnot : (ex && Nat.blt c (m + k)) = false := by
                    cases hexx : ex with
                    | false => rfl
                    | true =>
                      have hcc := hex hexx
                      cases hlt : Nat.blt c (m + k) with
                      | false => rfl
                      | true => have := nblt_of hlt; omega
                  rw [hnot, cond_false]
                  have hfs : (m + k) * i.size ≤ c' * i.size := Nat.mul_le_mul_right _ hroom
                  have hcu : c' * i.size ≤ arr.size := by rw [hsz, g2]; omega
                  have hma : m * i.size + news.length = (m + k) * i.size := by rw [hnl, Nat.add_mul]
                  have hr := run_append_room_row (P := P) t tx ty e' i hd hi (R b).1 m c' arr g1 yv k news hsrc hroom (by omega)
                  -- the row has a new number
                  have hf := h.forget b
                  have hR' : Ext s.nx R (fun j => if j = s.nx then R b else R j) := fun j hj => if_neg (by omega)
                  have hgn : ∀ j, ((s.h.set b none).set s.nx (some (.cells e' (old ++ l)))).get j = if j = s.nx then some (.cells e' (old ++ l)) else if j = b then none else s.h.get j := fun j => by
                    rw [Tree.get_set, Tree.get_set]
                  have hovs : (arr.toList.take (m * i.size)) = ovs := by
                    apply List.ext_getElem?
                    intro j
                    by_cases hj : j < m * i.size
                    · have hjo : j < ovs.length := by rw [l4.length, l1, ← hsz]; exact hj
                      have h5 := l5 j ovs[j] (List.getElem?_eq_getElem hjo)
                      rw [Nat.zero_add, cell_of_heap g1] at h5
                      rw [List.getElem?_take_of_lt hj, List.getElem?_eq_getElem hjo, ← h5, Array.getElem?_toList]
                    · rw [List.getElem?_take_eq_none (by omega), List.getElem?_eq_none (by rw [l4.length, l1, ← hsz]; omega)]
                  refine ⟨_, w.setRow (R b).1 (arr.toList.take (m * i.size) ++ news ++ arr.toList.drop (m * i.size + news.length)).toArray, hR', Nat.le_succ _, ⟨h.os, h.tape, h.output, fun j o' hj => ?_, fun j hj => ?_, fun j y hy => ?_, fun j j' hj hj' ee => ?_⟩, .slice (some ⟨(R b).1, 0, none⟩) (m + k) c', by simp [Sem.run_bind, hr], ?_⟩
                  · have hFb := (h.own b _ hgb).1
                    rw [setRow_other w _ j _ (fun e0 => by rw [e0, hFb] at hj; cases hj)]
                    exact h.fr j o' hj
                  · simp only [St.new] at hj ⊢
                    rw [hgn] at hj
                    by_cases e1 : j = s.nx
                    · omega
                    · rw [if_neg e1] at hj
                      by_cases e2 : j = b
                      · rw [if_pos e2] at hj; exact absurd rfl hj
                      · rw [if_neg e2] at hj; have := h.lt j hj; omega
                  · simp only [St.new] at hy ⊢
                    rw [hgn] at hy
                    by_cases e1 : j = s.nx
                    · rw [if_pos e1] at hy
                      cases hy
                      rw [if_pos e1]
                      refine ⟨(h.own b _ hgb).1, _, setRow_heap w _ arr _ e' _ g1, _, rfl, ?_, ?_, ?_, hones⟩
                      · simp only [List.size_toArray, List.length_append, List.length_take, List.length_drop, Array.length_toList]; omega
                      · rw [List.length_append, l1, ← hv.length, ← hsz, hma, ← g2]; omega
                      · have e3 : (old ++ l).length = (ovs ++ news).length := by rw [List.length_append, List.length_append, l4.length, hv.length]
                        rw [e3, hovs]
                        simp only [List.take_left]
                        exact (l4.append hv).mono (Nat.le_succ _) hR'
                    · rw [if_neg e1] at hy
                      rw [if_neg e1]
                      by_cases e2 : j = b
                      · rw [if_pos e2] at hy; cases hy
                      · rw [if_neg e2] at hy
                        obtain ⟨f1, o2, f2, f3⟩ := h.own j y hy
                        refine ⟨f1, o2, ?_, f3.mono (Nat.le_succ _) hR'⟩
                        rw [setRow_other w _ _ _ (fun e4 => e2 (h.inj j b (by rw [hy]; simp) (by rw [hgb]; simp) e4))]
                        exact f2
                  · simp only [St.new] at hj hj'
                    rw [hgn] at hj hj'
                    by_cases e1 : j = s.nx
                    · by_cases e2 : j' = s.nx
                      · rw [e1, e2]
                      · rw [if_neg e2] at hj'
                        by_cases e3 : j' = b
                        · rw [if_pos e3] at hj'; exact absurd rfl hj'
                        · rw [if_neg e3] at hj'
                          simp only [if_pos e1, if_neg e2] at ee
                          exact absurd (h.inj b j' (by rw [hgb]; simp) hj' ee) (fun e4 => e3 e4.symm)
                    · rw [if_neg e1] at hj
                      by_cases e3 : j = b
                      · rw [if_pos e3] at hj; exact absurd rfl hj
                      · rw [if_neg e3] at hj
                        by_cases e2 : j' = s.nx
                        · simp only [if_neg e1, if_pos e2] at ee
                          exact absurd (h.inj j b hj (by rw [hgb]; simp) ee) e3
                        · rw [if_neg e2] at hj'
                          by_cases e4 : j' = b
                          · rw [if_pos e4] at hj'; exact absurd rfl hj'
                          · rw [if_neg e4] at hj'
                            simp only [if_neg e1, if_neg e2] at ee
                            exact h.inj j j' hj hj' ee
                  · simp only [VR, if_true, St.new]
                    refine ⟨Nat.lt_succ_self _, 0, c', rfl, .inr rfl, fun h => (by cases h), hroom, hcm, ?_⟩
                    rw [← hsz, ← g2]; omega
                · -- there is none
                  have hr := run_append_grow_src (P := P) w t tx ty e' i zv hd hi hzv (some ⟨(R b).1, o', none⟩) m c' ovs hold yv k news hsrc (by omega) (by omega) (growslice_fits (by omega) (by rw [hby]; exact hb3))
                  have hge := grownCap_ge w (m + k) c' e'
                  have hcl := grownCap_le_maxLen w (m + k) c' e' (by unfold maxLen; omega)
                  have hszz : grownCap w (m + k) c' e' * u.size ≤ (ovs ++ news).length + (Builtin.zeroCells zv.cells (grownCap w (m + k) c' e' - (m + k))).size := by
                    rw [size_zeroCells, hzc, List.length_append, l4.length, l1, hnl, hsz, ← Nat.add_mul, ← Nat.add_mul]
                    exact Nat.mul_le_mul_right _ (by omega)
                  by_cases hcb : (ex && Nat.blt c (m + k)) = true
                  · rw [hcb, cond_true]
                    exact op_grown h (l4.append hv) hones _ hge hcl hszz hr
                  · rw [Bool.eq_false_iff.2 hcb, cond_false]
                    exact op_grown (h.forget b) (s := ⟨s.h.set b none, s.nx⟩) (l4.append hv) hones _ hge hcl hszz hr
    · cases ha
end
end Go.Proofs.YthomobhpgnfdlaaGreat
namespace Go.Proofs.YthomobhpgnfdlaaGreat
set_option linter.unusedVariables false
set_option linter.unusedSimpArgs false
set_option linter.unusedSectionVars false
open Go Go.RowKit

def optA (a : Tree AV) (o : Option Operand) : Option (Option AV) := match o with
  | some o => (opd a o).map some
  | none => some none
def isThere : AV → Bool
  | .p _ _ => true
  | .fn _ _ _ => true
  | _ => false
/-- What one operation makes: a value (or none), and the blocks behind it. -/
def evOp (E : Env) (a : Tree AV) (s : St) : Op → Option (Option AV × St)
  | .move x => (opd a x).map fun v => (some v, s)
  | .assign x => (opd a x).map fun v => (some v, s)
  | .pick c x y => match opd a c with
    | some (.b true) => (opd a x).map fun v => (some v, s)
    | some (.b false) => (opd a y).map fun v => (some v, s)
    | _ => none
  | .nilCheck x => match opd a x with
    | some v => bif isThere v then some (some v, s) else none
    | none => none
  | .alloc e => match E.tt.get e with
    | some u => match u.z with
      | some z => bif allOne (cellsA z) then some (some (.p s.nx 0), s.new (.cells e (cellsA z))) else none
      | none => none
    | none => none
  | .box e x => match opd a x with
    | some v => bif allOne (cellsA v) then some (some (.p s.nx 0), s.new (.cells e (cellsA v))) else none
    | none => none
  | .fieldAddr t x f => match opd a x with
    | some (.p b o) => match E.tt.get t with
      | some u => match u.k with
        | .str fs => match nthL fs f with
          | some (q, ft) => match E.tt.get ft with
            | some uf => bif Nat.beq uf.size 0 then none else some (some (.p b (o + q)), s)
            | none => none
          | none => none
        | _ => none
      | none => none
    | _ => none
  | .field t x f => match opd a x with
    | some (.agg l) => match E.tt.get t with
      | some u => match u.k with
        | .str fs => match nthL fs f with
          | some (q, ft) => match E.tt.get ft with
            | some uf => bif Nat.ble (q + uf.size) l.length then (ofCells uf (tkL (dpL l q) uf.size)).map fun v => (some v, s) else none
            | none => none
          | none => none
        | _ => none
      | none => none
    | _ => none
  | .load t x => match opd a x with
    | some (.p b o) => match E.tt.get t with
      | some u => match s.load b o u.size with
        | some l => (ofCells u l).map fun v => (some v, s)
        | none => none
      | none => none
    | _ => none
  | .store t x v => match opd a x with
    | some (.p b o) => match opd a v with
      | some v => match E.tt.get t with
        | some u => bif Nat.beq (cellsA v).length u.size && allOne (cellsA v) then (s.store b o (cellsA v)).map fun s => (none, s) else none
        | none => none
      | none => none
    | _ => none
  | .indexAddr t x i => match opd a x with
    | some (.sl b o l _ _ _) => match opd a i with
      | some (.i _ (.ofNat j)) => match E.tt.get t with
        | some u => match u.k with
          | .slice e => match E.tt.get e with
            | some ue => bif Nat.blt j l then some (some (.p b (o + j * ue.size)), s) else none
            | none => none
          | _ => none
        | none => none
      | _ => none
    | _ => none
  | .index t x i => match opd a x with
    | some (.s l) => match opd a i with
      | some (.i _ (.ofNat j)) => match E.tt.get t with
        | some u => match u.k with
          | .string => (nthL l j).map fun c => (some (.i .u8 (.ofNat c)), s)
          | _ => none
        | none => none
      | _ => none
    | _ => none
  | .binOp o t x y _ => match opd a x with
    | some x => match opd a y with
      | some y => (binA E o t x y).map fun v => (some v, s)
      | none => none
    | none => none
  | .unOp o _ x => match opd a x with
    | some (.b c) => match o with
      | .not => some (some (.b (!c)), s)
      | _ => none
    | some (.i k n) => match o with
      | .neg => some (some (.i k (k.wrap (0 - n))), s)
      | _ => none
    | _ => none
  | .extract x i => match opd a x with
    | some (.tup l) => (nthL l i).map fun v => (some v, s)
    | _ => none
  | .build t ps => match E.tt.get t with
    | some u => match u.k, u.z with
      | .str fs, some (.agg z) => match placesS E fs with
        | some pl => match partsA a ps.toList with
          | some ps => (fillA (nthL pl) z ps).map fun cs => (some (.agg cs), s)
          | none => none
        | none => none
      | _, _ => none
    | none => none
  | .buildSlice t n ps => match E.tt.get t with
    | some u => match u.k with
      | .slice e => match E.tt.get e with
        | some ue => match ue.z with
          | some z => match partsA a ps.toList with
            | some ps => bif Nat.beq (cellsA z).length ue.size && Nat.blt 0 ue.size && Nat.ble (n * ue.size) 16777216 then match fillA (fun i => some (i * ue.size, ue.size)) (repL (cellsA z) n) ps with
              | some cs => bif allOne cs && Nat.beq cs.length (n * ue.size) then some (some (.sl s.nx 0 n n true ue.size), s.new (.cells e cs)) else none
              | none => none
              else none
            | none => none
          | none => none
        | none => none
      | _ => none
    | none => none
  | .makeSlice t l c => match opd a l with
    | some (.i _ (.ofNat n)) => match opd a c with
      | some (.i _ (.ofNat m)) => match E.tt.get t with
        | some u => match u.k with
          | .slice e => match E.tt.get e with
            | some ue => match ue.z with
              | some z => bif Nat.beq n m && Nat.beq (cellsA z).length ue.size && Nat.blt 0 ue.size && Nat.ble (n * ue.size) 16777216 && Nat.ble (ue.bytes * n) 281474976710656 && allOne (cellsA z) then some (some (.sl s.nx 0 n n true ue.size), s.new (.cells e (repL (cellsA z) n))) else none
              | none => none
            | none => none
          | _ => none
        | none => none
      | _ => none
    | _ => none
  | .makeMap t r => match r with
    | none => some (some (.m s.nx), s.new (.map []))
    | some _ => none
  | .mapUpdate t m k v => evUpd E a s t m k v
  | .insert t m k v => evUpd E a s t m k v
  | .lookup t x k ok => match opd a x with
    | some x => match opd a k with
      | some k => match E.tt.get t with
        | some u => match u.k with
          | .map kt et => match E.tt.get kt with
            | some uk => match E.tt.get et with
              | some ue => match ue.z with
                | some z => bif keyK uk.k k then match lookA s k x with
                  | some r => some (some (bif ok then .tup [r.getD z, .b r.isSome] else r.getD z), s)
                  | none => none
                  else none
                | none => none
              | none => none
            | none => none
          | _ => none
        | none => none
      | none => none
    | none => none
  | .slice t x l h m => match m with
    | none => match opd a x with
      | some x => match E.tt.get t with
        | some u => match optA a l with
          | some l => match optA a h with
            | some h => (sliceA E s u x l h).map fun v => (some v, s)
            | none => none
          | none => none
        | none => none
      | none => none
    | some _ => none
  | .convert src dst x => match opd a x with
    | some (.i _ n) => match E.tt.get dst with
      | some u => match u.k with
        | .int k => match E.tt.get src with
          | some _ => some (some (.i k (k.wrap n)), s)
          | none => none
        | _ => none
      | none => none
    | _ => none
  | .makeFunc fn fst cap => match fn with
    | .func f => match mapO (opd a) fst.toList with
      | some l => match mapO (opd a) cap.toList with
        | some m => some (some (.fn f l m), s)
        | none => none
      | none => none
    | _ => none
  | _ => none
where
  evUpd (E : Env) (a : Tree AV) (s : St) (t : TypeId) (m k v : Operand) : Option (Option AV × St) := match opd a m with
    | some (.m b) => match opd a k with
      | some k => match opd a v with
        | some v => match E.tt.get t with
          | some u => match u.k with
            | .map kt _ => match E.tt.get kt with
              | some uk => bif keyK uk.k k && oneOrAgg v then match s.h.get b with
                | some (.map es) => (updM k v es).map fun es => (none, ⟨s.h.set b (some (.map es)), s.nx⟩)
                | _ => none
                else none
              | none => none
            | _ => none
          | none => none
        | none => none
      | none => none
    | _ => none
  oneOrAgg : AV → Bool
    | .tup _ => false
    | _ => true
end Go.Proofs.YthomobhpgnfdlaaGreat
namespace Go.Proofs.YthomobhpgnfdlaaGreat
set_option linter.unusedVariables false
set_option linter.unusedSimpArgs false
set_option linter.unusedSectionVars false
open Go Go.RowKit

section
variable {P : Program} {E : Env} {F : Nat → Option Obj} {R : Nat → Nat × Nat} {s s' : St} {w0 w : World} {n : Nat}
theorem OpRes.pure' {m : Sem Next} {x : AV} {v : Value} (h : HR F R s w0 w) (hr : m.run P w = .ok (.value v) w) (hx : VR R s.nx x v) : OpRes P F R s.nx w0 w m (some x) s :=
  ⟨R, w, fun _ _ => rfl, Nat.le_refl _, h, v, hr, hx⟩
theorem binA_sound (hE : EnvOK P E) {o : BinOp} {t : TypeId} {x y r : AV} (h : binA E o t x y = some r) {a b : Value} (hx : VR R n x a) (hy : VR R n y b) (p q : Operand) :
    ∃ v, ((do eqGuard o t p q a b; binOp o t a b : Sem Value)).run P w = .ok v w ∧ VR R n r v := by
  have hg : ∀ o : BinOp, o ≠ .eql → o ≠ .neq → (eqGuard o t p q a b).run P w = .ok () w := fun o h1 h2 => by cases o <;> first | rfl | exact absurd rfl h1 | exact absurd rfl h2
  have hi : ∀ (o : BinOp), o ≠ .eql → o ≠ .neq → ∀ v, (binOp o t a b).run P w = .ok v w → ((do eqGuard o t p q a b; binOp o t a b : Sem Value)).run P w = .ok v w := fun o h1 h2 v hv => by simp [Sem.run_bind, hg o h1 h2, hv]
  unfold binA at h
  split at h
  · cases hu : E.tt.get t with
    | none => rw [hu] at h; cases h
    | some u =>
      rw [hu] at h
      simp only [Option.map_eq_some_iff] at h
      obtain ⟨c, h, rfl⟩ := h
      have := run_eqA (w := w) hE hu h hx hy p q false
      exact ⟨_, this, by simp only [VR]; rfl⟩
  · cases hu : E.tt.get t with
    | none => rw [hu] at h; cases h
    | some u =>
      rw [hu] at h
      simp only [Option.map_eq_some_iff] at h
      obtain ⟨c, h, rfl⟩ := h
      have := run_eqA (w := w) hE hu h hx hy p q true
      exact ⟨_, this, by simp only [VR]; rfl⟩
  · split at h
    · simp only [VR] at hx hy
      subst hx; subst hy
      rename_i k a' k' c
      rw [ile_eq] at h
      by_cases hc : 0 ≤ c
      · rw [decide_eq_true hc] at h
        cases h
        refine ⟨.int k (k.wrap (a' * 2 ^ (min c.toNat k.bits))), hi .shl (by decide) (by decide) _ ?_, by simp only [VR]⟩
        simp only [binOp, Op.shift]
        rw [if_neg (by omega)]
        rfl
      · rw [decide_eq_false hc] at h; cases h
    · cases h
  · split at h
    · simp only [VR] at hx hy
      subst hx; subst hy
      rename_i k a' k' c
      rw [ile_eq] at h
      by_cases hc : 0 ≤ c
      · rw [decide_eq_true hc] at h
        cases h
        refine ⟨.int k (a'.fdiv (2 ^ (min c.toNat k.bits))), hi .shr (by decide) (by decide) _ ?_, by simp only [VR]⟩
        simp only [binOp, Op.shift]
        rw [if_neg (by omega)]
        rfl
      · rw [decide_eq_false hc] at h; cases h
    · cases h
  · rename_i n1 n2 n3 n4
    split at h
    · simp only [VR] at hx hy
      subst hx; subst hy
      rename_i k a' k' c
      by_cases e : k = k'
      · subst e
        rw [decide_eq_true rfl, cond_true] at h
        obtain ⟨v, h1, h2⟩ := run_binI (P := P) (w := w) (R := R) (n := n) h t
        exact ⟨v, hi o n1 n2 v h1, h2⟩
      · rw [decide_eq_false e] at h; cases h
    · simp only [VR] at hx hy
      obtain ⟨rfl, hl⟩ := hx
      obtain ⟨rfl, hm⟩ := hy
      rename_i l m
      split at h
      · cases hb : Nat.ble (l.length + m.length) 1000000 with
        | false => rw [hb] at h; cases h
        | true =>
          rw [hb, cond_true] at h
          cases h
          have hb := nble_of hb
          refine ⟨.string (bytesA l ++ bytesA m), hi .add (by decide) (by decide) _ ?_, ?_⟩
          · simp only [binOp, Op.stringOp, bytesA_size]
            rw [if_neg (by simp [IntKind.max, IntKind.signed, IntKind.bits]; omega)]
            rfl
          · simp only [VR]
            refine ⟨by rw [bytesA_append], fun c hc => ?_⟩
            rcases List.mem_append.1 hc with hc | hc
            · exact hl c hc
            · exact hm c hc
      · cases h
    · cases h
theorem upd_op_sound (hE : EnvOK P E) (h : HR F R s w0 w) {a : Tree AV} {act : Act} (hT : TR R s.nx a act) {t : TypeId} {m k v : Operand} {r : Option AV} (ho : evOp.evUpd E a s t m k v = some (r, s')) :
    OpRes P F R s.nx w0 w (do Instr.mapUpdate t (act.eval m) (act.eval k) (act.eval v); pure .skip) r s' := by
  unfold evOp.evUpd at ho
  split at ho <;> try (cases ho; done)
  rename_i b hm
  split at ho <;> try (cases ho; done)
  rename_i k' hk
  split at ho <;> try (cases ho; done)
  rename_i v' hv
  split at ho <;> try (cases ho; done)
  rename_i u hu
  split at ho <;> try (cases ho; done)
  rename_i kt et hke
  split at ho <;> try (cases ho; done)
  rename_i uk huk
  cases hb : (keyK uk.k k' && evOp.oneOrAgg v') with
  | false => rw [hb] at ho; cases ho
  | true =>
    rw [hb, cond_true] at ho
    rw [Bool.and_eq_true] at hb
    split at ho <;> try (cases ho; done)
    rename_i es hes
    simp only [Option.map_eq_some_iff] at ho
    obtain ⟨es', hup, e⟩ := ho
    cases e
    have hmv := opd_sound hT hm
    simp only [VR] at hmv
    rw [hmv.2]
    exact op_mapUpdate hE h hu hke huk hb.1 (opd_sound hT hk) (opd_sound hT hv) hes hup
theorem os_move (hE : EnvOK P E) (h : HR F R s w0 w) {a : Tree AV} {act : Act} (hT : TR R s.nx a act) (x : Operand) {r : Option AV} (ho : evOp E a s (.move x) = some (r, s')) : OpRes P F R s.nx w0 w (pure (.value (act.eval x))) r s' := by
  simp only [evOp] at ho
  simp only [Option.map_eq_some_iff] at ho
  obtain ⟨v, hv, e⟩ := ho
  cases e
  exact OpRes.pure' h rfl (opd_sound hT hv)
theorem os_assign (hE : EnvOK P E) (h : HR F R s w0 w) {a : Tree AV} {act : Act} (hT : TR R s.nx a act) (x : Operand) {r : Option AV} (ho : evOp E a s (.assign x) = some (r, s')) : OpRes P F R s.nx w0 w (pure (.value (act.eval x))) r s' := by
  simp only [evOp] at ho
  simp only [Option.map_eq_some_iff] at ho
  obtain ⟨v, hv, e⟩ := ho
  cases e
  exact OpRes.pure' h rfl (opd_sound hT hv)
theorem os_pick (hE : EnvOK P E) (h : HR F R s w0 w) {a : Tree AV} {act : Act} (hT : TR R s.nx a act) (c x y : Operand) {r : Option AV} (ho : evOp E a s (.pick c x y) = some (r, s')) : OpRes P F R s.nx w0 w (do pure (.value (if ← asBool (act.eval c) then act.eval x else act.eval y))) r s' := by
  simp only [evOp] at ho
  split at ho <;> try (cases ho; done)
  · rename_i hc
    simp only [Option.map_eq_some_iff] at ho
    obtain ⟨v, hv, e⟩ := ho
    cases e
    have hcv := opd_sound hT hc
    simp only [VR] at hcv
    exact OpRes.pure' h (v := act.eval x) (by simp [hcv, asBool]) (opd_sound hT hv)
  · rename_i hc
    simp only [Option.map_eq_some_iff] at ho
    obtain ⟨v, hv, e⟩ := ho
    cases e
    have hcv := opd_sound hT hc
    simp only [VR] at hcv
    exact OpRes.pure' h (v := act.eval y) (by simp [hcv, asBool]) (opd_sound hT hv)
theorem os_alloc (hE : EnvOK P E) (h : HR F R s w0 w) {a : Tree AV} {act : Act} (hT : TR R s.nx a act) (e : TypeId) {r : Option AV} (ho : evOp E a s (.alloc e) = some (r, s')) : OpRes P F R s.nx w0 w (do pure (.value (← Instr.alloc e true (.tuple #[])))) r s' := by
  simp only [evOp] at ho
  split at ho <;> try (cases ho; done)
  rename_i u hu
  split at ho <;> try (cases ho; done)
  rename_i z hz
  cases hb : allOne (cellsA z) with
  | false => rw [hb] at ho; cases ho
  | true =>
    rw [hb, cond_true] at ho
    cases ho
    exact op_alloc hE h hu hz hb
theorem os_box (hE : EnvOK P E) (h : HR F R s w0 w) {a : Tree AV} {act : Act} (hT : TR R s.nx a act) (e : TypeId) (x : Operand) {r : Option AV} (ho : evOp E a s (.box e x) = some (r, s')) : OpRes P F R s.nx w0 w (do pure (.value (← Instr.box e (act.eval x)))) r s' := by
  simp only [evOp] at ho
  split at ho <;> try (cases ho; done)
  rename_i v hv
  cases hb : allOne (cellsA v) with
  | false => rw [hb] at ho; cases ho
  | true =>
    rw [hb, cond_true] at ho
    cases ho
    exact op_box h (opd_sound hT hv) hb
theorem os_build (hE : EnvOK P E) (h : HR F R s w0 w) {a : Tree AV} {act : Act} (hT : TR R s.nx a act) (t : TypeId) (ps : Array (Nat × Operand)) {r : Option AV} (ho : evOp E a s (.build t ps) = some (r, s')) : OpRes P F R s.nx w0 w (do pure (.value (← Instr.build t (ps.map fun (i, x) => (i, act.eval x))))) r s' := by
  simp only [evOp] at ho
  split at ho <;> try (cases ho; done)
  rename_i u hu
  split at ho <;> try (cases ho; done)
  rename_i fs z hk hz
  split at ho <;> try (cases ho; done)
  rename_i pl hpl
  split at ho <;> try (cases ho; done)
  rename_i ps' hps
  simp only [Option.map_eq_some_iff] at ho
  obtain ⟨cs, hf, e⟩ := ho
  cases e
  obtain ⟨h1, h2⟩ := parts_sound hT hps
  have := op_build (us := ps.map fun (i, x) => (i, act.eval x)) hE h hu hk hz hpl (by simpa using h1) (by simpa using h2) hf
  exact this
theorem os_buildSlice (hE : EnvOK P E) (h : HR F R s w0 w) {a : Tree AV} {act : Act} (hT : TR R s.nx a act) (t : TypeId) (len : Nat) (ps : Array (Nat × Operand)) {r : Option AV} (ho : evOp E a s (.buildSlice t len ps) = some (r, s')) : OpRes P F R s.nx w0 w (do pure (.value (← Instr.buildSlice t len (ps.map fun (i, x) => (i, act.eval x))))) r s' := by
  simp only [evOp] at ho
  split at ho <;> try (cases ho; done)
  rename_i u hu
  split at ho <;> try (cases ho; done)
  rename_i e hk
  split at ho <;> try (cases ho; done)
  rename_i ue hue
  split at ho <;> try (cases ho; done)
  rename_i z hz
  split at ho <;> try (cases ho; done)
  rename_i ps' hps
  cases hb : (Nat.beq (cellsA z).length ue.size && Nat.blt 0 ue.size && Nat.ble (len * ue.size) 16777216) with
  | false => rw [hb] at ho; cases ho
  | true =>
    rw [hb, cond_true] at ho
    rw [Bool.and_eq_true, Bool.and_eq_true] at hb
    split at ho <;> try (cases ho; done)
    rename_i cs hf
    cases hb2 : (allOne cs && Nat.beq cs.length (len * ue.size)) with
    | false => rw [hb2] at ho; cases ho
    | true =>
      rw [hb2, cond_true] at ho
      cases ho
      rw [Bool.and_eq_true] at hb2
      obtain ⟨h1, h2⟩ := parts_sound hT hps
      have q1 : (cellsA z).length = ue.size := nbeq_of hb.1.1
      have q2 : 0 < ue.size := nblt_of hb.1.2
      have q3 : len * ue.size ≤ 16777216 := nble_of hb.2
      have q4 : cs.length = len * ue.size := nbeq_of hb2.2
      have g1 : (ps.map fun (i, x) => (i, act.eval x)).toList.map Prod.fst = ps'.map Prod.fst := by simpa using h1
      have g2 : VRL R s.nx (ps'.map Prod.snd) ((ps.map fun (i, x) => (i, act.eval x)).toList.map Prod.snd) := by simpa using h2
      exact op_buildSlice hE h hu hk hue hz q1 q2 q3 g1 g2 hf hb2.1 q4
theorem os_insert (hE : EnvOK P E) (h : HR F R s w0 w) {a : Tree AV} {act : Act} (hT : TR R s.nx a act) (t : TypeId) (m k v : Operand) {r : Option AV} (ho : evOp E a s (.insert t m k v) = some (r, s')) : OpRes P F R s.nx w0 w (do Instr.mapUpdate t (act.eval m) (act.eval k) (act.eval v); pure .skip) r s' := upd_op_sound hE h hT ho
theorem os_mapUpdate (hE : EnvOK P E) (h : HR F R s w0 w) {a : Tree AV} {act : Act} (hT : TR R s.nx a act) (t : TypeId) (m k v : Operand) {r : Option AV} (ho : evOp E a s (.mapUpdate t m k v) = some (r, s')) : OpRes P F R s.nx w0 w (do Instr.mapUpdate t (act.eval m) (act.eval k) (act.eval v); pure .skip) r s' := upd_op_sound hE h hT ho
theorem os_load (hE : EnvOK P E) (h : HR F R s w0 w) {a : Tree AV} {act : Act} (hT : TR R s.nx a act) (t : TypeId) (x : Operand) {r : Option AV} (ho : evOp E a s (.load t x) = some (r, s')) : OpRes P F R s.nx w0 w (do pure (.value (← Instr.loadAt t (act.eval x)))) r s' := by
  simp only [evOp] at ho
  split at ho <;> try (cases ho; done)
  rename_i b q hx
  split at ho <;> try (cases ho; done)
  rename_i u hu
  split at ho <;> try (cases ho; done)
  rename_i l hl
  simp only [Option.map_eq_some_iff] at ho
  obtain ⟨v, hv, e⟩ := ho
  cases e
  have hxv := opd_sound hT hx
  simp only [VR] at hxv
  obtain ⟨v', h1, h2⟩ := run_loadA hE h hu hl hv
  rw [hxv.2]
  exact OpRes.val h h1 h2
theorem os_store (hE : EnvOK P E) (h : HR F R s w0 w) {a : Tree AV} {act : Act} (hT : TR R s.nx a act) (t : TypeId) (x v : Operand) {r : Option AV} (ho : evOp E a s (.store t x v) = some (r, s')) : OpRes P F R s.nx w0 w (do Instr.storeAt t (act.eval x) (act.eval v); pure .skip) r s' := by
  simp only [evOp] at ho
  split at ho <;> try (cases ho; done)
  rename_i b q hx
  split at ho <;> try (cases ho; done)
  rename_i v' hv
  split at ho <;> try (cases ho; done)
  rename_i u hu
  cases hb : (Nat.beq (cellsA v').length u.size && allOne (cellsA v')) with
  | false => rw [hb] at ho; cases ho
  | true =>
    rw [hb, cond_true] at ho
    rw [Bool.and_eq_true] at hb
    simp only [Option.map_eq_some_iff] at ho
    obtain ⟨s2, hs2, e⟩ := ho
    cases e
    have hxv := opd_sound hT hx
    simp only [VR] at hxv
    obtain ⟨e1, w', h1, h2⟩ := run_storeA hE h hu (opd_sound hT hv) (nbeq_of hb.1) (allOne_spec hb.2) hs2
    refine ⟨R, w', fun _ _ => rfl, by omega, h2, ?_⟩
    rw [hxv.2]
    simp [Sem.run_bind, h1]
theorem os_nilCheck (hE : EnvOK P E) (h : HR F R s w0 w) {a : Tree AV} {act : Act} (hT : TR R s.nx a act) (x : Operand) {r : Option AV} (ho : evOp E a s (.nilCheck x) = some (r, s')) (d : Option Tmp) (ty : TypeId) (pos : String) (af : Array Edge) (gd : Option (Nat × Bool)) : OpRes P F R s.nx w0 w (execOp act.eval ⟨d, .nilCheck x, ty, pos, af, gd⟩) r s' := by
  simp only [evOp] at ho
  split at ho <;> try (cases ho; done)
  rename_i v hv
  have hvv := opd_sound hT hv
  cases v <;> simp only [isThere, cond_true, cond_false] at ho <;> try (cases ho; done)
  case p b q =>
    cases ho
    have hvv' := hvv
    simp only [VR] at hvv
    exact OpRes.pure' h (v := act.eval x) (by unfold execOp; simp only [hvv.2]; rfl) hvv'
  case fn f l m =>
    cases ho
    have hvv' := hvv
    simp only [VR] at hvv
    obtain ⟨us, vs, _, _, e⟩ := hvv
    exact OpRes.pure' h (v := act.eval x) (by unfold execOp; simp only [e]; rfl) hvv'
theorem os_binOp (hE : EnvOK P E) (h : HR F R s w0 w) {a : Tree AV} {act : Act} (hT : TR R s.nx a act) (op : BinOp) (t : TypeId) (x y : Operand) (t2 : TypeId) {r : Option AV} (ho : evOp E a s (.binOp op t x y t2) = some (r, s')) : OpRes P F R s.nx w0 w (do pure (.value (← (do eqGuard op t x y (act.eval x) (act.eval y); binOp op t (act.eval x) (act.eval y) : Sem Value)))) r s' := by
  simp only [evOp] at ho
  split at ho <;> try (cases ho; done)
  rename_i x' hx
  split at ho <;> try (cases ho; done)
  rename_i y' hy
  simp only [Option.map_eq_some_iff] at ho
  obtain ⟨v, hv, e⟩ := ho
  cases e
  obtain ⟨v', h1, h2⟩ := binA_sound (P := P) (w := w) hE hv (opd_sound hT hx) (opd_sound hT hy) x y
  exact OpRes.val h h1 h2
theorem os_unOp (hE : EnvOK P E) (h : HR F R s w0 w) {a : Tree AV} {act : Act} (hT : TR R s.nx a act) (op : UnOp) (t : TypeId) (x : Operand) {r : Option AV} (ho : evOp E a s (.unOp op t x) = some (r, s')) : OpRes P F R s.nx w0 w (do pure (.value (← Op.unary op (act.eval x)))) r s' := by
  simp only [evOp] at ho
  split at ho <;> try (cases ho; done)
  · rename_i c hx
    have hxv := opd_sound hT hx
    simp only [VR] at hxv
    cases op <;> simp only at ho <;> try (cases ho; done)
    cases ho
    exact OpRes.val h (v := .bool (!c)) (by rw [hxv]; simp [Op.unary]) (by simp only [VR])
  · rename_i k j hx
    have hxv := opd_sound hT hx
    simp only [VR] at hxv
    cases op <;> simp only at ho <;> try (cases ho; done)
    cases ho
    exact OpRes.val h (v := .int k (k.wrap (0 - j))) (by rw [hxv]; simp [Op.unary, Op.intArith]) (by simp only [VR])
theorem os_convert (hE : EnvOK P E) (h : HR F R s w0 w) {a : Tree AV} {act : Act} (hT : TR R s.nx a act) (src dst : TypeId) (x : Operand) {r : Option AV} (ho : evOp E a s (.convert src dst x) = some (r, s')) : OpRes P F R s.nx w0 w (do pure (.value (← convert src dst (act.eval x)))) r s' := by
  simp only [evOp] at ho
  split at ho <;> try (cases ho; done)
  rename_i k j hx
  split at ho <;> try (cases ho; done)
  rename_i u hu
  split at ho <;> try (cases ho; done)
  rename_i k' hk
  split at ho <;> try (cases ho; done)
  rename_i us hus
  cases ho
  have hxv := opd_sound hT hx
  simp only [VR] at hxv
  obtain ⟨_, ⟨d, hd, hkd⟩, -⟩ := hE.tt _ _ hu
  obtain ⟨_, ⟨ds, hds, hksd⟩, -⟩ := hE.tt _ _ hus
  rw [hk] at hkd
  obtain rfl : d = .int k' := hkd
  refine OpRes.val h (v := .int k' (k'.wrap j)) ?_ (by simp only [VR])
  rw [hxv]
  unfold convert
  simp only [Sem.run_bind, run_underlying hds, run_underlying hd, Result.andThen_ok]
  cases ds <;> simp [Conv.intToInt]
theorem os_makeFunc (hE : EnvOK P E) (h : HR F R s w0 w) {a : Tree AV} {act : Act} (hT : TR R s.nx a act) (fn : Fn) (fst cap : Array Operand) {r : Option AV} (ho : evOp E a s (.makeFunc fn fst cap) = some (r, s')) : OpRes P F R s.nx w0 w (do pure (.value (← Instr.makeFunc fn (fst.map act.eval) (cap.map act.eval)))) r s' := by
  simp only [evOp] at ho
  split at ho <;> try (cases ho; done)
  rename_i f
  split at ho <;> try (cases ho; done)
  rename_i l hl
  split at ho <;> try (cases ho; done)
  rename_i m hm
  cases ho
  have h1 := opds_sound hT hl
  have h2 := opds_sound hT hm
  refine OpRes.val h (v := .func (.func f) (fst.map act.eval) (cap.map act.eval)) (by simp [Instr.makeFunc]) ?_
  simp only [VR]
  exact ⟨_, _, h1, h2, by congr 1 <;> (apply Array.ext'; simp)⟩
theorem os_makeMap (hE : EnvOK P E) (h : HR F R s w0 w) {a : Tree AV} {act : Act} (hT : TR R s.nx a act) (t : TypeId) (rs : Option Operand) {r : Option AV} (ho : evOp E a s (.makeMap t rs) = some (r, s')) : OpRes P F R s.nx w0 w (do pure (.value (← Instr.makeMap t (rs.map act.eval)))) r s' := by
  simp only [evOp] at ho
  split at ho <;> try (cases ho; done)
  cases ho
  exact op_makeMap h t
theorem os_makeSlice (hE : EnvOK P E) (h : HR F R s w0 w) {a : Tree AV} {act : Act} (hT : TR R s.nx a act) (t : TypeId) (l c : Operand) {r : Option AV} (ho : evOp E a s (.makeSlice t l c) = some (r, s')) : OpRes P F R s.nx w0 w (do pure (.value (← Instr.makeSlice t (act.eval l) (act.eval c)))) r s' := by
  simp only [evOp] at ho
  split at ho <;> try (cases ho; done)
  rename_i k1 j1 hl
  split at ho <;> try (cases ho; done)
  rename_i k2 j2 hc
  split at ho <;> try (cases ho; done)
  rename_i u hu
  split at ho <;> try (cases ho; done)
  rename_i e hk
  split at ho <;> try (cases ho; done)
  rename_i ue hue
  split at ho <;> try (cases ho; done)
  rename_i z hz
  cases hb : (Nat.beq j1 j2 && Nat.beq (cellsA z).length ue.size && Nat.blt 0 ue.size && Nat.ble (j1 * ue.size) 16777216 && Nat.ble (ue.bytes * j1) 281474976710656 && allOne (cellsA z)) with
  | false => rw [hb] at ho; cases ho
  | true =>
    rw [hb, cond_true] at ho
    cases ho
    simp only [Bool.and_eq_true] at hb
    obtain ⟨⟨⟨⟨⟨b1, b2⟩, b3⟩, b4⟩, b5⟩, b6⟩ := hb
    have b1 := nbeq_of b1
    subst b1
    have hlv := opd_sound hT hl
    have hcv := opd_sound hT hc
    simp only [VR] at hlv hcv
    rw [hlv, hcv]
    exact op_makeSlice hE h hu hk hue hz (nbeq_of b2) (nblt_of b3) (nble_of b4) (nble_of b5) b6 k1 k2
theorem os_slice (hE : EnvOK P E) (h : HR F R s w0 w) {a : Tree AV} {act : Act} (hT : TR R s.nx a act) (t : TypeId) (x : Operand) (l hh m : Option Operand) {r : Option AV} (ho : evOp E a s (.slice t x l hh m) = some (r, s')) : OpRes P F R s.nx w0 w (do pure (.value (← Instr.sliceAt t (act.eval x) (l.map act.eval) (hh.map act.eval) (m.map act.eval)))) r s' := by
  simp only [evOp] at ho
  split at ho <;> try (cases ho; done)
  split at ho <;> try (cases ho; done)
  rename_i x' hx
  split at ho <;> try (cases ho; done)
  rename_i u hu
  split at ho <;> try (cases ho; done)
  rename_i l' hl
  split at ho <;> try (cases ho; done)
  rename_i h' hh'
  simp only [Option.map_eq_some_iff] at ho
  obtain ⟨v, hv, e⟩ := ho
  cases e
  exact op_slice hE h hT hu (opd_sound hT hx) hl hh' hv
theorem os_fieldAddr (hE : EnvOK P E) (h : HR F R s w0 w) {a : Tree AV} {act : Act} (hT : TR R s.nx a act) (t : TypeId) (x : Operand) (f : Nat) {r : Option AV} (ho : evOp E a s (.fieldAddr t x f) = some (r, s')) : OpRes P F R s.nx w0 w (do pure (.value (← Instr.fieldAt t (act.eval x) f))) r s' := by
  simp only [evOp] at ho
  split at ho <;> try (cases ho; done)
  rename_i b q hx
  split at ho <;> try (cases ho; done)
  rename_i u hu
  split at ho <;> try (cases ho; done)
  rename_i fs hk
  split at ho <;> try (cases ho; done)
  rename_i q' ft hf
  split at ho <;> try (cases ho; done)
  rename_i uf huf
  cases hb : Nat.beq uf.size 0 with
  | true => rw [hb] at ho; cases ho
  | false =>
    rw [hb, cond_false] at ho
    cases ho
    have hxv := opd_sound hT hx
    simp only [VR] at hxv
    rw [nthL_eq] at hf
    rw [hxv.2]
    exact OpRes.val h (op_fieldAddr hE hu hk hf huf (fun e => by rw [e] at hb; cases hb) _ _) (by simp only [VR]; exact ⟨hxv.1, trivial⟩)
theorem os_field (hE : EnvOK P E) (h : HR F R s w0 w) {a : Tree AV} {act : Act} (hT : TR R s.nx a act) (t : TypeId) (x : Operand) (f : Nat) {r : Option AV} (ho : evOp E a s (.field t x f) = some (r, s')) : OpRes P F R s.nx w0 w (do pure (.value (← Instr.field t (act.eval x) f))) r s' := by
  simp only [evOp] at ho
  split at ho <;> try (cases ho; done)
  rename_i l hx
  split at ho <;> try (cases ho; done)
  rename_i u hu
  split at ho <;> try (cases ho; done)
  rename_i fs hk
  split at ho <;> try (cases ho; done)
  rename_i q' ft hf
  split at ho <;> try (cases ho; done)
  rename_i uf huf
  cases hb : Nat.ble (q' + uf.size) l.length with
  | false => rw [hb] at ho; cases ho
  | true =>
    rw [hb, cond_true] at ho
    simp only [Option.map_eq_some_iff] at ho
    obtain ⟨v, hv, e⟩ := ho
    cases e
    rw [nthL_eq] at hf
    exact op_field hE h hu hk hf huf (opd_sound hT hx) (nble_of hb) hv
theorem os_indexAddr (hE : EnvOK P E) (h : HR F R s w0 w) {a : Tree AV} {act : Act} (hT : TR R s.nx a act) (t : TypeId) (x i : Operand) {r : Option AV} (ho : evOp E a s (.indexAddr t x i) = some (r, s')) : OpRes P F R s.nx w0 w (do pure (.value (← Instr.indexAt t (act.eval x) (act.eval i)))) r s' := by
  simp only [evOp] at ho
  split at ho <;> try (cases ho; done)
  rename_i b q l c ex zz hx
  split at ho <;> try (cases ho; done)
  rename_i k j hi
  split at ho <;> try (cases ho; done)
  rename_i u hu
  split at ho <;> try (cases ho; done)
  rename_i e hk
  split at ho <;> try (cases ho; done)
  rename_i ue hue
  cases hb : Nat.blt j l with
  | false => rw [hb] at ho; cases ho
  | true =>
    rw [hb, cond_true] at ho
    cases ho
    have hiv := opd_sound hT hi
    simp only [VR] at hiv
    have hxv := opd_sound hT hx
    have hr := op_indexAddr (P := P) (w := w) hE hu hk hue hxv (k := k) (nblt_of hb)
    simp only [VR] at hxv
    rw [hiv]
    exact OpRes.val h hr (by simp only [VR]; exact ⟨hxv.1, trivial⟩)
theorem os_index (hE : EnvOK P E) (h : HR F R s w0 w) {a : Tree AV} {act : Act} (hT : TR R s.nx a act) (t : TypeId) (x i : Operand) {r : Option AV} (ho : evOp E a s (.index t x i) = some (r, s')) : OpRes P F R s.nx w0 w (do pure (.value (← Instr.index t (act.eval x) (act.eval i)))) r s' := by
  simp only [evOp] at ho
  split at ho <;> try (cases ho; done)
  rename_i l hx
  split at ho <;> try (cases ho; done)
  rename_i k j hi
  split at ho <;> try (cases ho; done)
  rename_i u hu
  split at ho <;> try (cases ho; done)
  rename_i hk
  simp only [Option.map_eq_some_iff] at ho
  obtain ⟨c, hc, e⟩ := ho
  cases e
  have hiv := opd_sound hT hi
  have hxv := opd_sound hT hx
  simp only [VR] at hiv hxv
  obtain ⟨hxe, hxb⟩ := hxv
  rw [nthL_eq] at hc
  obtain ⟨_, ⟨d, hd, hkd⟩, -⟩ := hE.tt _ _ hu
  rw [hk] at hkd
  obtain rfl : d = .string := hkd
  have hjl := (List.getElem?_eq_some_iff.1 hc).1
  have hbj : (bytesA l)[j]? = some (UInt8.ofNat c) := by
    have : (bytesA l)[j]? = (bytesA l).data[j]? := by
      by_cases hj : j < (bytesA l).size
      · rw [getElem?_pos (bytesA l) j hj, getElem?_pos (bytesA l).data j hj]; rfl
      · rw [bytesA_size] at hj; omega
    rw [this]
    simp [bytesA, hc]
  have hcb := hxb c (List.mem_of_getElem? hc)
  refine OpRes.val h (v := .int .u8 (c : Int)) ?_ (by simp only [VR]; rfl)
  rw [hxe, hiv]
  have h0 : (0 : Int) ≤ Int.ofNat j := Int.natCast_nonneg j
  simp [Instr.index, asIntOf, run_underlying hd, hbj, Nat.mod_eq_of_lt hcb]
theorem os_lookup (hE : EnvOK P E) (h : HR F R s w0 w) {a : Tree AV} {act : Act} (hT : TR R s.nx a act) (t : TypeId) (x k : Operand) (ok : Bool) {r : Option AV} (ho : evOp E a s (.lookup t x k ok) = some (r, s')) : OpRes P F R s.nx w0 w (do pure (.value (← Instr.lookup t (act.eval x) (act.eval k) ok))) r s' := by
  simp only [evOp] at ho
  split at ho <;> try (cases ho; done)
  rename_i x' hx
  split at ho <;> try (cases ho; done)
  rename_i k' hk
  split at ho <;> try (cases ho; done)
  rename_i u hu
  split at ho <;> try (cases ho; done)
  rename_i kt et hke
  split at ho <;> try (cases ho; done)
  rename_i uk huk
  split at ho <;> try (cases ho; done)
  rename_i ue hue
  split at ho <;> try (cases ho; done)
  rename_i z hz
  cases hb : keyK uk.k k' with
  | false => rw [hb] at ho; cases ho
  | true =>
    rw [hb, cond_true] at ho
    split at ho <;> try (cases ho; done)
    rename_i r' hr
    cases ho
    exact op_lookup hE h hu hke huk hue hz (opd_sound hT hx) hb (opd_sound hT hk) hr ok
theorem os_extract (hE : EnvOK P E) (h : HR F R s w0 w) {a : Tree AV} {act : Act} (hT : TR R s.nx a act) (x : Operand) (i : Nat) {r : Option AV} (ho : evOp E a s (.extract x i) = some (r, s')) : OpRes P F R s.nx w0 w (do pure (.value (← Instr.extract (act.eval x) i))) r s' := by
  simp only [evOp] at ho
  split at ho <;> try (cases ho; done)
  rename_i l hx
  simp only [Option.map_eq_some_iff] at ho
  obtain ⟨v, hv, e⟩ := ho
  cases e
  rw [nthL_eq] at hv
  exact op_extract h (opd_sound hT hx) hv
theorem op_sound (hE : EnvOK P E) (h : HR F R s w0 w) {a : Tree AV} {act : Act} (hT : TR R s.nx a act) {o : Oper} {r : Option AV} (ho : evOp E a s o.op = some (r, s')) : OpRes P F R s.nx w0 w (execOp act.eval o) r s' := by
  obtain ⟨d, op, ty, pos, af, gd⟩ := o
  cases op
  case move x => exact os_move hE h hT x ho
  case assign x => exact os_assign hE h hT x ho
  case pick c x y => exact os_pick hE h hT c x y ho
  case alloc e => exact os_alloc hE h hT e ho
  case box e x => exact os_box hE h hT e x ho
  case build t ps => exact os_build hE h hT t ps ho
  case buildSlice t len ps => exact os_buildSlice hE h hT t len ps ho
  case insert t m k v => exact os_insert hE h hT t m k v ho
  case mapUpdate t m k v => exact os_mapUpdate hE h hT t m k v ho
  case load t x => exact os_load hE h hT t x ho
  case store t x v => exact os_store hE h hT t x v ho
  case nilCheck x => exact os_nilCheck hE h hT x ho d ty pos af gd
  case binOp op t x y t2 => exact os_binOp hE h hT op t x y t2 ho
  case unOp op t x => exact os_unOp hE h hT op t x ho
  case convert src dst x => exact os_convert hE h hT src dst x ho
  case makeFunc fn fst cap => exact os_makeFunc hE h hT fn fst cap ho
  case makeMap t rs => exact os_makeMap hE h hT t rs ho
  case makeSlice t l c => exact os_makeSlice hE h hT t l c ho
  case slice t x l hh m => exact os_slice hE h hT t x l hh m ho
  case fieldAddr t x f => exact os_fieldAddr hE h hT t x f ho
  case field t x f => exact os_field hE h hT t x f ho
  case indexAddr t x i => exact os_indexAddr hE h hT t x i ho
  case index t x i => exact os_index hE h hT t x i ho
  case lookup t x k ok => exact os_lookup hE h hT t x k ok ho
  case extract x i => exact os_extract hE h hT x i ho
  all_goals cases ho
end
end Go.Proofs.YthomobhpgnfdlaaGreat
namespace Go.Proofs.YthomobhpgnfdlaaGreat
set_option linter.unusedVariables false
set_option linter.unusedSimpArgs false
set_option linter.unusedSectionVars false
open Go Go.RowKit

def copyA (s : St) (z : Nat) (x y : AV) : Option (Nat × St) := match x, y with
  | .sl b o n _ _ q, .sl b' o' m _ _ q' => bif Nat.beq q z && Nat.beq q' z then match s.load b' o' ((bif Nat.ble m n then m else n) * z) with
      | some l => (s.store b o l).map fun s => (bif Nat.ble m n then m else n, s)
      | none => none
    else none
  | .sl _ _ _ _ _ _, .ns => some (0, s)
  | .ns, .ns => some (0, s)
  | .ns, .sl _ _ _ _ _ _ => some (0, s)
  | _, _ => none
/-- What a built-in function makes. -/
def evB (E : Env) (s : St) (b : Builtin) (ats : List TypeId) (xs : List AV) : Option (Option AV × St) := match b with
  | .len => match ats, xs with
    | [t], [x] => match E.tt.get t with
      | some u => (lenA s u x).map fun n => (some (.i .i64 (.ofNat n)), s)
      | none => none
    | _, _ => none
  | .append => match ats, xs with
    | [t, tx], [x, y] => match E.tt.get t with
      | some u0 => match u0.k with
        | .slice e => match E.tt.get e with
          | some u => match u.z with
            | some z => match E.tt.get tx with
              | some ux => bif Nat.beq (cellsA z).length u.size && Nat.blt 0 u.size then (appendA s e u ux x y).map fun r => (some r.1, r.2) else none
              | none => none
            | none => none
          | none => none
        | _ => none
      | none => none
    | _, _ => none
  | .copy => match ats, xs with
    | [t, tx], [x, y] => match E.tt.get t with
      | some u0 => match u0.k with
        | .slice e => match E.tt.get e with
          | some u => (copyA s u.size x y).map fun r => (some (.i .i64 (.ofNat r.1)), r.2)
          | none => none
        | _ => none
      | none => none
    | _, _ => none
  | .max => match xs with
    | [.i k x, .i _ y] => some (some (.i k (bif ile y x then x else y)), s)
    | _ => none
  | .min => match xs with
    | [.i k x, .i _ y] => some (some (.i k (bif ile x y then x else y)), s)
    | _ => none
  | _ => none
section
variable {P : Program} {E : Env} {F : Nat → Option Obj} {R : Nat → Nat × Nat} {s s' : St} {w0 w : World} {n : Nat}
theorem VRL.two {x y : AV} {vs : Array Value} (h : VRL R n [x, y] vs.toList) : ∃ a b, vs = #[a, b] ∧ VR R n x a ∧ VR R n y b := by
  simp only [VRL] at h
  obtain ⟨a, us, e, h1, b, us', e', h2, e''⟩ := h
  subst e''
  subst e'
  exact ⟨a, b, by rw [← Array.toList_inj, e], h1, h2⟩
theorem VRL.single {x : AV} {vs : Array Value} (h : VRL R n [x] vs.toList) : ∃ a, vs = #[a] ∧ VR R n x a := by
  simp only [VRL] at h
  obtain ⟨a, us, e, h1, e'⟩ := h
  subst e'
  exact ⟨a, by rw [← Array.toList_inj, e], h1⟩
theorem op_copy (hE : EnvOK P E) (h : HR F R s w0 w) {t tx ty e : TypeId} {u0 u : TI} (hu0 : E.tt.get t = some u0) (hk0 : u0.k = .slice e) (hu : E.tt.get e = some u)
    {x y : AV} {xv yv : Value} (hx : VR R s.nx x xv) (hy : VR R s.nx y yv) {k : Nat} (hc : copyA s u.size x y = some (k, s')) :
    s'.nx = s.nx ∧ ∃ w', (Builtin.copy_ #[t, tx] ty #[xv, yv]).run P w = .ok (.int .i64 (k : Int)) w' ∧ HR F R s' w0 w' := by
  obtain ⟨_, ⟨d, hd, hkd⟩, -⟩ := hE.tt t u0 hu0
  obtain ⟨_, _, i, hi, hsz, _, _⟩ := hE.tt e u hu
  rw [hk0] at hkd
  obtain rfl : d = .slice e := hkd
  unfold copyA at hc
  split at hc
  · rename_i b o n c ex q b' o' m c' ex' q'
    cases hb : (Nat.beq q u.size && Nat.beq q' u.size) with
    | false => rw [hb] at hc; cases hc
    | true =>
      rw [hb, cond_true] at hc
      rw [Bool.and_eq_true] at hb
      have hq := nbeq_of hb.1
      have hq' := nbeq_of hb.2
      have hmin : (bif Nat.ble m n then m else n) = Nat.min m n := by
        cases hm : Nat.ble m n with
        | true => exact (Nat.min_eq_left (nble_of hm)).symm
        | false =>
          have : ¬ m ≤ n := fun hle => by rw [Nat.ble_eq_true_of_le hle] at hm; cases hm
          have hnm : n ≤ m := by omega
          exact (Nat.min_eq_right hnm).symm
      rw [hmin] at hc
      cases hl : s.load b' o' (Nat.min m n * u.size) with
      | none => rw [hl] at hc; cases hc
      | some l =>
        rw [hl] at hc
        simp only [Option.map_eq_some_iff] at hc
        obtain ⟨s1, hs1, e1⟩ := hc
        cases e1
        obtain ⟨h1, h2, h3, vs, h4, h5⟩ := h.load hl
        simp only [VR] at hx hy
        obtain ⟨_, p, pc, rfl, ho, _, hlc, _⟩ := hx
        obtain ⟨_, p', pc', rfl, ho', _, hlc', _⟩ := hy
        have hle1 : Nat.min m n ≤ m := Nat.min_le_left m n
        have hle2 : Nat.min m n ≤ n := Nat.min_le_right m n
        have hlen : vs.length = Nat.min m n * u.size := by rw [h4.length, h1]
        have hfc : ∀ w'', (∀ j v, vs[j]? = some v → w''.cell? ((⟨(R b').1, p', none⟩ : Addr).add j) = some v) → (Builtin.firstCells u.size (Nat.min m n) (.slice (some ⟨(R b').1, p', none⟩) m pc')).run P w'' = .ok vs.toArray w'' := fun w'' hw => run_firstCells_some w'' u.size (Nat.min m n) _ m pc' vs hlen hw
        have hcell : ∀ j v, vs[j]? = some v → w.cell? ((⟨(R b').1, p', none⟩ : Addr).add j) = some v := fun j v hv => by
          have hj := (List.getElem?_eq_some_iff.1 hv).1
          rw [hlen] at hj
          have hc0 : pc' ≠ 0 := by
            intro e0
            have : Nat.min m n = 0 := by omega
            rw [this] at hj
            simp at hj
          rw [Addr.add_eq, ho'.resolve_left hc0]
          exact h5 j v hv
        obtain ⟨e1, w', hr, hh⟩ := h.write (P := P) hs1 h4 h3
        refine ⟨e1, w', ?_, hh⟩
        have hst : (storeCells ⟨(R b).1, p, none⟩ vs).run P w = .ok () w' := by
          rcases Nat.eq_zero_or_pos (Nat.min m n) with h0 | hpos
          · rw [h0, Nat.zero_mul] at hlen
            have : vs = [] := List.eq_nil_of_length_eq_zero hlen
            subst this
            have e2 : (storeCells ⟨(R b).1, p, none⟩ []).run P w = .ok () w := rfl
            have e3 : (storeCells ⟨(R b).1, o, none⟩ []).run P w = .ok () w := rfl
            rw [e3] at hr
            rw [e2]; exact hr
          · rw [ho.resolve_left (by omega)]; exact hr
        have hf := hfc w hcell
        simp [Builtin.copy_, run_underlying hd, sizeOf, typeInfo, hi, hsz, Builtin.lenOf, hf, hst, goInt]
  · rename_i b o n c ex q
    cases hc
    simp only [VR] at hx hy
    obtain ⟨_, p, pc, rfl, ho, _, hlc, _⟩ := hx
    subst hy
    refine ⟨rfl, w, ?_, h⟩
    have e2 : (storeCells ⟨(R b).1, p, none⟩ []).run P w = .ok () w := rfl
    simp [Builtin.copy_, run_underlying hd, sizeOf, typeInfo, hi, Builtin.lenOf, Builtin.firstCells, e2, goInt]
  · cases hc
    simp only [VR] at hx hy
    subst hx
    subst hy
    refine ⟨rfl, w, ?_, h⟩
    simp [Builtin.copy_, run_underlying hd, sizeOf, typeInfo, hi, Builtin.lenOf, Builtin.firstCells, goInt]
  · rename_i b o n c ex q
    cases hc
    simp only [VR] at hx hy
    subst hx
    obtain ⟨_, p, pc, rfl, ho, _, hlc, _⟩ := hy
    refine ⟨rfl, w, ?_, h⟩
    have hf := run_firstCells_some (P := P) w i.size 0 ⟨(R b).1, p, none⟩ n pc [] (by simp) (fun j v hv => by simp at hv)
    simp [Builtin.copy_, run_underlying hd, sizeOf, typeInfo, hi, Builtin.lenOf, hf, goInt]
  · cases hc
theorem b_sound (hE : EnvOK P E) (h : HR F R s w0 w) {b : Builtin} {ats : Array TypeId} {xs : List AV} {vs : Array Value} (hv : VRL R s.nx xs vs.toList) (ty : TypeId) (consts : Array Bool) {r : Option AV}
    (ho : evB E s b ats.toList xs = some (r, s')) : OpRes P F R s.nx w0 w (builtin b ats ty consts vs) r s' := by
  unfold evB at ho
  cases b
  case len =>
    simp only at ho
    split at ho <;> try (cases ho; done)
    rename_i t x hats
    have hats' : ats = #[t] := by rw [← Array.toList_inj, hats]
    subst hats'
    obtain ⟨a, rfl, ha⟩ := hv.single
    split at ho <;> try (cases ho; done)
    rename_i u hu
    simp only [Option.map_eq_some_iff] at ho
    obtain ⟨k, hk, e⟩ := ho
    cases e
    exact OpRes.val h (op_len hE h hu ha hk) (by simp only [VR]; rfl)
  case append =>
    simp only at ho
    split at ho <;> try (cases ho; done)
    rename_i t tx x y hats
    have hats' : ats = #[t, tx] := by rw [← Array.toList_inj, hats]
    subst hats'
    obtain ⟨a, a', rfl, ha, ha'⟩ := hv.two
    split at ho <;> try (cases ho; done)
    rename_i u0 hu0
    split at ho <;> try (cases ho; done)
    rename_i e hk0
    split at ho <;> try (cases ho; done)
    rename_i u hu
    split at ho <;> try (cases ho; done)
    rename_i z hz
    split at ho <;> try (cases ho; done)
    rename_i ux hux
    cases hb : (Nat.beq (cellsA z).length u.size && Nat.blt 0 u.size) with
    | false => rw [hb] at ho; cases ho
    | true =>
      rw [hb, cond_true] at ho
      rw [Bool.and_eq_true] at hb
      simp only [Option.map_eq_some_iff] at ho
      obtain ⟨q, hq, e⟩ := ho
      cases e
      exact op_append hE h hu0 hk0 hu hz (nbeq_of hb.1) (nblt_of hb.2) hux ha ha' hq
  case copy =>
    simp only at ho
    split at ho <;> try (cases ho; done)
    rename_i t tx x y hats
    have hats' : ats = #[t, tx] := by rw [← Array.toList_inj, hats]
    subst hats'
    obtain ⟨a, a', rfl, ha, ha'⟩ := hv.two
    split at ho <;> try (cases ho; done)
    rename_i u0 hu0
    split at ho <;> try (cases ho; done)
    rename_i e hk0
    split at ho <;> try (cases ho; done)
    rename_i u hu
    simp only [Option.map_eq_some_iff] at ho
    obtain ⟨q, hq, e⟩ := ho
    cases e
    obtain ⟨e1, w', hr, hh⟩ := op_copy hE h hu0 hk0 hu ha ha' hq (ty := ty) (tx := tx)
    exact ⟨R, w', Ext.refl _ _, by rw [e1]; exact Nat.le_refl _, hh, .int .i64 (q.1 : Int), by simp [builtin, Sem.run_bind, hr], by simp only [VR]; rfl⟩
  case max =>
    simp only at ho
    split at ho <;> try (cases ho; done)
    obtain ⟨a, a', rfl, ha, ha'⟩ := hv.two
    rename_i k x k' y
    cases ho
    simp only [VR] at ha ha'
    subst ha
    subst ha'
    refine OpRes.val h (v := .int k (if y > x then y else x)) ?_ ?_
    · simp [Builtin.max_, Builtin.max2]
    · simp only [VR]
      rw [ile_eq]
      by_cases hyx : y ≤ x
      · rw [decide_eq_true hyx, cond_true, if_neg (by omega)]
      · rw [decide_eq_false hyx, cond_false, if_pos (by omega)]
  case min =>
    simp only at ho
    split at ho <;> try (cases ho; done)
    obtain ⟨a, a', rfl, ha, ha'⟩ := hv.two
    rename_i k x k' y
    cases ho
    simp only [VR] at ha ha'
    subst ha
    subst ha'
    refine OpRes.val h (v := .int k (if y < x then y else x)) ?_ ?_
    · simp [Builtin.min_, Builtin.min2]
    · simp only [VR]
      rw [ile_eq]
      by_cases hyx : x ≤ y
      · rw [decide_eq_true hyx, cond_true, if_neg (by omega)]
      · rw [decide_eq_false hyx, cond_false, if_pos (by omega)]
  all_goals cases ho
end
end Go.Proofs.YthomobhpgnfdlaaGreat
namespace Go.Proofs.YthomobhpgnfdlaaGreat
set_option linter.unusedVariables false
set_option linter.unusedSimpArgs false
set_option linter.unusedSectionVars false
open Go Go.RowKit

def putA (nt : Nat) (a : Tree AV) (d : Option Tmp) (x : AV) : Option (Tree AV) := match d with
  | none => some a
  | some d => bif Nat.blt d nt then some (a.set d (some x)) else none
def valA : Option AV → AV
  | some x => x
  | none => .tup []
/-- Is the guard met? -/
def guardA (ops : List Oper) (a : Tree AV) : Option (Nat × Bool) → Option Bool
  | none => some true
  | some (g, b) => match nthL ops g with
    | none => some false
    | some o => match o.dst with
      | none => some false
      | some d => match a.get d with
        | some (.b c) => some (match b with
          | true => c
          | false => !c)
        | some (.tup _) => some false
        | _ => none
/-- One operation, calls too. -/
def evO (E : Env) (call : CallF) (a : Tree AV) (s : St) (o : Oper) : Option (Option AV × St) := match o.op with
  | .call c => match mapO (opd a) c.args.toList with
    | none => none
    | some xs => match c.callee with
      | .builtin b => evB E s b c.argTypes.toList xs
      | .value f => match opd a f with
        | some f => match call f xs s with
          | some r => some (some r.1, r.2)
          | none => none
        | none => none
      | _ => none
  | op => evOp E a s op
def stepA (E : Env) (call : CallF) (nt : Nat) (ops : List Oper) (o : Oper) (a : Tree AV) (s : St) : Option (Tree AV × St) := match guardA ops a o.guard with
  | none => none
  | some false => match putA nt a o.dst (.tup []) with
    | some a => some (a, s)
    | none => none
  | some true => match evO E call a s o with
    | none => none
    | some r => match putA nt a o.dst (valA r.1) with
      | some a => some (a, r.2)
      | none => none
/-- A region in its order. -/
def evOps (E : Env) (call : CallF) (nt : Nat) (ops : List Oper) : List Oper → Tree AV → St → Option (Tree AV × St)
  | [], a, s => some (a, s)
  | o :: l, a, s => match stepA E call nt ops o a s with
    | none => none
    | some r => evOps E call nt ops l r.1 r.2
inductive Ex where
  | nrm
  | exit (id : Nat)
  | goto (l : Nat)
  | ret
def Ex.to : Ex → Exit
  | .nrm => .normal
  | .exit id => .exit id
  | .goto l => .goto l
  | .ret => .ret
def laidA : List AV → Nat → Tree AV → Tree AV
  | [], _, t => t
  | v :: l, n, t => laidA l (n + 1) (t.set n (some v))
def resA (E : Env) (a : Tree AV) (s : St) : ResultVar → Option AV
  | .tmp t => a.get t
  | .cell t ty => match a.get t with
    | some (.p b o) => match E.tt.get ty with
      | some u => match s.load b o u.size with
        | some l => ofCells u l
        | none => none
      | none => none
    | _ => none
def resultA : List AV → AV
  | [v] => v
  | l => .tup l
section
variable {R : Nat → Nat × Nat} {n : Nat}
theorem laidA_get : ∀ (l : List AV) (n : Nat) (t : Tree AV) {j : Nat} {x : AV}, (laidA l n t).get j = some x → (∃ i, l[i]? = some x ∧ j = n + i) ∨ t.get j = some x
  | [], n, t, j, x, h => .inr h
  | v :: l, n, t, j, x, h => by
    rcases laidA_get l (n + 1) _ h with ⟨i, h1, h2⟩ | h1
    · exact .inl ⟨i + 1, by simpa using h1, by omega⟩
    · rw [Tree.get_set] at h1
      by_cases e : j = n
      · rw [if_pos e] at h1
        cases h1
        exact .inl ⟨0, rfl, by omega⟩
      · rw [if_neg e] at h1
        exact .inr h1
theorem TR.laid {l : List AV} {vs : Array Value} (h : VRL R n l vs.toList) (k : Nat) : TR R n (laidA l 0 .leaf) { tmps := vs ++ Array.replicate k undef, defers := [] } := fun t x hx => by
  rcases laidA_get l 0 .leaf hx with ⟨i, h1, h2⟩ | h1
  · obtain ⟨u, e1, e2⟩ := h.get h1
    refine ⟨u, ?_, e2⟩
    have hi := (List.getElem?_eq_some_iff.1 e1).1
    rw [Array.length_toList] at hi
    simp only
    rw [h2, Nat.zero_add, Array.getElem?_append_left hi, ← Array.getElem?_toList]
    exact e1
  · rw [Tree.get_leaf] at h1; cases h1
end
/-- What holds between the evaluator and the machine. -/
structure Rel (fr : Nat → Option Obj) (w0 : World) (nt : Nat) (ds : List Deferred) (R : Nat → Nat × Nat) (a : Tree AV) (s : St) (act : Act) (w : World) : Prop where
  hr : HR fr R s w0 w
  tr : TR R s.nx a act
  nt : act.tmps.size = nt
  ds : act.defers = ds
def Loose (F : Fence) : Prop := F = Fence.wide ∨ ∃ l, F = Fence.wide.inRound l
theorem Loose.fn {F : Fence} (h : Loose F) (f : FuncId) : F.fn f := by
  rcases h with rfl | ⟨l, rfl⟩ <;> exact trivial
theorem Loose.depth {F : Fence} (h : Loose F) : F.depth = none := by
  rcases h with rfl | ⟨l, rfl⟩ <;> rfl
theorem Loose.calls {F : Fence} (h : Loose F) {n : Nat} {P : Program} {f : FuncId} {args : Array Value} {w : World} {R : Ending → World → Prop} (hc : Calls P f args w R) : CallsIn F n P f args w R := by
  rcases h with rfl | ⟨l, rfl⟩
  · exact callsIn_wide.2 hc
  · exact (callsIn_wide (n := n)).2 hc
section
variable {P : Program} {E : Env} {F : Fence} {m : Nat} {fr : Nat → Option Obj} {R : Nat → Nat × Nat} {a a' : Tree AV} {s s' : St} {w0 w : World} {nt : Nat} {ds : List Deferred} {act : Act}
theorem Rel.put (h : Rel fr w0 nt ds R a s act w) {R' : Nat → Nat × Nat} {w' : World} (hE : Ext s.nx R R') (hn : s.nx ≤ s'.nx) (hr : HR fr R' s' w0 w') {d : Option Tmp} {x : AV} {v : Value} (hx : VR R' s'.nx x v) (hp : putA nt a d x = some a') :
    Rel fr w0 nt ds R' a' s' (act.put d v) w' := by
  have ht := h.tr.mono hn hE
  cases d with
  | none =>
    cases hp
    exact ⟨hr, ht, h.nt, h.ds⟩
  | some d =>
    simp only [putA] at hp
    cases hb : Nat.blt d nt with
    | false => rw [hb] at hp; cases hp
    | true =>
      rw [hb, cond_true] at hp
      cases hp
      have hd := nblt_of hb
      refine ⟨hr, ht.put (by rw [h.nt]; exact hd) hx, ?_, h.ds⟩
      show (act.tmps.setIfInBounds d v).size = nt
      rw [Array.size_setIfInBounds, h.nt]
theorem VR.undef {R : Nat → Nat × Nat} {n : Nat} : VR R n (.tup []) undef := by
  simp only [VR]
  exact ⟨[], rfl, rfl⟩
theorem guard_sound (h : TR R s.nx a act) {ops : Array Oper} {o : Oper} {r : Bool} (hg : guardA ops.toList a o.guard = some r) : Region.wanted o (yielded ops act.tmps) = r := by
  unfold Region.wanted
  cases hgd : o.guard with
  | none => rw [hgd] at hg; cases hg; rfl
  | some g =>
    obtain ⟨g, b⟩ := g
    rw [hgd] at hg
    simp only [guardA, nthL_eq, Array.getElem?_toList] at hg
    simp only [yielded]
    cases ho : ops[g]? with
    | none => rw [ho] at hg; cases hg; simp
    | some o' =>
      rw [ho] at hg
      simp only at hg
      cases hd : o'.dst with
      | none => rw [hd] at hg; cases hg; simp [hd]
      | some d =>
        rw [hd] at hg
        simp only at hg
        simp only [Option.bind_some, hd]
        cases hx : a.get d with
        | none => rw [hx] at hg; cases hg
        | some x =>
          obtain ⟨v, hv, hR⟩ := h d x hx
          rw [hx] at hg
          rw [hv]
          cases x <;> simp only at hg <;> try (cases hg; done)
          case b c =>
            simp only [VR] at hR
            subst hR
            cases hg
            cases b <;> cases c <;> rfl
          case tup l =>
            simp only [VR] at hR
            obtain ⟨vs, _, rfl⟩ := hR
            cases hg
            rfl
/-- A call of a function's value. -/
def CallOK (P : Program) (call : CallF) : Prop := ∀ f xs s r s', call f xs s = some (r, s') → ∀ (F : Fence) (m : Nat) (fr : Nat → Option Obj) (R : Nat → Nat × Nat) (w0 w : World) (fv : Value) (vs : Array Value), Loose F → HR fr R s w0 w → VR R s.nx f fv → VRL R s.nx xs vs.toList →
  ∀ (o : Oper) (act : Act) (K : Act → World → Prop) (Q : Exit → Act → World → Prop), (∀ R' v w', Ext s.nx R R' → s.nx ≤ s'.nx → HR fr R' s' w0 w' → VR R' s'.nx r v → K (act.put o.dst v) w') →
  o.uponIn F m P act K Q ((do let d ← Deferred.ofValue fv vs; invoke d.target d.args : Sem Next).run P w)
theorem OpRes.upon {r : Option AV} {o : Oper} {mm : Sem Next} (hr : OpRes P fr R s.nx w0 w mm r s') (h : Rel fr w0 nt ds R a s act w) (hp : putA nt a o.dst (valA r) = some a') {K : Act → World → Prop} {Q : Exit → Act → World → Prop} (hK : ∀ R' act' w', Ext s.nx R R' → s.nx ≤ s'.nx → Rel fr w0 nt ds R' a' s' act' w' → K act' w') : o.uponIn F m P act K Q (mm.run P w) := by
  obtain ⟨R', w', hE, hn, hh, hx⟩ := hr
  cases r with
  | some x =>
    obtain ⟨v, hv, hxv⟩ := hx
    rw [hv, Oper.uponIn_value]
    exact hK R' _ w' hE hn (h.put hE hn hh hxv hp)
  | none =>
    rw [hx, Oper.uponIn_skip]
    exact hK R' _ w' hE hn (h.put hE hn hh VR.undef hp)
theorem evO_sound (hE : EnvOK P E) {call : CallF} (hc : CallOK P call) (hF : Loose F) (h : Rel fr w0 nt ds R a s act w) {o : Oper} {r : Option AV} (ho : evO E call a s o = some (r, s')) (hp : putA nt a o.dst (valA r) = some a') {K : Act → World → Prop} {Q : Exit → Act → World → Prop} (hK : ∀ R' act' w', Ext s.nx R R' → s.nx ≤ s'.nx → Rel fr w0 nt ds R' a' s' act' w' → K act' w') : o.wpIn F m P act w K Q := by
  refine ⟨fun f _ => hF.fn f, ?_⟩
  have hnd : ∀ c, o.op ≠ .defer c := fun c e => by
    unfold evO at ho
    rw [e] at ho
    cases ho
  rw [Oper.semAt_eq _ _ _ hnd]
  unfold evO at ho
  split at ho
  · rename_i c hop
    split at ho <;> try (cases ho; done)
    rename_i xs hxs
    have hargs : VRL R s.nx xs (c.args.map act.eval).toList := by
      rw [Array.toList_map]; exact opds_sound h.tr hxs
    have he : execOp act.eval o = (do let d ← resolve act.eval c o.type; invoke d.target d.args : Sem Next) := by unfold execOp; rw [hop]
    rw [he]
    split at ho <;> try (cases ho; done)
    · rename_i b hb
      have he2 : ∃ consts, (do let d ← resolve act.eval c o.type; invoke d.target d.args : Sem Next) = builtin b c.argTypes o.type consts (c.args.map act.eval) := by
        simp only [resolve, hb, pure_bind, invoke]
        exact ⟨_, rfl⟩
      obtain ⟨consts, he2⟩ := he2
      rw [he2]
      exact (b_sound hE h.hr hargs o.type consts ho).upon h hp hK
    · rename_i f hf
      split at ho <;> try (cases ho; done)
      rename_i fa hfa
      split at ho <;> try (cases ho; done)
      rename_i q hq
      cases ho
      have he2 : (do let d ← resolve act.eval c o.type; invoke d.target d.args : Sem Next) = (do let d ← Deferred.ofValue (act.eval f) (c.args.map act.eval); invoke d.target d.args : Sem Next) := by
        simp only [resolve, hf]
      rw [he2]
      exact hc _ _ _ _ _ hq F m fr R w0 w _ _ hF h.hr (opd_sound h.tr hfa) hargs o act K Q fun R' v w' h1 h2 h3 h4 => hK R' _ w' h1 h2 (h.put h1 h2 h3 h4 hp)
  · rename_i op hop
    exact (op_sound hE h.hr h.tr ho).upon h hp hK
theorem stepA_sound (hE : EnvOK P E) {call : CallF} (hc : CallOK P call) (hF : Loose F) (h : Rel fr w0 nt ds R a s act w) {ops : Array Oper} {i : Nat} {o : Oper} (hi : ops[i]? = some o) {r : Tree AV × St} (ho : stepA E call nt ops.toList o a s = some r)
    {K : Act → World → Prop} {Q : Exit → Act → World → Prop} (hK : ∀ R' act' w', Ext s.nx R R' → s.nx ≤ r.2.nx → Rel fr w0 nt ds R' r.1 r.2 act' w' → K act' w') : wpOpIn F m P ops Q i K act w := by
  unfold stepA at ho
  unfold wpOpIn
  rw [hi]
  simp only
  split at ho <;> try (cases ho; done)
  · rename_i hg
    rw [guard_sound h.tr hg]
    simp only [Bool.false_eq_true, if_false]
    split at ho <;> try (cases ho; done)
    rename_i a1 hp
    cases ho
    exact ⟨fun f _ => hF.fn f, hK R _ w (Ext.refl _ _) (Nat.le_refl _) (h.put (Ext.refl _ _) (Nat.le_refl _) h.hr VR.undef hp)⟩
  · rename_i hg
    rw [guard_sound h.tr hg]
    simp only [if_true]
    split at ho <;> try (cases ho; done)
    rename_i q hq
    split at ho <;> try (cases ho; done)
    rename_i a1 hp
    cases ho
    exact evO_sound hE hc hF h hq hp hK
theorem evOps_sound (hE : EnvOK P E) {call : CallF} (hc : CallOK P call) (hF : Loose F) {ops : Array Oper} {Q : Exit → Act → World → Prop} :
    ∀ (l : List Oper) (k : Nat) (R : Nat → Nat × Nat) (a : Tree AV) (s : St) (act : Act) (w : World) (r : Tree AV × St), ops.toList.drop k = l → Rel fr w0 nt ds R a s act w → evOps E call nt ops.toList l a s = some r →
    (∀ R' act' w', Ext s.nx R R' → s.nx ≤ r.2.nx → Rel fr w0 nt ds R' r.1 r.2 act' w' → Q .normal act' w') → wpOpsIn F m P ops Q (List.range' k l.length) act w
  | [], k, R, a, s, act, w, r, hl, h, ho, hQ => by
    cases ho
    exact hQ R act w (Ext.refl _ _) (Nat.le_refl _) h
  | o :: l, k, R, a, s, act, w, r, hl, h, ho, hQ => by
    simp only [evOps] at ho
    split at ho <;> try (cases ho; done)
    rename_i q hq
    have hk : ops[k]? = some o := by
      have := congrArg (fun l => l[0]?) hl
      simpa using this
    rw [List.length_cons, List.range'_succ, wpOpsIn_cons]
    refine stepA_sound hE hc hF h hk hq fun R1 act1 w1 h1 h2 h3 => ?_
    refine evOps_sound hE hc hF l (k + 1) R1 q.1 q.2 act1 w1 r ?_ h3 ho fun R2 act2 w2 g1 g2 g3 => hQ R2 act2 w2 (fun b hb => by rw [g1 b (Nat.lt_of_lt_of_le hb h2), h1 b hb]) (Nat.le_trans h2 g2) g3
    rw [show k + 1 = 1 + k from Nat.add_comm _ _, Nat.add_comm, ← List.drop_drop, hl]; rfl
end
end Go.Proofs.YthomobhpgnfdlaaGreat
namespace Go.Proofs.YthomobhpgnfdlaaGreat
set_option linter.unusedVariables false
set_option linter.unusedSimpArgs false
set_option linter.unusedSectionVars false
open Go Go.RowKit

/-- How a region whose order is drawn is evaluated. -/
abbrev Draw := CallF → Nat → List Oper → Tree AV → St → Option (Tree AV × St)
/-- A round's parameters laid. -/
def bindA (nt : Nat) : List Tmp → List AV → Tree AV → Option (Tree AV)
  | [], [], t => some t
  | p :: ps, x :: xs, t => bif Nat.blt p nt then bindA nt ps xs (t.set p (some x)) else none
  | _, _, _ => none
/-- What a round leaves to be done. -/
def pendOf : Ex → Option Code
  | .nrm => none
  | .exit i => some (.exit i)
  | .goto l => some (.goto l)
  | .ret => some .ret
mutual
def ev (E : Env) (draw : Draw) : Nat → Bool → Nat → Code → Tree AV → St → Option (Ex × Tree AV × St)
  | 0, _, _, _, _, _ => none
  | n + 1, inr, nt, c, a, s => match c with
    | .skip => some (.nrm, a, s)
    | .label _ => some (.nrm, a, s)
    | .ret => some (.ret, a, s)
    | .exit i => some (.exit i, a, s)
    | .goto l => some (.goto l, a, s)
    | .region _ ops d => match d with
      | true => match draw (callE E draw n) nt ops.toList a s with
        | some r => some (.nrm, r.1, r.2)
        | none => none
      | false => match evOps E (callE E draw n) nt ops.toList ops.toList a s with
        | some r => some (.nrm, r.1, r.2)
        | none => none
    | .seq x y => match ev E draw n inr nt x a s with
      | some (.nrm, a, s) => ev E draw n inr nt y a s
      | r => r
    | .cond c x y => match opd a c with
      | some (.b true) => ev E draw n inr nt x a s
      | some (.b false) => ev E draw n inr nt y a s
      | _ => none
    | .block id x => match ev E draw n inr nt x a s with
      | some (.exit j, a, s) => bif Nat.beq j id then some (.nrm, a, s) else some (.exit j, a, s)
      | r => r
    | .loop x => match ev E draw n inr nt x a s with
      | some (.nrm, a, s) => ev E draw n inr nt (.loop x) a s
      | r => r
    | .rangeFunc g ps asg body => match inr with
      | true => none
      | false => match opd a g with
        | some (.fn f fst caps) => match callE E draw n (.fn f fst caps) [.y s.nx] (s.new (.loop a nt ps.toList asg body none)) with
          | none => none
          | some r => match r.2.h.get s.nx with
            | some (.loop _ _ _ _ _ pend) => match pend with
              | none => some (.nrm, a, ⟨r.2.h.set s.nx none, r.2.nx⟩)
              | some c => ev E draw n inr nt c a ⟨r.2.h.set s.nx none, r.2.nx⟩
            | _ => none
        | _ => none
    | _ => none
def callE (E : Env) (draw : Draw) : Nat → AV → List AV → St → Option (AV × St)
  | 0, _, _, _ => none
  | n + 1, f, xs, s => match f with
    | .fn f fst caps => match E.kn.get f with
      | some x => match fst, xs, caps with
        | [], [], [] => some (x, s)
        | _, _, _ => none
      | none => match E.ft.get f with
      | none => none
      | some fn => match fn.body with
        | none => none
        | some c => bif Nat.ble (fst ++ (xs ++ caps)).length fn.ntmps then match ev E draw n false fn.ntmps c (laidA (fst ++ (xs ++ caps)) 0 .leaf) s with
            | none => none
            | some (x, a, s) => match x with
              | .exit _ => none
              | .goto _ => none
              | _ => match mapO (resA E a s) fn.results.toList with
                | some l => some (resultA l, s)
                | none => none
          else none
    | .y l => match s.h.get l with
      | some (.loop tm nt ps asg body pend) => match pend with
        | some _ => none
        | none => match bindA nt ps xs tm with
          | none => none
          | some tm1 => match ev E draw n true nt asg tm1 ⟨s.h.set l none, s.nx⟩ with
            | some (.nrm, a1, s1) => match ev E draw n true nt body a1 s1 with
              | none => none
              | some (x, _, s2) => match s2.h.get l with
                | some _ => none
                | none => some (.b (pendOf x).isNone, ⟨s2.h.set l (some (.loop tm nt ps asg body (pendOf x))), s2.nx⟩)
            | _ => none
      | _ => none
    | _ => none
end
/-- The frame and the deferred calls have grown by marks of loops over functions. -/
def Grown (inr : Bool) (fr : Nat → Option Obj) (ds : List Deferred) (fr' : Nat → Option Obj) (ds' : List Deferred) : Prop :=
  ∃ ms : List Nat, (inr = true → ms = []) ∧ ms.Nodup ∧ ds' = ms.map (fun D => { target := .collected D, args := #[] }) ++ ds ∧ (∀ k o, fr k = some o → fr' k = some o) ∧ ∀ D ∈ ms, fr' D = some (.deferred (some [])) ∧ fr D = none
theorem Grown.refl (inr : Bool) (fr : Nat → Option Obj) (ds : List Deferred) : Grown inr fr ds fr ds := ⟨[], fun _ => rfl, List.nodup_nil, rfl, fun _ _ h => h, fun _ h => by cases h⟩
theorem Grown.trans {inr : Bool} {f1 f2 f3 : Nat → Option Obj} {d1 d2 d3 : List Deferred} (h : Grown inr f1 d1 f2 d2) (h' : Grown inr f2 d2 f3 d3) : Grown inr f1 d1 f3 d3 := by
  obtain ⟨ms, h0, h1, rfl, h2, h3⟩ := h
  obtain ⟨ns, g0, g1, rfl, g2, g3⟩ := h'
  refine ⟨ns ++ ms, fun e => by rw [h0 e, g0 e]; rfl, ?_, by simp, fun k o hk => g2 k o (h2 k o hk), fun D hD => ?_⟩
  · refine List.nodup_append.2 ⟨g1, h1, fun x hx y hy e => ?_⟩
    subst e
    have := (g3 x hx).2
    rw [(h3 x hy).1] at this
    cases this
  · rcases List.mem_append.1 hD with hD | hD
    · refine ⟨(g3 D hD).1, ?_⟩
      cases hf : f1 D with
      | none => rfl
      | some o => have := h2 D o hf; rw [(g3 D hD).2] at this; cases this
    · exact ⟨g2 D _ (h3 D hD).1, (h3 D hD).2⟩
def CodeOK (P : Program) (inr : Bool) (nt : Nat) (c : Code) (a : Tree AV) (s : St) (x : Ex) (a' : Tree AV) (s' : St) : Prop :=
  ∀ (F : Fence) (m : Nat) (fr : Nat → Option Obj) (R : Nat → Nat × Nat) (w0 w : World) (ds : List Deferred) (act : Act) (Q : Exit → Act → World → Prop), Loose F → F.round.isSome = inr → Rel fr w0 nt ds R a s act w →
  (∀ fr' ds' R' act' w', Grown inr fr ds fr' ds' → Ext s.nx R R' → s.nx ≤ s'.nx → Rel fr' w0 nt ds' R' a' s' act' w' → Q x.to act' w') → c.wpIn F m P Q act w
/-- A call of a function with a body. -/
def FnOK (P : Program) (call : CallF) : Prop := ∀ f fst caps xs s r s', call (.fn f fst caps) xs s = some (r, s') → (∀ args w, (callFunc f args).run P w = .ok (.enter f args) w) ∧
  ∀ (F : Fence) (m : Nat) (fr : Nat → Option Obj) (R : Nat → Nat × Nat) (w0 w : World) (us cs : List Value) (vs : Array Value), Loose F → HR fr R s w0 w → VRL R s.nx fst us → VRL R s.nx caps cs → VRL R s.nx xs vs.toList →
    CallsIn F m P f (us.toArray ++ vs ++ cs.toArray) w fun e w' => ∃ v R', e = .returned v ∧ Ext s.nx R R' ∧ s.nx ≤ s'.nx ∧ HR fr R' s' w0 w' ∧ VR R' s'.nx r v
def DrawOK (P : Program) (draw : Draw) : Prop := ∀ (call : CallF), CallOK P call → ∀ (nt : Nat) (ops : Array Oper) (a : Tree AV) (s : St) (r : Tree AV × St), draw call nt ops.toList a s = some r →
  ∀ (F : Fence) (m : Nat) (fr : Nat → Option Obj) (R : Nat → Nat × Nat) (w0 w : World) (ds : List Deferred) (act : Act) (id : Nat) (Q : Exit → Act → World → Prop), Loose F → Rel fr w0 nt ds R a s act w →
  (∀ R' act' w', Ext s.nx R R' → s.nx ≤ r.2.nx → Rel fr w0 nt ds R' r.1 r.2 act' w' → Q .normal act' w') → (Code.region id ops true).wpIn F m P Q act w
theorem Ext.trans {n n' : Nat} {R R' R'' : Nat → Nat × Nat} (h : Ext n R R') (hn : n ≤ n') (h' : Ext n' R' R'') : Ext n R R'' := fun b hb => by rw [h' b (Nat.lt_of_lt_of_le hb hn), h b hb]
theorem least {p : Nat → Prop} (h : ∃ k, p k) : ∃ k, p k ∧ ∀ j, p j → k ≤ j := by
  obtain ⟨k, hk⟩ := h
  induction k using Nat.strongRecOn with
  | _ k ih =>
    by_cases hs : ∃ j, j < k ∧ p j
    · obtain ⟨j, hj, hp⟩ := hs
      exact ih j hj hp
    · refine ⟨k, hk, fun j hj => ?_⟩
      by_cases hl : j < k
      · exact absurd ⟨j, hl, hj⟩ hs
      · omega
section
variable {P : Program} {E : Env} {draw : Draw}
theorem loop_ok {inr : Bool} {nt : Nat} {c : Code} {N : Nat} (ih : ∀ n, n ≤ N → ∀ a s x a' s', ev E draw n inr nt c a s = some (x, a', s') → CodeOK P inr nt c a s x a' s') {a : Tree AV} {s : St} {x : Ex} {a' : Tree AV} {s' : St}
    (h : ev E draw (N + 1) inr nt (.loop c) a s = some (x, a', s')) : CodeOK P inr nt (.loop c) a s x a' s' := by
  intro F m fr R w0 w ds act Q hF hro hrel hQ
  classical
  let J : Nat → Act → World → Prop := fun k act1 w1 => k ≤ N + 1 ∧ ∃ a1 s1 fr1 ds1 R1, ev E draw k inr nt (.loop c) a1 s1 = some (x, a', s') ∧ Grown inr fr ds fr1 ds1 ∧ Ext s.nx R R1 ∧ s.nx ≤ s1.nx ∧ Rel fr1 w0 nt ds1 R1 a1 s1 act1 w1
  let μ : Act → World → Nat := fun act1 w1 => if hx : ∃ k, J k act1 w1 then (least hx).choose else 0
  refine wpIn_loop (fun act1 w1 => ∃ k, J k act1 w1) μ ⟨N + 1, Nat.le_refl _, a, s, fr, ds, R, h, Grown.refl _ _ _, Ext.refl _ _, Nat.le_refl _, hrel⟩ ?_
  intro act1 w1 hJ
  have hμ : μ act1 w1 = (least hJ).choose := dif_pos hJ
  obtain ⟨hk, a1, s1, fr1, ds1, R1, he, hG, hE, hn, hr1⟩ := (least hJ).choose_spec.1
  rw [hμ]
  generalize (least hJ).choose = k at hk he
  cases k with
  | zero => simp only [ev] at he; cases he
  | succ k =>
    simp only [ev] at he
    have hkN : k ≤ N := by omega
    cases hx : ev E draw k inr nt c a1 s1 with
    | none => rw [hx] at he; cases he
    | some r =>
      obtain ⟨x1, a2, s2⟩ := r
      rw [hx] at he
      refine ih k hkN _ _ _ _ _ hx F m fr1 R1 w0 w1 ds1 act1 _ hF hro hr1 fun fr2 ds2 R2 act2 w2 hG2 hE2 hn2 hr2 => ?_
      cases x1 with
      | nrm =>
        simp only at he
        have hJ2 : J k act2 w2 := ⟨by omega, a2, s2, fr2, ds2, R2, he, hG.trans hG2, hE.trans hn hE2, Nat.le_trans hn hn2, hr2⟩
        refine ⟨⟨k, hJ2⟩, ?_⟩
        have hJ3 : ∃ k, J k act2 w2 := ⟨k, hJ2⟩
        have : μ act2 w2 = (least hJ3).choose := dif_pos hJ3
        rw [this]
        exact Nat.lt_succ_of_le ((least hJ3).choose_spec.2 k hJ2)
      | exit id => cases he; exact hQ fr2 ds2 R2 act2 w2 (hG.trans hG2) (hE.trans hn hE2) (Nat.le_trans hn hn2) hr2
      | goto l => cases he; exact hQ fr2 ds2 R2 act2 w2 (hG.trans hG2) (hE.trans hn hE2) (Nat.le_trans hn hn2) hr2
      | ret => cases he; exact hQ fr2 ds2 R2 act2 w2 (hG.trans hG2) (hE.trans hn hE2) (Nat.le_trans hn hn2) hr2
end
end Go.Proofs.YthomobhpgnfdlaaGreat
