/- The plain law and the walk: the reference's World, and its Sent. -/
import Derived.Test.YtpkcdkbbhiafnaaDoorGateW
namespace Go.Proofs.YtpkcdkbbhiafnaaDoor
set_option linter.unusedVariables false
set_option linter.unusedSimpArgs false
open Go.RowKit

theorem GateM.ok.with1 {g : GateM} {k : Nat} (h : g.ok k) (hk : k ≤ 1000000) (r : Int × GateM) : g.with1 r = if r.1 ≠ 0 then (.zero, r.1) else (r.2, 0) := by
  unfold GateM.with1
  rw [h.chk hk, if_neg (by decide)]
theorem GateM.put1_bad2 (g : GateM) (s : ByteArray) (h : (g.put1 s).1 ≠ 0) : (g.put1 s).2 = g := by
  unfold GateM.put1 at *
  split at h <;> rename_i h1
  · rw [if_pos h1]
  · rw [if_neg h1]
    split at h <;> rename_i h2
    · rw [if_pos h2]
    · rw [if_neg h2]
      split at h <;> rename_i h3
      · rw [if_pos h3]
      · exact absurd rfl h
theorem GateM.ack1_bad2 (g : GateM) (n : Int) (h : (g.ack1 n).1 ≠ 0) : (g.ack1 n).2 = g := by
  unfold GateM.ack1 at *
  split at h <;> rename_i h1
  · rw [if_pos h1]
  · split at h <;> exact absurd rfl h
theorem GateM.offer1_bad2 (g : GateM) (n : Int) (s : ByteArray) (h : (g.offer1 n s).2.1 ≠ 0) : (g.offer1 n s).2.2 = g := by
  unfold GateM.offer1 at *
  split at h <;> rename_i h1
  · rw [if_pos h1]
  · rw [if_neg h1]
    split at h <;> rename_i h2
    · rw [if_pos h2]
    · split at h <;> exact absurd rfl h
theorem takeM_bad2 (l : List ByteArray) (n : Int) (s : ByteArray) (h : (takeM l n s).1 ≠ 0) : (takeM l n s).2 = l := by
  unfold takeM at *
  split at h <;> rename_i h1
  · rw [if_pos h1]
  · rw [if_neg h1]
    split at h <;> rename_i h2
    · rw [if_pos h2]
    · split at h <;> exact absurd rfl h
theorem isText_small {s : ByteArray} (h : isText s = true) : s.size ≤ maxLen := by
  unfold isText at h
  simp only [Bool.and_eq_true, decide_eq_true_eq] at h
  unfold maxLen
  omega
theorem GateM.ok.sendOk {g : GateM} {k : Nat} (h : g.ok k) : I64 g.send.1 ∨ 1000000 < k := by
  by_cases hk : k ≤ 1000000
  · refine .inl ?_
    have h1 := h.lo
    have h2 := h.hi
    unfold GateM.send
    split
    · exact ⟨by simp only; omega, by simp only; omega⟩
    · split
      · exact ⟨by simp only; omega, by simp only; omega⟩
      · exact ⟨by simp only; omega, by simp only; omega⟩
  · exact .inr (by omega)
theorem GateM.ok.sendText {g : GateM} {k : Nat} (h : g.ok k) : g.send.2.1.size ≤ maxLen := by
  have ht := h.txt
  have h0 : ByteArray.empty.size ≤ maxLen := by decide
  unfold GateM.send
  split
  · exact h0
  · split
    · exact h0
    · rename_i s q hq
      rw [hq, List.all_cons, Bool.and_eq_true] at ht
      exact isText_small ht.1

theorem takeR_I64 (l : List ByteArray) (n : Int) (s : ByteArray) (h : l.length ≤ 1000000) : I64 (takeR l n s).2.1 := by
  have hl := takeM_len l n s
  unfold takeR
  split
  · exact ⟨by simp only; omega, by simp only; omega⟩
  · exact ⟨by simp only; omega, by simp only; omega⟩
theorem takeR_bad2 {l l' : List ByteArray} {n x k : Int} {s : ByteArray} (h : takeR l n s = (l', x, k)) (hk : k ≠ 0) : (takeM l n s).1 = k := by
  unfold takeR at h
  split at h
  · cases h; rfl
  · cases h; exact absurd rfl hk
theorem takeR_good {l l' : List ByteArray} {n x : Int} {s : ByteArray} (h : takeR l n s = (l', x, 0)) : (takeM l n s).1 = 0 ∧ (takeM l n s).2 = l' ∧ x = l'.length := by
  unfold takeR at h
  split at h
  · rename_i h1
    simp only [Prod.mk.injEq] at h
    exact absurd h.2.2 h1
  · rename_i h1
    simp only [Prod.mk.injEq] at h
    obtain ⟨rfl, rfl, _⟩ := h
    exact ⟨by simpa using h1, rfl, rfl⟩
section
variable {p : PlayM} {n e1 x k : Int} {s : ByteArray} {l' : List ByteArray}
theorem send_err (back : Bool) (h : p.gate.send = (n, s, e1)) (h1 : e1 ≠ 0) : p.send back = (e1, p) := by
  unfold PlayM.send
  rw [h, if_pos h1]
theorem send_terr (back : Bool) (h : p.gate.send = (n, s, 0)) (h1 : takeR p.out n s = (l', x, k)) (hk : k ≠ 0) : p.send back = (k, p) := by
  have h2 := takeR_bad2 h1 hk
  have h3 := takeM_bad2 p.out n s (by rw [h2]; exact hk)
  unfold PlayM.send
  rw [h, if_neg (by simp)]
  simp only
  rw [if_pos (.inl (by rw [h2]; exact hk)), h2, h3]
theorem send_mute (h : p.gate.send = (n, s, 0)) (h1 : takeR p.out n s = (l', x, 0)) : p.send false = (0, { p with out := l' }) := by
  obtain ⟨h2, h3, h4⟩ := takeR_good h1
  unfold PlayM.send
  rw [h, if_neg (by simp)]
  simp only
  rw [if_pos (.inr trivial), h2, h3]
theorem send_back (h : p.gate.send = (n, s, 0)) (h1 : takeR p.out n s = (l', x, 0)) : p.send true = ((p.gate.ack1 x).1, { p with out := l', gate := (p.gate.ack1 x).2 }) := by
  obtain ⟨h2, h3, h4⟩ := takeR_good h1
  unfold PlayM.send
  rw [h, if_neg (by simp)]
  simp only
  rw [if_neg (by rw [h2]; simp), h3, ← h4]
theorem send_aerr {g : GateM} {c : Nat} (hp : p.gate.ok c) (hc : c ≤ 1000000) (h : p.gate.send = (n, s, 0)) (h1 : takeR p.out n s = (l', x, 0)) (h2 : p.gate.with1 (p.gate.ack1 x) = (g, k)) (hk : k ≠ 0) : p.send true = (k, { p with out := l' }) := by
  rw [hp.with1 hc] at h2
  split at h2
  · rename_i h3
    cases h2
    rw [send_back h h1, GateM.ack1_bad2 _ _ h3]
  · cases h2; exact absurd rfl hk
theorem send_good {g : GateM} {c : Nat} (hp : p.gate.ok c) (hc : c ≤ 1000000) (h : p.gate.send = (n, s, 0)) (h1 : takeR p.out n s = (l', x, 0)) (h2 : p.gate.with1 (p.gate.ack1 x) = (g, 0)) : p.send true = (0, { p with out := l', gate := g }) := by
  rw [hp.with1 hc] at h2
  split at h2
  · rename_i h3
    simp only [Prod.mk.injEq] at h2
    exact absurd h2.2 h3
  · rename_i h3
    simp only [Prod.mk.injEq, and_true] at h2
    rw [send_back h h1, h2, show (p.gate.ack1 x).1 = 0 by simpa using h3]
end

section
variable {w0 w : World} {H : Hp} {L L' : List (Nat × Obj)}
theorem heap_setCell_other' (w : World) (b i : Nat) (v : Value) {j : Nat} (h : j ≠ b) : (w.setCell ⟨b, i, none⟩ v).heap[j]? = w.heap[j]? := Below.heap_setCell w _ _ j h
/-- A whole block of three, or of eight, cells stored anew. -/
theorem Mem.set3 {b : Nat} {a0 a1 a2 x0 x1 x2 : Value} {t : TypeId} {f : Nat × Nat} (m : Mem w0 H L w) (hu : LUpd L b (.cells #[a0, a1, a2] t f) (.cells #[x0, x1, x2] t f) L') :
    Mem w0 H L' (((w.setCell ⟨b, 0, none⟩ x0).setCell ⟨b, 1, none⟩ x1).setCell ⟨b, 2, none⟩ x2) :=
  m.setObj hu rfl rfl rfl (heap_setCell_at _ _ _ _ (heap_setCell_at _ _ _ _ (heap_setCell_at w b 0 x0 (m.loc _ hu.mem).1))) fun j hj => by
    rw [heap_setCell_other' _ _ _ _ hj, heap_setCell_other' _ _ _ _ hj, heap_setCell_other' _ _ _ _ hj]
theorem Mem.set3b {b : Nat} {a0 a1 a2 a3 a4 a5 a6 a7 x0 x1 x2 : Value} {t : TypeId} {f : Nat × Nat} (m : Mem w0 H L w) (hu : LUpd L b (.cells #[a0, a1, a2, a3, a4, a5, a6, a7] t f) (.cells #[x0, x1, x2, a3, a4, a5, a6, a7] t f) L') :
    Mem w0 H L' (((w.setCell ⟨b, 0, none⟩ x0).setCell ⟨b, 1, none⟩ x1).setCell ⟨b, 2, none⟩ x2) :=
  m.setObj hu rfl rfl rfl (heap_setCell_at _ _ _ _ (heap_setCell_at _ _ _ _ (heap_setCell_at w b 0 x0 (m.loc _ hu.mem).1))) fun j hj => by
    rw [heap_setCell_other' _ _ _ _ hj, heap_setCell_other' _ _ _ _ hj, heap_setCell_other' _ _ _ _ hj]
theorem Mem.set8 {b : Nat} {a0 a1 a2 a3 a4 a5 a6 a7 x0 x1 x2 x3 x4 x5 x6 x7 : Value} {t : TypeId} {f : Nat × Nat} (m : Mem w0 H L w) (hu : LUpd L b (.cells #[a0, a1, a2, a3, a4, a5, a6, a7] t f) (.cells #[x0, x1, x2, x3, x4, x5, x6, x7] t f) L') :
    Mem w0 H L' ((((((((w.setCell ⟨b, 0, none⟩ x0).setCell ⟨b, 1, none⟩ x1).setCell ⟨b, 2, none⟩ x2).setCell ⟨b, 3, none⟩ x3).setCell ⟨b, 4, none⟩ x4).setCell ⟨b, 5, none⟩ x5).setCell ⟨b, 6, none⟩ x6).setCell ⟨b, 7, none⟩ x7) := by
  have h0 := (m.loc _ hu.mem).1
  have h1 := heap_setCell_at _ b 0 x0 h0
  have h2 := heap_setCell_at _ b 1 x1 h1
  have h3 := heap_setCell_at _ b 2 x2 h2
  have h4 := heap_setCell_at _ b 3 x3 h3
  have h5 := heap_setCell_at _ b 4 x4 h4
  have h6 := heap_setCell_at _ b 5 x5 h5
  have h7 := heap_setCell_at _ b 6 x6 h6
  have h8 := heap_setCell_at _ b 7 x7 h7
  simp only [List.setIfInBounds_toArray, List.set_cons_zero, List.set_cons_succ] at h8
  refine m.setObj hu ?_ ?_ ?_ h8 fun j hj => ?_
  · simp only [World.setCell]
  · simp only [World.setCell]
  · simp only [World.setCell]
  · rw [heap_setCell_other' _ _ _ _ hj, heap_setCell_other' _ _ _ _ hj, heap_setCell_other' _ _ _ _ hj, heap_setCell_other' _ _ _ _ hj, heap_setCell_other' _ _ _ _ hj, heap_setCell_other' _ _ _ _ hj, heap_setCell_other' _ _ _ _ hj, heap_setCell_other' _ _ _ _ hj]
end
/-- A world, as Go hands it about. -/
def WorldR (w0 : World) (H : Hp) (L : List (Nat × Obj)) (k : Int) (p : PlayM) (e : Ending) (w' : World) : Prop :=
  ∃ qb qc sb sc nb nc ob oc H', e = .returned (.tuple #[.agg #[.int .i64 p.gate.first, .slice qb p.gate.queue.length qc, .int .i64 p.gate.next, .int .i64 p.saved.first, .slice sb p.saved.queue.length sc, .int .i64 p.saved.next, .slice nb p.since.length nc, .slice ob p.out.length oc], .int .i64 k])
    ∧ Mem w0 H' L w' ∧ Hle H H' ∧ SlR encStr H' (.slice qb p.gate.queue.length qc) p.gate.queue ∧ SlR encStr H' (.slice sb p.saved.queue.length sc) p.saved.queue ∧ SlR encStr H' (.slice nb p.since.length nc) p.since ∧ SlR encStr H' (.slice ob p.out.length oc) p.out
/-- A world, in words that are at hand: one that is equal. -/
theorem WorldR.of {w0 : World} {H : Hp} {L : List (Nat × Obj)} {k k' : Int} {p p' : PlayM} {e : Ending} {w' : World} (h : WorldR w0 H L k' p' e w') (hk : k = k') (hp : p = p') : WorldR w0 H L k p e w' := by subst hk; subst hp; exact h

end Go.Proofs.YtpkcdkbbhiafnaaDoor
