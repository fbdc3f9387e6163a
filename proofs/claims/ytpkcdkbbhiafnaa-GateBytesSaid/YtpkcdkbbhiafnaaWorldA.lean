/- The plain law and the walk: the reference's World, and its Sent. -/
import Derived.Test.YtpkcdkbbhiafnaaGateW
namespace Go.Proofs.Ytpkcdkbbhiafnaa
set_option linter.unusedVariables false
set_option linter.unusedSimpArgs false
open Go.RowKit

theorem GateM.ok.with1 {g : GateM} {k : Nat} (h : g.ok k) (hk : k ≤ 1000000) (r : Int × GateM) : g.with1 r = if r.1 ≠ 0 then (.zero, r.1) else (r.2, 0) := by
  unfold GateM.with1
  rw [h.chk hk, if_neg (by decide)]
theorem GateM.put1_bad2 (g : GateM) (s : ByteArray) (h : (g.put1 s).1 ≠ 0) : (g.put1 s).2 = g := by
  unfold GateM.put1 at *
  split at h <;> rename_i h1
  · rw [if_pos h1]
  · rw [if_neg h1]
    split at h <;> rename_i h2
    · rw [if_pos h2]
    · rw [if_neg h2]
      split at h <;> rename_i h3
      · rw [if_pos h3]
      · exact absurd rfl h
theorem GateM.ack1_bad2 (g : GateM) (n : Int) (h : (g.ack1 n).1 ≠ 0) : (g.ack1 n).2 = g := by
  unfold GateM.ack1 at *
  split at h <;> rename_i h1
  · rw [if_pos h1]
  · split at h <;> exact absurd rfl h
theorem GateM.offer1_bad2 (g : GateM) (n : Int) (s : ByteArray) (h : (g.offer1 n s).2.1 ≠ 0) : (g.offer1 n s).2.2 = g := by
  unfold GateM.offer1 at *
  split at h <;> rename_i h1
  · rw [if_pos h1]
  · rw [if_neg h1]
    split at h <;> rename_i h2
    · rw [if_pos h2]
    · split at h <;> exact absurd rfl h
theorem takeM_bad2 (l : List ByteArray) (n : Int) (s : ByteArray) (h : (takeM l n s).1 ≠ 0) : (takeM l n s).2 = l := by
  unfold takeM at *
  split at h <;> rename_i h1
  · rw [if_pos h1]
  · rw [if_neg h1]
    split at h <;> rename_i h2
    · rw [if_pos h2]
    · split at h <;> exact absurd rfl h
theorem isText_small {s : ByteArray} (h : isText s = true) : s.size ≤ maxLen := by
  unfold isText at h
  simp only [Bool.and_eq_true, decide_eq_true_eq] at h
  unfold maxLen
  omega
theorem GateM.ok.sendOk {g : GateM} {k : Nat} (h : g.ok k) : I64 g.send.1 ∨ 1000000 < k := by
  by_cases hk : k ≤ 1000000
  · refine .inl ?_
    have h1 := h.lo
    have h2 := h.hi
    unfold GateM.send
    split
    · exact ⟨by simp only; omega, by simp only; omega⟩
    · split
      · exact ⟨by simp only; omega, by simp only; omega⟩
      · exact ⟨by simp only; omega, by simp only; omega⟩
  · exact .inr (by omega)
theorem GateM.ok.sendText {g : GateM} {k : Nat} (h : g.ok k) : g.send.2.1.size ≤ maxLen := by
  have ht := h.txt
  have h0 : ByteArray.empty.size ≤ maxLen := by decide
  unfold GateM.send
  split
  · exact h0
  · split
    · exact h0
    · rename_i s q hq
      rw [hq, List.all_cons, Bool.and_eq_true] at ht
      exact isText_small ht.1

theorem takeR_I64 (l : List ByteArray) (n : Int) (s : ByteArray) (h : l.length ≤ 1000000) : I64 (takeR l n s).2.1 := by
  have hl := takeM_len l n s
  unfold takeR
  split
  · exact ⟨by simp only; omega, by simp only; omega⟩
  · exact ⟨by simp only; omega, by simp only; omega⟩
theorem takeR_bad2 {l l' : List ByteArray} {n x k : Int} {s : ByteArray} (h : takeR l n s = (l', x, k)) (hk : k ≠ 0) : (takeM l n s).1 = k := by
  unfold takeR at h
  split at h
  · cases h; rfl
  · cases h; exact absurd rfl hk
theorem takeR_good {l l' : List ByteArray} {n x : Int} {s : ByteArray} (h : takeR l n s = (l', x, 0)) : (takeM l n s).1 = 0 ∧ (takeM l n s).2 = l' ∧ x = l'.length := by
  unfold takeR at h
  split at h
  · rename_i h1
    simp only [Prod.mk.injEq] at h
    exact absurd h.2.2 h1
  · rename_i h1
    simp only [Prod.mk.injEq] at h
    obtain ⟨rfl, rfl, _⟩ := h
    exact ⟨by simpa using h1, rfl, rfl⟩
section
variable {p : PlayM} {n e1 x k : Int} {s : ByteArray} {l' : List ByteArray}
theorem send_err (back : Bool) (h : p.gate.send = (n, s, e1)) (h1 : e1 ≠ 0) : p.send back = (e1, p) := by
  unfold PlayM.send
  rw [h, if_pos h1]
theorem send_terr (back : Bool) (h : p.gate.send = (n, s, 0)) (h1 : takeR p.out n s = (l', x, k)) (hk : k ≠ 0) : p.send back = (k, p) := by
  have h2 := takeR_bad2 h1 hk
  have h3 := takeM_bad2 p.out n s (by rw [h2]; exact hk)
  unfold PlayM.send
  rw [h, if_neg (by simp)]
  simp only
  rw [if_pos (.inl (by rw [h2]; exact hk)), h2, h3]
theorem send_mute (h : p.gate.send = (n, s, 0)) (h1 : takeR p.out n s = (l', x, 0)) : p.send false = (0, { p with out := l' }) := by
  obtain ⟨h2, h3, h4⟩ := takeR_good h1
  unfold PlayM.send
  rw [h, if_neg (by simp)]
  simp only
  rw [if_pos (.inr trivial), h2, h3]
theorem send_back (h : p.gate.send = (n, s, 0)) (h1 : takeR p.out n s = (l', x, 0)) : p.send true = ((p.gate.ack1 x).1, { p with out := l', gate := (p.gate.ack1 x).2 }) := by
  obtain ⟨h2, h3, h4⟩ := takeR_good h1
  unfold PlayM.send
  rw [h, if_neg (by simp)]
  simp only
  rw [if_neg (by rw [h2]; simp), h3, ← h4]
theorem send_aerr {g : GateM} {c : Nat} (hp : p.gate.ok c) (hc : c ≤ 1000000) (h : p.gate.send = (n, s, 0)) (h1 : takeR p.out n s = (l', x, 0)) (h2 : p.gate.with1 (p.gate.ack1 x) = (g, k)) (hk : k ≠ 0) : p.send true = (k, { p with out := l' }) := by
  rw [hp.with1 hc] at h2
  split at h2
  · rename_i h3
    cases h2
    rw [send_back h h1, GateM.ack1_bad2 _ _ h3]
  · cases h2; exact absurd rfl hk
theorem send_good {g : GateM} {c : Nat} (hp : p.gate.ok c) (hc : c ≤ 1000000) (h : p.gate.send = (n, s, 0)) (h1 : takeR p.out n s = (l', x, 0)) (h2 : p.gate.with1 (p.gate.ack1 x) = (g, 0)) : p.send true = (0, { p with out := l', gate := g }) := by
  rw [hp.with1 hc] at h2
  split at h2
  · rename_i h3
    simp only [Prod.mk.injEq] at h2
    exact absurd h2.2 h3
  · rename_i h3
    simp only [Prod.mk.injEq, and_true] at h2
    rw [send_back h h1, h2, show (p.gate.ack1 x).1 = 0 by simpa using h3]
end

section
variable {w0 w : World} {H : Hp} {L L' : List (Nat × Obj)}
theorem heap_setCell_other' (w : World) (b i : Nat) (v : Value) {j : Nat} (h : j ≠ b) : (w.setCell ⟨b, i, none⟩ v).heap[j]? = w.heap[j]? := Below.heap_setCell w _ _ j h
/-- A whole block of three, or of eight, cells stored anew. -/
theorem Mem.set3 {b : Nat} {a0 a1 a2 x0 x1 x2 : Value} {t : TypeId} {f : Nat × Nat} (m : Mem w0 H L w) (hu : LUpd L b (.cells #[a0, a1, a2] t f) (.cells #[x0, x1, x2] t f) L') :
    Mem w0 H L' (((w.setCell ⟨b, 0, none⟩ x0).setCell ⟨b, 1, none⟩ x1).setCell ⟨b, 2, none⟩ x2) :=
  m.setObj hu rfl rfl rfl (heap_setCell_at _ _ _ _ (heap_setCell_at _ _ _ _ (heap_setCell_at w b 0 x0 (m.loc _ hu.mem).1))) fun j hj => by
    rw [heap_setCell_other' _ _ _ _ hj, heap_setCell_other' _ _ _ _ hj, heap_setCell_other' _ _ _ _ hj]
theorem Mem.set3b {b : Nat} {a0 a1 a2 a3 a4 a5 a6 a7 x0 x1 x2 : Value} {t : TypeId} {f : Nat × Nat} (m : Mem w0 H L w) (hu : LUpd L b (.cells #[a0, a1, a2, a3, a4, a5, a6, a7] t f) (.cells #[x0, x1, x2, a3, a4, a5, a6, a7] t f) L') :
    Mem w0 H L' (((w.setCell ⟨b, 0, none⟩ x0).setCell ⟨b, 1, none⟩ x1).setCell ⟨b, 2, none⟩ x2) :=
  m.setObj hu rfl rfl rfl (heap_setCell_at _ _ _ _ (heap_setCell_at _ _ _ _ (heap_setCell_at w b 0 x0 (m.loc _ hu.mem).1))) fun j hj => by
    rw [heap_setCell_other' _ _ _ _ hj, heap_setCell_other' _ _ _ _ hj, heap_setCell_other' _ _ _ _ hj]
theorem Mem.set8 {b : Nat} {a0 a1 a2 a3 a4 a5 a6 a7 x0 x1 x2 x3 x4 x5 x6 x7 : Value} {t : TypeId} {f : Nat × Nat} (m : Mem w0 H L w) (hu : LUpd L b (.cells #[a0, a1, a2, a3, a4, a5, a6, a7] t f) (.cells #[x0, x1, x2, x3, x4, x5, x6, x7] t f) L') :
    Mem w0 H L' ((((((((w.setCell ⟨b, 0, none⟩ x0).setCell ⟨b, 1, none⟩ x1).setCell ⟨b, 2, none⟩ x2).setCell ⟨b, 3, none⟩ x3).setCell ⟨b, 4, none⟩ x4).setCell ⟨b, 5, none⟩ x5).setCell ⟨b, 6, none⟩ x6).setCell ⟨b, 7, none⟩ x7) := by
  have h0 := (m.loc _ hu.mem).1
  have h1 := heap_setCell_at _ b 0 x0 h0
  have h2 := heap_setCell_at _ b 1 x1 h1
  have h3 := heap_setCell_at _ b 2 x2 h2
  have h4 := heap_setCell_at _ b 3 x3 h3
  have h5 := heap_setCell_at _ b 4 x4 h4
  have h6 := heap_setCell_at _ b 5 x5 h5
  have h7 := heap_setCell_at _ b 6 x6 h6
  have h8 := heap_setCell_at _ b 7 x7 h7
  simp only [List.setIfInBounds_toArray, List.set_cons_zero, List.set_cons_succ] at h8
  refine m.setObj hu ?_ ?_ ?_ h8 fun j hj => ?_
  · simp only [World.setCell]
  · simp only [World.setCell]
  · simp only [World.setCell]
  · rw [heap_setCell_other' _ _ _ _ hj, heap_setCell_other' _ _ _ _ hj, heap_setCell_other' _ _ _ _ hj, heap_setCell_other' _ _ _ _ hj, heap_setCell_other' _ _ _ _ hj, heap_setCell_other' _ _ _ _ hj, heap_setCell_other' _ _ _ _ hj, heap_setCell_other' _ _ _ _ hj]
end
/-- A world, as Go hands it about. -/
def WorldR (w0 : World) (H : Hp) (L : List (Nat × Obj)) (k : Int) (p : PlayM) (e : Ending) (w' : World) : Prop :=
  ∃ qb qc sb sc nb nc ob oc H', e = .returned (.tuple #[.agg #[.int .i64 p.gate.first, .slice qb p.gate.queue.length qc, .int .i64 p.gate.next, .int .i64 p.saved.first, .slice sb p.saved.queue.length sc, .int .i64 p.saved.next, .slice nb p.since.length nc, .slice ob p.out.length oc], .int .i64 k])
    ∧ Mem w0 H' L w' ∧ Hle H H' ∧ SlR encStr H' (.slice qb p.gate.queue.length qc) p.gate.queue ∧ SlR encStr H' (.slice sb p.saved.queue.length sc) p.saved.queue ∧ SlR encStr H' (.slice nb p.since.length nc) p.since ∧ SlR encStr H' (.slice ob p.out.length oc) p.out
/-- A world, in words that are at hand: one that is equal. -/
theorem WorldR.of {w0 : World} {H : Hp} {L : List (Nat × Obj)} {k k' : Int} {p p' : PlayM} {e : Ending} {w' : World} (h : WorldR w0 H L k' p' e w') (hk : k = k') (hp : p = p') : WorldR w0 H L k p e w' := by subst hk; subst hp; exact h

set_option maxRecDepth 10000 in
set_option maxHeartbeats 4000000 in
theorem Sent_any (qb : Option Addr) (qc : Nat) (sb : Option Addr) (sc : Nat) (nb : Option Addr) (nc : Nat) (ob : Option Addr) (oc : Nat) (p : PlayM) (back : Bool) (k : Nat) {w0 w : World} {H : Hp} {L : List (Nat × Obj)} (m : Mem w0 H L w) (hp : p.ok k) (hk : k ≤ 1000)
    (h1 : SlR encStr H (.slice qb p.gate.queue.length qc) p.gate.queue) (h2 : SlR encStr H (.slice sb p.saved.queue.length sc) p.saved.queue) (h3 : SlR encStr H (.slice nb p.since.length nc) p.since) (h4 : SlR encStr H (.slice ob p.out.length oc) p.out) :
    Calls Try.prog 57 #[.agg #[.int .i64 p.gate.first, .slice qb p.gate.queue.length qc, .int .i64 p.gate.next, .int .i64 p.saved.first, .slice sb p.saved.queue.length sc, .int .i64 p.saved.next, .slice nb p.since.length nc, .slice ob p.out.length oc], .bool back] w (WorldR w0 H L (p.send back).1 (p.send back).2) := by
  have H1 := Lib.hid h1; clear h1
  have H2 := Lib.hid h2; clear h2
  have H3 := Lib.hid h3; clear h3
  have H4 := Lib.hid h4; clear h4
  have HP := Lib.hid hp; clear hp
  go_enter Try.func57, Try.ntmps57
  have hsl := HP.out.gate.sendOk.resolve_right (by omega)
  have hst := HP.out.gate.sendText
  have hol := HP.out.out
  have m2 := (m.alloc (.cells #[.int .i64 p.gate.first, .slice qb p.gate.queue.length qc, .int .i64 p.gate.next, .int .i64 p.saved.first, .slice sb p.saved.queue.length sc, .int .i64 p.saved.next, .slice nb p.since.length nc, .slice ob p.out.length oc] 78)).alloc (.cells #[.int .i64 0, .slice none 0 0, .int .i64 0, .int .i64 0, .slice none 0 0, .int .i64 0, .slice none 0 0, .slice none 0 0] 78)
  simp only [World.size_alloc] at m2
  go_wp2_with fail
  refine (RSend_any _ p.gate m2 ⟨_, rfl, H1.out⟩).mono ?_
  rintro e w1 ⟨rfl, m3⟩
  generalize hsd : p.gate.send = sd at *
  obtain ⟨n, s, e1⟩ := sd
  have HSD := Lib.hid hsd; clear hsd
  clear m2
  have es := m3.eqs; simp only [EqsL, and_true] at es
  have ns := m3.nes; simp only [NeL, NeFrom, and_true, true_and] at ns
  by_cases he1 : e1 = 0
  · subst he1
    go_wp2_with fail
    refine (RTake_any _ p.out n s m3 H4.out (by omega) hst hsl).mono ?_
    rintro e w2 hR
    have hx := takeR_I64 p.out n s (by omega)
    generalize hr : takeR p.out n s = r at *
    obtain ⟨l', x, k2⟩ := r
    obtain ⟨b3, c3, H5, rfl, m4, hl4, hs4⟩ := TakeR.lit rfl rfl hR
    have HS4 := Lib.hid hs4; clear hs4 hR es ns m3
    have HR := Lib.hid hr; clear hr
    have es := m4.eqs; simp only [EqsL, and_true] at es
    have ns := m4.nes; simp only [NeL, NeFrom, and_true, true_and] at ns
    by_cases he2 : k2 = 0
    · subst he2
      cases back
      · go_wp2_with fail
        have m5 := m4.set (i := 7) (v := .slice b3 l'.length c3) (.tail .head)
        simp only [List.setIfInBounds_toArray, List.set_cons_zero, List.set_cons_succ] at m5
        refine bodyPost_ret (v := .tuple #[.agg #[.int .i64 p.gate.first, .slice qb p.gate.queue.length qc, .int .i64 p.gate.next, .int .i64 p.saved.first, .slice sb p.saved.queue.length sc, .int .i64 p.saved.next, .slice nb p.since.length nc, .slice b3 l'.length c3], .int .i64 0]) (by simp [results, Try.results57, go_sem, es, ns]) rfl ?_
        refine WorldR.of (p' := { p with out := l' }) ⟨qb, qc, sb, sc, nb, nc, b3, c3, H5, rfl, ?_, hl4, H1.out.mono hl4, H2.out.mono hl4, H3.out.mono hl4, HS4.out⟩ (by rw [send_mute HSD.out HR.out]) (by rw [send_mute HSD.out HR.out])
        exact (m5.set8 .head).drop.drop
      · go_wp2_with fail
        have m5 := m4.set (i := 7) (v := .slice b3 l'.length c3) (.tail .head)
        simp only [List.setIfInBounds_toArray, List.set_cons_zero, List.set_cons_succ] at m5
        refine (RAck_any _ p.gate x m5 ⟨_, rfl, H1.out.mono hl4⟩ hx).mono ?_
        rintro e w3 hR
        generalize hr : p.gate.with1 (p.gate.ack1 x) = r at *
        obtain ⟨⟨f, q, n3⟩, k3⟩ := r
        obtain ⟨b5, c5, H6, rfl, m6, hl6, hs6⟩ := GateR.lit rfl rfl hR
        have HS6 := Lib.hid hs6; clear hs6 hR es ns m4 m5
        have HR2 := Lib.hid hr; clear hr
        have m7 := m6.alloc (.cells #[.int .i64 f, .slice b5 q.length c5, .int .i64 n3] 24)
        have es := m6.eqs; simp only [EqsL, and_true] at es
        have ns := m7.nes; simp only [NeL, NeFrom, and_true, true_and] at ns
        by_cases he3 : k3 = 0
        · subst he3
          go_wp2_with fail
          refine bodyPost_ret (v := .tuple #[.agg #[.int .i64 (⟨f, q, n3⟩ : GateM).first, .slice b5 (⟨f, q, n3⟩ : GateM).queue.length c5, .int .i64 (⟨f, q, n3⟩ : GateM).next, .int .i64 p.saved.first, .slice sb p.saved.queue.length sc, .int .i64 p.saved.next, .slice nb p.since.length nc, .slice b3 l'.length c3], .int .i64 0]) (by simp [results, Try.results57, go_sem, es, ns]) rfl ?_
          refine WorldR.of (p' := { p with out := l', gate := ⟨f, q, n3⟩ }) ⟨b5, c5, sb, sc, nb, nc, b3, c3, H6, rfl, ?_, hl4.trans hl6, HS6.out, (H2.out.mono hl4).mono hl6, (H3.out.mono hl4).mono hl6, HS4.out.mono hl6⟩ (by rw [send_good HP.out.gate (by omega) HSD.out HR.out HR2.out]) (by rw [send_good HP.out.gate (by omega) HSD.out HR.out HR2.out])
          exact (((m6.set3b (.tail .head)).set8 .head).alloc _).drop.drop.drop
        · have he3' : (k3 != 0) = true := by simpa using he3
          have HE := Lib.hid he3; clear he3
          go_wp2_with fail
          refine bodyPost_ret (v := .tuple #[.agg #[.int .i64 p.gate.first, .slice qb p.gate.queue.length qc, .int .i64 p.gate.next, .int .i64 p.saved.first, .slice sb p.saved.queue.length sc, .int .i64 p.saved.next, .slice nb p.since.length nc, .slice b3 l'.length c3], .int .i64 k3]) (by simp [results, Try.results57, go_sem, es, ns]) rfl ?_
          refine WorldR.of (p' := { p with out := l' }) ⟨qb, qc, sb, sc, nb, nc, b3, c3, H6, rfl, ?_, hl4.trans hl6, (H1.out.mono hl4).mono hl6, (H2.out.mono hl4).mono hl6, (H3.out.mono hl4).mono hl6, HS4.out.mono hl6⟩ (by rw [send_aerr HP.out.gate (by omega) HSD.out HR.out HR2.out HE.out]) (by rw [send_aerr HP.out.gate (by omega) HSD.out HR.out HR2.out HE.out])
          exact ((m6.set8 .head).alloc _).drop.drop.drop
    · have he2' : (k2 != 0) = true := by simpa using he2
      have HE := Lib.hid he2; clear he2
      go_wp2_with fail
      refine bodyPost_ret (v := .tuple #[.agg #[.int .i64 p.gate.first, .slice qb p.gate.queue.length qc, .int .i64 p.gate.next, .int .i64 p.saved.first, .slice sb p.saved.queue.length sc, .int .i64 p.saved.next, .slice nb p.since.length nc, .slice ob p.out.length oc], .int .i64 k2]) (by simp [results, Try.results57, go_sem, es, ns]) rfl ?_
      refine WorldR.of (p' := p) ⟨qb, qc, sb, sc, nb, nc, ob, oc, H5, rfl, ?_, hl4, H1.out.mono hl4, H2.out.mono hl4, H3.out.mono hl4, H4.out.mono hl4⟩ (by rw [send_terr back HSD.out HR.out HE.out]) (by rw [send_terr back HSD.out HR.out HE.out])
      exact (m4.set8 .head).drop.drop
  · have he1' : (e1 != 0) = true := by simpa using he1
    have HE := Lib.hid he1; clear he1
    go_wp2_with fail
    refine bodyPost_ret (v := .tuple #[.agg #[.int .i64 p.gate.first, .slice qb p.gate.queue.length qc, .int .i64 p.gate.next, .int .i64 p.saved.first, .slice sb p.saved.queue.length sc, .int .i64 p.saved.next, .slice nb p.since.length nc, .slice ob p.out.length oc], .int .i64 e1]) (by simp [results, Try.results57, go_sem, es, ns]) rfl ?_
    refine WorldR.of (p' := p) ⟨qb, qc, sb, sc, nb, nc, ob, oc, H, rfl, ?_, Hle.refl _, H1.out, H2.out, H3.out, H4.out⟩ (by rw [send_err back HSD.out HE.out]) (by rw [send_err back HSD.out HE.out])
    exact (m3.set8 .head).drop.drop
end Go.Proofs.Ytpkcdkbbhiafnaa
