/- Plain law: what chapter 24's Play computes. No program in sight. -/
import Derived.Test.YtpkcdkbbhiafnaaDoorGateM
namespace Go.Proofs.YtpkcdkbbhiafnaaDoor
set_option linter.unusedVariables false
set_option linter.unusedSimpArgs false
open Go.RowKit

structure PlayM where
  gate : GateM
  out : List ByteArray
  saved : GateM
  since : List ByteArray

def takeM (l : List ByteArray) (n : Int) (s : ByteArray) : Int × List ByteArray :=
  if isText s = false then (4, l) else if n < 0 ∨ (l.length : Int) < n then (3, l) else if n = l.length then (0, l ++ [s]) else (0, l)
def GateM.send (g : GateM) : Int × ByteArray × Int :=
  if g.chk ≠ 0 then (0, ByteArray.empty, g.chk) else match g.queue with | [] => (0, ByteArray.empty, 7) | s :: _ => (g.first, s, 0)

/-- Sent, and taken; what is acknowledged comes back, or not. -/
def PlayM.send (p : PlayM) (back : Bool) : Int × PlayM :=
  if p.gate.send.2.2 ≠ 0 then (p.gate.send.2.2, p)
  else if (takeM p.out p.gate.send.1 p.gate.send.2.1).1 ≠ 0 ∨ back = false then ((takeM p.out p.gate.send.1 p.gate.send.2.1).1, { p with out := (takeM p.out p.gate.send.1 p.gate.send.2.1).2 })
  else ((p.gate.ack1 (takeM p.out p.gate.send.1 p.gate.send.2.1).2.length).1, { p with out := (takeM p.out p.gate.send.1 p.gate.send.2.1).2, gate := (p.gate.ack1 (takeM p.out p.gate.send.1 p.gate.send.2.1).2.length).2 })

/-- One text put out again. -/
def again (r : GateM × List ByteArray × Int) (s : ByteArray) : GateM × List ByteArray × Int :=
  ((r.1.put1 s).2, if (r.1.put1 s).1 = 0 then r.2.1 ++ [s] else r.2.1, if (r.1.put1 s).1 ≠ 0 ∧ r.2.2 = 0 then (r.1.put1 s).1 else r.2.2)
def PlayM.redo (p : PlayM) (l : List ByteArray) : GateM × List ByteArray × Int := l.foldl again (p.saved, [], 0)
def PlayM.crash (p : PlayM) : Int × PlayM := ((p.redo p.since).2.2, { p with gate := (p.redo p.since).1, since := (p.redo p.since).2.1 })

structure ActM where
  kind : UInt8
  n : Int
  s : ByteArray
def PlayM.act (p : PlayM) (a : ActM) : Int × PlayM :=
  if a.kind = 1 then ((p.gate.put1 a.s).1, if (p.gate.put1 a.s).1 = 0 then { p with gate := (p.gate.put1 a.s).2, since := p.since ++ [a.s] } else p)
  else if a.kind = 2 then p.send true
  else if a.kind = 3 then (0, p)
  else if a.kind = 4 then p.send false
  else if a.kind = 5 then ((p.gate.offer1 a.n a.s).2.1, { p with gate := (p.gate.offer1 a.n a.s).2.2 })
  else if a.kind = 6 then (0, { p with saved := p.gate, since := [] })
  else if a.kind = 7 then p.crash
  else (2, p)
def PlayM.start : PlayM := ⟨.zero, [], .zero, []⟩
def PlayM.run (p : PlayM) : List ActM → PlayM × List Int
  | [] => (p, [])
  | a :: l => (((p.act a).2.run l).1, (p.act a).1 :: ((p.act a).2.run l).2)

/-- What holds of a gate in play, k texts having been put out at most. -/
structure GateM.ok (g : GateM) (k : Nat) : Prop where
  lo : 0 ≤ g.first
  hi : g.first + g.queue.length ≤ k
  nlo : 0 ≤ g.next
  nhi : g.next ≤ k
  len : g.queue.length ≤ 64
  txt : g.queue.all isText = true
theorem GateM.ok.chk {g : GateM} {k : Nat} (h : g.ok k) (hk : k ≤ 1000000) : g.chk = 0 := by
  obtain ⟨h1, h2, h3, h4, h5, h6⟩ := h
  unfold GateM.chk
  rw [if_neg (by omega), if_neg (by omega), if_pos h6]
theorem GateM.ok.mono {g : GateM} {k k' : Nat} (h : g.ok k) (hk : k ≤ k') : g.ok k' := ⟨h.lo, by have := h.hi; omega, h.nlo, by have := h.nhi; omega, h.len, h.txt⟩
theorem GateM.ok.put {g : GateM} {k : Nat} (h : g.ok k) (s : ByteArray) : (g.put1 s).2.ok (k + 1) := by
  unfold GateM.put1
  split
  · exact h.mono (by omega)
  · rename_i ht
    split
    · exact h.mono (by omega)
    · split
      · exact h.mono (by omega)
      · refine ⟨h.lo, ?_, h.nlo, by have := h.nhi; simp; omega, ?_, ?_⟩
        · have := h.hi; simp; omega
        · have := h.len; simp; omega
        · have ht' : isText s = true := by simpa using ht
          simp only [List.all_append, h.txt, List.all_cons, ht', List.all_nil, Bool.and_self]
theorem GateM.ok.ack {g : GateM} {k : Nat} (h : g.ok k) (n : Int) : (g.ack1 n).2.ok k := by
  unfold GateM.ack1
  split
  · exact h
  · split
    · obtain ⟨h1, h2, h3, h4, h5, h6⟩ := h
      refine ⟨by simp; omega, by simp; omega, h3, h4, by simp; omega, ?_⟩
      simp only [List.all_eq_true] at *
      exact fun x hx => h6 x (List.mem_of_mem_drop hx)
    · exact h
theorem GateM.ok.offer {g : GateM} {k : Nat} (h : g.ok k) (n : Int) (s : ByteArray) : (g.offer1 n s).2.2.ok (k + 1) := by
  unfold GateM.offer1
  split
  · exact h.mono (by omega)
  · split
    · exact h.mono (by omega)
    · split
      · exact h.mono (by omega)
      · exact ⟨h.lo, by have := h.hi; simp; omega, by have := h.nlo; simp; omega, by have := h.nhi; simp; omega, h.len, h.txt⟩

structure PlayM.ok (p : PlayM) (k : Nat) : Prop where
  gate : p.gate.ok k
  saved : p.saved.ok k
  since : p.saved.first + p.saved.queue.length + p.since.length ≤ k
  out : p.out.length ≤ k
theorem PlayM.ok.mono {p : PlayM} {k k' : Nat} (h : p.ok k) (hk : k ≤ k') : p.ok k' := ⟨h.gate.mono hk, h.saved.mono hk, by have := h.since; omega, by have := h.out; omega⟩
theorem takeM_len (l : List ByteArray) (n : Int) (s : ByteArray) : (takeM l n s).2.length ≤ l.length + 1 := by
  unfold takeM
  split
  · simp
  · split
    · simp
    · split <;> simp
theorem PlayM.ok.send {p : PlayM} {k : Nat} (h : p.ok k) (back : Bool) : (p.send back).2.ok (k + 1) := by
  have hl := takeM_len p.out p.gate.send.1 p.gate.send.2.1
  have ho := h.out
  unfold PlayM.send
  split
  · exact h.mono (by omega)
  · split
    · exact ⟨h.gate.mono (by omega), h.saved.mono (by omega), by have := h.since; simp; omega, by simp; omega⟩
    · exact ⟨(h.gate.ack _).mono (by omega), h.saved.mono (by omega), by have := h.since; simp; omega, by simp; omega⟩
theorem again_len (l : List ByteArray) : ∀ (r : GateM × List ByteArray × Int), (l.foldl again r).2.1.length ≤ r.2.1.length + l.length := by
  induction l with
  | nil => intro r; simp
  | cons s l ih =>
    intro r
    rw [List.foldl_cons]
    refine Nat.le_trans (ih _) ?_
    simp only [again, List.length_cons]
    split <;> simp <;> omega
theorem put1_fine (g : GateM) (s : ByteArray) (h : g.queue.length ≤ 64) (ht : g.queue.all isText = true) :
    (g.put1 s).2.first = g.first ∧ (g.put1 s).2.next = g.next ∧ (g.put1 s).2.queue.length ≤ g.queue.length + 1 ∧ (g.put1 s).2.queue.length ≤ 64 ∧ (g.put1 s).2.queue.all isText = true := by
  unfold GateM.put1
  split
  · exact ⟨rfl, rfl, by simp, h, ht⟩
  · rename_i h1
    split
    · exact ⟨rfl, rfl, by simp, h, ht⟩
    · split
      · exact ⟨rfl, rfl, by simp, h, ht⟩
      · have h1' : isText s = true := by simpa using h1
        refine ⟨rfl, rfl, by simp, by simp; omega, ?_⟩
        simp only [List.all_append, ht, List.all_cons, h1', List.all_nil, Bool.and_self]
theorem again_fine (l : List ByteArray) : ∀ (r : GateM × List ByteArray × Int), r.1.queue.length ≤ 64 → r.1.queue.all isText = true →
    (l.foldl again r).1.first = r.1.first ∧ (l.foldl again r).1.next = r.1.next ∧ (l.foldl again r).1.queue.length ≤ r.1.queue.length + l.length ∧ (l.foldl again r).1.queue.length ≤ 64 ∧ (l.foldl again r).1.queue.all isText = true := by
  induction l with
  | nil => intro r h1 h2; exact ⟨rfl, rfl, by simp, h1, h2⟩
  | cons s l ih =>
    intro r h1 h2
    obtain ⟨e1, e2, e3, e4, e5⟩ := put1_fine r.1 s h1 h2
    rw [List.foldl_cons, List.length_cons]
    obtain ⟨f1, f2, f3, f4, f5⟩ := ih (again r s) e4 e5
    have hg : (again r s).1 = (r.1.put1 s).2 := rfl
    rw [hg] at f1 f2 f3
    exact ⟨f1.trans e1, f2.trans e2, by omega, f4, f5⟩
theorem PlayM.redo_ok {p : PlayM} {k : Nat} (h : p.ok k) (l : List ByteArray) (hl : l.length ≤ p.since.length) : (p.redo l).1.ok k ∧ (p.redo l).2.1.length ≤ l.length := by
  obtain ⟨e1, e2, e3, e4, e5⟩ := again_fine l (p.saved, [], 0) h.saved.len h.saved.txt
  have h6 := again_len l (p.saved, [], 0)
  have h1 := h.saved
  have h2 := h.since
  refine ⟨⟨?_, ?_, ?_, ?_, e4, e5⟩, by simpa [PlayM.redo] using h6⟩
  · unfold PlayM.redo; rw [e1]; exact h1.lo
  · unfold PlayM.redo; rw [e1]; simp only at e3 ⊢; omega
  · unfold PlayM.redo; rw [e2]; exact h1.nlo
  · unfold PlayM.redo; rw [e2]; exact h1.nhi
theorem PlayM.ok.crash {p : PlayM} {k : Nat} (h : p.ok k) : p.crash.2.ok k := by
  obtain ⟨h1, h2⟩ := PlayM.redo_ok h p.since (Nat.le_refl _)
  exact ⟨h1, h.saved, by have := h.since; simp [PlayM.crash]; omega, h.out⟩
theorem PlayM.ok.act {p : PlayM} {k : Nat} (h : p.ok k) (a : ActM) : (p.act a).2.ok (k + 1) := by
  unfold PlayM.act
  split
  · simp only
    split
    · exact ⟨h.gate.put _, h.saved.mono (by omega), by have := h.since; simp; omega, by have := h.out; simp; omega⟩
    · exact h.mono (by omega)
  · split
    · exact h.send _
    · split
      · exact h.mono (by omega)
      · split
        · exact h.send _
        · split
          · exact ⟨h.gate.offer _ _, h.saved.mono (by omega), by have := h.since; simp; omega, by have := h.out; simp; omega⟩
          · split
            · exact ⟨h.gate.mono (by omega), h.gate.mono (by omega), by have := h.gate.hi; simp; omega, by have := h.out; simp; omega⟩
            · split
              · exact h.crash.mono (by omega)
              · exact h.mono (by omega)
theorem PlayM.run_snoc (l : List ActM) (a : ActM) : ∀ p : PlayM, p.run (l ++ [a]) = (((p.run l).1.act a).2, (p.run l).2 ++ [((p.run l).1.act a).1]) := by
  induction l with
  | nil => intro p; rfl
  | cons b l ih => intro p; simp only [List.cons_append, PlayM.run, ih]
theorem PlayM.run_len (l : List ActM) : ∀ p : PlayM, (p.run l).2.length = l.length := by
  induction l with
  | nil => intro p; rfl
  | cons b l ih => intro p; simp only [PlayM.run, List.length_cons, ih]
theorem PlayM.ok.run {k : Nat} (l : List ActM) : ∀ {p : PlayM}, p.ok k → (p.run l).1.ok (k + l.length) := by
  induction l generalizing k with
  | nil => intro p h; exact h
  | cons b l ih =>
    intro p h
    have := ih (h.act b)
    rw [List.length_cons, show k + (l.length + 1) = k + 1 + l.length by omega]
    exact this
/-- The errors are small numbers. -/
theorem PlayM.start_ok : PlayM.start.ok 0 := ⟨⟨by decide, by decide, by decide, by decide, by decide, by decide⟩, ⟨by decide, by decide, by decide, by decide, by decide, by decide⟩, by decide, by decide⟩
end Go.Proofs.YtpkcdkbbhiafnaaDoor
