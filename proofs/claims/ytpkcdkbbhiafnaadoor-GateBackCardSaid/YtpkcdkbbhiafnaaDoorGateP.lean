/- The walks: the program's Play: send, crash, do. -/
import Derived.Test.YtpkcdkbbhiafnaaDoorGateG
import Derived.Deep.RegionHeld3
import Derived.StillTailTactics
namespace Go.Proofs.YtpkcdkbbhiafnaaDoor
set_option linter.unusedVariables false
set_option linter.unusedSimpArgs false
open Go.RowKit

/-- The same, opened: every cell in sight. -/
theorem GateOwn.cells {w0 : World} {H : Hp} {L : List (Nat × Obj)} {b : Nat} {g : GateM} {w : World} (h : GateOwn w0 H L b g w) :
    ∃ qb qc Lq cs, AccL 9 1 (.slice qb g.queue.length qc) g.queue.length cs Lq ∧ Chunks encStr H cs g.queue ∧
      Mem w0 H ((b, .cells #[.int .i64 g.first, .slice qb g.queue.length qc, .int .i64 g.next] 49) :: (Lq ++ L)) w := by
  obtain ⟨q, cs, hacc, hch⟩ := h
  obtain ⟨Lq, ha, m⟩ := hacc.split
  obtain ⟨qb, qc, rfl, _, _⟩ := ha.shape
  exact ⟨qb, qc, Lq, cs, ha, hch, m.perm (by classical exact List.perm_iff_count.2 (fun a => by simp only [List.count_append, List.count_cons, List.cons_append, List.nil_append, List.append_assoc]; omega))⟩
theorem GateOwn.of_cells {w0 : World} {H : Hp} {L : List (Nat × Obj)} {b : Nat} {g : GateM} {w : World} {q : Value} {Lq : List (Nat × Obj)} {cs : List Value} (ha : AccL 9 1 q g.queue.length cs Lq) (hch : Chunks encStr H cs g.queue)
    (m : Mem w0 H ((b, .cells #[.int .i64 g.first, q, .int .i64 g.next] 49) :: (Lq ++ L)) w) : GateOwn w0 H L b g w :=
  ⟨q, cs, ha.join (m.perm (by classical exact List.perm_iff_count.2 (fun a => by simp only [List.count_append, List.count_cons, List.cons_append, List.nil_append, List.append_assoc]; omega))), hch⟩

theorem perm_gate {α : Type} (x y : α) (A B R : List α) : (x :: (A ++ (y :: (B ++ R)))).Perm (y :: x :: (B ++ (A ++ R))) := (by classical exact List.perm_iff_count.2 (fun a => by simp only [List.count_append, List.count_cons, List.cons_append, List.nil_append, List.append_assoc]; omega))
theorem perm_out {α : Type} (x y : α) (A B R : List α) : (y :: x :: (B ++ (A ++ R))).Perm (B ++ (y :: (x :: (A ++ R)))) := (by classical exact List.perm_iff_count.2 (fun a => by simp only [List.count_append, List.count_cons, List.cons_append, List.nil_append, List.append_assoc]; omega))
theorem perm_since {α : Type} (x y : α) (A B C R : List α) : (y :: x :: (B ++ (A ++ (C ++ R)))).Perm (C ++ (y :: x :: (B ++ (A ++ R)))) := (by classical exact List.perm_iff_count.2 (fun a => by simp only [List.count_append, List.count_cons, List.cons_append, List.nil_append, List.append_assoc]; omega))

theorem perm_mid {α : Type} (x y : α) (A B R : List α) : (x :: y :: (A ++ (B ++ R))).Perm (B ++ (x :: y :: (A ++ R))) := (by classical exact List.perm_iff_count.2 (fun a => by simp only [List.count_append, List.count_cons, List.cons_append, List.nil_append, List.append_assoc]; omega))

theorem perm_last {α : Type} (x y : α) (A B C R : List α) : (x :: y :: (A ++ (B ++ (C ++ R)))).Perm (C ++ (x :: y :: (A ++ (B ++ R)))) := (by classical exact List.perm_iff_count.2 (fun a => by simp only [List.count_append, List.count_cons, List.cons_append, List.nil_append, List.append_assoc]; omega))
theorem perm_new {α : Type} (x y z : α) (N A B R : List α) : (x :: (N ++ (y :: z :: (A ++ (B ++ R))))).Perm (z :: (B ++ (y :: x :: (A ++ (N ++ R))))) := (by classical exact List.perm_iff_count.2 (fun a => by simp only [List.count_append, List.count_cons, List.cons_append, List.nil_append, List.append_assoc]; omega))
theorem Mem.dropL {w0 w : World} {H : Hp} {L : List (Nat × Obj)} : ∀ {A : List (Nat × Obj)}, Mem w0 H (A ++ L) w → Mem w0 H L w
  | [], m => m
  | _ :: _, m => Mem.dropL m.drop

/-- Everything of a play in one list: the play's block, the gate's, the outside's list, the queue, what was put out since. -/
def PlayC (w0 : World) (H : Hp) (L : List (Nat × Obj)) (bp bg : Nat) (p : PlayM) (qo qq qs ss q5 : Value) (co cq cs : List Value) (Lo Lq Ls : List (Nat × Obj)) (w : World) : Prop :=
  AccL 9 1 qo p.out.length co Lo ∧ Chunks encStr H co p.out ∧ AccL 9 1 qq p.gate.queue.length cq Lq ∧ Chunks encStr H cq p.gate.queue ∧
  AccL 9 1 qs p.since.length cs Ls ∧ Chunks encStr H cs p.since ∧ SlR encStr H ss p.saved.queue ∧
  Mem w0 H ((bp, .cells #[.pointer (some ⟨bg, 0, none⟩), qo, .int .i64 p.saved.first, ss, .int .i64 p.saved.next, q5] 52) :: (bg, .cells #[.int .i64 p.gate.first, qq, .int .i64 p.gate.next] 49) :: (Lo ++ (Lq ++ (Ls ++ L)))) w
/-- A play at block bp. -/
def PlayOwn (w0 : World) (H : Hp) (L : List (Nat × Obj)) (bp : Nat) (p : PlayM) (w : World) : Prop := ∃ bg qo qq qs ss co cq cs Lo Lq Ls, PlayC w0 H L bp bg p qo qq qs ss qs co cq cs Lo Lq Ls w
theorem PlayC.toGate {w0 : World} {H : Hp} {L : List (Nat × Obj)} {bp bg : Nat} {p : PlayM} {qo qq qs ss q5 : Value} {co cq cs : List Value} {Lo Lq Ls : List (Nat × Obj)} {w : World} (h : PlayC w0 H L bp bg p qo qq qs ss q5 co cq cs Lo Lq Ls w) :
    GateOwn w0 H ((bp, .cells #[.pointer (some ⟨bg, 0, none⟩), qo, .int .i64 p.saved.first, ss, .int .i64 p.saved.next, q5] 52) :: (Lo ++ (Ls ++ L))) bg p.gate w :=
  GateOwn.of_cells h.2.2.1 h.2.2.2.1 (h.2.2.2.2.2.2.2.perm (perm_gate _ _ Lq Lo (Ls ++ L)).symm)
/-- Behind a method of the gate. -/
theorem PlayC.ofGate {w0 : World} {H : Hp} {L : List (Nat × Obj)} {bp bg : Nat} {p : PlayM} {qo qq qs ss q5 : Value} {co cq cs : List Value} {Lo Lq Ls : List (Nat × Obj)} {w w' : World} (h : PlayC w0 H L bp bg p qo qq qs ss q5 co cq cs Lo Lq Ls w) {g : GateM}
    (hg : GateOwn w0 H ((bp, .cells #[.pointer (some ⟨bg, 0, none⟩), qo, .int .i64 p.saved.first, ss, .int .i64 p.saved.next, q5] 52) :: (Lo ++ (Ls ++ L))) bg g w') :
    ∃ qb qc cq' Lq', PlayC w0 H L bp bg { p with gate := g } qo (.slice qb g.queue.length qc) qs ss q5 co cq' cs Lo Lq' Ls w' := by
  obtain ⟨qb, qc, Lq', cq', aq, chq, m⟩ := hg.cells
  exact ⟨qb, qc, cq', Lq', h.1, h.2.1, aq, chq, h.2.2.2.2.1, h.2.2.2.2.2.1, h.2.2.2.2.2.2.1, m.perm (perm_gate _ _ Lq' Lo (Ls ++ L))⟩
theorem PlayC.toOut {w0 : World} {H : Hp} {L : List (Nat × Obj)} {bp bg : Nat} {p : PlayM} {qo qq qs ss q5 : Value} {co cq cs : List Value} {Lo Lq Ls : List (Nat × Obj)} {w : World} (h : PlayC w0 H L bp bg p qo qq qs ss q5 co cq cs Lo Lq Ls w) :
    OutOwn w0 H ((bg, .cells #[.int .i64 p.gate.first, qq, .int .i64 p.gate.next] 49) :: (Lq ++ (Ls ++ L))) bp (fun q => #[.pointer (some ⟨bg, 0, none⟩), q, .int .i64 p.saved.first, ss, .int .i64 p.saved.next, q5]) 52 p.out w :=
  ⟨qo, co, h.1.join (h.2.2.2.2.2.2.2.perm (perm_out _ _ Lq Lo (Ls ++ L))), h.2.1⟩
theorem PlayC.ofOut {w0 : World} {H : Hp} {L : List (Nat × Obj)} {bp bg : Nat} {p : PlayM} {qo qq qs ss q5 : Value} {co cq cs : List Value} {Lo Lq Ls : List (Nat × Obj)} {w w' : World} (h : PlayC w0 H L bp bg p qo qq qs ss q5 co cq cs Lo Lq Ls w) {l : List ByteArray}
    (ho : OutOwn w0 H ((bg, .cells #[.int .i64 p.gate.first, qq, .int .i64 p.gate.next] 49) :: (Lq ++ (Ls ++ L))) bp (fun q => #[.pointer (some ⟨bg, 0, none⟩), q, .int .i64 p.saved.first, ss, .int .i64 p.saved.next, q5]) 52 l w') :
    ∃ b c co' Lo', PlayC w0 H L bp bg { p with out := l } (.slice b l.length c) qq qs ss q5 co' cq cs Lo' Lq Ls w' := by
  obtain ⟨q, co', hacc, hch⟩ := ho
  obtain ⟨Lo', ao, m⟩ := hacc.split
  obtain ⟨b, c, rfl, _, _⟩ := ao.shape
  exact ⟨b, c, co', Lo', ao, hch, h.2.2.1, h.2.2.2.1, h.2.2.2.2.1, h.2.2.2.2.2.1, h.2.2.2.2.2.2.1, m.perm (perm_out _ _ Lq Lo' (Ls ++ L)).symm⟩
theorem PlayC.own {w0 : World} {H : Hp} {L : List (Nat × Obj)} {bp bg : Nat} {p : PlayM} {qo qq qs ss : Value} {co cq cs : List Value} {Lo Lq Ls : List (Nat × Obj)} {w : World} (h : PlayC w0 H L bp bg p qo qq qs ss qs co cq cs Lo Lq Ls w) : PlayOwn w0 H L bp p w := ⟨bg, qo, qq, qs, ss, co, cq, cs, Lo, Lq, Ls, h⟩
theorem PlayC.drewN {w0 : World} {H : Hp} {L : List (Nat × Obj)} {bp bg : Nat} {p : PlayM} {qo qq qs ss q5 : Value} {co cq cs : List Value} {Lo Lq Ls : List (Nat × Obj)} {w : World} (h : PlayC w0 H L bp bg p qo qq qs ss q5 co cq cs Lo Lq Ls w) (n : Nat) : PlayC w0 H L bp bg p qo qq qs ss q5 co cq cs Lo Lq Ls (w.drewN n) :=
  ⟨h.1, h.2.1, h.2.2.1, h.2.2.2.1, h.2.2.2.2.1, h.2.2.2.2.2.1, h.2.2.2.2.2.2.1, h.2.2.2.2.2.2.2.drewN n⟩
theorem PlayC.mem {w0 : World} {H : Hp} {L : List (Nat × Obj)} {bp bg : Nat} {p : PlayM} {qo qq qs ss q5 : Value} {co cq cs : List Value} {Lo Lq Ls : List (Nat × Obj)} {w : World} (h : PlayC w0 H L bp bg p qo qq qs ss q5 co cq cs Lo Lq Ls w) :
    Mem w0 H ((bp, .cells #[.pointer (some ⟨bg, 0, none⟩), qo, .int .i64 p.saved.first, ss, .int .i64 p.saved.next, q5] 52) :: (bg, .cells #[.int .i64 p.gate.first, qq, .int .i64 p.gate.next] 49) :: (Lo ++ (Lq ++ (Ls ++ L)))) w := h.2.2.2.2.2.2.2

theorem PlayC.toSince {w0 : World} {H : Hp} {L : List (Nat × Obj)} {bp bg : Nat} {p : PlayM} {qo qq qs ss q5 : Value} {co cq cs : List Value} {Lo Lq Ls : List (Nat × Obj)} {w : World} (h : PlayC w0 H L bp bg p qo qq qs ss q5 co cq cs Lo Lq Ls w) :
    MemAcc w0 H ((bp, .cells #[.pointer (some ⟨bg, 0, none⟩), qo, .int .i64 p.saved.first, ss, .int .i64 p.saved.next, q5] 52) :: (bg, .cells #[.int .i64 p.gate.first, qq, .int .i64 p.gate.next] 49) :: (Lo ++ (Lq ++ L))) 9 1 qs p.since.length cs w :=
  h.2.2.2.2.1.join (h.mem.perm (perm_last _ _ Lo Lq Ls L))
theorem PlayC.ofSince {w0 : World} {H : Hp} {L : List (Nat × Obj)} {bp bg : Nat} {p : PlayM} {qo qq qs ss q5 : Value} {co cq cs : List Value} {Lo Lq Ls : List (Nat × Obj)} {w w' : World} (h : PlayC w0 H L bp bg p qo qq qs ss q5 co cq cs Lo Lq Ls w) {v : Value} {l : List ByteArray} {cs' : List Value}
    (ha : MemAcc w0 H ((bp, .cells #[.pointer (some ⟨bg, 0, none⟩), qo, .int .i64 p.saved.first, ss, .int .i64 p.saved.next, q5] 52) :: (bg, .cells #[.int .i64 p.gate.first, qq, .int .i64 p.gate.next] 49) :: (Lo ++ (Lq ++ L))) 9 1 v l.length cs' w')
    (hch : Chunks encStr H cs' l) : ∃ Ls', PlayC w0 H L bp bg { p with since := l } qo qq v ss q5 co cq cs' Lo Lq Ls' w' := by
  obtain ⟨Ls', as', m⟩ := ha.split
  exact ⟨Ls', h.1, h.2.1, h.2.2.1, h.2.2.2.1, as', hch, h.2.2.2.2.2.2.1, m.perm (perm_last _ _ Lo Lq Ls' L).symm⟩
theorem PlayC.weaken {w0 : World} {H H' : Hp} {L : List (Nat × Obj)} {bp bg : Nat} {p : PlayM} {qo qq qs ss q5 : Value} {co cq cs : List Value} {Lo Lq Ls : List (Nat × Obj)} {w : World} (h : PlayC w0 H' L bp bg p qo qq qs ss q5 co cq cs Lo Lq Ls w) (hs : SlR encStr H ss p.saved.queue) (hl : Hle H H') :
    PlayC w0 H L bp bg p qo qq qs ss q5 co cq cs Lo Lq Ls w :=
  ⟨h.1, h.2.1.anyH, h.2.2.1, h.2.2.2.1.anyH, h.2.2.2.2.1, h.2.2.2.2.2.1.anyH, hs, h.mem.weaken hl⟩

theorem perm_tail {α : Type} (x y z : α) (A B C R : List α) : (z :: x :: y :: (A ++ (B ++ (C ++ R)))).Perm (x :: y :: (A ++ (B ++ (C ++ (z :: R))))) := (by classical exact List.perm_iff_count.2 (fun a => by simp only [List.count_append, List.count_cons, List.cons_append, List.nil_append, List.append_assoc]; omega))
/-- A block more. -/
theorem PlayC.alloc {w0 : World} {H : Hp} {L : List (Nat × Obj)} {bp bg : Nat} {p : PlayM} {qo qq qs ss q5 : Value} {co cq cs : List Value} {Lo Lq Ls : List (Nat × Obj)} {w : World} (h : PlayC w0 H L bp bg p qo qq qs ss q5 co cq cs Lo Lq Ls w) (o : Obj) :
    PlayC w0 H ((w.heap.size, o) :: L) bp bg p qo qq qs ss q5 co cq cs Lo Lq Ls (w.alloc o) :=
  ⟨h.1, h.2.1, h.2.2.1, h.2.2.2.1, h.2.2.2.2.1, h.2.2.2.2.2.1, h.2.2.2.2.2.2.1, (h.mem.alloc o).perm (perm_tail _ _ _ Lo Lq Ls L)⟩
theorem PlayC.front {w0 : World} {H : Hp} {L : List (Nat × Obj)} {bp bg b : Nat} {o : Obj} {p : PlayM} {qo qq qs ss q5 : Value} {co cq cs : List Value} {Lo Lq Ls : List (Nat × Obj)} {w : World} (h : PlayC w0 H ((b, o) :: L) bp bg p qo qq qs ss q5 co cq cs Lo Lq Ls w) :
    Mem w0 H ((b, o) :: (bp, .cells #[.pointer (some ⟨bg, 0, none⟩), qo, .int .i64 p.saved.first, ss, .int .i64 p.saved.next, q5] 52) :: (bg, .cells #[.int .i64 p.gate.first, qq, .int .i64 p.gate.next] 49) :: (Lo ++ (Lq ++ (Ls ++ L)))) w :=
  h.mem.perm (perm_tail _ _ _ Lo Lq Ls L).symm
theorem PlayC.drop {w0 : World} {H : Hp} {L : List (Nat × Obj)} {bp bg b : Nat} {o : Obj} {p : PlayM} {qo qq qs ss q5 : Value} {co cq cs : List Value} {Lo Lq Ls : List (Nat × Obj)} {w : World} (h : PlayC w0 H ((b, o) :: L) bp bg p qo qq qs ss q5 co cq cs Lo Lq Ls w) :
    PlayC w0 H L bp bg p qo qq qs ss q5 co cq cs Lo Lq Ls w :=
  ⟨h.1, h.2.1, h.2.2.1, h.2.2.2.1, h.2.2.2.2.1, h.2.2.2.2.2.1, h.2.2.2.2.2.2.1, h.front.drop⟩
theorem PlayOwn.alloc {w0 : World} {H : Hp} {L : List (Nat × Obj)} {bp : Nat} {p : PlayM} {w : World} (h : PlayOwn w0 H L bp p w) (o : Obj) : PlayOwn w0 H ((w.heap.size, o) :: L) bp p (w.alloc o) := by
  obtain ⟨bg, qo, qq, qs, ss, co, cq, cs, Lo, Lq, Ls, hc⟩ := h
  exact ⟨bg, qo, qq, qs, ss, co, cq, cs, Lo, Lq, Ls, hc.alloc o⟩
theorem PlayOwn.drop {w0 : World} {H : Hp} {L : List (Nat × Obj)} {bp b : Nat} {o : Obj} {p : PlayM} {w : World} (h : PlayOwn w0 H ((b, o) :: L) bp p w) : PlayOwn w0 H L bp p w := by
  obtain ⟨bg, qo, qq, qs, ss, co, cq, cs, Lo, Lq, Ls, hc⟩ := h
  exact ⟨bg, qo, qq, qs, ss, co, cq, cs, Lo, Lq, Ls, hc.drop⟩

/-- The queue lent for reading. -/
theorem PlayC.lendQueue {w0 : World} {H : Hp} {L : List (Nat × Obj)} {bp bg : Nat} {p : PlayM} {qo qq qs ss q5 : Value} {co cq cs : List Value} {Lo Lq Ls : List (Nat × Obj)} {w : World} (h : PlayC w0 H L bp bg p qo qq qs ss q5 co cq cs Lo Lq Ls w) :
    ∃ H' L1, Mem w0 H' L1 w ∧ SlR encStr H' qq p.gate.queue ∧ ∀ w', Mem w0 H' L1 w' → PlayC w0 H L bp bg p qo qq qs ss q5 co cq cs Lo Lq Ls w' := by
  have m1 := h.mem.perm (L' := Lq ++ (_ :: _ :: (Lo ++ (Ls ++ L)))) (perm_mid _ _ Lo Lq (Ls ++ L))
  obtain ⟨H', m2, _, hsl, back⟩ := h.2.2.1.borrow h.2.2.2.1 rfl rfl m1
  refine ⟨H', _, m2, hsl, fun w' m' => ⟨h.1, h.2.1, h.2.2.1, h.2.2.2.1, h.2.2.2.2.1, h.2.2.2.2.2.1, h.2.2.2.2.2.2.1, (back _ w' m').perm (perm_mid _ _ Lo Lq (Ls ++ L)).symm⟩⟩

theorem GateM.send_ok {g : GateM} {k : Nat} (h : g.ok k) (he : g.send.2.2 = 0) : g.send.1 = g.first ∧ g.send.2.1.size ≤ 200 := by
  have ht := h.txt
  unfold GateM.send at *
  split at he
  · rename_i hc; exact absurd he hc
  · rename_i hc
    rw [if_neg hc]
    split at he
    · simp at he
    · rename_i s t heq
      rw [heq] at ht
      simp only [List.all_cons, Bool.and_eq_true] at ht
      have := ht.1
      unfold isText at this
      simp only [Bool.and_eq_true, decide_eq_true_eq] at this
      exact ⟨rfl, this.2⟩

set_option maxRecDepth 10000 in
set_option maxHeartbeats 1000000 in
theorem psend_any (bp : Nat) (p : PlayM) (back : Bool) (k : Nat) {w0 w : World} {H : Hp} {L : List (Nat × Obj)} (h : PlayOwn w0 H L bp p w) (hok : p.ok k) (hk : k ≤ 1000000) :
    Calls Tryd.prog 28 #[.pointer (some ⟨bp, 0, none⟩), .bool true, .bool back] w fun e w' => e = .returned (.int .i64 (p.send back).1) ∧ PlayOwn w0 H L bp (p.send back).2 w' := by
  obtain ⟨bg, qo, qq, qs, ss, co, cq, cs, Lo, Lq, Ls, hc⟩ := h
  obtain ⟨bo, no, rfl, _, hno⟩ := hc.1.shape
  obtain ⟨qb, qc, rfl, _, _⟩ := hc.2.2.1.shape
  have hno := size_le_maxLen hno
  have HC := Lib.hid hc; clear hc
  have hck := hok.gate.chk hk
  have hsm := GateM.small_of hck
  obtain ⟨s1, s2, s3, s4, s5⟩ := hsm
  have es := HC.out.mem.eqs; simp only [EqsL, and_true] at es
  obtain ⟨H2, L1, m4, hsl, back⟩ := HC.out.lendQueue
  have BACK := Lib.hid back; clear back
  go_enter Tryd.func28, Tryd.ntmps28
  go_wp2_with fail
  refine (Send_any _ p.gate m4 ⟨_, rfl, hsl⟩ ⟨⟨by omega, by omega⟩, ⟨by omega, by omega⟩⟩).mono ?_
  rintro e w1 ⟨rfl, m5⟩
  have HC := Lib.hid (BACK.out _ m5)
  clear m4 m5 hsl es
  have es := HC.out.mem.eqs; simp only [EqsL, and_true] at es
  by_cases he : p.gate.send.2.2 = 0
  · have he1 : (p.gate.send.2.2 != 0) = false := by simpa using he
    obtain ⟨hf1, hf2⟩ := GateM.send_ok hok.gate he
    have HF := Lib.hid hf1; clear hf1
    have HE := Lib.hid he; clear he
    go_wp2_with fail
    refine (take_any bp 1 _ _ (fun _ => rfl) (fun _ _ => rfl) p.out _ _ HC.out.toOut (by have := hok.out; omega) (by unfold maxLen; omega) (by have := HF.out; unfold I64; omega)).mono ?_
    rintro e w2 ⟨rfl, ho⟩
    obtain ⟨bo', no', co', Lo', hc⟩ := HC.out.ofOut ho
    clear ho es
    have HC2 := Lib.hid hc; clear hc
    have hno2 := size_le_maxLen HC2.out.1.shape.choose_spec.choose_spec.2.2
    have es := HC2.out.mem.eqs; simp only [EqsL, and_true] at es
    by_cases hb : (takeM p.out p.gate.send.1 p.gate.send.2.1).1 = 0
    · have hb1 : ((takeM p.out p.gate.send.1 p.gate.send.2.1).1 != 0) = false := by simpa using hb
      have HB := Lib.hid hb; clear hb
      cases back
      · go_wp2_with fail
        go_ret
        rw [show p.send false = ((takeM p.out p.gate.send.1 p.gate.send.2.1).1, { p with out := (takeM p.out p.gate.send.1 p.gate.send.2.1).2 }) by unfold PlayM.send; rw [if_neg (by simpa using HE.out), if_pos (.inr rfl)]]
        exact ⟨rfl, HC2.out.own⟩
      · go_wp2_with fail
        go_still_tail 9, (by kernel_rfl)
        change wpList _ _ _ _ _ w2.drew
        have HC3 := Lib.hid (HC2.out.drewN 1)
        rw [← World.drew_is_drewN] at HC3
        go_wp2_with fail
        refine (ack_any bg p.gate _ HC3.out.toGate (GateM.small_of hck) ⟨by omega, by have := takeM_len p.out p.gate.send.1 p.gate.send.2.1; have := hok.out; omega⟩).mono ?_
        rintro e w3 ⟨rfl, hg⟩
        obtain ⟨qb', qc', cq', Lq', hc⟩ := HC3.out.ofGate hg
        have HC4 := Lib.hid hc
        clear hg hc es
        go_wp2_with fail
        go_ret
        rw [show p.send true = ((p.gate.ack1 (takeM p.out p.gate.send.1 p.gate.send.2.1).2.length).1, { p with out := (takeM p.out p.gate.send.1 p.gate.send.2.1).2, gate := (p.gate.ack1 (takeM p.out p.gate.send.1 p.gate.send.2.1).2.length).2 }) by unfold PlayM.send; rw [if_neg (by simpa using HE.out), if_neg (by simpa using HB.out)]]
        exact ⟨rfl, HC4.out.own⟩
    · have hb1 : ((takeM p.out p.gate.send.1 p.gate.send.2.1).1 != 0) = true := by simpa using hb
      have HB := Lib.hid hb; clear hb
      go_wp2_with fail
      go_ret
      rw [show p.send back = ((takeM p.out p.gate.send.1 p.gate.send.2.1).1, { p with out := (takeM p.out p.gate.send.1 p.gate.send.2.1).2 }) by unfold PlayM.send; rw [if_neg (by simpa using HE.out), if_pos (.inl (by simpa using HB.out))]]
      exact ⟨rfl, HC2.out.own⟩
  · have he1 : (p.gate.send.2.2 != 0) = true := by simpa using he
    have HE := Lib.hid he; clear he
    go_wp2_with fail
    go_ret
    rw [show p.send back = (p.gate.send.2.2, p) by unfold PlayM.send; rw [if_pos HE.out]]
    exact ⟨rfl, HC.out.own⟩

set_option maxRecDepth 10000 in
set_option maxHeartbeats 1000000 in
theorem crash_any (bp : Nat) (p : PlayM) (k : Nat) {w0 w : World} {H : Hp} {L : List (Nat × Obj)} (h : PlayOwn w0 H L bp p w) (hok : p.ok k) (hk : k ≤ 1000000) :
    Calls Tryd.prog 31 #[.pointer (some ⟨bp, 0, none⟩)] w fun e w' => e = .returned (.int .i64 p.crash.1) ∧ PlayOwn w0 H L bp p.crash.2 w' := by
  obtain ⟨bg, qo, qq, qs, ss, co, cq, cs, Lo, Lq, Ls, hc⟩ := h
  obtain ⟨bo, no, rfl, _, hno⟩ := hc.1.shape
  obtain ⟨qb, qc, rfl, _, _⟩ := hc.2.2.1.shape
  obtain ⟨bs, ns, rfl, _, hns⟩ := hc.2.2.2.2.1.shape
  have hns := size_le_maxLen hns
  obtain ⟨sb, sc, rfl⟩ := GateV.slice hc.2.2.2.2.2.2.1
  have HC := Lib.hid hc; clear hc
  have hck := hok.saved.chk hk
  have hsm := GateM.small_of hck
  obtain ⟨s1, s2, s3, s4, s5⟩ := hsm
  -- what was put out since then is lent for reading
  have m1 := HC.out.mem.perm (L' := Ls ++ (_ :: _ :: (Lo ++ (Lq ++ L)))) (perm_last _ _ Lo Lq Ls L)
  obtain ⟨H2, m2, hle2, hsl2, _⟩ := HC.out.2.2.2.2.1.borrow HC.out.2.2.2.2.2.1 rfl rfl m1
  have HSL := Lib.hid hsl2; clear hsl2
  have es := m2.eqs; simp only [EqsL, and_true] at es
  go_enter Tryd.func31, Tryd.ntmps31
  go_wp2_with fail
  refine (newGate_any _ p.saved m2 ⟨_, rfl, HC.out.2.2.2.2.2.2.1.mono hle2⟩ ⟨⟨by omega, by omega⟩, ⟨by omega, by omega⟩⟩).mono ?_
  rintro e w1 (⟨hk2, rfl, m3⟩ | ⟨_, bn, rfl, hg⟩)
  · exact absurd hck hk2
  clear es
  obtain ⟨qb', qc', Lq', cq', aq', chq', m3⟩ := hg.cells
  have m4 := (m3.perm (perm_new _ _ _ Lq' Lo Lq L)).drop.dropL
  clear hg m3
  have es := m4.eqs; simp only [EqsL, and_true] at es
  have h0 : PlayC w0 H2 L bp bn ⟨p.saved, p.out, p.saved, []⟩ (.slice bo p.out.length no) (.slice qb' p.saved.queue.length qc') (.slice none 0 0) (.slice sb p.saved.queue.length sc) (.slice bs p.since.length ns) co cq' [] Lo Lq' [] (w1.setCell ⟨bp, 0, none⟩ (.pointer (some ⟨bn, 0, none⟩))) :=
    ⟨HC.out.1, HC.out.2.1.anyH, aq', chq', AccL.nil, .nil, HC.out.2.2.2.2.2.2.1.mono hle2, m4.set (i := 0) (v := .pointer (some ⟨bn, 0, none⟩)) .head⟩
  have H0 := Lib.hid h0; clear h0 aq' chq' m4
  have hlen : p.since.length ≤ 1000000 := by have := hok.since; have := hok.saved.lo; omega
  go_wp2_with fail
  go_loopw [2, 3, 5, 6, 23] (fun v2 v3 _ _ v23 wr => ∃ (j : Nat) (b3 : Option Addr) (c3 : Nat), j ≤ p.since.length ∧ v23 = .int .i64 j ∧ v2 = .int .i64 (p.redo (p.since.take j)).2.2 ∧ v3 = .slice b3 (p.redo (p.since.take j)).2.1.length c3 ∧ ∃ qq cq cs3 Lq L3, PlayC w0 H2 L bp bn ⟨(p.redo (p.since.take j)).1, p.out, p.saved, (p.redo (p.since.take j)).2.1⟩ (.slice bo p.out.length no) qq v3 (.slice sb p.saved.queue.length sc) (.slice bs p.since.length ns) co cq cs3 Lo Lq L3 wr) (fun _ _ _ _ i _ => p.since.length - (intOf i).toNat)
  case atStart => exact ⟨0, none, 0, Nat.zero_le _, rfl, rfl, rfl, _, _, _, _, _, H0.out⟩
  case round =>
    obtain ⟨j, b3, c3, hj, rfl, rfl, rfl, qq', cq2, cs3, Lq2, L3, hp⟩ := hrel
    clear es
    by_cases hlt : j < p.since.length
    · have hrok := PlayM.redo_ok hok (p.since.take j) (by simp; omega)
      have hstep : p.redo (p.since.take (j + 1)) = again (p.redo (p.since.take j)) p.since[j] := by
        unfold PlayM.redo
        rw [List.take_succ_eq_append_getElem hlt, List.foldl_append]
        rfl
      have hlenr := hrok.2
      obtain ⟨blk, off, rfl, hcell, hsz⟩ := HSL.out.cellV hlt
      have hcell := hcell.cell hp.mem
      generalize p.redo (p.since.take j) = r at *
      have HS := Lib.hid hstep; clear hstep
      have HP := Lib.hid hp; clear hp
      obtain ⟨qb2, qc2, rfl, _, _⟩ := HP.out.2.2.1.shape
      have es := HP.out.mem.eqs; simp only [EqsL, and_true] at es
      go_wp2_with fail
      refine (put_any bn r.1 p.since[j] HP.out.toGate (GateM.small_of (hrok.1.chk hk)) hsz).mono ?_
      rintro e w2 ⟨rfl, hg⟩
      obtain ⟨qb4, qc4, cq4, Lq4, hp2⟩ := HP.out.ofGate hg
      have HP2 := Lib.hid hp2; clear hp2 hg es hcell
      have es := HP2.out.mem.eqs; simp only [EqsL, and_true] at es
      by_cases he : (r.1.put1 p.since[j]).1 = 0
      · have he1 : ((r.1.put1 p.since[j]).1 == 0) = true := by simpa using he
        have hag : again r p.since[j] = ((r.1.put1 p.since[j]).2, r.2.1 ++ [p.since[j]], r.2.2) := by
          unfold again; rw [if_pos he, if_neg (by simp [he])]
        have HAG := Lib.hid hag; clear hag
        have HE := Lib.hid he; clear he
        go_wp2_with (at_builtin; refine wpList_append_mem (w0 := w0) (H := H2) (L := (w2.heap.size, .cells #[.string p.since[j]] 9) :: _) rfl _ _ 25 rfl 9 1 16 (.string ByteArray.empty) Tryd.underlying25 (by kernel_rfl) rfl (by decide) (.slice b3 r.2.1.length c3) r.2.1.length cs3 (HP2.out.toSince.alloc (.cells #[.string p.since[j]] 9)) rfl _ 1 [.string p.since[j]] (Src.loc (e := 9) (HP2.out.toSince.mem.alloc (.cells #[.string p.since[j]] 9)) (.head _)) rfl rfl (by simp [Value.oneCell']) (by simp at hlenr; omega) (by unfold maxLen; simp at hlenr; omega) ?_)
        intro v' w' hacc
        obtain ⟨b', c', rfl, _, _⟩ := hacc.shape
        have hl1 : (r.2.1 ++ [p.since[j]]).length = r.2.1.length + 1 := by simp
        rw [← hl1] at hacc
        obtain ⟨L5, hp3⟩ := HP2.out.ofSince (l := r.2.1 ++ [p.since[j]]) hacc.drop (HP2.out.2.2.2.2.2.1.append (.one (x := p.since[j]) ⟨rfl, hsz⟩ rfl))
        have HP3 := Lib.hid hp3; clear hp3 hacc es
        rw [hl1] at HP3
        clear hl1
        go_wp2_with fail
        go_roundw
        case rel =>
          refine ⟨j + 1, b', c', by omega, by go_num, ?_, ?_, .slice qb4 (r.1.put1 p.since[j]).2.queue.length qc4, cq4, cs3 ++ [.string p.since[j]], Lq4, L5, ?_⟩
          · rw [HS.out, HAG.out]
          · rw [HS.out, HAG.out]; simp
          · rw [HS.out, HAG.out]; exact HP3.out
        case measure => simp [intOf]; omega
      · have he1 : ((r.1.put1 p.since[j]).1 == 0) = false := by simpa using he
        have HE := Lib.hid he; clear he
        by_cases hf : r.2.2 = 0
        · have hf1 : (r.2.2 == 0) = true := by simpa using hf
          have hag : again r p.since[j] = ((r.1.put1 p.since[j]).2, r.2.1, (r.1.put1 p.since[j]).1) := by
            unfold again; rw [if_neg HE.out, if_pos ⟨HE.out, hf⟩]
          have HAG := Lib.hid hag; clear hag
          have HF := Lib.hid hf; clear hf
          go_wp2_with fail
          go_roundw
          case rel =>
            refine ⟨j + 1, b3, c3, by omega, by go_num, ?_, ?_, .slice qb4 (r.1.put1 p.since[j]).2.queue.length qc4, cq4, cs3, Lq4, L3, ?_⟩
            · rw [HS.out, HAG.out]
            · rw [HS.out, HAG.out]
            · rw [HS.out, HAG.out]; exact HP2.out
          case measure => simp [intOf]; omega
        · have hf1 : (r.2.2 == 0) = false := by simpa using hf
          have hag : again r p.since[j] = ((r.1.put1 p.since[j]).2, r.2.1, r.2.2) := by
            unfold again; rw [if_neg HE.out, if_neg (by simp [hf])]
          have HAG := Lib.hid hag; clear hag
          have HF := Lib.hid hf; clear hf
          go_wp2_with fail
          go_roundw
          case rel =>
            refine ⟨j + 1, b3, c3, by omega, by go_num, ?_, ?_, .slice qb4 (r.1.put1 p.since[j]).2.queue.length qc4, cq4, cs3, Lq4, L3, ?_⟩
            · rw [HS.out, HAG.out]
            · rw [HS.out, HAG.out]
            · rw [HS.out, HAG.out]; exact HP2.out
          case measure => simp [intOf]; omega
    · have hjj : p.since.take j = p.since := List.take_of_length_le (by omega)
      rw [hjj] at hp
      obtain ⟨qb2, qc2, rfl, _, _⟩ := hp.2.2.1.shape
      have HP := Lib.hid hp; clear hp
      rw [hjj]
      clear hjj
      have es := HP.out.mem.eqs; simp only [EqsL, and_true] at es
      go_wp2_with fail
      go_ret
      have m9 := HP.out.mem.set (i := 5) (v := .slice b3 (p.redo p.since).2.1.length c3) .head
      have h9 : PlayC w0 H2 L bp bn p.crash.2 _ _ _ _ _ co cq2 cs3 Lo Lq2 L3 _ := ⟨HP.out.1, HP.out.2.1, HP.out.2.2.1, HP.out.2.2.2.1, HP.out.2.2.2.2.1, HP.out.2.2.2.2.2.1, HP.out.2.2.2.2.2.2.1, m9⟩
      exact ⟨rfl, (h9.weaken HC.out.2.2.2.2.2.2.1 hle2).own⟩
end Go.Proofs.YtpkcdkbbhiafnaaDoor
