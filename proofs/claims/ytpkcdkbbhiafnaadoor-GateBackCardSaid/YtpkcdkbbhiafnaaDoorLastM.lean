/- Plain law: as many sends as outputs wait bring all of them out. No program in sight. -/
import Derived.Test.YtpkcdkbbhiafnaaDoorOnceM
namespace Go.Proofs.YtpkcdkbbhiafnaaDoor
set_option linter.unusedVariables false
set_option linter.unusedSimpArgs false
open Go.RowKit

theorem PlayM.act_send (p : PlayM) : p.act (bare 2) = p.send true := rfl
theorem Inv.queueLen {p : PlayM} {P : List ByteArray} (h : Inv p P) : p.gate.queue.length = P.length - p.gate.first.toNat := by rw [h.gq]; simp
/-- A send makes the queue shorter. -/
theorem Inv.shorter {p : PlayM} {P : List ByteArray} {k : Nat} (h : Inv p P) (hp : p.ok k) (hk : k ≤ 1000000) : (p.send true).2.gate.queue.length ≤ p.gate.queue.length - 1 := by
  have hck := hp.gate.chk hk
  have hi := h.send hp hk true
  have h0 := h.queueLen
  have h1 := hi.queueLen
  have h2 := h.gf
  unfold PlayM.send at h1 ⊢
  cases hq : p.gate.queue with
  | nil =>
    have hs : p.gate.send = (0, ByteArray.empty, 7) := by unfold GateM.send; rw [if_neg (by simp [hck]), hq]
    rw [hs, if_pos (by simp), hq]
    simp
  | cons s r =>
    have hs : p.gate.send = (p.gate.first, s, 0) := by unfold GateM.send; rw [if_neg (by simp [hck]), hq]
    obtain ⟨t1, t2, t3, t4, t5⟩ := h.took hq
    rw [hs, if_neg (by simp)]
    simp only
    generalize takeM p.out p.gate.first s = tk at *
    obtain ⟨e, o⟩ := tk
    simp only at *
    subst t1
    rw [if_neg (by simp)]
    have hql : p.gate.queue.length = P.length - p.gate.first.toNat := h0
    unfold GateM.ack1
    rw [if_neg (by omega), if_pos (by omega)]
    simp only [List.length_drop]
    rw [hq]
    simp only [List.length_cons]
    omega
theorem sends_law {P : List ByteArray} : ∀ (n : Nat) {p : PlayM} {k : Nat}, Inv p P → p.ok k → k + n ≤ 1000000 →
    Inv (p.run (List.replicate n (bare 2))).1 P ∧ (p.run (List.replicate n (bare 2))).1.gate.queue.length ≤ p.gate.queue.length - n := by
  intro n
  induction n with
  | zero => intro p k h _ _; exact ⟨h, by simp [PlayM.run]⟩
  | succ n ih =>
    intro p k h hp hk
    have h1 := h.shorter hp (by omega)
    have hok := hp.send true
    obtain ⟨h2, h3⟩ := ih (h.send hp (by omega) true) hok (by omega)
    rw [List.replicate_succ]
    simp only [PlayM.run, PlayM.act_send]
    exact ⟨h2, by omega⟩
/-- P24.10: what a storm and so many sends as wait lead to. -/
theorem last_law (l : List UInt8) : (stormM l).out.length ≤ 180 ∧ (PlayM.start.run (stormM l).out).1.gate.queue.length ≤ 50 ∧
    (PlayM.start.run ((stormM l).out ++ List.replicate (PlayM.start.run (stormM l).out).1.gate.queue.length (bare 2))).1.gate.queue = [] ∧
    (PlayM.start.run ((stormM l).out ++ List.replicate (PlayM.start.run (stormM l).out).1.gate.queue.length (bare 2))).1.gate.first = (stormM l).put.length ∧
    (PlayM.start.run ((stormM l).out ++ List.replicate (PlayM.start.run (stormM l).out).1.gate.queue.length (bare 2))).1.out = (stormM l).put := by
  have hm : stormM l = (l.take (min 90 l.length)).foldl StormS.step .zero := by
    unfold stormM
    rcases Nat.le_total 90 l.length with h | h
    · rw [Nat.min_eq_left h]
    · rw [Nat.min_eq_right h, List.take_of_length_le h, List.take_of_length_le (Nat.le_refl _)]
  have hb := storm_bounds l (min 90 l.length) (Nat.min_le_right _ _)
  obtain ⟨h1, h50⟩ := storm_inv l (min 90 l.length) (Nat.min_le_right _ _) (by omega)
  rw [← hm] at hb h1 h50
  generalize stormM l = s at *
  have hok := PlayM.start_ok.run s.out
  have hq := h1.queueLen
  have hn50 : (PlayM.start.run s.out).1.gate.queue.length ≤ 50 := by omega
  rw [PlayM.run_app]
  generalize (PlayM.start.run s.out).1 = p at *
  obtain ⟨h2, h3⟩ := sends_law p.gate.queue.length h1 hok (by omega)
  generalize (p.run (List.replicate p.gate.queue.length (bare 2))).1 = r at *
  have h4 := h2.queueLen
  have h5 := h2.gf
  have h6 := h2.go
  have h7 := h2.oP
  refine ⟨by omega, by omega, List.eq_nil_of_length_eq_zero (by omega), by omega, ?_⟩
  rw [h2.ol]
  exact List.take_of_length_le (by omega)
end Go.Proofs.YtpkcdkbbhiafnaaDoor
