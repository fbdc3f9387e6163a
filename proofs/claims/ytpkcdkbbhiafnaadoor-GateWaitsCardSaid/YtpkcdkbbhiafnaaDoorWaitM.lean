/- Plain law: in a storm without power cuts, what waits, and which errors there are. No program in sight. -/
import Derived.Test.YtpkcdkbbhiafnaaDoorLastM
namespace Go.Proofs.YtpkcdkbbhiafnaaDoor
set_option linter.unusedVariables false
set_option linter.unusedSimpArgs false
open Go.RowKit

def okErr (e : Int) : Prop := e = 0 ∨ e = 7 ∨ e = 3
def keepA (a : ActM) : Bool := a.kind != 7
theorem PlayM.run_app2 (l1 l2 : List ActM) : ∀ p : PlayM, (p.run (l1 ++ l2)).2 = (p.run l1).2 ++ ((p.run l1).1.run l2).2 := by
  induction l1 with
  | nil => intro p; rfl
  | cons a l ih => intro p; simp only [List.cons_append, PlayM.run, ih]
theorem Inv.send_err {p : PlayM} {P : List ByteArray} {k : Nat} (h : Inv p P) (hp : p.ok k) (hk : k ≤ 1000000) (back : Bool) : okErr (p.send back).1 := by
  have hck := hp.gate.chk hk
  unfold PlayM.send
  cases hq : p.gate.queue with
  | nil =>
    have hs : p.gate.send = (0, ByteArray.empty, 7) := by unfold GateM.send; rw [if_neg (by simp [hck]), hq]
    rw [hs, if_pos (by simp)]
    exact .inr (.inl rfl)
  | cons s r =>
    have hs : p.gate.send = (p.gate.first, s, 0) := by unfold GateM.send; rw [if_neg (by simp [hck]), hq]
    obtain ⟨t1, t2, t3, t4, t5⟩ := h.took hq
    have h1 := h.gf
    have h2 := h.go
    have hql := h.queueLen
    rw [hs, if_neg (by simp)]
    simp only
    generalize takeM p.out p.gate.first s = tk at *
    obtain ⟨e, o⟩ := tk
    simp only at *
    subst t1
    cases back
    · rw [if_pos (.inr rfl)]
      exact .inl rfl
    · rw [if_neg (by simp)]
      unfold GateM.ack1
      rw [if_neg (by omega), if_pos (by omega)]
      exact .inl rfl
theorem isText_inB (d : Nat) (h : d < 3) : isText (inB d) = true := by
  have hd : d = 0 ∨ d = 1 ∨ d = 2 := by omega
  rcases hd with rfl | rfl | rfl <;> decide
theorem Inv.offer_err (p : PlayM) (n : Int) {s : ByteArray} (h : isText s = true) : okErr (p.act ⟨5, n, s⟩).1 := by
  show okErr (p.gate.offer1 n s).2.1
  unfold GateM.offer1
  rw [if_neg (by simp [h])]
  split
  · exact .inr (.inr rfl)
  · split
    · exact .inl rfl
    · exact .inl rfl
theorem Inv.put_err {p : PlayM} {P : List ByteArray} (h : Inv p P) (hP : P.length < 50) (t : ByteArray) (ht : isText t = true) : ∀ e ∈ (p.run [⟨1, 0, t⟩, bare 6]).2, okErr e := by
  have h1 := h.gf
  have h2 := h.go
  have h3 := h.oP
  have hql : p.gate.queue.length = P.length - p.gate.first.toNat := by rw [h.gq]; simp
  have hput : p.gate.put1 t = (0, { p.gate with queue := p.gate.queue ++ [t] }) := by
    unfold GateM.put1
    rw [if_neg (by simp [ht]), if_neg (by omega), if_neg (by omega)]
  have hact : p.act ⟨1, 0, t⟩ = (0, { p with gate := { p.gate with queue := p.gate.queue ++ [t] }, since := p.since ++ [t] }) := by
    unfold PlayM.act
    rw [if_pos rfl, hput]
    simp
  intro e he
  simp only [PlayM.run, hact, List.mem_cons, List.not_mem_nil, or_false] at he
  rcases he with rfl | rfl
  · exact .inl rfl
  · exact .inl rfl
theorem waits_inv (l : List UInt8) : ∀ j, j ≤ l.length → j ≤ 1000 → Inv (PlayM.start.run (((l.take j).foldl StormS.step .zero).out.filter keepA)).1 ((l.take j).foldl StormS.step .zero).put ∧ ((l.take j).foldl StormS.step .zero).put.length ≤ 50 ∧ ∀ e ∈ (PlayM.start.run (((l.take j).foldl StormS.step .zero).out.filter keepA)).2, okErr e := by
  intro j
  induction j with
  | zero => intro _ _; exact ⟨Inv.start, by simp [StormS.zero], fun e h => (by cases h)⟩
  | succ j ih =>
    intro h hj
    obtain ⟨h1, h2, h3⟩ := ih (by omega) (by omega)
    have hb := storm_bounds l j (by omega)
    rw [List.take_succ_eq_append_getElem (by omega), List.foldl_append]
    simp only [List.foldl_cons, List.foldl_nil]
    generalize (l.take j).foldl StormS.step .zero = s at *
    have hfl : (s.out.filter keepA).length ≤ s.out.length := List.length_filter_le _ _
    have hok := PlayM.start_ok.run (s.out.filter keepA)
    have hd : l[j].toNat / 8 % 3 < 3 := Nat.mod_lt _ (by decide)
    have one : ∀ a : ActM, keepA a = true → a.kind ≠ 1 → okErr ((PlayM.start.run (s.out.filter keepA)).1.act a).1 → Inv (PlayM.start.run ((s.out ++ [a]).filter keepA)).1 s.put ∧ s.put.length ≤ 50 ∧ ∀ e ∈ (PlayM.start.run ((s.out ++ [a]).filter keepA)).2, okErr e := fun a hk ha he => by
      have hf : (s.out ++ [a]).filter keepA = s.out.filter keepA ++ [a] := by rw [List.filter_append, List.filter_cons, if_pos hk]; rfl
      rw [hf, PlayM.run_app, PlayM.run_app2]
      refine ⟨h1.act hok (by omega) a ha, h2, fun e h => ?_⟩
      rcases List.mem_append.1 h with h | h
      · exact h3 e h
      · simp only [PlayM.run, List.mem_cons, List.not_mem_nil, or_false] at h
        rw [h]; exact he
    unfold StormS.step
    split
    · split
      · exact ⟨h1, h2, h3⟩
      · rename_i h50
        have hf : (s.out ++ [(⟨1, 0, outB (l[j].toNat / 8 % 3)⟩ : ActM), bare 6]).filter keepA = s.out.filter keepA ++ [⟨1, 0, outB (l[j].toNat / 8 % 3)⟩, bare 6] := by rw [List.filter_append]; rfl
        simp only
        rw [hf, PlayM.run_app, PlayM.run_app2]
        refine ⟨h1.put (by omega) _ (isText_outB _ hd), by simp; omega, fun e h => ?_⟩
        rcases List.mem_append.1 h with h | h
        · exact h3 e h
        · exact h1.put_err (by omega) _ (isText_outB _ hd) e h
    · split
      · exact one _ rfl (show (5 : UInt8) ≠ 1 by decide) (Inv.offer_err _ _ (isText_inB _ hd))
      · split
        · exact one _ rfl (by decide) (h1.send_err hok (by omega) true)
        · split
          · exact one _ rfl (by decide) (.inl rfl)
          · split
            · exact one _ rfl (by decide) (h1.send_err hok (by omega) false)
            · split
              · exact one _ rfl (by decide) (.inl rfl)
              · have hf : (s.out ++ [bare 7]).filter keepA = s.out.filter keepA := by
                  rw [List.filter_append]
                  exact List.append_nil _
                simp only
                rw [hf]
                exact ⟨h1, h2, h3⟩
/-- P24.12 -/
theorem waits_law (l : List UInt8) : (stormM l).out.length ≤ 180 ∧ (stormM l).put.length ≤ 50 ∧
    0 ≤ (PlayM.start.run ((stormM l).out.filter keepA)).1.gate.first ∧ (PlayM.start.run ((stormM l).out.filter keepA)).1.gate.first ≤ (PlayM.start.run ((stormM l).out.filter keepA)).1.out.length ∧
    (PlayM.start.run ((stormM l).out.filter keepA)).1.gate.first + (PlayM.start.run ((stormM l).out.filter keepA)).1.gate.queue.length = (stormM l).put.length ∧
    (PlayM.start.run ((stormM l).out.filter keepA)).1.gate.queue = (stormM l).put.drop (PlayM.start.run ((stormM l).out.filter keepA)).1.gate.first.toNat ∧
    ∀ e ∈ (PlayM.start.run ((stormM l).out.filter keepA)).2, okErr e := by
  have hm : stormM l = (l.take (min 90 l.length)).foldl StormS.step .zero := by
    unfold stormM
    rcases Nat.le_total 90 l.length with h | h
    · rw [Nat.min_eq_left h]
    · rw [Nat.min_eq_right h, List.take_of_length_le h, List.take_of_length_le (Nat.le_refl _)]
  have hb := storm_bounds l (min 90 l.length) (Nat.min_le_right _ _)
  obtain ⟨h1, h2, h3⟩ := waits_inv l (min 90 l.length) (Nat.min_le_right _ _) (by omega)
  rw [← hm] at hb h1 h2 h3
  generalize stormM l = s at *
  have h4 := h1.queueLen
  have h5 := h1.gf
  have h6 := h1.go
  have h7 := h1.oP
  exact ⟨by omega, h2, h5, h6, by omega, h1.gq, h3⟩
end Go.Proofs.YtpkcdkbbhiafnaaDoor
