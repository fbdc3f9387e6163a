/- Plain law: in a storm what the outside has taken is a beginning of what was put out. No program in sight. -/
import Derived.Test.YtpkcdkbbhiafnaaDoorDoorC
import Derived.Test.YtpkcdkbbhiafnaaDoorWorldA
namespace Go.Proofs.YtpkcdkbbhiafnaaDoor
set_option linter.unusedVariables false
set_option linter.unusedSimpArgs false
open Go.RowKit

/-- What holds of a play in which each output is saved at once, P having been put out. -/
structure Inv (p : PlayM) (P : List ByteArray) : Prop where
  since : p.since = []
  gq : p.gate.queue = P.drop p.gate.first.toNat
  gf : 0 ≤ p.gate.first
  go : p.gate.first ≤ p.out.length
  ol : p.out = P.take p.out.length
  oP : p.out.length ≤ P.length
  sq : p.saved.queue = P.drop p.saved.first.toNat
  sf : 0 ≤ p.saved.first
  so : p.saved.first ≤ p.out.length
  tx : ∀ t ∈ P, isText t = true
theorem Inv.start : Inv PlayM.start [] := ⟨rfl, rfl, by decide, by decide, rfl, by decide, rfl, by decide, by decide, fun t h => (by cases h)⟩

theorem PlayM.run_app (l1 l2 : List ActM) : ∀ p : PlayM, (p.run (l1 ++ l2)).1 = ((p.run l1).1.run l2).1 := by
  induction l1 with
  | nil => intro p; rfl
  | cons a l ih => intro p; simp only [List.cons_append, PlayM.run, ih]

theorem take_succ_eq {α : Type} {P : List α} {n : Nat} {s : α} {r : List α} (h : P.drop n = s :: r) : P.take (n + 1) = P.take n ++ [s] ∧ n < P.length := by
  have hl : n < P.length := by
    rcases Nat.lt_or_ge n P.length with h1 | h1
    · exact h1
    · rw [List.drop_eq_nil_of_le h1] at h; cases h
  rw [List.drop_eq_getElem_cons hl] at h
  simp only [List.cons.injEq] at h
  exact ⟨by rw [List.take_succ_eq_append_getElem hl, h.1], hl⟩

/-- What is taken when the first output comes. -/
theorem Inv.took {p : PlayM} {P : List ByteArray} (h : Inv p P) {s : ByteArray} {r : List ByteArray} (hq : p.gate.queue = s :: r) :
    (takeM p.out p.gate.first s).1 = 0 ∧ p.gate.first < (takeM p.out p.gate.first s).2.length ∧ (takeM p.out p.gate.first s).2 = P.take (takeM p.out p.gate.first s).2.length ∧ (takeM p.out p.gate.first s).2.length ≤ P.length ∧ p.out.length ≤ (takeM p.out p.gate.first s).2.length := by
  have h1 := h.gf
  have h2 := h.go
  have h3 := h.gq
  rw [hq] at h3
  obtain ⟨h4, h5⟩ := take_succ_eq h3.symm
  have hs : isText s = true := h.tx s (List.mem_of_mem_drop (by rw [← h3]; exact .head _))
  unfold takeM
  rw [if_neg (by simp [hs]), if_neg (by omega)]
  by_cases he : p.gate.first = p.out.length
  · rw [if_pos he]
    have hn : p.gate.first.toNat = p.out.length := by omega
    refine ⟨rfl, by simp; omega, ?_, by simp; omega, by simp⟩
    simp only [List.length_append, List.length_singleton]
    rw [hn] at h4
    rw [h4, ← h.ol]
  · rw [if_neg he]
    exact ⟨rfl, by simp only; omega, h.ol, h.oP, Nat.le_refl _⟩

theorem Inv.send {p : PlayM} {P : List ByteArray} {k : Nat} (h : Inv p P) (hp : p.ok k) (hk : k ≤ 1000000) (back : Bool) : Inv (p.send back).2 P := by
  have hck := hp.gate.chk hk
  unfold PlayM.send
  cases hq : p.gate.queue with
  | nil =>
    have hs : p.gate.send = (0, ByteArray.empty, 7) := by unfold GateM.send; rw [if_neg (by simp [hck]), hq]
    rw [hs, if_pos (by simp)]
    exact h
  | cons s r =>
    have hs : p.gate.send = (p.gate.first, s, 0) := by unfold GateM.send; rw [if_neg (by simp [hck]), hq]
    obtain ⟨t1, t2, t3, t4, t5⟩ := h.took hq
    have h1 := h.gf
    have h2 := h.go
    have h6 := h.so
    rw [hs, if_neg (by simp)]
    simp only
    generalize takeM p.out p.gate.first s = tk at *
    obtain ⟨e, o⟩ := tk
    simp only at *
    subst t1
    cases back
    · rw [if_pos (.inr rfl)]
      exact ⟨h.since, h.gq, h.gf, by simp only; omega, t3, t4, h.sq, h.sf, by simp only; omega, h.tx⟩
    · rw [if_neg (by simp)]
      have hqe := h.gq
      have hql : p.gate.queue.length = P.length - p.gate.first.toNat := by rw [hqe]; simp
      unfold GateM.ack1
      rw [if_neg (by omega), if_pos (by omega)]
      refine ⟨h.since, ?_, by simp only; omega, by simp only; omega, t3, t4, h.sq, h.sf, by simp only; omega, h.tx⟩
      simp only
      rw [hqe, List.drop_drop]
      congr 1
      omega

theorem isText_outB (d : Nat) (h : d < 3) : isText (outB d) = true := by
  have hd : d = 0 ∨ d = 1 ∨ d = 2 := by omega
  rcases hd with rfl | rfl | rfl <;> decide
theorem offer1_keeps (g : GateM) (n : Int) (s : ByteArray) : (g.offer1 n s).2.2.first = g.first ∧ (g.offer1 n s).2.2.queue = g.queue := by
  unfold GateM.offer1
  split
  · exact ⟨rfl, rfl⟩
  · split
    · exact ⟨rfl, rfl⟩
    · split <;> exact ⟨rfl, rfl⟩
/-- Any act of a storm but the pair that puts out. -/
theorem Inv.act {p : PlayM} {P : List ByteArray} {k : Nat} (h : Inv p P) (hp : p.ok k) (hk : k ≤ 1000000) (a : ActM) (ha : a.kind ≠ 1) : Inv (p.act a).2 P := by
  unfold PlayM.act
  rw [if_neg ha]
  split
  · exact h.send hp hk true
  · split
    · exact h
    · split
      · exact h.send hp hk false
      · split
        · obtain ⟨h1, h2⟩ := offer1_keeps p.gate a.n a.s
          exact ⟨h.since, by simp only; rw [h1, h2]; exact h.gq, by simp only; rw [h1]; exact h.gf, by simp only; rw [h1]; exact h.go, h.ol, h.oP, h.sq, h.sf, h.so, h.tx⟩
        · split
          · exact ⟨rfl, h.gq, h.gf, h.go, h.ol, h.oP, h.gq, h.gf, h.go, h.tx⟩
          · split
            · have hr : p.redo p.since = (p.saved, [], 0) := by unfold PlayM.redo; rw [h.since]; rfl
              unfold PlayM.crash
              rw [hr]
              exact ⟨rfl, h.sq, h.sf, h.so, h.ol, h.oP, h.sq, h.sf, h.so, h.tx⟩
            · exact h
/-- A text put out, and saved. -/
theorem Inv.put {p : PlayM} {P : List ByteArray} (h : Inv p P) (hP : P.length < 50) (t : ByteArray) (ht : isText t = true) : Inv (p.run [⟨1, 0, t⟩, bare 6]).1 (P ++ [t]) := by
  have h1 := h.gf
  have h2 := h.go
  have h3 := h.oP
  have hql : p.gate.queue.length = P.length - p.gate.first.toNat := by rw [h.gq]; simp
  have hput : p.gate.put1 t = (0, { p.gate with queue := p.gate.queue ++ [t] }) := by
    unfold GateM.put1
    rw [if_neg (by simp [ht]), if_neg (by omega), if_neg (by omega)]
  have hact : p.act ⟨1, 0, t⟩ = (0, { p with gate := { p.gate with queue := p.gate.queue ++ [t] }, since := p.since ++ [t] }) := by
    unfold PlayM.act
    rw [if_pos rfl, hput]
    simp
  have hq : p.gate.queue ++ [t] = (P ++ [t]).drop p.gate.first.toNat := by
    rw [List.drop_append_of_le_length (by omega), ← h.gq]
  have ho : p.out = (P ++ [t]).take p.out.length := by
    rw [List.take_append_of_le_length h.oP, ← h.ol]
  have hs2 : ∀ x ∈ P ++ [t], isText x = true := fun x hx => by
    rcases List.mem_append.1 hx with hx | hx
    · exact h.tx x hx
    · rw [List.mem_singleton.1 hx]; exact ht
  simp only [PlayM.run, hact]
  unfold PlayM.act
  simp only [bare]
  rw [if_neg (by decide), if_neg (by decide), if_neg (by decide), if_neg (by decide), if_neg (by decide), if_pos trivial]
  exact ⟨rfl, hq, h1, h2, ho, by simp; omega, hq, h1, h2, hs2⟩

/-- In a storm. -/
theorem storm_inv (l : List UInt8) : ∀ j, j ≤ l.length → j ≤ 1000 → Inv (PlayM.start.run ((l.take j).foldl StormS.step .zero).out).1 ((l.take j).foldl StormS.step .zero).put ∧ ((l.take j).foldl StormS.step .zero).put.length ≤ 50 := by
  intro j
  induction j with
  | zero => intro _ _; exact ⟨Inv.start, by simp [StormS.zero]⟩
  | succ j ih =>
    intro h hj
    obtain ⟨h1, h2⟩ := ih (by omega) (by omega)
    have hb := storm_bounds l j (by omega)
    rw [List.take_succ_eq_append_getElem (by omega), List.foldl_append]
    simp only [List.foldl_cons, List.foldl_nil]
    generalize (l.take j).foldl StormS.step .zero = s at *
    have hok := PlayM.start_ok.run s.out
    have hd : l[j].toNat / 8 % 3 < 3 := Nat.mod_lt _ (by decide)
    have one : ∀ a : ActM, a.kind ≠ 1 → Inv (PlayM.start.run (s.out ++ [a])).1 s.put := fun a ha => by
      rw [PlayM.run_app]
      exact h1.act hok (by omega) a ha
    unfold StormS.step
    split
    · split
      · exact ⟨h1, h2⟩
      · rename_i h50
        refine ⟨?_, by simp; omega⟩
        simp only
        rw [PlayM.run_app]
        exact h1.put (by omega) _ (isText_outB _ hd)
    · split
      · exact ⟨one _ (show (5 : UInt8) ≠ 1 by decide), h2⟩
      · split
        · exact ⟨one _ (by decide), h2⟩
        · split
          · exact ⟨one _ (by decide), h2⟩
          · split
            · exact ⟨one _ (by decide), h2⟩
            · split
              · exact ⟨one _ (by decide), h2⟩
              · exact ⟨one _ (by decide), h2⟩
/-- P24.9: what the outside has taken is a beginning of what was put out. -/
theorem once_law (l : List UInt8) : (stormM l).out.length ≤ 200 ∧ beginsM (PlayM.start.run (stormM l).out).1.out (stormM l).put = true := by
  have hm : stormM l = (l.take (min 90 l.length)).foldl StormS.step .zero := by
    unfold stormM
    rcases Nat.le_total 90 l.length with h | h
    · rw [Nat.min_eq_left h]
    · rw [Nat.min_eq_right h, List.take_of_length_le h, List.take_of_length_le (Nat.le_refl _)]
  have hb := storm_bounds l (min 90 l.length) (Nat.min_le_right _ _)
  obtain ⟨h1, h2⟩ := storm_inv l (min 90 l.length) (Nat.min_le_right _ _) (by omega)
  rw [← hm] at hb h1
  exact ⟨by omega, decide_eq_true h1.ol⟩
end Go.Proofs.YtpkcdkbbhiafnaaDoor
