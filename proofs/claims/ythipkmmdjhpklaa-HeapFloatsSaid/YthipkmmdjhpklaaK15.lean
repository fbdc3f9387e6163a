/- Plain law: two heaps, one with collections, one without: they hold the same. No program in sight. Plain law: a deed does the same in a heap with collections and in one without. No program in sight. Plain law: deeds have the same results without all collections (chapter 15's theorem). No program in sight. The walks of the laws' functions: is a deed one of a collection? Deeds copied. -/
import Derived.Test.YthipkmmdjhpklaaK07
import Derived.Test.YthipkmmdjhpklaaK09
namespace Go.Proofs.Ythipkmmdjhpklaa
set_option linter.unusedVariables false
set_option linter.unusedSimpArgs false
open Go.RowKit

/-- A value as the heap without collections has it: an and ao are the numbers there of the objects of the new half, and of the old one. -/
def al (half : Int) (an ao : List Nat) (v : ValM) : ValM := if v.kind = 5 then refV 0 ((if v.n % 2 = half then an.getD (v.n / 2).toNat 0 else ao.getD (v.n / 2).toNat 0 : Nat) : Int) else v
def alO (half : Int) (an ao : List Nat) (o : ObjM) : ObjM := ⟨o.kind, o.name, o.n, o.slots.map (al half an ao)⟩
structure SimC (h g : HeapM) (an ao : List Nat) : Prop where
  lenN : an.length = h.new.length
  lenO : ao.length = h.old.length
  ndN : an.Nodup
  ndO : ao.Nodup
  cop : ∀ (i : Nat) (p : ObjM × Int), h.old[i]? = some p → ¬ p.2 < 0 → an[p.2.toNat]? = ao[i]?
  unc : ∀ (i : Nat) (p : ObjM × Int) (j : Nat), h.old[i]? = some p → p.2 < 0 → ao[i]? = some j → j ∉ an
  new : ∀ (i : Nat) (o : ObjM), h.new[i]? = some o → ∃ j, an[i]? = some j ∧ g.new[j]? = some (alO h.half an ao o)
  old : ∀ (i : Nat) (p : ObjM × Int), h.old[i]? = some p → p.2 < 0 → ∃ j, ao[i]? = some j ∧ g.new[j]? = some (alO h.half an ao p.1)
  lt : ∀ j, j ∈ an ∨ j ∈ ao → j < g.new.length

theorem getD_append_lt {α : Type} (l e : List α) (d : α) (n : Nat) (h : n < l.length) : (l ++ e).getD n d = l.getD n d := by
  rw [List.getD_eq_getElem?_getD, List.getD_eq_getElem?_getD, List.getElem?_append_left h]
theorem getD_of_some {α : Type} {l : List α} {n : Nat} {x : α} (d : α) (h : l[n]? = some x) : l.getD n d = x := by
  rw [List.getD_eq_getElem?_getD, h]; rfl
theorem al_unit (half : Int) (an ao : List Nat) : al half an ao unitV = unitV := by
  unfold al unitV; rw [if_neg (by simp)]
theorem al_kind (half : Int) (an ao : List Nat) (v : ValM) : (al half an ao v).kind = v.kind := by
  unfold al
  split
  · rename_i h; exact h.symm
  · rfl
theorem al_plain {half : Int} {an ao : List Nat} {v : ValM} (h : v.kind ≠ 5) : al half an ao v = v := by
  unfold al; rw [if_neg h]
theorem al_ref {half : Int} (hh : half = 0 ∨ half = 1) (an ao : List Nat) (k : Nat) : al half an ao (refV half k) = refV 0 (an.getD k 0 : Nat) := by
  unfold al refV
  simp only [if_true]
  have e1 : (2 * (k : Int) + half) % 2 = half := by omega
  have e2 : ((2 * (k : Int) + half) / 2).toNat = k := by omega
  rw [e1, e2, if_pos rfl]
theorem al_new {half : Int} {an ao : List Nat} {v : ValM} (hk : v.kind = 5) (hn : v.n % 2 = half) : al half an ao v = refV 0 (an.getD (v.n / 2).toNat 0 : Nat) := by
  unfold al; rw [if_pos hk, if_pos hn]
theorem al_old {half : Int} {an ao : List Nat} {v : ValM} (hk : v.kind = 5) (hn : v.n % 2 ≠ half) : al half an ao v = refV 0 (ao.getD (v.n / 2).toNat 0 : Nat) := by
  unfold al; rw [if_pos hk, if_neg hn]
theorem al_ext {half : Int} {nn on : Nat} {b : Bool} {an ao e : List Nat} {v : ValM} (hv : ValIn half nn on b v) (hl : an.length = nn) : al half (an ++ e) ao v = al half an ao v := by
  by_cases hk : v.kind = 5
  · by_cases hn : v.n % 2 = half
    · rw [al_new hk hn, al_new hk hn, getD_append_lt]
      rcases hv.2 hk with h | h
      · omega
      · exact absurd hn h.1
    · rw [al_old hk hn, al_old hk hn]
  · rw [al_plain hk, al_plain hk]
theorem al_oldless {half : Int} {nn on : Nat} {an ao ao' : List Nat} {v : ValM} (hv : ValIn half nn on false v) : al half an ao v = al half an ao' v := by
  by_cases hk : v.kind = 5
  · rcases hv.2 hk with h | h
    · rw [al_new hk h.1, al_new hk h.1]
    · exact absurd h.2.1 (by simp)
  · rw [al_plain hk, al_plain hk]
theorem alO_ext {half : Int} {nn on : Nat} {b : Bool} {an ao e : List Nat} {o : ObjM} (ho : ObjIn half nn on b o) (hl : an.length = nn) : alO half (an ++ e) ao o = alO half an ao o := by
  unfold alO
  rw [List.map_congr_left fun v hv => al_ext (ho.sl v hv) hl]
theorem HCore.inNew {h : HeapM} (c : HCore h) {i : Nat} {o : ObjM} (hi : h.new[i]? = some o) : ObjIn h.half h.new.length h.old.length true o := (c.new i o hi).mono (Nat.le_refl _) fun _ => rfl
theorem HCore.inOld {h : HeapM} (c : HCore h) {i : Nat} {p : ObjM × Int} (hi : h.old[i]? = some p) : -1 ≤ p.2 ∧ p.2 < h.new.length ∧ ObjIn h.half h.new.length h.old.length true p.1 := c.old p (List.mem_of_getElem? hi)
theorem lt_of_some {α : Type} {l : List α} {i : Nat} {x : α} (h : l[i]? = some x) : i < l.length := (List.getElem?_eq_some_iff.1 h).1
theorem nodup_eq {l : List Nat} (hn : l.Nodup) {i k j : Nat} (h1 : l[i]? = some j) (h2 : l[k]? = some j) : i = k :=
  (List.getElem?_inj (lt_of_some h1) hn).1 (h1.trans h2.symm)
theorem SimC.move {h g : HeapM} {an ao : List Nat} (s : SimC h g an ao) (c : HCore h) {x : ValM} (hx : ValIn h.half h.new.length h.old.length true x) :
    ∃ e, SimC (h.afterMove x) g (an ++ e) ao ∧ al h.half (an ++ e) ao (moveN h.half h.old h.new.length x).1 = al h.half an ao x := by
  have hb := c.bounds
  have hcv := hx.can hb.1 hb.2.1 c.half
  unfold HeapM.afterMove
  rcases moveN_cases (nn := h.new.length) hcv.o with ⟨h1, h2⟩ | ⟨i, hi, h1, h2, ⟨h3, h4⟩ | ⟨h3, h4⟩⟩
  · rw [h2]
    refine ⟨[], ?_, by rw [List.append_nil]⟩
    simp only [List.append_nil]
    exact s
  · have hgi : h.old[i]? = some h.old[i] := List.getElem?_eq_getElem hi
    obtain ⟨j, hj, hgj⟩ := s.old i _ hgi h3
    have hjn := s.unc i _ j hgi h3 hj
    have hpi := c.inOld hgi
    rw [h4]
    refine ⟨[j], ⟨by simp [s.lenN], by simp [s.lenO], ?_, s.ndO, ?_, ?_, ?_, ?_, ?_⟩, ?_⟩
    · rw [List.nodup_append]
      refine ⟨s.ndN, by simp, fun a ha b hb e => ?_⟩
      rw [List.mem_singleton] at hb
      subst hb; subst e
      exact hjn ha
    · intro i' p hp hn
      simp only at hp
      rw [List.getElem?_set] at hp
      split at hp
      · rename_i e; subst e
        simp only [hi, if_true, Option.some.injEq] at hp
        subst hp
        simp only [Int.toNat_natCast]
        rw [hj, List.getElem?_append_right (by rw [s.lenN]; omega), s.lenN]
        simp
      · have hb := c.inOld hp
        rw [List.getElem?_append_left (by rw [s.lenN]; omega)]
        exact s.cop i' p hp hn
    · intro i' p j' hp hn hj'
      simp only at hp
      rw [List.getElem?_set] at hp
      split at hp
      · rename_i e; subst e
        simp only [hi, if_true, Option.some.injEq] at hp
        subst hp
        simp only at hn
        omega
      · rename_i hne
        rw [List.mem_append, List.mem_singleton]
        rintro (hm | rfl)
        · exact s.unc i' p j' hp hn hj' hm
        · exact hne (nodup_eq s.ndO hj hj')
    · intro i' o ho
      simp only at ho
      rw [List.getElem?_append] at ho
      split at ho
      · rename_i hlt
        obtain ⟨j', e1, e2⟩ := s.new i' o ho
        refine ⟨j', by rw [List.getElem?_append_left (by rw [s.lenN]; exact hlt)]; exact e1, ?_⟩
        rw [e2, alO_ext (c.inNew ho) s.lenN]
      · rename_i hge
        have hz : i' - h.new.length = 0 := by
          have := lt_of_some ho
          simp at this; omega
        rw [hz] at ho
        simp only [List.getElem?_cons_zero, Option.some.injEq] at ho
        subst ho
        refine ⟨j, ?_, by rw [hgj, alO_ext hpi.2.2 s.lenN]⟩
        rw [List.getElem?_append_right (by rw [s.lenN]; omega), s.lenN, hz]
        rfl
    · intro i' p hp hn
      simp only at hp
      rw [List.getElem?_set] at hp
      split at hp
      · rename_i e; subst e
        simp only [hi, if_true, Option.some.injEq] at hp
        subst hp
        simp only at hn
        omega
      · obtain ⟨j', e1, e2⟩ := s.old i' p hp hn
        exact ⟨j', e1, by rw [e2, alO_ext (c.inOld hp).2.2 s.lenN]⟩
    · intro j' hj'
      rw [List.mem_append, List.mem_singleton] at hj'
      rcases hj' with (hj' | rfl) | hj'
      · exact s.lt j' (.inl hj')
      · exact s.lt j' (.inr (List.mem_of_getElem? hj))
      · exact s.lt j' (.inr hj')
    · simp only
      rw [al_ref c.half, al_old h1.1 h1.2, ← h2, getD_of_some 0 hj]
      rw [List.getD_eq_getElem?_getD, List.getElem?_append_right (by rw [s.lenN]; omega), s.lenN]
      simp
  · have hgi : h.old[i]? = some h.old[i] := List.getElem?_eq_getElem hi
    have hpi := c.inOld hgi
    have hcp := s.cop i _ hgi h3
    rw [h4]
    refine ⟨[], ?_, ?_⟩
    · simp only [List.append_nil]
      exact s
    · simp only [List.append_nil]
      obtain ⟨t, ht⟩ := Int.eq_ofNat_of_zero_le (show 0 ≤ h.old[i].2 by omega)
      rw [ht] at hcp ⊢
      rw [al_ref c.half, al_old h1.1 h1.2, ← h2, List.getD_eq_getElem?_getD, List.getD_eq_getElem?_getD, ← hcp, Int.toNat_natCast]
theorem SimC.moves : ∀ (l : List ValM) {h g : HeapM} {an ao : List Nat}, SimC h g an ao → HCore h → (∀ x ∈ l, ValIn h.half h.new.length h.old.length true x) →
    ∃ e, SimC (h.afterMoves l) g (an ++ e) ao ∧ (movesN h.half h.old h.new.length l).1.map (al h.half (an ++ e) ao) = l.map (al h.half an ao)
  | [], h, g, an, ao, s, c, _ => by
    have e : h.afterMoves [] = h := by unfold HeapM.afterMoves; simp [movesN]
    rw [e]
    exact ⟨[], by rw [List.append_nil]; exact s, rfl⟩
  | x :: l, h, g, an, ao, s, c, hx => by
    obtain ⟨c1, v1, o1, n1⟩ := c.move (hx x (.head _))
    obtain ⟨e1, s1, q1⟩ := s.move c (hx x (.head _))
    have hl : ∀ y ∈ l, ValIn (h.afterMove x).half (h.afterMove x).new.length (h.afterMove x).old.length true y := fun y hy => by
      rw [o1]; exact (hx y (.tail _ hy)).mono n1 fun h => h
    obtain ⟨e2, s2, q2⟩ := SimC.moves l s1 c1 hl
    have f1 : (h.afterMove x).half = h.half := rfl
    have f2 : (h.afterMove x).old = (moveN h.half h.old h.new.length x).2.1 := rfl
    have f3 : (h.afterMove x).new.length = h.new.length + (moveN h.half h.old h.new.length x).2.2.length := by simp [HeapM.afterMove]
    rw [f1, f2, f3] at q2
    refine ⟨e1 ++ e2, by rw [afterMoves_cons, ← List.append_assoc]; exact s2, ?_⟩
    simp only [movesN, List.map_cons]
    rw [← List.append_assoc, q2, al_ext v1 (by rw [s1.lenN]), q1]
    rw [List.map_congr_left fun y hy => al_ext (hx y (.tail _ hy)) s.lenN]
theorem SimC.setSame {h g : HeapM} {an ao : List Nat} (s : SimC h g an ao) {i : Nat} {o o' : ObjM} (hi : h.new[i]? = some o) (he : alO h.half an ao o' = alO h.half an ao o) : SimC { h with new := h.new.set i o' } g an ao := by
  refine ⟨by simp [s.lenN], s.lenO, s.ndN, s.ndO, s.cop, s.unc, fun k p hp => ?_, s.old, s.lt⟩
  simp only at hp
  rw [List.getElem?_set] at hp
  split at hp
  · rename_i e; subst e
    simp only [lt_of_some hi, if_true, Option.some.injEq] at hp
    subst hp
    obtain ⟨j, e1, e2⟩ := s.new i o hi
    exact ⟨j, e1, by rw [e2]; exact congrArg some he.symm⟩
  · exact s.new k p hp
theorem SimC.setObj {h g : HeapM} {an ao : List Nat} (s : SimC h g an ao) {i j : Nat} {o o' : ObjM} (hi : h.new[i]? = some o) (hj : an[i]? = some j) : SimC { h with new := h.new.set i o' } { g with new := g.new.set j (alO h.half an ao o') } an ao := by
  have hjl : j < g.new.length := s.lt j (.inl (List.mem_of_getElem? hj))
  refine ⟨by simp [s.lenN], s.lenO, s.ndN, s.ndO, s.cop, s.unc, fun k p hp => ?_, fun k p hp hn => ?_, fun k hk => by simpa using s.lt k hk⟩
  · simp only at hp
    rw [List.getElem?_set] at hp
    split at hp
    · rename_i e; subst e
      simp only [lt_of_some hi, if_true, Option.some.injEq] at hp
      subst hp
      exact ⟨j, hj, by simp only; rw [List.getElem?_set_self hjl]⟩
    · rename_i hne
      obtain ⟨j', e1, e2⟩ := s.new k p hp
      refine ⟨j', e1, ?_⟩
      simp only
      rw [List.getElem?_set_ne (fun e => hne (by subst e; exact nodup_eq s.ndN hj e1))]
      exact e2
  · obtain ⟨j', e1, e2⟩ := s.old k p hp hn
    refine ⟨j', e1, ?_⟩
    simp only
    rw [List.getElem?_set_ne (fun e => by subst e; exact s.unc k p _ hp hn e1 (List.mem_of_getElem? hj))]
    exact e2
theorem SimC.scan1 {h g : HeapM} {an ao : List Nat} (s : SimC h g an ao) (c : HCore h) (hi : h.scan < h.new.length) : ∃ e, SimC h.scan1 g (an ++ e) ao := by
  have hs0 := c.s0
  have hi' : h.scan.toNat < h.new.length := by omega
  have hg := List.getElem?_eq_getElem hi'
  have ho := c.inNew hg
  obtain ⟨e, s1, q1⟩ := SimC.moves h.new[h.scan.toNat].slots s c ho.sl
  have hgA : (h.afterMoves h.new[h.scan.toNat].slots).new[h.scan.toNat]? = some h.new[h.scan.toNat] := by
    simp only [HeapM.afterMoves]
    rw [List.getElem?_append_left hi', hg]
  have s2 := s1.setSame (o' := ⟨h.new[h.scan.toNat].kind, h.new[h.scan.toNat].name, h.new[h.scan.toNat].n, (movesN h.half h.old h.new.length h.new[h.scan.toNat].slots).1⟩) hgA (by
    have f1 : (h.afterMoves h.new[h.scan.toNat].slots).half = h.half := rfl
    rw [f1, alO_ext ho s.lenN]
    unfold alO
    simp only
    rw [q1])
  refine ⟨e, ?_⟩
  rw [scan1_eq hi']
  simp only [HeapM.afterMoves] at s2
  rw [set_append_of_lt _ _ _ _ hi'] at s2
  exact ⟨s2.lenN, s2.lenO, s2.ndN, s2.ndO, s2.cop, s2.unc, s2.new, s2.old, s2.lt⟩
theorem SimC.endIf {h g : HeapM} {an ao : List Nat} (s : SimC h g an ao) (c : HCore h) : ∃ ao', SimC h.endIf g an ao' ∧ ∀ {v : ValM} {nn on : Nat}, ValIn h.half nn on false v → al h.half an ao' v = al h.half an ao v := by
  unfold HeapM.endIf
  by_cases e : h.scan = h.new.length
  · rw [if_pos e]
    refine ⟨[], ⟨s.lenN, rfl, s.ndN, by simp, fun i p hp => (by simp at hp), fun i p j hp => (by simp at hp), fun i o ho => ?_, fun i p hp => (by simp at hp), fun j hj => s.lt j (.inl (by simpa using hj))⟩, fun hv => al_oldless hv⟩
    obtain ⟨j, e1, e2⟩ := s.new i o ho
    refine ⟨j, e1, ?_⟩
    rw [e2]
    unfold alO
    simp only
    rw [List.map_congr_left fun v hv => ?_]
    have hl : i < h.new.length := lt_of_some ho
    have h1 := (c.new i o ho).sl v hv
    rw [decide_eq_false (by omega)] at h1
    exact al_oldless h1
  · rw [if_neg e]
    exact ⟨ao, s, fun _ => rfl⟩
/-- What the heap with collections holds is what the other one holds. -/
structure Sim (h g : HeapM) : Prop where
  gh : g.half = 0
  go : g.old = []
  gb : g.busy = false
  ex : ∃ an ao, SimC h g an ao ∧ g.regs = h.regs.map (al h.half an ao)
theorem map_ext {half : Int} {nn on : Nat} {b : Bool} {an ao e : List Nat} {l : List ValM} (hl : ∀ x ∈ l, ValIn half nn on b x) (hn : an.length = nn) : l.map (al half (an ++ e) ao) = l.map (al half an ao) :=
  List.map_congr_left fun v hv => al_ext (hl v hv) hn
theorem Sim.scanned {h g : HeapM} (s : Sim h g) (o : HOk h) (hb : h.busy = true) (hi : h.scan < h.new.length) : Sim h.scan1.endIf g := by
  obtain ⟨an, ao, sc, hr⟩ := s.ex
  obtain ⟨e, s1⟩ := sc.scan1 o.core hi
  obtain ⟨c1, n1, o1, e1, e2, e3, e4⟩ := o.core.scan1 hb hi
  obtain ⟨ao', s2, q⟩ := s1.endIf c1
  obtain ⟨c2, n2, t2, e5, e6⟩ := c1.endIf
  refine ⟨s.gh, s.go, s.gb, an ++ e, ao', s2, ?_⟩
  rw [hr, e6, e3, e5, ← map_ext (e := e) o.regs sc.lenN, ← e1]
  refine List.map_congr_left fun v hv => (q (nn := h.new.length) (on := h.old.length) ?_).symm
  rw [e1]
  exact o.regs v hv
theorem Sim.ended {h g : HeapM} (s : Sim h g) (o : HOk h) : Sim h.endIf g := by
  obtain ⟨an, ao, sc, hr⟩ := s.ex
  obtain ⟨ao', s2, q⟩ := sc.endIf o.core
  obtain ⟨c2, n2, t2, e5, e6⟩ := o.core.endIf
  refine ⟨s.gh, s.go, s.gb, an, ao', s2, ?_⟩
  rw [hr, e6, e5]
  exact List.map_congr_left fun v hv => (q (o.regs v hv)).symm
theorem Sim.stepM : ∀ (n : Nat) {h g : HeapM}, Sim h g → HOk h → Sim (h.stepM n).2 g
  | 0, h, g, s, o => s
  | n + 1, h, g, s, o => by
    unfold HeapM.stepM
    split
    · exact s
    · rename_i hb
      have hb' : h.busy = true := by simpa using hb
      split
      · rename_i hi
        exact Sim.stepM n (s.scanned o hb' hi) (o.scanned hb' hi)
      · exact s.ended o
theorem Sim.begin {h g : HeapM} (s : Sim h g) (o : HOk h) (hb : h.busy = false) : Sim h.begin g := by
  obtain ⟨an, ao, sc, hr⟩ := s.ex
  obtain ⟨c0, r0⟩ := o.started hb
  have hold := (o.core.idle hb).1
  have hflip : ∀ {b : Bool} {v : ValM}, ValIn h.half h.new.length h.old.length b v → al (1 - h.half) [] an v = al h.half an ao v := fun {b v} hv => by
    by_cases hk : v.kind = 5
    · rcases hv.2 hk with h1 | h1
      · rw [al_new hk h1.1, al_old hk (by omega)]
      · rw [hold] at h1; simp at h1
    · rw [al_plain hk, al_plain hk]
  have s0 : SimC { h with half := 1 - h.half, busy := true, scan := 0, old := oldOf h.new, new := [] } g [] an := by
    refine ⟨rfl, by simp only [oldOf_length]; exact sc.lenN, by simp, sc.ndN, fun i p hp hn => ?_, fun i p j hp hn hj => by simp, fun i o ho => (by simp at ho), fun i p hp hn => ?_, fun j hj => sc.lt j (.inl (by simpa using hj))⟩
    · simp only [oldOf, List.getElem?_map, Option.map_eq_some_iff] at hp
      obtain ⟨q, _, rfl⟩ := hp
      simp at hn
    · simp only [oldOf, List.getElem?_map, Option.map_eq_some_iff] at hp
      obtain ⟨q, hq, rfl⟩ := hp
      obtain ⟨j, e1, e2⟩ := sc.new i q hq
      refine ⟨j, e1, ?_⟩
      rw [e2]
      unfold alO
      simp only
      rw [List.map_congr_left fun v hv => (hflip ((o.core.inNew hq).sl v hv)).symm]
  obtain ⟨e, s1, q1⟩ := SimC.moves h.regs s0 c0 (fun x hx => by simp only [oldOf_length, List.length_nil]; exact r0 x hx)
  simp only [HeapM.afterMoves, List.nil_append, List.length_nil] at s1 q1
  refine ⟨s.gh, s.go, s.gb, e, an, ⟨s1.lenN, s1.lenO, s1.ndN, s1.ndO, s1.cop, s1.unc, s1.new, s1.old, s1.lt⟩, ?_⟩
  simp only [HeapM.begin]
  rw [q1, hr]
  exact List.map_congr_left fun v hv => (hflip (o.regs v hv)).symm
end Go.Proofs.Ythipkmmdjhpklaa
namespace Go.Proofs.Ythipkmmdjhpklaa
set_option linter.unusedVariables false
set_option linter.unusedSimpArgs false
open Go.RowKit

theorem Sim.are {h g : HeapM} (s : Sim h g) (l : List Int) : g.are l = h.are l := by
  obtain ⟨an, ao, sc, hr⟩ := s.ex
  unfold HeapM.are
  rw [hr, List.length_map]
theorem reg_al {h g : HeapM} {half : Int} {an ao : List Nat} (hr : g.regs = h.regs.map (al half an ao)) (k : Int) : g.reg k = al half an ao (h.reg k) := by
  unfold HeapM.reg
  rw [hr, List.getD_eq_getElem?_getD, List.getElem?_map, List.getD_eq_getElem?_getD]
  cases h.regs[k.toNat]? with
  | none => simp [al_unit]
  | some v => simp
theorem SimC.regs {h g : HeapM} {an ao : List Nat} (s : SimC h g an ao) (r r' : List ValM) : SimC { h with regs := r } { g with regs := r' } an ao :=
  ⟨s.lenN, s.lenO, s.ndN, s.ndO, s.cop, s.unc, s.new, s.old, s.lt⟩
theorem SimC.target {h g : HeapM} {an ao : List Nat} (s : SimC h g an ao) {x : ValM} (hx : ValIn h.half h.new.length h.old.length false x) (hk : x.kind = 5) :
    ∃ j o, an[(x.n / 2).toNat]? = some j ∧ h.new[(x.n / 2).toNat]? = some o ∧ g.new[j]? = some (alO h.half an ao o) ∧ al h.half an ao x = refV 0 (j : Nat) ∧ ((al h.half an ao x).n / 2).toNat = j := by
  rcases hx.2 hk with h1 | h1
  · have ho := List.getElem?_eq_getElem h1.2
    obtain ⟨j, e1, e2⟩ := s.new _ _ ho
    have e3 : al h.half an ao x = refV 0 (j : Nat) := by rw [al_new hk h1.1, getD_of_some 0 e1]
    refine ⟨j, _, e1, ho, e2, e3, ?_⟩
    rw [e3]
    unfold refV
    simp only
    omega
  · exact absurd h1.2.1 (by simp)
theorem slotsAt_of {h : HeapM} {k : Nat} {o : ObjM} (ho : h.new[k]? = some o) : h.slotsAt k = o.slots := by unfold HeapM.slotsAt; rw [ho]
theorem SimC.slotE {h g : HeapM} {an ao : List Nat} (s : SimC h g an ao) {x : ValM} (hx : ValIn h.half h.new.length h.old.length false x) (n : Int) : g.slotE (al h.half an ao x) n = h.slotE x n := by
  unfold HeapM.slotE
  rw [al_kind]
  by_cases hk : x.kind = 5
  · obtain ⟨j, o, e1, e2, e3, e4, e5⟩ := s.target hx hk
    simp only [hk, ne_eq, not_true_eq_false, if_false, e5, slotsAt_of e2, slotsAt_of e3, alO, List.length_map]
  · rw [if_pos hk, if_pos hk]
theorem moveN_nil (half : Int) (nn : Nat) (v : ValM) : moveN half [] nn v = (v, [], []) := by
  unfold moveN
  split
  · simp
  · rfl
theorem set_self {α : Type} (l : List α) (n : Nat) (d : α) : l.set n (l.getD n d) = l := by
  apply List.ext_getElem (by simp)
  intro i h1 h2
  rw [List.getElem_set]
  split
  · rename_i e; subst e
    rw [List.getD_eq_getElem?_getD, List.getElem?_eq_getElem h2]
    rfl
  · rfl
theorem getTo_idle (g : HeapM) (hg : g.old = []) (j n a : Nat) (o : ObjM) (hj : g.new[j]? = some o) : g.getTo j n a = { g with regs := g.regs.set a (o.slots.getD n unitV) } := by
  unfold HeapM.getTo
  simp only [slotsAt_of hj, hg, moveN_nil, List.append_nil]
  unfold HeapM.setSlot
  simp only [hj, set_self]
  have e : g.new.set j o = g.new := by
    have := set_self g.new j o
    rwa [getD_of_some o hj] at this
  have e2 : (⟨o.kind, o.name, o.n, o.slots⟩ : ObjM) = o := rfl
  rw [e2, e]
theorem getTo_eq (h : HeapM) (k n a : Nat) (o : ObjM) (hk : h.new[k]? = some o) : h.getTo k n a = { h.afterMove (o.slots.getD n unitV) with regs := h.regs.set a (moveN h.half h.old h.new.length (o.slots.getD n unitV)).1, new := (h.afterMove (o.slots.getD n unitV)).new.set k ⟨o.kind, o.name, o.n, o.slots.set n (moveN h.half h.old h.new.length (o.slots.getD n unitV)).1⟩ } := by
  unfold HeapM.getTo
  simp only [slotsAt_of hk]
  unfold HeapM.setSlot
  have e : (h.new ++ (moveN h.half h.old h.new.length (o.slots.getD n unitV)).2.2)[k]? = some o := by rw [List.getElem?_append_left (lt_of_some hk), hk]
  simp only [e]
  rfl
theorem setE (half : Int) (on nn : Nat) (v : ValM) : (v.kind = 5 ∨ inB half on nn v = false) ↔ (v.kind = 5 ∨ v.plain = false) := by
  by_cases hk : v.kind = 5
  · simp [hk]
  · simp [hk, inB]
theorem Sim.set {h g : HeapM} (s : Sim h g) (o : HOk h) (d : DeedM) : (h.doSet d).1 = (g.doSet d).1 ∧ (h.doSet d).2.1 = (g.doSet d).2.1 ∧ Sim (h.doSet d).2.2 (g.doSet d).2.2 := by
  obtain ⟨an, ao, sc, hr⟩ := s.ex
  unfold HeapM.doSet
  rw [s.are]
  by_cases h1 : h.are [d.a] = false
  · rw [if_pos h1, if_pos h1]; exact ⟨rfl, rfl, s⟩
  · rw [if_neg h1, if_neg h1]
    by_cases h2 : d.val.kind = 5 ∨ d.val.plain = false
    · rw [if_pos ((setE _ _ _ _).2 h2), if_pos ((setE _ _ _ _).2 h2)]; exact ⟨rfl, rfl, s⟩
    · rw [if_neg (fun e => h2 ((setE _ _ _ _).1 e)), if_neg (fun e => h2 ((setE _ _ _ _).1 e))]
      refine ⟨rfl, rfl, s.gh, s.go, s.gb, an, ao, sc.regs _ _, ?_⟩
      simp only
      rw [hr, List.map_set, al_plain fun e => h2 (.inl e)]
theorem Sim.copy {h g : HeapM} (s : Sim h g) (o : HOk h) (d : DeedM) : (h.doMove d).1 = (g.doMove d).1 ∧ (h.doMove d).2.1 = (g.doMove d).2.1 ∧ Sim (h.doMove d).2.2 (g.doMove d).2.2 := by
  obtain ⟨an, ao, sc, hr⟩ := s.ex
  unfold HeapM.doMove
  rw [s.are]
  by_cases h1 : h.are [d.a, d.b] = false
  · rw [if_pos h1, if_pos h1]; exact ⟨rfl, rfl, s⟩
  · rw [if_neg h1, if_neg h1]
    refine ⟨rfl, rfl, s.gh, s.go, s.gb, an, ao, sc.regs _ _, ?_⟩
    simp only
    rw [reg_al hr, hr, List.map_set]
theorem al_inj {h g : HeapM} {an ao : List Nat} (s : SimC h g an ao) {x y : ValM} (hx : ValIn h.half h.new.length h.old.length false x) (hy : ValIn h.half h.new.length h.old.length false y) (he : al h.half an ao x = al h.half an ao y) : x = y := by
  have hk : x.kind = y.kind := by rw [← al_kind h.half an ao x, he, al_kind]
  by_cases hx5 : x.kind = 5
  · have hy5 : y.kind = 5 := by omega
    obtain ⟨j, o, e1, e2, e3, e4, e5⟩ := s.target hx hx5
    obtain ⟨j', o', f1, f2, f3, f4, f5⟩ := s.target hy hy5
    have ej : j = j' := by rw [← e5, ← f5, he]
    subst ej
    have ei := nodup_eq s.ndN e1 f1
    have p1 := hx.1
    have p2 := hy.1
    unfold ValM.plain at p1 p2
    simp only [hx5, hy5] at p1 p2
    simp at p1 p2
    have q1 : x.n % 2 = h.half := by
      rcases hx.2 hx5 with h1 | h1
      · exact h1.1
      · exact absurd h1.2.1 (by simp)
    have q2 : y.n % 2 = h.half := by
      rcases hy.2 hy5 with h1 | h1
      · exact h1.1
      · exact absurd h1.2.1 (by simp)
    refine (ValM.ext_iff' _ _).2 ⟨hk, by omega, by rw [p1.1, p2.1]⟩
  · rw [al_plain hx5, al_plain (by omega)] at he
    exact he
theorem Sim.same {h g : HeapM} (s : Sim h g) (o : HOk h) (d : DeedM) : (h.doSame d).1 = (g.doSame d).1 ∧ (h.doSame d).2.1 = (g.doSame d).2.1 ∧ Sim (h.doSame d).2.2 (g.doSame d).2.2 := by
  obtain ⟨an, ao, sc, hr⟩ := s.ex
  unfold HeapM.doSame
  rw [s.are]
  by_cases h1 : h.are [d.a, d.b] = false
  · rw [if_pos h1, if_pos h1]; exact ⟨rfl, rfl, s⟩
  · rw [if_neg h1, if_neg h1]
    refine ⟨rfl, ?_, s⟩
    simp only
    rw [reg_al hr, reg_al hr]
    have ha := o.regs _ (reg_mem (are_mem h1 (x := d.a) (by simp)).2)
    have hb := o.regs _ (reg_mem (are_mem h1 (x := d.b) (by simp)).2)
    by_cases e : h.reg d.a = h.reg d.b
    · rw [decide_eq_true e, decide_eq_true (by rw [e])]
    · rw [decide_eq_false e, decide_eq_false fun h => e (al_inj sc ha hb h)]
theorem nameAt_of {h : HeapM} {k : Nat} {o : ObjM} (ho : h.new[k]? = some o) : h.nameAt k = o.name := by unfold HeapM.nameAt; rw [ho]
theorem Sim.read {h g : HeapM} (s : Sim h g) (o : HOk h) (d : DeedM) : (h.doRead d).1 = (g.doRead d).1 ∧ (h.doRead d).2.1 = (g.doRead d).2.1 ∧ Sim (h.doRead d).2.2 (g.doRead d).2.2 := by
  obtain ⟨an, ao, sc, hr⟩ := s.ex
  unfold HeapM.doRead
  rw [s.are]
  by_cases h1 : h.are [d.a] = false
  · rw [if_pos h1, if_pos h1]; exact ⟨rfl, rfl, s⟩
  · rw [if_neg h1, if_neg h1]
    refine ⟨rfl, ?_, s⟩
    simp only
    rw [reg_al hr]
    have ha := o.regs _ (reg_mem (are_mem h1 (x := d.a) (by simp)).2)
    unfold HeapM.read
    rw [al_kind]
    by_cases hk : (h.reg d.a).kind = 5
    · obtain ⟨j, o', e1, e2, e3, e4, e5⟩ := sc.target ha hk
      rw [if_pos hk, if_pos hk, e5, nameAt_of e2, nameAt_of e3]
      rfl
    · rw [if_neg hk, if_neg hk, al_plain hk]
theorem Sim.put {h g : HeapM} (s : Sim h g) (o : HOk h) (d : DeedM) : (h.doPut d).1 = (g.doPut d).1 ∧ (h.doPut d).2.1 = (g.doPut d).2.1 ∧ Sim (h.doPut d).2.2 (g.doPut d).2.2 := by
  obtain ⟨an, ao, sc, hr⟩ := s.ex
  unfold HeapM.doPut
  rw [s.are]
  by_cases h1 : h.are [d.a, d.c] = false
  · rw [if_pos h1, if_pos h1]; exact ⟨rfl, rfl, s⟩
  · rw [if_neg h1, if_neg h1]
    have ha := o.regs _ (reg_mem (are_mem h1 (x := d.a) (by simp)).2)
    have he : g.slotE (g.reg d.a) d.b = h.slotE (h.reg d.a) d.b := by rw [reg_al hr]; exact sc.slotE ha _
    rw [he]
    by_cases h2 : h.slotE (h.reg d.a) d.b ≠ 0
    · rw [if_pos h2, if_pos h2]; exact ⟨rfl, rfl, s⟩
    · rw [if_neg h2, if_neg h2]
      refine ⟨rfl, rfl, ?_, ?_, ?_, an, ao, ?_⟩
      · simp only; unfold HeapM.setSlot; split
        · exact s.gh
        · exact s.gh
      · simp only; unfold HeapM.setSlot; split
        · exact s.go
        · exact s.go
      · simp only; unfold HeapM.setSlot; split
        · exact s.gb
        · exact s.gb
      · obtain ⟨j, o', e1, e2, e3, e4, e5⟩ := sc.target ha (slotE_zero h2).1
        simp only
        rw [reg_al hr d.a, e5, reg_al hr d.c]
        unfold HeapM.setSlot
        rw [e2, e3]
        simp only
        have := sc.setObj (o' := ⟨o'.kind, o'.name, o'.n, o'.slots.set d.b.toNat (h.reg d.c)⟩) e2 e1
        simp only [alO, List.map_set] at this
        exact ⟨this, hr⟩
theorem Sim.get {h g : HeapM} (s : Sim h g) (o : HOk h) (d : DeedM) : (h.doGet d).1 = (g.doGet d).1 ∧ (h.doGet d).2.1 = (g.doGet d).2.1 ∧ Sim (h.doGet d).2.2 (g.doGet d).2.2 := by
  obtain ⟨an, ao, sc, hr⟩ := s.ex
  unfold HeapM.doGet
  rw [s.are]
  by_cases h1 : h.are [d.a, d.b] = false
  · rw [if_pos h1, if_pos h1]; exact ⟨rfl, rfl, s⟩
  · rw [if_neg h1, if_neg h1]
    have ha := o.regs _ (reg_mem (are_mem h1 (x := d.b) (by simp)).2)
    have he : g.slotE (g.reg d.b) d.c = h.slotE (h.reg d.b) d.c := by rw [reg_al hr]; exact sc.slotE ha _
    rw [he]
    by_cases h2 : h.slotE (h.reg d.b) d.c ≠ 0
    · rw [if_pos h2, if_pos h2]; exact ⟨rfl, rfl, s⟩
    · rw [if_neg h2, if_neg h2]
      obtain ⟨j, o', e1, e2, e3, e4, e5⟩ := sc.target ha (slotE_zero h2).1
      have hn := (slotE_zero h2).2.2
      rw [slotsAt_of e2] at hn
      have hin := o.core.inNew e2
      simp only
      rw [reg_al hr d.b, e5, getTo_idle g s.go _ _ _ _ e3, getTo_eq h _ _ _ _ e2]
      have hg : (alO h.half an ao o').slots.getD d.c.toNat unitV = al h.half an ao (o'.slots.getD d.c.toNat unitV) := by
        unfold alO
        simp only
        rw [List.getD_eq_getElem?_getD, List.getElem?_map, List.getD_eq_getElem?_getD, List.getElem?_eq_getElem hn]
        rfl
      have hx : ValIn h.half h.new.length h.old.length true (o'.slots.getD d.c.toNat unitV) := by
        rw [List.getD_eq_getElem?_getD, List.getElem?_eq_getElem hn]
        exact hin.sl _ (List.getElem_mem hn)
      have hself : (o'.slots.map (al h.half an ao)).set d.c.toNat (al h.half an ao (o'.slots.getD d.c.toNat unitV)) = o'.slots.map (al h.half an ao) := by
        rw [← List.map_set, set_self]
      generalize o'.slots.getD d.c.toNat unitV = x at *
      obtain ⟨e, s1, q1⟩ := sc.move o.core hx
      have s2 := s1.setSame (i := ((h.reg d.b).n / 2).toNat) (o := o') (o' := ⟨o'.kind, o'.name, o'.n, o'.slots.set d.c.toNat (moveN h.half h.old h.new.length x).1⟩) (by
        simp only [HeapM.afterMove]
        rw [List.getElem?_append_left (lt_of_some e2), e2]) (by
        have f1 : (h.afterMove x).half = h.half := rfl
        rw [f1, alO_ext hin sc.lenN]
        unfold alO
        simp only [List.map_set]
        rw [q1, map_ext hin.sl sc.lenN, hself])
      refine ⟨trivial, trivial, s.gh, s.go, s.gb, an ++ e, ao, s2.regs _ _, ?_⟩
      simp only [List.map_set]
      have f1 : (h.afterMove x).half = h.half := rfl
      rw [f1, hg, q1, hr, map_ext o.regs sc.lenN]
theorem Sim.make {h g : HeapM} (s : Sim h g) (o : HOk h) (q : HOk g) (d : DeedM) (he : (h.doMake d).1 ≠ 8) (he' : (g.doMake d).1 ≠ 8) : (h.doMake d).1 = (g.doMake d).1 ∧ (h.doMake d).2.1 = (g.doMake d).2.1 ∧ Sim (h.doMake d).2.2 (g.doMake d).2.2 := by
  obtain ⟨an, ao, sc, hr⟩ := s.ex
  unfold HeapM.doMake at he he' ⊢
  rw [s.are, s.are] at he'
  rw [s.are, s.are]
  by_cases h1 : h.are [d.a] = false
  · rw [if_pos h1, if_pos h1]; exact ⟨rfl, rfl, s⟩
  rw [if_neg h1] at he he'
  rw [if_neg h1, if_neg h1]
  by_cases h2 : h.are d.list = false
  · rw [if_pos h2, if_pos h2]; exact ⟨rfl, rfl, s⟩
  rw [if_neg h2] at he he'
  rw [if_neg h2, if_neg h2]
  by_cases h3 : (d.obj.plain && decide (d.obj.slots.length ≤ 400)) = false
  · rw [if_pos h3, if_pos h3]; exact ⟨rfl, rfl, s⟩
  rw [if_neg h3] at he he'
  rw [if_neg h3, if_neg h3]
  by_cases h4 : 0 < d.obj.slots.length
  · rw [if_pos h4, if_pos h4]; exact ⟨rfl, rfl, s⟩
  rw [if_neg h4] at he he'
  rw [if_neg h4, if_neg h4]
  by_cases h5 : 400 < d.list.length
  · rw [if_pos h5, if_pos h5]; exact ⟨rfl, rfl, s⟩
  rw [if_neg h5] at he he'
  rw [if_neg h5, if_neg h5]
  by_cases h6 : h.size < (1 + (d.list.length : Int)) + h.used + h.due
  · rw [if_pos h6] at he; exact absurd rfl he
  by_cases h7 : g.size < (1 + (d.list.length : Int)) + g.used + g.due
  · rw [if_pos h7] at he'; exact absurd rfl he'
  rw [if_neg h6, if_neg h7]
  have hmade : ∀ x ∈ (h.made d).slots, ValIn h.half h.new.length h.old.length false x := fun x hx => by
    obtain ⟨r, hr, rfl⟩ := List.mem_map.1 hx
    exact o.regs _ (reg_mem (are_mem h2 hr).2)
  have hmd : alO h.half an ao (h.made d) = g.made d := by
    unfold alO HeapM.made
    rw [List.map_map]
    exact congrArg (ObjM.mk _ _ _) (List.map_congr_left fun r _ => (reg_al hr r).symm)
  have hlen : an.length = h.new.length := sc.lenN
  have hnew : g.new.length ∉ an := fun hm => by have := sc.lt _ (.inl hm); omega
  refine ⟨rfl, rfl, s.gh, s.go, s.gb, an ++ [g.new.length], ao, ⟨by simp [sc.lenN], sc.lenO, ?_, sc.ndO, ?_, ?_, ?_, ?_, ?_⟩, ?_⟩
  · rw [List.nodup_append]
    refine ⟨sc.ndN, by simp, fun a ha b hb e => ?_⟩
    rw [List.mem_singleton] at hb
    subst hb; subst e
    exact hnew ha
  · intro i p hp hn
    have hb := o.core.inOld hp
    rw [List.getElem?_append_left (by omega)]
    exact sc.cop i p hp hn
  · intro i p j hp hn hj
    rw [List.mem_append, List.mem_singleton]
    rintro (hm | rfl)
    · exact sc.unc i p j hp hn hj hm
    · have := sc.lt _ (.inr (List.mem_of_getElem? hj)); omega
  · intro i p hp
    simp only at hp
    rw [List.getElem?_append] at hp
    split at hp
    · rename_i hlt
      obtain ⟨j', e1, e2⟩ := sc.new i p hp
      refine ⟨j', by rw [List.getElem?_append_left (by omega)]; exact e1, ?_⟩
      simp only
      rw [List.getElem?_append_left (lt_of_some e2), e2, alO_ext (o.core.inNew hp) sc.lenN]
    · rename_i hge
      have hz : i - h.new.length = 0 := by
        have := lt_of_some hp
        simp at this; omega
      rw [hz] at hp
      simp only [List.getElem?_cons_zero, Option.some.injEq] at hp
      subst hp
      refine ⟨g.new.length, ?_, ?_⟩
      · rw [List.getElem?_append_right (by omega), hlen, hz]; rfl
      · simp only
        rw [List.getElem?_append_right (Nat.le_refl _), Nat.sub_self]
        simp only [List.getElem?_cons_zero]
        rw [← hmd]
        unfold alO
        rw [map_ext hmade sc.lenN]
  · intro i p hp hn
    obtain ⟨j', e1, e2⟩ := sc.old i p hp hn
    refine ⟨j', e1, ?_⟩
    simp only
    rw [List.getElem?_append_left (lt_of_some e2), e2, alO_ext (o.core.inOld hp).2.2 sc.lenN]
  · intro j hj
    simp only [List.length_append, List.length_singleton]
    rw [List.mem_append, List.mem_singleton] at hj
    rcases hj with (hj | rfl) | hj
    · have := sc.lt j (.inl hj); omega
    · omega
    · have := sc.lt j (.inr hj); omega
  · simp only [List.map_set]
    rw [map_ext o.regs sc.lenN, ← hr, s.gh, al_ref o.core.half, List.getD_eq_getElem?_getD, List.getElem?_append_right (by omega), hlen]
    simp
def isColl (d : DeedM) : Bool := decide (d.kind = 8 ∨ d.kind = 9)
theorem Sim.coll {h g : HeapM} (s : Sim h g) (o : HOk h) (d : DeedM) (hd : isColl d = true) : Sim (h.do d).2.2 g := by
  unfold isColl at hd
  rcases of_decide_eq_true hd with hk | hk
  · unfold HeapM.do
    rw [hk]
    simp only [if_neg (by decide : ¬ (8 : Nat) = 1), if_neg (by decide : ¬ (8 : Nat) = 2), if_neg (by decide : ¬ (8 : Nat) = 3), if_neg (by decide : ¬ (8 : Nat) = 4), if_neg (by decide : ¬ (8 : Nat) = 5), if_neg (by decide : ¬ (8 : Nat) = 6), if_neg (by decide : ¬ (8 : Nat) = 7), if_true]
    unfold HeapM.doBegin
    split
    · exact s
    · rename_i hb
      exact s.begin o (by simpa using hb)
  · unfold HeapM.do
    rw [hk]
    simp only [if_neg (by decide : ¬ (9 : Nat) = 1), if_neg (by decide : ¬ (9 : Nat) = 2), if_neg (by decide : ¬ (9 : Nat) = 3), if_neg (by decide : ¬ (9 : Nat) = 4), if_neg (by decide : ¬ (9 : Nat) = 5), if_neg (by decide : ¬ (9 : Nat) = 6), if_neg (by decide : ¬ (9 : Nat) = 7), if_neg (by decide : ¬ (9 : Nat) = 8), if_true]
    unfold HeapM.doStep
    split
    · exact s
    · exact Sim.stepM _ s o
theorem Sim.do {h g : HeapM} (s : Sim h g) (o : HOk h) (q : HOk g) (d : DeedM) (hd : isColl d = false) (he : (h.do d).1 ≠ 8) (he' : (g.do d).1 ≠ 8) : (h.do d).1 = (g.do d).1 ∧ (h.do d).2.1 = (g.do d).2.1 ∧ Sim (h.do d).2.2 (g.do d).2.2 := by
  have hn := of_decide_eq_false hd
  unfold HeapM.do at *
  by_cases h1 : d.kind = 1
  · rw [if_pos h1] at he he' ⊢; rw [if_pos h1]; exact s.make o q d he he'
  rw [if_neg h1, if_neg h1]
  by_cases h2 : d.kind = 2
  · rw [if_pos h2, if_pos h2]; exact s.get o d
  rw [if_neg h2, if_neg h2]
  by_cases h3 : d.kind = 3
  · rw [if_pos h3, if_pos h3]; exact s.put o d
  rw [if_neg h3, if_neg h3]
  by_cases h4 : d.kind = 4
  · rw [if_pos h4, if_pos h4]; exact s.copy o d
  rw [if_neg h4, if_neg h4]
  by_cases h5 : d.kind = 5
  · rw [if_pos h5, if_pos h5]; exact s.set o d
  rw [if_neg h5, if_neg h5]
  by_cases h6 : d.kind = 6
  · rw [if_pos h6, if_pos h6]; exact s.same o d
  rw [if_neg h6, if_neg h6]
  by_cases h7 : d.kind = 7
  · rw [if_pos h7, if_pos h7]; exact s.read o d
  rw [if_neg h7, if_neg h7]
  by_cases h8 : d.kind = 8
  · exact absurd (.inl h8) hn
  rw [if_neg h8, if_neg h8]
  by_cases h9 : d.kind = 9
  · exact absurd (.inr h9) hn
  rw [if_neg h9, if_neg h9]
  exact ⟨rfl, rfl, s⟩
end Go.Proofs.Ythipkmmdjhpklaa
namespace Go.Proofs.Ythipkmmdjhpklaa
set_option linter.unusedVariables false
set_option linter.unusedSimpArgs false
open Go.RowKit

def newH (size : Int) (n : Nat) : HeapM := ⟨size, 0, 0, false, [], [], List.replicate n unitV⟩
theorem newH_ok (size : Int) (n : Nat) (hs : 0 ≤ size ∧ size ≤ 6000) (hn : n ≤ 4000) : HOk (newH size n) := by
  refine ⟨⟨hs, .inl rfl, fun _ => ⟨rfl, rfl⟩, Int.le_refl _, Int.le_refl _, fun i o ho => (by simp [newH] at ho), fun p hp => (by simp [newH] at hp), ?_, ?_⟩, .inl rfl, by simpa [newH] using hn, fun x hx => ?_⟩
  · simp only [newH, lens, List.map_nil, wordsM, dueL]; omega
  · simp only [newH, lensO, List.map_nil, wordsM]; omega
  · have := List.eq_of_mem_replicate hx
    subst this
    exact ⟨rfl, fun h => by simp [unitV] at h⟩
theorem newH_sim (s s' : Int) (n : Nat) : Sim (newH s n) (newH s' n) := by
  refine ⟨rfl, rfl, rfl, [], [], ⟨rfl, rfl, by simp, by simp, fun i p hp => (by simp [newH] at hp), fun i p j hp => (by simp [newH] at hp), fun i p hp => (by simp [newH] at hp), fun i p hp => (by simp [newH] at hp), fun j hj => (by simp at hj)⟩, ?_⟩
  simp only [newH, List.map_replicate, al_unit]
def fullV : ValM := intV (-8)
theorem resV_full {r : Int × ValM × HeapM} (h : resV r ≠ fullV) : r.1 ≠ 8 := by
  intro e
  apply h
  unfold resV fullV
  rw [e, if_neg (by decide)]
theorem resV_eq {r r' : Int × ValM × HeapM} (h1 : r.1 = r'.1) (h2 : r.2.1 = r'.2.1) : resV r = resV r' := by
  unfold resV; rw [h1, h2]
def nc (d : DeedM) : Bool := !isColl d
theorem plays_append : ∀ (a b : List DeedM) (h : HeapM), h.plays (a ++ b) = ((h.plays a).1 ++ ((h.plays a).2.plays b).1, ((h.plays a).2.plays b).2)
  | [], b, h => rfl
  | d :: a, b, h => by
    simp only [List.cons_append, HeapM.plays]
    rw [plays_append a b]
theorem split_at {α : Type} {L : List α} {i : Nat} {d : α} (hd : L[i]? = some d) : L = L.take i ++ d :: L.drop (i + 1) := by
  obtain ⟨hi, rfl⟩ := List.getElem?_eq_some_iff.1 hd
  rw [List.getElem_cons_drop, List.take_append_drop]
theorem plays_at (L : List DeedM) (i : Nat) (d : DeedM) (hd : L[i]? = some d) (h : HeapM) :
    (h.plays L).1[i]? = some (resV ((h.plays (L.take i)).2.do d)) ∧ ∃ r, (h.plays L).1 = (h.plays (L.take i)).1 ++ r := by
  have hi := lt_of_some hd
  have e := split_at hd
  have e2 : h.plays L = h.plays (L.take i ++ d :: L.drop (i + 1)) := by rw [← e]
  rw [e2, plays_append]
  have hl : (h.plays (L.take i)).1.length = i := by rw [plays_len, List.length_take]; omega
  refine ⟨?_, _, rfl⟩
  simp only
  rw [List.getElem?_append_right (by omega), hl, Nat.sub_self]
  simp only [HeapM.plays, List.getElem?_cons_zero]
theorem Sim.plays : ∀ (L : List DeedM) {h g : HeapM}, Sim h g → HOk h → HOk g → (∀ v ∈ (h.plays L).1, v ≠ fullV) → (∀ v ∈ (g.plays (L.filter nc)).1, v ≠ fullV) → Sim (h.plays L).2 (g.plays (L.filter nc)).2
  | [], h, g, s, o, q, _, _ => s
  | d :: L, h, g, s, o, q, h1, h2 => by
    simp only [HeapM.plays] at h1
    by_cases hc : isColl d = true
    · have e : (d :: L).filter nc = L.filter nc := by rw [List.filter_cons_of_neg (by simp [nc, hc])]
      rw [e] at h2 ⊢
      simp only [HeapM.plays]
      exact Sim.plays L (s.coll o d hc) (o.do d) q (fun v hv => h1 v (.tail _ hv)) h2
    · have hc' : isColl d = false := by simpa using hc
      have e : (d :: L).filter nc = d :: L.filter nc := by rw [List.filter_cons_of_pos (by simp [nc, hc'])]
      rw [e] at h2 ⊢
      simp only [HeapM.plays] at h2 ⊢
      obtain ⟨_, _, s1⟩ := s.do o q d hc' (resV_full (h1 _ (.head _))) (resV_full (h2 _ (.head _)))
      exact Sim.plays L s1 (o.do d) (q.do d) (fun v hv => h1 v (.tail _ hv)) (fun v hv => h2 v (.tail _ hv))
/-- What the law compares, at each place. -/
theorem unseen_at {h g : HeapM} (s : Sim h g) (o : HOk h) (q : HOk g) (L : List DeedM) (hl : ∀ v ∈ (h.plays L).1, v ≠ fullV) (i : Nat) (d : DeedM) (hd : L[i]? = some d) (hc : isColl d = false)
    (hm : ∀ (j : Nat) (v : ValM), j < ((L.take i).filter nc).length → (g.plays (L.filter nc)).1[j]? = some v → v ≠ fullV) :
    ∃ v u, (h.plays L).1[i]? = some v ∧ (g.plays (L.filter nc)).1[((L.take i).filter nc).length]? = some u ∧ (u ≠ fullV → v = u) := by
  obtain ⟨e1, r, e2⟩ := plays_at L i d hd h
  have hf : L.filter nc = (L.take i).filter nc ++ d :: (L.drop (i + 1)).filter nc := by
    have e : L.filter nc = (L.take i ++ d :: L.drop (i + 1)).filter nc := by rw [← split_at hd]
    rw [e, List.filter_append, List.filter_cons_of_pos (by simp [nc, hc])]
  have hd' : (L.filter nc)[((L.take i).filter nc).length]? = some d := by
    rw [hf, List.getElem?_append_right (Nat.le_refl _), Nat.sub_self]; rfl
  have ht : (L.filter nc).take ((L.take i).filter nc).length = (L.take i).filter nc := by
    rw [hf, List.take_left]
  obtain ⟨e3, r', e4⟩ := plays_at (L.filter nc) _ d hd' g
  rw [ht] at e3 e4
  have hs : ∀ v ∈ (h.plays (L.take i)).1, v ≠ fullV := fun v hv => hl v (by rw [e2]; exact List.mem_append_left _ hv)
  have hs' : ∀ v ∈ (g.plays ((L.take i).filter nc)).1, v ≠ fullV := fun v hv => by
    obtain ⟨j, hj, rfl⟩ := List.mem_iff_getElem.1 hv
    refine hm j _ (by rw [plays_len] at hj; exact hj) ?_
    rw [e4, List.getElem?_append_left hj, List.getElem?_eq_getElem hj]
  refine ⟨_, _, e1, e3, fun hu => ?_⟩
  have hv : resV ((h.plays (L.take i)).2.do d) ≠ fullV := hl _ (List.mem_of_getElem? e1)
  obtain ⟨f1, f2, _⟩ := (Sim.plays (L.take i) s o q hs hs').do (plays_ok _ o) (plays_ok _ q) d hc (resV_full hv) (resV_full hu)
  exact resV_eq f1 f2
end Go.Proofs.Ythipkmmdjhpklaa
namespace Go.Proofs.Ythipkmmdjhpklaa
set_option linter.unusedVariables false
set_option linter.unusedSimpArgs false
open Go.RowKit

set_option maxHeartbeats 400000 in
theorem isColl_any (d : DeedM) (lv sv : Value) {w0 w : World} {H : Hp} {L : List (Nat × Obj)} (hd : DeedR H d lv sv) (m : Mem w0 H L w) :
    Calls Try.prog 21 #[d.v lv sv] w (Ret w0 H L (.bool (isColl d))) := by
  obtain ⟨lb, lc, rfl, _, _, _, _⟩ := hd.list
  obtain ⟨sb, sc, rfl, _, _, _, _⟩ := hd.slots
  clear hd
  have m1 := m.alloc (DBox d (.slice lb d.list.length lc) (.slice sb d.obj.slots.length sc))
  obtain ⟨dk, da, db, dc, dl, dobj, dval⟩ := d
  unfold DeedM.v isColl
  simp only at *
  have mu := m1
  unfold DBox at mu
  have es := mu.eqs
  simp only [EqsL] at es
  go_enter Try.func21, Try.ntmps21
  by_cases h8 : dk = 8
  · subst h8
    go_wp2_with fail
    go_ret
    exact ⟨rfl, m1.drop⟩
  · have h8I : ((dk : Int) == 8) = false := by simpa using (by omega : ¬ (dk : Int) = 8)
    by_cases h9 : dk = 9
    · subst h9
      go_wp2_with fail
      go_ret
      exact ⟨rfl, m1.drop⟩
    · have h9I : ((dk : Int) == 9) = false := by simpa using (by omega : ¬ (dk : Int) = 9)
      rw [decide_eq_false (by omega)]
      go_wp2_with fail
      go_ret
      exact ⟨rfl, m1.drop⟩
theorem perm_ld1 {α : Type} (d : α) (Lq L : List α) : (Lq ++ (d :: L)).Perm (d :: (Lq ++ L)) := List.perm_middle
theorem perm_ld2 {α : Type} (x d : α) (Lq L : List α) : (x :: d :: (Lq ++ L)).Perm (Lq ++ (x :: d :: L)) := (by classical exact List.perm_iff_count.2 (fun a => by simp only [List.count_append, List.count_cons, List.cons_append, List.nil_append, List.append_assoc]; omega))
theorem Chunks.deed {H : Hp} {d : DeedM} {lv sv : Value} (h : DeedR H d lv sv) : Chunks encDeed H (d.cs lv sv) [d] := Chunks.one (E := encDeed) ⟨lv, sv, rfl, h⟩ rfl
theorem int_oneCell {H : Hp} {cs : List Value} {xs : List Int} (h : Chunks encInt H cs xs) : ∀ u ∈ cs, u.oneCell' = true :=
  h.oneCell fun cs x hx u hu => by
    obtain ⟨rfl, _⟩ := hx
    simp only [List.mem_cons, List.not_mem_nil, or_false] at hu
    rw [hu]; rfl
set_option maxRecDepth 10000 in
set_option maxHeartbeats 4000000 in
theorem lawDeeds_any (v : Value) (ds : List DeedM) (hn : ds.length ≤ 100000) (hb : ∀ d ∈ ds, d.list.length ≤ 100000 ∧ d.obj.slots.length ≤ 100000) {w0 w : World} {H : Hp} {L : List (Nat × Obj)} (hd : SlR encDeed H v ds) (m : Mem w0 H L w) :
    Calls Try.prog 17 #[v] w fun e w' => ∃ H' v', e = .returned v' ∧ Hle H H' ∧ SlR encDeed H' v' ds ∧ Mem w0 H' L w' := by
  have HD := Lib.hid hd
  have HB9 := Lib.hid hb; clear hb
  obtain ⟨lb, lc, rfl, _, hlc, _, _⟩ := hd
  have hlc := size_le_maxLen hlc
  go_enter Try.func17, Try.ntmps17
  go_wp2_with fail
  go_loopw [3, 4] (fun v3 v4 wr => ∃ (k : Nat) (H' : Hp) (pb : Option Addr) (pc : Nat) (cs : List Value) (Lq : List (Nat × Obj)), k ≤ ds.length ∧ v4 = .int .i64 k ∧ v3 = .slice pb k pc ∧ Hle H H' ∧ Chunks encDeed H' cs (ds.take k) ∧ AccL 52 12 (.slice pb k pc) k cs Lq ∧ Mem w0 H' (Lq ++ L) wr) (fun _ i _ => ds.length - (intOf i).toNat)
  case atStart => exact ⟨0, H, none, 0, [], [], Nat.zero_le _, rfl, rfl, Hle.refl _, .nil, AccL.nil, m⟩
  case round =>
    obtain ⟨k, H', pb, pc, cs, Lq, hk, rfl, rfl, hle, hch, hq, mk⟩ := hrel
    by_cases hlt : k < ds.length
    · obtain ⟨blk, off, lv, sv, rfl, hcell, hdr⟩ := HD.out.getDeed hlt
      have htk : ds.take (k + 1) = ds.take k ++ [ds[k]] := List.take_succ_eq_append_getElem hlt
      have HTK := Lib.hid htk; clear htk
      have hbk := HB9.out _ (List.getElem_mem hlt)
      have HDR := Lib.hid (hdr.mono hle); clear hdr
      generalize hdk : ds[k] = d at *
      have hltI : (k : Int) < ds.length := by omega
      obtain ⟨lb2, lc2, rfl, -, -, -, -⟩ := HDR.out.list
      obtain ⟨sb2, sc2, rfl, -, -, -, -⟩ := HDR.out.slots
      have mK2 := mk.weaken hle
      have c0 := (hcell 0 _ rfl).cell mK2
      rw [Nat.add_zero] at c0
      have c1 := (hcell 1 _ rfl).cell mK2
      have c2 := (hcell 2 _ rfl).cell mK2
      have c3 := (hcell 3 _ rfl).cell mK2
      have c4 := (hcell 4 _ rfl).cell mK2
      have c5 := (hcell 5 _ rfl).cell mK2
      have c6 := (hcell 6 _ rfl).cell mK2
      have c7 := (hcell 7 _ rfl).cell mK2
      have c8 := (hcell 8 _ rfl).cell mK2
      have c9 := (hcell 9 _ rfl).cell mK2
      have c10 := (hcell 10 _ rfl).cell mK2
      have c11 := (hcell 11 _ rfl).cell mK2
      have mD := mk.alloc (DBox d (.slice lb2 d.list.length lc2) (.slice sb2 d.obj.slots.length sc2))
      obtain ⟨lnews, hlch, hlsrc⟩ := HDR.out.list.src mD
      have HLC := Lib.hid hlch; clear hlch
      have HLS := Lib.hid hlsrc; clear hlsrc
      have mu := mD
      unfold DBox at mu
      have es := mu.eqs
      simp only [EqsL] at es
      go_wp2_with (at_builtin; go_must (refine wpList_append_mem (w0 := w0) (H := H') (L := _ :: _) rfl _ _ 46 rfl 3 1 8 (.int .i64 0) Try.underlying46 (by kernel_rfl) rfl (by decide) _ 0 [] (MemAcc.nil mD) rfl _ d.list.length lnews HLS.out rfl HLC.out.length (int_oneCell HLC.out) (by omega) (by unfold maxLen; omega) ?_))
      intro v1 w1 hacc1
      try simp only [Nat.zero_add, List.nil_append] at hacc1
      obtain ⟨b1, c1', rfl, _, _⟩ := hacc1.shape
      obtain ⟨H1, m1, hl1, hs1⟩ := hacc1.done (E := encInt) HLC.out rfl rfl
      clear c0 c1 c2 c3 c4 c5 c6 c7 c8 c9 c10 c11 hcell mK2 es mu mD hacc1
      unfold DBox at m1
      have m2 := m1.set (i := 4) (v := .slice b1 d.list.length c1') .head
      simp only [List.setIfInBounds_toArray, List.set_cons_zero, List.set_cons_succ] at m2
      have HS1 := Lib.hid hs1; clear hs1
      obtain ⟨snews, hsch, hssrc⟩ := (HDR.out.slots.mono hl1).src m2
      have HSC := Lib.hid hsch; clear hsch
      have HSS := Lib.hid hssrc; clear hssrc
      have mu := m1
      have es := mu.eqs
      simp only [EqsL] at es
      go_wp2_with (at_builtin; go_must (refine wpList_append_mem (w0 := w0) (H := H1) (L := _ :: _) rfl _ _ 29 rfl 50 3 32 (.agg #[.int .u8 0, .int .i64 0, .string ByteArray.empty]) Try.underlying29 (by kernel_rfl) rfl (by decide) _ 0 [] (MemAcc.nil m2) rfl _ d.obj.slots.length snews HSS.out rfl HSC.out.vlen (val_oneCell HSC.out) (by omega) (by unfold maxLen; omega) ?_))
      intro v2 w2 hacc2
      try simp only [Nat.zero_add, List.nil_append] at hacc2
      obtain ⟨b2, c2', rfl, _, _⟩ := hacc2.shape
      obtain ⟨H2, m3, hl2, hs2⟩ := hacc2.done (E := encVal) HSC.out rfl rfl
      clear es mu m1 m2 hacc2
      have m4 := m3.set (i := 8) (v := .slice b2 d.obj.slots.length c2') .head
      simp only [List.setIfInBounds_toArray, List.set_cons_zero, List.set_cons_succ] at m4
      have hdr2 : DeedR H2 d (.slice b1 d.list.length c1') (.slice b2 d.obj.slots.length c2') := ⟨HDR.out.k, HDR.out.a, HDR.out.b, HDR.out.c, HS1.out.mono hl2, HDR.out.obj, hs2, HDR.out.val⟩
      have hcd := Chunks.deed hdr2
      unfold DeedM.cs at hcd
      have HCD := Lib.hid hcd; clear hcd hdr2 hs2
      have mu := m3
      have es := mu.eqs
      simp only [EqsL] at es
      have m5 := (m4.alloc (.cells #[.int .u8 d.kind, .int .i64 d.a, .int .i64 d.b, .int .i64 d.c, .slice b1 d.list.length c1', .int .u8 d.obj.kind, .string d.obj.name, .int .i64 d.obj.n, .slice b2 d.obj.slots.length c2', .int .u8 d.val.kind, .int .i64 d.val.n, .string d.val.s] 52)).perm (perm_ld2 _ _ Lq L)
      have hsz : (w2.setCell ⟨wr.heap.size, 8, none⟩ (.slice b2 d.obj.slots.length c2')).heap.size = w2.heap.size := by simp [World.setCell]
      rw [hsz] at m5
      go_wp2_with (at_builtin; go_must (refine wpList_append_mem (w0 := w0) (H := H2) (L := _ :: _) rfl _ _ 22 rfl 52 12 144 (.agg #[.int .u8 0, .int .i64 0, .int .i64 0, .int .i64 0, .slice none 0 0, .int .u8 0, .string ByteArray.empty, .int .i64 0, .slice none 0 0, .int .u8 0, .int .i64 0, .string ByteArray.empty]) Try.underlying22 (by kernel_rfl) rfl (by decide) (.slice pb k pc) k cs (hq.join m5) rfl (.slice (some ⟨w2.heap.size, 0, none⟩) 1 1) 1 [.int .u8 d.kind, .int .i64 d.a, .int .i64 d.b, .int .i64 d.c, .slice b1 d.list.length c1', .int .u8 d.obj.kind, .string d.obj.name, .int .i64 d.obj.n, .slice b2 d.obj.slots.length c2', .int .u8 d.val.kind, .int .i64 d.val.n, .string d.val.s] (Src.loc (e := 52) (hq.join m5).mem (.head _)) rfl rfl (by simp [Value.oneCell']) (by omega) (by unfold maxLen; omega) ?_))
      intro v' w6 hacc
      obtain ⟨b6, c6, rfl, _, _⟩ := hacc.shape
      obtain ⟨Lq3, hq3, mF⟩ := hacc.drop.drop.split
      go_wp2_with fail
      go_roundw
      case rel =>
        refine ⟨k + 1, H2, b6, c6, _, Lq3, by omega, by go_num, rfl, (hle.trans hl1).trans hl2, ?_, hq3, mF⟩
        rw [HTK.out]
        exact (hch.mono (hl1.trans hl2)).append HCD.out
      case measure => simp [intOf]; omega
    · have hge : ¬ (k : Int) < ds.length := by omega
      have hk' : k = ds.length := by omega
      obtain ⟨H3, mQ, hle3, hrv⟩ := (hq.join mk).done hch rfl (by rw [List.length_take]; omega)
      rw [hk', List.take_length] at hrv
      rw [← hk'] at hrv
      have HRV := Lib.hid hrv; clear hrv hk' hch hq
      go_wp2_with fail
      go_ret
      exact ⟨H3, _, rfl, hle.trans hle3, HRV.out, mQ⟩
end Go.Proofs.Ythipkmmdjhpklaa
