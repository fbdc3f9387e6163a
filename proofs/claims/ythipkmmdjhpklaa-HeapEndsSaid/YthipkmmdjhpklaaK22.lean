/- Plain law: which objects can be reached, and that Live counts them; what floats behind a collection. No program in sight. Plain law: a collection with no other deed leaves the objects that can be reached, breadth first. No program in sight. The walk of the reference: a value of a heap. -/
import Derived.Test.YthipkmmdjhpklaaK21
import Derived.Test.YthipkmmdjhpklaaK13
namespace Go.Proofs.Ythipkmmdjhpklaa
set_option linter.unusedVariables false
set_option linter.unusedSimpArgs false
open Go.RowKit

/-- The object that a reference means. -/
def idx (v : ValM) : Nat := (v.n / 2).toNat
/-- The objects that can be reached from the registers of a heap that is not busy. -/
inductive Met (h : HeapM) : Nat → Prop
  | reg {v : ValM} : v ∈ h.regs → v.kind = 5 → Met h (idx v)
  | slot {k : Nat} {v : ValM} : Met h k → v ∈ h.slotsAt k → v.kind = 5 → Met h (idx v)
theorem nodup_sub {α : Type} [BEq α] [LawfulBEq α] : ∀ (l m : List α), l.Nodup → (∀ x ∈ l, x ∈ m) → l.length ≤ m.length
  | [], m, _, _ => Nat.zero_le _
  | a :: l, m, hn, hs => by
    have ha := hs a (.head _)
    have hn' := List.nodup_cons.1 hn
    have h1 := nodup_sub l (m.erase a) hn'.2 (fun x hx => (List.mem_erase_of_ne (fun e => by subst e; exact hn'.1 hx)).2 (hs x (.tail _ hx)))
    rw [List.length_erase_of_mem ha] at h1
    have := List.length_pos_of_mem ha
    simp only [List.length_cons]
    omega
theorem slotsAt_mem {h : HeapM} {k : Nat} {v : ValM} (hv : v ∈ h.slotsAt k) : ∃ o, h.new[k]? = some o ∧ v ∈ o.slots := by
  unfold HeapM.slotsAt at hv
  cases hk : h.new[k]? with
  | none => rw [hk] at hv; cases hv
  | some o => rw [hk] at hv; exact ⟨o, rfl, hv⟩
/-- A reference of a heap that is not busy. -/
theorem idle_val {h : HeapM} (o : HOk h) (hb : h.busy = false) {b : Bool} {v : ValM} (hv : ValIn h.half h.new.length h.old.length b v) (hk : v.kind = 5) :
    v.n = 2 * (idx v : Int) + h.half ∧ idx v < h.new.length ∧ ¬ oldV h.half v := by
  have h1 := (plain_cases hv.1).2.2.2 hk
  have h2 := o.core.half
  have h3 := (o.core.idle hb).1
  rcases hv.2 hk with h4 | h4
  · unfold idx oldV
    exact ⟨by omega, h4.2, fun h5 => h5.2 h4.1⟩
  · rw [h3] at h4; simp at h4
theorem idle_reg {h : HeapM} (o : HOk h) (hb : h.busy = false) {v : ValM} (hv : v ∈ h.regs) (hk : v.kind = 5) : v.n = 2 * (idx v : Int) + h.half ∧ idx v < h.new.length ∧ ¬ oldV h.half v := idle_val o hb (o.regs v hv) hk
theorem idle_slot {h : HeapM} (o : HOk h) (hb : h.busy = false) {k : Nat} {v : ValM} (hv : v ∈ h.slotsAt k) (hk : v.kind = 5) : v.n = 2 * (idx v : Int) + h.half ∧ idx v < h.new.length ∧ ¬ oldV h.half v := by
  obtain ⟨p, hp, hv⟩ := slotsAt_mem hv
  exact idle_val o hb ((o.core.new k p hp).sl v hv) hk
theorem Met.lt {h : HeapM} (o : HOk h) (hb : h.busy = false) {k : Nat} (hm : Met h k) : k < h.new.length := by
  cases hm with
  | reg h1 h2 => exact (idle_reg o hb h1 h2).2.1
  | slot _ h1 h2 => exact (idle_slot o hb h1 h2).2.1
/-- The search, on its way. -/
structure LInv (h : HeapM) (seen : List Int) (todo : List ValM) : Prop where
  nodup : seen.Nodup
  met : ∀ x ∈ seen, ∃ k : Nat, x = 2 * (k : Int) + h.half ∧ Met h k
  next : ∀ v ∈ todo, v.kind = 5 → Met h (idx v) ∧ v.n = 2 * (idx v : Int) + h.half ∧ ¬ oldV h.half v
  regs : ∀ v ∈ h.regs, v.kind = 5 → v.n ∈ seen ∨ v ∈ todo
  slots : ∀ k : Nat, 2 * (k : Int) + h.half ∈ seen → ∀ v ∈ h.slotsAt k, v.kind = 5 → v.n ∈ seen ∨ v ∈ todo
theorem LInv.len {h : HeapM} (o : HOk h) (hb : h.busy = false) {seen : List Int} {next : List ValM} (v : LInv h seen next) : seen.length ≤ h.new.length := by
  have h1 := nodup_sub seen ((List.range h.new.length).map fun k : Nat => 2 * (k : Int) + h.half) v.nodup (fun x hx => by
    obtain ⟨k, rfl, hk⟩ := v.met x hx
    exact List.mem_map.2 ⟨k, List.mem_range.2 (hk.lt o hb), rfl⟩)
  simpa using h1
theorem turnR_idle {h : HeapM} {v : ValM} (hv : ¬ oldV h.half v) : h.turnR v = v := by unfold HeapM.turnR; rw [if_neg hv]
theorem slotsR_idle {h : HeapM} {v : ValM} (hv : ¬ oldV h.half v) : h.slotsR v = h.slotsAt (idx v) := by unfold HeapM.slotsR idx; rw [if_neg hv]
theorem slotsAt_len {h : HeapM} (o : HOk h) (k : Nat) : (h.slotsAt k).length ≤ 400 := by
  unfold HeapM.slotsAt
  cases hk : h.new[k]? with
  | none => simp
  | some p => exact (o.core.new k p hk).len
theorem LInv.run {h : HeapM} (o : HOk h) (hb : h.busy = false) : ∀ (F : Nat) {seen : List Int} {next : List ValM}, LInv h seen next → next.length + 401 * (6000 - seen.length) ≤ F → LInv h (h.liveN F seen next) []
  | 0, seen, next, v, hF => by
    have : next = [] := List.length_eq_zero_iff.1 (by omega)
    subst this
    exact v
  | F + 1, seen, next, v, hF => by
    rcases List.eq_nil_or_concat next with rfl | ⟨init, x, rfl⟩
    · rw [liveN_nil]; exact v
    · rw [List.concat_eq_append] at *
      have hlen : (init ++ [x]).length = init.length + 1 := by simp
      by_cases hk : x.kind = 5
      · obtain ⟨hm, hn, ho⟩ := v.next x (by simp) hk
        have ht := turnR_idle ho
        by_cases hs : x.n ∈ seen
        · rw [liveN_seen F h seen init x hk (by rw [ht]; exact hs)]
          refine LInv.run o hb F ⟨v.nodup, v.met, fun y hy => v.next y (List.mem_append_left _ hy), fun y hy hky => ?_, fun k hk' y hy hky => ?_⟩ (by omega)
          · rcases v.regs y hy hky with h1 | h1
            · exact .inl h1
            · rcases List.mem_append.1 h1 with h2 | h2
              · exact .inr h2
              · rw [List.mem_singleton] at h2; subst h2; exact .inl hs
          · rcases v.slots k hk' y hy hky with h1 | h1
            · exact .inl h1
            · rcases List.mem_append.1 h1 with h2 | h2
              · exact .inr h2
              · rw [List.mem_singleton] at h2; subst h2; exact .inl hs
        · rw [liveN_new F h seen init x hk (by rw [ht]; exact hs), ht, slotsR_idle ho]
          have v' : LInv h (seen ++ [x.n]) (init ++ h.slotsAt (idx x)) := by
            refine ⟨?_, fun y hy => ?_, fun y hy hky => ?_, fun y hy hky => ?_, fun k hk' y hy hky => ?_⟩
            · rw [List.nodup_append]
              exact ⟨v.nodup, by simp, fun a ha b hb' => by rw [List.mem_singleton] at hb'; subst hb'; exact fun e => hs (e ▸ ha)⟩
            · rcases List.mem_append.1 hy with hy | hy
              · exact v.met y hy
              · rw [List.mem_singleton] at hy; subst hy; exact ⟨_, hn, hm⟩
            · rcases List.mem_append.1 hy with hy | hy
              · exact v.next y (List.mem_append_left _ hy) hky
              · obtain ⟨e1, e2, e3⟩ := idle_slot o hb hy hky
                exact ⟨.slot hm hy hky, e1, e3⟩
            · rcases v.regs y hy hky with h1 | h1
              · exact .inl (List.mem_append_left _ h1)
              · rcases List.mem_append.1 h1 with h2 | h2
                · exact .inr (List.mem_append_left _ h2)
                · rw [List.mem_singleton] at h2; subst h2; exact .inl (List.mem_append_right _ (by simp))
            · rcases List.mem_append.1 hk' with hk' | hk'
              · rcases v.slots k hk' y hy hky with h1 | h1
                · exact .inl (List.mem_append_left _ h1)
                · rcases List.mem_append.1 h1 with h2 | h2
                  · exact .inr (List.mem_append_left _ h2)
                  · rw [List.mem_singleton] at h2; subst h2; exact .inl (List.mem_append_right _ (by simp))
              · rw [List.mem_singleton] at hk'
                have : k = idx x := by omega
                subst this
                exact .inr (List.mem_append_right _ hy)
          have hl := v'.len o hb
          have hbd := o.core.bounds.1
          have hsl := slotsAt_len o (idx x)
          refine LInv.run o hb F v' ?_
          simp only [List.length_append, List.length_singleton] at hl hF ⊢
          omega
      · rw [liveN_skip F h seen init x hk]
        refine LInv.run o hb F ⟨v.nodup, v.met, fun y hy => v.next y (List.mem_append_left _ hy), fun y hy hky => ?_, fun k hk' y hy hky => ?_⟩ (by omega)
        · rcases v.regs y hy hky with h1 | h1
          · exact .inl h1
          · rcases List.mem_append.1 h1 with h2 | h2
            · exact .inr h2
            · rw [List.mem_singleton] at h2; subst h2; exact absurd hky hk
        · rcases v.slots k hk' y hy hky with h1 | h1
          · exact .inl h1
          · rcases List.mem_append.1 h1 with h2 | h2
            · exact .inr h2
            · rw [List.mem_singleton] at h2; subst h2; exact absurd hky hk
/-- How many objects live. -/
def HeapM.liveC (h : HeapM) : Nat := (h.liveN (12000 * 401 + h.regs.length) [] h.regs).length
theorem live_inv {h : HeapM} (o : HOk h) (hb : h.busy = false) : LInv h (h.liveN (12000 * 401 + h.regs.length) [] h.regs) [] := by
  refine LInv.run o hb _ ⟨List.nodup_nil, fun x hx => (by cases hx), fun v hv hk => ?_, fun v hv hk => .inr hv, fun k hk => (by cases hk)⟩ (by simp; omega)
  obtain ⟨e1, e2, e3⟩ := idle_reg o hb hv hk
  exact ⟨.reg hv hk, e1, e3⟩
theorem live_all {h : HeapM} (o : HOk h) (hb : h.busy = false) {k : Nat} (hm : Met h k) : 2 * (k : Int) + h.half ∈ h.liveN (12000 * 401 + h.regs.length) [] h.regs := by
  have v := live_inv o hb
  induction hm with
  | reg h1 h2 =>
    rw [← (idle_reg o hb h1 h2).1]
    rcases v.regs _ h1 h2 with h3 | h3
    · exact h3
    · cases h3
  | slot h0 h1 h2 ih =>
    rw [← (idle_slot o hb h1 h2).1]
    rcases v.slots _ ih _ h1 h2 with h3 | h3
    · exact h3
    · cases h3
theorem live_ge {h : HeapM} (o : HOk h) (hb : h.busy = false) {l : List Nat} (hn : l.Nodup) (hl : ∀ k ∈ l, Met h k) : l.length ≤ h.liveC := by
  have h1 := nodup_sub (l.map fun k : Nat => 2 * (k : Int) + h.half) _ (by
    unfold List.Nodup
    rw [List.pairwise_map]
    refine List.Pairwise.imp ?_ (show List.Pairwise (fun a b => a ≠ b) l from hn)
    intro a b hne e
    exact hne (by omega)) (fun x hx => by
    obtain ⟨k, hk, rfl⟩ := List.mem_map.1 hx
    exact live_all o hb (hl k hk))
  simpa [HeapM.liveC] using h1
theorem live_le {h : HeapM} (o : HOk h) (hb : h.busy = false) {l : List Nat} (hl : ∀ k, Met h k → k ∈ l) : h.liveC ≤ l.length := by
  have v := live_inv o hb
  have h1 := nodup_sub _ (l.map fun k : Nat => 2 * (k : Int) + h.half) v.nodup (fun x hx => by
    obtain ⟨k, rfl, hk⟩ := v.met x hx
    exact List.mem_map.2 ⟨k, hl k hk, rfl⟩)
  simpa [HeapM.liveC] using h1
theorem live_new {h : HeapM} (o : HOk h) (hb : h.busy = false) : h.liveC ≤ h.new.length := by
  have := live_le o hb (l := List.range h.new.length) (fun k hk => List.mem_range.2 (hk.lt o hb))
  simpa using this

/-! ### What floats -/
/-- While a collection goes on: what it began with is h0. -/
structure Fl (h0 h : HeapM) : Prop where
  len : h.old.length = h0.new.length
  objs : ∀ (i : Nat) (p : ObjM × Int), h.old[i]? = some p → h0.new[i]? = some p.1
  met : ∀ (i : Nat) (p : ObjM × Int), h.old[i]? = some p → 0 ≤ p.2 → Met h0 i
  refs : ∀ o ∈ h.new, ∀ v ∈ o.slots, oldV h.half v → Met h0 (idx v)
theorem Fl.move {h0 h : HeapM} (f : Fl h0 h) (c : HCore h) {x : ValM} (hx : ValIn h.half h.new.length h.old.length true x) (hm : oldV h.half x → Met h0 (idx x)) : Fl h0 (h.afterMove x) := by
  have hb := c.bounds
  have hcv := hx.can hb.1 hb.2.1 c.half
  unfold HeapM.afterMove
  rcases moveN_cases (nn := h.new.length) hcv.o with ⟨h1, h2⟩ | ⟨i, hi, h1, h2, ⟨h3, h4⟩ | ⟨h3, h4⟩⟩
  · rw [h2]
    simp only [List.append_nil]
    exact ⟨f.len, f.objs, f.met, f.refs⟩
  · have hmi : Met h0 i := by rw [h2]; exact hm h1
    rw [h4]
    refine ⟨by simpa using f.len, fun j p hp => ?_, fun j p hp h0' => ?_, fun q hq v hv hov => ?_⟩
    · simp only at hp
      rw [List.getElem?_set] at hp
      split at hp
      · rename_i e; subst e
        simp only [hi, if_true, Option.some.injEq] at hp
        subst hp
        have := f.objs i _ (List.getElem?_eq_getElem hi)
        exact this
      · exact f.objs j p hp
    · simp only at hp
      rw [List.getElem?_set] at hp
      split at hp
      · rename_i e; subst e
        exact hmi
      · exact f.met j p hp h0'
    · simp only at hq hov
      rcases List.mem_append.1 hq with hq | hq
      · exact f.refs q hq v hv hov
      · rw [List.mem_singleton] at hq
        subst hq
        have := f.objs i _ (List.getElem?_eq_getElem hi)
        refine .slot hmi ?_ hov.1
        rw [slotsAt_of this]
        exact hv
  · rw [h4]
    simp only [List.append_nil]
    exact ⟨f.len, f.objs, f.met, f.refs⟩
theorem Fl.moves {h0 : HeapM} : ∀ (l : List ValM) {h : HeapM}, Fl h0 h → HCore h → (∀ x ∈ l, ValIn h.half h.new.length h.old.length true x) → (∀ x ∈ l, oldV h.half x → Met h0 (idx x)) → Fl h0 (h.afterMoves l)
  | [], h, f, c, _, _ => by
    have e : h.afterMoves [] = h := by unfold HeapM.afterMoves; simp [movesN]
    rw [e]
    exact f
  | x :: l, h, f, c, hx, hm => by
    obtain ⟨c1, v1, o1, n1⟩ := c.move (hx x (.head _))
    rw [afterMoves_cons]
    exact Fl.moves l (f.move c (hx x (.head _)) (hm x (.head _))) c1 (fun y hy => by rw [o1]; exact (hx y (.tail _ hy)).mono n1 fun h => h) (fun y hy => hm y (.tail _ hy))
theorem valIn_notOld {half : Int} {nn on : Nat} {v : ValM} (h : ValIn half nn on false v) : ¬ oldV half v := fun ho => by
  rcases h.2 ho.1 with h1 | h1
  · exact ho.2 h1.1
  · exact absurd h1.2.1 (by decide)
theorem Fl.scan1 {h0 h : HeapM} (f : Fl h0 h) (o : HOk h) (hi : h.scan < h.new.length) : Fl h0 h.scan1 := by
  have c := o.core
  have hs0 := c.s0
  have hi' : h.scan.toNat < h.new.length := by omega
  have hg := List.getElem?_eq_getElem hi'
  have ho := c.inNew hg
  have hmem := List.getElem_mem hi'
  have f1 := f.moves h.new[h.scan.toNat].slots c ho.sl (fun x hx hox => f.refs _ hmem x hx hox)
  obtain ⟨c1, v1, o1, n1⟩ := HCore.moves h.new[h.scan.toNat].slots c ho.sl
  rw [scan1_eq hi']
  refine ⟨f1.len, f1.objs, f1.met, fun q hq v hv hov => ?_⟩
  simp only at hq hov
  rw [← set_append_of_lt _ _ _ _ hi'] at hq
  rcases List.mem_or_eq_of_mem_set hq with hq | rfl
  · exact f1.refs q hq v hv hov
  · exact absurd hov (valIn_notOld (v1 v hv))
theorem Fl.begin {h : HeapM} (o : HOk h) (hb : h.busy = false) : Fl h h.begin := by
  obtain ⟨c0, r0⟩ := o.started hb
  have f0 : Fl h { h with half := 1 - h.half, busy := true, scan := 0, old := oldOf h.new, new := [] } := by
    refine ⟨by simp [oldOf], fun i p hp => ?_, fun i p hp h0 => ?_, fun q hq => (by cases hq)⟩
    all_goals
      simp only [oldOf, List.getElem?_map, Option.map_eq_some_iff] at hp
      obtain ⟨z, hz, rfl⟩ := hp
    · exact hz
    · simp at h0
  have f1 := f0.moves h.regs c0 (fun x hx => by simp only [oldOf_length, List.length_nil]; exact r0 x hx) (fun x hx hox => .reg hx hox.1)
  simp only [HeapM.afterMoves, List.nil_append, List.length_nil] at f1
  exact ⟨f1.len, f1.objs, f1.met, f1.refs⟩
/-- The numbers of the objects that were copied. -/
def copied : Nat → List (ObjM × Int) → List Nat
  | _, [] => []
  | b, p :: l => if p.2 < 0 then copied (b + 1) l else b :: copied (b + 1) l
theorem copied_len : ∀ (b : Nat) (l : List (ObjM × Int)), (copied b l).length + unc l = l.length
  | _, [] => rfl
  | b, p :: l => by
    have := copied_len (b + 1) l
    unfold copied unc
    split <;> simp only [List.length_cons] <;> omega
theorem copied_mem : ∀ (b : Nat) (l : List (ObjM × Int)) (k : Nat), k ∈ copied b l → b ≤ k ∧ ∃ p, l[k - b]? = some p ∧ 0 ≤ p.2
  | _, [], k, hk => by cases hk
  | b, p :: l, k, hk => by
    have tl : k ∈ copied (b + 1) l → b ≤ k ∧ ∃ q, (p :: l)[k - b]? = some q ∧ 0 ≤ q.2 := fun h => by
      obtain ⟨h1, q, h2, h3⟩ := copied_mem (b + 1) l k h
      refine ⟨by omega, q, ?_, h3⟩
      rw [show k - b = (k - (b + 1)) + 1 by omega, List.getElem?_cons_succ]
      exact h2
    unfold copied at hk
    split at hk
    · exact tl hk
    · rename_i hp
      rcases List.mem_cons.1 hk with rfl | hk
      · exact ⟨Nat.le_refl _, p, by simp, by omega⟩
      · exact tl hk
theorem copied_nodup : ∀ (b : Nat) (l : List (ObjM × Int)), (copied b l).Nodup
  | _, [] => List.nodup_nil
  | b, p :: l => by
    unfold copied
    split
    · exact copied_nodup _ l
    · exact List.nodup_cons.2 ⟨fun h => (by have := (copied_mem _ _ _ h).1; omega), copied_nodup _ l⟩
theorem Fl.count {h0 h : HeapM} (f : Fl h0 h) (o : HOk h0) (hb : h0.busy = false) : h.old.length ≤ h0.liveC + unc h.old := by
  have h1 := copied_len 0 h.old
  have h2 := live_ge o hb (copied_nodup 0 h.old) (fun k hk => by
    obtain ⟨_, p, hp, h3⟩ := copied_mem 0 h.old k hk
    exact f.met k p (by simpa using hp) h3)
  omega
/-- While a collection goes on, and behind it. -/
structure FI (h0 : HeapM) (made : Nat) (h : HeapM) : Prop where
  busy : h.busy = true → Fl h0 h ∧ h.cnt = h0.new.length + made
  idle : h.busy = false → h.new.length ≤ h0.liveC + made
theorem FI.begin {h : HeapM} (o : HOk h) (hb : h.busy = false) : FI h 0 h.begin := by
  obtain ⟨b1, b2, b3, b4⟩ := begin_cnt o hb
  exact ⟨fun _ => ⟨Fl.begin o hb, by omega⟩, fun h => by rw [b3] at h; cases h⟩
theorem FI.stepM {h0 : HeapM} (o0 : HOk h0) (hb0 : h0.busy = false) {made : Nat} : ∀ (n : Nat) {h : HeapM}, FI h0 made h → HOk h → FI h0 made (h.stepM n).2
  | 0, h, f, o => f
  | n + 1, h, f, o => by
    cases hb : h.busy with
    | false => rw [stepM_notBusy _ hb]; exact f
    | true =>
      obtain ⟨f1, f2⟩ := f.busy hb
      unfold HeapM.stepM
      rw [if_neg (by simp [hb])]
      by_cases hi : h.scan < h.new.length
      · rw [if_pos hi]
        obtain ⟨c1, c2, c3⟩ := scan1_cnt o hb hi
        have g := f1.scan1 o hi
        refine FI.stepM o0 hb0 n ?_ (o.scanned hb hi)
        rcases endIf_cases h.scan1 with ⟨e1, e2, e3⟩ | ⟨e1, e2⟩
        · refine ⟨fun hq => (by rw [e2] at hq; cases hq), fun _ => ?_⟩
          rw [e3]
          have := g.count o0 hb0
          have := g.len
          unfold HeapM.cnt at c1 f2
          omega
        · rw [e2]
          exact ⟨fun _ => ⟨g, by omega⟩, fun hq => (by rw [c3] at hq; cases hq)⟩
      · rw [if_neg hi]
        have hs1 := o.core.s1
        rcases endIf_cases h with ⟨e1, e2, e3⟩ | ⟨e1, e2⟩
        · refine ⟨fun hq => (by rw [e2] at hq; cases hq), fun _ => ?_⟩
          rw [e3]
          have := f1.count o0 hb0
          have := f1.len
          unfold HeapM.cnt at f2
          omega
        · omega
theorem Fl.setObj {h0 h : HeapM} (f : Fl h0 h) {i : Nat} {o : ObjM} (ho : ∀ v ∈ o.slots, oldV h.half v → Met h0 (idx v)) : Fl h0 { h with new := h.new.set i o } := by
  refine ⟨f.len, f.objs, f.met, fun q hq v hv hov => ?_⟩
  simp only at hq hov
  rcases List.mem_or_eq_of_mem_set hq with hq | rfl
  · exact f.refs q hq v hv hov
  · exact ho v hv hov
theorem Fl.setSlot {h0 h : HeapM} (f : Fl h0 h) {k n : Nat} {v : ValM} (hv : ¬ oldV h.half v) : Fl h0 (h.setSlot k n v) := by
  unfold HeapM.setSlot
  cases hk : h.new[k]? with
  | none => exact f
  | some p =>
    refine f.setObj fun y hy hoy => ?_
    rcases List.mem_or_eq_of_mem_set hy with hy | rfl
    · exact f.refs p (List.mem_of_getElem? hk) y hy hoy
    · exact absurd hoy hv
theorem setSlot_same (h : HeapM) (k n : Nat) (v : ValM) : (h.setSlot k n v).old = h.old ∧ (h.setSlot k n v).new.length = h.new.length ∧ (h.setSlot k n v).busy = h.busy := by
  unfold HeapM.setSlot
  cases hk : h.new[k]? <;> simp
theorem Fl.setReg {h0 h : HeapM} (f : Fl h0 h) (r : List ValM) : Fl h0 { h with regs := r } := ⟨f.len, f.objs, f.met, f.refs⟩
/-- Deeds while a collection goes on. -/
theorem FI.do {h0 : HeapM} (o0 : HOk h0) (hb0 : h0.busy = false) {made : Nat} {h : HeapM} (f : FI h0 made h) (o : HOk h) (hb : h.busy = true) (d : DeedM) (h8 : d.kind ≠ 8) (he : (h.do d).1 = 0) :
    FI h0 (if d.kind = 1 then made + 1 else made) (h.do d).2.2 := by
  obtain ⟨f1, f2⟩ := f.busy hb
  unfold HeapM.do at he ⊢
  by_cases h1 : d.kind = 1
  · rw [if_pos h1] at he ⊢
    rw [if_pos h1, make_ok he]
    refine ⟨fun _ => ⟨⟨f1.len, f1.objs, f1.met, fun q hq v hv hov => ?_⟩, ?_⟩, fun hq => (by simp [hb] at hq)⟩
    · simp only at hq hov
      rcases List.mem_append.1 hq with hq | hq
      · exact f1.refs q hq v hv hov
      · rw [List.mem_singleton] at hq
        subst hq
        obtain ⟨r, hr, rfl⟩ := List.mem_map.1 hv
        by_cases hin : r.toNat < h.regs.length
        · exact absurd hov (valIn_notOld (o.regs _ (reg_mem hin)))
        · have : h.reg r = unitV := by unfold HeapM.reg; rw [List.getD_eq_getElem?_getD, List.getElem?_eq_none (by omega)]; rfl
          rw [this] at hov
          exact absurd hov.1 (by decide)
    · simp only [HeapM.cnt, List.length_append, List.length_singleton] at f2 ⊢
      omega
  rw [if_neg h1] at he ⊢
  rw [if_neg h1]
  by_cases h2 : d.kind = 2
  · rw [if_pos h2] at he ⊢
    unfold HeapM.doGet at he ⊢
    split at he
    · cases he
    rename_i g1; rw [if_neg g1]
    split at he
    · rename_i g2; exact absurd he g2
    rename_i g2; rw [if_neg g2]
    simp only
    obtain ⟨s1, s2, s3⟩ := slotE_zero g2
    generalize hk : (((h.reg d.b).n / 2).toNat) = k at *
    unfold HeapM.getTo
    simp only
    have hmem : (h.slotsAt k).getD d.c.toNat unitV ∈ h.slotsAt k := by
      rw [List.getD_eq_getElem?_getD, List.getElem?_eq_getElem s3]
      exact List.getElem_mem s3
    generalize (h.slotsAt k).getD d.c.toNat unitV = x at *
    obtain ⟨p, hp, hxp⟩ := slotsAt_mem hmem
    have hx := (o.core.inNew hp).sl x hxp
    have g3 := f1.move o.core hx (fun hox => f1.refs p (List.mem_of_getElem? hp) x hxp hox)
    obtain ⟨c1, v1, o1, n1⟩ := o.core.move hx
    have hcnt := moveN_count (nn := h.new.length) (hx.can o.core.bounds.1 o.core.bounds.2.1 o.core.half).o
    have g4 := (g3.setReg (h.regs.set d.a.toNat (moveN h.half h.old h.new.length x).1)).setSlot (k := k) (n := d.c.toNat) (v := (moveN h.half h.old h.new.length x).1) (valIn_notOld v1)
    obtain ⟨e1, e2, e3⟩ := setSlot_same { h with old := (moveN h.half h.old h.new.length x).2.1, new := h.new ++ (moveN h.half h.old h.new.length x).2.2, regs := h.regs.set d.a.toNat (moveN h.half h.old h.new.length x).1 } k d.c.toNat (moveN h.half h.old h.new.length x).1
    refine ⟨fun _ => ⟨g4, ?_⟩, fun hq => (by rw [e3] at hq; simp [hb] at hq)⟩
    unfold HeapM.cnt at f2 ⊢
    rw [e1, e2]
    simp only [List.length_append]
    omega
  rw [if_neg h2] at he ⊢
  by_cases h3 : d.kind = 3
  · rw [if_pos h3] at he ⊢
    unfold HeapM.doPut at he ⊢
    split at he
    · cases he
    rename_i g1; rw [if_neg g1]
    split at he
    · rename_i g2; exact absurd he g2
    rename_i g2; rw [if_neg g2]
    simp only
    have ha := are_mem g1 (x := d.c) (by simp)
    obtain ⟨e1, e2, e3⟩ := setSlot_same h ((h.reg d.a).n / 2).toNat d.b.toNat (h.reg d.c)
    refine ⟨fun _ => ⟨f1.setSlot (valIn_notOld (o.regs _ (reg_mem ha.2))), ?_⟩, fun hq => (by rw [e3, hb] at hq; cases hq)⟩
    unfold HeapM.cnt at f2 ⊢
    rw [e1, e2]
    exact f2
  rw [if_neg h3] at he ⊢
  by_cases h4 : d.kind = 4
  · rw [if_pos h4]
    unfold HeapM.doMove
    split
    · exact f
    · exact ⟨fun _ => ⟨f1.setReg _, f2⟩, fun hq => (by simp [hb] at hq)⟩
  rw [if_neg h4] at he ⊢
  by_cases h5 : d.kind = 5
  · rw [if_pos h5]
    unfold HeapM.doSet
    split
    · exact f
    split
    · exact f
    · exact ⟨fun _ => ⟨f1.setReg _, f2⟩, fun hq => (by simp [hb] at hq)⟩
  rw [if_neg h5] at he ⊢
  by_cases h6 : d.kind = 6
  · rw [if_pos h6]
    unfold HeapM.doSame
    split <;> exact f
  rw [if_neg h6] at he ⊢
  by_cases h7 : d.kind = 7
  · rw [if_pos h7]
    unfold HeapM.doRead
    split <;> exact f
  rw [if_neg h7] at he ⊢
  rw [if_neg h8] at he ⊢
  by_cases h9 : d.kind = 9
  · rw [if_pos h9]
    unfold HeapM.doStep
    split
    · exact f
    · exact f.stepM o0 hb0 _ o
  rw [if_neg h9]
  exact f
theorem FI.fin {h0 : HeapM} (o0 : HOk h0) (hb0 : h0.busy = false) {made : Nat} {h : HeapM} (f : FI h0 made h) (o : HOk h) : h.fin.liveC ≤ h.fin.new.length ∧ h.fin.new.length ≤ h0.liveC + made :=
  ⟨live_new (HOk.stepM 7000 o) (fin_idle o), (f.stepM o0 hb0 7000 o).idle (fin_idle o)⟩
end Go.Proofs.Ythipkmmdjhpklaa
namespace Go.Proofs.Ythipkmmdjhpklaa
set_option linter.unusedVariables false
set_option linter.unusedSimpArgs false
open Go.RowKit

def visits : List Nat → List ValM → List Nat
  | l, [] => l
  | l, v :: vs => visits (if v.kind = 5 ∧ idx v ∉ l then l ++ [idx v] else l) vs
/-- What becomes of a reference when the objects get the numbers that they have in a list. -/
def turnTo (half : Int) (l : List Nat) (v : ValM) : ValM := if v.kind = 5 then refV half (l.idxOf (idx v) : Nat) else v
theorem visits_prefix : ∀ (vs : List ValM) (l : List Nat), ∃ e, visits l vs = l ++ e
  | [], l => ⟨[], by simp [visits]⟩
  | v :: vs, l => by
    unfold visits
    obtain ⟨e, he⟩ := visits_prefix vs (if v.kind = 5 ∧ idx v ∉ l then l ++ [idx v] else l)
    rw [he]
    split
    · exact ⟨[idx v] ++ e, by simp⟩
    · exact ⟨e, rfl⟩
theorem visits_mem : ∀ (vs : List ValM) (l : List Nat) (k : Nat), k ∈ visits l vs → k ∈ l ∨ ∃ v ∈ vs, v.kind = 5 ∧ idx v = k
  | [], l, k, h => .inl h
  | v :: vs, l, k, h => by
    unfold visits at h
    rcases visits_mem vs _ k h with h1 | ⟨w, h1, h2⟩
    · split at h1
      · rename_i hv
        rcases List.mem_append.1 h1 with h1 | h1
        · exact .inl h1
        · rw [List.mem_singleton] at h1
          exact .inr ⟨v, .head _, hv.1, h1.symm⟩
      · exact .inl h1
    · exact .inr ⟨w, .tail _ h1, h2⟩
theorem mem_visits_left {vs : List ValM} {l : List Nat} {k : Nat} (h : k ∈ l) : k ∈ visits l vs := by
  obtain ⟨e, he⟩ := visits_prefix vs l
  rw [he]
  exact List.mem_append_left _ h
theorem visits_all : ∀ (vs : List ValM) (l : List Nat) (v : ValM), v ∈ vs → v.kind = 5 → idx v ∈ visits l vs
  | w :: vs, l, v, h, hk => by
    rcases List.mem_cons.1 h with rfl | h
    · unfold visits
      refine mem_visits_left ?_
      by_cases hm : idx v ∈ l
      · rw [if_neg (fun h => h.2 hm)]; exact hm
      · rw [if_pos ⟨hk, hm⟩]; simp
    · unfold visits
      exact visits_all vs _ v h hk
theorem turnTo_append {half : Int} {l e : List Nat} {v : ValM} (h : v.kind = 5 → idx v ∈ l) : turnTo half (l ++ e) v = turnTo half l v := by
  unfold turnTo
  split
  · rename_i hk
    rw [List.idxOf_append, if_pos (h hk)]
  · rfl
theorem turnTo_visits {half : Int} {l : List Nat} {vs : List ValM} {v : ValM} (h : v.kind = 5 → idx v ∈ l) : turnTo half (visits l vs) v = turnTo half l v := by
  obtain ⟨e, he⟩ := visits_prefix vs l
  rw [he]
  exact turnTo_append h
theorem idxOf_of {l : List Nat} (hn : l.Nodup) {j k : Nat} (h : l[j]? = some k) : l.idxOf k = j := by
  have hm : k ∈ l := List.mem_of_getElem? h
  have h1 : l.idxOf k < l.length := List.idxOf_lt_length_iff.2 hm
  have h2 : l[l.idxOf k]? = some k := by rw [List.getElem?_eq_getElem h1, List.getElem_idxOf h1]
  exact nodup_eq hn h2 h

/-- A heap during a collection that has copied the objects of a list, in its order. -/
structure Rep (h0 h : HeapM) (l : List Nat) : Prop where
  half : h.half = 1 - h0.half
  len : h.old.length = h0.new.length
  objs : ∀ (i : Nat) (p : ObjM × Int), h.old[i]? = some p → h0.new[i]? = some p.1
  tos : ∀ (i : Nat) (p : ObjM × Int), h.old[i]? = some p → p.2 = if i ∈ l then ((l.idxOf i : Nat) : Int) else -1
  nn : h.new.length = l.length
  lt : ∀ k ∈ l, k < h0.new.length
  nodup : l.Nodup
  raw : ∀ j k : Nat, l[j]? = some k → h.scan ≤ j → h.new[j]? = h0.new[k]?
  done : ∀ j k : Nat, l[j]? = some k → (j : Int) < h.scan → ∃ o, h0.new[k]? = some o ∧ h.new[j]? = some { o with slots := o.slots.map (turnTo h.half l) } ∧ ∀ v ∈ o.slots, v.kind = 5 → idx v ∈ l
/-- A value of the heap that there was. -/
def OldVal (h0 : HeapM) (v : ValM) : Prop := v.kind = 5 → v.n = 2 * (idx v : Int) + h0.half ∧ idx v < h0.new.length
theorem getElem?_snoc_lt {α : Type} {l : List α} {x : α} {j : Nat} {y : α} (h : (l ++ [x])[j]? = some y) : l[j]? = some y ∨ (j = l.length ∧ x = y) := by
  rw [List.getElem?_append] at h
  split at h
  · exact .inl h
  · rename_i hj
    have := lt_of_some h
    simp only [List.length_singleton] at this
    have e : j - l.length = 0 := by omega
    rw [e] at h
    simp only [List.getElem?_cons_zero, Option.some.injEq] at h
    exact .inr ⟨by omega, h⟩
theorem Rep.move {h0 h : HeapM} {l : List Nat} (r : Rep h0 h l) (hh : h0.half = 0 ∨ h0.half = 1) {v : ValM} (hv : OldVal h0 v) (hs0 : 0 ≤ h.scan) (hs1 : h.scan ≤ h.new.length) :
    (moveN h.half h.old h.new.length v).1 = turnTo h.half (visits l [v]) v ∧ Rep h0 (h.afterMove v) (visits l [v]) := by
  have hhalf := r.half
  by_cases hk : v.kind = 5
  · obtain ⟨h1, h2⟩ := hv hk
    have ho : oldV h.half v := ⟨hk, by omega⟩
    have hi : idx v < h.old.length := by rw [r.len]; exact h2
    have hg := List.getElem?_eq_getElem hi
    have ht := r.tos _ _ hg
    have hob := r.objs _ _ hg
    generalize h.old[idx v] = p at *
    obtain ⟨o, t⟩ := p
    simp only at ht hob
    have hg' : h.old[(v.n / 2).toNat]? = some (o, t) := hg
    by_cases hm : idx v ∈ l
    · rw [if_pos hm] at ht
      have e1 : moveN h.half h.old h.new.length v = (refV h.half t, h.old, []) := by
        unfold moveN
        rw [if_pos ho, hg']
        simp only
        rw [if_neg (by omega)]
      have e2 : visits l [v] = l := by unfold visits visits; rw [if_neg (fun h => h.2 hm)]
      rw [e2]
      refine ⟨?_, ?_⟩
      · rw [e1]; simp only [turnTo, if_pos hk, ht]
      · unfold HeapM.afterMove
        rw [e1]
        simp only [List.append_nil]
        exact ⟨r.half, r.len, r.objs, r.tos, r.nn, r.lt, r.nodup, r.raw, r.done⟩
    · rw [if_neg hm] at ht
      have e1 : moveN h.half h.old h.new.length v = (refV h.half h.new.length, h.old.set (idx v) (o, (h.new.length : Int)), [o]) := by
        unfold moveN
        rw [if_pos ho, hg']
        simp only
        rw [if_pos (by omega)]
        rfl
      have e2 : visits l [v] = l ++ [idx v] := by unfold visits visits; rw [if_pos ⟨hk, hm⟩]
      have e3 : (l ++ [idx v]).idxOf (idx v) = l.length := by rw [List.idxOf_append, if_neg hm]; simp
      rw [e2]
      refine ⟨?_, ?_⟩
      · rw [e1]; simp only [turnTo, if_pos hk, e3, r.nn]
      · unfold HeapM.afterMove
        rw [e1]
        refine ⟨r.half, by simpa using r.len, fun i p hp => ?_, fun i p hp => ?_, by simp [r.nn], fun k hk' => ?_, ?_, fun j k hj hs => ?_, fun j k hj hs => ?_⟩
        · simp only at hp
          rw [List.getElem?_set] at hp
          split at hp
          · rename_i e; subst e
            first | rw [if_pos hi, Option.some.injEq] at hp | rw [Option.some.injEq] at hp
            subst hp
            exact hob
          · exact r.objs i p hp
        · simp only at hp
          rw [List.getElem?_set] at hp
          split at hp
          · rename_i e; subst e
            first | rw [if_pos hi, Option.some.injEq] at hp | rw [Option.some.injEq] at hp
            subst hp
            rw [if_pos (by simp), e3, r.nn]
          · rename_i hne
            rw [r.tos i p hp]
            by_cases hil : i ∈ l
            · rw [if_pos hil, if_pos (List.mem_append_left _ hil), List.idxOf_append, if_pos hil]
            · rw [if_neg hil, if_neg]
              simp only [List.mem_append, List.mem_singleton, not_or]
              exact ⟨hil, fun e => hne e.symm⟩
        · rcases List.mem_append.1 hk' with h3 | h3
          · exact r.lt k h3
          · rw [List.mem_singleton] at h3; subst h3; exact h2
        · rw [List.nodup_append]
          exact ⟨r.nodup, by simp, fun a ha b hb' => by rw [List.mem_singleton] at hb'; subst hb'; exact fun e => hm (e ▸ ha)⟩
        · simp only at hs ⊢
          rcases getElem?_snoc_lt hj with h3 | ⟨h3, h4⟩
          · rw [List.getElem?_append_left (by rw [r.nn]; exact lt_of_some h3)]
            exact r.raw j k h3 hs
          · subst h3; subst h4
            rw [List.getElem?_append_right (by rw [r.nn]; exact Nat.le_refl _), r.nn, Nat.sub_self, hob]
            rfl
        · simp only at hs ⊢
          rcases getElem?_snoc_lt hj with h3 | ⟨h3, h4⟩
          · obtain ⟨q, q1, q2, q3⟩ := r.done j k h3 hs
            refine ⟨q, q1, ?_, fun w hw hwk => List.mem_append_left _ (q3 w hw hwk)⟩
            rw [List.getElem?_append_left (by rw [r.nn]; exact lt_of_some h3), q2]
            congr 2
            exact List.map_congr_left fun w hw => (turnTo_append (q3 w hw)).symm
          · subst h3
            have := r.nn
            omega
  · have ho : ¬ oldV h.half v := fun h => hk h.1
    have e1 : moveN h.half h.old h.new.length v = (v, h.old, []) := by unfold moveN; rw [if_neg ho]
    have e2 : visits l [v] = l := by unfold visits visits; rw [if_neg (fun h => hk h.1)]
    rw [e2]
    refine ⟨?_, ?_⟩
    · rw [e1]; simp only [turnTo, if_neg hk]
    · unfold HeapM.afterMove
      rw [e1]
      simp only [List.append_nil]
      exact ⟨r.half, r.len, r.objs, r.tos, r.nn, r.lt, r.nodup, r.raw, r.done⟩
theorem visits_one (l : List Nat) (v : ValM) (vs : List ValM) : visits l (v :: vs) = visits (visits l [v]) vs := by simp [visits]
theorem Rep.moves {h0 : HeapM} (hh : h0.half = 0 ∨ h0.half = 1) : ∀ (vs : List ValM) {h : HeapM} {l : List Nat}, Rep h0 h l → (∀ v ∈ vs, OldVal h0 v) → 0 ≤ h.scan → h.scan ≤ h.new.length →
    (movesN h.half h.old h.new.length vs).1 = vs.map (turnTo h.half (visits l vs)) ∧ Rep h0 (h.afterMoves vs) (visits l vs)
  | [], h, l, r, _, _, _ => by
    have e : h.afterMoves [] = h := by unfold HeapM.afterMoves; simp [movesN]
    rw [e]
    exact ⟨rfl, r⟩
  | v :: vs, h, l, r, hv, h1, h2 => by
    obtain ⟨a1, a2⟩ := r.move hh (hv v (.head _)) h1 h2
    have hn : h.new.length ≤ (h.afterMove v).new.length := by simp [HeapM.afterMove]
    obtain ⟨b1, b2⟩ := Rep.moves hh vs a2 (fun w hw => hv w (.tail _ hw)) h1 (by have : (h.afterMove v).scan = h.scan := rfl; omega)
    rw [visits_one, afterMoves_cons]
    refine ⟨?_, b2⟩
    have e : (h.afterMove v).new.length = h.new.length + (moveN h.half h.old h.new.length v).2.2.length := by simp [HeapM.afterMove]
    rw [e] at b1
    simp only [movesN, List.map_cons]
    have b1' : (movesN h.half (moveN h.half h.old h.new.length v).2.1 (h.new.length + (moveN h.half h.old h.new.length v).2.2.length) vs).1 = vs.map (turnTo h.half (visits (visits l [v]) vs)) := b1
    rw [b1', a1, turnTo_visits (fun hk => visits_all [v] l v (.head _) hk)]

/-! ### Breadth first -/
def HeapM.bfsN : Nat → HeapM → List Nat → List ValM → List Nat
  | 0, _, out, _ => out
  | f + 1, h, out, [] => out
  | f + 1, h, out, v :: todo => if v.kind = 5 ∧ idx v ∉ out then HeapM.bfsN f h (out ++ [idx v]) (todo ++ h.slotsAt (idx v)) else HeapM.bfsN f h out todo
def HeapM.bfs (h : HeapM) : List Nat := h.bfsN (401 * 6000 + h.regs.length) [] h.regs
theorem bfsN_nil (f : Nat) (h : HeapM) (out : List Nat) : h.bfsN f out [] = out := by cases f <;> rfl
theorem bfs_batch (h : HeapM) : ∀ (vs : List ValM) (f : Nat) (out : List Nat) (rest : List ValM), h.bfsN (f + vs.length) out (vs ++ rest) = h.bfsN f (visits out vs) (rest ++ ((visits out vs).drop out.length).flatMap h.slotsAt)
  | [], f, out, rest => by simp [visits]
  | v :: vs, f, out, rest => by
    have ef : f + (v :: vs).length = (f + vs.length) + 1 := by simp; omega
    rw [ef, List.cons_append, HeapM.bfsN]
    by_cases hc : v.kind = 5 ∧ idx v ∉ out
    · have e2 : visits out (v :: vs) = visits (out ++ [idx v]) vs := by rw [visits, if_pos hc]
      rw [if_pos hc, e2, List.append_assoc, bfs_batch h vs f (out ++ [idx v]) (rest ++ h.slotsAt (idx v))]
      obtain ⟨e, he⟩ := visits_prefix vs (out ++ [idx v])
      rw [he]
      simp [List.append_assoc]
    · have e2 : visits out (v :: vs) = visits out vs := by rw [visits, if_neg hc]
      rw [if_neg hc, e2]
      exact bfs_batch h vs f out rest
theorem flat_len {h : HeapM} (o : HOk h) : ∀ (l : List Nat), (l.flatMap h.slotsAt).length ≤ 400 * l.length
  | [] => by simp
  | k :: l => by
    have := flat_len o l
    have := slotsAt_len o k
    simp only [List.flatMap_cons, List.length_append, List.length_cons]
    omega
/-- On the way: what was copied is what the search has met. -/
structure CInv (h0 h : HeapM) (l : List Nat) : Prop where
  ok : HOk h
  busy : h.busy = true
  rep : Rep h0 h l
  regs : h.regs = h0.regs.map (turnTo h.half l)
  regm : ∀ v ∈ h0.regs, v.kind = 5 → idx v ∈ l
  cause : ∀ j k : Nat, l[j]? = some k → (∃ v ∈ h0.regs, v.kind = 5 ∧ idx v = k) ∨ ∃ i m : Nat, i < j ∧ l[i]? = some m ∧ ∃ v ∈ h0.slotsAt m, v.kind = 5 ∧ idx v = k
  bfs : ∃ f, h0.bfs = h0.bfsN f l ((l.drop h.scan.toNat).flatMap h0.slotsAt) ∧ ((l.drop h.scan.toNat).flatMap h0.slotsAt).length + 401 * (6000 - l.length) ≤ f
structure CEnd (h0 h : HeapM) (l : List Nat) : Prop where
  busy : h.busy = false
  half : h.half = 1 - h0.half
  nn : h.new.length = l.length
  lt : ∀ k ∈ l, k < h0.new.length
  nodup : l.Nodup
  done : ∀ j k : Nat, l[j]? = some k → ∃ o, h0.new[k]? = some o ∧ h.new[j]? = some { o with slots := o.slots.map (turnTo h.half l) } ∧ ∀ v ∈ o.slots, v.kind = 5 → idx v ∈ l
  regs : h.regs = h0.regs.map (turnTo h.half l)
  regm : ∀ v ∈ h0.regs, v.kind = 5 → idx v ∈ l
  cause : ∀ j k : Nat, l[j]? = some k → (∃ v ∈ h0.regs, v.kind = 5 ∧ idx v = k) ∨ ∃ i m : Nat, i < j ∧ l[i]? = some m ∧ ∃ v ∈ h0.slotsAt m, v.kind = 5 ∧ idx v = k
  bfs : l = h0.bfs
theorem oldVal_slot {h : HeapM} (o : HOk h) (hb : h.busy = false) {k : Nat} {v : ValM} (hv : v ∈ h.slotsAt k) : OldVal h v := fun hk => by
  obtain ⟨e1, e2, e3⟩ := idle_slot o hb hv hk
  exact ⟨e1, e2⟩
theorem oldVal_reg {h : HeapM} (o : HOk h) (hb : h.busy = false) {v : ValM} (hv : v ∈ h.regs) : OldVal h v := fun hk => by
  obtain ⟨e1, e2, e3⟩ := idle_reg o hb hv hk
  exact ⟨e1, e2⟩
theorem len_of_lt {l : List Nat} {n : Nat} (hn : l.Nodup) (hl : ∀ k ∈ l, k < n) : l.length ≤ n := by
  have := nodup_sub l (List.range n) hn (fun k hk => List.mem_range.2 (hl k hk))
  simpa using this
theorem CInv.start {h0 : HeapM} (o : HOk h0) (hb : h0.busy = false) : CInv h0 h0.begin (visits [] h0.regs) := by
  have r0 : Rep h0 { h0 with half := 1 - h0.half, busy := true, scan := 0, old := oldOf h0.new, new := [] } [] := by
    refine ⟨rfl, by simp [oldOf], fun i p hp => ?_, fun i p hp => ?_, rfl, fun k hk => (by cases hk), List.nodup_nil, fun j k hj => (by simp at hj), fun j k hj => (by simp at hj)⟩
    all_goals
      simp only [oldOf, List.getElem?_map, Option.map_eq_some_iff] at hp
      obtain ⟨z, hz, rfl⟩ := hp
    · exact hz
    · simp
  obtain ⟨m1, m2⟩ := Rep.moves o.core.half h0.regs r0 (fun v hv => oldVal_reg o hb hv) (Int.le_refl 0) (Int.le_refl 0)
  simp only [List.length_nil] at m1
  have m2' : Rep h0 h0.begin (visits [] h0.regs) := by
    simp only [HeapM.afterMoves, List.nil_append, List.length_nil] at m2
    exact ⟨m2.half, m2.len, m2.objs, m2.tos, m2.nn, m2.lt, m2.nodup, m2.raw, m2.done⟩
  have hln := len_of_lt m2'.nodup m2'.lt
  have hbd := o.core.bounds.1
  refine ⟨o.begin hb, rfl, m2', m1, fun v hv hk => visits_all _ _ v hv hk, fun j k hj => ?_, ?_⟩
  · rcases visits_mem _ _ _ (List.mem_of_getElem? hj) with h1 | h1
    · cases h1
    · exact .inl h1
  · have hbt := bfs_batch h0 h0.regs (401 * 6000) [] []
    simp only [List.append_nil, List.nil_append, List.length_nil, List.drop_zero] at hbt
    have hfl := flat_len o (visits [] h0.regs)
    refine ⟨401 * 6000, hbt, ?_⟩
    have e0 : h0.begin.scan.toNat = 0 := rfl
    rw [e0, List.drop_zero]
    omega
theorem CInv.scan {h0 h : HeapM} {l : List Nat} (o0 : HOk h0) (hb0 : h0.busy = false) (c : CInv h0 h l) (hi : h.scan < h.new.length) :
    ∃ l', Rep h0 h.scan1 l' ∧ h.scan1.regs = h0.regs.map (turnTo h.scan1.half l') ∧ (∀ v ∈ h0.regs, v.kind = 5 → idx v ∈ l') ∧
      (∀ j k : Nat, l'[j]? = some k → (∃ v ∈ h0.regs, v.kind = 5 ∧ idx v = k) ∨ ∃ i m : Nat, i < j ∧ l'[i]? = some m ∧ ∃ v ∈ h0.slotsAt m, v.kind = 5 ∧ idx v = k) ∧
      ∃ f, h0.bfs = h0.bfsN f l' ((l'.drop h.scan1.scan.toNat).flatMap h0.slotsAt) ∧ ((l'.drop h.scan1.scan.toNat).flatMap h0.slotsAt).length + 401 * (6000 - l'.length) ≤ f := by
  have r := c.rep
  have hs0 := c.ok.core.s0
  have hs1 := c.ok.core.s1
  have hi' : h.scan.toNat < h.new.length := by omega
  have hil : h.scan.toNat < l.length := by rw [← r.nn]; exact hi'
  have hlk := List.getElem?_eq_getElem hil
  generalize hkk : l[h.scan.toNat] = k at hlk
  have hraw := r.raw _ _ hlk (by omega)
  rw [List.getElem?_eq_getElem hi'] at hraw
  have hsl : h0.slotsAt k = h.new[h.scan.toNat].slots := slotsAt_of hraw.symm
  obtain ⟨m1, m2⟩ := Rep.moves o0.core.half h.new[h.scan.toNat].slots r (fun v hv => oldVal_slot o0 hb0 (k := k) (by rw [hsl]; exact hv)) hs0 hs1
  have hsc : h.scan1.scan = h.scan + 1 := by rw [scan1_eq hi']
  have hhf : h.scan1.half = h.half := by rw [scan1_eq hi']
  have hrg : h.scan1.regs = h.regs := by rw [scan1_eq hi']
  have hnew : h.scan1.new = (h.afterMoves h.new[h.scan.toNat].slots).new.set h.scan.toNat { h.new[h.scan.toNat] with slots := (movesN h.half h.old h.new.length h.new[h.scan.toNat].slots).1 } := by
    rw [scan1_eq hi']
    simp only [HeapM.afterMoves]
    rw [set_append_of_lt _ _ _ _ hi']
  have hold : h.scan1.old = (h.afterMoves h.new[h.scan.toNat].slots).old := by rw [scan1_eq hi']; rfl
  have hall := visits_all h.new[h.scan.toNat].slots l
  have hvm := visits_mem h.new[h.scan.toNat].slots l
  obtain ⟨e, he⟩ := visits_prefix h.new[h.scan.toNat].slots l
  generalize hl' : visits l h.new[h.scan.toNat].slots = l' at *
  have hpre : ∀ {j k : Nat}, l[j]? = some k → l'[j]? = some k := fun {j k} h => by rw [he, List.getElem?_append_left (lt_of_some h)]; exact h
  have hsn : h.scan1.scan.toNat = h.scan.toNat + 1 := by omega
  have haft : (h.afterMoves h.new[h.scan.toNat].slots).half = h.half := rfl
  have hafs : (h.afterMoves h.new[h.scan.toNat].slots).scan = h.scan := rfl
  refine ⟨l', ⟨by rw [hhf]; exact r.half, by rw [hold]; exact m2.len, by rw [hold]; exact m2.objs, by rw [hold]; exact m2.tos, by rw [hnew, List.length_set]; exact m2.nn, m2.lt, m2.nodup, fun j q hj hs => ?_, fun j q hj hs => ?_⟩, ?_, fun v hv hk => ?_, fun j q hj => ?_, ?_⟩
  · rw [hnew, List.getElem?_set_ne (by omega)]
    exact m2.raw j q hj (by omega)
  · rw [hnew, hhf]
    by_cases hj2 : j = h.scan.toNat
    · subst hj2
      have e1 := hpre hlk
      rw [e1] at hj
      cases hj
      refine ⟨h.new[h.scan.toNat], hraw.symm, ?_, fun v hv hk => hall v hv hk⟩
      rw [List.getElem?_set_self (by rw [m2.nn]; exact lt_of_some e1), m1]
    · rw [List.getElem?_set_ne (fun e => hj2 e.symm)]
      exact m2.done j q hj (by omega)
  · rw [hrg, hhf, c.regs]
    exact List.map_congr_left fun v hv => by rw [he]; exact (turnTo_append (c.regm v hv)).symm
  · rw [he]; exact List.mem_append_left _ (c.regm v hv hk)
  · by_cases hjl : j < l.length
    · have e1 : l[j]? = some q := by rw [he, List.getElem?_append_left hjl] at hj; exact hj
      rcases c.cause j q e1 with h1 | ⟨i, m, h1, h2, h3⟩
      · exact .inl h1
      · exact .inr ⟨i, m, h1, hpre h2, h3⟩
    · have hq : q ∉ l := fun hq => by
        obtain ⟨i, hi2, e1⟩ := List.mem_iff_getElem.1 hq
        have e2 : l[i]? = some q := by rw [List.getElem?_eq_getElem hi2, e1]
        have := nodup_eq m2.nodup (hpre e2) hj
        omega
      rcases hvm q (List.mem_of_getElem? hj) with h1 | ⟨v, h1, h2, h3⟩
      · exact absurd h1 hq
      · exact .inr ⟨h.scan.toNat, k, by omega, hpre hlk, v, by rw [hsl]; exact h1, h2, h3⟩
  · obtain ⟨f, hf1, hf2⟩ := c.bfs
    have hd : l.drop h.scan.toNat = k :: l.drop (h.scan.toNat + 1) := by rw [← hkk]; exact List.drop_eq_getElem_cons hil
    rw [hd, List.flatMap_cons, hsl] at hf1 hf2
    have hd2 : l'.drop (h.scan.toNat + 1) = l.drop (h.scan.toNat + 1) ++ e := by rw [he, List.drop_append_of_le_length (by omega)]
    have hle : l'.drop l.length = e := by rw [he]; simp
    obtain ⟨g, hg⟩ : ∃ g, f = g + h.new[h.scan.toNat].slots.length := ⟨f - h.new[h.scan.toNat].slots.length, by simp only [List.length_append] at hf2; omega⟩
    have hbt := bfs_batch h0 h.new[h.scan.toNat].slots g l ((l.drop (h.scan.toNat + 1)).flatMap h0.slotsAt)
    rw [hl', hle, ← List.flatMap_append, ← hd2, ← hg] at hbt
    have hln := len_of_lt m2.nodup m2.lt
    have hbd := o0.core.bounds.1
    have hll : l'.length = l.length + e.length := by rw [he, List.length_append]
    have hfe := flat_len o0 e
    refine ⟨g, by rw [hsn, ← hbt]; exact hf1, ?_⟩
    rw [hsn, hd2, List.flatMap_append, List.length_append]
    simp only [List.length_append] at hf2
    omega
theorem CInv.run {h0 : HeapM} (o0 : HOk h0) (hb0 : h0.busy = false) : ∀ (n : Nat) {h : HeapM} {l : List Nat}, CInv h0 h l → h.left ≤ n → ∃ l', CEnd h0 (h.stepM n).2 l' ∧ h.scan.toNat + (h.stepM n).1 = l'.length
  | 0, h, l, c, hl => by unfold HeapM.left at hl; rw [if_pos c.busy] at hl; omega
  | n + 1, h, l, c, hl => by
    have hs0 := c.ok.core.s0
    have hs1 := c.ok.core.s1
    unfold HeapM.stepM
    rw [if_neg (by simp [c.busy])]
    by_cases hi : h.scan < h.new.length
    · rw [if_pos hi]
      obtain ⟨l', r, h1, h2, h3, f, h4, h5⟩ := c.scan o0 hb0 hi
      obtain ⟨c1, c2, c3⟩ := scan1_cnt c.ok c.busy hi
      have hlt := (c.ok.core.scanOk.scan1 c.busy hi).2.2
      have hle := endIf_left h.scan1
      have hok := c.ok.scanned c.busy hi
      rcases endIf_cases h.scan1 with ⟨e1, e2, e3⟩ | ⟨e1, e2⟩
      · rw [stepM_notBusy n e2]
        have e4 : h.scan1.endIf.half = h.scan1.half ∧ h.scan1.endIf.regs = h.scan1.regs := by unfold HeapM.endIf; split <;> exact ⟨rfl, rfl⟩
        have e5 : h.scan1.scan.toNat = l'.length := by rw [e1, r.nn]; rfl
        refine ⟨l', ⟨e2, by rw [e4.1]; exact r.half, by rw [e3]; exact r.nn, r.lt, r.nodup, fun j k hj => ?_, by rw [e4.1, e4.2]; exact h1, h2, h3, ?_⟩, by simp only; omega⟩
        · rw [e3, e4.1]
          exact r.done j k hj (by have := lt_of_some hj; omega)
        · rw [h4, e5, List.drop_length, List.flatMap_nil, bfsN_nil]
      · have c' : CInv h0 h.scan1.endIf l' := by
          refine ⟨hok, by rw [e2]; exact c3, by rw [e2]; exact r, by rw [e2]; exact h1, h2, h3, f, by rw [e2]; exact h4, by rw [e2]; exact h5⟩
        obtain ⟨l2, d1, d2⟩ := CInv.run o0 hb0 n c' (by omega)
        refine ⟨l2, d1, ?_⟩
        rw [e2] at d2 ⊢
        simp only
        omega
    · rw [if_neg hi]
      have r := c.rep
      rcases endIf_cases h with ⟨e1, e2, e3⟩ | ⟨e1, e2⟩
      · have e4 : h.endIf.half = h.half ∧ h.endIf.regs = h.regs := by unfold HeapM.endIf; split <;> exact ⟨rfl, rfl⟩
        have e5 : h.scan.toNat = l.length := by rw [e1, r.nn]; rfl
        obtain ⟨f, h4, h5⟩ := c.bfs
        refine ⟨l, ⟨e2, by rw [e4.1]; exact r.half, by rw [e3]; exact r.nn, r.lt, r.nodup, fun j k hj => ?_, by rw [e4.1, e4.2]; exact c.regs, c.regm, c.cause, ?_⟩, by simp only; omega⟩
        · rw [e3, e4.1]
          exact r.done j k hj (by have := lt_of_some hj; omega)
        · rw [h4, e5, List.drop_length, List.flatMap_nil, bfsN_nil]
      · omega
theorem CEnd.met {h0 h : HeapM} {l : List Nat} (c : CEnd h0 h l) : ∀ (j k : Nat), l[j]? = some k → Met h0 k := by
  intro j
  induction j using Nat.strongRecOn with
  | _ j ih =>
    intro k hj
    rcases c.cause j k hj with ⟨v, h1, h2, rfl⟩ | ⟨i, m, h1, h2, v, h3, h4, rfl⟩
    · exact .reg h1 h2
    · exact .slot (ih i h1 m h2) h3 h4
theorem CEnd.all {h0 h : HeapM} {l : List Nat} (c : CEnd h0 h l) {k : Nat} (hm : Met h0 k) : k ∈ l := by
  induction hm with
  | reg h1 h2 => exact c.regm _ h1 h2
  | slot h0 h1 h2 ih =>
    obtain ⟨j, hj, e⟩ := List.mem_iff_getElem.1 ih
    obtain ⟨o, q1, q2, q3⟩ := c.done j _ (by rw [List.getElem?_eq_getElem hj, e])
    rw [slotsAt_of q1] at h1
    exact q3 _ h1 h2
theorem idx_refV {half : Int} (hh : half = 0 ∨ half = 1) (k : Nat) : idx (refV half (k : Int)) = k := by
  unfold idx refV
  simp only
  omega
theorem CEnd.metd {h0 h : HeapM} {l : List Nat} (hh : h.half = 0 ∨ h.half = 1) (c : CEnd h0 h l) : ∀ (j : Nat), j < l.length → Met h j := by
  intro j
  induction j using Nat.strongRecOn with
  | _ j ih =>
    intro hj
    have hg := List.getElem?_eq_getElem hj
    rcases c.cause j _ hg with ⟨v, h1, h2, h3⟩ | ⟨i, m, h1, h2, v, h3, h4, h5⟩
    · have hr : turnTo h.half l v ∈ h.regs := by rw [c.regs]; exact List.mem_map_of_mem h1
      have e : turnTo h.half l v = refV h.half (j : Int) := by
        unfold turnTo
        rw [if_pos h2, h3, idxOf_of c.nodup hg]
      rw [e] at hr
      have := Met.reg hr rfl
      rwa [idx_refV hh] at this
    · have hil := lt_of_some h2
      obtain ⟨o, q1, q2, q3⟩ := c.done i m h2
      rw [slotsAt_of q1] at h3
      have hr : turnTo h.half l v ∈ h.slotsAt i := by rw [slotsAt_of q2]; exact List.mem_map_of_mem h3
      have e : turnTo h.half l v = refV h.half (j : Int) := by
        unfold turnTo
        rw [if_pos h4, h5, idxOf_of c.nodup hg]
      rw [e] at hr
      have := Met.slot (ih i h1 hil) hr rfl
      rwa [idx_refV hh] at this
/-- The law. -/
structure Exact (h0 d : HeapM) (many : Nat) (l : List Nat) : Prop where
  e : CEnd h0 d l
  many : many = l.length
  live : h0.liveC = l.length
  lived : d.liveC = l.length
theorem exact_law {h0 : HeapM} (o : HOk h0) (hb : h0.busy = false) : Exact h0 h0.begin.fin h0.begin.finN h0.bfs := by
  have c := CInv.start o hb
  have hl := left_bound (o.begin hb)
  obtain ⟨l, e, hm⟩ := CInv.run o hb 7000 c (by omega)
  have hbf := e.bfs
  have hid : h0.begin.fin.busy = false := fin_idle (o.begin hb)
  have hok : HOk h0.begin.fin := HOk.stepM 7000 (o.begin hb)
  rw [← hbf]
  have e' : CEnd h0 h0.begin.fin l := e
  refine ⟨e', ?_, Nat.le_antisymm (live_le o hb fun k hk => e'.all hk) (live_ge o hb e'.nodup fun k hk => ?_), Nat.le_antisymm ?_ ?_⟩
  · have : h0.begin.scan.toNat = 0 := rfl
    unfold HeapM.finN
    omega
  · obtain ⟨j, hj, q⟩ := List.mem_iff_getElem.1 hk
    exact e'.met j k (by rw [List.getElem?_eq_getElem hj, q])
  · rw [← e'.nn]; exact live_new hok hid
  · have := live_ge hok hid (l := List.range l.length) List.nodup_range (fun k hk => e'.metd hok.core.half k (List.mem_range.1 hk))
    simpa using this
end Go.Proofs.Ythipkmmdjhpklaa
namespace Go.Proofs.Ythipkmmdjhpklaa
set_option linter.unusedVariables false
set_option linter.unusedSimpArgs false
open Go.RowKit

set_option maxRecDepth 10000 in
set_option maxHeartbeats 4000000 in
theorem isIn_true (h : HeapM) (x : ValM) (hx : x.fit) (old : Bool) (hv : ValIn h.half h.new.length h.old.length old x) (hh : h.half = 0 ∨ h.half = 1) (ob nb rb : Option Addr) (oc nc rn rc : Nat) (hnl : h.new.length ≤ 6000) (hol : h.old.length ≤ 6000) {w0 w : World} {H : Hp} {L : List (Nat × Obj)} (m : Mem w0 H L w) :
    Calls Try.prog 79 #[.agg #[.int .i64 h.size, .int .i64 h.half, .int .i64 h.scan, .bool h.busy, .slice ob h.old.length oc, .slice nb h.new.length nc, .slice rb rn rc], .agg #[.int .u8 x.kind, .int .i64 x.n, .string x.s], .bool old] w (Ret w0 H L (.bool true)) := by
  obtain ⟨xk, xn, xs⟩ := x
  have HX := Lib.hid hx; clear hx
  have hp := hv.1
  have HP := Lib.hid hp; clear hp
  have m1 := (m.alloc (.cells #[.int .i64 h.size, .int .i64 h.half, .int .i64 h.scan, .bool h.busy, .slice ob h.old.length oc, .slice nb h.new.length nc, .slice rb rn rc] 31)).alloc (.cells #[.int .u8 xk, .int .i64 xn, .string xs] 50)
  simp only [World.size_alloc] at m1
  have es := m1.eqs
  simp only [EqsL] at es
  by_cases hk : xk = 5
  · subst hk
    have hn0 : 0 ≤ xn := (plain_cases HP.out).2.2.2 rfl
    have hv2 := hv.2 rfl
    clear hv
    simp only at *
    have hdiv : xn.tdiv 2 = xn / 2 := Int.tdiv_eq_ediv_of_nonneg hn0
    have hmod : xn.tmod 2 = xn % 2 := Int.tmod_eq_emod_of_nonneg hn0
    go_enter Try.func79, Try.ntmps79
    go_wp2_with fail
    refine (IsPlain_any ⟨5, xn, xs⟩ HX.out m1).mono ?_
    rintro e w1 ⟨rfl, m2⟩
    rw [HP.out]
    clear es
    have es := m2.eqs
    simp only [EqsL] at es
    go_wp2_with fail
    refine (At_any ⟨5, xn, xs⟩ m2 HX.out.n).mono ?_
    rintro e w2 ⟨rfl, m3⟩
    rw [hdiv, hmod]
    clear es m2
    have es := m3.eqs
    simp only [EqsL] at es
    by_cases hhf : xn % 2 = h.half
    · have hlt : xn / 2 < (h.new.length : Int) := by
        rcases hv2 with h1 | h1
        · omega
        · exact absurd hhf h1.1
      go_wp2_with fail
      go_ret
      exact ⟨ret_bool (by simp [hlt]), m3.drop.drop⟩
    · have hold : old = true ∧ xn / 2 < (h.old.length : Int) := by
        rcases hv2 with h1 | h1
        · exact absurd h1.1 hhf
        · exact ⟨h1.2.1, by omega⟩
      obtain ⟨rfl, hlt⟩ := hold
      go_wp2_with fail
      go_ret
      exact ⟨ret_bool (by simp [hlt]), m3.drop.drop⟩
  · clear hv
    simp only at *
    have hkI : ((xk : Int) == 5) = false := beq_eq_false_iff_ne.2 (by omega)
    go_enter Try.func79, Try.ntmps79
    go_wp2_with fail
    refine (IsPlain_any ⟨xk, xn, xs⟩ HX.out m1).mono ?_
    rintro e w1 ⟨rfl, m2⟩
    rw [HP.out]
    clear es
    have es := m2.eqs
    simp only [EqsL] at es
    go_wp2_with fail
    refine (IsPlain_any ⟨xk, xn, xs⟩ HX.out m2).mono ?_
    rintro e w2 ⟨rfl, m3⟩
    rw [HP.out]
    go_wp2_with fail
    go_ret
    exact ⟨rfl, m3.drop.drop⟩
end Go.Proofs.Ythipkmmdjhpklaa
