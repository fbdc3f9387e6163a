/- A law for a region that draws its order: loads come first where every operation but one keeps what they read, and that one waits for them. No program in sight. -/
import Derived.Deep.RegionHeld3
namespace Go.Proofs.Ytpkcdkbbhiafnaa
set_option linter.unusedVariables false
set_option linter.unusedSimpArgs false
open Go

section
variable {P : Program} {ops : Array Oper} {Q : Exit → Act → World → Prop} {S : World → Prop} {n : Nat}

/-- Every order from here on, S behind each operation but number n. -/
def AnyBut (P : Program) (ops : Array Oper) (Q : Exit → Act → World → Prop) (S : World → Prop) (n : Nat) : Nat → Array Bool → Act → World → Prop
  | 0, ls, a, w => Region.ready .any ops ls = [] ∧ Q .normal a w
  | k + 1, ls, a, w => (Region.ready .any ops ls = [] → Q .normal a w) ∧
      ∀ i, i ∈ Region.ready .any ops ls → wpOp P ops Q i (fun a' w' => (i = n ∨ S w') ∧ AnyBut P ops Q S n k (ls.setIfInBounds i true) a' w') a w

theorem AnyBut.any : ∀ (k : Nat) {ls : Array Bool} {a : Act} {w : World}, AnyBut P ops Q S n k ls a w → wpAny P .any ops Q k ls a w
  | 0, _, _, _, h => h
  | k + 1, _, _, _, h => ⟨h.1, fun i hi => wpOp_mono (fun _ _ hx => hx.2.any k) (h.2 i hi)⟩

/-- Does number n wait for number i? -/
def waits (ops : Array Oper) (n i : Nat) : Bool := match ops[n]? with | some o => o.after.any fun e => Region.binds .any e && e.on == i | none => false

theorem unlisted_of_ready {i : Nat} {ls : Array Bool} (h : i ∈ Region.ready .any ops ls) : ls.getD i false = false := by
  have h0 := (mem_ready.1 h).1
  rcases Nat.lt_or_ge i ls.size with hl | hl
  · simp [hl] at h0 ⊢; exact h0
  · simp [Array.getElem?_eq_none hl]
theorem ready_waits {i j : Nat} {oj : Oper} {ls : Array Bool} (hi : i ∈ Region.ready .any ops ls) (hj : j ∈ Region.ready .any ops ls) (hoj : ops[j]? = some oj) :
    ∀ e ∈ oj.after, Region.binds .any e = true → e.on ≠ i := by
  intro e he hb heq
  obtain ⟨_, o, ho, hall⟩ := mem_ready.1 hj
  rw [hoj] at ho
  cases ho
  have h1 := hall e he hb
  rw [heq, unlisted_of_ready hi] at h1
  cases h1

theorem AnyBut.first {i : Nat} {oi : Oper} {v : Value} (hi : ops[i]? = some oi) (hsel : ∀ (j : Nat) (o : Oper) cs b, ops[j]? = some o → o.op ≠ .select cs b)
    (hn : waits ops n i = true) (hQ : ∀ c a w, Q (.panic c) (a.put oi.dst v) w → Q (.panic c) a w) :
    ∀ (k : Nat) (ls : Array Bool) (a : Act) (w : World),
      (∀ j oj, ops[j]? = some oj → j ≠ i → ls.getD j true = false → (∀ e ∈ oj.after, Region.binds .any e = true → e.on ≠ i) → oi.apart ops oj = true) →
      i ∈ Region.ready .any ops ls → YieldsIf P ops S oi v a → S w →
      AnyBut P ops Q S n k (ls.setIfInBounds i true) (a.put oi.dst v) w → AnyBut P ops Q S n (k + 1) ls a w := by
  have hni : ∀ {j : Nat} {ls : Array Bool}, i ∈ Region.ready .any ops ls → j ∈ Region.ready .any ops ls → j ≠ n := by
    intro j ls h1 h2 he
    subst he
    unfold waits at hn
    obtain ⟨_, o, ho, _⟩ := mem_ready.1 h2
    rw [ho] at hn
    simp only at hn
    obtain ⟨e, he, hb⟩ := Array.any_eq_true'.1 hn
    simp only [Bool.and_eq_true, beq_iff_eq] at hb
    exact ready_waits h1 h2 ho e he hb.1 hb.2
  intro k
  induction k with
  | zero =>
    intro ls a w _ hr hy hS h
    refine ⟨fun h0 => (by rw [h0] at hr; cases hr), fun j hj => ?_⟩
    by_cases e : j = i
    · subst e; exact hy.wpOp hi hS ⟨.inr hS, h⟩
    · have hx := ready_mono hj e
      rw [h.1] at hx
      cases hx
  | succ k ih =>
    intro ls a w hfree hr hy hS h
    refine ⟨fun h0 => (by rw [h0] at hr; cases hr), fun j hj => ?_⟩
    by_cases e : j = i
    · subst e; exact hy.wpOp hi hS ⟨.inr hS, h⟩
    · obtain ⟨hju, oj, hoj, _⟩ := mem_ready.1 hj
      have hstep := wpOp_putIf hoj (hfree j oj hoj e hju (ready_waits hr hj hoj)) (fun cs b => hsel i oi cs b hi) (fun cs b => hsel j oj cs b hoj) hQ hy (h.2 j (ready_mono hj e))
      refine wpOp_mono (fun a' w' hx => ?_) hstep
      have hS' : S w' := hx.2.1.resolve_left (hni hr hj)
      refine ⟨.inr hS', ih _ a' w' (fun x ox hx' hxi hun hno => hfree x ox hx' hxi ?_ hno) (ready_mono hr (Ne.symm e)) hx.1 hS' ?_⟩
      · by_cases ej : j = x
        · subst ej; exact hju
        · rwa [getD_set_ne true ej] at hun
      · rw [Array.setIfInBounds_comm _ _ e]
        exact hx.2.2

/-! The walk's moves. -/
theorem AnyBut.take {i : Nat} {oi : Oper} {v : Value} {k : Nat} {ls : Array Bool} {a : Act} {w : World} (hi : ops[i]? = some oi) (hs : Region.noSelect ops = true)
    (hf : Region.free .any ops ls i = true) (hr : (Region.ready .any ops ls).contains i = true) (hn : waits ops n i = true)
    (hQ : ∀ c a w, Q (.panic c) (a.put oi.dst v) w → Q (.panic c) a w) (hy : Region.wanted oi (yielded ops a.tmps) = true ∧ ∀ w, S w → (execOp a.eval oi).run P w = .ok (.value v) w) (hS : S w)
    (h : AnyBut P ops Q S n k (ls.setIfInBounds i true) (a.put oi.dst v) w) : AnyBut P ops Q S n (k + 1) ls a w :=
  AnyBut.first hi (Region.noSelect_spec hs) hn hQ k ls a w (Region.free_spec hi hf) (by simpa using hr) (.inl hy) hS h
theorem AnyBut.done {ls : Array Bool} {a : Act} {w : World} (hr : Region.ready .any ops ls = []) (h : Q .normal a w) : ∀ k, AnyBut P ops Q S n k ls a w
  | 0 => ⟨hr, h⟩
  | _ + 1 => ⟨fun _ => h, by rw [hr]; intro i hi; cases hi⟩
theorem AnyBut.one {i k : Nat} {ls : Array Bool} {a : Act} {w : World} (hr : Region.ready .any ops ls = [i])
    (h : wpOp P ops Q i (fun a' w' => (i = n ∨ S w') ∧ AnyBut P ops Q S n k (ls.setIfInBounds i true) a' w') a w) : AnyBut P ops Q S n (k + 1) ls a w :=
  ⟨fun h0 => (by rw [hr] at h0; cases h0), fun j hj => by
    rw [hr] at hj
    obtain rfl := List.mem_singleton.1 hj
    exact h⟩
theorem AnyBut.two {i j k : Nat} {ls : Array Bool} {a : Act} {w : World} (hr : Region.ready .any ops ls = [i, j])
    (h : wpOp P ops Q i (fun a' w' => (i = n ∨ S w') ∧ AnyBut P ops Q S n k (ls.setIfInBounds i true) a' w') a w)
    (h' : wpOp P ops Q j (fun a' w' => (j = n ∨ S w') ∧ AnyBut P ops Q S n k (ls.setIfInBounds j true) a' w') a w) : AnyBut P ops Q S n (k + 1) ls a w :=
  ⟨fun h0 => (by rw [hr] at h0; cases h0), fun x hx => by
    rw [hr] at hx
    rcases List.mem_cons.1 hx with rfl | hx
    · exact h
    · obtain rfl := List.mem_singleton.1 hx
      exact h'⟩
/-- One operation carried out. -/
theorem AnyBut.op {i k : Nat} {o : Oper} {ls : Array Bool} {a : Act} {w : World} (ho : ops[i]? = some o) (hw : Region.wanted o (yielded ops a.tmps) = true)
    (h : ∀ K : Act → World → Prop, (∀ a w, (i = n ∨ S w) → AnyBut P ops Q S n k (ls.setIfInBounds i true) a w → K a w) → Oper.wp P o a w K Q) :
    wpOp P ops Q i (fun a' w' => (i = n ∨ S w') ∧ AnyBut P ops Q S n k (ls.setIfInBounds i true) a' w') a w :=
  wpOp_step ho fun K hK => by rw [if_pos hw]; exact h K (fun a w h1 h2 => hK a w ⟨h1, h2⟩)
theorem AnyBut.opIf {i k : Nat} {o : Oper} {ls : Array Bool} {a : Act} {w : World} (ho : ops[i]? = some o)
    (h : ∀ K : Act → World → Prop, (∀ a w, (i = n ∨ S w) → AnyBut P ops Q S n k (ls.setIfInBounds i true) a w → K a w) → if Region.wanted o (yielded ops a.tmps) = true then Oper.wp P o a w K Q else K (a.put o.dst undef) w) :
    wpOp P ops Q i (fun a' w' => (i = n ∨ S w') ∧ AnyBut P ops Q S n k (ls.setIfInBounds i true) a' w') a w :=
  wpOp_step ho fun K hK => h K (fun a w h1 h2 => hK a w ⟨h1, h2⟩)
theorem AnyBut.start {id : Nat} {a : Act} {w : World} (S : World → Prop) (n : Nat) (hm : P.follows .mixedOrders = true) (h : AnyBut P ops Q S n ops.size (Array.replicate ops.size false) a w.drew) :
    (Code.region id ops true).wp P Q a w := wp_region_any hm (h.any _)
end
end Go.Proofs.Ytpkcdkbbhiafnaa
