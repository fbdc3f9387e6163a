/- A law for a region that draws its order: loads come first where every operation ahead of number n keeps what they read, and those from n on wait for them; what looks at no memory comes first anywhere. No program in sight. -/
import Derived.Deep.RegionHeld3
namespace Go.Proofs.YtpkcdkbbhiafnaaDoor
set_option linter.unusedVariables false
set_option linter.unusedSimpArgs false
open Go

section
variable {P : Program} {ops : Array Oper} {Q : Exit → Act → World → Prop} {S : World → Prop} {n : Nat}

/-- One from n on has come up. -/
def Spent (n : Nat) (ls : Array Bool) : Prop := ∃ e, n ≤ e ∧ ls.getD e false = true
theorem Spent.set {i : Nat} {ls : Array Bool} (h : Spent n ls) : Spent n (ls.setIfInBounds i true) := by
  obtain ⟨e, h1, h2⟩ := h
  exact ⟨e, h1, getD_set_true h2⟩
theorem getD_set_other {ls : Array Bool} {i e : Nat} (h : i ≠ e) : (ls.setIfInBounds i true).getD e false = ls.getD e false := by
  simp [Array.getElem?_setIfInBounds_ne h]

/-- Every order from here on, S behind each operation till one from n on has come up. -/
def AnyFrom (P : Program) (ops : Array Oper) (Q : Exit → Act → World → Prop) (S : World → Prop) (n : Nat) : Nat → Array Bool → Act → World → Prop
  | 0, ls, a, w => Region.ready .any ops ls = [] ∧ Q .normal a w
  | k + 1, ls, a, w => (Region.ready .any ops ls = [] → Q .normal a w) ∧
      ∀ i, i ∈ Region.ready .any ops ls → wpOp P ops Q i (fun a' w' => (Spent n (ls.setIfInBounds i true) ∨ S w') ∧ AnyFrom P ops Q S n k (ls.setIfInBounds i true) a' w') a w

theorem AnyFrom.any : ∀ (k : Nat) {ls : Array Bool} {a : Act} {w : World}, AnyFrom P ops Q S n k ls a w → wpAny P .any ops Q k ls a w
  | 0, _, _, _, h => h
  | k + 1, _, _, _, h => ⟨h.1, fun i hi => wpOp_mono (fun _ _ hx => hx.2.any k) (h.2 i hi)⟩

/-- Do number n and all behind it wait for number i? -/
def waitsAll (ops : Array Oper) (n i : Nat) : Bool := (List.range ops.size).all fun j => decide (j < n) || match ops[j]? with | some o => o.after.any fun e => Region.binds .any e && e.on == i | none => false
def fresh (ops : Array Oper) (n : Nat) (ls : Array Bool) : Bool := (List.range ls.size).all fun e => decide (e < n) || !ls.getD e false
theorem fresh_spec {ls : Array Bool} (h : fresh ops n ls = true) : ¬ Spent n ls := by
  rintro ⟨e, h1, h2⟩
  have hlt : e < ls.size := by
    rcases Nat.lt_or_ge e ls.size with h3 | h3
    · exact h3
    · simp [Array.getElem?_eq_none h3] at h2
  have h3 := List.all_eq_true.1 h e (List.mem_range.2 hlt)
  rw [h2] at h3
  simp at h3
  omega

theorem unlisted_of_ready2 {i : Nat} {ls : Array Bool} (h : i ∈ Region.ready .any ops ls) : ls.getD i false = false := by
  have h0 := (mem_ready.1 h).1
  rcases Nat.lt_or_ge i ls.size with hl | hl
  · simp [hl] at h0 ⊢; exact h0
  · simp [Array.getElem?_eq_none hl]
theorem ready_waits2 {i j : Nat} {oj : Oper} {ls : Array Bool} (hi : i ∈ Region.ready .any ops ls) (hj : j ∈ Region.ready .any ops ls) (hoj : ops[j]? = some oj) :
    ∀ e ∈ oj.after, Region.binds .any e = true → e.on ≠ i := by
  intro e he hb heq
  obtain ⟨_, o, ho, hall⟩ := mem_ready.1 hj
  rw [hoj] at ho
  cases ho
  have h1 := hall e he hb
  rw [heq, unlisted_of_ready2 hi] at h1
  cases h1

/-- The common step: T says when the operation may be carried out, and what of the others keeps T. -/
theorem AnyFrom.swap {i : Nat} {oi : Oper} {v : Value} {T : Array Bool → World → Prop} {U : World → Prop} (hi : ops[i]? = some oi) (hsel : ∀ (j : Nat) (o : Oper) cs b, ops[j]? = some o → o.op ≠ .select cs b)
    (hQ : ∀ c a w, Q (.panic c) (a.put oi.dst v) w → Q (.panic c) a w)
    (hTS : ∀ ls w, T ls w → Spent n (ls.setIfInBounds i true) ∨ S w) (hTU : ∀ ls w, T ls w → U w)
    (hT : ∀ ls w j w', T ls w → i ∈ Region.ready .any ops ls → j ∈ Region.ready .any ops ls → j ≠ i → (Spent n ((ls.setIfInBounds i true).setIfInBounds j true) ∨ S w') → (Spent n (ls.setIfInBounds j true) ∨ S w') ∧ T (ls.setIfInBounds j true) w') :
    ∀ (k : Nat) (ls : Array Bool) (a : Act) (w : World),
      (∀ j oj, ops[j]? = some oj → j ≠ i → ls.getD j true = false → (∀ e ∈ oj.after, Region.binds .any e = true → e.on ≠ i) → oi.apart ops oj = true) →
      i ∈ Region.ready .any ops ls → YieldsIf P ops U oi v a → T ls w →
      AnyFrom P ops Q S n k (ls.setIfInBounds i true) (a.put oi.dst v) w → AnyFrom P ops Q S n (k + 1) ls a w := by
  intro k
  induction k with
  | zero =>
    intro ls a w _ hr hy hC h
    refine ⟨fun h0 => (by rw [h0] at hr; cases hr), fun j hj => ?_⟩
    by_cases e : j = i
    · subst e; exact hy.wpOp hi (hTU _ _ hC) ⟨hTS _ _ hC, h⟩
    · have hx := ready_mono hj e
      rw [h.1] at hx
      cases hx
  | succ k ih =>
    intro ls a w hfree hr hy hC h
    refine ⟨fun h0 => (by rw [h0] at hr; cases hr), fun j hj => ?_⟩
    by_cases e : j = i
    · subst e; exact hy.wpOp hi (hTU _ _ hC) ⟨hTS _ _ hC, h⟩
    · obtain ⟨hju, oj, hoj, _⟩ := mem_ready.1 hj
      have hstep := wpOp_putIf hoj (hfree j oj hoj e hju (ready_waits2 hr hj hoj)) (fun cs b => hsel i oi cs b hi) (fun cs b => hsel j oj cs b hoj) hQ hy (h.2 j (ready_mono hj e))
      refine wpOp_mono (fun a' w' hx => ?_) hstep
      obtain ⟨hS', hT'⟩ := hT ls w j w' hC hr hj e hx.2.1
      refine ⟨hS', ih _ a' w' (fun x ox hx' hxi hun hno => hfree x ox hx' hxi ?_ hno) (ready_mono hr (Ne.symm e)) hx.1 hT' ?_⟩
      · by_cases ej : j = x
        · subst ej; exact hju
        · rwa [getD_set_ne true ej] at hun
      · rw [Array.setIfInBounds_comm _ _ e]
        exact hx.2.2

/-! The walk's moves. -/
/-- What yields in every world that meets S, and is waited for by number n and all behind it. -/
theorem AnyFrom.take {i : Nat} {oi : Oper} {v : Value} {k : Nat} {ls : Array Bool} {a : Act} {w : World} (hi : ops[i]? = some oi) (hs : Region.noSelect ops = true)
    (hf : Region.free .any ops ls i = true) (hr : (Region.ready .any ops ls).contains i = true) (hn : (waitsAll ops n i && fresh ops n ls) = true)
    (hQ : ∀ c a w, Q (.panic c) (a.put oi.dst v) w → Q (.panic c) a w) (hy : Region.wanted oi (yielded ops a.tmps) = true ∧ ∀ w, S w → (execOp a.eval oi).run P w = .ok (.value v) w) (hS : S w)
    (h : AnyFrom P ops Q S n k (ls.setIfInBounds i true) (a.put oi.dst v) w) : AnyFrom P ops Q S n (k + 1) ls a w := by
  rw [Bool.and_eq_true] at hn
  have hni : ∀ {j : Nat} {ls : Array Bool}, i ∈ Region.ready .any ops ls → j ∈ Region.ready .any ops ls → ¬ n ≤ j := by
    intro j ls h1 h2 hle
    obtain ⟨_, o, ho, _⟩ := mem_ready.1 h2
    have hlt : j < ops.size := (Array.getElem?_eq_some_iff.1 ho).1
    have h3 := List.all_eq_true.1 hn.1 j (List.mem_range.2 hlt)
    rw [ho] at h3
    simp only [Bool.or_eq_true, decide_eq_true_eq] at h3
    rcases h3 with h3 | h3
    · omega
    · obtain ⟨e, he, hb⟩ := Array.any_eq_true'.1 h3
      simp only [Bool.and_eq_true, beq_iff_eq] at hb
      exact ready_waits2 h1 h2 ho e he hb.1 hb.2
  have hspent : ∀ {ls : Array Bool} {j : Nat}, ¬ n ≤ j → ¬ Spent n ls → ¬ Spent n (ls.setIfInBounds j true) := by
    rintro ls j h1 h2 ⟨e, h3, h4⟩
    rw [getD_set_other (by omega)] at h4
    exact h2 ⟨e, h3, h4⟩
  refine AnyFrom.swap (T := fun ls w => ¬ Spent n ls ∧ S w) (U := S) hi (Region.noSelect_spec hs) hQ (fun _ _ h => .inr h.2) (fun _ _ h => h.2) ?_ k ls a w (Region.free_spec hi hf) (by simpa using hr) (.inl hy) ⟨fresh_spec hn.2, hS⟩ h
  intro ls w j w' hT h1 h2 _ hx
  have hj := hni h1 h2
  have hi' := hni h1 h1
  have hno := hspent hj hT.1
  have hS' : S w' := hx.resolve_left (hspent hj (hspent hi' hT.1))
  exact ⟨.inr hS', hno, hS'⟩
/-- What yields in whatever world. -/
theorem AnyFrom.pure {i : Nat} {oi : Oper} {v : Value} {k : Nat} {ls : Array Bool} {a : Act} {w : World} (hi : ops[i]? = some oi) (hs : Region.noSelect ops = true)
    (hf : Region.free .any ops ls i = true) (hr : (Region.ready .any ops ls).contains i = true) (hin : i < n)
    (hQ : ∀ c a w, Q (.panic c) (a.put oi.dst v) w → Q (.panic c) a w) (hy : Region.wanted oi (yielded ops a.tmps) = true ∧ ∀ w, (execOp a.eval oi).run P w = .ok (.value v) w) (hS : S w)
    (h : AnyFrom P ops Q S n k (ls.setIfInBounds i true) (a.put oi.dst v) w) : AnyFrom P ops Q S n (k + 1) ls a w := by
  refine AnyFrom.swap (T := fun ls w => Spent n ls ∨ S w) (U := fun _ => True) hi (Region.noSelect_spec hs) hQ (fun _ _ h => h.imp Spent.set id) (fun _ _ _ => trivial) ?_ k ls a w (Region.free_spec hi hf) (by simpa using hr) (.inl ⟨hy.1, fun w _ => hy.2 w⟩) (.inr hS) h
  intro ls w j w' hT h1 h2 hji hx
  have hc : Spent n (ls.setIfInBounds j true) ∨ S w' := by
    refine hx.imp (fun ⟨e, h3, h4⟩ => ?_) id
    rw [Array.setIfInBounds_comm _ _ (Ne.symm hji), getD_set_other (by omega)] at h4
    exact ⟨e, h3, h4⟩
  exact ⟨hc, hc⟩
theorem AnyFrom.done {ls : Array Bool} {a : Act} {w : World} (hr : Region.ready .any ops ls = []) (h : Q .normal a w) : ∀ k, AnyFrom P ops Q S n k ls a w
  | 0 => ⟨hr, h⟩
  | _ + 1 => ⟨fun _ => h, by rw [hr]; intro i hi; cases hi⟩
theorem AnyFrom.one {i k : Nat} {ls : Array Bool} {a : Act} {w : World} (hr : Region.ready .any ops ls = [i])
    (h : wpOp P ops Q i (fun a' w' => (Spent n (ls.setIfInBounds i true) ∨ S w') ∧ AnyFrom P ops Q S n k (ls.setIfInBounds i true) a' w') a w) : AnyFrom P ops Q S n (k + 1) ls a w :=
  ⟨fun h0 => (by rw [hr] at h0; cases h0), fun j hj => by
    rw [hr] at hj
    obtain rfl := List.mem_singleton.1 hj
    exact h⟩
theorem AnyFrom.two {i j k : Nat} {ls : Array Bool} {a : Act} {w : World} (hr : Region.ready .any ops ls = [i, j])
    (h : wpOp P ops Q i (fun a' w' => (Spent n (ls.setIfInBounds i true) ∨ S w') ∧ AnyFrom P ops Q S n k (ls.setIfInBounds i true) a' w') a w)
    (h' : wpOp P ops Q j (fun a' w' => (Spent n (ls.setIfInBounds j true) ∨ S w') ∧ AnyFrom P ops Q S n k (ls.setIfInBounds j true) a' w') a w) : AnyFrom P ops Q S n (k + 1) ls a w :=
  ⟨fun h0 => (by rw [hr] at h0; cases h0), fun x hx => by
    rw [hr] at hx
    rcases List.mem_cons.1 hx with rfl | hx
    · exact h
    · obtain rfl := List.mem_singleton.1 hx
      exact h'⟩
/-- One operation carried out. -/
theorem AnyFrom.op {i k : Nat} {o : Oper} {ls : Array Bool} {a : Act} {w : World} (ho : ops[i]? = some o) (hw : Region.wanted o (yielded ops a.tmps) = true)
    (h : ∀ K : Act → World → Prop, (∀ a w, (Spent n (ls.setIfInBounds i true) ∨ S w) → AnyFrom P ops Q S n k (ls.setIfInBounds i true) a w → K a w) → Oper.wp P o a w K Q) :
    wpOp P ops Q i (fun a' w' => (Spent n (ls.setIfInBounds i true) ∨ S w') ∧ AnyFrom P ops Q S n k (ls.setIfInBounds i true) a' w') a w :=
  wpOp_step ho fun K hK => by rw [if_pos hw]; exact h K (fun a w h1 h2 => hK a w ⟨h1, h2⟩)
theorem AnyFrom.opIf {i k : Nat} {o : Oper} {ls : Array Bool} {a : Act} {w : World} (ho : ops[i]? = some o)
    (h : ∀ K : Act → World → Prop, (∀ a w, (Spent n (ls.setIfInBounds i true) ∨ S w) → AnyFrom P ops Q S n k (ls.setIfInBounds i true) a w → K a w) → if Region.wanted o (yielded ops a.tmps) = true then Oper.wp P o a w K Q else K (a.put o.dst undef) w) :
    wpOp P ops Q i (fun a' w' => (Spent n (ls.setIfInBounds i true) ∨ S w') ∧ AnyFrom P ops Q S n k (ls.setIfInBounds i true) a' w') a w :=
  wpOp_step ho fun K hK => h K (fun a w h1 h2 => hK a w ⟨h1, h2⟩)
theorem AnyFrom.start {id : Nat} {a : Act} {w : World} (S : World → Prop) (n : Nat) (hm : P.follows .mixedOrders = true) (h : AnyFrom P ops Q S n ops.size (Array.replicate ops.size false) a w.drew) :
    (Code.region id ops true).wp P Q a w := wp_region_any hm (h.any _)
end
end Go.Proofs.YtpkcdkbbhiafnaaDoor
