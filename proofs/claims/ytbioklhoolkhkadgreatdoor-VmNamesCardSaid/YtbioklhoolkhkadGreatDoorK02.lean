/- An evaluator of closed calls: what its values and blocks stand for in a world. No program in sight. An evaluator of closed calls: loads, stores, new blocks, places. No program in sight. An evaluator of closed calls: operations on scalars. No program in sight. An evaluator of closed calls: operations on memory. No program in sight. An evaluator of closed calls: structs and slices built; slices cut. No program in sight. An evaluator of closed calls: structs and slices built, values taken apart. No program in sight. An evaluator of closed calls: slices made and cut, texts, lengths, maps. No program in sight. -/
import Derived.Test.YtbioklhoolkhkadGreatDoorK01
import Derived.MapKept
import Derived.RangeFuncRecord
import Derived.Deep.AppendSrc
import Derived.Deep.MidRow
import Derived.Great.BuildSlice
import Derived.Laws.MakeOwn
namespace Go.Proofs.YtbioklhoolkhkadGreatDoor
set_option linter.unusedVariables false
set_option linter.unusedSimpArgs false
open Go Go.RowKit
noncomputable section

def bytesA (l : List Nat) : ByteArray := ⟨(l.map UInt8.ofNat).toArray⟩
mutual
/-- What a value stands for: block number b (below n) is the world's block (R b).1, which has (R b).2 cells. -/
def VR (R : Nat → Nat × Nat) (n : Nat) : AV → Value → Prop
  | .b x, v => v = .bool x
  | .i k x, v => v = .int k x
  | .s l, v => v = .string (bytesA l) ∧ ∀ c ∈ l, c < 256
  | .np, v => v = .pointer none
  | .p b o, v => b < n ∧ v = .pointer (some ⟨(R b).1, o, none⟩)
  | .ns, v => v = .slice none 0 0
  | .sl b o l c e z, v => b < n ∧ ∃ o' c', v = .slice (some ⟨(R b).1, o', none⟩) l c' ∧ (c' = 0 ∨ o' = o) ∧ (e = true → c' = c) ∧ c ≤ c' ∧ l ≤ c' ∧ c' ≤ maxLen ∧ o' + c' * z ≤ (R b).2
  | .nm, v => v = .map none
  | .m b, v => b < n ∧ v = .map (some (R b).1)
  | .nf, v => v = .nilFunc
  | .fn f fst caps, v => ∃ us vs, VRL R n fst us ∧ VRL R n caps vs ∧ v = .func (.func f) us.toArray vs.toArray
  | .y b, v => b < n ∧ v = .func (.yield (R b).1) #[] #[]
  | .ni, v => v = .nilIface
  | .agg l, v => ∃ vs, VRL R n l vs ∧ v = .agg vs.toArray
  | .tup l, v => ∃ vs, VRL R n l vs ∧ v = .tuple vs.toArray
def VRL (R : Nat → Nat × Nat) (n : Nat) : List AV → List Value → Prop
  | [], vs => vs = []
  | x :: l, vs => ∃ u us, vs = u :: us ∧ VR R n x u ∧ VRL R n l us
end
section
variable {R R' : Nat → Nat × Nat} {n n' : Nat}
theorem VRL.length : ∀ {l : List AV} {vs : List Value}, VRL R n l vs → vs.length = l.length
  | [], vs, h => by simp only [VRL] at h; subst h; rfl
  | x :: l, vs, h => by
    simp only [VRL] at h
    obtain ⟨u, us, rfl, _, h2⟩ := h
    simp [VRL.length h2]
theorem VRL.get : ∀ {l : List AV} {vs : List Value} (h : VRL R n l vs) {j : Nat} {x : AV}, l[j]? = some x → ∃ u, vs[j]? = some u ∧ VR R n x u
  | [], vs, h, j, x, hx => by simp at hx
  | y :: l, vs, h, j, x, hx => by
    simp only [VRL] at h
    obtain ⟨u, us, rfl, h1, h2⟩ := h
    cases j with
    | zero => simp at hx; subst hx; exact ⟨u, rfl, h1⟩
    | succ j => simpa using VRL.get h2 (by simpa using hx)
theorem VRL.of : ∀ {l : List AV} {vs : List Value}, vs.length = l.length → (∀ (j : Nat) (x : AV), l[j]? = some x → ∃ u, vs[j]? = some u ∧ VR R n x u) → VRL R n l vs
  | [], vs, hl, h => by simp only [VRL]; exact List.eq_nil_of_length_eq_zero (by simpa using hl)
  | x :: l, [], hl, h => by simp at hl
  | x :: l, v :: vs, hl, h => by
    simp only [VRL]
    obtain ⟨u, hu, h1⟩ := h 0 x rfl
    simp at hu
    subst hu
    exact ⟨v, vs, rfl, h1, VRL.of (by simpa using hl) fun j y hy => by simpa using h (j + 1) y (by simpa using hy)⟩
theorem VRL.append {l m : List AV} {us vs : List Value} (h : VRL R n l us) (h' : VRL R n m vs) : VRL R n (l ++ m) (us ++ vs) := by
  induction l generalizing us with
  | nil => simp only [VRL] at h; subst h; exact h'
  | cons x l ih =>
    simp only [VRL] at h
    obtain ⟨u, us', rfl, h1, h2⟩ := h
    simp only [List.cons_append, VRL]
    exact ⟨u, us' ++ vs, rfl, h1, ih h2⟩
theorem VRL.take : ∀ {l : List AV} {vs : List Value} (h : VRL R n l vs) (k : Nat), VRL R n (l.take k) (vs.take k)
  | [], vs, h, k => by simp only [VRL] at h; subst h; simp [VRL]
  | x :: l, vs, h, 0 => by simp [VRL]
  | x :: l, vs, h, k + 1 => by
    simp only [VRL] at h
    obtain ⟨u, us, rfl, h1, h2⟩ := h
    simp only [List.take_succ_cons, VRL]
    exact ⟨u, _, rfl, h1, VRL.take h2 k⟩
theorem VRL.drop : ∀ {l : List AV} {vs : List Value} (h : VRL R n l vs) (k : Nat), VRL R n (l.drop k) (vs.drop k)
  | [], vs, h, k => by simp only [VRL] at h; subst h; simp [VRL]
  | x :: l, vs, h, 0 => h
  | x :: l, vs, h, k + 1 => by
    simp only [VRL] at h
    obtain ⟨u, us, rfl, h1, h2⟩ := h
    simp only [List.drop_succ_cons]
    exact VRL.drop h2 k
mutual
theorem VR.mono : ∀ {x : AV} {v : Value}, VR R n x v → n ≤ n' → (∀ b, b < n → R' b = R b) → VR R' n' x v
  | .b _, _, h, _, _ => by simp only [VR] at h ⊢; exact h
  | .i _ _, _, h, _, _ => by simp only [VR] at h ⊢; exact h
  | .s _, _, h, _, _ => by simp only [VR] at h ⊢; exact h
  | .np, _, h, _, _ => by simp only [VR] at h ⊢; exact h
  | .p b o, _, h, hn, hR => by simp only [VR] at h ⊢; rw [hR b h.1]; exact ⟨Nat.lt_of_lt_of_le h.1 hn, h.2⟩
  | .ns, _, h, _, _ => by simp only [VR] at h ⊢; exact h
  | .sl b o l c e z, _, h, hn, hR => by simp only [VR] at h ⊢; rw [hR b h.1]; exact ⟨Nat.lt_of_lt_of_le h.1 hn, h.2⟩
  | .nm, _, h, _, _ => by simp only [VR] at h ⊢; exact h
  | .m b, _, h, hn, hR => by simp only [VR] at h ⊢; rw [hR b h.1]; exact ⟨Nat.lt_of_lt_of_le h.1 hn, h.2⟩
  | .nf, _, h, _, _ => by simp only [VR] at h ⊢; exact h
  | .fn f fst caps, _, h, hn, hR => by
    simp only [VR] at h ⊢
    obtain ⟨us, vs, h1, h2, h3⟩ := h
    exact ⟨us, vs, VRL.mono h1 hn hR, VRL.mono h2 hn hR, h3⟩
  | .y b, _, h, hn, hR => by simp only [VR] at h ⊢; rw [hR b h.1]; exact ⟨Nat.lt_of_lt_of_le h.1 hn, h.2⟩
  | .ni, _, h, _, _ => by simp only [VR] at h ⊢; exact h
  | .agg l, _, h, hn, hR => by
    simp only [VR] at h ⊢
    obtain ⟨vs, h1, h2⟩ := h
    exact ⟨vs, VRL.mono h1 hn hR, h2⟩
  | .tup l, _, h, hn, hR => by
    simp only [VR] at h ⊢
    obtain ⟨vs, h1, h2⟩ := h
    exact ⟨vs, VRL.mono h1 hn hR, h2⟩
theorem VRL.mono : ∀ {l : List AV} {vs : List Value}, VRL R n l vs → n ≤ n' → (∀ b, b < n → R' b = R b) → VRL R' n' l vs
  | [], _, h, _, _ => by simp only [VRL] at h ⊢; exact h
  | x :: l, _, h, hn, hR => by
    simp only [VRL] at h ⊢
    obtain ⟨u, us, h1, h2, h3⟩ := h
    exact ⟨u, us, h1, VR.mono h2 hn hR, VRL.mono h3 hn hR⟩
end
theorem VR.one {x : AV} {v : Value} (h : VR R n x v) (h1 : oneA x = true) : v.oneCell' = true := by
  cases x <;> simp only [VR] at h
  case agg => cases h1
  case tup => cases h1
  case b => subst h; rfl
  case i => subst h; rfl
  case s => rw [h.1]; rfl
  case np => subst h; rfl
  case p => rw [h.2]; rfl
  case ns => subst h; rfl
  case sl => obtain ⟨_, o', c', rfl, _⟩ := h; rfl
  case nm => subst h; rfl
  case m => rw [h.2]; rfl
  case nf => subst h; rfl
  case fn => obtain ⟨us, vs, _, _, rfl⟩ := h; rfl
  case y => rw [h.2]; rfl
  case ni => subst h; rfl
theorem VR.cells {x : AV} {v : Value} (h : VR R n x v) : VRL R n (cellsA x) v.cells.toList := by
  cases x
  case agg l =>
    simp only [VR] at h
    obtain ⟨vs, h1, rfl⟩ := h
    simpa [cellsA, Value.cells] using h1
  case tup l =>
    have h' := h
    simp only [VR] at h
    obtain ⟨vs, h1, rfl⟩ := h
    simp only [cellsA, Value.cells, VRL]
    exact ⟨_, [], rfl, h', rfl⟩
  all_goals
    have h1 := VR.one h rfl
    have e : v.cells.toList = [v] := by
      cases v <;> first | rfl | cases h1
    rw [e]
    simp only [cellsA, VRL]
    exact ⟨v, [], rfl, h, rfl⟩

/-- Keys pairwise unlike. -/
def Dist (es : List (AV × AV)) : Prop := (es.map Prod.fst).Pairwise fun a b => eqA1 a b = some false
theorem eqA1_comm (x y : AV) : eqA1 x y = eqA1 y x := by
  cases x <;> cases y <;> try rfl
  · rename_i a b; cases a <;> cases b <;> rfl
  · rename_i k a k' b
    show (bif decide (k = k') then some (ieq a b) else none) = bif decide (k' = k) then some (ieq b a) else none
    rw [ieq_eq, ieq_eq]
    by_cases e : k = k'
    · subst e
      by_cases e2 : a = b
      · subst e2; rfl
      · rw [decide_eq_false e2, decide_eq_false (Ne.symm e2)]
    · rw [decide_eq_false e, decide_eq_false (Ne.symm e)]; rfl
  · rename_i a b
    show some (beqL a b) = some (beqL b a)
    rw [beqL_eq, beqL_eq]
    by_cases e2 : a = b
    · subst e2; rfl
    · rw [decide_eq_false e2, decide_eq_false (Ne.symm e2)]
theorem eqA1_true {x y : AV} (h : eqA1 x y = some true) : x = y := by
  cases x <;> cases y <;> try (cases h; done)
  · rename_i a b; cases a <;> cases b <;> first | rfl | cases h
  · rename_i k a k' b
    replace h : (bif decide (k = k') then some (ieq a b) else none) = some true := h
    by_cases e : k = k'
    · rw [decide_eq_true e, cond_true, ieq_eq] at h
      rw [e, of_decide_eq_true (Option.some.inj h)]
    · rw [decide_eq_false e] at h; cases h
  · rename_i a b
    replace h : some (beqL a b) = some true := h
    rw [beqL_eq] at h
    rw [of_decide_eq_true (Option.some.inj h)]
theorem lookM_no {x : AV} : ∀ {es : List (AV × AV)}, (∀ e ∈ es, eqA1 x e.1 = some false) → lookM x es = some none
  | [], _ => rfl
  | e :: l, h => by
    unfold lookM
    rw [h e (.head _)]
    exact lookM_no fun e' he => h e' (.tail _ he)
theorem lookM_at {x : AV} {e : AV × AV} {l2 : List (AV × AV)} (he : eqA1 x e.1 = some true) : ∀ {l1 : List (AV × AV)}, (∀ e' ∈ l1, eqA1 x e'.1 = some false) → lookM x (l1 ++ e :: l2) = some (some e.2)
  | [], _ => by simp only [List.nil_append, lookM, he]
  | e' :: l, h => by
    simp only [List.cons_append, lookM, h e' (.head _)]
    exact lookM_at he fun e'' h' => h e'' (.tail _ h')
theorem lookM_inv {x : AV} : ∀ {es : List (AV × AV)} {r : Option AV}, lookM x es = some r → (r = none ∧ ∀ e ∈ es, eqA1 x e.1 = some false) ∨ ∃ l1 e l2, es = l1 ++ e :: l2 ∧ r = some e.2 ∧ eqA1 x e.1 = some true ∧ ∀ e' ∈ l1, eqA1 x e'.1 = some false
  | [], r, h => by cases h; exact .inl ⟨rfl, fun e he => by cases he⟩
  | e :: l, r, h => by
    unfold lookM at h
    cases he : eqA1 x e.1 with
    | none => rw [he] at h; cases h
    | some q =>
      rw [he] at h
      cases q with
      | true => cases h; exact .inr ⟨[], e, l, rfl, rfl, he, fun e' h' => by cases h'⟩
      | false =>
        rcases lookM_inv h with ⟨h1, h2⟩ | ⟨l1, e1, l2, h1, h2, h3, h4⟩
        · exact .inl ⟨h1, fun e' h' => by rcases List.mem_cons.1 h' with rfl | h'; exact he; exact h2 e' h'⟩
        · exact .inr ⟨e :: l1, e1, l2, by rw [h1]; rfl, h2, h3, fun e' h' => by rcases List.mem_cons.1 h' with rfl | h'; exact he; exact h4 e' h'⟩
theorem Dist.perm {es es' : List (AV × AV)} (h : Dist es) (hp : es'.Perm es) : Dist es' :=
  ((hp.map Prod.fst).pairwise_iff fun {a b} hab => by rw [eqA1_comm]; exact hab).2 h
theorem Dist.split {l1 l2 : List (AV × AV)} {e : AV × AV} (h : Dist (l1 ++ e :: l2)) : ∀ e' ∈ l1, eqA1 e.1 e'.1 = some false := fun e' he => by
  unfold Dist at h
  rw [List.map_append, List.pairwise_append] at h
  rw [eqA1_comm]
  exact h.2.2 e'.1 (List.mem_map_of_mem he) e.1 (by simp)
theorem lookM_perm {x : AV} {es es' : List (AV × AV)} (hp : es'.Perm es) (hd : Dist es) {r : Option AV} (h : lookM x es = some r) : lookM x es' = some r := by
  rcases lookM_inv h with ⟨rfl, h2⟩ | ⟨l1, e, l2, h1, rfl, h3, _⟩
  · exact lookM_no fun e he => h2 e (hp.mem_iff.1 he)
  · have hm : e ∈ es' := hp.mem_iff.2 (by rw [h1]; simp)
    obtain ⟨m1, m2, rfl⟩ := List.append_of_mem hm
    refine lookM_at h3 fun e' he => ?_
    rw [eqA1_true h3]
    exact (hd.perm hp).split e' he
theorem updM_no {k v : AV} : ∀ {es : List (AV × AV)}, (∀ e ∈ es, eqA1 k e.1 = some false) → updM k v es = some (es ++ [(k, v)])
  | [], _ => rfl
  | e :: l, h => by
    unfold updM
    rw [h e (.head _)]
    simp only [updM_no fun e' he => h e' (.tail _ he)]
    rfl
theorem updM_at {k v : AV} {e : AV × AV} {l2 : List (AV × AV)} (he : eqA1 k e.1 = some true) : ∀ {l1 : List (AV × AV)}, (∀ e' ∈ l1, eqA1 k e'.1 = some false) → updM k v (l1 ++ e :: l2) = some (l1 ++ (k, v) :: l2)
  | [], _ => by simp only [List.nil_append, updM, he]
  | e' :: l, h => by
    simp only [List.cons_append, updM, h e' (.head _), updM_at he fun e'' h' => h e'' (.tail _ h')]
    rfl
theorem updM_inv {k v : AV} : ∀ {es u : List (AV × AV)}, updM k v es = some u → (u = es ++ [(k, v)] ∧ ∀ e ∈ es, eqA1 k e.1 = some false) ∨ ∃ l1 e l2, es = l1 ++ e :: l2 ∧ u = l1 ++ (k, v) :: l2 ∧ eqA1 k e.1 = some true ∧ ∀ e' ∈ l1, eqA1 k e'.1 = some false
  | [], u, h => by cases h; exact .inl ⟨rfl, fun e he => by cases he⟩
  | e :: l, u, h => by
    unfold updM at h
    cases he : eqA1 k e.1 with
    | none => rw [he] at h; cases h
    | some q =>
      rw [he] at h
      cases q with
      | true => cases h; exact .inr ⟨[], e, l, rfl, rfl, he, fun e' h' => by cases h'⟩
      | false =>
        simp only at h
        cases hu : updM k v l with
        | none => rw [hu] at h; cases h
        | some u' =>
          rw [hu] at h
          cases h
          rcases updM_inv hu with ⟨h1, h2⟩ | ⟨l1, e1, l2, h1, h2, h3, h4⟩
          · exact .inl ⟨by rw [h1]; rfl, fun e' h' => by rcases List.mem_cons.1 h' with rfl | h'; exact he; exact h2 e' h'⟩
          · exact .inr ⟨e :: l1, e1, l2, by rw [h1]; rfl, by rw [h2]; rfl, h3, fun e' h' => by rcases List.mem_cons.1 h' with rfl | h'; exact he; exact h4 e' h'⟩
theorem Dist.snoc {es : List (AV × AV)} (h : Dist es) {k v : AV} (hk : ∀ e ∈ es, eqA1 k e.1 = some false) : Dist (es ++ [(k, v)]) := by
  unfold Dist
  rw [List.map_append, List.pairwise_append]
  refine ⟨h, by simp, fun a ha b hb => ?_⟩
  simp only [List.map_cons, List.map_nil, List.mem_singleton] at hb
  subst hb
  obtain ⟨e, he, rfl⟩ := List.mem_map.1 ha
  rw [eqA1_comm]
  exact hk e he
theorem updM_perm {k v : AV} {es es' u : List (AV × AV)} (hp : es'.Perm es) (hd : Dist es) (h : updM k v es = some u) : Dist u ∧ ∃ u', updM k v es' = some u' ∧ u'.Perm u := by
  rcases updM_inv h with ⟨rfl, h2⟩ | ⟨l1, e, l2, rfl, rfl, h3, _⟩
  · exact ⟨hd.snoc h2, _, updM_no fun e he => h2 e (hp.mem_iff.1 he), hp.append_right _⟩
  · have e1 := eqA1_true h3
    refine ⟨?_, ?_⟩
    · unfold Dist at hd ⊢
      simpa [e1] using hd
    · have hm : e ∈ es' := hp.mem_iff.2 (by simp)
      obtain ⟨m1, m2, rfl⟩ := List.append_of_mem hm
      refine ⟨_, updM_at h3 fun e' he => ?_, ?_⟩
      · rw [e1]; exact (hd.perm hp).split e' he
      · have : (m1 ++ m2).Perm (l1 ++ l2) := (List.perm_cons e).1 ((List.perm_middle.symm.trans hp).trans List.perm_middle)
        exact (List.perm_middle.trans (this.cons (k, v))).trans List.perm_middle.symm
/-- What lies in a block. -/
def BR (R : Nat → Nat × Nat) (n sz : Nat) : Blk → Obj → Prop
  | .cells e cs, o => ∃ arr : Array Value, o = .cells arr e (0, 0) ∧ arr.size = sz ∧ cs.length ≤ sz ∧ VRL R n cs (arr.toList.take cs.length) ∧ ∀ c ∈ cs, oneA c = true
  | .ro e cs, o => ∃ (arr : Array Value) (f : Nat × Nat), o = .cells arr e f ∧ arr.size = sz ∧ cs.length ≤ sz ∧ VRL R n cs (arr.toList.take cs.length) ∧ ∀ c ∈ cs, oneA c = true
  | .map es, o => ∃ (mes : Array MapEntry) (cl : Nat) (es1 : List (AV × AV)), o = .map mes cl ∧ es1.Perm es ∧ Dist es ∧ VRL R n (es1.map Prod.fst) (mes.toList.map (·.key)) ∧ VRL R n (es1.map Prod.snd) (mes.toList.map (·.val))
  | .loop tm nt ps asg body pend, o => ∃ r : Loop, o = .loop r ∧ r.state = (match pend with | none => LoopState.ready | some _ => LoopState.done) ∧ r.pending = pend ∧ r.params = ps.toArray ∧ r.assign = asg ∧ r.body = body ∧ r.tmps.size = nt ∧ ∀ t x, tm.get t = some x → ∃ v, r.tmps[t]? = some v ∧ VR R n x v
theorem BR.mono {sz : Nat} {x : Blk} {o : Obj} (h : BR R n sz x o) (hn : n ≤ n') (hR : ∀ b, b < n → R' b = R b) : BR R' n' sz x o := by
  cases x with
  | cells e cs =>
    obtain ⟨arr, h1, h2, h3, h4, h5⟩ := h
    exact ⟨arr, h1, h2, h3, h4.mono hn hR, h5⟩
  | ro e cs =>
    obtain ⟨arr, f, h1, h2, h3, h4, h5⟩ := h
    exact ⟨arr, f, h1, h2, h3, h4.mono hn hR, h5⟩
  | map es =>
    obtain ⟨mes, cl, es1, h1, hp, hd, h2, h3⟩ := h
    exact ⟨mes, cl, es1, h1, hp, hd, h2.mono hn hR, h3.mono hn hR⟩
  | loop =>
    obtain ⟨r, h1, h2, h3, h4, h5, h6, h7, h8⟩ := h
    refine ⟨r, h1, h2, h3, h4, h5, h6, h7, fun t x hx => ?_⟩
    obtain ⟨v, g1, g2⟩ := h8 t x hx
    exact ⟨v, g1, g2.mono hn hR⟩
end
/-- The evaluator's blocks in a world; F: what it does not own, and what stays as it is. -/
structure HR (F : Nat → Option Obj) (R : Nat → Nat × Nat) (s : St) (w0 w : World) : Prop where
  os : w.os = w0.os
  tape : w.tape = w0.tape
  output : w.output = w0.output
  fr : ∀ k o, F k = some o → w.heap[k]? = some o
  lt : ∀ b, s.h.get b ≠ none → b < s.nx
  own : ∀ b x, s.h.get b = some x → F (R b).1 = none ∧ ∃ o, w.heap[(R b).1]? = some o ∧ BR R s.nx (R b).2 x o
  inj : ∀ b c, s.h.get b ≠ none → s.h.get c ≠ none → (R b).1 = (R c).1 → b = c
/-- R' is R, as far as it goes. -/
def Ext (n : Nat) (R R' : Nat → Nat × Nat) : Prop := ∀ b, b < n → R' b = R b
section
variable {F : Nat → Option Obj} {R : Nat → Nat × Nat} {s : St} {w0 w : World}
theorem HR.drew (h : HR F R s w0 w) : HR F R s w0 w.drew := ⟨h.os, h.tape, h.output, h.fr, h.lt, h.own, h.inj⟩
theorem HR.lt_size (h : HR F R s w0 w) {b : Nat} (hb : s.h.get b ≠ none) : (R b).1 < w.heap.size := by
  cases hx : s.h.get b with
  | none => exact absurd hx hb
  | some x =>
    obtain ⟨_, o, h1, _⟩ := h.own b x hx
    exact lt_of_heap h1
/-- A new block. -/
theorem HR.new (h : HR F R s w0 w) (x : Blk) (o : Obj) (sz : Nat) (hb : BR (fun b => if b = s.nx then (w.heap.size, sz) else R b) (s.nx + 1) sz x o) :
    HR F (fun b => if b = s.nx then (w.heap.size, sz) else R b) (s.new x) w0 (w.alloc o) ∧ Ext s.nx R (fun b => if b = s.nx then (w.heap.size, sz) else R b) := by
  have hE : Ext s.nx R (fun b => if b = s.nx then (w.heap.size, sz) else R b) := fun b hb => if_neg (by omega)
  have hg : ∀ b, (s.new x).h.get b = if b = s.nx then some x else s.h.get b := fun b => Tree.get_set _ _ _ _
  have hF : ∀ k o', F k = some o' → k < w.heap.size := fun k o' hk => lt_of_heap (h.fr k o' hk)
  refine ⟨⟨h.os, h.tape, h.output, fun k o' hk => ?_, fun b hb' => ?_, fun b y hy => ?_, fun b c hb' hc' e => ?_⟩, hE⟩
  · rw [World.heap_alloc_lt' w o k (hF k o' hk)]; exact h.fr k o' hk
  · rw [hg] at hb'
    show b < s.nx + 1
    by_cases e : b = s.nx
    · omega
    · rw [if_neg e] at hb'; have := h.lt b hb'; omega
  · rw [hg] at hy
    by_cases e : b = s.nx
    · subst e
      rw [if_pos rfl] at hy
      cases hy
      simp only [if_true]
      refine ⟨?_, o, ?_, hb⟩
      · cases hk : F w.heap.size with
        | none => rfl
        | some o' => have := hF _ _ hk; omega
      · exact heap_alloc_new w o
    · rw [if_neg e] at hy
      simp only [if_neg e]
      obtain ⟨h1, o', h2, h3⟩ := h.own b y hy
      refine ⟨h1, o', ?_, ?_⟩
      · rw [World.heap_alloc_lt' w o _ (lt_of_heap h2)]; exact h2
      · exact BR.mono h3 (Nat.le_succ _) hE
  · rw [hg] at hb' hc'
    by_cases eb : b = s.nx
    · by_cases ec : c = s.nx
      · rw [eb, ec]
      · rw [if_neg ec] at hc'
        simp only [if_pos eb, if_neg ec] at e
        have := h.lt_size hc'
        omega
    · rw [if_neg eb] at hb'
      by_cases ec : c = s.nx
      · simp only [if_neg eb, if_pos ec] at e
        have := h.lt_size hb'
        omega
      · rw [if_neg ec] at hc'
        simp only [if_neg eb, if_neg ec] at e
        exact h.inj b c hb' hc' e
/-- A block written. -/
theorem HR.put (h : HR F R s w0 w) {b : Nat} (hb : s.h.get b ≠ none) (x : Blk) {w' : World} (o : Obj) (hx : BR R s.nx (R b).2 x o)
    (ho : w'.os = w.os) (ht : w'.tape = w.tape) (hp : w'.output = w.output) (hw : w'.heap[(R b).1]? = some o) (hw2 : ∀ k, k ≠ (R b).1 → w'.heap[k]? = w.heap[k]?) :
    HR F R ⟨s.h.set b (some x), s.nx⟩ w0 w' := by
  have hg : ∀ c, (s.h.set b (some x)).get c = if c = b then some x else s.h.get c := fun c => Tree.get_set _ _ _ _
  have hF : F (R b).1 = none := by
    cases hx : s.h.get b with
    | none => exact absurd hx hb
    | some y => exact (h.own b y hx).1
  refine ⟨ho.trans h.os, ht.trans h.tape, hp.trans h.output, fun k o' hk => ?_, fun c hc => ?_, fun c y hy => ?_, fun c d hc hd e => ?_⟩
  · rw [hw2 k (fun e => by rw [e, hF] at hk; cases hk)]; exact h.fr k o' hk
  · simp only [hg] at hc
    by_cases e : c = b
    · subst e; exact h.lt c hb
    · rw [if_neg e] at hc; exact h.lt c hc
  · simp only [hg] at hy
    by_cases e : c = b
    · subst e
      rw [if_pos rfl] at hy
      cases hy
      exact ⟨hF, o, hw, hx⟩
    · rw [if_neg e] at hy
      obtain ⟨h1, o', h2, h3⟩ := h.own c y hy
      refine ⟨h1, o', ?_, h3⟩
      rw [hw2 _ (fun e2 => e (h.inj c b (by rw [hy]; simp) hb e2))]
      exact h2
  · simp only [hg] at hc hd
    have hc' : s.h.get c ≠ none := by
      by_cases e : c = b
      · rw [e]; exact hb
      · rw [if_neg e] at hc; exact hc
    have hd' : s.h.get d ≠ none := by
      by_cases e : d = b
      · rw [e]; exact hb
      · rw [if_neg e] at hd; exact hd
    exact h.inj c d hc' hd' e
/-- A block forgotten. -/
theorem HR.forget (h : HR F R s w0 w) (b : Nat) : HR F R ⟨s.h.set b none, s.nx⟩ w0 w := by
  have hg : ∀ c, (s.h.set b none).get c = if c = b then none else s.h.get c := fun c => Tree.get_set _ _ _ _
  have hs : ∀ c, (s.h.set b none).get c ≠ none → s.h.get c ≠ none ∧ c ≠ b := fun c hc => by
    rw [hg] at hc
    by_cases e : c = b
    · rw [if_pos e] at hc; exact absurd rfl hc
    · rw [if_neg e] at hc; exact ⟨hc, e⟩
  refine ⟨h.os, h.tape, h.output, h.fr, fun c hc => h.lt c (hs c hc).1, fun c y hy => ?_, fun c d hc hd e => h.inj c d (hs c hc).1 (hs d hd).1 e⟩
  have h1 := hs c (by rw [show (s.h.set b none).get c = some y from hy]; simp)
  have : s.h.get c = some y := by
    have h2 := hy
    simp only [hg, if_neg h1.2] at h2
    exact h2
  exact h.own c y this
end
end
end Go.Proofs.YtbioklhoolkhkadGreatDoor
namespace Go.Proofs.YtbioklhoolkhkadGreatDoor
set_option linter.unusedVariables false
set_option linter.unusedSimpArgs false
set_option linter.unusedSectionVars false
open Go Go.RowKit
noncomputable section

/-- What a type's row says. -/
def TKOK : TK → TypeDesc → Prop
  | .str fs, d => ∃ fields : Array Field, d = .struct fields ∧ ∀ i : Nat, fs[i]? = (fields[i]?).map fun f => (f.offset, f.type)
  | .arr n e, d => d = .array n e
  | .int k, d => d = .int k
  | .slice e, d => d = .slice e
  | .map k e, d => d = .map k e
  | .string, d => d = .string
  | .bool, d => d = .bool
  | .ptr e, d => d = .pointer e
  | .func, d => ∃ ps rs v, d = .func ps rs v
  | .other, d => (∀ fs, d ≠ .struct fs) ∧ (∀ n e, d ≠ .array n e) ∧ ∀ k, d ≠ .int k
/-- Structs of this type are equal if their cells are. -/
def EqOK (P : Program) (t : TypeId) (ks : List TK) : Prop := P.eqGuardType P.depth t = false ∧
  ∀ (R R' : Nat → Nat × Nat) (n n' : Nat) (l m : List AV) (xs ys : List Value) (r : Bool) (w : World), VRL R n l xs → VRL R' n' m ys → eqAK ks l m = some r → (Op.equal t (.agg xs.toArray) (.agg ys.toArray)).run P w = .ok r w
structure TOK (P : Program) (t : TypeId) (u : TI) : Prop where
  eq : ∀ ks, u.eq = some ks → EqOK P t ks
  desc : ∃ d, P.underlying t = some d ∧ TKOK u.k d
  info : ∃ i, P.info? t = some i ∧ i.size = u.size ∧ i.bytes = u.bytes ∧ ∀ z, u.z = some z → ∃ v, i.zero = some v ∧ ∀ R n, VR R n z v
/-- A function without arguments that comes to one value, whatever there is. -/
def KnownOK (P : Program) (f : FuncId) (x : AV) : Prop := (∀ args w, (callFunc f args).run P w = .ok (.enter f args) w) ∧
  ∀ (fr : Nat → Option Obj) (R : Nat → Nat × Nat) (s : St) (w0 w : World), HR fr R s w0 w → Calls P f #[] w fun e w' => ∃ v, e = .returned v ∧ HR fr R s w0 w' ∧ ∀ R' n', VR R' n' x v
/-- A call that was evaluated ahead comes to what is said. -/
def LitOK (P : Program) (c : LitC) : Prop := (∀ args w, (callFunc c.f args).run P w = .ok (.enter c.f args) w) ∧
  ∀ (fr : Nat → Option Obj) (R : Nat → Nat × Nat) (w0 w : World) (us cs : List Value) (vs : Array Value), HR fr R ⟨treeOf c.sb, c.nx⟩ w0 w → VRL R c.nx c.fst us → VRL R c.nx c.caps cs → VRL R c.nx c.xs vs.toList →
    Calls P c.f (us.toArray ++ vs ++ cs.toArray) w fun e w' => ∃ v R', e = .returned v ∧ Ext c.nx R R' ∧ c.nx ≤ c.nx' ∧ HR fr R' ⟨treeOf c.sb', c.nx'⟩ w0 w' ∧ VR R' c.nx' c.r v
structure EnvOK (P : Program) (E : Env) : Prop where
  lit : ∀ c ∈ E.lit, LitOK P c
  kn : ∀ f x, E.kn.get f = some x → KnownOK P f x
  tt : ∀ t u, E.tt.get t = some u → TOK P t u
  ft : ∀ f fn, E.ft.get f = some fn → P.funcs[f]? = some fn ∧ (fn.name == "runtime.NumGoroutine") = false
section
variable {P : Program} {E : Env} {F : Nat → Option Obj} {R : Nat → Nat × Nat} {s : St} {w0 w : World}
theorem Addr.add_eq (b o j : Nat) : (⟨b, o, none⟩ : Addr).add j = ⟨b, o + j, none⟩ := by
  unfold Addr.add
  split <;> simp_all
theorem HR.at (h : HR F R s w0 w) {b : Nat} {e : TypeId} {cs : List AV} (hc : s.cells b = some (e, cs)) :
    s.h.get b = some (.cells e cs) ∧ ∃ arr : Array Value, w.heap[(R b).1]? = some (.cells arr e (0, 0)) ∧ arr.size = (R b).2 ∧ cs.length ≤ arr.size ∧ VRL R s.nx cs (arr.toList.take cs.length) ∧ ∀ c ∈ cs, oneA c = true := by
  unfold St.cells at hc
  split at hc
  · rename_i e' cs' hg
    cases hc
    refine ⟨hg, ?_⟩
    obtain ⟨_, o, h1, arr, rfl, h3, h4, h5, h6⟩ := h.own b _ hg
    exact ⟨arr, h1, h3, by omega, h5, h6⟩
  · cases hc
theorem HR.atR (h : HR F R s w0 w) {b : Nat} {e : TypeId} {cs : List AV} (hc : s.cellsR b = some (e, cs)) :
    s.h.get b ≠ none ∧ ∃ (arr : Array Value) (f : Nat × Nat), w.heap[(R b).1]? = some (.cells arr e f) ∧ arr.size = (R b).2 ∧ cs.length ≤ arr.size ∧ VRL R s.nx cs (arr.toList.take cs.length) ∧ ∀ c ∈ cs, oneA c = true := by
  unfold St.cellsR at hc
  split at hc
  · rename_i e' cs' hg
    cases hc
    refine ⟨by rw [hg]; simp, ?_⟩
    obtain ⟨_, o, h1, arr, rfl, h3, h4, h5, h6⟩ := h.own b _ hg
    exact ⟨arr, _, h1, h3, by omega, h5, h6⟩
  · rename_i e' cs' hg
    cases hc
    refine ⟨by rw [hg]; simp, ?_⟩
    obtain ⟨_, o, h1, arr, f, rfl, h3, h4, h5, h6⟩ := h.own b _ hg
    exact ⟨arr, f, h1, h3, by omega, h5, h6⟩
  · cases hc
theorem HR.load (h : HR F R s w0 w) {b o n : Nat} {l : List AV} (hl : s.load b o n = some l) :
    l.length = n ∧ b < s.nx ∧ (∀ c ∈ l, oneA c = true) ∧ ∃ vs, VRL R s.nx l vs ∧ ∀ j v, vs[j]? = some v → w.cell? ⟨(R b).1, o + j, none⟩ = some v := by
  unfold St.load at hl
  split at hl
  · rename_i e cs hc
    obtain ⟨hg, arr, f, h1, h2, h3, h4, h5⟩ := h.atR hc
    cases hb : Nat.ble (o + n) cs.length with
    | false => rw [hb] at hl; cases hl
    | true =>
      rw [hb, cond_true] at hl
      cases hl
      have hle := nble_of hb
      rw [tkL_eq, dpL_eq]
      refine ⟨by simp; omega, h.lt b hg, fun c hc => h5 c (List.mem_of_mem_drop (List.mem_of_mem_take hc)), _, (h4.drop o).take n, fun j v hv => ?_⟩
      rw [cell_of_heap h1]
      rw [List.getElem?_take] at hv
      split at hv
      · rw [List.getElem?_drop, List.getElem?_take] at hv
        split at hv
        · simpa using hv
        · cases hv
      · cases hv
  · cases hl
theorem run_isAgg {t : TypeId} {d : TypeDesc} (hd : P.underlying t = some d) (w : World) : (isAgg t).run P w = .ok d.isRow w := by
  unfold isAgg
  rw [Sem.run_bind, run_underlying hd w]
  cases d <;> rfl
theorem TKOK.row {k : TK} {d : TypeDesc} (h : TKOK k d) : d.isRow = isRowK k := by
  cases k with
  | str fs => obtain ⟨_, rfl, _⟩ := h; rfl
  | arr n e => subst h; rfl
  | int k => subst h; rfl
  | slice e => subst h; rfl
  | map k e => subst h; rfl
  | string => subst h; rfl
  | bool => subst h; rfl
  | ptr e => subst h; rfl
  | func => obtain ⟨_, _, _, rfl⟩ := h; rfl
  | other =>
    cases d <;> first | rfl | exact absurd rfl (h.1 _) | exact absurd rfl (h.2.1 _ _)
/-- A load. -/
theorem run_loadA (hE : EnvOK P E) (h : HR F R s w0 w) {t : TypeId} {u : TI} (hu : E.tt.get t = some u) {b o : Nat} {l : List AV} (hl : s.load b o u.size = some l) {x : AV} (hx : ofCells u l = some x) :
    ∃ v, (Instr.loadAt t (.pointer (some ⟨(R b).1, o, none⟩))).run P w = .ok v w ∧ VR R s.nx x v := by
  obtain ⟨_, ⟨d, hd, hk⟩, i, hi, hsz, _, _⟩ := hE.tt t u hu
  obtain ⟨h1, h2, h3, vs, h4, h5⟩ := h.load hl
  unfold ofCells at hx
  cases hr : isRowK u.k with
  | true =>
    rw [hr, cond_true] at hx
    cases hx
    refine ⟨.agg vs.toArray, run_loadAt_mid w _ o t vs d (fun j v hv => h5 j v hv) hd (by rw [hk.row, hr]) (by rw [hi, Option.map_some, hsz, h4.length, h1]), ?_⟩
    simp only [VR]
    exact ⟨vs, h4, rfl⟩
  | false =>
    rw [hr, cond_false] at hx
    split at hx
    · cases hx
      simp only [VRL] at h4
      obtain ⟨v, _, rfl, h6, rfl⟩ := h4
      refine ⟨v, ?_, h6⟩
      have hc := h5 0 v rfl
      rw [Nat.add_zero] at hc
      simp only [Instr.loadAt, Instr.sureAddr, Sem.run_bind, Sem.run_pure, Result.andThen_ok, loadVar, run_isAgg hd, hk.row, hr]
      simp [hc]
    · cases hx
theorem take_mid {α : Type} (l us : List α) (o N : Nat) (h : o + us.length ≤ N) (hN : N ≤ l.length) : (l.take o ++ us ++ l.drop (o + us.length)).take N = (l.take N).take o ++ us ++ (l.take N).drop (o + us.length) := by
  have hA : (l.take N).length = N := by rw [List.length_take]; omega
  have e1 : l.take o = (l.take N).take o := by rw [List.take_take]; congr 1; omega
  have e2 : l.drop (o + us.length) = (l.take N).drop (o + us.length) ++ l.drop N := by
    conv => lhs; rw [← List.take_append_drop N l]
    rw [List.drop_append_of_le_length (by omega)]
  rw [e1, e2, ← List.append_assoc]
  have hl : ((l.take N).take o ++ us ++ (l.take N).drop (o + us.length)).length = N := by
    simp only [List.length_append, List.length_take, List.length_drop]; omega
  exact List.take_left' hl
/-- Cells written into a block. -/
theorem HR.write (h : HR F R s w0 w) {b o : Nat} {vs : List AV} {us : List Value} {s' : St} (hs : s.store b o vs = some s') (hv : VRL R s.nx vs us) (h1 : ∀ c ∈ vs, oneA c = true) :
    s'.nx = s.nx ∧ ∃ w', (storeCells ⟨(R b).1, o, none⟩ us).run P w = .ok () w' ∧ HR F R s' w0 w' := by
  unfold St.store at hs
  split at hs
  · rename_i e cs hc
    obtain ⟨hg, arr, g1, g2, g3, g4, g5⟩ := h.at hc
    cases hb : Nat.ble (o + vs.length) cs.length with
    | false => rw [hb] at hs; cases hs
    | true =>
      rw [hb, cond_true] at hs
      cases hs
      have hle := nble_of hb
      have hul := hv.length
      have hone : ∀ v ∈ us, v.oneCell' = true := fun v hm => by
        obtain ⟨j, hj, rfl⟩ := List.mem_iff_getElem.1 hm
        obtain ⟨u, e1, e2⟩ := hv.get (j := j) (List.getElem?_eq_getElem (by omega))
        rw [List.getElem?_eq_getElem hj] at e1
        cases e1
        exact e2.one (h1 _ (List.getElem_mem _))
      refine ⟨rfl, _, run_storeCells_at (P := P) (R b).1 o e us 0 arr w g1 (by omega) hone, ?_⟩
      simp only [Nat.add_zero]
      refine h.put (by rw [hg]; simp) _ _ ⟨_, rfl, ?_, ?_, ?_, ?_⟩ rfl rfl rfl (setRow_heap w _ arr _ e _ g1) fun k hk => setRow_other w _ k _ hk
      · simp only [List.size_toArray, List.length_append, List.length_take, List.length_drop, Array.length_toList]; omega
      · rw [wrL_eq cs o vs hle]; simp only [List.length_append, List.length_take, List.length_drop]; omega
      · rw [wrL_eq cs o vs hle]
        have hlen : (cs.take o ++ vs ++ cs.drop (o + vs.length)).length = cs.length := by simp only [List.length_append, List.length_take, List.length_drop]; omega
        rw [hlen]
        have e1 := take_mid arr.toList us o cs.length (by omega) (by simpa using g3)
        rw [← hul] at *
        rw [e1]
        exact ((g4.take o).append hv).append (g4.drop _)
      · rw [wrL_eq cs o vs hle]
        intro c hc
        simp only [List.mem_append] at hc
        rcases hc with (hc | hc) | hc
        · exact g5 c (List.mem_of_mem_take hc)
        · exact h1 c hc
        · exact g5 c (List.mem_of_mem_drop hc)
  · cases hs
theorem run_storeA (hE : EnvOK P E) (h : HR F R s w0 w) {t : TypeId} {u : TI} (hu : E.tt.get t = some u) {b o : Nat} {x : AV} {v : Value} (hx : VR R s.nx x v) (hn : (cellsA x).length = u.size) (h1 : ∀ c ∈ cellsA x, oneA c = true) {s' : St} (hs : s.store b o (cellsA x) = some s') :
    s'.nx = s.nx ∧ ∃ w', (Instr.storeAt t (.pointer (some ⟨(R b).1, o, none⟩)) v).run P w = .ok () w' ∧ HR F R s' w0 w' := by
  obtain ⟨_, _, i, hi, hsz, _, _⟩ := hE.tt t u hu
  obtain ⟨e1, w', hr, hh⟩ := h.write (P := P) hs hx.cells h1
  refine ⟨e1, w', ?_, hh⟩
  have hz : v.cells.size = i.size := by rw [hsz, ← hn, ← hx.cells.length, Array.length_toList]
  simp only [Instr.storeAt, Instr.sureAddr, Sem.run_bind, Sem.run_pure, Result.andThen_ok]
  simp [storeVar, sizeOf, typeInfo, hi, hz, hr]
end
end
end Go.Proofs.YtbioklhoolkhkadGreatDoor
namespace Go.Proofs.YtbioklhoolkhkadGreatDoor
set_option linter.unusedVariables false
set_option linter.unusedSimpArgs false
set_option linter.unusedSectionVars false
open Go Go.RowKit
noncomputable section

section
variable {P : Program} {E : Env} {F : Nat → Option Obj} {R : Nat → Nat × Nat} {s : St} {w0 w : World} {n : Nat}
theorem bytesA_of (s : ByteArray) : bytesA (s.data.toList.map UInt8.toNat) = s := by
  unfold bytesA
  rw [List.map_map]
  have : (UInt8.ofNat ∘ UInt8.toNat) = id := funext fun c => by simp
  rw [this, List.map_id]
theorem toNat_lt (s : ByteArray) : ∀ c ∈ s.data.toList.map UInt8.toNat, c < 256 := fun c hc => by
  obtain ⟨x, _, rfl⟩ := List.mem_map.1 hc
  exact x.toNat_lt
theorem bytesA_list {l : List Nat} (h : ∀ c ∈ l, c < 256) : (bytesA l).data.toList.map UInt8.toNat = l := by
  unfold bytesA
  simp only [List.map_map]
  conv => rhs; rw [← List.map_id l]
  refine List.map_congr_left fun c hc => ?_
  have := h c hc
  simp [Nat.mod_eq_of_lt this]
theorem bytesA_inj {l m : List Nat} (hl : ∀ c ∈ l, c < 256) (hm : ∀ c ∈ m, c < 256) (h : bytesA l = bytesA m) : l = m := by
  rw [← bytesA_list hl, h, bytesA_list hm]
theorem bytesA_size (l : List Nat) : (bytesA l).size = l.length := by simp [bytesA, ByteArray.size]
theorem bytesA_append (l m : List Nat) : bytesA (l ++ m) = bytesA l ++ bytesA m := by
  apply ByteArray.ext
  simp [bytesA]
mutual
theorem ofV_sound : ∀ (k : Nat) {v : Value} {x : AV}, ofV k v = some x → VR R n x v
  | 0, _, _, h => by simp [ofV] at h
  | k + 1, v, x, h => by
    unfold ofV at h
    split at h
    · cases h; simp only [VR]
    · cases h; simp only [VR]
    · cases h; simp only [VR]; exact ⟨by rw [bytesA_of], toNat_lt _⟩
    · cases h; simp only [VR]
    · cases h; simp only [VR]
    · cases h; simp only [VR]
    · cases h; simp only [VR]
    · cases h; simp only [VR]
    · rename_i cs
      cases hm : mapO (ofV k) cs.toList with
      | none => rw [hm] at h; cases h
      | some l =>
        rw [hm] at h
        cases h
        simp only [VR]
        exact ⟨cs.toList, ofV_list k hm, by simp⟩
    · rename_i cs
      cases hm : mapO (ofV k) cs.toList with
      | none => rw [hm] at h; cases h
      | some l =>
        rw [hm] at h
        cases h
        simp only [VR]
        exact ⟨cs.toList, ofV_list k hm, by simp⟩
    · cases h
theorem ofV_list : ∀ (k : Nat) {vs : List Value} {l : List AV}, mapO (ofV k) vs = some l → VRL R n l vs
  | k, vs, l, h => by
    obtain ⟨h1, h2⟩ := mapO_some h
    refine VRL.of h1.symm fun j x hx => ?_
    have hj : j < vs.length := by have := (List.getElem?_eq_some_iff.1 hx).1; omega
    obtain ⟨y, e1, e2⟩ := h2 j _ (List.getElem?_eq_getElem hj)
    rw [e2] at hx
    cases hx
    exact ⟨_, List.getElem?_eq_getElem hj, ofV_sound k e1⟩
end
/-- What the temporaries hold. -/
def TR (R : Nat → Nat × Nat) (n : Nat) (a : Tree AV) (act : Act) : Prop := ∀ t x, a.get t = some x → ∃ v, act.tmps[t]? = some v ∧ VR R n x v
theorem TR.mono {R' : Nat → Nat × Nat} {n' : Nat} {a : Tree AV} {act : Act} (h : TR R n a act) (hn : n ≤ n') (hR : Ext n R R') : TR R' n' a act := fun t x hx => by
  obtain ⟨v, h1, h2⟩ := h t x hx
  exact ⟨v, h1, h2.mono hn hR⟩
theorem TR.put {a : Tree AV} {act : Act} (h : TR R n a act) {d : Nat} (hd : d < act.tmps.size) {x : AV} {v : Value} (hx : VR R n x v) : TR R n (a.set d (some x)) (act.put (some d) v) := fun t y hy => by
  rw [Tree.get_set] at hy
  unfold Act.put
  by_cases e : t = d
  · subst e
    rw [if_pos rfl] at hy
    cases hy
    exact ⟨v, by simp [hd], hx⟩
  · rw [if_neg e] at hy
    obtain ⟨u, h1, h2⟩ := h t y hy
    refine ⟨u, ?_, h2⟩
    simp only
    rw [Array.getElem?_setIfInBounds_ne (Ne.symm e)]
    exact h1
theorem TR.forget {a : Tree AV} {act : Act} (h : TR R n a act) (d : Nat) (v : Value) : TR R n (a.set d none) (act.put (some d) v) := fun t y hy => by
  rw [Tree.get_set] at hy
  by_cases e : t = d
  · rw [if_pos e] at hy; cases hy
  · rw [if_neg e] at hy
    obtain ⟨u, h1, h2⟩ := h t y hy
    refine ⟨u, ?_, h2⟩
    unfold Act.put
    simp only
    rw [Array.getElem?_setIfInBounds_ne (Ne.symm e)]
    exact h1
theorem opd_sound {a : Tree AV} {act : Act} (h : TR R n a act) {o : Operand} {x : AV} (hx : opd a o = some x) : VR R n x (act.eval o) := by
  cases o with
  | tmp t =>
    obtain ⟨v, h1, h2⟩ := h t x hx
    have : act.eval (.tmp t) = v := by simp [Act.eval, Array.getD_eq_getD_getElem?, h1]
    rw [this]; exact h2
  | const v => exact ofV_sound 2 hx
  | global g => cases hx
  | func f => cases hx; simp only [VR]; exact ⟨[], [], rfl, rfl, rfl⟩
theorem opds_sound {a : Tree AV} {act : Act} (h : TR R n a act) {os : List Operand} {xs : List AV} (hx : mapO (opd a) os = some xs) : VRL R n xs (os.map act.eval) := by
  obtain ⟨h1, h2⟩ := mapO_some hx
  refine VRL.of (by rw [List.length_map, h1]) fun j x hj => ?_
  have hj' : j < os.length := by have := (List.getElem?_eq_some_iff.1 hj).1; omega
  obtain ⟨y, e1, e2⟩ := h2 j _ (List.getElem?_eq_getElem hj')
  rw [e2] at hj
  cases hj
  exact ⟨act.eval os[j], by simp [hj'], opd_sound h e1⟩
theorem bytes_toList (s : ByteArray) : s.toList = s.data.toList := by rw [ByteArray.toList_eq]
theorem str_beq {l m : List Nat} (hl : ∀ c ∈ l, c < 256) (hm : ∀ c ∈ m, c < 256) : ((bytesA l).toList == (bytesA m).toList) = beqL l m := by
  rw [beqL_eq, bytes_toList, bytes_toList]
  by_cases e : l = m
  · subst e; simp
  · rw [decide_eq_false e, beq_eq_false_iff_ne]
    intro h
    apply e
    apply bytesA_inj hl hm
    exact ByteArray.ext (Array.toList_inj.1 h)
/-- A binary operation on integers or texts, or booleans. -/
theorem run_binI {o : BinOp} {k : IntKind} {a c : Int} {x : AV} (h : binI o k a c = some x) (t : TypeId) : ∃ v, (binOp o t (.int k a) (.int k c)).run P w = .ok v w ∧ VR R n x v := by
  unfold binI at h
  cases o <;> simp only at h
  case add => cases h; exact ⟨_, by simp [binOp, Op.intArith]; rfl, by simp only [VR]⟩
  case sub => cases h; exact ⟨_, by simp [binOp, Op.intArith]; rfl, by simp only [VR]⟩
  case mul => cases h; exact ⟨_, by simp [binOp, Op.intArith]; rfl, by simp only [VR]⟩
  case quo =>
    rw [ieq_eq] at h
    by_cases e : c = 0
    · rw [decide_eq_true e] at h; cases h
    · rw [decide_eq_false e] at h; cases h; exact ⟨_, by simp [binOp, Op.intDiv, e]; rfl, by simp only [VR]⟩
  case rem =>
    rw [ieq_eq] at h
    by_cases e : c = 0
    · rw [decide_eq_true e] at h; cases h
    · rw [decide_eq_false e] at h; cases h; exact ⟨_, by simp [binOp, Op.intDiv, e]; rfl, by simp only [VR]⟩
  case and => cases h; exact ⟨_, by simp only [binOp, ne_eq, not_true_eq_false, if_false, Op.intBits]; rfl, by simp only [VR]⟩
  case or => cases h; exact ⟨_, by simp only [binOp, ne_eq, not_true_eq_false, if_false, Op.intBits]; rfl, by simp only [VR]⟩
  case xor => cases h; exact ⟨_, by simp only [binOp, ne_eq, not_true_eq_false, if_false, Op.intBits]; rfl, by simp only [VR]⟩
  case lss => cases h; refine ⟨.bool (decide (a < c)), by simp [binOp, Op.intCmp], ?_⟩; simp only [VR, ile_eq]; congr 1; rw [← decide_not]; first | rfl | (congr 1; simp; done) | (simp; done)
  case leq => cases h; refine ⟨.bool (decide (a ≤ c)), by simp [binOp, Op.intCmp], ?_⟩; simp only [VR, ile_eq]
  case gtr => cases h; refine ⟨.bool (decide (a > c)), by simp [binOp, Op.intCmp], ?_⟩; simp only [VR, ile_eq]; congr 1; rw [← decide_not]; first | rfl | (congr 1; simp; done) | (simp; done)
  case geq => cases h; refine ⟨.bool (decide (a ≥ c)), by simp [binOp, Op.intCmp], ?_⟩; simp only [VR, ile_eq]
  all_goals cases h
/-- An equality, guarded. -/
def eqSem (neg : Bool) (t : TypeId) (p q : Operand) (a b : Value) : Sem Value := do eqGuard (if neg then .neq else .eql) t p q a b; binOp (if neg then .neq else .eql) t a b
theorem eqSem_int (neg : Bool) (t : TypeId) (p q : Operand) (k : IntKind) (a b : Int) : (eqSem neg t p q (.int k a) (.int k b)).run P w = .ok (.bool (if neg then !ieq a b else ieq a b)) w := by
  rw [ieq_eq, show decide (a = b) = (a == b) from by by_cases h : a = b <;> simp [h]]
  cases neg <;> simp [eqSem, eqGuard, binOp, Op.intCmp, bne]
theorem eqSem_str (neg : Bool) (t : TypeId) (p q : Operand) {l m : List Nat} (hl : ∀ c ∈ l, c < 256) (hm : ∀ c ∈ m, c < 256) : (eqSem neg t p q (.string (bytesA l)) (.string (bytesA m))).run P w = .ok (.bool (if neg then !beqL l m else beqL l m)) w := by
  rw [← str_beq hl hm]
  cases neg <;> simp [eqSem, eqGuard, binOp, Op.stringOp]
theorem eqSem_gen (neg : Bool) (t : TypeId) (p q : Operand) {a b : Value} {r : Bool} (hg : ∀ o : BinOp, (eqGuard o t p q a b).run P w = .ok () w)
    (hb1 : binOp .eql t a b = (do pure (.bool (← Op.equal t a b)))) (hb2 : binOp .neq t a b = (do pure (.bool (!(← Op.equal t a b))))) (he : (Op.equal t a b).run P w = .ok r w) :
    (eqSem neg t p q a b).run P w = .ok (.bool (if neg then !r else r)) w := by
  unfold eqSem
  cases neg
  · simp [Sem.run_bind, hg, hb1, he]
  · simp [Sem.run_bind, hg, hb2, he]
def eqScal : TypeDesc → Value → Value → Option Bool
  | .bool, .bool x, .bool y => some (x == y)
  | .pointer _, .pointer none, .pointer q => some q.isNone
  | .pointer _, .pointer (some _), .pointer none => some false
  | .slice _, .slice none _ _, .slice q _ _ => some q.isNone
  | .slice _, .slice (some _) _ _, .slice none _ _ => some false
  | .func _ _ _, .nilFunc, .nilFunc => some true
  | .func _ _ _, .func _ _ _, .nilFunc => some false
  | _, _, _ => none
theorem equal_run {t : TypeId} {d : TypeDesc} (hd : P.underlying t = some d) {a b : Value} {r : Bool} (h : eqScal d a b = some r) : (Op.equal t a b).run P w = .ok r w := by
  unfold Op.equal Op.maxDepth
  rw [show (10000 : Nat) = 9999 + 1 from rfl]
  unfold Op.equalIn
  rw [Sem.run_bind, run_underlying hd, Result.andThen_ok]
  unfold eqScal at h
  split at h <;> cases h <;> rfl
theorem run_eqA (hE : EnvOK P E) {t : TypeId} {u : TI} (hu : E.tt.get t = some u) {x y : AV} {r : Bool} (h : eqA u x y = some r) {a b : Value} (hx : VR R n x a) (hy : VR R n y b) (p q : Operand) (neg : Bool) :
    (eqSem neg t p q a b).run P w = .ok (.bool (if neg then !r else r)) w := by
  obtain ⟨heq, ⟨d, hd, hk⟩, -⟩ := hE.tt t u hu
  unfold eqA at h
  split at h <;> (try simp only [VR] at hx hy)
  · rename_i k a' k' c
    subst hx; subst hy
    by_cases e : k = k'
    · subst e
      rw [decide_eq_true rfl, cond_true] at h
      cases h
      exact eqSem_int neg t p q k _ _
    · rw [decide_eq_false e] at h; cases h
  · obtain ⟨rfl, hl⟩ := hx
    obtain ⟨rfl, hm⟩ := hy
    cases h
    exact eqSem_str neg t p q hl hm
  · subst hx; subst hy
    split at h
    · rename_i hk2
      cases h
      rw [hk2] at hk
      obtain rfl : d = .bool := hk
      exact eqSem_gen neg t p q (fun o => by cases o <;> rfl) rfl rfl (equal_run hd rfl)
    · cases h
  · rename_i l m
    obtain ⟨xs, h1, rfl⟩ := hx
    obtain ⟨ys, h2, rfl⟩ := hy
    cases he : u.eq with
    | none => rw [he] at h; cases h
    | some ks =>
      rw [he] at h
      obtain ⟨g1, g2⟩ := heq ks he
      exact eqSem_gen neg t p q (fun o => by cases o <;> simp [eqGuard, g1]) rfl rfl (g2 _ _ _ _ _ _ _ _ _ _ h1 h2 h)
  case h_12 => cases h
  all_goals
    split at h
    · rename_i hk2
      cases h
      rw [hk2] at hk
      first
      | (obtain ⟨_, _, _, rfl⟩ := hk; subst hx; subst hy; exact eqSem_gen neg t p q (fun o => by cases o <;> rfl) rfl rfl (equal_run hd rfl))
      | (obtain ⟨_, _, _, rfl⟩ := hk; subst hy; obtain ⟨_, _, _, _, rfl⟩ := hx; exact eqSem_gen neg t p q (fun o => by cases o <;> rfl) rfl rfl (equal_run hd rfl))
      | (obtain rfl := show d = _ from hk; subst hx; subst hy; exact eqSem_gen neg t p q (fun o => by cases o <;> rfl) rfl rfl (equal_run hd rfl))
      | (obtain rfl := show d = _ from hk; subst hx; obtain ⟨_, rfl⟩ := hy; exact eqSem_gen neg t p q (fun o => by cases o <;> rfl) rfl rfl (equal_run hd rfl))
      | (obtain rfl := show d = _ from hk; subst hy; obtain ⟨_, rfl⟩ := hx; exact eqSem_gen neg t p q (fun o => by cases o <;> rfl) rfl rfl (equal_run hd rfl))
      | (obtain rfl := show d = _ from hk; subst hy; obtain ⟨_, _, _, rfl, _⟩ := hx; exact eqSem_gen neg t p q (fun o => by cases o <;> rfl) rfl rfl (equal_run hd rfl))
      | fail "no arm"
    · cases h
end
end
end Go.Proofs.YtbioklhoolkhkadGreatDoor
namespace Go.Proofs.YtbioklhoolkhkadGreatDoor
set_option linter.unusedVariables false
set_option linter.unusedSimpArgs false
set_option linter.unusedSectionVars false
open Go Go.RowKit
noncomputable section

def allOne : List AV → Bool
  | [] => true
  | x :: l => bif oneA x then allOne l else false
theorem allOne_spec : ∀ {l : List AV}, allOne l = true → ∀ c ∈ l, oneA c = true
  | [], _, c, hc => by cases hc
  | x :: l, h, c, hc => by
    unfold allOne at h
    cases hx : oneA x with
    | false => rw [hx] at h; cases h
    | true =>
      rw [hx, cond_true] at h
      rcases List.mem_cons.1 hc with rfl | hc
      · exact hx
      · exact allOne_spec h c hc
section
variable {P : Program} {E : Env} {F : Nat → Option Obj} {R : Nat → Nat × Nat} {s s' : St} {w0 w : World}
/-- What an operation comes to: a value (or none), and the evaluator's blocks behind it. -/
def OpRes (P : Program) (F : Nat → Option Obj) (R : Nat → Nat × Nat) (n : Nat) (w0 w : World) (m : Sem Next) (r : Option AV) (s' : St) : Prop :=
  ∃ R' w', Ext n R R' ∧ n ≤ s'.nx ∧ HR F R' s' w0 w' ∧ match r with
    | some x => ∃ v, m.run P w = .ok (.value v) w' ∧ VR R' s'.nx x v
    | none => m.run P w = .ok .skip w'
theorem OpRes.val {m : Sem Value} {x : AV} {v : Value} (h : HR F R s w0 w) (hr : m.run P w = .ok v w) (hx : VR R s.nx x v) : OpRes P F R s.nx w0 w (do pure (.value (← m))) (some x) s :=
  ⟨R, w, fun _ _ => rfl, Nat.le_refl _, h, v, by simp [Sem.run_bind, hr], hx⟩
theorem Ext.refl (n : Nat) (R : Nat → Nat × Nat) : Ext n R R := fun _ _ => rfl
/-- A new block. -/
theorem OpRes.new {m : Sem Value} {x : AV} {v : Value} (h : HR F R s w0 w) (blk : Blk) (o : Obj) (sz : Nat) (hb : ∀ R', R' s.nx = (w.heap.size, sz) → Ext s.nx R R' → BR R' (s.nx + 1) sz blk o)
    (hr : m.run P w = .ok v (w.alloc o)) (hx : ∀ R', R' s.nx = (w.heap.size, sz) → Ext s.nx R R' → VR R' (s.nx + 1) x v) : OpRes P F R s.nx w0 w (do pure (.value (← m))) (some x) (s.new blk) := by
  have hR : (fun b => if b = s.nx then (w.heap.size, sz) else R b) s.nx = (w.heap.size, sz) := if_pos rfl
  have hE : Ext s.nx R (fun b => if b = s.nx then (w.heap.size, sz) else R b) := fun b hb => if_neg (by omega)
  obtain ⟨h1, h2⟩ := h.new blk o sz (hb _ hR hE)
  exact ⟨_, _, h2, Nat.le_succ _, h1, v, by simp [Sem.run_bind, hr], hx _ hR hE⟩
theorem BR.row {R : Nat → Nat × Nat} {n : Nat} {e : TypeId} {cs : List AV} {vs : List Value} (h : VRL R n cs vs) (h1 : ∀ c ∈ cs, oneA c = true) : BR R n cs.length (.cells e cs) (.cells vs.toArray e) :=
  ⟨vs.toArray, rfl, by simp [h.length], Nat.le_refl _, by rw [← h.length]; simpa using h, h1⟩
theorem op_alloc (hE : EnvOK P E) (h : HR F R s w0 w) {e : TypeId} {u : TI} (hu : E.tt.get e = some u) {z : AV} (hz : u.z = some z) (h1 : allOne (cellsA z) = true) :
    OpRes P F R s.nx w0 w (do pure (.value (← Instr.alloc e true (.tuple #[])))) (some (.p s.nx 0)) (s.new (.cells e (cellsA z))) := by
  obtain ⟨_, _, i, hi, _, _, hzz⟩ := hE.tt e u hu
  obtain ⟨v, hv, hR⟩ := hzz z hz
  have hc := fun R' => (hR R' (s.nx + 1)).cells
  refine OpRes.new h _ (.cells v.cells e) (cellsA z).length (fun R' _ _ => ?_) (v := .pointer (some ⟨w.heap.size, 0, none⟩)) ?_ fun R' e1 _ => ?_
  · have := BR.row (e := e) (hc R') (allOne_spec h1)
    simpa using this
  · simp [Instr.alloc, zeroValue, typeInfo, hi, hv, newVar, newRow]
  · simp only [VR]; rw [e1]; exact ⟨Nat.lt_succ_self _, rfl⟩
theorem op_box (h : HR F R s w0 w) {e : TypeId} {x : AV} {v : Value} (hx : VR R s.nx x v) (h1 : allOne (cellsA x) = true) :
    OpRes P F R s.nx w0 w (do pure (.value (← Instr.box e v))) (some (.p s.nx 0)) (s.new (.cells e (cellsA x))) := by
  refine OpRes.new h _ (.cells v.cells e) (cellsA x).length (fun R' _ hE => ?_) (v := .pointer (some ⟨w.heap.size, 0, none⟩)) ?_ fun R' e1 _ => ?_
  · have := BR.row (e := e) ((hx.mono (Nat.le_succ _) hE).cells) (allOne_spec h1)
    simpa using this
  · simp [Instr.box, newVar, newRow]
  · simp only [VR]; rw [e1]; exact ⟨Nat.lt_succ_self _, rfl⟩
theorem op_makeMap (h : HR F R s w0 w) (t : TypeId) : OpRes P F R s.nx w0 w (do pure (.value (← Instr.makeMap t none))) (some (.m s.nx)) (s.new (.map [])) := by
  refine OpRes.new h _ (.map #[] 0) 0 (fun R' _ hE => ⟨#[], 0, [], rfl, .nil, by simp [Dist], by simp [VRL], by simp [VRL]⟩) (v := .map (some w.heap.size)) (run_makeMap t w) fun R' e1 _ => ?_
  simp only [VR]; rw [e1]; exact ⟨Nat.lt_succ_self _, rfl⟩
theorem op_fieldAddr (hE : EnvOK P E) {t : TypeId} {u : TI} (hu : E.tt.get t = some u) {fs : List (Nat × TypeId)} (hk : u.k = .str fs) {f q : Nat} {ft : TypeId} (hf : fs[f]? = some (q, ft)) {uf : TI} (huf : E.tt.get ft = some uf) (hn : uf.size ≠ 0) (b o : Nat) :
    (Instr.fieldAt t (.pointer (some ⟨b, o, none⟩)) f).run P w = .ok (.pointer (some ⟨b, o + q, none⟩)) w := by
  obtain ⟨_, ⟨d, hd, hk'⟩, -⟩ := hE.tt t u hu
  obtain ⟨_, _, i, hi, hsz, -⟩ := hE.tt ft uf huf
  rw [hk] at hk'
  obtain ⟨fields, rfl, hfs⟩ := hk'
  have h1 := hfs f
  rw [hf] at h1
  cases hg : fields[f]? with
  | none => rw [hg] at h1; cases h1
  | some fd =>
    rw [hg] at h1
    cases h1
    simp [Instr.fieldAt, run_underlying hd, hg, Instr.sureAddr, fieldPlace, sizeOf, typeInfo, hi, hsz, hn, Addr.add_eq]
theorem op_indexAddr (hE : EnvOK P E) {t : TypeId} {u : TI} (hu : E.tt.get t = some u) {e : TypeId} (hk : u.k = .slice e) {ue : TI} (hue : E.tt.get e = some ue) {n b o l c j q : Nat} {ex : Bool} {v : Value} (hx : VR R n (.sl b o l c ex q) v) {k : IntKind} (hj : j < l) :
    (Instr.indexAt t v (.int k (Int.ofNat j))).run P w = .ok (.pointer (some ⟨(R b).1, o + j * ue.size, none⟩)) w := by
  obtain ⟨_, ⟨d, hd, hk'⟩, -⟩ := hE.tt t u hu
  obtain ⟨_, _, i, hi, hsz, -⟩ := hE.tt e ue hue
  rw [hk] at hk'
  obtain rfl : d = .slice e := hk'
  simp only [VR] at hx
  obtain ⟨_, o', c', rfl, ho, _, _, hlc, _, _⟩ := hx
  have ho' : o' = o := by rcases ho with h | h; · omega
                          · exact h
  subst ho'
  have h1 : (0 : Int) ≤ Int.ofNat j := Int.natCast_nonneg j
  have h2 : Int.ofNat j < (l : Int) := by simpa using hj
  simp [Instr.indexAt, asIntOf, run_underlying hd, sizeOf, typeInfo, hi, hsz, h1, h2, hj, Addr.add_eq]
theorem op_indexAddr_arr (hE : EnvOK P E) {t : TypeId} {u : TI} (hu : E.tt.get t = some u) {n : Nat} {e : TypeId} (hk : u.k = .arr n e) {ue : TI} (hue : E.tt.get e = some ue) (b o : Nat) {j : Nat} {k : IntKind} (hj : j < n) :
    (Instr.indexAt t (.pointer (some ⟨b, o, none⟩)) (.int k (Int.ofNat j))).run P w = .ok (.pointer (some ⟨b, o + j * ue.size, none⟩)) w := by
  obtain ⟨_, ⟨d, hd, hk'⟩, -⟩ := hE.tt t u hu
  obtain ⟨_, _, i, hi, hsz, -⟩ := hE.tt e ue hue
  rw [hk] at hk'
  obtain rfl : d = .array n e := hk'
  have h1 : (0 : Int) ≤ Int.ofNat j := Int.natCast_nonneg j
  have h2 : Int.ofNat j < (n : Int) := by simpa using hj
  simp [Instr.indexAt, asIntOf, run_underlying hd, sizeOf, typeInfo, hi, hsz, h1, h2, hj, Addr.add_eq, Instr.sureAddr]
end
end
end Go.Proofs.YtbioklhoolkhkadGreatDoor
namespace Go.Proofs.YtbioklhoolkhkadGreatDoor
set_option linter.unusedVariables false
set_option linter.unusedSimpArgs false
set_option linter.unusedSectionVars false
open Go Go.RowKit
noncomputable section

theorem fold_set : ∀ (l : List Value) (k off : Nat) (cells : Array Value), off + k + l.length ≤ cells.size →
    ((l.zipIdx k).foldl (fun (cs : Array Value) (p : Value × Nat) => cs.setIfInBounds (off + p.2) p.1) cells).toList = cells.toList.take (off + k) ++ l ++ cells.toList.drop (off + k + l.length)
  | [], k, off, cells, h => by simp
  | v :: l, k, off, cells, h => by
    simp only [List.length_cons] at h
    rw [List.zipIdx_cons, List.foldl_cons, fold_set l (k + 1) off _ (by simp; omega)]
    have e := list_seg_step cells.toList (off + k) v l (by simp; omega)
    simpa [Array.toList_setIfInBounds, Nat.add_assoc] using e
theorem fill_one (cells : Array Value) (v : Value) (off : Nat) (h : off + v.cells.size ≤ cells.size) :
    (v.cells.zipIdx.foldl (fun (cs : Array Value) (p : Value × Nat) => cs.setIfInBounds (off + p.2) p.1) cells).toList = cells.toList.take off ++ v.cells.toList ++ cells.toList.drop (off + v.cells.toList.length) := by
  have := fold_set v.cells.toList 0 off cells (by simpa using h)
  rw [← Array.foldl_toList, Array.toList_zipIdx]
  simpa using this
section
variable {P : Program} {E : Env} {F : Nat → Option Obj} {R : Nat → Nat × Nat} {s s' : St} {w0 w : World} {n : Nat}
theorem fill_sound {place : Nat → Option (Nat × Nat)} {placeA : Nat → Option (Nat × Nat)} (hp : ∀ i o z, placeA i = some (o, z) → place i = some (o, z)) :
    ∀ (ps : List (Nat × AV)) (us : List (Nat × Value)) {cs cs' : List AV} {cells : Array Value}, us.map Prod.fst = ps.map Prod.fst → VRL R n (ps.map Prod.snd) (us.map Prod.snd) → VRL R n cs cells.toList → fillA placeA cs ps = some cs' →
      ∃ cells', Instr.fill place cells us = some cells' ∧ VRL R n cs' cells'.toList
  | [], us, cs, cs', cells, h1, h2, h3, h => by
    cases us with
    | nil => cases h; exact ⟨cells, rfl, h3⟩
    | cons => simp at h1
  | (i, x) :: ps, [], cs, cs', cells, h1, h2, h3, h => by simp at h1
  | (i, x) :: ps, (j, v) :: us, cs, cs', cells, h1, h2, h3, h => by
    simp only [List.map_cons, List.cons.injEq] at h1
    obtain ⟨rfl, h1⟩ := h1
    simp only [List.map_cons, VRL, List.cons.injEq] at h2
    obtain ⟨_, _, ⟨rfl, rfl⟩, hx, h2⟩ := h2
    unfold fillA at h
    cases hpl : placeA j with
    | none => rw [hpl] at h; cases h
    | some p =>
      obtain ⟨o, z⟩ := p
      rw [hpl] at h
      simp only at h
      cases hb : (Nat.beq (cellsA x).length z && Nat.ble (o + z) cs.length) with
      | false => rw [hb] at h; cases h
      | true =>
        rw [hb, cond_true] at h
        rw [Bool.and_eq_true] at hb
        have hz := nbeq_of hb.1
        have hle := nble_of hb.2
        have hcl := hx.cells.length
        have hcs := h3.length
        simp only [Array.length_toList] at hcl hcs
        unfold Instr.fill
        rw [hp _ _ _ hpl]
        simp only
        rw [if_neg (by simp; omega)]
        refine fill_sound hp ps us h1 h2 ?_ h
        rw [fill_one cells v o (by omega), wrL_eq cs o _ (by omega)]
        refine ((h3.take o).append hx.cells).append ?_
        rw [hx.cells.length]
        exact h3.drop _
theorem parts_sound {a : Tree AV} {act : Act} (h : TR R n a act) {ps : List (Nat × Operand)} {xs : List (Nat × AV)} (hx : partsA a ps = some xs) :
    (ps.map fun p => (p.1, act.eval p.2)).map Prod.fst = xs.map Prod.fst ∧ VRL R n (xs.map Prod.snd) ((ps.map fun p => (p.1, act.eval p.2)).map Prod.snd) := by
  obtain ⟨h1, h2⟩ := mapO_some hx
  have key : ∀ (j : Nat) (p : Nat × Operand), ps[j]? = some p → ∃ v, opd a p.2 = some v ∧ xs[j]? = some (p.1, v) := fun j p hp => by
    obtain ⟨y, e1, e2⟩ := h2 j p hp
    cases ho : opd a p.2 with
    | none => rw [ho] at e1; cases e1
    | some v => rw [ho] at e1; cases e1; exact ⟨v, rfl, e2⟩
  constructor
  · apply List.ext_getElem?
    intro j
    simp only [List.getElem?_map]
    cases hp : ps[j]? with
    | none =>
      have : xs[j]? = none := by rw [List.getElem?_eq_none_iff] at hp ⊢; omega
      rw [this]; rfl
    | some p =>
      obtain ⟨v, _, e⟩ := key j p hp
      rw [e]; rfl
  · refine VRL.of (by simp [h1]) fun j x hj => ?_
    rw [List.getElem?_map] at hj
    cases hp : ps[j]? with
    | none =>
      have : xs[j]? = none := by rw [List.getElem?_eq_none_iff] at hp ⊢; omega
      rw [this] at hj; cases hj
    | some p =>
      obtain ⟨v, e1, e⟩ := key j p hp
      rw [e] at hj
      cases hj
      exact ⟨act.eval p.2, by simp [hp], opd_sound h e1⟩
theorem places_sound (hE : EnvOK P E) {fs : List (Nat × TypeId)} {fields : Array Field} (hfs : ∀ i : Nat, fs[i]? = (fields[i]?).map fun f => (f.offset, f.type)) {places : Array (Nat × Nat)}
    (hp : ∀ i : Nat, ∀ f, fields[i]? = some f → ∃ inf, P.info? f.type = some inf ∧ places[i]? = some (f.offset, inf.size)) : ∀ i o z, placeS E fs i = some (o, z) → places[i]? = some (o, z) := fun i o z h => by
  unfold placeS at h
  rw [nthL_eq, hfs] at h
  cases hg : fields[i]? with
  | none => rw [hg] at h; cases h
  | some f =>
    rw [hg] at h
    simp only [Option.map_some] at h
    unfold sizeT at h
    cases ht : E.tt.get f.type with
    | none => rw [ht] at h; cases h
    | some u =>
      rw [ht] at h
      cases h
      obtain ⟨_, _, inf, hi, hsz, -⟩ := hE.tt _ _ ht
      obtain ⟨inf', hi', h2⟩ := hp i f hg
      rw [hi] at hi'
      cases hi'
      rw [h2, hsz]
end
end
end Go.Proofs.YtbioklhoolkhkadGreatDoor
namespace Go.Proofs.YtbioklhoolkhkadGreatDoor
set_option linter.unusedVariables false
set_option linter.unusedSimpArgs false
set_option linter.unusedSectionVars false
open Go Go.RowKit
noncomputable section

def placesS (E : Env) (fs : List (Nat × TypeId)) : Option (List (Nat × Nat)) := mapO (fun p : Nat × TypeId => (sizeT E p.2).map fun n => (p.1, n)) fs
theorem repL_get {α : Type} (z : List α) (hz : 0 < z.length) : ∀ (k i : Nat), i < k * z.length → (repL z k)[i]? = z[i % z.length]?
  | 0, i, h => by simp at h
  | k + 1, i, h => by
    unfold repL
    rw [List.getElem?_append]
    split
    · rename_i hi
      rw [Nat.mod_eq_of_lt hi]
    · rename_i hi
      rw [Nat.succ_mul] at h
      rw [repL_get z hz k _ (by omega), ← Nat.mod_eq_sub_mod (show i ≥ z.length by omega)]
section
variable {P : Program} {E : Env} {F : Nat → Option Obj} {R : Nat → Nat × Nat} {s s' : St} {w0 w : World} {n : Nat}
theorem mapM_places (hE : EnvOK P E) : ∀ (fields : List Field) {pl : List (Nat × Nat)}, placesS E (fields.map fun f => (f.offset, f.type)) = some pl → fields.mapM (fun f => (P.info? f.type).map fun i => (f.offset, i.size)) = some pl
  | [], pl, h => by cases h; rfl
  | f :: fields, pl, h => by
    unfold placesS at h
    simp only [List.map_cons, mapO] at h
    cases ht : sizeT E f.type with
    | none => rw [ht] at h; cases h
    | some z =>
      rw [ht] at h
      simp only [Option.map_some] at h
      split at h
      · cases h
      · rename_i ys hys
        cases h
        have ih := mapM_places hE fields hys
        unfold sizeT at ht
        cases hu : E.tt.get f.type with
        | none => rw [hu] at ht; cases ht
        | some u =>
          rw [hu] at ht
          cases ht
          obtain ⟨_, _, i, hi, hsz, -⟩ := hE.tt _ _ hu
          simp [List.mapM_cons, ih, hi, hsz]
theorem fs_eq {fs : List (Nat × TypeId)} {fields : Array Field} (h : ∀ i : Nat, fs[i]? = (fields[i]?).map fun f => (f.offset, f.type)) : fs = fields.toList.map fun f => (f.offset, f.type) := by
  apply List.ext_getElem?
  intro i
  rw [h, List.getElem?_map, Array.getElem?_toList]
theorem op_build (hE : EnvOK P E) (h : HR F R s w0 w) {t : TypeId} {u : TI} (hu : E.tt.get t = some u) {fs : List (Nat × TypeId)} (hk : u.k = .str fs) {zc : List AV} (hz : u.z = some (.agg zc)) {pl : List (Nat × Nat)} (hpl : placesS E fs = some pl)
    {ps : List (Nat × AV)} {us : Array (Nat × Value)} (h1 : us.toList.map Prod.fst = ps.map Prod.fst) (h2 : VRL R s.nx (ps.map Prod.snd) (us.toList.map Prod.snd)) {cs : List AV} (hf : fillA (nthL pl) zc ps = some cs) :
    OpRes P F R s.nx w0 w (do pure (.value (← Instr.build t us))) (some (.agg cs)) s := by
  obtain ⟨_, ⟨d, hd, hk'⟩, i, hi, hsz, _, hzz⟩ := hE.tt t u hu
  rw [hk] at hk'
  obtain ⟨fields, rfl, hfs⟩ := hk'
  obtain ⟨v, hv, hR⟩ := hzz _ hz
  have hRz := hR R s.nx
  simp only [VR] at hRz
  obtain ⟨vs, hvs, rfl⟩ := hRz
  rw [fs_eq hfs] at hpl
  have hm := mapM_places hE fields.toList hpl
  obtain ⟨cells, h3, h4⟩ := fill_sound (place := fun j => pl.toArray[j]?) (placeA := nthL pl) (fun j o z hj => by rw [nthL_eq] at hj; simpa using hj) ps us.toList h1 h2 (cells := vs.toArray) (by simpa using hvs) hf
  have hb : P.built t us.toList = some cells := by
    unfold Program.built
    simp only [hi, hd, hv, hm, Value.cells]
    exact h3
  refine OpRes.val h (run_build (P := P) w t us cells hb) ?_
  simp only [VR]
  exact ⟨cells.toList, h4, by simp⟩
theorem op_buildSlice (hE : EnvOK P E) (h : HR F R s w0 w) {t : TypeId} {u : TI} (hu : E.tt.get t = some u) {e : TypeId} (hk : u.k = .slice e) {ue : TI} (hue : E.tt.get e = some ue) {z : AV} (hz : ue.z = some z) (hn : (cellsA z).length = ue.size) (hpos : 0 < ue.size)
    {len : Nat} (hsm : len * ue.size ≤ 16777216) {ps : List (Nat × AV)} {us : Array (Nat × Value)} (h1 : us.toList.map Prod.fst = ps.map Prod.fst) (h2 : VRL R s.nx (ps.map Prod.snd) (us.toList.map Prod.snd))
    {cs : List AV} (hf : fillA (fun i => some (i * ue.size, ue.size)) (repL (cellsA z) len) ps = some cs) (hone : allOne cs = true) (hcl : cs.length = len * ue.size) :
    OpRes P F R s.nx w0 w (do pure (.value (← Instr.buildSlice t len us))) (some (.sl s.nx 0 len len true ue.size)) (s.new (.cells e cs)) := by
  obtain ⟨_, ⟨d, hd, hk'⟩, -⟩ := hE.tt t u hu
  obtain ⟨_, _, i, hi, hsz, _, hzz⟩ := hE.tt e ue hue
  rw [hk] at hk'
  obtain rfl : d = .slice e := hk'
  obtain ⟨v, hv, hR⟩ := hzz z hz
  have hzc := (hR R s.nx).cells
  have hvl := hzc.length
  simp only [Array.length_toList] at hvl
  have hini : VRL R s.nx (repL (cellsA z) len) ((Array.range (len * i.size)).map (v.cells[· % v.cells.size]!)).toList := by
    refine VRL.of (by simp [repL_length, hn, hsz]) fun j x hj => ?_
    have hjl : j < len * (cellsA z).length := by have := (List.getElem?_eq_some_iff.1 hj).1; rwa [repL_length] at this
    rw [repL_get _ (by omega) len j hjl] at hj
    obtain ⟨c, e1, e2⟩ := hzc.get hj
    refine ⟨c, ?_, e2⟩
    have hjl' : j < len * i.size := by rw [hsz, ← hn]; exact hjl
    simp only [Array.getElem?_toList, Array.getElem?_map, Array.getElem?_range, hjl', Option.map_some, hvl]
    rw [Array.getElem?_toList] at e1
    simp [hjl', getElem!_def, e1]
  obtain ⟨cells, h3, h4⟩ := fill_sound (place := fun j => some (j * i.size, i.size)) (placeA := fun j => some (j * ue.size, ue.size)) (fun j o y hj => by rw [hsz]; exact hj) ps us.toList h1 h2 hini hf
  have hrun : (Instr.buildSlice t len us).run P w = .ok (.slice (some ⟨w.heap.size, 0, none⟩) len len) (w.alloc (.cells cells e)) := by
    by_cases h0 : len * i.size = 0
    · have hl0 : len = 0 := by rcases Nat.mul_eq_zero.1 h0 with h | h; exact h; omega
      subst hl0
      have : Instr.fill (fun j => some (j * i.size, i.size)) #[] us.toList = some cells := by simpa [show Array.range 0 = #[] from rfl] using h3
      simp [Instr.buildSlice, run_underlying hd, sizeOf, typeInfo, hi, show Array.range 0 = #[] from rfl, this, newRow]
    · exact run_buildSlice (P := P) w t e len us cells i v hd hi hv (by rw [hsz]; omega) h0 h3
  refine OpRes.new h _ (.cells cells e) cs.length (fun R' _ hE' => ?_) hrun fun R' e1 _ => ?_
  · have := BR.row (e := e) (h4.mono (Nat.le_succ _) hE') (allOne_spec hone)
    simpa using this
  · simp only [VR]
    rw [e1]
    refine ⟨Nat.lt_succ_self _, 0, len, rfl, .inr rfl, fun _ => rfl, Nat.le_refl _, Nat.le_refl _, ?_, by rw [hcl]; omega⟩
    have : len ≤ len * ue.size := Nat.le_mul_of_pos_right _ hpos
    unfold maxLen; omega
theorem op_field (hE : EnvOK P E) (h : HR F R s w0 w) {t : TypeId} {u : TI} (hu : E.tt.get t = some u) {fs : List (Nat × TypeId)} (hk : u.k = .str fs) {f q : Nat} {ft : TypeId} (hf : fs[f]? = some (q, ft)) {uf : TI} (huf : E.tt.get ft = some uf)
    {l : List AV} {v : Value} (hx : VR R s.nx (.agg l) v) (hq : q + uf.size ≤ l.length) {x : AV} (hc : ofCells uf (tkL (dpL l q) uf.size) = some x) :
    OpRes P F R s.nx w0 w (do pure (.value (← Instr.field t v f))) (some x) s := by
  obtain ⟨_, ⟨d, hd, hk'⟩, -⟩ := hE.tt t u hu
  obtain ⟨_, ⟨df, hdf, hkf⟩, i, hi, hsz, -⟩ := hE.tt ft uf huf
  rw [hk] at hk'
  obtain ⟨fields, rfl, hfs⟩ := hk'
  have h1 := hfs f
  rw [hf] at h1
  simp only [VR] at hx
  obtain ⟨vs, hvs, rfl⟩ := hx
  have hvl := hvs.length
  cases hg : fields[f]? with
  | none => rw [hg] at h1; cases h1
  | some fd =>
    rw [hg] at h1
    cases h1
    rw [tkL_eq, dpL_eq] at hc
    have hsub := (hvs.drop fd.offset).take uf.size
    unfold ofCells at hc
    cases hr : isRowK uf.k with
    | true =>
      rw [hr, cond_true] at hc
      cases hc
      refine OpRes.val h (v := .agg (vs.toArray.extract fd.offset (fd.offset + i.size))) ?_ ?_
      · simp only [Instr.field, Sem.run_bind, run_underlying hd, Result.andThen_ok, hg, asAgg, Sem.run_pure, part, run_isAgg hdf, hkf.row, hr]
        simp [sizeOf, typeInfo, hi]
      · simp only [VR]
        refine ⟨_, hsub, ?_⟩
        congr 1
        apply Array.ext'
        simp [hsz, List.take_drop]
    | false =>
      rw [hr, cond_false] at hc
      split at hc
      · rename_i y hy
        cases hc
        rw [hy] at hsub
        simp only [VRL] at hsub
        obtain ⟨v, _, e1, h6, rfl⟩ := hsub
        refine OpRes.val h (v := v) ?_ h6
        have hcell : vs[fd.offset]? = some v := by
          have := congrArg (·[0]?) e1
          simp only [List.getElem?_take, List.getElem?_drop] at this
          split at this
          · simpa using this
          · cases this
        simp only [Instr.field, Sem.run_bind, run_underlying hd, Result.andThen_ok, hg, asAgg, Sem.run_pure, part, run_isAgg hdf, hkf.row, hr]
        simp [hcell]
      · cases hc
theorem op_extract (h : HR F R s w0 w) {l : List AV} {v : Value} (hx : VR R s.nx (.tup l) v) {j : Nat} {x : AV} (hj : l[j]? = some x) : OpRes P F R s.nx w0 w (do pure (.value (← Instr.extract v j))) (some x) s := by
  simp only [VR] at hx
  obtain ⟨vs, hvs, rfl⟩ := hx
  obtain ⟨u, e1, e2⟩ := hvs.get hj
  exact OpRes.val h (v := u) (by simp [Instr.extract, e1]) e2
theorem part_sound (hE : EnvOK P E) {ft : TypeId} {uf : TI} (huf : E.tt.get ft = some uf) {l : List AV} {vs : List Value} (hvs : VRL R n l vs) {q : Nat} (hq : q + uf.size ≤ l.length) {x : AV} (hc : ofCells uf (tkL (dpL l q) uf.size) = some x) :
    ∃ v, (part ft vs.toArray q).run P w = .ok v w ∧ VR R n x v := by
  obtain ⟨_, ⟨df, hdf, hkf⟩, i, hi, hsz, -⟩ := hE.tt ft uf huf
  have hvl := hvs.length
  rw [tkL_eq, dpL_eq] at hc
  have hsub := (hvs.drop q).take uf.size
  unfold ofCells at hc
  cases hr : isRowK uf.k with
  | true =>
    rw [hr, cond_true] at hc
    cases hc
    refine ⟨.agg (vs.toArray.extract q (q + i.size)), ?_, ?_⟩
    · simp only [Sem.run_bind, Result.andThen_ok, Sem.run_pure, part, run_isAgg hdf, hkf.row, hr]
      simp [sizeOf, typeInfo, hi]
    · simp only [VR]
      refine ⟨_, hsub, ?_⟩
      congr 1
      apply Array.ext'
      simp [hsz, List.take_drop]
  | false =>
    rw [hr, cond_false] at hc
    split at hc
    · rename_i y hy
      cases hc
      rw [hy] at hsub
      simp only [VRL] at hsub
      obtain ⟨v, _, e1, h6, rfl⟩ := hsub
      refine ⟨v, ?_, h6⟩
      have hcell : vs[q]? = some v := by
        have := congrArg (·[0]?) e1
        simp only [List.getElem?_take, List.getElem?_drop] at this
        split at this
        · simpa using this
        · cases this
      simp only [Sem.run_bind, Result.andThen_ok, Sem.run_pure, part, run_isAgg hdf, hkf.row, hr]
      simp [hcell]
    · cases hc
theorem op_index_arr (hE : EnvOK P E) (h : HR F R s w0 w) {t : TypeId} {u : TI} (hu : E.tt.get t = some u) {m : Nat} {e : TypeId} (hk : u.k = .arr m e) {ue : TI} (hue : E.tt.get e = some ue) {l : List AV} {v : Value} (hx : VR R s.nx (.agg l) v) {j : Nat} {k : IntKind} (hj : j < m) (hq : j * ue.size + ue.size ≤ l.length)
    {x : AV} (hc : ofCells ue (tkL (dpL l (j * ue.size)) ue.size) = some x) : OpRes P F R s.nx w0 w (do pure (.value (← Instr.index t v (.int k (Int.ofNat j))))) (some x) s := by
  obtain ⟨_, ⟨d, hd, hk'⟩, -⟩ := hE.tt t u hu
  obtain ⟨_, _, i, hi, hsz, -⟩ := hE.tt e ue hue
  rw [hk] at hk'
  obtain rfl : d = .array m e := hk'
  simp only [VR] at hx
  obtain ⟨vs, hvs, rfl⟩ := hx
  obtain ⟨v, hv, hR⟩ := part_sound (P := P) (w := w) hE hue hvs hq hc
  refine OpRes.val h ?_ hR
  have h1 : (0 : Int) ≤ Int.ofNat j := Int.natCast_nonneg j
  have h2 : Int.ofNat j < (m : Int) := by simpa using hj
  simp only [Instr.index, asIntOf, Sem.run_bind, Sem.run_pure, Result.andThen_ok, run_underlying hd]
  rw [if_pos ⟨h1, h2⟩]
  simp only [Sem.run_bind, sizeOf, typeInfo]
  simpa [hi, hsz] using hv
theorem op_build_arr (hE : EnvOK P E) (h : HR F R s w0 w) {t : TypeId} {u : TI} (hu : E.tt.get t = some u) {m : Nat} {e : TypeId} (hk : u.k = .arr m e) {ue : TI} (hue : E.tt.get e = some ue) {zc : List AV} (hz : u.z = some (.agg zc))
    {ps : List (Nat × AV)} {us : Array (Nat × Value)} (h1 : us.toList.map Prod.fst = ps.map Prod.fst) (h2 : VRL R s.nx (ps.map Prod.snd) (us.toList.map Prod.snd)) {cs : List AV} (hf : fillA (fun i => some (i * ue.size, ue.size)) zc ps = some cs) :
    OpRes P F R s.nx w0 w (do pure (.value (← Instr.build t us))) (some (.agg cs)) s := by
  obtain ⟨_, ⟨d, hd, hk'⟩, i, hi, hsz, _, hzz⟩ := hE.tt t u hu
  obtain ⟨_, _, i2, hi2, hsz2, -⟩ := hE.tt e ue hue
  rw [hk] at hk'
  obtain rfl : d = .array m e := hk'
  obtain ⟨v, hv, hR⟩ := hzz _ hz
  have hRz := hR R s.nx
  simp only [VR] at hRz
  obtain ⟨vs, hvs, rfl⟩ := hRz
  obtain ⟨cells, h3, h4⟩ := fill_sound (place := fun i => some (i * i2.size, i2.size)) (placeA := fun i => some (i * ue.size, ue.size)) (fun j o z hj => by rw [hsz2]; exact hj) ps us.toList h1 h2 (cells := vs.toArray) (by simpa using hvs) hf
  refine OpRes.val h (v := .agg cells) ?_ ?_
  · simp only [Instr.build, zeroValue, sizeOf, typeInfo, Sem.run_bind]
    simp [hi, hv, run_underlying hd, hi2, Value.cells, h3]
  · simp only [VR]
    exact ⟨cells.toList, h4, by simp⟩
end
end
end Go.Proofs.YtbioklhoolkhkadGreatDoor
namespace Go.Proofs.YtbioklhoolkhkadGreatDoor
set_option linter.unusedVariables false
set_option linter.unusedSimpArgs false
set_option linter.unusedSectionVars false
open Go Go.RowKit
noncomputable section

section
variable {P : Program} {E : Env} {F : Nat → Option Obj} {R : Nat → Nat × Nat} {s s' : St} {w0 w : World} {n : Nat}
theorem toN_spec {x : AV} {j : Nat} (h : toN x = some j) : ∃ k, x = .i k (Int.ofNat j) := by
  unfold toN at h
  split at h
  · cases h; exact ⟨_, rfl⟩
  · cases h
theorem bytesA_extract (x : List Nat) (l h : Nat) : (bytesA x).extract l h = bytesA ((x.drop l).take (h - l)) := by
  apply ByteArray.ext
  simp [bytesA, List.take_drop]
theorem op_makeSlice (hE : EnvOK P E) (h : HR F R s w0 w) {t : TypeId} {u : TI} (hu : E.tt.get t = some u) {e : TypeId} (hk : u.k = .slice e) {ue : TI} (hue : E.tt.get e = some ue) {z : AV} (hz : ue.z = some z) (hn : (cellsA z).length = ue.size) (hpos : 0 < ue.size)
    {c : Nat} (hsm : c * ue.size ≤ 16777216) (hby : ue.bytes * c ≤ 281474976710656) (hone : allOne (cellsA z) = true) (k k' : IntKind) :
    OpRes P F R s.nx w0 w (do pure (.value (← Instr.makeSlice t (.int k (Int.ofNat c)) (.int k' (Int.ofNat c))))) (some (.sl s.nx 0 c c true ue.size)) (s.new (.cells e (repL (cellsA z) c))) := by
  obtain ⟨_, ⟨d, hd, hk'⟩, -⟩ := hE.tt t u hu
  obtain ⟨_, _, i, hi, hsz, hbz, hzz⟩ := hE.tt e ue hue
  rw [hk] at hk'
  obtain rfl : d = .slice e := hk'
  obtain ⟨v, hv, hR⟩ := hzz z hz
  have hcl : c ≤ c * ue.size := Nat.le_mul_of_pos_right _ hpos
  have hr := run_makeSlice (P := P) w t e i v hd hi hv k k' (c : Int) (c : Int) (by omega) (by omega) (by rw [Int.toNat_natCast, hsz]; exact hsm) (by rw [hbz, ← Int.natCast_mul]; omega) (by omega)
  rw [Int.toNat_natCast] at hr
  have hzc := fun R' => (hR R' (s.nx + 1)).cells
  have hvl := (hzc R).length
  simp only [Array.length_toList] at hvl
  have hini : ∀ R', VRL R' (s.nx + 1) (repL (cellsA z) c) (madeCells v.cells (c * i.size)).toList := fun R' => by
    refine VRL.of (by rw [Array.length_toList, size_madeCells, repL_length, hn, hsz]) fun j x hj => ?_
    have hjl : j < c * (cellsA z).length := by have := (List.getElem?_eq_some_iff.1 hj).1; rwa [repL_length] at this
    rw [repL_get _ (by omega) c j hjl] at hj
    obtain ⟨y, e1, e2⟩ := (hzc R').get hj
    refine ⟨y, ?_, e2⟩
    have hjl' : j < c * i.size := by rw [hsz, ← hn]; exact hjl
    unfold madeCells
    simp only [Array.getElem?_toList, Array.getElem?_map, Array.getElem?_range, hjl', Option.map_some, hvl]
    rw [Array.getElem?_toList] at e1
    simp [hjl', getElem!_def, e1]
  have hao : ∀ x ∈ repL (cellsA z) c, oneA x = true := fun x hx => by
    obtain ⟨j, hj, rfl⟩ := List.mem_iff_getElem.1 hx
    have hjl : j < c * (cellsA z).length := by rwa [repL_length] at hj
    have := repL_get (cellsA z) (by omega) c j hjl
    rw [List.getElem?_eq_getElem hj, List.getElem?_eq_getElem (Nat.mod_lt _ (by omega))] at this
    rw [Option.some.inj this]
    exact allOne_spec hone _ (List.getElem_mem _)
  refine OpRes.new h _ (.cells (madeCells v.cells (c * i.size)) e) (repL (cellsA z) c).length (fun R' _ hE' => ?_) hr fun R' e1 _ => ?_
  · have := BR.row (e := e) (hini R') hao
    simpa using this
  · simp only [VR]
    rw [e1]
    exact ⟨Nat.lt_succ_self _, 0, c, rfl, .inr rfl, fun _ => rfl, Nat.le_refl _, Nat.le_refl _, by unfold maxLen; omega, by rw [repL_length, hn]; omega⟩
theorem bnd_sound {a : Tree AV} {act : Act} (h : TR R n a act) {o : Option Operand} {x : Option AV} (hx : (match o with | some o => (opd a o).map some | none => some none) = some x) {j m : Nat} (hj : bndA x m = some j) :
    (o = none ∧ j = m) ∨ ∃ k o', o = some o' ∧ act.eval o' = .int k (j : Int) := by
  cases o with
  | none => cases hx; cases hj; exact .inl ⟨rfl, rfl⟩
  | some o' =>
    simp only at hx
    cases hv : opd a o' with
    | none => rw [hv] at hx; cases hx
    | some v =>
      rw [hv] at hx
      cases hx
      obtain ⟨k, rfl⟩ := toN_spec hj
      have := opd_sound h hv
      simp only [VR] at this
      exact .inr ⟨k, o', rfl, this⟩
theorem op_slice (hE : EnvOK P E) (h : HR F R s w0 w) {a : Tree AV} {act : Act} (hT : TR R s.nx a act) {t : TypeId} {u : TI} (hu : E.tt.get t = some u) {x : AV} {v : Value} (hx : VR R s.nx x v) {lo hi : Option Operand} {l h' : Option AV}
    (hl : (match lo with | some o => (opd a o).map some | none => some none) = some l) (hh : (match hi with | some o => (opd a o).map some | none => some none) = some h') {y : AV} (hy : sliceA E s u x l h' = some y) :
    OpRes P F R s.nx w0 w (do pure (.value (← Instr.sliceAt t v (lo.map act.eval) (hi.map act.eval) none))) (some y) s := by
  obtain ⟨_, ⟨d, hd, hk⟩, -⟩ := hE.tt t u hu
  unfold sliceA at hy
  cases hbl : bndA l 0 with
  | none => rw [hbl] at hy; cases hy
  | some lj =>
    rw [hbl] at hy
    simp only at hy
    have hlo := bnd_sound hT hl hbl
    split at hy
    · rename_i e b o m c ex zq hke
      rw [hke] at hk
      obtain rfl : d = .slice e := hk
      cases hbh : bndA h' m with
      | none => rw [hbh] at hy; cases hy
      | some hj =>
        rw [hbh] at hy
        simp only at hy
        cases hsz : sizeT E e with
        | none => rw [hsz] at hy; cases hy
        | some z =>
          rw [hsz] at hy
          simp only at hy
          cases hb : (Nat.ble lj hj && (Nat.ble hj m || Nat.ble hj c) && Nat.beq z zq) with
          | false => rw [hb] at hy; cases hy
          | true =>
            rw [hb, cond_true] at hy
            cases hy
            rw [Bool.and_eq_true, Bool.and_eq_true] at hb
            have h1 := nble_of hb.1.1
            have h2 := hb.1.2
            rw [Bool.or_eq_true] at h2
            have hzq := nbeq_of hb.2
            have hhi := bnd_sound hT hh hbh
            unfold sizeT at hsz
            cases hue : E.tt.get e with
            | none => rw [hue] at hsz; cases hsz
            | some ue =>
              rw [hue] at hsz
              cases hsz
              obtain ⟨_, _, i, hi', hsi, -⟩ := hE.tt e ue hue
              simp only [VR] at hx
              obtain ⟨hbn, o', c', rfl, ho, hex, hccl, hlc, hcm, hfit⟩ := hx
              have h2 : hj ≤ c' := by rcases h2 with h2 | h2 <;> have := nble_of h2 <;> omega
              have e1 : (0 : Int) ≤ (lj : Int) := by omega
              have e2 : (0 : Int) ≤ (hj : Int) := by omega
              have e3 : (lj : Int) ≤ (hj : Int) := by omega
              have e4 : (hj : Int) ≤ (c' : Int) := by omega
              have n4 : hj ≤ c' := by omega
              have hrun : (Instr.sliceAt t (.slice (some ⟨(R b).1, o', none⟩) m c') (lo.map act.eval) (hi.map act.eval) none).run P w = .ok (.slice (some (if c' = lj then ⟨(R b).1, o', none⟩ else ⟨(R b).1, o' + lj * ue.size, none⟩)) (hj - lj) (c' - lj)) w := by
                rcases hlo with ⟨rfl, rfl⟩ | ⟨k1, q1, rfl, hq1⟩ <;> rcases hhi with ⟨rfl, rfl⟩ | ⟨k2, q2, rfl, hq2⟩
                · simp [Instr.sliceAt, Instr.slice, run_underlying hd, Instr.sliceBounds, sizeOf, typeInfo, hi', hsi, Addr.add_eq]
                · simp [Instr.sliceAt, Instr.slice, run_underlying hd, Instr.sliceBounds, Instr.sliceBound, asIntOf, hq2, sizeOf, typeInfo, hi', hsi, Addr.add_eq, e2, e4, n4]
                · simp [Instr.sliceAt, Instr.slice, run_underlying hd, Instr.sliceBounds, Instr.sliceBound, asIntOf, hq1, sizeOf, typeInfo, hi', hsi, Addr.add_eq, e1, e3, h1]
                  split <;> rfl
                · simp [Instr.sliceAt, Instr.slice, run_underlying hd, Instr.sliceBounds, Instr.sliceBound, asIntOf, hq1, hq2, sizeOf, typeInfo, hi', hsi, Addr.add_eq, e1, e2, e3, e4, n4, h1]
                  split <;> rfl
              refine OpRes.val h hrun ?_
              simp only [VR]
              refine ⟨hbn, if c' = lj then o' else o' + lj * ue.size, c' - lj, ?_, ?_, fun hx => by rw [hex hx], by omega, by omega, by omega, ?_⟩
              · congr 2; split <;> rfl
              · by_cases hc : c' = lj
                · exact .inl (by omega)
                · rw [if_neg hc]
                  rcases ho with h0 | h0
                  · exact .inl (by omega)
                  · exact .inr (by rw [h0])
              · have hfit' : o' + c' * ue.size ≤ (R b).2 := by rw [show ue.size = zq from hzq]; exact hfit
                have hm : lj * ue.size ≤ c' * ue.size := Nat.mul_le_mul_right _ (by omega)
                rw [Nat.sub_mul]
                split <;> omega
    · rename_i e hke
      rw [hke] at hk
      obtain rfl : d = .slice e := hk
      cases hbh : bndA h' 0 with
      | none => rw [hbh] at hy; cases hy
      | some hj =>
        rw [hbh] at hy
        simp only at hy
        cases hsz : sizeT E e with
        | none => rw [hsz] at hy; cases hy
        | some z =>
          rw [hsz] at hy
          simp only at hy
          cases hb : (Nat.ble lj hj && Nat.ble hj 0) with
          | false => rw [hb] at hy; cases hy
          | true =>
            rw [hb, cond_true] at hy
            cases hy
            rw [Bool.and_eq_true] at hb
            have h1 := nble_of hb.1
            have h2 := nble_of hb.2
            obtain rfl : hj = 0 := by omega
            obtain rfl : lj = 0 := by omega
            have hhi := bnd_sound hT hh hbh
            unfold sizeT at hsz
            cases hue : E.tt.get e with
            | none => rw [hue] at hsz; cases hsz
            | some ue =>
              obtain ⟨_, _, i, hi', hsi, -⟩ := hE.tt e ue hue
              simp only [VR] at hx
              subst hx
              refine OpRes.val h (v := .slice none 0 0) ?_ (by simp only [VR])
              rcases hlo with ⟨rfl, _⟩ | ⟨k1, q1, rfl, hq1⟩ <;> rcases hhi with ⟨rfl, _⟩ | ⟨k2, q2, rfl, hq2⟩
              · simp [Instr.sliceAt, Instr.slice, run_underlying hd, Instr.sliceBounds, sizeOf, typeInfo, hi']
              · simp [Instr.sliceAt, Instr.slice, run_underlying hd, Instr.sliceBounds, Instr.sliceBound, asIntOf, hq2, sizeOf, typeInfo, hi']
              · simp [Instr.sliceAt, Instr.slice, run_underlying hd, Instr.sliceBounds, Instr.sliceBound, asIntOf, hq1, sizeOf, typeInfo, hi']
              · simp [Instr.sliceAt, Instr.slice, run_underlying hd, Instr.sliceBounds, Instr.sliceBound, asIntOf, hq1, hq2, sizeOf, typeInfo, hi']
    · rename_i x' hke
      rw [hke] at hk
      obtain rfl : d = .string := hk
      simp only [VR] at hx
      obtain ⟨rfl, hx2⟩ := hx
      cases hbh : bndA h' x'.length with
      | none => rw [hbh] at hy; cases hy
      | some hj =>
        rw [hbh] at hy
        simp only at hy
        cases hb : (Nat.ble lj hj && Nat.ble hj x'.length) with
        | false => rw [hb] at hy; cases hy
        | true =>
          rw [hb, cond_true] at hy
          cases hy
          rw [Bool.and_eq_true] at hb
          have h1 := nble_of hb.1
          have h2 := nble_of hb.2
          have hhi := bnd_sound hT hh hbh
          have e1 : (0 : Int) ≤ (lj : Int) := by omega
          have e2 : (0 : Int) ≤ (hj : Int) := by omega
          have n5 : lj ≤ x'.length := by omega
          refine OpRes.val h (v := .string ((bytesA x').extract lj hj)) ?_ ?_
          · rcases hlo with ⟨rfl, rfl⟩ | ⟨k1, q1, rfl, hq1⟩ <;> rcases hhi with ⟨rfl, rfl⟩ | ⟨k2, q2, rfl, hq2⟩
            · simp [Instr.sliceAt, Instr.slice, run_underlying hd, Instr.sliceBounds, bytesA_size]
              rw [bytesA_extract]; simp
            · simp [Instr.sliceAt, Instr.slice, run_underlying hd, Instr.sliceBounds, Instr.sliceBound, asIntOf, hq2, bytesA_size, e2, h2]
            · simp [Instr.sliceAt, Instr.slice, run_underlying hd, Instr.sliceBounds, Instr.sliceBound, asIntOf, hq1, bytesA_size, e1, n5, h1]
            · simp [Instr.sliceAt, Instr.slice, run_underlying hd, Instr.sliceBounds, Instr.sliceBound, asIntOf, hq1, hq2, bytesA_size, e1, e2, h1, h2]
          · simp only [VR]
            rw [bytesA_extract, tkL_eq, dpL_eq]
            exact ⟨rfl, fun c hc => hx2 c (List.mem_of_mem_drop (List.mem_of_mem_take hc))⟩
    · cases hy
/-- A slice cut, with its capacity. -/
theorem op_sliceM (hE : EnvOK P E) (h : HR F R s w0 w) {a : Tree AV} {act : Act} (hT : TR R s.nx a act) {t : TypeId} {u : TI} (hu : E.tt.get t = some u) {x : AV} {v : Value} (hx : VR R s.nx x v) {lo : Option Operand} {hi mo : Operand} {l : Option AV} {h' mv : AV}
    (hl : (match lo with | some o => (opd a o).map some | none => some none) = some l) (hh : opd a hi = some h') (hm : opd a mo = some mv) {y : AV} (hy : sliceM E s u x l h' mv = some y) :
    OpRes P F R s.nx w0 w (do pure (.value (← Instr.sliceAt t v (lo.map act.eval) (some (act.eval hi)) (some (act.eval mo))))) (some y) s := by
  obtain ⟨_, ⟨d, hd, hk⟩, -⟩ := hE.tt t u hu
  unfold sliceM at hy
  cases hbl : bndA l 0 with
  | none => rw [hbl] at hy; cases hy
  | some lj =>
    rw [hbl] at hy
    simp only at hy
    have hlo := bnd_sound hT hl hbl
    cases hbm : toN mv with
    | none => rw [hbm] at hy; cases hy
    | some mj =>
      rw [hbm] at hy
      simp only at hy
      obtain ⟨km, rfl⟩ := toN_spec hbm
      have hmv := opd_sound hT hm
      simp only [VR] at hmv
      split at hy <;> try (cases hy; done)
      rename_i e b o m c ex zq hke
      rw [hke] at hk
      obtain rfl : d = .slice e := hk
      cases hbh : toN h' with
      | none => rw [hbh] at hy; cases hy
      | some hj =>
        rw [hbh] at hy
        simp only at hy
        obtain ⟨kh, rfl⟩ := toN_spec hbh
        have hhv := opd_sound hT hh
        simp only [VR] at hhv
        cases hsz : sizeT E e with
        | none => rw [hsz] at hy; cases hy
        | some z =>
          rw [hsz] at hy
          simp only at hy
          cases hb : (Nat.ble lj hj && Nat.ble hj mj && Nat.ble mj m && Nat.beq z zq) with
          | false => rw [hb] at hy; cases hy
          | true =>
            rw [hb, cond_true] at hy
            cases hy
            simp only [Bool.and_eq_true] at hb
            have h1 := nble_of hb.1.1.1
            have h2 := nble_of hb.1.1.2
            have h3 := nble_of hb.1.2
            have hzq := nbeq_of hb.2
            unfold sizeT at hsz
            cases hue : E.tt.get e with
            | none => rw [hue] at hsz; cases hsz
            | some ue =>
              rw [hue] at hsz
              cases hsz
              obtain ⟨_, _, i, hi', hsi, -⟩ := hE.tt e ue hue
              simp only [VR] at hx
              obtain ⟨hbn, o', c', rfl, ho, hex, hccl, hlc, hcm, hfit⟩ := hx
              have e1 : (0 : Int) ≤ (lj : Int) := by omega
              have e2 : (0 : Int) ≤ (hj : Int) := by omega
              have e3 : (lj : Int) ≤ (hj : Int) := by omega
              have e4 : (hj : Int) ≤ (mj : Int) := by omega
              have e5 : (mj : Int) ≤ (c' : Int) := by omega
              have e6 : (0 : Int) ≤ (mj : Int) := by omega
              have n1 : lj ≤ mj := by omega
              have n5 : mj ≤ c' := by omega
              have hrun : (Instr.sliceAt t (.slice (some ⟨(R b).1, o', none⟩) m c') (lo.map act.eval) (some (act.eval hi)) (some (act.eval mo))).run P w = .ok (.slice (some (if mj = lj then ⟨(R b).1, o', none⟩ else ⟨(R b).1, o' + lj * ue.size, none⟩)) (hj - lj) (mj - lj)) w := by
                rw [hmv, hhv]
                rcases hlo with ⟨rfl, rfl⟩ | ⟨k1, q1, rfl, hq1⟩
                · simp [Instr.sliceAt, Instr.slice, run_underlying hd, Instr.sliceBounds, Instr.sliceBound, asIntOf, sizeOf, typeInfo, hi', hsi, Addr.add_eq, e2, e4, e6, e5, n5, h2]
                · simp [Instr.sliceAt, Instr.slice, run_underlying hd, Instr.sliceBounds, Instr.sliceBound, asIntOf, hq1, sizeOf, typeInfo, hi', hsi, Addr.add_eq, e1, e2, e3, e4, e5, e6, n5, h1, h2, n1]
                  split <;> rfl
              refine OpRes.val h hrun ?_
              simp only [VR]
              refine ⟨hbn, if mj = lj then o' else o' + lj * ue.size, mj - lj, ?_, ?_, fun _ => rfl, by omega, by omega, by omega, ?_⟩
              · congr 2; split <;> rfl
              · by_cases hc : mj = lj
                · exact .inl (by omega)
                · rw [if_neg hc]
                  rcases ho with h0 | h0
                  · exact .inl (by omega)
                  · exact .inr (by rw [h0])
              · have hfit' : o' + c' * ue.size ≤ (R b).2 := by rw [show ue.size = zq from hzq]; exact hfit
                have hm1 : mj * ue.size ≤ c' * ue.size := Nat.mul_le_mul_right _ n5
                have hm2 : lj * ue.size ≤ mj * ue.size := Nat.mul_le_mul_right _ n1
                rw [Nat.sub_mul]
                split <;> omega
end
end
end Go.Proofs.YtbioklhoolkhkadGreatDoor
