/- An evaluator of closed calls, made ready for the kernel: pieces. No program in sight. An evaluator of closed calls: rounds of a loop in pieces; a call evaluated ahead in pieces. No program in sight. -/
import Derived.Test.YtbioklhoolkhkadGreatDoorK08
import Derived.LoopNIn
namespace Go.Proofs.YtbioklhoolkhkadGreatDoor
set_option linter.unusedVariables false
set_option linter.unusedSimpArgs false
set_option linter.unusedSectionVars false
open Go Go.RowKit
noncomputable section

def kL (K : KE) (inr : Bool) (nt : Nat) (l : List Code) : Tree AV → St → Option (Ex × Tree AV × St) := List.rec (fun a s => some (.nrm, a, s)) (fun c _ ih a s => Option.rec none (fun r => Prod.rec (fun x p => Ex.rec (Prod.rec (fun a s => ih a s) p) (fun i => some (.exit i, p)) (fun l => some (.goto l, p)) (some (.ret, p)) x) r) (K.e inr nt c a s)) l
theorem kL_eq {E : Env} {draw : Draw} {n : Nat} {K : KE} (hK : K.e = ev E draw n) (inr : Bool) (nt : Nat) : ∀ (l : List Code) (a : Tree AV) (s : St), kL K inr nt l a s = evL E draw n inr nt l a s
  | [], a, s => rfl
  | c :: l, a, s => by
    show (Option.rec none (fun r => Prod.rec (fun x p => Ex.rec (Prod.rec (fun a s => kL K inr nt l a s) p) (fun i => some (.exit i, p)) (fun l => some (.goto l, p)) (some (.ret, p)) x) r) (K.e inr nt c a s) : Option (Ex × Tree AV × St)) = _
    simp only [evL]
    rw [hK]
    cases ev E draw n inr nt c a s with
    | none => rfl
    | some r =>
      obtain ⟨x, a', s'⟩ := r
      cases x
      case nrm => exact kL_eq hK inr nt l a' s'
      all_goals rfl
def pieceK (E : Env) (n : Nat) (nt : Nat) (l : List Code) (ta : List (Nat × AV)) (sb : List (Nat × Blk)) (nx : Nat) (x : Ex) (ta' : List (Nat × AV)) (sb' : List (Nat × Blk)) (nx' : Nat) : Bool :=
  match kL (kE E (kdraw E) n) false nt l (treeOf ta) ⟨treeOf sb, nx⟩ with
  | some (y, a, s) => eqEx y x && subT a ta' && subB s.h sb' && Nat.beq s.nx nx'
  | none => false
theorem pieceK_eq {E : Env} {n : Nat} {nt : Nat} {l : List Code} {ta : List (Nat × AV)} {sb : List (Nat × Blk)} {nx : Nat} {x : Ex} {ta' : List (Nat × AV)} {sb' : List (Nat × Blk)} {nx' : Nat} : pieceK E n nt l ta sb nx x ta' sb' nx' = pieceB E (drawA E) n nt l ta sb nx x ta' sb' nx' := by
  unfold pieceK pieceB
  rw [kL_eq (kE_eq (draw := drawA E) (kdraw_eq E) n).1]
  cases evL E (drawA E) n false nt l (treeOf ta) ⟨treeOf sb, nx⟩ <;> rfl
def litK (E : Env) (n : Nat) (c : LitC) : Bool := match (kE E (kdraw E) n).call (.fn c.f c.fst c.caps) c.xs ⟨treeOf c.sb, c.nx⟩ with
  | some (r, s) => eqV r c.r && subB s.h c.sb' && Nat.beq s.nx c.nx'
  | none => false
theorem litK_eq {E : Env} {n : Nat} {c : LitC} : litK E n c = litB E (drawA E) n c := by
  unfold litK litB
  rw [(kE_eq (draw := drawA E) (kdraw_eq E) n).2]
  cases callE E (drawA E) n (.fn c.f c.fst c.caps) c.xs ⟨treeOf c.sb, c.nx⟩ <;> rfl
end
end Go.Proofs.YtbioklhoolkhkadGreatDoor
namespace Go.Proofs.YtbioklhoolkhkadGreatDoor
set_option linter.unusedVariables false
set_option linter.unusedSimpArgs false
set_option linter.unusedSectionVars false
open Go Go.RowKit
noncomputable section

/-- A list again and again. -/
def rpt {α : Type} (k : Nat) (l : List α) : List α := Nat.rec [] (fun _ r => l ++ r) k
def eqX : Ex → Ex → Bool
  | .nrm, .nrm => true
  | .ret, .ret => true
  | .exit i, .exit j => Nat.beq i j
  | _, _ => false
theorem eqX_of {x y : Ex} (h : eqX x y = true) : x = y := by
  cases x <;> cases y <;> first | rfl | (cases h; done) | skip
  rename_i i j
  have := Nat.eq_of_beq_eq_true h
  rw [this]
/-- A piece that may be left. -/
def pieceX (E : Env) (n : Nat) (nt : Nat) (l : List Code) (ta : List (Nat × AV)) (sb : List (Nat × Blk)) (nx : Nat) (x : Ex) (ta' : List (Nat × AV)) (sb' : List (Nat × Blk)) (nx' : Nat) : Bool :=
  match kL (kE E (kdraw E) n) false nt l (treeOf ta) ⟨treeOf sb, nx⟩ with
  | some (y, a, s) => eqX y x && subT a ta' && subB s.h sb' && Nat.beq s.nx nx'
  | none => false
section
variable {P : Program} {E : Env} {F : Fence} {m : Nat} {Q : Exit → Act → World → Prop}
theorem pieceX_ok (hE : EnvOK P E) (hD : DrawOK P (drawA E)) {n nt : Nat} {l : List Code} {ta ta' : List (Nat × AV)} {sb sb' : List (Nat × Blk)} {nx nx' : Nat} {x : Ex} (h : pieceX E n nt l ta sb nx x ta' sb' nx' = true) :
    PieceOK P false nt l (treeOf ta) ⟨treeOf sb, nx⟩ x (treeOf ta') ⟨treeOf sb', nx'⟩ := by
  unfold pieceX at h
  rw [kL_eq (kE_eq (draw := drawA E) (kdraw_eq E) n).1] at h
  split at h <;> try (cases h; done)
  rename_i y a s hev
  simp only [Bool.and_eq_true] at h
  obtain ⟨⟨⟨h1, h2⟩, h3⟩, h4⟩ := h
  have hyx : y = x := eqX_of h1
  subst hyx
  have h4 := nbeq_of h4
  intro F m fr R w0 w ds act Q hF hro hrel hQ
  refine evL_sound hE hD l hev F m fr R w0 w ds act Q hF hro hrel fun fr1 ds1 R1 act1 w1 hG1 hE1 hn1 hr1 => ?_
  have hsub : ∀ b blk, (treeOf sb').get b = some blk → s.h.get b = some blk := fun b blk hb => subB_of h3 _ (treeOf_get hb)
  have hsub2 : ∀ b, (treeOf sb').get b ≠ none → s.h.get b ≠ none := fun b hb => by
    cases hx : (treeOf sb').get b with
    | none => exact absurd hx hb
    | some blk => rw [hsub b blk hx]; simp
  refine hQ fr1 ds1 R1 act1 w1 hG1 hE1 (by rw [← h4]; exact hn1) ⟨?_, fun t z hz => ?_, hr1.nt, hr1.ds⟩
  · have := hr1.hr
    rw [← h4]
    exact ⟨this.os, this.tape, this.output, this.fr, fun b hb => this.lt b (hsub2 b hb), fun b z hz => this.own b z (hsub b z hz), fun b c hb hc e => this.inj b c (hsub2 b hb) (hsub2 c hc) e⟩
  · rw [← h4]
    exact hr1.tr t z (subT_of h2 _ (treeOf_get hz))

/-- Rounds, and then what they come to. -/
def Then (K : Act → World → Prop) (Q : Exit → Act → World → Prop) : Exit → Act → World → Prop := Exit.then K Q
theorem WL_rounds {c : Code} {k : Nat} : ∀ (j : Nat) {a : Act} {w : World}, WL F m P (Exit.then (Code.roundsIn F m P c Q k) Q) (rpt j (flatC c)) a w → Code.roundsIn F m P c Q (j + k) a w
  | 0, a, w, h => by
    rw [Nat.zero_add]
    exact h
  | j + 1, a, w, h => by
    rw [show j + 1 + k = (j + k) + 1 by omega, roundsIn_succ]
    have h' : WL F m P (Exit.then (Code.roundsIn F m P c Q k) Q) (flatC c ++ rpt j (flatC c)) a w := h
    refine wpIn_mono (WL_flat c h') fun e a w he => ?_
    cases e with
    | normal => exact WL_rounds j he
    | exit id => exact he
    | goto l => exact he
    | ret => exact he
    | panic c => exact he
    | outgrown => exact he
/-- A loop from here on. -/
def LoopOK (P : Program) (inr : Bool) (nt : Nat) (c : Code) (k : Nat) (a : Tree AV) (s : St) (x : Ex) (a' : Tree AV) (s' : St) : Prop :=
  ∀ (F : Fence) (m : Nat) (fr : Nat → Option Obj) (R : Nat → Nat × Nat) (w0 w : World) (ds : List Deferred) (act : Act) (Q : Exit → Act → World → Prop), Loose F → F.round.isSome = inr → Rel fr w0 nt ds R a s act w →
  (∀ fr' ds' R' act' w', Grown inr fr ds fr' ds' → Ext s.nx R R' → s.nx ≤ s'.nx → Rel fr' w0 nt ds' R' a' s' act' w' → Q x.to act' w') → Code.roundsIn F m P c Q k act w
theorem LoopOK.last {inr : Bool} {nt : Nat} {c : Code} {a a1 : Tree AV} {s s1 : St} {x : Ex} (h : PieceOK P inr nt (flatC c) a s x a1 s1) (hx : x ≠ .nrm) : LoopOK P inr nt c 1 a s x a1 s1 := by
  intro F m fr R w0 w ds act Q hF hro hrel hQ
  refine WL_rounds (k := 0) 1 ?_
  show WL F m P _ (flatC c ++ []) act w
  rw [List.append_nil]
  refine h F m fr R w0 w ds act _ hF hro hrel fun fr1 ds1 R1 act1 w1 hG1 hE1 hn1 hr1 => ?_
  have := hQ fr1 ds1 R1 act1 w1 hG1 hE1 hn1 hr1
  cases x with
  | nrm => exact absurd rfl hx
  | exit id => exact this
  | goto l => exact this
  | ret => exact this
theorem LoopOK.rounds {inr : Bool} {nt : Nat} {c : Code} {j k : Nat} {a a1 a2 : Tree AV} {s s1 s2 : St} {x : Ex} (h : PieceOK P inr nt (rpt j (flatC c)) a s .nrm a1 s1) (h' : LoopOK P inr nt c k a1 s1 x a2 s2) : LoopOK P inr nt c (j + k) a s x a2 s2 := by
  intro F m fr R w0 w ds act Q hF hro hrel hQ
  refine WL_rounds j (h F m fr R w0 w ds act _ hF hro hrel fun fr1 ds1 R1 act1 w1 hG1 hE1 hn1 hr1 => ?_)
  exact h' F m fr1 R1 w0 w1 ds1 act1 Q hF hro hr1 fun fr2 ds2 R2 act2 w2 hG2 hE2 hn2 hr2 => hQ fr2 ds2 R2 act2 w2 (hG1.trans hG2) (hE1.trans hn1 hE2) (Nat.le_trans hn1 hn2) hr2
/-- A block around a loop that is left by the block's exit. -/
theorem LoopOK.block {inr : Bool} {nt : Nat} {c : Code} {id k : Nat} {a a1 : Tree AV} {s s1 : St} (h : LoopOK P inr nt c k a s (.exit id) a1 s1) : PieceOK P inr nt [.block id (.loop c)] a s .nrm a1 s1 := by
  intro F m fr R w0 w ds act Q hF hro hrel hQ
  show (Code.block id (.loop c)).wpIn F m P _ act w
  refine wpIn_block (wpIn_loop_rounds k (h F m fr R w0 w ds act _ hF hro hrel fun fr1 ds1 R1 act1 w1 hG1 hE1 hn1 hr1 => ?_))
  have := hQ fr1 ds1 R1 act1 w1 hG1 hE1 hn1 hr1
  show Exit.inBlock id _ (.exit id) act1 w1
  simp only [Exit.inBlock, if_true]
  exact this
theorem PieceOK.from {inr : Bool} {nt : Nat} {l : List Code} {ta : List (Nat × AV)} {a a1 : Tree AV} {s s1 : St} {x : Ex} (h : PieceOK P inr nt l (treeOf ta) s x a1 s1) (ht : subT a ta = true) : PieceOK P inr nt l a s x a1 s1 := by
  intro F m fr R w0 w ds act Q hF hro hrel hQ
  exact h F m fr R w0 w ds act Q hF hro ⟨hrel.hr, fun t z hz => hrel.tr t z (subT_of ht _ (treeOf_get hz)), hrel.nt, hrel.ds⟩ hQ
/-- A call evaluated ahead, out of the pieces of its body. -/
theorem lit_of_piece (hE : EnvOK P E) {c : LitC} {fn : Func} {body : Code} (hp : P.funcs[c.f]? = some fn) (hname : (fn.name == "runtime.NumGoroutine") = false) (hb : fn.body = some body)
    (hlen : Nat.ble (c.fst ++ (c.xs ++ c.caps)).length fn.ntmps = true) {x : Ex} {a' : Tree AV} (hpc : PieceOK P false fn.ntmps (flatC body) (laidA (c.fst ++ (c.xs ++ c.caps)) 0 .leaf) ⟨treeOf c.sb, c.nx⟩ x a' ⟨treeOf c.sb', c.nx'⟩)
    (hx : x = .nrm ∨ x = .ret) {l : List AV} (hl : mapO (resA E a' ⟨treeOf c.sb', c.nx'⟩) fn.results.toList = some l) (hr : resultA l = c.r) : LitOK P c := by
  have h1 : fn.name ≠ "runtime.NumGoroutine" := by simpa using hname
  refine ⟨fun args w => by simp [callFunc, hp, h1, hb], fun fr R w0 w us cs vs hrr hus hcs hxs => ?_⟩
  have hargs : VRL R c.nx (c.fst ++ (c.xs ++ c.caps)) (us.toArray ++ vs ++ cs.toArray).toList := by
    simp only [Array.toList_append, List.append_assoc]
    exact hus.append (hxs.append hcs)
  refine (callsIn_wide (n := 0)).1 (callsIn_of_wp_marks (R := fun e w' => ∃ v R', e = .returned v ∧ Ext c.nx R R' ∧ c.nx ≤ c.nx' ∧ HR fr R' ⟨treeOf c.sb', c.nx'⟩ w0 w' ∧ VR R' c.nx' c.r v) hp hb trivial ?_ rfl)
  have hsz : (us.toArray ++ vs ++ cs.toArray).size = (c.fst ++ (c.xs ++ c.caps)).length := by rw [← hargs.length, Array.length_toList]
  have hrel : Rel fr w0 fn.ntmps [] R (laidA (c.fst ++ (c.xs ++ c.caps)) 0 .leaf) ⟨treeOf c.sb, c.nx⟩ { tmps := us.toArray ++ vs ++ cs.toArray ++ Array.replicate (fn.ntmps - (us.toArray ++ vs ++ cs.toArray).size) undef, defers := [] } w := by
    refine ⟨hrr, TR.laid hargs _, ?_, rfl⟩
    have := nble_of hlen
    simp only [Array.size_append, Array.size_replicate]
    simp only [Array.size_append] at hsz
    omega
  refine wpIn_mono (WL_flat (l := []) body (Q := bodyPostM Fence.wide 0 P fn (fun e w' => ∃ v R', e = .returned v ∧ Ext c.nx R R' ∧ c.nx ≤ c.nx' ∧ HR fr R' ⟨treeOf c.sb', c.nx'⟩ w0 w' ∧ VR R' c.nx' c.r v)) ?_) fun e a w he => ?_
  · rw [List.append_nil]
    refine hpc Fence.wide 0 fr R w0 w [] _ _ (.inl rfl) rfl hrel fun fr1 ds1 R1 act1 w1 hG1 hE1 hn1 hr1 => ?_
    have key : LeavesInM Fence.wide 0 P fn act1.tmps (fun e w' => ∃ v R', e = .returned v ∧ Ext c.nx R R' ∧ c.nx ≤ c.nx' ∧ HR fr R' ⟨treeOf c.sb', c.nx'⟩ w0 w' ∧ VR R' c.nx' c.r v) act1.defers .returning w1 := by
      obtain ⟨ms, _, hnd, hds, hfr, hms⟩ := hG1
      rw [hr1.ds, hds, List.append_nil]
      refine leaves_marks rfl (fr := fr) (R := R1) (s := ⟨treeOf c.sb', c.nx'⟩) (w0 := w0) (fun w' hw' => ?_) ms w1 (hr1.hr.less hfr) hnd fun D hD => ?_
      · obtain ⟨v, g1, g2⟩ := res_sound hE hw' hr1.tr hl
        rw [hr] at g2
        exact ⟨v, g1, v, R1, rfl, hE1, hn1, hw', g2⟩
      · obtain ⟨g1, g2⟩ := hms D hD
        refine ⟨hr1.hr.fr D _ g1, g2, fun b hb' e => ?_⟩
        cases hx' : (treeOf c.sb').get b with
        | none => exact hb' hx'
        | some y =>
          have := (hr1.hr.own b y hx').1
          rw [e, g1] at this
          cases this
    rcases hx with rfl | rfl
    · exact key
    · exact key
  · cases e with
    | normal => exact he
    | exit id => exact he
    | goto l => exact he
    | ret => exact he
    | panic c => exact he
    | outgrown => exact he
end
end
end Go.Proofs.YtbioklhoolkhkadGreatDoor
