/- An evaluator of closed calls: code in pieces, each run by the kernel alone. No program in sight. The frame of a closed law's proof: the row's last step. No program's function in sight. Plain laws of names of lambdas: the program's way to split a name and the reference's come to the same. No program in sight. Plain laws: a text without odd runes is one whose bytes are all those of names. No program in sight. The library contracts that the names want, laid at this dump (printed by the kit's lay-plain). The walks: the program's names of lambdas. The walks: the program's names of lambdas (Name). The walks: the program's splitting of names (Split). The walks: the reference's names (In, IsName, Decimal, Name). The walks: the reference's splitting of names (Split). The walk of the law FlatSplits, the known answers as a hypothesis. -/
import Derived.Test.YthcaafhpnmmfmaaGreatDoorK07
import Derived.Test.YthcaafhpnmmfmaaGreatDoorK06
import Derived.Test.YthcaafhpnmmfmaaGreatDoorRows
import Derived.ProofKit
import Derived.Below
import Derived.ChangeSame
import Derived.Lib.SmallJoins
import Derived.Test.YthcaafhpnmmfmaaGreatDoorK01
import Derived.Lib.AtoiAll
import Derived.Lib.ItoaMem
import Derived.Lib.LastIndexByte
import Derived.Laws.RangeAny
import Derived.Laws.RangeString
import Derived.Shelf.GgClosure.StringsIndexFunc
import Derived.Shelf.Strings.Builder1
import Derived.Shelf.Strings.Builder2
import Derived.Shelf.Strings.OnBuilder
import Derived.Shelf.Small.Bits
import Derived.Shelf.Strconv.Atoi
import Derived.Shelf.Strconv.Itoa0
import Derived.Shelf.Strconv.Itoa1
import Derived.Shelf.LaysM
import Derived.Shelf.Strconv.Itoa2
import Derived.Shelf.Strconv.Itoa3
import Derived.Shelf.Strconv.AtoiErrFast
import Derived.Shelf.Strconv.ParseIntEmpty
import Derived.Shelf.Strconv.AtoiFail
import Derived.Shelf.Strconv.Clone
import Derived.Shelf.Strconv.SyntaxError
import Derived.Shelf.LaysC
import Derived.Shelf.Strconv.ToError
import Derived.Shelf.Strconv.Lower
import Derived.Shelf.Strconv.ParseUint10
import Derived.Shelf.Strconv.ParseUint10Empty
import Derived.Shelf.Strconv.ParseUint10Any
import Derived.Shelf.Strconv.ParseInt10
import Derived.Shelf.Strconv.AtoiLong
import Derived.Shelf.Strconv.AtoiInnerAll
import Derived.Shelf.Strconv.RangeError
import Derived.Shelf.Strconv.ToErrorRange
import Derived.Shelf.Strconv.AtoiAll
import Derived.Shelf.Strconv.ErrVarAll
import Derived.Shelf.Strings.LastIndex
import Derived.Ground.GgwProg
import Derived.Shelf.GgClosure.StringsIndexFuncTop
import Derived.Shelf.Strings.FuncGrows
import Derived.Test.YthcaafhpnmmfmaaGreatDoorProg
import Derived.Lib.ItoaLen
namespace Go.Proofs.YthcaafhpnmmfmaaGreatDoor
set_option linter.unusedVariables false
set_option linter.unusedSimpArgs false
set_option linter.unusedSectionVars false
open Go Go.RowKit
noncomputable section

/-- Code as a list of steps. -/
def flatC : Code → List Code
  | .seq x y => flatC x ++ flatC y
  | c => [c]
def bodyOf (fn : Func) : Code := match fn.body with
  | some c => c
  | none => .skip
section
variable {P : Program} {E : Env} {draw : Draw} {F : Fence} {m : Nat} {Q : Exit → Act → World → Prop}
def WL (F : Fence) (m : Nat) (P : Program) (Q : Exit → Act → World → Prop) : List Code → Act → World → Prop
  | [], a, w => Q .normal a w
  | c :: l, a, w => c.wpIn F m P (Exit.then (WL F m P Q l) Q) a w
theorem WL_append : ∀ (l1 : List Code) {l2 : List Code} {a : Act} {w : World}, WL F m P (Exit.then (WL F m P Q l2) Q) l1 a w → WL F m P Q (l1 ++ l2) a w
  | [], l2, a, w, h => h
  | c :: l1, l2, a, w, h => by
    refine wpIn_mono (Q := Exit.then (WL F m P (Exit.then (WL F m P Q l2) Q) l1) (Exit.then (WL F m P Q l2) Q)) h fun e a w he => ?_
    cases e with
    | normal => exact WL_append l1 he
    | exit id => exact he
    | goto l => exact he
    | ret => exact he
    | panic c => exact he
    | outgrown => exact he
theorem WL_flat : ∀ (c : Code) {l : List Code} {a : Act} {w : World}, WL F m P Q (flatC c ++ l) a w → c.wpIn F m P (Exit.then (WL F m P Q l) Q) a w
  | .seq x y, l, a, w, h => by
    unfold flatC at h
    rw [List.append_assoc] at h
    refine wpIn_seq ?_
    refine wpIn_mono (WL_flat x h) fun e a w he => ?_
    cases e with
    | normal => exact WL_flat y he
    | exit id => exact he
    | goto l => exact he
    | ret => exact he
    | panic c => exact he
    | outgrown => exact he
  | .skip, l, a, w, h => h
  | .label _, l, a, w, h => h
  | .ret, l, a, w, h => h
  | .exit _, l, a, w, h => h
  | .goto _, l, a, w, h => h
  | .region .., l, a, w, h => h
  | .cond .., l, a, w, h => h
  | .block .., l, a, w, h => h
  | .loop _, l, a, w, h => h
  | .rangeFunc .., l, a, w, h => h
  | .scope _, l, a, w, h => h
  | .refuse _, l, a, w, h => h
/-- What a list of steps comes to. -/
def PieceOK (P : Program) (inr : Bool) (nt : Nat) (l : List Code) (a : Tree AV) (s : St) (x : Ex) (a' : Tree AV) (s' : St) : Prop :=
  ∀ (F : Fence) (m : Nat) (fr : Nat → Option Obj) (R : Nat → Nat × Nat) (w0 w : World) (ds : List Deferred) (act : Act) (Q : Exit → Act → World → Prop), Loose F → F.round.isSome = inr → Rel fr w0 nt ds R a s act w →
  (∀ fr' ds' R' act' w', Grown inr fr ds fr' ds' → Ext s.nx R R' → s.nx ≤ s'.nx → Rel fr' w0 nt ds' R' a' s' act' w' → Q x.to act' w') → WL F m P Q l act w
theorem PieceOK.append {inr : Bool} {nt : Nat} {l1 l2 : List Code} {a a1 a2 : Tree AV} {s s1 s2 : St} {x : Ex} (h : PieceOK P inr nt l1 a s .nrm a1 s1) (h' : PieceOK P inr nt l2 a1 s1 x a2 s2) : PieceOK P inr nt (l1 ++ l2) a s x a2 s2 := by
  intro F m fr R w0 w ds act Q hF hro hrel hQ
  refine WL_append l1 (h F m fr R w0 w ds act _ hF hro hrel fun fr1 ds1 R1 act1 w1 hG1 hE1 hn1 hr1 => ?_)
  exact h' F m fr1 R1 w0 w1 ds1 act1 Q hF hro hr1 fun fr2 ds2 R2 act2 w2 hG2 hE2 hn2 hr2 => hQ fr2 ds2 R2 act2 w2 (hG1.trans hG2) (hE1.trans hn1 hE2) (Nat.le_trans hn1 hn2) hr2
/-- A piece that is left early: what follows does not matter. -/
theorem PieceOK.leave {inr : Bool} {nt : Nat} {l1 l2 : List Code} {a a1 : Tree AV} {s s1 : St} {x : Ex} (h : PieceOK P inr nt l1 a s x a1 s1) (hx : x ≠ .nrm) : PieceOK P inr nt (l1 ++ l2) a s x a1 s1 := by
  intro F m fr R w0 w ds act Q hF hro hrel hQ
  refine WL_append l1 (h F m fr R w0 w ds act _ hF hro hrel fun fr1 ds1 R1 act1 w1 hG1 hE1 hn1 hr1 => ?_)
  have := hQ fr1 ds1 R1 act1 w1 hG1 hE1 hn1 hr1
  cases x with
  | nrm => exact absurd rfl hx
  | exit id => exact this
  | goto l => exact this
  | ret => exact this
/-- A list of steps evaluated. -/
def evL (E : Env) (draw : Draw) (n : Nat) (inr : Bool) (nt : Nat) : List Code → Tree AV → St → Option (Ex × Tree AV × St)
  | [], a, s => some (.nrm, a, s)
  | c :: l, a, s => match ev E draw n inr nt c a s with
    | none => none
    | some (x, a, s) => match x with
      | .nrm => evL E draw n inr nt l a s
      | x => some (x, a, s)
theorem evL_sound (hE : EnvOK P E) (hD : DrawOK P draw) {n : Nat} {inr : Bool} {nt : Nat} : ∀ (l : List Code) {a : Tree AV} {s : St} {x : Ex} {a' : Tree AV} {s' : St}, evL E draw n inr nt l a s = some (x, a', s') → PieceOK P inr nt l a s x a' s'
  | [], a, s, x, a', s', h => by
    cases h
    exact fun F m fr R w0 w ds act Q hF hro hrel hQ => hQ fr ds R act w (Grown.refl _ _ _) (Ext.refl _ _) (Nat.le_refl _) hrel
  | c :: l, a, s, x, a', s', h => by
    simp only [evL] at h
    split at h <;> try (cases h; done)
    rename_i x1 a1 s1 hx
    have hc := (ev_sound hE hD n).1 n (Nat.le_refl _) inr nt c a s x1 a1 s1 hx
    intro F m fr R w0 w ds act Q hF hro hrel hQ
    refine hc F m fr R w0 w ds act _ hF hro hrel fun fr1 ds1 R1 act1 w1 hG1 hE1 hn1 hr1 => ?_
    cases x1 with
    | nrm => exact evL_sound hE hD l h F m fr1 R1 w0 w1 ds1 act1 Q hF hro hr1 fun fr2 ds2 R2 act2 w2 hG2 hE2 hn2 hr2 => hQ fr2 ds2 R2 act2 w2 (hG1.trans hG2) (hE1.trans hn1 hE2) (Nat.le_trans hn1 hn2) hr2
    | exit id => cases h; exact hQ fr1 ds1 R1 act1 w1 hG1 hE1 hn1 hr1
    | goto l => cases h; exact hQ fr1 ds1 R1 act1 w1 hG1 hE1 hn1 hr1
    | ret => cases h; exact hQ fr1 ds1 R1 act1 w1 hG1 hE1 hn1 hr1
end
/-- Are all of these there? -/
def subT (t : Tree AV) : List (Nat × AV) → Bool
  | [] => true
  | e :: l => match t.get e.1 with
    | some y => bif eqV y e.2 then subT t l else false
    | none => false
theorem subT_of {t : Tree AV} : ∀ {l : List (Nat × AV)}, subT t l = true → ∀ e ∈ l, t.get e.1 = some e.2
  | [], _, e, he => by cases he
  | e' :: l, h, e, he => by
    simp only [subT] at h
    split at h <;> try (cases h; done)
    rename_i y hy
    cases hb : eqV y e'.2 with
    | false => rw [hb] at h; cases h
    | true =>
      rw [hb, cond_true] at h
      rcases List.mem_cons.1 he with rfl | he
      · rw [hy, eqV_of hb]
      · exact subT_of h e he
def eqEx : Ex → Ex → Bool
  | .nrm, .nrm => true
  | .ret, .ret => true
  | _, _ => false
/-- A piece, with all that is needed of what is there ahead of it and behind it. -/
def pieceB (E : Env) (draw : Draw) (n : Nat) (nt : Nat) (l : List Code) (ta : List (Nat × AV)) (sb : List (Nat × Blk)) (nx : Nat) (x : Ex) (ta' : List (Nat × AV)) (sb' : List (Nat × Blk)) (nx' : Nat) : Bool :=
  match evL E draw n false nt l (treeOf ta) ⟨treeOf sb, nx⟩ with
  | some (y, a, s) => eqEx y x && subT a ta' && subB s.h sb' && Nat.beq s.nx nx'
  | none => false
section
variable {P : Program} {E : Env} {draw : Draw}
theorem piece_ok (hE : EnvOK P E) (hD : DrawOK P draw) {n nt : Nat} {l : List Code} {ta ta' : List (Nat × AV)} {sb sb' : List (Nat × Blk)} {nx nx' : Nat} {x : Ex} (h : pieceB E draw n nt l ta sb nx x ta' sb' nx' = true) :
    PieceOK P false nt l (treeOf ta) ⟨treeOf sb, nx⟩ x (treeOf ta') ⟨treeOf sb', nx'⟩ := by
  unfold pieceB at h
  split at h <;> try (cases h; done)
  rename_i y a s hev
  simp only [Bool.and_eq_true] at h
  obtain ⟨⟨⟨h1, h2⟩, h3⟩, h4⟩ := h
  have hyx : y = x := by cases y <;> cases x <;> first | rfl | cases h1
  subst hyx
  have h4 := nbeq_of h4
  intro F m fr R w0 w ds act Q hF hro hrel hQ
  refine evL_sound hE hD l hev F m fr R w0 w ds act Q hF hro hrel fun fr1 ds1 R1 act1 w1 hG1 hE1 hn1 hr1 => ?_
  have hsub : ∀ b blk, (treeOf sb').get b = some blk → s.h.get b = some blk := fun b blk hb => subB_of h3 _ (treeOf_get hb)
  have hsub2 : ∀ b, (treeOf sb').get b ≠ none → s.h.get b ≠ none := fun b hb => by
    cases hx : (treeOf sb').get b with
    | none => exact absurd hx hb
    | some blk => rw [hsub b blk hx]; simp
  refine hQ fr1 ds1 R1 act1 w1 hG1 hE1 (by rw [← h4]; exact hn1) ⟨?_, fun t z hz => ?_, hr1.nt, hr1.ds⟩
  · have := hr1.hr
    rw [← h4]
    exact ⟨this.os, this.tape, this.output, this.fr, fun b hb => this.lt b (hsub2 b hb), fun b z hz => this.own b z (hsub b z hz), fun b c hb hc e => this.inj b c (hsub2 b hb) (hsub2 c hc) e⟩
  · rw [← h4]
    exact hr1.tr t z (subT_of h2 _ (treeOf_get hz))
/-- A function without arguments whose body comes to a truth value. -/
theorem known_ok {f : FuncId} {fn : Func} {c : Code} (hp : P.funcs[f]? = some fn) (hname : (fn.name == "runtime.NumGoroutine") = false) (hb : fn.body = some c) (hE : EnvOK P E) {x : Ex} {a : Tree AV} {s : St} (hpc : PieceOK P false fn.ntmps (flatC c) .leaf ⟨.leaf, 0⟩ x a s)
    (hx : x = .nrm ∨ x = .ret) {b : Bool} (hr : mapO (resA E a s) fn.results.toList = some [.b b]) : KnownOK P f (.b b) := by
  have h1 : fn.name ≠ "runtime.NumGoroutine" := by simpa using hname
  refine ⟨fun args w => by simp [callFunc, hp, h1, hb], fun fr R s0 w0 w hh => ?_⟩
  classical
  let fr2 : Nat → Option Obj := fun k => if ∃ b, s0.h.get b ≠ none ∧ (R b).1 = k then w.heap[k]? else fr k
  have hfr2 : ∀ k o, fr k = some o → fr2 k = some o := fun k o hk => by
    have : ¬ ∃ b, s0.h.get b ≠ none ∧ (R b).1 = k := by
      rintro ⟨b, hb, e⟩
      cases hx : s0.h.get b with
      | none => exact hb hx
      | some y =>
        have := (hh.own b y hx).1
        rw [e, hk] at this
        cases this
    show (if _ then _ else _) = _
    rw [if_neg this]
    exact hk
  have hr2 : HR fr2 R ⟨.leaf, 0⟩ w0 w := by
    refine ⟨hh.os, hh.tape, hh.output, fun k o hk => ?_, fun b hb => absurd (Tree.get_leaf b) hb, fun b y hy => ?_, fun b c hb => absurd (Tree.get_leaf b) hb⟩
    · by_cases e : ∃ b, s0.h.get b ≠ none ∧ (R b).1 = k
      · have h3 : fr2 k = w.heap[k]? := if_pos e
        rw [← h3]
        exact hk
      · have h3 : fr2 k = fr k := if_neg e
        rw [h3] at hk
        exact hh.fr k o hk
    · have hy : (Tree.leaf : Tree Blk).get b = some y := hy
      rw [Tree.get_leaf] at hy
      cases hy
  have back : ∀ w' R' s', HR fr2 R' s' w0 w' → HR fr R s0 w0 w' := fun w' R' s' h => by
    refine ⟨h.os, h.tape, h.output, fun k o hk => h.fr k o (hfr2 k o hk), hh.lt, fun b y hy => ?_, hh.inj⟩
    obtain ⟨g1, o, g2, g3⟩ := hh.own b y hy
    refine ⟨g1, o, h.fr _ _ ?_, g3⟩
    have h3 : fr2 (R b).1 = w.heap[(R b).1]? := if_pos ⟨b, by rw [hy]; simp, rfl⟩
    rw [h3]
    exact g2
  refine (callsIn_wide (n := 0)).1 (callsIn_of_wp_marks (R := fun e w' => ∃ v, e = .returned v ∧ HR fr R s0 w0 w' ∧ ∀ R' n', VR R' n' (.b b) v) hp hb trivial ?_ rfl)
  have hrel : Rel fr2 w0 fn.ntmps [] R .leaf ⟨.leaf, 0⟩ { tmps := #[] ++ Array.replicate (fn.ntmps - (#[] : Array Value).size) undef, defers := [] } w := by
    refine ⟨hr2, fun t x hx => ?_, by simp, rfl⟩
    rw [Tree.get_leaf] at hx
    cases hx
  refine wpIn_mono (WL_flat (l := []) c (Q := bodyPostM Fence.wide 0 P fn (fun e w' => ∃ v, e = .returned v ∧ HR fr R s0 w0 w' ∧ ∀ R' n', VR R' n' (.b b) v)) ?_) fun e a w he => ?_
  · rw [List.append_nil]
    refine hpc Fence.wide 0 fr2 R w0 w [] _ _ (.inl rfl) rfl hrel fun fr1 ds1 R1 act1 w1 hG1 hE1 hn1 hr1 => ?_
    have key : LeavesInM Fence.wide 0 P fn act1.tmps (fun e w' => ∃ v, e = .returned v ∧ HR fr R s0 w0 w' ∧ ∀ R' n', VR R' n' (.b b) v) act1.defers .returning w1 := by
      obtain ⟨ms, _, hnd, hds, hfr, hms⟩ := hG1
      rw [hr1.ds, hds, List.append_nil]
      refine leaves_marks rfl (fr := fr2) (R := R1) (s := s) (w0 := w0) (fun w' hw' => ?_) ms w1 (hr1.hr.less hfr) hnd fun D hD => ?_
      · obtain ⟨v, g1, g2⟩ := res_sound hE hw' hr1.tr hr
        simp only [resultA, VR] at g2
        subst g2
        exact ⟨_, g1, _, rfl, back w' _ _ hw', fun R' n' => by simp only [VR]⟩
      · obtain ⟨g1, g2⟩ := hms D hD
        refine ⟨hr1.hr.fr D _ g1, g2, fun b hb' e => ?_⟩
        cases hx' : s.h.get b with
        | none => exact hb' hx'
        | some y =>
          have := (hr1.hr.own b y hx').1
          rw [e, g1] at this
          cases this
    rcases hx with rfl | rfl
    · exact key
    · exact key
  · cases e with
    | normal => exact he
    | exit id => exact he
    | goto l => exact he
    | ret => exact he
    | panic c => exact he
    | outgrown => exact he
end
end
end Go.Proofs.YthcaafhpnmmfmaaGreatDoor
namespace Go.Proofs.YthcaafhpnmmfmaaGreatDoor
set_option linter.unusedVariables false
set_option linter.unusedSimpArgs false
open Go.ChangeShapes Go.WideShapes Go.ChangeAt Go.RowKit Go.Joins Go.Deep
noncomputable section

theorem Tryz.own : ownKnob Tryz.prog.godebug = none := by kernel_rfl
theorem Tryz.laidOut : laidOutB Tryz.prog = true := by kernel_rfl

section
variable {H : Type} {enc : TypeId × Value → H} {P : Program}
theorem post_of_below {f : Func} {s : ChangeSpec} {apart fresh handsOn again : Bool} {W W' : World} {args : Array Value} {v : Value} {ds gs : List (DataW H)} {before pa pv : List MemPlace}
    (hW : DataW.Whole enc P f.params.toList s.vars apart W args.toList ds gs before)
    (hres : ∀ (b : Nat) (sp : Nat → Bool) (hd : Bool), DataW.TrodAll enc P W' b sp hd f.resultTypes.toList (v.resultList f.resultTypes.size) (s.fn H (ds ++ gs)).results [])
    (hargs : ∀ sp : Nat → Bool, (∀ p ∈ before, sp p.block = true) → DataW.TrodAll enc P W' 0 sp true f.params.toList args.toList (s.fn H (ds ++ gs)).args pa)
    (hvars : ∀ sp : Nat → Bool, (∀ p ∈ before, sp p.block = true) → DataW.TrodVars enc P W' sp s.vars (s.fn H (ds ++ gs)).vars pv)
    (hps : before = pa ++ pv) (hb : Below W.heap.size W W')
    (hok : ∀ (j : Nat) (t : TypeId) (r : Value), f.resultTypes[j]? = some t → (v.resultList f.resultTypes.size)[j]? = some r → Value.okWide P W' .any 0 t r) :
    s.post enc P f apart fresh handsOn again W args v W' := by
  have hlt : ∀ p ∈ before, p.block < W.heap.size := fun p hp => hW.lt p hp
  have hold : ∀ p ∈ before, (fun b => decide (b < W.heap.size)) p.block = true := fun p hp => by simpa using hlt p hp
  refine ⟨ds, gs, before, [], pa, pv, hW, hres _ _ _, hargs _ hold, hvars _ hold, World.keptBut_mono (fun p hp => ⟨hp, ?_⟩) (hb.frame (· ∈ before)), fun _ => ?_⟩
  · rw [hps, List.mem_append] at hp
    exact Or.inr hp
  · obtain ⟨_, _, _, _, _, hz, hn⟩ := hW
    refine ⟨hok, _, _, ([] ++ pa) ++ pv, ⟨[] ++ pa, pv, trodAll_append (hargs _ (fun _ _ => rfl)) (hres _ _ _), hvars _ (fun _ _ => rfl), rfl, ?_, ?_⟩, ?_⟩
    · intro b off hp
      have hin : MemPlace.cell b off ∈ before := by rw [hps]; simpa using hp
      rw [hb.frozen (hlt _ hin)]
      exact hz b off hin
    · intro ha
      have := hn ha
      rw [hps] at this
      simpa using this
    · intro p hp _
      rw [hps]
      simpa using hp

end
theorem names_ok : (Tryz.prog.funcs.toList.all fun fn => !(fn.name == "runtime.NumGoroutine")) = true := by kernel_rfl
theorem follows_ok : Tryz.prog.follows .mixedOrders = true := by kernel_rfl
/-- A known function leaves all as it was. -/
theorem KnownOK.below {P : Program} {f : FuncId} {b : Bool} (h : KnownOK P f (.b b)) (w : World) : Calls P f #[] w fun e w' => e = .returned (.bool b) ∧ Below w.heap.size w w' := by
  refine (h.2 (fun k => w.heap[k]?) (fun _ => (0, 0)) ⟨.leaf, 0⟩ w w ⟨rfl, rfl, rfl, fun k o h => h, fun b hb => absurd (Tree.get_leaf b) hb, fun b y hy => ?_, fun b c hb => absurd (Tree.get_leaf b) hb⟩).mono ?_
  · have hy : (Tree.leaf : Tree Blk).get b = some y := hy
    rw [Tree.get_leaf] at hy
    cases hy
  · rintro e w' ⟨v, rfl, h1, h2⟩
    have h3 := h2 (fun _ => (0, 0)) 0
    simp only [VR] at h3
    subst h3
    refine ⟨rfl, h1.os, h1.tape, h1.output, ?_, fun k hk => ?_⟩
    · rcases Nat.eq_zero_or_pos w.heap.size with h0 | h0
      · omega
      · have hk : w.heap[w.heap.size - 1]? = some (w.heap[w.heap.size - 1]'(by omega)) := Array.getElem?_eq_getElem (by omega)
        have := lt_of_heap (h1.fr _ _ hk)
        omega
    · have hk' : w.heap[k]? = some (w.heap[k]'hk) := Array.getElem?_eq_getElem hk
      rw [hk', h1.fr _ _ hk']
end
end Go.Proofs.YthcaafhpnmmfmaaGreatDoor
namespace Go.Proofs.YthcaafhpnmmfmaaGreatDoor
set_option linter.unusedVariables false
set_option linter.unusedSimpArgs false
open Go Go.Lib

/-- The name of what a lambda becomes, whether it may be or not. -/
def lamL (f : ByteArray) (n : Int) : List UInt8 := f.data.toList ++ 35 :: itoa n
/-- Its error. -/
def nameE (f : ByteArray) (n : Int) : Int := if isName f = true then (if n < 0 then 3 else if 40 < (lamL f n).length then 5 else 0) else 4
def nameT (f : ByteArray) (n : Int) : ByteArray := if nameE f n = 0 then ⟨(lamL f n).toArray⟩ else ByteArray.empty
theorem nameE_zero {f : ByteArray} {n : Int} : nameE f n = 0 ↔ isName f = true ∧ 0 ≤ n ∧ (lamL f n).length ≤ 40 := by
  unfold nameE
  split
  · rename_i h
    split
    · simp [h]; omega
    · split
      · simp [h]; omega
      · simp [h]; omega
  · rename_i h
    simp [h]
/-- Digits, as the reference reads them. -/
def digs (acc : Nat) : List UInt8 → Option Nat
  | [] => some acc
  | c :: r => if 48 ≤ c.toNat ∧ c.toNat ≤ 57 ∧ acc ≤ (9223372036854775807 - (c.toNat - 48)) / 10 then digs (10 * acc + (c.toNat - 48)) r else none
theorem digs_lt : ∀ (l : List UInt8) (acc n : Nat), acc < 9223372036854775808 → digs acc l = some n → n < 9223372036854775808
  | [], acc, n, h, e => by cases e; exact h
  | c :: r, acc, n, h, e => by
    simp only [digs] at e
    split at e
    · exact digs_lt r _ n (by omega) e
    · cases e
theorem digs_append : ∀ (l m : List UInt8) (acc : Nat), digs acc (l ++ m) = (digs acc l).bind fun a => digs a m
  | [], m, acc => rfl
  | c :: r, m, acc => by
    simp only [List.cons_append, digs]
    split
    · exact digs_append r m _
    · rfl
theorem dig_nat {d : Nat} (h : d < 10) : (UInt8.ofNat (48 + d)).toNat = 48 + d := by
  rw [UInt8.toNat_ofNat']
  omega
theorem digs_dec : ∀ u : Nat, u < 9223372036854775808 → digs 0 (decDigits u) = some u := by
  intro u
  induction u using Nat.strongRecOn with
  | _ u ih =>
    intro hu
    by_cases h : u < 10
    · rw [decDigits, dif_pos h]
      simp only [digs, dig_nat h]
      rw [if_pos (by omega)]
      simp
    · rw [decDigits, dif_neg h, digs_append, ih (u / 10) (by omega) (by omega)]
      simp only [Option.bind_some, digs, dig_nat (show u % 10 < 10 by omega)]
      rw [if_pos (by omega)]
      simp only [Option.some.injEq]
      omega
theorem parse_append : ∀ (l m : List UInt8) (acc a : Nat), parseUint10 acc l = .ok a → parseUint10 acc (l ++ m) = parseUint10 a m
  | [], m, acc, a, h => by simp only [parseUint10] at h; cases h; rfl
  | c :: r, m, acc, a, h => by
    simp only [List.cons_append, parseUint10] at h ⊢
    split at h
    · split at h
      · cases h
      · split at h
        · cases h
        · rename_i h1 h2 h3
          rw [if_pos h1, if_neg h2, if_neg h3]
          exact parse_append r m _ a h
    · cases h
theorem parse_dec : ∀ u : Nat, u < 9223372036854775808 → parseUint10 0 (decDigits u) = .ok u := by
  intro u
  induction u using Nat.strongRecOn with
  | _ u ih =>
    intro hu
    by_cases h : u < 10
    · rw [decDigits, dif_pos h]
      simp only [parseUint10, dig_nat h]
      rw [if_pos (by omega), if_neg (by omega), if_neg (by omega)]
      congr 1
      omega
    · rw [decDigits, dif_neg h, parse_append _ _ _ _ (ih (u / 10) (by omega) (by omega))]
      simp only [parseUint10, dig_nat (show u % 10 < 10 by omega)]
      rw [if_pos (by omega), if_neg (by omega), if_neg (by omega)]
      congr 1
      omega
theorem dec_head : ∀ u : Nat, ∃ c r, decDigits u = c :: r ∧ 48 ≤ c.toNat ∧ c.toNat ≤ 57 := by
  intro u
  induction u using Nat.strongRecOn with
  | _ u ih =>
    by_cases h : u < 10
    · rw [decDigits, dif_pos h]
      exact ⟨_, _, rfl, by rw [dig_nat h]; omega, by rw [dig_nat h]; omega⟩
    · rw [decDigits, dif_neg h]
      obtain ⟨c, r, e, h1, h2⟩ := ih (u / 10) (by omega)
      rw [e]
      exact ⟨c, _, rfl, h1, h2⟩
theorem atoi_dec (u : Nat) (h : u < 9223372036854775808) : atoiAll (decDigits u) = .ok u := by
  have hp := parse_dec u h
  obtain ⟨c, r, e, h1, h2⟩ := dec_head u
  rw [e] at hp ⊢
  unfold atoiAll
  simp only
  rw [if_neg (show ¬ (c.toNat = 43 ∨ c.toNat = 45) by omega)]
  unfold parseMag
  rw [if_neg (by simp), hp]
  simp only
  rw [if_neg (by omega), if_neg (by omega), if_neg (by omega)]
theorem atoi_range {l : List UInt8} {v : Int} (h : atoiAll l = .ok v) : -9223372036854775808 ≤ v ∧ v ≤ 9223372036854775807 := by
  unfold atoiAll at h
  split at h
  · cases h
  · simp only at h
    split at h
    · cases h
    · cases h
    · rename_i u hu
      have := parseMag_lt hu
      split at h
      · cases h
      · split at h
        · cases h
        · cases h
          split <;> omega
/-- What stands ahead of the last sign, and behind it; none without a sign. -/
def cutAt (s : ByteArray) : Option (ByteArray × List UInt8) := if lastIndexByte s 35 < 0 then none else some (⟨(s.data.toList.take (lastIndexByte s 35).toNat).toArray⟩, s.data.toList.drop ((lastIndexByte s 35).toNat + 1))
theorem lastIdx_pos {s : ByteArray} (h : ¬ lastIndexByte s 35 < 0) : ∃ i : Nat, i < s.size ∧ lastIndexByte s 35 = i ∧ s.data[i]! = 35 := by
  rcases lastIndexByte_spec s 35 with ⟨h1, _⟩ | ⟨i, h1, h2, h3, _⟩
  · rw [h1] at h; omega
  · exact ⟨i, h1, h2, UInt8.toNat_inj.1 (by have : ((35 : UInt8).toNat : Int) = 35 := rfl; omega)⟩
/-- How the program splits a name. -/
def splitP (s : ByteArray) : Option (ByteArray × Int) := match cutAt s with
  | none => none
  | some (f, t) => match atoiAll t with
    | .ok v => if nameE f v = 0 ∧ nameT f v = s then some (f, v) else none
    | _ => none
/-- How the reference does. -/
def splitR (s : ByteArray) : Option (ByteArray × Int) := match cutAt s with
  | none => none
  | some (f, t) => match digs 0 t with
    | some n => if nameE f n = 0 ∧ nameT f n = s then some (f, (n : Int)) else none
    | none => none
theorem cutAt_whole {s f : ByteArray} {t : List UInt8} (h : cutAt s = some (f, t)) : s.data.toList = f.data.toList ++ 35 :: t := by
  unfold cutAt at h
  split at h
  · cases h
  · rename_i hn
    cases h
    obtain ⟨i, h1, h2, h3⟩ := lastIdx_pos hn
    have hs : s.data.toList.length = s.size := rfl
    rw [h2]
    simp only [Int.toNat_natCast]
    have h4 : s.data.toList[i]'(by omega) = 35 := by
      have : s.data[i]! = s.data[i]'h1 := getElem!_pos s.data i h1
      rw [Array.getElem_toList, ← this, h3]
    conv => lhs; rw [← List.take_append_drop i s.data.toList, List.drop_eq_getElem_cons (by omega), h4]
theorem name_tail {s f : ByteArray} {t : List UInt8} (h : cutAt s = some (f, t)) {v : Int} (h0 : nameE f v = 0) (h1 : nameT f v = s) : t = itoa v := by
  have hw := cutAt_whole h
  unfold nameT at h1
  rw [if_pos h0] at h1
  rw [← h1] at hw
  unfold lamL at hw
  simp only [List.append_cancel_left_eq, List.cons.injEq, true_and] at hw
  exact hw.symm
/-- THE LAW: both split alike. -/
theorem split_law (s : ByteArray) : splitP s = splitR s := by
  unfold splitP splitR
  cases hc : cutAt s with
  | none => rfl
  | some p =>
    obtain ⟨f, t⟩ := p
    simp only
    cases hd : digs 0 t with
    | some n =>
      have hn := digs_lt t 0 n (by omega) hd
      simp only
      by_cases hx : nameE f n = 0 ∧ nameT f n = s
      · rw [if_pos hx]
        have ht := name_tail hc hx.1 hx.2
        rw [itoa_nonneg] at ht
        rw [ht, atoi_dec n hn]
        simp only
        rw [if_pos hx]
      · rw [if_neg hx]
        rcases ha : atoiAll t with v | _ | _
        · simp only
          split
          · rename_i hy
            have ht := name_tail hc hy.1 hy.2
            obtain ⟨_, hv, _⟩ := nameE_zero.1 hy.1
            obtain ⟨u, rfl⟩ : ∃ u : Nat, v = u := ⟨v.toNat, by omega⟩
            have hr := atoi_range ha
            rw [itoa_nonneg] at ht
            rw [ht, digs_dec u (by omega)] at hd
            cases hd
            exact absurd hy hx
          · rfl
        · rfl
        · rfl
    | none =>
      simp only
      rcases ha : atoiAll t with v | _ | _
      · simp only
        split
        · rename_i hy
          have ht := name_tail hc hy.1 hy.2
          obtain ⟨_, hv, _⟩ := nameE_zero.1 hy.1
          obtain ⟨u, rfl⟩ : ∃ u : Nat, v = u := ⟨v.toNat, by omega⟩
          have hr := atoi_range ha
          rw [itoa_nonneg] at ht
          rw [ht, digs_dec u (by omega)] at hd
          cases hd
        · rfl
      · rfl
      · rfl
end Go.Proofs.YthcaafhpnmmfmaaGreatDoor
namespace Go.Proofs.YthcaafhpnmmfmaaGreatDoor
set_option linter.unusedVariables false
set_option linter.unusedSimpArgs false
open Go Go.Lib

def oddR (r : Nat) : Bool := decide (r < 33) || decide (126 < r) || decide (r = 34)
theorem odd_byte_fin : ∀ n : Fin 256, oddR n.val = !(nameByte (UInt8.ofNat n.val)) := by decide +kernel
theorem odd_byte (c : UInt8) : oddR c.toNat = !(nameByte c) := by
  have h := odd_byte_fin ⟨c.toNat, c.toNat_lt⟩
  simpa using h
theorem odd_high {r : Nat} (h : 128 ≤ r) : oddR r = true := by
  unfold oddR
  simp
  omega
theorem idx_odd (s : ByteArray) : ∀ f pos : Nat, s.size ≤ pos + f → decide (0 ≤ idxFuncFrom oddR true s f pos) = !((s.data.toList.drop pos).all nameByte)
  | 0, pos, h => by
    have hl : s.data.toList.length = s.size := rfl
    rw [List.drop_eq_nil_of_le (by omega)]
    rfl
  | f + 1, pos, h => by
    have hl : s.data.toList.length = s.size := rfl
    unfold idxFuncFrom
    by_cases hp : pos < s.size
    · rw [if_pos hp, List.drop_eq_getElem_cons (by omega), List.all_cons]
      have hc : s.data.toList[pos]'(by omega) = s[pos]'hp := rfl
      rw [hc]
      by_cases ha : (s[pos]'hp).toNat < 128
      · have hd := decode_ascii s pos hp ha
        rw [hd]
        simp only
        rw [odd_byte]
        cases hn : nameByte (s[pos]'hp) with
        | true =>
          rw [if_neg (by simp), Bool.true_and]
          exact idx_odd s f (pos + 1) (by omega)
        | false =>
          rw [if_pos (by simp), Bool.false_and]
          simp
      · have hd := (decode_high s pos hp (by omega)).1
        rw [if_pos (odd_high hd)]
        have ho := odd_byte (s[pos]'hp)
        rw [odd_high (by omega)] at ho
        have hn : nameByte (s[pos]'hp) = false := by
          cases hx : nameByte (s[pos]'hp) with
          | true => rw [hx] at ho; cases ho
          | false => rfl
        rw [hn, Bool.false_and]
        simp
    · rw [if_neg hp, List.drop_eq_nil_of_le (by omega)]
      rfl
theorem contains_odd (s : ByteArray) : decide (0 ≤ idxFunc oddR true s) = !(s.data.toList.all nameByte) := idx_odd s s.size 0 (by omega)
end Go.Proofs.YthcaafhpnmmfmaaGreatDoor
namespace Go.Proofs
open Go.Shelf
def Tryz.lays156_ren : Go.Shelf.Ren := ⟨fun | 156 => 21 | 165 => 35 | 166 => 36 | 169 => 37 | 240 => 62 | 241 => 63 | 276 => 94 | 277 => 95 | n => n, fun | 31 => 36 | 9 => 9 | 3 => 3 | 4 => 4 | 0 => 0 | 20 => 20 | 72 => 93 | 76 => 64 | 70 => 90 | 37 => 91 | 75 => 63 | 127 => 119 | 164 => 159 | 5 => 5 | 80 => 95 | n => n, fun | n => n⟩
theorem Tryz.lays156 : Go.Proofs.Lays.n156 Tryz.prog Tryz.lays156_ren := {
  mixed := by kernel_rfl
  f156 := Tryz.func21.trans (congrArg some (by kernel_rfl))
  f165 := Tryz.func35.trans (congrArg some (by kernel_rfl))
  f166 := Tryz.func36.trans (congrArg some (by kernel_rfl))
  f169 := Tryz.func37.trans (congrArg some (by kernel_rfl))
  f240 := Tryz.func62.trans (congrArg some (by kernel_rfl))
  f241 := Tryz.func63.trans (congrArg some (by kernel_rfl))
  f276 := Tryz.func94.trans (congrArg some (by kernel_rfl))
  f277 := Tryz.func95.trans (congrArg some (by kernel_rfl))
  t0 := Tryz.underlying0
  a0 := Tryz.isAgg0
  z0 := Tryz.sizeOf0
  v0 := Tryz.zeroValue0
  t3 := Tryz.underlying3
  a3 := Tryz.isAgg3
  z3 := Tryz.sizeOf3
  v3 := Tryz.zeroValue3
  t4 := Tryz.underlying4
  a4 := Tryz.isAgg4
  z4 := Tryz.sizeOf4
  v4 := Tryz.zeroValue4
  t9 := Tryz.underlying9
  a9 := Tryz.isAgg9
  z9 := Tryz.sizeOf9
  v9 := Tryz.zeroValue9
  t20 := Tryz.underlying20
  a20 := Tryz.isAgg20
  z20 := Tryz.sizeOf20
  v20 := Tryz.zeroValue20
  t31 := Tryz.underlying36
  a31 := Tryz.isAgg36
  z31 := Tryz.sizeOf36
  v31 := Tryz.zeroValue36
  t37 := Tryz.underlying91
  a37 := Tryz.isAgg91
  z37 := Tryz.sizeOf91
  v37 := Tryz.zeroValue91
  t70 := Tryz.underlying90
  a70 := Tryz.isAgg90
  z70 := Tryz.sizeOf90
  v70 := Tryz.zeroValue90
  t72 := Tryz.underlying93
  a72 := Tryz.isAgg93
  z72 := Tryz.sizeOf93
  v72 := Tryz.zeroValue93
  t75 := Tryz.underlying63
  a75 := Tryz.isAgg63
  z75 := Tryz.sizeOf63
  v75 := Tryz.zeroValue63
  t76 := Tryz.underlying64
  a76 := Tryz.isAgg64
  z76 := Tryz.sizeOf64
  v76 := Tryz.zeroValue64
  t127 := Tryz.underlying119
  a127 := Tryz.isAgg119
  z127 := Tryz.sizeOf119
  v127 := Tryz.zeroValue119
  t164 := Tryz.underlying159
  a164 := Tryz.isAgg159
  z164 := Tryz.sizeOf159
  v164 := Tryz.zeroValue159 }
theorem Tryz.Builder_Extra_156 : Builder.Extra Tryz.prog Tryz.lays156_ren := {
  sizeBuilder := by kernel_rfl
  liesBuilder := by kernel_rfl
  t5 := Tryz.underlying5
  a5 := Tryz.isAgg5
  z5 := Tryz.sizeOf5
  v5 := Tryz.zeroValue5
  infoByte := by kernel_rfl
  cellsByte := by kernel_rfl
  sizeByte := by kernel_rfl
  neB5 := by decide }
open Go.RowKit in
theorem Tryz.strings_Join (bk o c : Nat) (xs : List ByteArray) (sep : ByteArray) (w : World) (hcells : ∀ (j : Nat) x, xs[j]? = some x → w.cell? ⟨bk, o + j, none⟩ = some (.string x)) (hbk : bk < w.heap.size) (hN : xs.length ≤ 140737488355328) (hcap : xs.length ≤ c) (hlen : (Lib.join (xs.map (·.data.toList)) sep.data.toList).length ≤ 140737488355328) :
    Calls Tryz.prog 21 #[.slice (some ⟨bk, o, none⟩) xs.length c, .string sep] w fun e w' => e = .returned (.string ⟨(Lib.join (xs.map (·.data.toList)) sep.data.toList).toArray⟩) ∧ Below w.heap.size w w' := Any.strings_Join Tryz.lays156 Tryz.Builder_Extra_156 bk o c xs sep w hcells hbk hN hcap hlen
def Tryz.laysM171_ren : Go.Shelf.Ren := ⟨fun | 171 => 22 | 243 => 38 | 246 => 64 | 283 => 96 | 284 => 97 | 285 => 98 | 286 => 99 | 129 => 137 | 317 => 136 | 318 => 138 | 319 => 139 | 320 => 140 | 337 => 165 | 338 => 166 | n => n, fun | 3 => 3 | 9 => 9 | 2 => 2 | 4 => 4 | 171 => 162 | 0 => 0 | 53 => 163 | 37 => 91 | 5 => 5 | 173 => 166 | 212 => 200 | 51 => 122 | 20 => 20 | 213 => 201 | 46 => 169 | 232 => 231 | 233 => 232 | n => n, fun | 17 => 3 | 18 => 4 | 19 => 5 | n => n⟩
theorem Tryz.laysM171 : Go.Proofs.LaysM.n171 Tryz.prog Tryz.laysM171_ren := {
  mixed := by kernel_rfl
  f129 := Tryz.func137.trans (congrArg some (by kernel_rfl))
  f171 := Tryz.func22.trans (congrArg some (by kernel_rfl))
  f243 := Tryz.func38.trans (congrArg some (by kernel_rfl))
  f246 := Tryz.func64.trans (congrArg some (by kernel_rfl))
  f283 := Tryz.func96.trans (congrArg some (by kernel_rfl))
  f284 := Tryz.func97.trans (congrArg some (by kernel_rfl))
  f285 := Tryz.func98.trans (congrArg some (by kernel_rfl))
  f286 := Tryz.func99.trans (congrArg some (by kernel_rfl))
  f317 := Tryz.func136.trans (congrArg some (by kernel_rfl))
  f318 := Tryz.func138.trans (congrArg some (by kernel_rfl))
  f319 := Tryz.func139.trans (congrArg some (by kernel_rfl))
  f320 := Tryz.func140.trans (congrArg some (by kernel_rfl))
  f337 := Tryz.func165.trans (congrArg some (by kernel_rfl))
  f338 := Tryz.func166.trans (congrArg some (by kernel_rfl))
  t0 := Tryz.underlying0
  a0 := Tryz.isAgg0
  z0 := Tryz.sizeOf0
  v0 := Tryz.zeroValue0
  t2 := Tryz.underlying2
  a2 := Tryz.isAgg2
  z2 := Tryz.sizeOf2
  v2 := Tryz.zeroValue2
  t3 := Tryz.underlying3
  a3 := Tryz.isAgg3
  z3 := Tryz.sizeOf3
  v3 := Tryz.zeroValue3
  t4 := Tryz.underlying4
  a4 := Tryz.isAgg4
  z4 := Tryz.sizeOf4
  v4 := Tryz.zeroValue4
  t5 := Tryz.underlying5
  a5 := Tryz.isAgg5
  z5 := Tryz.sizeOf5
  v5 := Tryz.zeroValue5
  t9 := Tryz.underlying9
  a9 := Tryz.isAgg9
  z9 := Tryz.sizeOf9
  v9 := Tryz.zeroValue9
  t20 := Tryz.underlying20
  a20 := Tryz.isAgg20
  z20 := Tryz.sizeOf20
  v20 := Tryz.zeroValue20
  t37 := Tryz.underlying91
  a37 := Tryz.isAgg91
  z37 := Tryz.sizeOf91
  v37 := Tryz.zeroValue91
  t46 := Tryz.underlying169
  a46 := Tryz.isAgg169
  z46 := Tryz.sizeOf169
  v46 := Tryz.zeroValue169
  t51 := Tryz.underlying122
  a51 := Tryz.isAgg122
  z51 := Tryz.sizeOf122
  v51 := Tryz.zeroValue122
  t53 := Tryz.underlying163
  a53 := Tryz.isAgg163
  z53 := Tryz.sizeOf163
  v53 := Tryz.zeroValue163
  t171 := Tryz.underlying162
  a171 := Tryz.isAgg162
  z171 := Tryz.sizeOf162
  v171 := Tryz.zeroValue162
  t173 := Tryz.underlying166
  a173 := Tryz.isAgg166
  z173 := Tryz.sizeOf166
  v173 := Tryz.zeroValue166
  t212 := Tryz.underlying200
  a212 := Tryz.isAgg200
  z212 := Tryz.sizeOf200
  v212 := Tryz.zeroValue200
  t213 := Tryz.underlying201
  a213 := Tryz.isAgg201
  z213 := Tryz.sizeOf201
  t232 := Tryz.underlying231
  a232 := Tryz.isAgg231
  z232 := Tryz.sizeOf231
  v232 := Tryz.zeroValue231
  t233 := Tryz.underlying232
  a233 := Tryz.isAgg232
  z233 := Tryz.sizeOf232
  v233 := Tryz.zeroValue232
  g17 := by kernel_rfl
  g18 := by kernel_rfl
  g19 := by kernel_rfl
  i0 := by kernel_rfl
  i2 := by kernel_rfl
  i3 := by kernel_rfl
  i4 := by kernel_rfl
  i5 := by kernel_rfl
  i9 := by kernel_rfl
  i20 := by kernel_rfl
  i37 := by kernel_rfl
  i46 := by kernel_rfl
  i51 := by kernel_rfl
  i53 := by kernel_rfl
  i171 := by kernel_rfl
  i173 := by kernel_rfl
  i212 := by kernel_rfl
  i232 := by kernel_rfl
  i233 := by kernel_rfl
  m17 := by kernel_rfl
  m18 := by kernel_rfl
  m19 := by kernel_rfl }
open Go.RowKit Go.Sort Go.Lib in
theorem Tryz.strconv_Itoa (n : Int) (h0 : -9223372036854775808 ≤ n) (h1 : n ≤ 9223372036854775807) (w : World) (htab : Lib.TabIs Tryz.prog w "internal/strconv.uint64pow10" .u64 Lib.pow10Tab) :
    Calls Tryz.prog 22 #[.int .i64 n] w fun e w' => e = .returned (.string ⟨(Lib.itoa n).toArray⟩) ∧ ∃ k os, w' = grow (w.drewN k) os := Any.strconv_Itoa Tryz.laysM171 n h0 h1 w htab
def Tryz.lays171_ren : Go.Shelf.Ren := ⟨fun | 171 => 22 | 243 => 38 | 246 => 64 | 283 => 96 | 284 => 97 | 285 => 98 | 286 => 99 | 129 => 137 | 317 => 136 | 318 => 138 | 319 => 139 | 320 => 140 | 337 => 165 | 338 => 166 | n => n, fun | 3 => 3 | 9 => 9 | 2 => 2 | 4 => 4 | 171 => 162 | 0 => 0 | 53 => 163 | 37 => 91 | 5 => 5 | 173 => 166 | 212 => 200 | 51 => 122 | 20 => 20 | 213 => 201 | 46 => 169 | 232 => 231 | 233 => 232 | n => n, fun | 17 => 3 | 18 => 4 | 19 => 5 | n => n⟩
theorem Tryz.lays171 : Go.Proofs.Lays.n171 Tryz.prog Tryz.lays171_ren := {
  mixed := by kernel_rfl
  f129 := Tryz.func137.trans (congrArg some (by kernel_rfl))
  f171 := Tryz.func22.trans (congrArg some (by kernel_rfl))
  f243 := Tryz.func38.trans (congrArg some (by kernel_rfl))
  f246 := Tryz.func64.trans (congrArg some (by kernel_rfl))
  f283 := Tryz.func96.trans (congrArg some (by kernel_rfl))
  f284 := Tryz.func97.trans (congrArg some (by kernel_rfl))
  f285 := Tryz.func98.trans (congrArg some (by kernel_rfl))
  f286 := Tryz.func99.trans (congrArg some (by kernel_rfl))
  f317 := Tryz.func136.trans (congrArg some (by kernel_rfl))
  f318 := Tryz.func138.trans (congrArg some (by kernel_rfl))
  f319 := Tryz.func139.trans (congrArg some (by kernel_rfl))
  f320 := Tryz.func140.trans (congrArg some (by kernel_rfl))
  f337 := Tryz.func165.trans (congrArg some (by kernel_rfl))
  f338 := Tryz.func166.trans (congrArg some (by kernel_rfl))
  t0 := Tryz.underlying0
  a0 := Tryz.isAgg0
  z0 := Tryz.sizeOf0
  v0 := Tryz.zeroValue0
  t2 := Tryz.underlying2
  a2 := Tryz.isAgg2
  z2 := Tryz.sizeOf2
  v2 := Tryz.zeroValue2
  t3 := Tryz.underlying3
  a3 := Tryz.isAgg3
  z3 := Tryz.sizeOf3
  v3 := Tryz.zeroValue3
  t4 := Tryz.underlying4
  a4 := Tryz.isAgg4
  z4 := Tryz.sizeOf4
  v4 := Tryz.zeroValue4
  t5 := Tryz.underlying5
  a5 := Tryz.isAgg5
  z5 := Tryz.sizeOf5
  v5 := Tryz.zeroValue5
  t9 := Tryz.underlying9
  a9 := Tryz.isAgg9
  z9 := Tryz.sizeOf9
  v9 := Tryz.zeroValue9
  t20 := Tryz.underlying20
  a20 := Tryz.isAgg20
  z20 := Tryz.sizeOf20
  v20 := Tryz.zeroValue20
  t37 := Tryz.underlying91
  a37 := Tryz.isAgg91
  z37 := Tryz.sizeOf91
  v37 := Tryz.zeroValue91
  t46 := Tryz.underlying169
  a46 := Tryz.isAgg169
  z46 := Tryz.sizeOf169
  v46 := Tryz.zeroValue169
  t51 := Tryz.underlying122
  a51 := Tryz.isAgg122
  z51 := Tryz.sizeOf122
  v51 := Tryz.zeroValue122
  t53 := Tryz.underlying163
  a53 := Tryz.isAgg163
  z53 := Tryz.sizeOf163
  v53 := Tryz.zeroValue163
  t171 := Tryz.underlying162
  a171 := Tryz.isAgg162
  z171 := Tryz.sizeOf162
  v171 := Tryz.zeroValue162
  t173 := Tryz.underlying166
  a173 := Tryz.isAgg166
  z173 := Tryz.sizeOf166
  v173 := Tryz.zeroValue166
  t212 := Tryz.underlying200
  a212 := Tryz.isAgg200
  z212 := Tryz.sizeOf200
  v212 := Tryz.zeroValue200
  t213 := Tryz.underlying201
  a213 := Tryz.isAgg201
  z213 := Tryz.sizeOf201
  t232 := Tryz.underlying231
  a232 := Tryz.isAgg231
  z232 := Tryz.sizeOf231
  v232 := Tryz.zeroValue231
  t233 := Tryz.underlying232
  a233 := Tryz.isAgg232
  z233 := Tryz.sizeOf232
  v233 := Tryz.zeroValue232
  g17 := by kernel_rfl
  g18 := by kernel_rfl
  g19 := by kernel_rfl }
open Go.RowKit Go.Sort Go.Lib in
theorem Tryz.strconv_Itoa_small (i : Nat) (hi : i < 100) (w : World) :
    Calls Tryz.prog 22 #[.int .i64 i] w fun e w' => e = .returned (.string ⟨(Lib.decDigits i).toArray⟩) ∧ w' = w := Any.strconv_Itoa_small Tryz.lays171 i hi w
def Tryz.laysC172_ren : Go.Shelf.Ren := ⟨fun | 172 => 25 | 244 => 43 | 245 => 44 | 247 => 67 | 279 => 68 | 280 => 69 | 281 => 70 | 282 => 71 | 287 => 101 | 316 => 102 | 171 => 22 | 205 => 103 | 321 => 141 | 322 => 142 | 243 => 38 | 246 => 64 | 283 => 96 | 284 => 97 | 285 => 98 | 286 => 99 | 129 => 137 | 317 => 136 | 318 => 138 | 319 => 139 | 320 => 140 | 337 => 165 | 338 => 166 | n => n, fun | 9 => 9 | 3 => 3 | 75 => 63 | 76 => 64 | 4 => 4 | 5 => 5 | 167 => 125 | 37 => 91 | 0 => 0 | 85 => 126 | 2 => 2 | 168 => 128 | 53 => 163 | 175 => 170 | 46 => 169 | 210 => 174 | 127 => 119 | 145 => 206 | 143 => 204 | 21 => 21 | 171 => 162 | 173 => 166 | 212 => 200 | 51 => 122 | 20 => 20 | 213 => 201 | 232 => 231 | 233 => 232 | 80 => 95 | n => n, fun | 15 => 1 | 16 => 2 | 17 => 3 | 18 => 4 | 19 => 5 | n => n⟩
theorem Tryz.laysC172 : Go.Proofs.LaysC.n172 Tryz.prog Tryz.laysC172_ren := {
  mixed := by kernel_rfl
  f129 := Tryz.func137.trans (congrArg some (by kernel_rfl))
  f171 := Tryz.func22.trans (congrArg some (by kernel_rfl))
  f172 := Tryz.func25.trans (congrArg some (by kernel_rfl))
  f205 := Tryz.func103.trans (congrArg some (by kernel_rfl))
  f243 := Tryz.func38.trans (congrArg some (by kernel_rfl))
  f244 := Tryz.func43.trans (congrArg some (by kernel_rfl))
  f245 := Tryz.func44.trans (congrArg some (by kernel_rfl))
  f246 := Tryz.func64.trans (congrArg some (by kernel_rfl))
  f247 := Tryz.func67.trans (congrArg some (by kernel_rfl))
  f279 := Tryz.func68.trans (congrArg some (by kernel_rfl))
  f280 := Tryz.func69.trans (congrArg some (by kernel_rfl))
  f281 := Tryz.func70.trans (congrArg some (by kernel_rfl))
  f282 := Tryz.func71.trans (congrArg some (by kernel_rfl))
  f283 := Tryz.func96.trans (congrArg some (by kernel_rfl))
  f284 := Tryz.func97.trans (congrArg some (by kernel_rfl))
  f285 := Tryz.func98.trans (congrArg some (by kernel_rfl))
  f286 := Tryz.func99.trans (congrArg some (by kernel_rfl))
  f287 := Tryz.func101.trans (congrArg some (by kernel_rfl))
  f316 := Tryz.func102.trans (congrArg some (by kernel_rfl))
  f317 := Tryz.func136.trans (congrArg some (by kernel_rfl))
  f318 := Tryz.func138.trans (congrArg some (by kernel_rfl))
  f319 := Tryz.func139.trans (congrArg some (by kernel_rfl))
  f320 := Tryz.func140.trans (congrArg some (by kernel_rfl))
  f321 := Tryz.func141.trans (congrArg some (by kernel_rfl))
  f322 := Tryz.func142.trans (congrArg some (by kernel_rfl))
  f337 := Tryz.func165.trans (congrArg some (by kernel_rfl))
  f338 := Tryz.func166.trans (congrArg some (by kernel_rfl))
  t0 := Tryz.underlying0
  a0 := Tryz.isAgg0
  z0 := Tryz.sizeOf0
  v0 := Tryz.zeroValue0
  t2 := Tryz.underlying2
  a2 := Tryz.isAgg2
  z2 := Tryz.sizeOf2
  v2 := Tryz.zeroValue2
  t3 := Tryz.underlying3
  a3 := Tryz.isAgg3
  z3 := Tryz.sizeOf3
  v3 := Tryz.zeroValue3
  t4 := Tryz.underlying4
  a4 := Tryz.isAgg4
  z4 := Tryz.sizeOf4
  v4 := Tryz.zeroValue4
  t5 := Tryz.underlying5
  a5 := Tryz.isAgg5
  z5 := Tryz.sizeOf5
  v5 := Tryz.zeroValue5
  t9 := Tryz.underlying9
  a9 := Tryz.isAgg9
  z9 := Tryz.sizeOf9
  v9 := Tryz.zeroValue9
  t20 := Tryz.underlying20
  a20 := Tryz.isAgg20
  z20 := Tryz.sizeOf20
  v20 := Tryz.zeroValue20
  t21 := Tryz.underlying21
  a21 := Tryz.isAgg21
  z21 := Tryz.sizeOf21
  v21 := Tryz.zeroValue21
  t37 := Tryz.underlying91
  a37 := Tryz.isAgg91
  z37 := Tryz.sizeOf91
  v37 := Tryz.zeroValue91
  t46 := Tryz.underlying169
  a46 := Tryz.isAgg169
  z46 := Tryz.sizeOf169
  v46 := Tryz.zeroValue169
  t51 := Tryz.underlying122
  a51 := Tryz.isAgg122
  z51 := Tryz.sizeOf122
  v51 := Tryz.zeroValue122
  t53 := Tryz.underlying163
  a53 := Tryz.isAgg163
  z53 := Tryz.sizeOf163
  v53 := Tryz.zeroValue163
  t75 := Tryz.underlying63
  a75 := Tryz.isAgg63
  z75 := Tryz.sizeOf63
  v75 := Tryz.zeroValue63
  t76 := Tryz.underlying64
  a76 := Tryz.isAgg64
  z76 := Tryz.sizeOf64
  v76 := Tryz.zeroValue64
  t85 := Tryz.underlying126
  a85 := Tryz.isAgg126
  z85 := Tryz.sizeOf126
  v85 := Tryz.zeroValue126
  t127 := Tryz.underlying119
  a127 := Tryz.isAgg119
  z127 := Tryz.sizeOf119
  v127 := Tryz.zeroValue119
  t143 := Tryz.underlying204
  a143 := Tryz.isAgg204
  z143 := Tryz.sizeOf204
  v143 := Tryz.zeroValue204
  t145 := Tryz.underlying206
  a145 := Tryz.isAgg206
  z145 := Tryz.sizeOf206
  v145 := Tryz.zeroValue206
  t167 := Tryz.underlying125
  a167 := Tryz.isAgg125
  z167 := Tryz.sizeOf125
  v167 := Tryz.zeroValue125
  t168 := Tryz.underlying128
  a168 := Tryz.isAgg128
  z168 := Tryz.sizeOf128
  v168 := Tryz.zeroValue128
  t171 := Tryz.underlying162
  a171 := Tryz.isAgg162
  z171 := Tryz.sizeOf162
  v171 := Tryz.zeroValue162
  t173 := Tryz.underlying166
  a173 := Tryz.isAgg166
  z173 := Tryz.sizeOf166
  v173 := Tryz.zeroValue166
  t175 := Tryz.underlying170
  a175 := Tryz.isAgg170
  z175 := Tryz.sizeOf170
  v175 := Tryz.zeroValue170
  t210 := Tryz.underlying174
  a210 := Tryz.isAgg174
  z210 := Tryz.sizeOf174
  v210 := Tryz.zeroValue174
  t212 := Tryz.underlying200
  a212 := Tryz.isAgg200
  z212 := Tryz.sizeOf200
  v212 := Tryz.zeroValue200
  t213 := Tryz.underlying201
  a213 := Tryz.isAgg201
  z213 := Tryz.sizeOf201
  t232 := Tryz.underlying231
  a232 := Tryz.isAgg231
  z232 := Tryz.sizeOf231
  v232 := Tryz.zeroValue231
  t233 := Tryz.underlying232
  a233 := Tryz.isAgg232
  z233 := Tryz.sizeOf232
  v233 := Tryz.zeroValue232
  g15 := by kernel_rfl
  g16 := by kernel_rfl
  g17 := by kernel_rfl
  g18 := by kernel_rfl
  g19 := by kernel_rfl
  t80 := Tryz.underlying95
  a80 := Tryz.isAgg95
  z80 := Tryz.sizeOf95
  v80 := Tryz.zeroValue95
  i0 := by kernel_rfl
  i2 := by kernel_rfl
  i3 := by kernel_rfl
  i4 := by kernel_rfl
  i5 := by kernel_rfl
  i9 := by kernel_rfl
  i20 := by kernel_rfl
  i21 := by kernel_rfl
  i37 := by kernel_rfl
  i46 := by kernel_rfl
  i51 := by kernel_rfl
  i53 := by kernel_rfl
  i75 := by kernel_rfl
  i76 := by kernel_rfl
  i80 := by kernel_rfl
  i85 := by kernel_rfl
  i127 := by kernel_rfl
  i143 := by kernel_rfl
  i145 := by kernel_rfl
  i167 := by kernel_rfl
  i168 := by kernel_rfl
  i171 := by kernel_rfl
  i173 := by kernel_rfl
  i175 := by kernel_rfl
  i210 := by kernel_rfl
  i212 := by kernel_rfl
  i232 := by kernel_rfl
  i233 := by kernel_rfl
  m15 := by kernel_rfl
  m16 := by kernel_rfl
  m17 := by kernel_rfl
  m18 := by kernel_rfl
  m19 := by kernel_rfl
  c0 := by kernel_rfl
  c2 := by kernel_rfl
  c3 := by kernel_rfl
  c4 := by kernel_rfl
  c5 := by kernel_rfl
  c9 := by kernel_rfl
  c20 := by kernel_rfl
  c21 := by kernel_rfl
  c37 := by kernel_rfl
  c46 := by kernel_rfl
  c51 := by kernel_rfl
  c53 := by kernel_rfl
  c75 := by kernel_rfl
  c76 := by kernel_rfl
  c80 := by kernel_rfl
  c85 := by kernel_rfl
  c127 := by kernel_rfl
  c143 := by kernel_rfl
  c145 := by kernel_rfl
  c167 := by kernel_rfl
  c168 := by kernel_rfl
  c171 := by kernel_rfl
  c173 := by kernel_rfl
  c175 := by kernel_rfl
  c210 := by kernel_rfl
  c212 := by kernel_rfl
  c213 := by kernel_rfl
  c232 := by kernel_rfl
  c233 := by kernel_rfl }
open Go.RowKit in
theorem Tryz.strconv_Atoi_ok (s : ByteArray) (hmax : s.size ≤ 9223372036854775806) (v : Int) (h : Lib.atoiAll s.data.toList = .ok v) (w : World) :
    Calls Tryz.prog 25 #[.string s] w fun e w' => e = .returned (.tuple #[.int .i64 v, .nilIface]) ∧ (w' = w ∨ ∃ t, w' = Lib.bytesWorld w 5 t) := Any.strconv_Atoi_ok Tryz.laysC172 s hmax v h w
def Tryz.lays148_ren : Go.Shelf.Ren := ⟨fun | 148 => 24 | 222 => 41 | 223 => 42 | 269 => 66 | n => n, fun | 9 => 9 | 3 => 3 | 4 => 4 | 5 => 5 | 146 => 123 | 51 => 122 | 46 => 169 | n => n, fun | n => n⟩
theorem Tryz.lays148 : Go.Proofs.Lays.n148 Tryz.prog Tryz.lays148_ren := {
  mixed := by kernel_rfl
  f148 := Tryz.func24.trans (congrArg some (by kernel_rfl))
  f222 := Tryz.func41.trans (congrArg some (by kernel_rfl))
  f223 := Tryz.func42.trans (congrArg some (by kernel_rfl))
  f269 := Tryz.func66.trans (congrArg some (by kernel_rfl))
  t3 := Tryz.underlying3
  a3 := Tryz.isAgg3
  z3 := Tryz.sizeOf3
  v3 := Tryz.zeroValue3
  t4 := Tryz.underlying4
  a4 := Tryz.isAgg4
  z4 := Tryz.sizeOf4
  v4 := Tryz.zeroValue4
  t5 := Tryz.underlying5
  a5 := Tryz.isAgg5
  z5 := Tryz.sizeOf5
  v5 := Tryz.zeroValue5
  t9 := Tryz.underlying9
  a9 := Tryz.isAgg9
  z9 := Tryz.sizeOf9
  v9 := Tryz.zeroValue9
  t46 := Tryz.underlying169
  a46 := Tryz.isAgg169
  z46 := Tryz.sizeOf169
  v46 := Tryz.zeroValue169
  t51 := Tryz.underlying122
  a51 := Tryz.isAgg122
  z51 := Tryz.sizeOf122
  v51 := Tryz.zeroValue122
  t146 := Tryz.underlying123
  a146 := Tryz.isAgg123
  z146 := Tryz.sizeOf123
  v146 := Tryz.zeroValue123 }
open Go.RowKit Go.Lib in
theorem Tryz.strings_LastIndex_one (s sub : ByteArray) (h1 : sub.size = 1) (hs : s.size < 4611686018427387904) (w : World) :
    Calls Tryz.prog 24 #[.string s, .string sub] w fun e w' => e = .returned (.int .i64 (Lib.lastIndexByte s ((sub[0]'(by omega)).toNat : Int))) ∧ w' = w := Any.strings_LastIndex_one Tryz.lays148 s sub h1 hs w
def Tryz.laysGw17_ren : Go.Shelf.Ren := ⟨fun | 17 => 40 | 15 => 65 | 20 => 100 | n => n, fun | 9 => 9 | 23 => 96 | 4 => 4 | 3 => 3 | 0 => 0 | 21 => 21 | n => n, fun | n => n⟩
theorem Tryz.laysGw17 : Go.Proofs.LaysGw.n17 Tryz.prog Tryz.laysGw17_ren := {
  mixed := by kernel_rfl
  f15 := Tryz.func65.trans (congrArg some (by kernel_rfl))
  f17 := Tryz.func40.trans (congrArg some (by kernel_rfl))
  f20 := Tryz.func100.trans (congrArg some (by kernel_rfl))
  t0 := Tryz.underlying0
  a0 := Tryz.isAgg0
  z0 := Tryz.sizeOf0
  v0 := Tryz.zeroValue0
  i0 := by kernel_rfl
  t3 := Tryz.underlying3
  a3 := Tryz.isAgg3
  z3 := Tryz.sizeOf3
  v3 := Tryz.zeroValue3
  i3 := by kernel_rfl
  t4 := Tryz.underlying4
  a4 := Tryz.isAgg4
  z4 := Tryz.sizeOf4
  v4 := Tryz.zeroValue4
  i4 := by kernel_rfl
  t9 := Tryz.underlying9
  a9 := Tryz.isAgg9
  z9 := Tryz.sizeOf9
  v9 := Tryz.zeroValue9
  i9 := by kernel_rfl
  t21 := Tryz.underlying21
  a21 := Tryz.isAgg21
  z21 := Tryz.sizeOf21
  v21 := Tryz.zeroValue21
  i21 := by kernel_rfl
  t23 := Tryz.underlying96
  a23 := Tryz.isAgg96
  z23 := Tryz.sizeOf96
  v23 := Tryz.zeroValue96
  i23 := by kernel_rfl }
open Go.RowKit Go.Lib in
theorem Tryz.strings_ContainsFunc_grows (g : Nat) (lb : Array Value) (eg : ∀ args w, (callFunc g args).run Tryz.prog w = .ok (.enter g args) w) (p : Nat → Bool) (s : ByteArray) (w : World) (hp : PredGrows Tryz.prog g lb p w) :
    Calls Tryz.prog 40 #[.string s, .func (.func g) #[] lb] w fun e w' => e = .returned (.bool (decide (0 ≤ Lib.idxFunc p true s))) ∧ Below w.heap.size w w' := Any.strings_ContainsFunc_grows Tryz.laysGw17 g lb eg p s w hp
end Go.Proofs
namespace Go.Proofs.YthcaafhpnmmfmaaGreatDoor
set_option linter.unusedVariables false
set_option linter.unusedSimpArgs false
open Go.RowKit

theorem ret_boolB {x y : Bool} (h : x = y) : Ending.returned (.bool x) = Ending.returned (.bool y) := by rw [h]
theorem flOdd_any (x : Nat) (w : World) : Calls Tryz.prog 39 #[.int .i32 x] w fun e w' => e = .returned (.bool (oddR x)) ∧ w' = w := by
  have h34 : ((x : Int) == 34) = decide (x = 34) := by rw [Bool.eq_iff_iff]; simp; omega
  by_cases h1 : x < 33
  · have h1' : (x : Int) < 33 := by omega
    go_enter Tryz.func39, Tryz.ntmps39
    go_wp2_with fail
    all_goals (go_ret; refine ⟨ret_boolB ?_, rfl⟩; simp [oddR, h1])
  · have h1' : ¬ (x : Int) < 33 := by omega
    by_cases h2 : 126 < x
    · have h2' : (126 : Int) < x := by omega
      go_enter Tryz.func39, Tryz.ntmps39
      go_wp2_with fail
      all_goals (go_ret; refine ⟨ret_boolB ?_, rfl⟩; simp [oddR, h2])
    · have h2' : ¬ (126 : Int) < x := by omega
      go_enter Tryz.func39, Tryz.ntmps39
      go_wp2_with fail
      all_goals (go_ret; refine ⟨ret_boolB ?_, rfl⟩; simp [oddR, h1, h2])
theorem flOdd_grows (w : World) : PredGrows Tryz.prog 39 #[] oddR w := fun W x _ _ =>
  (flOdd_any x W).mono fun e w' ⟨he, hw⟩ => ⟨he, hw ▸ Below.refl _ _⟩
theorem flOdd_enters : ∀ args w, (callFunc 39 args).run Tryz.prog w = .ok (.enter 39 args) w := enters_of Tryz.func39 (by kernel_rfl) rfl

theorem flIsName_any (s : ByteArray) (hs : s.size ≤ maxLen) (w : World) : Calls Tryz.prog 23 #[.string s] w fun e w' => e = .returned (.bool (isName s)) ∧ Below w.heap.size w w' := by
  have hs := size_le_maxLen hs
  have hc := Tryz.strings_ContainsFunc_grows 39 #[] flOdd_enters oddR s
  by_cases h1 : (1 : Int) ≤ s.size
  · by_cases h2 : (s.size : Int) ≤ 40
    · go_enter Tryz.func23, Tryz.ntmps23
      go_wp2_with fail
      refine (hc _ (flOdd_grows _)).mono ?_
      rintro e w' ⟨rfl, hb⟩
      go_wp2_with fail
      go_ret
      refine ⟨ret_boolB ?_, hb⟩
      rw [contains_odd]
      unfold isName
      rw [decide_eq_true (by omega), Bool.and_true]
      simp
    · go_enter Tryz.func23, Tryz.ntmps23
      go_wp2_with fail
      go_ret
      refine ⟨ret_boolB ?_, Below.refl _ _⟩
      unfold isName
      rw [decide_eq_false (show ¬ (1 ≤ s.size ∧ s.size ≤ 40) by omega), Bool.and_false]
  · go_enter Tryz.func23, Tryz.ntmps23
    go_wp2_with fail
    go_ret
    refine ⟨ret_boolB ?_, Below.refl _ _⟩
    unfold isName
    rw [decide_eq_false (show ¬ (1 ≤ s.size ∧ s.size ≤ 40) by omega), Bool.and_false]
end Go.Proofs.YthcaafhpnmmfmaaGreatDoor
namespace Go.Proofs.YthcaafhpnmmfmaaGreatDoor
set_option linter.unusedVariables false
set_option linter.unusedSimpArgs false
open Go.RowKit Go.Lib

/-- What a call of strconv.Itoa comes to. -/
abbrev ItoaAt (n : Int) (w : World) : Prop := Calls Tryz.prog 22 #[.int .i64 n] w fun e w' => e = .returned (.string ⟨(itoa n).toArray⟩) ∧ Below w.heap.size w w'
theorem join_two (a b : List UInt8) : Lib.join [a, b] [35] = a ++ 35 :: b := by
  simp [Lib.join]
theorem lamL_eq (s : ByteArray) (n : Int) : Lib.join (([s, ⟨(itoa n).toArray⟩] : List ByteArray).map (·.data.toList)) (ByteArray.mk #[35]).data.toList = lamL s n := by
  show Lib.join [s.data.toList, (itoa n).toArray.toList] [35] = _
  rw [join_two]
  rfl
theorem flName_any (s : ByteArray) (n : Int) (hs : s.size ≤ 250) (hn : (itoa n).length ≤ 21) (w : World) (hI : ItoaAt n w) :
    Calls Tryz.prog 5 #[.string s, .int .i64 n] w fun e w' => e = .returned (.tuple #[.string (nameT s n), .int .i64 (nameE s n)]) ∧ Below w.heap.size w w' := by
  have hlen : (lamL s n).length = s.size + 1 + (itoa n).length := by
    unfold lamL
    simp only [List.length_append, List.length_cons]
    have : s.data.toList.length = s.size := rfl
    omega
  go_enter Tryz.func5, Tryz.ntmps5
  go_wp2_with fail
  refine hI.mono ?_
  rintro e w1 ⟨rfl, hb1⟩
  go_wp2_with fail
  have hJ := Tryz.strings_Join w1.heap.size 0 2 [s, ⟨(itoa n).toArray⟩] ⟨#[35]⟩ (w1.alloc (.cells #[.string s, .string ⟨(itoa n).toArray⟩] 9)) (by
    intro j x hx
    match j, hx with
    | 0, hx => cases hx; simp
    | 1, hx => cases hx; simp) (by simp) (by simp) (by simp) (by rw [lamL_eq, hlen]; omega)
  rw [lamL_eq] at hJ
  refine hJ.mono ?_
  rintro e w2 ⟨rfl, hb2⟩
  have hbA : Below w.heap.size w w2 := (hb1.alloc (Nat.le_of_lt_succ (Nat.lt_succ_of_le hb1.size)) _).trans (hb2.mono (by simp; have := hb1.size; omega))
  have hN := flIsName_any s (by unfold maxLen; omega)
  go_wp2_with fail
  refine (hN _).mono ?_
  rintro e w3 ⟨rfl, hb3⟩
  have hbB : Below w.heap.size w w3 := hbA.trans (hb3.mono hbA.size)
  have hsz : (⟨(lamL s n).toArray⟩ : ByteArray).size = (lamL s n).length := by simp [ByteArray.size]
  cases hi : isName s with
  | false =>
    go_wp2_with fail
    go_ret2
    refine ⟨?_, hbB⟩
    have e1 : nameE s n = 4 := by unfold nameE; rw [hi]; rfl
    have e2 : nameT s n = ByteArray.empty := by unfold nameT; rw [e1]; rfl
    rw [e1, e2]
    rfl
  | true =>
    by_cases hneg : n < 0
    · go_wp2_with fail
      go_ret2
      refine ⟨?_, hbB⟩
      have e1 : nameE s n = 3 := by unfold nameE; rw [hi, if_pos rfl, if_pos hneg]
      have e2 : nameT s n = ByteArray.empty := by unfold nameT; rw [e1]; rfl
      rw [e1, e2]
      rfl
    · by_cases h40 : 40 < (lamL s n).length
      · have h40' : (40 : Int) < (lamL s n).length := by omega
        go_wp2_with fail
        go_ret2
        refine ⟨?_, hbB⟩
        have e1 : nameE s n = 5 := by unfold nameE; rw [hi, if_pos rfl, if_neg (show ¬ n < 0 by omega), if_pos h40]
        have e2 : nameT s n = ByteArray.empty := by unfold nameT; rw [e1]; rfl
        rw [e1, e2]
        rfl
      · have h40' : ¬ (40 : Int) < (lamL s n).length := by omega
        go_wp2_with fail
        go_ret2
        refine ⟨?_, hbB⟩
        have e1 : nameE s n = 0 := by unfold nameE; rw [hi, if_pos rfl, if_neg (show ¬ n < 0 by omega), if_neg h40]
        have e2 : nameT s n = ⟨(lamL s n).toArray⟩ := by unfold nameT; rw [e1]; rfl
        rw [e1, e2]
        rfl
end Go.Proofs.YthcaafhpnmmfmaaGreatDoor
namespace Go.Proofs.YthcaafhpnmmfmaaGreatDoor
set_option linter.unusedVariables false
set_option linter.unusedSimpArgs false
open Go.RowKit Go.Lib

/-- What a call of strconv.Atoi comes to: the number, or another one and an error. -/
abbrev AtoiAt (t : ByteArray) (w : World) : Prop := Calls Tryz.prog 25 #[.string t] w fun e w' => Below w.heap.size w w' ∧ ((∃ v, atoiAll t.data.toList = .ok v ∧ e = .returned (.tuple #[.int .i64 v, .nilIface])) ∨
  ((∀ v, atoiAll t.data.toList ≠ .ok v) ∧ ∃ v te pe, -9223372036854775808 ≤ v ∧ v ≤ 9223372036854775807 ∧ e = .returned (.tuple #[.int .i64 v, .iface te (.pointer (some pe))])))
/-- What a name splits into, and the error. -/
def splitV (r : Option (ByteArray × Int)) : Value := match r with
  | some (f, n) => .tuple #[.string f, .int .i64 n, .int .i64 0]
  | none => .tuple #[.string ByteArray.empty, .int .i64 0, .int .i64 4]
theorem ext_tail (s : ByteArray) (i : Nat) : (s.extract i s.size).data.toList = s.data.toList.drop i := by
  rw [ByteArray.data_extract, Array.toList_extract, List.extract_eq_drop_take']
  rw [List.take_of_length_le]
  show s.data.toList.length ≤ s.data.size
  simp
theorem toL_inj {a b : ByteArray} (h : a.toList = b.toList) : a = b := by
  have e : a.data.toList = b.data.toList := by simpa [ByteArray.toList_eq] using h
  exact ByteArray.ext (Array.ext' e)
theorem ext_head (s : ByteArray) (i : Nat) : s.extract 0 i = ⟨(s.data.toList.take i).toArray⟩ := by
  apply ByteArray.ext
  rw [ByteArray.data_extract]
  apply Array.ext'
  rw [Array.toList_extract, List.extract_eq_drop_take']
  simp
/-- What stands behind the last sign. -/
def tailL (s : ByteArray) : List UInt8 := s.data.toList.drop ((lastIndexByte s 35).toNat + 1)
theorem flSplit_any (s : ByteArray) (hs : s.size ≤ 250) (w : World) (hA : ∀ t : ByteArray, t.size ≤ 250 → t.data.toList = tailL s → ∀ w1, Below w.heap.size w w1 → AtoiAt t w1)
    (hI : ∀ n : Int, -9223372036854775808 ≤ n → n ≤ 9223372036854775807 → (∀ v, atoiAll (tailL s) = .ok v → n = v) → ∀ w1, Below w.heap.size w w1 → ItoaAt n w1) :
    Calls Tryz.prog 6 #[.string s] w fun e w' => e = .returned (splitV (splitP s)) ∧ Below w.heap.size w w' := by
  have hL := Tryz.strings_LastIndex_one s ⟨#[35]⟩ rfl (by omega)
  have h35 : (((⟨#[35]⟩ : ByteArray)[0]'(by decide)).toNat : Int) = 35 := rfl
  rw [h35] at hL
  by_cases h0 : lastIndexByte s 35 < 0
  · go_enter Tryz.func6, Tryz.ntmps6
    go_wp2_with fail
    refine (hL _).mono ?_
    rintro e w1 ⟨rfl, rfl⟩
    go_wp2_with fail
    go_ret3
    refine ⟨?_, Below.refl _ _⟩
    unfold splitP cutAt
    rw [if_pos h0]
    rfl
  · obtain ⟨i, hi, he, hb⟩ := lastIdx_pos h0
    rw [he] at hL
    have hi0 : ¬ (i : Int) < 0 := by omega
    have hil : (i : Int) + 1 ≤ s.size := by omega
    go_enter Tryz.func6, Tryz.ntmps6
    go_wp2_with fail
    refine (hL _).mono ?_
    rintro e w1 ⟨rfl, rfl⟩
    go_wp2_with fail
    have hcut : cutAt s = some (s.extract 0 i, s.data.toList.drop (i + 1)) := by
      unfold cutAt
      rw [if_neg (by rw [he]; omega), he, ext_head]
      rfl
    have hsp : splitP s = (match atoiAll (s.data.toList.drop (i + 1)) with
      | .ok v => if nameE (s.extract 0 i) v = 0 ∧ nameT (s.extract 0 i) v = s then some (s.extract 0 i, v) else none
      | _ => none) := by
      unfold splitP
      rw [hcut]
      try rfl
    have hta := ext_tail s (i + 1)
    have htz : (s.extract (i + 1) s.size).size ≤ 250 := by simp [ByteArray.size_extract]; omega
    have hfz : (s.extract 0 i).size ≤ 250 := by simp [ByteArray.size_extract]; omega
    have htl : tailL s = s.data.toList.drop (i + 1) := by
      unfold tailL
      rw [he]
      rfl
    rw [htl] at hA hI
    clear htl
    have hAt := hA _ htz hta w1 (Below.refl _ _)
    refine hAt.mono ?_
    rintro e w2 ⟨hb2, hor⟩
    rw [hta] at hor
    generalize s.extract (i + 1) s.size = tail at *
    have hNm := fun n a b c => flName_any (s.extract 0 i) n hfz (itoa_length_le n a b) w2 (hI n a b c w2 hb2)
    rcases hor with ⟨v, hv, rfl⟩ | ⟨hv, v, te, pe, r1, r2, rfl⟩
    · obtain ⟨r1, r2⟩ := atoi_range hv
      rw [hv] at hsp
      simp only at hsp
      have hN := hNm v r1 r2 (fun v2 h2 => by rw [hv] at h2; injection h2)
      clear hNm hA hI hAt
      go_wp2_with fail
      refine hN.mono ?_
      rintro e w3 ⟨rfl, hb3⟩
      generalize nameE (s.extract 0 i) v = E at *
      generalize nameT (s.extract 0 i) v = T at *
      have hbb : Below w1.heap.size w1 w3 := hb2.trans (hb3.mono hb2.size)
      by_cases hE : E = 0
      · subst hE
        by_cases hT : T = s
        · subst hT
          rw [if_pos ⟨rfl, rfl⟩] at hsp
          go_wp2_with fail
          go_ret3
          rw [hsp]
          exact ⟨rfl, hbb⟩
        · rw [if_neg (fun h => hT h.2)] at hsp
          have hTb : (T.toList == s.toList) = false := beq_eq_false_iff_ne.2 fun e => hT (toL_inj e)
          go_wp2_with fail
          go_ret3
          rw [hsp]
          exact ⟨rfl, hbb⟩
      · rw [if_neg (fun h => hE h.1)] at hsp
        have hEb : (E == 0) = false := beq_eq_false_iff_ne.2 hE
        go_wp2_with fail
        go_ret3
        rw [hsp]
        exact ⟨rfl, hbb⟩
    · have hsn : splitP s = none := by
        rw [hsp]
        split
        · rename_i v hv'
          exact absurd hv' (hv v)
        · rfl
      have hN := hNm v r1 r2 (fun v2 h2 => absurd h2 (hv v2))
      clear hNm hA hI hAt hsp
      go_wp2_with fail
      refine hN.mono ?_
      rintro e w3 ⟨rfl, hb3⟩
      have hbb : Below w1.heap.size w1 w3 := hb2.trans (hb3.mono hb2.size)
      go_wp2_with fail
      go_ret3
      rw [hsn]
      exact ⟨rfl, hbb⟩
end Go.Proofs.YthcaafhpnmmfmaaGreatDoor
namespace Go.Proofs.YthcaafhpnmmfmaaGreatDoor
set_option linter.unusedVariables false
set_option linter.unusedSimpArgs false
open Go.RowKit Go.Lib

theorem ret_bool {x y : Bool} (h : x = y) : Ending.returned (.bool x) = Ending.returned (.bool y) := by rw [h]
theorem In_any (n lo hi : Int) (w : World) : Calls Tryz.prog 28 #[.int .i64 n, .int .i64 lo, .int .i64 hi] w fun e w' => e = .returned (.bool (decide (lo ≤ n ∧ n ≤ hi))) ∧ w = w' := by
  by_cases h1 : lo ≤ n
  · by_cases h2 : n ≤ hi
    · rw [decide_eq_true ⟨h1, h2⟩]
      go_enter Tryz.func28, Tryz.ntmps28
      go_wp2_with fail
      all_goals (go_ret; exact ⟨by first | rfl | simp [h1, h2], rfl⟩)
    · rw [decide_eq_false (fun h => h2 h.2)]
      go_enter Tryz.func28, Tryz.ntmps28
      go_wp2_with fail
      all_goals (go_ret; exact ⟨by first | rfl | (simp; omega), rfl⟩)
  · rw [decide_eq_false (fun h => h1 h.1)]
    go_enter Tryz.func28, Tryz.ntmps28
    go_wp2_with fail
    all_goals (go_ret; exact ⟨by first | rfl | (simp; omega), rfl⟩)
set_option maxHeartbeats 1000000 in
theorem IsName_any (s : ByteArray) (hs : s.size ≤ maxLen) (w : World) :
    Calls Tryz.prog 26 #[.string s] w fun e w' => e = .returned (.bool (isName s)) ∧ w = w' := by
  have hs := size_le_maxLen hs
  by_cases hl : 1 ≤ s.size ∧ s.size ≤ 40
  · have hin0 : decide ((1 : Int) ≤ (s.size : Int) ∧ (s.size : Int) ≤ 40) = true := decide_eq_true (by omega)
    go_enter Tryz.func26, Tryz.ntmps26
    go_wp2_with fail
    refine (In_any _ _ _ _).mono ?_
    rintro e w' ⟨rfl, rfl⟩
    rw [hin0]
    clear hin0
    go_wp2_with fail
    go_loop [3] (fun i => ∃ k : Nat, k ≤ s.size ∧ i = .int .i64 k ∧ (s.data.toList.take k).all nameByte = true) (fun i => s.size - (intOf i).toNat)
    case atStart => exact ⟨0, Nat.zero_le _, rfl, rfl⟩
    case round =>
      obtain ⟨k, hk, rfl, hall⟩ := hrel
      have HA := Lib.hid hall; clear hall
      by_cases hlt : k < s.size
      · have hltI : (k : Int) < s.size := by omega
        have h256 : s[k].toNat < 256 := s[k].toNat_lt
        cases ho : nameByte s[k]
        · have hb := (nameByte_not _).1 ho; have HO := Lib.hid ho; clear ho
          by_cases hr : 33 ≤ s[k].toNat ∧ s[k].toNat ≤ 126
          · have hin : decide ((33 : Int) ≤ (s[k].toNat : Int) ∧ (s[k].toNat : Int) ≤ 126) = true := decide_eq_true (by omega)
            have hx : ((s[k].toNat : Int) == 34) = true := by rw [show s[k].toNat = 34 by omega]; rfl
            go_wp2_with fail
            refine (In_any _ _ _ _).mono ?_
            rintro e w' ⟨rfl, rfl⟩
            rw [hin]
            go_wp2_with fail
            all_goals (go_ret; exact ⟨ret_bool (by rw [isName_bad s k hlt HO.out]), rfl⟩)
          · have hin : decide ((33 : Int) ≤ (s[k].toNat : Int) ∧ (s[k].toNat : Int) ≤ 126) = false := decide_eq_false (by omega)
            go_wp2_with fail
            refine (In_any _ _ _ _).mono ?_
            rintro e w' ⟨rfl, rfl⟩
            rw [hin]
            go_wp2_with fail
            all_goals (go_ret; exact ⟨ret_bool (by rw [isName_bad s k hlt HO.out]), rfl⟩)
        · have hb := (nameByte_iff _).1 ho; have HO := Lib.hid ho; clear ho
          have hx : ((s[k].toNat : Int) == 34) = false := beq_eq_false_iff_ne.2 (by omega)
          have hin : decide ((33 : Int) ≤ (s[k].toNat : Int) ∧ (s[k].toNat : Int) ≤ 126) = true := decide_eq_true (by omega)
          go_wp2_with fail
          refine (In_any _ _ _ _).mono ?_
          rintro e w' ⟨rfl, rfl⟩
          rw [hin]
          go_wp2_with fail
          go_round
          case rel => exact ⟨k + 1, by omega, by go_num, nameByte_snoc s k hlt HA.out HO.out⟩
          case measure => simp [intOf]; omega
      · go_wp2_with fail
        go_ret
        exact ⟨ret_bool (by rw [isName_good s k hlt hl HA.out]), rfl⟩
  · have hin0 : decide ((1 : Int) ≤ (s.size : Int) ∧ (s.size : Int) ≤ 40) = false := decide_eq_false (by omega)
    go_enter Tryz.func26, Tryz.ntmps26
    go_wp2_with fail
    refine (In_any _ _ _ _).mono ?_
    rintro e w' ⟨rfl, rfl⟩
    rw [hin0]
    go_wp2_with fail
    go_ret
    exact ⟨ret_bool (by rw [isName_size s hl]), rfl⟩

theorem ret_strB {x y : ByteArray} (h : x = y) : Ending.returned (.string x) = Ending.returned (.string y) := by rw [h]
theorem ba_append (a b : List UInt8) : (⟨a.toArray⟩ : ByteArray) ++ ⟨b.toArray⟩ = ⟨(a ++ b).toArray⟩ := by
  apply ByteArray.ext
  simp
theorem dig_ten {n : Nat} (h : n < 10) : (⟨#[48, 49, 50, 51, 52, 53, 54, 55, 56, 57]⟩ : ByteArray).extract n (n + 1) = ⟨(decDigits n).toArray⟩ := by
  rw [decDigits, dif_pos h]
  have : ∀ i : Fin 10, (⟨#[48, 49, 50, 51, 52, 53, 54, 55, 56, 57]⟩ : ByteArray).extract i.val (i.val + 1) = ⟨#[UInt8.ofNat (48 + i.val)]⟩ := by decide +kernel
  exact this ⟨n, h⟩
theorem dec_len {n : Nat} (h : n < 9223372036854775808) : (decDigits n).length ≤ 21 := by
  have := itoa_length_le (n : Int) (by omega) (by omega)
  rwa [itoa_nonneg] at this
theorem Decimal_any : ∀ n : Nat, n < 9223372036854775808 → ∀ w : World, Calls Tryz.prog 27 #[.int .i64 n] w fun e w' => e = .returned (.string ⟨(decDigits n).toArray⟩) ∧ w' = w := by
  intro n
  induction n using Nat.strongRecOn with
  | _ n ih =>
    intro hn w
    by_cases h : n < 10
    · have hI : (n : Int) < 10 := by omega
      go_enter Tryz.func27, Tryz.ntmps27
      go_wp2_with fail
      go_ret
      refine ⟨ret_strB ?_, rfl⟩
      rw [← dig_ten h]
    · have hI : ¬ (n : Int) < 10 := by omega
      go_enter Tryz.func27, Tryz.ntmps27
      go_wp2_with fail
      have e1 : (n : Int) / 10 = ((n / 10 : Nat) : Int) := by omega
      rw [e1]
      clear e1
      refine (ih (n / 10) (by omega) (by omega) _).mono ?_
      rintro e w' ⟨rfl, rfl⟩
      go_wp2_with fail
      have e2 : (n : Int) % 10 = ((n % 10 : Nat) : Int) := by omega
      rw [e2]
      clear e2
      refine (ih (n % 10) (by omega) (by omega) _).mono ?_
      rintro e w' ⟨rfl, rfl⟩
      have hdm : ¬ 9223372036854775807 < (decDigits (n / 10)).length + (decDigits (n % 10)).length := by
        have := dec_len (show n / 10 < 9223372036854775808 by omega)
        have := dec_len (show n % 10 < 9223372036854775808 by omega)
        omega
      go_wp2_with fail
      go_ret
      refine ⟨?_, rfl⟩
      rw [show decDigits n = decDigits (n / 10) ++ decDigits (n % 10) by rw [decDigits_one (show n % 10 < 10 by omega)]; conv => lhs; rw [decDigits, dif_neg h]]
      exact ret_strB (ba_append _ _)
/-- What a call of the reference's Name comes to: as the program's. -/
theorem RName_any (s : ByteArray) (n : Int) (hs : s.size ≤ 250) (hn : n ≤ 9223372036854775807) (w : World) :
    Calls Tryz.prog 7 #[.string s, .int .i64 n] w fun e w' => e = .returned (.tuple #[.string (nameT s n), .int .i64 (nameE s n)]) ∧ w' = w := by
  have hN := IsName_any s (by unfold maxLen; omega)
  cases hi : isName s with
  | false =>
    rw [hi] at hN
    go_enter Tryz.func7, Tryz.ntmps7
    go_wp2_with fail
    refine (hN _).mono ?_
    rintro e w1 ⟨rfl, rfl⟩
    go_wp2_with fail
    go_ret2
    refine ⟨?_, rfl⟩
    have e1 : nameE s n = 4 := by unfold nameE; rw [hi]; rfl
    have e2 : nameT s n = ByteArray.empty := by unfold nameT; rw [e1]; rfl
    rw [e1, e2]
    rfl
  | true =>
    rw [hi] at hN
    by_cases hneg : n < 0
    · go_enter Tryz.func7, Tryz.ntmps7
      go_wp2_with fail
      refine (hN _).mono ?_
      rintro e w1 ⟨rfl, rfl⟩
      go_wp2_with fail
      go_ret2
      refine ⟨?_, rfl⟩
      have e1 : nameE s n = 3 := by unfold nameE; rw [hi, if_pos rfl, if_pos hneg]
      have e2 : nameT s n = ByteArray.empty := by unfold nameT; rw [e1]; rfl
      rw [e1, e2]
      rfl
    · obtain ⟨u, rfl⟩ : ∃ u : Nat, n = u := ⟨n.toNat, by omega⟩
      have hD := Decimal_any u (by omega)
      have hcat : s ++ (⟨#[35]⟩ : ByteArray) ++ ⟨(decDigits u).toArray⟩ = ⟨(lamL s u).toArray⟩ := by
        apply ByteArray.ext
        unfold lamL
        rw [itoa_nonneg]
        simp
      have hdl : (decDigits u).length ≤ 21 := by
        have := itoa_length_le (u : Int) (by omega) hn
        rwa [itoa_nonneg] at this
      have hdm : ¬ 9223372036854775807 < s.size + 1 + (decDigits u).length := by omega
      have hsz : (⟨(lamL s u).toArray⟩ : ByteArray).size = (lamL s u).length := by simp [ByteArray.size]
      go_enter Tryz.func7, Tryz.ntmps7
      go_wp2_with fail
      refine (hN _).mono ?_
      rintro e w1 ⟨rfl, rfl⟩
      go_wp2_with fail
      refine (hD _).mono ?_
      rintro e w1 ⟨rfl, rfl⟩
      by_cases h40 : 40 < (lamL s u).length
      · have h40' : ¬ ((lamL s u).length : Int) ≤ 40 := by omega
        go_wp2_with fail
        go_ret2
        refine ⟨?_, rfl⟩
        have e1 : nameE s u = 5 := by unfold nameE; rw [hi, if_pos rfl, if_neg (show ¬ (u : Int) < 0 by omega), if_pos h40]
        have e2 : nameT s u = ByteArray.empty := by unfold nameT; rw [e1]; rfl
        rw [e1, e2]
        rfl
      · have h40' : ((lamL s u).length : Int) ≤ 40 := by omega
        go_wp2_with fail
        go_ret2
        refine ⟨?_, rfl⟩
        have e1 : nameE s u = 0 := by unfold nameE; rw [hi, if_pos rfl, if_neg (show ¬ (u : Int) < 0 by omega), if_neg h40]
        have e2 : nameT s u = ⟨(lamL s u).toArray⟩ := by unfold nameT; rw [e1]; rfl
        rw [e1, e2]
        rfl
end Go.Proofs.YthcaafhpnmmfmaaGreatDoor
namespace Go.Proofs.YthcaafhpnmmfmaaGreatDoor
set_option linter.unusedVariables false
set_option linter.unusedSimpArgs false
open Go.RowKit Go.Lib

/-- What a name splits into, and whether it is one. -/
def splitW (r : Option (ByteArray × Int)) : Value := match r with
  | some (f, n) => .tuple #[.string f, .int .i64 n, .bool true]
  | none => .tuple #[.string ByteArray.empty, .int .i64 0, .bool false]
/-- Digits from a place on. -/
theorem digs_step {s : ByteArray} {k acc : Nat} (hk : k < s.size) : digs acc (s.data.toList.drop k) = if 48 ≤ (s[k]'hk).toNat ∧ (s[k]'hk).toNat ≤ 57 ∧ acc ≤ (9223372036854775807 - ((s[k]'hk).toNat - 48)) / 10 then digs (10 * acc + ((s[k]'hk).toNat - 48)) (s.data.toList.drop (k + 1)) else none := by
  have hl : s.data.toList.length = s.size := rfl
  rw [List.drop_eq_getElem_cons (by omega)]
  rfl
theorem digs_end {s : ByteArray} {k acc : Nat} (hk : s.size ≤ k) : digs acc (s.data.toList.drop k) = some acc := by
  rw [List.drop_eq_nil_of_le (show s.data.toList.length ≤ k from hk)]
  rfl
/-- The last sign, found from behind. -/
theorem last_at {s : ByteArray} {i : Nat} (hi : i < s.size) (h : (s[i]'hi) = 35) (hn : ∀ j (hj : j < s.size), i < j → (s[j]'hj) ≠ 35) : lastIndexByte s 35 = i := by
  have h35 : ∀ c : UInt8, (c.toNat : Int) = 35 ↔ c = 35 := fun c => ⟨fun e => UInt8.toNat_inj.1 (by have : (35 : UInt8).toNat = 35 := rfl; omega), fun e => by subst e; rfl⟩
  have hg : ∀ j (hj : j < s.size), s.data[j]! = s[j]'hj := fun j hj => getElem!_pos s.data j hj
  rcases lastIndexByte_spec s 35 with ⟨_, h2⟩ | ⟨k, h1, h2, h3, h4⟩
  · exact absurd ((h35 _).2 (by rw [hg i hi]; exact h)) (h2 i hi)
  · rw [h2]
    rcases Nat.lt_trichotomy i k with e | e | e
    · exact absurd (by rw [← hg k h1]; exact (h35 _).1 h3) (hn k h1 e)
    · rw [e]
    · exact absurd ((h35 _).2 (by rw [hg i hi]; exact h)) (h4 i e hi)
theorem last_none {s : ByteArray} (hn : ∀ j (hj : j < s.size), (s[j]'hj) ≠ 35) : lastIndexByte s 35 < 0 := by
  rcases lastIndexByte_spec s 35 with ⟨h1, _⟩ | ⟨k, h1, h2, h3, h4⟩
  · omega
  · exact absurd (UInt8.toNat_inj.1 (by have := getElem!_pos s.data k h1; rw [this] at h3; have : (35 : UInt8).toNat = 35 := rfl; show (s.data[k]'h1).toNat = _; omega)) (hn k h1)
theorem RSplit_any (s : ByteArray) (hs : s.size ≤ 250) (w : World) :
    Calls Tryz.prog 8 #[.string s] w fun e w' => e = .returned (splitW (splitR s)) ∧ w' = w := by
  go_enter Tryz.func8, Tryz.ntmps8
  go_wp2_with fail
  go_loop [5] (fun i => ∃ k : Nat, k ≤ s.size ∧ i = .int .i64 ((k : Int) - 1) ∧ ∀ j (hj : j < s.size), k ≤ j → (s[j]'hj) ≠ 35) (fun i => (intOf i + 1).toNat)
  case atStart => exact ⟨s.size, Nat.le_refl _, rfl, fun j hj h => by omega⟩
  case round =>
    obtain ⟨k, hk, rfl, hn⟩ := hrel
    have HN := Lib.hid hn; clear hn
    cases k with
    | zero =>
      have h0 : ¬ (((0 : Nat) : Int) - 1 ≥ 0) := by omega
      go_wp2_with fail
      go_ret3
      refine ⟨?_, rfl⟩
      have : splitR s = none := by
        unfold splitR cutAt
        rw [if_pos (last_none fun j hj => HN.out j hj (Nat.zero_le _))]
      rw [this]
      rfl
    | succ i =>
      have hi : i < s.size := by omega
      have hi2 : ((i + 1 : Nat) : Int) - 1 = (i : Int) := by omega
      rw [hi2]
      clear hi2
      by_cases hc : (s[i]'hi) = 35
      · have hcI : (((s[i]'hi).toNat : Int) == 35) = true := by rw [hc]; rfl
        have hlast := last_at hi hc fun j hj h => HN.out j hj h
        have hcut : cutAt s = some (s.extract 0 i, s.data.toList.drop (i + 1)) := by
          unfold cutAt
          rw [if_neg (by rw [hlast]; omega), hlast, ext_head]
          rfl
        have hsp : splitR s = (match digs 0 (s.data.toList.drop (i + 1)) with
          | some n => if nameE (s.extract 0 i) n = 0 ∧ nameT (s.extract 0 i) n = s then some (s.extract 0 i, (n : Int)) else none
          | none => none) := by
          unfold splitR
          rw [hcut]
          try rfl
        have HS := Lib.hid hsp; clear hsp hcut hlast
        go_wp2_with fail
        go_loop [6, 7] (fun a b => ∃ A k : Nat, k ≤ s.size ∧ i + 1 ≤ k ∧ A < 9223372036854775808 ∧ a = .int .i64 A ∧ b = .int .i64 k ∧ digs 0 (s.data.toList.drop (i + 1)) = digs A (s.data.toList.drop k)) (fun a b => s.size - (intOf b).toNat)
        case atStart => exact ⟨0, i + 1, by omega, Nat.le_refl _, by omega, rfl, by go_num, rfl⟩
        case round =>
          obtain ⟨A, k, hk, hik, hA, rfl, rfl, hdg⟩ := hrel
          have HD := Lib.hid hdg; clear hdg
          by_cases hlt : k < s.size
          · have hltI : (k : Int) < s.size := by omega
            have hst := digs_step (acc := A) hlt
            have HSt := Lib.hid hst; clear hst
            have h256 : (s[k]'hlt).toNat < 256 := (s[k]'hlt).toNat_lt
            by_cases hd : 48 ≤ (s[k]'hlt).toNat ∧ (s[k]'hlt).toNat ≤ 57
            · obtain ⟨D, hD9, hDb⟩ : ∃ D : Nat, D ≤ 9 ∧ (s[k]'hlt).toNat = 48 + D := ⟨(s[k]'hlt).toNat - 48, by omega, by omega⟩
              have hDI : ((s[k]'hlt).toNat : Int) - 48 = (D : Int) := by omega
              have HDI := Lib.hid hDI; clear hDI
              have hin : decide ((0 : Int) ≤ (D : Int) ∧ (D : Int) ≤ 9) = true := decide_eq_true (by omega)
              have HIN := Lib.hid hin; clear hin
              have hDb' := Lib.hid hDb; clear hDb
              by_cases hA2 : A ≤ (9223372036854775807 - D) / 10
              · have hA2I : ¬ ((9223372036854775807 - (D : Int)) / 10 < (A : Int)) := by omega
                have hdg2 : digs 0 (s.data.toList.drop (i + 1)) = digs (10 * A + D) (s.data.toList.drop (k + 1)) := by
                  rw [HD.out, HSt.out, if_pos ⟨hd.1, hd.2, by rw [hDb'.out]; simpa using hA2⟩, hDb'.out]
                  simp
                have HD2 := Lib.hid hdg2; clear hdg2
                go_wp2_with fail
                refine (In_any _ _ _ _).mono ?_
                rintro e w' ⟨rfl, rfl⟩
                rw [HDI.out, HIN.out]
                go_wp2_with fail
                exact ⟨⟨10 * A + D, k + 1, by omega, by omega, by omega, by go_num, by go_num, HD2.out⟩, by simp [intOf]; omega⟩
              · have hA2I : ((9223372036854775807 - (D : Int)) / 10 < (A : Int)) := by omega
                go_wp2_with fail
                refine (In_any _ _ _ _).mono ?_
                rintro e w' ⟨rfl, rfl⟩
                rw [HDI.out, HIN.out]
                go_wp2_with fail
                go_ret3
                refine ⟨?_, rfl⟩
                have : splitR s = none := by
                  rw [HS.out, HD.out, HSt.out, if_neg (fun h => hA2 (by have := h.2.2; rw [hDb'.out] at this; simpa using this))]
                rw [this]
                rfl
            · have hin : decide ((0 : Int) ≤ ((s[k]'hlt).toNat : Int) - 48 ∧ ((s[k]'hlt).toNat : Int) - 48 ≤ 9) = false := decide_eq_false (by omega)
              go_wp2_with fail
              refine (In_any _ _ _ _).mono ?_
              rintro e w' ⟨rfl, rfl⟩
              rw [hin]
              go_wp2_with fail
              go_ret3
              refine ⟨?_, rfl⟩
              have : splitR s = none := by
                rw [HS.out, HD.out, HSt.out, if_neg (fun h => hd ⟨h.1, h.2.1⟩)]
              rw [this]
              rfl
          · have hltI : ¬ (k : Int) < s.size := by omega
            have hdA : digs 0 (s.data.toList.drop (i + 1)) = some A := by rw [HD.out, digs_end (by omega)]
            have hsp := HS.out
            rw [hdA] at hsp
            simp only at hsp
            have hfz : (s.extract 0 i).size ≤ 250 := by simp [ByteArray.size_extract]; omega
            have hN := RName_any (s.extract 0 i) A hfz (by omega)
            generalize nameE (s.extract 0 i) A = E at *
            generalize nameT (s.extract 0 i) A = T at *
            by_cases hE : E = 0
            · subst hE
              by_cases hT : T = s
              · subst hT
                rw [if_pos ⟨rfl, rfl⟩] at hsp
                have HSP := Lib.hid hsp; clear hsp
                go_wp2_with fail
                refine (hN _).mono ?_
                rintro e w' ⟨rfl, rfl⟩
                go_wp2_with fail
                go_ret3
                rw [HSP.out]
                exact ⟨rfl, rfl⟩
              · rw [if_neg (fun h => hT h.2)] at hsp
                have HSP := Lib.hid hsp; clear hsp
                have hTb : (T.toList == s.toList) = false := beq_eq_false_iff_ne.2 fun e => hT (toL_inj e)
                go_wp2_with fail
                refine (hN _).mono ?_
                rintro e w' ⟨rfl, rfl⟩
                go_wp2_with fail
                go_ret3
                rw [HSP.out]
                exact ⟨rfl, rfl⟩
            · rw [if_neg (fun h => hE h.1)] at hsp
              have HSP := Lib.hid hsp; clear hsp
              have hEb : (E == 0) = false := beq_eq_false_iff_ne.2 hE
              go_wp2_with fail
              refine (hN _).mono ?_
              rintro e w' ⟨rfl, rfl⟩
              go_wp2_with fail
              go_ret3
              rw [HSP.out]
              exact ⟨rfl, rfl⟩
      · have hcI : (((s[i]'hi).toNat : Int) == 35) = false := by
          rw [beq_eq_false_iff_ne]
          intro e
          exact hc (UInt8.toNat_inj.1 (by have : (35 : UInt8).toNat = 35 := rfl; omega))
        go_wp2_with fail
        go_round
        case rel => exact ⟨i, by omega, by go_num, fun j hj h => by
          rcases Nat.lt_or_eq_of_le h with e | e
          · exact HN.out j hj e
          · subst e; exact hc⟩
        case measure => simp [intOf]
end Go.Proofs.YthcaafhpnmmfmaaGreatDoor
namespace Go.Proofs.YthcaafhpnmmfmaaGreatDoor
set_option linter.unusedVariables false
set_option linter.unusedSimpArgs false
open Go.RowKit Go.Lib

theorem FlatSplits_any (s : ByteArray) (n : Int) (x : ByteArray) (w : World) (hs : s.size ≤ maxLen) (hx : x.size ≤ maxLen) (hn0 : -9223372036854775808 ≤ n) (hn1 : n ≤ 9223372036854775807)
    (hK : ∀ w1, Below w.heap.size w w1 → Calls Tryz.prog 4 #[] w1 fun e w' => e = .returned (.bool true) ∧ Below w1.heap.size w1 w')
    (hA : ∀ t : ByteArray, t.size ≤ 250 → ∀ w1, Below w.heap.size w w1 → AtoiAt t w1)
    (hI : ∀ n : Int, -9223372036854775808 ≤ n → n ≤ 9223372036854775807 → ∀ w1, Below w.heap.size w w1 → ItoaAt n w1) :
    Calls Tryz.prog 3 #[.string s, .int .i64 n, .string x] w fun e w' => e = .returned (.bool true) ∧ Below w.heap.size w w' := by
  have hs' := size_le_maxLen hs
  have hx' := size_le_maxLen hx
  by_cases h1 : s.size ≤ 250
  · have h1I : ¬ (250 : Int) < s.size := by omega
    by_cases h2 : x.size ≤ 250
    · have h2I : ¬ (250 : Int) < x.size := by omega
      have cN := flName_any s n h1 (itoa_length_le n hn0 hn1) w (hI n hn0 hn1 w (Below.refl _ _))
      have cR := RName_any s n h1 hn1
      generalize nameT s n = T at *
      generalize nameE s n = E at *
      go_enter Tryz.func3, Tryz.ntmps3
      go_wp2_with fail
      refine cN.mono ?_
      rintro e w1 ⟨rfl, hb1⟩
      have cS := flSplit_any x h2 w1 (fun t ht _ w2 hw2 => hA t ht w2 (hb1.trans (hw2.mono hb1.size))) (fun n a b _ w2 hw2 => hI n a b w2 (hb1.trans (hw2.mono hb1.size)))
      rw [split_law] at cS
      have cW := RSplit_any x h2
      go_wp2_with fail
      refine cS.mono ?_
      rintro e w2 ⟨rfl, hb2⟩
      have hbb : Below w.heap.size w w2 := hb1.trans (hb2.mono hb1.size)
      have cK := hK w2 hbb
      clear cS hA hI hK cN
      cases hsp : splitR x with
      | none =>
        rw [hsp] at cW
        clear hsp
        simp only [splitV, splitW] at cW ⊢
        go_wp2_with fail
        refine (cR _).mono ?_
        rintro e w3 ⟨rfl, rfl⟩
        go_wp2_with fail
        refine (cW _).mono ?_
        rintro e w3 ⟨rfl, rfl⟩
        go_wp2_with fail
        refine cK.mono ?_
        rintro e w3 ⟨rfl, hb3⟩
        go_wp2_with fail
        go_ret
        exact ⟨rfl, hbb.trans (hb3.mono hbb.size)⟩
      | some p =>
        obtain ⟨f, m⟩ := p
        rw [hsp] at cW
        clear hsp
        simp only [splitV, splitW] at cW ⊢
        go_wp2_with fail
        refine (cR _).mono ?_
        rintro e w3 ⟨rfl, rfl⟩
        go_wp2_with fail
        refine (cW _).mono ?_
        rintro e w3 ⟨rfl, rfl⟩
        go_wp2_with fail
        refine cK.mono ?_
        rintro e w3 ⟨rfl, hb3⟩
        go_wp2_with fail
        go_ret
        exact ⟨rfl, hbb.trans (hb3.mono hbb.size)⟩
    · have h2I : (250 : Int) < x.size := by omega
      go_enter Tryz.func3, Tryz.ntmps3
      go_wp2_with fail
      refine (hK w (Below.refl _ _)).mono ?_
      rintro e w1 ⟨rfl, hb1⟩
      go_wp2_with fail
      go_ret
      exact ⟨rfl, hb1⟩
  · have h1I : (250 : Int) < s.size := by omega
    go_enter Tryz.func3, Tryz.ntmps3
    go_wp2_with fail
    refine (hK w (Below.refl _ _)).mono ?_
    rintro e w1 ⟨rfl, hb1⟩
    go_wp2_with fail
    go_ret
    exact ⟨rfl, hb1⟩
end Go.Proofs.YthcaafhpnmmfmaaGreatDoor
