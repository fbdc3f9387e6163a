/- The frame of a closed law's proof: the row's last step. No program's function in sight. The closed function awake (lodelaw15) returns true. The closed function HeapNames (lodelaw15) comes to true. -/
import Derived.Test.YthomobhpgnfdlaaGreatK06
import Derived.Test.YthomobhpgnfdlaaGreatRows
import Derived.ProofKit
import Derived.Below
import Derived.ChangeSame
import Derived.Lib.SmallJoins
import Derived.Test.YthomobhpgnfdlaaGreatK07
import Derived.Test.YthomobhpgnfdlaaGreatK08
import Derived.Test.YthomobhpgnfdlaaGreatK10
import Derived.Test.YthomobhpgnfdlaaGreatK11
import Derived.Test.YthomobhpgnfdlaaGreatK12
import Derived.Test.YthomobhpgnfdlaaGreatK13
import Derived.Test.YthomobhpgnfdlaaGreatK14
namespace Go.Proofs.YthomobhpgnfdlaaGreat
set_option linter.unusedVariables false
set_option linter.unusedSimpArgs false
open Go.ChangeShapes Go.WideShapes Go.ChangeAt Go.RowKit Go.Joins Go.Deep

theorem Tryz.own : ownKnob Tryz.prog.godebug = none := by kernel_rfl
theorem Tryz.laidOut : laidOutB Tryz.prog = true := by kernel_rfl

section
variable {H : Type} {enc : TypeId × Value → H} {P : Program}
theorem post_of_below {f : Func} {s : ChangeSpec} {apart fresh handsOn again : Bool} {W W' : World} {args : Array Value} {v : Value} {ds gs : List (DataW H)} {before pa pv : List MemPlace}
    (hW : DataW.Whole enc P f.params.toList s.vars apart W args.toList ds gs before)
    (hres : ∀ (b : Nat) (sp : Nat → Bool) (hd : Bool), DataW.TrodAll enc P W' b sp hd f.resultTypes.toList (v.resultList f.resultTypes.size) (s.fn H (ds ++ gs)).results [])
    (hargs : ∀ sp : Nat → Bool, (∀ p ∈ before, sp p.block = true) → DataW.TrodAll enc P W' 0 sp true f.params.toList args.toList (s.fn H (ds ++ gs)).args pa)
    (hvars : ∀ sp : Nat → Bool, (∀ p ∈ before, sp p.block = true) → DataW.TrodVars enc P W' sp s.vars (s.fn H (ds ++ gs)).vars pv)
    (hps : before = pa ++ pv) (hb : Below W.heap.size W W')
    (hok : ∀ (j : Nat) (t : TypeId) (r : Value), f.resultTypes[j]? = some t → (v.resultList f.resultTypes.size)[j]? = some r → Value.okWide P W' .any 0 t r) :
    s.post enc P f apart fresh handsOn again W args v W' := by
  have hlt : ∀ p ∈ before, p.block < W.heap.size := fun p hp => hW.lt p hp
  have hold : ∀ p ∈ before, (fun b => decide (b < W.heap.size)) p.block = true := fun p hp => by simpa using hlt p hp
  refine ⟨ds, gs, before, [], pa, pv, hW, hres _ _ _, hargs _ hold, hvars _ hold, World.keptBut_mono (fun p hp => ⟨hp, ?_⟩) (hb.frame (· ∈ before)), fun _ => ?_⟩
  · rw [hps, List.mem_append] at hp
    exact Or.inr hp
  · obtain ⟨_, _, _, _, _, hz, hn⟩ := hW
    refine ⟨hok, _, _, ([] ++ pa) ++ pv, ⟨[] ++ pa, pv, trodAll_append (hargs _ (fun _ _ => rfl)) (hres _ _ _), hvars _ (fun _ _ => rfl), rfl, ?_, ?_⟩, ?_⟩
    · intro b off hp
      have hin : MemPlace.cell b off ∈ before := by rw [hps]; simpa using hp
      rw [hb.frozen (hlt _ hin)]
      exact hz b off hin
    · intro ha
      have := hn ha
      rw [hps] at this
      simpa using this
    · intro p hp _
      rw [hps]
      simpa using hp

end
theorem names_ok : (Tryz.prog.funcs.toList.all fun fn => !(fn.name == "runtime.NumGoroutine")) = true := by kernel_rfl
theorem follows_ok : Tryz.prog.follows .mixedOrders = true := by kernel_rfl
/-- A known function leaves all as it was. -/
theorem KnownOK.below {P : Program} {f : FuncId} {b : Bool} (h : KnownOK P f (.b b)) (w : World) : Calls P f #[] w fun e w' => e = .returned (.bool b) ∧ Below w.heap.size w w' := by
  refine (h.2 (fun k => w.heap[k]?) (fun _ => (0, 0)) ⟨.leaf, 0⟩ w w ⟨rfl, rfl, rfl, fun k o h => h, fun b hb => absurd (Tree.get_leaf b) hb, fun b y hy => ?_, fun b c hb => absurd (Tree.get_leaf b) hb⟩).mono ?_
  · have hy : (Tree.leaf : Tree Blk).get b = some y := hy
    rw [Tree.get_leaf] at hy
    cases hy
  · rintro e w' ⟨v, rfl, h1, h2⟩
    have h3 := h2 (fun _ => (0, 0)) 0
    simp only [VR] at h3
    subst h3
    refine ⟨rfl, h1.os, h1.tape, h1.output, ?_, fun k hk => ?_⟩
    · rcases Nat.eq_zero_or_pos w.heap.size with h0 | h0
      · omega
      · have hk : w.heap[w.heap.size - 1]? = some (w.heap[w.heap.size - 1]'(by omega)) := Array.getElem?_eq_getElem (by omega)
        have := lt_of_heap (h1.fr _ _ hk)
        omega
    · have hk' : w.heap[k]? = some (w.heap[k]'hk) := Array.getElem?_eq_getElem hk
      rw [hk', h1.fr _ _ hk']
end Go.Proofs.YthomobhpgnfdlaaGreat
namespace Go.Proofs.YthomobhpgnfdlaaGreat
set_option linter.unusedVariables false
set_option linter.unusedSimpArgs false
open Go.ChangeShapes Go.WideShapes Go.ChangeAt Go.RowKit Go.Joins Go.Deep

theorem eq_value : EqOK Tryz.prog 62 [.int .i64, .int .i64, .string] := eqOK_of (by kernel_rfl) (by kernel_rfl) (by kernel_rfl) (by kernel_rfl)
theorem aw_env : EnvOK Tryz.prog AwEnv := env_ok names_ok (fun e he => by
  simp only [List.mem_singleton] at he
  subst he
  exact eq_value) fun f x h => by
    simp only [treeOf, Tree.get_leaf] at h
    cases h
theorem aw_known : KnownOK Tryz.prog 8 (.b true) := by
  have h0 := piece_ok aw_env (draw_ok follows_ok aw_env) Aw_0
  have h1 := piece_ok aw_env (draw_ok follows_ok aw_env) Aw_1
  have h : PieceOK Tryz.prog false 122 (flatC (bodyOf Tryz.f8)) .leaf ⟨.leaf, 0⟩ .ret (treeOf AwT2) ⟨treeOf AwB2, 700⟩ := by
    have e : flatC (bodyOf Tryz.f8) = tkL (dpL (flatC (bodyOf Tryz.f8)) 0) 4 ++ tkL (dpL (flatC (bodyOf Tryz.f8)) 4) 7 := by kernel_rfl
    rw [e]
    exact h0.append h1
  exact known_ok Tryz.func8 (by kernel_rfl) (by kernel_rfl) aw_env h (.inr rfl) (by kernel_rfl)
end Go.Proofs.YthomobhpgnfdlaaGreat
namespace Go.Proofs.YthomobhpgnfdlaaGreat
set_option linter.unusedVariables false
set_option linter.unusedSimpArgs false
open Go.ChangeShapes Go.WideShapes Go.ChangeAt Go.RowKit Go.Joins Go.Deep

theorem hn_env : EnvOK Tryz.prog HnEnv := env_ok names_ok (fun e he => by
  simp only [List.mem_singleton] at he
  subst he
  exact eq_value) fun f x h => by
    have := treeOf_get h
    simp only [List.mem_singleton] at this
    cases this
    exact aw_known
theorem hn_known : KnownOK Tryz.prog 4 (.b true) := by
  have h0 := piece_ok hn_env (draw_ok follows_ok hn_env) Hn_0
  have h1 := piece_ok hn_env (draw_ok follows_ok hn_env) Hn_1
  have h2 := piece_ok hn_env (draw_ok follows_ok hn_env) Hn_2
  have h3 := piece_ok hn_env (draw_ok follows_ok hn_env) Hn_3
  have h4 := piece_ok hn_env (draw_ok follows_ok hn_env) Hn_4
  have e : flatC (bodyOf Tryz.f4) = tkL (dpL (flatC (bodyOf Tryz.f4)) 0) 4 ++ (tkL (dpL (flatC (bodyOf Tryz.f4)) 4) 4 ++ (tkL (dpL (flatC (bodyOf Tryz.f4)) 8) 4 ++ (tkL (dpL (flatC (bodyOf Tryz.f4)) 12) 1 ++ tkL (dpL (flatC (bodyOf Tryz.f4)) 13) 10))) := by kernel_rfl
  have h := h0.append (h1.append (h2.append (h3.append h4)))
  rw [← e] at h
  exact known_ok Tryz.func4 (by kernel_rfl) (by kernel_rfl) hn_env h (.inr rfl) (by kernel_rfl)

end Go.Proofs.YthomobhpgnfdlaaGreat
