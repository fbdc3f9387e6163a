/- Whatever the layout and the changes, the law ShapeApplies (lodelaw23) returns true, and its arguments read behind the call as they read before. Conditions: none beyond the given statement's. -/
import Derived.Test.YtbioklhoolkhkabGreatK17
import Derived.Test.YtbioklhoolkhkabGreatK16
import Derived.Test.YtbioklhoolkhkabGreatK23
import Derived.Test.YtbioklhoolkhkabGreatK24
import Derived.Test.YtbioklhoolkhkabGreatRows
namespace Go.Proofs.YtbioklhoolkhkabGreat
set_option linter.unusedVariables false
set_option linter.unusedSimpArgs false
open Go.ChangeShapes Go.WideShapes Go.ChangeAt Go.RowKit Go.Joins Go.Deep

/-- The known answers: true, and nothing is written. -/
theorem sh_awake (w0 w : World) (H : Hp) (L : List (Nat × Obj)) (m : Mem w0 H L w) : Calls Tryz.prog 6 #[] w (Ret w0 H L (.bool true)) :=
  (sh_known.below w).mono fun e w' ⟨he, hb⟩ => by
    obtain ⟨b1, b2, b3, b4, b5⟩ := hb
    refine ⟨he, ⟨b1.trans m.os, b2.trans m.tape, b3.trans m.output, fun k o hk => ?_, fun p hp => ?_, m.nd⟩⟩
    · rw [b5 k (lt_of_heap (m.imm k o hk))]
      exact m.imm k o hk
    · obtain ⟨h1, h2⟩ := m.loc p hp
      exact ⟨by rw [b5 _ (lt_of_heap h1)]; exact h1, h2⟩

set_option maxRecDepth 100000 in
theorem shapeApplies_lifted (os : Os) (started : os.Started) (H : Type) (enc : TypeId × Value → H) :
    ReturnsInHanded {} Tryz.checked os 3 .any (Rows.shapeAppliesSpec.pre6 enc Tryz.prog Tryz.f3 Rows.shapeAppliesRow.domain false) (Rows.shapeAppliesSpec.post enc Tryz.prog Tryz.f3 false true false false) := by
  refine returnsInHanded_of_change (C := Tryz.checked) Tryz.own started (by kernel_rfl) Tryz.func3
    (ChangeSpec.witness6 (enc := enc) (C := Tryz.checked) false ⟨#[], #[.agg #[.slice none 0 0, .slice none 0 0], .slice none 0 0], []⟩ 8 (by kernel_rfl) (by kernel_rfl) (by kernel_rfl) (by kernel_rfl)) ?_
  intro W base args ds gs before hval0 hW hcnd _
  have hval : ∀ (j : Nat) t v, Tryz.f3.params[j]? = some t → args[j]? = some v → Value.okWide Tryz.prog W .any base t v := hval0
  have hW' := hW
  obtain ⟨p, q, hA0, hV, rfl, hfz, hnd⟩ := hW
  have hA : DataW.TrodAll enc Tryz.prog W 0 (fun _ => true) true Tryz.f3.params.toList args.toList ds p := hA0
  rw [Tryz.params3] at hA hval
  obtain ⟨v0, v1, d0, d1, p0, p1, rfl, rfl, rfl, h0, h1⟩ := trodAll_two hA
  obtain ⟨rfl, rfl⟩ := trodVars_none hV
  obtain ⟨y, u1, u2, rfl, hy1, hy2⟩ := open_layout (hval 0 25 v0 rfl rfl) h0
  have h1' := h1
  obtain ⟨a1, n1, c1, rfl⟩ := Go.WideShapes.okWide_slice Tryz.underlying26 (hval 1 26 v1 rfl rfl)
  obtain ⟨nf, hnf⟩ := h1'
  obtain ⟨cs, hcs⟩ : ∃ l, SlR encChange (heapOf W) (.slice a1 n1 c1) l := open_changes hnf
  clear hA0 hval0
  simp only [List.append_nil] at hW'
  refine (ShapeApplies_any sh_awake y u1 u2 _ cs (Mem.start W) hy1 hy2 hcs).mono fun e W' ⟨H', he, hle, hm⟩ => ?_
  subst he
  have hb := hm.below hle
  have hlt : ∀ p ∈ p0 ++ p1, p.block < W.heap.size := fun p hp => hW'.lt p hp
  exact ⟨_, rfl, post_of_below (pa := p0 ++ p1) (pv := []) hW' (fun _ _ _ => trodAll_mk1 (shut_bool Tryz.underlying4 true))
    (fun sp hsp => trodAll_mk2 (WideElems.Trod_stays Tryz.laidOut (by kernel_rfl) (of_decide_eq_true (by kernel_rfl)) h0 (fun p hp => hb.same (hlt p (List.mem_append_left _ hp))) (fun p hp => hsp p (List.mem_append_left _ hp))) (WideElems.Trod_stays Tryz.laidOut (by kernel_rfl) (of_decide_eq_true (by kernel_rfl)) h1 (fun p hp => hb.same (hlt p (List.mem_append_right _ hp))) (fun p hp => hsp p (List.mem_append_right _ hp))))
    (fun _ _ => rfl) (by simp) hb (ok_one (by kernel_rfl) rfl (okWide_bool_mk Tryz.underlying4 true))⟩

theorem shapeApplies_holds : Rows.ShapeAppliesSaid :=
  OpenClaim.holds_of_wide 3 Tryz.f3 rfl rfl rfl rfl rfl rfl rfl ⟨rfl, rfl, rfl, rfl, rfl⟩ rfl rfl rfl rfl rfl (by kernel_rfl) Tryz.func3 sh_facts
    (of_decide_eq_true (by kernel_rfl)) (by unfold Func.isWrapper; first | (rw [if_pos (by decide +kernel)]; kernel_rfl) | (rw [if_neg (by decide +kernel)]; exact ⟨rfl, rfl⟩))
    (fun os started H enc _ => shapeApplies_lifted os started H enc)
end Go.Proofs.YtbioklhoolkhkabGreat
