/- Whatever the list, the number and the text, the law GateTakes (lodelaw24) returns true, and its arguments read behind the call as they read before. Conditions: none beyond the given statement's. -/
import Derived.Test.YtpkcdkbbhiafnaaLawA
import Derived.Test.YtpkcdkbbhiafnaaGateZ
import Derived.ChangeMaps5
namespace Go.Proofs.Ytpkcdkbbhiafnaa
set_option linter.unusedVariables false
set_option linter.unusedSimpArgs false
open Go.ChangeShapes Go.WideShapes Go.ChangeAt Go.RowKit Go.Joins Go.Deep Go.ChangeMaps

set_option maxRecDepth 100000 in
theorem gateTakes_lifted (os : Os) (started : os.Started) (H : Type) (enc : TypeId × Value → H) :
    ReturnsInHanded {} Try.checked os 5 .any (Rows.gateTakesSpec.pre6 enc Try.prog Try.f5 Rows.gateTakesRow.domain false) (Rows.gateTakesSpec.post enc Try.prog Try.f5 false true false false) := by
  refine returnsInHanded_of_change (C := Try.checked) Try.own started (by kernel_rfl) Try.func5
    (ChangeSpec.witness6 (enc := enc) (C := Try.checked) false ⟨#[], #[.slice none 0 0, .int .i64 0, .string ByteArray.empty], []⟩ 8 (by kernel_rfl) (by kernel_rfl) (by kernel_rfl) (by kernel_rfl)) ?_
  intro W base args ds gs before hval0 hW hcnd _
  have hval : ∀ (j : Nat) t v, Try.f5.params[j]? = some t → args[j]? = some v → Value.okWide Try.prog W .any base t v := hval0
  have hW' := hW
  obtain ⟨p, q, hA0, hV, rfl, hfz, hnd⟩ := hW
  have hA : DataW.TrodAll enc Try.prog W 0 (fun _ => true) true Try.f5.params.toList args.toList ds p := hA0
  rw [Try.params5] at hA hval
  obtain ⟨v0, v1, v2, d0, d1, d2, p0, p1, p2, rfl, rfl, rfl, h0, h1, h2⟩ := trodAll_three hA
  obtain ⟨rfl, rfl⟩ := trodVars_none hV
  have h1' := h1
  have h2' := h2
  have h0' := h0
  obtain ⟨a0, len0, cap0, rfl⟩ := okWide_slice Try.underlying22 (hval 0 22 v0 rfl rfl)
  obtain ⟨fuel0, hf0⟩ := h0
  obtain ⟨l, hl⟩ := open_texts Try.underlying22 Try.underlying9 (by kernel_rfl) hf0
  obtain ⟨x, rfl, _, _, wx⟩ := open_int (k := .i64) Try.underlying3 (hval 1 3 v1 rfl rfl) h1
  obtain ⟨s, rfl, _, _, ws⟩ := open_string Try.underlying9 (hval 2 9 v2 rfl rfl) h2
  clear hA0 hval0
  simp only [List.append_nil, List.append_assoc] at hW'
  refine (lawTakes _ l x s (Mem.start W) hl (I64_of_wf wx) ws).mono fun e W' ⟨he, hm⟩ => ?_
  subst he
  have hb := hm.below (Hle.refl _)
  have hlt : ∀ p ∈ p0 ++ (p1 ++ p2), p.block < W.heap.size := fun p hp => hW'.lt p hp
  exact ⟨_, rfl, post_of_below (pa := p0 ++ (p1 ++ p2)) (pv := []) hW' (fun _ _ _ => trodAll_mk1 (shut_bool Try.underlying4 true))
    (fun sp hsp => trodAll_mk3 (WideElems.Trod_stays Try.laidOut (by kernel_rfl) (of_decide_eq_true (by kernel_rfl)) h0' (fun p hp => hb.same (hlt p (List.mem_append_left _ hp))) (fun p hp => hsp p (List.mem_append_left _ hp))) (WideElems.Trod_stays Try.laidOut (by kernel_rfl) (of_decide_eq_true (by kernel_rfl)) h1' (fun p hp => hb.same (hlt p (List.mem_append_right _ (List.mem_append_left _ hp)))) (fun p hp => hsp p (List.mem_append_right _ (List.mem_append_left _ hp)))) (WideElems.Trod_stays Try.laidOut (by kernel_rfl) (of_decide_eq_true (by kernel_rfl)) h2' (fun p hp => hb.same (hlt p (List.mem_append_right _ (List.mem_append_right _ hp)))) (fun p hp => hsp p (List.mem_append_right _ (List.mem_append_right _ hp)))))
    (fun _ _ => rfl) (by simp) hb (ok_one (by kernel_rfl) rfl (okWide_bool_mk Try.underlying4 true))⟩

theorem gateTakes_holds : Rows.GateTakesSaid :=
  OpenClaim.holds_of_wide 5 Try.f5 rfl rfl rfl rfl rfl rfl rfl ⟨rfl, rfl, rfl, rfl, rfl⟩ rfl rfl rfl rfl rfl (by kernel_rfl) Try.func5 (by kernel_rfl)
    (of_decide_eq_true (by kernel_rfl)) (by unfold Func.isWrapper; first | (rw [if_pos (by decide +kernel)]; kernel_rfl) | (rw [if_neg (by decide +kernel)]; exact ⟨rfl, rfl⟩))
    (fun os started H enc _ => gateTakes_lifted os started H enc)
end Go.Proofs.Ytpkcdkbbhiafnaa
