/- Whatever the gate and the number, the law GateAcks (lodelaw24) returns true, and its arguments read behind the call as they read before. Conditions: none beyond the given statement's. -/
import Derived.Test.YtpkcdkbbhiafnaaFrame
import Derived.Test.YtpkcdkbbhiafnaaRows
namespace Go.Proofs.Ytpkcdkbbhiafnaa
set_option linter.unusedVariables false
set_option linter.unusedSimpArgs false
open Go.ChangeShapes Go.WideShapes Go.ChangeAt Go.RowKit Go.Joins Go.Deep

set_option maxRecDepth 100000 in
/-- A gate that came in. -/
theorem open_gate {H : Type} {enc : TypeId × Value → H} {W : World} {r : Reach} {b0 base : Nat} {spare : Nat → Bool} {held : Bool} {v : Value} {d : DataW H} {p : List MemPlace}
    (hv : Value.okWide Try.prog W r b0 24 v) (h : DataW.Trod enc Try.prog W base spare held 24 v d p) :
    ∃ g : GateM, GateV (heapOf W) v g ∧ I64 g.first ∧ I64 g.next := by
  obtain ⟨v0, v1, v2, y0, y1, y2, n, rfl, _, _, h0, h1, h2⟩ := open_agg3 Try.underlying24 (by kernel_rfl) (by kernel_rfl) hv h
  obtain ⟨n0, e0, _, w0⟩ := DataW.trod_int (k := .i64) Try.underlying3 h0
  obtain ⟨n2, e2, _, w2⟩ := DataW.trod_int (k := .i64) Try.underlying3 h2
  obtain ⟨l, hl⟩ := open_texts Try.underlying22 Try.underlying9 (by kernel_rfl) h1
  simp only [List.cons.injEq, and_true] at e0 e2
  subst e0; subst e2
  exact ⟨⟨n0, l, n2⟩, ⟨v1, rfl, hl⟩, I64_of_wf w0, I64_of_wf w2⟩

set_option maxRecDepth 100000 in
theorem gateAcks_lifted (os : Os) (started : os.Started) (H : Type) (enc : TypeId × Value → H) :
    ReturnsInHanded {} Try.checked os 3 .any (Rows.gateAcksSpec.pre6 enc Try.prog Try.f3 Rows.gateAcksRow.domain false) (Rows.gateAcksSpec.post enc Try.prog Try.f3 false true false false) := by
  refine returnsInHanded_of_change (C := Try.checked) Try.own started (by kernel_rfl) Try.func3
    (ChangeSpec.witness6 (enc := enc) (C := Try.checked) false ⟨#[], #[.agg #[.int .i64 0, .slice none 0 0, .int .i64 0], .int .i64 0], []⟩ 8 (by kernel_rfl) (by kernel_rfl) (by kernel_rfl) (by kernel_rfl)) ?_
  intro W base args ds gs before hval0 hW hcnd _
  have hval : ∀ (j : Nat) t v, Try.f3.params[j]? = some t → args[j]? = some v → Value.okWide Try.prog W .any base t v := hval0
  have hW' := hW
  obtain ⟨p, q, hA0, hV, rfl, hfz, hnd⟩ := hW
  have hA : DataW.TrodAll enc Try.prog W 0 (fun _ => true) true Try.f3.params.toList args.toList ds p := hA0
  rw [Try.params3] at hA hval
  obtain ⟨v0, v1, d0, d1, p0, p1, rfl, rfl, rfl, h0, h1⟩ := trodAll_two hA
  obtain ⟨rfl, rfl⟩ := trodVars_none hV
  obtain ⟨g, hg, hg1, hg2⟩ := open_gate (hval 0 24 v0 rfl rfl) h0
  have h1' := h1
  obtain ⟨x, rfl, _, _, wx⟩ := open_int (k := .i64) Try.underlying3 (hval 1 3 v1 rfl rfl) h1
  clear hA0 hval0
  simp only [List.append_nil] at hW'
  refine (lawAcks v0 g x (Mem.start W) hg ⟨hg1, hg2⟩ (I64_of_wf wx)).mono fun e W' ⟨he, hm⟩ => ?_
  subst he
  have hb := hm.below (Hle.refl _)
  have hlt : ∀ p ∈ p0 ++ p1, p.block < W.heap.size := fun p hp => hW'.lt p hp
  exact ⟨_, rfl, post_of_below (pa := p0 ++ p1) (pv := []) hW' (fun _ _ _ => trodAll_mk1 (shut_bool Try.underlying4 true))
    (fun sp hsp => trodAll_mk2 (WideElems.Trod_stays Try.laidOut (by kernel_rfl) (of_decide_eq_true (by kernel_rfl)) h0 (fun p hp => hb.same (hlt p (List.mem_append_left _ hp))) (fun p hp => hsp p (List.mem_append_left _ hp))) (WideElems.Trod_stays Try.laidOut (by kernel_rfl) (of_decide_eq_true (by kernel_rfl)) h1' (fun p hp => hb.same (hlt p (List.mem_append_right _ hp))) (fun p hp => hsp p (List.mem_append_right _ hp))))
    (fun _ _ => rfl) (by simp) hb (ok_one (by kernel_rfl) rfl (okWide_bool_mk Try.underlying4 true))⟩

theorem gateAcks_holds : Rows.GateAcksSaid :=
  OpenClaim.holds_of_wide 3 Try.f3 rfl rfl rfl rfl rfl rfl rfl ⟨rfl, rfl, rfl, rfl, rfl⟩ rfl rfl rfl rfl rfl (by kernel_rfl) Try.func3 (by kernel_rfl)
    (of_decide_eq_true (by kernel_rfl)) (by unfold Func.isWrapper; first | (rw [if_pos (by decide +kernel)]; kernel_rfl) | (rw [if_neg (by decide +kernel)]; exact ⟨rfl, rfl⟩))
    (fun os started H enc _ => gateAcks_lifted os started H enc)
end Go.Proofs.Ytpkcdkbbhiafnaa
