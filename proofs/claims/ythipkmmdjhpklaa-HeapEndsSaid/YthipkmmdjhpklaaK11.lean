/- The walk: the program's Live, at a heap that is not busy. The walks of the reference: a list of values copied. -/
import Derived.Test.YthipkmmdjhpklaaK10
namespace Go.Proofs.Ythipkmmdjhpklaa
set_option linter.unusedVariables false
set_option linter.unusedSimpArgs false
open Go.RowKit

theorem SlR.shape {α : Type} {E : Enc α} {H : Hp} {v : Value} {xs : List α} (h : SlR E H v xs) : ∃ b c, v = .slice b xs.length c := by
  obtain ⟨b, c, e, _⟩ := h
  exact ⟨b, c, e⟩
set_option maxRecDepth 10000 in
set_option maxHeartbeats 4000000 in
theorem Live_any (h : HeapM) (o : HOk h) (hb : h.busy = false) (F : Nat) (hF : 12000 * 401 + h.regs.length ≤ F) (ob : Option Addr) (oc : Nat) (vn vr : Value) {w0 w : World} {H : Hp} {L : List (Nat × Obj)} (hv : SlR encObj H vn h.new) (hx : SlR encVal H vr h.regs) (m : Mem w0 H L w) :
    Calls Try.prog 29 #[.agg #[.int .i64 h.size, .int .i64 h.half, .int .i64 0, .bool false, .slice ob 0 oc, vn, vr]] w fun e w' => e = .returned (.tuple #[.int .i64 ((h.liveN F [] h.regs).length : Nat), .int .i64 0]) ∧ Mem w0 H L w' := by
  obtain ⟨hid, hio⟩ := o.idleOk hb
  have HV := Lib.hid hv
  have HX := Lib.hid hx
  have HIO := Lib.hid hio; clear hio
  have HID := Lib.hid hid; clear hid
  have HF := Lib.hid hF; clear hF
  have HOK := Lib.hid o
  obtain ⟨nb, nc, rfl, -, -, -, -⟩ := hv
  obtain ⟨rb, rc, rfl, -, -, -, -⟩ := hx
  have m1 := (m.alloc (.cells #[.int .i64 h.size, .int .i64 h.half, .int .i64 0, .bool false, .slice ob 0 oc, .slice nb h.new.length nc, .slice rb h.regs.length rc] 31)).drop
  clear hb o
  go_enter Try.func29, Try.ntmps29
  go_wp2_with fail
  refine (newHeap_idle h.size h.half ob oc _ _ h.new h.regs HV.out HX.out HIO.out m1).mono ?_
  rintro e w1 ⟨b, rfl, hc⟩
  rw [← HID.out] at hc
  obtain ⟨H', vo, vn', vr', hle, hvo, hvn, hvr, m2⟩ := hc.freeze
  obtain ⟨ob2, oc2, rfl⟩ := hvo.shape
  obtain ⟨nb2, nc2, rfl⟩ := hvn.shape
  obtain ⟨rb2, rc2, rfl⟩ := hvr.shape
  have HVO := Lib.hid hvo
  have HVN := Lib.hid hvn
  have HVR := Lib.hid hvr
  clear hvo hvn hvr
  go_wp2_with fail
  refine (live_any b h HOK.out F HF.out ob2 nb2 rb2 oc2 nc2 rc2 HVO.out HVN.out HVR.out m2).mono ?_
  rintro e w2 ⟨rfl, m3⟩
  generalize hlv : h.liveN F [] h.regs = lv at *
  have HLV := Lib.hid hlv; clear hlv
  go_wp2_with fail
  refine bodyPost_ret (v := .tuple #[.int .i64 (lv.length : Nat), .int .i64 0]) (by simp [results, Try.results29, go_sem]) rfl ?_
  rw [HLV.out]
  exact ⟨rfl, m3.weaken hle⟩
end Go.Proofs.Ythipkmmdjhpklaa
namespace Go.Proofs.Ythipkmmdjhpklaa
set_option linter.unusedVariables false
set_option linter.unusedSimpArgs false
open Go.RowKit

set_option maxHeartbeats 1000000 in
theorem values_any (v : Value) (xs : List ValM) {w0 w : World} {H : Hp} {L : List (Nat × Obj)} (m : Mem w0 H L w) (hv : SlR encVal H v xs) (hx : xs.length ≤ 100000) :
    Calls Try.prog 53 #[v] w (OwnVR xs w0 H L) := by
  have HV := Lib.hid hv
  obtain ⟨news, hch, hsrc⟩ := HV.out.src m
  have HC := Lib.hid hch; clear hch
  have HS := Lib.hid hsrc; clear hsrc
  obtain ⟨b, c, rfl, hc1, hc2, _, _⟩ := hv
  have hc2 := size_le_maxLen hc2
  go_enter Try.func53, Try.ntmps53
  go_wp2_with (at_builtin; go_must (refine wpList_append_mem (w0 := w0) (H := H) (L := L) rfl _ _ 29 rfl 50 3 32 (.agg #[.int .u8 0, .int .i64 0, .string ByteArray.empty]) Try.underlying29 (by kernel_rfl) rfl (by decide) _ 0 [] (MemAcc.nil m) rfl _ xs.length news HS.out rfl HC.out.vlen (val_oneCell HC.out) (by omega) (by unfold maxLen; omega) ?_))
  intro v' w' hacc
  obtain ⟨b', c', rfl, _, _⟩ := hacc.shape
  obtain ⟨L0, ho, m2⟩ := OwnV.of (vs := xs) (by simpa using hacc) HC.out
  go_wp2
  go_ret
  exact ⟨b', c', L0, by simp, by simpa using ho, m2⟩
end Go.Proofs.Ythipkmmdjhpklaa
