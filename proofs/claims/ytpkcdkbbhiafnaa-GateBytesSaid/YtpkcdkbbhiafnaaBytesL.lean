/- The walk: the law GateBytes. -/
import Derived.Test.YtpkcdkbbhiafnaaReadC
import Derived.Test.YtpkcdkbbhiafnaaByteB
import Derived.Test.YtpkcdkbbhiafnaaGateX
namespace Go.Proofs.Ytpkcdkbbhiafnaa
set_option linter.unusedVariables false
set_option linter.unusedSimpArgs false
open Go.RowKit

set_option maxRecDepth 10000 in
set_option maxHeartbeats 8000000 in
theorem lawBytes (v vb : Value) (g : GateM) (b : List UInt8) {w0 w : World} {H : Hp} {L : List (Nat × Obj)} (m : Mem w0 H L w) (hv : GateV H v g) (hb : I64 g.first ∧ I64 g.next) (hvb : SlR encB H vb b) :
    Calls Try.prog 9 #[v, vb] w (Lawful w0 H L) := by
  obtain ⟨q, rfl, hq⟩ := hv
  have HQ := Lib.hid hq
  obtain ⟨qb, qc, rfl⟩ := GateV.slice hq
  clear hq
  have HV := Lib.hid hvb
  obtain ⟨ba, bc, rfl, hc1, hc2, _, _⟩ := hvb
  have hc2 := size_le_maxLen hc2
  by_cases hl : 20000 < b.length
  · go_enter Try.func9, Try.ntmps9
    go_wp2_with fail
    have m1 := m.alloc (.cells #[.int .i64 g.first, .slice qb g.queue.length qc, .int .i64 g.next] 24)
    refine (Thin_any _ g m1 ⟨_, rfl, HQ.out⟩).mono ?_
    rintro e w1 ⟨rfl, m2⟩
    cases ht : thinB g
    · go_wp2_with fail
      refine (awake_any m2).mono ?_
      rintro e w2 ⟨rfl, m3⟩
      go_wp2_with fail
      go_ret
      exact ⟨rfl, m3.drop⟩
    · go_wp2_with fail
      refine (awake_any m2).mono ?_
      rintro e w2 ⟨rfl, m3⟩
      go_wp2_with fail
      go_ret
      exact ⟨rfl, m3.drop⟩
  · go_enter Try.func9, Try.ntmps9
    go_wp2_with fail
    have m1 := m.alloc (.cells #[.int .i64 g.first, .slice qb g.queue.length qc, .int .i64 g.next] 24)
    refine (Thin_any _ g m1 ⟨_, rfl, HQ.out⟩).mono ?_
    rintro e w1 ⟨rfl, m2⟩
    by_cases ht : thinB g = true
    · have hlen : g.queue.length ≤ 70 := by unfold thinB at ht; simp at ht; exact ht.1
      rw [ht]
      clear m1
      have es := m2.eqs; simp only [EqsL, and_true] at es
      go_wp2_with fail
      refine (Copy_any _ g m2 ⟨_, rfl, HQ.out⟩ (by omega)).mono ?_
      rintro e w2 hR
      obtain ⟨b2, c2, H2, rfl, m3, hl2, hs2⟩ := CopyR.lit (f := g.first) (q := g.queue) (n := g.next) rfl hR
      have HS2 := Lib.hid hs2; clear hs2 hR es
      have m4 := m3.alloc (.cells #[] 5)
      obtain ⟨news, hch, hsrc⟩ := (HV.out.mono hl2).src m4
      have HC := Lib.hid hch; clear hch
      have HSR := Lib.hid hsrc; clear hsrc
      have hnl : news.length = b.length := by simpa [encB, encV] using HC.out.length
      go_wp2_with (at_builtin; refine wpList_append_mem (w0 := w0) (H := H2) (L := _ :: L) rfl _ _ 49 rfl 5 1 1 (.int .u8 0) Try.underlying49 (by kernel_rfl) rfl (by decide) _ 0 [] (MemAcc.row m4 (Nat.le_refl _) (by decide) rfl rfl) rfl _ b.length news HSR.out rfl (by omega) (b_oneCell HC.out) (by omega) (by unfold maxLen; omega) ?_)
      intro v' w' hacc
      obtain ⟨H3, m5, hl3, hsl3⟩ := hacc.done HC.out rfl rfl
      obtain ⟨b3, c3, rfl, _, hc3⟩ := hacc.shape
      have hc3 := size_le_maxLen hc3
      have HSL := Lib.hid hsl3; clear hsl3 hacc m4
      go_wp2_with fail
      have m6 := m5.alloc (.cells #[.int .i64 g.first, .slice b2 g.queue.length c2, .int .i64 g.next] 24)
      refine (Bytes_any _ g m6 ⟨_, rfl, HS2.out.mono hl3⟩ hb).mono ?_
      rintro e w4 ⟨b4, n4, c4, H4, rfl, m7, hl4, hs4⟩
      have HS4 := Lib.hid hs4; clear hs4 m6
      generalize hbr : bytesR g = br at *
      obtain ⟨bl, be⟩ := br
      simp only at *
      go_wp2_with fail
      refine (Read_any _ b (by omega) m7 (HSL.out.mono hl4)).mono ?_
      rintro e w5 hR
      generalize hrd : readM b = rd at *
      obtain ⟨⟨f, q, n⟩, k⟩ := rd
      obtain ⟨b5, c5, H5, rfl, m8, hl5, hs5⟩ := GateR.lit rfl rfl hR
      have HS5 := Lib.hid hs5; clear hs5 hR
      have es := m8.eqs; simp only [EqsL, and_true] at es
      go_wp2_with fail
      have m9 := m8.alloc (.cells #[.int .i64 f, .slice b5 q.length c5, .int .i64 n] 24)
      refine (RBytes_any _ g m9 ⟨_, rfl, (((HQ.out.mono hl2).mono hl3).mono hl4).mono hl5⟩).mono ?_
      rintro e w6 hR
      rw [hbr] at hR
      obtain ⟨b6, n6, c6, H6, rfl, m10, hl6, hs6⟩ := hR
      have HS6 := Lib.hid hs6; clear hs6 hbr m9 es
      simp only at *
      go_wp2_with fail
      refine (RRead_any _ b (by omega) m10 ((((HV.out.mono hl2).mono hl3).mono hl4).mono hl5 |>.mono hl6)).mono ?_
      rintro e w7 hR
      rw [hrd] at hR
      obtain ⟨b7, c7, H7, rfl, m11, hl7, hs7⟩ := GateR.lit rfl rfl hR
      have HS7 := Lib.hid hs7; clear hs7 hR hrd m10
      have es := m11.eqs; simp only [EqsL, and_true] at es
      go_wp2_with fail
      have m12 := m11.alloc (.cells #[.int .i64 f, .slice b7 q.length c7, .int .i64 n] 24)
      have hcv1 := conv_bytes (P := Try.prog) 49 9 5 Try.underlying49 Try.underlying5 Try.underlying9 m12 (((HS4.out.mono hl5).mono hl6).mono hl7)
      rw [hcv1]
      simp only [Result.andThen_ok, Oper.upon_value]
      clear hcv1
      go_wp2_with fail
      have hcv2 := conv_bytes (P := Try.prog) 49 9 5 Try.underlying49 Try.underlying5 Try.underlying9 m12 (HS6.out.mono hl7)
      rw [hcv2]
      simp only [Result.andThen_ok, Oper.upon_value]
      clear hcv2
      go_wp2_with fail
      refine (Same_any _ _ ⟨f, q, n⟩ ⟨f, q, n⟩ m12 ⟨_, rfl, (HS5.out.mono hl6).mono hl7⟩ ⟨_, rfl, HS7.out⟩).mono ?_
      rintro e w8 ⟨rfl, m13⟩
      rw [GateM.eqv_refl]
      clear es
      have es := m13.eqs; simp only [EqsL, and_true] at es
      go_wp2_with fail
      refine (Same_any _ _ g g m13 ⟨_, rfl, ((((HS2.out.mono hl3).mono hl4).mono hl5).mono hl6).mono hl7⟩ ⟨_, rfl, (((((HQ.out.mono hl2).mono hl3).mono hl4).mono hl5).mono hl6).mono hl7⟩).mono ?_
      rintro e w9 ⟨rfl, m14⟩
      rw [GateM.eqv_refl]
      go_wp2_with fail
      have hcv3 := conv_bytes (P := Try.prog) 49 9 5 Try.underlying49 Try.underlying5 Try.underlying9 m14 ((((HSL.out.mono hl4).mono hl5).mono hl6).mono hl7)
      rw [hcv3]
      simp only [Result.andThen_ok, Oper.upon_value]
      clear hcv3
      go_wp2_with fail
      have hcv4 := conv_bytes (P := Try.prog) 49 9 5 Try.underlying49 Try.underlying5 Try.underlying9 m14 ((((((HV.out.mono hl2).mono hl3).mono hl4).mono hl5).mono hl6).mono hl7)
      rw [hcv4]
      simp only [Result.andThen_ok, Oper.upon_value]
      clear hcv4
      go_wp2_with fail
      refine (awake_any m14).mono ?_
      rintro e w10 ⟨rfl, m15⟩
      go_wp2_with fail
      go_ret
      exact ⟨rfl, (m15.weaken (((((hl2.trans hl3).trans hl4).trans hl5).trans hl6).trans hl7)).drop.drop.drop.drop⟩
    · have ht0 : thinB g = false := by simpa using ht
      rw [ht0]
      go_wp2_with fail
      refine (awake_any m2).mono ?_
      rintro e w2 ⟨rfl, m3⟩
      go_wp2_with fail
      go_ret
      exact ⟨rfl, m3.drop⟩
end Go.Proofs.Ytpkcdkbbhiafnaa
