/- The walk: the law GateOnce. -/
import Derived.Test.YtpkcdkbbhiafnaaDoorOnceM
namespace Go.Proofs.YtpkcdkbbhiafnaaDoor
set_option linter.unusedVariables false
set_option linter.unusedSimpArgs false
open Go.RowKit

theorem act_oneCell {H : Hp} {cs : List Value} {xs : List ActM} (h : Chunks encAct H cs xs) : ∀ u ∈ cs, u.oneCell' = true :=
  h.oneCell fun cs x hx u hu => by
    obtain ⟨rfl, _⟩ := hx
    simp only [List.mem_cons, List.not_mem_nil, or_false] at hu
    rcases hu with rfl | rfl | rfl <;> rfl

set_option maxRecDepth 10000 in
set_option maxHeartbeats 4000000 in
theorem lawOnce (v : Value) (l : List UInt8) {w0 w : World} {H : Hp} {L : List (Nat × Obj)} (m : Mem w0 H L w) (hv : SlR encB H v l) :
    Calls Tryd.prog 3 #[v] w (Lawful w0 H L) := by
  obtain ⟨hlen, hbeg⟩ := once_law l
  have hrl := PlayM.run_len (stormM l).out PlayM.start
  have hpm : playM (stormM l).out = ((PlayM.start.run (stormM l).out).1.gate, (PlayM.start.run (stormM l).out).1.out, (PlayM.start.run (stormM l).out).2, 0) := by unfold playM; rw [if_neg (by omega)]
  have HPM := Lib.hid hpm; clear hpm
  have HBEG := Lib.hid hbeg; clear hbeg
  go_enter Tryd.func3, Tryd.ntmps3
  go_wp2_with fail
  refine (acts_any v l m hv).mono ?_
  rintro e w1 ⟨b1, c1, b2, c2, H1, rfl, m1, hl1, s1, s2⟩
  have S1 := Lib.hid s1; clear s1
  have S2 := Lib.hid s2; clear s2
  generalize stormM l = s at *
  obtain ⟨_, _, hv1, hc1, hcm, _, _⟩ := S1.out
  cases hv1
  have hcm := size_le_maxLen hcm
  have m2 := m1.alloc (.cells #[] 38)
  obtain ⟨news, hch, hsrc⟩ := S1.out.src m2
  have HC := Lib.hid hch; clear hch
  have HS := Lib.hid hsrc; clear hsrc
  go_wp2_with (at_builtin; refine wpList_append_mem (w0 := w0) (H := H1) (L := L) rfl _ _ 24 rfl 38 3 32 (.agg #[.int .u8 0, .int .i64 0, .string ByteArray.empty]) Tryd.underlying24 (by kernel_rfl) rfl (by decide) _ 0 [] (MemAcc.row m2 (Nat.le_refl _) (by decide) rfl rfl) rfl _ s.out.length news HS.out rfl HC.out.length (act_oneCell HC.out) (by omega) (by unfold maxLen; omega) ?_)
  intro v' w' hacc
  obtain ⟨H2, m3, hl2, hsl2⟩ := hacc.done HC.out rfl rfl
  obtain ⟨b', c', rfl, _, hc3⟩ := hacc.shape
  have hc3 := size_le_maxLen hc3
  clear hacc m2
  have HSL := Lib.hid hsl2; clear hsl2
  go_wp2_with fail
  refine (Play_any _ s.out m3 HSL.out).mono ?_
  rintro e w2 hR
  rw [HPM.out] at hR
  generalize PlayM.start.run s.out = r at *
  obtain ⟨⟨⟨f, q, n⟩, o, sv, si⟩, x⟩ := r
  simp only at *
  obtain ⟨b3, c3, b4, c4, b5, c5, H3, rfl, m4, hl3, s3, s4, s5⟩ := PlayR.lit rfl rfl rfl rfl hR
  have S4 := Lib.hid s4; clear s3 s4 s5 hR
  have hx1 : ((x.length : Int) == s.out.length) = true := by simp [hrl]
  go_wp2_with fail
  have m5 := m4.alloc (.cells #[.int .i64 f, .slice b3 q.length c3, .int .i64 n] 29)
  refine (begins_any _ _ o s.put m5 S4.out ((S2.out.mono hl2).mono hl3)).mono ?_
  rintro e w5 ⟨rfl, m6⟩
  rw [HBEG.out]
  go_wp2_with fail
  refine (awake_any m6).mono ?_
  rintro e w6 ⟨rfl, m7⟩
  go_wp2_with fail
  go_ret
  exact ⟨rfl, (m7.weaken ((hl1.trans hl2).trans hl3)).drop⟩
end Go.Proofs.YtpkcdkbbhiafnaaDoor
