/- The walk: the law GateTakes. -/
import Derived.Test.YtpkcdkbbhiafnaaGateY
namespace Go.Proofs.Ytpkcdkbbhiafnaa
set_option linter.unusedVariables false
set_option linter.unusedSimpArgs false
open Go.RowKit

set_option maxRecDepth 10000 in
set_option maxHeartbeats 2000000 in
theorem lawTakes (v : Value) (l : List ByteArray) (n : Int) (s : ByteArray) {w0 w : World} {H : Hp} {L : List (Nat × Obj)} (m : Mem w0 H L w) (hv : SlR encStr H v l) (hn : I64 n) (hs : s.size ≤ maxLen) :
    Calls Try.prog 5 #[v, .int .i64 n, .string s] w (Lawful w0 H L) := by
  have HV := Lib.hid hv
  obtain ⟨b, c, rfl, hc1, hc2, h0, _⟩ := hv
  have hc2 := size_le_maxLen hc2
  have hs4 := size_le_maxLen hs
  by_cases hl : l.length ≤ 70
  · go_enter Try.func5, Try.ntmps5
    go_wp2_with fail
    refine (thinTexts_any _ l m HV.out).mono ?_
    rintro e w1 ⟨rfl, rfl⟩
    cases ht : l.all fun s => decide (s.size ≤ 300)
    · go_wp2_with fail
      refine (awake_any m).mono ?_
      rintro e w2 ⟨rfl, m3⟩
      go_wp2_with fail
      go_ret
      exact ⟨rfl, m3⟩
    · clear ht
      by_cases hs3 : s.size ≤ 300
      · have m2 := m.alloc (.cells #[] 9)
        obtain ⟨news, hch, hsrc⟩ := HV.out.src m2
        have HC := Lib.hid hch; clear hch
        have HS := Lib.hid hsrc; clear hsrc
        go_wp2_with (at_builtin; refine wpList_append_mem (w0 := w0) (H := H) (L := L) rfl _ _ 22 rfl 9 1 16 (.string ByteArray.empty) Try.underlying22 (by kernel_rfl) rfl (by decide) _ 0 [] (MemAcc.row m2 (Nat.le_refl _) (by decide) rfl rfl) rfl _ l.length news HS.out rfl HC.out.len1 (str_oneCell HC.out) (by omega) (by unfold maxLen; omega) ?_)
        intro v' w' hacc
        obtain ⟨H2, m3, hl2, hsl2⟩ := hacc.done HC.out rfl rfl
        obtain ⟨b', c', rfl, _, hc3⟩ := hacc.shape
        have hc3 := size_le_maxLen hc3
        clear hacc
        have HSL := Lib.hid hsl2; clear hsl2
        go_wp2_with fail
        refine (Take_any _ l n s m3 HSL.out (by omega) hs hn).mono ?_
        rintro e w2 hR
        generalize hr : takeR l n s = r at *
        obtain ⟨t, x, k⟩ := r
        obtain ⟨b3, c3, H3, rfl, m4, hl3, hs3'⟩ := TakeR.lit rfl rfl hR
        clear hR
        go_wp2_with fail
        refine (RTake_any _ l n s m4 ((HV.out.mono hl2).mono hl3) (by omega) hs hn).mono ?_
        rintro e w3 hR
        rw [hr] at hR
        obtain ⟨b4, c4, H4, rfl, m5, hl4, hs4'⟩ := TakeR.lit rfl rfl hR
        clear hR hr
        go_wp2_with fail
        refine (Texts_any _ _ t t m5 (hs3'.mono hl4) hs4').mono ?_
        rintro e w4 ⟨rfl, n4, hw⟩
        have m6 : Mem w0 H4 _ w4 := hw ▸ m5.drewN n4
        clear hw
        have et : decide (t = t) = true := by simp
        rw [et]; clear et
        go_wp2_with fail
        refine (Texts_any _ _ l l m6 ((HSL.out.mono hl3).mono hl4) (((HV.out.mono hl2).mono hl3).mono hl4)).mono ?_
        rintro e w5 ⟨rfl, n5, hw⟩
        have m7 : Mem w0 H4 _ w5 := hw ▸ m6.drewN n5
        clear hw
        have et : decide (l = l) = true := by simp
        rw [et]; clear et
        go_wp2_with fail
        refine (awake_any m7).mono ?_
        rintro e w7 ⟨rfl, m11⟩
        go_wp2_with fail
        go_ret
        exact ⟨rfl, (m11.weaken ((hl2.trans hl3).trans hl4))⟩
      · go_wp2_with fail
        refine (awake_any m).mono ?_
        rintro e w2 ⟨rfl, m3⟩
        go_wp2_with fail
        go_ret
        exact ⟨rfl, m3⟩
  · go_enter Try.func5, Try.ntmps5
    go_wp2_with fail
    refine (awake_any m).mono ?_
    rintro e w2 ⟨rfl, m3⟩
    go_wp2_with fail
    go_ret
    exact ⟨rfl, m3⟩
end Go.Proofs.Ytpkcdkbbhiafnaa
