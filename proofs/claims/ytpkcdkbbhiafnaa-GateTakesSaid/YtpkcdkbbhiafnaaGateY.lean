/- The walks: the laws GateOffers, GatePuts. -/
import Derived.Test.YtpkcdkbbhiafnaaGateX
namespace Go.Proofs.Ytpkcdkbbhiafnaa
set_option linter.unusedVariables false
set_option linter.unusedSimpArgs false
open Go.RowKit

set_option maxRecDepth 10000 in
set_option maxHeartbeats 2000000 in
theorem lawOffers (v : Value) (g : GateM) (x : Int) (s : ByteArray) {w0 w : World} {H : Hp} {L : List (Nat × Obj)} (m : Mem w0 H L w) (hv : GateV H v g) (hb : I64 g.first ∧ I64 g.next) (hx : I64 x) (hs : s.size ≤ maxLen) :
    Calls Try.prog 4 #[v, .int .i64 x, .string s] w (Lawful w0 H L) := by
  obtain ⟨q, rfl, hq⟩ := hv
  have HQ := Lib.hid hq
  obtain ⟨qb, qc, rfl⟩ := GateV.slice hq
  clear hq
  go_enter Try.func4, Try.ntmps4
  go_wp2_with fail
  have m1 := m.alloc (.cells #[.int .i64 g.first, .slice qb g.queue.length qc, .int .i64 g.next] 24)
  refine (Thin_any _ g m1 ⟨_, rfl, HQ.out⟩).mono ?_
  rintro e w1 ⟨rfl, m2⟩
  have early : ∀ K, (∀ e w', Lawful w0 H ((w.heap.size, .cells #[.int .i64 g.first, .slice qb g.queue.length qc, .int .i64 g.next] 24) :: L) e w' → K e w') → Calls Try.prog 11 #[] w1 K := fun K hK => (awake_any m2).mono hK
  by_cases ht : thinB g = true ∧ s.size ≤ 300
  · obtain ⟨ht, hs3⟩ := ht
    have hlen : g.queue.length ≤ 70 := by unfold thinB at ht; simp at ht; exact ht.1
    rw [ht]
    have es := m2.eqs; simp only [EqsL, and_true] at es
    go_wp2_with fail
    refine (Copy_any _ g m2 ⟨_, rfl, HQ.out⟩ (by omega)).mono ?_
    rintro e w2 hR
    obtain ⟨b2, c2, H2, rfl, m3, hl2, hs2⟩ := CopyR.lit (f := g.first) (q := g.queue) (n := g.next) rfl hR
    clear hR
    go_wp2_with fail
    have m4 := m3.alloc (.cells #[.int .i64 g.first, .slice b2 g.queue.length c2, .int .i64 g.next] 24)
    refine (Offer_any _ g x s m4 ⟨_, rfl, hs2⟩ hb hx hs).mono ?_
    rintro e w3 hR
    generalize hr : g.with1 (g.offer1 x s).2 = r at *
    generalize htk : OfferTk g x s = tk at *
    obtain ⟨⟨f, q, n⟩, k⟩ := r
    obtain ⟨b3, c3, H3, rfl, m5, hl3, hs3⟩ := OfferR.lit rfl rfl rfl hR
    clear hR es
    have es := m5.eqs; simp only [EqsL, and_true] at es
    go_wp2_with fail
    have m6 := m5.alloc (.cells #[.int .i64 f, .slice b3 q.length c3, .int .i64 n] 24)
    refine (ROffer_any _ g x s m6 ⟨_, rfl, (HQ.out.mono hl2).mono hl3⟩ hx hs).mono ?_
    rintro e w4 hR
    rw [hr, htk] at hR
    obtain ⟨b4, c4, H4, rfl, m7, hl4, hs4⟩ := OfferR.lit rfl rfl rfl hR
    clear hR es hr htk
    have es := m7.eqs; simp only [EqsL, and_true] at es
    go_wp2_with fail
    have m8 := m7.alloc (.cells #[.int .i64 f, .slice b4 q.length c4, .int .i64 n] 24)
    refine (Same_any _ _ ⟨f, q, n⟩ ⟨f, q, n⟩ m8 ⟨_, rfl, hs3.mono hl4⟩ ⟨_, rfl, hs4⟩).mono ?_
    rintro e w5 ⟨rfl, m9⟩
    rw [GateM.eqv_refl]
    clear es
    have es := m9.eqs; simp only [EqsL, and_true] at es
    go_wp2_with fail
    refine (Same_any _ _ g g m9 ⟨_, rfl, (hs2.mono hl3).mono hl4⟩ ⟨_, rfl, ((HQ.out.mono hl2).mono hl3).mono hl4⟩).mono ?_
    rintro e w6 ⟨rfl, m10⟩
    rw [GateM.eqv_refl]
    go_wp2_with fail
    refine (awake_any m10).mono ?_
    rintro e w7 ⟨rfl, m11⟩
    go_wp2_with fail
    go_ret
    exact ⟨rfl, (m11.weaken ((hl2.trans hl3).trans hl4)).drop.drop.drop.drop⟩
  · by_cases ht1 : thinB g = true
    · have hs3 : ¬ s.size ≤ 300 := fun h => ht ⟨ht1, h⟩
      have hs4 := size_le_maxLen hs
      rw [ht1]
      go_wp2_with fail
      refine early _ ?_
      rintro e w2 ⟨rfl, m3⟩
      go_wp2_with fail
      go_ret
      exact ⟨rfl, m3.drop⟩
    · have ht0 : thinB g = false := by simpa using ht1
      rw [ht0]
      go_wp2_with fail
      refine early _ ?_
      rintro e w2 ⟨rfl, m3⟩
      go_wp2_with fail
      go_ret
      exact ⟨rfl, m3.drop⟩

set_option maxRecDepth 10000 in
set_option maxHeartbeats 2000000 in
theorem lawPuts (v : Value) (g : GateM) (s : ByteArray) {w0 w : World} {H : Hp} {L : List (Nat × Obj)} (m : Mem w0 H L w) (hv : GateV H v g) (hb : I64 g.first ∧ I64 g.next) (hs : s.size ≤ maxLen) :
    Calls Try.prog 8 #[v, .string s] w (Lawful w0 H L) := by
  obtain ⟨q, rfl, hq⟩ := hv
  have HQ := Lib.hid hq
  obtain ⟨qb, qc, rfl⟩ := GateV.slice hq
  clear hq
  go_enter Try.func8, Try.ntmps8
  go_wp2_with fail
  have m1 := m.alloc (.cells #[.int .i64 g.first, .slice qb g.queue.length qc, .int .i64 g.next] 24)
  refine (Thin_any _ g m1 ⟨_, rfl, HQ.out⟩).mono ?_
  rintro e w1 ⟨rfl, m2⟩
  have early : ∀ K, (∀ e w', Lawful w0 H ((w.heap.size, .cells #[.int .i64 g.first, .slice qb g.queue.length qc, .int .i64 g.next] 24) :: L) e w' → K e w') → Calls Try.prog 11 #[] w1 K := fun K hK => (awake_any m2).mono hK
  by_cases ht : thinB g = true ∧ s.size ≤ 300
  · obtain ⟨ht, hs3⟩ := ht
    have hlen : g.queue.length ≤ 70 := by unfold thinB at ht; simp at ht; exact ht.1
    rw [ht]
    have es := m2.eqs; simp only [EqsL, and_true] at es
    go_wp2_with fail
    refine (Copy_any _ g m2 ⟨_, rfl, HQ.out⟩ (by omega)).mono ?_
    rintro e w2 hR
    obtain ⟨b2, c2, H2, rfl, m3, hl2, hs2⟩ := CopyR.lit (f := g.first) (q := g.queue) (n := g.next) rfl hR
    clear hR
    go_wp2_with fail
    have m4 := m3.alloc (.cells #[.int .i64 g.first, .slice b2 g.queue.length c2, .int .i64 g.next] 24)
    refine (Check_any _ g m4 ⟨_, rfl, hs2⟩ hb).mono ?_
    rintro e w3 ⟨rfl, m5⟩
    clear es
    have es := m5.eqs; simp only [EqsL, and_true] at es
    go_wp2_with fail
    refine (Put_any _ g s m5 ⟨_, rfl, hs2⟩ hb hs).mono ?_
    rintro e w4 hR
    generalize hr : g.with1 (g.put1 s) = r at *
    obtain ⟨⟨f, q, n⟩, k⟩ := r
    obtain ⟨b4, c4, H4, rfl, m6, hl4, hs4⟩ := GateR.lit rfl rfl hR
    clear hR es
    have es := m6.eqs; simp only [EqsL, and_true] at es
    go_wp2_with fail
    have m7 := m6.alloc (.cells #[.int .i64 f, .slice b4 q.length c4, .int .i64 n] 24)
    refine (Send_any _ g m7 ⟨_, rfl, hs2.mono hl4⟩ hb).mono ?_
    rintro e w5 ⟨rfl, m8⟩
    clear es
    have es := m8.eqs; simp only [EqsL, and_true] at es
    go_wp2_with fail
    refine (RPut_any _ g s m8 ⟨_, rfl, (HQ.out.mono hl2).mono hl4⟩ hs).mono ?_
    rintro e w6 hR
    rw [hr] at hR
    obtain ⟨b6, c6, H6, rfl, m9, hl6, hs6⟩ := GateR.lit rfl rfl hR
    clear hR es hr
    have es := m9.eqs; simp only [EqsL, and_true] at es
    go_wp2_with fail
    have m10 := m9.alloc (.cells #[.int .i64 f, .slice b6 q.length c6, .int .i64 n] 24)
    refine (RSend_any _ g m10 ⟨_, rfl, ((HQ.out.mono hl2).mono hl4).mono hl6⟩).mono ?_
    rintro e w7 ⟨rfl, m11⟩
    generalize g.send = r at *
    obtain ⟨sf, ss, se⟩ := r
    clear es
    have es := m11.eqs; simp only [EqsL, and_true] at es
    go_wp2_with fail
    refine (RCheck_any _ g m11 ⟨_, rfl, ((HQ.out.mono hl2).mono hl4).mono hl6⟩).mono ?_
    rintro e w8 ⟨rfl, m12⟩
    generalize g.chk = ck at *
    clear es
    have es := m12.eqs; simp only [EqsL, and_true] at es
    go_wp2_with fail
    refine (Same_any _ _ ⟨f, q, n⟩ ⟨f, q, n⟩ m12 ⟨_, rfl, hs4.mono hl6⟩ ⟨_, rfl, hs6⟩).mono ?_
    rintro e w9 ⟨rfl, m13⟩
    rw [GateM.eqv_refl]
    clear es
    have es := m13.eqs; simp only [EqsL, and_true] at es
    go_wp2_with fail
    refine (Same_any _ _ g g m13 ⟨_, rfl, (hs2.mono hl4).mono hl6⟩ ⟨_, rfl, ((HQ.out.mono hl2).mono hl4).mono hl6⟩).mono ?_
    rintro e w10 ⟨rfl, m14⟩
    rw [GateM.eqv_refl]
    go_wp2_with fail
    refine (awake_any m14).mono ?_
    rintro e w11 ⟨rfl, m15⟩
    go_wp2_with fail
    go_ret
    exact ⟨rfl, (m15.weaken ((hl2.trans hl4).trans hl6)).drop.drop.drop.drop⟩
  · by_cases ht1 : thinB g = true
    · have hs3 : ¬ s.size ≤ 300 := fun h => ht ⟨ht1, h⟩
      have hs4 := size_le_maxLen hs
      rw [ht1]
      go_wp2_with fail
      refine early _ ?_
      rintro e w2 ⟨rfl, m3⟩
      go_wp2_with fail
      go_ret
      exact ⟨rfl, m3.drop⟩
    · have ht0 : thinB g = false := by simpa using ht1
      rw [ht0]
      go_wp2_with fail
      refine early _ ?_
      rintro e w2 ⟨rfl, m3⟩
      go_wp2_with fail
      go_ret
      exact ⟨rfl, m3.drop⟩
end Go.Proofs.Ytpkcdkbbhiafnaa
