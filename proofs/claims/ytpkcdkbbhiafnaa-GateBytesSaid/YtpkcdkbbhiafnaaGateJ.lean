/- The walks: the reference's Ack, Offer, Take. -/
import Derived.Test.YtpkcdkbbhiafnaaGateI
namespace Go.Proofs.Ytpkcdkbbhiafnaa
set_option linter.unusedVariables false
set_option linter.unusedSimpArgs false
open Go.RowKit

theorem SlR.tail {α : Type} {E : Enc α} {H : Hp} {b : Option Addr} {n c : Nat} {ys : List α} (h : SlR E H (.slice b n c) ys) (hn : 1 ≤ n) : SlR E H (sliceV b 1 n c E.size) (ys.drop 1) := by
  have h2 := h.sliced (i := 1) (j := n) hn (Nat.le_refl _)
  obtain ⟨b', c', hv, _⟩ := h
  cases hv
  rwa [List.take_of_length_le (by simp)] at h2

set_option maxHeartbeats 2000000 in
theorem RAck_any (v : Value) (g : GateM) (n : Int) {w0 w : World} {H : Hp} {L : List (Nat × Obj)} (m : Mem w0 H L w) (hv : GateV H v g) (hn : I64 n) :
    Calls Try.prog 14 #[v, .int .i64 n] w (GateR w0 H L (g.with1 (g.ack1 n))) := by
  obtain ⟨q, rfl, hq⟩ := hv
  have HQ := Lib.hid hq
  obtain ⟨qb, qc, rfl⟩ := GateV.slice hq
  clear hq
  go_enter Try.func14, Try.ntmps14
  go_wp2_with fail
  have m1 := (m.alloc (.cells #[.int .i64 g.first, .slice qb g.queue.length qc, .int .i64 g.next] 24)).alloc (.cells #[.int .i64 0, .slice none 0 0, .int .i64 0] 24)
  simp only [World.size_alloc] at m1
  refine (RCheck_any _ g m1 ⟨_, rfl, HQ.out⟩).mono ?_
  rintro e w1 ⟨rfl, m2⟩
  have es := m2.eqs; simp only [EqsL, and_true] at es
  by_cases hk : g.chk = 0
  · have hk1 : (g.chk != 0) = false := by simpa using hk
    have HK := Lib.hid hk; clear hk
    obtain ⟨s1, s2, s3, s4, s5⟩ := GateM.small_of HK.out
    by_cases hr : n < 0 ∨ g.first + g.queue.length < n
    · have HR := Lib.hid hr
      go_wp2_with fail
      all_goals
        refine bodyPost_ret (v := .tuple #[.agg #[.int .i64 0, .slice none 0 0, .int .i64 0], .int .i64 3]) (by simp [results, Try.results14, go_sem, es]) rfl ?_
        exact GateR.zero (with1_bad HK.out (GateM.ack1_bad HR.out) (by decide)) (((m2.set .head).set .head).set .head).drop.drop
    · have hr1 : 0 ≤ n ∧ n ≤ g.first + g.queue.length := by omega
      obtain ⟨hr1, hr2⟩ := hr1
      have HR := Lib.hid hr; clear hr
      go_wp2_with fail
      refine (Copy_any _ g m2 ⟨_, rfl, HQ.out⟩ (by omega)).mono ?_
      rintro e w2 hcopy
      obtain ⟨b, c, H2, rfl, m3, hle, hg⟩ := hcopy.done
      obtain ⟨_, hv2, hs2⟩ := hg
      cases hv2
      have HS := Lib.hid hs2; clear hs2
      have m4 := m3.alloc (.cells #[.int .i64 g.first, .slice b g.queue.length c, .int .i64 g.next] 24)
      clear es hcopy
      have es := m3.eqs; simp only [EqsL, and_true] at es
      go_wp2_with fail
      go_loopg [] (n - g.first).toNat (fun k wr => ∃ j qv, (g.first < n → j + k = (n - g.first).toNat) ∧ (n ≤ g.first → j = 0) ∧ Mem w0 H2 ((w2.heap.size, .cells #[.int .i64 (g.first + (j : Nat)), qv, .int .i64 g.next] 24) :: (w.heap.size + 1, .cells #[.int .i64 0, .slice none 0 0, .int .i64 0] 24) :: (w.heap.size, .cells #[.int .i64 g.first, .slice qb g.queue.length qc, .int .i64 g.next] 24) :: L) wr ∧ SlR encStr H2 qv (g.queue.drop j))
      case atStart => exact ⟨0, _, by omega, by omega, by simpa using m4, by simpa using HS.out⟩
      case round =>
        obtain ⟨j, qv, hj, hj0, m5, hs5⟩ := hrel
        have hs6 := hs5
        obtain ⟨b', c', rfl, hc1, hc2, _, _⟩ := hs5
        have hc2 := size_le_maxLen hc2
        simp only [List.length_drop] at hs6 m5 hc1
        clear es
        have es := m5.eqs; simp only [EqsL, and_true] at es
        by_cases hlt : g.first + (j : Nat) < n
        · have hlen : 1 ≤ g.queue.length - j := by omega
          have hlen1 : (1 : Int) ≤ ((g.queue.length - j : Nat) : Int) := by omega
          have hjl : j ≤ 64 := by omega
          have ht := hs6.tail hlen
          rw [List.drop_drop] at ht
          have ej : (g.first + (j : Nat) + 1 : Int) = g.first + ((j + 1 : Nat) : Int) := by omega
          have EJ := Lib.hid ej; clear ej
          by_cases hc1' : c' = 1
          · subst hc1'
            simp only [sliceV, sliced, if_true] at ht
            have HT := Lib.hid ht; clear ht hs6
            go_wp2_with fail
            go_region
            go_wp2_with fail
            go_roundg (gk - 1)
            case measure => omega
            case rel =>
              refine ⟨j + 1, _, by omega, by omega, ?_, HT.out⟩
              have := ((m5.set (i := 0) (v := .int .i64 (g.first + (j : Nat) + 1)) .head).set (i := 1) (v := .slice b' (g.queue.length - j - 1) (1 - 1)) .head).drew
              have hz : g.queue.length - j - 1 = 0 := by omega
              rw [← EJ.out]
              simpa [encStr, encV, hz] using this
          · simp only [sliceV, sliced, hc1', if_false] at ht
            have HT := Lib.hid ht; clear ht hs6
            go_wp2_with fail
            go_region
            go_wp2_with fail
            go_roundg (gk - 1)
            case measure => omega
            case rel =>
              refine ⟨j + 1, _, by omega, by omega, ?_, HT.out⟩
              have := ((m5.set (i := 0) (v := .int .i64 (g.first + (j : Nat) + 1)) .head).set (i := 1) (v := .slice (b'.map (·.add (1 * 1))) (g.queue.length - j - 1) (c' - 1)) .head).drew
              rw [← EJ.out]
              simpa [encStr, encV, Addr.add] using this
        · go_wp2_with fail
          have m6 := ((m5.set (i := 0) (v := .int .i64 (g.first + (j : Nat))) (.tail .head)).set (i := 1) (v := .slice b' (g.queue.length - j) c') (.tail .head)).set (i := 2) (v := .int .i64 g.next) (.tail .head)
          have ns := m5.nes; simp only [NeL, NeFrom, and_true, true_and] at ns
          refine bodyPost_ret (v := .tuple #[.agg #[.int .i64 (g.first + (j : Nat)), .slice b' (g.queue.length - j) c', .int .i64 g.next], .int .i64 0]) (by simp [results, Try.results14, go_sem, es, ns]) rfl ?_
          by_cases hf : g.first < n
          · have hjn : j = (n - g.first).toNat := by omega
            have e1 : g.ack1 n = (0, ⟨g.first + (j : Nat), g.queue.drop j, g.next⟩) := by rw [GateM.ack1_go HR.out hf, ← hjn]; congr 2; omega
            have := GateR.of (h := ⟨g.first + (j : Nat), g.queue.drop j, g.next⟩) (b := b') (c := c') (with1_good HK.out e1) m6.drop.drop.drop hle ⟨_, rfl, by simpa using hs6⟩
            simpa using this
          · have hj1 : j = 0 := by omega
            subst hj1
            have e1 : g.ack1 n = (0, g) := GateM.ack1_stay HR.out hf
            have := GateR.of (h := g) (f := g.first) (n := g.next) (b := b') (c := c') (with1_good HK.out e1) m6.drop.drop.drop hle ⟨_, rfl, by simpa using hs6⟩
            simpa using this
  · have hk1 : (g.chk != 0) = true := by simpa using hk
    have HK := Lib.hid hk; clear hk
    go_wp2_with fail
    refine bodyPost_ret (v := .tuple #[.agg #[.int .i64 0, .slice none 0 0, .int .i64 0], .int .i64 g.chk]) (by simp [results, Try.results14, go_sem, es]) rfl ?_
    exact GateR.zero (with1_err HK.out) (((m2.set .head).set .head).set .head).drop.drop

def OfferEnd (w0 : World) (H : Hp) (L : List (Nat × Obj)) (r : GateM × Int) (tk : Bool) (e : Ending) (w' : World) : Prop := OfferR w0 H L r tk e w'
theorem OfferR.of {w0 : World} {H H' : Hp} {L : List (Nat × Obj)} {r : GateM × Int} {tk tk' : Bool} {f n : Int} {b : Option Addr} {c : Nat} {w' : World} {h : GateM} {k : Int} (hr : r = (h, k)) (htk : tk = tk') (hm : Mem w0 H' L w') (hle : Hle H H') (hg : GateV H' (.agg #[.int .i64 f, .slice b h.queue.length c, .int .i64 n]) h) :
    OfferR w0 H L r tk (.returned (.tuple #[.agg #[.int .i64 f, .slice b h.queue.length c, .int .i64 n], .bool tk', .int .i64 k])) w' := by
  subst hr; subst htk
  exact ⟨f, b, c, n, H', rfl, hm, hle, hg⟩
theorem OfferR.zero {w0 : World} {H : Hp} {L : List (Nat × Obj)} {r : GateM × Int} {tk : Bool} {w' : World} {k : Int} (hr : r = (.zero, k)) (htk : tk = false) (hm : Mem w0 H L w') :
    OfferR w0 H L r tk (.returned (.tuple #[.agg #[.int .i64 0, .slice none 0 0, .int .i64 0], .bool false, .int .i64 k])) w' :=
  OfferR.of hr htk hm (Hle.refl _) (GateV.zero _)
theorem GateM.offer1_bad {g : GateM} {n : Int} {s : ByteArray} (h : isText s = false) : g.offer1 n s = (false, 4, g) := by unfold GateM.offer1; rw [if_pos h]
theorem GateM.offer1_range {g : GateM} {n : Int} {s : ByteArray} (h : isText s = true) (h2 : n < 0 ∨ g.next < n ∨ 999999999 < n) : g.offer1 n s = (false, 3, g) := by unfold GateM.offer1; rw [if_neg (by simp [h]), if_pos h2]
theorem GateM.offer1_old {g : GateM} {n : Int} {s : ByteArray} (h : isText s = true) (h2 : ¬ (n < 0 ∨ g.next < n ∨ 999999999 < n)) (h3 : n < g.next) : g.offer1 n s = (false, 0, g) := by unfold GateM.offer1; rw [if_neg (by simp [h]), if_neg h2, if_pos h3]
theorem GateM.offer1_new {g : GateM} {n : Int} {s : ByteArray} (h : isText s = true) (h2 : ¬ (n < 0 ∨ g.next < n ∨ 999999999 < n)) (h3 : ¬ n < g.next) : g.offer1 n s = (true, 0, { g with next := g.next + 1 }) := by unfold GateM.offer1; rw [if_neg (by simp [h]), if_neg h2, if_neg h3]

set_option maxHeartbeats 2000000 in
theorem ROffer_any (v : Value) (g : GateM) (n : Int) (s : ByteArray) {w0 w : World} {H : Hp} {L : List (Nat × Obj)} (m : Mem w0 H L w) (hv : GateV H v g) (hn : I64 n) (hs : s.size ≤ maxLen) :
    Calls Try.prog 17 #[v, .int .i64 n, .string s] w (OfferR w0 H L (g.with1 (g.offer1 n s).2) (OfferTk g n s)) := by
  obtain ⟨q, rfl, hq⟩ := hv
  have HQ := Lib.hid hq
  obtain ⟨qb, qc, rfl⟩ := GateV.slice hq
  clear hq
  go_enter Try.func17, Try.ntmps17
  go_wp2_with fail
  have m1 := (m.alloc (.cells #[.int .i64 g.first, .slice qb g.queue.length qc, .int .i64 g.next] 24)).alloc (.cells #[.int .i64 0, .slice none 0 0, .int .i64 0] 24)
  simp only [World.size_alloc] at m1
  refine (RCheck_any _ g m1 ⟨_, rfl, HQ.out⟩).mono ?_
  rintro e w1 ⟨rfl, m2⟩
  have es := m2.eqs; simp only [EqsL, and_true] at es
  by_cases hk : g.chk = 0
  · have hk1 : (g.chk != 0) = false := by simpa using hk
    have HK := Lib.hid hk; clear hk
    obtain ⟨s1, s2, s3, s4, s5⟩ := GateM.small_of HK.out
    cases ht : isText s
    · have HT := Lib.hid ht; clear ht
      go_wp2_with (go_at_call 40; refine (IsText_any _ hs _).mono ?_; rintro e w' ⟨rfl, rfl⟩; rw [HT.out])
      refine bodyPost_ret (v := .tuple #[.agg #[.int .i64 0, .slice none 0 0, .int .i64 0], .bool false, .int .i64 4]) (by simp [results, Try.results17, go_sem, es]) rfl ?_
      exact OfferR.zero (with1_bad HK.out (by rw [GateM.offer1_bad HT.out]) (by decide)) (by unfold OfferTk; rw [GateM.offer1_bad HT.out]; simp) (((m2.set .head).set .head).set .head).drop.drop
    · have HT := Lib.hid ht; clear ht
      by_cases hr : n < 0 ∨ g.next < n ∨ 999999999 < n
      · have HR := Lib.hid hr
        go_wp2_with (go_at_call 40; refine (IsText_any _ hs _).mono ?_; rintro e w' ⟨rfl, rfl⟩; rw [HT.out])
        all_goals
          refine bodyPost_ret (v := .tuple #[.agg #[.int .i64 0, .slice none 0 0, .int .i64 0], .bool false, .int .i64 3]) (by simp [results, Try.results17, go_sem, es]) rfl ?_
          exact OfferR.zero (with1_bad HK.out (by rw [GateM.offer1_range HT.out HR.out]) (by decide)) (by unfold OfferTk; rw [GateM.offer1_range HT.out HR.out]; simp) (((m2.set .head).set .head).set .head).drop.drop
      · have hr1 : 0 ≤ n ∧ n ≤ g.next ∧ n ≤ 999999999 := by omega
        obtain ⟨hr1, hr2, hr3⟩ := hr1
        have HR := Lib.hid hr; clear hr
        go_wp2_with (go_at_call 40; refine (IsText_any _ hs _).mono ?_; rintro e w' ⟨rfl, rfl⟩; rw [HT.out])
        refine (Copy_any _ g m2 ⟨_, rfl, HQ.out⟩ (by omega)).mono ?_
        rintro e w2 hcopy
        obtain ⟨b, c, H2, rfl, m3, hle, hg⟩ := hcopy.done
        have HG := Lib.hid hg; clear hg
        have m4 := m3.alloc (.cells #[.int .i64 g.first, .slice b g.queue.length c, .int .i64 g.next] 24)
        clear es hcopy
        have es := m3.eqs; simp only [EqsL, and_true] at es
        have ns := m4.nes; simp only [NeL, NeFrom, and_true, true_and] at ns
        by_cases hf : n < g.next
        · go_wp2_with fail
          refine bodyPost_ret (v := .tuple #[.agg #[.int .i64 g.first, .slice b g.queue.length c, .int .i64 g.next], .bool false, .int .i64 0]) (by simp [results, Try.results17, go_sem, es, ns]) rfl ?_
          exact OfferR.of (h := g) (with1_good HK.out (by rw [GateM.offer1_old HT.out HR.out hf])) (by unfold OfferTk; rw [GateM.offer1_old HT.out HR.out hf]; simp) ((((m3.set .head).set .head).set .head).alloc _).drop.drop.drop hle HG.out
        · go_wp2_with fail
          refine bodyPost_ret (v := .tuple #[.agg #[.int .i64 g.first, .slice b g.queue.length c, .int .i64 (g.next + 1)], .bool true, .int .i64 0]) (by simp [results, Try.results17, go_sem, es, ns]) rfl ?_
          obtain ⟨_, hv2, hs2⟩ := HG.out
          cases hv2
          exact OfferR.of (h := { g with next := g.next + 1 }) (with1_good HK.out (by rw [GateM.offer1_new HT.out HR.out (by omega)])) (by unfold OfferTk; rw [GateM.offer1_new HT.out HR.out (by omega), HK.out]; rfl) ((((m3.set .head).set .head).set .head).alloc _).drop.drop.drop hle ⟨_, rfl, hs2⟩
  · have hk1 : (g.chk != 0) = true := by simpa using hk
    have HK := Lib.hid hk; clear hk
    go_wp2_with fail
    refine bodyPost_ret (v := .tuple #[.agg #[.int .i64 0, .slice none 0 0, .int .i64 0], .bool false, .int .i64 g.chk]) (by simp [results, Try.results17, go_sem, es]) rfl ?_
    exact OfferR.zero (with1_err HK.out) (by unfold OfferTk; rw [decide_eq_false HK.out]; rfl) (((m2.set .head).set .head).set .head).drop.drop
end Go.Proofs.Ytpkcdkbbhiafnaa
