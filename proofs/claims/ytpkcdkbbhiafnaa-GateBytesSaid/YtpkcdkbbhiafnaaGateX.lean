/- The walks: the laws GateAcks, GatePuts, GateOffers, GateTakes, GateInputs. -/
import Derived.Test.YtpkcdkbbhiafnaaGateW
namespace Go.Proofs.Ytpkcdkbbhiafnaa
set_option linter.unusedVariables false
set_option linter.unusedSimpArgs false
open Go.RowKit

theorem GateM.eqv_refl (g : GateM) : g.eqv g = true := by unfold GateM.eqv; simp
/-- What each law does. -/
def Lawful (w0 : World) (H : Hp) (L : List (Nat × Obj)) (e : Ending) (w' : World) : Prop := e = .returned (.bool true) ∧ Mem w0 H L w'

set_option maxRecDepth 10000 in
set_option maxHeartbeats 2000000 in
theorem lawAcks (v : Value) (g : GateM) (x : Int) {w0 w : World} {H : Hp} {L : List (Nat × Obj)} (m : Mem w0 H L w) (hv : GateV H v g) (hb : I64 g.first ∧ I64 g.next) (hx : I64 x) :
    Calls Try.prog 3 #[v, .int .i64 x] w (Lawful w0 H L) := by
  obtain ⟨q, rfl, hq⟩ := hv
  have HQ := Lib.hid hq
  obtain ⟨qb, qc, rfl⟩ := GateV.slice hq
  clear hq
  go_enter Try.func3, Try.ntmps3
  go_wp2_with fail
  have m1 := m.alloc (.cells #[.int .i64 g.first, .slice qb g.queue.length qc, .int .i64 g.next] 24)
  refine (Thin_any _ g m1 ⟨_, rfl, HQ.out⟩).mono ?_
  rintro e w1 ⟨rfl, m2⟩
  by_cases ht : thinB g = true
  · have hlen : g.queue.length ≤ 70 := by unfold thinB at ht; simp at ht; exact ht.1
    rw [ht]
    have es := m2.eqs; simp only [EqsL, and_true] at es
    go_wp2_with fail
    refine (Copy_any _ g m2 ⟨_, rfl, HQ.out⟩ (by omega)).mono ?_
    rintro e w2 hR
    obtain ⟨b2, c2, H2, rfl, m3, hl2, hs2⟩ := CopyR.lit (f := g.first) (q := g.queue) (n := g.next) rfl hR
    clear hR
    go_wp2_with fail
    have m4 := m3.alloc (.cells #[.int .i64 g.first, .slice b2 g.queue.length c2, .int .i64 g.next] 24)
    refine (Ack_any _ g x m4 ⟨_, rfl, hs2⟩ hb hx).mono ?_
    rintro e w3 hR
    generalize hr : g.with1 (g.ack1 x) = r at *
    obtain ⟨⟨f, q, n⟩, k⟩ := r
    obtain ⟨b3, c3, H3, rfl, m5, hl3, hs3⟩ := GateR.lit rfl rfl hR
    clear hR es
    have es := m5.eqs; simp only [EqsL, and_true] at es
    go_wp2_with fail
    have m6 := m5.alloc (.cells #[.int .i64 f, .slice b3 q.length c3, .int .i64 n] 24)
    refine (RAck_any _ g x m6 ⟨_, rfl, (HQ.out.mono hl2).mono hl3⟩ hx).mono ?_
    rintro e w4 hR
    rw [hr] at hR
    obtain ⟨b4, c4, H4, rfl, m7, hl4, hs4⟩ := GateR.lit rfl rfl hR
    clear hR es hr
    have es := m7.eqs; simp only [EqsL, and_true] at es
    go_wp2_with fail
    have m8 := m7.alloc (.cells #[.int .i64 f, .slice b4 q.length c4, .int .i64 n] 24)
    refine (Same_any _ _ ⟨f, q, n⟩ ⟨f, q, n⟩ m8 ⟨_, rfl, hs3.mono hl4⟩ ⟨_, rfl, hs4⟩).mono ?_
    rintro e w5 ⟨rfl, m9⟩
    rw [GateM.eqv_refl]
    clear es
    have es := m9.eqs; simp only [EqsL, and_true] at es
    go_wp2_with fail
    refine (Same_any _ _ g g m9 ⟨_, rfl, (hs2.mono hl3).mono hl4⟩ ⟨_, rfl, ((HQ.out.mono hl2).mono hl3).mono hl4⟩).mono ?_
    rintro e w6 ⟨rfl, m10⟩
    rw [GateM.eqv_refl]
    go_wp2_with fail
    refine (awake_any m10).mono ?_
    rintro e w7 ⟨rfl, m11⟩
    go_wp2_with fail
    go_ret
    exact ⟨rfl, (m11.weaken ((hl2.trans hl3).trans hl4)).drop.drop.drop.drop⟩
  · have ht0 : thinB g = false := by simpa using ht
    rw [ht0]
    go_wp2_with fail
    refine (awake_any m2).mono ?_
    rintro e w2 ⟨rfl, m3⟩
    go_wp2_with fail
    go_ret
    exact ⟨rfl, m3.drop⟩
end Go.Proofs.Ytpkcdkbbhiafnaa
