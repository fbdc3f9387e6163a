/- The walks: offer; the closures; changed. -/
import Derived.Test.YtpkcdkbbhiafnaaDoorGateD
namespace Go.Proofs.YtpkcdkbbhiafnaaDoor
set_option linter.unusedVariables false
set_option linter.unusedSimpArgs false
open Go.RowKit

theorem GateM.eta (g : GateM) : (⟨g.first, g.queue, g.next⟩ : GateM) = g := by cases g; rfl

set_option maxHeartbeats 1000000 in
theorem offer_any (b : Nat) (g : GateM) (n : Int) (s : ByteArray) {w0 w : World} {H : Hp} {L : List (Nat × Obj)} (h : GateOwn w0 H L b g w) (hs : g.small) (hs2 : s.size ≤ maxLen) (hn : I64 n) :
    Calls Tryd.prog 29 #[.pointer (some ⟨b, 0, none⟩), .int .i64 n, .string s] w fun e w' => e = .returned (.tuple #[.bool (g.offer1 n s).1, .int .i64 (g.offer1 n s).2.1]) ∧ GateOwn w0 H L b (g.offer1 n s).2.2 w' := by
  have HO := Lib.hid h
  obtain ⟨qb, qc, L0, m, hq1, hq2, back, _⟩ := h.opened
  obtain ⟨hs1, _, hs3, hs4, hs5⟩ := hs
  have hq2 := size_le_maxLen hq2
  have BACK := Lib.hid back; clear back
  have es := m.eqs; simp only [EqsL, and_true] at es
  cases ht : isText s
  · have HT := Lib.hid ht; clear ht
    go_enter Tryd.func29, Tryd.ntmps29
    go_wp2_with (go_at_call 40; refine (isNoText_any _ hs2 _).mono ?_; rintro e w' ⟨rfl, rfl⟩; rw [HT.out])
    go_ret2
    rw [show g.offer1 n s = (false, 4, g) by unfold GateM.offer1; rw [if_pos HT.out]]
    exact ⟨rfl, HO.out⟩
  · have HT := Lib.hid ht; clear ht
    by_cases hmin : g.next ≤ 999999999
    · go_enter Tryd.func29, Tryd.ntmps29
      go_wp2_with (go_at_call 40; refine (isNoText_any _ hs2 _).mono ?_; rintro e w' ⟨rfl, rfl⟩; rw [HT.out])
      obtain ⟨H1, m1, hle, hsl⟩ := Mem.lit (E := encInt) (ys := [n]) (m.alloc (.cells #[.int .i64 n] 3)) (ints_chunks (xs := [n]) (by simpa using hn)) (by simp [maxLen])
      simp only [List.length_cons, List.length_nil, Nat.zero_add, Nat.reduceAdd] at hsl
      refine (within_any _ [n] 0 (g.next) m1 hsl).mono ?_
      rintro e w1 ⟨rfl, m2⟩
      have m2 := m2.weaken hle
      clear hsl hle m1 es
      rw [inAll_one]
      have es := m2.eqs; simp only [EqsL, and_true] at es
      by_cases hr : 0 ≤ n ∧ n ≤ g.next
      · rw [decide_eq_true hr]
        by_cases hf : n < g.next
        · go_wp2_with fail
          go_ret2
          rw [show g.offer1 n s = (false, 0, g) by unfold GateM.offer1; rw [if_neg (by simp [HT.out]), if_neg (by omega), if_pos hf]]
          exact ⟨rfl, BACK.out _ _ _ _ _ (Hle.refl _) m2⟩
        · go_wp2_with fail
          go_ret2
          rw [show g.offer1 n s = (true, 0, { g with next := g.next + 1 }) by unfold GateM.offer1; rw [if_neg (by simp [HT.out]), if_neg (by omega), if_neg (by omega)]]
          have := m2.set (i := 2) (v := .int .i64 (g.next + 1)) .head
          exact ⟨rfl, BACK.out _ _ _ _ _ (Hle.refl _) (by simpa using this)⟩
      · rw [decide_eq_false hr]
        have HR := Lib.hid hr; clear hr
        go_wp2_with fail
        go_ret2
        rw [show g.offer1 n s = (false, 3, g) by unfold GateM.offer1; rw [if_neg (by simp [HT.out]), if_pos (by have := HR.out; omega)]]
        exact ⟨rfl, BACK.out _ _ _ _ _ (Hle.refl _) m2⟩
    · go_enter Tryd.func29, Tryd.ntmps29
      go_wp2_with (go_at_call 40; refine (isNoText_any _ hs2 _).mono ?_; rintro e w' ⟨rfl, rfl⟩; rw [HT.out])
      obtain ⟨H1, m1, hle, hsl⟩ := Mem.lit (E := encInt) (ys := [n]) (m.alloc (.cells #[.int .i64 n] 3)) (ints_chunks (xs := [n]) (by simpa using hn)) (by simp [maxLen])
      simp only [List.length_cons, List.length_nil, Nat.zero_add, Nat.reduceAdd] at hsl
      refine (within_any _ [n] 0 (999999999) m1 hsl).mono ?_
      rintro e w1 ⟨rfl, m2⟩
      have m2 := m2.weaken hle
      clear hsl hle m1 es
      rw [inAll_one]
      have es := m2.eqs; simp only [EqsL, and_true] at es
      by_cases hr : 0 ≤ n ∧ n ≤ 999999999
      · rw [decide_eq_true hr]
        have hf : n < g.next := by omega
        go_wp2_with fail
        go_ret2
        rw [show g.offer1 n s = (false, 0, g) by unfold GateM.offer1; rw [if_neg (by simp [HT.out]), if_neg (by omega), if_pos hf]]
        exact ⟨rfl, BACK.out _ _ _ _ _ (Hle.refl _) m2⟩
      · rw [decide_eq_false hr]
        have HR := Lib.hid hr; clear hr
        go_wp2_with fail
        go_ret2
        rw [show g.offer1 n s = (false, 3, g) by unfold GateM.offer1; rw [if_neg (by simp [HT.out]), if_pos (by have := HR.out; omega)]]
        exact ⟨rfl, BACK.out _ _ _ _ _ (Hle.refl _) m2⟩

/-- The closures: what they do to the gate at b, beside X. -/
def DoR (w0 : World) (H : Hp) (L : List (Nat × Obj)) (b : Nat) (r : Int × GateM) (e : Ending) (w' : World) : Prop := e = .returned (.int .i64 r.1) ∧ GateOwn w0 H L b r.2 w'

theorem loc_cell {w0 w : World} {H : Hp} {L : List (Nat × Obj)} (m : Mem w0 H L w) {k : Nat} {v : Value} {t : TypeId} (h : (k, Obj.cells #[v] t (0, 0)) ∈ L) : w.cell? ⟨k, 0, none⟩ = some v := by
  rw [cell_of_heap (m.loc _ h).1]; rfl

theorem Ack1_any (b bn : Nat) (g : GateM) (n : Int) {w0 w : World} {H : Hp} {L : List (Nat × Obj)} (h : GateOwn w0 H L b g w) (hs : g.small) (hn : I64 n) (hL : (bn, Obj.cells #[.int .i64 n] 3 (0, 0)) ∈ L) :
    Calls Tryd.prog 35 #[.pointer (some ⟨b, 0, none⟩), .pointer (some ⟨bn, 0, none⟩)] w (DoR w0 H L b (g.ack1 n)) := by
  have hc := loc_cell h.mem hL
  have HO := Lib.hid h
  go_enter Tryd.func35, Tryd.ntmps35
  go_wp2_with fail
  refine (ack_any b g n HO.out hs hn).mono ?_
  rintro e w1 ⟨rfl, hg⟩
  have HG := Lib.hid hg; clear hg hc
  go_wp2_with fail
  go_ret
  exact ⟨rfl, HG.out⟩
theorem Put1_any (b bn : Nat) (g : GateM) (s : ByteArray) {w0 w : World} {H : Hp} {L : List (Nat × Obj)} (h : GateOwn w0 H L b g w) (hs : g.small) (hn : s.size ≤ maxLen) (hL : (bn, Obj.cells #[.string s] 9 (0, 0)) ∈ L) :
    Calls Tryd.prog 33 #[.pointer (some ⟨b, 0, none⟩), .pointer (some ⟨bn, 0, none⟩)] w (DoR w0 H L b (g.put1 s)) := by
  have hc := loc_cell h.mem hL
  have HO := Lib.hid h
  go_enter Tryd.func33, Tryd.ntmps33
  go_wp2_with fail
  refine (put_any b g s HO.out hs hn).mono ?_
  rintro e w1 ⟨rfl, hg⟩
  have HG := Lib.hid hg; clear hg hc
  go_wp2_with fail
  go_ret
  exact ⟨rfl, HG.out⟩
end Go.Proofs.YtpkcdkbbhiafnaaDoor
