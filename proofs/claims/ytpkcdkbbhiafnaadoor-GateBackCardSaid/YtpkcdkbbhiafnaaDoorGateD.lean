/- The walks: the methods of a gate: next, put, ack, offer. -/
import Derived.Test.YtpkcdkbbhiafnaaDoorGateC
namespace Go.Proofs.YtpkcdkbbhiafnaaDoor
set_option linter.unusedVariables false
set_option linter.unusedSimpArgs false
open Go.RowKit
attribute [local go_sem high] run_slice_lV

theorem GateOwn.mem {w0 : World} {H : Hp} {L : List (Nat × Obj)} {b : Nat} {g : GateM} {w : World} (h : GateOwn w0 H L b g w) : Mem w0 H L w := by
  obtain ⟨q, cs, h1, h2⟩ := h
  exact h1.mem.drop

set_option maxHeartbeats 400000 in
theorem next_any (b : Nat) (g : GateM) {w0 w : World} {H : Hp} {L : List (Nat × Obj)} (h : GateOwn w0 H L b g w) (hs : g.small) :
    Calls Tryd.prog 44 #[.pointer (some ⟨b, 0, none⟩)] w fun e w' => e = .returned (.int .i64 (g.first + g.queue.length)) ∧ ∃ n, w' = w.drewN n := by
  obtain ⟨q, cs, hacc, hch⟩ := h
  obtain ⟨qb, qc, rfl, hq1, hq2⟩ := hacc.shape
  obtain ⟨hs1, hs2, hs3, hs4, hs5⟩ := hs
  have hq2 := size_le_maxLen hq2
  have es := hacc.mem.eqs; simp only [EqsL, and_true] at es
  have HA := Lib.hid hacc; clear hacc hch
  go_enter Tryd.func44, Tryd.ntmps44
  go_wp2
  go_quiet (fail)
  go_wp2
  go_ret
  exact ⟨ret_int (by simp), _, rfl⟩

theorem inAll_one (lo hi n : Int) : inAll lo hi [n] = decide (lo ≤ n ∧ n ≤ hi) := by simp [inAll]

/-- A gate at block b: its cells, what it owns besides (L0), the way back, and the queue as it reads when nobody writes it any more. -/
theorem GateOwn.opened {w0 : World} {H : Hp} {L : List (Nat × Obj)} {b : Nat} {g : GateM} {w : World} (h : GateOwn w0 H L b g w) :
    ∃ qb qc L0, Mem w0 H ((b, .cells #[.int .i64 g.first, .slice qb g.queue.length qc, .int .i64 g.next] 49) :: (L0 ++ L)) w ∧ g.queue.length ≤ qc ∧ qc ≤ maxLen ∧
      (∀ (H' : Hp) (f n : Int) (L' : List (Nat × Obj)) (w' : World), Hle H H' → Mem w0 H' ((b, .cells #[.int .i64 f, .slice qb g.queue.length qc, .int .i64 n] 49) :: (L0 ++ L')) w' → GateOwn w0 H' L' b ⟨f, g.queue, n⟩ w') ∧
      (∀ (H' : Hp) (p' : Nat × Obj) (L' : List (Nat × Obj)) (w' : World), Hle H H' → Mem w0 H' (p' :: (L0 ++ L')) w' → ∃ H'', Mem w0 H'' (p' :: L') w' ∧ Hle H' H'' ∧ SlR encStr H'' (.slice qb g.queue.length qc) g.queue) := by
  obtain ⟨q, cs, hacc, hch⟩ := h
  obtain ⟨qb, qc, rfl, hq1, hq2⟩ := hacc.shape
  obtain ⟨L0, m, hb⟩ := hacc.opened
  exact ⟨qb, qc, L0, m, hq1, hq2, fun H' f n L' w' hle m' => ⟨_, cs, hb H' _ L' w' m', hch.mono hle⟩, fun H' p' L' w' hle m' => (hb H' p' L' w' m').done (hch.mono hle) rfl rfl⟩

set_option maxHeartbeats 400000 in
theorem ack_any (b : Nat) (g : GateM) (n : Int) {w0 w : World} {H : Hp} {L : List (Nat × Obj)} (h : GateOwn w0 H L b g w) (hs : g.small) (hn : I64 n) :
    Calls Tryd.prog 36 #[.pointer (some ⟨b, 0, none⟩), .int .i64 n] w fun e w' => e = .returned (.int .i64 (g.ack1 n).1) ∧ GateOwn w0 H L b (g.ack1 n).2 w' := by
  have HO := Lib.hid h
  have HS := Lib.hid hs
  obtain ⟨qb, qc, L0, m, hq1, hq2, back, froz⟩ := h.opened
  obtain ⟨hs1, hs2, hs3, hs4, hs5⟩ := hs
  have hq2 := size_le_maxLen hq2
  have BACK := Lib.hid back; clear back
  have FROZ := Lib.hid froz; clear froz
  go_enter Tryd.func36, Tryd.ntmps36
  go_wp2_with fail
  refine (next_any b g HO.out HS.out).mono ?_
  rintro e w1 ⟨rfl, k, rfl⟩
  have m := m.drewN k
  have es := m.eqs; simp only [EqsL, and_true] at es
  go_wp2_with fail
  obtain ⟨H1, m1, hle, hsl⟩ := Mem.lit (E := encInt) (ys := [n]) (m.alloc (.cells #[.int .i64 n] 3)) (ints_chunks (xs := [n]) (by simpa using hn)) (by simp [maxLen])
  simp only [World.size_alloc, World.heap_drewN, List.length_cons, List.length_nil, Nat.zero_add, Nat.reduceAdd] at hsl
  refine (within_any _ [n] _ _ m1 hsl).mono ?_
  rintro e w1 ⟨rfl, m2⟩
  have m2 := m2.weaken hle
  clear hsl hle m1 es
  rw [inAll_one]
  have es := m2.eqs; simp only [EqsL, and_true] at es
  by_cases hr : 0 ≤ n ∧ n ≤ g.first + g.queue.length
  · rw [decide_eq_true hr]
    by_cases hf : g.first < n
    · have hf1 : g.first ≤ n := by omega
      have hf2 : n - g.first ≤ g.queue.length := by omega
      go_wp2_with fail
      all_goals
        obtain ⟨H2, m3, hle3, hsl3⟩ := FROZ.out _ _ _ _ (Hle.refl _) m2
        have hs4 := hsl3.sliced (i := (n - g.first).toNat) (j := g.queue.length) (by omega) (by omega)
        rw [show (g.queue.drop (n - g.first).toNat).take (g.queue.length - (n - g.first).toNat) = g.queue.drop (n - g.first).toNat from List.take_of_length_le (by simp)] at hs4
        refine (Clone_any _ _ m3 hs4 (by simp; omega)).mono ?_
        rintro e w4 ⟨b', c', cs, rfl, hacc, hch⟩
        have HA := Lib.hid hacc; clear hacc
        have HC := Lib.hid hch; clear hch
        clear hsl3 hs4 es
        have es := HA.out.mem.eqs; simp only [EqsL, and_true] at es
        go_wp2_with fail
        go_ret
        rw [show g.ack1 n = (0, { g with first := n, queue := g.queue.drop (n - g.first).toNat }) by unfold GateM.ack1; rw [if_neg (by omega), if_pos hf]]
        refine ⟨rfl, .slice b' (g.queue.drop (n - g.first).toNat).length c', cs, ?_, HC.out.anyH⟩
        have := ((HA.out.set (i := 0) (u := .int .i64 n) .head).set (i := 1) (u := .slice b' (g.queue.drop (n - g.first).toNat).length c') .head).weaken hle3
        simpa using this
    · go_wp2_with fail
      go_ret
      rw [show g.ack1 n = (0, g) by unfold GateM.ack1; rw [if_neg (by omega), if_neg (by omega)]]
      exact ⟨rfl, BACK.out _ _ _ _ _ (Hle.refl _) m2⟩
  · rw [decide_eq_false hr]
    have HR := Lib.hid hr; clear hr
    go_wp2_with fail
    go_ret
    rw [show g.ack1 n = (3, g) by unfold GateM.ack1; rw [if_pos (by have := HR.out; omega)]]
    exact ⟨rfl, BACK.out _ _ _ _ _ (Hle.refl _) m2⟩

set_option maxHeartbeats 400000 in
theorem put_any (b : Nat) (g : GateM) (s : ByteArray) {w0 w : World} {H : Hp} {L : List (Nat × Obj)} (h : GateOwn w0 H L b g w) (hs : g.small) (hn : s.size ≤ maxLen) :
    Calls Tryd.prog 27 #[.pointer (some ⟨b, 0, none⟩), .string s] w fun e w' => e = .returned (.int .i64 (g.put1 s).1) ∧ GateOwn w0 H L b (g.put1 s).2 w' := by
  have HO := Lib.hid h
  have HS := Lib.hid hs
  obtain ⟨q, cs, hacc, hch⟩ := h
  obtain ⟨qb, qc, rfl, hq1, hq2⟩ := hacc.shape
  obtain ⟨hs1, hs2, hs3, hs4, hs5⟩ := hs
  have hq2 := size_le_maxLen hq2
  have HA := Lib.hid hacc; clear hacc
  have HC := Lib.hid hch; clear hch
  have es := HA.out.mem.eqs; simp only [EqsL, and_true] at es
  cases ht : isText s
  · have HT := Lib.hid ht; clear ht
    go_enter Tryd.func27, Tryd.ntmps27
    go_wp2_with (go_at_call 40; refine (isNoText_any _ hn _).mono ?_; rintro e w' ⟨rfl, rfl⟩; rw [HT.out])
    go_ret
    rw [show g.put1 s = (4, g) by unfold GateM.put1; rw [if_pos HT.out]]
    exact ⟨rfl, HO.out⟩
  · have HT := Lib.hid ht; clear ht
    by_cases hl : g.queue.length = 64
    · have hl1 : ((g.queue.length : Int) == 64) = true := by simp [hl]
      have HL := Lib.hid hl; clear hl
      go_enter Tryd.func27, Tryd.ntmps27
      go_wp2_with (go_at_call 40; refine (isNoText_any _ hn _).mono ?_; rintro e w' ⟨rfl, rfl⟩; rw [HT.out])
      go_ret
      rw [show g.put1 s = (8, g) by unfold GateM.put1; rw [if_neg (by simp [HT.out]), if_pos HL.out]]
      exact ⟨rfl, HO.out⟩
    · have hl1 : ((g.queue.length : Int) == 64) = false := by simp; omega
      have HL := Lib.hid hl; clear hl
      go_enter Tryd.func27, Tryd.ntmps27
      go_wp2_with (go_at_call 40; refine (isNoText_any _ hn _).mono ?_; rintro e w' ⟨rfl, rfl⟩; rw [HT.out])
      refine (next_any b g HO.out HS.out).mono ?_
      rintro e w1 ⟨rfl, k, rfl⟩
      have HA := Lib.hid (HA.out.drewN k)
      clear es
      have es := HA.out.mem.eqs; simp only [EqsL, and_true] at es
      by_cases hb : 1000000000 < g.first + g.queue.length
      · go_wp2_with fail
        go_ret
        rw [show g.put1 s = (3, g) by unfold GateM.put1; rw [if_neg (by simp [HT.out]), if_neg HL.out, if_pos (by omega)]]
        exact ⟨rfl, _, _, HA.out, HC.out⟩
      · go_wp2_with (at_builtin; refine wpList_append_mem (w0 := w0) (H := H) (L := (w.heap.size, .cells #[.string s] 9) :: (b, .cells #[.int .i64 g.first, .slice qb g.queue.length qc, .int .i64 g.next] 49) :: L) rfl _ _ 25 rfl 9 1 16 (.string ByteArray.empty) Tryd.underlying25 (by kernel_rfl) rfl (by decide) _ g.queue.length cs ?hacc rfl _ 1 [.string s] ?hsrc rfl rfl ?h1 ?hb ?h63 ?_)
        case hacc => exact HA.out.alloc (.cells #[.string s] 9)
        case hsrc => exact .inr ⟨_, _, rfl, cell_one_new _ _ _⟩
        case h1 => simp [Value.oneCell']
        case hb => omega
        case h63 => unfold maxLen; omega
        intro v' w' hacc
        obtain ⟨b', c', rfl, _, _⟩ := hacc.shape
        have HA := Lib.hid hacc.drop; clear hacc
        clear es
        have es := HA.out.mem.eqs; simp only [EqsL, and_true] at es
        go_wp2_with fail
        go_ret
        rw [show g.put1 s = (0, { g with queue := g.queue ++ [s] }) by unfold GateM.put1; rw [if_neg (by simp [HT.out]), if_neg HL.out, if_neg (by omega)]]
        refine ⟨rfl, .slice b' (g.queue.length + 1) c', cs ++ [.string s], ?_, HC.out.append (.one ⟨rfl, hn⟩ rfl)⟩
        have := HA.out.set (i := 1) (u := .slice b' (g.queue.length + 1) c') .head
        simpa using this
end Go.Proofs.YtpkcdkbbhiafnaaDoor
