/- The walks: the reference's functions: Put, Send, Ack, Offer, Take. -/
import Derived.Test.YtpkcdkbbhiafnaaGateH
import Derived.Deep.LoopGhost
namespace Go.Proofs.Ytpkcdkbbhiafnaa
set_option linter.unusedVariables false
set_option linter.unusedSimpArgs false
open Go.RowKit

theorem with1_put {g : GateM} {s : ByteArray} (h : g.chk = 0) : g.with1 (g.put1 s) = if (g.put1 s).1 ≠ 0 then (.zero, (g.put1 s).1) else ((g.put1 s).2, 0) := by
  unfold GateM.with1; rw [if_neg (by simpa using h)]
theorem with1_err {g : GateM} {r : Int × GateM} (h : g.chk ≠ 0) : g.with1 r = (.zero, g.chk) := by unfold GateM.with1; rw [if_pos h]
theorem with1_bad {g : GateM} {r : Int × GateM} {k : Int} {h' : GateM} (h : g.chk = 0) (hr : r = (k, h')) (hk : k ≠ 0) : g.with1 r = (.zero, k) := by
  unfold GateM.with1; rw [if_neg (by simpa using h), if_pos (by rw [hr]; exact hk), hr]
theorem with1_good {g : GateM} {r : Int × GateM} {h' : GateM} (h : g.chk = 0) (hr : r = (0, h')) : g.with1 r = (h', 0) := by
  unfold GateM.with1; rw [if_neg (by simpa using h), if_neg (by rw [hr]; simp), hr]
theorem GateR.of {w0 : World} {H H' : Hp} {L : List (Nat × Obj)} {r : GateM × Int} {f n : Int} {b : Option Addr} {c : Nat} {w' : World} {h : GateM} {k : Int} (hr : r = (h, k)) (hm : Mem w0 H' L w') (hle : Hle H H') (hg : GateV H' (.agg #[.int .i64 f, .slice b h.queue.length c, .int .i64 n]) h) :
    GateR w0 H L r (.returned (.tuple #[.agg #[.int .i64 f, .slice b h.queue.length c, .int .i64 n], .int .i64 k])) w' := by
  subst hr
  exact ⟨f, b, c, n, H', rfl, hm, hle, hg⟩
theorem GateR.zero {w0 : World} {H : Hp} {L : List (Nat × Obj)} {r : GateM × Int} {w' : World} {k : Int} (hr : r = (.zero, k)) (hm : Mem w0 H L w') :
    GateR w0 H L r (.returned (.tuple #[.agg #[.int .i64 0, .slice none 0 0, .int .i64 0], .int .i64 k])) w' :=
  GateR.of hr hm (Hle.refl _) (GateV.zero _)

theorem GateM.put1_bad {g : GateM} {s : ByteArray} (h : isText s = false) : g.put1 s = (4, g) := by unfold GateM.put1; rw [if_pos h]
theorem GateM.put1_full {g : GateM} {s : ByteArray} (h : isText s = true) (h2 : g.queue.length = 64) : g.put1 s = (8, g) := by unfold GateM.put1; rw [if_neg (by simp [h]), if_pos h2]
theorem GateM.put1_range {g : GateM} {s : ByteArray} (h : isText s = true) (h2 : ¬ g.queue.length = 64) (h3 : 1000000000 < g.first + g.queue.length) : g.put1 s = (3, g) := by unfold GateM.put1; rw [if_neg (by simp [h]), if_neg h2, if_pos h3]
theorem GateM.put1_ok {g : GateM} {s : ByteArray} (h : isText s = true) (h2 : ¬ g.queue.length = 64) (h3 : ¬ 1000000000 < g.first + g.queue.length) : g.put1 s = (0, { g with queue := g.queue ++ [s] }) := by unfold GateM.put1; rw [if_neg (by simp [h]), if_neg h2, if_neg h3]
theorem GateM.ack1_bad {g : GateM} {n : Int} (h : n < 0 ∨ g.first + g.queue.length < n) : g.ack1 n = (3, g) := by unfold GateM.ack1; rw [if_pos h]
theorem GateM.ack1_go {g : GateM} {n : Int} (h : ¬ (n < 0 ∨ g.first + g.queue.length < n)) (h2 : g.first < n) : g.ack1 n = (0, { g with first := n, queue := g.queue.drop (n - g.first).toNat }) := by unfold GateM.ack1; rw [if_neg h, if_pos h2]
theorem GateM.ack1_stay {g : GateM} {n : Int} (h : ¬ (n < 0 ∨ g.first + g.queue.length < n)) (h2 : ¬ g.first < n) : g.ack1 n = (0, g) := by unfold GateM.ack1; rw [if_neg h, if_neg h2]

set_option maxHeartbeats 2000000 in
theorem RPut_any (v : Value) (g : GateM) (s : ByteArray) {w0 w : World} {H : Hp} {L : List (Nat × Obj)} (m : Mem w0 H L w) (hv : GateV H v g) (hs : s.size ≤ maxLen) :
    Calls Try.prog 28 #[v, .string s] w (GateR w0 H L (g.with1 (g.put1 s))) := by
  obtain ⟨q, rfl, hq⟩ := hv
  have HQ := Lib.hid hq
  obtain ⟨qb, qc, rfl⟩ := GateV.slice hq
  clear hq
  go_enter Try.func28, Try.ntmps28
  go_wp2_with fail
  have m1 := (m.alloc (.cells #[.int .i64 g.first, .slice qb g.queue.length qc, .int .i64 g.next] 24)).alloc (.cells #[.int .i64 0, .slice none 0 0, .int .i64 0] 24)
  simp only [World.size_alloc] at m1
  refine (RCheck_any _ g m1 ⟨_, rfl, HQ.out⟩).mono ?_
  rintro e w1 ⟨rfl, m2⟩
  have es := m2.eqs; simp only [EqsL, and_true] at es
  by_cases hk : g.chk = 0
  · have hk1 : (g.chk != 0) = false := by simpa using hk
    have HK := Lib.hid hk; clear hk
    obtain ⟨s1, s2, s3, s4, s5⟩ := GateM.small_of HK.out
    cases ht : isText s
    · have HT := Lib.hid ht; clear ht
      go_wp2_with (go_at_call 40; refine (IsText_any _ hs _).mono ?_; rintro e w' ⟨rfl, rfl⟩; rw [HT.out])
      refine bodyPost_ret (v := .tuple #[.agg #[.int .i64 0, .slice none 0 0, .int .i64 0], .int .i64 (4)]) (by simp [results, Try.results28, go_sem, es]) rfl ?_
      exact GateR.zero (with1_bad HK.out (GateM.put1_bad HT.out) (by decide)) (((m2.set .head).set .head).set .head).drop.drop
    · have HT := Lib.hid ht; clear ht
      by_cases hl : g.queue.length = 64
      · have hl1 : ((g.queue.length : Int) == 64) = true := by simp [hl]
        have HL := Lib.hid hl; clear hl
        go_wp2_with (go_at_call 40; refine (IsText_any _ hs _).mono ?_; rintro e w' ⟨rfl, rfl⟩; rw [HT.out])
        refine bodyPost_ret (v := .tuple #[.agg #[.int .i64 0, .slice none 0 0, .int .i64 0], .int .i64 (8)]) (by simp [results, Try.results28, go_sem, es]) rfl ?_
        exact GateR.zero (with1_bad HK.out (GateM.put1_full HT.out HL.out) (by decide)) (((m2.set .head).set .head).set .head).drop.drop
      · have hl1 : ((g.queue.length : Int) == 64) = false := by simp; omega
        have HL := Lib.hid hl; clear hl
        by_cases hb : 1000000000 < g.first + g.queue.length
        · go_wp2_with (go_at_call 40; refine (IsText_any _ hs _).mono ?_; rintro e w' ⟨rfl, rfl⟩; rw [HT.out])
          refine bodyPost_ret (v := .tuple #[.agg #[.int .i64 0, .slice none 0 0, .int .i64 0], .int .i64 (3)]) (by simp [results, Try.results28, go_sem, es]) rfl ?_
          exact GateR.zero (with1_bad HK.out (GateM.put1_range HT.out HL.out (by omega)) (by decide)) (((m2.set .head).set .head).set .head).drop.drop
        · go_wp2_with (go_at_call 40; refine (IsText_any _ hs _).mono ?_; rintro e w' ⟨rfl, rfl⟩; rw [HT.out])
          refine (Copy_any _ g m2 ⟨_, rfl, HQ.out⟩ (by omega)).mono ?_
          rintro e w2 ⟨b, c, cs, rfl, hacc, hch⟩
          have HA := Lib.hid hacc; clear hacc
          have HC := Lib.hid hch; clear hch
          clear es
          have es := HA.out.mem.eqs; simp only [EqsL, and_true] at es
          go_wp2_with (at_builtin; refine wpList_append_mem (w0 := w0) (H := H) (L := (w2.heap.size + 1, .cells #[.string s] 9) :: (w2.heap.size, .cells #[.int .i64 g.first, .slice b g.queue.length c, .int .i64 g.next] 24) :: (w.heap.size + 1, .cells #[.int .i64 0, .slice none 0 0, .int .i64 0] 24) :: (w.heap.size, .cells #[.int .i64 g.first, .slice qb g.queue.length qc, .int .i64 g.next] 24) :: L) rfl _ _ 22 rfl 9 1 16 (.string ByteArray.empty) Try.underlying22 (by kernel_rfl) rfl (by decide) (.slice b g.queue.length c) g.queue.length cs ?hacc rfl _ 1 [.string s] ?hsrc rfl rfl ?h1 ?hb ?h63 ?_)
          case hacc => simpa using (HA.out.alloc (.cells #[.int .i64 g.first, .slice b g.queue.length c, .int .i64 g.next] 24)).alloc (.cells #[.string s] 9)
          case hsrc => exact Src.loc (e := 9) ((HA.out.mem.alloc (.cells #[.int .i64 g.first, .slice b g.queue.length c, .int .i64 g.next] 24)).alloc (.cells #[.string s] 9)) (by simp)
          case h1 => simp [Value.oneCell']
          case hb => omega
          case h63 => unfold maxLen; omega
          intro v' w' hacc
          obtain ⟨b', c', rfl, _, _⟩ := hacc.shape
          have HA3 := Lib.hid hacc.drop; clear hacc
          clear es
          have es := HA3.out.mem.eqs; simp only [EqsL, and_true] at es
          have ns := HA3.out.mem.nes; simp only [NeL, NeFrom, and_true, true_and] at ns
          go_wp2_with fail
          refine bodyPost_ret (v := .tuple #[.agg #[.int .i64 g.first, .slice b' (g.queue.length + 1) c', .int .i64 g.next], .int .i64 0]) (by simp [results, Try.results28, go_sem, es, ns]) rfl ?_
          clear es ns
          obtain ⟨H2, m3, hle, hsl⟩ := ((((HA3.out.set (i := 1) (u := .slice b' (g.queue.length + 1) c') .head).set (i := 0) (u := .int .i64 g.first) (.tail .head)).set (i := 1) (u := .slice b' (g.queue.length + 1) c') (.tail .head)).set (i := 2) (u := .int .i64 g.next) (.tail .head)).done (HC.out.append (.one (x := s) ⟨rfl, hs⟩ rfl)) rfl (by simp)
          have := GateR.of (h := { g with queue := g.queue ++ [s] }) (f := g.first) (n := g.next) (b := b') (c := c') (with1_good HK.out (GateM.put1_ok HT.out HL.out (by omega))) m3.drop.drop.drop hle ⟨_, rfl, by simpa using hsl⟩
          simpa using this
  · have hk1 : (g.chk != 0) = true := by simpa using hk
    have HK := Lib.hid hk; clear hk
    go_wp2_with fail
    refine bodyPost_ret (v := .tuple #[.agg #[.int .i64 0, .slice none 0 0, .int .i64 0], .int .i64 (g.chk)]) (by simp [results, Try.results28, go_sem, es]) rfl ?_
    exact GateR.zero (with1_err HK.out) (((m2.set .head).set .head).set .head).drop.drop

set_option maxHeartbeats 1000000 in
theorem RSend_any (v : Value) (g : GateM) {w0 w : World} {H : Hp} {L : List (Nat × Obj)} (m : Mem w0 H L w) (hv : GateV H v g) :
    Calls Try.prog 29 #[v] w (Ret w0 H L (.tuple #[.int .i64 g.send.1, .string g.send.2.1, .int .i64 g.send.2.2])) := by
  obtain ⟨q, rfl, hq⟩ := hv
  have HQ := Lib.hid hq
  obtain ⟨qb, qc, rfl⟩ := GateV.slice hq
  clear hq
  go_enter Try.func29, Try.ntmps29
  go_wp2_with fail
  have m1 := (m.alloc (.cells #[.int .i64 g.first, .slice qb g.queue.length qc, .int .i64 g.next] 24))
  refine (RCheck_any _ g m1 ⟨_, rfl, HQ.out⟩).mono ?_
  rintro e w1 ⟨rfl, m2⟩
  have es := m2.eqs; simp only [EqsL, and_true] at es
  by_cases hk : g.chk = 0
  · have hk1 : (g.chk != 0) = false := by simpa using hk
    have HK := Lib.hid hk; clear hk
    obtain ⟨s1, s2, s3, s4, s5⟩ := GateM.small_of HK.out
    have e0 : g.queue = [] ∨ ∃ s t, g.queue = s :: t := by cases g.queue <;> simp
    rcases e0 with e0 | ⟨s, t, e0⟩
    · have e1 : g.send = (0, ByteArray.empty, 7) := by unfold GateM.send; rw [if_neg (by simpa using HK.out), e0]
      have hl : ((g.queue.length : Int) == 0) = true := by simp [e0]
      have E1 := Lib.hid e1; clear e1 e0
      go_wp2_with fail
      go_ret3
      rw [E1.out]
      exact ⟨rfl, m2.drop⟩
    · have e1 : g.send = (g.first, s, 0) := by unfold GateM.send; rw [if_neg (by simpa using HK.out), e0]
      have hl : ((g.queue.length : Int) == 0) = false := by simp [e0]; omega
      have hlt : 0 < g.queue.length := by simp [e0]
      have hlt1 : (0 : Int) < (g.queue.length : Int) := by omega
      obtain ⟨blk, off, rfl, hcell, _⟩ := HQ.out.cellV hlt
      have hcell := hcell.cell m2
      rw [show g.queue[0] = s by simp [e0], Nat.add_zero] at hcell
      have E1 := Lib.hid e1; clear e1 e0
      go_wp2_with fail
      go_quiet (fail)
      go_wp2_with fail
      go_ret3
      rw [E1.out]
      exact ⟨rfl, m2.drop.drewN _⟩
  · have hk1 : (g.chk != 0) = true := by simpa using hk
    have HK := Lib.hid hk; clear hk
    go_wp2_with fail
    go_ret3
    have e1 : g.send = (0, ByteArray.empty, g.chk) := by unfold GateM.send; rw [if_pos HK.out]
    rw [e1]
    exact ⟨rfl, m2.drop⟩
end Go.Proofs.Ytpkcdkbbhiafnaa
