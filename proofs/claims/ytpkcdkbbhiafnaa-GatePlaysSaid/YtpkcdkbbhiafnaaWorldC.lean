/- The walks: the reference's Act, but for what is put out. -/
import Derived.Test.YtpkcdkbbhiafnaaWorldB
namespace Go.Proofs.Ytpkcdkbbhiafnaa
set_option linter.unusedVariables false
set_option linter.unusedSimpArgs false
open Go.RowKit

set_option maxRecDepth 10000 in
set_option maxHeartbeats 4000000 in
theorem act_send2 (qb : Option Addr) (qc : Nat) (sb : Option Addr) (sc : Nat) (nb : Option Addr) (nc : Nat) (ob : Option Addr) (oc : Nat) (p : PlayM) (n : Int) (s : ByteArray) (k : Nat) {w0 w : World} {H : Hp} {L : List (Nat × Obj)} (m : Mem w0 H L w) (hp : p.ok k) (hk : k ≤ 1000)
    (h1 : SlR encStr H (.slice qb p.gate.queue.length qc) p.gate.queue) (h2 : SlR encStr H (.slice sb p.saved.queue.length sc) p.saved.queue) (h3 : SlR encStr H (.slice nb p.since.length nc) p.since) (h4 : SlR encStr H (.slice ob p.out.length oc) p.out) :
    Calls Try.prog 44 #[.agg #[.int .i64 p.gate.first, .slice qb p.gate.queue.length qc, .int .i64 p.gate.next, .int .i64 p.saved.first, .slice sb p.saved.queue.length sc, .int .i64 p.saved.next, .slice nb p.since.length nc, .slice ob p.out.length oc], .agg #[.int .u8 2, .int .i64 n, .string s]] w (WorldR w0 H L (p.act ⟨2, n, s⟩).1 (p.act ⟨2, n, s⟩).2) := by
  have H1 := Lib.hid h1; clear h1
  have H2 := Lib.hid h2; clear h2
  have H3 := Lib.hid h3; clear h3
  have H4 := Lib.hid h4; clear h4
  have HP := Lib.hid hp; clear hp
  have m3 := ((m.alloc (.cells #[.int .i64 p.gate.first, .slice qb p.gate.queue.length qc, .int .i64 p.gate.next, .int .i64 p.saved.first, .slice sb p.saved.queue.length sc, .int .i64 p.saved.next, .slice nb p.since.length nc, .slice ob p.out.length oc] 78)).alloc (.cells #[.int .u8 2, .int .i64 n, .string s] 43)).alloc (.cells #[.int .i64 0, .slice none 0 0, .int .i64 0, .int .i64 0, .slice none 0 0, .int .i64 0, .slice none 0 0, .slice none 0 0] 78)
  simp only [World.size_alloc] at m3
  have hact : p.act ⟨2, n, s⟩ = p.send true := by unfold PlayM.act; rw [if_neg (show ¬ (2 : UInt8) = 1 by decide), if_pos rfl]
  rw [hact]; clear hact
  go_enter Try.func44, Try.ntmps44
  go_wp2_with fail
  refine (Sent_any qb qc sb sc nb nc ob oc p true k m3 HP.out hk H1.out H2.out H3.out H4.out).mono ?_
  rintro e w1 ⟨qb', qc', sb', sc', nb', nc', ob', oc', H5, rfl, m4, hl, s1, s2, s3, s4⟩
  have es := m4.eqs; simp only [EqsL, and_true] at es
  have ns := m4.nes; simp only [NeL, NeFrom, and_true, true_and] at ns
  generalize p.send true = r at *
  obtain ⟨k1, ⟨g1, o1, sv1, si1⟩⟩ := r
  simp only at *
  go_wp2_with fail
  refine bodyPost_ret (v := .tuple #[.agg #[.int .i64 g1.first, .slice qb' g1.queue.length qc', .int .i64 g1.next, .int .i64 sv1.first, .slice sb' sv1.queue.length sc', .int .i64 sv1.next, .slice nb' si1.length nc', .slice ob' o1.length oc'], .int .i64 k1]) (by simp [results, Try.results44, go_sem, es, ns]) rfl ?_
  exact ⟨qb', qc', sb', sc', nb', nc', ob', oc', H5, rfl, (m4.set8 .head).drop.drop.drop, hl, s1, s2, s3, s4⟩

set_option maxRecDepth 10000 in
set_option maxHeartbeats 4000000 in
theorem act_send4 (qb : Option Addr) (qc : Nat) (sb : Option Addr) (sc : Nat) (nb : Option Addr) (nc : Nat) (ob : Option Addr) (oc : Nat) (p : PlayM) (n : Int) (s : ByteArray) (k : Nat) {w0 w : World} {H : Hp} {L : List (Nat × Obj)} (m : Mem w0 H L w) (hp : p.ok k) (hk : k ≤ 1000)
    (h1 : SlR encStr H (.slice qb p.gate.queue.length qc) p.gate.queue) (h2 : SlR encStr H (.slice sb p.saved.queue.length sc) p.saved.queue) (h3 : SlR encStr H (.slice nb p.since.length nc) p.since) (h4 : SlR encStr H (.slice ob p.out.length oc) p.out) :
    Calls Try.prog 44 #[.agg #[.int .i64 p.gate.first, .slice qb p.gate.queue.length qc, .int .i64 p.gate.next, .int .i64 p.saved.first, .slice sb p.saved.queue.length sc, .int .i64 p.saved.next, .slice nb p.since.length nc, .slice ob p.out.length oc], .agg #[.int .u8 4, .int .i64 n, .string s]] w (WorldR w0 H L (p.act ⟨4, n, s⟩).1 (p.act ⟨4, n, s⟩).2) := by
  have H1 := Lib.hid h1; clear h1
  have H2 := Lib.hid h2; clear h2
  have H3 := Lib.hid h3; clear h3
  have H4 := Lib.hid h4; clear h4
  have HP := Lib.hid hp; clear hp
  have m3 := ((m.alloc (.cells #[.int .i64 p.gate.first, .slice qb p.gate.queue.length qc, .int .i64 p.gate.next, .int .i64 p.saved.first, .slice sb p.saved.queue.length sc, .int .i64 p.saved.next, .slice nb p.since.length nc, .slice ob p.out.length oc] 78)).alloc (.cells #[.int .u8 4, .int .i64 n, .string s] 43)).alloc (.cells #[.int .i64 0, .slice none 0 0, .int .i64 0, .int .i64 0, .slice none 0 0, .int .i64 0, .slice none 0 0, .slice none 0 0] 78)
  simp only [World.size_alloc] at m3
  have hact : p.act ⟨4, n, s⟩ = p.send false := by unfold PlayM.act; rw [if_neg (show ¬ (4 : UInt8) = 1 by decide), if_neg (show ¬ (4 : UInt8) = 2 by decide), if_neg (show ¬ (4 : UInt8) = 3 by decide), if_pos rfl]
  rw [hact]; clear hact
  go_enter Try.func44, Try.ntmps44
  go_wp2_with fail
  refine (Sent_any qb qc sb sc nb nc ob oc p false k m3 HP.out hk H1.out H2.out H3.out H4.out).mono ?_
  rintro e w1 ⟨qb', qc', sb', sc', nb', nc', ob', oc', H5, rfl, m4, hl, s1, s2, s3, s4⟩
  have es := m4.eqs; simp only [EqsL, and_true] at es
  have ns := m4.nes; simp only [NeL, NeFrom, and_true, true_and] at ns
  generalize p.send false = r at *
  obtain ⟨k1, ⟨g1, o1, sv1, si1⟩⟩ := r
  simp only at *
  go_wp2_with fail
  refine bodyPost_ret (v := .tuple #[.agg #[.int .i64 g1.first, .slice qb' g1.queue.length qc', .int .i64 g1.next, .int .i64 sv1.first, .slice sb' sv1.queue.length sc', .int .i64 sv1.next, .slice nb' si1.length nc', .slice ob' o1.length oc'], .int .i64 k1]) (by simp [results, Try.results44, go_sem, es, ns]) rfl ?_
  exact ⟨qb', qc', sb', sc', nb', nc', ob', oc', H5, rfl, (m4.set8 .head).drop.drop.drop, hl, s1, s2, s3, s4⟩

set_option maxRecDepth 10000 in
set_option maxHeartbeats 4000000 in
theorem act_lose (qb : Option Addr) (qc : Nat) (sb : Option Addr) (sc : Nat) (nb : Option Addr) (nc : Nat) (ob : Option Addr) (oc : Nat) (p : PlayM) (n : Int) (s : ByteArray) (k : Nat) {w0 w : World} {H : Hp} {L : List (Nat × Obj)} (m : Mem w0 H L w) (hp : p.ok k) (hk : k ≤ 1000)
    (h1 : SlR encStr H (.slice qb p.gate.queue.length qc) p.gate.queue) (h2 : SlR encStr H (.slice sb p.saved.queue.length sc) p.saved.queue) (h3 : SlR encStr H (.slice nb p.since.length nc) p.since) (h4 : SlR encStr H (.slice ob p.out.length oc) p.out) :
    Calls Try.prog 44 #[.agg #[.int .i64 p.gate.first, .slice qb p.gate.queue.length qc, .int .i64 p.gate.next, .int .i64 p.saved.first, .slice sb p.saved.queue.length sc, .int .i64 p.saved.next, .slice nb p.since.length nc, .slice ob p.out.length oc], .agg #[.int .u8 3, .int .i64 n, .string s]] w (WorldR w0 H L (p.act ⟨3, n, s⟩).1 (p.act ⟨3, n, s⟩).2) := by
  have H1 := Lib.hid h1; clear h1
  have H2 := Lib.hid h2; clear h2
  have H3 := Lib.hid h3; clear h3
  have H4 := Lib.hid h4; clear h4
  have HP := Lib.hid hp; clear hp
  have m3 := ((m.alloc (.cells #[.int .i64 p.gate.first, .slice qb p.gate.queue.length qc, .int .i64 p.gate.next, .int .i64 p.saved.first, .slice sb p.saved.queue.length sc, .int .i64 p.saved.next, .slice nb p.since.length nc, .slice ob p.out.length oc] 78)).alloc (.cells #[.int .u8 3, .int .i64 n, .string s] 43)).alloc (.cells #[.int .i64 0, .slice none 0 0, .int .i64 0, .int .i64 0, .slice none 0 0, .int .i64 0, .slice none 0 0, .slice none 0 0] 78)
  simp only [World.size_alloc] at m3
  have hact : p.act ⟨3, n, s⟩ = (0, p) := by unfold PlayM.act; rw [if_neg (show ¬ (3 : UInt8) = 1 by decide), if_neg (show ¬ (3 : UInt8) = 2 by decide), if_pos rfl]
  rw [hact]; clear hact
  have es := m3.eqs; simp only [EqsL, and_true] at es
  have ns := m3.nes; simp only [NeL, NeFrom, and_true, true_and] at ns
  go_enter Try.func44, Try.ntmps44
  go_wp2_with fail
  refine bodyPost_ret (v := .tuple #[.agg #[.int .i64 p.gate.first, .slice qb p.gate.queue.length qc, .int .i64 p.gate.next, .int .i64 p.saved.first, .slice sb p.saved.queue.length sc, .int .i64 p.saved.next, .slice nb p.since.length nc, .slice ob p.out.length oc], .int .i64 0]) (by simp [results, Try.results44, go_sem, es, ns]) rfl ?_
  exact ⟨qb, qc, sb, sc, nb, nc, ob, oc, H, rfl, (((m.alloc _).alloc _).alloc _).drop.drop.drop, Hle.refl _, H1.out, H2.out, H3.out, H4.out⟩

set_option maxRecDepth 10000 in
set_option maxHeartbeats 4000000 in
theorem act_crash (qb : Option Addr) (qc : Nat) (sb : Option Addr) (sc : Nat) (nb : Option Addr) (nc : Nat) (ob : Option Addr) (oc : Nat) (p : PlayM) (n : Int) (s : ByteArray) (k : Nat) {w0 w : World} {H : Hp} {L : List (Nat × Obj)} (m : Mem w0 H L w) (hp : p.ok k) (hk : k ≤ 1000)
    (h1 : SlR encStr H (.slice qb p.gate.queue.length qc) p.gate.queue) (h2 : SlR encStr H (.slice sb p.saved.queue.length sc) p.saved.queue) (h3 : SlR encStr H (.slice nb p.since.length nc) p.since) (h4 : SlR encStr H (.slice ob p.out.length oc) p.out) :
    Calls Try.prog 44 #[.agg #[.int .i64 p.gate.first, .slice qb p.gate.queue.length qc, .int .i64 p.gate.next, .int .i64 p.saved.first, .slice sb p.saved.queue.length sc, .int .i64 p.saved.next, .slice nb p.since.length nc, .slice ob p.out.length oc], .agg #[.int .u8 7, .int .i64 n, .string s]] w (WorldR w0 H L (p.act ⟨7, n, s⟩).1 (p.act ⟨7, n, s⟩).2) := by
  have H1 := Lib.hid h1; clear h1
  have H2 := Lib.hid h2; clear h2
  have H3 := Lib.hid h3; clear h3
  have H4 := Lib.hid h4; clear h4
  have HP := Lib.hid hp; clear hp
  have m3 := ((m.alloc (.cells #[.int .i64 p.gate.first, .slice qb p.gate.queue.length qc, .int .i64 p.gate.next, .int .i64 p.saved.first, .slice sb p.saved.queue.length sc, .int .i64 p.saved.next, .slice nb p.since.length nc, .slice ob p.out.length oc] 78)).alloc (.cells #[.int .u8 7, .int .i64 n, .string s] 43)).alloc (.cells #[.int .i64 0, .slice none 0 0, .int .i64 0, .int .i64 0, .slice none 0 0, .int .i64 0, .slice none 0 0, .slice none 0 0] 78)
  simp only [World.size_alloc] at m3
  have hact : p.act ⟨7, n, s⟩ = p.crash := by unfold PlayM.act; rw [if_neg (show ¬ (7 : UInt8) = 1 by decide), if_neg (show ¬ (7 : UInt8) = 2 by decide), if_neg (show ¬ (7 : UInt8) = 3 by decide), if_neg (show ¬ (7 : UInt8) = 4 by decide), if_neg (show ¬ (7 : UInt8) = 5 by decide), if_neg (show ¬ (7 : UInt8) = 6 by decide), if_pos rfl]
  rw [hact]; clear hact
  go_enter Try.func44, Try.ntmps44
  go_wp2_with fail
  refine (Crashed_any qb qc sb sc nb nc ob oc p k m3 HP.out hk H1.out H2.out H3.out H4.out).mono ?_
  rintro e w1 ⟨qb', qc', sb', sc', nb', nc', ob', oc', H5, rfl, m4, hl, s1, s2, s3, s4⟩
  have es := m4.eqs; simp only [EqsL, and_true] at es
  have ns := m4.nes; simp only [NeL, NeFrom, and_true, true_and] at ns
  generalize p.crash = r at *
  obtain ⟨k1, ⟨g1, o1, sv1, si1⟩⟩ := r
  simp only at *
  go_wp2_with fail
  refine bodyPost_ret (v := .tuple #[.agg #[.int .i64 g1.first, .slice qb' g1.queue.length qc', .int .i64 g1.next, .int .i64 sv1.first, .slice sb' sv1.queue.length sc', .int .i64 sv1.next, .slice nb' si1.length nc', .slice ob' o1.length oc'], .int .i64 k1]) (by simp [results, Try.results44, go_sem, es, ns]) rfl ?_
  exact ⟨qb', qc', sb', sc', nb', nc', ob', oc', H5, rfl, (m4.set8 .head).drop.drop.drop, hl, s1, s2, s3, s4⟩

set_option maxRecDepth 10000 in
set_option maxHeartbeats 4000000 in
theorem act_save (qb : Option Addr) (qc : Nat) (sb : Option Addr) (sc : Nat) (nb : Option Addr) (nc : Nat) (ob : Option Addr) (oc : Nat) (p : PlayM) (n : Int) (s : ByteArray) (k : Nat) {w0 w : World} {H : Hp} {L : List (Nat × Obj)} (m : Mem w0 H L w) (hp : p.ok k) (hk : k ≤ 1000)
    (h1 : SlR encStr H (.slice qb p.gate.queue.length qc) p.gate.queue) (h2 : SlR encStr H (.slice sb p.saved.queue.length sc) p.saved.queue) (h3 : SlR encStr H (.slice nb p.since.length nc) p.since) (h4 : SlR encStr H (.slice ob p.out.length oc) p.out) :
    Calls Try.prog 44 #[.agg #[.int .i64 p.gate.first, .slice qb p.gate.queue.length qc, .int .i64 p.gate.next, .int .i64 p.saved.first, .slice sb p.saved.queue.length sc, .int .i64 p.saved.next, .slice nb p.since.length nc, .slice ob p.out.length oc], .agg #[.int .u8 6, .int .i64 n, .string s]] w (WorldR w0 H L (p.act ⟨6, n, s⟩).1 (p.act ⟨6, n, s⟩).2) := by
  have H1 := Lib.hid h1; clear h1
  have H2 := Lib.hid h2; clear h2
  have H3 := Lib.hid h3; clear h3
  have H4 := Lib.hid h4; clear h4
  have HP := Lib.hid hp; clear hp
  have m3 := ((m.alloc (.cells #[.int .i64 p.gate.first, .slice qb p.gate.queue.length qc, .int .i64 p.gate.next, .int .i64 p.saved.first, .slice sb p.saved.queue.length sc, .int .i64 p.saved.next, .slice nb p.since.length nc, .slice ob p.out.length oc] 78)).alloc (.cells #[.int .u8 6, .int .i64 n, .string s] 43)).alloc (.cells #[.int .i64 0, .slice none 0 0, .int .i64 0, .int .i64 0, .slice none 0 0, .int .i64 0, .slice none 0 0, .slice none 0 0] 78)
  simp only [World.size_alloc] at m3
  have hact : p.act ⟨6, n, s⟩ = (0, { p with saved := p.gate, since := [] }) := by unfold PlayM.act; rw [if_neg (show ¬ (6 : UInt8) = 1 by decide), if_neg (show ¬ (6 : UInt8) = 2 by decide), if_neg (show ¬ (6 : UInt8) = 3 by decide), if_neg (show ¬ (6 : UInt8) = 4 by decide), if_neg (show ¬ (6 : UInt8) = 5 by decide), if_pos rfl]
  rw [hact]; clear hact
  have hql : p.gate.queue.length ≤ 64 := HP.out.gate.len
  go_enter Try.func44, Try.ntmps44
  go_wp2_with fail
  refine (Copy_any _ p.gate m3 ⟨_, rfl, H1.out⟩ (by omega)).mono ?_
  rintro e w1 hR
  obtain ⟨b2, c2, H5, rfl, m4, hl4, hs4⟩ := CopyR.lit (f := p.gate.first) (q := p.gate.queue) (n := p.gate.next) rfl hR
  have HS4 := Lib.hid hs4; clear hR hs4
  have es := m4.eqs; simp only [EqsL, and_true] at es
  have ns := m4.nes; simp only [NeL, NeFrom, and_true, true_and] at ns
  go_wp2_with fail
  refine bodyPost_ret (v := .tuple #[.agg #[.int .i64 p.gate.first, .slice qb p.gate.queue.length qc, .int .i64 p.gate.next, .int .i64 p.gate.first, .slice b2 p.gate.queue.length c2, .int .i64 p.gate.next, .slice none 0 0, .slice ob p.out.length oc], .int .i64 0]) (by simp [results, Try.results44, go_sem, es, ns]) rfl ?_
  have m5 := (((m4.set (i := 3) (v := .int .i64 p.gate.first) (.tail (.tail .head))).set (i := 4) (v := .slice b2 p.gate.queue.length c2) (.tail (.tail .head))).set (i := 5) (v := .int .i64 p.gate.next) (.tail (.tail .head))).set (i := 6) (v := .slice none 0 0) (.tail (.tail .head))
  exact ⟨qb, qc, b2, c2, none, 0, ob, oc, H5, rfl, (m5.set8 .head).drop.drop.drop, hl4, H1.out.mono hl4, HS4.out, SlR.nil _ _, H4.out.mono hl4⟩

set_option maxRecDepth 10000 in
set_option maxHeartbeats 4000000 in
theorem act_offer (qb : Option Addr) (qc : Nat) (sb : Option Addr) (sc : Nat) (nb : Option Addr) (nc : Nat) (ob : Option Addr) (oc : Nat) (p : PlayM) (n : Int) (s : ByteArray) (hn : I64 n) (hs : s.size ≤ maxLen) (k : Nat) {w0 w : World} {H : Hp} {L : List (Nat × Obj)} (m : Mem w0 H L w) (hp : p.ok k) (hk : k ≤ 1000)
    (h1 : SlR encStr H (.slice qb p.gate.queue.length qc) p.gate.queue) (h2 : SlR encStr H (.slice sb p.saved.queue.length sc) p.saved.queue) (h3 : SlR encStr H (.slice nb p.since.length nc) p.since) (h4 : SlR encStr H (.slice ob p.out.length oc) p.out) :
    Calls Try.prog 44 #[.agg #[.int .i64 p.gate.first, .slice qb p.gate.queue.length qc, .int .i64 p.gate.next, .int .i64 p.saved.first, .slice sb p.saved.queue.length sc, .int .i64 p.saved.next, .slice nb p.since.length nc, .slice ob p.out.length oc], .agg #[.int .u8 5, .int .i64 n, .string s]] w (WorldR w0 H L (p.act ⟨5, n, s⟩).1 (p.act ⟨5, n, s⟩).2) := by
  have H1 := Lib.hid h1; clear h1
  have H2 := Lib.hid h2; clear h2
  have H3 := Lib.hid h3; clear h3
  have H4 := Lib.hid h4; clear h4
  have HP := Lib.hid hp; clear hp
  have m3 := ((m.alloc (.cells #[.int .i64 p.gate.first, .slice qb p.gate.queue.length qc, .int .i64 p.gate.next, .int .i64 p.saved.first, .slice sb p.saved.queue.length sc, .int .i64 p.saved.next, .slice nb p.since.length nc, .slice ob p.out.length oc] 78)).alloc (.cells #[.int .u8 5, .int .i64 n, .string s] 43)).alloc (.cells #[.int .i64 0, .slice none 0 0, .int .i64 0, .int .i64 0, .slice none 0 0, .int .i64 0, .slice none 0 0, .slice none 0 0] 78)
  simp only [World.size_alloc] at m3
  have hact : p.act ⟨5, n, s⟩ = ((p.gate.offer1 n s).2.1, { p with gate := (p.gate.offer1 n s).2.2 }) := by unfold PlayM.act; rw [if_neg (show ¬ (5 : UInt8) = 1 by decide), if_neg (show ¬ (5 : UInt8) = 2 by decide), if_neg (show ¬ (5 : UInt8) = 3 by decide), if_neg (show ¬ (5 : UInt8) = 4 by decide), if_pos rfl]
  rw [hact]; clear hact
  have hbad := GateM.offer1_bad2 p.gate n s
  have hw1 := HP.out.gate.with1 (by omega) (p.gate.offer1 n s).2
  have HBAD := Lib.hid hbad; clear hbad
  have HW1 := Lib.hid hw1; clear hw1
  go_enter Try.func44, Try.ntmps44
  go_wp2_with fail
  refine (ROffer_any _ p.gate n s m3 ⟨_, rfl, H1.out⟩ hn hs).mono ?_
  rintro e w1 hR
  rw [HW1.out] at hR
  generalize (p.gate.offer1 n s).2 = r at *
  obtain ⟨e1, g1⟩ := r
  by_cases he : e1 = 0
  · subst he
    simp only [ne_eq, not_true_eq_false, if_false] at hR
    obtain ⟨f, q, n1⟩ := g1
    obtain ⟨b5, c5, H5, rfl, m4, hl4, hs4⟩ := OfferR.lit (f := f) (q := q) (n := n1) (k := 0) rfl rfl rfl hR
    have HS4 := Lib.hid hs4; clear hR hs4
    have m5 := m4.alloc (.cells #[.int .i64 f, .slice b5 q.length c5, .int .i64 n1] 24)
    have es := m4.eqs; simp only [EqsL, and_true] at es
    have ns := m5.nes; simp only [NeL, NeFrom, and_true, true_and] at ns
    go_wp2_with fail
    refine bodyPost_ret (v := .tuple #[.agg #[.int .i64 (⟨f, q, n1⟩ : GateM).first, .slice b5 (⟨f, q, n1⟩ : GateM).queue.length c5, .int .i64 (⟨f, q, n1⟩ : GateM).next, .int .i64 p.saved.first, .slice sb p.saved.queue.length sc, .int .i64 p.saved.next, .slice nb p.since.length nc, .slice ob p.out.length oc], .int .i64 0]) (by simp [results, Try.results44, go_sem, es, ns]) rfl ?_
    exact ⟨b5, c5, sb, sc, nb, nc, ob, oc, H5, rfl, (((m4.set3b (.tail (.tail .head))).set8 .head).alloc _).drop.drop.drop.drop, hl4, HS4.out, H2.out.mono hl4, H3.out.mono hl4, H4.out.mono hl4⟩
  · have hg := HBAD.out he
    simp only at hg
    subst hg
    rw [if_pos he] at hR
    obtain ⟨b5, c5, H5, rfl, m4, hl4, hs4⟩ := OfferR.lit (f := 0) (q := []) (n := 0) (k := e1) rfl rfl (N := 0) rfl hR
    have he1 : (e1 != 0) = true := by simpa using he
    clear hR hs4
    have m5 := m4.alloc (.cells #[.int .i64 0, .slice b5 0 c5, .int .i64 0] 24)
    have es := m4.eqs; simp only [EqsL, and_true] at es
    have ns := m5.nes; simp only [NeL, NeFrom, and_true, true_and] at ns
    have HE := Lib.hid he; clear he
    go_wp2_with fail
    refine bodyPost_ret (v := .tuple #[.agg #[.int .i64 p.gate.first, .slice qb p.gate.queue.length qc, .int .i64 p.gate.next, .int .i64 p.saved.first, .slice sb p.saved.queue.length sc, .int .i64 p.saved.next, .slice nb p.since.length nc, .slice ob p.out.length oc], .int .i64 e1]) (by simp [results, Try.results44, go_sem, es, ns]) rfl ?_
    exact ⟨qb, qc, sb, sc, nb, nc, ob, oc, H5, rfl, ((m4.set8 .head).alloc _).drop.drop.drop.drop, hl4, H1.out.mono hl4, H2.out.mono hl4, H3.out.mono hl4, H4.out.mono hl4⟩

set_option maxRecDepth 10000 in
set_option maxHeartbeats 4000000 in
theorem act_none (qb : Option Addr) (qc : Nat) (sb : Option Addr) (sc : Nat) (nb : Option Addr) (nc : Nat) (ob : Option Addr) (oc : Nat) (p : PlayM) (kd : UInt8) (n : Int) (s : ByteArray) (hkd : kd = 0 ∨ 7 < kd) (k : Nat) {w0 w : World} {H : Hp} {L : List (Nat × Obj)} (m : Mem w0 H L w) (hp : p.ok k) (hk : k ≤ 1000)
    (h1 : SlR encStr H (.slice qb p.gate.queue.length qc) p.gate.queue) (h2 : SlR encStr H (.slice sb p.saved.queue.length sc) p.saved.queue) (h3 : SlR encStr H (.slice nb p.since.length nc) p.since) (h4 : SlR encStr H (.slice ob p.out.length oc) p.out) :
    Calls Try.prog 44 #[.agg #[.int .i64 p.gate.first, .slice qb p.gate.queue.length qc, .int .i64 p.gate.next, .int .i64 p.saved.first, .slice sb p.saved.queue.length sc, .int .i64 p.saved.next, .slice nb p.since.length nc, .slice ob p.out.length oc], .agg #[.int .u8 kd.toNat, .int .i64 n, .string s]] w (WorldR w0 H L (p.act ⟨kd, n, s⟩).1 (p.act ⟨kd, n, s⟩).2) := by
  have H1 := Lib.hid h1; clear h1
  have H2 := Lib.hid h2; clear h2
  have H3 := Lib.hid h3; clear h3
  have H4 := Lib.hid h4; clear h4
  have HP := Lib.hid hp; clear hp
  have m3 := ((m.alloc (.cells #[.int .i64 p.gate.first, .slice qb p.gate.queue.length qc, .int .i64 p.gate.next, .int .i64 p.saved.first, .slice sb p.saved.queue.length sc, .int .i64 p.saved.next, .slice nb p.since.length nc, .slice ob p.out.length oc] 78)).alloc (.cells #[.int .u8 kd.toNat, .int .i64 n, .string s] 43)).alloc (.cells #[.int .i64 0, .slice none 0 0, .int .i64 0, .int .i64 0, .slice none 0 0, .int .i64 0, .slice none 0 0, .slice none 0 0] 78)
  simp only [World.size_alloc] at m3
  have hk2 : kd.toNat = 0 ∨ 7 < kd.toNat := by
    rcases hkd with rfl | hkd
    · exact .inl rfl
    · exact .inr (by simpa [UInt8.lt_iff_toNat_lt] using hkd)
  have hact : p.act ⟨kd, n, s⟩ = (2, p) := by
    have hne : ∀ j : UInt8, 1 ≤ j.toNat → j.toNat ≤ 7 → kd ≠ j := fun j h1 h2 e => by subst e; omega
    unfold PlayM.act
    rw [if_neg (hne 1 (by decide) (by decide)), if_neg (hne 2 (by decide) (by decide)), if_neg (hne 3 (by decide) (by decide)), if_neg (hne 4 (by decide) (by decide)), if_neg (hne 5 (by decide) (by decide)), if_neg (hne 6 (by decide) (by decide)), if_neg (hne 7 (by decide) (by decide))]
  rw [hact]; clear hact
  have t1 : ((kd.toNat : Int) == 1) = false := by simp; omega
  have t2 : ((kd.toNat : Int) == 2) = false := by simp; omega
  have t3 : ((kd.toNat : Int) == 3) = false := by simp; omega
  have t4 : ((kd.toNat : Int) == 4) = false := by simp; omega
  have t5 : ((kd.toNat : Int) == 5) = false := by simp; omega
  have t6 : ((kd.toNat : Int) == 6) = false := by simp; omega
  have t7 : ((kd.toNat : Int) == 7) = false := by simp; omega
  clear hk2 hkd
  have es := m3.eqs; simp only [EqsL, and_true] at es
  have ns := m3.nes; simp only [NeL, NeFrom, and_true, true_and] at ns
  go_enter Try.func44, Try.ntmps44
  go_wp2_with fail
  refine bodyPost_ret (v := .tuple #[.agg #[.int .i64 p.gate.first, .slice qb p.gate.queue.length qc, .int .i64 p.gate.next, .int .i64 p.saved.first, .slice sb p.saved.queue.length sc, .int .i64 p.saved.next, .slice nb p.since.length nc, .slice ob p.out.length oc], .int .i64 2]) (by simp [results, Try.results44, go_sem, es, ns]) rfl ?_
  exact ⟨qb, qc, sb, sc, nb, nc, ob, oc, H, rfl, (((m.alloc _).alloc _).alloc _).drop.drop.drop, Hle.refl _, H1.out, H2.out, H3.out, H4.out⟩
end Go.Proofs.Ytpkcdkbbhiafnaa
