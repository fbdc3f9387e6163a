/- The walks: the program's Play: do, Play. -/
import Derived.Test.YtpkcdkbbhiafnaaDoorGateP
import Derived.Deep.RegionLaw
namespace Go.Proofs.YtpkcdkbbhiafnaaDoor
set_option linter.unusedVariables false
set_option linter.unusedSimpArgs false
open Go.RowKit

def actCells (k : UInt8) (n : Int) (s : ByteArray) : Array Value := #[.int .u8 k.toNat, .int .i64 n, .string s]

theorem GateM.put1_err {g : GateM} {s : ByteArray} (h : (g.put1 s).1 ≠ 0) : (g.put1 s).2 = g := by
  unfold GateM.put1 at *
  split
  · rfl
  · split
    · rfl
    · split
      · rfl
      · rename_i h1 h2 h3
        rw [if_neg h1, if_neg h2, if_neg h3] at h
        exact absurd rfl h

set_option maxRecDepth 10000 in
set_option maxHeartbeats 2000000 in
theorem do_put (bp : Nat) (p : PlayM) (n : Int) (s : ByteArray) (k : Nat) {w0 w : World} {H : Hp} {L : List (Nat × Obj)} (h : PlayOwn w0 H L bp p w) (hok : p.ok k) (hk : k ≤ 100000) (hn : I64 n) (hs : s.size ≤ maxLen) :
    Calls Tryd.prog 14 #[.pointer (some ⟨bp, 0, none⟩), .agg #[.int .u8 1, .int .i64 n, .string s]] w fun e w' => e = .returned (.int .i64 (p.act ⟨1, n, s⟩).1) ∧ ∃ H', Hle H H' ∧ PlayOwn w0 H' L bp (p.act ⟨1, n, s⟩).2 w' := by
  obtain ⟨bg, qo, qq, qs, ss, co, cq, cs, Lo, Lq, Ls, hc⟩ := h
  obtain ⟨bo, no, rfl, _, hno⟩ := hc.1.shape
  obtain ⟨qb, qc, rfl, _, _⟩ := hc.2.2.1.shape
  obtain ⟨bs, ns, rfl, _, hns⟩ := hc.2.2.2.2.1.shape
  have hns := size_le_maxLen hns
  have HC := Lib.hid (PlayC.alloc hc (.cells #[.int .u8 1, .int .i64 n, .string s] 38)); clear hc
  have hsi : p.since.length ≤ k := by have := hok.since; have := hok.saved.lo; omega
  have es := HC.out.front.eqs; simp only [EqsL, and_true] at es
  go_enter Tryd.func14, Tryd.ntmps14
  go_wp2_with fail
  generalize (w.alloc _) = w1 at *
  go_still_tail 6, (by kernel_rfl)
  change wpList _ _ _ _ _ w1.drew
  have HC2 := Lib.hid (HC.out.drewN 1)
  rw [← World.drew_is_drewN] at HC2
  go_wp2_with fail
  refine (put_any bg p.gate s HC2.out.toGate (GateM.small_of (hok.gate.chk (by omega))) hs).mono ?_
  rintro e w2 ⟨rfl, hg⟩
  obtain ⟨qb2, qc2, cq2, Lq2, hc⟩ := HC2.out.ofGate hg
  have HC3 := Lib.hid hc; clear hc hg es
  have es := HC3.out.front.eqs; simp only [EqsL, and_true] at es
  by_cases he : (p.gate.put1 s).1 = 0
  · have he1 : ((p.gate.put1 s).1 == 0) = true := by simpa using he
    have hact : p.act ⟨1, n, s⟩ = ((p.gate.put1 s).1, { p with gate := (p.gate.put1 s).2, since := p.since ++ [s] }) := by unfold PlayM.act; rw [if_pos rfl, if_pos he]
    have HACT := Lib.hid hact; clear hact
    have HE := Lib.hid he; clear he
    go_wp2_with fail
    have hm2 := HC3.out.toSince.alloc (.cells #[.string s] 9)
    go_region_law (first | (refine step_append_mem (w0 := w0) (H := H) (L := _ :: _) rfl _ _ 25 rfl 9 1 16 (.string ByteArray.empty) Tryd.underlying25 (by kernel_rfl) rfl (by decide) (.slice bs p.since.length ns) p.since.length cs hm2.drew rfl _ 1 [.string s] (Src.loc (e := 9) hm2.drew.mem (.head _)) rfl rfl (by simp [Value.oneCell']) (by omega) (by unfold maxLen; omega) ?_; intro v' w' hacc; obtain ⟨b', c', rfl, _, _⟩ := hacc.shape; obtain ⟨L5, hp⟩ := HC3.out.ofSince (l := p.since ++ [s]) (by simpa using hacc.drop) (HC3.out.2.2.2.2.2.1.append (.one (x := s) ⟨rfl, hs⟩ rfl)); have HC4 := Lib.hid hp; have es := hp.front.eqs; simp only [EqsL] at es; clear hp hacc))
    all_goals
      go_wp2_with fail
      go_ret
      rw [HACT.out]
      have m9 := HC4.out.mem.set (i := 5) (v := .slice b' (p.since.length + 1) c') .head
      have h9 : PlayC w0 H _ bp bg { p with gate := (p.gate.put1 s).2, since := p.since ++ [s] } _ _ _ _ _ co cq2 _ Lo Lq2 L5 _ := ⟨HC4.out.1, HC4.out.2.1, HC4.out.2.2.1, HC4.out.2.2.2.1, HC4.out.2.2.2.2.1, HC4.out.2.2.2.2.2.1, HC4.out.2.2.2.2.2.2.1, m9⟩
      exact ⟨rfl, H, Hle.refl _, h9.own.drop⟩
  · have he1 : ((p.gate.put1 s).1 == 0) = false := by simpa using he
    have hact : p.act ⟨1, n, s⟩ = ((p.gate.put1 s).1, p) := by unfold PlayM.act; rw [if_pos rfl, if_neg he]
    have HACT := Lib.hid hact; clear hact
    have hsame : (p.gate.put1 s).2 = p.gate := GateM.put1_err he
    rw [hsame] at HC3
    clear he hsame
    go_wp2_with fail
    go_ret
    rw [HACT.out]
    exact ⟨rfl, H, Hle.refl _, HC3.out.own.drop⟩

theorem takeOff {a b c : Prop} (h : a ∧ b) (f : b → c) : a ∧ c := ⟨h.1, f h.2⟩
set_option maxRecDepth 10000 in
set_option maxHeartbeats 2000000 in
theorem do_send2 (bp : Nat) (p : PlayM) (n : Int) (s : ByteArray) (k : Nat) {w0 w : World} {H : Hp} {L : List (Nat × Obj)} (h : PlayOwn w0 H L bp p w) (hok : p.ok k) (hk : k ≤ 100000) :
    Calls Tryd.prog 14 #[.pointer (some ⟨bp, 0, none⟩), .agg #[.int .u8 2, .int .i64 n, .string s]] w fun e w' => e = .returned (.int .i64 (p.act ⟨2, n, s⟩).1) ∧ ∃ H', Hle H H' ∧ PlayOwn w0 H' L bp (p.act ⟨2, n, s⟩).2 w' := by
  have ho := h.alloc (.cells #[.int .u8 2, .int .i64 n, .string s] 38)
  have HO := Lib.hid ho; clear ho h
  go_enter Tryd.func14, Tryd.ntmps14
  go_wp2_with fail
  refine (psend_any bp p true k HO.out hok (by omega)).mono ?_
  rintro e w1 ⟨rfl, hp⟩
  have HP := Lib.hid hp; clear hp
  go_wp2_with fail
  go_ret
  exact ⟨rfl, H, Hle.refl _, HP.out.drop⟩
set_option maxRecDepth 10000 in
set_option maxHeartbeats 2000000 in
theorem do_send4 (bp : Nat) (p : PlayM) (n : Int) (s : ByteArray) (k : Nat) {w0 w : World} {H : Hp} {L : List (Nat × Obj)} (h : PlayOwn w0 H L bp p w) (hok : p.ok k) (hk : k ≤ 100000) :
    Calls Tryd.prog 14 #[.pointer (some ⟨bp, 0, none⟩), .agg #[.int .u8 4, .int .i64 n, .string s]] w fun e w' => e = .returned (.int .i64 (p.act ⟨4, n, s⟩).1) ∧ ∃ H', Hle H H' ∧ PlayOwn w0 H' L bp (p.act ⟨4, n, s⟩).2 w' := by
  have ho := h.alloc (.cells #[.int .u8 4, .int .i64 n, .string s] 38)
  have HO := Lib.hid ho; clear ho h
  go_enter Tryd.func14, Tryd.ntmps14
  go_wp2_with fail
  refine (psend_any bp p false k HO.out hok (by omega)).mono ?_
  rintro e w1 ⟨rfl, hp⟩
  have HP := Lib.hid hp; clear hp
  go_wp2_with fail
  go_ret
  exact ⟨rfl, H, Hle.refl _, HP.out.drop⟩

set_option maxHeartbeats 2000000 in
theorem do_lose (bp : Nat) (p : PlayM) (n : Int) (s : ByteArray) {w0 w : World} {H : Hp} {L : List (Nat × Obj)} (h : PlayOwn w0 H L bp p w) :
    Calls Tryd.prog 14 #[.pointer (some ⟨bp, 0, none⟩), .agg #[.int .u8 3, .int .i64 n, .string s]] w fun e w' => e = .returned (.int .i64 (p.act ⟨3, n, s⟩).1) ∧ ∃ H', Hle H H' ∧ PlayOwn w0 H' L bp (p.act ⟨3, n, s⟩).2 w' := by
  have ho := h.alloc (.cells #[.int .u8 3, .int .i64 n, .string s] 38)
  have HO := Lib.hid ho; clear ho h
  go_enter Tryd.func14, Tryd.ntmps14
  go_wp2_with fail
  go_ret
  exact ⟨rfl, H, Hle.refl _, HO.out.drop⟩

set_option maxRecDepth 10000 in
set_option maxHeartbeats 2000000 in
theorem do_crash (bp : Nat) (p : PlayM) (n : Int) (s : ByteArray) (k : Nat) {w0 w : World} {H : Hp} {L : List (Nat × Obj)} (h : PlayOwn w0 H L bp p w) (hok : p.ok k) (hk : k ≤ 100000) :
    Calls Tryd.prog 14 #[.pointer (some ⟨bp, 0, none⟩), .agg #[.int .u8 7, .int .i64 n, .string s]] w fun e w' => e = .returned (.int .i64 (p.act ⟨7, n, s⟩).1) ∧ ∃ H', Hle H H' ∧ PlayOwn w0 H' L bp (p.act ⟨7, n, s⟩).2 w' := by
  have ho := h.alloc (.cells #[.int .u8 7, .int .i64 n, .string s] 38)
  have HO := Lib.hid ho; clear ho h
  go_enter Tryd.func14, Tryd.ntmps14
  go_wp2_with fail
  refine (crash_any bp p k HO.out hok (by omega)).mono ?_
  rintro e w1 ⟨rfl, hp⟩
  have HP := Lib.hid hp; clear hp
  go_wp2_with fail
  go_ret
  exact ⟨rfl, H, Hle.refl _, HP.out.drop⟩

set_option maxRecDepth 10000 in
set_option maxHeartbeats 2000000 in
theorem do_none (bp : Nat) (p : PlayM) (kd : UInt8) (n : Int) (s : ByteArray) (hkd : kd = 0 ∨ 7 < kd) {w0 w : World} {H : Hp} {L : List (Nat × Obj)} (h : PlayOwn w0 H L bp p w) :
    Calls Tryd.prog 14 #[.pointer (some ⟨bp, 0, none⟩), .agg #[.int .u8 kd.toNat, .int .i64 n, .string s]] w fun e w' => e = .returned (.int .i64 (p.act ⟨kd, n, s⟩).1) ∧ ∃ H', Hle H H' ∧ PlayOwn w0 H' L bp (p.act ⟨kd, n, s⟩).2 w' := by
  have hk2 : kd.toNat = 0 ∨ 7 < kd.toNat := by
    rcases hkd with rfl | hkd
    · exact .inl rfl
    · exact .inr (by simpa [UInt8.lt_iff_toNat_lt] using hkd)
  have hact : p.act ⟨kd, n, s⟩ = (2, p) := by
    have hne : ∀ j : UInt8, 1 ≤ j.toNat → j.toNat ≤ 7 → kd ≠ j := fun j h1 h2 e => by subst e; omega
    unfold PlayM.act
    rw [if_neg (hne 1 (by decide) (by decide)), if_neg (hne 2 (by decide) (by decide)), if_neg (hne 3 (by decide) (by decide)), if_neg (hne 4 (by decide) (by decide)), if_neg (hne 5 (by decide) (by decide)), if_neg (hne 6 (by decide) (by decide)), if_neg (hne 7 (by decide) (by decide))]
  have HACT := Lib.hid hact; clear hact
  have t1 : ((kd.toNat : Int) == 1) = false := by simp; omega
  have t2 : ((kd.toNat : Int) == 2) = false := by simp; omega
  have t3 : ((kd.toNat : Int) == 3) = false := by simp; omega
  have t4 : ((kd.toNat : Int) == 4) = false := by simp; omega
  have t5 : ((kd.toNat : Int) == 5) = false := by simp; omega
  have t6 : ((kd.toNat : Int) == 6) = false := by simp; omega
  have t7 : ((kd.toNat : Int) == 7) = false := by simp; omega
  clear hk2 hkd
  have ho := h.alloc (.cells #[.int .u8 kd.toNat, .int .i64 n, .string s] 38)
  have HO := Lib.hid ho; clear ho h
  go_enter Tryd.func14, Tryd.ntmps14
  go_wp2_with fail
  go_ret
  rw [HACT.out]
  exact ⟨rfl, H, Hle.refl _, HO.out.drop⟩
end Go.Proofs.YtpkcdkbbhiafnaaDoor
