/- The walks: the program's Play: do at offers and saves; do; Play. -/
import Derived.Test.YtpkcdkbbhiafnaaDoorGateQ
namespace Go.Proofs.YtpkcdkbbhiafnaaDoor
set_option linter.unusedVariables false
set_option linter.unusedSimpArgs false
open Go.RowKit

set_option maxRecDepth 10000 in
set_option maxHeartbeats 2000000 in
theorem do_offer (bp : Nat) (p : PlayM) (n : Int) (s : ByteArray) (k : Nat) {w0 w : World} {H : Hp} {L : List (Nat × Obj)} (h : PlayOwn w0 H L bp p w) (hok : p.ok k) (hk : k ≤ 100000) (hn : I64 n) (hs : s.size ≤ maxLen) :
    Calls Tryd.prog 14 #[.pointer (some ⟨bp, 0, none⟩), .agg #[.int .u8 5, .int .i64 n, .string s]] w fun e w' => e = .returned (.int .i64 (p.act ⟨5, n, s⟩).1) ∧ ∃ H', Hle H H' ∧ PlayOwn w0 H' L bp (p.act ⟨5, n, s⟩).2 w' := by
  obtain ⟨bg, qo, qq, qs, ss, co, cq, cs, Lo, Lq, Ls, hc⟩ := h
  have HC := Lib.hid (PlayC.alloc hc (.cells #[.int .u8 5, .int .i64 n, .string s] 38)); clear hc
  have es := HC.out.front.eqs; simp only [EqsL, and_true] at es
  go_enter Tryd.func14, Tryd.ntmps14
  go_wp2_with fail
  generalize (w.alloc _) = w1 at *
  have HC2 := Lib.hid (HC.out.drewN 1)
  rw [← World.drew_is_drewN] at HC2
  go_region_held3 (fun w' => w'.cell? ⟨bp, 0, none⟩ = some (.pointer (some ⟨bg, 0, none⟩)) ∧ w'.cell? ⟨w.heap.size, 1, none⟩ = some (.int .i64 n) ∧ w'.cell? ⟨w.heap.size, 2, none⟩ = some (.string s))
      (simp [es]) (first | (go_at_call 29; refine (offer_any bg p.gate n s HC2.out.toGate (GateM.small_of (hok.gate.chk (by omega))) hs hn).mono ?_; rintro e w2 ⟨rfl, hg⟩; obtain ⟨qb2, qc2, cq2, Lq2, hc⟩ := HC2.out.ofGate hg; have HC3 := Lib.hid hc; have es := hc.front.eqs; simp only [EqsL] at es; clear hc hg))
  go_wp2_with fail
  go_ret
  exact ⟨rfl, H, Hle.refl _, HC3.out.own.drop⟩

theorem perm_save {α : Type} (x y : α) (A B C R : List α) : (x :: y :: (A ++ (B ++ (C ++ R)))).Perm (B ++ (x :: y :: (A ++ (C ++ R)))) := (by classical exact List.perm_iff_count.2 (fun a => by simp only [List.count_append, List.count_cons, List.cons_append, List.nil_append, List.append_assoc]; omega))
theorem perm_save2 {α : Type} (x y : α) (A B C D R : List α) : (B ++ (D ++ (x :: y :: (A ++ (C ++ R))))).Perm (D ++ (C ++ (x :: y :: (A ++ (B ++ R))))) := (by classical exact List.perm_iff_count.2 (fun a => by simp only [List.count_append, List.count_cons, List.cons_append, List.nil_append, List.append_assoc]; omega))

set_option maxRecDepth 10000 in
set_option maxHeartbeats 2000000 in
theorem do_save (bp : Nat) (p : PlayM) (n : Int) (s : ByteArray) (k : Nat) {w0 w : World} {H : Hp} {L : List (Nat × Obj)} (h : PlayOwn w0 H L bp p w) (hok : p.ok k) (hk : k ≤ 100000) :
    Calls Tryd.prog 14 #[.pointer (some ⟨bp, 0, none⟩), .agg #[.int .u8 6, .int .i64 n, .string s]] w fun e w' => e = .returned (.int .i64 (p.act ⟨6, n, s⟩).1) ∧ ∃ H', Hle H H' ∧ PlayOwn w0 H' L bp (p.act ⟨6, n, s⟩).2 w' := by
  obtain ⟨bg, qo, qq, qs, ss, co, cq, cs, Lo, Lq, Ls, hc⟩ := h
  obtain ⟨bo, no, rfl, _, hno⟩ := hc.1.shape
  obtain ⟨qb, qc, rfl, _, _⟩ := hc.2.2.1.shape
  have HC := Lib.hid (PlayC.alloc hc (.cells #[.int .u8 6, .int .i64 n, .string s] 38)); clear hc
  have hql : p.gate.queue.length ≤ 64 := hok.gate.len
  have es := HC.out.front.eqs; simp only [EqsL, and_true] at es
  have ns := HC.out.front.nes; simp only [NeL, NeFrom, and_true, true_and] at ns
  go_enter Tryd.func14, Tryd.ntmps14
  go_wp2_with fail
  generalize (w.alloc _) = w1 at *
  have m1 := HC.out.mem
  have m2 := ((((m1.set (i := 2) (v := .int .i64 p.gate.first) .head).set (i := 3) (v := .slice qb p.gate.queue.length qc) .head).set (i := 4) (v := .int .i64 p.gate.next) .head).set (i := 5) (v := .slice none 0 0) .head).perm (perm_save _ _ Lo Lq Ls _)
  obtain ⟨H2, m3, hle2, hsl2, back⟩ := HC.out.2.2.1.borrow HC.out.2.2.2.1 rfl rfl m2
  refine (Clone_any _ p.gate.queue m3 hsl2 (by omega)).mono ?_
  rintro e w3 ⟨b3, c3, cs3, rfl, hacc, hch⟩
  obtain ⟨L3, a3, m4⟩ := hacc.split
  have m5 := back (L3 ++ _) w3 m4
  have m6 := (m5.perm (perm_save2 _ _ Lo Lq Ls L3 _))
  obtain ⟨H3, m7, hle3, hsl3⟩ := (a3.join m6).done hch.anyH rfl rfl
  have m8 := m7.dropL
  clear m1 m2 m3 m4 m5 m6 m7 back hsl2 hacc hch
  have M8 := Lib.hid m8
  have HSL := Lib.hid hsl3; clear hsl3
  clear es ns
  have es := m8.eqs; simp only [EqsL, and_true] at es
  clear m8
  go_wp2_with fail
  go_ret
  have m9 := M8.out.set (i := 3) (v := .slice b3 p.gate.queue.length c3) .head
  have h9 : PlayC w0 H3 ((w.heap.size, .cells #[.int .u8 6, .int .i64 n, .string s] 38) :: L) bp bg { p with saved := p.gate, since := [] } _ _ (.slice none 0 0) _ _ co cq [] Lo Lq [] _ := ⟨HC.out.1, HC.out.2.1.anyH, HC.out.2.2.1, HC.out.2.2.2.1.anyH, AccL.nil, .nil, HSL.out, m9⟩
  exact ⟨rfl, H3, hle3, h9.own.drop⟩

theorem u8_cases (k : UInt8) : k = 1 ∨ k = 2 ∨ k = 3 ∨ k = 4 ∨ k = 5 ∨ k = 6 ∨ k = 7 ∨ (k = 0 ∨ 7 < k) := by
  have h : k.toNat = 0 ∨ k.toNat = 1 ∨ k.toNat = 2 ∨ k.toNat = 3 ∨ k.toNat = 4 ∨ k.toNat = 5 ∨ k.toNat = 6 ∨ k.toNat = 7 ∨ 7 < k.toNat := by omega
  simp only [← UInt8.toNat_inj, UInt8.lt_iff_toNat_lt]
  have e : ∀ j : Nat, j < 8 → (UInt8.ofNat j).toNat = j := by decide
  simp
  omega
theorem do_any (bp : Nat) (p : PlayM) (a : ActM) (k : Nat) {w0 w : World} {H : Hp} {L : List (Nat × Obj)} (h : PlayOwn w0 H L bp p w) (hok : p.ok k) (hk : k ≤ 100000) (hn : I64 a.n) (hs : a.s.size ≤ maxLen) :
    Calls Tryd.prog 14 #[.pointer (some ⟨bp, 0, none⟩), .agg #[.int .u8 a.kind.toNat, .int .i64 a.n, .string a.s]] w fun e w' => e = .returned (.int .i64 (p.act a).1) ∧ ∃ H', Hle H H' ∧ PlayOwn w0 H' L bp (p.act a).2 w' := by
  obtain ⟨kd, n, s⟩ := a
  rcases u8_cases kd with rfl | rfl | rfl | rfl | rfl | rfl | rfl | hkd
  · exact do_put bp p n s k h hok hk hn hs
  · exact do_send2 bp p n s k h hok hk
  · exact do_lose bp p n s h
  · exact do_send4 bp p n s k h hok hk
  · exact do_offer bp p n s k h hok hk hn hs
  · exact do_save bp p n s k h hok hk
  · exact do_crash bp p n s k h hok hk
  · exact do_none bp p kd n s hkd h
end Go.Proofs.YtpkcdkbbhiafnaaDoor
