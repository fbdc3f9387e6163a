/- The walks: changed, at each of its three closures; the exported functions that change a gate. -/
import Derived.Test.YtpkcdkbbhiafnaaDoorGateE
namespace Go.Proofs.YtpkcdkbbhiafnaaDoor
set_option linter.unusedVariables false
set_option linter.unusedSimpArgs false
open Go.RowKit

theorem GateOwn.set {w0 : World} {H : Hp} {L L' : List (Nat × Obj)} {b : Nat} {g : GateM} {w : World} (h : GateOwn w0 H L b g w) {b' i : Nat} {u : Value} {c : Array Value} {t : TypeId} {f : Nat × Nat}
    (hu : LUpd L b' (.cells c t f) (.cells (c.setIfInBounds i u) t f) L') : GateOwn w0 H L' b g (w.setCell ⟨b', i, none⟩ u) := by
  obtain ⟨q, cs, h1, h2⟩ := h
  exact ⟨q, cs, h1.set (.tail hu), h2⟩

set_option maxHeartbeats 400000 in
theorem Offer1_any (b bn bs bt : Nat) (g : GateM) (n : Int) (s : ByteArray) {w0 w : World} {H : Hp} {L L' : List (Nat × Obj)} (h : GateOwn w0 H L b g w) (hs : g.small) (hn : I64 n) (hsz : s.size ≤ maxLen)
    (hL : (bn, Obj.cells #[.int .i64 n] 3 (0, 0)) ∈ L) (hL2 : (bs, Obj.cells #[.string s] 9 (0, 0)) ∈ L) (hu : LUpd L bt (.cells #[.bool false] 4) (.cells #[.bool (g.offer1 n s).1] 4) L') :
    Calls Tryd.prog 37 #[.pointer (some ⟨b, 0, none⟩), .pointer (some ⟨bn, 0, none⟩), .pointer (some ⟨bs, 0, none⟩), .pointer (some ⟨bt, 0, none⟩)] w (DoR w0 H L' b (g.offer1 n s).2) := by
  have hc := loc_cell h.mem hL
  have hc2 := loc_cell h.mem hL2
  have HO := Lib.hid h
  go_enter Tryd.func37, Tryd.ntmps37
  go_wp2_with fail
  refine (offer_any b g n s HO.out hs hsz hn).mono ?_
  rintro e w1 ⟨rfl, hg⟩
  have HG := Lib.hid hg; clear hg hc hc2
  have hc3 := loc_cell HG.out.mem hu.mem
  have hf3 : w1.frozen? ⟨bt, 0, none⟩ = false := frozen_of_heap (HG.out.mem.loc _ hu.mem).1 0
  go_wp2_with fail
  go_ret
  exact ⟨rfl, HG.out.set (i := 0) (u := .bool (g.offer1 n s).1) hu⟩

/-- What changed gives back. -/
def ChangedR (g : GateM) (r : Int × GateM) (w0 : World) (H : Hp) (L L' : List (Nat × Obj)) (e : Ending) (w' : World) : Prop :=
  ∃ f b c n H', e = .returned (.tuple #[.agg #[.int .i64 f, .slice b (g.with1 r).1.queue.length c, .int .i64 n], .int .i64 (g.with1 r).2]) ∧ Mem w0 H' (if g.chk = 0 then L' else L) w' ∧ Hle H H' ∧
    GateV H' (.agg #[.int .i64 f, .slice b (g.with1 r).1.queue.length c, .int .i64 n]) (g.with1 r).1
theorem GateV.zero (H : Hp) : GateV H (.agg #[.int .i64 0, .slice none 0 0, .int .i64 0]) .zero := ⟨_, rfl, SlR.nil _ _⟩
theorem GateV.slice {H : Hp} {q : Value} {g : GateM} (h : SlR encStr H q g.queue) : ∃ b c, q = .slice b g.queue.length c := by
  obtain ⟨b, c, h1, _⟩ := h
  exact ⟨b, c, h1⟩

/-- The exported functions: the gate, and the error. -/
def GateR (w0 : World) (H : Hp) (L : List (Nat × Obj)) (r : GateM × Int) (e : Ending) (w' : World) : Prop :=
  ∃ f b c n H', e = .returned (.tuple #[.agg #[.int .i64 f, .slice b r.1.queue.length c, .int .i64 n], .int .i64 r.2]) ∧ Mem w0 H' L w' ∧ Hle H H' ∧ GateV H' (.agg #[.int .i64 f, .slice b r.1.queue.length c, .int .i64 n]) r.1

set_option maxHeartbeats 1000000 in
theorem changed_Ack (v : Value) (g : GateM) (r : Int × GateM) (caps : Array Value) {w0 w : World} {H : Hp} {L L' : List (Nat × Obj)} (m : Mem w0 H L w) (hv : GateV H v g) (hb : I64 g.first ∧ I64 g.next)
    (hdo : g.chk = 0 → ∀ X b w1, GateOwn w0 H (X ++ L) b g w1 → Calls Tryd.prog 35 (#[.pointer (some ⟨b, 0, none⟩)] ++ caps) w1 (DoR w0 H (X ++ L') b r)) :
    Calls Tryd.prog 32 #[v, .func (.func 35) #[] caps] w (ChangedR g r w0 H L L') := by
  obtain ⟨q, rfl, hq⟩ := hv
  have HQ := Lib.hid hq
  obtain ⟨qb, qc, rfl⟩ := GateV.slice hq
  clear hq
  have HB := Lib.hid hb; clear hb
  have HDO := Lib.hid hdo; clear hdo
  go_enter Tryd.func32, Tryd.ntmps32
  go_wp2_with fail
  have m1 := (m.alloc (.cells #[.int .i64 g.first, .slice qb g.queue.length qc, .int .i64 g.next] 29)).alloc (.cells #[.int .i64 0, .slice none 0 0, .int .i64 0] 29)
  simp only [World.size_alloc] at m1
  refine (newGate_any _ g m1 ⟨_, rfl, HQ.out⟩ HB.out).mono ?_
  rintro e w1 (⟨hk, rfl, m2⟩ | ⟨hk, b, rfl, hg⟩)
  · have hk1 : (g.chk == 0) = false := by simpa using hk
    have hk2 : (g.chk != 0) = true := by simpa using hk
    have HK := Lib.hid hk; clear hk
    have es := m2.eqs; simp only [EqsL, and_true] at es
    go_wp2_with fail
    refine bodyPost_ret (v := .tuple #[.agg #[.int .i64 0, .slice none 0 0, .int .i64 0], .int .i64 g.chk]) (by simp [results, Tryd.results32, go_sem, es]) rfl ?_
    have e1 : g.with1 r = (.zero, g.chk) := by unfold GateM.with1; rw [if_pos HK.out]
    unfold ChangedR
    rw [e1]
    refine ⟨0, none, 0, 0, H, rfl, ?_, Hle.refl _, GateV.zero _⟩
    rw [if_neg HK.out]
    exact (((m2.set .head).set .head).set .head).drop.drop
  · have hk1 : (g.chk == 0) = true := by simpa using hk
    have HK := Lib.hid hk; clear hk
    have HG := Lib.hid hg
    have ES := hg.mem.eqs
    simp only [EqsL] at ES
    clear hg
    go_wp2_with fail
    refine (HDO.out HK.out [_, _] b w1 HG.out).mono ?_
    rintro e w2 ⟨rfl, hg⟩
    clear ES
    have HG2 := Lib.hid hg
    obtain ⟨qb', qc', L0, m3, hq1, hq2, _, froz⟩ := hg.opened
    have FROZ := Lib.hid froz; clear froz
    simp only [List.cons_append, List.nil_append] at m3
    have m4 := m3.perm (List.Perm.cons _ (List.perm_append_comm))
    simp only [List.cons_append, List.append_assoc] at m4
    have es := m4.eqs; simp only [EqsL, and_true] at es
    by_cases hr : r.1 = 0
    · have hr1 : (r.1 == 0) = true := by simpa using hr
      have hr2 : (r.1 != 0) = false := by simpa using hr
      have HR := Lib.hid hr; clear hr
      go_wp2_with fail
      refine bodyPost_ret (v := .tuple #[.agg #[.int .i64 r.2.first, .slice qb' r.2.queue.length qc', .int .i64 r.2.next], .int .i64 0]) (by simp [results, Tryd.results32, go_sem, es]) rfl ?_
      have e1 : g.with1 r = (r.2, 0) := by unfold GateM.with1; rw [if_neg (by simpa using HK.out), if_neg (by simpa using HR.out)]
      unfold ChangedR
      rw [e1]
      have m5 := ((((m4.set (i := 0) (v := .int .i64 r.2.first) (.tail .head)).set (i := 1) (v := .slice qb' r.2.queue.length qc') (.tail .head)).set (i := 2) (v := .int .i64 r.2.next) (.tail .head))).perm (List.Perm.cons _ (List.perm_append_comm (l₁ := _ :: _ :: L') (l₂ := L0)))
      obtain ⟨H2, m6, hle, hsl⟩ := FROZ.out _ _ _ _ (Hle.refl _) m5
      refine ⟨_, _, _, _, H2, rfl, ?_, hle, _, rfl, hsl⟩
      rw [if_pos HK.out]
      exact m6.drop.drop.drop
    · have hr1 : (r.1 == 0) = false := by simpa using hr
      have hr2 : (r.1 != 0) = true := by simpa using hr
      have HR := Lib.hid hr; clear hr
      go_wp2_with fail
      refine bodyPost_ret (v := .tuple #[.agg #[.int .i64 0, .slice none 0 0, .int .i64 0], .int .i64 r.1]) (by simp [results, Tryd.results32, go_sem, es]) rfl ?_
      have e1 : g.with1 r = (.zero, r.1) := by unfold GateM.with1; rw [if_neg (by simpa using HK.out), if_pos (by simpa using HR.out)]
      unfold ChangedR
      rw [e1]
      have m5 := ((((m4.set (i := 0) (v := .int .i64 0) (.tail .head)).set (i := 1) (v := .slice none 0 0) (.tail .head)).set (i := 2) (v := .int .i64 0) (.tail .head))).perm (List.Perm.cons _ (List.perm_append_comm (l₁ := _ :: _ :: L') (l₂ := L0)))
      obtain ⟨H2, m6, hle, hsl⟩ := FROZ.out _ _ _ _ (Hle.refl _) m5
      refine ⟨0, none, 0, 0, H2, rfl, ?_, hle, GateV.zero _⟩
      rw [if_pos HK.out]
      exact m6.drop.drop.drop
theorem changedS_Ack (v : Value) (g : GateM) (r : Int × GateM) (caps : Array Value) {w0 w : World} {H : Hp} {L : List (Nat × Obj)} (m : Mem w0 H L w) (hv : GateV H v g) (hb : I64 g.first ∧ I64 g.next)
    (hdo : g.chk = 0 → ∀ X b w1, GateOwn w0 H (X ++ L) b g w1 → Calls Tryd.prog 35 (#[.pointer (some ⟨b, 0, none⟩)] ++ caps) w1 (DoR w0 H (X ++ L) b r)) :
    Calls Tryd.prog 32 #[v, .func (.func 35) #[] caps] w (GateR w0 H L (g.with1 r)) := by
  refine (changed_Ack v g r caps (L' := L) m hv hb hdo).mono ?_
  rintro e w1 ⟨f, b', c', n', H', rfl, m2, hle, hg⟩
  rw [ite_self] at m2
  exact ⟨f, b', c', n', H', rfl, m2, hle, hg⟩
set_option maxHeartbeats 1000000 in
theorem changed_Put (v : Value) (g : GateM) (r : Int × GateM) (caps : Array Value) {w0 w : World} {H : Hp} {L L' : List (Nat × Obj)} (m : Mem w0 H L w) (hv : GateV H v g) (hb : I64 g.first ∧ I64 g.next)
    (hdo : g.chk = 0 → ∀ X b w1, GateOwn w0 H (X ++ L) b g w1 → Calls Tryd.prog 33 (#[.pointer (some ⟨b, 0, none⟩)] ++ caps) w1 (DoR w0 H (X ++ L') b r)) :
    Calls Tryd.prog 32 #[v, .func (.func 33) #[] caps] w (ChangedR g r w0 H L L') := by
  obtain ⟨q, rfl, hq⟩ := hv
  have HQ := Lib.hid hq
  obtain ⟨qb, qc, rfl⟩ := GateV.slice hq
  clear hq
  have HB := Lib.hid hb; clear hb
  have HDO := Lib.hid hdo; clear hdo
  go_enter Tryd.func32, Tryd.ntmps32
  go_wp2_with fail
  have m1 := (m.alloc (.cells #[.int .i64 g.first, .slice qb g.queue.length qc, .int .i64 g.next] 29)).alloc (.cells #[.int .i64 0, .slice none 0 0, .int .i64 0] 29)
  simp only [World.size_alloc] at m1
  refine (newGate_any _ g m1 ⟨_, rfl, HQ.out⟩ HB.out).mono ?_
  rintro e w1 (⟨hk, rfl, m2⟩ | ⟨hk, b, rfl, hg⟩)
  · have hk1 : (g.chk == 0) = false := by simpa using hk
    have hk2 : (g.chk != 0) = true := by simpa using hk
    have HK := Lib.hid hk; clear hk
    have es := m2.eqs; simp only [EqsL, and_true] at es
    go_wp2_with fail
    refine bodyPost_ret (v := .tuple #[.agg #[.int .i64 0, .slice none 0 0, .int .i64 0], .int .i64 g.chk]) (by simp [results, Tryd.results32, go_sem, es]) rfl ?_
    have e1 : g.with1 r = (.zero, g.chk) := by unfold GateM.with1; rw [if_pos HK.out]
    unfold ChangedR
    rw [e1]
    refine ⟨0, none, 0, 0, H, rfl, ?_, Hle.refl _, GateV.zero _⟩
    rw [if_neg HK.out]
    exact (((m2.set .head).set .head).set .head).drop.drop
  · have hk1 : (g.chk == 0) = true := by simpa using hk
    have HK := Lib.hid hk; clear hk
    have HG := Lib.hid hg
    have ES := hg.mem.eqs
    simp only [EqsL] at ES
    clear hg
    go_wp2_with fail
    refine (HDO.out HK.out [_, _] b w1 HG.out).mono ?_
    rintro e w2 ⟨rfl, hg⟩
    clear ES
    have HG2 := Lib.hid hg
    obtain ⟨qb', qc', L0, m3, hq1, hq2, _, froz⟩ := hg.opened
    have FROZ := Lib.hid froz; clear froz
    simp only [List.cons_append, List.nil_append] at m3
    have m4 := m3.perm (List.Perm.cons _ (List.perm_append_comm))
    simp only [List.cons_append, List.append_assoc] at m4
    have es := m4.eqs; simp only [EqsL, and_true] at es
    by_cases hr : r.1 = 0
    · have hr1 : (r.1 == 0) = true := by simpa using hr
      have hr2 : (r.1 != 0) = false := by simpa using hr
      have HR := Lib.hid hr; clear hr
      go_wp2_with fail
      refine bodyPost_ret (v := .tuple #[.agg #[.int .i64 r.2.first, .slice qb' r.2.queue.length qc', .int .i64 r.2.next], .int .i64 0]) (by simp [results, Tryd.results32, go_sem, es]) rfl ?_
      have e1 : g.with1 r = (r.2, 0) := by unfold GateM.with1; rw [if_neg (by simpa using HK.out), if_neg (by simpa using HR.out)]
      unfold ChangedR
      rw [e1]
      have m5 := ((((m4.set (i := 0) (v := .int .i64 r.2.first) (.tail .head)).set (i := 1) (v := .slice qb' r.2.queue.length qc') (.tail .head)).set (i := 2) (v := .int .i64 r.2.next) (.tail .head))).perm (List.Perm.cons _ (List.perm_append_comm (l₁ := _ :: _ :: L') (l₂ := L0)))
      obtain ⟨H2, m6, hle, hsl⟩ := FROZ.out _ _ _ _ (Hle.refl _) m5
      refine ⟨_, _, _, _, H2, rfl, ?_, hle, _, rfl, hsl⟩
      rw [if_pos HK.out]
      exact m6.drop.drop.drop
    · have hr1 : (r.1 == 0) = false := by simpa using hr
      have hr2 : (r.1 != 0) = true := by simpa using hr
      have HR := Lib.hid hr; clear hr
      go_wp2_with fail
      refine bodyPost_ret (v := .tuple #[.agg #[.int .i64 0, .slice none 0 0, .int .i64 0], .int .i64 r.1]) (by simp [results, Tryd.results32, go_sem, es]) rfl ?_
      have e1 : g.with1 r = (.zero, r.1) := by unfold GateM.with1; rw [if_neg (by simpa using HK.out), if_pos (by simpa using HR.out)]
      unfold ChangedR
      rw [e1]
      have m5 := ((((m4.set (i := 0) (v := .int .i64 0) (.tail .head)).set (i := 1) (v := .slice none 0 0) (.tail .head)).set (i := 2) (v := .int .i64 0) (.tail .head))).perm (List.Perm.cons _ (List.perm_append_comm (l₁ := _ :: _ :: L') (l₂ := L0)))
      obtain ⟨H2, m6, hle, hsl⟩ := FROZ.out _ _ _ _ (Hle.refl _) m5
      refine ⟨0, none, 0, 0, H2, rfl, ?_, hle, GateV.zero _⟩
      rw [if_pos HK.out]
      exact m6.drop.drop.drop
theorem changedS_Put (v : Value) (g : GateM) (r : Int × GateM) (caps : Array Value) {w0 w : World} {H : Hp} {L : List (Nat × Obj)} (m : Mem w0 H L w) (hv : GateV H v g) (hb : I64 g.first ∧ I64 g.next)
    (hdo : g.chk = 0 → ∀ X b w1, GateOwn w0 H (X ++ L) b g w1 → Calls Tryd.prog 33 (#[.pointer (some ⟨b, 0, none⟩)] ++ caps) w1 (DoR w0 H (X ++ L) b r)) :
    Calls Tryd.prog 32 #[v, .func (.func 33) #[] caps] w (GateR w0 H L (g.with1 r)) := by
  refine (changed_Put v g r caps (L' := L) m hv hb hdo).mono ?_
  rintro e w1 ⟨f, b', c', n', H', rfl, m2, hle, hg⟩
  rw [ite_self] at m2
  exact ⟨f, b', c', n', H', rfl, m2, hle, hg⟩
set_option maxHeartbeats 1000000 in
theorem changed_Offer (v : Value) (g : GateM) (r : Int × GateM) (caps : Array Value) {w0 w : World} {H : Hp} {L L' : List (Nat × Obj)} (m : Mem w0 H L w) (hv : GateV H v g) (hb : I64 g.first ∧ I64 g.next)
    (hdo : g.chk = 0 → ∀ X b w1, GateOwn w0 H (X ++ L) b g w1 → Calls Tryd.prog 37 (#[.pointer (some ⟨b, 0, none⟩)] ++ caps) w1 (DoR w0 H (X ++ L') b r)) :
    Calls Tryd.prog 32 #[v, .func (.func 37) #[] caps] w (ChangedR g r w0 H L L') := by
  obtain ⟨q, rfl, hq⟩ := hv
  have HQ := Lib.hid hq
  obtain ⟨qb, qc, rfl⟩ := GateV.slice hq
  clear hq
  have HB := Lib.hid hb; clear hb
  have HDO := Lib.hid hdo; clear hdo
  go_enter Tryd.func32, Tryd.ntmps32
  go_wp2_with fail
  have m1 := (m.alloc (.cells #[.int .i64 g.first, .slice qb g.queue.length qc, .int .i64 g.next] 29)).alloc (.cells #[.int .i64 0, .slice none 0 0, .int .i64 0] 29)
  simp only [World.size_alloc] at m1
  refine (newGate_any _ g m1 ⟨_, rfl, HQ.out⟩ HB.out).mono ?_
  rintro e w1 (⟨hk, rfl, m2⟩ | ⟨hk, b, rfl, hg⟩)
  · have hk1 : (g.chk == 0) = false := by simpa using hk
    have hk2 : (g.chk != 0) = true := by simpa using hk
    have HK := Lib.hid hk; clear hk
    have es := m2.eqs; simp only [EqsL, and_true] at es
    go_wp2_with fail
    refine bodyPost_ret (v := .tuple #[.agg #[.int .i64 0, .slice none 0 0, .int .i64 0], .int .i64 g.chk]) (by simp [results, Tryd.results32, go_sem, es]) rfl ?_
    have e1 : g.with1 r = (.zero, g.chk) := by unfold GateM.with1; rw [if_pos HK.out]
    unfold ChangedR
    rw [e1]
    refine ⟨0, none, 0, 0, H, rfl, ?_, Hle.refl _, GateV.zero _⟩
    rw [if_neg HK.out]
    exact (((m2.set .head).set .head).set .head).drop.drop
  · have hk1 : (g.chk == 0) = true := by simpa using hk
    have HK := Lib.hid hk; clear hk
    have HG := Lib.hid hg
    have ES := hg.mem.eqs
    simp only [EqsL] at ES
    clear hg
    go_wp2_with fail
    refine (HDO.out HK.out [_, _] b w1 HG.out).mono ?_
    rintro e w2 ⟨rfl, hg⟩
    clear ES
    have HG2 := Lib.hid hg
    obtain ⟨qb', qc', L0, m3, hq1, hq2, _, froz⟩ := hg.opened
    have FROZ := Lib.hid froz; clear froz
    simp only [List.cons_append, List.nil_append] at m3
    have m4 := m3.perm (List.Perm.cons _ (List.perm_append_comm))
    simp only [List.cons_append, List.append_assoc] at m4
    have es := m4.eqs; simp only [EqsL, and_true] at es
    by_cases hr : r.1 = 0
    · have hr1 : (r.1 == 0) = true := by simpa using hr
      have hr2 : (r.1 != 0) = false := by simpa using hr
      have HR := Lib.hid hr; clear hr
      go_wp2_with fail
      refine bodyPost_ret (v := .tuple #[.agg #[.int .i64 r.2.first, .slice qb' r.2.queue.length qc', .int .i64 r.2.next], .int .i64 0]) (by simp [results, Tryd.results32, go_sem, es]) rfl ?_
      have e1 : g.with1 r = (r.2, 0) := by unfold GateM.with1; rw [if_neg (by simpa using HK.out), if_neg (by simpa using HR.out)]
      unfold ChangedR
      rw [e1]
      have m5 := ((((m4.set (i := 0) (v := .int .i64 r.2.first) (.tail .head)).set (i := 1) (v := .slice qb' r.2.queue.length qc') (.tail .head)).set (i := 2) (v := .int .i64 r.2.next) (.tail .head))).perm (List.Perm.cons _ (List.perm_append_comm (l₁ := _ :: _ :: L') (l₂ := L0)))
      obtain ⟨H2, m6, hle, hsl⟩ := FROZ.out _ _ _ _ (Hle.refl _) m5
      refine ⟨_, _, _, _, H2, rfl, ?_, hle, _, rfl, hsl⟩
      rw [if_pos HK.out]
      exact m6.drop.drop.drop
    · have hr1 : (r.1 == 0) = false := by simpa using hr
      have hr2 : (r.1 != 0) = true := by simpa using hr
      have HR := Lib.hid hr; clear hr
      go_wp2_with fail
      refine bodyPost_ret (v := .tuple #[.agg #[.int .i64 0, .slice none 0 0, .int .i64 0], .int .i64 r.1]) (by simp [results, Tryd.results32, go_sem, es]) rfl ?_
      have e1 : g.with1 r = (.zero, r.1) := by unfold GateM.with1; rw [if_neg (by simpa using HK.out), if_pos (by simpa using HR.out)]
      unfold ChangedR
      rw [e1]
      have m5 := ((((m4.set (i := 0) (v := .int .i64 0) (.tail .head)).set (i := 1) (v := .slice none 0 0) (.tail .head)).set (i := 2) (v := .int .i64 0) (.tail .head))).perm (List.Perm.cons _ (List.perm_append_comm (l₁ := _ :: _ :: L') (l₂ := L0)))
      obtain ⟨H2, m6, hle, hsl⟩ := FROZ.out _ _ _ _ (Hle.refl _) m5
      refine ⟨0, none, 0, 0, H2, rfl, ?_, hle, GateV.zero _⟩
      rw [if_pos HK.out]
      exact m6.drop.drop.drop
theorem changedS_Offer (v : Value) (g : GateM) (r : Int × GateM) (caps : Array Value) {w0 w : World} {H : Hp} {L : List (Nat × Obj)} (m : Mem w0 H L w) (hv : GateV H v g) (hb : I64 g.first ∧ I64 g.next)
    (hdo : g.chk = 0 → ∀ X b w1, GateOwn w0 H (X ++ L) b g w1 → Calls Tryd.prog 37 (#[.pointer (some ⟨b, 0, none⟩)] ++ caps) w1 (DoR w0 H (X ++ L) b r)) :
    Calls Tryd.prog 32 #[v, .func (.func 37) #[] caps] w (GateR w0 H L (g.with1 r)) := by
  refine (changed_Offer v g r caps (L' := L) m hv hb hdo).mono ?_
  rintro e w1 ⟨f, b', c', n', H', rfl, m2, hle, hg⟩
  rw [ite_self] at m2
  exact ⟨f, b', c', n', H', rfl, m2, hle, hg⟩


set_option maxHeartbeats 1000000 in
theorem Ack_any (v : Value) (g : GateM) (x : Int) {w0 w : World} {H : Hp} {L : List (Nat × Obj)} (m : Mem w0 H L w) (hv : GateV H v g) (hb : I64 g.first ∧ I64 g.next) (hn : I64 x) :
    Calls Tryd.prog 19 #[v, .int .i64 x] w (GateR w0 H L (g.with1 (g.ack1 x))) := by
  obtain ⟨q, rfl, hq⟩ := hv
  have HQ := Lib.hid hq
  obtain ⟨qb, qc, rfl⟩ := GateV.slice hq
  clear hq
  go_enter Tryd.func19, Tryd.ntmps19
  go_wp2_with fail
  have m1 := ((m.alloc (.cells #[.int .i64 g.first, .slice qb g.queue.length qc, .int .i64 g.next] 29)).alloc (.cells #[.int .i64 x] 3)).alloc (.cells #[.int .i64 0, .slice none 0 0, .int .i64 0] 29)
  simp only [World.size_alloc] at m1
  refine (changedS_Ack _ g (g.ack1 x) #[_] m1 ⟨_, rfl, HQ.out⟩ hb ?_).mono ?_
  · intro hk X b w1 hg
    exact Ack1_any b _ g x hg (GateM.small_of hk) hn (by simp)
  rintro e w1 ⟨f, b', c', n', H', rfl, m2, hle, hg⟩
  have HG := Lib.hid hg; clear hg
  have es := m2.eqs; simp only [EqsL, and_true] at es
  go_wp2_with fail
  refine bodyPost_ret (v := .tuple #[.agg #[.int .i64 f, .slice b' (g.with1 (g.ack1 x)).1.queue.length c', .int .i64 n'], .int .i64 (g.with1 (g.ack1 x)).2]) (by simp [results, Tryd.results19, go_sem, es]) rfl ?_
  exact ⟨f, b', c', n', H', rfl, (((m2.set .head).set .head).set .head).drop.drop.drop, hle, HG.out⟩

set_option maxHeartbeats 1000000 in
theorem Put_any (v : Value) (g : GateM) (x : ByteArray) {w0 w : World} {H : Hp} {L : List (Nat × Obj)} (m : Mem w0 H L w) (hv : GateV H v g) (hb : I64 g.first ∧ I64 g.next) (hn : x.size ≤ maxLen) :
    Calls Tryd.prog 15 #[v, .string x] w (GateR w0 H L (g.with1 (g.put1 x))) := by
  obtain ⟨q, rfl, hq⟩ := hv
  have HQ := Lib.hid hq
  obtain ⟨qb, qc, rfl⟩ := GateV.slice hq
  clear hq
  go_enter Tryd.func15, Tryd.ntmps15
  go_wp2_with fail
  have m1 := ((m.alloc (.cells #[.int .i64 g.first, .slice qb g.queue.length qc, .int .i64 g.next] 29)).alloc (.cells #[.string x] 9)).alloc (.cells #[.int .i64 0, .slice none 0 0, .int .i64 0] 29)
  simp only [World.size_alloc] at m1
  refine (changedS_Put _ g (g.put1 x) #[_] m1 ⟨_, rfl, HQ.out⟩ hb ?_).mono ?_
  · intro hk X b w1 hg
    exact Put1_any b _ g x hg (GateM.small_of hk) hn (by simp)
  rintro e w1 ⟨f, b', c', n', H', rfl, m2, hle, hg⟩
  have HG := Lib.hid hg; clear hg
  have es := m2.eqs; simp only [EqsL, and_true] at es
  go_wp2_with fail
  refine bodyPost_ret (v := .tuple #[.agg #[.int .i64 f, .slice b' (g.with1 (g.put1 x)).1.queue.length c', .int .i64 n'], .int .i64 (g.with1 (g.put1 x)).2]) (by simp [results, Tryd.results15, go_sem, es]) rfl ?_
  exact ⟨f, b', c', n', H', rfl, (((m2.set .head).set .head).set .head).drop.drop.drop, hle, HG.out⟩

end Go.Proofs.YtpkcdkbbhiafnaaDoor
