/- The walk: the reference's Crashed. -/
import Derived.Test.YtpkcdkbbhiafnaaWorldA
import Derived.Deep.CutRange
namespace Go.Proofs.Ytpkcdkbbhiafnaa
set_option linter.unusedVariables false
set_option linter.unusedSimpArgs false
open Go.RowKit

section
variable {g : GateM} {f n k e : Int} {q l : List ByteArray} {s : ByteArray} {c : Nat}
theorem again_good (hp : g.ok c) (hc : c ≤ 1000000) (h : g.with1 (g.put1 s) = (⟨f, q, n⟩, 0)) : again (g, l, e) s = (⟨f, q, n⟩, l ++ [s], e) := by
  rw [hp.with1 hc] at h
  split at h
  · rename_i h3
    simp only [Prod.mk.injEq] at h
    exact absurd h.2 h3
  · rename_i h3
    simp only [Prod.mk.injEq, and_true] at h
    have h4 : (g.put1 s).1 = 0 := by simpa using h3
    unfold again
    simp only
    rw [if_pos h4, if_neg (by simp [h4]), h]
theorem again_bad (hp : g.ok c) (hc : c ≤ 1000000) (h : g.with1 (g.put1 s) = (⟨f, q, n⟩, k)) (hk : k ≠ 0) : again (g, l, e) s = (g, l, if e = 0 then k else e) := by
  rw [hp.with1 hc] at h
  split at h
  · rename_i h3
    simp only [Prod.mk.injEq] at h
    unfold again
    simp only
    rw [if_neg h3, GateM.put1_bad2 g s h3, h.2]
    by_cases he : e = 0
    · rw [if_pos ⟨hk, he⟩, if_pos he]
    · rw [if_neg (by simp [he]), if_neg he]
  · simp only [Prod.mk.injEq] at h
    exact absurd h.2.symm hk
end

theorem CellH.ne {H : Hp} {b i k : Nat} {v : Value} {o : Obj} {w0 w : World} {L : List (Nat × Obj)} (h : CellH H b i v) (m : Mem w0 H L w) (hk : (k, o) ∈ L) : b ≠ k ∧ k ≠ b := by
  obtain ⟨c, t, f, h1, h2⟩ := h
  have h3 := (m.loc _ hk).2
  have h4 : b ≠ k := fun e => by subst e; simp only at h3; rw [h3] at h1; cases h1
  exact ⟨h4, fun e => h4 e.symm⟩
theorem perm_crash {α : Type} (a b c d e : α) (L3 L : List α) : (a :: b :: c :: d :: e :: (L3 ++ L)).Perm (L3 ++ (a :: b :: c :: d :: e :: L)) := (by classical exact List.perm_iff_count.2 (fun a => by simp only [List.count_append, List.count_cons, List.cons_append, List.nil_append, List.append_assoc]; omega))
theorem perm_crash2 {α : Type} (a b c d e : α) (L3 L : List α) : (L3 ++ (a :: b :: c :: d :: e :: L)).Perm (a :: b :: c :: d :: e :: (L3 ++ L)) := (by classical exact List.perm_iff_count.2 (fun a => by simp only [List.count_append, List.count_cons, List.cons_append, List.nil_append, List.append_assoc]; omega))

set_option maxRecDepth 10000 in
set_option maxHeartbeats 4000000 in
theorem Crashed_any (qb : Option Addr) (qc : Nat) (sb : Option Addr) (sc : Nat) (nb : Option Addr) (nc : Nat) (ob : Option Addr) (oc : Nat) (p : PlayM) (k : Nat) {w0 w : World} {H : Hp} {L : List (Nat × Obj)} (m : Mem w0 H L w) (hp : p.ok k) (hk : k ≤ 1000)
    (h1 : SlR encStr H (.slice qb p.gate.queue.length qc) p.gate.queue) (h2 : SlR encStr H (.slice sb p.saved.queue.length sc) p.saved.queue) (h3 : SlR encStr H (.slice nb p.since.length nc) p.since) (h4 : SlR encStr H (.slice ob p.out.length oc) p.out) :
    Calls Try.prog 58 #[.agg #[.int .i64 p.gate.first, .slice qb p.gate.queue.length qc, .int .i64 p.gate.next, .int .i64 p.saved.first, .slice sb p.saved.queue.length sc, .int .i64 p.saved.next, .slice nb p.since.length nc, .slice ob p.out.length oc]] w (WorldR w0 H L p.crash.1 p.crash.2) := by
  have H1 := Lib.hid h1; clear h1
  have H2 := Lib.hid h2; clear h2
  have hnc : p.since.length ≤ nc ∧ nc ≤ 9223372036854775807 := by
    obtain ⟨_, _, hv, hc1, hc2, _, _⟩ := h3
    cases hv
    exact ⟨hc1, size_le_maxLen hc2⟩
  obtain ⟨hnc1, hnc2⟩ := hnc
  have H3 := Lib.hid h3; clear h3
  have H4 := Lib.hid h4; clear h4
  have HP := Lib.hid hp; clear hp
  have hsq := HP.out.saved.len
  have hlen : p.since.length ≤ 1000 := by have := HP.out.since; have := HP.out.saved.lo; omega
  go_enter Try.func58, Try.ntmps58
  have m2 := (m.alloc (.cells #[.int .i64 p.gate.first, .slice qb p.gate.queue.length qc, .int .i64 p.gate.next, .int .i64 p.saved.first, .slice sb p.saved.queue.length sc, .int .i64 p.saved.next, .slice nb p.since.length nc, .slice ob p.out.length oc] 78)).alloc (.cells #[.int .i64 0, .slice none 0 0, .int .i64 0, .int .i64 0, .slice none 0 0, .int .i64 0, .slice none 0 0, .slice none 0 0] 78)
  simp only [World.size_alloc] at m2
  go_upto_region 1 with fail
  go_cut [4, 5] from 9 to 16 (fun v4 v5 wx => v5 = .int .i64 0 ∧ ∃ (bo : Nat) (b2 : Option Addr) (c2 : Nat) (H5 : Hp), v4 = .pointer (some ⟨bo, 0, none⟩) ∧ Hle H H5 ∧ SlR encStr H5 (.slice b2 p.saved.queue.length c2) p.saved.queue ∧ Mem w0 H5 ((bo, .cells #[.int .i64 p.saved.first, .slice b2 p.saved.queue.length c2, .int .i64 p.saved.next, .int .i64 p.saved.first, .slice sb p.saved.queue.length sc, .int .i64 p.saved.next, .slice none 0 0, .slice ob p.out.length oc] 78) :: (w.heap.size + 1, .cells #[.int .i64 0, .slice none 0 0, .int .i64 0, .int .i64 0, .slice none 0 0, .int .i64 0, .slice none 0 0, .slice none 0 0] 78) :: (w.heap.size, .cells #[.int .i64 p.gate.first, .slice qb p.gate.queue.length qc, .int .i64 p.gate.next, .int .i64 p.saved.first, .slice sb p.saved.queue.length sc, .int .i64 p.saved.next, .slice nb p.since.length nc, .slice ob p.out.length oc] 78) :: L) wx)
  case first =>
    have es := m2.eqs; simp only [EqsL, and_true] at es
    have ns := (m2.alloc (.cells #[.int .i64 0, .slice none 0 0, .int .i64 0, .int .i64 0, .slice none 0 0, .int .i64 0, .slice none 0 0, .slice none 0 0] 78)).nes; simp only [NeL, NeFrom, and_true, true_and, World.size_alloc] at ns
    have hne := trivial
    have mZ := (m2.alloc (.cells #[.int .i64 0, .slice none 0 0, .int .i64 0, .int .i64 0, .slice none 0 0, .int .i64 0, .slice none 0 0, .slice none 0 0] 78)).drew
    simp only [World.size_alloc] at mZ
    go_region_held3 (fun w' => w'.cell? ⟨w.heap.size, 3, none⟩ = some (.int .i64 p.saved.first) ∧ w'.cell? ⟨w.heap.size, 4, none⟩ = some (.slice sb p.saved.queue.length sc) ∧ w'.cell? ⟨w.heap.size, 5, none⟩ = some (.int .i64 p.saved.next) ∧ w'.cell? ⟨w.heap.size, 7, none⟩ = some (.slice ob p.out.length oc))
      (simp [es, ns, hne, World.cell?_alloc_lt, World.size_alloc, Nat.lt_succ_of_lt, World.cell?_setCell_other]) (first
        | (go_at_call 12; refine (Copy_any _ p.saved m2.drew ⟨_, rfl, H2.out⟩ (by omega)).mono ?_; rintro e w2 hR; obtain ⟨b2, c2, H5, rfl, m4, hl4, hs4⟩ := CopyR.lit (f := p.saved.first) (q := p.saved.queue) (n := p.saved.next) rfl hR; have HS4 := Lib.hid hs4; clear hR hs4 es hne; have es := m4.eqs; simp only [EqsL, and_true] at es; have hne : (w.heap.size ≠ w2.heap.size ∧ w2.heap.size ≠ w.heap.size) ∧ (w.heap.size + 1 ≠ w2.heap.size ∧ w2.heap.size ≠ w.heap.size + 1) := ⟨⟨by omega, by omega⟩, ⟨by omega, by omega⟩⟩)
        | (go_at_call 12; refine (Copy_any _ p.saved mZ ⟨_, rfl, H2.out⟩ (by omega)).mono ?_; rintro e w2 hR; obtain ⟨b2, c2, H5, rfl, m4, hl4, hs4⟩ := CopyR.lit (f := p.saved.first) (q := p.saved.queue) (n := p.saved.next) rfl hR; have HS4 := Lib.hid hs4; clear hR hs4 es hne; have es := m4.eqs; simp only [EqsL, and_true] at es; have hne : (w.heap.size ≠ w2.heap.size ∧ w2.heap.size ≠ w.heap.size) ∧ (w.heap.size + 1 ≠ w2.heap.size ∧ w2.heap.size ≠ w.heap.size + 1) := ⟨⟨by omega, by omega⟩, ⟨by omega, by omega⟩⟩)
        | fail "no arm")
    all_goals (go_wp2_with fail; go_meet)
    · exact ⟨rfl, _, b2, c2, H5, rfl, hl4, HS4.out, m4.alloc _⟩
    · exact ⟨rfl, _, b2, c2, H5, rfl, hl4, HS4.out, m4.set8 .head⟩
  case rest =>
    obtain ⟨rfl, bo, b2, c2, H2', rfl, hl2, hs2, m3⟩ := hcut
    have HS2 := Lib.hid hs2; clear hs2 m2
    go_wp2_with fail
    go_loopw [5, 6, 7, 8] (fun v5 v6 _ _ wr => ∃ (j : Nat) (q1 : Option Addr) (q2 : Nat) (b3 : Option Addr) (c3 : Nat) (H' : Hp) (cs3 : List Value) (L3 : List (Nat × Obj)), j ≤ p.since.length ∧ v6 = .int .i64 j ∧ v5 = .int .i64 (p.redo (p.since.take j)).2.2 ∧ Hle H H' ∧ SlR encStr H' (.slice q1 (p.redo (p.since.take j)).1.queue.length q2) (p.redo (p.since.take j)).1.queue ∧ AccL 9 1 (.slice b3 (p.redo (p.since.take j)).2.1.length c3) (p.redo (p.since.take j)).2.1.length cs3 L3 ∧ Chunks encStr H' cs3 (p.redo (p.since.take j)).2.1 ∧ Mem w0 H' ((bo, .cells #[.int .i64 (p.redo (p.since.take j)).1.first, .slice q1 (p.redo (p.since.take j)).1.queue.length q2, .int .i64 (p.redo (p.since.take j)).1.next, .int .i64 p.saved.first, .slice sb p.saved.queue.length sc, .int .i64 p.saved.next, .slice b3 (p.redo (p.since.take j)).2.1.length c3, .slice ob p.out.length oc] 78) :: (w.heap.size + 1, .cells #[.int .i64 0, .slice none 0 0, .int .i64 0, .int .i64 0, .slice none 0 0, .int .i64 0, .slice none 0 0, .slice none 0 0] 78) :: (w.heap.size, .cells #[.int .i64 p.gate.first, .slice qb p.gate.queue.length qc, .int .i64 p.gate.next, .int .i64 p.saved.first, .slice sb p.saved.queue.length sc, .int .i64 p.saved.next, .slice nb p.since.length nc, .slice ob p.out.length oc] 78) :: (L3 ++ L)) wr) (fun _ i _ _ _ => p.since.length - (intOf i).toNat)
    case atStart => exact ⟨0, b2, c2, none, 0, H2', [], [], Nat.zero_le _, rfl, rfl, hl2, HS2.out, AccL.nil, .nil, m3⟩
    case round =>
      obtain ⟨j, q1, q2, b3, c3, H', cs3, L3, hj, rfl, rfl, hle, hq, ha3, hch3, m4⟩ := hrel
      have HCH := Lib.hid hch3; clear hch3 m3
      have HQ := Lib.hid hq; clear hq
      by_cases hlt : j < p.since.length
      · have hrok := PlayM.redo_ok HP.out (p.since.take j) (by simp; omega)
        have hstep : p.redo (p.since.take (j + 1)) = again (p.redo (p.since.take j)) p.since[j] := by
          unfold PlayM.redo
          rw [List.take_succ_eq_append_getElem hlt, List.foldl_append]
          rfl
        have hrl : (p.redo (p.since.take j)).2.1.length ≤ 1000 := by have := hrok.2; simp at this; omega
        have HROK := Lib.hid hrok.1; clear hrok
        have HST := Lib.hid hstep; clear hstep
        obtain ⟨blk, off, rfl, hce, hsz⟩ := ((H3.out.mono hle)).cellV hlt
        have hcell := hce.cell m4
        have hblk := hce.lt m4
        have hbo := hce.ne m4 (.head _)
        have HCE := Lib.hid hce; clear hce
        generalize p.since[j] = s at *
        generalize (p.redo (p.since.take j)) = r at *
        obtain ⟨g, l, fe⟩ := r
        simp only at *
        generalize hrr : g.with1 (g.put1 s) = rr at *
        obtain ⟨⟨f, q, n⟩, k2⟩ := rr
        have HRR := Lib.hid hrr; clear hrr
        have mG := (m4.alloc (.cells #[.int .i64 0, .slice none 0 0, .int .i64 0] 24)).drew
        have es := m4.eqs; simp only [EqsL, and_true] at es
        have ns := mG.nes; simp only [NeL, NeFrom, and_true, true_and] at ns
        have hne : blk ≠ wr.heap.size ∧ wr.heap.size ≠ blk := ⟨by omega, by omega⟩
        go_upto_region 5 with fail
        go_cut [7, 8] from 17 to 51 (fun v7 v8 wx => v8 = .int .i64 k2 ∧ ∃ (gb : Nat) (b5 : Option Addr) (c5 : Nat) (H5 : Hp), v7 = .pointer (some ⟨gb, 0, none⟩) ∧ Hle H' H5 ∧ SlR encStr H5 (.slice b5 q.length c5) q ∧ Mem w0 H5 ((gb, .cells #[.int .i64 f, .slice b5 q.length c5, .int .i64 n] 24) :: (bo, .cells #[.int .i64 g.first, .slice q1 g.queue.length q2, .int .i64 g.next, .int .i64 p.saved.first, .slice sb p.saved.queue.length sc, .int .i64 p.saved.next, .slice b3 l.length c3, .slice ob p.out.length oc] 78) :: (w.heap.size + 1, .cells #[.int .i64 0, .slice none 0 0, .int .i64 0, .int .i64 0, .slice none 0 0, .int .i64 0, .slice none 0 0, .slice none 0 0] 78) :: (w.heap.size, .cells #[.int .i64 p.gate.first, .slice qb p.gate.queue.length qc, .int .i64 p.gate.next, .int .i64 p.saved.first, .slice sb p.saved.queue.length sc, .int .i64 p.saved.next, .slice (some ⟨blk, off, none⟩) p.since.length nc, .slice ob p.out.length oc] 78) :: (L3 ++ L)) wx)
        case first =>
          go_region_held3 (fun w' => w'.cell? ⟨bo, 0, none⟩ = some (.int .i64 g.first) ∧ w'.cell? ⟨bo, 1, none⟩ = some (.slice q1 g.queue.length q2) ∧ w'.cell? ⟨bo, 2, none⟩ = some (.int .i64 g.next) ∧ w'.cell? ⟨w.heap.size, 6, none⟩ = some (.slice (some ⟨blk, off, none⟩) p.since.length nc) ∧ w'.cell? ⟨blk, off + j, none⟩ = some (.string s))
            (simp [es, ns, hne, hcell, hblk, World.cell?_alloc_lt, World.size_alloc, Nat.lt_succ_of_lt, World.cell?_setCell_other]) (first
            | (go_at_call 28; refine (RPut_any _ g s m4.drew ⟨_, rfl, HQ.out⟩ hsz).mono ?_; rintro e w2 hR; rw [HRR.out] at hR; obtain ⟨b5, c5, H5, rfl, m5, hl5, hs5⟩ := GateR.lit (f := f) (q := q) (n := n) (k := k2) rfl rfl hR; have HS5 := Lib.hid hs5; clear hR hs5 es hcell hblk; have es := m5.eqs; simp only [EqsL, and_true] at es; have hcell := (HCE.out.mono hl5).cell m5; have hblk := (HCE.out.mono hl5).lt m5)
            | (go_at_call 28; refine (RPut_any _ g s mG ⟨_, rfl, HQ.out⟩ hsz).mono ?_; rintro e w2 hR; rw [HRR.out] at hR; obtain ⟨b5, c5, H5, rfl, m5, hl5, hs5⟩ := GateR.lit (f := f) (q := q) (n := n) (k := k2) rfl rfl hR; have HS5 := Lib.hid hs5; clear hR hs5 es hcell hblk; have es := m5.eqs; simp only [EqsL, and_true] at es; have hcell := (HCE.out.mono hl5).cell m5; have hblk := (HCE.out.mono hl5).lt m5)
            | fail "no arm")
          · go_wp2_with fail
            go_meet
            exact ⟨rfl, _, b5, c5, H5, rfl, hl5, HS5.out, m5.alloc _⟩
          · go_wp2_with fail
            go_meet
            exact ⟨rfl, _, b5, c5, H5, rfl, hl5, HS5.out, m5.set3 .head⟩
        case rest =>
          obtain ⟨rfl, gb, b5, c5, H5, rfl, hl5, hs5, m6⟩ := hcut
          have HS5 := Lib.hid hs5; clear hs5 es ns hcell hblk hne m4 mG
          have es := m6.eqs; simp only [EqsL, and_true] at es
          have ns := m6.nes; simp only [NeL, NeFrom, and_true, true_and] at ns
          have hcell := (HCE.out.mono hl5).cell m6
          have hblk := (HCE.out.mono hl5).lt m6
          by_cases he : k2 = 0
          · subst he
            have hst := HST.out.trans (again_good (l := l) (e := fe) HROK.out (by omega) HRR.out)
            have HST2 := Lib.hid hst; clear hst
            go_wp2_with fail
            have mp := ((m6.alloc (.cells #[.string s] 9)).drew).perm (perm_crash _ _ _ _ _ L3 L)
            go_region_law (first
              | (refine step_append_mem (w0 := w0) (H := H5) (L := _ :: _) rfl _ _ 22 rfl 9 1 16 (.string ByteArray.empty) Try.underlying22 (by kernel_rfl) rfl (by decide) (.slice b3 l.length c3) l.length cs3 (ha3.join mp) rfl _ 1 [.string s] (Src.loc (e := 9) (ha3.join mp).mem (.head _)) rfl rfl (by simp [Value.oneCell']) (by omega) (by unfold maxLen; omega) ?_; intro v' w' hacc; obtain ⟨b', c', rfl, _, _⟩ := hacc.shape; clear es hcell hblk; have es := hacc.mem.eqs; simp only [EqsL, and_true] at es; have hcell := (HCE.out.mono hl5).cell hacc.mem; have hblk := (HCE.out.mono hl5).lt hacc.mem; have HACC := Lib.hid hacc; clear hacc)
              | fail "no arm")
            all_goals
              go_wp2_with fail
              obtain ⟨L5, ha5, m7⟩ := HACC.out.split
              have m8 := (m7.perm (perm_crash2 _ _ _ _ _ L5 L)).drop.drop
              have m9 := (m8.set3b (x0 := .int .i64 f) (x1 := .slice b5 q.length c5) (x2 := .int .i64 n) .head).set (i := 6) (v := .slice b' (l.length + 1) c') .head
              simp only [List.setIfInBounds_toArray, List.set_cons_zero, List.set_cons_succ] at m9
              have hl1 : (l ++ [s]).length = l.length + 1 := by simp
              go_roundw
              case rel =>
                refine ⟨j + 1, b5, c5, b', c', H5, cs3 ++ [.string s], L5, by omega, by go_num, ?_, hle.trans hl5, ?_, ?_, ?_, ?_⟩
                · rw [HST2.out]
                · rw [HST2.out]; exact HS5.out
                · rw [HST2.out]; simp only [hl1]; exact ha5
                · rw [HST2.out]; exact (HCH.out.mono hl5).append (.one (x := s) ⟨rfl, hsz⟩ rfl)
                · rw [HST2.out]; simp only [hl1]; exact m9
              case measure => simp [intOf]; omega
          · have he1 : (k2 == 0) = false := by simpa using he
            have hst := HST.out.trans (again_bad (l := l) (e := fe) HROK.out (by omega) HRR.out he)
            by_cases hf : fe = 0
            · rw [if_pos hf] at hst
              have HST2 := Lib.hid hst; clear hst
              have hf1 : (fe == 0) = true := by simpa using hf
              have HE := Lib.hid he; clear he
              have HF := Lib.hid hf; clear hf
              go_wp2_with fail
              go_roundw
              case rel =>
                refine ⟨j + 1, q1, q2, b3, c3, H5, cs3, L3, by omega, by go_num, ?_, hle.trans hl5, ?_, ?_, ?_, ?_⟩
                · rw [HST2.out]
                · rw [HST2.out]; exact HQ.out.mono hl5
                · rw [HST2.out]; exact ha3
                · rw [HST2.out]; exact HCH.out.mono hl5
                · rw [HST2.out]; exact m6.drop
              case measure => simp [intOf]; omega
            · rw [if_neg hf] at hst
              have HST2 := Lib.hid hst; clear hst
              have hf1 : (fe == 0) = false := by simpa using hf
              have HE := Lib.hid he; clear he
              have HF := Lib.hid hf; clear hf
              go_wp2_with fail
              go_roundw
              case rel =>
                refine ⟨j + 1, q1, q2, b3, c3, H5, cs3, L3, by omega, by go_num, ?_, hle.trans hl5, ?_, ?_, ?_, ?_⟩
                · rw [HST2.out]
                · rw [HST2.out]; exact HQ.out.mono hl5
                · rw [HST2.out]; exact ha3
                · rw [HST2.out]; exact HCH.out.mono hl5
                · rw [HST2.out]; exact m6.drop
              case measure => simp [intOf]; omega
      · have hjj : p.since.take j = p.since := List.take_of_length_le (by omega)
        rw [hjj] at HQ ha3 HCH m4
        rw [hjj]
        have es := m4.eqs; simp only [EqsL, and_true] at es
        have ns := m4.nes; simp only [NeL, NeFrom, and_true, true_and] at ns
        go_wp2_with fail
        refine bodyPost_ret (v := .tuple #[.agg #[.int .i64 (p.redo p.since).1.first, .slice q1 (p.redo p.since).1.queue.length q2, .int .i64 (p.redo p.since).1.next, .int .i64 p.saved.first, .slice sb p.saved.queue.length sc, .int .i64 p.saved.next, .slice b3 (p.redo p.since).2.1.length c3, .slice ob p.out.length oc], .int .i64 (p.redo p.since).2.2]) (by simp [results, Try.results58, go_sem, es, ns]) rfl ?_
        have m5 := (m4.set8 (x0 := .int .i64 (p.redo p.since).1.first) (x1 := .slice q1 (p.redo p.since).1.queue.length q2) (x2 := .int .i64 (p.redo p.since).1.next) (x3 := .int .i64 p.saved.first) (x4 := .slice sb p.saved.queue.length sc) (x5 := .int .i64 p.saved.next) (x6 := .slice b3 (p.redo p.since).2.1.length c3) (x7 := .slice ob p.out.length oc) (.tail .head)).drop.drop.drop
        obtain ⟨H6, m6, hl6, hs6⟩ := (ha3.join m5).done HCH.out rfl rfl
        exact ⟨q1, q2, sb, sc, b3, c3, ob, oc, H6, rfl, m6, hle.trans hl6, HQ.out.mono hl6, (H2.out.mono hle).mono hl6, hs6, (H4.out.mono hle).mono hl6⟩
end Go.Proofs.Ytpkcdkbbhiafnaa
