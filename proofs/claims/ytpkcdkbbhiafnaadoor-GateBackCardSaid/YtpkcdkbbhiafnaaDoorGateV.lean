/- The walk: bytes. -/
import Derived.Test.YtpkcdkbbhiafnaaDoorGateU
namespace Go.Proofs.YtpkcdkbbhiafnaaDoor
set_option linter.unusedVariables false
set_option linter.unusedSimpArgs false
open Go.RowKit

theorem GateM.chk_in {g : GateM} (h : g.chk = 0) : 0 ≤ g.first ∧ g.first ≤ 2000000000 ∧ 0 ≤ g.next ∧ g.next ≤ 2000000000 ∧ g.queue.length ≤ 64 ∧ g.queue.all isText = true := by
  unfold GateM.chk at h
  split at h
  · cases h
  · split at h
    · cases h
    · split at h
      · refine ⟨by omega, by omega, by omega, by omega, by omega, by assumption⟩
      · cases h

theorem headB_step {g : GateM} {w0 W : World} {H : Hp} {Lg : List (Nat × Obj)} {k : Nat} {y : Int} {b1 b2 : Option Addr} {c1 c2 : Nat} {z : Nat} (hz : W.heap.size = z) (hy : ((UInt8.ofNat g.queue.length).toNat : Int) = y) (m : Mem w0 H ((k, .cells #[.int .u8 y] 5) :: Lg) W) (h1 : SlR encB H (.slice b1 4 c1) (numberM g.first)) (h2 : SlR encB H (.slice b2 4 c2) (numberM g.next)) :
    Calls Tryd.prog 41 #[.slice (some ⟨z, 0, none⟩) 3 3] (W.alloc (.cells #[.slice b1 4 c1, .slice b2 4 c2, .slice (some ⟨k, 0, none⟩) 1 1] 22)) fun e w' => ∃ b c, e = .returned (.slice b 9 c) ∧ ∃ cs, MemAcc w0 H Lg 5 1 (.slice b 9 c) 9 cs w' ∧ Chunks encB H cs (headB g) := by
  subst hz
  obtain ⟨H3, m3, hle, h3⟩ := concat_pre hy.symm m h1 h2
  have h9 : (flatB [numberM g.first, numberM g.next, [UInt8.ofNat g.queue.length]]).length = 9 := headB_len g
  refine (Concat_any _ _ (by omega) (by omega) m3 h3).mono ?_
  rintro e w' ⟨v, rfl, cs, hacc, hch⟩
  rw [h9] at hacc
  obtain ⟨b, c, rfl, _, _⟩ := hacc.shape
  exact ⟨b, c, rfl, cs, hacc.weaken hle, Chunks.anyH (f := fun b : UInt8 => Value.int .u8 b.toNat) (p := fun _ => True) hch⟩

set_option maxRecDepth 10000 in
set_option maxHeartbeats 8000000 in
theorem bytes_any (b : Nat) (g : GateM) (q : Value) (hk : g.chk = 0) {w0 w : World} {H : Hp} {L : List (Nat × Obj)} (m : Mem w0 H ((b, .cells #[.int .i64 g.first, q, .int .i64 g.next] 49) :: L) w) (hq : SlR encStr H q g.queue) :
    Calls Tryd.prog 23 #[.pointer (some ⟨b, 0, none⟩)] w fun e w' => ∃ b' n c H', e = .returned (.slice b' n c) ∧ Mem w0 H' ((b, .cells #[.int .i64 g.first, q, .int .i64 g.next] 49) :: L) w' ∧ Hle H H' ∧ SlR encB H' (.slice b' n c) (bytesM g) := by
  have HQ := Lib.hid hq
  obtain ⟨qb, qc, rfl, hc1, hc2, _, _⟩ := hq
  have hc2 := size_le_maxLen hc2
  obtain ⟨s1, s2, s3, s4, s5, htx⟩ := GateM.chk_in hk
  have HTX := Lib.hid htx; clear htx
  have HK := Lib.hid hk; clear hk
  have hm := m.drew
  have es := m.eqs
  simp only [EqsL] at es
  have hx : ((UInt8.ofNat g.queue.length).toNat : Int) = g.queue.length := by simp; omega
  have HX := Lib.hid hx; clear hx
  have hwr : IntKind.u8.wrap (g.queue.length : Int) = g.queue.length := wraps_u8 _ (by omega) (by omega)
  have hs := True.intro
  have hl := True.intro
  go_enter Tryd.func23, Tryd.ntmps23
  go_wp2_with fail
  go_region_held3 (fun w' => w'.cell? ⟨b, 0, none⟩ = some (.int .i64 g.first) ∧ w'.cell? ⟨b, 1, none⟩ = some (.slice qb g.queue.length qc) ∧ w'.cell? ⟨b, 2, none⟩ = some (.int .i64 g.next))
    (simp [es, World.cell?_alloc_lt, World.size_alloc, Nat.lt_succ_of_lt, World.cell?_setCell_other]) (first | (go_at_call 42; (first | with_reducible refine (number_any _ ?_ ?_ hm).mono ?_ | with_reducible refine (number_any _ ?_ ?_ (hm.alloc _)).mono ?_ | with_reducible refine (number_any _ ?_ ?_ (m.alloc _).drew).mono ?_); assumption; assumption; rintro e wn ⟨bn, cn, Hn, rfl, hm, hle, hsn⟩; have hs := And.intro hsn hs; have hl := And.intro hle hl; clear es hsn hle; have es := hm.eqs; simp only [EqsL] at es) | (go_at_call 41; (first | with_reducible refine (headB_step rfl HX.out hm (hs.2.1.mono hl.1) hs.1).mono ?_ | with_reducible refine (headB_step (World.size_alloc ..) HX.out (hm.alloc _) (hs.2.1.mono hl.1) hs.1).mono ?_); rintro e wc ⟨b9, c9, rfl, cs9, hacc, hch⟩; clear es; have es := hacc.mem.eqs; simp only [EqsL] at es))
  all_goals (
    have hle := hl.2.1.trans hl.1
    have HA := Lib.hid (show ∃ H2, Hle H H2 ∧ ∃ cs, MemAcc w0 H2 _ 5 1 (.slice b9 9 c9) 9 cs wc ∧ Chunks encB H2 cs (headB g) from ⟨_, hle, _, hacc, hch⟩)
    clear hs hl hm hacc hch hle hwr
    obtain ⟨H2, hle, cs9, hacc, hch⟩ := HA.out
    clear HA
    go_wp2_with fail
    go_loopw [3, 5, 34] (fun v3 _ v34 wr => ∃ (j n3 : Nat) (b3 : Option Addr) (c3 : Nat) (cs3 : List Value), j ≤ g.queue.length ∧ v34 = .int .i64 j ∧ v3 = .slice b3 n3 c3 ∧ n3 = 9 + (restB (g.queue.take j)).length ∧ MemAcc w0 H2 ((b, .cells #[.int .i64 g.first, .slice qb g.queue.length qc, .int .i64 g.next] 49) :: L) 5 1 v3 n3 cs3 wr ∧ Chunks encB H2 cs3 (headB g ++ restB (g.queue.take j))) (fun _ _ i _ => g.queue.length - (intOf i).toNat)
    case atStart => exact ⟨0, 9, b9, c9, cs9, Nat.zero_le _, rfl, rfl, rfl, hacc, by simpa [restB, flatB] using hch⟩
    case round =>
      obtain ⟨j, n3, b3, c3, cs3, hj, rfl, rfl, hn3, hacc3, hch3⟩ := hrel
      have htxt : ∀ s ∈ g.queue, s.size ≤ 200 := fun s hs => by
        have := List.all_eq_true.1 HTX.out s hs
        unfold isText at this
        simp only [Bool.and_eq_true, decide_eq_true_eq] at this
        exact this.2
      have hrl := restB_len (g.queue.take j) fun s hs => htxt s (List.mem_of_mem_take hs)
      rw [List.length_take] at hrl
      have hn4 : n3 ≤ 20000 := by omega
      have HN3 := Lib.hid hn3
      clear hn3 hrl es
      have HC3 := Lib.hid hch3; clear hch3
      by_cases hlt : j < g.queue.length
      · have hsz := htxt _ (List.getElem_mem hlt)
        have HSN := Lib.hid (show restB (g.queue.take (j + 1)) = restB (g.queue.take j) ++ [UInt8.ofNat g.queue[j].size] ++ g.queue[j].data.toList by rw [List.take_succ_eq_append_getElem hlt, restB_snoc])
        obtain ⟨blk, off, rfl, hcell, _⟩ := (HQ.out.mono hle).cellV hlt
        have hcell := hcell.cell hacc3.mem
        clear htxt
        generalize g.queue[j] = s at *
        have hwr : IntKind.u8.wrap (s.size : Int) = s.size := wraps_u8 _ (by omega) (by omega)
        have hx : (s.size : Int) = (UInt8.ofNat s.size).toNat := by simp; omega
        have HX2 := Lib.hid hx; clear hx
        go_wp2_with (at_builtin; refine wpList_append_mem (w0 := w0) (H := H2) (L := (wr.heap.size, .cells #[.int .u8 s.size] 5) :: _) rfl _ _ 22 rfl 5 1 1 (.int .u8 0) Tryd.underlying22 (by kernel_rfl) rfl (by decide) (.slice b3 n3 c3) n3 cs3 (hacc3.alloc (.cells #[.int .u8 s.size] 5)) rfl _ 1 [.int .u8 s.size] (Src.loc (e := 5) (hacc3.mem.alloc (.cells #[.int .u8 s.size] 5)) (.head _)) rfl rfl (by simp [Value.oneCell']) (by omega) (by unfold maxLen; omega) ?_)
        intro v' w' hacc4
        have hacc4 := hacc4.drop
        obtain ⟨b', c', rfl, _, _⟩ := hacc4.shape
        go_wp2_with (at_builtin; refine wpList_append_mem_string (w0 := w0) (H := H2) (L := _ :: L) rfl _ _ 22 9 rfl 5 Tryd.underlying22 Tryd.underlying9 (by kernel_rfl) (.slice b' (n3 + 1) c') (n3 + 1) (cs3 ++ [.int .u8 s.size]) hacc4 rfl s rfl (by omega) ?_)
        intro v'' w'' hacc5
        obtain ⟨b'', c'', rfl, _, _⟩ := hacc5.shape
        have hch5 : Chunks encB H2 (cs3 ++ [.int .u8 s.size] ++ Lib.strCells s) (headB g ++ restB (g.queue.take (j + 1))) := by
          rw [HSN.out, HX2.out, ← List.append_assoc, ← List.append_assoc]
          exact (HC3.out.append (.one (x := UInt8.ofNat s.size) ⟨rfl, trivial⟩ rfl)).append (strChunks s)
        have HC5 := Lib.hid hch5; clear hch5
        clear hacc3 hacc4
        go_wp2_with fail
        go_roundw
        case rel =>
          refine ⟨j + 1, n3 + 1 + s.size, b'', c'', _, by omega, by go_num, rfl, ?_, hacc5, by simpa using HC5.out⟩
          rw [HSN.out, HN3.out]
          simp only [List.length_append, List.length_singleton]
          have : s.data.toList.length = s.size := by simp
          omega
        case measure => simp [intOf]; omega
      · have hjj : g.queue.take j = g.queue := List.take_of_length_le (by omega)
        rw [hjj] at HC3 HN3
        go_wp2_with fail
        go_ret
        obtain ⟨H', m', hle', hsl⟩ := hacc3.done HC3.out rfl (by rw [HN3.out, List.length_append, headB_len])
        exact ⟨_, _, _, H', rfl, m', hle.trans hle', hsl⟩)

/-- What Bytes gives. -/
def bytesR (g : GateM) : List UInt8 × Int := if g.chk ≠ 0 then ([], g.chk) else (bytesM g, 0)
set_option maxHeartbeats 1000000 in
theorem Bytes_any (v : Value) (g : GateM) {w0 w : World} {H : Hp} {L : List (Nat × Obj)} (m : Mem w0 H L w) (hv : GateV H v g) (hb : I64 g.first ∧ I64 g.next) :
    Calls Tryd.prog 11 #[v] w fun e w' => ∃ b n c H', e = .returned (.tuple #[.slice b n c, .int .i64 (bytesR g).2]) ∧ Mem w0 H' L w' ∧ Hle H H' ∧ SlR encB H' (.slice b n c) (bytesR g).1 := by
  obtain ⟨q, rfl, hq⟩ := hv
  have HQ := Lib.hid hq
  obtain ⟨qb, qc, rfl⟩ := GateV.slice hq
  clear hq
  go_enter Tryd.func11, Tryd.ntmps11
  go_wp2_with fail
  have m1 := m.alloc (.cells #[.int .i64 g.first, .slice qb g.queue.length qc, .int .i64 g.next] 29)
  refine (newGate_any _ g m1 ⟨_, rfl, HQ.out⟩ hb).mono ?_
  rintro e w1 (⟨hk2, rfl, m3⟩ | ⟨hk, bn, rfl, hg⟩)
  · have hk1 : (g.chk != 0) = true := by simpa using hk2
    have HK := Lib.hid hk2; clear hk2
    go_wp2_with fail
    go_ret2
    have h0 : bytesR g = ([], g.chk) := by unfold bytesR; rw [if_pos HK.out]
    rw [h0]
    exact ⟨none, 0, 0, H, rfl, m3.drop, Hle.refl _, SlR.nil _ _⟩
  · obtain ⟨qb', qc', Lq', cq', aq', chq', m4⟩ := hg.cells
    have HK := Lib.hid hk; clear hk
    have m5 := m4.perm (L' := Lq' ++ ((bn, _) :: _ :: L)) (List.perm_middle.symm)
    obtain ⟨H2, m6, hle2, hsl2, _⟩ := aq'.borrow chq' rfl rfl m5
    go_wp2_with fail
    refine (bytes_any bn g _ HK.out m6 hsl2).mono ?_
    rintro e w2 ⟨b', n', c', H3, rfl, m7, hle3, hsl3⟩
    go_wp2_with fail
    go_ret2
    have h0 : bytesR g = (bytesM g, 0) := by unfold bytesR; rw [if_neg (by rw [HK.out]; decide)]
    rw [h0]
    exact ⟨b', n', c', H3, rfl, m7.drop.drop, hle2.trans hle3, hsl3⟩
end Go.Proofs.YtpkcdkbbhiafnaaDoor
