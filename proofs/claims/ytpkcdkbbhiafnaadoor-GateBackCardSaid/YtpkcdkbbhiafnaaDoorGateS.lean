/- The walk: the program's Play. -/
import Derived.Test.YtpkcdkbbhiafnaaDoorGateR
namespace Go.Proofs.YtpkcdkbbhiafnaaDoor
set_option linter.unusedVariables false
set_option linter.unusedSimpArgs false
open Go.RowKit

def encAct : Enc ActM := ⟨3, fun _ cs a => cs = [.int .u8 a.kind.toNat, .int .i64 a.n, .string a.s] ∧ I64 a.n ∧ a.s.size ≤ maxLen, fun _ h => h, fun h => by rw [h.1]; rfl⟩
theorem SlR.act {H : Hp} {b : Option Addr} {n c : Nat} {xs : List ActM} (h : SlR encAct H (.slice b n c) xs) {i : Nat} (hi : i < xs.length) :
    ∃ blk off, b = some ⟨blk, off, none⟩ ∧ CellH H blk (off + i * 3) (.int .u8 xs[i].kind.toNat) ∧ CellH H blk (off + i * 3 + 1) (.int .i64 xs[i].n) ∧ CellH H blk (off + i * 3 + 2) (.string xs[i].s) ∧ I64 xs[i].n ∧ xs[i].s.size ≤ maxLen := by
  obtain ⟨b', c', hv, _, _, _, hc⟩ := h
  cases hv
  obtain ⟨blk, off, cs, e1, e2, e3⟩ := hc i hi
  obtain ⟨rfl, e4, e5⟩ := e2
  exact ⟨blk, off, e1, e3 0 _ rfl, e3 1 _ rfl, e3 2 _ rfl, e4, e5⟩

/-- What Play gives. -/
def playM (l : List ActM) : GateM × List ByteArray × List Int × Int :=
  if 200 < l.length then (.zero, [], [], 5) else ((PlayM.start.run l).1.gate, (PlayM.start.run l).1.out, (PlayM.start.run l).2, 0)
def PlayR (w0 : World) (H : Hp) (L : List (Nat × Obj)) (r : GateM × List ByteArray × List Int × Int) (e : Ending) (w' : World) : Prop :=
  ∃ f q n o x H', e = .returned (.tuple #[.agg #[.int .i64 f, q, .int .i64 n], o, x, .int .i64 r.2.2.2]) ∧ Mem w0 H' L w' ∧ Hle H H' ∧ GateV H' (.agg #[.int .i64 f, q, .int .i64 n]) r.1 ∧ SlR encStr H' o r.2.1 ∧ SlR (encV (Value.int .i64) (fun _ => True)) H' x r.2.2.1
theorem perm_errs {α : Type} (x y : α) (A B C D R : List α) : (x :: y :: (A ++ (B ++ (C ++ (D ++ R))))).Perm (D ++ (x :: y :: (A ++ (B ++ (C ++ R))))) := (by classical exact List.perm_iff_count.2 (fun a => by simp only [List.count_append, List.count_cons, List.cons_append, List.nil_append, List.append_assoc]; omega))

theorem perm_errs2 {α : Type} (x y : α) (A B C : List α) (lit box res : α) (D R : List α) : (x :: y :: (A ++ (B ++ (C ++ (lit :: box :: res :: (D ++ R)))))).Perm (D ++ (lit :: box :: x :: y :: (A ++ (B ++ (C ++ (res :: R)))))) := (by classical exact List.perm_iff_count.2 (fun a => by simp only [List.count_append, List.count_cons, List.cons_append, List.nil_append, List.append_assoc]; omega))
theorem perm_errs3 {α : Type} (x y : α) (A B C : List α) (res : α) (D R : List α) : (D ++ (x :: y :: (A ++ (B ++ (C ++ (res :: R)))))).Perm (x :: y :: (A ++ (B ++ (C ++ (res :: (D ++ R)))))) := (by classical exact List.perm_iff_count.2 (fun a => by simp only [List.count_append, List.count_cons, List.cons_append, List.nil_append, List.append_assoc]; omega))
theorem perm_errs4 {α : Type} (x y : α) (A B C : List α) (res : α) (D R : List α) : (x :: y :: (A ++ (B ++ (C ++ (res :: (D ++ R)))))).Perm (A ++ (B ++ (D ++ (x :: y :: (C ++ (res :: R)))))) := (by classical exact List.perm_iff_count.2 (fun a => by simp only [List.count_append, List.count_cons, List.cons_append, List.nil_append, List.append_assoc]; omega))
theorem perm_errs5 {α : Type} (x y : α) (C : List α) (res : α) (R : List α) : (x :: y :: (C ++ (res :: R))).Perm (res :: (x :: y :: (C ++ R))) := (by classical exact List.perm_iff_count.2 (fun a => by simp only [List.count_append, List.count_cons, List.cons_append, List.nil_append, List.append_assoc]; omega))
set_option maxRecDepth 10000 in
set_option maxHeartbeats 4000000 in
theorem Play_any (v : Value) (l : List ActM) {w0 w : World} {H : Hp} {L : List (Nat × Obj)} (m : Mem w0 H L w) (hv : SlR encAct H v l) :
    Calls Tryd.prog 8 #[v] w (PlayR w0 H L (playM l)) := by
  have HV := Lib.hid hv
  obtain ⟨b, c, rfl, hc1, hc2, _, _⟩ := hv
  have hc2 := size_le_maxLen hc2
  by_cases hl : 200 < l.length
  · go_enter Tryd.func8, Tryd.ntmps8
    go_wp2_with fail
    refine bodyPost_ret (v := .tuple #[.agg #[.int .i64 0, .slice none 0 0, .int .i64 0], .slice none 0 0, .slice none 0 0, .int .i64 5]) (by simp [results, Tryd.results8, go_sem]) rfl ?_
    unfold playM
    rw [if_pos hl]
    exact ⟨_, _, _, _, _, _, rfl, (m.alloc _).drop, Hle.refl _, ⟨_, rfl, SlR.nil _ _⟩, SlR.nil _ _, SlR.nil _ _⟩
  · have hpl : playM l = ((PlayM.start.run l).1.gate, (PlayM.start.run l).1.out, (PlayM.start.run l).2, 0) := by unfold playM; rw [if_neg hl]
    have HPL := Lib.hid hpl; clear hpl
    go_enter Tryd.func8, Tryd.ntmps8
    go_wp2_with fail
    have m1 := ((m.alloc (.cells #[.int .i64 0, .slice none 0 0, .int .i64 0] 29)).alloc (.cells #[.int .i64 0, .slice none 0 0, .int .i64 0] 49)).alloc (.cells #[.pointer (some ⟨w.heap.size + 1, 0, none⟩), .slice none 0 0, .int .i64 0, .slice none 0 0, .int .i64 0, .slice none 0 0] 52)
    simp only [World.size_alloc] at m1
    go_loopw [4, 8, 18] (fun v4 _ v18 wr => ∃ (j : Nat) (b4 : Option Addr) (c4 : Nat) (H' : Hp) (cs4 : List Value) (L4 : List (Nat × Obj)), j ≤ l.length ∧ v18 = .int .i64 j ∧ v4 = .slice b4 j c4 ∧ Hle H H' ∧ AccL 31 1 v4 (PlayM.start.run (l.take j)).2.length cs4 L4 ∧ Chunks (encV (Value.int .i64) (fun _ => True)) H' cs4 (PlayM.start.run (l.take j)).2 ∧ PlayOwn w0 H' ((w.heap.size, .cells #[.int .i64 0, .slice none 0 0, .int .i64 0] 29) :: (L4 ++ L)) (w.heap.size + 2) (PlayM.start.run (l.take j)).1 wr) (fun _ _ i _ => l.length - (intOf i).toNat)
    case atStart => exact ⟨0, none, 0, H, [], [], Nat.zero_le _, rfl, rfl, Hle.refl _, AccL.nil, .nil, _, _, _, _, _, _, _, _, [], [], [], AccL.nil, .nil, AccL.nil, .nil, AccL.nil, .nil, SlR.nil _ _, m1⟩
    case round =>
      obtain ⟨j, b4, c4, H', cs4, L4, hj, rfl, rfl, hle, ha4, hch4, hp⟩ := hrel
      have HP := Lib.hid hp; clear hp
      by_cases hlt : j < l.length
      · obtain ⟨blk, off, rfl, ca, cb, cc, hn, hs⟩ := (HV.out.mono hle).act hlt
        obtain ⟨bg, qo, qq, qs, ss, co, cq, cs, Lo, Lq, Ls, hc⟩ := HP.out
        have hca := ca.cell hc.mem
        have hcb := cb.cell hc.mem
        have hcc := cc.cell hc.mem
        have HP1 := Lib.hid (HP.out.alloc (.cells #[.int .u8 l[j].kind.toNat, .int .i64 l[j].n, .string l[j].s] 38))
        have hok : (PlayM.start.run (l.take j)).1.ok j := by
          have := PlayM.start_ok.run (l.take j)
          rwa [show 0 + (l.take j).length = j by simp; omega] at this
        have hsn : PlayM.start.run (l.take (j + 1)) = (((PlayM.start.run (l.take j)).1.act l[j]).2, (PlayM.start.run (l.take j)).2 ++ [((PlayM.start.run (l.take j)).1.act l[j]).1]) := by
          rw [List.take_succ_eq_append_getElem hlt, PlayM.run_snoc]
        have hrl : (PlayM.start.run (l.take j)).2.length = j := by rw [PlayM.run_len]; simp; omega
        have HSN := Lib.hid hsn; clear hsn
        have HRL := Lib.hid hrl; clear hrl
        have HOK := Lib.hid hok; clear hok
        clear HP hc ca cb cc
        generalize hr : PlayM.start.run (l.take j) = r at *
        clear hr
        go_wp2_with fail
        refine (do_any _ r.1 l[j] j HP1.out HOK.out (by omega) hn hs).mono ?_
        rintro e w2 ⟨rfl, H2, hle2, hp2⟩
        have HP2 := Lib.hid (hp2.alloc (.cells #[.int .i64 (r.1.act l[j]).1] 31)); clear hp2
        clear hca hcb hcc
        obtain ⟨bg2, qo2, qq2, qs2, ss2, co2, cq2, cs2, Lo2, Lq2, Ls2, hc2⟩ := HP2.out
        have hm2 := hc2.mem.perm (perm_errs2 _ _ Lo2 Lq2 Ls2 _ _ _ L4 L)
        have hl4 := HRL.out
        go_wp2_with (at_builtin; refine wpList_append_mem (w0 := w0) (H := H2) (L := _ :: _) rfl _ _ 30 rfl 31 1 8 (.int .i64 0) Tryd.underlying30 (by kernel_rfl) rfl (by decide) (.slice b4 j c4) r.2.length cs4 (ha4.join hm2) rfl _ 1 [.int .i64 (r.1.act l[j]).1] (Src.loc (e := 31) (ha4.join hm2).mem (.head _)) rfl rfl (by simp [Value.oneCell']) (by omega) (by unfold maxLen; omega) ?_)
        intro v' w' hacc
        obtain ⟨b', c', rfl, _, _⟩ := hacc.shape
        obtain ⟨L4', ha5, m4⟩ := hacc.drop.drop.split
        have m5 := m4.perm (perm_errs3 _ _ Lo2 Lq2 Ls2 _ L4' L)
        have h5 : PlayOwn w0 H2 ((w.heap.size, .cells #[.int .i64 0, .slice none 0 0, .int .i64 0] 29) :: (L4' ++ L)) (w.heap.size + 2) (r.1.act l[j]).2 w' := ⟨bg2, qo2, qq2, qs2, ss2, co2, cq2, cs2, Lo2, Lq2, Ls2, hc2.1, hc2.2.1, hc2.2.2.1, hc2.2.2.2.1, hc2.2.2.2.2.1, hc2.2.2.2.2.2.1, hc2.2.2.2.2.2.2.1, m5⟩
        clear hacc m4 m5 hm2 hc2
        go_wp2_with fail
        go_roundw
        case rel =>
          refine ⟨j + 1, b', c', H2, cs4 ++ [.int .i64 (r.1.act l[j]).1], L4', by omega, by go_num, rfl, hle.trans hle2, ?_, ?_, ?_⟩
          · rw [HSN.out]; simp only [List.length_append, List.length_singleton, hl4]; exact ha5
          · rw [HSN.out]; exact Chunks.append (Chunks.anyH (p := fun _ => True) hch4) (.one ⟨rfl, trivial⟩ rfl)
          · rw [HSN.out]; exact h5
        case measure => simp [intOf]; omega
      · have hjj : l.take j = l := List.take_of_length_le (by omega)
        rw [hjj] at HP ha4 hch4
        have hpl := HPL.out
        obtain ⟨bg, qo, qq, qs, ss, co, cq, cs, Lo, Lq, Ls, hc⟩ := HP.out
        have HC := Lib.hid hc; clear hc HP
        obtain ⟨qb, qc, rfl, _, _⟩ := HC.out.2.2.1.shape
        obtain ⟨ob, oc, rfl, _, _⟩ := HC.out.1.shape
        have hre : (PlayM.start.run l).2.length = j := by rw [PlayM.run_len]; omega
        have HRE := Lib.hid hre; clear hre
        generalize PlayM.start.run l = r at *
        have es := HC.out.mem.eqs; simp only [EqsL, and_true] at es
        have m6 := HC.out.mem.perm (perm_errs4 _ _ Lo Lq Ls _ L4 L)
        obtain ⟨H1, m7, hl1, s1⟩ := (HC.out.1.join m6).done HC.out.2.1 rfl rfl
        obtain ⟨H2, m8, hl2, s2⟩ := (HC.out.2.2.1.join m7).done HC.out.2.2.2.1.anyH rfl rfl
        obtain ⟨H3, m9, hl3, s3⟩ := (ha4.join m8).done hch4.anyH rfl rfl
        clear ha4 hch4 m6 m7 m8
        have er := (m9.perm (perm_errs5 _ _ Ls _ L)).eqs
        simp only [EqsL, and_true] at er
        have er := er.1
        go_wp2_with fail
        go_region
        go_wp2_with fail
        have mA := (m9.perm (perm_errs5 _ _ Ls _ L))
        have mB := (((mA.set (i := 0) (v := .int .i64 r.1.gate.first) .head).set (i := 1) (v := .slice qb r.1.gate.queue.length qc) .head).set (i := 2) (v := .int .i64 r.1.gate.next) .head)
        refine bodyPost_ret (v := .tuple #[.agg #[.int .i64 r.1.gate.first, .slice qb r.1.gate.queue.length qc, .int .i64 r.1.gate.next], .slice ob r.1.out.length oc, .slice b4 j c4, .int .i64 0]) (by simp [results, Tryd.results8, go_sem, er]) rfl ?_
        rw [hpl]
        exact ⟨_, _, _, _, _, H3, rfl, mB.drop.drop.drop.dropL.drewN _, ((hle.trans hl1).trans hl2).trans hl3, ⟨_, rfl, s2.mono hl3⟩, (s1.mono hl2).mono hl3, s3⟩
end Go.Proofs.YtpkcdkbbhiafnaaDoor
