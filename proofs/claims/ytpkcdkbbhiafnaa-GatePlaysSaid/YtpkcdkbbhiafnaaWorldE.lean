/- The walks: the reference's Act, Play, Errors. -/
import Derived.Test.YtpkcdkbbhiafnaaWorldC
import Derived.Test.YtpkcdkbbhiafnaaWorldD
namespace Go.Proofs.Ytpkcdkbbhiafnaa
set_option linter.unusedVariables false
set_option linter.unusedSimpArgs false
open Go.RowKit

set_option maxHeartbeats 400000 in
theorem Errors_any (v v' : Value) (xs ys : List Int) {w0 w : World} {H : Hp} {L : List (Nat × Obj)} (m : Mem w0 H L w) (hv : SlR (encV (Value.int .i64) (fun _ => True)) H v xs) (hv' : SlR (encV (Value.int .i64) (fun _ => True)) H v' ys) :
    Calls Try.prog 24 #[v, v'] w fun e w' => e = .returned (.bool (decide (xs = ys))) ∧ ∃ n, w' = w.drewN n := by
  have HV := Lib.hid hv
  have HV' := Lib.hid hv'
  obtain ⟨b, c, rfl, hc1, hc2, _, _⟩ := hv
  obtain ⟨b', c', rfl, hc1', hc2', _, _⟩ := hv'
  have hc2 := size_le_maxLen hc2
  have hc2' := size_le_maxLen hc2'
  by_cases hl : xs.length = ys.length
  · have hl1 : ((xs.length : Int) != ys.length) = false := by simp [hl]
    have HL := Lib.hid hl; clear hl
    go_enter Try.func24, Try.ntmps24
    go_wp2
    go_loopw [5] (fun i wr => ∃ k : Nat, k ≤ xs.length ∧ i = .int .i64 k ∧ (xs.take k = ys.take k) ∧ ∃ n, wr = w.drewN n) (fun i _ => xs.length - (intOf i).toNat)
    case atStart => exact ⟨0, Nat.zero_le _, rfl, rfl, 0, rfl⟩
    case round =>
      obtain ⟨k, hk, rfl, hall, n, rfl⟩ := hrel
      have HA := Lib.hid hall; clear hall
      by_cases hlt : k < xs.length
      · have hlt' : k < ys.length := by have := HL.out; omega
        obtain ⟨blk, off, rfl, hcell, _⟩ := HV.out.cellV hlt
        obtain ⟨blk', off', rfl, hcell', _⟩ := HV'.out.cellV hlt'
        have hcell := hcell.cell m
        have hcell' := hcell'.cell m
        by_cases he : xs[k] = ys[k]
        · have he2 : (xs[k] != ys[k]) = false := by simp [he]
          have HE := Lib.hid he; clear he
          go_wp2
          go_quiet (fail)
          go_wp2
          go_roundw
          case rel => exact ⟨k + 1, by omega, by go_num, eq_take_succ hlt hlt' HA.out HE.out, _, rfl⟩
          case measure => simp [intOf]; omega
        · have he2 : (xs[k] != ys[k]) = true := by simpa using he
          have HE := Lib.hid he; clear he
          go_wp2
          go_quiet (fail)
          go_wp2
          go_ret
          exact ⟨ret_bool (decide_eq_false (ne_of_get hlt hlt' HE.out)).symm, _, World.drewN_drewN _ _ _⟩
      · go_wp2
        go_ret
        exact ⟨ret_bool (by have := HA.out; have := HL.out; rw [List.take_of_length_le (by omega), List.take_of_length_le (by omega)] at *; simp; assumption), _, rfl⟩
  · have hl1 : ((xs.length : Int) != ys.length) = true := by simp; omega
    have HL := Lib.hid hl; clear hl
    go_enter Try.func24, Try.ntmps24
    go_wp2
    go_ret
    exact ⟨ret_bool (decide_eq_false (fun h => HL.out (by rw [h]))).symm, 0, rfl⟩


theorem Act_any (qb : Option Addr) (qc : Nat) (sb : Option Addr) (sc : Nat) (nb : Option Addr) (nc : Nat) (ob : Option Addr) (oc : Nat) (p : PlayM) (a : ActM) (k : Nat) {w0 w : World} {H : Hp} {L : List (Nat × Obj)} (m : Mem w0 H L w) (hp : p.ok k) (hk : k ≤ 1000) (hn : I64 a.n) (hs : a.s.size ≤ maxLen)
    (h1 : SlR encStr H (.slice qb p.gate.queue.length qc) p.gate.queue) (h2 : SlR encStr H (.slice sb p.saved.queue.length sc) p.saved.queue) (h3 : SlR encStr H (.slice nb p.since.length nc) p.since) (h4 : SlR encStr H (.slice ob p.out.length oc) p.out) :
    Calls Try.prog 44 #[.agg #[.int .i64 p.gate.first, .slice qb p.gate.queue.length qc, .int .i64 p.gate.next, .int .i64 p.saved.first, .slice sb p.saved.queue.length sc, .int .i64 p.saved.next, .slice nb p.since.length nc, .slice ob p.out.length oc], .agg #[.int .u8 a.kind.toNat, .int .i64 a.n, .string a.s]] w (WorldR w0 H L (p.act a).1 (p.act a).2) := by
  obtain ⟨kd, n, s⟩ := a
  rcases u8_cases kd with rfl | rfl | rfl | rfl | rfl | rfl | rfl | hkd
  · exact act_put qb qc sb sc nb nc ob oc p n s hs k m hp hk h1 h2 h3 h4
  · exact act_send2 qb qc sb sc nb nc ob oc p n s k m hp hk h1 h2 h3 h4
  · exact act_lose qb qc sb sc nb nc ob oc p n s k m hp hk h1 h2 h3 h4
  · exact act_send4 qb qc sb sc nb nc ob oc p n s k m hp hk h1 h2 h3 h4
  · exact act_offer qb qc sb sc nb nc ob oc p n s hn hs k m hp hk h1 h2 h3 h4
  · exact act_save qb qc sb sc nb nc ob oc p n s k m hp hk h1 h2 h3 h4
  · exact act_crash qb qc sb sc nb nc ob oc p n s k m hp hk h1 h2 h3 h4
  · exact act_none qb qc sb sc nb nc ob oc p kd n s hkd k m hp hk h1 h2 h3 h4

theorem perm_rp3 {α : Type} (a b c d : α) (L3 L : List α) : (L3 ++ (a :: b :: c :: d :: L)).Perm (a :: b :: c :: d :: (L3 ++ L)) := (by classical exact List.perm_iff_count.2 (fun a => by simp only [List.count_append, List.count_cons, List.cons_append, List.nil_append, List.append_assoc]; omega))
theorem perm_rp {α : Type} (a b c : α) (L3 L : List α) : (a :: b :: c :: (L3 ++ L)).Perm (L3 ++ (a :: b :: c :: L)) := (by classical exact List.perm_iff_count.2 (fun a => by simp only [List.count_append, List.count_cons, List.cons_append, List.nil_append, List.append_assoc]; omega))
theorem perm_rp2 {α : Type} (a b c d : α) (L3 L : List α) : (a :: b :: c :: d :: (L3 ++ L)).Perm (L3 ++ (a :: b :: c :: d :: L)) := (by classical exact List.perm_iff_count.2 (fun a => by simp only [List.count_append, List.count_cons, List.cons_append, List.nil_append, List.append_assoc]; omega))

set_option maxRecDepth 10000 in
set_option maxHeartbeats 4000000 in
theorem RPlay_any (v : Value) (l : List ActM) {w0 w : World} {H : Hp} {L : List (Nat × Obj)} (m : Mem w0 H L w) (hv : SlR encAct H v l) :
    Calls Try.prog 23 #[v] w (PlayR w0 H L (playM l)) := by
  have HV := Lib.hid hv
  obtain ⟨b, c, rfl, hc1, hc2, _, _⟩ := hv
  have hc2 := size_le_maxLen hc2
  by_cases hl : 200 < l.length
  · go_enter Try.func23, Try.ntmps23
    go_wp2_with fail
    refine bodyPost_ret (v := .tuple #[.agg #[.int .i64 0, .slice none 0 0, .int .i64 0], .slice none 0 0, .slice none 0 0, .int .i64 5]) (by simp [results, Try.results23, go_sem]) rfl ?_
    unfold playM
    rw [if_pos hl]
    exact ⟨_, _, _, _, _, _, rfl, (m.alloc _).drop, Hle.refl _, ⟨_, rfl, SlR.nil _ _⟩, SlR.nil _ _, SlR.nil _ _⟩
  · have hpl : playM l = ((PlayM.start.run l).1.gate, (PlayM.start.run l).1.out, (PlayM.start.run l).2, 0) := by unfold playM; rw [if_neg hl]
    have HPL := Lib.hid hpl; clear hpl
    go_enter Try.func23, Try.ntmps23
    go_wp2_with fail
    have m1 := (m.alloc (.cells #[.int .i64 0, .slice none 0 0, .int .i64 0] 24)).alloc (.cells #[.int .i64 0, .slice none 0 0, .int .i64 0, .int .i64 0, .slice none 0 0, .int .i64 0, .slice none 0 0, .slice none 0 0] 78)
    simp only [World.size_alloc] at m1
    go_loopw [7, 8, 9, 10] (fun v7 v8 _ _ wr => ∃ (j : Nat) (b7 : Option Addr) (c7 : Nat) (H' : Hp) (cs7 : List Value) (L7 : List (Nat × Obj)) (q1 : Option Addr) (q2 : Nat) (s1 : Option Addr) (s2 : Nat) (n1 : Option Addr) (n2 : Nat) (o1 : Option Addr) (o2 : Nat), j ≤ l.length ∧ v8 = .int .i64 j ∧ v7 = .slice b7 j c7 ∧ Hle H H' ∧ AccL 28 1 v7 (PlayM.start.run (l.take j)).2.length cs7 L7 ∧ Chunks (encV (Value.int .i64) (fun _ => True)) H' cs7 (PlayM.start.run (l.take j)).2 ∧ (SlR encStr H' (.slice q1 (PlayM.start.run (l.take j)).1.gate.queue.length q2) (PlayM.start.run (l.take j)).1.gate.queue ∧ SlR encStr H' (.slice s1 (PlayM.start.run (l.take j)).1.saved.queue.length s2) (PlayM.start.run (l.take j)).1.saved.queue ∧ SlR encStr H' (.slice n1 (PlayM.start.run (l.take j)).1.since.length n2) (PlayM.start.run (l.take j)).1.since ∧ SlR encStr H' (.slice o1 (PlayM.start.run (l.take j)).1.out.length o2) (PlayM.start.run (l.take j)).1.out) ∧ Mem w0 H' ((w.heap.size + 1, .cells #[.int .i64 (PlayM.start.run (l.take j)).1.gate.first, .slice q1 (PlayM.start.run (l.take j)).1.gate.queue.length q2, .int .i64 (PlayM.start.run (l.take j)).1.gate.next, .int .i64 (PlayM.start.run (l.take j)).1.saved.first, .slice s1 (PlayM.start.run (l.take j)).1.saved.queue.length s2, .int .i64 (PlayM.start.run (l.take j)).1.saved.next, .slice n1 (PlayM.start.run (l.take j)).1.since.length n2, .slice o1 (PlayM.start.run (l.take j)).1.out.length o2] 78) :: (w.heap.size, .cells #[.int .i64 0, .slice none 0 0, .int .i64 0] 24) :: (L7 ++ L)) wr) (fun _ i _ _ _ => l.length - (intOf i).toNat)
    case atStart => exact ⟨0, none, 0, H, [], [], none, 0, none, 0, none, 0, none, 0, Nat.zero_le _, rfl, rfl, Hle.refl _, AccL.nil, .nil, ⟨SlR.nil _ _, SlR.nil _ _, SlR.nil _ _, SlR.nil _ _⟩, m1⟩
    case round =>
      obtain ⟨j, b7, c7, H', cs7, L7, q1, q2, s1, s2, n1, n2, o1, o2, hj, rfl, rfl, hle, ha7, hch7, hss, m2⟩ := hrel
      have HCH := Lib.hid hch7; clear hch7
      have HS := Lib.hid hss; clear hss m1
      by_cases hlt : j < l.length
      · obtain ⟨blk, off, rfl, ca, cb, cc, hn, hs⟩ := (HV.out.mono hle).act hlt
        have hca := ca.cell m2
        have hcb := cb.cell m2
        have hcc := cc.cell m2
        have hblk := ca.lt m2
        have HCA := Lib.hid ca
        have HCB := Lib.hid cb
        have HCC := Lib.hid cc
        clear ca cb cc
        have hok : (PlayM.start.run (l.take j)).1.ok j := by
          have := PlayM.start_ok.run (l.take j)
          rwa [show 0 + (l.take j).length = j by simp; omega] at this
        have hsn : PlayM.start.run (l.take (j + 1)) = (((PlayM.start.run (l.take j)).1.act l[j]).2, (PlayM.start.run (l.take j)).2 ++ [((PlayM.start.run (l.take j)).1.act l[j]).1]) := by
          rw [List.take_succ_eq_append_getElem hlt, PlayM.run_snoc]
        have hrl : (PlayM.start.run (l.take j)).2.length = j := by rw [PlayM.run_len]; simp; omega
        have HSN := Lib.hid hsn; clear hsn
        have HRL := Lib.hid hrl; clear hrl
        have HOK := Lib.hid hok; clear hok
        generalize hr : PlayM.start.run (l.take j) = r at *
        clear hr
        have mZ := (m2.alloc (.cells #[.int .i64 0, .slice none 0 0, .int .i64 0, .int .i64 0, .slice none 0 0, .int .i64 0, .slice none 0 0, .slice none 0 0] 78)).drew
        have es := m2.eqs; simp only [EqsL, and_true] at es
        have ns := mZ.nes; simp only [NeL, NeFrom, and_true, true_and] at ns
        have hne : blk ≠ wr.heap.size ∧ wr.heap.size ≠ blk := ⟨by omega, by omega⟩
        go_upto_region 8 with fail
        go_cut [9, 10] from 15 to 34 (fun v9 v10 wx => v10 = .int .i64 (r.1.act l[j]).1 ∧ ∃ (gb : Nat) (p1 : Option Addr) (p2 : Nat) (p3 : Option Addr) (p4 : Nat) (p5 : Option Addr) (p6 : Nat) (p7 : Option Addr) (p8 : Nat) (H5 : Hp), v9 = .pointer (some ⟨gb, 0, none⟩) ∧ Hle H' H5 ∧ (SlR encStr H5 (.slice p1 (r.1.act l[j]).2.gate.queue.length p2) (r.1.act l[j]).2.gate.queue ∧ SlR encStr H5 (.slice p3 (r.1.act l[j]).2.saved.queue.length p4) (r.1.act l[j]).2.saved.queue ∧ SlR encStr H5 (.slice p5 (r.1.act l[j]).2.since.length p6) (r.1.act l[j]).2.since ∧ SlR encStr H5 (.slice p7 (r.1.act l[j]).2.out.length p8) (r.1.act l[j]).2.out) ∧ Mem w0 H5 ((gb, .cells #[.int .i64 (r.1.act l[j]).2.gate.first, .slice p1 (r.1.act l[j]).2.gate.queue.length p2, .int .i64 (r.1.act l[j]).2.gate.next, .int .i64 (r.1.act l[j]).2.saved.first, .slice p3 (r.1.act l[j]).2.saved.queue.length p4, .int .i64 (r.1.act l[j]).2.saved.next, .slice p5 (r.1.act l[j]).2.since.length p6, .slice p7 (r.1.act l[j]).2.out.length p8] 78) :: (w.heap.size + 1, .cells #[.int .i64 r.1.gate.first, .slice q1 r.1.gate.queue.length q2, .int .i64 r.1.gate.next, .int .i64 r.1.saved.first, .slice s1 r.1.saved.queue.length s2, .int .i64 r.1.saved.next, .slice n1 r.1.since.length n2, .slice o1 r.1.out.length o2] 78) :: (w.heap.size, .cells #[.int .i64 0, .slice none 0 0, .int .i64 0] 24) :: (L7 ++ L)) wx)
        case first =>
          go_region_held3 (fun w' => w'.cell? ⟨w.heap.size + 1, 0, none⟩ = some (.int .i64 r.1.gate.first) ∧ w'.cell? ⟨w.heap.size + 1, 1, none⟩ = some (.slice q1 r.1.gate.queue.length q2) ∧ w'.cell? ⟨w.heap.size + 1, 2, none⟩ = some (.int .i64 r.1.gate.next) ∧ w'.cell? ⟨w.heap.size + 1, 3, none⟩ = some (.int .i64 r.1.saved.first) ∧ w'.cell? ⟨w.heap.size + 1, 4, none⟩ = some (.slice s1 r.1.saved.queue.length s2) ∧ w'.cell? ⟨w.heap.size + 1, 5, none⟩ = some (.int .i64 r.1.saved.next) ∧ w'.cell? ⟨w.heap.size + 1, 6, none⟩ = some (.slice n1 r.1.since.length n2) ∧ w'.cell? ⟨w.heap.size + 1, 7, none⟩ = some (.slice o1 r.1.out.length o2) ∧ w'.cell? ⟨blk, off + j * 3, none⟩ = some (.int .u8 l[j].kind.toNat) ∧ w'.cell? ⟨blk, off + j * 3 + 1, none⟩ = some (.int .i64 l[j].n) ∧ w'.cell? ⟨blk, off + j * 3 + 2, none⟩ = some (.string l[j].s))
            (simp [es, ns, hne, hca, hcb, hcc, hblk, World.cell?_alloc_lt, World.size_alloc, Nat.lt_succ_of_lt, World.cell?_setCell_other]) (first
            | (go_at_call 44; refine (Act_any q1 q2 s1 s2 n1 n2 o1 o2 r.1 l[j] j m2.drew HOK.out (by omega) hn hs HS.out.1 HS.out.2.1 HS.out.2.2.1 HS.out.2.2.2).mono ?_; rintro e w2 hR; obtain ⟨p1, p2, p3, p4, p5, p6, p7, p8, H5, rfl, m5, hl5, x1, x2, x3, x4⟩ := hR; have HX := Lib.hid (And.intro x1 (And.intro x2 (And.intro x3 x4))); clear x1 x2 x3 x4 es hca hcb hcc hblk; have es := m5.eqs; simp only [EqsL, and_true] at es; have hca := (HCA.out.mono hl5).cell m5; have hcb := (HCB.out.mono hl5).cell m5; have hcc := (HCC.out.mono hl5).cell m5; have hblk := (HCA.out.mono hl5).lt m5)
            | (go_at_call 44; refine (Act_any q1 q2 s1 s2 n1 n2 o1 o2 r.1 l[j] j mZ HOK.out (by omega) hn hs HS.out.1 HS.out.2.1 HS.out.2.2.1 HS.out.2.2.2).mono ?_; rintro e w2 hR; obtain ⟨p1, p2, p3, p4, p5, p6, p7, p8, H5, rfl, m5, hl5, x1, x2, x3, x4⟩ := hR; have HX := Lib.hid (And.intro x1 (And.intro x2 (And.intro x3 x4))); clear x1 x2 x3 x4 es hca hcb hcc hblk; have es := m5.eqs; simp only [EqsL, and_true] at es; have hca := (HCA.out.mono hl5).cell m5; have hcb := (HCB.out.mono hl5).cell m5; have hcc := (HCC.out.mono hl5).cell m5; have hblk := (HCA.out.mono hl5).lt m5)
            | fail "no arm")
          · go_wp2_with fail
            go_meet
            exact ⟨rfl, _, p1, p2, p3, p4, p5, p6, p7, p8, H5, rfl, hl5, HX.out, m5.alloc _⟩
          · go_wp2_with fail
            go_meet
            exact ⟨rfl, _, p1, p2, p3, p4, p5, p6, p7, p8, H5, rfl, hl5, HX.out, m5.set8 .head⟩
        case rest =>
          obtain ⟨rfl, gb, p1, p2, p3, p4, p5, p6, p7, p8, H5, rfl, hl5, hx, m6⟩ := hcut
          have HX := Lib.hid hx; clear hx es ns hne hca hcb hcc hblk mZ m2
          have hl7 := HRL.out
          rw [hl7] at ha7
          generalize r.1.act l[j] = a1 at *
          obtain ⟨e1, pn⟩ := a1
          simp only at *
          have es := m6.eqs; simp only [EqsL, and_true] at es
          have ns := m6.nes; simp only [NeL, NeFrom, and_true, true_and] at ns
          have mp := ((m6.alloc (.cells #[.int .i64 e1] 28)).drew).perm (perm_rp2 _ _ _ _ L7 L)
          go_wp2_with fail
          go_region_held3 (fun w' => w'.cell? ⟨gb, 0, none⟩ = some (.int .i64 pn.gate.first) ∧ w'.cell? ⟨gb, 1, none⟩ = some (.slice p1 pn.gate.queue.length p2) ∧ w'.cell? ⟨gb, 2, none⟩ = some (.int .i64 pn.gate.next) ∧ w'.cell? ⟨gb, 3, none⟩ = some (.int .i64 pn.saved.first) ∧ w'.cell? ⟨gb, 4, none⟩ = some (.slice p3 pn.saved.queue.length p4) ∧ w'.cell? ⟨gb, 5, none⟩ = some (.int .i64 pn.saved.next) ∧ w'.cell? ⟨gb, 6, none⟩ = some (.slice p5 pn.since.length p6) ∧ w'.cell? ⟨gb, 7, none⟩ = some (.slice p7 pn.out.length p8))
            (simp [es, ns, World.cell?_alloc_lt, World.size_alloc, Nat.lt_succ_of_lt, World.cell?_setCell_other]) (first
            | (refine step_append_mem (w0 := w0) (H := H5) (L := _ :: _) rfl _ _ 44 rfl 28 1 8 (.int .i64 0) Try.underlying44 (by kernel_rfl) rfl (by decide) (.slice b7 j c7) j cs7 (ha7.join mp) rfl _ 1 [.int .i64 e1] (Src.loc (e := 28) (ha7.join mp).mem (.head _)) rfl rfl (by simp [Value.oneCell']) (by omega) (by unfold maxLen; omega) ?_; intro v' w' hacc; obtain ⟨b', c', rfl, _, _⟩ := hacc.shape; clear es ns; have es := hacc.mem.eqs; simp only [EqsL, and_true] at es; have ns := hacc.mem.nes; simp only [NeL, NeFrom, and_true, true_and] at ns; have HACC := Lib.hid hacc; clear hacc)
            | fail "no arm")
          go_wp2_with fail
          obtain ⟨L5, ha5, m7⟩ := HACC.out.split
          have m8 := ((m7.perm (perm_rp3 _ _ _ _ L5 L)).set8 (x0 := .int .i64 pn.gate.first) (x1 := .slice p1 pn.gate.queue.length p2) (x2 := .int .i64 pn.gate.next) (x3 := .int .i64 pn.saved.first) (x4 := .slice p3 pn.saved.queue.length p4) (x5 := .int .i64 pn.saved.next) (x6 := .slice p5 pn.since.length p6) (x7 := .slice p7 pn.out.length p8) (.tail (.tail .head))).drop.drop
          have hl8 : (r.2 ++ [e1]).length = j + 1 := by simp [hl7]
          go_roundw
          case rel =>
            refine ⟨j + 1, b', c', H5, cs7 ++ [.int .i64 e1], L5, p1, p2, p3, p4, p5, p6, p7, p8, by omega, by go_num, rfl, hle.trans hl5, ?_, ?_, ?_, ?_⟩
            · rw [HSN.out]; simp only [hl8]; exact ha5
            · rw [HSN.out]; exact Chunks.append (Chunks.anyH (p := fun _ => True) HCH.out) (.one ⟨rfl, trivial⟩ rfl)
            · rw [HSN.out]; exact HX.out
            · rw [HSN.out]; exact m8
          case measure => simp [intOf]; omega
      · have hjj : l.take j = l := List.take_of_length_le (by omega)
        rw [hjj] at HS ha7 HCH m2
        have hpl := HPL.out
        have hre : (PlayM.start.run l).2.length = j := by rw [PlayM.run_len]; omega
        rw [hre] at ha7
        have HRE := Lib.hid hre; clear hre
        generalize PlayM.start.run l = r at *
        have es := m2.eqs; simp only [EqsL, and_true] at es
        have ns := m2.nes; simp only [NeL, NeFrom, and_true, true_and] at ns
        go_wp2_with fail
        go_region_held3 (fun w' => w'.cell? ⟨w.heap.size + 1, 0, none⟩ = some (.int .i64 r.1.gate.first) ∧ w'.cell? ⟨w.heap.size + 1, 1, none⟩ = some (.slice q1 r.1.gate.queue.length q2) ∧ w'.cell? ⟨w.heap.size + 1, 2, none⟩ = some (.int .i64 r.1.gate.next) ∧ w'.cell? ⟨w.heap.size + 1, 7, none⟩ = some (.slice o1 r.1.out.length o2))
          (simp [es, ns, World.cell?_alloc_lt, World.size_alloc, Nat.lt_succ_of_lt, World.cell?_setCell_other]) (fail)
        go_wp2_with fail
        refine bodyPost_ret (v := .tuple #[.agg #[.int .i64 r.1.gate.first, .slice q1 r.1.gate.queue.length q2, .int .i64 r.1.gate.next], .slice o1 r.1.out.length o2, .slice b7 j c7, .int .i64 0]) (by simp [results, Try.results23, go_sem, es, ns]) rfl ?_
        have m3 := (m2.drew.set3 (x0 := .int .i64 r.1.gate.first) (x1 := .slice q1 r.1.gate.queue.length q2) (x2 := .int .i64 r.1.gate.next) (.tail .head)).drop.drop
        obtain ⟨H3, m9, hl3, hs3⟩ := (ha7.join m3).done HCH.out.anyH rfl (by rw [HRE.out])
        rw [hpl]
        exact ⟨_, _, _, _, _, H3, rfl, m9, hle.trans hl3, ⟨_, rfl, HS.out.1.mono hl3⟩, HS.out.2.2.2.mono hl3, hs3⟩
end Go.Proofs.Ytpkcdkbbhiafnaa
