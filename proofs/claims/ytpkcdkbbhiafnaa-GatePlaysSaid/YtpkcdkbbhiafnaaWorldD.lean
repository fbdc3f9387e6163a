/- The walk: the reference's Act at a text that is put out. -/
import Derived.Test.YtpkcdkbbhiafnaaWorldB
import Derived.Test.YtpkcdkbbhiafnaaRegionN
namespace Go.Proofs.Ytpkcdkbbhiafnaa
set_option linter.unusedVariables false
set_option linter.unusedSimpArgs false
open Go.RowKit

theorem perm_put {α : Type} (a b c d e : α) (L3 L : List α) : (L3 ++ (a :: b :: c :: d :: e :: L)).Perm (a :: b :: c :: d :: e :: (L3 ++ L)) := (by classical exact List.perm_iff_count.2 (fun a => by simp only [List.count_append, List.count_cons, List.cons_append, List.nil_append, List.append_assoc]; omega))

set_option maxRecDepth 10000 in
set_option maxHeartbeats 4000000 in
theorem act_put (qb : Option Addr) (qc : Nat) (sb : Option Addr) (sc : Nat) (nb : Option Addr) (nc : Nat) (ob : Option Addr) (oc : Nat) (p : PlayM) (n : Int) (s : ByteArray) (hs : s.size ≤ maxLen) (k : Nat) {w0 w : World} {H : Hp} {L : List (Nat × Obj)} (m : Mem w0 H L w) (hp : p.ok k) (hk : k ≤ 1000)
    (h1 : SlR encStr H (.slice qb p.gate.queue.length qc) p.gate.queue) (h2 : SlR encStr H (.slice sb p.saved.queue.length sc) p.saved.queue) (h3 : SlR encStr H (.slice nb p.since.length nc) p.since) (h4 : SlR encStr H (.slice ob p.out.length oc) p.out) :
    Calls Try.prog 44 #[.agg #[.int .i64 p.gate.first, .slice qb p.gate.queue.length qc, .int .i64 p.gate.next, .int .i64 p.saved.first, .slice sb p.saved.queue.length sc, .int .i64 p.saved.next, .slice nb p.since.length nc, .slice ob p.out.length oc], .agg #[.int .u8 1, .int .i64 n, .string s]] w (WorldR w0 H L (p.act ⟨1, n, s⟩).1 (p.act ⟨1, n, s⟩).2) := by
  have H1 := Lib.hid h1; clear h1
  have H2 := Lib.hid h2; clear h2
  have H3 := Lib.hid h3; clear h3
  have H4 := Lib.hid h4; clear h4
  have HP := Lib.hid hp; clear hp
  have m3 := ((m.alloc (.cells #[.int .i64 p.gate.first, .slice qb p.gate.queue.length qc, .int .i64 p.gate.next, .int .i64 p.saved.first, .slice sb p.saved.queue.length sc, .int .i64 p.saved.next, .slice nb p.since.length nc, .slice ob p.out.length oc] 78)).alloc (.cells #[.int .u8 1, .int .i64 n, .string s] 43)).alloc (.cells #[.int .i64 0, .slice none 0 0, .int .i64 0, .int .i64 0, .slice none 0 0, .int .i64 0, .slice none 0 0, .slice none 0 0] 78)
  simp only [World.size_alloc] at m3
  have hact : p.act ⟨1, n, s⟩ = ((p.gate.put1 s).1, if (p.gate.put1 s).1 = 0 then { p with gate := (p.gate.put1 s).2, since := p.since ++ [s] } else p) := by unfold PlayM.act; rw [if_pos rfl]
  rw [hact]; clear hact
  have hw1 := HP.out.gate.with1 (by omega) (p.gate.put1 s)
  have hsl : p.since.length ≤ 1000 := by have := HP.out.since; have := HP.out.saved.lo; omega
  obtain ⟨e1, g1, hr⟩ : ∃ e1 g1, p.gate.put1 s = (e1, g1) := ⟨_, _, rfl⟩
  have hr1 : (p.gate.put1 s).1 = e1 := by rw [hr]
  have hr2 : (p.gate.put1 s).2 = g1 := by rw [hr]
  rw [hr1, hr2] at hw1 ⊢
  clear hr hr1 hr2
  by_cases he : e1 = 0
  · subst he
    have hw2 : p.gate.with1 (p.gate.put1 s) = (g1, 0) := by rw [hw1]; exact if_neg (by simp)
    rw [if_pos rfl]
    have HW1 := Lib.hid hw2; clear hw1 hw2
    obtain ⟨f, q, n1⟩ := g1
    go_enter Try.func44, Try.ntmps44
    go_wp2_with fail
    refine (RPut_any _ p.gate s m3 ⟨_, rfl, H1.out⟩ hs).mono ?_
    rintro e w1 hR
    rw [HW1.out] at hR
    obtain ⟨b5, c5, H5, rfl, m4, hl4, hs4⟩ := GateR.lit (f := f) (q := q) (n := n1) (k := 0) rfl rfl hR
    have HS4 := Lib.hid hs4; clear hR hs4
    have m5 := m4.alloc (.cells #[.int .i64 f, .slice b5 q.length c5, .int .i64 n1] 24)
    have es := m4.eqs; simp only [EqsL, and_true] at es
    go_wp2_with fail
    generalize w1.alloc (.cells #[.int .i64 f, .slice b5 q.length c5, .int .i64 n1] 24) = W6 at *
    generalize w1.heap.size = gb at *
    refine AnyBut.start (fun w' => w'.cell? ⟨gb, 0, none⟩ = some (.int .i64 f) ∧ w'.cell? ⟨gb, 1, none⟩ = some (.slice b5 q.length c5) ∧ w'.cell? ⟨gb, 2, none⟩ = some (.int .i64 n1) ∧ w'.cell? ⟨w.heap.size, 6, none⟩ = some (.slice nb p.since.length nc) ∧ w'.cell? ⟨w.heap.size + 1, 2, none⟩ = some (.string s)) 12 (by kernel_rfl) ?_
    have m6 := m5.drew
    clear es m5 m4 m3
    generalize W6.drew = W7 at *
    have es := m6.eqs; simp only [EqsL, and_true] at es
    have ns := m6.nes; simp only [NeL, NeFrom, and_true, true_and] at ns
    have HS : W7.cell? ⟨gb, 0, none⟩ = some (.int .i64 f) ∧ W7.cell? ⟨gb, 1, none⟩ = some (.slice b5 q.length c5) ∧ W7.cell? ⟨gb, 2, none⟩ = some (.int .i64 n1) ∧ W7.cell? ⟨w.heap.size, 6, none⟩ = some (.slice nb p.since.length nc) ∧ W7.cell? ⟨w.heap.size + 1, 2, none⟩ = some (.string s) := by simp [es]
    refine AnyBut.take (i := 0) (v := ?_) rfl (by kernel_rfl) (by kernel_rfl) (by kernel_rfl) (by kernel_rfl) (fun _ _ _ h => h) ⟨by rfl, ?_⟩ HS ?_
    rotate_left
    · first | (intro w' hSw; go_simp; done) | (intro w' hSw; go_simp; with_reducible rfl)
    simp only [Act.put, List.setIfInBounds_toArray, List.set_cons_zero, List.set_cons_succ]
    refine AnyBut.take (i := 2) (v := ?_) rfl (by kernel_rfl) (by kernel_rfl) (by kernel_rfl) (by kernel_rfl) (fun _ _ _ h => h) ⟨by rfl, ?_⟩ HS ?_
    rotate_left
    · first | (intro w' hSw; go_simp; done) | (intro w' hSw; go_simp; with_reducible rfl)
    simp only [Act.put, List.setIfInBounds_toArray, List.set_cons_zero, List.set_cons_succ]
    refine AnyBut.take (i := 3) (v := ?_) rfl (by kernel_rfl) (by kernel_rfl) (by kernel_rfl) (by kernel_rfl) (fun _ _ _ h => h) ⟨by rfl, ?_⟩ HS ?_
    rotate_left
    · first | (intro w' hSw; go_simp; done) | (intro w' hSw; go_simp; with_reducible rfl)
    simp only [Act.put, List.setIfInBounds_toArray, List.set_cons_zero, List.set_cons_succ]
    refine AnyBut.take (i := 5) (v := ?_) rfl (by kernel_rfl) (by kernel_rfl) (by kernel_rfl) (by kernel_rfl) (fun _ _ _ h => h) ⟨by rfl, ?_⟩ HS ?_
    rotate_left
    · first | (intro w' hSw; go_simp; done) | (intro w' hSw; go_simp; with_reducible rfl)
    simp only [Act.put, List.setIfInBounds_toArray, List.set_cons_zero, List.set_cons_succ]
    refine AnyBut.take (i := 6) (v := ?_) rfl (by kernel_rfl) (by kernel_rfl) (by kernel_rfl) (by kernel_rfl) (fun _ _ _ h => h) ⟨by rfl, ?_⟩ HS ?_
    rotate_left
    · first | (intro w' hSw; go_simp; done) | (intro w' hSw; go_simp; with_reducible rfl)
    simp only [Act.put, List.setIfInBounds_toArray, List.set_cons_zero, List.set_cons_succ]
    refine AnyBut.take (i := 9) (v := ?_) rfl (by kernel_rfl) (by kernel_rfl) (by kernel_rfl) (by kernel_rfl) (fun _ _ _ h => h) ⟨by rfl, ?_⟩ HS ?_
    rotate_left
    · first | (intro w' hSw; go_simp; done) | (intro w' hSw; go_simp; with_reducible rfl)
    simp only [Act.put, List.setIfInBounds_toArray, List.set_cons_zero, List.set_cons_succ]
    have mB1 := m6.alloc (.cells #[] 9)
    have mL1 := m6.alloc (.cells #[.string s] 9)
    refine AnyBut.two (i := 1) (j := 7) (by kernel_rfl) (AnyBut.op rfl (by rfl) fun K hK => ?_) (AnyBut.op rfl (by rfl) fun K hK => ?_)
    · go_simp
      refine hK _ _ (.inr (by simp [es, ns, World.cell?_alloc_lt, World.size_alloc, Nat.lt_succ_of_lt, World.cell?_setCell_other])) ?_
      clear hK K
      try simp only [Act.put, List.setIfInBounds_toArray, List.set_cons_zero, List.set_cons_succ]
      refine AnyBut.two (i := 4) (j := 7) (by kernel_rfl) (AnyBut.opIf rfl fun K hK => ?_) (AnyBut.op rfl (by rfl) fun K hK => ?_)
      · clear mL1
        obtain ⟨news, hch, hsrc⟩ := (H3.out.mono hl4).src mB1
        have HCH := Lib.hid hch; clear hch
        refine step_append_mem (w0 := w0) (H := H5) (L := (gb, .cells #[.int .i64 f, .slice b5 q.length c5, .int .i64 n1] 24) :: (w.heap.size + 1 + 1, .cells #[.int .i64 0, .slice none 0 0, .int .i64 0, .int .i64 0, .slice none 0 0, .int .i64 0, .slice none 0 0, .slice none 0 0] 78) :: (w.heap.size + 1, .cells #[.int .u8 1, .int .i64 n, .string s] 43) :: (w.heap.size, .cells #[.int .i64 p.gate.first, .slice qb p.gate.queue.length qc, .int .i64 p.gate.next, .int .i64 p.saved.first, .slice sb p.saved.queue.length sc, .int .i64 p.saved.next, .slice nb p.since.length nc, .slice ob p.out.length oc] 78) :: L) rfl _ _ 22 rfl 9 1 16 (.string ByteArray.empty) Try.underlying22 (by kernel_rfl) rfl (by decide) (.slice (some ⟨W7.heap.size, 0, none⟩) 0 0) 0 [] (MemAcc.row mB1 (Nat.le_refl _) (by decide) rfl rfl) rfl (.slice nb p.since.length nc) p.since.length news hsrc rfl HCH.out.len1 (str_oneCell HCH.out) (by omega) (by unfold maxLen; omega) ?_
        intro v' w8 hacc
        simp only [Nat.zero_add, List.nil_append] at hacc
        obtain ⟨b8, c8, rfl, _, _⟩ := hacc.shape
        clear es ns
        have es := hacc.mem.eqs
        simp only [EqsL, and_true] at es
        have ns := hacc.mem.nes
        simp only [NeL, NeFrom, and_true, true_and] at ns
        refine hK _ _ (.inr (by simp [es, ns, World.cell?_alloc_lt, World.size_alloc, Nat.lt_succ_of_lt, World.cell?_setCell_other])) ?_
        clear hK K
        try simp only [Act.put, List.setIfInBounds_toArray, List.set_cons_zero, List.set_cons_succ]
        refine AnyBut.one (i := 7) (by kernel_rfl) (AnyBut.op rfl (by rfl) fun K hK => ?_)
        go_simp
        refine hK _ _ (.inr (by simp [es, ns, World.cell?_alloc_lt, World.size_alloc, Nat.lt_succ_of_lt, World.cell?_setCell_other])) ?_
        clear hK K
        try simp only [Act.put, List.setIfInBounds_toArray, List.set_cons_zero, List.set_cons_succ]
        have HA := Lib.hid (hacc.alloc (.cells #[.string s] 9)); clear hacc
        refine AnyBut.one (i := 8) (by kernel_rfl) (AnyBut.opIf rfl fun K hK => ?_)
        refine step_append_mem (w0 := w0) (H := H5) (L := _ :: _) rfl _ _ 22 rfl 9 1 16 (.string ByteArray.empty) Try.underlying22 (by kernel_rfl) rfl (by decide) (.slice b8 p.since.length c8) p.since.length news HA.out rfl _ 1 [.string s] (Src.loc (e := 9) HA.out.mem (.head _)) rfl rfl (by simp [Value.oneCell']) (by omega) (by unfold maxLen; omega) ?_
        intro v' w9 hacc
        obtain ⟨b9, c9, rfl, _, _⟩ := hacc.shape
        have HA9 := Lib.hid hacc; clear hacc HA
        clear es ns
        have es := HA9.out.mem.eqs
        simp only [EqsL, and_true] at es
        have ns := HA9.out.mem.nes
        simp only [NeL, NeFrom, and_true, true_and] at ns
        refine hK _ _ (.inr (by simp [es, ns, World.cell?_alloc_lt, World.size_alloc, Nat.lt_succ_of_lt, World.cell?_setCell_other])) ?_
        clear hK K
        try simp only [Act.put, List.setIfInBounds_toArray, List.set_cons_zero, List.set_cons_succ]
        refine AnyBut.one (i := 10) (by kernel_rfl) (AnyBut.op rfl (by rfl) fun K hK => ?_)
        go_simp
        refine hK _ _ (.inr (by simp [es, ns, World.cell?_alloc_lt, World.size_alloc, Nat.lt_succ_of_lt, World.cell?_setCell_other])) ?_
        clear hK K
        try simp only [Act.put, List.setIfInBounds_toArray, List.set_cons_zero, List.set_cons_succ]
        refine AnyBut.one (i := 11) (by kernel_rfl) (AnyBut.op rfl (by rfl) fun K hK => ?_)
        go_simp
        refine hK _ _ (.inr (by simp [es, ns, World.cell?_alloc_lt, World.size_alloc, Nat.lt_succ_of_lt, World.cell?_setCell_other])) ?_
        clear hK K
        try simp only [Act.put, List.setIfInBounds_toArray, List.set_cons_zero, List.set_cons_succ]
        refine AnyBut.one (i := 12) (by kernel_rfl) (AnyBut.op rfl (by rfl) fun K hK => ?_)
        go_simp
        refine hK _ _ (.inl rfl) ?_
        clear hK K
        try simp only [Act.put, List.setIfInBounds_toArray, List.set_cons_zero, List.set_cons_succ]
        refine AnyBut.done (by kernel_rfl) ?_ _
        go_wp2_with fail
        refine bodyPost_ret (v := .tuple #[.agg #[.int .i64 (⟨f, q, n1⟩ : GateM).first, .slice b5 (⟨f, q, n1⟩ : GateM).queue.length c5, .int .i64 (⟨f, q, n1⟩ : GateM).next, .int .i64 p.saved.first, .slice sb p.saved.queue.length sc, .int .i64 p.saved.next, .slice b9 (p.since.length + 1) c9, .slice ob p.out.length oc], .int .i64 0]) (by simp [results, Try.results44, go_sem, es, ns]) rfl ?_
        obtain ⟨L5, ha5, m9⟩ := HA9.out.split
        have mA := (m9.perm (perm_put _ _ _ _ _ L5 L)).set3b (x0 := .int .i64 f) (x1 := .slice b5 q.length c5) (x2 := .int .i64 n1) (.tail (.tail (.tail (.tail .head))))
        have mB := mA.set (i := 6) (v := .slice b9 (p.since.length + 1) c9) (.tail (.tail (.tail (.tail .head))))
        simp only [List.setIfInBounds_toArray, List.set_cons_zero, List.set_cons_succ] at mB
        have mC := (mB.set8 (x0 := .int .i64 f) (x1 := .slice b5 q.length c5) (x2 := .int .i64 n1) (x3 := .int .i64 p.saved.first) (x4 := .slice sb p.saved.queue.length sc) (x5 := .int .i64 p.saved.next) (x6 := .slice b9 (p.since.length + 1) c9) (x7 := .slice ob p.out.length oc) (.tail (.tail .head))).drop.drop.drop.drop.drop
        obtain ⟨H6, m6', hl6, hs6⟩ := (ha5.join mC).done ((HCH.out.append (.one (x := s) ⟨rfl, hs⟩ rfl))) rfl (by simp)
        exact ⟨b5, c5, sb, sc, b9, c9, ob, oc, H6, by rw [List.length_append]; rfl, m6', hl4.trans hl6, HS4.out.mono hl6, (H2.out.mono hl4).mono hl6, by simpa using hs6, (H4.out.mono hl4).mono hl6⟩
      · go_simp
        refine hK _ _ (.inr (by simp [es, ns, World.cell?_alloc_lt, World.size_alloc, Nat.lt_succ_of_lt, World.cell?_setCell_other])) ?_
        clear hK K
        try simp only [Act.put, List.setIfInBounds_toArray, List.set_cons_zero, List.set_cons_succ]
        have mBL := (mB1.alloc (.cells #[.string s] 9)).perm (.swap _ _ _)
        rw [World.size_alloc] at mBL
        refine AnyBut.one (i := 4) (by kernel_rfl) (AnyBut.opIf rfl fun K hK => ?_)
        obtain ⟨news, hch, hsrc⟩ := (H3.out.mono hl4).src mBL
        have HCH := Lib.hid hch; clear hch
        refine step_append_mem (w0 := w0) (H := H5) (L := _ :: (gb, .cells #[.int .i64 f, .slice b5 q.length c5, .int .i64 n1] 24) :: (w.heap.size + 1 + 1, .cells #[.int .i64 0, .slice none 0 0, .int .i64 0, .int .i64 0, .slice none 0 0, .int .i64 0, .slice none 0 0, .slice none 0 0] 78) :: (w.heap.size + 1, .cells #[.int .u8 1, .int .i64 n, .string s] 43) :: (w.heap.size, .cells #[.int .i64 p.gate.first, .slice qb p.gate.queue.length qc, .int .i64 p.gate.next, .int .i64 p.saved.first, .slice sb p.saved.queue.length sc, .int .i64 p.saved.next, .slice nb p.since.length nc, .slice ob p.out.length oc] 78) :: L) rfl _ _ 22 rfl 9 1 16 (.string ByteArray.empty) Try.underlying22 (by kernel_rfl) rfl (by decide) (.slice (some ⟨W7.heap.size, 0, none⟩) 0 0) 0 [] (MemAcc.row mBL (Nat.le_refl _) (by decide) rfl rfl) rfl (.slice nb p.since.length nc) p.since.length news hsrc rfl HCH.out.len1 (str_oneCell HCH.out) (by omega) (by unfold maxLen; omega) ?_
        intro v' w8 hacc
        simp only [Nat.zero_add, List.nil_append] at hacc
        obtain ⟨b8, c8, rfl, _, _⟩ := hacc.shape
        clear es ns
        have es := hacc.mem.eqs
        simp only [EqsL, and_true] at es
        have ns := hacc.mem.nes
        simp only [NeL, NeFrom, and_true, true_and] at ns
        refine hK _ _ (.inr (by simp [es, ns, World.cell?_alloc_lt, World.size_alloc, Nat.lt_succ_of_lt, World.cell?_setCell_other])) ?_
        clear hK K
        try simp only [Act.put, List.setIfInBounds_toArray, List.set_cons_zero, List.set_cons_succ]
        have HA := Lib.hid hacc; clear hacc
        refine AnyBut.one (i := 8) (by kernel_rfl) (AnyBut.opIf rfl fun K hK => ?_)
        refine step_append_mem (w0 := w0) (H := H5) (L := _ :: _) rfl _ _ 22 rfl 9 1 16 (.string ByteArray.empty) Try.underlying22 (by kernel_rfl) rfl (by decide) (.slice b8 p.since.length c8) p.since.length news HA.out rfl _ 1 [.string s] (Src.loc (e := 9) HA.out.mem (.head _)) rfl rfl (by simp [Value.oneCell']) (by omega) (by unfold maxLen; omega) ?_
        intro v' w9 hacc
        obtain ⟨b9, c9, rfl, _, _⟩ := hacc.shape
        have HA9 := Lib.hid hacc; clear hacc HA
        clear es ns
        have es := HA9.out.mem.eqs
        simp only [EqsL, and_true] at es
        have ns := HA9.out.mem.nes
        simp only [NeL, NeFrom, and_true, true_and] at ns
        refine hK _ _ (.inr (by simp [es, ns, World.cell?_alloc_lt, World.size_alloc, Nat.lt_succ_of_lt, World.cell?_setCell_other])) ?_
        clear hK K
        try simp only [Act.put, List.setIfInBounds_toArray, List.set_cons_zero, List.set_cons_succ]
        refine AnyBut.one (i := 10) (by kernel_rfl) (AnyBut.op rfl (by rfl) fun K hK => ?_)
        go_simp
        refine hK _ _ (.inr (by simp [es, ns, World.cell?_alloc_lt, World.size_alloc, Nat.lt_succ_of_lt, World.cell?_setCell_other])) ?_
        clear hK K
        try simp only [Act.put, List.setIfInBounds_toArray, List.set_cons_zero, List.set_cons_succ]
        refine AnyBut.one (i := 11) (by kernel_rfl) (AnyBut.op rfl (by rfl) fun K hK => ?_)
        go_simp
        refine hK _ _ (.inr (by simp [es, ns, World.cell?_alloc_lt, World.size_alloc, Nat.lt_succ_of_lt, World.cell?_setCell_other])) ?_
        clear hK K
        try simp only [Act.put, List.setIfInBounds_toArray, List.set_cons_zero, List.set_cons_succ]
        refine AnyBut.one (i := 12) (by kernel_rfl) (AnyBut.op rfl (by rfl) fun K hK => ?_)
        go_simp
        refine hK _ _ (.inl rfl) ?_
        clear hK K
        try simp only [Act.put, List.setIfInBounds_toArray, List.set_cons_zero, List.set_cons_succ]
        refine AnyBut.done (by kernel_rfl) ?_ _
        go_wp2_with fail
        refine bodyPost_ret (v := .tuple #[.agg #[.int .i64 (⟨f, q, n1⟩ : GateM).first, .slice b5 (⟨f, q, n1⟩ : GateM).queue.length c5, .int .i64 (⟨f, q, n1⟩ : GateM).next, .int .i64 p.saved.first, .slice sb p.saved.queue.length sc, .int .i64 p.saved.next, .slice b9 (p.since.length + 1) c9, .slice ob p.out.length oc], .int .i64 0]) (by simp [results, Try.results44, go_sem, es, ns]) rfl ?_
        obtain ⟨L5, ha5, m9⟩ := HA9.out.split
        have mA := (m9.perm (perm_put _ _ _ _ _ L5 L)).set3b (x0 := .int .i64 f) (x1 := .slice b5 q.length c5) (x2 := .int .i64 n1) (.tail (.tail (.tail (.tail .head))))
        have mB := mA.set (i := 6) (v := .slice b9 (p.since.length + 1) c9) (.tail (.tail (.tail (.tail .head))))
        simp only [List.setIfInBounds_toArray, List.set_cons_zero, List.set_cons_succ] at mB
        have mC := (mB.set8 (x0 := .int .i64 f) (x1 := .slice b5 q.length c5) (x2 := .int .i64 n1) (x3 := .int .i64 p.saved.first) (x4 := .slice sb p.saved.queue.length sc) (x5 := .int .i64 p.saved.next) (x6 := .slice b9 (p.since.length + 1) c9) (x7 := .slice ob p.out.length oc) (.tail (.tail .head))).drop.drop.drop.drop.drop
        obtain ⟨H6, m6', hl6, hs6⟩ := (ha5.join mC).done ((HCH.out.append (.one (x := s) ⟨rfl, hs⟩ rfl))) rfl (by simp)
        exact ⟨b5, c5, sb, sc, b9, c9, ob, oc, H6, by rw [List.length_append]; rfl, m6', hl4.trans hl6, HS4.out.mono hl6, (H2.out.mono hl4).mono hl6, by simpa using hs6, (H4.out.mono hl4).mono hl6⟩
    · go_simp
      refine hK _ _ (.inr (by simp [es, ns, World.cell?_alloc_lt, World.size_alloc, Nat.lt_succ_of_lt, World.cell?_setCell_other])) ?_
      clear hK K
      try simp only [Act.put, List.setIfInBounds_toArray, List.set_cons_zero, List.set_cons_succ]
      refine AnyBut.one (i := 1) (by kernel_rfl) (AnyBut.op rfl (by rfl) fun K hK => ?_)
      go_simp
      refine hK _ _ (.inr (by simp [es, ns, World.cell?_alloc_lt, World.size_alloc, Nat.lt_succ_of_lt, World.cell?_setCell_other])) ?_
      clear hK K
      try simp only [Act.put, List.setIfInBounds_toArray, List.set_cons_zero, List.set_cons_succ]
      have mLB := mL1.alloc (.cells #[] 9)
      rw [World.size_alloc] at mLB
      refine AnyBut.one (i := 4) (by kernel_rfl) (AnyBut.opIf rfl fun K hK => ?_)
      obtain ⟨news, hch, hsrc⟩ := (H3.out.mono hl4).src mLB
      have HCH := Lib.hid hch; clear hch
      refine step_append_mem (w0 := w0) (H := H5) (L := _ :: (gb, .cells #[.int .i64 f, .slice b5 q.length c5, .int .i64 n1] 24) :: (w.heap.size + 1 + 1, .cells #[.int .i64 0, .slice none 0 0, .int .i64 0, .int .i64 0, .slice none 0 0, .int .i64 0, .slice none 0 0, .slice none 0 0] 78) :: (w.heap.size + 1, .cells #[.int .u8 1, .int .i64 n, .string s] 43) :: (w.heap.size, .cells #[.int .i64 p.gate.first, .slice qb p.gate.queue.length qc, .int .i64 p.gate.next, .int .i64 p.saved.first, .slice sb p.saved.queue.length sc, .int .i64 p.saved.next, .slice nb p.since.length nc, .slice ob p.out.length oc] 78) :: L) rfl _ _ 22 rfl 9 1 16 (.string ByteArray.empty) Try.underlying22 (by kernel_rfl) rfl (by decide) (.slice (some ⟨W7.heap.size + 1, 0, none⟩) 0 0) 0 [] (MemAcc.row mLB (Nat.le_refl _) (by decide) rfl rfl) rfl (.slice nb p.since.length nc) p.since.length news hsrc rfl HCH.out.len1 (str_oneCell HCH.out) (by omega) (by unfold maxLen; omega) ?_
      intro v' w8 hacc
      simp only [Nat.zero_add, List.nil_append] at hacc
      obtain ⟨b8, c8, rfl, _, _⟩ := hacc.shape
      clear es ns
      have es := hacc.mem.eqs
      simp only [EqsL, and_true] at es
      have ns := hacc.mem.nes
      simp only [NeL, NeFrom, and_true, true_and] at ns
      refine hK _ _ (.inr (by simp [es, ns, World.cell?_alloc_lt, World.size_alloc, Nat.lt_succ_of_lt, World.cell?_setCell_other])) ?_
      clear hK K
      try simp only [Act.put, List.setIfInBounds_toArray, List.set_cons_zero, List.set_cons_succ]
      have HA := Lib.hid hacc; clear hacc
      refine AnyBut.one (i := 8) (by kernel_rfl) (AnyBut.opIf rfl fun K hK => ?_)
      refine step_append_mem (w0 := w0) (H := H5) (L := _ :: _) rfl _ _ 22 rfl 9 1 16 (.string ByteArray.empty) Try.underlying22 (by kernel_rfl) rfl (by decide) (.slice b8 p.since.length c8) p.since.length news HA.out rfl _ 1 [.string s] (Src.loc (e := 9) HA.out.mem (.head _)) rfl rfl (by simp [Value.oneCell']) (by omega) (by unfold maxLen; omega) ?_
      intro v' w9 hacc
      obtain ⟨b9, c9, rfl, _, _⟩ := hacc.shape
      have HA9 := Lib.hid hacc; clear hacc HA
      clear es ns
      have es := HA9.out.mem.eqs
      simp only [EqsL, and_true] at es
      have ns := HA9.out.mem.nes
      simp only [NeL, NeFrom, and_true, true_and] at ns
      refine hK _ _ (.inr (by simp [es, ns, World.cell?_alloc_lt, World.size_alloc, Nat.lt_succ_of_lt, World.cell?_setCell_other])) ?_
      clear hK K
      try simp only [Act.put, List.setIfInBounds_toArray, List.set_cons_zero, List.set_cons_succ]
      refine AnyBut.one (i := 10) (by kernel_rfl) (AnyBut.op rfl (by rfl) fun K hK => ?_)
      go_simp
      refine hK _ _ (.inr (by simp [es, ns, World.cell?_alloc_lt, World.size_alloc, Nat.lt_succ_of_lt, World.cell?_setCell_other])) ?_
      clear hK K
      try simp only [Act.put, List.setIfInBounds_toArray, List.set_cons_zero, List.set_cons_succ]
      refine AnyBut.one (i := 11) (by kernel_rfl) (AnyBut.op rfl (by rfl) fun K hK => ?_)
      go_simp
      refine hK _ _ (.inr (by simp [es, ns, World.cell?_alloc_lt, World.size_alloc, Nat.lt_succ_of_lt, World.cell?_setCell_other])) ?_
      clear hK K
      try simp only [Act.put, List.setIfInBounds_toArray, List.set_cons_zero, List.set_cons_succ]
      refine AnyBut.one (i := 12) (by kernel_rfl) (AnyBut.op rfl (by rfl) fun K hK => ?_)
      go_simp
      refine hK _ _ (.inl rfl) ?_
      clear hK K
      try simp only [Act.put, List.setIfInBounds_toArray, List.set_cons_zero, List.set_cons_succ]
      refine AnyBut.done (by kernel_rfl) ?_ _
      go_wp2_with fail
      refine bodyPost_ret (v := .tuple #[.agg #[.int .i64 (⟨f, q, n1⟩ : GateM).first, .slice b5 (⟨f, q, n1⟩ : GateM).queue.length c5, .int .i64 (⟨f, q, n1⟩ : GateM).next, .int .i64 p.saved.first, .slice sb p.saved.queue.length sc, .int .i64 p.saved.next, .slice b9 (p.since.length + 1) c9, .slice ob p.out.length oc], .int .i64 0]) (by simp [results, Try.results44, go_sem, es, ns]) rfl ?_
      obtain ⟨L5, ha5, m9⟩ := HA9.out.split
      have mA := (m9.perm (perm_put _ _ _ _ _ L5 L)).set3b (x0 := .int .i64 f) (x1 := .slice b5 q.length c5) (x2 := .int .i64 n1) (.tail (.tail (.tail (.tail .head))))
      have mB := mA.set (i := 6) (v := .slice b9 (p.since.length + 1) c9) (.tail (.tail (.tail (.tail .head))))
      simp only [List.setIfInBounds_toArray, List.set_cons_zero, List.set_cons_succ] at mB
      have mC := (mB.set8 (x0 := .int .i64 f) (x1 := .slice b5 q.length c5) (x2 := .int .i64 n1) (x3 := .int .i64 p.saved.first) (x4 := .slice sb p.saved.queue.length sc) (x5 := .int .i64 p.saved.next) (x6 := .slice b9 (p.since.length + 1) c9) (x7 := .slice ob p.out.length oc) (.tail (.tail .head))).drop.drop.drop.drop.drop
      obtain ⟨H6, m6', hl6, hs6⟩ := (ha5.join mC).done ((HCH.out.append (.one (x := s) ⟨rfl, hs⟩ rfl))) rfl (by simp)
      exact ⟨b5, c5, sb, sc, b9, c9, ob, oc, H6, by rw [List.length_append]; rfl, m6', hl4.trans hl6, HS4.out.mono hl6, (H2.out.mono hl4).mono hl6, by simpa using hs6, (H4.out.mono hl4).mono hl6⟩
  · have hw2 : p.gate.with1 (p.gate.put1 s) = (GateM.zero, e1) := by rw [hw1]; exact if_pos he
    rw [if_neg he]
    have HW1 := Lib.hid hw2; clear hw1 hw2
    have he1 : (e1 != 0) = true := by simpa using he
    have HE := Lib.hid he; clear he
    go_enter Try.func44, Try.ntmps44
    go_wp2_with fail
    refine (RPut_any _ p.gate s m3 ⟨_, rfl, H1.out⟩ hs).mono ?_
    rintro e w1 hR
    rw [HW1.out] at hR
    obtain ⟨b5, c5, H5, rfl, m4, hl4, hs4⟩ := GateR.lit (f := 0) (q := []) (n := 0) (k := e1) rfl (N := 0) rfl hR
    clear hR hs4
    have m5 := m4.alloc (.cells #[.int .i64 0, .slice b5 0 c5, .int .i64 0] 24)
    have es := m4.eqs; simp only [EqsL, and_true] at es
    have ns := m5.nes; simp only [NeL, NeFrom, and_true, true_and] at ns
    go_wp2_with fail
    refine bodyPost_ret (v := .tuple #[.agg #[.int .i64 p.gate.first, .slice qb p.gate.queue.length qc, .int .i64 p.gate.next, .int .i64 p.saved.first, .slice sb p.saved.queue.length sc, .int .i64 p.saved.next, .slice nb p.since.length nc, .slice ob p.out.length oc], .int .i64 e1]) (by simp [results, Try.results44, go_sem, es, ns]) rfl ?_
    exact ⟨qb, qc, sb, sc, nb, nc, ob, oc, H5, rfl, ((m4.set8 .head).alloc _).drop.drop.drop.drop, hl4, H1.out.mono hl4, H2.out.mono hl4, H3.out.mono hl4, H4.out.mono hl4⟩
end Go.Proofs.Ytpkcdkbbhiafnaa
