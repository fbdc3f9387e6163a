/- The walk: the reference's Bytes. -/
import Derived.Test.YtpkcdkbbhiafnaaByteA
import Derived.Test.YtpkcdkbbhiafnaaRegionN
import Derived.Deep.CutRange
namespace Go.Proofs.Ytpkcdkbbhiafnaa
set_option linter.unusedVariables false
set_option linter.unusedSimpArgs false
open Go.RowKit

theorem b_oneCell {H : Hp} {cs : List Value} {xs : List UInt8} (h : Chunks encB H cs xs) : ∀ u ∈ cs, u.oneCell' = true :=
  h.oneCell fun cs x hx u hu => by
    obtain ⟨rfl, _⟩ := hx
    rw [List.mem_singleton] at hu
    subst hu; rfl
theorem perm3 {α : Type} (fb lit fa : α) (L : List α) : (fb :: lit :: fa :: L).Perm (fa :: fb :: lit :: L) := (by classical exact List.perm_iff_count.2 (fun a => by simp only [List.count_append, List.count_cons, List.cons_append, List.nil_append, List.append_assoc]; omega))
theorem perm3b {α : Type} (lit fb fa : α) (L : List α) : (lit :: fb :: fa :: L).Perm (fa :: lit :: fb :: L) := (by classical exact List.perm_iff_count.2 (fun a => by simp only [List.count_append, List.count_cons, List.cons_append, List.nil_append, List.append_assoc]; omega))
theorem head_chunks {H : Hp} {g : GateM} {ca cb : List Value} {y : Int} (h1 : Chunks encB H ca (numberM g.first)) (h2 : Chunks encB H cb (numberM g.next)) (hy : ((UInt8.ofNat g.queue.length).toNat : Int) = y) :
    Chunks encB H (ca ++ cb ++ [.int .u8 y]) (headB g) := by
  subst hy
  have := (h1.append h2).append (.one (x := UInt8.ofNat g.queue.length) ⟨rfl, trivial⟩ rfl)
  simpa [headB, flatB] using this

set_option maxRecDepth 10000 in
set_option maxHeartbeats 8000000 in
theorem RBytes_any (v : Value) (g : GateM) {w0 w : World} {H : Hp} {L : List (Nat × Obj)} (m : Mem w0 H L w) (hv : GateV H v g) :
    Calls Try.prog 33 #[v] w fun e w' => ∃ b n c H', e = .returned (.tuple #[.slice b n c, .int .i64 (bytesR g).2]) ∧ Mem w0 H' L w' ∧ Hle H H' ∧ SlR encB H' (.slice b n c) (bytesR g).1 := by
  obtain ⟨q, rfl, hq⟩ := hv
  have HQ := Lib.hid hq
  obtain ⟨qb, qc, rfl⟩ := GateV.slice hq
  clear hq
  by_cases hk : g.chk = 0
  · have hk1 : (g.chk != 0) = false := by simpa using hk
    have hbr : bytesR g = (bytesM g, 0) := by unfold bytesR; rw [if_neg (by simpa using hk)]
    rw [hbr]; clear hbr
    obtain ⟨k1, k2, k3, k4, s5, htx⟩ := GateM.chk_in hk
    have HTX := Lib.hid htx; clear htx
    have HK := Lib.hid hk; clear hk
    have hx : ((UInt8.ofNat g.queue.length).toNat : Int) = g.queue.length := by simp; omega
    have HX := Lib.hid hx; clear hx
    have hwr : IntKind.u8.wrap (g.queue.length : Int) = g.queue.length := wraps_u8 _ (by omega) (by omega)
    go_enter Try.func33, Try.ntmps33
    go_wp2_with fail
    have m1 := m.alloc (.cells #[.int .i64 g.first, .slice qb g.queue.length qc, .int .i64 g.next] 24)
    refine (RCheck_any _ g m1 ⟨_, rfl, HQ.out⟩).mono ?_
    rintro e w1 ⟨rfl, m1⟩
    have es := m1.eqs; simp only [EqsL, and_true] at es
    go_upto_region 4 with fail
    go_cut [5] from 12 to 24 (fun v5 wx => ∃ (b9 : Option Addr) (c9 : Nat) (cs9 : List Value), v5 = .slice b9 9 c9 ∧ MemAcc w0 H ((w.heap.size, .cells #[.int .i64 g.first, .slice qb g.queue.length qc, .int .i64 g.next] 24) :: L) 5 1 (.slice b9 9 c9) 9 cs9 wx ∧ Chunks encB H cs9 (headB g))
    case first =>
      refine AnyBut.start (fun w' => w'.cell? ⟨w.heap.size, 0, none⟩ = some (.int .i64 g.first) ∧ w'.cell? ⟨w.heap.size, 1, none⟩ = some (.slice qb g.queue.length qc) ∧ w'.cell? ⟨w.heap.size, 2, none⟩ = some (.int .i64 g.next)) 13 (by kernel_rfl) ?_
      have m2 := m1.drew
      clear es m1
      generalize w1.drew = W7 at *
      have es := m2.eqs; simp only [EqsL, and_true] at es
      have HS : W7.cell? ⟨w.heap.size, 0, none⟩ = some (.int .i64 g.first) ∧ W7.cell? ⟨w.heap.size, 1, none⟩ = some (.slice qb g.queue.length qc) ∧ W7.cell? ⟨w.heap.size, 2, none⟩ = some (.int .i64 g.next) := by simp [es]
      refine AnyBut.take (i := 0) (v := ?_) rfl (by kernel_rfl) (by kernel_rfl) (by kernel_rfl) (by kernel_rfl) (fun _ _ _ h => h) ⟨by rfl, ?_⟩ HS ?_
      rotate_left
      · first | (intro w' hSw; go_simp; done) | (intro w' hSw; go_simp; with_reducible rfl)
      simp only [Act.put, List.setIfInBounds_toArray, List.set_cons_zero, List.set_cons_succ]
      refine AnyBut.take (i := 1) (v := ?_) rfl (by kernel_rfl) (by kernel_rfl) (by kernel_rfl) (by kernel_rfl) (fun _ _ _ h => h) ⟨by rfl, ?_⟩ HS ?_
      rotate_left
      · first | (intro w' hSw; go_simp; done) | (intro w' hSw; go_simp; with_reducible rfl)
      simp only [Act.put, List.setIfInBounds_toArray, List.set_cons_zero, List.set_cons_succ]
      refine AnyBut.take (i := 3) (v := ?_) rfl (by kernel_rfl) (by kernel_rfl) (by kernel_rfl) (by kernel_rfl) (fun _ _ _ h => h) ⟨by rfl, ?_⟩ HS ?_
      rotate_left
      · first | (intro w' hSw; go_simp; done) | (intro w' hSw; go_simp; with_reducible rfl)
      simp only [Act.put, List.setIfInBounds_toArray, List.set_cons_zero, List.set_cons_succ]
      refine AnyBut.take (i := 4) (v := ?_) rfl (by kernel_rfl) (by kernel_rfl) (by kernel_rfl) (by kernel_rfl) (fun _ _ _ h => h) ⟨by rfl, ?_⟩ HS ?_
      rotate_left
      · first | (intro w' hSw; go_simp; done) | (intro w' hSw; go_simp; with_reducible rfl)
      simp only [Act.put, List.setIfInBounds_toArray, List.set_cons_zero, List.set_cons_succ]
      refine AnyBut.take (i := 7) (v := ?_) rfl (by kernel_rfl) (by kernel_rfl) (by kernel_rfl) (by kernel_rfl) (fun _ _ _ h => h) ⟨by rfl, ?_⟩ HS ?_
      rotate_left
      · first | (intro w' hSw; go_simp; done) | (intro w' hSw; go_simp; with_reducible rfl)
      simp only [Act.put, List.setIfInBounds_toArray, List.set_cons_zero, List.set_cons_succ]
      refine AnyBut.take (i := 8) (v := ?_) rfl (by kernel_rfl) (by kernel_rfl) (by kernel_rfl) (by kernel_rfl) (fun _ _ _ h => h) ⟨by rfl, ?_⟩ HS ?_
      rotate_left
      · first | (intro w' hSw; go_simp; done) | (intro w' hSw; go_simp; with_reducible rfl)
      simp only [Act.put, List.setIfInBounds_toArray, List.set_cons_zero, List.set_cons_succ]
      refine AnyBut.take (i := 9) (v := ?_) rfl (by kernel_rfl) (by kernel_rfl) (by kernel_rfl) (by kernel_rfl) (fun _ _ _ h => h) ⟨by rfl, ?_⟩ HS ?_
      rotate_left
      · first | (intro w' hSw; go_simp; done) | (intro w' hSw; go_simp; with_reducible rfl)
      simp only [Act.put, List.setIfInBounds_toArray, List.set_cons_zero, List.set_cons_succ]
      refine AnyBut.take (i := 10) (v := ?_) rfl (by kernel_rfl) (by kernel_rfl) (by kernel_rfl) (by kernel_rfl) (fun _ _ _ h => h) ⟨by rfl, ?_⟩ HS ?_
      rotate_left
      · first | (intro w' hSw; go_simp; done) | (intro w' hSw; go_simp; with_reducible rfl)
      simp only [Act.put, List.setIfInBounds_toArray, List.set_cons_zero, List.set_cons_succ]
      refine AnyBut.two (i := 2) (j := 11) (by kernel_rfl) (AnyBut.op rfl (by rfl) fun K hK => ?_) (AnyBut.op rfl (by rfl) fun K hK => ?_)
      · skip
        go_simp
        refine (Four_any g.first k1 k2 m2).mono ?_
        rintro e wa ⟨fa, ca, rfl, mA, hcha⟩
        have HCHa := Lib.hid hcha; clear hcha
        go_wp2_with fail
        clear es
        have es := mA.eqs
        simp only [EqsL, and_true] at es
        refine hK _ _ (.inr (by simp [es, World.cell?_alloc_lt, World.size_alloc, Nat.lt_succ_of_lt])) ?_
        clear hK K
        try simp only [Act.put, List.setIfInBounds_toArray, List.set_cons_zero, List.set_cons_succ]
        refine AnyBut.two (i := 5) (j := 11) (by kernel_rfl) (AnyBut.op rfl (by rfl) fun K hK => ?_) (AnyBut.op rfl (by rfl) fun K hK => ?_)
        · skip
          go_simp
          refine (Four_any g.next k3 k4 mA).mono ?_
          rintro e wb ⟨fb, cb, rfl, mB, hchb⟩
          have HCHb := Lib.hid hchb; clear hchb
          go_wp2_with fail
          clear es
          have es := mB.eqs
          simp only [EqsL, and_true] at es
          refine hK _ _ (.inr (by simp [es, World.cell?_alloc_lt, World.size_alloc, Nat.lt_succ_of_lt])) ?_
          clear hK K
          try simp only [Act.put, List.setIfInBounds_toArray, List.set_cons_zero, List.set_cons_succ]
          refine AnyBut.two (i := 6) (j := 11) (by kernel_rfl) (AnyBut.opIf rfl fun K hK => ?_) (AnyBut.op rfl (by rfl) fun K hK => ?_)
          · skip
            have hp := mB.perm (.swap _ _ _)
            have hla : ca.length = 4 := HCHa.out.length
            have hlb : cb.length = 4 := HCHb.out.length
            refine step_append_mem (w0 := w0) (H := H) (L := _ :: _) rfl _ _ 49 rfl 5 1 1 (.int .u8 0) Try.underlying49 (by kernel_rfl) rfl (by decide) (.slice (some ⟨fa, 0, none⟩) 4 4) 4 ca (MemAcc.row hp (Nat.le_refl _) (by decide) (by simp [hla]) (by rw [List.take_of_length_le (by simp [hla])])) rfl (.slice (some ⟨fb, 0, none⟩) 4 4) 4 cb (Src.loc (e := 5) mB (.head _)) rfl (by rw [hlb]) (b_oneCell HCHb.out) (by omega) (by unfold maxLen; omega) ?_
            intro v' w8 hacc
            obtain ⟨b8, c8, rfl, _, _⟩ := hacc.shape
            clear es
            have es := hacc.mem.eqs
            simp only [EqsL, and_true] at es
            refine hK _ _ (.inr (by simp [es, World.cell?_alloc_lt, World.size_alloc, Nat.lt_succ_of_lt])) ?_
            clear hK K
            try simp only [Act.put, List.setIfInBounds_toArray, List.set_cons_zero, List.set_cons_succ]
            refine AnyBut.one (i := 11) (by kernel_rfl) (AnyBut.op rfl (by rfl) fun K hK => ?_)
            go_simp
            have hacc2 := hacc.alloc (.cells #[.int .u8 g.queue.length] 5)
            refine hK _ _ (.inr (by simp [es, World.cell?_alloc_lt, World.size_alloc, Nat.lt_succ_of_lt])) ?_
            clear hK K
            try simp only [Act.put, List.setIfInBounds_toArray, List.set_cons_zero, List.set_cons_succ]
            refine AnyBut.one (i := 12) (by kernel_rfl) (AnyBut.opIf rfl fun K hK => ?_)
            refine step_append_mem (w0 := w0) (H := H) (L := _ :: _) rfl _ _ 49 rfl 5 1 1 (.int .u8 0) Try.underlying49 (by kernel_rfl) rfl (by decide) (.slice b8 8 c8) 8 (ca ++ cb) hacc2 rfl _ 1 [.int .u8 g.queue.length] (Src.loc (e := 5) hacc2.mem (.head _)) rfl rfl (by simp [Value.oneCell']) (by omega) (by unfold maxLen; omega) ?_
            intro v9 w9 hacc9
            obtain ⟨b9, c9, rfl, _, _⟩ := hacc9.shape
            clear es
            have es := hacc9.mem.eqs
            simp only [EqsL, and_true] at es
            refine hK _ _ (.inr (by simp [es, World.cell?_alloc_lt, World.size_alloc, Nat.lt_succ_of_lt])) ?_
            clear hK K
            try simp only [Act.put, List.setIfInBounds_toArray, List.set_cons_zero, List.set_cons_succ]
            refine AnyBut.one (i := 13) (by kernel_rfl) (AnyBut.op rfl (by rfl) fun K hK => ?_)
            go_simp
            refine hK _ _ (.inl rfl) ?_
            clear hK K
            try simp only [Act.put, List.setIfInBounds_toArray, List.set_cons_zero, List.set_cons_succ]
            refine AnyBut.done (by kernel_rfl) ?_ _
            go_wp2_with fail
            go_meet
            exact ⟨b9, c9, _, rfl, hacc9.drop.drop, head_chunks HCHa.out HCHb.out HX.out⟩
          · skip
            go_simp
            have mC := mB.alloc (.cells #[.int .u8 g.queue.length] 5)
            refine hK _ _ (.inr (by simp [es, World.cell?_alloc_lt, World.size_alloc, Nat.lt_succ_of_lt])) ?_
            clear hK K
            try simp only [Act.put, List.setIfInBounds_toArray, List.set_cons_zero, List.set_cons_succ]
            refine AnyBut.one (i := 6) (by kernel_rfl) (AnyBut.opIf rfl fun K hK => ?_)
            have hp := mC.perm (perm3b _ _ _ _)
            have hla : ca.length = 4 := HCHa.out.length
            have hlb : cb.length = 4 := HCHb.out.length
            refine step_append_mem (w0 := w0) (H := H) (L := _ :: _) rfl _ _ 49 rfl 5 1 1 (.int .u8 0) Try.underlying49 (by kernel_rfl) rfl (by decide) (.slice (some ⟨fa, 0, none⟩) 4 4) 4 ca (MemAcc.row hp (Nat.le_refl _) (by decide) (by simp [hla]) (by rw [List.take_of_length_le (by simp [hla])])) rfl (.slice (some ⟨fb, 0, none⟩) 4 4) 4 cb (Src.loc (e := 5) mC (.tail _ (.head _))) rfl (by rw [hlb]) (b_oneCell HCHb.out) (by omega) (by unfold maxLen; omega) ?_
            intro v' w8 hacc
            obtain ⟨b8, c8, rfl, _, _⟩ := hacc.shape
            clear es
            have es := hacc.mem.eqs
            simp only [EqsL, and_true] at es
            refine hK _ _ (.inr (by simp [es, World.cell?_alloc_lt, World.size_alloc, Nat.lt_succ_of_lt])) ?_
            clear hK K
            try simp only [Act.put, List.setIfInBounds_toArray, List.set_cons_zero, List.set_cons_succ]
            refine AnyBut.one (i := 12) (by kernel_rfl) (AnyBut.opIf rfl fun K hK => ?_)
            refine step_append_mem (w0 := w0) (H := H) (L := _ :: _) rfl _ _ 49 rfl 5 1 1 (.int .u8 0) Try.underlying49 (by kernel_rfl) rfl (by decide) (.slice b8 8 c8) 8 (ca ++ cb) hacc rfl _ 1 [.int .u8 g.queue.length] (Src.loc (e := 5) hacc.mem (.head _)) rfl rfl (by simp [Value.oneCell']) (by omega) (by unfold maxLen; omega) ?_
            intro v9 w9 hacc9
            obtain ⟨b9, c9, rfl, _, _⟩ := hacc9.shape
            clear es
            have es := hacc9.mem.eqs
            simp only [EqsL, and_true] at es
            refine hK _ _ (.inr (by simp [es, World.cell?_alloc_lt, World.size_alloc, Nat.lt_succ_of_lt])) ?_
            clear hK K
            try simp only [Act.put, List.setIfInBounds_toArray, List.set_cons_zero, List.set_cons_succ]
            refine AnyBut.one (i := 13) (by kernel_rfl) (AnyBut.op rfl (by rfl) fun K hK => ?_)
            go_simp
            refine hK _ _ (.inl rfl) ?_
            clear hK K
            try simp only [Act.put, List.setIfInBounds_toArray, List.set_cons_zero, List.set_cons_succ]
            refine AnyBut.done (by kernel_rfl) ?_ _
            go_wp2_with fail
            go_meet
            exact ⟨b9, c9, _, rfl, hacc9.drop.drop, head_chunks HCHa.out HCHb.out HX.out⟩
        · skip
          go_simp
          have mC := mA.alloc (.cells #[.int .u8 g.queue.length] 5)
          refine hK _ _ (.inr (by simp [es, World.cell?_alloc_lt, World.size_alloc, Nat.lt_succ_of_lt])) ?_
          clear hK K
          try simp only [Act.put, List.setIfInBounds_toArray, List.set_cons_zero, List.set_cons_succ]
          refine AnyBut.one (i := 5) (by kernel_rfl) (AnyBut.op rfl (by rfl) fun K hK => ?_)
          go_simp
          refine (Four_any g.next k3 k4 mC).mono ?_
          rintro e wb ⟨fb, cb, rfl, mB, hchb⟩
          have HCHb := Lib.hid hchb; clear hchb
          go_wp2_with fail
          clear es
          have es := mB.eqs
          simp only [EqsL, and_true] at es
          refine hK _ _ (.inr (by simp [es, World.cell?_alloc_lt, World.size_alloc, Nat.lt_succ_of_lt])) ?_
          clear hK K
          try simp only [Act.put, List.setIfInBounds_toArray, List.set_cons_zero, List.set_cons_succ]
          refine AnyBut.one (i := 6) (by kernel_rfl) (AnyBut.opIf rfl fun K hK => ?_)
          have hp := mB.perm (perm3 _ _ _ _)
          have hla : ca.length = 4 := HCHa.out.length
          have hlb : cb.length = 4 := HCHb.out.length
          refine step_append_mem (w0 := w0) (H := H) (L := _ :: _) rfl _ _ 49 rfl 5 1 1 (.int .u8 0) Try.underlying49 (by kernel_rfl) rfl (by decide) (.slice (some ⟨fa, 0, none⟩) 4 4) 4 ca (MemAcc.row hp (Nat.le_refl _) (by decide) (by simp [hla]) (by rw [List.take_of_length_le (by simp [hla])])) rfl (.slice (some ⟨fb, 0, none⟩) 4 4) 4 cb (Src.loc (e := 5) mB (.head _)) rfl (by rw [hlb]) (b_oneCell HCHb.out) (by omega) (by unfold maxLen; omega) ?_
          intro v' w8 hacc
          obtain ⟨b8, c8, rfl, _, _⟩ := hacc.shape
          clear es
          have es := hacc.mem.eqs
          simp only [EqsL, and_true] at es
          refine hK _ _ (.inr (by simp [es, World.cell?_alloc_lt, World.size_alloc, Nat.lt_succ_of_lt])) ?_
          clear hK K
          try simp only [Act.put, List.setIfInBounds_toArray, List.set_cons_zero, List.set_cons_succ]
          refine AnyBut.one (i := 12) (by kernel_rfl) (AnyBut.opIf rfl fun K hK => ?_)
          refine step_append_mem (w0 := w0) (H := H) (L := _ :: _) rfl _ _ 49 rfl 5 1 1 (.int .u8 0) Try.underlying49 (by kernel_rfl) rfl (by decide) (.slice b8 8 c8) 8 (ca ++ cb) hacc rfl _ 1 [.int .u8 g.queue.length] (Src.loc (e := 5) hacc.mem (.tail _ (.head _))) rfl rfl (by simp [Value.oneCell']) (by omega) (by unfold maxLen; omega) ?_
          intro v9 w9 hacc9
          obtain ⟨b9, c9, rfl, _, _⟩ := hacc9.shape
          clear es
          have es := hacc9.mem.eqs
          simp only [EqsL, and_true] at es
          refine hK _ _ (.inr (by simp [es, World.cell?_alloc_lt, World.size_alloc, Nat.lt_succ_of_lt])) ?_
          clear hK K
          try simp only [Act.put, List.setIfInBounds_toArray, List.set_cons_zero, List.set_cons_succ]
          refine AnyBut.one (i := 13) (by kernel_rfl) (AnyBut.op rfl (by rfl) fun K hK => ?_)
          go_simp
          refine hK _ _ (.inl rfl) ?_
          clear hK K
          try simp only [Act.put, List.setIfInBounds_toArray, List.set_cons_zero, List.set_cons_succ]
          refine AnyBut.done (by kernel_rfl) ?_ _
          go_wp2_with fail
          go_meet
          exact ⟨b9, c9, _, rfl, hacc9.drop.drop, head_chunks HCHa.out HCHb.out HX.out⟩
      · skip
        go_simp
        have mC := m2.alloc (.cells #[.int .u8 g.queue.length] 5)
        refine hK _ _ (.inr (by simp [es, World.cell?_alloc_lt, World.size_alloc, Nat.lt_succ_of_lt])) ?_
        clear hK K
        try simp only [Act.put, List.setIfInBounds_toArray, List.set_cons_zero, List.set_cons_succ]
        refine AnyBut.one (i := 2) (by kernel_rfl) (AnyBut.op rfl (by rfl) fun K hK => ?_)
        go_simp
        refine (Four_any g.first k1 k2 mC).mono ?_
        rintro e wa ⟨fa, ca, rfl, mA, hcha⟩
        have HCHa := Lib.hid hcha; clear hcha
        go_wp2_with fail
        clear es
        have es := mA.eqs
        simp only [EqsL, and_true] at es
        refine hK _ _ (.inr (by simp [es, World.cell?_alloc_lt, World.size_alloc, Nat.lt_succ_of_lt])) ?_
        clear hK K
        try simp only [Act.put, List.setIfInBounds_toArray, List.set_cons_zero, List.set_cons_succ]
        refine AnyBut.one (i := 5) (by kernel_rfl) (AnyBut.op rfl (by rfl) fun K hK => ?_)
        go_simp
        refine (Four_any g.next k3 k4 mA).mono ?_
        rintro e wb ⟨fb, cb, rfl, mB, hchb⟩
        have HCHb := Lib.hid hchb; clear hchb
        go_wp2_with fail
        clear es
        have es := mB.eqs
        simp only [EqsL, and_true] at es
        refine hK _ _ (.inr (by simp [es, World.cell?_alloc_lt, World.size_alloc, Nat.lt_succ_of_lt])) ?_
        clear hK K
        try simp only [Act.put, List.setIfInBounds_toArray, List.set_cons_zero, List.set_cons_succ]
        refine AnyBut.one (i := 6) (by kernel_rfl) (AnyBut.opIf rfl fun K hK => ?_)
        have hp := mB.perm (.swap _ _ _)
        have hla : ca.length = 4 := HCHa.out.length
        have hlb : cb.length = 4 := HCHb.out.length
        refine step_append_mem (w0 := w0) (H := H) (L := _ :: _) rfl _ _ 49 rfl 5 1 1 (.int .u8 0) Try.underlying49 (by kernel_rfl) rfl (by decide) (.slice (some ⟨fa, 0, none⟩) 4 4) 4 ca (MemAcc.row hp (Nat.le_refl _) (by decide) (by simp [hla]) (by rw [List.take_of_length_le (by simp [hla])])) rfl (.slice (some ⟨fb, 0, none⟩) 4 4) 4 cb (Src.loc (e := 5) mB (.head _)) rfl (by rw [hlb]) (b_oneCell HCHb.out) (by omega) (by unfold maxLen; omega) ?_
        intro v' w8 hacc
        obtain ⟨b8, c8, rfl, _, _⟩ := hacc.shape
        clear es
        have es := hacc.mem.eqs
        simp only [EqsL, and_true] at es
        refine hK _ _ (.inr (by simp [es, World.cell?_alloc_lt, World.size_alloc, Nat.lt_succ_of_lt])) ?_
        clear hK K
        try simp only [Act.put, List.setIfInBounds_toArray, List.set_cons_zero, List.set_cons_succ]
        refine AnyBut.one (i := 12) (by kernel_rfl) (AnyBut.opIf rfl fun K hK => ?_)
        refine step_append_mem (w0 := w0) (H := H) (L := _ :: _) rfl _ _ 49 rfl 5 1 1 (.int .u8 0) Try.underlying49 (by kernel_rfl) rfl (by decide) (.slice b8 8 c8) 8 (ca ++ cb) hacc rfl _ 1 [.int .u8 g.queue.length] (Src.loc (e := 5) hacc.mem (.tail _ (.head _))) rfl rfl (by simp [Value.oneCell']) (by omega) (by unfold maxLen; omega) ?_
        intro v9 w9 hacc9
        obtain ⟨b9, c9, rfl, _, _⟩ := hacc9.shape
        clear es
        have es := hacc9.mem.eqs
        simp only [EqsL, and_true] at es
        refine hK _ _ (.inr (by simp [es, World.cell?_alloc_lt, World.size_alloc, Nat.lt_succ_of_lt])) ?_
        clear hK K
        try simp only [Act.put, List.setIfInBounds_toArray, List.set_cons_zero, List.set_cons_succ]
        refine AnyBut.one (i := 13) (by kernel_rfl) (AnyBut.op rfl (by rfl) fun K hK => ?_)
        go_simp
        refine hK _ _ (.inl rfl) ?_
        clear hK K
        try simp only [Act.put, List.setIfInBounds_toArray, List.set_cons_zero, List.set_cons_succ]
        refine AnyBut.done (by kernel_rfl) ?_ _
        go_wp2_with fail
        go_meet
        exact ⟨b9, c9, _, rfl, hacc9.drop.drop, head_chunks HCHa.out HCHb.out HX.out⟩
    case rest =>
      obtain ⟨b9, c9, cs9, rfl, hacc, hch⟩ := hcut
      clear es m1 hwr
      go_wp2_with fail
      go_loopw [5, 6] (fun v5 v6 wr => ∃ (j n3 : Nat) (b3 : Option Addr) (c3 : Nat) (cs3 : List Value), j ≤ g.queue.length ∧ v6 = .int .i64 j ∧ v5 = .slice b3 n3 c3 ∧ n3 = 9 + (restB (g.queue.take j)).length ∧ MemAcc w0 H ((w.heap.size, .cells #[.int .i64 g.first, .slice qb g.queue.length qc, .int .i64 g.next] 24) :: L) 5 1 v5 n3 cs3 wr ∧ Chunks encB H cs3 (headB g ++ restB (g.queue.take j))) (fun _ i _ => g.queue.length - (intOf i).toNat)
      case atStart => exact ⟨0, 9, b9, c9, cs9, Nat.zero_le _, rfl, rfl, rfl, hacc, by simpa [restB, flatB] using hch⟩
      case round =>
        obtain ⟨j, n3, b3, c3, cs3, hj, rfl, rfl, hn3, hacc3, hch3⟩ := hrel
        have htxt : ∀ s ∈ g.queue, s.size ≤ 200 := fun s hs => by
          have := List.all_eq_true.1 HTX.out s hs
          unfold isText at this
          simp only [Bool.and_eq_true, decide_eq_true_eq] at this
          exact this.2
        have hrl := restB_len (g.queue.take j) fun s hs => htxt s (List.mem_of_mem_take hs)
        rw [List.length_take] at hrl
        have hn4 : n3 ≤ 20000 := by omega
        have HN3 := Lib.hid hn3
        clear hn3 hrl hacc hch
        have HC3 := Lib.hid hch3; clear hch3
        have es := hacc3.mem.eqs
        simp only [EqsL, and_true] at es
        by_cases hlt : j < g.queue.length
        · have hsz := htxt _ (List.getElem_mem hlt)
          have HSN := Lib.hid (show restB (g.queue.take (j + 1)) = restB (g.queue.take j) ++ [UInt8.ofNat g.queue[j].size] ++ g.queue[j].data.toList by rw [List.take_succ_eq_append_getElem hlt, restB_snoc])
          obtain ⟨blk, off, rfl, hce, _⟩ := HQ.out.cellV hlt
          have HCE := Lib.hid hce; clear hce
          clear htxt
          generalize g.queue[j] = s at *
          have hwr : IntKind.u8.wrap (s.size : Int) = s.size := wraps_u8 _ (by omega) (by omega)
          have hx : (s.size : Int) = (UInt8.ofNat s.size).toNat := by simp; omega
          have HX2 := Lib.hid hx; clear hx
          have hlt2 : (j : Int) < g.queue.length := by omega
          have hj0 : (0 : Int) ≤ j := by omega
          go_upto_region 8 with fail
          refine AnyBut.start (fun w' => w'.cell? ⟨w.heap.size, 1, none⟩ = some (.slice (some ⟨blk, off, none⟩) g.queue.length qc) ∧ w'.cell? ⟨blk, off + j, none⟩ = some (.string s)) 16 (by kernel_rfl) ?_
          have hacc4 := hacc3.drew
          clear es hacc3
          generalize wr.drew = W7 at *
          have es := hacc4.mem.eqs
          simp only [EqsL, and_true] at es
          have hcell := HCE.out.cell hacc4.mem
          have hblk := HCE.out.lt hacc4.mem
          have HS : W7.cell? ⟨w.heap.size, 1, none⟩ = some (.slice (some ⟨blk, off, none⟩) g.queue.length qc) ∧ W7.cell? ⟨blk, off + j, none⟩ = some (.string s) := by simp [es, hcell]
          refine AnyBut.take (i := 0) (v := ?_) rfl (by kernel_rfl) (by kernel_rfl) (by kernel_rfl) (by kernel_rfl) (fun _ _ _ h => h) ⟨by rfl, ?_⟩ HS ?_
          rotate_left
          · first | (intro w' hSw; go_simp; done) | (intro w' hSw; go_simp; with_reducible rfl)
          simp only [Act.put, List.setIfInBounds_toArray, List.set_cons_zero, List.set_cons_succ]
          refine AnyBut.take (i := 1) (v := ?_) rfl (by kernel_rfl) (by kernel_rfl) (by kernel_rfl) (by kernel_rfl) (fun _ _ _ h => h) ⟨by rfl, ?_⟩ HS ?_
          rotate_left
          · first | (intro w' hSw; go_simp; done) | (intro w' hSw; go_simp; with_reducible rfl)
          simp only [Act.put, List.setIfInBounds_toArray, List.set_cons_zero, List.set_cons_succ]
          refine AnyBut.take (i := 2) (v := ?_) rfl (by kernel_rfl) (by kernel_rfl) (by kernel_rfl) (by kernel_rfl) (fun _ _ _ h => h) ⟨by rfl, ?_⟩ HS ?_
          rotate_left
          · first | (intro w' hSw; go_simp; done) | (intro w' hSw; go_simp; with_reducible rfl)
          simp only [Act.put, List.setIfInBounds_toArray, List.set_cons_zero, List.set_cons_succ]
          refine AnyBut.take (i := 3) (v := ?_) rfl (by kernel_rfl) (by kernel_rfl) (by kernel_rfl) (by kernel_rfl) (fun _ _ _ h => h) ⟨by rfl, ?_⟩ HS ?_
          rotate_left
          · first | (intro w' hSw; go_simp; done) | (intro w' hSw; go_simp; with_reducible rfl)
          simp only [Act.put, List.setIfInBounds_toArray, List.set_cons_zero, List.set_cons_succ]
          refine AnyBut.take (i := 4) (v := ?_) rfl (by kernel_rfl) (by kernel_rfl) (by kernel_rfl) (by kernel_rfl) (fun _ _ _ h => h) ⟨by rfl, ?_⟩ HS ?_
          rotate_left
          · first | (intro w' hSw; go_simp; done) | (intro w' hSw; go_simp; with_reducible rfl)
          simp only [Act.put, List.setIfInBounds_toArray, List.set_cons_zero, List.set_cons_succ]
          refine AnyBut.take (i := 5) (v := ?_) rfl (by kernel_rfl) (by kernel_rfl) (by kernel_rfl) (by kernel_rfl) (fun _ _ _ h => h) ⟨by rfl, ?_⟩ HS ?_
          rotate_left
          · first | (intro w' hSw; go_simp; done) | (intro w' hSw; go_simp; with_reducible rfl)
          simp only [Act.put, List.setIfInBounds_toArray, List.set_cons_zero, List.set_cons_succ]
          refine AnyBut.take (i := 6) (v := ?_) rfl (by kernel_rfl) (by kernel_rfl) (by kernel_rfl) (by kernel_rfl) (fun _ _ _ h => h) ⟨by rfl, ?_⟩ HS ?_
          rotate_left
          · first | (intro w' hSw; go_simp; done) | (intro w' hSw; go_simp; with_reducible rfl)
          simp only [Act.put, List.setIfInBounds_toArray, List.set_cons_zero, List.set_cons_succ]
          refine AnyBut.take (i := 7) (v := ?_) rfl (by kernel_rfl) (by kernel_rfl) (by kernel_rfl) (by kernel_rfl) (fun _ _ _ h => h) ⟨by rfl, ?_⟩ HS ?_
          rotate_left
          · first | (intro w' hSw; go_simp; done) | (intro w' hSw; go_simp; with_reducible rfl)
          simp only [Act.put, List.setIfInBounds_toArray, List.set_cons_zero, List.set_cons_succ]
          refine AnyBut.take (i := 10) (v := ?_) rfl (by kernel_rfl) (by kernel_rfl) (by kernel_rfl) (by kernel_rfl) (fun _ _ _ h => h) ⟨by rfl, ?_⟩ HS ?_
          rotate_left
          · first | (intro w' hSw; go_simp; done) | (intro w' hSw; go_simp; with_reducible rfl)
          simp only [Act.put, List.setIfInBounds_toArray, List.set_cons_zero, List.set_cons_succ]
          refine AnyBut.take (i := 11) (v := ?_) rfl (by kernel_rfl) (by kernel_rfl) (by kernel_rfl) (by kernel_rfl) (fun _ _ _ h => h) ⟨by rfl, ?_⟩ HS ?_
          rotate_left
          · first | (intro w' hSw; go_simp; done) | (intro w' hSw; go_simp; with_reducible rfl)
          simp only [Act.put, List.setIfInBounds_toArray, List.set_cons_zero, List.set_cons_succ]
          refine AnyBut.take (i := 12) (v := ?_) rfl (by kernel_rfl) (by kernel_rfl) (by kernel_rfl) (by kernel_rfl) (fun _ _ _ h => h) ⟨by rfl, ?_⟩ HS ?_
          rotate_left
          · first | (intro w' hSw; go_simp; done) | (intro w' hSw; go_simp; with_reducible rfl)
          simp only [Act.put, List.setIfInBounds_toArray, List.set_cons_zero, List.set_cons_succ]
          refine AnyBut.take (i := 13) (v := ?_) rfl (by kernel_rfl) (by kernel_rfl) (by kernel_rfl) (by kernel_rfl) (fun _ _ _ h => h) ⟨by rfl, ?_⟩ HS ?_
          rotate_left
          · first | (intro w' hSw; go_simp; done) | (intro w' hSw; go_simp; with_reducible rfl)
          simp only [Act.put, List.setIfInBounds_toArray, List.set_cons_zero, List.set_cons_succ]
          refine AnyBut.take (i := 14) (v := ?_) rfl (by kernel_rfl) (by kernel_rfl) (by kernel_rfl) (by kernel_rfl) (fun _ _ _ h => h) ⟨by rfl, ?_⟩ HS ?_
          rotate_left
          · first | (intro w' hSw; go_simp; done) | (intro w' hSw; go_simp; with_reducible rfl)
          simp only [Act.put, List.setIfInBounds_toArray, List.set_cons_zero, List.set_cons_succ]
          refine AnyBut.one (i := 8) (by kernel_rfl) (AnyBut.op rfl (by rfl) fun K hK => ?_)
          go_simp
          have hacc5 := hacc4.alloc (.cells #[.int .u8 s.size] 5)
          refine hK _ _ (.inr (by simp [es, hcell, hblk, World.cell?_alloc_lt, World.size_alloc, Nat.lt_succ_of_lt])) ?_
          clear hK K
          try simp only [Act.put, List.setIfInBounds_toArray, List.set_cons_zero, List.set_cons_succ]
          refine AnyBut.one (i := 9) (by kernel_rfl) (AnyBut.opIf rfl fun K hK => ?_)
          refine step_append_mem (w0 := w0) (H := H) (L := _ :: _) rfl _ _ 49 rfl 5 1 1 (.int .u8 0) Try.underlying49 (by kernel_rfl) rfl (by decide) (.slice b3 n3 c3) n3 cs3 hacc5 rfl _ 1 [.int .u8 s.size] (Src.loc (e := 5) hacc5.mem (.head _)) rfl rfl (by simp [Value.oneCell']) (by omega) (by unfold maxLen; omega) ?_
          intro v' w8 hacc6
          obtain ⟨b', c', rfl, _, _⟩ := hacc6.shape
          have hacc6 := hacc6.drop
          clear es hcell hblk
          have es := hacc6.mem.eqs
          simp only [EqsL, and_true] at es
          have hcell := HCE.out.cell hacc6.mem
          have hblk := HCE.out.lt hacc6.mem
          refine hK _ _ (.inr (by simp [es, hcell, hblk, World.cell?_alloc_lt, World.size_alloc, Nat.lt_succ_of_lt])) ?_
          clear hK K
          try simp only [Act.put, List.setIfInBounds_toArray, List.set_cons_zero, List.set_cons_succ]
          refine AnyBut.one (i := 15) (by kernel_rfl) (AnyBut.opIf rfl fun K hK => ?_)
          refine step_append_mem_string (w0 := w0) (H := H) (L := _ :: L) rfl _ _ 49 9 rfl 5 Try.underlying49 Try.underlying9 (by kernel_rfl) (.slice b' (n3 + 1) c') (n3 + 1) (cs3 ++ [.int .u8 s.size]) hacc6 rfl s rfl (by omega) ?_
          intro v'' w9 hacc7
          obtain ⟨b'', c'', rfl, _, _⟩ := hacc7.shape
          clear es hcell hblk
          have es := hacc7.mem.eqs
          simp only [EqsL, and_true] at es
          have hcell := HCE.out.cell hacc7.mem
          have hblk := HCE.out.lt hacc7.mem
          refine hK _ _ (.inr (by simp [es, hcell, hblk, World.cell?_alloc_lt, World.size_alloc, Nat.lt_succ_of_lt])) ?_
          clear hK K
          try simp only [Act.put, List.setIfInBounds_toArray, List.set_cons_zero, List.set_cons_succ]
          refine AnyBut.one (i := 16) (by kernel_rfl) (AnyBut.op rfl (by rfl) fun K hK => ?_)
          go_simp
          refine hK _ _ (.inl rfl) ?_
          clear hK K
          refine AnyBut.done (by kernel_rfl) ?_ _
          have hch5 : Chunks encB H (cs3 ++ [.int .u8 s.size] ++ Lib.strCells s) (headB g ++ restB (g.queue.take (j + 1))) := by
            rw [HSN.out, HX2.out, ← List.append_assoc, ← List.append_assoc]
            exact (HC3.out.append (.one (x := UInt8.ofNat s.size) ⟨rfl, trivial⟩ rfl)).append (strChunks s)
          have HC5 := Lib.hid hch5; clear hch5
          clear hacc4 hacc5 hacc6
          go_wp2_with fail
          go_roundw
          case rel =>
            refine ⟨j + 1, n3 + 1 + s.size, b'', c'', _, by omega, by go_num, rfl, ?_, hacc7, by simpa using HC5.out⟩
            rw [HSN.out, HN3.out]
            simp only [List.length_append, List.length_singleton]
            have : s.data.toList.length = s.size := by simp
            omega
          case measure => simp [intOf]; omega
        · have hjj : g.queue.take j = g.queue := List.take_of_length_le (by omega)
          rw [hjj] at HC3 HN3
          go_wp2_with fail
          go_ret2
          obtain ⟨H', m', hle', hsl⟩ := hacc3.done HC3.out rfl (by rw [HN3.out, List.length_append, headB_len])
          exact ⟨_, _, _, H', rfl, m'.drop, hle', hsl⟩
  · have hk1 : (g.chk != 0) = true := by simpa using hk
    have hbr : bytesR g = ([], g.chk) := by unfold bytesR; rw [if_pos (by simpa using hk)]
    rw [hbr]; clear hbr
    have HK := Lib.hid hk; clear hk
    go_enter Try.func33, Try.ntmps33
    go_wp2_with fail
    have m1 := m.alloc (.cells #[.int .i64 g.first, .slice qb g.queue.length qc, .int .i64 g.next] 24)
    refine (RCheck_any _ g m1 ⟨_, rfl, HQ.out⟩).mono ?_
    rintro e w1 ⟨rfl, m1⟩
    go_wp2_with fail
    go_ret2
    exact ⟨_, _, _, H, rfl, m1.drop, Hle.refl _, SlR.nil _ _⟩
end Go.Proofs.Ytpkcdkbbhiafnaa
