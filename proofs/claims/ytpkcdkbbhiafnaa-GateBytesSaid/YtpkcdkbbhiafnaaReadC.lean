/- The walk: the reference's Read. -/
import Derived.Test.YtpkcdkbbhiafnaaReadB
namespace Go.Proofs.Ytpkcdkbbhiafnaa
set_option linter.unusedVariables false
set_option linter.unusedSimpArgs false
open Go.RowKit

theorem numPre_drop (b : List UInt8) (o k : Nat) : ∀ n, numPre (b.drop o) k n = numPre b (o + k) n
  | 0 => rfl
  | n + 1 => by
    simp only [numPre, numPre_drop b o k n]
    rw [show (b.drop o).getD (k + n) 0 = b.getD (o + k + n) 0 by simp [List.getD, Nat.add_assoc]]
theorem readM_good {b : List UInt8} {ts : List ByteArray} (h9 : ¬ b.length < 9) (h : parseN (b.getD 8 0).toNat (b.drop 9) = (ts, [], true)) :
    readM b = if (⟨numPre b 0 4, ts, numPre b 4 4⟩ : GateM).chk = 0 then (⟨numPre b 0 4, ts, numPre b 4 4⟩, 0) else (.zero, 4) := by
  have hg : gateB b = (⟨numPre b 0 4, ts, numPre b 4 4⟩ : GateM) := by unfold gateB; rw [h]
  unfold readM
  rw [if_neg h9, h, hg]
  simp
theorem readM_bad {b : List UInt8} (h9 : ¬ b.length < 9) (h : ¬ ((parseN (b.getD 8 0).toNat (b.drop 9)).2.2 = true ∧ (parseN (b.getD 8 0).toNat (b.drop 9)).2.1 = [])) : readM b = (.zero, 4) := by
  unfold readM
  rw [if_neg h9, if_neg (fun h2 => h ⟨h2.1, h2.2.1⟩)]
theorem perm_read6 {α : Type} (a b c : α) (L3 L : List α) : (a :: b :: c :: (L3 ++ L)).Perm (L3 ++ (a :: b :: c :: L)) := (by classical exact List.perm_iff_count.2 (fun a => by simp only [List.count_append, List.count_cons, List.cons_append, List.nil_append, List.append_assoc]; omega))
theorem perm_read7 {α : Type} (a b c : α) (L3 L : List α) : (L3 ++ (a :: b :: c :: L)).Perm (a :: b :: c :: (L3 ++ L)) := (by classical exact List.perm_iff_count.2 (fun a => by simp only [List.count_append, List.count_cons, List.cons_append, List.nil_append, List.append_assoc]; omega))
theorem perm_read8 {α : Type} (a b : α) (L3 L : List α) : (a :: b :: (L3 ++ L)).Perm (L3 ++ (a :: b :: L)) := (by classical exact List.perm_iff_count.2 (fun a => by simp only [List.count_append, List.count_cons, List.cons_append, List.nil_append, List.append_assoc]; omega))
theorem parseN_none {l : List UInt8} (h : nextT l = none) (n : Nat) : (parseN (n + 1) l).2.2 = false := by simp [parseN, h]

theorem Number_mem {v : Value} {l : List UInt8} {w0 w : World} {H : Hp} {L : List (Nat × Obj)} (m : Mem w0 H L w) (hv : SlR encB H v l) (h4 : 4 ≤ l.length) {x : Int} (hx : numPre l 0 4 = x) :
    Calls Try.prog 51 #[v] w fun e w' => e = .returned (.int .i64 x) ∧ Mem w0 H L w' := by
  have HV := hv
  obtain ⟨a, c, rfl, hc1, hc2, _, _⟩ := hv
  obtain ⟨blk, off, rfl, _⟩ := HV.cellV (i := 0) (by omega)
  refine (Number_any blk off l.length c (l.getD 0 0) (l.getD 1 0) (l.getD 2 0) (l.getD 3 0) h4 hc1 (size_le_maxLen hc2) ((HV.byteAt 0 (by omega)).cell m) ((HV.byteAt 1 (by omega)).cell m) ((HV.byteAt 2 (by omega)).cell m) ((HV.byteAt 3 (by omega)).cell m)).mono ?_
  rintro e w' ⟨rfl, k, rfl⟩
  exact ⟨by rw [← hx, numPre4], m.drewN k⟩

set_option maxRecDepth 10000 in
set_option maxHeartbeats 8000000 in
theorem RRead_any (v : Value) (b : List UInt8) (hb : b.length ≤ 20000) {w0 w : World} {H : Hp} {L : List (Nat × Obj)} (m : Mem w0 H L w) (hv : SlR encB H v b) :
    Calls Try.prog 34 #[v] w (GateR w0 H L (readM b)) := by
  have HV := Lib.hid hv
  obtain ⟨ba, c, rfl, hc1, hc2, h0, _⟩ := hv
  have hc2 := size_le_maxLen hc2
  have m1 := m.alloc (.cells #[.int .i64 0, .slice none 0 0, .int .i64 0] 24)
  by_cases h9 : b.length < 9
  · have hr : readM b = (GateM.zero, 4) := by unfold readM; rw [if_pos h9]
    rw [hr]; clear hr
    go_enter Try.func34, Try.ntmps34
    go_wp2_with fail
    have es := m1.eqs; simp only [EqsL, and_true] at es
    refine bodyPost_ret (v := .tuple #[.agg #[.int .i64 0, .slice none 0 0, .int .i64 0], .int .i64 4]) (by simp [results, Try.results34, go_sem, es]) rfl ?_
    exact ⟨_, _, _, _, H, rfl, (m.alloc _).drop, Hle.refl _, ⟨_, rfl, SlR.nil _ _⟩⟩
  · obtain ⟨blk, off, rfl, _⟩ := HV.out.cellV (i := 0) (by omega)
    have HB := Lib.hid (fun k hk => HV.out.byteAt k hk)
    have hs4 := HV.out.sliced (i := 4) (j := b.length) (by omega) (Nat.le_refl _)
    rw [List.take_of_length_le (by simp)] at hs4
    obtain ⟨a4, ha4⟩ : ∃ a4 : Option Addr, a4 = (if c = 4 then some ⟨blk, off, none⟩ else some ⟨blk, off + 4, none⟩) := ⟨_, rfl⟩
    have hs4 : SlR encB H (.slice a4 (b.length - 4) (c - 4)) (b.drop 4) := by
      rw [ha4]
      simpa [sliceV, Go.sliced, Addr.add, encB, encV] using hs4
    have HS4 := Lib.hid hs4; clear hs4
    have b4 : (4 : Int) ≤ b.length := by omega
    go_enter Try.func34, Try.ntmps34
    go_upto_region 3 with fail
    go_cut [4, 5] from 12 to 17 (fun v4 v5 wx => v5 = .int .i64 9 ∧ ∃ gb : Nat, v4 = .pointer (some ⟨gb, 0, none⟩) ∧ Mem w0 H ((gb, .cells #[.int .i64 (numPre b 0 4), .slice none 0 0, .int .i64 (numPre b 4 4)] 24) :: (w.heap.size, .cells #[.int .i64 0, .slice none 0 0, .int .i64 0] 24) :: L) wx)
    case first =>
      refine AnyFrom.start (fun _ => True) 7 (by kernel_rfl) ?_
      have m2 := m1.drew
      clear m1
      generalize (w.alloc _).drew = W7 at *
      have HS : True := trivial
      have es := trivial
      have ns := trivial
      refine AnyFrom.pure (i := 0) (v := ?_) rfl (by kernel_rfl) (by kernel_rfl) (by kernel_rfl) (by decide) (fun _ _ _ h => h) ⟨by rfl, ?_⟩ HS ?_
      rotate_left
      · first | (intro w'; go_simp; done) | (intro w'; go_simp; with_reducible rfl)
      simp only [Act.put, List.setIfInBounds_toArray, List.set_cons_zero, List.set_cons_succ]
      refine AnyFrom.pure (i := 2) (v := ?_) rfl (by kernel_rfl) (by kernel_rfl) (by kernel_rfl) (by decide) (fun _ _ _ h => h) ⟨by rfl, ?_⟩ HS ?_
      rotate_left
      · first | (intro w'; go_simp; done) | (intro w'; go_simp; with_reducible rfl)
      simp only [Act.put, List.setIfInBounds_toArray, List.set_cons_zero, List.set_cons_succ]
      refine AnyFrom.pure (i := 3) (v := .slice a4 (b.length - 4) (c - 4)) rfl (by kernel_rfl) (by kernel_rfl) (by kernel_rfl) (by decide) (fun _ _ _ h => h) ⟨by rfl, ?_⟩ HS ?_
      · first | (intro w'; rw [ha4]; go_simp; done) | (intro w'; rw [ha4]; go_simp; with_reducible rfl)
      simp only [Act.put, List.setIfInBounds_toArray, List.set_cons_zero, List.set_cons_succ]
      clear ha4
      refine AnyFrom.two (i := 1) (j := 6) (by kernel_rfl) (AnyFrom.op rfl (by rfl) fun K hK => ?_) (AnyFrom.op rfl (by rfl) fun K hK => ?_)
      · skip
        go_simp
        refine (Number_mem m2 HV.out (by omega) (x := numPre b 0 4) rfl).mono ?_
        rintro e w1 ⟨rfl, mA⟩
        go_wp2_with fail
        refine hK _ _ (.inr trivial) ?_
        clear hK K
        try simp only [Act.put, List.setIfInBounds_toArray, List.set_cons_zero, List.set_cons_succ]
        refine AnyFrom.two (i := 4) (j := 6) (by kernel_rfl) (AnyFrom.op rfl (by rfl) fun K hK => ?_) (AnyFrom.op rfl (by rfl) fun K hK => ?_)
        · skip
          go_simp
          refine (Number_mem mA HS4.out (by simp; omega) (x := numPre b 4 4) (numPre_drop b 4 0 4)).mono ?_
          rintro e w2 ⟨rfl, mB⟩
          go_wp2_with fail
          refine hK _ _ (.inr trivial) ?_
          clear hK K
          try simp only [Act.put, List.setIfInBounds_toArray, List.set_cons_zero, List.set_cons_succ]
          refine AnyFrom.pure (i := 5) (v := ?_) rfl (by kernel_rfl) (by kernel_rfl) (by kernel_rfl) (by decide) (fun _ _ _ h => h) ⟨by rfl, ?_⟩ HS ?_
          rotate_left
          · first | (intro w'; go_simp; done) | (intro w'; go_simp; with_reducible rfl)
          simp only [Act.put, List.setIfInBounds_toArray, List.set_cons_zero, List.set_cons_succ]
          refine AnyFrom.one (i := 6) (by kernel_rfl) (AnyFrom.op rfl (by rfl) fun K hK => ?_)
          go_simp
          have mC := mB.alloc (.cells #[.int .i64 0, .slice none 0 0, .int .i64 0] 24)
          clear es ns
          have es := mC.eqs
          simp only [EqsL, and_true] at es
          have ns := mC.nes
          simp only [NeL, NeFrom, and_true, true_and] at ns
          refine hK _ _ (.inr trivial) ?_
          clear hK K
          try simp only [Act.put, List.setIfInBounds_toArray, List.set_cons_zero, List.set_cons_succ]
          refine AnyFrom.one (i := 7) (by kernel_rfl) (AnyFrom.op rfl (by rfl) fun K hK => ?_)
          go_simp
          refine hK _ _ (.inl ⟨7, by decide, by rfl⟩) ?_
          clear hK K
          try simp only [Act.put, List.setIfInBounds_toArray, List.set_cons_zero, List.set_cons_succ]
          refine AnyFrom.one (i := 8) (by kernel_rfl) (AnyFrom.op rfl (by rfl) fun K hK => ?_)
          go_simp
          refine hK _ _ (.inl ⟨7, by decide, by rfl⟩) ?_
          clear hK K
          try simp only [Act.put, List.setIfInBounds_toArray, List.set_cons_zero, List.set_cons_succ]
          refine AnyFrom.done (by kernel_rfl) ?_ _
          go_wp2_with fail
          go_meet
          exact ⟨rfl, _, rfl, mB.alloc _⟩
        · go_simp
          have mC := mA.alloc (.cells #[.int .i64 0, .slice none 0 0, .int .i64 0] 24)
          refine hK _ _ (.inr trivial) ?_
          clear hK K
          try simp only [Act.put, List.setIfInBounds_toArray, List.set_cons_zero, List.set_cons_succ]
          refine AnyFrom.one (i := 4) (by kernel_rfl) (AnyFrom.op rfl (by rfl) fun K hK => ?_)
          go_simp
          refine (Number_mem mC HS4.out (by simp; omega) (x := numPre b 4 4) (numPre_drop b 4 0 4)).mono ?_
          rintro e w2 ⟨rfl, mD⟩
          go_wp2_with fail
          refine hK _ _ (.inr trivial) ?_
          clear hK K
          try simp only [Act.put, List.setIfInBounds_toArray, List.set_cons_zero, List.set_cons_succ]
          clear es ns
          have es := mD.eqs
          simp only [EqsL, and_true] at es
          have ns := mD.nes
          simp only [NeL, NeFrom, and_true, true_and] at ns
          refine AnyFrom.pure (i := 5) (v := ?_) rfl (by kernel_rfl) (by kernel_rfl) (by kernel_rfl) (by decide) (fun _ _ _ h => h) ⟨by rfl, ?_⟩ HS ?_
          rotate_left
          · first | (intro w'; go_simp; done) | (intro w'; go_simp; with_reducible rfl)
          simp only [Act.put, List.setIfInBounds_toArray, List.set_cons_zero, List.set_cons_succ]
          refine AnyFrom.one (i := 7) (by kernel_rfl) (AnyFrom.op rfl (by rfl) fun K hK => ?_)
          go_simp
          refine hK _ _ (.inl ⟨7, by decide, by rfl⟩) ?_
          clear hK K
          try simp only [Act.put, List.setIfInBounds_toArray, List.set_cons_zero, List.set_cons_succ]
          refine AnyFrom.one (i := 8) (by kernel_rfl) (AnyFrom.op rfl (by rfl) fun K hK => ?_)
          go_simp
          refine hK _ _ (.inl ⟨7, by decide, by rfl⟩) ?_
          clear hK K
          try simp only [Act.put, List.setIfInBounds_toArray, List.set_cons_zero, List.set_cons_succ]
          refine AnyFrom.done (by kernel_rfl) ?_ _
          go_wp2_with fail
          go_meet
          exact ⟨rfl, _, rfl, mD.set3 .head⟩
      · go_simp
        have mC := m2.alloc (.cells #[.int .i64 0, .slice none 0 0, .int .i64 0] 24)
        refine hK _ _ (.inr trivial) ?_
        clear hK K
        try simp only [Act.put, List.setIfInBounds_toArray, List.set_cons_zero, List.set_cons_succ]
        refine AnyFrom.one (i := 1) (by kernel_rfl) (AnyFrom.op rfl (by rfl) fun K hK => ?_)
        go_simp
        refine (Number_mem mC HV.out (by omega) (x := numPre b 0 4) rfl).mono ?_
        rintro e w1 ⟨rfl, mD⟩
        go_wp2_with fail
        refine hK _ _ (.inr trivial) ?_
        clear hK K
        try simp only [Act.put, List.setIfInBounds_toArray, List.set_cons_zero, List.set_cons_succ]
        refine AnyFrom.one (i := 4) (by kernel_rfl) (AnyFrom.op rfl (by rfl) fun K hK => ?_)
        go_simp
        refine (Number_mem mD HS4.out (by simp; omega) (x := numPre b 4 4) (numPre_drop b 4 0 4)).mono ?_
        rintro e w2 ⟨rfl, mE⟩
        go_wp2_with fail
        refine hK _ _ (.inr trivial) ?_
        clear hK K
        try simp only [Act.put, List.setIfInBounds_toArray, List.set_cons_zero, List.set_cons_succ]
        clear es ns
        have es := mE.eqs
        simp only [EqsL, and_true] at es
        have ns := mE.nes
        simp only [NeL, NeFrom, and_true, true_and] at ns
        refine AnyFrom.pure (i := 5) (v := ?_) rfl (by kernel_rfl) (by kernel_rfl) (by kernel_rfl) (by decide) (fun _ _ _ h => h) ⟨by rfl, ?_⟩ HS ?_
        rotate_left
        · first | (intro w'; go_simp; done) | (intro w'; go_simp; with_reducible rfl)
        simp only [Act.put, List.setIfInBounds_toArray, List.set_cons_zero, List.set_cons_succ]
        refine AnyFrom.one (i := 7) (by kernel_rfl) (AnyFrom.op rfl (by rfl) fun K hK => ?_)
        go_simp
        refine hK _ _ (.inl ⟨7, by decide, by rfl⟩) ?_
        clear hK K
        try simp only [Act.put, List.setIfInBounds_toArray, List.set_cons_zero, List.set_cons_succ]
        refine AnyFrom.one (i := 8) (by kernel_rfl) (AnyFrom.op rfl (by rfl) fun K hK => ?_)
        go_simp
        refine hK _ _ (.inl ⟨7, by decide, by rfl⟩) ?_
        clear hK K
        try simp only [Act.put, List.setIfInBounds_toArray, List.set_cons_zero, List.set_cons_succ]
        refine AnyFrom.done (by kernel_rfl) ?_ _
        go_wp2_with fail
        go_meet
        exact ⟨rfl, _, rfl, mE.set3 .head⟩
    case rest =>
      obtain ⟨rfl, gb, rfl, m3⟩ := hcut
      clear ha4 m1 HS4
      have hN := (b.getD 8 0).toNat_lt
      have HGOOD := Lib.hid (fun ts h => readM_good (ts := ts) h9 h)
      have HBAD := Lib.hid (fun h => readM_bad h9 h)
      have HB8 := Lib.hid (HB.out 8 (by omega))
      generalize (b.getD 8 0).toNat = N at *
      have h8b : (8 : Int) < b.length := by omega
      go_wp2_with fail
      go_loopw [5, 6, 7] (fun v5 v6 _ wr => ∃ (j p : Nat) (ts : List ByteArray) (q1 : Option Addr) (q2 : Nat) (csq : List Value) (Lq : List (Nat × Obj)), j ≤ N ∧ ts.length ≤ j ∧ p ≤ b.length ∧ v6 = .int .i64 j ∧ v5 = .int .i64 p ∧ parseN N (b.drop 9) = (ts ++ (parseN (N - j) (b.drop p)).1, (parseN (N - j) (b.drop p)).2) ∧ AccL 9 1 (.slice q1 ts.length q2) ts.length csq Lq ∧ Chunks encStr H csq ts ∧ Mem w0 H ((gb, .cells #[.int .i64 (numPre b 0 4), .slice q1 ts.length q2, .int .i64 (numPre b 4 4)] 24) :: (w.heap.size, .cells #[.int .i64 0, .slice none 0 0, .int .i64 0] 24) :: (Lq ++ L)) wr) (fun _ i _ _ => N - (intOf i).toNat)
      case atStart => exact ⟨0, 9, [], none, 0, [], [], Nat.zero_le _, Nat.le_refl _, by omega, rfl, rfl, rfl, AccL.nil, .nil, m3⟩
      case round =>
        obtain ⟨j, p, ts, q1, q2, csq, Lq, hj, hts, hpl, rfl, rfl, hpa, hacc, hch, m4⟩ := hrel
        clear m3
        have HPA := Lib.hid hpa; clear hpa
        have HCH := Lib.hid hch; clear hch
        have hb8 := HB8.out.cell m4
        have es := m4.eqs; simp only [EqsL, and_true] at es
        have ns := m4.nes; simp only [NeL, NeFrom, and_true, true_and] at ns
        by_cases hlt : j < N
        · by_cases hp : p < b.length
          · have hcell := (HB.out p hp).cell m4
            have HCE := Lib.hid (HB.out p hp)
            have hxb := (b.getD p 0).toNat_lt
            have hdr : b.drop p = b.getD p 0 :: b.drop (p + 1) := by
              rw [List.drop_eq_getElem_cons hp]
              simp [List.getD, hp]
            have hnt : nextT (b.drop p) = if (b.drop (p + 1)).length < (b.getD p 0).toNat then none else some (⟨((b.drop (p + 1)).take (b.getD p 0).toNat).toArray⟩, (b.drop (p + 1)).drop (b.getD p 0).toNat) := by rw [hdr]; rfl
            have hdl : (b.drop (p + 1)).length = b.length - (p + 1) := by simp
            rw [hdl] at hnt
            have HNT := Lib.hid hnt; clear hnt hdr hdl
            generalize (b.getD p 0).toNat = xn at *
            have hp1 : (p : Int) < b.length := by omega
            have hp2 : ¬ ((b.length : Int) ≤ p) := by omega
            by_cases hsh : b.length - (p + 1) < xn
            · have hs1 : (b.length : Int) < p + 1 + xn := by omega
              have hnx : nextT (b.drop p) = none := by rw [HNT.out, if_pos hsh]
              have HNX := Lib.hid hnx; clear hnx
              go_wp2_with fail
              refine bodyPost_ret (v := .tuple #[.agg #[.int .i64 0, .slice none 0 0, .int .i64 0], .int .i64 4]) (by simp [results, Try.results34, go_sem, es, ns]) rfl ?_
              rw [HBAD.out (by rw [HPA.out, show N - j = N - (j + 1) + 1 by omega]; simp [parseN_none HNX.out])]
              exact ⟨_, _, _, _, H, rfl, (m4.set3 (.tail .head)).drop.drop.dropL, Hle.refl _, ⟨_, rfl, SlR.nil _ _⟩⟩
            · have hs1 : ¬ ((b.length : Int) < p + 1 + xn) := by omega
              have hnx : nextT (b.drop p) = some (⟨((b.drop (p + 1)).take xn).toArray⟩, (b.drop (p + 1)).drop xn) := by rw [HNT.out, if_neg hsh]
              have HNX := Lib.hid hnx; clear hnx
              go_upto_region 10 with fail
              refine AnyFrom.start (fun w' => w'.cell? ⟨gb, 1, none⟩ = some (.slice q1 ts.length q2) ∧ ∃ L', Mem w0 H L' w') 18 (by kernel_rfl) ?_
              have m6 := m4.drew
              clear es m4 hcell hb8
              generalize wr.drew = W7 at *
              have es := m6.eqs; simp only [EqsL, and_true] at es
              have HS : W7.cell? ⟨gb, 1, none⟩ = some (.slice q1 ts.length q2) ∧ ∃ L', Mem w0 H L' W7 := ⟨by simp [es], _, m6⟩
              obtain ⟨a3, ha3⟩ : ∃ a3 : Option Addr, a3 = (if c = p + 1 then some ⟨blk, off, none⟩ else some ⟨blk, off + (p + 1), none⟩) := ⟨_, rfl⟩
              have hs3 : SlR encB H (.slice a3 xn (c - (p + 1))) ((b.drop (p + 1)).take xn) := by
                have := HV.out.sliced (i := p + 1) (j := p + 1 + xn) (by omega) (by omega)
                rw [ha3]
                simp only [sliceV, Go.sliced, show p + 1 + xn - (p + 1) = xn by omega] at this
                simpa [Addr.add, encB, encV] using this
              have HS3 := Lib.hid hs3; clear hs3
              have w1 : IntKind.i64.wrap ((p : Int) + 1) = p + 1 := wrap64 _ (by omega) (by omega)
              have w2 : IntKind.i64.wrap ((p : Int) + 1 + xn) = p + 1 + xn := wrap64 _ (by omega) (by omega)
              have t1 : ((p : Int) + 1).toNat = p + 1 := by omega
              have t2 : ((p : Int) + 1 + xn).toNat = p + 1 + xn := by omega
              have t3 : p + 1 + xn - (p + 1) = xn := by omega
              have c1 : (0 : Int) ≤ (p : Int) + 1 := by omega
              have c2 : (p : Int) + 1 ≤ (p : Int) + 1 + xn := by omega
              have c3 : (p : Int) + 1 + xn ≤ c := by omega
              have c4 : ¬ ((p : Int) + 1 < 0) := by omega
              have c5 : ¬ ((c : Int) < (p : Int) + 1 + xn) := by omega
              refine AnyFrom.pure (i := 0) (v := ?_) rfl (by kernel_rfl) (by kernel_rfl) (by kernel_rfl) (by decide) (fun _ _ _ h => h) ⟨by rfl, ?_⟩ HS ?_
              rotate_left
              · first | (intro w'; go_simp; done) | (intro w'; go_simp; with_reducible rfl)
              simp only [Act.put, List.setIfInBounds_toArray, List.set_cons_zero, List.set_cons_succ]
              refine AnyFrom.take (i := 1) (v := ?_) rfl (by kernel_rfl) (by kernel_rfl) (by kernel_rfl) (by kernel_rfl) (fun _ _ _ h => h) ⟨by rfl, ?_⟩ HS ?_
              rotate_left
              · first | (rintro w' ⟨hS1, L', hm⟩; have hc := HCE.out.cell hm; go_simp; done) | (rintro w' ⟨hS1, L', hm⟩; have hc := HCE.out.cell hm; go_simp; with_reducible rfl)
              simp only [Act.put, List.setIfInBounds_toArray, List.set_cons_zero, List.set_cons_succ]
              refine AnyFrom.pure (i := 2) (v := ?_) rfl (by kernel_rfl) (by kernel_rfl) (by kernel_rfl) (by decide) (fun _ _ _ h => h) ⟨by rfl, ?_⟩ HS ?_
              rotate_left
              · first | (intro w'; go_simp; done) | (intro w'; go_simp; with_reducible rfl)
              simp only [Act.put, List.setIfInBounds_toArray, List.set_cons_zero, List.set_cons_succ]
              refine AnyFrom.pure (i := 3) (v := ?_) rfl (by kernel_rfl) (by kernel_rfl) (by kernel_rfl) (by decide) (fun _ _ _ h => h) ⟨by rfl, ?_⟩ HS ?_
              rotate_left
              · first | (intro w'; go_simp; done) | (intro w'; go_simp; with_reducible rfl)
              simp only [Act.put, List.setIfInBounds_toArray, List.set_cons_zero, List.set_cons_succ]
              refine AnyFrom.pure (i := 4) (v := ?_) rfl (by kernel_rfl) (by kernel_rfl) (by kernel_rfl) (by decide) (fun _ _ _ h => h) ⟨by rfl, ?_⟩ HS ?_
              rotate_left
              · first | (intro w'; go_simp; done) | (intro w'; go_simp; with_reducible rfl)
              simp only [Act.put, List.setIfInBounds_toArray, List.set_cons_zero, List.set_cons_succ]
              refine AnyFrom.pure (i := 5) (v := ?_) rfl (by kernel_rfl) (by kernel_rfl) (by kernel_rfl) (by decide) (fun _ _ _ h => h) ⟨by rfl, ?_⟩ HS ?_
              rotate_left
              · first | (intro w'; go_simp; done) | (intro w'; go_simp; with_reducible rfl)
              simp only [Act.put, List.setIfInBounds_toArray, List.set_cons_zero, List.set_cons_succ]
              refine AnyFrom.pure (i := 6) (v := ?_) rfl (by kernel_rfl) (by kernel_rfl) (by kernel_rfl) (by decide) (fun _ _ _ h => h) ⟨by rfl, ?_⟩ HS ?_
              rotate_left
              · first | (intro w'; go_simp; done) | (intro w'; go_simp; with_reducible rfl)
              simp only [Act.put, List.setIfInBounds_toArray, List.set_cons_zero, List.set_cons_succ]
              refine AnyFrom.pure (i := 7) (v := ?_) rfl (by kernel_rfl) (by kernel_rfl) (by kernel_rfl) (by decide) (fun _ _ _ h => h) ⟨by rfl, ?_⟩ HS ?_
              rotate_left
              · first | (intro w'; go_simp; done) | (intro w'; go_simp; with_reducible rfl)
              simp only [Act.put, List.setIfInBounds_toArray, List.set_cons_zero, List.set_cons_succ]
              refine AnyFrom.pure (i := 8) (v := ?_) rfl (by kernel_rfl) (by kernel_rfl) (by kernel_rfl) (by decide) (fun _ _ _ h => h) ⟨by rfl, ?_⟩ HS ?_
              rotate_left
              · first | (intro w'; go_simp; done) | (intro w'; go_simp; with_reducible rfl)
              simp only [Act.put, List.setIfInBounds_toArray, List.set_cons_zero, List.set_cons_succ]
              refine AnyFrom.pure (i := 9) (v := .slice a3 xn (c - (p + 1))) rfl (by kernel_rfl) (by kernel_rfl) (by kernel_rfl) (by decide) (fun _ _ _ h => h) ⟨by rfl, ?_⟩ HS ?_
              · first | (intro w'; rw [ha3]; go_simp; done) | (intro w'; rw [ha3]; go_simp; with_reducible rfl)
              simp only [Act.put, List.setIfInBounds_toArray, List.set_cons_zero, List.set_cons_succ]
              clear ha3
              refine AnyFrom.take (i := 10) (v := .string ⟨((b.drop (p + 1)).take xn).toArray⟩) rfl (by kernel_rfl) (by kernel_rfl) (by kernel_rfl) (by kernel_rfl) (fun _ _ _ h => h) ⟨by rfl, ?_⟩ HS ?_
              · rintro w' ⟨hS1, L', hm⟩
                have hcv := conv_bytes (P := Try.prog) 49 9 5 Try.underlying49 Try.underlying5 Try.underlying9 hm HS3.out
                go_simp
                all_goals rw [hcv]
              simp only [Act.put, List.setIfInBounds_toArray, List.set_cons_zero, List.set_cons_succ]
              refine AnyFrom.pure (i := 13) (v := ?_) rfl (by kernel_rfl) (by kernel_rfl) (by kernel_rfl) (by decide) (fun _ _ _ h => h) ⟨by rfl, ?_⟩ HS ?_
              rotate_left
              · first | (intro w'; go_simp; done) | (intro w'; go_simp; with_reducible rfl)
              simp only [Act.put, List.setIfInBounds_toArray, List.set_cons_zero, List.set_cons_succ]
              refine AnyFrom.pure (i := 14) (v := ?_) rfl (by kernel_rfl) (by kernel_rfl) (by kernel_rfl) (by decide) (fun _ _ _ h => h) ⟨by rfl, ?_⟩ HS ?_
              rotate_left
              · first | (intro w'; go_simp; done) | (intro w'; go_simp; with_reducible rfl)
              simp only [Act.put, List.setIfInBounds_toArray, List.set_cons_zero, List.set_cons_succ]
              refine AnyFrom.pure (i := 15) (v := ?_) rfl (by kernel_rfl) (by kernel_rfl) (by kernel_rfl) (by decide) (fun _ _ _ h => h) ⟨by rfl, ?_⟩ HS ?_
              rotate_left
              · first | (intro w'; go_simp; done) | (intro w'; go_simp; with_reducible rfl)
              simp only [Act.put, List.setIfInBounds_toArray, List.set_cons_zero, List.set_cons_succ]
              refine AnyFrom.pure (i := 16) (v := ?_) rfl (by kernel_rfl) (by kernel_rfl) (by kernel_rfl) (by decide) (fun _ _ _ h => h) ⟨by rfl, ?_⟩ HS ?_
              rotate_left
              · first | (intro w'; go_simp; done) | (intro w'; go_simp; with_reducible rfl)
              simp only [Act.put, List.setIfInBounds_toArray, List.set_cons_zero, List.set_cons_succ]
              refine AnyFrom.one (i := 11) (by kernel_rfl) (AnyFrom.op rfl (by rfl) fun K hK => ?_)
              go_simp
              have m7 := m6.alloc (.cells #[.string ⟨((b.drop (p + 1)).take xn).toArray⟩] 9)
              refine hK _ _ (.inr ⟨by simp [es, World.cell?_alloc_lt, World.size_alloc, Nat.lt_succ_of_lt], _, m7⟩) ?_
              clear hK K
              try simp only [Act.put, List.setIfInBounds_toArray, List.set_cons_zero, List.set_cons_succ]
              have mp := m7.perm (perm_read6 _ _ _ Lq L)
              refine AnyFrom.one (i := 12) (by kernel_rfl) (AnyFrom.opIf rfl fun K hK => ?_)
              refine step_append_mem (w0 := w0) (H := H) (L := _ :: _) rfl _ _ 22 rfl 9 1 16 (.string ByteArray.empty) Try.underlying22 (by kernel_rfl) rfl (by decide) (.slice q1 ts.length q2) ts.length csq (hacc.join mp) rfl _ 1 [.string ⟨((b.drop (p + 1)).take xn).toArray⟩] (Src.loc (e := 9) (hacc.join mp).mem (.head _)) rfl rfl (by simp [Value.oneCell']) (by omega) (by unfold maxLen; omega) ?_
              intro v' w8 hacc2
              obtain ⟨b', c', rfl, _, _⟩ := hacc2.shape
              clear es
              have es := hacc2.mem.eqs
              simp only [EqsL, and_true] at es
              refine hK _ _ (.inr ⟨by simp [es, World.cell?_alloc_lt, World.size_alloc, Nat.lt_succ_of_lt], _, hacc2.mem⟩) ?_
              clear hK K
              try simp only [Act.put, List.setIfInBounds_toArray, List.set_cons_zero, List.set_cons_succ]
              refine AnyFrom.one (i := 17) (by kernel_rfl) (AnyFrom.op rfl (by rfl) fun K hK => ?_)
              go_simp
              refine hK _ _ (.inr ⟨by simp [es, World.cell?_alloc_lt, World.size_alloc, Nat.lt_succ_of_lt], _, hacc2.mem⟩) ?_
              clear hK K
              try simp only [Act.put, List.setIfInBounds_toArray, List.set_cons_zero, List.set_cons_succ]
              refine AnyFrom.one (i := 18) (by kernel_rfl) (AnyFrom.op rfl (by rfl) fun K hK => ?_)
              go_simp
              refine hK _ _ (.inl ⟨18, by decide, by rfl⟩) ?_
              clear hK K
              try simp only [Act.put, List.setIfInBounds_toArray, List.set_cons_zero, List.set_cons_succ]
              refine AnyFrom.one (i := 19) (by kernel_rfl) (AnyFrom.op rfl (by rfl) fun K hK => ?_)
              go_simp
              refine hK _ _ (.inl ⟨18, by decide, by rfl⟩) ?_
              clear hK K
              try simp only [Act.put, List.setIfInBounds_toArray, List.set_cons_zero, List.set_cons_succ]
              refine AnyFrom.done (by kernel_rfl) ?_ _
              obtain ⟨L5, ha5, m8⟩ := hacc2.split
              have m9 := ((m8.perm (perm_read7 _ _ _ L5 L)).drop).set (i := 1) (v := .slice b' (ts.length + 1) c') .head
              simp only [List.setIfInBounds_toArray, List.set_cons_zero, List.set_cons_succ] at m9
              have hl1 : (ts ++ [(⟨((b.drop (p + 1)).take xn).toArray⟩ : ByteArray)]).length = ts.length + 1 := by simp
              have hsz : (⟨((b.drop (p + 1)).take xn).toArray⟩ : ByteArray).size ≤ maxLen := by
                simp only [ByteArray.size, List.size_toArray, List.length_take, List.length_drop]
                unfold maxLen
                omega
              have hone : Chunks encStr H [.string ⟨((b.drop (p + 1)).take xn).toArray⟩] [⟨((b.drop (p + 1)).take xn).toArray⟩] := .one (x := (⟨((b.drop (p + 1)).take xn).toArray⟩ : ByteArray)) ⟨rfl, hsz⟩ rfl
              have hpn : parseN N (b.drop 9) = ((ts ++ [⟨((b.drop (p + 1)).take xn).toArray⟩]) ++ (parseN (N - (j + 1)) (b.drop (p + 1 + xn))).1, (parseN (N - (j + 1)) (b.drop (p + 1 + xn))).2) := by
                rw [HPA.out, show N - j = N - (j + 1) + 1 by omega]
                simp [parseN, HNX.out, List.drop_drop]
              go_wp2_with fail
              go_roundw
              case rel =>
                refine ⟨j + 1, p + 1 + xn, ts ++ [⟨((b.drop (p + 1)).take xn).toArray⟩], b', c', csq ++ [.string ⟨((b.drop (p + 1)).take xn).toArray⟩], L5, by omega, by rw [hl1]; omega, by omega, by go_num, by go_num, hpn, by rw [hl1]; exact ha5, HCH.out.append hone, by rw [hl1]; exact m9⟩
              case measure => simp [intOf]; omega
          · have hp1 : (b.length : Int) ≤ p := by omega
            have hnx : nextT (b.drop p) = none := by rw [List.drop_eq_nil_of_le (by omega)]; rfl
            have HNX := Lib.hid hnx; clear hnx
            go_wp2_with fail
            refine bodyPost_ret (v := .tuple #[.agg #[.int .i64 0, .slice none 0 0, .int .i64 0], .int .i64 4]) (by simp [results, Try.results34, go_sem, es, ns]) rfl ?_
            rw [HBAD.out (by rw [HPA.out, show N - j = N - (j + 1) + 1 by omega]; simp [parseN_none HNX.out])]
            exact ⟨_, _, _, _, H, rfl, (m4.set3 (.tail .head)).drop.drop.dropL, Hle.refl _, ⟨_, rfl, SlR.nil _ _⟩⟩
        · have hjN : N - j = 0 := by omega
          have hpr : parseN N (b.drop 9) = (ts, b.drop p, true) := by rw [HPA.out, hjN]; simp [parseN]
          have HPR := Lib.hid hpr; clear hpr
          by_cases hp : p = b.length
          · have hp1 : ((p : Int) != b.length) = false := by simp [hp]
            have hgood := HGOOD.out ts (by rw [HPR.out, hp]; simp)
            have HG := Lib.hid hgood; clear hgood
            have HP := Lib.hid hp; clear hp
            go_wp2_with fail
            obtain ⟨H2, m6, hl2, hsq⟩ := (hacc.join (m4.perm (perm_read8 _ _ Lq L))).done HCH.out rfl rfl
            have HSQ := Lib.hid hsq; clear hsq
            refine (RCheck_any _ (⟨numPre b 0 4, ts, numPre b 4 4⟩ : GateM) m6 ⟨_, rfl, HSQ.out⟩).mono ?_
            rintro e w5 ⟨rfl, m7⟩
            clear es ns
            have es := m7.eqs; simp only [EqsL, and_true] at es
            have ns := m7.nes; simp only [NeL, NeFrom, and_true, true_and] at ns
            generalize (⟨numPre b 0 4, ts, numPre b 4 4⟩ : GateM).chk = ck at *
            by_cases hk : ck = 0
            · have hk1 : (ck != 0) = false := by simpa using hk
              have HK := Lib.hid hk; clear hk
              go_wp2_with fail
              refine bodyPost_ret (v := .tuple #[.agg #[.int .i64 (numPre b 0 4), .slice q1 ts.length q2, .int .i64 (numPre b 4 4)], .int .i64 0]) (by simp [results, Try.results34, go_sem, es, ns]) rfl ?_
              rw [HG.out, if_pos HK.out]
              exact ⟨_, _, _, _, H2, rfl, (m7.set3 (.tail .head)).drop.drop, hl2, ⟨_, rfl, HSQ.out⟩⟩
            · have hk1 : (ck != 0) = true := by simpa using hk
              have HK := Lib.hid hk; clear hk
              go_wp2_with fail
              refine bodyPost_ret (v := .tuple #[.agg #[.int .i64 0, .slice none 0 0, .int .i64 0], .int .i64 4]) (by simp [results, Try.results34, go_sem, es, ns]) rfl ?_
              rw [HG.out, if_neg HK.out]
              exact ⟨_, _, _, _, H2, rfl, (m7.set3 (.tail .head)).drop.drop, hl2, ⟨_, rfl, SlR.nil _ _⟩⟩
          · have hp1 : ((p : Int) != b.length) = true := by simp; omega
            have HP := Lib.hid hp; clear hp
            go_wp2_with fail
            refine bodyPost_ret (v := .tuple #[.agg #[.int .i64 0, .slice none 0 0, .int .i64 0], .int .i64 4]) (by simp [results, Try.results34, go_sem, es, ns]) rfl ?_
            rw [HBAD.out (by rw [HPR.out]; simp only [true_and]; intro h; have h2 := congrArg List.length h; simp at h2; exact HP.out (by omega))]
            exact ⟨_, _, _, _, H, rfl, (m4.set3 (.tail .head)).drop.drop.dropL, Hle.refl _, ⟨_, rfl, SlR.nil _ _⟩⟩
end Go.Proofs.Ytpkcdkbbhiafnaa
