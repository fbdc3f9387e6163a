/- The walk: the program's Read. -/
import Derived.Test.YtpkcdkbbhiafnaaDoorReadM
import Derived.Test.YtpkcdkbbhiafnaaDoorRegionF
import Derived.Test.YtpkcdkbbhiafnaaDoorWorldA
import Derived.Laws.BitsLemmas
import Derived.WalkMore
import Derived.Deep.CutRange
namespace Go.Proofs.YtpkcdkbbhiafnaaDoor
set_option linter.unusedVariables false
set_option linter.unusedSimpArgs false
open Go.RowKit

theorem wrap64 (n : Int) (h0 : 0 ≤ n) (h1 : n < 1000000) : IntKind.i64.wrap n = n := by simp [IntKind.wrap, IntKind.signed, IntKind.bits]; omega
theorem or_byte (x : Int) (y : Nat) (h0 : 0 ≤ x) (h1 : x ≤ 16777215) (h2 : y < 256) : bits BinOp.or .i64 (x * 256) y = x * 256 + y :=
  bits_join .i64 63 (by decide) (fun n h0 h1 => by simp [IntKind.wrap, IntKind.signed, IntKind.bits]; omega) 8 (x * 256) y (by omega) (by omega) (by omega) (by omega) (by omega) (by omega)
theorem SlR.byteAt {H : Hp} {blk off n c : Nat} {b : List UInt8} (h : SlR encB H (.slice (some ⟨blk, off, none⟩) n c) b) (k : Nat) (hk : k < b.length) : CellH H blk (off + k) (.int .u8 (b.getD k 0).toNat) := by
  obtain ⟨blk', off', e, hc, _⟩ := h.cellV hk
  cases e
  simpa [List.getD, hk] using hc

theorem perm_read4 {α : Type} (a b c d : α) (L3 L : List α) : (a :: b :: c :: d :: (L3 ++ L)).Perm (L3 ++ (a :: b :: c :: d :: L)) := (by classical exact List.perm_iff_count.2 (fun a => by simp only [List.count_append, List.count_cons, List.cons_append, List.nil_append, List.append_assoc]; omega))
theorem perm_read5 {α : Type} (a b c d : α) (L3 L : List α) : (L3 ++ (a :: b :: c :: d :: L)).Perm (a :: b :: c :: d :: (L3 ++ L)) := (by classical exact List.perm_iff_count.2 (fun a => by simp only [List.count_append, List.count_cons, List.cons_append, List.nil_append, List.append_assoc]; omega))
theorem perm_read {α : Type} (a b c : α) (L3 L : List α) : (a :: b :: c :: (L3 ++ L)).Perm (L3 ++ (a :: b :: c :: L)) := (by classical exact List.perm_iff_count.2 (fun a => by simp only [List.count_append, List.count_cons, List.cons_append, List.nil_append, List.append_assoc]; omega))
theorem parseN_stop {l : List UInt8} (h : nextT l = none) (n : Nat) : (parseN n l).1 = [] := by
  cases n with
  | zero => rfl
  | succ n => simp [parseN, h]
theorem numPre_I64 (b : List UInt8) (o : Nat) : I64 (numPre b o 4) := by
  have h0 := (b.getD o 0).toNat_lt
  have h1 := (b.getD (o + 1) 0).toNat_lt
  have h2 := (b.getD (o + 2) 0).toNat_lt
  have h3 := (b.getD (o + 3) 0).toNat_lt
  have := numPre4 b o
  have := numPre_lo b o 4
  exact ⟨by omega, by omega⟩
theorem readM_eq {b : List UInt8} {ts : List ByteArray} (h9 : ¬ b.length < 9) (h : (parseN (b.getD 8 0).toNat (b.drop 9)).1 = ts) :
    readM b = if (⟨numPre b 0 4, ts, numPre b 4 4⟩ : GateM).chk = 0 ∧ bytesM ⟨numPre b 0 4, ts, numPre b 4 4⟩ = b then (⟨numPre b 0 4, ts, numPre b 4 4⟩, 0) else (.zero, 4) := by
  have hg : (⟨numPre b 0 4, ts, numPre b 4 4⟩ : GateM) = gateB b := by unfold gateB; rw [h]
  rw [hg]
  unfold readM
  rw [if_neg h9]
  by_cases hk : (gateB b).chk = 0
  · have := gateB_bytes b (by omega) hk
    by_cases hb : bytesM (gateB b) = b
    · rw [if_pos ⟨(this.1 hb).1, (this.1 hb).2, hk⟩, if_pos ⟨hk, hb⟩]
    · rw [if_neg (fun h => hb (this.2 ⟨h.1, h.2.1⟩)), if_neg (fun h => hb h.2)]
  · rw [if_neg (fun h => hk h.2.2), if_neg (fun h => hk h.1)]

set_option maxRecDepth 10000 in
set_option maxHeartbeats 8000000 in
theorem Read_any (v : Value) (b : List UInt8) (hb : b.length ≤ 20000) {w0 w : World} {H : Hp} {L : List (Nat × Obj)} (m : Mem w0 H L w) (hv : SlR encB H v b) :
    Calls Tryd.prog 12 #[v] w (GateR w0 H L (readM b)) := by
  have HV := Lib.hid hv
  obtain ⟨ba, c, rfl, hc1, hc2, h0, _⟩ := hv
  have hc2 := size_le_maxLen hc2
  by_cases h9 : b.length < 9
  · have hr : readM b = (GateM.zero, 4) := by unfold readM; rw [if_pos h9]
    rw [hr]; clear hr
    go_enter Tryd.func12, Tryd.ntmps12
    go_wp2_with fail
    go_step3
    go_wp2_with fail
    have m1 := m.alloc (.cells #[.int .i64 0, .slice none 0 0, .int .i64 0] 29)
    have es := m1.eqs; simp only [EqsL, and_true] at es
    rw [Exit.noGoto_ret]
    refine bodyPost_ret (v := .tuple #[.agg #[.int .i64 0, .slice none 0 0, .int .i64 0], .int .i64 4]) (by simp [results, Tryd.results12, go_sem, es]) rfl ?_
    exact ⟨_, _, _, _, H, rfl, (m.alloc _).drop, Hle.refl _, ⟨_, rfl, SlR.nil _ _⟩⟩
  · obtain ⟨blk, off, rfl, _⟩ := HV.out.cellV (i := 0) (by omega)
    have HB := Lib.hid (fun k hk => HV.out.byteAt k hk)
    go_enter Tryd.func12, Tryd.ntmps12
    go_wp2_with fail
    go_step3
    go_wp2_with fail
    have m3 := ((m.alloc (.cells #[.int .i64 0, .slice none 0 0, .int .i64 0] 29)).alloc (.cells #[.int .i64 0, .slice none 0 0, .int .i64 0] 49)).alloc (.cells #[.pointer (some ⟨w.heap.size + 1, 0, none⟩), .pointer (some ⟨w.heap.size + 1, 2, none⟩)] 66)
    simp only [World.size_alloc] at m3
    go_loopw [5, 6, 8, 20, 31] (fun _ _ _ v20 _ wr => ∃ i : Nat, i ≤ 2 ∧ v20 = .int .i64 i ∧ Mem w0 H ((w.heap.size + 1 + 1, .cells #[.pointer (some ⟨w.heap.size + 1, 0, none⟩), .pointer (some ⟨w.heap.size + 1, 2, none⟩)] 66) :: (w.heap.size + 1, .cells #[.int .i64 (if 1 ≤ i then numPre b 0 4 else 0), .slice none 0 0, .int .i64 (if 2 ≤ i then numPre b 4 4 else 0)] 49) :: (w.heap.size, .cells #[.int .i64 0, .slice none 0 0, .int .i64 0] 29) :: L) wr) (fun _ _ _ i _ _ => 2 - (intOf i).toNat)
    case atStart => exact ⟨0, by omega, rfl, m3⟩
    case round =>
      obtain ⟨i, hi, rfl, m4⟩ := hrel
      clear m3
      have hcs : i = 0 ∨ i = 1 ∨ i = 2 := by omega
      rcases hcs with rfl | rfl | rfl
      · simp only [Nat.reduceLeDiff, if_true, if_false] at m4
        have es := m4.eqs; simp only [EqsL, and_true] at es
        go_wp2_with fail
        go_loopw [8, 31] (fun _ v31 wr2 => ∃ k : Nat, k ≤ 4 ∧ v31 = .int .i64 k ∧ Mem w0 H ((w.heap.size + 1 + 1, .cells #[.pointer (some ⟨w.heap.size + 1, 0, none⟩), .pointer (some ⟨w.heap.size + 1, 2, none⟩)] 66) :: (w.heap.size + 1, .cells #[.int .i64 (numPre b 0 k), .slice none 0 0, .int .i64 0] 49) :: (w.heap.size, .cells #[.int .i64 0, .slice none 0 0, .int .i64 0] 29) :: L) wr2) (fun _ k _ => 4 - (intOf k).toNat)
        case atStart => exact ⟨0, by omega, rfl, m4⟩
        case round =>
          obtain ⟨k, hk, rfl, m5⟩ := hrel
          clear m4 es
          have es := m5.eqs; simp only [EqsL, and_true] at es
          by_cases hk4 : k < 4
          · have hcell := (HB.out (0 + k) (by omega)).cell m5
            rw [show off + (0 + k) = off + k by omega] at hcell
            have hlo := numPre_lo b 0 k
            have hhi := numPre_hi b 0 k (by omega)
            have hnx : numPre b 0 (k + 1) = numPre b 0 k * 256 + (b.getD (0 + k) 0).toNat := rfl
            have HNX := Lib.hid hnx; clear hnx
            have hx := (b.getD (0 + k) 0).toNat_lt
            generalize (b.getD (0 + k) 0).toNat = y at *
            generalize numPre b 0 k = x at *
            have hor := or_byte x y hlo hhi (by omega)
            go_wp2_with fail
            have m6 := m5.set (i := 0) (v := .int .i64 (x * 256 + y)) (.tail .head)
            simp only [List.setIfInBounds_toArray, List.set_cons_zero, List.set_cons_succ] at m6
            go_roundw
            case rel => exact ⟨k + 1, by omega, by go_num, by rw [HNX.out]; exact m6⟩
            case measure => simp [intOf]; omega
          · obtain rfl : k = 4 := by omega
            go_wp2_with fail
            go_roundw
            case rel => exact ⟨1, by omega, by go_num, by simpa using m5⟩
            case measure => simp [intOf]
      · simp only [Nat.reduceLeDiff, if_true, if_false] at m4
        have es := m4.eqs; simp only [EqsL, and_true] at es
        go_wp2_with fail
        go_loopw [8, 31] (fun _ v31 wr2 => ∃ k : Nat, k ≤ 4 ∧ v31 = .int .i64 k ∧ Mem w0 H ((w.heap.size + 1 + 1, .cells #[.pointer (some ⟨w.heap.size + 1, 0, none⟩), .pointer (some ⟨w.heap.size + 1, 2, none⟩)] 66) :: (w.heap.size + 1, .cells #[.int .i64 (numPre b 0 4), .slice none 0 0, .int .i64 (numPre b 4 k)] 49) :: (w.heap.size, .cells #[.int .i64 0, .slice none 0 0, .int .i64 0] 29) :: L) wr2) (fun _ k _ => 4 - (intOf k).toNat)
        case atStart => exact ⟨0, by omega, rfl, m4⟩
        case round =>
          obtain ⟨k, hk, rfl, m5⟩ := hrel
          clear m4 es
          have es := m5.eqs; simp only [EqsL, and_true] at es
          by_cases hk4 : k < 4
          · have hcell := (HB.out (4 + k) (by omega)).cell m5
            rw [show off + (4 + k) = off + 4 + k by omega] at hcell
            have hlo := numPre_lo b 4 k
            have hhi := numPre_hi b 4 k (by omega)
            have hnx : numPre b 4 (k + 1) = numPre b 4 k * 256 + (b.getD (4 + k) 0).toNat := rfl
            have HNX := Lib.hid hnx; clear hnx
            have hx := (b.getD (4 + k) 0).toNat_lt
            generalize (b.getD (4 + k) 0).toNat = y at *
            generalize numPre b 4 k = x at *
            have hor := or_byte x y hlo hhi (by omega)
            go_wp2_with fail
            have m6 := m5.set (i := 2) (v := .int .i64 (x * 256 + y)) (.tail .head)
            simp only [List.setIfInBounds_toArray, List.set_cons_zero, List.set_cons_succ] at m6
            go_roundw
            case rel => exact ⟨k + 1, by omega, by go_num, by rw [HNX.out]; exact m6⟩
            case measure => simp [intOf]; omega
          · obtain rfl : k = 4 := by omega
            go_wp2_with fail
            go_roundw
            case rel => exact ⟨2, by omega, by go_num, by simpa using m5⟩
            case measure => simp [intOf]
      · simp only [Nat.reduceLeDiff, if_true, if_false] at m4
        have es := m4.eqs; simp only [EqsL, and_true] at es
        have hb8 := (HB.out 8 (by omega)).cell m4
        have hN := (b.getD 8 0).toNat_lt
        have hrq : ∀ ts, (parseN (b.getD 8 0).toNat (b.drop 9)).1 = ts → readM b = _ := fun ts h => readM_eq h9 h
        have HRQ := Lib.hid hrq; clear hrq
        generalize (b.getD 8 0).toNat = N at *
        have h9b : (9 : Int) ≤ b.length := by omega
        have h8b : (8 : Int) < b.length := by omega
        have hs9 := HV.out.sliced (i := 9) (j := b.length) (by omega) (Nat.le_refl _)
        rw [List.take_of_length_le (by simp)] at hs9
        have hd9 : (b.drop 9).length = b.length - 9 := by simp
        go_upto_region 13 with fail
        go_cut [9] from 46 to 47 (fun v9 wx => wx = wr ∧ ∃ (a9 : Option Addr) (c9 : Nat), v9 = .slice a9 (b.drop 9).length c9 ∧ SlR encB H (.slice a9 (b.drop 9).length c9) (b.drop 9))
        case first =>
          by_cases hc9 : c = 9
          · subst hc9
            simp only [sliceV, Go.sliced, if_true] at hs9
            go_wp2_with fail
            go_meet
            exact ⟨rfl, some ⟨blk, off, none⟩, 0, by rw [hd9, show b.length - 9 = 0 by omega], by rw [hd9]; exact hs9⟩
          · simp only [sliceV, Go.sliced, hc9, if_false] at hs9
            go_wp2_with fail
            go_meet
            exact ⟨rfl, some ⟨blk, off + 9, none⟩, c - 9, by rw [hd9], by rw [hd9]; exact hs9⟩
        case rest =>
          obtain ⟨rfl, a9, c9, rfl, hs9'⟩ := hcut
          have HS9 := Lib.hid hs9'
          clear hs9 hs9' hd9
          go_wp2_with fail
          go_step3
          go_wp2_with fail
          go_loopw [9, 52, 54] (fun v9 v52 _ wr2 => ∃ (j : Nat) (ts : List ByteArray) (r : List UInt8) (a9 : Option Addr) (c9 : Nat) (q1 : Option Addr) (q2 : Nat) (csq : List Value) (Lq : List (Nat × Obj)), j ≤ N ∧ ts.length ≤ j ∧ r.length ≤ b.length ∧ v52 = .int .i64 j ∧ v9 = .slice a9 r.length c9 ∧ SlR encB H (.slice a9 r.length c9) r ∧ parseN N (b.drop 9) = (ts ++ (parseN (N - j) r).1, (parseN (N - j) r).2) ∧ AccL 9 1 (.slice q1 ts.length q2) ts.length csq Lq ∧ Chunks encStr H csq ts ∧ Mem w0 H ((w.heap.size + 1 + 1, .cells #[.pointer (some ⟨w.heap.size + 1, 0, none⟩), .pointer (some ⟨w.heap.size + 1, 2, none⟩)] 66) :: (w.heap.size + 1, .cells #[.int .i64 (numPre b 0 4), .slice q1 ts.length q2, .int .i64 (numPre b 4 4)] 49) :: (w.heap.size, .cells #[.int .i64 0, .slice none 0 0, .int .i64 0] 29) :: (Lq ++ L)) wr2) (fun _ i _ _ => N - (intOf i).toNat)
          case atStart => exact ⟨0, [], b.drop 9, a9, c9, none, 0, [], [], Nat.zero_le _, Nat.le_refl _, by simp, rfl, rfl, HS9.out, rfl, AccL.nil, .nil, m4⟩
          case round =>
            obtain ⟨j, ts, r, a9, c9, q1, q2, csq, Lq, hj, hts, hrl, rfl, rfl, hsr, hpa, hacc, hch, m5⟩ := hrel
            clear m4 es hb8 HS9
            have HPA := Lib.hid hpa; clear hpa
            have HCH := Lib.hid hch; clear hch
            have HSR := Lib.hid hsr
            obtain ⟨_, _, hv9, hrc, hrm, _, _⟩ := hsr
            cases hv9
            have hrm := size_le_maxLen hrm
            have es := m5.eqs; simp only [EqsL, and_true] at es
            by_cases hlt : j < N
            · cases r with
              | nil =>
                simp only [List.length_nil] at HSR hrc ⊢
                go_wp2_with fail
                have hts1 : (parseN N (b.drop 9)).1 = ts := by
                  rw [HPA.out]
                  simp [parseN_stop (l := []) rfl]
                have hrd := HRQ.out _ hts1
                have HRD := Lib.hid hrd; clear hrd hts1
                have i1 := numPre_I64 b 0
                have i2 := numPre_I64 b 4
                generalize numPre b 0 4 = f at *
                generalize numPre b 4 4 = n4 at *
                obtain ⟨H2, m6, hl2, hsq⟩ := (hacc.join (m5.perm (perm_read _ _ _ Lq L))).done HCH.out rfl rfl
                have HSQ := Lib.hid hsq; clear hsq
                refine (Check_any _ (⟨f, ts, n4⟩ : GateM) m6 ⟨_, rfl, HSQ.out⟩ ⟨i1, i2⟩).mono ?_
                rintro e w5 ⟨rfl, m7⟩
                clear es
                have m7 := m7.perm (.swap _ _ _)
                have es := m7.eqs; simp only [EqsL, and_true] at es
                have ns := m7.nes; simp only [NeL, NeFrom, and_true, true_and] at ns
                have HBY := Lib.hid (fun hk => bytes_any (w.heap.size + 1) (⟨f, ts, n4⟩ : GateM) (.slice q1 ts.length q2) hk m7 HSQ.out)
                generalize hck : (⟨f, ts, n4⟩ : GateM).chk = ck at *
                by_cases hk : ck = 0
                · have hk1 : (ck != 0) = false := by simpa using hk
                  have hby := HBY.out hk
                  clear HBY
                  generalize bytesM (⟨f, ts, n4⟩ : GateM) = bm at *
                  go_wp2_with fail
                  refine hby.mono ?_
                  rintro e w6 ⟨b', n, c', H3, rfl, m8, hl3, hsb⟩
                  have m8 : Mem w0 H3 ((w.heap.size + 1, .cells #[.int .i64 f, .slice q1 ts.length q2, .int .i64 n4] 49) :: (w.heap.size + 1 + 1, .cells #[.pointer (some ⟨w.heap.size + 1, 0, none⟩), .pointer (some ⟨w.heap.size + 1, 2, none⟩)] 66) :: (w.heap.size, .cells #[.int .i64 0, .slice none 0 0, .int .i64 0] 29) :: L) w6 := m8
                  clear es ns hby
                  have es := m8.eqs; simp only [EqsL, and_true] at es
                  have ns := m8.nes; simp only [NeL, NeFrom, and_true, true_and] at ns
                  go_wp2_with fail
                  refine (Equal_any _ _ bm b m8 hsb ((HV.out.mono hl2).mono hl3)).mono ?_
                  rintro e w7 ⟨rfl, n7, hw⟩
                  have m9 := m8.drewN n7
                  rw [← hw] at m9
                  clear es ns hw
                  have es := m9.eqs; simp only [EqsL, and_true] at es
                  have ns := m9.nes; simp only [NeL, NeFrom, and_true, true_and] at ns
                  by_cases he : bm = b
                  · have hd : decide (bm = b) = true := decide_eq_true he
                    rw [hd]
                    have HE := Lib.hid he; clear he hd
                    have HK := Lib.hid hk; clear hk
                    go_wp2_with fail
                    try rw [Exit.noGoto_ret]
                    refine bodyPost_ret (v := .tuple #[.agg #[.int .i64 f, .slice q1 ts.length q2, .int .i64 n4], .int .i64 0]) (by simp [results, Tryd.results12, go_sem, es, ns]) rfl ?_
                    rw [HRD.out, if_pos ⟨HK.out, HE.out⟩]
                    exact ⟨_, _, _, _, H3, rfl, (m9.set3 (.tail (.tail .head))).drop.drop.drop, hl2.trans hl3, ⟨_, rfl, HSQ.out.mono hl3⟩⟩
                  · have hd : decide (bm = b) = false := decide_eq_false he
                    rw [hd]
                    have HE := Lib.hid he; clear he hd
                    go_wp2_with fail
                    try rw [Exit.noGoto_ret]
                    refine bodyPost_ret (v := .tuple #[.agg #[.int .i64 0, .slice none 0 0, .int .i64 0], .int .i64 4]) (by simp [results, Tryd.results12, go_sem, es, ns]) rfl ?_
                    rw [HRD.out, if_neg (fun h => HE.out h.2)]
                    exact ⟨_, _, _, _, H3, rfl, (m9.set3 (.tail (.tail .head))).drop.drop.drop, hl2.trans hl3, ⟨_, rfl, SlR.nil _ _⟩⟩
                · have hk1 : (ck != 0) = true := by simpa using hk
                  have HK := Lib.hid hk; clear hk HBY
                  go_wp2_with fail
                  try rw [Exit.noGoto_ret]
                  refine bodyPost_ret (v := .tuple #[.agg #[.int .i64 0, .slice none 0 0, .int .i64 0], .int .i64 4]) (by simp [results, Tryd.results12, go_sem, es, ns]) rfl ?_
                  rw [HRD.out, if_neg (fun h => HK.out h.1)]
                  exact ⟨_, _, _, _, H2, rfl, (m7.set3 (.tail (.tail .head))).drop.drop.drop, hl2, ⟨_, rfl, SlR.nil _ _⟩⟩
              | cons x r' =>
                obtain ⟨blk9, off9, rfl, hce, _⟩ := HSR.out.cellV (i := 0) (by simp)
                have hcell := hce.cell m5
                have HCE := Lib.hid hce; clear hce
                simp only [List.getElem_cons_zero, Nat.add_zero] at hcell HCE
                simp only [List.length_cons] at HSR hrc hrl ⊢
                have hl0 : (((r'.length + 1 : Nat) : Int) == 0) = false := by simp; omega
                have hxb := x.toNat_lt
                by_cases hsh : r'.length < x.toNat
                · have hnx : nextT (x :: r') = none := by simp [nextT, hsh]
                  have HNX := Lib.hid hnx; clear hnx
                  go_wp2_with fail
                  have hts1 : (parseN N (b.drop 9)).1 = ts := by
                    rw [HPA.out]
                    simp [parseN_stop HNX.out]
                  have hrd := HRQ.out _ hts1
                  have HRD := Lib.hid hrd; clear hrd hts1
                  have i1 := numPre_I64 b 0
                  have i2 := numPre_I64 b 4
                  generalize numPre b 0 4 = f at *
                  generalize numPre b 4 4 = n4 at *
                  obtain ⟨H2, m6, hl2, hsq⟩ := (hacc.join (m5.perm (perm_read _ _ _ Lq L))).done HCH.out rfl rfl
                  have HSQ := Lib.hid hsq; clear hsq
                  refine (Check_any _ (⟨f, ts, n4⟩ : GateM) m6 ⟨_, rfl, HSQ.out⟩ ⟨i1, i2⟩).mono ?_
                  rintro e w5 ⟨rfl, m7⟩
                  clear es
                  have m7 := m7.perm (.swap _ _ _)
                  have es := m7.eqs; simp only [EqsL, and_true] at es
                  have ns := m7.nes; simp only [NeL, NeFrom, and_true, true_and] at ns
                  have HBY := Lib.hid (fun hk => bytes_any (w.heap.size + 1) (⟨f, ts, n4⟩ : GateM) (.slice q1 ts.length q2) hk m7 HSQ.out)
                  generalize hck : (⟨f, ts, n4⟩ : GateM).chk = ck at *
                  by_cases hk : ck = 0
                  · have hk1 : (ck != 0) = false := by simpa using hk
                    have hby := HBY.out hk
                    clear HBY
                    generalize bytesM (⟨f, ts, n4⟩ : GateM) = bm at *
                    go_wp2_with fail
                    refine hby.mono ?_
                    rintro e w6 ⟨b', n, c', H3, rfl, m8, hl3, hsb⟩
                    have m8 : Mem w0 H3 ((w.heap.size + 1, .cells #[.int .i64 f, .slice q1 ts.length q2, .int .i64 n4] 49) :: (w.heap.size + 1 + 1, .cells #[.pointer (some ⟨w.heap.size + 1, 0, none⟩), .pointer (some ⟨w.heap.size + 1, 2, none⟩)] 66) :: (w.heap.size, .cells #[.int .i64 0, .slice none 0 0, .int .i64 0] 29) :: L) w6 := m8
                    clear es ns hby
                    have es := m8.eqs; simp only [EqsL, and_true] at es
                    have ns := m8.nes; simp only [NeL, NeFrom, and_true, true_and] at ns
                    go_wp2_with fail
                    refine (Equal_any _ _ bm b m8 hsb ((HV.out.mono hl2).mono hl3)).mono ?_
                    rintro e w7 ⟨rfl, n7, hw⟩
                    have m9 := m8.drewN n7
                    rw [← hw] at m9
                    clear es ns hw
                    have es := m9.eqs; simp only [EqsL, and_true] at es
                    have ns := m9.nes; simp only [NeL, NeFrom, and_true, true_and] at ns
                    by_cases he : bm = b
                    · have hd : decide (bm = b) = true := decide_eq_true he
                      rw [hd]
                      have HE := Lib.hid he; clear he hd
                      have HK := Lib.hid hk; clear hk
                      go_wp2_with fail
                      try rw [Exit.noGoto_ret]
                      refine bodyPost_ret (v := .tuple #[.agg #[.int .i64 f, .slice q1 ts.length q2, .int .i64 n4], .int .i64 0]) (by simp [results, Tryd.results12, go_sem, es, ns]) rfl ?_
                      rw [HRD.out, if_pos ⟨HK.out, HE.out⟩]
                      exact ⟨_, _, _, _, H3, rfl, (m9.set3 (.tail (.tail .head))).drop.drop.drop, hl2.trans hl3, ⟨_, rfl, HSQ.out.mono hl3⟩⟩
                    · have hd : decide (bm = b) = false := decide_eq_false he
                      rw [hd]
                      have HE := Lib.hid he; clear he hd
                      go_wp2_with fail
                      try rw [Exit.noGoto_ret]
                      refine bodyPost_ret (v := .tuple #[.agg #[.int .i64 0, .slice none 0 0, .int .i64 0], .int .i64 4]) (by simp [results, Tryd.results12, go_sem, es, ns]) rfl ?_
                      rw [HRD.out, if_neg (fun h => HE.out h.2)]
                      exact ⟨_, _, _, _, H3, rfl, (m9.set3 (.tail (.tail .head))).drop.drop.drop, hl2.trans hl3, ⟨_, rfl, SlR.nil _ _⟩⟩
                  · have hk1 : (ck != 0) = true := by simpa using hk
                    have HK := Lib.hid hk; clear hk HBY
                    go_wp2_with fail
                    try rw [Exit.noGoto_ret]
                    refine bodyPost_ret (v := .tuple #[.agg #[.int .i64 0, .slice none 0 0, .int .i64 0], .int .i64 4]) (by simp [results, Tryd.results12, go_sem, es, ns]) rfl ?_
                    rw [HRD.out, if_neg (fun h => HK.out h.1)]
                    exact ⟨_, _, _, _, H2, rfl, (m7.set3 (.tail (.tail .head))).drop.drop.drop, hl2, ⟨_, rfl, SlR.nil _ _⟩⟩
                · have hsh2 : (x.toNat : Int) ≤ r'.length := by omega
                  have hsh3 : ¬ (((r'.length + 1 : Nat) : Int) - 1 < x.toNat) := by omega
                  go_upto_region 18 with fail
                  refine AnyFrom.start (fun w' => w'.cell? ⟨w.heap.size + 1, 1, none⟩ = some (.slice q1 ts.length q2) ∧ ∃ L', Mem w0 H L' w') 21 (by kernel_rfl) ?_
                  have m6 := m5.drew
                  clear es m5 hcell
                  generalize wr.drew = W7 at *
                  have es := m6.eqs; simp only [EqsL, and_true] at es
                  have HS : W7.cell? ⟨w.heap.size + 1, 1, none⟩ = some (.slice q1 ts.length q2) ∧ ∃ L', Mem w0 H L' W7 := ⟨by simp [es], _, m6⟩
                  have hnx : nextT (x :: r') = some (⟨(r'.take x.toNat).toArray⟩, r'.drop x.toNat) := by simp only [nextT]; rw [if_neg hsh]
                  have HNX := Lib.hid hnx; clear hnx
                  obtain ⟨a1, ha1⟩ : ∃ a1 : Option Addr, a1 = (if c9 = 1 then some ⟨blk9, off9, none⟩ else some ⟨blk9, off9 + 1, none⟩) := ⟨_, rfl⟩
                  have hs1 : SlR encB H (.slice a1 r'.length (c9 - 1)) r' := by
                    have := HSR.out.tail (by omega)
                    rw [ha1]
                    simpa [sliceV, Go.sliced, Addr.add, encB, encV] using this
                  generalize hxn : x.toNat = xn at *
                  have hs2 : SlR encB H (.slice a1 xn (c9 - 1)) (r'.take xn) := by
                    have := hs1.sliced (i := 0) (j := xn) (Nat.zero_le _) (by omega)
                    simpa [sliceV, Go.sliced, Addr.add, encB, encV] using this
                  have HS1 := Lib.hid hs1; clear hs1
                  have HS2 := Lib.hid hs2; clear hs2
                  have w1 : IntKind.i64.wrap (xn : Int) = xn := wrap64 _ (by omega) (by omega)
                  have w2 : IntKind.i64.wrap (1 + (xn : Int)) = 1 + xn := wrap64 _ (by omega) (by omega)
                  have w3 : (1 + (xn : Int)).toNat = 1 + xn := by omega
                  have w4 : r'.length + 1 - (1 + xn) = r'.length - xn := by omega
                  have b5 : (0 : Int) ≤ 1 + xn := by omega
                  have b6 : ¬ (1 + (xn : Int) < 0) := by omega
                  have b1 : (1 : Int) ≤ (r'.length : Int) + 1 := by omega
                  have b2 : (0 : Int) < (r'.length : Int) + 1 := by omega
                  have b3 : (xn : Int) ≤ ((c9 - 1 : Nat) : Int) := by omega
                  have b4 : (1 : Int) + xn ≤ (r'.length : Int) + 1 := by omega
                  refine AnyFrom.take (i := 0) (v := ?_) rfl (by kernel_rfl) (by kernel_rfl) (by kernel_rfl) (by kernel_rfl) (fun _ _ _ h => h) ⟨by rfl, ?_⟩ HS ?_
                  rotate_left
                  · first | (rintro w' ⟨hS1, L', hm⟩; have hc := HCE.out.cell hm; go_simp; done) | (rintro w' ⟨hS1, L', hm⟩; have hc := HCE.out.cell hm; go_simp; with_reducible rfl)
                  simp only [Act.put, List.setIfInBounds_toArray, List.set_cons_zero, List.set_cons_succ]
                  refine AnyFrom.take (i := 1) (v := ?_) rfl (by kernel_rfl) (by kernel_rfl) (by kernel_rfl) (by kernel_rfl) (fun _ _ _ h => h) ⟨by rfl, ?_⟩ HS ?_
                  rotate_left
                  · first | (rintro w' ⟨hS1, L', hm⟩; have hc := HCE.out.cell hm; go_simp; done) | (rintro w' ⟨hS1, L', hm⟩; have hc := HCE.out.cell hm; go_simp; with_reducible rfl)
                  simp only [Act.put, List.setIfInBounds_toArray, List.set_cons_zero, List.set_cons_succ]
                  refine AnyFrom.take (i := 2) (v := ?_) rfl (by kernel_rfl) (by kernel_rfl) (by kernel_rfl) (by kernel_rfl) (fun _ _ _ h => h) ⟨by rfl, ?_⟩ HS ?_
                  rotate_left
                  · first | (rintro w' ⟨hS1, L', hm⟩; have hc := HCE.out.cell hm; go_simp; done) | (rintro w' ⟨hS1, L', hm⟩; have hc := HCE.out.cell hm; go_simp; with_reducible rfl)
                  simp only [Act.put, List.setIfInBounds_toArray, List.set_cons_zero, List.set_cons_succ]
                  refine AnyFrom.take (i := 3) (v := ?_) rfl (by kernel_rfl) (by kernel_rfl) (by kernel_rfl) (by kernel_rfl) (fun _ _ _ h => h) ⟨by rfl, ?_⟩ HS ?_
                  rotate_left
                  · first | (rintro w' ⟨hS1, L', hm⟩; have hc := HCE.out.cell hm; go_simp; done) | (rintro w' ⟨hS1, L', hm⟩; have hc := HCE.out.cell hm; go_simp; with_reducible rfl)
                  simp only [Act.put, List.setIfInBounds_toArray, List.set_cons_zero, List.set_cons_succ]
                  refine AnyFrom.take (i := 4) (v := .slice a1 r'.length (c9 - 1)) rfl (by kernel_rfl) (by kernel_rfl) (by kernel_rfl) (by kernel_rfl) (fun _ _ _ h => h) ⟨by rfl, ?_⟩ HS ?_
                  · first | (rintro w' ⟨hS1, L', hm⟩; have hc := HCE.out.cell hm; rw [ha1]; go_simp; done) | (rintro w' ⟨hS1, L', hm⟩; have hc := HCE.out.cell hm; rw [ha1]; go_simp; with_reducible rfl)
                  simp only [Act.put, List.setIfInBounds_toArray, List.set_cons_zero, List.set_cons_succ]
                  clear ha1
                  refine AnyFrom.take (i := 5) (v := ?_) rfl (by kernel_rfl) (by kernel_rfl) (by kernel_rfl) (by kernel_rfl) (fun _ _ _ h => h) ⟨by rfl, ?_⟩ HS ?_
                  rotate_left
                  · first | (rintro w' ⟨hS1, L', hm⟩; have hc := HCE.out.cell hm; go_simp; done) | (rintro w' ⟨hS1, L', hm⟩; have hc := HCE.out.cell hm; go_simp; with_reducible rfl)
                  simp only [Act.put, List.setIfInBounds_toArray, List.set_cons_zero, List.set_cons_succ]
                  refine AnyFrom.take (i := 6) (v := ?_) rfl (by kernel_rfl) (by kernel_rfl) (by kernel_rfl) (by kernel_rfl) (fun _ _ _ h => h) ⟨by rfl, ?_⟩ HS ?_
                  rotate_left
                  · first | (rintro w' ⟨hS1, L', hm⟩; have hc := HCE.out.cell hm; go_simp; done) | (rintro w' ⟨hS1, L', hm⟩; have hc := HCE.out.cell hm; go_simp; with_reducible rfl)
                  simp only [Act.put, List.setIfInBounds_toArray, List.set_cons_zero, List.set_cons_succ]
                  refine AnyFrom.take (i := 7) (v := ?_) rfl (by kernel_rfl) (by kernel_rfl) (by kernel_rfl) (by kernel_rfl) (fun _ _ _ h => h) ⟨by rfl, ?_⟩ HS ?_
                  rotate_left
                  · first | (rintro w' ⟨hS1, L', hm⟩; have hc := HCE.out.cell hm; go_simp; done) | (rintro w' ⟨hS1, L', hm⟩; have hc := HCE.out.cell hm; go_simp; with_reducible rfl)
                  simp only [Act.put, List.setIfInBounds_toArray, List.set_cons_zero, List.set_cons_succ]
                  refine AnyFrom.take (i := 8) (v := .slice a1 xn (c9 - 1)) rfl (by kernel_rfl) (by kernel_rfl) (by kernel_rfl) (by kernel_rfl) (fun _ _ _ h => h) ⟨by rfl, ?_⟩ HS ?_
                  · first | (rintro w' ⟨hS1, L', hm⟩; have hc := HCE.out.cell hm; go_simp; done) | (rintro w' ⟨hS1, L', hm⟩; have hc := HCE.out.cell hm; go_simp; with_reducible rfl)
                  simp only [Act.put, List.setIfInBounds_toArray, List.set_cons_zero, List.set_cons_succ]
                  obtain ⟨a2, ha2⟩ : ∃ a2 : Option Addr, a2 = (if c9 = 1 + xn then some ⟨blk9, off9, none⟩ else some ⟨blk9, off9 + (1 + xn), none⟩) := ⟨_, rfl⟩
                  have hs3 : SlR encB H (.slice a2 (r'.length - xn) (c9 - (1 + xn))) (r'.drop xn) := by
                    have := HSR.out.sliced (i := 1 + xn) (j := r'.length + 1) (by omega) (Nat.le_refl _)
                    rw [ha2]
                    rw [List.take_of_length_le (by simp), show (x :: r').drop (1 + xn) = r'.drop xn by rw [Nat.add_comm]; rfl] at this
                    simp only [sliceV, Go.sliced, show r'.length + 1 - (1 + xn) = r'.length - xn by omega] at this
                    simpa [Addr.add, encB, encV] using this
                  have HS3 := Lib.hid hs3; clear hs3
                  refine AnyFrom.take (i := 9) (v := .string ⟨(r'.take xn).toArray⟩) rfl (by kernel_rfl) (by kernel_rfl) (by kernel_rfl) (by kernel_rfl) (fun _ _ _ h => h) ⟨by rfl, ?_⟩ HS ?_
                  · rintro w' ⟨hS1, L', hm⟩
                    have hcv := conv_bytes (P := Tryd.prog) 22 9 5 Tryd.underlying22 Tryd.underlying5 Tryd.underlying9 hm HS2.out
                    go_simp
                    all_goals rw [hcv]
                  simp only [Act.put, List.setIfInBounds_toArray, List.set_cons_zero, List.set_cons_succ]
                  refine AnyFrom.pure (i := 12) (v := ?_) rfl (by kernel_rfl) (by kernel_rfl) (by kernel_rfl) (by decide) (fun _ _ _ h => h) ⟨by rfl, ?_⟩ HS ?_
                  rotate_left
                  · first | (intro w'; go_simp; done) | (intro w'; go_simp; with_reducible rfl)
                  simp only [Act.put, List.setIfInBounds_toArray, List.set_cons_zero, List.set_cons_succ]
                  refine AnyFrom.pure (i := 13) (v := ?_) rfl (by kernel_rfl) (by kernel_rfl) (by kernel_rfl) (by decide) (fun _ _ _ h => h) ⟨by rfl, ?_⟩ HS ?_
                  rotate_left
                  · first | (intro w'; go_simp; done) | (intro w'; go_simp; with_reducible rfl)
                  simp only [Act.put, List.setIfInBounds_toArray, List.set_cons_zero, List.set_cons_succ]
                  refine AnyFrom.pure (i := 14) (v := ?_) rfl (by kernel_rfl) (by kernel_rfl) (by kernel_rfl) (by decide) (fun _ _ _ h => h) ⟨by rfl, ?_⟩ HS ?_
                  rotate_left
                  · first | (intro w'; go_simp; done) | (intro w'; go_simp; with_reducible rfl)
                  simp only [Act.put, List.setIfInBounds_toArray, List.set_cons_zero, List.set_cons_succ]
                  refine AnyFrom.take (i := 15) (v := ?_) rfl (by kernel_rfl) (by kernel_rfl) (by kernel_rfl) (by kernel_rfl) (fun _ _ _ h => h) ⟨by rfl, ?_⟩ HS ?_
                  rotate_left
                  · first | (rintro w' ⟨hS1, L', hm⟩; have hc := HCE.out.cell hm; go_simp; done) | (rintro w' ⟨hS1, L', hm⟩; have hc := HCE.out.cell hm; go_simp; with_reducible rfl)
                  simp only [Act.put, List.setIfInBounds_toArray, List.set_cons_zero, List.set_cons_succ]
                  refine AnyFrom.pure (i := 16) (v := ?_) rfl (by kernel_rfl) (by kernel_rfl) (by kernel_rfl) (by decide) (fun _ _ _ h => h) ⟨by rfl, ?_⟩ HS ?_
                  rotate_left
                  · first | (intro w'; go_simp; done) | (intro w'; go_simp; with_reducible rfl)
                  simp only [Act.put, List.setIfInBounds_toArray, List.set_cons_zero, List.set_cons_succ]
                  refine AnyFrom.pure (i := 17) (v := ?_) rfl (by kernel_rfl) (by kernel_rfl) (by kernel_rfl) (by decide) (fun _ _ _ h => h) ⟨by rfl, ?_⟩ HS ?_
                  rotate_left
                  · first | (intro w'; go_simp; done) | (intro w'; go_simp; with_reducible rfl)
                  simp only [Act.put, List.setIfInBounds_toArray, List.set_cons_zero, List.set_cons_succ]
                  refine AnyFrom.pure (i := 18) (v := .slice a2 (r'.length - xn) (c9 - (1 + xn))) rfl (by kernel_rfl) (by kernel_rfl) (by kernel_rfl) (by decide) (fun _ _ _ h => h) ⟨by rfl, ?_⟩ HS ?_
                  · first | (intro w'; rw [ha2]; go_simp; done) | (intro w'; rw [ha2]; go_simp; with_reducible rfl)
                  simp only [Act.put, List.setIfInBounds_toArray, List.set_cons_zero, List.set_cons_succ]
                  clear ha2
                  refine AnyFrom.one (i := 10) (by kernel_rfl) (AnyFrom.op rfl (by rfl) fun K hK => ?_)
                  go_simp
                  have m7 := m6.alloc (.cells #[.string ⟨(r'.take xn).toArray⟩] 9)
                  refine hK _ _ (.inr ⟨by simp [es, World.cell?_alloc_lt, World.size_alloc, Nat.lt_succ_of_lt], _, m7⟩) ?_
                  clear hK K
                  try simp only [Act.put, List.setIfInBounds_toArray, List.set_cons_zero, List.set_cons_succ]
                  have mp := m7.perm (perm_read4 _ _ _ _ Lq L)
                  refine AnyFrom.one (i := 11) (by kernel_rfl) (AnyFrom.opIf rfl fun K hK => ?_)
                  refine step_append_mem (w0 := w0) (H := H) (L := _ :: _) rfl _ _ 25 rfl 9 1 16 (.string ByteArray.empty) Tryd.underlying25 (by kernel_rfl) rfl (by decide) (.slice q1 ts.length q2) ts.length csq (hacc.join mp) rfl _ 1 [.string ⟨(r'.take xn).toArray⟩] (Src.loc (e := 9) (hacc.join mp).mem (.head _)) rfl rfl (by simp [Value.oneCell']) (by omega) (by unfold maxLen; omega) ?_
                  intro v' w8 hacc2
                  obtain ⟨b', c', rfl, _, _⟩ := hacc2.shape
                  clear es
                  have es := hacc2.mem.eqs
                  simp only [EqsL, and_true] at es
                  refine hK _ _ (.inr ⟨by simp [es, World.cell?_alloc_lt, World.size_alloc, Nat.lt_succ_of_lt], _, hacc2.mem⟩) ?_
                  clear hK K
                  try simp only [Act.put, List.setIfInBounds_toArray, List.set_cons_zero, List.set_cons_succ]
                  refine AnyFrom.one (i := 19) (by kernel_rfl) (AnyFrom.op rfl (by rfl) fun K hK => ?_)
                  go_simp
                  refine hK _ _ (.inr ⟨by simp [es], _, hacc2.mem⟩) ?_
                  clear hK K
                  try simp only [Act.put, List.setIfInBounds_toArray, List.set_cons_zero, List.set_cons_succ]
                  refine AnyFrom.one (i := 20) (by kernel_rfl) (AnyFrom.op rfl (by rfl) fun K hK => ?_)
                  go_simp
                  refine hK _ _ (.inr ⟨by simp [es], _, hacc2.mem⟩) ?_
                  clear hK K
                  try simp only [Act.put, List.setIfInBounds_toArray, List.set_cons_zero, List.set_cons_succ]
                  refine AnyFrom.one (i := 21) (by kernel_rfl) (AnyFrom.op rfl (by rfl) fun K hK => ?_)
                  go_simp
                  refine hK _ _ (.inl ⟨21, by decide, by rfl⟩) ?_
                  clear hK K
                  try simp only [Act.put, List.setIfInBounds_toArray, List.set_cons_zero, List.set_cons_succ]
                  refine AnyFrom.one (i := 22) (by kernel_rfl) (AnyFrom.op rfl (by rfl) fun K hK => ?_)
                  go_simp
                  refine hK _ _ (.inl ⟨21, by decide, by rfl⟩) ?_
                  clear hK K
                  try simp only [Act.put, List.setIfInBounds_toArray, List.set_cons_zero, List.set_cons_succ]
                  refine AnyFrom.done (by kernel_rfl) ?_ _
                  obtain ⟨L5, ha5, m8⟩ := hacc2.split
                  have m9 := ((m8.perm (perm_read5 _ _ _ _ L5 L)).drop).set (i := 1) (v := .slice b' (ts.length + 1) c') (.tail .head)
                  simp only [List.setIfInBounds_toArray, List.set_cons_zero, List.set_cons_succ] at m9
                  have hl1 : (ts ++ [(⟨(r'.take xn).toArray⟩ : ByteArray)]).length = ts.length + 1 := by simp
                  have hl2 : (r'.drop xn).length = r'.length - xn := by simp
                  have hsz : (⟨(r'.take xn).toArray⟩ : ByteArray).size ≤ maxLen := by
                    simp only [ByteArray.size, List.size_toArray, List.length_take]
                    unfold maxLen
                    omega
                  have hone : Chunks encStr H [.string ⟨(r'.take xn).toArray⟩] [⟨(r'.take xn).toArray⟩] := .one (x := (⟨(r'.take xn).toArray⟩ : ByteArray)) ⟨rfl, hsz⟩ rfl
                  go_wp2_with fail
                  go_roundw
                  case rel =>
                    refine ⟨j + 1, by omega, ts ++ [⟨(r'.take xn).toArray⟩], by rw [hl1]; omega, r'.drop xn, by rw [hl2]; omega, by omega, a2, c9 - (1 + xn), ⟨rfl, hl2.symm, rfl⟩, by rw [hl2]; exact HS3.out, ?_, b', c', csq ++ [.string ⟨(r'.take xn).toArray⟩], L5, by rw [hl1]; exact ha5, HCH.out.append hone, by rw [hl1]; exact m9⟩
                    rw [HPA.out, show N - j = N - (j + 1) + 1 by omega]
                    simp [parseN, HNX.out]
                  case measure => simp [intOf]; omega
            · have hjN : N - j = 0 := by omega
              go_wp2_with fail
              have hts1 : (parseN N (b.drop 9)).1 = ts := by
                rw [HPA.out]
                simp [parseN, hjN]
              have hrd := HRQ.out _ hts1
              have HRD := Lib.hid hrd; clear hrd hts1
              have i1 := numPre_I64 b 0
              have i2 := numPre_I64 b 4
              generalize numPre b 0 4 = f at *
              generalize numPre b 4 4 = n4 at *
              obtain ⟨H2, m6, hl2, hsq⟩ := (hacc.join (m5.perm (perm_read _ _ _ Lq L))).done HCH.out rfl rfl
              have HSQ := Lib.hid hsq; clear hsq
              refine (Check_any _ (⟨f, ts, n4⟩ : GateM) m6 ⟨_, rfl, HSQ.out⟩ ⟨i1, i2⟩).mono ?_
              rintro e w5 ⟨rfl, m7⟩
              clear es
              have m7 := m7.perm (.swap _ _ _)
              have es := m7.eqs; simp only [EqsL, and_true] at es
              have ns := m7.nes; simp only [NeL, NeFrom, and_true, true_and] at ns
              have HBY := Lib.hid (fun hk => bytes_any (w.heap.size + 1) (⟨f, ts, n4⟩ : GateM) (.slice q1 ts.length q2) hk m7 HSQ.out)
              generalize hck : (⟨f, ts, n4⟩ : GateM).chk = ck at *
              by_cases hk : ck = 0
              · have hk1 : (ck != 0) = false := by simpa using hk
                have hby := HBY.out hk
                clear HBY
                generalize bytesM (⟨f, ts, n4⟩ : GateM) = bm at *
                go_wp2_with fail
                refine hby.mono ?_
                rintro e w6 ⟨b', n, c', H3, rfl, m8, hl3, hsb⟩
                have m8 : Mem w0 H3 ((w.heap.size + 1, .cells #[.int .i64 f, .slice q1 ts.length q2, .int .i64 n4] 49) :: (w.heap.size + 1 + 1, .cells #[.pointer (some ⟨w.heap.size + 1, 0, none⟩), .pointer (some ⟨w.heap.size + 1, 2, none⟩)] 66) :: (w.heap.size, .cells #[.int .i64 0, .slice none 0 0, .int .i64 0] 29) :: L) w6 := m8
                clear es ns hby
                have es := m8.eqs; simp only [EqsL, and_true] at es
                have ns := m8.nes; simp only [NeL, NeFrom, and_true, true_and] at ns
                go_wp2_with fail
                refine (Equal_any _ _ bm b m8 hsb ((HV.out.mono hl2).mono hl3)).mono ?_
                rintro e w7 ⟨rfl, n7, hw⟩
                have m9 := m8.drewN n7
                rw [← hw] at m9
                clear es ns hw
                have es := m9.eqs; simp only [EqsL, and_true] at es
                have ns := m9.nes; simp only [NeL, NeFrom, and_true, true_and] at ns
                by_cases he : bm = b
                · have hd : decide (bm = b) = true := decide_eq_true he
                  rw [hd]
                  have HE := Lib.hid he; clear he hd
                  have HK := Lib.hid hk; clear hk
                  go_wp2_with fail
                  try rw [Exit.noGoto_ret]
                  refine bodyPost_ret (v := .tuple #[.agg #[.int .i64 f, .slice q1 ts.length q2, .int .i64 n4], .int .i64 0]) (by simp [results, Tryd.results12, go_sem, es, ns]) rfl ?_
                  rw [HRD.out, if_pos ⟨HK.out, HE.out⟩]
                  exact ⟨_, _, _, _, H3, rfl, (m9.set3 (.tail (.tail .head))).drop.drop.drop, hl2.trans hl3, ⟨_, rfl, HSQ.out.mono hl3⟩⟩
                · have hd : decide (bm = b) = false := decide_eq_false he
                  rw [hd]
                  have HE := Lib.hid he; clear he hd
                  go_wp2_with fail
                  try rw [Exit.noGoto_ret]
                  refine bodyPost_ret (v := .tuple #[.agg #[.int .i64 0, .slice none 0 0, .int .i64 0], .int .i64 4]) (by simp [results, Tryd.results12, go_sem, es, ns]) rfl ?_
                  rw [HRD.out, if_neg (fun h => HE.out h.2)]
                  exact ⟨_, _, _, _, H3, rfl, (m9.set3 (.tail (.tail .head))).drop.drop.drop, hl2.trans hl3, ⟨_, rfl, SlR.nil _ _⟩⟩
              · have hk1 : (ck != 0) = true := by simpa using hk
                have HK := Lib.hid hk; clear hk HBY
                go_wp2_with fail
                try rw [Exit.noGoto_ret]
                refine bodyPost_ret (v := .tuple #[.agg #[.int .i64 0, .slice none 0 0, .int .i64 0], .int .i64 4]) (by simp [results, Tryd.results12, go_sem, es, ns]) rfl ?_
                rw [HRD.out, if_neg (fun h => HK.out h.1)]
                exact ⟨_, _, _, _, H2, rfl, (m7.set3 (.tail (.tail .head))).drop.drop.drop, hl2, ⟨_, rfl, SlR.nil _ _⟩⟩
end Go.Proofs.YtpkcdkbbhiafnaaDoor
