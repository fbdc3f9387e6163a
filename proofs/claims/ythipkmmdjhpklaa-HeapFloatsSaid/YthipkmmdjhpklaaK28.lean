/- The walk: the law HeapFloats. -/
import Derived.Test.YthipkmmdjhpklaaK25
namespace Go.Proofs.Ythipkmmdjhpklaa
set_option linter.unusedVariables false
set_option linter.unusedSimpArgs false
open Go.RowKit

theorem share21 {K : Act → World → Prop} {G : Prop} (R : Nat → Nat → Nat → Nat → Nat → Option Addr → Nat → Option Addr → Nat → Option Addr → Nat → Option Addr → Nat → Option Addr → Nat → Option Addr → Nat → Option Addr → Nat → Option Addr → Nat → World → Prop) {f : Nat → Nat → Nat → Nat → Nat → Option Addr → Nat → Option Addr → Nat → Option Addr → Nat → Option Addr → Nat → Option Addr → Nat → Option Addr → Nat → Option Addr → Nat → Option Addr → Nat → Act}
    (br : (∀ x7 x8 blk2 off2 cap2 lb2 lc2 sb2 sc2 ob3 oc3 nb3 nc3 rb3 rc3 ob5 oc5 nb5 nc5 rb5 rc5 W, R x7 x8 blk2 off2 cap2 lb2 lc2 sb2 sc2 ob3 oc3 nb3 nc3 rb3 rc3 ob5 oc5 nb5 nc5 rb5 rc5 W → K (f x7 x8 blk2 off2 cap2 lb2 lc2 sb2 sc2 ob3 oc3 nb3 nc3 rb3 rc3 ob5 oc5 nb5 nc5 rb5 rc5) W) → G) (rest : ∀ x7 x8 blk2 off2 cap2 lb2 lc2 sb2 sc2 ob3 oc3 nb3 nc3 rb3 rc3 ob5 oc5 nb5 nc5 rb5 rc5 W, R x7 x8 blk2 off2 cap2 lb2 lc2 sb2 sc2 ob3 oc3 nb3 nc3 rb3 rc3 ob5 oc5 nb5 nc5 rb5 rc5 W → K (f x7 x8 blk2 off2 cap2 lb2 lc2 sb2 sc2 ob3 oc3 nb3 nc3 rb3 rc3 ob5 oc5 nb5 nc5 rb5 rc5) W) : G := br rest
set_option maxRecDepth 10000 in
set_option maxHeartbeats 16000000 in
theorem floats_any (size regs : Int) (hs : I64 size) (hr : I64 regs) (dv : Value) (ds : List DeedM) (mv : Value) (ls : List DeedM) {w0 w : World} {H : Hp} {L : List (Nat × Obj)} (hd : SlR encDeed H dv ds) (hm : SlR encDeed H mv ls) (m : Mem w0 H L w) :
    Calls Try.prog 7 #[.agg #[.int .i64 size, .int .i64 regs, dv], mv] w (Ret w0 H L (.bool true)) := by
  have HD := Lib.hid hd
  have HM := Lib.hid hm
  have HSZ := Lib.hid hs; clear hs
  have HRG := Lib.hid hr; clear hr
  obtain ⟨lb, lc, rfl, _, hlc, _, _⟩ := hd
  obtain ⟨mb, mc, rfl, hmm, hmc, _, _⟩ := hm
  have hlc := size_le_maxLen hlc
  have hmc := size_le_maxLen hmc
  have m1 := m.alloc (PBox size regs (.slice lb ds.length lc))
  have es := m1.eqs
  simp only [EqsL] at es
  go_enter Try.func7, Try.ntmps7
  go_wp2_with fail
  refine (ready_any size regs _ ds HD.out m1).mono ?_
  rintro e w1 ⟨rfl, m2⟩
  clear es m1
  have es := m2.eqs
  simp only [EqsL] at es
  cases hrd : readyM size regs ds
  · have HRD := Lib.hid hrd; clear hrd
    go_wp2_with fail
    refine (awake_any m2).mono ?_
    rintro e w3 ⟨rfl, m3⟩
    go_wp2_with fail
    go_ret
    exact ⟨rfl, m3.drop⟩
  have HRD := Lib.hid hrd; clear hrd
  go_wp2_with fail
  refine (thinDeeds_any _ ls HM.out m2).mono ?_
  rintro e w1 ⟨rfl, m2b⟩
  clear es m2
  have m2 := m2b
  clear m2b
  have es := m2.eqs
  simp only [EqsL] at es
  cases htd : thinD ls
  · have HTD := Lib.hid htd; clear htd
    go_wp2_with fail
    refine (awake_any m2).mono ?_
    rintro e w3 ⟨rfl, m3⟩
    go_wp2_with fail
    go_ret
    exact ⟨rfl, m3.drop⟩
  by_cases hl80 : ¬ ls.length ≤ 80
  · have HTD := Lib.hid htd; clear htd
    have hl80I : (80 : Int) < (ls.length : Int) := by omega
    go_wp2_with fail
    refine (awake_any m2).mono ?_
    rintro e w3 ⟨rfl, m3⟩
    go_wp2_with fail
    go_ret
    exact ⟨rfl, m3.drop⟩
  have hl80 : ls.length ≤ 80 := by omega
  have hl80I : ¬ (80 : Int) < (ls.length : Int) := by omega
  have hall : ∀ d ∈ ls, d.list.length ≤ 12 ∧ d.obj.slots.length ≤ 4 ∧ d.obj.name.size ≤ 300 ∧ d.val.s.size ≤ 300 ∧ d.a ≤ 10000 := fun d hd => by
    unfold thinD at htd
    rw [Bool.and_eq_true] at htd
    exact thin1_all (List.all_eq_true.1 htd.2 d hd)
  have HALL := Lib.hid hall; clear hall htd
  go_wp2_with fail
  refine (played_any size regs HSZ.out HRG.out _ ds HRD.out HD.out m2).mono ?_
  rintro e w3 ⟨h1, H3, vo3, vn3, vr3, rfl, hl3, f3, g1, hb1, m3⟩
  obtain ⟨ob3, oc3, nb3, nc3, rb3, rc3, rfl, rfl, rfl⟩ := f3.shape6
  have F3 := Lib.hid f3; clear f3
  have G1 := Lib.hid g1; clear g1
  have HB1 := Lib.hid hb1; clear hb1
  have HL3 := Lib.hid hl3; clear hl3
  unfold HVal
  clear es m2
  have m4 := m3.alloc (.cells #[.int .i64 h1.size, .int .i64 h1.half, .int .i64 h1.scan, .bool h1.busy, .slice ob3 h1.old.length oc3, .slice nb3 h1.new.length nc3, .slice rb3 h1.regs.length rc3] 31)
  have es := m3.eqs
  simp only [EqsL] at es
  go_wp2_with fail
  refine (Copy_fr h1 G1.out.ok.hbd _ _ _ F3.out m4).mono ?_
  rintro e wa ⟨Ha, voa, vna, vra, rfl, hla, fa, ma⟩
  obtain ⟨oba, oca, nba, nca, rba, rca, rfl, rfl, rfl⟩ := fa.shape6
  unfold HVal
  clear es m3 m4
  have es := ma.eqs
  simp only [EqsL] at es
  go_wp2_with fail
  refine (LiveB_any _ h1 G1.out _ _ _ fa ma (Nat.le_refl _)).mono ?_
  rintro e wb ⟨rfl, mb1⟩
  have HLV := Lib.hid (show (h1.liveN (12000 * 401 + h1.regs.length) [] h1.regs).length = h1.liveC from rfl)
  rw [HLV.out]
  have hlv6 : h1.liveC ≤ 6000 := by
    have := live_new G1.out.ok HB1.out
    have := G1.out.ok.core.bounds.1
    omega
  have FIN := Lib.hid (FI.begin G1.out.ok HB1.out)
  have FDO := Lib.hid (fun (made : Nat) (h : HeapM) (f : FI h1 made h) (o : HOk h) => FI.do G1.out.ok HB1.out f o)
  have FFI := Lib.hid (fun (made : Nat) (h : HeapM) (f : FI h1 made h) (o : HOk h) => FI.fin G1.out.ok HB1.out f o)
  have FST := Lib.hid (fun (made : Nat) (h : HeapM) (f : FI h1 made h) (o : HOk h) => f.stepM G1.out.ok HB1.out 7000 o)
  generalize hlq : h1.liveC = lq at *
  have HLQ := Lib.hid hlq; clear hlq HLV
  clear es ma
  have es := mb1.eqs
  simp only [EqsL] at es
  go_wp2_with fail
  have hdb := do_begin HB1.out
  have F3a := Lib.hid (F3.out.mono hla)
  refine (Do_ok G1.out _ _ _ F3a.out mb1 dBegin _ _ (deedR_made Ha 8 0 0 0 0 ByteArray.empty (by decide) (by unfold I64; omega) (by unfold I64; omega) (by unfold I64; omega) (by decide) (by decide)) (by decide) (by rw [hdb])).mono ?_
  rw [hdb]
  clear hdb
  rintro e w5 ⟨H5, vo5, vn5, vr5, rfl, hl5, f5, m5⟩
  simp only at f5 ⊢
  have G2 := Lib.hid (show HGood h1.begin from ⟨G1.out.ok.begin HB1.out, Copies.begin G1.out.ok HB1.out⟩)
  generalize h1.begin = h2 at *
  obtain ⟨ob5, oc5, nb5, nc5, rb5, rc5, rfl, rfl, rfl⟩ := f5.shape6
  have F5 := Lib.hid f5; clear f5
  unfold HVal unitV ValM.v
  simp only [Int.natCast_zero]
  clear es mb1
  have es := m5.eqs
  simp only [EqsL] at es
  have ns := m5.nes
  simp only [NeL, NeFrom] at ns
  go_wp2_with fail
  have m6 := ((((((((m5.set (i := 0) (v := .int .i64 h2.size) .head).set (i := 1) (v := .int .i64 h2.half) .head).set (i := 2) (v := .int .i64 h2.scan) .head).set (i := 3) (v := .bool h2.busy) .head).set (i := 4) (v := .slice ob5 h2.old.length oc5) .head).set (i := 5) (v := .slice nb5 h2.new.length nc5) .head).set (i := 6) (v := .slice rb5 h2.regs.length rc5) .head)).alloc (.cells #[.int .u8 0, .int .i64 0, .string ByteArray.empty] 50)
  simp only [List.setIfInBounds_toArray, List.set_cons_zero, List.set_cons_succ] at m6
  have m7 := m6.drop
  clear es ns m5 m6
  have HL5 := Lib.hid ((HL3.out.trans hla).trans hl5); clear hl5 hla fa
  have HM5 := Lib.hid (HM.out.mono HL5.out)
  go_loopw [11, 12, 13, 14, 15] (fun v11 v12 _ _ _ wr => ∃ (k made : Nat) (h : HeapM) (H' : Hp) (ob : Option Addr) (oc : Nat) (nb : Option Addr) (nc : Nat) (rb : Option Addr) (rc : Nat), HGood h ∧ FI h1 made h ∧ made ≤ k ∧ k ≤ ls.length ∧ v12 = .int .i64 k ∧ v11 = .int .i64 made ∧ Hle H5 H' ∧ HFr H' h (.slice ob h.old.length oc) (.slice nb h.new.length nc) (.slice rb h.regs.length rc) ∧ Mem w0 H' ((w3.heap.size, .cells #[.int .i64 h.size, .int .i64 h.half, .int .i64 h.scan, .bool h.busy, .slice ob h.old.length oc, .slice nb h.new.length nc, .slice rb h.regs.length rc] 31) :: (w.heap.size, PBox size regs (.slice lb ds.length lc)) :: L) wr) (fun _ i _ _ _ _ => ls.length - (intOf i).toNat)
  case atStart => exact ⟨0, 0, h2, H5, ob5, oc5, nb5, nc5, rb5, rc5, G2.out, FIN.out, Nat.le_refl _, Nat.zero_le _, rfl, rfl, Hle.refl _, F5.out, m7⟩
  case round =>
    obtain ⟨k, made, h, Hk, ob, oc, nb, nc, rb, rc, hgd, hfi, hmk, hk, rfl, rfl, hle, hf, mk⟩ := hrel
    clear m7
    have HGD := Lib.hid hgd; clear hgd
    have HFI := Lib.hid hfi; clear hfi
    have HF := Lib.hid hf; clear hf
    have HLE := Lib.hid hle; clear hle
    have hbds := HGD.out.ok.hbd
    have es := mk.eqs
    simp only [EqsL] at es
    by_cases hlt : k < ls.length
    · have hltI : (k : Int) < ls.length := by omega
      cases hb : h.busy
      · have hbz := Lib.hid hb
        rw [hb] at es
        clear hb
        go_wp2_with fail
        clear es
        have hfi9 := Finish_any h HGD.out _ _ _ HF.out mk
        unfold HVal at hfi9
        rw [hbz.out] at hfi9
        refine hfi9.mono ?_
        clear hfi9
        rintro e w8 ⟨kf, h4, H8, vo8, vn8, vr8, hst, hbz8, hk6, rfl, hl8, f8, mE⟩
        have hfin := fin_of hst hbz8 (by omega)
        have hf9 := FST.out made h HFI.out HGD.out.ok
        have g4 := fin_good HGD.out
        unfold HeapM.fin at hfin g4
        rw [hfin] at hf9 g4
        have G4 := Lib.hid g4; clear g4
        have hn4 := hf9.idle hbz8
        have hl4 := live_new G4.out.ok hbz8
        have hnb := G4.out.ok.core.bounds.1
        rw [HLQ.out] at hn4
        clear hst hfin hf9 hbz8
        obtain ⟨ob8, oc8, nb8, nc8, rb8, rc8, rfl, rfl, rfl⟩ := f8.shape6
        have F8 := Lib.hid f8; clear f8
        unfold HVal
        clear mk
        have es := mE.eqs
        simp only [EqsL] at es
        have ns := mE.nes
        simp only [NeL, NeFrom] at ns
        go_wp2_with fail
        have mF := (((((((mE.set (i := 0) (v := .int .i64 h4.size) .head).set (i := 1) (v := .int .i64 h4.half) .head).set (i := 2) (v := .int .i64 h4.scan) .head).set (i := 3) (v := .bool h4.busy) .head).set (i := 4) (v := .slice ob8 h4.old.length oc8) .head).set (i := 5) (v := .slice nb8 h4.new.length nc8) .head).set (i := 6) (v := .slice rb8 h4.regs.length rc8) .head)
        simp only [List.setIfInBounds_toArray, List.set_cons_zero, List.set_cons_succ] at mF
        clear es ns mE
        refine (Copy_fr h4 G4.out.ok.hbd _ _ _ F8.out mF).mono ?_
        rintro e wc ⟨Hc, voc, vnc, vrc, rfl, hlc8, fc, mG⟩
        obtain ⟨obc, occ, nbc, ncc, rbc, rcc, rfl, rfl, rfl⟩ := fc.shape6
        unfold HVal
        have es := mG.eqs
        simp only [EqsL] at es
        go_wp2_with fail
        refine (LiveB_any _ h4 G4.out _ _ _ fc mG (Nat.le_refl _)).mono ?_
        rintro e wl ⟨rfl, mH⟩
        have HLC := Lib.hid (show (h4.liveN (12000 * 401 + h4.regs.length) [] h4.regs).length = h4.liveC from rfl)
        rw [HLC.out]
        generalize h4.liveC = lz at *
        clear es mG HLC
        have es := mH.eqs
        simp only [EqsL] at es
        have hc1 : (lz : Int) ≤ (h4.new.length : Int) := by omega
        have hwa : IntKind.i64.wrap ((lq : Int) + (made : Int)) = (lq : Int) + (made : Int) := wrap_i64s _ (by omega) (by omega)
        have hc2 : (h4.new.length : Int) ≤ (lq : Int) + (made : Int) := by omega
        go_wp2_with fail
        refine (awake_any mH).mono ?_
        rintro e w9 ⟨rfl, m9⟩
        go_wp2_with fail
        go_ret
        exact ⟨rfl, (m9.drop.drop).weaken (((HL5.out.trans HLE.out).trans hl8).trans hlc8)⟩
      · have HBB := Lib.hid hb
        rw [hb] at es
        clear hb
        have hgk : ls[k]? = some ls[k] := List.getElem?_eq_getElem hlt
        have hal := HALL.out _ (List.getElem_mem hlt)
        have hone := (HM5.out.mono HLE.out).one hgk
        have hkmc : k < mc := by omega
        obtain ⟨blk, off, lv, sv, rfl, hcell, hdr⟩ := HM5.out.getDeed hlt
        rw [sliceV_one _ _ _ _ _ hkmc] at hone
        have HONE := Lib.hid hone; clear hone
        have HCELL := Lib.hid hcell; clear hcell
        have HAL := Lib.hid hal; clear hal
        clear hgk hdr
        generalize ls[k] = d at *
        have c0 := ((HCELL.out 0 _ rfl).mono HLE.out).cell mk
        rw [Nat.add_zero] at c0
        have hki : IntKind.i64.wrap ((k : Int) + 1) = (k : Int) + 1 := wrap_i64s _ (by omega) (by omega)
        by_cases hk8 : d.kind = 8
        · have hk8I : ((d.kind : Int) == 8) = true := by rw [hk8]; rfl
          have HK8 := Lib.hid hk8; clear hk8
          go_wp2_with fail
          go_roundw
          case rel => exact ⟨k + 1, made, h, Hk, ob, oc, nb, nc, rb, rc, HGD.out, HFI.out, by omega, by omega, by go_num, rfl, HLE.out, HF.out, mk⟩
          case measure => simp [intOf]; omega
        · have hk8I : ((d.kind : Int) == 8) = false := beq_eq_false_iff_ne.2 (by omega)
          have HK8 := Lib.hid hk8; clear hk8
          go_wp2_with fail
          clear es c0
          have hfd := FDO.out made h HFI.out HGD.out.ok HBB.out d HK8.out
          have hgdo := HGD.out.do d
          have ho : outH (h.do d) = outH (h.do d) := rfl
          generalize hres : h.do d = r at *
          generalize hq : outH r = q at *
          generalize hx : outV r = x at *
          obtain ⟨rk, rn, rs⟩ := x
          clear ho
          have hqe : r.1 = 0 → q = r.2.2 := fun h0 => by rw [← hq]; unfold outH; rw [if_pos h0]
          have HQE := Lib.hid hqe; clear hqe
          have HFD := Lib.hid hfd; clear hfd
          have HGDO := Lib.hid hgdo; clear hgdo
          apply share21 (R := fun x7 x8 blk2 off2 cap2 lb2 lc2 sb2 sc2 ob3 oc3 nb3 nc3 rb3 rc3 ob5 oc5 nb5 nc5 rb5 rc5 W => ∃ H3, Hle Hk H3 ∧ HFr H3 q (.slice ob3 q.old.length oc3) (.slice nb3 q.new.length nc3) (.slice rb3 q.regs.length rc3) ∧ Mem w0 H3 ((w3.heap.size, .cells #[.int .i64 h.size, .int .i64 h.half, .int .i64 h.scan, .bool h.busy, .slice ob h.old.length oc, .slice nb h.new.length nc, .slice rb h.regs.length rc] 31) :: (w.heap.size, PBox size regs (.slice lb ds.length lc)) :: (x7, .cells #[.int .i64 q.size, .int .i64 q.half, .int .i64 q.scan, .bool q.busy, .slice ob3 q.old.length oc3, .slice nb3 q.new.length nc3, .slice rb3 q.regs.length rc3] 31) :: (x8, .cells #[.int .u8 rk, .int .i64 rn, .string rs] 50) :: L) W)
          case' br =>
            intro key
            have hwk : IntKind.i64.wrap ((k : Int) + 1) = (k : Int) + 1 := wrap_i64s _ (by omega) (by omega)
            have hlk1 : ¬ mc = k := by omega
            have hlk2 : (k : Int) + 1 ≤ (mc : Int) := by omega
            have hlk3 : ((k : Int) + 1).toNat = k + 1 := by omega
            have hlk4 : 0 ≤ (k : Int) + 1 := by omega
            have hlk5 : ¬ (k : Int) + 1 < 0 := by omega
            refine AnyFrom.start (fun w' => ∃ H' L', Hle Hk H' ∧ Mem w0 H' ((w3.heap.size, .cells #[.int .i64 h.size, .int .i64 h.half, .int .i64 h.scan, .bool h.busy, .slice ob h.old.length oc, .slice nb h.new.length nc, .slice rb h.regs.length rc] 31) :: (w.heap.size, PBox size regs (.slice lb ds.length lc)) :: L') w') 20 (by kernel_rfl) ?_
            have mW := mk.drew
            generalize World.drew _ = W at *
            have hs0 := Lib.hid (Hle.refl Hk)
            have hle0 := Hle.refl Hk
            refine AnyFrom.take (i := 0) (v := ?_) rfl (by kernel_rfl) (by kernel_rfl) (by kernel_rfl) (by kernel_rfl) (fun _ _ _ h => h) ⟨by kernel_rfl, ?_⟩ ⟨_, _, hs0.out, mW⟩ ?_
            rotate_left
            · first | (rintro w' ⟨H', L', hl', hm⟩; have es := hm.eqs; simp only [EqsL] at es; go_simp; done) | (rintro w' ⟨H', L', hl', hm⟩; have es := hm.eqs; simp only [EqsL] at es; go_simp; with_reducible rfl)
            simp only [Act.put, List.setIfInBounds_toArray, List.set_cons_zero, List.set_cons_succ, List.getElem_toArray, List.getElem_cons_succ, List.getElem_cons_zero]
            refine AnyFrom.pure (i := 2) (v := ?_) rfl (by kernel_rfl) (by kernel_rfl) (by kernel_rfl) (by decide) (fun _ _ _ h => h) ⟨by kernel_rfl, ?_⟩ ⟨_, _, hs0.out, mW⟩ ?_
            rotate_left
            · first | (intro w'; go_simp; done) | (intro w'; go_simp; with_reducible rfl)
            simp only [Act.put, List.setIfInBounds_toArray, List.set_cons_zero, List.set_cons_succ, List.getElem_toArray, List.getElem_cons_succ, List.getElem_cons_zero]
            refine AnyFrom.pure (i := 3) (v := ?_) rfl (by kernel_rfl) (by kernel_rfl) (by kernel_rfl) (by decide) (fun _ _ _ h => h) ⟨by kernel_rfl, ?_⟩ ⟨_, _, hs0.out, mW⟩ ?_
            rotate_left
            · first | (intro w'; go_simp; done) | (intro w'; go_simp; with_reducible rfl)
            simp only [Act.put, List.setIfInBounds_toArray, List.set_cons_zero, List.set_cons_succ, List.getElem_toArray, List.getElem_cons_succ, List.getElem_cons_zero]
            refine AnyFrom.pure (i := 4) (v := ?_) rfl (by kernel_rfl) (by kernel_rfl) (by kernel_rfl) (by decide) (fun _ _ _ h => h) ⟨by kernel_rfl, ?_⟩ ⟨_, _, hs0.out, mW⟩ ?_
            rotate_left
            · first | (intro w'; go_simp; done) | (intro w'; go_simp; with_reducible rfl)
            simp only [Act.put, List.setIfInBounds_toArray, List.set_cons_zero, List.set_cons_succ, List.getElem_toArray, List.getElem_cons_succ, List.getElem_cons_zero]
            refine AnyFrom.pure (i := 5) (v := ?_) rfl (by kernel_rfl) (by kernel_rfl) (by kernel_rfl) (by decide) (fun _ _ _ h => h) ⟨by kernel_rfl, ?_⟩ ⟨_, _, hs0.out, mW⟩ ?_
            rotate_left
            · first | (intro w'; go_simp; done) | (intro w'; go_simp; with_reducible rfl)
            simp only [Act.put, List.setIfInBounds_toArray, List.set_cons_zero, List.set_cons_succ, List.getElem_toArray, List.getElem_cons_succ, List.getElem_cons_zero]
            refine AnyFrom.pure (i := 6) (v := .slice (some ⟨blk, off + k * 12, none⟩) 1 (mc - k)) rfl (by kernel_rfl) (by kernel_rfl) (by kernel_rfl) (by decide) (fun _ _ _ h => h) ⟨by kernel_rfl, ?_⟩ ⟨_, _, hs0.out, mW⟩ ?_
            · first | (intro w'; go_simp; done) | (intro w'; go_simp; with_reducible rfl)
            simp only [Act.put, List.setIfInBounds_toArray, List.set_cons_zero, List.set_cons_succ, List.getElem_toArray, List.getElem_cons_succ, List.getElem_cons_zero]
            refine AnyFrom.three (i := 1) (j := 15) (l := 16) (by kernel_rfl) ?_ ?_ ?_
            ·
             refine AnyFrom.op rfl (by kernel_rfl) fun K hK => ?_
             go_simp
             refine (Copy_fr h hbds _ _ _ (HF.out.mono hle0) mW).mono ?_
             rintro e wc3 ⟨Hc2, vo5, vn5, vr5, rfl, hl4, f5, mC1⟩
             obtain ⟨ob5, oc5, nb5, nc5, rb5, rc5, rfl, rfl, rfl⟩ := f5.shape6
             have F5 := Lib.hid f5; clear f5
             unfold HVal
             have hs5 := Lib.hid (hs0.out.trans hl4)
             have hle6 := hle0.trans hl4
             refine hK _ _ (.inr ⟨_, _, hs5.out, mC1⟩) ?_
             clear hK K
             try simp only [Act.put, List.setIfInBounds_toArray, List.set_cons_zero, List.set_cons_succ, List.getElem_toArray, List.getElem_cons_succ, List.getElem_cons_zero]
             refine AnyFrom.three (i := 7) (j := 15) (l := 16) (by kernel_rfl) ?_ ?_ ?_
             ·
              refine AnyFrom.op rfl (by kernel_rfl) fun K hK => ?_
              go_simp
              refine (lawDeeds_any _ [d] (by simp) (fun d' hd' => by rw [List.mem_singleton] at hd'; rw [hd']; have := HAL.out; omega) (HONE.out.mono hle6) mC1).mono ?_
              rintro e wd9 ⟨Hd8, dv2, rfl, hl10, hdd, mD7⟩
              obtain ⟨db2, cap2, rfl⟩ := hdd.shape
              obtain ⟨blk2, off2, lvv, svv, rfl, hcell2, hdr2⟩ := hdd.getDeed (i := 0) (by simp)
              obtain ⟨lb2, lc2, rfl, -, -, -, -⟩ := hdr2.list
              obtain ⟨sb2, sc2, rfl, -, -, -, -⟩ := hdr2.slots
              rw [Nat.zero_mul, Nat.add_zero] at hcell2
              have CD := Lib.hid hcell2; clear hcell2 hdd
              have DR := Lib.hid (show DeedR Hd8 d _ _ from hdr2); clear hdr2
              have hs11 := Lib.hid (hs5.out.trans hl10)
              replace F5 := Lib.hid (F5.out.mono hl10)
              have hle12 := hle6.trans hl10
              refine hK _ _ (.inr ⟨_, _, hs11.out, mD7⟩) ?_
              clear hK K
              try simp only [Act.put, List.setIfInBounds_toArray, List.set_cons_zero, List.set_cons_succ, List.getElem_toArray, List.getElem_cons_succ, List.getElem_cons_zero]
              refine AnyFrom.stronger (S2 := fun w' => ∃ H' L', Hle Hd8 H' ∧ Mem w0 H' ((w3.heap.size, .cells #[.int .i64 h.size, .int .i64 h.half, .int .i64 h.scan, .bool h.busy, .slice ob h.old.length oc, .slice nb h.new.length nc, .slice rb h.regs.length rc] 31) :: (w.heap.size, PBox size regs (.slice lb ds.length lc)) :: L') w') (fun w' ⟨H', L', hl', hm⟩ => ⟨H', L', hs11.out.trans hl', hm⟩) _ ?_
              have hs13 := Lib.hid (Hle.refl Hd8)
              refine AnyFrom.take (i := 8) (v := ?_) rfl (by kernel_rfl) (by kernel_rfl) (by kernel_rfl) (by kernel_rfl) (fun _ _ _ h => h) ⟨by kernel_rfl, ?_⟩ ⟨_, _, hs13.out, mD7⟩ ?_
              rotate_left
              · first | (rintro w' ⟨H', L', hl', hm⟩; have es := hm.eqs; simp only [EqsL] at es; go_simp; done) | (rintro w' ⟨H', L', hl', hm⟩; have es := hm.eqs; simp only [EqsL] at es; go_simp; with_reducible rfl)
              simp only [Act.put, List.setIfInBounds_toArray, List.set_cons_zero, List.set_cons_succ, List.getElem_toArray, List.getElem_cons_succ, List.getElem_cons_zero]
              refine AnyFrom.take (i := 9) (v := ?_) rfl (by kernel_rfl) (by kernel_rfl) (by kernel_rfl) (by kernel_rfl) (fun _ _ _ h => h) ⟨by kernel_rfl, ?_⟩ ⟨_, _, hs13.out, mD7⟩ ?_
              rotate_left
              · first | (rintro w' ⟨H', L', hl', hm⟩; have es := hm.eqs; simp only [EqsL] at es; have q0 := ((CD.out 0 _ rfl).mono hl').cell hm; have q1 := ((CD.out 1 _ rfl).mono hl').cell hm; have q2 := ((CD.out 2 _ rfl).mono hl').cell hm; have q3 := ((CD.out 3 _ rfl).mono hl').cell hm; have q4 := ((CD.out 4 _ rfl).mono hl').cell hm; have q5 := ((CD.out 5 _ rfl).mono hl').cell hm; have q6 := ((CD.out 6 _ rfl).mono hl').cell hm; have q7 := ((CD.out 7 _ rfl).mono hl').cell hm; have q8 := ((CD.out 8 _ rfl).mono hl').cell hm; have q9 := ((CD.out 9 _ rfl).mono hl').cell hm; have q10 := ((CD.out 10 _ rfl).mono hl').cell hm; have q11 := ((CD.out 11 _ rfl).mono hl').cell hm; rw [Nat.add_zero] at q0; go_simp; done) | (rintro w' ⟨H', L', hl', hm⟩; have es := hm.eqs; simp only [EqsL] at es; have q0 := ((CD.out 0 _ rfl).mono hl').cell hm; have q1 := ((CD.out 1 _ rfl).mono hl').cell hm; have q2 := ((CD.out 2 _ rfl).mono hl').cell hm; have q3 := ((CD.out 3 _ rfl).mono hl').cell hm; have q4 := ((CD.out 4 _ rfl).mono hl').cell hm; have q5 := ((CD.out 5 _ rfl).mono hl').cell hm; have q6 := ((CD.out 6 _ rfl).mono hl').cell hm; have q7 := ((CD.out 7 _ rfl).mono hl').cell hm; have q8 := ((CD.out 8 _ rfl).mono hl').cell hm; have q9 := ((CD.out 9 _ rfl).mono hl').cell hm; have q10 := ((CD.out 10 _ rfl).mono hl').cell hm; have q11 := ((CD.out 11 _ rfl).mono hl').cell hm; rw [Nat.add_zero] at q0; go_simp; with_reducible rfl)
              simp only [Act.put, List.setIfInBounds_toArray, List.set_cons_zero, List.set_cons_succ, List.getElem_toArray, List.getElem_cons_succ, List.getElem_cons_zero]
              refine AnyFrom.three (i := 10) (j := 15) (l := 16) (by kernel_rfl) ?_ ?_ ?_
              ·
               refine AnyFrom.op rfl (by kernel_rfl) fun K hK => ?_
               go_simp
               refine (DoU_any h HGD.out _ _ _ F5.out mD7 d _ _ DR.out (by have := HAL.out; omega)).mono ?_
               rw [hres]
               rintro e wd16 ⟨Ho15, vo3, vn3, vr3, rfl, hl17, f3, mD14⟩
               rw [hq] at f3
               rw [hq, hx]
               obtain ⟨ob3, oc3, nb3, nc3, rb3, rc3, rfl, rfl, rfl⟩ := f3.shape6
               have F3 := Lib.hid f3; clear f3
               unfold HVal ValM.v
               have hs18 := Lib.hid (hs13.out.trans hl17)
               replace F5 := Lib.hid (F5.out.mono hl17)
               replace DR := Lib.hid (DR.out.mono hl17)
               have hle19 := hle12.trans hl17
               refine hK _ _ (.inr ⟨_, _, hs18.out, mD14⟩) ?_
               clear hK K
               try simp only [Act.put, List.setIfInBounds_toArray, List.set_cons_zero, List.set_cons_succ, List.getElem_toArray, List.getElem_cons_succ, List.getElem_cons_zero]
               refine AnyFrom.pure (i := 11) (v := ?_) rfl (by kernel_rfl) (by kernel_rfl) (by kernel_rfl) (by decide) (fun _ _ _ h => h) ⟨by kernel_rfl, ?_⟩ ⟨_, _, hs18.out, mD14⟩ ?_
               rotate_left
               · first | (intro w'; go_simp; done) | (intro w'; go_simp; with_reducible rfl)
               simp only [Act.put, List.setIfInBounds_toArray, List.set_cons_zero, List.set_cons_succ, List.getElem_toArray, List.getElem_cons_succ, List.getElem_cons_zero]
               refine AnyFrom.pure (i := 12) (v := ?_) rfl (by kernel_rfl) (by kernel_rfl) (by kernel_rfl) (by decide) (fun _ _ _ h => h) ⟨by kernel_rfl, ?_⟩ ⟨_, _, hs18.out, mD14⟩ ?_
               rotate_left
               · first | (intro w'; go_simp; done) | (intro w'; go_simp; with_reducible rfl)
               simp only [Act.put, List.setIfInBounds_toArray, List.set_cons_zero, List.set_cons_succ, List.getElem_toArray, List.getElem_cons_succ, List.getElem_cons_zero]
               refine AnyFrom.pure (i := 13) (v := ?_) rfl (by kernel_rfl) (by kernel_rfl) (by kernel_rfl) (by decide) (fun _ _ _ h => h) ⟨by kernel_rfl, ?_⟩ ⟨_, _, hs18.out, mD14⟩ ?_
               rotate_left
               · first | (intro w'; go_simp; done) | (intro w'; go_simp; with_reducible rfl)
               simp only [Act.put, List.setIfInBounds_toArray, List.set_cons_zero, List.set_cons_succ, List.getElem_toArray, List.getElem_cons_succ, List.getElem_cons_zero]
               refine AnyFrom.pure (i := 14) (v := ?_) rfl (by kernel_rfl) (by kernel_rfl) (by kernel_rfl) (by decide) (fun _ _ _ h => h) ⟨by kernel_rfl, ?_⟩ ⟨_, _, hs18.out, mD14⟩ ?_
               rotate_left
               · first | (intro w'; go_simp; done) | (intro w'; go_simp; with_reducible rfl)
               simp only [Act.put, List.setIfInBounds_toArray, List.set_cons_zero, List.set_cons_succ, List.getElem_toArray, List.getElem_cons_succ, List.getElem_cons_zero]
               refine AnyFrom.two (i := 15) (j := 16) (by kernel_rfl) ?_ ?_
               ·
                refine AnyFrom.op rfl (by kernel_rfl) fun K hK => ?_
                go_simp
                generalize hxo : World.alloc wd16 _ = wA21
                have mA20 : Mem w0 Ho15 ((wd16.heap.size, .cells #[.int .i64 0, .int .i64 0, .int .i64 0, .bool false, .slice none 0 0, .slice none 0 0, .slice none 0 0] 31) :: (w3.heap.size, .cells #[.int .i64 h.size, .int .i64 h.half, .int .i64 h.scan, .bool h.busy, .slice ob h.old.length oc, .slice nb h.new.length nc, .slice rb h.regs.length rc] 31) :: (w.heap.size, PBox size regs (.slice lb ds.length lc)) :: L) wA21 := by rw [← hxo]; exact mD14.alloc _
                obtain ⟨x7, hxk⟩ : ∃ k, k = wd16.heap.size := ⟨_, rfl⟩
                rw [← hxk] at mA20
                rw [← hxk]
                replace mA20 := mA20.perm (perm_fr2 _ _ _ _)
                clear hxk hxo
                refine hK _ _ (.inr ⟨_, _, hs18.out, mA20⟩) ?_
                clear hK K
                try simp only [Act.put, List.setIfInBounds_toArray, List.set_cons_zero, List.set_cons_succ, List.getElem_toArray, List.getElem_cons_succ, List.getElem_cons_zero]
                refine AnyFrom.call (i := 16) (by kernel_rfl) rfl (by kernel_rfl) fun K hK => ?_
                go_simp
                generalize hxo : World.alloc wA21 _ = wA23
                have mA22 : Mem w0 Ho15 ((wA21.heap.size, .cells #[.int .u8 0, .int .i64 0, .string ByteArray.empty] 50) :: (w3.heap.size, .cells #[.int .i64 h.size, .int .i64 h.half, .int .i64 h.scan, .bool h.busy, .slice ob h.old.length oc, .slice nb h.new.length nc, .slice rb h.regs.length rc] 31) :: (w.heap.size, PBox size regs (.slice lb ds.length lc)) :: (x7, .cells #[.int .i64 0, .int .i64 0, .int .i64 0, .bool false, .slice none 0 0, .slice none 0 0, .slice none 0 0] 31) :: L) wA23 := by rw [← hxo]; exact mA20.alloc _
                obtain ⟨x8, hxk⟩ : ∃ k, k = wA21.heap.size := ⟨_, rfl⟩
                rw [← hxk] at mA22
                rw [← hxk]
                replace mA22 := mA22.perm (perm_fr2 _ _ _ _)
                clear hxk hxo
                refine hK _ _ (.inr ⟨_, _, hs18.out, mA22⟩) ?_
                clear hK K
                try simp only [Act.put, List.setIfInBounds_toArray, List.set_cons_zero, List.set_cons_succ, List.getElem_toArray, List.getElem_cons_succ, List.getElem_cons_zero]
                refine AnyFrom.call (i := 17) (by kernel_rfl) rfl (by kernel_rfl) fun K hK => ?_
                have es := mA22.eqs
                simp only [EqsL] at es
                have ns := mA22.nes
                simp only [NeL, NeFrom] at ns
                go_simp
                have mS24 := (((((((mA22.set (i := 0) (v := .int .i64 q.size) (.tail (.tail (.tail .head)))).set (i := 1) (v := .int .i64 q.half) (.tail (.tail (.tail .head)))).set (i := 2) (v := .int .i64 q.scan) (.tail (.tail (.tail .head)))).set (i := 3) (v := .bool q.busy) (.tail (.tail (.tail .head)))).set (i := 4) (v := .slice ob3 q.old.length oc3) (.tail (.tail (.tail .head)))).set (i := 5) (v := .slice nb3 q.new.length nc3) (.tail (.tail (.tail .head)))).set (i := 6) (v := .slice rb3 q.regs.length rc3) (.tail (.tail (.tail .head))))
                simp only [List.setIfInBounds_toArray, List.set_cons_zero, List.set_cons_succ] at mS24
                generalize hwx : World.setCell _ _ _ = wS25
                rw [hwx] at mS24
                refine hK _ _ (.inr ⟨_, _, hs18.out, mS24⟩) ?_
                clear hK K
                try simp only [Act.put, List.setIfInBounds_toArray, List.set_cons_zero, List.set_cons_succ, List.getElem_toArray, List.getElem_cons_succ, List.getElem_cons_zero]
                clear es ns hwx
                refine AnyFrom.call (i := 18) (by kernel_rfl) rfl (by kernel_rfl) fun K hK => ?_
                have es := mS24.eqs
                simp only [EqsL] at es
                have ns := mS24.nes
                simp only [NeL, NeFrom] at ns
                go_simp
                have mS26 := (((mS24.set (i := 0) (v := .int .u8 rk) (.tail (.tail .head))).set (i := 1) (v := .int .i64 rn) (.tail (.tail .head))).set (i := 2) (v := .string rs) (.tail (.tail .head)))
                simp only [List.setIfInBounds_toArray, List.set_cons_zero, List.set_cons_succ] at mS26
                generalize hwx : World.setCell _ _ _ = wS27
                rw [hwx] at mS26
                refine hK _ _ (.inr ⟨_, _, hs18.out, mS26⟩) ?_
                clear hK K
                try simp only [Act.put, List.setIfInBounds_toArray, List.set_cons_zero, List.set_cons_succ, List.getElem_toArray, List.getElem_cons_succ, List.getElem_cons_zero]
                clear es ns hwx
                refine AnyFrom.pure (i := 19) (v := ?_) rfl (by kernel_rfl) (by kernel_rfl) (by kernel_rfl) (by decide) (fun _ _ _ h => h) ⟨by kernel_rfl, ?_⟩ ⟨_, _, hs18.out, mS26⟩ ?_
                rotate_left
                · first | (intro w'; go_simp; done) | (intro w'; go_simp; with_reducible rfl)
                simp only [Act.put, List.setIfInBounds_toArray, List.set_cons_zero, List.set_cons_succ, List.getElem_toArray, List.getElem_cons_succ, List.getElem_cons_zero]
                refine AnyFrom.done (by kernel_rfl) ?_ _
                exact key x7 x8 blk2 off2 cap2 lb2 lc2 sb2 sc2 ob3 oc3 nb3 nc3 rb3 rc3 ob5 oc5 nb5 nc5 rb5 rc5 _ ⟨Ho15, hle19, F3.out, (mS26.perm (perm_sw2 _ _ _ _ _))⟩
               ·
                refine AnyFrom.op rfl (by kernel_rfl) fun K hK => ?_
                go_simp
                generalize hxo : World.alloc wd16 _ = wA29
                have mA28 : Mem w0 Ho15 ((wd16.heap.size, .cells #[.int .u8 0, .int .i64 0, .string ByteArray.empty] 50) :: (w3.heap.size, .cells #[.int .i64 h.size, .int .i64 h.half, .int .i64 h.scan, .bool h.busy, .slice ob h.old.length oc, .slice nb h.new.length nc, .slice rb h.regs.length rc] 31) :: (w.heap.size, PBox size regs (.slice lb ds.length lc)) :: L) wA29 := by rw [← hxo]; exact mD14.alloc _
                obtain ⟨x8, hxk⟩ : ∃ k, k = wd16.heap.size := ⟨_, rfl⟩
                rw [← hxk] at mA28
                rw [← hxk]
                replace mA28 := mA28.perm (perm_fr2 _ _ _ _)
                clear hxk hxo
                refine hK _ _ (.inr ⟨_, _, hs18.out, mA28⟩) ?_
                clear hK K
                try simp only [Act.put, List.setIfInBounds_toArray, List.set_cons_zero, List.set_cons_succ, List.getElem_toArray, List.getElem_cons_succ, List.getElem_cons_zero]
                refine AnyFrom.call (i := 15) (by kernel_rfl) rfl (by kernel_rfl) fun K hK => ?_
                go_simp
                generalize hxo : World.alloc wA29 _ = wA31
                have mA30 : Mem w0 Ho15 ((wA29.heap.size, .cells #[.int .i64 0, .int .i64 0, .int .i64 0, .bool false, .slice none 0 0, .slice none 0 0, .slice none 0 0] 31) :: (w3.heap.size, .cells #[.int .i64 h.size, .int .i64 h.half, .int .i64 h.scan, .bool h.busy, .slice ob h.old.length oc, .slice nb h.new.length nc, .slice rb h.regs.length rc] 31) :: (w.heap.size, PBox size regs (.slice lb ds.length lc)) :: (x8, .cells #[.int .u8 0, .int .i64 0, .string ByteArray.empty] 50) :: L) wA31 := by rw [← hxo]; exact mA28.alloc _
                obtain ⟨x7, hxk⟩ : ∃ k, k = wA29.heap.size := ⟨_, rfl⟩
                rw [← hxk] at mA30
                rw [← hxk]
                replace mA30 := mA30.perm (perm_fr2 _ _ _ _)
                clear hxk hxo
                refine hK _ _ (.inr ⟨_, _, hs18.out, mA30⟩) ?_
                clear hK K
                try simp only [Act.put, List.setIfInBounds_toArray, List.set_cons_zero, List.set_cons_succ, List.getElem_toArray, List.getElem_cons_succ, List.getElem_cons_zero]
                refine AnyFrom.call (i := 17) (by kernel_rfl) rfl (by kernel_rfl) fun K hK => ?_
                have es := mA30.eqs
                simp only [EqsL] at es
                have ns := mA30.nes
                simp only [NeL, NeFrom] at ns
                go_simp
                have mS32 := (((((((mA30.set (i := 0) (v := .int .i64 q.size) (.tail (.tail .head))).set (i := 1) (v := .int .i64 q.half) (.tail (.tail .head))).set (i := 2) (v := .int .i64 q.scan) (.tail (.tail .head))).set (i := 3) (v := .bool q.busy) (.tail (.tail .head))).set (i := 4) (v := .slice ob3 q.old.length oc3) (.tail (.tail .head))).set (i := 5) (v := .slice nb3 q.new.length nc3) (.tail (.tail .head))).set (i := 6) (v := .slice rb3 q.regs.length rc3) (.tail (.tail .head)))
                simp only [List.setIfInBounds_toArray, List.set_cons_zero, List.set_cons_succ] at mS32
                generalize hwx : World.setCell _ _ _ = wS33
                rw [hwx] at mS32
                refine hK _ _ (.inr ⟨_, _, hs18.out, mS32⟩) ?_
                clear hK K
                try simp only [Act.put, List.setIfInBounds_toArray, List.set_cons_zero, List.set_cons_succ, List.getElem_toArray, List.getElem_cons_succ, List.getElem_cons_zero]
                clear es ns hwx
                refine AnyFrom.call (i := 18) (by kernel_rfl) rfl (by kernel_rfl) fun K hK => ?_
                have es := mS32.eqs
                simp only [EqsL] at es
                have ns := mS32.nes
                simp only [NeL, NeFrom] at ns
                go_simp
                have mS34 := (((mS32.set (i := 0) (v := .int .u8 rk) (.tail (.tail (.tail .head)))).set (i := 1) (v := .int .i64 rn) (.tail (.tail (.tail .head)))).set (i := 2) (v := .string rs) (.tail (.tail (.tail .head))))
                simp only [List.setIfInBounds_toArray, List.set_cons_zero, List.set_cons_succ] at mS34
                generalize hwx : World.setCell _ _ _ = wS35
                rw [hwx] at mS34
                refine hK _ _ (.inr ⟨_, _, hs18.out, mS34⟩) ?_
                clear hK K
                try simp only [Act.put, List.setIfInBounds_toArray, List.set_cons_zero, List.set_cons_succ, List.getElem_toArray, List.getElem_cons_succ, List.getElem_cons_zero]
                clear es ns hwx
                refine AnyFrom.pure (i := 19) (v := ?_) rfl (by kernel_rfl) (by kernel_rfl) (by kernel_rfl) (by decide) (fun _ _ _ h => h) ⟨by kernel_rfl, ?_⟩ ⟨_, _, hs18.out, mS34⟩ ?_
                rotate_left
                · first | (intro w'; go_simp; done) | (intro w'; go_simp; with_reducible rfl)
                simp only [Act.put, List.setIfInBounds_toArray, List.set_cons_zero, List.set_cons_succ, List.getElem_toArray, List.getElem_cons_succ, List.getElem_cons_zero]
                refine AnyFrom.done (by kernel_rfl) ?_ _
                exact key x7 x8 blk2 off2 cap2 lb2 lc2 sb2 sc2 ob3 oc3 nb3 nc3 rb3 rc3 ob5 oc5 nb5 nc5 rb5 rc5 _ ⟨Ho15, hle19, F3.out, mS34⟩
              ·
               refine AnyFrom.op rfl (by kernel_rfl) fun K hK => ?_
               go_simp
               generalize hxo : World.alloc wd9 _ = wA37
               have mA36 : Mem w0 Hd8 ((wd9.heap.size, .cells #[.int .i64 0, .int .i64 0, .int .i64 0, .bool false, .slice none 0 0, .slice none 0 0, .slice none 0 0] 31) :: (w3.heap.size, .cells #[.int .i64 h.size, .int .i64 h.half, .int .i64 h.scan, .bool h.busy, .slice ob h.old.length oc, .slice nb h.new.length nc, .slice rb h.regs.length rc] 31) :: (w.heap.size, PBox size regs (.slice lb ds.length lc)) :: L) wA37 := by rw [← hxo]; exact mD7.alloc _
               obtain ⟨x7, hxk⟩ : ∃ k, k = wd9.heap.size := ⟨_, rfl⟩
               rw [← hxk] at mA36
               rw [← hxk]
               replace mA36 := mA36.perm (perm_fr2 _ _ _ _)
               clear hxk hxo
               refine hK _ _ (.inr ⟨_, _, hs13.out, mA36⟩) ?_
               clear hK K
               try simp only [Act.put, List.setIfInBounds_toArray, List.set_cons_zero, List.set_cons_succ, List.getElem_toArray, List.getElem_cons_succ, List.getElem_cons_zero]
               refine AnyFrom.two (i := 10) (j := 16) (by kernel_rfl) ?_ ?_
               ·
                refine AnyFrom.op rfl (by kernel_rfl) fun K hK => ?_
                go_simp
                refine (DoU_any h HGD.out _ _ _ F5.out mA36 d _ _ DR.out (by have := HAL.out; omega)).mono ?_
                rw [hres]
                rintro e wd40 ⟨Ho39, vo3, vn3, vr3, rfl, hl41, f3, mD38⟩
                rw [hq] at f3
                rw [hq, hx]
                obtain ⟨ob3, oc3, nb3, nc3, rb3, rc3, rfl, rfl, rfl⟩ := f3.shape6
                have F3 := Lib.hid f3; clear f3
                unfold HVal ValM.v
                have hs42 := Lib.hid (hs13.out.trans hl41)
                replace F5 := Lib.hid (F5.out.mono hl41)
                replace DR := Lib.hid (DR.out.mono hl41)
                have hle43 := hle12.trans hl41
                refine hK _ _ (.inr ⟨_, _, hs42.out, mD38⟩) ?_
                clear hK K
                try simp only [Act.put, List.setIfInBounds_toArray, List.set_cons_zero, List.set_cons_succ, List.getElem_toArray, List.getElem_cons_succ, List.getElem_cons_zero]
                refine AnyFrom.pure (i := 11) (v := ?_) rfl (by kernel_rfl) (by kernel_rfl) (by kernel_rfl) (by decide) (fun _ _ _ h => h) ⟨by kernel_rfl, ?_⟩ ⟨_, _, hs42.out, mD38⟩ ?_
                rotate_left
                · first | (intro w'; go_simp; done) | (intro w'; go_simp; with_reducible rfl)
                simp only [Act.put, List.setIfInBounds_toArray, List.set_cons_zero, List.set_cons_succ, List.getElem_toArray, List.getElem_cons_succ, List.getElem_cons_zero]
                refine AnyFrom.pure (i := 12) (v := ?_) rfl (by kernel_rfl) (by kernel_rfl) (by kernel_rfl) (by decide) (fun _ _ _ h => h) ⟨by kernel_rfl, ?_⟩ ⟨_, _, hs42.out, mD38⟩ ?_
                rotate_left
                · first | (intro w'; go_simp; done) | (intro w'; go_simp; with_reducible rfl)
                simp only [Act.put, List.setIfInBounds_toArray, List.set_cons_zero, List.set_cons_succ, List.getElem_toArray, List.getElem_cons_succ, List.getElem_cons_zero]
                refine AnyFrom.pure (i := 13) (v := ?_) rfl (by kernel_rfl) (by kernel_rfl) (by kernel_rfl) (by decide) (fun _ _ _ h => h) ⟨by kernel_rfl, ?_⟩ ⟨_, _, hs42.out, mD38⟩ ?_
                rotate_left
                · first | (intro w'; go_simp; done) | (intro w'; go_simp; with_reducible rfl)
                simp only [Act.put, List.setIfInBounds_toArray, List.set_cons_zero, List.set_cons_succ, List.getElem_toArray, List.getElem_cons_succ, List.getElem_cons_zero]
                refine AnyFrom.pure (i := 14) (v := ?_) rfl (by kernel_rfl) (by kernel_rfl) (by kernel_rfl) (by decide) (fun _ _ _ h => h) ⟨by kernel_rfl, ?_⟩ ⟨_, _, hs42.out, mD38⟩ ?_
                rotate_left
                · first | (intro w'; go_simp; done) | (intro w'; go_simp; with_reducible rfl)
                simp only [Act.put, List.setIfInBounds_toArray, List.set_cons_zero, List.set_cons_succ, List.getElem_toArray, List.getElem_cons_succ, List.getElem_cons_zero]
                refine AnyFrom.call (i := 16) (by kernel_rfl) rfl (by kernel_rfl) fun K hK => ?_
                go_simp
                generalize hxo : World.alloc wd40 _ = wA45
                have mA44 : Mem w0 Ho39 ((wd40.heap.size, .cells #[.int .u8 0, .int .i64 0, .string ByteArray.empty] 50) :: (w3.heap.size, .cells #[.int .i64 h.size, .int .i64 h.half, .int .i64 h.scan, .bool h.busy, .slice ob h.old.length oc, .slice nb h.new.length nc, .slice rb h.regs.length rc] 31) :: (w.heap.size, PBox size regs (.slice lb ds.length lc)) :: (x7, .cells #[.int .i64 0, .int .i64 0, .int .i64 0, .bool false, .slice none 0 0, .slice none 0 0, .slice none 0 0] 31) :: L) wA45 := by rw [← hxo]; exact mD38.alloc _
                obtain ⟨x8, hxk⟩ : ∃ k, k = wd40.heap.size := ⟨_, rfl⟩
                rw [← hxk] at mA44
                rw [← hxk]
                replace mA44 := mA44.perm (perm_fr2 _ _ _ _)
                clear hxk hxo
                refine hK _ _ (.inr ⟨_, _, hs42.out, mA44⟩) ?_
                clear hK K
                try simp only [Act.put, List.setIfInBounds_toArray, List.set_cons_zero, List.set_cons_succ, List.getElem_toArray, List.getElem_cons_succ, List.getElem_cons_zero]
                refine AnyFrom.call (i := 17) (by kernel_rfl) rfl (by kernel_rfl) fun K hK => ?_
                have es := mA44.eqs
                simp only [EqsL] at es
                have ns := mA44.nes
                simp only [NeL, NeFrom] at ns
                go_simp
                have mS46 := (((((((mA44.set (i := 0) (v := .int .i64 q.size) (.tail (.tail (.tail .head)))).set (i := 1) (v := .int .i64 q.half) (.tail (.tail (.tail .head)))).set (i := 2) (v := .int .i64 q.scan) (.tail (.tail (.tail .head)))).set (i := 3) (v := .bool q.busy) (.tail (.tail (.tail .head)))).set (i := 4) (v := .slice ob3 q.old.length oc3) (.tail (.tail (.tail .head)))).set (i := 5) (v := .slice nb3 q.new.length nc3) (.tail (.tail (.tail .head)))).set (i := 6) (v := .slice rb3 q.regs.length rc3) (.tail (.tail (.tail .head))))
                simp only [List.setIfInBounds_toArray, List.set_cons_zero, List.set_cons_succ] at mS46
                generalize hwx : World.setCell _ _ _ = wS47
                rw [hwx] at mS46
                refine hK _ _ (.inr ⟨_, _, hs42.out, mS46⟩) ?_
                clear hK K
                try simp only [Act.put, List.setIfInBounds_toArray, List.set_cons_zero, List.set_cons_succ, List.getElem_toArray, List.getElem_cons_succ, List.getElem_cons_zero]
                clear es ns hwx
                refine AnyFrom.call (i := 18) (by kernel_rfl) rfl (by kernel_rfl) fun K hK => ?_
                have es := mS46.eqs
                simp only [EqsL] at es
                have ns := mS46.nes
                simp only [NeL, NeFrom] at ns
                go_simp
                have mS48 := (((mS46.set (i := 0) (v := .int .u8 rk) (.tail (.tail .head))).set (i := 1) (v := .int .i64 rn) (.tail (.tail .head))).set (i := 2) (v := .string rs) (.tail (.tail .head)))
                simp only [List.setIfInBounds_toArray, List.set_cons_zero, List.set_cons_succ] at mS48
                generalize hwx : World.setCell _ _ _ = wS49
                rw [hwx] at mS48
                refine hK _ _ (.inr ⟨_, _, hs42.out, mS48⟩) ?_
                clear hK K
                try simp only [Act.put, List.setIfInBounds_toArray, List.set_cons_zero, List.set_cons_succ, List.getElem_toArray, List.getElem_cons_succ, List.getElem_cons_zero]
                clear es ns hwx
                refine AnyFrom.pure (i := 19) (v := ?_) rfl (by kernel_rfl) (by kernel_rfl) (by kernel_rfl) (by decide) (fun _ _ _ h => h) ⟨by kernel_rfl, ?_⟩ ⟨_, _, hs42.out, mS48⟩ ?_
                rotate_left
                · first | (intro w'; go_simp; done) | (intro w'; go_simp; with_reducible rfl)
                simp only [Act.put, List.setIfInBounds_toArray, List.set_cons_zero, List.set_cons_succ, List.getElem_toArray, List.getElem_cons_succ, List.getElem_cons_zero]
                refine AnyFrom.done (by kernel_rfl) ?_ _
                exact key x7 x8 blk2 off2 cap2 lb2 lc2 sb2 sc2 ob3 oc3 nb3 nc3 rb3 rc3 ob5 oc5 nb5 nc5 rb5 rc5 _ ⟨Ho39, hle43, F3.out, (mS48.perm (perm_sw2 _ _ _ _ _))⟩
               ·
                refine AnyFrom.op rfl (by kernel_rfl) fun K hK => ?_
                go_simp
                generalize hxo : World.alloc wA37 _ = wA51
                have mA50 : Mem w0 Hd8 ((wA37.heap.size, .cells #[.int .u8 0, .int .i64 0, .string ByteArray.empty] 50) :: (w3.heap.size, .cells #[.int .i64 h.size, .int .i64 h.half, .int .i64 h.scan, .bool h.busy, .slice ob h.old.length oc, .slice nb h.new.length nc, .slice rb h.regs.length rc] 31) :: (w.heap.size, PBox size regs (.slice lb ds.length lc)) :: (x7, .cells #[.int .i64 0, .int .i64 0, .int .i64 0, .bool false, .slice none 0 0, .slice none 0 0, .slice none 0 0] 31) :: L) wA51 := by rw [← hxo]; exact mA36.alloc _
                obtain ⟨x8, hxk⟩ : ∃ k, k = wA37.heap.size := ⟨_, rfl⟩
                rw [← hxk] at mA50
                rw [← hxk]
                replace mA50 := mA50.perm (perm_fr2 _ _ _ _)
                clear hxk hxo
                refine hK _ _ (.inr ⟨_, _, hs13.out, mA50⟩) ?_
                clear hK K
                try simp only [Act.put, List.setIfInBounds_toArray, List.set_cons_zero, List.set_cons_succ, List.getElem_toArray, List.getElem_cons_succ, List.getElem_cons_zero]
                refine AnyFrom.call (i := 10) (by kernel_rfl) rfl (by kernel_rfl) fun K hK => ?_
                go_simp
                refine (DoU_any h HGD.out _ _ _ F5.out mA50 d _ _ DR.out (by have := HAL.out; omega)).mono ?_
                rw [hres]
                rintro e wd54 ⟨Ho53, vo3, vn3, vr3, rfl, hl55, f3, mD52⟩
                rw [hq] at f3
                rw [hq, hx]
                obtain ⟨ob3, oc3, nb3, nc3, rb3, rc3, rfl, rfl, rfl⟩ := f3.shape6
                have F3 := Lib.hid f3; clear f3
                unfold HVal ValM.v
                have hs56 := Lib.hid (hs13.out.trans hl55)
                replace F5 := Lib.hid (F5.out.mono hl55)
                replace DR := Lib.hid (DR.out.mono hl55)
                have hle57 := hle12.trans hl55
                refine hK _ _ (.inr ⟨_, _, hs56.out, mD52⟩) ?_
                clear hK K
                try simp only [Act.put, List.setIfInBounds_toArray, List.set_cons_zero, List.set_cons_succ, List.getElem_toArray, List.getElem_cons_succ, List.getElem_cons_zero]
                refine AnyFrom.pure (i := 11) (v := ?_) rfl (by kernel_rfl) (by kernel_rfl) (by kernel_rfl) (by decide) (fun _ _ _ h => h) ⟨by kernel_rfl, ?_⟩ ⟨_, _, hs56.out, mD52⟩ ?_
                rotate_left
                · first | (intro w'; go_simp; done) | (intro w'; go_simp; with_reducible rfl)
                simp only [Act.put, List.setIfInBounds_toArray, List.set_cons_zero, List.set_cons_succ, List.getElem_toArray, List.getElem_cons_succ, List.getElem_cons_zero]
                refine AnyFrom.pure (i := 12) (v := ?_) rfl (by kernel_rfl) (by kernel_rfl) (by kernel_rfl) (by decide) (fun _ _ _ h => h) ⟨by kernel_rfl, ?_⟩ ⟨_, _, hs56.out, mD52⟩ ?_
                rotate_left
                · first | (intro w'; go_simp; done) | (intro w'; go_simp; with_reducible rfl)
                simp only [Act.put, List.setIfInBounds_toArray, List.set_cons_zero, List.set_cons_succ, List.getElem_toArray, List.getElem_cons_succ, List.getElem_cons_zero]
                refine AnyFrom.pure (i := 13) (v := ?_) rfl (by kernel_rfl) (by kernel_rfl) (by kernel_rfl) (by decide) (fun _ _ _ h => h) ⟨by kernel_rfl, ?_⟩ ⟨_, _, hs56.out, mD52⟩ ?_
                rotate_left
                · first | (intro w'; go_simp; done) | (intro w'; go_simp; with_reducible rfl)
                simp only [Act.put, List.setIfInBounds_toArray, List.set_cons_zero, List.set_cons_succ, List.getElem_toArray, List.getElem_cons_succ, List.getElem_cons_zero]
                refine AnyFrom.pure (i := 14) (v := ?_) rfl (by kernel_rfl) (by kernel_rfl) (by kernel_rfl) (by decide) (fun _ _ _ h => h) ⟨by kernel_rfl, ?_⟩ ⟨_, _, hs56.out, mD52⟩ ?_
                rotate_left
                · first | (intro w'; go_simp; done) | (intro w'; go_simp; with_reducible rfl)
                simp only [Act.put, List.setIfInBounds_toArray, List.set_cons_zero, List.set_cons_succ, List.getElem_toArray, List.getElem_cons_succ, List.getElem_cons_zero]
                refine AnyFrom.call (i := 17) (by kernel_rfl) rfl (by kernel_rfl) fun K hK => ?_
                have es := mD52.eqs
                simp only [EqsL] at es
                have ns := mD52.nes
                simp only [NeL, NeFrom] at ns
                go_simp
                have mS58 := (((((((mD52.set (i := 0) (v := .int .i64 q.size) (.tail (.tail (.tail .head)))).set (i := 1) (v := .int .i64 q.half) (.tail (.tail (.tail .head)))).set (i := 2) (v := .int .i64 q.scan) (.tail (.tail (.tail .head)))).set (i := 3) (v := .bool q.busy) (.tail (.tail (.tail .head)))).set (i := 4) (v := .slice ob3 q.old.length oc3) (.tail (.tail (.tail .head)))).set (i := 5) (v := .slice nb3 q.new.length nc3) (.tail (.tail (.tail .head)))).set (i := 6) (v := .slice rb3 q.regs.length rc3) (.tail (.tail (.tail .head))))
                simp only [List.setIfInBounds_toArray, List.set_cons_zero, List.set_cons_succ] at mS58
                generalize hwx : World.setCell _ _ _ = wS59
                rw [hwx] at mS58
                refine hK _ _ (.inr ⟨_, _, hs56.out, mS58⟩) ?_
                clear hK K
                try simp only [Act.put, List.setIfInBounds_toArray, List.set_cons_zero, List.set_cons_succ, List.getElem_toArray, List.getElem_cons_succ, List.getElem_cons_zero]
                clear es ns hwx
                refine AnyFrom.call (i := 18) (by kernel_rfl) rfl (by kernel_rfl) fun K hK => ?_
                have es := mS58.eqs
                simp only [EqsL] at es
                have ns := mS58.nes
                simp only [NeL, NeFrom] at ns
                go_simp
                have mS60 := (((mS58.set (i := 0) (v := .int .u8 rk) (.tail (.tail .head))).set (i := 1) (v := .int .i64 rn) (.tail (.tail .head))).set (i := 2) (v := .string rs) (.tail (.tail .head)))
                simp only [List.setIfInBounds_toArray, List.set_cons_zero, List.set_cons_succ] at mS60
                generalize hwx : World.setCell _ _ _ = wS61
                rw [hwx] at mS60
                refine hK _ _ (.inr ⟨_, _, hs56.out, mS60⟩) ?_
                clear hK K
                try simp only [Act.put, List.setIfInBounds_toArray, List.set_cons_zero, List.set_cons_succ, List.getElem_toArray, List.getElem_cons_succ, List.getElem_cons_zero]
                clear es ns hwx
                refine AnyFrom.pure (i := 19) (v := ?_) rfl (by kernel_rfl) (by kernel_rfl) (by kernel_rfl) (by decide) (fun _ _ _ h => h) ⟨by kernel_rfl, ?_⟩ ⟨_, _, hs56.out, mS60⟩ ?_
                rotate_left
                · first | (intro w'; go_simp; done) | (intro w'; go_simp; with_reducible rfl)
                simp only [Act.put, List.setIfInBounds_toArray, List.set_cons_zero, List.set_cons_succ, List.getElem_toArray, List.getElem_cons_succ, List.getElem_cons_zero]
                refine AnyFrom.done (by kernel_rfl) ?_ _
                exact key x7 x8 blk2 off2 cap2 lb2 lc2 sb2 sc2 ob3 oc3 nb3 nc3 rb3 rc3 ob5 oc5 nb5 nc5 rb5 rc5 _ ⟨Ho53, hle57, F3.out, (mS60.perm (perm_sw2 _ _ _ _ _))⟩
              ·
               refine AnyFrom.op rfl (by kernel_rfl) fun K hK => ?_
               go_simp
               generalize hxo : World.alloc wd9 _ = wA63
               have mA62 : Mem w0 Hd8 ((wd9.heap.size, .cells #[.int .u8 0, .int .i64 0, .string ByteArray.empty] 50) :: (w3.heap.size, .cells #[.int .i64 h.size, .int .i64 h.half, .int .i64 h.scan, .bool h.busy, .slice ob h.old.length oc, .slice nb h.new.length nc, .slice rb h.regs.length rc] 31) :: (w.heap.size, PBox size regs (.slice lb ds.length lc)) :: L) wA63 := by rw [← hxo]; exact mD7.alloc _
               obtain ⟨x8, hxk⟩ : ∃ k, k = wd9.heap.size := ⟨_, rfl⟩
               rw [← hxk] at mA62
               rw [← hxk]
               replace mA62 := mA62.perm (perm_fr2 _ _ _ _)
               clear hxk hxo
               refine hK _ _ (.inr ⟨_, _, hs13.out, mA62⟩) ?_
               clear hK K
               try simp only [Act.put, List.setIfInBounds_toArray, List.set_cons_zero, List.set_cons_succ, List.getElem_toArray, List.getElem_cons_succ, List.getElem_cons_zero]
               refine AnyFrom.two (i := 10) (j := 15) (by kernel_rfl) ?_ ?_
               ·
                refine AnyFrom.op rfl (by kernel_rfl) fun K hK => ?_
                go_simp
                refine (DoU_any h HGD.out _ _ _ F5.out mA62 d _ _ DR.out (by have := HAL.out; omega)).mono ?_
                rw [hres]
                rintro e wd66 ⟨Ho65, vo3, vn3, vr3, rfl, hl67, f3, mD64⟩
                rw [hq] at f3
                rw [hq, hx]
                obtain ⟨ob3, oc3, nb3, nc3, rb3, rc3, rfl, rfl, rfl⟩ := f3.shape6
                have F3 := Lib.hid f3; clear f3
                unfold HVal ValM.v
                have hs68 := Lib.hid (hs13.out.trans hl67)
                replace F5 := Lib.hid (F5.out.mono hl67)
                replace DR := Lib.hid (DR.out.mono hl67)
                have hle69 := hle12.trans hl67
                refine hK _ _ (.inr ⟨_, _, hs68.out, mD64⟩) ?_
                clear hK K
                try simp only [Act.put, List.setIfInBounds_toArray, List.set_cons_zero, List.set_cons_succ, List.getElem_toArray, List.getElem_cons_succ, List.getElem_cons_zero]
                refine AnyFrom.pure (i := 11) (v := ?_) rfl (by kernel_rfl) (by kernel_rfl) (by kernel_rfl) (by decide) (fun _ _ _ h => h) ⟨by kernel_rfl, ?_⟩ ⟨_, _, hs68.out, mD64⟩ ?_
                rotate_left
                · first | (intro w'; go_simp; done) | (intro w'; go_simp; with_reducible rfl)
                simp only [Act.put, List.setIfInBounds_toArray, List.set_cons_zero, List.set_cons_succ, List.getElem_toArray, List.getElem_cons_succ, List.getElem_cons_zero]
                refine AnyFrom.pure (i := 12) (v := ?_) rfl (by kernel_rfl) (by kernel_rfl) (by kernel_rfl) (by decide) (fun _ _ _ h => h) ⟨by kernel_rfl, ?_⟩ ⟨_, _, hs68.out, mD64⟩ ?_
                rotate_left
                · first | (intro w'; go_simp; done) | (intro w'; go_simp; with_reducible rfl)
                simp only [Act.put, List.setIfInBounds_toArray, List.set_cons_zero, List.set_cons_succ, List.getElem_toArray, List.getElem_cons_succ, List.getElem_cons_zero]
                refine AnyFrom.pure (i := 13) (v := ?_) rfl (by kernel_rfl) (by kernel_rfl) (by kernel_rfl) (by decide) (fun _ _ _ h => h) ⟨by kernel_rfl, ?_⟩ ⟨_, _, hs68.out, mD64⟩ ?_
                rotate_left
                · first | (intro w'; go_simp; done) | (intro w'; go_simp; with_reducible rfl)
                simp only [Act.put, List.setIfInBounds_toArray, List.set_cons_zero, List.set_cons_succ, List.getElem_toArray, List.getElem_cons_succ, List.getElem_cons_zero]
                refine AnyFrom.pure (i := 14) (v := ?_) rfl (by kernel_rfl) (by kernel_rfl) (by kernel_rfl) (by decide) (fun _ _ _ h => h) ⟨by kernel_rfl, ?_⟩ ⟨_, _, hs68.out, mD64⟩ ?_
                rotate_left
                · first | (intro w'; go_simp; done) | (intro w'; go_simp; with_reducible rfl)
                simp only [Act.put, List.setIfInBounds_toArray, List.set_cons_zero, List.set_cons_succ, List.getElem_toArray, List.getElem_cons_succ, List.getElem_cons_zero]
                refine AnyFrom.call (i := 15) (by kernel_rfl) rfl (by kernel_rfl) fun K hK => ?_
                go_simp
                generalize hxo : World.alloc wd66 _ = wA71
                have mA70 : Mem w0 Ho65 ((wd66.heap.size, .cells #[.int .i64 0, .int .i64 0, .int .i64 0, .bool false, .slice none 0 0, .slice none 0 0, .slice none 0 0] 31) :: (w3.heap.size, .cells #[.int .i64 h.size, .int .i64 h.half, .int .i64 h.scan, .bool h.busy, .slice ob h.old.length oc, .slice nb h.new.length nc, .slice rb h.regs.length rc] 31) :: (w.heap.size, PBox size regs (.slice lb ds.length lc)) :: (x8, .cells #[.int .u8 0, .int .i64 0, .string ByteArray.empty] 50) :: L) wA71 := by rw [← hxo]; exact mD64.alloc _
                obtain ⟨x7, hxk⟩ : ∃ k, k = wd66.heap.size := ⟨_, rfl⟩
                rw [← hxk] at mA70
                rw [← hxk]
                replace mA70 := mA70.perm (perm_fr2 _ _ _ _)
                clear hxk hxo
                refine hK _ _ (.inr ⟨_, _, hs68.out, mA70⟩) ?_
                clear hK K
                try simp only [Act.put, List.setIfInBounds_toArray, List.set_cons_zero, List.set_cons_succ, List.getElem_toArray, List.getElem_cons_succ, List.getElem_cons_zero]
                refine AnyFrom.call (i := 17) (by kernel_rfl) rfl (by kernel_rfl) fun K hK => ?_
                have es := mA70.eqs
                simp only [EqsL] at es
                have ns := mA70.nes
                simp only [NeL, NeFrom] at ns
                go_simp
                have mS72 := (((((((mA70.set (i := 0) (v := .int .i64 q.size) (.tail (.tail .head))).set (i := 1) (v := .int .i64 q.half) (.tail (.tail .head))).set (i := 2) (v := .int .i64 q.scan) (.tail (.tail .head))).set (i := 3) (v := .bool q.busy) (.tail (.tail .head))).set (i := 4) (v := .slice ob3 q.old.length oc3) (.tail (.tail .head))).set (i := 5) (v := .slice nb3 q.new.length nc3) (.tail (.tail .head))).set (i := 6) (v := .slice rb3 q.regs.length rc3) (.tail (.tail .head)))
                simp only [List.setIfInBounds_toArray, List.set_cons_zero, List.set_cons_succ] at mS72
                generalize hwx : World.setCell _ _ _ = wS73
                rw [hwx] at mS72
                refine hK _ _ (.inr ⟨_, _, hs68.out, mS72⟩) ?_
                clear hK K
                try simp only [Act.put, List.setIfInBounds_toArray, List.set_cons_zero, List.set_cons_succ, List.getElem_toArray, List.getElem_cons_succ, List.getElem_cons_zero]
                clear es ns hwx
                refine AnyFrom.call (i := 18) (by kernel_rfl) rfl (by kernel_rfl) fun K hK => ?_
                have es := mS72.eqs
                simp only [EqsL] at es
                have ns := mS72.nes
                simp only [NeL, NeFrom] at ns
                go_simp
                have mS74 := (((mS72.set (i := 0) (v := .int .u8 rk) (.tail (.tail (.tail .head)))).set (i := 1) (v := .int .i64 rn) (.tail (.tail (.tail .head)))).set (i := 2) (v := .string rs) (.tail (.tail (.tail .head))))
                simp only [List.setIfInBounds_toArray, List.set_cons_zero, List.set_cons_succ] at mS74
                generalize hwx : World.setCell _ _ _ = wS75
                rw [hwx] at mS74
                refine hK _ _ (.inr ⟨_, _, hs68.out, mS74⟩) ?_
                clear hK K
                try simp only [Act.put, List.setIfInBounds_toArray, List.set_cons_zero, List.set_cons_succ, List.getElem_toArray, List.getElem_cons_succ, List.getElem_cons_zero]
                clear es ns hwx
                refine AnyFrom.pure (i := 19) (v := ?_) rfl (by kernel_rfl) (by kernel_rfl) (by kernel_rfl) (by decide) (fun _ _ _ h => h) ⟨by kernel_rfl, ?_⟩ ⟨_, _, hs68.out, mS74⟩ ?_
                rotate_left
                · first | (intro w'; go_simp; done) | (intro w'; go_simp; with_reducible rfl)
                simp only [Act.put, List.setIfInBounds_toArray, List.set_cons_zero, List.set_cons_succ, List.getElem_toArray, List.getElem_cons_succ, List.getElem_cons_zero]
                refine AnyFrom.done (by kernel_rfl) ?_ _
                exact key x7 x8 blk2 off2 cap2 lb2 lc2 sb2 sc2 ob3 oc3 nb3 nc3 rb3 rc3 ob5 oc5 nb5 nc5 rb5 rc5 _ ⟨Ho65, hle69, F3.out, mS74⟩
               ·
                refine AnyFrom.op rfl (by kernel_rfl) fun K hK => ?_
                go_simp
                generalize hxo : World.alloc wA63 _ = wA77
                have mA76 : Mem w0 Hd8 ((wA63.heap.size, .cells #[.int .i64 0, .int .i64 0, .int .i64 0, .bool false, .slice none 0 0, .slice none 0 0, .slice none 0 0] 31) :: (w3.heap.size, .cells #[.int .i64 h.size, .int .i64 h.half, .int .i64 h.scan, .bool h.busy, .slice ob h.old.length oc, .slice nb h.new.length nc, .slice rb h.regs.length rc] 31) :: (w.heap.size, PBox size regs (.slice lb ds.length lc)) :: (x8, .cells #[.int .u8 0, .int .i64 0, .string ByteArray.empty] 50) :: L) wA77 := by rw [← hxo]; exact mA62.alloc _
                obtain ⟨x7, hxk⟩ : ∃ k, k = wA63.heap.size := ⟨_, rfl⟩
                rw [← hxk] at mA76
                rw [← hxk]
                replace mA76 := mA76.perm (perm_fr2 _ _ _ _)
                clear hxk hxo
                refine hK _ _ (.inr ⟨_, _, hs13.out, mA76⟩) ?_
                clear hK K
                try simp only [Act.put, List.setIfInBounds_toArray, List.set_cons_zero, List.set_cons_succ, List.getElem_toArray, List.getElem_cons_succ, List.getElem_cons_zero]
                refine AnyFrom.call (i := 10) (by kernel_rfl) rfl (by kernel_rfl) fun K hK => ?_
                go_simp
                refine (DoU_any h HGD.out _ _ _ F5.out mA76 d _ _ DR.out (by have := HAL.out; omega)).mono ?_
                rw [hres]
                rintro e wd80 ⟨Ho79, vo3, vn3, vr3, rfl, hl81, f3, mD78⟩
                rw [hq] at f3
                rw [hq, hx]
                obtain ⟨ob3, oc3, nb3, nc3, rb3, rc3, rfl, rfl, rfl⟩ := f3.shape6
                have F3 := Lib.hid f3; clear f3
                unfold HVal ValM.v
                have hs82 := Lib.hid (hs13.out.trans hl81)
                replace F5 := Lib.hid (F5.out.mono hl81)
                replace DR := Lib.hid (DR.out.mono hl81)
                have hle83 := hle12.trans hl81
                refine hK _ _ (.inr ⟨_, _, hs82.out, mD78⟩) ?_
                clear hK K
                try simp only [Act.put, List.setIfInBounds_toArray, List.set_cons_zero, List.set_cons_succ, List.getElem_toArray, List.getElem_cons_succ, List.getElem_cons_zero]
                refine AnyFrom.pure (i := 11) (v := ?_) rfl (by kernel_rfl) (by kernel_rfl) (by kernel_rfl) (by decide) (fun _ _ _ h => h) ⟨by kernel_rfl, ?_⟩ ⟨_, _, hs82.out, mD78⟩ ?_
                rotate_left
                · first | (intro w'; go_simp; done) | (intro w'; go_simp; with_reducible rfl)
                simp only [Act.put, List.setIfInBounds_toArray, List.set_cons_zero, List.set_cons_succ, List.getElem_toArray, List.getElem_cons_succ, List.getElem_cons_zero]
                refine AnyFrom.pure (i := 12) (v := ?_) rfl (by kernel_rfl) (by kernel_rfl) (by kernel_rfl) (by decide) (fun _ _ _ h => h) ⟨by kernel_rfl, ?_⟩ ⟨_, _, hs82.out, mD78⟩ ?_
                rotate_left
                · first | (intro w'; go_simp; done) | (intro w'; go_simp; with_reducible rfl)
                simp only [Act.put, List.setIfInBounds_toArray, List.set_cons_zero, List.set_cons_succ, List.getElem_toArray, List.getElem_cons_succ, List.getElem_cons_zero]
                refine AnyFrom.pure (i := 13) (v := ?_) rfl (by kernel_rfl) (by kernel_rfl) (by kernel_rfl) (by decide) (fun _ _ _ h => h) ⟨by kernel_rfl, ?_⟩ ⟨_, _, hs82.out, mD78⟩ ?_
                rotate_left
                · first | (intro w'; go_simp; done) | (intro w'; go_simp; with_reducible rfl)
                simp only [Act.put, List.setIfInBounds_toArray, List.set_cons_zero, List.set_cons_succ, List.getElem_toArray, List.getElem_cons_succ, List.getElem_cons_zero]
                refine AnyFrom.pure (i := 14) (v := ?_) rfl (by kernel_rfl) (by kernel_rfl) (by kernel_rfl) (by decide) (fun _ _ _ h => h) ⟨by kernel_rfl, ?_⟩ ⟨_, _, hs82.out, mD78⟩ ?_
                rotate_left
                · first | (intro w'; go_simp; done) | (intro w'; go_simp; with_reducible rfl)
                simp only [Act.put, List.setIfInBounds_toArray, List.set_cons_zero, List.set_cons_succ, List.getElem_toArray, List.getElem_cons_succ, List.getElem_cons_zero]
                refine AnyFrom.call (i := 17) (by kernel_rfl) rfl (by kernel_rfl) fun K hK => ?_
                have es := mD78.eqs
                simp only [EqsL] at es
                have ns := mD78.nes
                simp only [NeL, NeFrom] at ns
                go_simp
                have mS84 := (((((((mD78.set (i := 0) (v := .int .i64 q.size) (.tail (.tail .head))).set (i := 1) (v := .int .i64 q.half) (.tail (.tail .head))).set (i := 2) (v := .int .i64 q.scan) (.tail (.tail .head))).set (i := 3) (v := .bool q.busy) (.tail (.tail .head))).set (i := 4) (v := .slice ob3 q.old.length oc3) (.tail (.tail .head))).set (i := 5) (v := .slice nb3 q.new.length nc3) (.tail (.tail .head))).set (i := 6) (v := .slice rb3 q.regs.length rc3) (.tail (.tail .head)))
                simp only [List.setIfInBounds_toArray, List.set_cons_zero, List.set_cons_succ] at mS84
                generalize hwx : World.setCell _ _ _ = wS85
                rw [hwx] at mS84
                refine hK _ _ (.inr ⟨_, _, hs82.out, mS84⟩) ?_
                clear hK K
                try simp only [Act.put, List.setIfInBounds_toArray, List.set_cons_zero, List.set_cons_succ, List.getElem_toArray, List.getElem_cons_succ, List.getElem_cons_zero]
                clear es ns hwx
                refine AnyFrom.call (i := 18) (by kernel_rfl) rfl (by kernel_rfl) fun K hK => ?_
                have es := mS84.eqs
                simp only [EqsL] at es
                have ns := mS84.nes
                simp only [NeL, NeFrom] at ns
                go_simp
                have mS86 := (((mS84.set (i := 0) (v := .int .u8 rk) (.tail (.tail (.tail .head)))).set (i := 1) (v := .int .i64 rn) (.tail (.tail (.tail .head)))).set (i := 2) (v := .string rs) (.tail (.tail (.tail .head))))
                simp only [List.setIfInBounds_toArray, List.set_cons_zero, List.set_cons_succ] at mS86
                generalize hwx : World.setCell _ _ _ = wS87
                rw [hwx] at mS86
                refine hK _ _ (.inr ⟨_, _, hs82.out, mS86⟩) ?_
                clear hK K
                try simp only [Act.put, List.setIfInBounds_toArray, List.set_cons_zero, List.set_cons_succ, List.getElem_toArray, List.getElem_cons_succ, List.getElem_cons_zero]
                clear es ns hwx
                refine AnyFrom.pure (i := 19) (v := ?_) rfl (by kernel_rfl) (by kernel_rfl) (by kernel_rfl) (by decide) (fun _ _ _ h => h) ⟨by kernel_rfl, ?_⟩ ⟨_, _, hs82.out, mS86⟩ ?_
                rotate_left
                · first | (intro w'; go_simp; done) | (intro w'; go_simp; with_reducible rfl)
                simp only [Act.put, List.setIfInBounds_toArray, List.set_cons_zero, List.set_cons_succ, List.getElem_toArray, List.getElem_cons_succ, List.getElem_cons_zero]
                refine AnyFrom.done (by kernel_rfl) ?_ _
                exact key x7 x8 blk2 off2 cap2 lb2 lc2 sb2 sc2 ob3 oc3 nb3 nc3 rb3 rc3 ob5 oc5 nb5 nc5 rb5 rc5 _ ⟨Ho79, hle83, F3.out, mS86⟩
             ·
              refine AnyFrom.op rfl (by kernel_rfl) fun K hK => ?_
              go_simp
              generalize hxo : World.alloc wc3 _ = wA89
              have mA88 : Mem w0 Hc2 ((wc3.heap.size, .cells #[.int .i64 0, .int .i64 0, .int .i64 0, .bool false, .slice none 0 0, .slice none 0 0, .slice none 0 0] 31) :: (w3.heap.size, .cells #[.int .i64 h.size, .int .i64 h.half, .int .i64 h.scan, .bool h.busy, .slice ob h.old.length oc, .slice nb h.new.length nc, .slice rb h.regs.length rc] 31) :: (w.heap.size, PBox size regs (.slice lb ds.length lc)) :: L) wA89 := by rw [← hxo]; exact mC1.alloc _
              obtain ⟨x7, hxk⟩ : ∃ k, k = wc3.heap.size := ⟨_, rfl⟩
              rw [← hxk] at mA88
              rw [← hxk]
              replace mA88 := mA88.perm (perm_fr2 _ _ _ _)
              clear hxk hxo
              refine hK _ _ (.inr ⟨_, _, hs5.out, mA88⟩) ?_
              clear hK K
              try simp only [Act.put, List.setIfInBounds_toArray, List.set_cons_zero, List.set_cons_succ, List.getElem_toArray, List.getElem_cons_succ, List.getElem_cons_zero]
              refine AnyFrom.two (i := 7) (j := 16) (by kernel_rfl) ?_ ?_
              ·
               refine AnyFrom.op rfl (by kernel_rfl) fun K hK => ?_
               go_simp
               refine (lawDeeds_any _ [d] (by simp) (fun d' hd' => by rw [List.mem_singleton] at hd'; rw [hd']; have := HAL.out; omega) (HONE.out.mono hle6) mA88).mono ?_
               rintro e wd92 ⟨Hd91, dv2, rfl, hl93, hdd, mD90⟩
               obtain ⟨db2, cap2, rfl⟩ := hdd.shape
               obtain ⟨blk2, off2, lvv, svv, rfl, hcell2, hdr2⟩ := hdd.getDeed (i := 0) (by simp)
               obtain ⟨lb2, lc2, rfl, -, -, -, -⟩ := hdr2.list
               obtain ⟨sb2, sc2, rfl, -, -, -, -⟩ := hdr2.slots
               rw [Nat.zero_mul, Nat.add_zero] at hcell2
               have CD := Lib.hid hcell2; clear hcell2 hdd
               have DR := Lib.hid (show DeedR Hd91 d _ _ from hdr2); clear hdr2
               have hs94 := Lib.hid (hs5.out.trans hl93)
               replace F5 := Lib.hid (F5.out.mono hl93)
               have hle95 := hle6.trans hl93
               refine hK _ _ (.inr ⟨_, _, hs94.out, mD90⟩) ?_
               clear hK K
               try simp only [Act.put, List.setIfInBounds_toArray, List.set_cons_zero, List.set_cons_succ, List.getElem_toArray, List.getElem_cons_succ, List.getElem_cons_zero]
               refine AnyFrom.stronger (S2 := fun w' => ∃ H' L', Hle Hd91 H' ∧ Mem w0 H' ((w3.heap.size, .cells #[.int .i64 h.size, .int .i64 h.half, .int .i64 h.scan, .bool h.busy, .slice ob h.old.length oc, .slice nb h.new.length nc, .slice rb h.regs.length rc] 31) :: (w.heap.size, PBox size regs (.slice lb ds.length lc)) :: L') w') (fun w' ⟨H', L', hl', hm⟩ => ⟨H', L', hs94.out.trans hl', hm⟩) _ ?_
               have hs96 := Lib.hid (Hle.refl Hd91)
               refine AnyFrom.take (i := 8) (v := ?_) rfl (by kernel_rfl) (by kernel_rfl) (by kernel_rfl) (by kernel_rfl) (fun _ _ _ h => h) ⟨by kernel_rfl, ?_⟩ ⟨_, _, hs96.out, mD90⟩ ?_
               rotate_left
               · first | (rintro w' ⟨H', L', hl', hm⟩; have es := hm.eqs; simp only [EqsL] at es; go_simp; done) | (rintro w' ⟨H', L', hl', hm⟩; have es := hm.eqs; simp only [EqsL] at es; go_simp; with_reducible rfl)
               simp only [Act.put, List.setIfInBounds_toArray, List.set_cons_zero, List.set_cons_succ, List.getElem_toArray, List.getElem_cons_succ, List.getElem_cons_zero]
               refine AnyFrom.take (i := 9) (v := ?_) rfl (by kernel_rfl) (by kernel_rfl) (by kernel_rfl) (by kernel_rfl) (fun _ _ _ h => h) ⟨by kernel_rfl, ?_⟩ ⟨_, _, hs96.out, mD90⟩ ?_
               rotate_left
               · first | (rintro w' ⟨H', L', hl', hm⟩; have es := hm.eqs; simp only [EqsL] at es; have q0 := ((CD.out 0 _ rfl).mono hl').cell hm; have q1 := ((CD.out 1 _ rfl).mono hl').cell hm; have q2 := ((CD.out 2 _ rfl).mono hl').cell hm; have q3 := ((CD.out 3 _ rfl).mono hl').cell hm; have q4 := ((CD.out 4 _ rfl).mono hl').cell hm; have q5 := ((CD.out 5 _ rfl).mono hl').cell hm; have q6 := ((CD.out 6 _ rfl).mono hl').cell hm; have q7 := ((CD.out 7 _ rfl).mono hl').cell hm; have q8 := ((CD.out 8 _ rfl).mono hl').cell hm; have q9 := ((CD.out 9 _ rfl).mono hl').cell hm; have q10 := ((CD.out 10 _ rfl).mono hl').cell hm; have q11 := ((CD.out 11 _ rfl).mono hl').cell hm; rw [Nat.add_zero] at q0; go_simp; done) | (rintro w' ⟨H', L', hl', hm⟩; have es := hm.eqs; simp only [EqsL] at es; have q0 := ((CD.out 0 _ rfl).mono hl').cell hm; have q1 := ((CD.out 1 _ rfl).mono hl').cell hm; have q2 := ((CD.out 2 _ rfl).mono hl').cell hm; have q3 := ((CD.out 3 _ rfl).mono hl').cell hm; have q4 := ((CD.out 4 _ rfl).mono hl').cell hm; have q5 := ((CD.out 5 _ rfl).mono hl').cell hm; have q6 := ((CD.out 6 _ rfl).mono hl').cell hm; have q7 := ((CD.out 7 _ rfl).mono hl').cell hm; have q8 := ((CD.out 8 _ rfl).mono hl').cell hm; have q9 := ((CD.out 9 _ rfl).mono hl').cell hm; have q10 := ((CD.out 10 _ rfl).mono hl').cell hm; have q11 := ((CD.out 11 _ rfl).mono hl').cell hm; rw [Nat.add_zero] at q0; go_simp; with_reducible rfl)
               simp only [Act.put, List.setIfInBounds_toArray, List.set_cons_zero, List.set_cons_succ, List.getElem_toArray, List.getElem_cons_succ, List.getElem_cons_zero]
               refine AnyFrom.two (i := 10) (j := 16) (by kernel_rfl) ?_ ?_
               ·
                refine AnyFrom.op rfl (by kernel_rfl) fun K hK => ?_
                go_simp
                refine (DoU_any h HGD.out _ _ _ F5.out mD90 d _ _ DR.out (by have := HAL.out; omega)).mono ?_
                rw [hres]
                rintro e wd99 ⟨Ho98, vo3, vn3, vr3, rfl, hl100, f3, mD97⟩
                rw [hq] at f3
                rw [hq, hx]
                obtain ⟨ob3, oc3, nb3, nc3, rb3, rc3, rfl, rfl, rfl⟩ := f3.shape6
                have F3 := Lib.hid f3; clear f3
                unfold HVal ValM.v
                have hs101 := Lib.hid (hs96.out.trans hl100)
                replace F5 := Lib.hid (F5.out.mono hl100)
                replace DR := Lib.hid (DR.out.mono hl100)
                have hle102 := hle95.trans hl100
                refine hK _ _ (.inr ⟨_, _, hs101.out, mD97⟩) ?_
                clear hK K
                try simp only [Act.put, List.setIfInBounds_toArray, List.set_cons_zero, List.set_cons_succ, List.getElem_toArray, List.getElem_cons_succ, List.getElem_cons_zero]
                refine AnyFrom.pure (i := 11) (v := ?_) rfl (by kernel_rfl) (by kernel_rfl) (by kernel_rfl) (by decide) (fun _ _ _ h => h) ⟨by kernel_rfl, ?_⟩ ⟨_, _, hs101.out, mD97⟩ ?_
                rotate_left
                · first | (intro w'; go_simp; done) | (intro w'; go_simp; with_reducible rfl)
                simp only [Act.put, List.setIfInBounds_toArray, List.set_cons_zero, List.set_cons_succ, List.getElem_toArray, List.getElem_cons_succ, List.getElem_cons_zero]
                refine AnyFrom.pure (i := 12) (v := ?_) rfl (by kernel_rfl) (by kernel_rfl) (by kernel_rfl) (by decide) (fun _ _ _ h => h) ⟨by kernel_rfl, ?_⟩ ⟨_, _, hs101.out, mD97⟩ ?_
                rotate_left
                · first | (intro w'; go_simp; done) | (intro w'; go_simp; with_reducible rfl)
                simp only [Act.put, List.setIfInBounds_toArray, List.set_cons_zero, List.set_cons_succ, List.getElem_toArray, List.getElem_cons_succ, List.getElem_cons_zero]
                refine AnyFrom.pure (i := 13) (v := ?_) rfl (by kernel_rfl) (by kernel_rfl) (by kernel_rfl) (by decide) (fun _ _ _ h => h) ⟨by kernel_rfl, ?_⟩ ⟨_, _, hs101.out, mD97⟩ ?_
                rotate_left
                · first | (intro w'; go_simp; done) | (intro w'; go_simp; with_reducible rfl)
                simp only [Act.put, List.setIfInBounds_toArray, List.set_cons_zero, List.set_cons_succ, List.getElem_toArray, List.getElem_cons_succ, List.getElem_cons_zero]
                refine AnyFrom.pure (i := 14) (v := ?_) rfl (by kernel_rfl) (by kernel_rfl) (by kernel_rfl) (by decide) (fun _ _ _ h => h) ⟨by kernel_rfl, ?_⟩ ⟨_, _, hs101.out, mD97⟩ ?_
                rotate_left
                · first | (intro w'; go_simp; done) | (intro w'; go_simp; with_reducible rfl)
                simp only [Act.put, List.setIfInBounds_toArray, List.set_cons_zero, List.set_cons_succ, List.getElem_toArray, List.getElem_cons_succ, List.getElem_cons_zero]
                refine AnyFrom.call (i := 16) (by kernel_rfl) rfl (by kernel_rfl) fun K hK => ?_
                go_simp
                generalize hxo : World.alloc wd99 _ = wA104
                have mA103 : Mem w0 Ho98 ((wd99.heap.size, .cells #[.int .u8 0, .int .i64 0, .string ByteArray.empty] 50) :: (w3.heap.size, .cells #[.int .i64 h.size, .int .i64 h.half, .int .i64 h.scan, .bool h.busy, .slice ob h.old.length oc, .slice nb h.new.length nc, .slice rb h.regs.length rc] 31) :: (w.heap.size, PBox size regs (.slice lb ds.length lc)) :: (x7, .cells #[.int .i64 0, .int .i64 0, .int .i64 0, .bool false, .slice none 0 0, .slice none 0 0, .slice none 0 0] 31) :: L) wA104 := by rw [← hxo]; exact mD97.alloc _
                obtain ⟨x8, hxk⟩ : ∃ k, k = wd99.heap.size := ⟨_, rfl⟩
                rw [← hxk] at mA103
                rw [← hxk]
                replace mA103 := mA103.perm (perm_fr2 _ _ _ _)
                clear hxk hxo
                refine hK _ _ (.inr ⟨_, _, hs101.out, mA103⟩) ?_
                clear hK K
                try simp only [Act.put, List.setIfInBounds_toArray, List.set_cons_zero, List.set_cons_succ, List.getElem_toArray, List.getElem_cons_succ, List.getElem_cons_zero]
                refine AnyFrom.call (i := 17) (by kernel_rfl) rfl (by kernel_rfl) fun K hK => ?_
                have es := mA103.eqs
                simp only [EqsL] at es
                have ns := mA103.nes
                simp only [NeL, NeFrom] at ns
                go_simp
                have mS105 := (((((((mA103.set (i := 0) (v := .int .i64 q.size) (.tail (.tail (.tail .head)))).set (i := 1) (v := .int .i64 q.half) (.tail (.tail (.tail .head)))).set (i := 2) (v := .int .i64 q.scan) (.tail (.tail (.tail .head)))).set (i := 3) (v := .bool q.busy) (.tail (.tail (.tail .head)))).set (i := 4) (v := .slice ob3 q.old.length oc3) (.tail (.tail (.tail .head)))).set (i := 5) (v := .slice nb3 q.new.length nc3) (.tail (.tail (.tail .head)))).set (i := 6) (v := .slice rb3 q.regs.length rc3) (.tail (.tail (.tail .head))))
                simp only [List.setIfInBounds_toArray, List.set_cons_zero, List.set_cons_succ] at mS105
                generalize hwx : World.setCell _ _ _ = wS106
                rw [hwx] at mS105
                refine hK _ _ (.inr ⟨_, _, hs101.out, mS105⟩) ?_
                clear hK K
                try simp only [Act.put, List.setIfInBounds_toArray, List.set_cons_zero, List.set_cons_succ, List.getElem_toArray, List.getElem_cons_succ, List.getElem_cons_zero]
                clear es ns hwx
                refine AnyFrom.call (i := 18) (by kernel_rfl) rfl (by kernel_rfl) fun K hK => ?_
                have es := mS105.eqs
                simp only [EqsL] at es
                have ns := mS105.nes
                simp only [NeL, NeFrom] at ns
                go_simp
                have mS107 := (((mS105.set (i := 0) (v := .int .u8 rk) (.tail (.tail .head))).set (i := 1) (v := .int .i64 rn) (.tail (.tail .head))).set (i := 2) (v := .string rs) (.tail (.tail .head)))
                simp only [List.setIfInBounds_toArray, List.set_cons_zero, List.set_cons_succ] at mS107
                generalize hwx : World.setCell _ _ _ = wS108
                rw [hwx] at mS107
                refine hK _ _ (.inr ⟨_, _, hs101.out, mS107⟩) ?_
                clear hK K
                try simp only [Act.put, List.setIfInBounds_toArray, List.set_cons_zero, List.set_cons_succ, List.getElem_toArray, List.getElem_cons_succ, List.getElem_cons_zero]
                clear es ns hwx
                refine AnyFrom.pure (i := 19) (v := ?_) rfl (by kernel_rfl) (by kernel_rfl) (by kernel_rfl) (by decide) (fun _ _ _ h => h) ⟨by kernel_rfl, ?_⟩ ⟨_, _, hs101.out, mS107⟩ ?_
                rotate_left
                · first | (intro w'; go_simp; done) | (intro w'; go_simp; with_reducible rfl)
                simp only [Act.put, List.setIfInBounds_toArray, List.set_cons_zero, List.set_cons_succ, List.getElem_toArray, List.getElem_cons_succ, List.getElem_cons_zero]
                refine AnyFrom.done (by kernel_rfl) ?_ _
                exact key x7 x8 blk2 off2 cap2 lb2 lc2 sb2 sc2 ob3 oc3 nb3 nc3 rb3 rc3 ob5 oc5 nb5 nc5 rb5 rc5 _ ⟨Ho98, hle102, F3.out, (mS107.perm (perm_sw2 _ _ _ _ _))⟩
               ·
                refine AnyFrom.op rfl (by kernel_rfl) fun K hK => ?_
                go_simp
                generalize hxo : World.alloc wd92 _ = wA110
                have mA109 : Mem w0 Hd91 ((wd92.heap.size, .cells #[.int .u8 0, .int .i64 0, .string ByteArray.empty] 50) :: (w3.heap.size, .cells #[.int .i64 h.size, .int .i64 h.half, .int .i64 h.scan, .bool h.busy, .slice ob h.old.length oc, .slice nb h.new.length nc, .slice rb h.regs.length rc] 31) :: (w.heap.size, PBox size regs (.slice lb ds.length lc)) :: (x7, .cells #[.int .i64 0, .int .i64 0, .int .i64 0, .bool false, .slice none 0 0, .slice none 0 0, .slice none 0 0] 31) :: L) wA110 := by rw [← hxo]; exact mD90.alloc _
                obtain ⟨x8, hxk⟩ : ∃ k, k = wd92.heap.size := ⟨_, rfl⟩
                rw [← hxk] at mA109
                rw [← hxk]
                replace mA109 := mA109.perm (perm_fr2 _ _ _ _)
                clear hxk hxo
                refine hK _ _ (.inr ⟨_, _, hs96.out, mA109⟩) ?_
                clear hK K
                try simp only [Act.put, List.setIfInBounds_toArray, List.set_cons_zero, List.set_cons_succ, List.getElem_toArray, List.getElem_cons_succ, List.getElem_cons_zero]
                refine AnyFrom.call (i := 10) (by kernel_rfl) rfl (by kernel_rfl) fun K hK => ?_
                go_simp
                refine (DoU_any h HGD.out _ _ _ F5.out mA109 d _ _ DR.out (by have := HAL.out; omega)).mono ?_
                rw [hres]
                rintro e wd113 ⟨Ho112, vo3, vn3, vr3, rfl, hl114, f3, mD111⟩
                rw [hq] at f3
                rw [hq, hx]
                obtain ⟨ob3, oc3, nb3, nc3, rb3, rc3, rfl, rfl, rfl⟩ := f3.shape6
                have F3 := Lib.hid f3; clear f3
                unfold HVal ValM.v
                have hs115 := Lib.hid (hs96.out.trans hl114)
                replace F5 := Lib.hid (F5.out.mono hl114)
                replace DR := Lib.hid (DR.out.mono hl114)
                have hle116 := hle95.trans hl114
                refine hK _ _ (.inr ⟨_, _, hs115.out, mD111⟩) ?_
                clear hK K
                try simp only [Act.put, List.setIfInBounds_toArray, List.set_cons_zero, List.set_cons_succ, List.getElem_toArray, List.getElem_cons_succ, List.getElem_cons_zero]
                refine AnyFrom.pure (i := 11) (v := ?_) rfl (by kernel_rfl) (by kernel_rfl) (by kernel_rfl) (by decide) (fun _ _ _ h => h) ⟨by kernel_rfl, ?_⟩ ⟨_, _, hs115.out, mD111⟩ ?_
                rotate_left
                · first | (intro w'; go_simp; done) | (intro w'; go_simp; with_reducible rfl)
                simp only [Act.put, List.setIfInBounds_toArray, List.set_cons_zero, List.set_cons_succ, List.getElem_toArray, List.getElem_cons_succ, List.getElem_cons_zero]
                refine AnyFrom.pure (i := 12) (v := ?_) rfl (by kernel_rfl) (by kernel_rfl) (by kernel_rfl) (by decide) (fun _ _ _ h => h) ⟨by kernel_rfl, ?_⟩ ⟨_, _, hs115.out, mD111⟩ ?_
                rotate_left
                · first | (intro w'; go_simp; done) | (intro w'; go_simp; with_reducible rfl)
                simp only [Act.put, List.setIfInBounds_toArray, List.set_cons_zero, List.set_cons_succ, List.getElem_toArray, List.getElem_cons_succ, List.getElem_cons_zero]
                refine AnyFrom.pure (i := 13) (v := ?_) rfl (by kernel_rfl) (by kernel_rfl) (by kernel_rfl) (by decide) (fun _ _ _ h => h) ⟨by kernel_rfl, ?_⟩ ⟨_, _, hs115.out, mD111⟩ ?_
                rotate_left
                · first | (intro w'; go_simp; done) | (intro w'; go_simp; with_reducible rfl)
                simp only [Act.put, List.setIfInBounds_toArray, List.set_cons_zero, List.set_cons_succ, List.getElem_toArray, List.getElem_cons_succ, List.getElem_cons_zero]
                refine AnyFrom.pure (i := 14) (v := ?_) rfl (by kernel_rfl) (by kernel_rfl) (by kernel_rfl) (by decide) (fun _ _ _ h => h) ⟨by kernel_rfl, ?_⟩ ⟨_, _, hs115.out, mD111⟩ ?_
                rotate_left
                · first | (intro w'; go_simp; done) | (intro w'; go_simp; with_reducible rfl)
                simp only [Act.put, List.setIfInBounds_toArray, List.set_cons_zero, List.set_cons_succ, List.getElem_toArray, List.getElem_cons_succ, List.getElem_cons_zero]
                refine AnyFrom.call (i := 17) (by kernel_rfl) rfl (by kernel_rfl) fun K hK => ?_
                have es := mD111.eqs
                simp only [EqsL] at es
                have ns := mD111.nes
                simp only [NeL, NeFrom] at ns
                go_simp
                have mS117 := (((((((mD111.set (i := 0) (v := .int .i64 q.size) (.tail (.tail (.tail .head)))).set (i := 1) (v := .int .i64 q.half) (.tail (.tail (.tail .head)))).set (i := 2) (v := .int .i64 q.scan) (.tail (.tail (.tail .head)))).set (i := 3) (v := .bool q.busy) (.tail (.tail (.tail .head)))).set (i := 4) (v := .slice ob3 q.old.length oc3) (.tail (.tail (.tail .head)))).set (i := 5) (v := .slice nb3 q.new.length nc3) (.tail (.tail (.tail .head)))).set (i := 6) (v := .slice rb3 q.regs.length rc3) (.tail (.tail (.tail .head))))
                simp only [List.setIfInBounds_toArray, List.set_cons_zero, List.set_cons_succ] at mS117
                generalize hwx : World.setCell _ _ _ = wS118
                rw [hwx] at mS117
                refine hK _ _ (.inr ⟨_, _, hs115.out, mS117⟩) ?_
                clear hK K
                try simp only [Act.put, List.setIfInBounds_toArray, List.set_cons_zero, List.set_cons_succ, List.getElem_toArray, List.getElem_cons_succ, List.getElem_cons_zero]
                clear es ns hwx
                refine AnyFrom.call (i := 18) (by kernel_rfl) rfl (by kernel_rfl) fun K hK => ?_
                have es := mS117.eqs
                simp only [EqsL] at es
                have ns := mS117.nes
                simp only [NeL, NeFrom] at ns
                go_simp
                have mS119 := (((mS117.set (i := 0) (v := .int .u8 rk) (.tail (.tail .head))).set (i := 1) (v := .int .i64 rn) (.tail (.tail .head))).set (i := 2) (v := .string rs) (.tail (.tail .head)))
                simp only [List.setIfInBounds_toArray, List.set_cons_zero, List.set_cons_succ] at mS119
                generalize hwx : World.setCell _ _ _ = wS120
                rw [hwx] at mS119
                refine hK _ _ (.inr ⟨_, _, hs115.out, mS119⟩) ?_
                clear hK K
                try simp only [Act.put, List.setIfInBounds_toArray, List.set_cons_zero, List.set_cons_succ, List.getElem_toArray, List.getElem_cons_succ, List.getElem_cons_zero]
                clear es ns hwx
                refine AnyFrom.pure (i := 19) (v := ?_) rfl (by kernel_rfl) (by kernel_rfl) (by kernel_rfl) (by decide) (fun _ _ _ h => h) ⟨by kernel_rfl, ?_⟩ ⟨_, _, hs115.out, mS119⟩ ?_
                rotate_left
                · first | (intro w'; go_simp; done) | (intro w'; go_simp; with_reducible rfl)
                simp only [Act.put, List.setIfInBounds_toArray, List.set_cons_zero, List.set_cons_succ, List.getElem_toArray, List.getElem_cons_succ, List.getElem_cons_zero]
                refine AnyFrom.done (by kernel_rfl) ?_ _
                exact key x7 x8 blk2 off2 cap2 lb2 lc2 sb2 sc2 ob3 oc3 nb3 nc3 rb3 rc3 ob5 oc5 nb5 nc5 rb5 rc5 _ ⟨Ho112, hle116, F3.out, (mS119.perm (perm_sw2 _ _ _ _ _))⟩
              ·
               refine AnyFrom.op rfl (by kernel_rfl) fun K hK => ?_
               go_simp
               generalize hxo : World.alloc wA89 _ = wA122
               have mA121 : Mem w0 Hc2 ((wA89.heap.size, .cells #[.int .u8 0, .int .i64 0, .string ByteArray.empty] 50) :: (w3.heap.size, .cells #[.int .i64 h.size, .int .i64 h.half, .int .i64 h.scan, .bool h.busy, .slice ob h.old.length oc, .slice nb h.new.length nc, .slice rb h.regs.length rc] 31) :: (w.heap.size, PBox size regs (.slice lb ds.length lc)) :: (x7, .cells #[.int .i64 0, .int .i64 0, .int .i64 0, .bool false, .slice none 0 0, .slice none 0 0, .slice none 0 0] 31) :: L) wA122 := by rw [← hxo]; exact mA88.alloc _
               obtain ⟨x8, hxk⟩ : ∃ k, k = wA89.heap.size := ⟨_, rfl⟩
               rw [← hxk] at mA121
               rw [← hxk]
               replace mA121 := mA121.perm (perm_fr2 _ _ _ _)
               clear hxk hxo
               refine hK _ _ (.inr ⟨_, _, hs5.out, mA121⟩) ?_
               clear hK K
               try simp only [Act.put, List.setIfInBounds_toArray, List.set_cons_zero, List.set_cons_succ, List.getElem_toArray, List.getElem_cons_succ, List.getElem_cons_zero]
               refine AnyFrom.call (i := 7) (by kernel_rfl) rfl (by kernel_rfl) fun K hK => ?_
               go_simp
               refine (lawDeeds_any _ [d] (by simp) (fun d' hd' => by rw [List.mem_singleton] at hd'; rw [hd']; have := HAL.out; omega) (HONE.out.mono hle6) mA121).mono ?_
               rintro e wd125 ⟨Hd124, dv2, rfl, hl126, hdd, mD123⟩
               obtain ⟨db2, cap2, rfl⟩ := hdd.shape
               obtain ⟨blk2, off2, lvv, svv, rfl, hcell2, hdr2⟩ := hdd.getDeed (i := 0) (by simp)
               obtain ⟨lb2, lc2, rfl, -, -, -, -⟩ := hdr2.list
               obtain ⟨sb2, sc2, rfl, -, -, -, -⟩ := hdr2.slots
               rw [Nat.zero_mul, Nat.add_zero] at hcell2
               have CD := Lib.hid hcell2; clear hcell2 hdd
               have DR := Lib.hid (show DeedR Hd124 d _ _ from hdr2); clear hdr2
               have hs127 := Lib.hid (hs5.out.trans hl126)
               replace F5 := Lib.hid (F5.out.mono hl126)
               have hle128 := hle6.trans hl126
               refine hK _ _ (.inr ⟨_, _, hs127.out, mD123⟩) ?_
               clear hK K
               try simp only [Act.put, List.setIfInBounds_toArray, List.set_cons_zero, List.set_cons_succ, List.getElem_toArray, List.getElem_cons_succ, List.getElem_cons_zero]
               refine AnyFrom.stronger (S2 := fun w' => ∃ H' L', Hle Hd124 H' ∧ Mem w0 H' ((w3.heap.size, .cells #[.int .i64 h.size, .int .i64 h.half, .int .i64 h.scan, .bool h.busy, .slice ob h.old.length oc, .slice nb h.new.length nc, .slice rb h.regs.length rc] 31) :: (w.heap.size, PBox size regs (.slice lb ds.length lc)) :: L') w') (fun w' ⟨H', L', hl', hm⟩ => ⟨H', L', hs127.out.trans hl', hm⟩) _ ?_
               have hs129 := Lib.hid (Hle.refl Hd124)
               refine AnyFrom.take (i := 8) (v := ?_) rfl (by kernel_rfl) (by kernel_rfl) (by kernel_rfl) (by kernel_rfl) (fun _ _ _ h => h) ⟨by kernel_rfl, ?_⟩ ⟨_, _, hs129.out, mD123⟩ ?_
               rotate_left
               · first | (rintro w' ⟨H', L', hl', hm⟩; have es := hm.eqs; simp only [EqsL] at es; go_simp; done) | (rintro w' ⟨H', L', hl', hm⟩; have es := hm.eqs; simp only [EqsL] at es; go_simp; with_reducible rfl)
               simp only [Act.put, List.setIfInBounds_toArray, List.set_cons_zero, List.set_cons_succ, List.getElem_toArray, List.getElem_cons_succ, List.getElem_cons_zero]
               refine AnyFrom.take (i := 9) (v := ?_) rfl (by kernel_rfl) (by kernel_rfl) (by kernel_rfl) (by kernel_rfl) (fun _ _ _ h => h) ⟨by kernel_rfl, ?_⟩ ⟨_, _, hs129.out, mD123⟩ ?_
               rotate_left
               · first | (rintro w' ⟨H', L', hl', hm⟩; have es := hm.eqs; simp only [EqsL] at es; have q0 := ((CD.out 0 _ rfl).mono hl').cell hm; have q1 := ((CD.out 1 _ rfl).mono hl').cell hm; have q2 := ((CD.out 2 _ rfl).mono hl').cell hm; have q3 := ((CD.out 3 _ rfl).mono hl').cell hm; have q4 := ((CD.out 4 _ rfl).mono hl').cell hm; have q5 := ((CD.out 5 _ rfl).mono hl').cell hm; have q6 := ((CD.out 6 _ rfl).mono hl').cell hm; have q7 := ((CD.out 7 _ rfl).mono hl').cell hm; have q8 := ((CD.out 8 _ rfl).mono hl').cell hm; have q9 := ((CD.out 9 _ rfl).mono hl').cell hm; have q10 := ((CD.out 10 _ rfl).mono hl').cell hm; have q11 := ((CD.out 11 _ rfl).mono hl').cell hm; rw [Nat.add_zero] at q0; go_simp; done) | (rintro w' ⟨H', L', hl', hm⟩; have es := hm.eqs; simp only [EqsL] at es; have q0 := ((CD.out 0 _ rfl).mono hl').cell hm; have q1 := ((CD.out 1 _ rfl).mono hl').cell hm; have q2 := ((CD.out 2 _ rfl).mono hl').cell hm; have q3 := ((CD.out 3 _ rfl).mono hl').cell hm; have q4 := ((CD.out 4 _ rfl).mono hl').cell hm; have q5 := ((CD.out 5 _ rfl).mono hl').cell hm; have q6 := ((CD.out 6 _ rfl).mono hl').cell hm; have q7 := ((CD.out 7 _ rfl).mono hl').cell hm; have q8 := ((CD.out 8 _ rfl).mono hl').cell hm; have q9 := ((CD.out 9 _ rfl).mono hl').cell hm; have q10 := ((CD.out 10 _ rfl).mono hl').cell hm; have q11 := ((CD.out 11 _ rfl).mono hl').cell hm; rw [Nat.add_zero] at q0; go_simp; with_reducible rfl)
               simp only [Act.put, List.setIfInBounds_toArray, List.set_cons_zero, List.set_cons_succ, List.getElem_toArray, List.getElem_cons_succ, List.getElem_cons_zero]
               refine AnyFrom.call (i := 10) (by kernel_rfl) rfl (by kernel_rfl) fun K hK => ?_
               go_simp
               refine (DoU_any h HGD.out _ _ _ F5.out mD123 d _ _ DR.out (by have := HAL.out; omega)).mono ?_
               rw [hres]
               rintro e wd132 ⟨Ho131, vo3, vn3, vr3, rfl, hl133, f3, mD130⟩
               rw [hq] at f3
               rw [hq, hx]
               obtain ⟨ob3, oc3, nb3, nc3, rb3, rc3, rfl, rfl, rfl⟩ := f3.shape6
               have F3 := Lib.hid f3; clear f3
               unfold HVal ValM.v
               have hs134 := Lib.hid (hs129.out.trans hl133)
               replace F5 := Lib.hid (F5.out.mono hl133)
               replace DR := Lib.hid (DR.out.mono hl133)
               have hle135 := hle128.trans hl133
               refine hK _ _ (.inr ⟨_, _, hs134.out, mD130⟩) ?_
               clear hK K
               try simp only [Act.put, List.setIfInBounds_toArray, List.set_cons_zero, List.set_cons_succ, List.getElem_toArray, List.getElem_cons_succ, List.getElem_cons_zero]
               refine AnyFrom.pure (i := 11) (v := ?_) rfl (by kernel_rfl) (by kernel_rfl) (by kernel_rfl) (by decide) (fun _ _ _ h => h) ⟨by kernel_rfl, ?_⟩ ⟨_, _, hs134.out, mD130⟩ ?_
               rotate_left
               · first | (intro w'; go_simp; done) | (intro w'; go_simp; with_reducible rfl)
               simp only [Act.put, List.setIfInBounds_toArray, List.set_cons_zero, List.set_cons_succ, List.getElem_toArray, List.getElem_cons_succ, List.getElem_cons_zero]
               refine AnyFrom.pure (i := 12) (v := ?_) rfl (by kernel_rfl) (by kernel_rfl) (by kernel_rfl) (by decide) (fun _ _ _ h => h) ⟨by kernel_rfl, ?_⟩ ⟨_, _, hs134.out, mD130⟩ ?_
               rotate_left
               · first | (intro w'; go_simp; done) | (intro w'; go_simp; with_reducible rfl)
               simp only [Act.put, List.setIfInBounds_toArray, List.set_cons_zero, List.set_cons_succ, List.getElem_toArray, List.getElem_cons_succ, List.getElem_cons_zero]
               refine AnyFrom.pure (i := 13) (v := ?_) rfl (by kernel_rfl) (by kernel_rfl) (by kernel_rfl) (by decide) (fun _ _ _ h => h) ⟨by kernel_rfl, ?_⟩ ⟨_, _, hs134.out, mD130⟩ ?_
               rotate_left
               · first | (intro w'; go_simp; done) | (intro w'; go_simp; with_reducible rfl)
               simp only [Act.put, List.setIfInBounds_toArray, List.set_cons_zero, List.set_cons_succ, List.getElem_toArray, List.getElem_cons_succ, List.getElem_cons_zero]
               refine AnyFrom.pure (i := 14) (v := ?_) rfl (by kernel_rfl) (by kernel_rfl) (by kernel_rfl) (by decide) (fun _ _ _ h => h) ⟨by kernel_rfl, ?_⟩ ⟨_, _, hs134.out, mD130⟩ ?_
               rotate_left
               · first | (intro w'; go_simp; done) | (intro w'; go_simp; with_reducible rfl)
               simp only [Act.put, List.setIfInBounds_toArray, List.set_cons_zero, List.set_cons_succ, List.getElem_toArray, List.getElem_cons_succ, List.getElem_cons_zero]
               refine AnyFrom.call (i := 17) (by kernel_rfl) rfl (by kernel_rfl) fun K hK => ?_
               have es := mD130.eqs
               simp only [EqsL] at es
               have ns := mD130.nes
               simp only [NeL, NeFrom] at ns
               go_simp
               have mS136 := (((((((mD130.set (i := 0) (v := .int .i64 q.size) (.tail (.tail (.tail .head)))).set (i := 1) (v := .int .i64 q.half) (.tail (.tail (.tail .head)))).set (i := 2) (v := .int .i64 q.scan) (.tail (.tail (.tail .head)))).set (i := 3) (v := .bool q.busy) (.tail (.tail (.tail .head)))).set (i := 4) (v := .slice ob3 q.old.length oc3) (.tail (.tail (.tail .head)))).set (i := 5) (v := .slice nb3 q.new.length nc3) (.tail (.tail (.tail .head)))).set (i := 6) (v := .slice rb3 q.regs.length rc3) (.tail (.tail (.tail .head))))
               simp only [List.setIfInBounds_toArray, List.set_cons_zero, List.set_cons_succ] at mS136
               generalize hwx : World.setCell _ _ _ = wS137
               rw [hwx] at mS136
               refine hK _ _ (.inr ⟨_, _, hs134.out, mS136⟩) ?_
               clear hK K
               try simp only [Act.put, List.setIfInBounds_toArray, List.set_cons_zero, List.set_cons_succ, List.getElem_toArray, List.getElem_cons_succ, List.getElem_cons_zero]
               clear es ns hwx
               refine AnyFrom.call (i := 18) (by kernel_rfl) rfl (by kernel_rfl) fun K hK => ?_
               have es := mS136.eqs
               simp only [EqsL] at es
               have ns := mS136.nes
               simp only [NeL, NeFrom] at ns
               go_simp
               have mS138 := (((mS136.set (i := 0) (v := .int .u8 rk) (.tail (.tail .head))).set (i := 1) (v := .int .i64 rn) (.tail (.tail .head))).set (i := 2) (v := .string rs) (.tail (.tail .head)))
               simp only [List.setIfInBounds_toArray, List.set_cons_zero, List.set_cons_succ] at mS138
               generalize hwx : World.setCell _ _ _ = wS139
               rw [hwx] at mS138
               refine hK _ _ (.inr ⟨_, _, hs134.out, mS138⟩) ?_
               clear hK K
               try simp only [Act.put, List.setIfInBounds_toArray, List.set_cons_zero, List.set_cons_succ, List.getElem_toArray, List.getElem_cons_succ, List.getElem_cons_zero]
               clear es ns hwx
               refine AnyFrom.pure (i := 19) (v := ?_) rfl (by kernel_rfl) (by kernel_rfl) (by kernel_rfl) (by decide) (fun _ _ _ h => h) ⟨by kernel_rfl, ?_⟩ ⟨_, _, hs134.out, mS138⟩ ?_
               rotate_left
               · first | (intro w'; go_simp; done) | (intro w'; go_simp; with_reducible rfl)
               simp only [Act.put, List.setIfInBounds_toArray, List.set_cons_zero, List.set_cons_succ, List.getElem_toArray, List.getElem_cons_succ, List.getElem_cons_zero]
               refine AnyFrom.done (by kernel_rfl) ?_ _
               exact key x7 x8 blk2 off2 cap2 lb2 lc2 sb2 sc2 ob3 oc3 nb3 nc3 rb3 rc3 ob5 oc5 nb5 nc5 rb5 rc5 _ ⟨Ho131, hle135, F3.out, (mS138.perm (perm_sw2 _ _ _ _ _))⟩
             ·
              refine AnyFrom.op rfl (by kernel_rfl) fun K hK => ?_
              go_simp
              generalize hxo : World.alloc wc3 _ = wA141
              have mA140 : Mem w0 Hc2 ((wc3.heap.size, .cells #[.int .u8 0, .int .i64 0, .string ByteArray.empty] 50) :: (w3.heap.size, .cells #[.int .i64 h.size, .int .i64 h.half, .int .i64 h.scan, .bool h.busy, .slice ob h.old.length oc, .slice nb h.new.length nc, .slice rb h.regs.length rc] 31) :: (w.heap.size, PBox size regs (.slice lb ds.length lc)) :: L) wA141 := by rw [← hxo]; exact mC1.alloc _
              obtain ⟨x8, hxk⟩ : ∃ k, k = wc3.heap.size := ⟨_, rfl⟩
              rw [← hxk] at mA140
              rw [← hxk]
              replace mA140 := mA140.perm (perm_fr2 _ _ _ _)
              clear hxk hxo
              refine hK _ _ (.inr ⟨_, _, hs5.out, mA140⟩) ?_
              clear hK K
              try simp only [Act.put, List.setIfInBounds_toArray, List.set_cons_zero, List.set_cons_succ, List.getElem_toArray, List.getElem_cons_succ, List.getElem_cons_zero]
              refine AnyFrom.two (i := 7) (j := 15) (by kernel_rfl) ?_ ?_
              ·
               refine AnyFrom.op rfl (by kernel_rfl) fun K hK => ?_
               go_simp
               refine (lawDeeds_any _ [d] (by simp) (fun d' hd' => by rw [List.mem_singleton] at hd'; rw [hd']; have := HAL.out; omega) (HONE.out.mono hle6) mA140).mono ?_
               rintro e wd144 ⟨Hd143, dv2, rfl, hl145, hdd, mD142⟩
               obtain ⟨db2, cap2, rfl⟩ := hdd.shape
               obtain ⟨blk2, off2, lvv, svv, rfl, hcell2, hdr2⟩ := hdd.getDeed (i := 0) (by simp)
               obtain ⟨lb2, lc2, rfl, -, -, -, -⟩ := hdr2.list
               obtain ⟨sb2, sc2, rfl, -, -, -, -⟩ := hdr2.slots
               rw [Nat.zero_mul, Nat.add_zero] at hcell2
               have CD := Lib.hid hcell2; clear hcell2 hdd
               have DR := Lib.hid (show DeedR Hd143 d _ _ from hdr2); clear hdr2
               have hs146 := Lib.hid (hs5.out.trans hl145)
               replace F5 := Lib.hid (F5.out.mono hl145)
               have hle147 := hle6.trans hl145
               refine hK _ _ (.inr ⟨_, _, hs146.out, mD142⟩) ?_
               clear hK K
               try simp only [Act.put, List.setIfInBounds_toArray, List.set_cons_zero, List.set_cons_succ, List.getElem_toArray, List.getElem_cons_succ, List.getElem_cons_zero]
               refine AnyFrom.stronger (S2 := fun w' => ∃ H' L', Hle Hd143 H' ∧ Mem w0 H' ((w3.heap.size, .cells #[.int .i64 h.size, .int .i64 h.half, .int .i64 h.scan, .bool h.busy, .slice ob h.old.length oc, .slice nb h.new.length nc, .slice rb h.regs.length rc] 31) :: (w.heap.size, PBox size regs (.slice lb ds.length lc)) :: L') w') (fun w' ⟨H', L', hl', hm⟩ => ⟨H', L', hs146.out.trans hl', hm⟩) _ ?_
               have hs148 := Lib.hid (Hle.refl Hd143)
               refine AnyFrom.take (i := 8) (v := ?_) rfl (by kernel_rfl) (by kernel_rfl) (by kernel_rfl) (by kernel_rfl) (fun _ _ _ h => h) ⟨by kernel_rfl, ?_⟩ ⟨_, _, hs148.out, mD142⟩ ?_
               rotate_left
               · first | (rintro w' ⟨H', L', hl', hm⟩; have es := hm.eqs; simp only [EqsL] at es; go_simp; done) | (rintro w' ⟨H', L', hl', hm⟩; have es := hm.eqs; simp only [EqsL] at es; go_simp; with_reducible rfl)
               simp only [Act.put, List.setIfInBounds_toArray, List.set_cons_zero, List.set_cons_succ, List.getElem_toArray, List.getElem_cons_succ, List.getElem_cons_zero]
               refine AnyFrom.take (i := 9) (v := ?_) rfl (by kernel_rfl) (by kernel_rfl) (by kernel_rfl) (by kernel_rfl) (fun _ _ _ h => h) ⟨by kernel_rfl, ?_⟩ ⟨_, _, hs148.out, mD142⟩ ?_
               rotate_left
               · first | (rintro w' ⟨H', L', hl', hm⟩; have es := hm.eqs; simp only [EqsL] at es; have q0 := ((CD.out 0 _ rfl).mono hl').cell hm; have q1 := ((CD.out 1 _ rfl).mono hl').cell hm; have q2 := ((CD.out 2 _ rfl).mono hl').cell hm; have q3 := ((CD.out 3 _ rfl).mono hl').cell hm; have q4 := ((CD.out 4 _ rfl).mono hl').cell hm; have q5 := ((CD.out 5 _ rfl).mono hl').cell hm; have q6 := ((CD.out 6 _ rfl).mono hl').cell hm; have q7 := ((CD.out 7 _ rfl).mono hl').cell hm; have q8 := ((CD.out 8 _ rfl).mono hl').cell hm; have q9 := ((CD.out 9 _ rfl).mono hl').cell hm; have q10 := ((CD.out 10 _ rfl).mono hl').cell hm; have q11 := ((CD.out 11 _ rfl).mono hl').cell hm; rw [Nat.add_zero] at q0; go_simp; done) | (rintro w' ⟨H', L', hl', hm⟩; have es := hm.eqs; simp only [EqsL] at es; have q0 := ((CD.out 0 _ rfl).mono hl').cell hm; have q1 := ((CD.out 1 _ rfl).mono hl').cell hm; have q2 := ((CD.out 2 _ rfl).mono hl').cell hm; have q3 := ((CD.out 3 _ rfl).mono hl').cell hm; have q4 := ((CD.out 4 _ rfl).mono hl').cell hm; have q5 := ((CD.out 5 _ rfl).mono hl').cell hm; have q6 := ((CD.out 6 _ rfl).mono hl').cell hm; have q7 := ((CD.out 7 _ rfl).mono hl').cell hm; have q8 := ((CD.out 8 _ rfl).mono hl').cell hm; have q9 := ((CD.out 9 _ rfl).mono hl').cell hm; have q10 := ((CD.out 10 _ rfl).mono hl').cell hm; have q11 := ((CD.out 11 _ rfl).mono hl').cell hm; rw [Nat.add_zero] at q0; go_simp; with_reducible rfl)
               simp only [Act.put, List.setIfInBounds_toArray, List.set_cons_zero, List.set_cons_succ, List.getElem_toArray, List.getElem_cons_succ, List.getElem_cons_zero]
               refine AnyFrom.two (i := 10) (j := 15) (by kernel_rfl) ?_ ?_
               ·
                refine AnyFrom.op rfl (by kernel_rfl) fun K hK => ?_
                go_simp
                refine (DoU_any h HGD.out _ _ _ F5.out mD142 d _ _ DR.out (by have := HAL.out; omega)).mono ?_
                rw [hres]
                rintro e wd151 ⟨Ho150, vo3, vn3, vr3, rfl, hl152, f3, mD149⟩
                rw [hq] at f3
                rw [hq, hx]
                obtain ⟨ob3, oc3, nb3, nc3, rb3, rc3, rfl, rfl, rfl⟩ := f3.shape6
                have F3 := Lib.hid f3; clear f3
                unfold HVal ValM.v
                have hs153 := Lib.hid (hs148.out.trans hl152)
                replace F5 := Lib.hid (F5.out.mono hl152)
                replace DR := Lib.hid (DR.out.mono hl152)
                have hle154 := hle147.trans hl152
                refine hK _ _ (.inr ⟨_, _, hs153.out, mD149⟩) ?_
                clear hK K
                try simp only [Act.put, List.setIfInBounds_toArray, List.set_cons_zero, List.set_cons_succ, List.getElem_toArray, List.getElem_cons_succ, List.getElem_cons_zero]
                refine AnyFrom.pure (i := 11) (v := ?_) rfl (by kernel_rfl) (by kernel_rfl) (by kernel_rfl) (by decide) (fun _ _ _ h => h) ⟨by kernel_rfl, ?_⟩ ⟨_, _, hs153.out, mD149⟩ ?_
                rotate_left
                · first | (intro w'; go_simp; done) | (intro w'; go_simp; with_reducible rfl)
                simp only [Act.put, List.setIfInBounds_toArray, List.set_cons_zero, List.set_cons_succ, List.getElem_toArray, List.getElem_cons_succ, List.getElem_cons_zero]
                refine AnyFrom.pure (i := 12) (v := ?_) rfl (by kernel_rfl) (by kernel_rfl) (by kernel_rfl) (by decide) (fun _ _ _ h => h) ⟨by kernel_rfl, ?_⟩ ⟨_, _, hs153.out, mD149⟩ ?_
                rotate_left
                · first | (intro w'; go_simp; done) | (intro w'; go_simp; with_reducible rfl)
                simp only [Act.put, List.setIfInBounds_toArray, List.set_cons_zero, List.set_cons_succ, List.getElem_toArray, List.getElem_cons_succ, List.getElem_cons_zero]
                refine AnyFrom.pure (i := 13) (v := ?_) rfl (by kernel_rfl) (by kernel_rfl) (by kernel_rfl) (by decide) (fun _ _ _ h => h) ⟨by kernel_rfl, ?_⟩ ⟨_, _, hs153.out, mD149⟩ ?_
                rotate_left
                · first | (intro w'; go_simp; done) | (intro w'; go_simp; with_reducible rfl)
                simp only [Act.put, List.setIfInBounds_toArray, List.set_cons_zero, List.set_cons_succ, List.getElem_toArray, List.getElem_cons_succ, List.getElem_cons_zero]
                refine AnyFrom.pure (i := 14) (v := ?_) rfl (by kernel_rfl) (by kernel_rfl) (by kernel_rfl) (by decide) (fun _ _ _ h => h) ⟨by kernel_rfl, ?_⟩ ⟨_, _, hs153.out, mD149⟩ ?_
                rotate_left
                · first | (intro w'; go_simp; done) | (intro w'; go_simp; with_reducible rfl)
                simp only [Act.put, List.setIfInBounds_toArray, List.set_cons_zero, List.set_cons_succ, List.getElem_toArray, List.getElem_cons_succ, List.getElem_cons_zero]
                refine AnyFrom.call (i := 15) (by kernel_rfl) rfl (by kernel_rfl) fun K hK => ?_
                go_simp
                generalize hxo : World.alloc wd151 _ = wA156
                have mA155 : Mem w0 Ho150 ((wd151.heap.size, .cells #[.int .i64 0, .int .i64 0, .int .i64 0, .bool false, .slice none 0 0, .slice none 0 0, .slice none 0 0] 31) :: (w3.heap.size, .cells #[.int .i64 h.size, .int .i64 h.half, .int .i64 h.scan, .bool h.busy, .slice ob h.old.length oc, .slice nb h.new.length nc, .slice rb h.regs.length rc] 31) :: (w.heap.size, PBox size regs (.slice lb ds.length lc)) :: (x8, .cells #[.int .u8 0, .int .i64 0, .string ByteArray.empty] 50) :: L) wA156 := by rw [← hxo]; exact mD149.alloc _
                obtain ⟨x7, hxk⟩ : ∃ k, k = wd151.heap.size := ⟨_, rfl⟩
                rw [← hxk] at mA155
                rw [← hxk]
                replace mA155 := mA155.perm (perm_fr2 _ _ _ _)
                clear hxk hxo
                refine hK _ _ (.inr ⟨_, _, hs153.out, mA155⟩) ?_
                clear hK K
                try simp only [Act.put, List.setIfInBounds_toArray, List.set_cons_zero, List.set_cons_succ, List.getElem_toArray, List.getElem_cons_succ, List.getElem_cons_zero]
                refine AnyFrom.call (i := 17) (by kernel_rfl) rfl (by kernel_rfl) fun K hK => ?_
                have es := mA155.eqs
                simp only [EqsL] at es
                have ns := mA155.nes
                simp only [NeL, NeFrom] at ns
                go_simp
                have mS157 := (((((((mA155.set (i := 0) (v := .int .i64 q.size) (.tail (.tail .head))).set (i := 1) (v := .int .i64 q.half) (.tail (.tail .head))).set (i := 2) (v := .int .i64 q.scan) (.tail (.tail .head))).set (i := 3) (v := .bool q.busy) (.tail (.tail .head))).set (i := 4) (v := .slice ob3 q.old.length oc3) (.tail (.tail .head))).set (i := 5) (v := .slice nb3 q.new.length nc3) (.tail (.tail .head))).set (i := 6) (v := .slice rb3 q.regs.length rc3) (.tail (.tail .head)))
                simp only [List.setIfInBounds_toArray, List.set_cons_zero, List.set_cons_succ] at mS157
                generalize hwx : World.setCell _ _ _ = wS158
                rw [hwx] at mS157
                refine hK _ _ (.inr ⟨_, _, hs153.out, mS157⟩) ?_
                clear hK K
                try simp only [Act.put, List.setIfInBounds_toArray, List.set_cons_zero, List.set_cons_succ, List.getElem_toArray, List.getElem_cons_succ, List.getElem_cons_zero]
                clear es ns hwx
                refine AnyFrom.call (i := 18) (by kernel_rfl) rfl (by kernel_rfl) fun K hK => ?_
                have es := mS157.eqs
                simp only [EqsL] at es
                have ns := mS157.nes
                simp only [NeL, NeFrom] at ns
                go_simp
                have mS159 := (((mS157.set (i := 0) (v := .int .u8 rk) (.tail (.tail (.tail .head)))).set (i := 1) (v := .int .i64 rn) (.tail (.tail (.tail .head)))).set (i := 2) (v := .string rs) (.tail (.tail (.tail .head))))
                simp only [List.setIfInBounds_toArray, List.set_cons_zero, List.set_cons_succ] at mS159
                generalize hwx : World.setCell _ _ _ = wS160
                rw [hwx] at mS159
                refine hK _ _ (.inr ⟨_, _, hs153.out, mS159⟩) ?_
                clear hK K
                try simp only [Act.put, List.setIfInBounds_toArray, List.set_cons_zero, List.set_cons_succ, List.getElem_toArray, List.getElem_cons_succ, List.getElem_cons_zero]
                clear es ns hwx
                refine AnyFrom.pure (i := 19) (v := ?_) rfl (by kernel_rfl) (by kernel_rfl) (by kernel_rfl) (by decide) (fun _ _ _ h => h) ⟨by kernel_rfl, ?_⟩ ⟨_, _, hs153.out, mS159⟩ ?_
                rotate_left
                · first | (intro w'; go_simp; done) | (intro w'; go_simp; with_reducible rfl)
                simp only [Act.put, List.setIfInBounds_toArray, List.set_cons_zero, List.set_cons_succ, List.getElem_toArray, List.getElem_cons_succ, List.getElem_cons_zero]
                refine AnyFrom.done (by kernel_rfl) ?_ _
                exact key x7 x8 blk2 off2 cap2 lb2 lc2 sb2 sc2 ob3 oc3 nb3 nc3 rb3 rc3 ob5 oc5 nb5 nc5 rb5 rc5 _ ⟨Ho150, hle154, F3.out, mS159⟩
               ·
                refine AnyFrom.op rfl (by kernel_rfl) fun K hK => ?_
                go_simp
                generalize hxo : World.alloc wd144 _ = wA162
                have mA161 : Mem w0 Hd143 ((wd144.heap.size, .cells #[.int .i64 0, .int .i64 0, .int .i64 0, .bool false, .slice none 0 0, .slice none 0 0, .slice none 0 0] 31) :: (w3.heap.size, .cells #[.int .i64 h.size, .int .i64 h.half, .int .i64 h.scan, .bool h.busy, .slice ob h.old.length oc, .slice nb h.new.length nc, .slice rb h.regs.length rc] 31) :: (w.heap.size, PBox size regs (.slice lb ds.length lc)) :: (x8, .cells #[.int .u8 0, .int .i64 0, .string ByteArray.empty] 50) :: L) wA162 := by rw [← hxo]; exact mD142.alloc _
                obtain ⟨x7, hxk⟩ : ∃ k, k = wd144.heap.size := ⟨_, rfl⟩
                rw [← hxk] at mA161
                rw [← hxk]
                replace mA161 := mA161.perm (perm_fr2 _ _ _ _)
                clear hxk hxo
                refine hK _ _ (.inr ⟨_, _, hs148.out, mA161⟩) ?_
                clear hK K
                try simp only [Act.put, List.setIfInBounds_toArray, List.set_cons_zero, List.set_cons_succ, List.getElem_toArray, List.getElem_cons_succ, List.getElem_cons_zero]
                refine AnyFrom.call (i := 10) (by kernel_rfl) rfl (by kernel_rfl) fun K hK => ?_
                go_simp
                refine (DoU_any h HGD.out _ _ _ F5.out mA161 d _ _ DR.out (by have := HAL.out; omega)).mono ?_
                rw [hres]
                rintro e wd165 ⟨Ho164, vo3, vn3, vr3, rfl, hl166, f3, mD163⟩
                rw [hq] at f3
                rw [hq, hx]
                obtain ⟨ob3, oc3, nb3, nc3, rb3, rc3, rfl, rfl, rfl⟩ := f3.shape6
                have F3 := Lib.hid f3; clear f3
                unfold HVal ValM.v
                have hs167 := Lib.hid (hs148.out.trans hl166)
                replace F5 := Lib.hid (F5.out.mono hl166)
                replace DR := Lib.hid (DR.out.mono hl166)
                have hle168 := hle147.trans hl166
                refine hK _ _ (.inr ⟨_, _, hs167.out, mD163⟩) ?_
                clear hK K
                try simp only [Act.put, List.setIfInBounds_toArray, List.set_cons_zero, List.set_cons_succ, List.getElem_toArray, List.getElem_cons_succ, List.getElem_cons_zero]
                refine AnyFrom.pure (i := 11) (v := ?_) rfl (by kernel_rfl) (by kernel_rfl) (by kernel_rfl) (by decide) (fun _ _ _ h => h) ⟨by kernel_rfl, ?_⟩ ⟨_, _, hs167.out, mD163⟩ ?_
                rotate_left
                · first | (intro w'; go_simp; done) | (intro w'; go_simp; with_reducible rfl)
                simp only [Act.put, List.setIfInBounds_toArray, List.set_cons_zero, List.set_cons_succ, List.getElem_toArray, List.getElem_cons_succ, List.getElem_cons_zero]
                refine AnyFrom.pure (i := 12) (v := ?_) rfl (by kernel_rfl) (by kernel_rfl) (by kernel_rfl) (by decide) (fun _ _ _ h => h) ⟨by kernel_rfl, ?_⟩ ⟨_, _, hs167.out, mD163⟩ ?_
                rotate_left
                · first | (intro w'; go_simp; done) | (intro w'; go_simp; with_reducible rfl)
                simp only [Act.put, List.setIfInBounds_toArray, List.set_cons_zero, List.set_cons_succ, List.getElem_toArray, List.getElem_cons_succ, List.getElem_cons_zero]
                refine AnyFrom.pure (i := 13) (v := ?_) rfl (by kernel_rfl) (by kernel_rfl) (by kernel_rfl) (by decide) (fun _ _ _ h => h) ⟨by kernel_rfl, ?_⟩ ⟨_, _, hs167.out, mD163⟩ ?_
                rotate_left
                · first | (intro w'; go_simp; done) | (intro w'; go_simp; with_reducible rfl)
                simp only [Act.put, List.setIfInBounds_toArray, List.set_cons_zero, List.set_cons_succ, List.getElem_toArray, List.getElem_cons_succ, List.getElem_cons_zero]
                refine AnyFrom.pure (i := 14) (v := ?_) rfl (by kernel_rfl) (by kernel_rfl) (by kernel_rfl) (by decide) (fun _ _ _ h => h) ⟨by kernel_rfl, ?_⟩ ⟨_, _, hs167.out, mD163⟩ ?_
                rotate_left
                · first | (intro w'; go_simp; done) | (intro w'; go_simp; with_reducible rfl)
                simp only [Act.put, List.setIfInBounds_toArray, List.set_cons_zero, List.set_cons_succ, List.getElem_toArray, List.getElem_cons_succ, List.getElem_cons_zero]
                refine AnyFrom.call (i := 17) (by kernel_rfl) rfl (by kernel_rfl) fun K hK => ?_
                have es := mD163.eqs
                simp only [EqsL] at es
                have ns := mD163.nes
                simp only [NeL, NeFrom] at ns
                go_simp
                have mS169 := (((((((mD163.set (i := 0) (v := .int .i64 q.size) (.tail (.tail .head))).set (i := 1) (v := .int .i64 q.half) (.tail (.tail .head))).set (i := 2) (v := .int .i64 q.scan) (.tail (.tail .head))).set (i := 3) (v := .bool q.busy) (.tail (.tail .head))).set (i := 4) (v := .slice ob3 q.old.length oc3) (.tail (.tail .head))).set (i := 5) (v := .slice nb3 q.new.length nc3) (.tail (.tail .head))).set (i := 6) (v := .slice rb3 q.regs.length rc3) (.tail (.tail .head)))
                simp only [List.setIfInBounds_toArray, List.set_cons_zero, List.set_cons_succ] at mS169
                generalize hwx : World.setCell _ _ _ = wS170
                rw [hwx] at mS169
                refine hK _ _ (.inr ⟨_, _, hs167.out, mS169⟩) ?_
                clear hK K
                try simp only [Act.put, List.setIfInBounds_toArray, List.set_cons_zero, List.set_cons_succ, List.getElem_toArray, List.getElem_cons_succ, List.getElem_cons_zero]
                clear es ns hwx
                refine AnyFrom.call (i := 18) (by kernel_rfl) rfl (by kernel_rfl) fun K hK => ?_
                have es := mS169.eqs
                simp only [EqsL] at es
                have ns := mS169.nes
                simp only [NeL, NeFrom] at ns
                go_simp
                have mS171 := (((mS169.set (i := 0) (v := .int .u8 rk) (.tail (.tail (.tail .head)))).set (i := 1) (v := .int .i64 rn) (.tail (.tail (.tail .head)))).set (i := 2) (v := .string rs) (.tail (.tail (.tail .head))))
                simp only [List.setIfInBounds_toArray, List.set_cons_zero, List.set_cons_succ] at mS171
                generalize hwx : World.setCell _ _ _ = wS172
                rw [hwx] at mS171
                refine hK _ _ (.inr ⟨_, _, hs167.out, mS171⟩) ?_
                clear hK K
                try simp only [Act.put, List.setIfInBounds_toArray, List.set_cons_zero, List.set_cons_succ, List.getElem_toArray, List.getElem_cons_succ, List.getElem_cons_zero]
                clear es ns hwx
                refine AnyFrom.pure (i := 19) (v := ?_) rfl (by kernel_rfl) (by kernel_rfl) (by kernel_rfl) (by decide) (fun _ _ _ h => h) ⟨by kernel_rfl, ?_⟩ ⟨_, _, hs167.out, mS171⟩ ?_
                rotate_left
                · first | (intro w'; go_simp; done) | (intro w'; go_simp; with_reducible rfl)
                simp only [Act.put, List.setIfInBounds_toArray, List.set_cons_zero, List.set_cons_succ, List.getElem_toArray, List.getElem_cons_succ, List.getElem_cons_zero]
                refine AnyFrom.done (by kernel_rfl) ?_ _
                exact key x7 x8 blk2 off2 cap2 lb2 lc2 sb2 sc2 ob3 oc3 nb3 nc3 rb3 rc3 ob5 oc5 nb5 nc5 rb5 rc5 _ ⟨Ho164, hle168, F3.out, mS171⟩
              ·
               refine AnyFrom.op rfl (by kernel_rfl) fun K hK => ?_
               go_simp
               generalize hxo : World.alloc wA141 _ = wA174
               have mA173 : Mem w0 Hc2 ((wA141.heap.size, .cells #[.int .i64 0, .int .i64 0, .int .i64 0, .bool false, .slice none 0 0, .slice none 0 0, .slice none 0 0] 31) :: (w3.heap.size, .cells #[.int .i64 h.size, .int .i64 h.half, .int .i64 h.scan, .bool h.busy, .slice ob h.old.length oc, .slice nb h.new.length nc, .slice rb h.regs.length rc] 31) :: (w.heap.size, PBox size regs (.slice lb ds.length lc)) :: (x8, .cells #[.int .u8 0, .int .i64 0, .string ByteArray.empty] 50) :: L) wA174 := by rw [← hxo]; exact mA140.alloc _
               obtain ⟨x7, hxk⟩ : ∃ k, k = wA141.heap.size := ⟨_, rfl⟩
               rw [← hxk] at mA173
               rw [← hxk]
               replace mA173 := mA173.perm (perm_fr2 _ _ _ _)
               clear hxk hxo
               refine hK _ _ (.inr ⟨_, _, hs5.out, mA173⟩) ?_
               clear hK K
               try simp only [Act.put, List.setIfInBounds_toArray, List.set_cons_zero, List.set_cons_succ, List.getElem_toArray, List.getElem_cons_succ, List.getElem_cons_zero]
               refine AnyFrom.call (i := 7) (by kernel_rfl) rfl (by kernel_rfl) fun K hK => ?_
               go_simp
               refine (lawDeeds_any _ [d] (by simp) (fun d' hd' => by rw [List.mem_singleton] at hd'; rw [hd']; have := HAL.out; omega) (HONE.out.mono hle6) mA173).mono ?_
               rintro e wd177 ⟨Hd176, dv2, rfl, hl178, hdd, mD175⟩
               obtain ⟨db2, cap2, rfl⟩ := hdd.shape
               obtain ⟨blk2, off2, lvv, svv, rfl, hcell2, hdr2⟩ := hdd.getDeed (i := 0) (by simp)
               obtain ⟨lb2, lc2, rfl, -, -, -, -⟩ := hdr2.list
               obtain ⟨sb2, sc2, rfl, -, -, -, -⟩ := hdr2.slots
               rw [Nat.zero_mul, Nat.add_zero] at hcell2
               have CD := Lib.hid hcell2; clear hcell2 hdd
               have DR := Lib.hid (show DeedR Hd176 d _ _ from hdr2); clear hdr2
               have hs179 := Lib.hid (hs5.out.trans hl178)
               replace F5 := Lib.hid (F5.out.mono hl178)
               have hle180 := hle6.trans hl178
               refine hK _ _ (.inr ⟨_, _, hs179.out, mD175⟩) ?_
               clear hK K
               try simp only [Act.put, List.setIfInBounds_toArray, List.set_cons_zero, List.set_cons_succ, List.getElem_toArray, List.getElem_cons_succ, List.getElem_cons_zero]
               refine AnyFrom.stronger (S2 := fun w' => ∃ H' L', Hle Hd176 H' ∧ Mem w0 H' ((w3.heap.size, .cells #[.int .i64 h.size, .int .i64 h.half, .int .i64 h.scan, .bool h.busy, .slice ob h.old.length oc, .slice nb h.new.length nc, .slice rb h.regs.length rc] 31) :: (w.heap.size, PBox size regs (.slice lb ds.length lc)) :: L') w') (fun w' ⟨H', L', hl', hm⟩ => ⟨H', L', hs179.out.trans hl', hm⟩) _ ?_
               have hs181 := Lib.hid (Hle.refl Hd176)
               refine AnyFrom.take (i := 8) (v := ?_) rfl (by kernel_rfl) (by kernel_rfl) (by kernel_rfl) (by kernel_rfl) (fun _ _ _ h => h) ⟨by kernel_rfl, ?_⟩ ⟨_, _, hs181.out, mD175⟩ ?_
               rotate_left
               · first | (rintro w' ⟨H', L', hl', hm⟩; have es := hm.eqs; simp only [EqsL] at es; go_simp; done) | (rintro w' ⟨H', L', hl', hm⟩; have es := hm.eqs; simp only [EqsL] at es; go_simp; with_reducible rfl)
               simp only [Act.put, List.setIfInBounds_toArray, List.set_cons_zero, List.set_cons_succ, List.getElem_toArray, List.getElem_cons_succ, List.getElem_cons_zero]
               refine AnyFrom.take (i := 9) (v := ?_) rfl (by kernel_rfl) (by kernel_rfl) (by kernel_rfl) (by kernel_rfl) (fun _ _ _ h => h) ⟨by kernel_rfl, ?_⟩ ⟨_, _, hs181.out, mD175⟩ ?_
               rotate_left
               · first | (rintro w' ⟨H', L', hl', hm⟩; have es := hm.eqs; simp only [EqsL] at es; have q0 := ((CD.out 0 _ rfl).mono hl').cell hm; have q1 := ((CD.out 1 _ rfl).mono hl').cell hm; have q2 := ((CD.out 2 _ rfl).mono hl').cell hm; have q3 := ((CD.out 3 _ rfl).mono hl').cell hm; have q4 := ((CD.out 4 _ rfl).mono hl').cell hm; have q5 := ((CD.out 5 _ rfl).mono hl').cell hm; have q6 := ((CD.out 6 _ rfl).mono hl').cell hm; have q7 := ((CD.out 7 _ rfl).mono hl').cell hm; have q8 := ((CD.out 8 _ rfl).mono hl').cell hm; have q9 := ((CD.out 9 _ rfl).mono hl').cell hm; have q10 := ((CD.out 10 _ rfl).mono hl').cell hm; have q11 := ((CD.out 11 _ rfl).mono hl').cell hm; rw [Nat.add_zero] at q0; go_simp; done) | (rintro w' ⟨H', L', hl', hm⟩; have es := hm.eqs; simp only [EqsL] at es; have q0 := ((CD.out 0 _ rfl).mono hl').cell hm; have q1 := ((CD.out 1 _ rfl).mono hl').cell hm; have q2 := ((CD.out 2 _ rfl).mono hl').cell hm; have q3 := ((CD.out 3 _ rfl).mono hl').cell hm; have q4 := ((CD.out 4 _ rfl).mono hl').cell hm; have q5 := ((CD.out 5 _ rfl).mono hl').cell hm; have q6 := ((CD.out 6 _ rfl).mono hl').cell hm; have q7 := ((CD.out 7 _ rfl).mono hl').cell hm; have q8 := ((CD.out 8 _ rfl).mono hl').cell hm; have q9 := ((CD.out 9 _ rfl).mono hl').cell hm; have q10 := ((CD.out 10 _ rfl).mono hl').cell hm; have q11 := ((CD.out 11 _ rfl).mono hl').cell hm; rw [Nat.add_zero] at q0; go_simp; with_reducible rfl)
               simp only [Act.put, List.setIfInBounds_toArray, List.set_cons_zero, List.set_cons_succ, List.getElem_toArray, List.getElem_cons_succ, List.getElem_cons_zero]
               refine AnyFrom.call (i := 10) (by kernel_rfl) rfl (by kernel_rfl) fun K hK => ?_
               go_simp
               refine (DoU_any h HGD.out _ _ _ F5.out mD175 d _ _ DR.out (by have := HAL.out; omega)).mono ?_
               rw [hres]
               rintro e wd184 ⟨Ho183, vo3, vn3, vr3, rfl, hl185, f3, mD182⟩
               rw [hq] at f3
               rw [hq, hx]
               obtain ⟨ob3, oc3, nb3, nc3, rb3, rc3, rfl, rfl, rfl⟩ := f3.shape6
               have F3 := Lib.hid f3; clear f3
               unfold HVal ValM.v
               have hs186 := Lib.hid (hs181.out.trans hl185)
               replace F5 := Lib.hid (F5.out.mono hl185)
               replace DR := Lib.hid (DR.out.mono hl185)
               have hle187 := hle180.trans hl185
               refine hK _ _ (.inr ⟨_, _, hs186.out, mD182⟩) ?_
               clear hK K
               try simp only [Act.put, List.setIfInBounds_toArray, List.set_cons_zero, List.set_cons_succ, List.getElem_toArray, List.getElem_cons_succ, List.getElem_cons_zero]
               refine AnyFrom.pure (i := 11) (v := ?_) rfl (by kernel_rfl) (by kernel_rfl) (by kernel_rfl) (by decide) (fun _ _ _ h => h) ⟨by kernel_rfl, ?_⟩ ⟨_, _, hs186.out, mD182⟩ ?_
               rotate_left
               · first | (intro w'; go_simp; done) | (intro w'; go_simp; with_reducible rfl)
               simp only [Act.put, List.setIfInBounds_toArray, List.set_cons_zero, List.set_cons_succ, List.getElem_toArray, List.getElem_cons_succ, List.getElem_cons_zero]
               refine AnyFrom.pure (i := 12) (v := ?_) rfl (by kernel_rfl) (by kernel_rfl) (by kernel_rfl) (by decide) (fun _ _ _ h => h) ⟨by kernel_rfl, ?_⟩ ⟨_, _, hs186.out, mD182⟩ ?_
               rotate_left
               · first | (intro w'; go_simp; done) | (intro w'; go_simp; with_reducible rfl)
               simp only [Act.put, List.setIfInBounds_toArray, List.set_cons_zero, List.set_cons_succ, List.getElem_toArray, List.getElem_cons_succ, List.getElem_cons_zero]
               refine AnyFrom.pure (i := 13) (v := ?_) rfl (by kernel_rfl) (by kernel_rfl) (by kernel_rfl) (by decide) (fun _ _ _ h => h) ⟨by kernel_rfl, ?_⟩ ⟨_, _, hs186.out, mD182⟩ ?_
               rotate_left
               · first | (intro w'; go_simp; done) | (intro w'; go_simp; with_reducible rfl)
               simp only [Act.put, List.setIfInBounds_toArray, List.set_cons_zero, List.set_cons_succ, List.getElem_toArray, List.getElem_cons_succ, List.getElem_cons_zero]
               refine AnyFrom.pure (i := 14) (v := ?_) rfl (by kernel_rfl) (by kernel_rfl) (by kernel_rfl) (by decide) (fun _ _ _ h => h) ⟨by kernel_rfl, ?_⟩ ⟨_, _, hs186.out, mD182⟩ ?_
               rotate_left
               · first | (intro w'; go_simp; done) | (intro w'; go_simp; with_reducible rfl)
               simp only [Act.put, List.setIfInBounds_toArray, List.set_cons_zero, List.set_cons_succ, List.getElem_toArray, List.getElem_cons_succ, List.getElem_cons_zero]
               refine AnyFrom.call (i := 17) (by kernel_rfl) rfl (by kernel_rfl) fun K hK => ?_
               have es := mD182.eqs
               simp only [EqsL] at es
               have ns := mD182.nes
               simp only [NeL, NeFrom] at ns
               go_simp
               have mS188 := (((((((mD182.set (i := 0) (v := .int .i64 q.size) (.tail (.tail .head))).set (i := 1) (v := .int .i64 q.half) (.tail (.tail .head))).set (i := 2) (v := .int .i64 q.scan) (.tail (.tail .head))).set (i := 3) (v := .bool q.busy) (.tail (.tail .head))).set (i := 4) (v := .slice ob3 q.old.length oc3) (.tail (.tail .head))).set (i := 5) (v := .slice nb3 q.new.length nc3) (.tail (.tail .head))).set (i := 6) (v := .slice rb3 q.regs.length rc3) (.tail (.tail .head)))
               simp only [List.setIfInBounds_toArray, List.set_cons_zero, List.set_cons_succ] at mS188
               generalize hwx : World.setCell _ _ _ = wS189
               rw [hwx] at mS188
               refine hK _ _ (.inr ⟨_, _, hs186.out, mS188⟩) ?_
               clear hK K
               try simp only [Act.put, List.setIfInBounds_toArray, List.set_cons_zero, List.set_cons_succ, List.getElem_toArray, List.getElem_cons_succ, List.getElem_cons_zero]
               clear es ns hwx
               refine AnyFrom.call (i := 18) (by kernel_rfl) rfl (by kernel_rfl) fun K hK => ?_
               have es := mS188.eqs
               simp only [EqsL] at es
               have ns := mS188.nes
               simp only [NeL, NeFrom] at ns
               go_simp
               have mS190 := (((mS188.set (i := 0) (v := .int .u8 rk) (.tail (.tail (.tail .head)))).set (i := 1) (v := .int .i64 rn) (.tail (.tail (.tail .head)))).set (i := 2) (v := .string rs) (.tail (.tail (.tail .head))))
               simp only [List.setIfInBounds_toArray, List.set_cons_zero, List.set_cons_succ] at mS190
               generalize hwx : World.setCell _ _ _ = wS191
               rw [hwx] at mS190
               refine hK _ _ (.inr ⟨_, _, hs186.out, mS190⟩) ?_
               clear hK K
               try simp only [Act.put, List.setIfInBounds_toArray, List.set_cons_zero, List.set_cons_succ, List.getElem_toArray, List.getElem_cons_succ, List.getElem_cons_zero]
               clear es ns hwx
               refine AnyFrom.pure (i := 19) (v := ?_) rfl (by kernel_rfl) (by kernel_rfl) (by kernel_rfl) (by decide) (fun _ _ _ h => h) ⟨by kernel_rfl, ?_⟩ ⟨_, _, hs186.out, mS190⟩ ?_
               rotate_left
               · first | (intro w'; go_simp; done) | (intro w'; go_simp; with_reducible rfl)
               simp only [Act.put, List.setIfInBounds_toArray, List.set_cons_zero, List.set_cons_succ, List.getElem_toArray, List.getElem_cons_succ, List.getElem_cons_zero]
               refine AnyFrom.done (by kernel_rfl) ?_ _
               exact key x7 x8 blk2 off2 cap2 lb2 lc2 sb2 sc2 ob3 oc3 nb3 nc3 rb3 rc3 ob5 oc5 nb5 nc5 rb5 rc5 _ ⟨Ho183, hle187, F3.out, mS190⟩
            ·
             refine AnyFrom.op rfl (by kernel_rfl) fun K hK => ?_
             go_simp
             generalize hxo : World.alloc W _ = wA193
             have mA192 : Mem w0 Hk ((W.heap.size, .cells #[.int .i64 0, .int .i64 0, .int .i64 0, .bool false, .slice none 0 0, .slice none 0 0, .slice none 0 0] 31) :: (w3.heap.size, .cells #[.int .i64 h.size, .int .i64 h.half, .int .i64 h.scan, .bool h.busy, .slice ob h.old.length oc, .slice nb h.new.length nc, .slice rb h.regs.length rc] 31) :: (w.heap.size, PBox size regs (.slice lb ds.length lc)) :: L) wA193 := by rw [← hxo]; exact mW.alloc _
             obtain ⟨x7, hxk⟩ : ∃ k, k = W.heap.size := ⟨_, rfl⟩
             rw [← hxk] at mA192
             rw [← hxk]
             replace mA192 := mA192.perm (perm_fr2 _ _ _ _)
             clear hxk hxo
             refine hK _ _ (.inr ⟨_, _, hs0.out, mA192⟩) ?_
             clear hK K
             try simp only [Act.put, List.setIfInBounds_toArray, List.set_cons_zero, List.set_cons_succ, List.getElem_toArray, List.getElem_cons_succ, List.getElem_cons_zero]
             refine AnyFrom.two (i := 1) (j := 16) (by kernel_rfl) ?_ ?_
             ·
              refine AnyFrom.op rfl (by kernel_rfl) fun K hK => ?_
              go_simp
              refine (Copy_fr h hbds _ _ _ (HF.out.mono hle0) mA192).mono ?_
              rintro e wc196 ⟨Hc195, vo5, vn5, vr5, rfl, hl197, f5, mC194⟩
              obtain ⟨ob5, oc5, nb5, nc5, rb5, rc5, rfl, rfl, rfl⟩ := f5.shape6
              have F5 := Lib.hid f5; clear f5
              unfold HVal
              have hs198 := Lib.hid (hs0.out.trans hl197)
              have hle199 := hle0.trans hl197
              refine hK _ _ (.inr ⟨_, _, hs198.out, mC194⟩) ?_
              clear hK K
              try simp only [Act.put, List.setIfInBounds_toArray, List.set_cons_zero, List.set_cons_succ, List.getElem_toArray, List.getElem_cons_succ, List.getElem_cons_zero]
              refine AnyFrom.two (i := 7) (j := 16) (by kernel_rfl) ?_ ?_
              ·
               refine AnyFrom.op rfl (by kernel_rfl) fun K hK => ?_
               go_simp
               refine (lawDeeds_any _ [d] (by simp) (fun d' hd' => by rw [List.mem_singleton] at hd'; rw [hd']; have := HAL.out; omega) (HONE.out.mono hle199) mC194).mono ?_
               rintro e wd202 ⟨Hd201, dv2, rfl, hl203, hdd, mD200⟩
               obtain ⟨db2, cap2, rfl⟩ := hdd.shape
               obtain ⟨blk2, off2, lvv, svv, rfl, hcell2, hdr2⟩ := hdd.getDeed (i := 0) (by simp)
               obtain ⟨lb2, lc2, rfl, -, -, -, -⟩ := hdr2.list
               obtain ⟨sb2, sc2, rfl, -, -, -, -⟩ := hdr2.slots
               rw [Nat.zero_mul, Nat.add_zero] at hcell2
               have CD := Lib.hid hcell2; clear hcell2 hdd
               have DR := Lib.hid (show DeedR Hd201 d _ _ from hdr2); clear hdr2
               have hs204 := Lib.hid (hs198.out.trans hl203)
               replace F5 := Lib.hid (F5.out.mono hl203)
               have hle205 := hle199.trans hl203
               refine hK _ _ (.inr ⟨_, _, hs204.out, mD200⟩) ?_
               clear hK K
               try simp only [Act.put, List.setIfInBounds_toArray, List.set_cons_zero, List.set_cons_succ, List.getElem_toArray, List.getElem_cons_succ, List.getElem_cons_zero]
               refine AnyFrom.stronger (S2 := fun w' => ∃ H' L', Hle Hd201 H' ∧ Mem w0 H' ((w3.heap.size, .cells #[.int .i64 h.size, .int .i64 h.half, .int .i64 h.scan, .bool h.busy, .slice ob h.old.length oc, .slice nb h.new.length nc, .slice rb h.regs.length rc] 31) :: (w.heap.size, PBox size regs (.slice lb ds.length lc)) :: L') w') (fun w' ⟨H', L', hl', hm⟩ => ⟨H', L', hs204.out.trans hl', hm⟩) _ ?_
               have hs206 := Lib.hid (Hle.refl Hd201)
               refine AnyFrom.take (i := 8) (v := ?_) rfl (by kernel_rfl) (by kernel_rfl) (by kernel_rfl) (by kernel_rfl) (fun _ _ _ h => h) ⟨by kernel_rfl, ?_⟩ ⟨_, _, hs206.out, mD200⟩ ?_
               rotate_left
               · first | (rintro w' ⟨H', L', hl', hm⟩; have es := hm.eqs; simp only [EqsL] at es; go_simp; done) | (rintro w' ⟨H', L', hl', hm⟩; have es := hm.eqs; simp only [EqsL] at es; go_simp; with_reducible rfl)
               simp only [Act.put, List.setIfInBounds_toArray, List.set_cons_zero, List.set_cons_succ, List.getElem_toArray, List.getElem_cons_succ, List.getElem_cons_zero]
               refine AnyFrom.take (i := 9) (v := ?_) rfl (by kernel_rfl) (by kernel_rfl) (by kernel_rfl) (by kernel_rfl) (fun _ _ _ h => h) ⟨by kernel_rfl, ?_⟩ ⟨_, _, hs206.out, mD200⟩ ?_
               rotate_left
               · first | (rintro w' ⟨H', L', hl', hm⟩; have es := hm.eqs; simp only [EqsL] at es; have q0 := ((CD.out 0 _ rfl).mono hl').cell hm; have q1 := ((CD.out 1 _ rfl).mono hl').cell hm; have q2 := ((CD.out 2 _ rfl).mono hl').cell hm; have q3 := ((CD.out 3 _ rfl).mono hl').cell hm; have q4 := ((CD.out 4 _ rfl).mono hl').cell hm; have q5 := ((CD.out 5 _ rfl).mono hl').cell hm; have q6 := ((CD.out 6 _ rfl).mono hl').cell hm; have q7 := ((CD.out 7 _ rfl).mono hl').cell hm; have q8 := ((CD.out 8 _ rfl).mono hl').cell hm; have q9 := ((CD.out 9 _ rfl).mono hl').cell hm; have q10 := ((CD.out 10 _ rfl).mono hl').cell hm; have q11 := ((CD.out 11 _ rfl).mono hl').cell hm; rw [Nat.add_zero] at q0; go_simp; done) | (rintro w' ⟨H', L', hl', hm⟩; have es := hm.eqs; simp only [EqsL] at es; have q0 := ((CD.out 0 _ rfl).mono hl').cell hm; have q1 := ((CD.out 1 _ rfl).mono hl').cell hm; have q2 := ((CD.out 2 _ rfl).mono hl').cell hm; have q3 := ((CD.out 3 _ rfl).mono hl').cell hm; have q4 := ((CD.out 4 _ rfl).mono hl').cell hm; have q5 := ((CD.out 5 _ rfl).mono hl').cell hm; have q6 := ((CD.out 6 _ rfl).mono hl').cell hm; have q7 := ((CD.out 7 _ rfl).mono hl').cell hm; have q8 := ((CD.out 8 _ rfl).mono hl').cell hm; have q9 := ((CD.out 9 _ rfl).mono hl').cell hm; have q10 := ((CD.out 10 _ rfl).mono hl').cell hm; have q11 := ((CD.out 11 _ rfl).mono hl').cell hm; rw [Nat.add_zero] at q0; go_simp; with_reducible rfl)
               simp only [Act.put, List.setIfInBounds_toArray, List.set_cons_zero, List.set_cons_succ, List.getElem_toArray, List.getElem_cons_succ, List.getElem_cons_zero]
               refine AnyFrom.two (i := 10) (j := 16) (by kernel_rfl) ?_ ?_
               ·
                refine AnyFrom.op rfl (by kernel_rfl) fun K hK => ?_
                go_simp
                refine (DoU_any h HGD.out _ _ _ F5.out mD200 d _ _ DR.out (by have := HAL.out; omega)).mono ?_
                rw [hres]
                rintro e wd209 ⟨Ho208, vo3, vn3, vr3, rfl, hl210, f3, mD207⟩
                rw [hq] at f3
                rw [hq, hx]
                obtain ⟨ob3, oc3, nb3, nc3, rb3, rc3, rfl, rfl, rfl⟩ := f3.shape6
                have F3 := Lib.hid f3; clear f3
                unfold HVal ValM.v
                have hs211 := Lib.hid (hs206.out.trans hl210)
                replace F5 := Lib.hid (F5.out.mono hl210)
                replace DR := Lib.hid (DR.out.mono hl210)
                have hle212 := hle205.trans hl210
                refine hK _ _ (.inr ⟨_, _, hs211.out, mD207⟩) ?_
                clear hK K
                try simp only [Act.put, List.setIfInBounds_toArray, List.set_cons_zero, List.set_cons_succ, List.getElem_toArray, List.getElem_cons_succ, List.getElem_cons_zero]
                refine AnyFrom.pure (i := 11) (v := ?_) rfl (by kernel_rfl) (by kernel_rfl) (by kernel_rfl) (by decide) (fun _ _ _ h => h) ⟨by kernel_rfl, ?_⟩ ⟨_, _, hs211.out, mD207⟩ ?_
                rotate_left
                · first | (intro w'; go_simp; done) | (intro w'; go_simp; with_reducible rfl)
                simp only [Act.put, List.setIfInBounds_toArray, List.set_cons_zero, List.set_cons_succ, List.getElem_toArray, List.getElem_cons_succ, List.getElem_cons_zero]
                refine AnyFrom.pure (i := 12) (v := ?_) rfl (by kernel_rfl) (by kernel_rfl) (by kernel_rfl) (by decide) (fun _ _ _ h => h) ⟨by kernel_rfl, ?_⟩ ⟨_, _, hs211.out, mD207⟩ ?_
                rotate_left
                · first | (intro w'; go_simp; done) | (intro w'; go_simp; with_reducible rfl)
                simp only [Act.put, List.setIfInBounds_toArray, List.set_cons_zero, List.set_cons_succ, List.getElem_toArray, List.getElem_cons_succ, List.getElem_cons_zero]
                refine AnyFrom.pure (i := 13) (v := ?_) rfl (by kernel_rfl) (by kernel_rfl) (by kernel_rfl) (by decide) (fun _ _ _ h => h) ⟨by kernel_rfl, ?_⟩ ⟨_, _, hs211.out, mD207⟩ ?_
                rotate_left
                · first | (intro w'; go_simp; done) | (intro w'; go_simp; with_reducible rfl)
                simp only [Act.put, List.setIfInBounds_toArray, List.set_cons_zero, List.set_cons_succ, List.getElem_toArray, List.getElem_cons_succ, List.getElem_cons_zero]
                refine AnyFrom.pure (i := 14) (v := ?_) rfl (by kernel_rfl) (by kernel_rfl) (by kernel_rfl) (by decide) (fun _ _ _ h => h) ⟨by kernel_rfl, ?_⟩ ⟨_, _, hs211.out, mD207⟩ ?_
                rotate_left
                · first | (intro w'; go_simp; done) | (intro w'; go_simp; with_reducible rfl)
                simp only [Act.put, List.setIfInBounds_toArray, List.set_cons_zero, List.set_cons_succ, List.getElem_toArray, List.getElem_cons_succ, List.getElem_cons_zero]
                refine AnyFrom.call (i := 16) (by kernel_rfl) rfl (by kernel_rfl) fun K hK => ?_
                go_simp
                generalize hxo : World.alloc wd209 _ = wA214
                have mA213 : Mem w0 Ho208 ((wd209.heap.size, .cells #[.int .u8 0, .int .i64 0, .string ByteArray.empty] 50) :: (w3.heap.size, .cells #[.int .i64 h.size, .int .i64 h.half, .int .i64 h.scan, .bool h.busy, .slice ob h.old.length oc, .slice nb h.new.length nc, .slice rb h.regs.length rc] 31) :: (w.heap.size, PBox size regs (.slice lb ds.length lc)) :: (x7, .cells #[.int .i64 0, .int .i64 0, .int .i64 0, .bool false, .slice none 0 0, .slice none 0 0, .slice none 0 0] 31) :: L) wA214 := by rw [← hxo]; exact mD207.alloc _
                obtain ⟨x8, hxk⟩ : ∃ k, k = wd209.heap.size := ⟨_, rfl⟩
                rw [← hxk] at mA213
                rw [← hxk]
                replace mA213 := mA213.perm (perm_fr2 _ _ _ _)
                clear hxk hxo
                refine hK _ _ (.inr ⟨_, _, hs211.out, mA213⟩) ?_
                clear hK K
                try simp only [Act.put, List.setIfInBounds_toArray, List.set_cons_zero, List.set_cons_succ, List.getElem_toArray, List.getElem_cons_succ, List.getElem_cons_zero]
                refine AnyFrom.call (i := 17) (by kernel_rfl) rfl (by kernel_rfl) fun K hK => ?_
                have es := mA213.eqs
                simp only [EqsL] at es
                have ns := mA213.nes
                simp only [NeL, NeFrom] at ns
                go_simp
                have mS215 := (((((((mA213.set (i := 0) (v := .int .i64 q.size) (.tail (.tail (.tail .head)))).set (i := 1) (v := .int .i64 q.half) (.tail (.tail (.tail .head)))).set (i := 2) (v := .int .i64 q.scan) (.tail (.tail (.tail .head)))).set (i := 3) (v := .bool q.busy) (.tail (.tail (.tail .head)))).set (i := 4) (v := .slice ob3 q.old.length oc3) (.tail (.tail (.tail .head)))).set (i := 5) (v := .slice nb3 q.new.length nc3) (.tail (.tail (.tail .head)))).set (i := 6) (v := .slice rb3 q.regs.length rc3) (.tail (.tail (.tail .head))))
                simp only [List.setIfInBounds_toArray, List.set_cons_zero, List.set_cons_succ] at mS215
                generalize hwx : World.setCell _ _ _ = wS216
                rw [hwx] at mS215
                refine hK _ _ (.inr ⟨_, _, hs211.out, mS215⟩) ?_
                clear hK K
                try simp only [Act.put, List.setIfInBounds_toArray, List.set_cons_zero, List.set_cons_succ, List.getElem_toArray, List.getElem_cons_succ, List.getElem_cons_zero]
                clear es ns hwx
                refine AnyFrom.call (i := 18) (by kernel_rfl) rfl (by kernel_rfl) fun K hK => ?_
                have es := mS215.eqs
                simp only [EqsL] at es
                have ns := mS215.nes
                simp only [NeL, NeFrom] at ns
                go_simp
                have mS217 := (((mS215.set (i := 0) (v := .int .u8 rk) (.tail (.tail .head))).set (i := 1) (v := .int .i64 rn) (.tail (.tail .head))).set (i := 2) (v := .string rs) (.tail (.tail .head)))
                simp only [List.setIfInBounds_toArray, List.set_cons_zero, List.set_cons_succ] at mS217
                generalize hwx : World.setCell _ _ _ = wS218
                rw [hwx] at mS217
                refine hK _ _ (.inr ⟨_, _, hs211.out, mS217⟩) ?_
                clear hK K
                try simp only [Act.put, List.setIfInBounds_toArray, List.set_cons_zero, List.set_cons_succ, List.getElem_toArray, List.getElem_cons_succ, List.getElem_cons_zero]
                clear es ns hwx
                refine AnyFrom.pure (i := 19) (v := ?_) rfl (by kernel_rfl) (by kernel_rfl) (by kernel_rfl) (by decide) (fun _ _ _ h => h) ⟨by kernel_rfl, ?_⟩ ⟨_, _, hs211.out, mS217⟩ ?_
                rotate_left
                · first | (intro w'; go_simp; done) | (intro w'; go_simp; with_reducible rfl)
                simp only [Act.put, List.setIfInBounds_toArray, List.set_cons_zero, List.set_cons_succ, List.getElem_toArray, List.getElem_cons_succ, List.getElem_cons_zero]
                refine AnyFrom.done (by kernel_rfl) ?_ _
                exact key x7 x8 blk2 off2 cap2 lb2 lc2 sb2 sc2 ob3 oc3 nb3 nc3 rb3 rc3 ob5 oc5 nb5 nc5 rb5 rc5 _ ⟨Ho208, hle212, F3.out, (mS217.perm (perm_sw2 _ _ _ _ _))⟩
               ·
                refine AnyFrom.op rfl (by kernel_rfl) fun K hK => ?_
                go_simp
                generalize hxo : World.alloc wd202 _ = wA220
                have mA219 : Mem w0 Hd201 ((wd202.heap.size, .cells #[.int .u8 0, .int .i64 0, .string ByteArray.empty] 50) :: (w3.heap.size, .cells #[.int .i64 h.size, .int .i64 h.half, .int .i64 h.scan, .bool h.busy, .slice ob h.old.length oc, .slice nb h.new.length nc, .slice rb h.regs.length rc] 31) :: (w.heap.size, PBox size regs (.slice lb ds.length lc)) :: (x7, .cells #[.int .i64 0, .int .i64 0, .int .i64 0, .bool false, .slice none 0 0, .slice none 0 0, .slice none 0 0] 31) :: L) wA220 := by rw [← hxo]; exact mD200.alloc _
                obtain ⟨x8, hxk⟩ : ∃ k, k = wd202.heap.size := ⟨_, rfl⟩
                rw [← hxk] at mA219
                rw [← hxk]
                replace mA219 := mA219.perm (perm_fr2 _ _ _ _)
                clear hxk hxo
                refine hK _ _ (.inr ⟨_, _, hs206.out, mA219⟩) ?_
                clear hK K
                try simp only [Act.put, List.setIfInBounds_toArray, List.set_cons_zero, List.set_cons_succ, List.getElem_toArray, List.getElem_cons_succ, List.getElem_cons_zero]
                refine AnyFrom.call (i := 10) (by kernel_rfl) rfl (by kernel_rfl) fun K hK => ?_
                go_simp
                refine (DoU_any h HGD.out _ _ _ F5.out mA219 d _ _ DR.out (by have := HAL.out; omega)).mono ?_
                rw [hres]
                rintro e wd223 ⟨Ho222, vo3, vn3, vr3, rfl, hl224, f3, mD221⟩
                rw [hq] at f3
                rw [hq, hx]
                obtain ⟨ob3, oc3, nb3, nc3, rb3, rc3, rfl, rfl, rfl⟩ := f3.shape6
                have F3 := Lib.hid f3; clear f3
                unfold HVal ValM.v
                have hs225 := Lib.hid (hs206.out.trans hl224)
                replace F5 := Lib.hid (F5.out.mono hl224)
                replace DR := Lib.hid (DR.out.mono hl224)
                have hle226 := hle205.trans hl224
                refine hK _ _ (.inr ⟨_, _, hs225.out, mD221⟩) ?_
                clear hK K
                try simp only [Act.put, List.setIfInBounds_toArray, List.set_cons_zero, List.set_cons_succ, List.getElem_toArray, List.getElem_cons_succ, List.getElem_cons_zero]
                refine AnyFrom.pure (i := 11) (v := ?_) rfl (by kernel_rfl) (by kernel_rfl) (by kernel_rfl) (by decide) (fun _ _ _ h => h) ⟨by kernel_rfl, ?_⟩ ⟨_, _, hs225.out, mD221⟩ ?_
                rotate_left
                · first | (intro w'; go_simp; done) | (intro w'; go_simp; with_reducible rfl)
                simp only [Act.put, List.setIfInBounds_toArray, List.set_cons_zero, List.set_cons_succ, List.getElem_toArray, List.getElem_cons_succ, List.getElem_cons_zero]
                refine AnyFrom.pure (i := 12) (v := ?_) rfl (by kernel_rfl) (by kernel_rfl) (by kernel_rfl) (by decide) (fun _ _ _ h => h) ⟨by kernel_rfl, ?_⟩ ⟨_, _, hs225.out, mD221⟩ ?_
                rotate_left
                · first | (intro w'; go_simp; done) | (intro w'; go_simp; with_reducible rfl)
                simp only [Act.put, List.setIfInBounds_toArray, List.set_cons_zero, List.set_cons_succ, List.getElem_toArray, List.getElem_cons_succ, List.getElem_cons_zero]
                refine AnyFrom.pure (i := 13) (v := ?_) rfl (by kernel_rfl) (by kernel_rfl) (by kernel_rfl) (by decide) (fun _ _ _ h => h) ⟨by kernel_rfl, ?_⟩ ⟨_, _, hs225.out, mD221⟩ ?_
                rotate_left
                · first | (intro w'; go_simp; done) | (intro w'; go_simp; with_reducible rfl)
                simp only [Act.put, List.setIfInBounds_toArray, List.set_cons_zero, List.set_cons_succ, List.getElem_toArray, List.getElem_cons_succ, List.getElem_cons_zero]
                refine AnyFrom.pure (i := 14) (v := ?_) rfl (by kernel_rfl) (by kernel_rfl) (by kernel_rfl) (by decide) (fun _ _ _ h => h) ⟨by kernel_rfl, ?_⟩ ⟨_, _, hs225.out, mD221⟩ ?_
                rotate_left
                · first | (intro w'; go_simp; done) | (intro w'; go_simp; with_reducible rfl)
                simp only [Act.put, List.setIfInBounds_toArray, List.set_cons_zero, List.set_cons_succ, List.getElem_toArray, List.getElem_cons_succ, List.getElem_cons_zero]
                refine AnyFrom.call (i := 17) (by kernel_rfl) rfl (by kernel_rfl) fun K hK => ?_
                have es := mD221.eqs
                simp only [EqsL] at es
                have ns := mD221.nes
                simp only [NeL, NeFrom] at ns
                go_simp
                have mS227 := (((((((mD221.set (i := 0) (v := .int .i64 q.size) (.tail (.tail (.tail .head)))).set (i := 1) (v := .int .i64 q.half) (.tail (.tail (.tail .head)))).set (i := 2) (v := .int .i64 q.scan) (.tail (.tail (.tail .head)))).set (i := 3) (v := .bool q.busy) (.tail (.tail (.tail .head)))).set (i := 4) (v := .slice ob3 q.old.length oc3) (.tail (.tail (.tail .head)))).set (i := 5) (v := .slice nb3 q.new.length nc3) (.tail (.tail (.tail .head)))).set (i := 6) (v := .slice rb3 q.regs.length rc3) (.tail (.tail (.tail .head))))
                simp only [List.setIfInBounds_toArray, List.set_cons_zero, List.set_cons_succ] at mS227
                generalize hwx : World.setCell _ _ _ = wS228
                rw [hwx] at mS227
                refine hK _ _ (.inr ⟨_, _, hs225.out, mS227⟩) ?_
                clear hK K
                try simp only [Act.put, List.setIfInBounds_toArray, List.set_cons_zero, List.set_cons_succ, List.getElem_toArray, List.getElem_cons_succ, List.getElem_cons_zero]
                clear es ns hwx
                refine AnyFrom.call (i := 18) (by kernel_rfl) rfl (by kernel_rfl) fun K hK => ?_
                have es := mS227.eqs
                simp only [EqsL] at es
                have ns := mS227.nes
                simp only [NeL, NeFrom] at ns
                go_simp
                have mS229 := (((mS227.set (i := 0) (v := .int .u8 rk) (.tail (.tail .head))).set (i := 1) (v := .int .i64 rn) (.tail (.tail .head))).set (i := 2) (v := .string rs) (.tail (.tail .head)))
                simp only [List.setIfInBounds_toArray, List.set_cons_zero, List.set_cons_succ] at mS229
                generalize hwx : World.setCell _ _ _ = wS230
                rw [hwx] at mS229
                refine hK _ _ (.inr ⟨_, _, hs225.out, mS229⟩) ?_
                clear hK K
                try simp only [Act.put, List.setIfInBounds_toArray, List.set_cons_zero, List.set_cons_succ, List.getElem_toArray, List.getElem_cons_succ, List.getElem_cons_zero]
                clear es ns hwx
                refine AnyFrom.pure (i := 19) (v := ?_) rfl (by kernel_rfl) (by kernel_rfl) (by kernel_rfl) (by decide) (fun _ _ _ h => h) ⟨by kernel_rfl, ?_⟩ ⟨_, _, hs225.out, mS229⟩ ?_
                rotate_left
                · first | (intro w'; go_simp; done) | (intro w'; go_simp; with_reducible rfl)
                simp only [Act.put, List.setIfInBounds_toArray, List.set_cons_zero, List.set_cons_succ, List.getElem_toArray, List.getElem_cons_succ, List.getElem_cons_zero]
                refine AnyFrom.done (by kernel_rfl) ?_ _
                exact key x7 x8 blk2 off2 cap2 lb2 lc2 sb2 sc2 ob3 oc3 nb3 nc3 rb3 rc3 ob5 oc5 nb5 nc5 rb5 rc5 _ ⟨Ho222, hle226, F3.out, (mS229.perm (perm_sw2 _ _ _ _ _))⟩
              ·
               refine AnyFrom.op rfl (by kernel_rfl) fun K hK => ?_
               go_simp
               generalize hxo : World.alloc wc196 _ = wA232
               have mA231 : Mem w0 Hc195 ((wc196.heap.size, .cells #[.int .u8 0, .int .i64 0, .string ByteArray.empty] 50) :: (w3.heap.size, .cells #[.int .i64 h.size, .int .i64 h.half, .int .i64 h.scan, .bool h.busy, .slice ob h.old.length oc, .slice nb h.new.length nc, .slice rb h.regs.length rc] 31) :: (w.heap.size, PBox size regs (.slice lb ds.length lc)) :: (x7, .cells #[.int .i64 0, .int .i64 0, .int .i64 0, .bool false, .slice none 0 0, .slice none 0 0, .slice none 0 0] 31) :: L) wA232 := by rw [← hxo]; exact mC194.alloc _
               obtain ⟨x8, hxk⟩ : ∃ k, k = wc196.heap.size := ⟨_, rfl⟩
               rw [← hxk] at mA231
               rw [← hxk]
               replace mA231 := mA231.perm (perm_fr2 _ _ _ _)
               clear hxk hxo
               refine hK _ _ (.inr ⟨_, _, hs198.out, mA231⟩) ?_
               clear hK K
               try simp only [Act.put, List.setIfInBounds_toArray, List.set_cons_zero, List.set_cons_succ, List.getElem_toArray, List.getElem_cons_succ, List.getElem_cons_zero]
               refine AnyFrom.call (i := 7) (by kernel_rfl) rfl (by kernel_rfl) fun K hK => ?_
               go_simp
               refine (lawDeeds_any _ [d] (by simp) (fun d' hd' => by rw [List.mem_singleton] at hd'; rw [hd']; have := HAL.out; omega) (HONE.out.mono hle199) mA231).mono ?_
               rintro e wd235 ⟨Hd234, dv2, rfl, hl236, hdd, mD233⟩
               obtain ⟨db2, cap2, rfl⟩ := hdd.shape
               obtain ⟨blk2, off2, lvv, svv, rfl, hcell2, hdr2⟩ := hdd.getDeed (i := 0) (by simp)
               obtain ⟨lb2, lc2, rfl, -, -, -, -⟩ := hdr2.list
               obtain ⟨sb2, sc2, rfl, -, -, -, -⟩ := hdr2.slots
               rw [Nat.zero_mul, Nat.add_zero] at hcell2
               have CD := Lib.hid hcell2; clear hcell2 hdd
               have DR := Lib.hid (show DeedR Hd234 d _ _ from hdr2); clear hdr2
               have hs237 := Lib.hid (hs198.out.trans hl236)
               replace F5 := Lib.hid (F5.out.mono hl236)
               have hle238 := hle199.trans hl236
               refine hK _ _ (.inr ⟨_, _, hs237.out, mD233⟩) ?_
               clear hK K
               try simp only [Act.put, List.setIfInBounds_toArray, List.set_cons_zero, List.set_cons_succ, List.getElem_toArray, List.getElem_cons_succ, List.getElem_cons_zero]
               refine AnyFrom.stronger (S2 := fun w' => ∃ H' L', Hle Hd234 H' ∧ Mem w0 H' ((w3.heap.size, .cells #[.int .i64 h.size, .int .i64 h.half, .int .i64 h.scan, .bool h.busy, .slice ob h.old.length oc, .slice nb h.new.length nc, .slice rb h.regs.length rc] 31) :: (w.heap.size, PBox size regs (.slice lb ds.length lc)) :: L') w') (fun w' ⟨H', L', hl', hm⟩ => ⟨H', L', hs237.out.trans hl', hm⟩) _ ?_
               have hs239 := Lib.hid (Hle.refl Hd234)
               refine AnyFrom.take (i := 8) (v := ?_) rfl (by kernel_rfl) (by kernel_rfl) (by kernel_rfl) (by kernel_rfl) (fun _ _ _ h => h) ⟨by kernel_rfl, ?_⟩ ⟨_, _, hs239.out, mD233⟩ ?_
               rotate_left
               · first | (rintro w' ⟨H', L', hl', hm⟩; have es := hm.eqs; simp only [EqsL] at es; go_simp; done) | (rintro w' ⟨H', L', hl', hm⟩; have es := hm.eqs; simp only [EqsL] at es; go_simp; with_reducible rfl)
               simp only [Act.put, List.setIfInBounds_toArray, List.set_cons_zero, List.set_cons_succ, List.getElem_toArray, List.getElem_cons_succ, List.getElem_cons_zero]
               refine AnyFrom.take (i := 9) (v := ?_) rfl (by kernel_rfl) (by kernel_rfl) (by kernel_rfl) (by kernel_rfl) (fun _ _ _ h => h) ⟨by kernel_rfl, ?_⟩ ⟨_, _, hs239.out, mD233⟩ ?_
               rotate_left
               · first | (rintro w' ⟨H', L', hl', hm⟩; have es := hm.eqs; simp only [EqsL] at es; have q0 := ((CD.out 0 _ rfl).mono hl').cell hm; have q1 := ((CD.out 1 _ rfl).mono hl').cell hm; have q2 := ((CD.out 2 _ rfl).mono hl').cell hm; have q3 := ((CD.out 3 _ rfl).mono hl').cell hm; have q4 := ((CD.out 4 _ rfl).mono hl').cell hm; have q5 := ((CD.out 5 _ rfl).mono hl').cell hm; have q6 := ((CD.out 6 _ rfl).mono hl').cell hm; have q7 := ((CD.out 7 _ rfl).mono hl').cell hm; have q8 := ((CD.out 8 _ rfl).mono hl').cell hm; have q9 := ((CD.out 9 _ rfl).mono hl').cell hm; have q10 := ((CD.out 10 _ rfl).mono hl').cell hm; have q11 := ((CD.out 11 _ rfl).mono hl').cell hm; rw [Nat.add_zero] at q0; go_simp; done) | (rintro w' ⟨H', L', hl', hm⟩; have es := hm.eqs; simp only [EqsL] at es; have q0 := ((CD.out 0 _ rfl).mono hl').cell hm; have q1 := ((CD.out 1 _ rfl).mono hl').cell hm; have q2 := ((CD.out 2 _ rfl).mono hl').cell hm; have q3 := ((CD.out 3 _ rfl).mono hl').cell hm; have q4 := ((CD.out 4 _ rfl).mono hl').cell hm; have q5 := ((CD.out 5 _ rfl).mono hl').cell hm; have q6 := ((CD.out 6 _ rfl).mono hl').cell hm; have q7 := ((CD.out 7 _ rfl).mono hl').cell hm; have q8 := ((CD.out 8 _ rfl).mono hl').cell hm; have q9 := ((CD.out 9 _ rfl).mono hl').cell hm; have q10 := ((CD.out 10 _ rfl).mono hl').cell hm; have q11 := ((CD.out 11 _ rfl).mono hl').cell hm; rw [Nat.add_zero] at q0; go_simp; with_reducible rfl)
               simp only [Act.put, List.setIfInBounds_toArray, List.set_cons_zero, List.set_cons_succ, List.getElem_toArray, List.getElem_cons_succ, List.getElem_cons_zero]
               refine AnyFrom.call (i := 10) (by kernel_rfl) rfl (by kernel_rfl) fun K hK => ?_
               go_simp
               refine (DoU_any h HGD.out _ _ _ F5.out mD233 d _ _ DR.out (by have := HAL.out; omega)).mono ?_
               rw [hres]
               rintro e wd242 ⟨Ho241, vo3, vn3, vr3, rfl, hl243, f3, mD240⟩
               rw [hq] at f3
               rw [hq, hx]
               obtain ⟨ob3, oc3, nb3, nc3, rb3, rc3, rfl, rfl, rfl⟩ := f3.shape6
               have F3 := Lib.hid f3; clear f3
               unfold HVal ValM.v
               have hs244 := Lib.hid (hs239.out.trans hl243)
               replace F5 := Lib.hid (F5.out.mono hl243)
               replace DR := Lib.hid (DR.out.mono hl243)
               have hle245 := hle238.trans hl243
               refine hK _ _ (.inr ⟨_, _, hs244.out, mD240⟩) ?_
               clear hK K
               try simp only [Act.put, List.setIfInBounds_toArray, List.set_cons_zero, List.set_cons_succ, List.getElem_toArray, List.getElem_cons_succ, List.getElem_cons_zero]
               refine AnyFrom.pure (i := 11) (v := ?_) rfl (by kernel_rfl) (by kernel_rfl) (by kernel_rfl) (by decide) (fun _ _ _ h => h) ⟨by kernel_rfl, ?_⟩ ⟨_, _, hs244.out, mD240⟩ ?_
               rotate_left
               · first | (intro w'; go_simp; done) | (intro w'; go_simp; with_reducible rfl)
               simp only [Act.put, List.setIfInBounds_toArray, List.set_cons_zero, List.set_cons_succ, List.getElem_toArray, List.getElem_cons_succ, List.getElem_cons_zero]
               refine AnyFrom.pure (i := 12) (v := ?_) rfl (by kernel_rfl) (by kernel_rfl) (by kernel_rfl) (by decide) (fun _ _ _ h => h) ⟨by kernel_rfl, ?_⟩ ⟨_, _, hs244.out, mD240⟩ ?_
               rotate_left
               · first | (intro w'; go_simp; done) | (intro w'; go_simp; with_reducible rfl)
               simp only [Act.put, List.setIfInBounds_toArray, List.set_cons_zero, List.set_cons_succ, List.getElem_toArray, List.getElem_cons_succ, List.getElem_cons_zero]
               refine AnyFrom.pure (i := 13) (v := ?_) rfl (by kernel_rfl) (by kernel_rfl) (by kernel_rfl) (by decide) (fun _ _ _ h => h) ⟨by kernel_rfl, ?_⟩ ⟨_, _, hs244.out, mD240⟩ ?_
               rotate_left
               · first | (intro w'; go_simp; done) | (intro w'; go_simp; with_reducible rfl)
               simp only [Act.put, List.setIfInBounds_toArray, List.set_cons_zero, List.set_cons_succ, List.getElem_toArray, List.getElem_cons_succ, List.getElem_cons_zero]
               refine AnyFrom.pure (i := 14) (v := ?_) rfl (by kernel_rfl) (by kernel_rfl) (by kernel_rfl) (by decide) (fun _ _ _ h => h) ⟨by kernel_rfl, ?_⟩ ⟨_, _, hs244.out, mD240⟩ ?_
               rotate_left
               · first | (intro w'; go_simp; done) | (intro w'; go_simp; with_reducible rfl)
               simp only [Act.put, List.setIfInBounds_toArray, List.set_cons_zero, List.set_cons_succ, List.getElem_toArray, List.getElem_cons_succ, List.getElem_cons_zero]
               refine AnyFrom.call (i := 17) (by kernel_rfl) rfl (by kernel_rfl) fun K hK => ?_
               have es := mD240.eqs
               simp only [EqsL] at es
               have ns := mD240.nes
               simp only [NeL, NeFrom] at ns
               go_simp
               have mS246 := (((((((mD240.set (i := 0) (v := .int .i64 q.size) (.tail (.tail (.tail .head)))).set (i := 1) (v := .int .i64 q.half) (.tail (.tail (.tail .head)))).set (i := 2) (v := .int .i64 q.scan) (.tail (.tail (.tail .head)))).set (i := 3) (v := .bool q.busy) (.tail (.tail (.tail .head)))).set (i := 4) (v := .slice ob3 q.old.length oc3) (.tail (.tail (.tail .head)))).set (i := 5) (v := .slice nb3 q.new.length nc3) (.tail (.tail (.tail .head)))).set (i := 6) (v := .slice rb3 q.regs.length rc3) (.tail (.tail (.tail .head))))
               simp only [List.setIfInBounds_toArray, List.set_cons_zero, List.set_cons_succ] at mS246
               generalize hwx : World.setCell _ _ _ = wS247
               rw [hwx] at mS246
               refine hK _ _ (.inr ⟨_, _, hs244.out, mS246⟩) ?_
               clear hK K
               try simp only [Act.put, List.setIfInBounds_toArray, List.set_cons_zero, List.set_cons_succ, List.getElem_toArray, List.getElem_cons_succ, List.getElem_cons_zero]
               clear es ns hwx
               refine AnyFrom.call (i := 18) (by kernel_rfl) rfl (by kernel_rfl) fun K hK => ?_
               have es := mS246.eqs
               simp only [EqsL] at es
               have ns := mS246.nes
               simp only [NeL, NeFrom] at ns
               go_simp
               have mS248 := (((mS246.set (i := 0) (v := .int .u8 rk) (.tail (.tail .head))).set (i := 1) (v := .int .i64 rn) (.tail (.tail .head))).set (i := 2) (v := .string rs) (.tail (.tail .head)))
               simp only [List.setIfInBounds_toArray, List.set_cons_zero, List.set_cons_succ] at mS248
               generalize hwx : World.setCell _ _ _ = wS249
               rw [hwx] at mS248
               refine hK _ _ (.inr ⟨_, _, hs244.out, mS248⟩) ?_
               clear hK K
               try simp only [Act.put, List.setIfInBounds_toArray, List.set_cons_zero, List.set_cons_succ, List.getElem_toArray, List.getElem_cons_succ, List.getElem_cons_zero]
               clear es ns hwx
               refine AnyFrom.pure (i := 19) (v := ?_) rfl (by kernel_rfl) (by kernel_rfl) (by kernel_rfl) (by decide) (fun _ _ _ h => h) ⟨by kernel_rfl, ?_⟩ ⟨_, _, hs244.out, mS248⟩ ?_
               rotate_left
               · first | (intro w'; go_simp; done) | (intro w'; go_simp; with_reducible rfl)
               simp only [Act.put, List.setIfInBounds_toArray, List.set_cons_zero, List.set_cons_succ, List.getElem_toArray, List.getElem_cons_succ, List.getElem_cons_zero]
               refine AnyFrom.done (by kernel_rfl) ?_ _
               exact key x7 x8 blk2 off2 cap2 lb2 lc2 sb2 sc2 ob3 oc3 nb3 nc3 rb3 rc3 ob5 oc5 nb5 nc5 rb5 rc5 _ ⟨Ho241, hle245, F3.out, (mS248.perm (perm_sw2 _ _ _ _ _))⟩
             ·
              refine AnyFrom.op rfl (by kernel_rfl) fun K hK => ?_
              go_simp
              generalize hxo : World.alloc wA193 _ = wA251
              have mA250 : Mem w0 Hk ((wA193.heap.size, .cells #[.int .u8 0, .int .i64 0, .string ByteArray.empty] 50) :: (w3.heap.size, .cells #[.int .i64 h.size, .int .i64 h.half, .int .i64 h.scan, .bool h.busy, .slice ob h.old.length oc, .slice nb h.new.length nc, .slice rb h.regs.length rc] 31) :: (w.heap.size, PBox size regs (.slice lb ds.length lc)) :: (x7, .cells #[.int .i64 0, .int .i64 0, .int .i64 0, .bool false, .slice none 0 0, .slice none 0 0, .slice none 0 0] 31) :: L) wA251 := by rw [← hxo]; exact mA192.alloc _
              obtain ⟨x8, hxk⟩ : ∃ k, k = wA193.heap.size := ⟨_, rfl⟩
              rw [← hxk] at mA250
              rw [← hxk]
              replace mA250 := mA250.perm (perm_fr2 _ _ _ _)
              clear hxk hxo
              refine hK _ _ (.inr ⟨_, _, hs0.out, mA250⟩) ?_
              clear hK K
              try simp only [Act.put, List.setIfInBounds_toArray, List.set_cons_zero, List.set_cons_succ, List.getElem_toArray, List.getElem_cons_succ, List.getElem_cons_zero]
              refine AnyFrom.call (i := 1) (by kernel_rfl) rfl (by kernel_rfl) fun K hK => ?_
              go_simp
              refine (Copy_fr h hbds _ _ _ (HF.out.mono hle0) mA250).mono ?_
              rintro e wc254 ⟨Hc253, vo5, vn5, vr5, rfl, hl255, f5, mC252⟩
              obtain ⟨ob5, oc5, nb5, nc5, rb5, rc5, rfl, rfl, rfl⟩ := f5.shape6
              have F5 := Lib.hid f5; clear f5
              unfold HVal
              have hs256 := Lib.hid (hs0.out.trans hl255)
              have hle257 := hle0.trans hl255
              refine hK _ _ (.inr ⟨_, _, hs256.out, mC252⟩) ?_
              clear hK K
              try simp only [Act.put, List.setIfInBounds_toArray, List.set_cons_zero, List.set_cons_succ, List.getElem_toArray, List.getElem_cons_succ, List.getElem_cons_zero]
              refine AnyFrom.call (i := 7) (by kernel_rfl) rfl (by kernel_rfl) fun K hK => ?_
              go_simp
              refine (lawDeeds_any _ [d] (by simp) (fun d' hd' => by rw [List.mem_singleton] at hd'; rw [hd']; have := HAL.out; omega) (HONE.out.mono hle257) mC252).mono ?_
              rintro e wd260 ⟨Hd259, dv2, rfl, hl261, hdd, mD258⟩
              obtain ⟨db2, cap2, rfl⟩ := hdd.shape
              obtain ⟨blk2, off2, lvv, svv, rfl, hcell2, hdr2⟩ := hdd.getDeed (i := 0) (by simp)
              obtain ⟨lb2, lc2, rfl, -, -, -, -⟩ := hdr2.list
              obtain ⟨sb2, sc2, rfl, -, -, -, -⟩ := hdr2.slots
              rw [Nat.zero_mul, Nat.add_zero] at hcell2
              have CD := Lib.hid hcell2; clear hcell2 hdd
              have DR := Lib.hid (show DeedR Hd259 d _ _ from hdr2); clear hdr2
              have hs262 := Lib.hid (hs256.out.trans hl261)
              replace F5 := Lib.hid (F5.out.mono hl261)
              have hle263 := hle257.trans hl261
              refine hK _ _ (.inr ⟨_, _, hs262.out, mD258⟩) ?_
              clear hK K
              try simp only [Act.put, List.setIfInBounds_toArray, List.set_cons_zero, List.set_cons_succ, List.getElem_toArray, List.getElem_cons_succ, List.getElem_cons_zero]
              refine AnyFrom.stronger (S2 := fun w' => ∃ H' L', Hle Hd259 H' ∧ Mem w0 H' ((w3.heap.size, .cells #[.int .i64 h.size, .int .i64 h.half, .int .i64 h.scan, .bool h.busy, .slice ob h.old.length oc, .slice nb h.new.length nc, .slice rb h.regs.length rc] 31) :: (w.heap.size, PBox size regs (.slice lb ds.length lc)) :: L') w') (fun w' ⟨H', L', hl', hm⟩ => ⟨H', L', hs262.out.trans hl', hm⟩) _ ?_
              have hs264 := Lib.hid (Hle.refl Hd259)
              refine AnyFrom.take (i := 8) (v := ?_) rfl (by kernel_rfl) (by kernel_rfl) (by kernel_rfl) (by kernel_rfl) (fun _ _ _ h => h) ⟨by kernel_rfl, ?_⟩ ⟨_, _, hs264.out, mD258⟩ ?_
              rotate_left
              · first | (rintro w' ⟨H', L', hl', hm⟩; have es := hm.eqs; simp only [EqsL] at es; go_simp; done) | (rintro w' ⟨H', L', hl', hm⟩; have es := hm.eqs; simp only [EqsL] at es; go_simp; with_reducible rfl)
              simp only [Act.put, List.setIfInBounds_toArray, List.set_cons_zero, List.set_cons_succ, List.getElem_toArray, List.getElem_cons_succ, List.getElem_cons_zero]
              refine AnyFrom.take (i := 9) (v := ?_) rfl (by kernel_rfl) (by kernel_rfl) (by kernel_rfl) (by kernel_rfl) (fun _ _ _ h => h) ⟨by kernel_rfl, ?_⟩ ⟨_, _, hs264.out, mD258⟩ ?_
              rotate_left
              · first | (rintro w' ⟨H', L', hl', hm⟩; have es := hm.eqs; simp only [EqsL] at es; have q0 := ((CD.out 0 _ rfl).mono hl').cell hm; have q1 := ((CD.out 1 _ rfl).mono hl').cell hm; have q2 := ((CD.out 2 _ rfl).mono hl').cell hm; have q3 := ((CD.out 3 _ rfl).mono hl').cell hm; have q4 := ((CD.out 4 _ rfl).mono hl').cell hm; have q5 := ((CD.out 5 _ rfl).mono hl').cell hm; have q6 := ((CD.out 6 _ rfl).mono hl').cell hm; have q7 := ((CD.out 7 _ rfl).mono hl').cell hm; have q8 := ((CD.out 8 _ rfl).mono hl').cell hm; have q9 := ((CD.out 9 _ rfl).mono hl').cell hm; have q10 := ((CD.out 10 _ rfl).mono hl').cell hm; have q11 := ((CD.out 11 _ rfl).mono hl').cell hm; rw [Nat.add_zero] at q0; go_simp; done) | (rintro w' ⟨H', L', hl', hm⟩; have es := hm.eqs; simp only [EqsL] at es; have q0 := ((CD.out 0 _ rfl).mono hl').cell hm; have q1 := ((CD.out 1 _ rfl).mono hl').cell hm; have q2 := ((CD.out 2 _ rfl).mono hl').cell hm; have q3 := ((CD.out 3 _ rfl).mono hl').cell hm; have q4 := ((CD.out 4 _ rfl).mono hl').cell hm; have q5 := ((CD.out 5 _ rfl).mono hl').cell hm; have q6 := ((CD.out 6 _ rfl).mono hl').cell hm; have q7 := ((CD.out 7 _ rfl).mono hl').cell hm; have q8 := ((CD.out 8 _ rfl).mono hl').cell hm; have q9 := ((CD.out 9 _ rfl).mono hl').cell hm; have q10 := ((CD.out 10 _ rfl).mono hl').cell hm; have q11 := ((CD.out 11 _ rfl).mono hl').cell hm; rw [Nat.add_zero] at q0; go_simp; with_reducible rfl)
              simp only [Act.put, List.setIfInBounds_toArray, List.set_cons_zero, List.set_cons_succ, List.getElem_toArray, List.getElem_cons_succ, List.getElem_cons_zero]
              refine AnyFrom.call (i := 10) (by kernel_rfl) rfl (by kernel_rfl) fun K hK => ?_
              go_simp
              refine (DoU_any h HGD.out _ _ _ F5.out mD258 d _ _ DR.out (by have := HAL.out; omega)).mono ?_
              rw [hres]
              rintro e wd267 ⟨Ho266, vo3, vn3, vr3, rfl, hl268, f3, mD265⟩
              rw [hq] at f3
              rw [hq, hx]
              obtain ⟨ob3, oc3, nb3, nc3, rb3, rc3, rfl, rfl, rfl⟩ := f3.shape6
              have F3 := Lib.hid f3; clear f3
              unfold HVal ValM.v
              have hs269 := Lib.hid (hs264.out.trans hl268)
              replace F5 := Lib.hid (F5.out.mono hl268)
              replace DR := Lib.hid (DR.out.mono hl268)
              have hle270 := hle263.trans hl268
              refine hK _ _ (.inr ⟨_, _, hs269.out, mD265⟩) ?_
              clear hK K
              try simp only [Act.put, List.setIfInBounds_toArray, List.set_cons_zero, List.set_cons_succ, List.getElem_toArray, List.getElem_cons_succ, List.getElem_cons_zero]
              refine AnyFrom.pure (i := 11) (v := ?_) rfl (by kernel_rfl) (by kernel_rfl) (by kernel_rfl) (by decide) (fun _ _ _ h => h) ⟨by kernel_rfl, ?_⟩ ⟨_, _, hs269.out, mD265⟩ ?_
              rotate_left
              · first | (intro w'; go_simp; done) | (intro w'; go_simp; with_reducible rfl)
              simp only [Act.put, List.setIfInBounds_toArray, List.set_cons_zero, List.set_cons_succ, List.getElem_toArray, List.getElem_cons_succ, List.getElem_cons_zero]
              refine AnyFrom.pure (i := 12) (v := ?_) rfl (by kernel_rfl) (by kernel_rfl) (by kernel_rfl) (by decide) (fun _ _ _ h => h) ⟨by kernel_rfl, ?_⟩ ⟨_, _, hs269.out, mD265⟩ ?_
              rotate_left
              · first | (intro w'; go_simp; done) | (intro w'; go_simp; with_reducible rfl)
              simp only [Act.put, List.setIfInBounds_toArray, List.set_cons_zero, List.set_cons_succ, List.getElem_toArray, List.getElem_cons_succ, List.getElem_cons_zero]
              refine AnyFrom.pure (i := 13) (v := ?_) rfl (by kernel_rfl) (by kernel_rfl) (by kernel_rfl) (by decide) (fun _ _ _ h => h) ⟨by kernel_rfl, ?_⟩ ⟨_, _, hs269.out, mD265⟩ ?_
              rotate_left
              · first | (intro w'; go_simp; done) | (intro w'; go_simp; with_reducible rfl)
              simp only [Act.put, List.setIfInBounds_toArray, List.set_cons_zero, List.set_cons_succ, List.getElem_toArray, List.getElem_cons_succ, List.getElem_cons_zero]
              refine AnyFrom.pure (i := 14) (v := ?_) rfl (by kernel_rfl) (by kernel_rfl) (by kernel_rfl) (by decide) (fun _ _ _ h => h) ⟨by kernel_rfl, ?_⟩ ⟨_, _, hs269.out, mD265⟩ ?_
              rotate_left
              · first | (intro w'; go_simp; done) | (intro w'; go_simp; with_reducible rfl)
              simp only [Act.put, List.setIfInBounds_toArray, List.set_cons_zero, List.set_cons_succ, List.getElem_toArray, List.getElem_cons_succ, List.getElem_cons_zero]
              refine AnyFrom.call (i := 17) (by kernel_rfl) rfl (by kernel_rfl) fun K hK => ?_
              have es := mD265.eqs
              simp only [EqsL] at es
              have ns := mD265.nes
              simp only [NeL, NeFrom] at ns
              go_simp
              have mS271 := (((((((mD265.set (i := 0) (v := .int .i64 q.size) (.tail (.tail (.tail .head)))).set (i := 1) (v := .int .i64 q.half) (.tail (.tail (.tail .head)))).set (i := 2) (v := .int .i64 q.scan) (.tail (.tail (.tail .head)))).set (i := 3) (v := .bool q.busy) (.tail (.tail (.tail .head)))).set (i := 4) (v := .slice ob3 q.old.length oc3) (.tail (.tail (.tail .head)))).set (i := 5) (v := .slice nb3 q.new.length nc3) (.tail (.tail (.tail .head)))).set (i := 6) (v := .slice rb3 q.regs.length rc3) (.tail (.tail (.tail .head))))
              simp only [List.setIfInBounds_toArray, List.set_cons_zero, List.set_cons_succ] at mS271
              generalize hwx : World.setCell _ _ _ = wS272
              rw [hwx] at mS271
              refine hK _ _ (.inr ⟨_, _, hs269.out, mS271⟩) ?_
              clear hK K
              try simp only [Act.put, List.setIfInBounds_toArray, List.set_cons_zero, List.set_cons_succ, List.getElem_toArray, List.getElem_cons_succ, List.getElem_cons_zero]
              clear es ns hwx
              refine AnyFrom.call (i := 18) (by kernel_rfl) rfl (by kernel_rfl) fun K hK => ?_
              have es := mS271.eqs
              simp only [EqsL] at es
              have ns := mS271.nes
              simp only [NeL, NeFrom] at ns
              go_simp
              have mS273 := (((mS271.set (i := 0) (v := .int .u8 rk) (.tail (.tail .head))).set (i := 1) (v := .int .i64 rn) (.tail (.tail .head))).set (i := 2) (v := .string rs) (.tail (.tail .head)))
              simp only [List.setIfInBounds_toArray, List.set_cons_zero, List.set_cons_succ] at mS273
              generalize hwx : World.setCell _ _ _ = wS274
              rw [hwx] at mS273
              refine hK _ _ (.inr ⟨_, _, hs269.out, mS273⟩) ?_
              clear hK K
              try simp only [Act.put, List.setIfInBounds_toArray, List.set_cons_zero, List.set_cons_succ, List.getElem_toArray, List.getElem_cons_succ, List.getElem_cons_zero]
              clear es ns hwx
              refine AnyFrom.pure (i := 19) (v := ?_) rfl (by kernel_rfl) (by kernel_rfl) (by kernel_rfl) (by decide) (fun _ _ _ h => h) ⟨by kernel_rfl, ?_⟩ ⟨_, _, hs269.out, mS273⟩ ?_
              rotate_left
              · first | (intro w'; go_simp; done) | (intro w'; go_simp; with_reducible rfl)
              simp only [Act.put, List.setIfInBounds_toArray, List.set_cons_zero, List.set_cons_succ, List.getElem_toArray, List.getElem_cons_succ, List.getElem_cons_zero]
              refine AnyFrom.done (by kernel_rfl) ?_ _
              exact key x7 x8 blk2 off2 cap2 lb2 lc2 sb2 sc2 ob3 oc3 nb3 nc3 rb3 rc3 ob5 oc5 nb5 nc5 rb5 rc5 _ ⟨Ho266, hle270, F3.out, (mS273.perm (perm_sw2 _ _ _ _ _))⟩
            ·
             refine AnyFrom.op rfl (by kernel_rfl) fun K hK => ?_
             go_simp
             generalize hxo : World.alloc W _ = wA276
             have mA275 : Mem w0 Hk ((W.heap.size, .cells #[.int .u8 0, .int .i64 0, .string ByteArray.empty] 50) :: (w3.heap.size, .cells #[.int .i64 h.size, .int .i64 h.half, .int .i64 h.scan, .bool h.busy, .slice ob h.old.length oc, .slice nb h.new.length nc, .slice rb h.regs.length rc] 31) :: (w.heap.size, PBox size regs (.slice lb ds.length lc)) :: L) wA276 := by rw [← hxo]; exact mW.alloc _
             obtain ⟨x8, hxk⟩ : ∃ k, k = W.heap.size := ⟨_, rfl⟩
             rw [← hxk] at mA275
             rw [← hxk]
             replace mA275 := mA275.perm (perm_fr2 _ _ _ _)
             clear hxk hxo
             refine hK _ _ (.inr ⟨_, _, hs0.out, mA275⟩) ?_
             clear hK K
             try simp only [Act.put, List.setIfInBounds_toArray, List.set_cons_zero, List.set_cons_succ, List.getElem_toArray, List.getElem_cons_succ, List.getElem_cons_zero]
             refine AnyFrom.two (i := 1) (j := 15) (by kernel_rfl) ?_ ?_
             ·
              refine AnyFrom.op rfl (by kernel_rfl) fun K hK => ?_
              go_simp
              refine (Copy_fr h hbds _ _ _ (HF.out.mono hle0) mA275).mono ?_
              rintro e wc279 ⟨Hc278, vo5, vn5, vr5, rfl, hl280, f5, mC277⟩
              obtain ⟨ob5, oc5, nb5, nc5, rb5, rc5, rfl, rfl, rfl⟩ := f5.shape6
              have F5 := Lib.hid f5; clear f5
              unfold HVal
              have hs281 := Lib.hid (hs0.out.trans hl280)
              have hle282 := hle0.trans hl280
              refine hK _ _ (.inr ⟨_, _, hs281.out, mC277⟩) ?_
              clear hK K
              try simp only [Act.put, List.setIfInBounds_toArray, List.set_cons_zero, List.set_cons_succ, List.getElem_toArray, List.getElem_cons_succ, List.getElem_cons_zero]
              refine AnyFrom.two (i := 7) (j := 15) (by kernel_rfl) ?_ ?_
              ·
               refine AnyFrom.op rfl (by kernel_rfl) fun K hK => ?_
               go_simp
               refine (lawDeeds_any _ [d] (by simp) (fun d' hd' => by rw [List.mem_singleton] at hd'; rw [hd']; have := HAL.out; omega) (HONE.out.mono hle282) mC277).mono ?_
               rintro e wd285 ⟨Hd284, dv2, rfl, hl286, hdd, mD283⟩
               obtain ⟨db2, cap2, rfl⟩ := hdd.shape
               obtain ⟨blk2, off2, lvv, svv, rfl, hcell2, hdr2⟩ := hdd.getDeed (i := 0) (by simp)
               obtain ⟨lb2, lc2, rfl, -, -, -, -⟩ := hdr2.list
               obtain ⟨sb2, sc2, rfl, -, -, -, -⟩ := hdr2.slots
               rw [Nat.zero_mul, Nat.add_zero] at hcell2
               have CD := Lib.hid hcell2; clear hcell2 hdd
               have DR := Lib.hid (show DeedR Hd284 d _ _ from hdr2); clear hdr2
               have hs287 := Lib.hid (hs281.out.trans hl286)
               replace F5 := Lib.hid (F5.out.mono hl286)
               have hle288 := hle282.trans hl286
               refine hK _ _ (.inr ⟨_, _, hs287.out, mD283⟩) ?_
               clear hK K
               try simp only [Act.put, List.setIfInBounds_toArray, List.set_cons_zero, List.set_cons_succ, List.getElem_toArray, List.getElem_cons_succ, List.getElem_cons_zero]
               refine AnyFrom.stronger (S2 := fun w' => ∃ H' L', Hle Hd284 H' ∧ Mem w0 H' ((w3.heap.size, .cells #[.int .i64 h.size, .int .i64 h.half, .int .i64 h.scan, .bool h.busy, .slice ob h.old.length oc, .slice nb h.new.length nc, .slice rb h.regs.length rc] 31) :: (w.heap.size, PBox size regs (.slice lb ds.length lc)) :: L') w') (fun w' ⟨H', L', hl', hm⟩ => ⟨H', L', hs287.out.trans hl', hm⟩) _ ?_
               have hs289 := Lib.hid (Hle.refl Hd284)
               refine AnyFrom.take (i := 8) (v := ?_) rfl (by kernel_rfl) (by kernel_rfl) (by kernel_rfl) (by kernel_rfl) (fun _ _ _ h => h) ⟨by kernel_rfl, ?_⟩ ⟨_, _, hs289.out, mD283⟩ ?_
               rotate_left
               · first | (rintro w' ⟨H', L', hl', hm⟩; have es := hm.eqs; simp only [EqsL] at es; go_simp; done) | (rintro w' ⟨H', L', hl', hm⟩; have es := hm.eqs; simp only [EqsL] at es; go_simp; with_reducible rfl)
               simp only [Act.put, List.setIfInBounds_toArray, List.set_cons_zero, List.set_cons_succ, List.getElem_toArray, List.getElem_cons_succ, List.getElem_cons_zero]
               refine AnyFrom.take (i := 9) (v := ?_) rfl (by kernel_rfl) (by kernel_rfl) (by kernel_rfl) (by kernel_rfl) (fun _ _ _ h => h) ⟨by kernel_rfl, ?_⟩ ⟨_, _, hs289.out, mD283⟩ ?_
               rotate_left
               · first | (rintro w' ⟨H', L', hl', hm⟩; have es := hm.eqs; simp only [EqsL] at es; have q0 := ((CD.out 0 _ rfl).mono hl').cell hm; have q1 := ((CD.out 1 _ rfl).mono hl').cell hm; have q2 := ((CD.out 2 _ rfl).mono hl').cell hm; have q3 := ((CD.out 3 _ rfl).mono hl').cell hm; have q4 := ((CD.out 4 _ rfl).mono hl').cell hm; have q5 := ((CD.out 5 _ rfl).mono hl').cell hm; have q6 := ((CD.out 6 _ rfl).mono hl').cell hm; have q7 := ((CD.out 7 _ rfl).mono hl').cell hm; have q8 := ((CD.out 8 _ rfl).mono hl').cell hm; have q9 := ((CD.out 9 _ rfl).mono hl').cell hm; have q10 := ((CD.out 10 _ rfl).mono hl').cell hm; have q11 := ((CD.out 11 _ rfl).mono hl').cell hm; rw [Nat.add_zero] at q0; go_simp; done) | (rintro w' ⟨H', L', hl', hm⟩; have es := hm.eqs; simp only [EqsL] at es; have q0 := ((CD.out 0 _ rfl).mono hl').cell hm; have q1 := ((CD.out 1 _ rfl).mono hl').cell hm; have q2 := ((CD.out 2 _ rfl).mono hl').cell hm; have q3 := ((CD.out 3 _ rfl).mono hl').cell hm; have q4 := ((CD.out 4 _ rfl).mono hl').cell hm; have q5 := ((CD.out 5 _ rfl).mono hl').cell hm; have q6 := ((CD.out 6 _ rfl).mono hl').cell hm; have q7 := ((CD.out 7 _ rfl).mono hl').cell hm; have q8 := ((CD.out 8 _ rfl).mono hl').cell hm; have q9 := ((CD.out 9 _ rfl).mono hl').cell hm; have q10 := ((CD.out 10 _ rfl).mono hl').cell hm; have q11 := ((CD.out 11 _ rfl).mono hl').cell hm; rw [Nat.add_zero] at q0; go_simp; with_reducible rfl)
               simp only [Act.put, List.setIfInBounds_toArray, List.set_cons_zero, List.set_cons_succ, List.getElem_toArray, List.getElem_cons_succ, List.getElem_cons_zero]
               refine AnyFrom.two (i := 10) (j := 15) (by kernel_rfl) ?_ ?_
               ·
                refine AnyFrom.op rfl (by kernel_rfl) fun K hK => ?_
                go_simp
                refine (DoU_any h HGD.out _ _ _ F5.out mD283 d _ _ DR.out (by have := HAL.out; omega)).mono ?_
                rw [hres]
                rintro e wd292 ⟨Ho291, vo3, vn3, vr3, rfl, hl293, f3, mD290⟩
                rw [hq] at f3
                rw [hq, hx]
                obtain ⟨ob3, oc3, nb3, nc3, rb3, rc3, rfl, rfl, rfl⟩ := f3.shape6
                have F3 := Lib.hid f3; clear f3
                unfold HVal ValM.v
                have hs294 := Lib.hid (hs289.out.trans hl293)
                replace F5 := Lib.hid (F5.out.mono hl293)
                replace DR := Lib.hid (DR.out.mono hl293)
                have hle295 := hle288.trans hl293
                refine hK _ _ (.inr ⟨_, _, hs294.out, mD290⟩) ?_
                clear hK K
                try simp only [Act.put, List.setIfInBounds_toArray, List.set_cons_zero, List.set_cons_succ, List.getElem_toArray, List.getElem_cons_succ, List.getElem_cons_zero]
                refine AnyFrom.pure (i := 11) (v := ?_) rfl (by kernel_rfl) (by kernel_rfl) (by kernel_rfl) (by decide) (fun _ _ _ h => h) ⟨by kernel_rfl, ?_⟩ ⟨_, _, hs294.out, mD290⟩ ?_
                rotate_left
                · first | (intro w'; go_simp; done) | (intro w'; go_simp; with_reducible rfl)
                simp only [Act.put, List.setIfInBounds_toArray, List.set_cons_zero, List.set_cons_succ, List.getElem_toArray, List.getElem_cons_succ, List.getElem_cons_zero]
                refine AnyFrom.pure (i := 12) (v := ?_) rfl (by kernel_rfl) (by kernel_rfl) (by kernel_rfl) (by decide) (fun _ _ _ h => h) ⟨by kernel_rfl, ?_⟩ ⟨_, _, hs294.out, mD290⟩ ?_
                rotate_left
                · first | (intro w'; go_simp; done) | (intro w'; go_simp; with_reducible rfl)
                simp only [Act.put, List.setIfInBounds_toArray, List.set_cons_zero, List.set_cons_succ, List.getElem_toArray, List.getElem_cons_succ, List.getElem_cons_zero]
                refine AnyFrom.pure (i := 13) (v := ?_) rfl (by kernel_rfl) (by kernel_rfl) (by kernel_rfl) (by decide) (fun _ _ _ h => h) ⟨by kernel_rfl, ?_⟩ ⟨_, _, hs294.out, mD290⟩ ?_
                rotate_left
                · first | (intro w'; go_simp; done) | (intro w'; go_simp; with_reducible rfl)
                simp only [Act.put, List.setIfInBounds_toArray, List.set_cons_zero, List.set_cons_succ, List.getElem_toArray, List.getElem_cons_succ, List.getElem_cons_zero]
                refine AnyFrom.pure (i := 14) (v := ?_) rfl (by kernel_rfl) (by kernel_rfl) (by kernel_rfl) (by decide) (fun _ _ _ h => h) ⟨by kernel_rfl, ?_⟩ ⟨_, _, hs294.out, mD290⟩ ?_
                rotate_left
                · first | (intro w'; go_simp; done) | (intro w'; go_simp; with_reducible rfl)
                simp only [Act.put, List.setIfInBounds_toArray, List.set_cons_zero, List.set_cons_succ, List.getElem_toArray, List.getElem_cons_succ, List.getElem_cons_zero]
                refine AnyFrom.call (i := 15) (by kernel_rfl) rfl (by kernel_rfl) fun K hK => ?_
                go_simp
                generalize hxo : World.alloc wd292 _ = wA297
                have mA296 : Mem w0 Ho291 ((wd292.heap.size, .cells #[.int .i64 0, .int .i64 0, .int .i64 0, .bool false, .slice none 0 0, .slice none 0 0, .slice none 0 0] 31) :: (w3.heap.size, .cells #[.int .i64 h.size, .int .i64 h.half, .int .i64 h.scan, .bool h.busy, .slice ob h.old.length oc, .slice nb h.new.length nc, .slice rb h.regs.length rc] 31) :: (w.heap.size, PBox size regs (.slice lb ds.length lc)) :: (x8, .cells #[.int .u8 0, .int .i64 0, .string ByteArray.empty] 50) :: L) wA297 := by rw [← hxo]; exact mD290.alloc _
                obtain ⟨x7, hxk⟩ : ∃ k, k = wd292.heap.size := ⟨_, rfl⟩
                rw [← hxk] at mA296
                rw [← hxk]
                replace mA296 := mA296.perm (perm_fr2 _ _ _ _)
                clear hxk hxo
                refine hK _ _ (.inr ⟨_, _, hs294.out, mA296⟩) ?_
                clear hK K
                try simp only [Act.put, List.setIfInBounds_toArray, List.set_cons_zero, List.set_cons_succ, List.getElem_toArray, List.getElem_cons_succ, List.getElem_cons_zero]
                refine AnyFrom.call (i := 17) (by kernel_rfl) rfl (by kernel_rfl) fun K hK => ?_
                have es := mA296.eqs
                simp only [EqsL] at es
                have ns := mA296.nes
                simp only [NeL, NeFrom] at ns
                go_simp
                have mS298 := (((((((mA296.set (i := 0) (v := .int .i64 q.size) (.tail (.tail .head))).set (i := 1) (v := .int .i64 q.half) (.tail (.tail .head))).set (i := 2) (v := .int .i64 q.scan) (.tail (.tail .head))).set (i := 3) (v := .bool q.busy) (.tail (.tail .head))).set (i := 4) (v := .slice ob3 q.old.length oc3) (.tail (.tail .head))).set (i := 5) (v := .slice nb3 q.new.length nc3) (.tail (.tail .head))).set (i := 6) (v := .slice rb3 q.regs.length rc3) (.tail (.tail .head)))
                simp only [List.setIfInBounds_toArray, List.set_cons_zero, List.set_cons_succ] at mS298
                generalize hwx : World.setCell _ _ _ = wS299
                rw [hwx] at mS298
                refine hK _ _ (.inr ⟨_, _, hs294.out, mS298⟩) ?_
                clear hK K
                try simp only [Act.put, List.setIfInBounds_toArray, List.set_cons_zero, List.set_cons_succ, List.getElem_toArray, List.getElem_cons_succ, List.getElem_cons_zero]
                clear es ns hwx
                refine AnyFrom.call (i := 18) (by kernel_rfl) rfl (by kernel_rfl) fun K hK => ?_
                have es := mS298.eqs
                simp only [EqsL] at es
                have ns := mS298.nes
                simp only [NeL, NeFrom] at ns
                go_simp
                have mS300 := (((mS298.set (i := 0) (v := .int .u8 rk) (.tail (.tail (.tail .head)))).set (i := 1) (v := .int .i64 rn) (.tail (.tail (.tail .head)))).set (i := 2) (v := .string rs) (.tail (.tail (.tail .head))))
                simp only [List.setIfInBounds_toArray, List.set_cons_zero, List.set_cons_succ] at mS300
                generalize hwx : World.setCell _ _ _ = wS301
                rw [hwx] at mS300
                refine hK _ _ (.inr ⟨_, _, hs294.out, mS300⟩) ?_
                clear hK K
                try simp only [Act.put, List.setIfInBounds_toArray, List.set_cons_zero, List.set_cons_succ, List.getElem_toArray, List.getElem_cons_succ, List.getElem_cons_zero]
                clear es ns hwx
                refine AnyFrom.pure (i := 19) (v := ?_) rfl (by kernel_rfl) (by kernel_rfl) (by kernel_rfl) (by decide) (fun _ _ _ h => h) ⟨by kernel_rfl, ?_⟩ ⟨_, _, hs294.out, mS300⟩ ?_
                rotate_left
                · first | (intro w'; go_simp; done) | (intro w'; go_simp; with_reducible rfl)
                simp only [Act.put, List.setIfInBounds_toArray, List.set_cons_zero, List.set_cons_succ, List.getElem_toArray, List.getElem_cons_succ, List.getElem_cons_zero]
                refine AnyFrom.done (by kernel_rfl) ?_ _
                exact key x7 x8 blk2 off2 cap2 lb2 lc2 sb2 sc2 ob3 oc3 nb3 nc3 rb3 rc3 ob5 oc5 nb5 nc5 rb5 rc5 _ ⟨Ho291, hle295, F3.out, mS300⟩
               ·
                refine AnyFrom.op rfl (by kernel_rfl) fun K hK => ?_
                go_simp
                generalize hxo : World.alloc wd285 _ = wA303
                have mA302 : Mem w0 Hd284 ((wd285.heap.size, .cells #[.int .i64 0, .int .i64 0, .int .i64 0, .bool false, .slice none 0 0, .slice none 0 0, .slice none 0 0] 31) :: (w3.heap.size, .cells #[.int .i64 h.size, .int .i64 h.half, .int .i64 h.scan, .bool h.busy, .slice ob h.old.length oc, .slice nb h.new.length nc, .slice rb h.regs.length rc] 31) :: (w.heap.size, PBox size regs (.slice lb ds.length lc)) :: (x8, .cells #[.int .u8 0, .int .i64 0, .string ByteArray.empty] 50) :: L) wA303 := by rw [← hxo]; exact mD283.alloc _
                obtain ⟨x7, hxk⟩ : ∃ k, k = wd285.heap.size := ⟨_, rfl⟩
                rw [← hxk] at mA302
                rw [← hxk]
                replace mA302 := mA302.perm (perm_fr2 _ _ _ _)
                clear hxk hxo
                refine hK _ _ (.inr ⟨_, _, hs289.out, mA302⟩) ?_
                clear hK K
                try simp only [Act.put, List.setIfInBounds_toArray, List.set_cons_zero, List.set_cons_succ, List.getElem_toArray, List.getElem_cons_succ, List.getElem_cons_zero]
                refine AnyFrom.call (i := 10) (by kernel_rfl) rfl (by kernel_rfl) fun K hK => ?_
                go_simp
                refine (DoU_any h HGD.out _ _ _ F5.out mA302 d _ _ DR.out (by have := HAL.out; omega)).mono ?_
                rw [hres]
                rintro e wd306 ⟨Ho305, vo3, vn3, vr3, rfl, hl307, f3, mD304⟩
                rw [hq] at f3
                rw [hq, hx]
                obtain ⟨ob3, oc3, nb3, nc3, rb3, rc3, rfl, rfl, rfl⟩ := f3.shape6
                have F3 := Lib.hid f3; clear f3
                unfold HVal ValM.v
                have hs308 := Lib.hid (hs289.out.trans hl307)
                replace F5 := Lib.hid (F5.out.mono hl307)
                replace DR := Lib.hid (DR.out.mono hl307)
                have hle309 := hle288.trans hl307
                refine hK _ _ (.inr ⟨_, _, hs308.out, mD304⟩) ?_
                clear hK K
                try simp only [Act.put, List.setIfInBounds_toArray, List.set_cons_zero, List.set_cons_succ, List.getElem_toArray, List.getElem_cons_succ, List.getElem_cons_zero]
                refine AnyFrom.pure (i := 11) (v := ?_) rfl (by kernel_rfl) (by kernel_rfl) (by kernel_rfl) (by decide) (fun _ _ _ h => h) ⟨by kernel_rfl, ?_⟩ ⟨_, _, hs308.out, mD304⟩ ?_
                rotate_left
                · first | (intro w'; go_simp; done) | (intro w'; go_simp; with_reducible rfl)
                simp only [Act.put, List.setIfInBounds_toArray, List.set_cons_zero, List.set_cons_succ, List.getElem_toArray, List.getElem_cons_succ, List.getElem_cons_zero]
                refine AnyFrom.pure (i := 12) (v := ?_) rfl (by kernel_rfl) (by kernel_rfl) (by kernel_rfl) (by decide) (fun _ _ _ h => h) ⟨by kernel_rfl, ?_⟩ ⟨_, _, hs308.out, mD304⟩ ?_
                rotate_left
                · first | (intro w'; go_simp; done) | (intro w'; go_simp; with_reducible rfl)
                simp only [Act.put, List.setIfInBounds_toArray, List.set_cons_zero, List.set_cons_succ, List.getElem_toArray, List.getElem_cons_succ, List.getElem_cons_zero]
                refine AnyFrom.pure (i := 13) (v := ?_) rfl (by kernel_rfl) (by kernel_rfl) (by kernel_rfl) (by decide) (fun _ _ _ h => h) ⟨by kernel_rfl, ?_⟩ ⟨_, _, hs308.out, mD304⟩ ?_
                rotate_left
                · first | (intro w'; go_simp; done) | (intro w'; go_simp; with_reducible rfl)
                simp only [Act.put, List.setIfInBounds_toArray, List.set_cons_zero, List.set_cons_succ, List.getElem_toArray, List.getElem_cons_succ, List.getElem_cons_zero]
                refine AnyFrom.pure (i := 14) (v := ?_) rfl (by kernel_rfl) (by kernel_rfl) (by kernel_rfl) (by decide) (fun _ _ _ h => h) ⟨by kernel_rfl, ?_⟩ ⟨_, _, hs308.out, mD304⟩ ?_
                rotate_left
                · first | (intro w'; go_simp; done) | (intro w'; go_simp; with_reducible rfl)
                simp only [Act.put, List.setIfInBounds_toArray, List.set_cons_zero, List.set_cons_succ, List.getElem_toArray, List.getElem_cons_succ, List.getElem_cons_zero]
                refine AnyFrom.call (i := 17) (by kernel_rfl) rfl (by kernel_rfl) fun K hK => ?_
                have es := mD304.eqs
                simp only [EqsL] at es
                have ns := mD304.nes
                simp only [NeL, NeFrom] at ns
                go_simp
                have mS310 := (((((((mD304.set (i := 0) (v := .int .i64 q.size) (.tail (.tail .head))).set (i := 1) (v := .int .i64 q.half) (.tail (.tail .head))).set (i := 2) (v := .int .i64 q.scan) (.tail (.tail .head))).set (i := 3) (v := .bool q.busy) (.tail (.tail .head))).set (i := 4) (v := .slice ob3 q.old.length oc3) (.tail (.tail .head))).set (i := 5) (v := .slice nb3 q.new.length nc3) (.tail (.tail .head))).set (i := 6) (v := .slice rb3 q.regs.length rc3) (.tail (.tail .head)))
                simp only [List.setIfInBounds_toArray, List.set_cons_zero, List.set_cons_succ] at mS310
                generalize hwx : World.setCell _ _ _ = wS311
                rw [hwx] at mS310
                refine hK _ _ (.inr ⟨_, _, hs308.out, mS310⟩) ?_
                clear hK K
                try simp only [Act.put, List.setIfInBounds_toArray, List.set_cons_zero, List.set_cons_succ, List.getElem_toArray, List.getElem_cons_succ, List.getElem_cons_zero]
                clear es ns hwx
                refine AnyFrom.call (i := 18) (by kernel_rfl) rfl (by kernel_rfl) fun K hK => ?_
                have es := mS310.eqs
                simp only [EqsL] at es
                have ns := mS310.nes
                simp only [NeL, NeFrom] at ns
                go_simp
                have mS312 := (((mS310.set (i := 0) (v := .int .u8 rk) (.tail (.tail (.tail .head)))).set (i := 1) (v := .int .i64 rn) (.tail (.tail (.tail .head)))).set (i := 2) (v := .string rs) (.tail (.tail (.tail .head))))
                simp only [List.setIfInBounds_toArray, List.set_cons_zero, List.set_cons_succ] at mS312
                generalize hwx : World.setCell _ _ _ = wS313
                rw [hwx] at mS312
                refine hK _ _ (.inr ⟨_, _, hs308.out, mS312⟩) ?_
                clear hK K
                try simp only [Act.put, List.setIfInBounds_toArray, List.set_cons_zero, List.set_cons_succ, List.getElem_toArray, List.getElem_cons_succ, List.getElem_cons_zero]
                clear es ns hwx
                refine AnyFrom.pure (i := 19) (v := ?_) rfl (by kernel_rfl) (by kernel_rfl) (by kernel_rfl) (by decide) (fun _ _ _ h => h) ⟨by kernel_rfl, ?_⟩ ⟨_, _, hs308.out, mS312⟩ ?_
                rotate_left
                · first | (intro w'; go_simp; done) | (intro w'; go_simp; with_reducible rfl)
                simp only [Act.put, List.setIfInBounds_toArray, List.set_cons_zero, List.set_cons_succ, List.getElem_toArray, List.getElem_cons_succ, List.getElem_cons_zero]
                refine AnyFrom.done (by kernel_rfl) ?_ _
                exact key x7 x8 blk2 off2 cap2 lb2 lc2 sb2 sc2 ob3 oc3 nb3 nc3 rb3 rc3 ob5 oc5 nb5 nc5 rb5 rc5 _ ⟨Ho305, hle309, F3.out, mS312⟩
              ·
               refine AnyFrom.op rfl (by kernel_rfl) fun K hK => ?_
               go_simp
               generalize hxo : World.alloc wc279 _ = wA315
               have mA314 : Mem w0 Hc278 ((wc279.heap.size, .cells #[.int .i64 0, .int .i64 0, .int .i64 0, .bool false, .slice none 0 0, .slice none 0 0, .slice none 0 0] 31) :: (w3.heap.size, .cells #[.int .i64 h.size, .int .i64 h.half, .int .i64 h.scan, .bool h.busy, .slice ob h.old.length oc, .slice nb h.new.length nc, .slice rb h.regs.length rc] 31) :: (w.heap.size, PBox size regs (.slice lb ds.length lc)) :: (x8, .cells #[.int .u8 0, .int .i64 0, .string ByteArray.empty] 50) :: L) wA315 := by rw [← hxo]; exact mC277.alloc _
               obtain ⟨x7, hxk⟩ : ∃ k, k = wc279.heap.size := ⟨_, rfl⟩
               rw [← hxk] at mA314
               rw [← hxk]
               replace mA314 := mA314.perm (perm_fr2 _ _ _ _)
               clear hxk hxo
               refine hK _ _ (.inr ⟨_, _, hs281.out, mA314⟩) ?_
               clear hK K
               try simp only [Act.put, List.setIfInBounds_toArray, List.set_cons_zero, List.set_cons_succ, List.getElem_toArray, List.getElem_cons_succ, List.getElem_cons_zero]
               refine AnyFrom.call (i := 7) (by kernel_rfl) rfl (by kernel_rfl) fun K hK => ?_
               go_simp
               refine (lawDeeds_any _ [d] (by simp) (fun d' hd' => by rw [List.mem_singleton] at hd'; rw [hd']; have := HAL.out; omega) (HONE.out.mono hle282) mA314).mono ?_
               rintro e wd318 ⟨Hd317, dv2, rfl, hl319, hdd, mD316⟩
               obtain ⟨db2, cap2, rfl⟩ := hdd.shape
               obtain ⟨blk2, off2, lvv, svv, rfl, hcell2, hdr2⟩ := hdd.getDeed (i := 0) (by simp)
               obtain ⟨lb2, lc2, rfl, -, -, -, -⟩ := hdr2.list
               obtain ⟨sb2, sc2, rfl, -, -, -, -⟩ := hdr2.slots
               rw [Nat.zero_mul, Nat.add_zero] at hcell2
               have CD := Lib.hid hcell2; clear hcell2 hdd
               have DR := Lib.hid (show DeedR Hd317 d _ _ from hdr2); clear hdr2
               have hs320 := Lib.hid (hs281.out.trans hl319)
               replace F5 := Lib.hid (F5.out.mono hl319)
               have hle321 := hle282.trans hl319
               refine hK _ _ (.inr ⟨_, _, hs320.out, mD316⟩) ?_
               clear hK K
               try simp only [Act.put, List.setIfInBounds_toArray, List.set_cons_zero, List.set_cons_succ, List.getElem_toArray, List.getElem_cons_succ, List.getElem_cons_zero]
               refine AnyFrom.stronger (S2 := fun w' => ∃ H' L', Hle Hd317 H' ∧ Mem w0 H' ((w3.heap.size, .cells #[.int .i64 h.size, .int .i64 h.half, .int .i64 h.scan, .bool h.busy, .slice ob h.old.length oc, .slice nb h.new.length nc, .slice rb h.regs.length rc] 31) :: (w.heap.size, PBox size regs (.slice lb ds.length lc)) :: L') w') (fun w' ⟨H', L', hl', hm⟩ => ⟨H', L', hs320.out.trans hl', hm⟩) _ ?_
               have hs322 := Lib.hid (Hle.refl Hd317)
               refine AnyFrom.take (i := 8) (v := ?_) rfl (by kernel_rfl) (by kernel_rfl) (by kernel_rfl) (by kernel_rfl) (fun _ _ _ h => h) ⟨by kernel_rfl, ?_⟩ ⟨_, _, hs322.out, mD316⟩ ?_
               rotate_left
               · first | (rintro w' ⟨H', L', hl', hm⟩; have es := hm.eqs; simp only [EqsL] at es; go_simp; done) | (rintro w' ⟨H', L', hl', hm⟩; have es := hm.eqs; simp only [EqsL] at es; go_simp; with_reducible rfl)
               simp only [Act.put, List.setIfInBounds_toArray, List.set_cons_zero, List.set_cons_succ, List.getElem_toArray, List.getElem_cons_succ, List.getElem_cons_zero]
               refine AnyFrom.take (i := 9) (v := ?_) rfl (by kernel_rfl) (by kernel_rfl) (by kernel_rfl) (by kernel_rfl) (fun _ _ _ h => h) ⟨by kernel_rfl, ?_⟩ ⟨_, _, hs322.out, mD316⟩ ?_
               rotate_left
               · first | (rintro w' ⟨H', L', hl', hm⟩; have es := hm.eqs; simp only [EqsL] at es; have q0 := ((CD.out 0 _ rfl).mono hl').cell hm; have q1 := ((CD.out 1 _ rfl).mono hl').cell hm; have q2 := ((CD.out 2 _ rfl).mono hl').cell hm; have q3 := ((CD.out 3 _ rfl).mono hl').cell hm; have q4 := ((CD.out 4 _ rfl).mono hl').cell hm; have q5 := ((CD.out 5 _ rfl).mono hl').cell hm; have q6 := ((CD.out 6 _ rfl).mono hl').cell hm; have q7 := ((CD.out 7 _ rfl).mono hl').cell hm; have q8 := ((CD.out 8 _ rfl).mono hl').cell hm; have q9 := ((CD.out 9 _ rfl).mono hl').cell hm; have q10 := ((CD.out 10 _ rfl).mono hl').cell hm; have q11 := ((CD.out 11 _ rfl).mono hl').cell hm; rw [Nat.add_zero] at q0; go_simp; done) | (rintro w' ⟨H', L', hl', hm⟩; have es := hm.eqs; simp only [EqsL] at es; have q0 := ((CD.out 0 _ rfl).mono hl').cell hm; have q1 := ((CD.out 1 _ rfl).mono hl').cell hm; have q2 := ((CD.out 2 _ rfl).mono hl').cell hm; have q3 := ((CD.out 3 _ rfl).mono hl').cell hm; have q4 := ((CD.out 4 _ rfl).mono hl').cell hm; have q5 := ((CD.out 5 _ rfl).mono hl').cell hm; have q6 := ((CD.out 6 _ rfl).mono hl').cell hm; have q7 := ((CD.out 7 _ rfl).mono hl').cell hm; have q8 := ((CD.out 8 _ rfl).mono hl').cell hm; have q9 := ((CD.out 9 _ rfl).mono hl').cell hm; have q10 := ((CD.out 10 _ rfl).mono hl').cell hm; have q11 := ((CD.out 11 _ rfl).mono hl').cell hm; rw [Nat.add_zero] at q0; go_simp; with_reducible rfl)
               simp only [Act.put, List.setIfInBounds_toArray, List.set_cons_zero, List.set_cons_succ, List.getElem_toArray, List.getElem_cons_succ, List.getElem_cons_zero]
               refine AnyFrom.call (i := 10) (by kernel_rfl) rfl (by kernel_rfl) fun K hK => ?_
               go_simp
               refine (DoU_any h HGD.out _ _ _ F5.out mD316 d _ _ DR.out (by have := HAL.out; omega)).mono ?_
               rw [hres]
               rintro e wd325 ⟨Ho324, vo3, vn3, vr3, rfl, hl326, f3, mD323⟩
               rw [hq] at f3
               rw [hq, hx]
               obtain ⟨ob3, oc3, nb3, nc3, rb3, rc3, rfl, rfl, rfl⟩ := f3.shape6
               have F3 := Lib.hid f3; clear f3
               unfold HVal ValM.v
               have hs327 := Lib.hid (hs322.out.trans hl326)
               replace F5 := Lib.hid (F5.out.mono hl326)
               replace DR := Lib.hid (DR.out.mono hl326)
               have hle328 := hle321.trans hl326
               refine hK _ _ (.inr ⟨_, _, hs327.out, mD323⟩) ?_
               clear hK K
               try simp only [Act.put, List.setIfInBounds_toArray, List.set_cons_zero, List.set_cons_succ, List.getElem_toArray, List.getElem_cons_succ, List.getElem_cons_zero]
               refine AnyFrom.pure (i := 11) (v := ?_) rfl (by kernel_rfl) (by kernel_rfl) (by kernel_rfl) (by decide) (fun _ _ _ h => h) ⟨by kernel_rfl, ?_⟩ ⟨_, _, hs327.out, mD323⟩ ?_
               rotate_left
               · first | (intro w'; go_simp; done) | (intro w'; go_simp; with_reducible rfl)
               simp only [Act.put, List.setIfInBounds_toArray, List.set_cons_zero, List.set_cons_succ, List.getElem_toArray, List.getElem_cons_succ, List.getElem_cons_zero]
               refine AnyFrom.pure (i := 12) (v := ?_) rfl (by kernel_rfl) (by kernel_rfl) (by kernel_rfl) (by decide) (fun _ _ _ h => h) ⟨by kernel_rfl, ?_⟩ ⟨_, _, hs327.out, mD323⟩ ?_
               rotate_left
               · first | (intro w'; go_simp; done) | (intro w'; go_simp; with_reducible rfl)
               simp only [Act.put, List.setIfInBounds_toArray, List.set_cons_zero, List.set_cons_succ, List.getElem_toArray, List.getElem_cons_succ, List.getElem_cons_zero]
               refine AnyFrom.pure (i := 13) (v := ?_) rfl (by kernel_rfl) (by kernel_rfl) (by kernel_rfl) (by decide) (fun _ _ _ h => h) ⟨by kernel_rfl, ?_⟩ ⟨_, _, hs327.out, mD323⟩ ?_
               rotate_left
               · first | (intro w'; go_simp; done) | (intro w'; go_simp; with_reducible rfl)
               simp only [Act.put, List.setIfInBounds_toArray, List.set_cons_zero, List.set_cons_succ, List.getElem_toArray, List.getElem_cons_succ, List.getElem_cons_zero]
               refine AnyFrom.pure (i := 14) (v := ?_) rfl (by kernel_rfl) (by kernel_rfl) (by kernel_rfl) (by decide) (fun _ _ _ h => h) ⟨by kernel_rfl, ?_⟩ ⟨_, _, hs327.out, mD323⟩ ?_
               rotate_left
               · first | (intro w'; go_simp; done) | (intro w'; go_simp; with_reducible rfl)
               simp only [Act.put, List.setIfInBounds_toArray, List.set_cons_zero, List.set_cons_succ, List.getElem_toArray, List.getElem_cons_succ, List.getElem_cons_zero]
               refine AnyFrom.call (i := 17) (by kernel_rfl) rfl (by kernel_rfl) fun K hK => ?_
               have es := mD323.eqs
               simp only [EqsL] at es
               have ns := mD323.nes
               simp only [NeL, NeFrom] at ns
               go_simp
               have mS329 := (((((((mD323.set (i := 0) (v := .int .i64 q.size) (.tail (.tail .head))).set (i := 1) (v := .int .i64 q.half) (.tail (.tail .head))).set (i := 2) (v := .int .i64 q.scan) (.tail (.tail .head))).set (i := 3) (v := .bool q.busy) (.tail (.tail .head))).set (i := 4) (v := .slice ob3 q.old.length oc3) (.tail (.tail .head))).set (i := 5) (v := .slice nb3 q.new.length nc3) (.tail (.tail .head))).set (i := 6) (v := .slice rb3 q.regs.length rc3) (.tail (.tail .head)))
               simp only [List.setIfInBounds_toArray, List.set_cons_zero, List.set_cons_succ] at mS329
               generalize hwx : World.setCell _ _ _ = wS330
               rw [hwx] at mS329
               refine hK _ _ (.inr ⟨_, _, hs327.out, mS329⟩) ?_
               clear hK K
               try simp only [Act.put, List.setIfInBounds_toArray, List.set_cons_zero, List.set_cons_succ, List.getElem_toArray, List.getElem_cons_succ, List.getElem_cons_zero]
               clear es ns hwx
               refine AnyFrom.call (i := 18) (by kernel_rfl) rfl (by kernel_rfl) fun K hK => ?_
               have es := mS329.eqs
               simp only [EqsL] at es
               have ns := mS329.nes
               simp only [NeL, NeFrom] at ns
               go_simp
               have mS331 := (((mS329.set (i := 0) (v := .int .u8 rk) (.tail (.tail (.tail .head)))).set (i := 1) (v := .int .i64 rn) (.tail (.tail (.tail .head)))).set (i := 2) (v := .string rs) (.tail (.tail (.tail .head))))
               simp only [List.setIfInBounds_toArray, List.set_cons_zero, List.set_cons_succ] at mS331
               generalize hwx : World.setCell _ _ _ = wS332
               rw [hwx] at mS331
               refine hK _ _ (.inr ⟨_, _, hs327.out, mS331⟩) ?_
               clear hK K
               try simp only [Act.put, List.setIfInBounds_toArray, List.set_cons_zero, List.set_cons_succ, List.getElem_toArray, List.getElem_cons_succ, List.getElem_cons_zero]
               clear es ns hwx
               refine AnyFrom.pure (i := 19) (v := ?_) rfl (by kernel_rfl) (by kernel_rfl) (by kernel_rfl) (by decide) (fun _ _ _ h => h) ⟨by kernel_rfl, ?_⟩ ⟨_, _, hs327.out, mS331⟩ ?_
               rotate_left
               · first | (intro w'; go_simp; done) | (intro w'; go_simp; with_reducible rfl)
               simp only [Act.put, List.setIfInBounds_toArray, List.set_cons_zero, List.set_cons_succ, List.getElem_toArray, List.getElem_cons_succ, List.getElem_cons_zero]
               refine AnyFrom.done (by kernel_rfl) ?_ _
               exact key x7 x8 blk2 off2 cap2 lb2 lc2 sb2 sc2 ob3 oc3 nb3 nc3 rb3 rc3 ob5 oc5 nb5 nc5 rb5 rc5 _ ⟨Ho324, hle328, F3.out, mS331⟩
             ·
              refine AnyFrom.op rfl (by kernel_rfl) fun K hK => ?_
              go_simp
              generalize hxo : World.alloc wA276 _ = wA334
              have mA333 : Mem w0 Hk ((wA276.heap.size, .cells #[.int .i64 0, .int .i64 0, .int .i64 0, .bool false, .slice none 0 0, .slice none 0 0, .slice none 0 0] 31) :: (w3.heap.size, .cells #[.int .i64 h.size, .int .i64 h.half, .int .i64 h.scan, .bool h.busy, .slice ob h.old.length oc, .slice nb h.new.length nc, .slice rb h.regs.length rc] 31) :: (w.heap.size, PBox size regs (.slice lb ds.length lc)) :: (x8, .cells #[.int .u8 0, .int .i64 0, .string ByteArray.empty] 50) :: L) wA334 := by rw [← hxo]; exact mA275.alloc _
              obtain ⟨x7, hxk⟩ : ∃ k, k = wA276.heap.size := ⟨_, rfl⟩
              rw [← hxk] at mA333
              rw [← hxk]
              replace mA333 := mA333.perm (perm_fr2 _ _ _ _)
              clear hxk hxo
              refine hK _ _ (.inr ⟨_, _, hs0.out, mA333⟩) ?_
              clear hK K
              try simp only [Act.put, List.setIfInBounds_toArray, List.set_cons_zero, List.set_cons_succ, List.getElem_toArray, List.getElem_cons_succ, List.getElem_cons_zero]
              refine AnyFrom.call (i := 1) (by kernel_rfl) rfl (by kernel_rfl) fun K hK => ?_
              go_simp
              refine (Copy_fr h hbds _ _ _ (HF.out.mono hle0) mA333).mono ?_
              rintro e wc337 ⟨Hc336, vo5, vn5, vr5, rfl, hl338, f5, mC335⟩
              obtain ⟨ob5, oc5, nb5, nc5, rb5, rc5, rfl, rfl, rfl⟩ := f5.shape6
              have F5 := Lib.hid f5; clear f5
              unfold HVal
              have hs339 := Lib.hid (hs0.out.trans hl338)
              have hle340 := hle0.trans hl338
              refine hK _ _ (.inr ⟨_, _, hs339.out, mC335⟩) ?_
              clear hK K
              try simp only [Act.put, List.setIfInBounds_toArray, List.set_cons_zero, List.set_cons_succ, List.getElem_toArray, List.getElem_cons_succ, List.getElem_cons_zero]
              refine AnyFrom.call (i := 7) (by kernel_rfl) rfl (by kernel_rfl) fun K hK => ?_
              go_simp
              refine (lawDeeds_any _ [d] (by simp) (fun d' hd' => by rw [List.mem_singleton] at hd'; rw [hd']; have := HAL.out; omega) (HONE.out.mono hle340) mC335).mono ?_
              rintro e wd343 ⟨Hd342, dv2, rfl, hl344, hdd, mD341⟩
              obtain ⟨db2, cap2, rfl⟩ := hdd.shape
              obtain ⟨blk2, off2, lvv, svv, rfl, hcell2, hdr2⟩ := hdd.getDeed (i := 0) (by simp)
              obtain ⟨lb2, lc2, rfl, -, -, -, -⟩ := hdr2.list
              obtain ⟨sb2, sc2, rfl, -, -, -, -⟩ := hdr2.slots
              rw [Nat.zero_mul, Nat.add_zero] at hcell2
              have CD := Lib.hid hcell2; clear hcell2 hdd
              have DR := Lib.hid (show DeedR Hd342 d _ _ from hdr2); clear hdr2
              have hs345 := Lib.hid (hs339.out.trans hl344)
              replace F5 := Lib.hid (F5.out.mono hl344)
              have hle346 := hle340.trans hl344
              refine hK _ _ (.inr ⟨_, _, hs345.out, mD341⟩) ?_
              clear hK K
              try simp only [Act.put, List.setIfInBounds_toArray, List.set_cons_zero, List.set_cons_succ, List.getElem_toArray, List.getElem_cons_succ, List.getElem_cons_zero]
              refine AnyFrom.stronger (S2 := fun w' => ∃ H' L', Hle Hd342 H' ∧ Mem w0 H' ((w3.heap.size, .cells #[.int .i64 h.size, .int .i64 h.half, .int .i64 h.scan, .bool h.busy, .slice ob h.old.length oc, .slice nb h.new.length nc, .slice rb h.regs.length rc] 31) :: (w.heap.size, PBox size regs (.slice lb ds.length lc)) :: L') w') (fun w' ⟨H', L', hl', hm⟩ => ⟨H', L', hs345.out.trans hl', hm⟩) _ ?_
              have hs347 := Lib.hid (Hle.refl Hd342)
              refine AnyFrom.take (i := 8) (v := ?_) rfl (by kernel_rfl) (by kernel_rfl) (by kernel_rfl) (by kernel_rfl) (fun _ _ _ h => h) ⟨by kernel_rfl, ?_⟩ ⟨_, _, hs347.out, mD341⟩ ?_
              rotate_left
              · first | (rintro w' ⟨H', L', hl', hm⟩; have es := hm.eqs; simp only [EqsL] at es; go_simp; done) | (rintro w' ⟨H', L', hl', hm⟩; have es := hm.eqs; simp only [EqsL] at es; go_simp; with_reducible rfl)
              simp only [Act.put, List.setIfInBounds_toArray, List.set_cons_zero, List.set_cons_succ, List.getElem_toArray, List.getElem_cons_succ, List.getElem_cons_zero]
              refine AnyFrom.take (i := 9) (v := ?_) rfl (by kernel_rfl) (by kernel_rfl) (by kernel_rfl) (by kernel_rfl) (fun _ _ _ h => h) ⟨by kernel_rfl, ?_⟩ ⟨_, _, hs347.out, mD341⟩ ?_
              rotate_left
              · first | (rintro w' ⟨H', L', hl', hm⟩; have es := hm.eqs; simp only [EqsL] at es; have q0 := ((CD.out 0 _ rfl).mono hl').cell hm; have q1 := ((CD.out 1 _ rfl).mono hl').cell hm; have q2 := ((CD.out 2 _ rfl).mono hl').cell hm; have q3 := ((CD.out 3 _ rfl).mono hl').cell hm; have q4 := ((CD.out 4 _ rfl).mono hl').cell hm; have q5 := ((CD.out 5 _ rfl).mono hl').cell hm; have q6 := ((CD.out 6 _ rfl).mono hl').cell hm; have q7 := ((CD.out 7 _ rfl).mono hl').cell hm; have q8 := ((CD.out 8 _ rfl).mono hl').cell hm; have q9 := ((CD.out 9 _ rfl).mono hl').cell hm; have q10 := ((CD.out 10 _ rfl).mono hl').cell hm; have q11 := ((CD.out 11 _ rfl).mono hl').cell hm; rw [Nat.add_zero] at q0; go_simp; done) | (rintro w' ⟨H', L', hl', hm⟩; have es := hm.eqs; simp only [EqsL] at es; have q0 := ((CD.out 0 _ rfl).mono hl').cell hm; have q1 := ((CD.out 1 _ rfl).mono hl').cell hm; have q2 := ((CD.out 2 _ rfl).mono hl').cell hm; have q3 := ((CD.out 3 _ rfl).mono hl').cell hm; have q4 := ((CD.out 4 _ rfl).mono hl').cell hm; have q5 := ((CD.out 5 _ rfl).mono hl').cell hm; have q6 := ((CD.out 6 _ rfl).mono hl').cell hm; have q7 := ((CD.out 7 _ rfl).mono hl').cell hm; have q8 := ((CD.out 8 _ rfl).mono hl').cell hm; have q9 := ((CD.out 9 _ rfl).mono hl').cell hm; have q10 := ((CD.out 10 _ rfl).mono hl').cell hm; have q11 := ((CD.out 11 _ rfl).mono hl').cell hm; rw [Nat.add_zero] at q0; go_simp; with_reducible rfl)
              simp only [Act.put, List.setIfInBounds_toArray, List.set_cons_zero, List.set_cons_succ, List.getElem_toArray, List.getElem_cons_succ, List.getElem_cons_zero]
              refine AnyFrom.call (i := 10) (by kernel_rfl) rfl (by kernel_rfl) fun K hK => ?_
              go_simp
              refine (DoU_any h HGD.out _ _ _ F5.out mD341 d _ _ DR.out (by have := HAL.out; omega)).mono ?_
              rw [hres]
              rintro e wd350 ⟨Ho349, vo3, vn3, vr3, rfl, hl351, f3, mD348⟩
              rw [hq] at f3
              rw [hq, hx]
              obtain ⟨ob3, oc3, nb3, nc3, rb3, rc3, rfl, rfl, rfl⟩ := f3.shape6
              have F3 := Lib.hid f3; clear f3
              unfold HVal ValM.v
              have hs352 := Lib.hid (hs347.out.trans hl351)
              replace F5 := Lib.hid (F5.out.mono hl351)
              replace DR := Lib.hid (DR.out.mono hl351)
              have hle353 := hle346.trans hl351
              refine hK _ _ (.inr ⟨_, _, hs352.out, mD348⟩) ?_
              clear hK K
              try simp only [Act.put, List.setIfInBounds_toArray, List.set_cons_zero, List.set_cons_succ, List.getElem_toArray, List.getElem_cons_succ, List.getElem_cons_zero]
              refine AnyFrom.pure (i := 11) (v := ?_) rfl (by kernel_rfl) (by kernel_rfl) (by kernel_rfl) (by decide) (fun _ _ _ h => h) ⟨by kernel_rfl, ?_⟩ ⟨_, _, hs352.out, mD348⟩ ?_
              rotate_left
              · first | (intro w'; go_simp; done) | (intro w'; go_simp; with_reducible rfl)
              simp only [Act.put, List.setIfInBounds_toArray, List.set_cons_zero, List.set_cons_succ, List.getElem_toArray, List.getElem_cons_succ, List.getElem_cons_zero]
              refine AnyFrom.pure (i := 12) (v := ?_) rfl (by kernel_rfl) (by kernel_rfl) (by kernel_rfl) (by decide) (fun _ _ _ h => h) ⟨by kernel_rfl, ?_⟩ ⟨_, _, hs352.out, mD348⟩ ?_
              rotate_left
              · first | (intro w'; go_simp; done) | (intro w'; go_simp; with_reducible rfl)
              simp only [Act.put, List.setIfInBounds_toArray, List.set_cons_zero, List.set_cons_succ, List.getElem_toArray, List.getElem_cons_succ, List.getElem_cons_zero]
              refine AnyFrom.pure (i := 13) (v := ?_) rfl (by kernel_rfl) (by kernel_rfl) (by kernel_rfl) (by decide) (fun _ _ _ h => h) ⟨by kernel_rfl, ?_⟩ ⟨_, _, hs352.out, mD348⟩ ?_
              rotate_left
              · first | (intro w'; go_simp; done) | (intro w'; go_simp; with_reducible rfl)
              simp only [Act.put, List.setIfInBounds_toArray, List.set_cons_zero, List.set_cons_succ, List.getElem_toArray, List.getElem_cons_succ, List.getElem_cons_zero]
              refine AnyFrom.pure (i := 14) (v := ?_) rfl (by kernel_rfl) (by kernel_rfl) (by kernel_rfl) (by decide) (fun _ _ _ h => h) ⟨by kernel_rfl, ?_⟩ ⟨_, _, hs352.out, mD348⟩ ?_
              rotate_left
              · first | (intro w'; go_simp; done) | (intro w'; go_simp; with_reducible rfl)
              simp only [Act.put, List.setIfInBounds_toArray, List.set_cons_zero, List.set_cons_succ, List.getElem_toArray, List.getElem_cons_succ, List.getElem_cons_zero]
              refine AnyFrom.call (i := 17) (by kernel_rfl) rfl (by kernel_rfl) fun K hK => ?_
              have es := mD348.eqs
              simp only [EqsL] at es
              have ns := mD348.nes
              simp only [NeL, NeFrom] at ns
              go_simp
              have mS354 := (((((((mD348.set (i := 0) (v := .int .i64 q.size) (.tail (.tail .head))).set (i := 1) (v := .int .i64 q.half) (.tail (.tail .head))).set (i := 2) (v := .int .i64 q.scan) (.tail (.tail .head))).set (i := 3) (v := .bool q.busy) (.tail (.tail .head))).set (i := 4) (v := .slice ob3 q.old.length oc3) (.tail (.tail .head))).set (i := 5) (v := .slice nb3 q.new.length nc3) (.tail (.tail .head))).set (i := 6) (v := .slice rb3 q.regs.length rc3) (.tail (.tail .head)))
              simp only [List.setIfInBounds_toArray, List.set_cons_zero, List.set_cons_succ] at mS354
              generalize hwx : World.setCell _ _ _ = wS355
              rw [hwx] at mS354
              refine hK _ _ (.inr ⟨_, _, hs352.out, mS354⟩) ?_
              clear hK K
              try simp only [Act.put, List.setIfInBounds_toArray, List.set_cons_zero, List.set_cons_succ, List.getElem_toArray, List.getElem_cons_succ, List.getElem_cons_zero]
              clear es ns hwx
              refine AnyFrom.call (i := 18) (by kernel_rfl) rfl (by kernel_rfl) fun K hK => ?_
              have es := mS354.eqs
              simp only [EqsL] at es
              have ns := mS354.nes
              simp only [NeL, NeFrom] at ns
              go_simp
              have mS356 := (((mS354.set (i := 0) (v := .int .u8 rk) (.tail (.tail (.tail .head)))).set (i := 1) (v := .int .i64 rn) (.tail (.tail (.tail .head)))).set (i := 2) (v := .string rs) (.tail (.tail (.tail .head))))
              simp only [List.setIfInBounds_toArray, List.set_cons_zero, List.set_cons_succ] at mS356
              generalize hwx : World.setCell _ _ _ = wS357
              rw [hwx] at mS356
              refine hK _ _ (.inr ⟨_, _, hs352.out, mS356⟩) ?_
              clear hK K
              try simp only [Act.put, List.setIfInBounds_toArray, List.set_cons_zero, List.set_cons_succ, List.getElem_toArray, List.getElem_cons_succ, List.getElem_cons_zero]
              clear es ns hwx
              refine AnyFrom.pure (i := 19) (v := ?_) rfl (by kernel_rfl) (by kernel_rfl) (by kernel_rfl) (by decide) (fun _ _ _ h => h) ⟨by kernel_rfl, ?_⟩ ⟨_, _, hs352.out, mS356⟩ ?_
              rotate_left
              · first | (intro w'; go_simp; done) | (intro w'; go_simp; with_reducible rfl)
              simp only [Act.put, List.setIfInBounds_toArray, List.set_cons_zero, List.set_cons_succ, List.getElem_toArray, List.getElem_cons_succ, List.getElem_cons_zero]
              refine AnyFrom.done (by kernel_rfl) ?_ _
              exact key x7 x8 blk2 off2 cap2 lb2 lc2 sb2 sc2 ob3 oc3 nb3 nc3 rb3 rc3 ob5 oc5 nb5 nc5 rb5 rc5 _ ⟨Ho349, hle353, F3.out, mS356⟩
          case' rest =>
            rintro x7 x8 blk2 off2 cap2 lb2 lc2 sb2 sc2 ob3 oc3 nb3 nc3 rb3 rc3 ob5 oc5 nb5 nc5 rb5 rc5 wS ⟨H9, hl9, f9, m8⟩
            have F9 := Lib.hid f9; clear f9
            have HF9 := Lib.hid (HF.out.mono hl9)
            have HLE9 := Lib.hid (HLE.out.trans hl9)
            clear hl9 hres hq hx
            have es := m8.eqs
            simp only [EqsL] at es
            have ns := m8.nes
            simp only [NeL, NeFrom] at ns
            have c0 := ((HCELL.out 0 _ rfl).mono HLE9.out).cell m8
            rw [Nat.add_zero] at c0
            by_cases hre : r.1 = 0
            · have hgq : HGood q := by rw [HQE.out hre]; exact HGDO.out
              have hfq := HFD.out hre
              rw [← HQE.out hre] at hfq
              have HGQ := Lib.hid hgq; clear hgq
              have HFQ := Lib.hid hfq; clear hfq
              have hreI : (r.1 != 0) = false := by rw [hre]; rfl
              clear hre
              have hne1 : blk ≠ w3.heap.size := ((HCELL.out 0 _ rfl).mono HLE9.out).ne m8 (.head _)
              have hne2 : w3.heap.size ≠ blk := fun e => hne1 e.symm
              have mS := (((((((m8.set (i := 0) (v := .int .i64 q.size) .head).set (i := 1) (v := .int .i64 q.half) .head).set (i := 2) (v := .int .i64 q.scan) .head).set (i := 3) (v := .bool q.busy) .head).set (i := 4) (v := .slice ob3 q.old.length oc3) .head).set (i := 5) (v := .slice nb3 q.new.length nc3) .head).set (i := 6) (v := .slice rb3 q.regs.length rc3) .head)
              simp only [List.setIfInBounds_toArray, List.set_cons_zero, List.set_cons_succ] at mS
              have mT := (mS.perm (perm_fl _ _ _ _ _)).drop.drop
              clear mS
              by_cases hk1 : d.kind = 1
              · have hk1I : ((d.kind : Int) == 1) = true := by rw [hk1]; rfl
                have hwm : IntKind.i64.wrap ((made : Int) + 1) = (made : Int) + 1 := wrap_i64s _ (by omega) (by omega)
                have hf1 : FI h1 (made + 1) q := by have := HFQ.out; rwa [if_pos hk1] at this
                have HF1 := Lib.hid hf1; clear hf1 hk1
                go_wp2_with fail
                go_roundw
                case rel => exact ⟨k + 1, made + 1, q, H9, ob3, oc3, nb3, nc3, rb3, rc3, HGQ.out, HF1.out, by omega, by omega, by go_num, by go_num, HLE9.out, F9.out, mT⟩
                case measure => simp [intOf]; omega
              · have hk1I : ((d.kind : Int) == 1) = false := beq_eq_false_iff_ne.2 (by omega)
                have hf1 : FI h1 made q := by have := HFQ.out; rwa [if_neg hk1] at this
                have HF1 := Lib.hid hf1; clear hf1 hk1
                go_wp2_with fail
                go_roundw
                case rel => exact ⟨k + 1, made, q, H9, ob3, oc3, nb3, nc3, rb3, rc3, HGQ.out, HF1.out, by omega, by omega, by go_num, rfl, HLE9.out, F9.out, mT⟩
                case measure => simp [intOf]; omega
            · have hreI : (r.1 != 0) = true := by simpa using hre
              clear hre
              go_wp2_with fail
              go_roundw
              case rel => exact ⟨k + 1, made, h, H9, ob, oc, nb, nc, rb, rc, HGD.out, HFI.out, by omega, by omega, by go_num, rfl, HLE9.out, HF9.out, (m8.perm (perm_fl _ _ _ _ _)).drop.drop⟩
              case measure => simp [intOf]; omega
    · have hltI : ¬ (k : Int) < ls.length := by omega
      go_wp2_with fail
      clear es
      have hfi9 := Finish_any h HGD.out _ _ _ HF.out mk
      unfold HVal at hfi9
      refine hfi9.mono ?_
      clear hfi9
      rintro e w8 ⟨kf, h4, H8, vo8, vn8, vr8, hst, hbz8, hk6, rfl, hl8, f8, mE⟩
      have hfin := fin_of hst hbz8 (by omega)
      have hf9 := FST.out made h HFI.out HGD.out.ok
      have g4 := fin_good HGD.out
      unfold HeapM.fin at hfin g4
      rw [hfin] at hf9 g4
      have G4 := Lib.hid g4; clear g4
      have hn4 := hf9.idle hbz8
      have hl4 := live_new G4.out.ok hbz8
      have hnb := G4.out.ok.core.bounds.1
      rw [HLQ.out] at hn4
      clear hst hfin hf9 hbz8
      obtain ⟨ob8, oc8, nb8, nc8, rb8, rc8, rfl, rfl, rfl⟩ := f8.shape6
      have F8 := Lib.hid f8; clear f8
      unfold HVal
      clear mk
      have es := mE.eqs
      simp only [EqsL] at es
      have ns := mE.nes
      simp only [NeL, NeFrom] at ns
      go_wp2_with fail
      have mF := (((((((mE.set (i := 0) (v := .int .i64 h4.size) .head).set (i := 1) (v := .int .i64 h4.half) .head).set (i := 2) (v := .int .i64 h4.scan) .head).set (i := 3) (v := .bool h4.busy) .head).set (i := 4) (v := .slice ob8 h4.old.length oc8) .head).set (i := 5) (v := .slice nb8 h4.new.length nc8) .head).set (i := 6) (v := .slice rb8 h4.regs.length rc8) .head)
      simp only [List.setIfInBounds_toArray, List.set_cons_zero, List.set_cons_succ] at mF
      clear es ns mE
      refine (Copy_fr h4 G4.out.ok.hbd _ _ _ F8.out mF).mono ?_
      rintro e wc ⟨Hc, voc, vnc, vrc, rfl, hlc8, fc, mG⟩
      obtain ⟨obc, occ, nbc, ncc, rbc, rcc, rfl, rfl, rfl⟩ := fc.shape6
      unfold HVal
      have es := mG.eqs
      simp only [EqsL] at es
      go_wp2_with fail
      refine (LiveB_any _ h4 G4.out _ _ _ fc mG (Nat.le_refl _)).mono ?_
      rintro e wl ⟨rfl, mH⟩
      have HLC := Lib.hid (show (h4.liveN (12000 * 401 + h4.regs.length) [] h4.regs).length = h4.liveC from rfl)
      rw [HLC.out]
      generalize h4.liveC = lz at *
      clear es mG HLC
      have es := mH.eqs
      simp only [EqsL] at es
      have hc1 : (lz : Int) ≤ (h4.new.length : Int) := by omega
      have hwa : IntKind.i64.wrap ((lq : Int) + (made : Int)) = (lq : Int) + (made : Int) := wrap_i64s _ (by omega) (by omega)
      have hc2 : (h4.new.length : Int) ≤ (lq : Int) + (made : Int) := by omega
      go_wp2_with fail
      refine (awake_any mH).mono ?_
      rintro e w9 ⟨rfl, m9⟩
      go_wp2_with fail
      go_ret
      exact ⟨rfl, (m9.drop.drop).weaken (((HL5.out.trans HLE.out).trans hl8).trans hlc8)⟩
end Go.Proofs.Ythipkmmdjhpklaa
