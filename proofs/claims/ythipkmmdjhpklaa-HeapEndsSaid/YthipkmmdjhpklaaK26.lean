/- The walk: the law HeapEnds. -/
import Derived.Test.YthipkmmdjhpklaaK25
namespace Go.Proofs.Ythipkmmdjhpklaa
set_option linter.unusedVariables false
set_option linter.unusedSimpArgs false
open Go.RowKit

set_option maxRecDepth 10000 in
set_option maxHeartbeats 8000000 in
theorem ends_any (size regs : Int) (hs : I64 size) (hr : I64 regs) (dv : Value) (ds : List DeedM) {w0 w : World} {H : Hp} {L : List (Nat × Obj)} (hd : SlR encDeed H dv ds) (m : Mem w0 H L w) :
    Calls Try.prog 8 #[.agg #[.int .i64 size, .int .i64 regs, dv]] w (Ret w0 H L (.bool true)) := by
  have HD := Lib.hid hd
  have HSZ := Lib.hid hs; clear hs
  have HRG := Lib.hid hr; clear hr
  obtain ⟨lb, lc, rfl, _, hlc, _, _⟩ := hd
  have hlc := size_le_maxLen hlc
  have m1 := m.alloc (PBox size regs (.slice lb ds.length lc))
  have es := m1.eqs
  simp only [EqsL] at es
  go_enter Try.func8, Try.ntmps8
  go_wp2_with fail
  refine (ready_any size regs _ ds HD.out m1).mono ?_
  rintro e w1 ⟨rfl, m2⟩
  clear es m1
  have es := m2.eqs
  simp only [EqsL] at es
  cases hrd : readyM size regs ds
  · have HRD := Lib.hid hrd; clear hrd
    go_wp2_with fail
    refine (awake_any m2).mono ?_
    rintro e w3 ⟨rfl, m3⟩
    go_wp2_with fail
    go_ret
    exact ⟨rfl, m3.drop⟩
  have HRD := Lib.hid hrd; clear hrd
  go_wp2_with fail
  refine (played_any size regs HSZ.out HRG.out _ ds HRD.out HD.out m2).mono ?_
  rintro e w3 ⟨h1, H3, vo3, vn3, vr3, rfl, hl3, f3, g1, hb1, m3⟩
  obtain ⟨ob3, oc3, nb3, nc3, rb3, rc3, rfl, rfl, rfl⟩ := f3.shape6
  have F3 := Lib.hid f3; clear f3
  have G1 := Lib.hid g1; clear g1
  have HB1 := Lib.hid hb1; clear hb1
  have HL3 := Lib.hid hl3; clear hl3
  unfold HVal
  clear es m2
  have m4 := m3.alloc (.cells #[.int .i64 h1.size, .int .i64 h1.half, .int .i64 h1.scan, .bool h1.busy, .slice ob3 h1.old.length oc3, .slice nb3 h1.new.length nc3, .slice rb3 h1.regs.length rc3] 31)
  have es := m3.eqs
  simp only [EqsL] at es
  go_wp2_with fail
  have hdb := do_begin HB1.out
  refine (Do_ok G1.out _ _ _ F3.out m4 dBegin _ _ (deedR_made H3 8 0 0 0 0 ByteArray.empty (by decide) (by unfold I64; omega) (by unfold I64; omega) (by unfold I64; omega) (by decide) (by decide)) (by decide) (by rw [hdb])).mono ?_
  rw [hdb]
  clear hdb
  rintro e w5 ⟨H5, vo5, vn5, vr5, rfl, hl5, f5, m5⟩
  simp only at f5 ⊢
  have EI := Lib.hid (EndsInv.start G1.out HB1.out)
  generalize h1.begin = h2 at *
  have hn6 := G1.out.ok.core.bounds.1
  generalize h1.new.length = n at *
  obtain ⟨ob5, oc5, nb5, nc5, rb5, rc5, rfl, rfl, rfl⟩ := f5.shape6
  have F5 := Lib.hid f5; clear f5
  unfold HVal unitV ValM.v
  simp only [Int.natCast_zero]
  clear es m3 m4
  have es := m5.eqs
  simp only [EqsL] at es
  have ns := m5.nes
  simp only [NeL, NeFrom] at ns
  go_wp2_with fail
  have m6 := ((((((((m5.set (i := 0) (v := .int .i64 h2.size) .head).set (i := 1) (v := .int .i64 h2.half) .head).set (i := 2) (v := .int .i64 h2.scan) .head).set (i := 3) (v := .bool h2.busy) .head).set (i := 4) (v := .slice ob5 h2.old.length oc5) .head).set (i := 5) (v := .slice nb5 h2.new.length nc5) .head).set (i := 6) (v := .slice rb5 h2.regs.length rc5) .head)).alloc (.cells #[.int .u8 0, .int .i64 0, .string ByteArray.empty] 50)
  simp only [List.setIfInBounds_toArray, List.set_cons_zero, List.set_cons_succ] at m6
  have m7 := m6.drop
  clear es ns m5 m6
  have HL5 := Lib.hid (HL3.out.trans hl5); clear hl5
  go_loopw [8, 9, 10, 11, 12] (fun v8 v9 _ _ _ wr => ∃ (i sc : Nat) (h : HeapM) (H' : Hp) (ob : Option Addr) (oc : Nat) (nb : Option Addr) (nc : Nat) (rb : Option Addr) (rc : Nat), EndsInv n i h sc ∧ i ≤ n + 1 ∧ v9 = .int .i64 i ∧ v8 = .int .i64 sc ∧ Hle H5 H' ∧ HFr H' h (.slice ob h.old.length oc) (.slice nb h.new.length nc) (.slice rb h.regs.length rc) ∧ Mem w0 H' ((w3.heap.size, .cells #[.int .i64 h.size, .int .i64 h.half, .int .i64 h.scan, .bool h.busy, .slice ob h.old.length oc, .slice nb h.new.length nc, .slice rb h.regs.length rc] 31) :: (w.heap.size, PBox size regs (.slice lb ds.length lc)) :: L) wr) (fun _ i _ _ _ _ => n + 1 - (intOf i).toNat)
  case atStart => exact ⟨0, 0, h2, H5, ob5, oc5, nb5, nc5, rb5, rc5, EI.out, Nat.zero_le _, rfl, rfl, Hle.refl _, F5.out, m7⟩
  case round =>
    obtain ⟨i, sc, h, H', ob, oc, nb, nc, rb, rc, ei, hi, rfl, rfl, hle, hf, mk⟩ := hrel
    clear m7
    have HE := Lib.hid ei; clear ei
    have HF := Lib.hid hf; clear hf
    have HLE := Lib.hid hle; clear hle
    have es := mk.eqs
    simp only [EqsL] at es
    by_cases hin : i ≤ n
    · have hinI : (i : Int) ≤ n := by omega
      cases hb : h.busy
      · have hsc := HE.out.idle hb
        rw [hb] at es
        have hscI : (sc : Int) ≤ 2 * (n : Int) := by omega
        have hw2 : IntKind.i64.wrap (2 * (n : Int)) = 2 * (n : Int) := wrap_i64s _ (by omega) (by omega)
        clear hb
        go_wp2_with fail
        refine (awake_any mk).mono ?_
        rintro e w9 ⟨rfl, m9⟩
        go_wp2_with fail
        go_ret
        exact ⟨rfl, (m9.drop.drop).weaken (HL5.out.trans HLE.out)⟩
      · have HBB := Lib.hid hb
        rw [hb] at es
        clear hb
        have hbds := HE.out.good.ok.hbd
        go_wp2_with fail
        have hcp := Copy_fr h hbds _ _ _ HF.out mk
        unfold HVal at hcp
        rw [HBB.out] at hcp
        refine hcp.mono ?_
        rintro e wa ⟨H6, vo6, vn6, vr6, rfl, hl6, f6, mA⟩
        obtain ⟨ob6, oc6, nb6, nc6, rb6, rc6, rfl, rfl, rfl⟩ := f6.shape6
        have F6 := Lib.hid f6; clear f6
        unfold HVal
        clear es mk hcp
        have es := mA.eqs
        simp only [EqsL] at es
        go_wp2_with fail
        have hds := do_step2 h
        refine (Do_ok HE.out.good _ _ _ F6.out mA dStep2 _ _ (deedR_made H6 9 2 0 0 0 ByteArray.empty (by decide) (by unfold I64; omega) (by unfold I64; omega) (by unfold I64; omega) (by decide) (by decide)) (by decide) (by rw [hds])).mono ?_
        rw [hds]
        clear hds
        rintro e wb ⟨H7, vo7, vn7, vr7, rfl, hl7, f7, mB⟩
        simp only at f7 ⊢
        have hbb := HE.out.busy HBB.out
        obtain ⟨em, hk2⟩ := HE.out.step HBB.out
        have EM := Lib.hid em; clear em
        generalize (h.stepM 2).2 = h3 at *
        generalize (h.stepM 2).1 = kk at *
        obtain ⟨ob7, oc7, nb7, nc7, rb7, rc7, rfl, rfl, rfl⟩ := f7.shape6
        have F7 := Lib.hid f7; clear f7
        unfold HVal intV ValM.v
        have hk0 : ¬ (kk : Int) < 0 := by omega
        have hk2I : ¬ (2 : Int) < (kk : Int) := by omega
        have hwsc : IntKind.i64.wrap ((sc : Int) + (kk : Int)) = (sc : Int) + (kk : Int) := wrap_i64s _ (by omega) (by omega)
        have m8 := (((((((((mB.set (i := 0) (v := .int .i64 h3.size) .head).set (i := 1) (v := .int .i64 h3.half) .head).set (i := 2) (v := .int .i64 h3.scan) .head).set (i := 3) (v := .bool h3.busy) .head).set (i := 4) (v := .slice ob7 h3.old.length oc7) .head).set (i := 5) (v := .slice nb7 h3.new.length nc7) .head).set (i := 6) (v := .slice rb7 h3.regs.length rc7) .head)).alloc (.cells #[.int .i64 h3.size, .int .i64 h3.half, .int .i64 h3.scan, .bool h3.busy, .slice ob7 h3.old.length oc7, .slice nb7 h3.new.length nc7, .slice rb7 h3.regs.length rc7] 31)).alloc (.cells #[.int .u8 1, .int .i64 kk, .string ByteArray.empty] 50)
        simp only [List.setIfInBounds_toArray, List.set_cons_zero, List.set_cons_succ] at m8
        clear es mA
        have es := mB.eqs
        simp only [EqsL] at es
        have ns := mB.nes
        simp only [NeL, NeFrom] at ns
        go_wp2_with fail
        have hbd3 := EM.out.good.ok.hbd
        refine (Copy_fr h3 hbd3 _ _ _ F7.out m8).mono ?_
        rintro e wc ⟨H8, vo8, vn8, vr8, rfl, hl8, f8, mC⟩
        simp only [World.size_alloc, World.size_setCell] at mC
        obtain ⟨ob8, oc8, nb8, nc8, rb8, rc8, rfl, rfl, rfl⟩ := f8.shape6
        have F8 := Lib.hid f8; clear f8
        unfold HVal
        clear es ns mB m8
        have es := mC.eqs
        simp only [EqsL] at es
        go_wp2_with fail
        have hmd := EM.out.made dNew rfl
        refine (DoU_any h3 EM.out.good _ _ _ F8.out mC dNew _ _ (deedR_made H8 1 0 0 0 2 ⟨#[110, 101, 119]⟩ (by decide) (by unfold I64; omega) (by unfold I64; omega) (by unfold I64; omega) (by decide) (by decide)) (by decide)).mono ?_
        have hre := do_err h3 dNew
        generalize h3.do dNew = r at *
        rintro e wd ⟨H9, vo9, vn9, vr9, rfl, hl9, f9, mD⟩
        have HLQ := Lib.hid ((((HLE.out.trans hl6).trans hl7).trans hl8).trans hl9)
        have F3Q := Lib.hid ((F7.out.mono hl8).mono hl9)
        have hoq : r.1 = 0 → outH r = r.2.2 := fun h => by unfold outH; rw [if_pos h]
        have HOQ := Lib.hid hoq; clear hoq
        generalize hq : outH r = q at *
        have HMD := Lib.hid (fun h => by have := hmd h; rwa [← HOQ.out h] at this)
        clear hmd
        generalize r.1 = re at *
        generalize outV r = x at *
        clear hq HOQ
        obtain ⟨xk, xn, xs⟩ := x
        obtain ⟨ob9, oc9, nb9, nc9, rb9, rc9, rfl, rfl, rfl⟩ := f9.shape6
        have F9 := Lib.hid f9; clear f9
        unfold HVal ValM.v
        clear es mC
        have es := mD.eqs
        simp only [EqsL] at es
        have ns := mD.nes
        simp only [NeL, NeFrom] at ns
        have hi1 : IntKind.i64.wrap ((i : Int) + 1) = (i : Int) + 1 := wrap_i64s _ (by omega) (by omega)
        by_cases hr0 : re = 0
        · subst hr0
          go_wp2_with fail
          have mE := (((((((mD.set (i := 0) (v := .int .i64 q.size) (.tail .head)).set (i := 1) (v := .int .i64 q.half) (.tail .head)).set (i := 2) (v := .int .i64 q.scan) (.tail .head)).set (i := 3) (v := .bool q.busy) (.tail .head)).set (i := 4) (v := .slice ob9 q.old.length oc9) (.tail .head)).set (i := 5) (v := .slice nb9 q.new.length nc9) (.tail .head)).set (i := 6) (v := .slice rb9 q.regs.length rc9) (.tail .head))
          have mF := (((((((mE.set (i := 0) (v := .int .i64 q.size) (.tail (.tail .head))).set (i := 1) (v := .int .i64 q.half) (.tail (.tail .head))).set (i := 2) (v := .int .i64 q.scan) (.tail (.tail .head))).set (i := 3) (v := .bool q.busy) (.tail (.tail .head))).set (i := 4) (v := .slice ob9 q.old.length oc9) (.tail (.tail .head))).set (i := 5) (v := .slice nb9 q.new.length nc9) (.tail (.tail .head))).set (i := 6) (v := .slice rb9 q.regs.length rc9) (.tail (.tail .head)))
          simp only [List.setIfInBounds_toArray, List.set_cons_zero, List.set_cons_succ] at mF
          go_roundw
          case rel => exact ⟨i + 1, sc + kk, q, H9, ob9, oc9, nb9, nc9, rb9, rc9, HMD.out trivial, by omega, by go_num, by go_num, HLQ.out, F9.out, mF.drop.drop⟩
          case measure => simp [intOf]; omega
        · go_wp2_with fail
          have mE := (((((((mD.set (i := 0) (v := .int .i64 q.size) (.tail .head)).set (i := 1) (v := .int .i64 q.half) (.tail .head)).set (i := 2) (v := .int .i64 q.scan) (.tail .head)).set (i := 3) (v := .bool q.busy) (.tail .head)).set (i := 4) (v := .slice ob9 q.old.length oc9) (.tail .head)).set (i := 5) (v := .slice nb9 q.new.length nc9) (.tail .head)).set (i := 6) (v := .slice rb9 q.regs.length rc9) (.tail .head))
          simp only [List.setIfInBounds_toArray, List.set_cons_zero, List.set_cons_succ] at mE
          go_roundw
          case rel => exact ⟨i + 1, sc + kk, h3, H9, ob7, oc7, nb7, nc7, rb7, rc7, EM.out.kept, by omega, by go_num, by go_num, HLQ.out, F3Q.out, mE.drop.drop⟩
          case measure => simp [intOf]; omega
    · have hb := HE.out.over (by omega)
      have hsc := HE.out.idle hb
      have hinI : ¬ (i : Int) ≤ n := by omega
      rw [hb] at es
      have hscI : (sc : Int) ≤ 2 * (n : Int) := by omega
      have hw2 : IntKind.i64.wrap (2 * (n : Int)) = 2 * (n : Int) := wrap_i64s _ (by omega) (by omega)
      clear hb
      go_wp2_with fail
      refine (awake_any mk).mono ?_
      rintro e w9 ⟨rfl, m9⟩
      go_wp2_with fail
      go_ret
      exact ⟨rfl, (m9.drop.drop).weaken (HL5.out.trans HLE.out)⟩
end Go.Proofs.Ythipkmmdjhpklaa
