/- The walk of the reference: is the old half of a heap valid? -/
import Derived.Test.YthipkmmdjhpklaaK22
namespace Go.Proofs.Ythipkmmdjhpklaa
set_option linter.unusedVariables false
set_option linter.unusedSimpArgs false
open Go.RowKit

set_option maxRecDepth 10000 in
set_option maxHeartbeats 8000000 in
theorem validOld_any (h : HeapM) (g : HGood h) (vo vn vr : Value) {w0 w : World} {H : Hp} {L : List (Nat × Obj)} (f : HFr H h vo vn vr) (m : Mem w0 H L w) :
    Calls Try.prog 80 #[HVal h vo vn vr] w (Ret w0 H L (.bool true)) := by
  have F := Lib.hid f
  have HO := Lib.hid f.o
  have HN := Lib.hid f.n
  obtain ⟨ob, oc, rfl, _, hoc, _, _⟩ := f.o
  obtain ⟨nb, nc, rfl, _, hnc, _, _⟩ := f.n
  obtain ⟨rb, rc, rfl⟩ := f.r.shape
  clear f
  have hoc := size_le_maxLen hoc
  have hnc := size_le_maxLen hnc
  have hbd := g.ok.core.bounds
  have hsm := g.ok.core.sum
  have hsz := g.ok.core.size
  have hhf := g.ok.core.half
  have HG := Lib.hid g; clear g
  unfold HVal
  have m1 := m.alloc (.cells #[.int .i64 h.size, .int .i64 h.half, .int .i64 h.scan, .bool h.busy, .slice ob h.old.length oc, .slice nb h.new.length nc, .slice rb h.regs.length rc] 31)
  go_enter Try.func80, Try.ntmps80
  go_wp2_with fail
  go_loopw [3, 4, 5, 6, 7, 8] (fun v3 v4 _ _ _ _ wr => ∃ (k : Nat), k ≤ h.old.length ∧ v4 = .int .i64 k ∧ v3 = .int .i64 (wordsM (lensO (h.old.take k))) ∧ Mem w0 H ((w.heap.size, .cells #[.int .i64 h.size, .int .i64 h.half, .int .i64 h.scan, .bool h.busy, .slice ob h.old.length oc, .slice nb h.new.length nc, .slice rb h.regs.length rc] 31) :: L) wr) (fun _ i _ _ _ _ _ => h.old.length - (intOf i).toNat)
  case atStart => exact ⟨0, Nat.zero_le _, rfl, rfl, m1⟩
  case round =>
    obtain ⟨k, hk, rfl, rfl, m2⟩ := hrel
    clear m1
    by_cases hlt : k < h.old.length
    · obtain ⟨blk, off, sv, rfl, c0, c1, c2, c3, c4, hsl, hfit, hti⟩ := HO.out.getHeld hlt
      have HSL := Lib.hid hsl
      obtain ⟨b1, c1', rfl, _, hc1', _, _⟩ := hsl
      have hc1' := size_le_maxLen hc1'
      have hin := HG.out.ok.core.inOld (List.getElem?_eq_getElem hlt)
      have hcp := HG.out.cp.same k _ (List.getElem?_eq_getElem hlt)
      have hinj := fun (j : Nat) (hj : j < h.old.length) => HG.out.cp.inj k j _ _ (List.getElem?_eq_getElem hlt) (List.getElem?_eq_getElem hj)
      have hst := sum_take h.old k
      have hss := sum_snoc h.old k hlt
      have hst2 := sum_take h.old (k + 1)
      have c0 := c0.cell m2
      have c1 := c1.cell m2
      have c2 := c2.cell m2
      have c3 := c3.cell m2
      have c4 := c4.cell m2
      have HCP := Lib.hid hcp; clear hcp
      have HIJ := Lib.hid hinj; clear hinj
      generalize h.old[k] = p at *
      obtain ⟨o, t⟩ := p
      simp only at *
      have HF := Lib.hid hfit; clear hfit
      obtain ⟨ht1, ht2, hoin⟩ := hin
      have hol := hoin.len
      have HIN := Lib.hid hoin; clear hoin
      have hltI : (k : Int) < h.old.length := by omega
      have HSS := Lib.hid hss
      rw [hss] at hst2
      clear hss
      generalize wordsM (lensO (h.old.take k)) = sm at *
      have hwr : IntKind.i64.wrap (sm + (1 + (o.slots.length : Int))) = sm + (1 + (o.slots.length : Int)) := wrap_small _ (by omega) (by omega)
      have hwk : IntKind.i64.wrap ((h.new.length : Int) - 1) = (h.new.length : Int) - 1 := wrap_i64s _ (by omega) (by omega)
      have hln : ¬ (400 : Int) < (o.slots.length : Int) := by omega
      have hdt : decide ((-1 : Int) ≤ t ∧ t ≤ (h.new.length : Int) - 1) = true := decide_eq_true (by omega)
      have m3 := m2.alloc (.cells #[.int .u8 o.kind, .string o.name, .int .i64 o.n, .slice b1 o.slots.length c1', .int .i64 t] 87)
      have es := m2.eqs
      simp only [EqsL] at es
      clear m2
      go_wp2_with fail
      refine (Words_one _ _ _ _ _ _ (show o.slots.length ≤ 100000 by omega) m3).mono ?_
      rintro e w3 ⟨rfl, m4⟩
      clear es
      have es := m4.eqs
      simp only [EqsL] at es
      go_wp2_with fail
      refine (IsPlainObject_any o HF.out _ _ _ m4).mono ?_
      rintro e w4 ⟨rfl, m5⟩
      rw [HIN.out.plain]
      clear es
      have es := m5.eqs
      simp only [EqsL] at es
      go_wp2_with fail
      refine (In_any _ _ _ _).mono ?_
      rintro e w5 ⟨rfl, rfl⟩
      rw [hdt]
      go_wp2_with fail
      clear es
      clear m3 m4
      generalize wr.heap.size = xb at *
      go_loopw [6] (fun v6 wq => ∃ j : Nat, j ≤ o.slots.length ∧ v6 = .int .i64 j ∧ Mem w0 H ((xb, .cells #[.int .u8 o.kind, .string o.name, .int .i64 o.n, .slice b1 o.slots.length c1', .int .i64 t] 87) :: (w.heap.size, .cells #[.int .i64 h.size, .int .i64 h.half, .int .i64 h.scan, .bool h.busy, .slice (some ⟨blk, off, none⟩) h.old.length oc, .slice nb h.new.length nc, .slice rb h.regs.length rc] 31) :: L) wq) (fun i _ => o.slots.length - (intOf i).toNat)
      case atStart => exact ⟨0, Nat.zero_le _, rfl, m5⟩
      case round =>
        obtain ⟨j, hj, rfl, m6⟩ := hrel
        clear m5
        have es := m6.eqs
        simp only [EqsL] at es
        by_cases hjl : j < o.slots.length
        · obtain ⟨bs, os, rfl, d0, d1, d2, hvf⟩ := HSL.out.getV hjl
          have hjI : (j : Int) < o.slots.length := by omega
          have hvi := HIN.out.sl _ (List.getElem_mem hjl)
          have HVI := Lib.hid hvi; clear hvi
          have HVF := Lib.hid hvf; clear hvf
          generalize o.slots[j] = x at *
          go_wp2_with fail
          clear es
          refine AnyFrom.start (fun w' => Mem w0 H ((xb, .cells #[.int .u8 o.kind, .string o.name, .int .i64 o.n, .slice (some ⟨bs, os, none⟩) o.slots.length c1', .int .i64 t] 87) :: (w.heap.size, .cells #[.int .i64 h.size, .int .i64 h.half, .int .i64 h.scan, .bool h.busy, .slice (some ⟨blk, off, none⟩) h.old.length oc, .slice nb h.new.length nc, .slice rb h.regs.length rc] 31) :: L) w') 9 (by kernel_rfl) ?_
          have mW := m6.drew
          generalize World.drew _ = W at *
          clear m6
          have HS : Mem w0 H ((xb, .cells #[.int .u8 o.kind, .string o.name, .int .i64 o.n, .slice (some ⟨bs, os, none⟩) o.slots.length c1', .int .i64 t] 87) :: (w.heap.size, .cells #[.int .i64 h.size, .int .i64 h.half, .int .i64 h.scan, .bool h.busy, .slice (some ⟨blk, off, none⟩) h.old.length oc, .slice nb h.new.length nc, .slice rb h.regs.length rc] 31) :: L) W := mW
          refine AnyFrom.take (i := 0) (v := ?_) rfl (by kernel_rfl) (by kernel_rfl) (by kernel_rfl) (by kernel_rfl) (fun _ _ _ h => h) ⟨by kernel_rfl, ?_⟩ HS ?_
          rotate_left
          · first | (rintro w' hm; have es := hm.eqs; simp only [EqsL] at es; have d0 := d0.cell hm; have d1 := d1.cell hm; have d2 := d2.cell hm; go_simp; done) | (rintro w' hm; have es := hm.eqs; simp only [EqsL] at es; have d0 := d0.cell hm; have d1 := d1.cell hm; have d2 := d2.cell hm; go_simp; with_reducible rfl)
          simp only [Act.put, List.setIfInBounds_toArray, List.set_cons_zero, List.set_cons_succ, List.getElem_toArray, List.getElem_cons_succ, List.getElem_cons_zero]
          refine AnyFrom.take (i := 1) (v := ?_) rfl (by kernel_rfl) (by kernel_rfl) (by kernel_rfl) (by kernel_rfl) (fun _ _ _ h => h) ⟨by kernel_rfl, ?_⟩ HS ?_
          rotate_left
          · first | (rintro w' hm; have es := hm.eqs; simp only [EqsL] at es; have d0 := d0.cell hm; have d1 := d1.cell hm; have d2 := d2.cell hm; go_simp; done) | (rintro w' hm; have es := hm.eqs; simp only [EqsL] at es; have d0 := d0.cell hm; have d1 := d1.cell hm; have d2 := d2.cell hm; go_simp; with_reducible rfl)
          simp only [Act.put, List.setIfInBounds_toArray, List.set_cons_zero, List.set_cons_succ, List.getElem_toArray, List.getElem_cons_succ, List.getElem_cons_zero]
          refine AnyFrom.take (i := 2) (v := ?_) rfl (by kernel_rfl) (by kernel_rfl) (by kernel_rfl) (by kernel_rfl) (fun _ _ _ h => h) ⟨by kernel_rfl, ?_⟩ HS ?_
          rotate_left
          · first | (rintro w' hm; have es := hm.eqs; simp only [EqsL] at es; have d0 := d0.cell hm; have d1 := d1.cell hm; have d2 := d2.cell hm; go_simp; done) | (rintro w' hm; have es := hm.eqs; simp only [EqsL] at es; have d0 := d0.cell hm; have d1 := d1.cell hm; have d2 := d2.cell hm; go_simp; with_reducible rfl)
          simp only [Act.put, List.setIfInBounds_toArray, List.set_cons_zero, List.set_cons_succ, List.getElem_toArray, List.getElem_cons_succ, List.getElem_cons_zero]
          refine AnyFrom.take (i := 3) (v := ?_) rfl (by kernel_rfl) (by kernel_rfl) (by kernel_rfl) (by kernel_rfl) (fun _ _ _ h => h) ⟨by kernel_rfl, ?_⟩ HS ?_
          rotate_left
          · first | (rintro w' hm; have es := hm.eqs; simp only [EqsL] at es; have d0 := d0.cell hm; have d1 := d1.cell hm; have d2 := d2.cell hm; go_simp; done) | (rintro w' hm; have es := hm.eqs; simp only [EqsL] at es; have d0 := d0.cell hm; have d1 := d1.cell hm; have d2 := d2.cell hm; go_simp; with_reducible rfl)
          simp only [Act.put, List.setIfInBounds_toArray, List.set_cons_zero, List.set_cons_succ, List.getElem_toArray, List.getElem_cons_succ, List.getElem_cons_zero]
          refine AnyFrom.take (i := 4) (v := ?_) rfl (by kernel_rfl) (by kernel_rfl) (by kernel_rfl) (by kernel_rfl) (fun _ _ _ h => h) ⟨by kernel_rfl, ?_⟩ HS ?_
          rotate_left
          · first | (rintro w' hm; have es := hm.eqs; simp only [EqsL] at es; have d0 := d0.cell hm; have d1 := d1.cell hm; have d2 := d2.cell hm; go_simp; done) | (rintro w' hm; have es := hm.eqs; simp only [EqsL] at es; have d0 := d0.cell hm; have d1 := d1.cell hm; have d2 := d2.cell hm; go_simp; with_reducible rfl)
          simp only [Act.put, List.setIfInBounds_toArray, List.set_cons_zero, List.set_cons_succ, List.getElem_toArray, List.getElem_cons_succ, List.getElem_cons_zero]
          refine AnyFrom.take (i := 5) (v := ?_) rfl (by kernel_rfl) (by kernel_rfl) (by kernel_rfl) (by kernel_rfl) (fun _ _ _ h => h) ⟨by kernel_rfl, ?_⟩ HS ?_
          rotate_left
          · first | (rintro w' hm; have es := hm.eqs; simp only [EqsL] at es; have d0 := d0.cell hm; have d1 := d1.cell hm; have d2 := d2.cell hm; go_simp; done) | (rintro w' hm; have es := hm.eqs; simp only [EqsL] at es; have d0 := d0.cell hm; have d1 := d1.cell hm; have d2 := d2.cell hm; go_simp; with_reducible rfl)
          simp only [Act.put, List.setIfInBounds_toArray, List.set_cons_zero, List.set_cons_succ, List.getElem_toArray, List.getElem_cons_succ, List.getElem_cons_zero]
          refine AnyFrom.take (i := 6) (v := ?_) rfl (by kernel_rfl) (by kernel_rfl) (by kernel_rfl) (by kernel_rfl) (fun _ _ _ h => h) ⟨by kernel_rfl, ?_⟩ HS ?_
          rotate_left
          · first | (rintro w' hm; have es := hm.eqs; simp only [EqsL] at es; have d0 := d0.cell hm; have d1 := d1.cell hm; have d2 := d2.cell hm; go_simp; done) | (rintro w' hm; have es := hm.eqs; simp only [EqsL] at es; have d0 := d0.cell hm; have d1 := d1.cell hm; have d2 := d2.cell hm; go_simp; with_reducible rfl)
          simp only [Act.put, List.setIfInBounds_toArray, List.set_cons_zero, List.set_cons_succ, List.getElem_toArray, List.getElem_cons_succ, List.getElem_cons_zero]
          refine AnyFrom.call (i := 7) (by kernel_rfl) rfl (by kernel_rfl) fun K hK => ?_
          go_simp
          refine (isIn_true h x HVF.out true HVI.out hhf _ _ _ _ _ _ _ hbd.1 hbd.2.1 mW).mono ?_
          rintro e w7 ⟨rfl, mV⟩
          refine hK _ _ (.inr mV) ?_
          clear hK K HS mW
          try simp only [Act.put, List.setIfInBounds_toArray, List.set_cons_zero, List.set_cons_succ, List.getElem_toArray, List.getElem_cons_succ, List.getElem_cons_zero]
          have HS : Mem w0 H ((xb, .cells #[.int .u8 o.kind, .string o.name, .int .i64 o.n, .slice (some ⟨bs, os, none⟩) o.slots.length c1', .int .i64 t] 87) :: (w.heap.size, .cells #[.int .i64 h.size, .int .i64 h.half, .int .i64 h.scan, .bool h.busy, .slice (some ⟨blk, off, none⟩) h.old.length oc, .slice nb h.new.length nc, .slice rb h.regs.length rc] 31) :: L) w7 := mV
          refine AnyFrom.pure (i := 8) (v := ?_) rfl (by kernel_rfl) (by kernel_rfl) (by kernel_rfl) (by decide) (fun _ _ _ h => h) ⟨by kernel_rfl, ?_⟩ HS ?_
          rotate_left
          · first | (intro w'; go_simp; done) | (intro w'; go_simp; with_reducible rfl)
          simp only [Act.put, List.setIfInBounds_toArray, List.set_cons_zero, List.set_cons_succ, List.getElem_toArray, List.getElem_cons_succ, List.getElem_cons_zero]
          refine AnyFrom.done (by kernel_rfl) ?_ _
          go_wp2_with fail
          go_roundw
          case rel => exact ⟨j + 1, by omega, by go_num, mV⟩
          case measure => simp [intOf]; omega
        · have hjI : ¬ (j : Int) < o.slots.length := by omega
          by_cases htn : t < 0
          · go_wp2_with fail
            go_roundw
            case rel => exact ⟨k + 1, by omega, by go_num, by rw [HSS.out], m6.drop⟩
            case measure => simp [intOf]; omega
          · have h0t : 0 ≤ t := by omega
            obtain ⟨q, hq1, hq2, hq3, hq4, hq5⟩ := HCP.out h0t
            obtain ⟨n, rfl⟩ := Int.eq_ofNat_of_zero_le h0t
            rw [Int.toNat_natCast] at hq1
            have hnl : n < h.new.length := lt_of_some hq1
            have hnI : (n : Int) < h.new.length := by omega
            obtain ⟨bn, on, sn, rfl, e0, e1, e2, e3, hsn, hfn⟩ := HN.out.getObj hnl
            have hqe : h.new[n] = q := by rw [List.getElem?_eq_getElem hnl] at hq1; exact Option.some.inj hq1
            rw [hqe] at e0 e1 e2 hsn
            rw [hq2] at e0
            rw [hq3] at e1
            rw [hq4] at e2
            obtain ⟨b2, c2', rfl, _, hc2', _, _⟩ := hsn
            rw [hq5] at e3
            clear hq2 hq3 hq4 hqe hq5 hq1 hfn
            have e0 := e0.cell m6
            have e1 := e1.cell m6
            have e2 := e2.cell m6
            have e3 := e3.cell m6
            have m7 := m6.alloc (.cells #[.int .u8 o.kind, .string o.name, .int .i64 o.n, .slice b2 o.slots.length c2'] 48)
            clear m6
            go_wp2_with fail
            clear es
            generalize wr.heap.size = yb at *
            go_loopw [8] (fun v8 wq => ∃ j : Nat, j ≤ k ∧ v8 = .int .i64 j ∧ Mem w0 H ((yb, .cells #[.int .u8 o.kind, .string o.name, .int .i64 o.n, .slice b2 o.slots.length c2'] 48) :: (xb, .cells #[.int .u8 o.kind, .string o.name, .int .i64 o.n, .slice b1 o.slots.length c1', .int .i64 (n : Int)] 87) :: (w.heap.size, .cells #[.int .i64 h.size, .int .i64 h.half, .int .i64 h.scan, .bool h.busy, .slice (some ⟨blk, off, none⟩) h.old.length oc, .slice (some ⟨bn, on, none⟩) h.new.length nc, .slice rb h.regs.length rc] 31) :: L) wq) (fun i _ => k - (intOf i).toNat)
            case atStart => exact ⟨0, Nat.zero_le _, rfl, m7⟩
            case round =>
              obtain ⟨i, hi, rfl, m8⟩ := hrel
              clear m7
              have es := m8.eqs
              simp only [EqsL] at es
              by_cases hik : i < k
              · have hil : i < h.old.length := by omega
                obtain ⟨blk', off', sv', hbe, _, _, _, _, g4, _, _, hti'⟩ := HO.out.getHeld hil
                cases hbe
                have g4 := g4.cell m8
                have hne : h.old[i].2 ≠ (n : Int) := fun e => by
                  have := HIJ.out i hil h0t (by rw [e])
                  omega
                generalize h.old[i].2 = t' at *
                have hbe : (t' == (n : Int)) = false := beq_eq_false_iff_ne.2 hne
                have hikI : (i : Int) < k := by omega
                have hiI : (i : Int) < h.old.length := by omega
                go_wp2_with fail
                go_quiet (fail)
                go_wp2_with fail
                go_roundw
                case rel => exact ⟨i + 1, by omega, by go_num, m8.drewN _⟩
                case measure => simp [intOf]; omega
              · have hikI : ¬ (i : Int) < k := by omega
                go_wp2_with fail
                go_roundw
                case rel => exact ⟨k + 1, by omega, by go_num, by rw [HSS.out], m8.drop.drop⟩
                case measure => simp [intOf]; omega
    · have hge : ¬ (k : Int) < h.old.length := by omega
      have hk2 : k = h.old.length := by omega
      subst hk2
      have HTL := Lib.hid (show wordsM (lensO (h.old.take h.old.length)) ≤ h.size by rw [List.take_length]; exact hsm)
      generalize wordsM (lensO (h.old.take h.old.length)) = sm at *
      have es := m2.eqs
      simp only [EqsL] at es
      go_wp2_with fail
      go_ret
      exact ⟨ret_bool (by simpa using HTL.out), m2.drop⟩
end Go.Proofs.Ythipkmmdjhpklaa
