/- The walk: how many objects live. -/
import Derived.Test.YthipkmmdjhpklaaK09
namespace Go.Proofs.Ythipkmmdjhpklaa
set_option linter.unusedVariables false
set_option linter.unusedSimpArgs false
open Go.RowKit

def mapSize (w : World) (b : Nat) : Nat := match w.heap[b]? with | some (.map es _) => es.size | _ => 0
def sliceLen : Value → Nat
  | .slice _ n _ => n
  | _ => 0
theorem zero_bool (w : World) : (zeroValue 4).run Try.prog w = .ok (.bool false) w := by kernel_rfl
theorem mapSize_of {w0 w : World} {H : Hp} {L : List (Nat × Obj)} {b : Nat} {es : Array MapEntry} {cl : Nat} (m : Mem w0 H L w) (hp : (b, Obj.map es cl) ∈ L) : mapSize w b = es.size := by
  unfold mapSize
  rw [(m.loc _ hp).1]
theorem perm_lv1 {α : Type} (x m b : α) (Lq L : List α) : (x :: m :: b :: (Lq ++ L)).Perm (b :: x :: m :: (Lq ++ L)) := (by classical exact List.perm_iff_count.2 (fun a => by simp only [List.count_append, List.count_cons, List.cons_append, List.nil_append, List.append_assoc]; omega))
theorem perm_lv2 {α : Type} (x m b : α) (Lq L : List α) : (b :: x :: m :: (Lq ++ L)).Perm (m :: x :: b :: (Lq ++ L)) := (by classical exact List.perm_iff_count.2 (fun a => by simp only [List.count_append, List.count_cons, List.cons_append, List.nil_append, List.append_assoc]; omega))
theorem perm_lv3 {α : Type} (x m b : α) (Lq L : List α) : (m :: x :: b :: (Lq ++ L)).Perm (b :: x :: m :: (Lq ++ L)) := (by classical exact List.perm_iff_count.2 (fun a => by simp only [List.count_append, List.count_cons, List.cons_append, List.nil_append, List.append_assoc]; omega))
theorem perm_lv4 {α : Type} (x m b : α) (Lq L : List α) : (b :: x :: m :: (Lq ++ L)).Perm (Lq ++ (x :: m :: b :: L)) := (by classical exact List.perm_iff_count.2 (fun a => by simp only [List.count_append, List.count_cons, List.cons_append, List.nil_append, List.append_assoc]; omega))
theorem perm_lv5 {α : Type} (x m b : α) (Lq L : List α) : (Lq ++ (x :: m :: b :: L)).Perm (x :: m :: b :: (Lq ++ L)) := (by classical exact List.perm_iff_count.2 (fun a => by simp only [List.count_append, List.count_cons, List.cons_append, List.nil_append, List.append_assoc]; omega))
theorem perm_lv6 {α : Type} (m b : α) (L0 L : List α) : (L0 ++ (m :: b :: L)).Perm (m :: b :: (L0 ++ L)) := (by classical exact List.perm_iff_count.2 (fun a => by simp only [List.count_append, List.count_cons, List.cons_append, List.nil_append, List.append_assoc]; omega))
set_option maxRecDepth 10000 in
set_option maxHeartbeats 8000000 in
theorem live_any (b : Nat) (h : HeapM) (o : HOk h) (F : Nat) (hF : 12000 * 401 + h.regs.length ≤ F) (ob nb rb : Option Addr) (oc nc rc : Nat) {w0 w : World} {H : Hp} {L : List (Nat × Obj)} (hvo : SlR encHeld H (.slice ob h.old.length oc) h.old) (hvn : SlR encObj H (.slice nb h.new.length nc) h.new) (hvr : SlR encVal H (.slice rb h.regs.length rc) h.regs)
    (m : Mem w0 H ((b, HBox TH h.size h.half h.scan h.busy (.slice ob h.old.length oc) (.slice nb h.new.length nc) (.slice rb h.regs.length rc)) :: L) w) :
    Calls Try.prog 57 #[.pointer (some ⟨b, 0, none⟩)] w fun e w' => e = .returned (.int .i64 ((h.liveN F [] h.regs).length : Nat)) ∧ Mem w0 H L w' := by
  have HVO := Lib.hid hvo
  have HVN := Lib.hid hvn
  have HVR := Lib.hid hvr
  have HOK := Lib.hid o
  have hbb := o.core.bounds
  have hrl := o.regl
  have hnc : nc ≤ maxLen := by obtain ⟨_, _, e, _, h2, _⟩ := hvn; cases e; exact h2
  have hoc : oc ≤ maxLen := by obtain ⟨_, _, e, _, h2, _⟩ := hvo; cases e; exact h2
  have hrc : rc ≤ maxLen := by obtain ⟨_, _, e, _, h2, _⟩ := hvr; cases e; exact h2
  have hnc := size_le_maxLen hnc
  have hoc := size_le_maxLen hoc
  have hrc := size_le_maxLen hrc
  clear o hvo hvn hvr
  have m1 := m.alloc (.map #[] 0)
  generalize hmb : w.heap.size = mb at *
  generalize hW : w.alloc (.map #[] 0) = W at *
  have mu := m1
  unfold HBox at mu
  have es := mu.eqs
  simp only [EqsL] at es
  go_enter Try.func57, Try.ntmps57
  go_wp2_with fail
  rw [run_makeMap, hW, hmb]
  go_wp2_with fail
  refine (CloneV_any _ h.regs m1 HVR.out (by omega)).mono ?_
  rintro e w1 ⟨cb, cc, L0, rfl, hcl, m2⟩
  have m3 := m2.perm (perm_lv6 _ _ L0 L)
  clear es mu m1 m2 m hW
  go_wp2_with fail
  go_loopw [4] (fun v4 wr => ∃ (f : Nat) (seen : List Int) (xs : List ValM) (pb : Option Addr) (pc : Nat) (Lq : List (Nat × Obj)) (es : Array MapEntry) (cl : Nat), v4 = .slice pb xs.length pc ∧ AccL 50 3 (.slice pb xs.length pc) xs.length (valCs xs) Lq ∧ IntMap .i64 es (seenL seen) ∧ seen.Nodup ∧ (∀ k ∈ seen, 0 ≤ k ∧ k < ((12000 : Nat) : Int)) ∧ (∀ x ∈ xs, ValIn h.half h.new.length h.old.length true x) ∧ h.liveN F [] h.regs = h.liveN f seen xs ∧ (12000 - seen.length) * 401 + xs.length ≤ f ∧ (12000 - seen.length) * 401 + xs.length ≤ 4816000 ∧ Mem w0 H ((mb, .map es cl) :: (b, HBox TH h.size h.half h.scan h.busy (.slice ob h.old.length oc) (.slice nb h.new.length nc) (.slice rb h.regs.length rc)) :: (Lq ++ L)) wr) (fun v4 wr => (12000 - mapSize wr mb) * 401 + sliceLen v4)
  case atStart => exact ⟨F, [], h.regs, cb, cc, L0, #[], 0, rfl, hcl.acc, IntMap.nil .i64, List.nodup_nil, fun k hk => (by cases hk), fun x hx => (HOK.out.regs x hx).mono (Nat.le_refl _) (fun h => by cases h), rfl, by simpa using hF, by omega, m3⟩
  case round =>
    obtain ⟨f, seen, xs, pb, pc, Lq, es0, cl, rfl, hq, hl, hnd, hsr, hxs, hlv, hfb, hxl, m4⟩ := hrel
    clear m3
    have HL := Lib.hid hl; clear hl
    have HND := Lib.hid hnd; clear hnd
    have HSR := Lib.hid hsr; clear hsr
    have HLV := Lib.hid hlv; clear hlv
    have HFB := Lib.hid hfb; clear hfb
    have hmsz : mapSize wr mb = seen.length := by unfold mapSize; rw [(m4.loc _ (.head _)).1]; simp only; rw [HL.out.size]; simp [seenL]
    have HMSZ := Lib.hid hmsz; clear hmsz
    by_cases hx0 : xs = []
    · subst hx0
      have hlen := run_len_map (P := Try.prog) 3 Try.underlying123 (m4.loc _ (.head _)).1
      rw [HL.out.size] at hlen
      go_wp2_with fail
      try rw [hlen]
      try go_wp2_with fail
      go_ret
      refine ⟨?_, Mem.dropL Lq m4.drop.drop⟩
      rw [HLV.out, liveN_nil]
      simp [seenL]
    · obtain ⟨init, v, rfl⟩ : ∃ init v, xs = init ++ [v] := ⟨xs.dropLast, xs.getLast hx0, (List.dropLast_concat_getLast hx0).symm⟩
      clear hx0
      have hlenx : (init ++ [v]).length = init.length + 1 := by simp
      rw [hlenx] at hq hxl
      have hxl9 : init.length ≤ 4816000 := by omega
      rw [hlenx]
      rw [valCs_append] at hq
      have hvin := hxs v (by simp)
      have HVIN := Lib.hid hvin; clear hvin
      have HXI := Lib.hid (fun x (hx : x ∈ init) => hxs x (List.mem_append_left _ hx)); clear hxs
      obtain ⟨g, rfl, hcl4, _, hgl, hnp, hpc⟩ := hq.at (by simp [valCs_length, valCs, ValM.cs]) m4 (fun p hp => by simp [hp])
      have hpc := size_le_maxLen hpc
      have hq2 := AccL.shrink hq (by simp [valCs, ValM.cs])
      have hvl : (valCs init).length = init.length * 3 := valCs_length init
      have c0 := hcl4 (init.length * 3) (.int .u8 v.kind) (by rw [List.getElem?_append_right (by omega), hvl, Nat.sub_self]; rfl)
      have c1 := hcl4 (init.length * 3 + 1) (.int .i64 v.n) (by rw [List.getElem?_append_right (by omega), hvl, Nat.add_sub_cancel_left]; rfl)
      have c2 := hcl4 (init.length * 3 + 2) (.string v.s) (by rw [List.getElem?_append_right (by omega), hvl, Nat.add_sub_cancel_left]; rfl)
      clear hcl4 hq
      have hfit := (HVIN.out.can (by omega) (by omega) HOK.out.core.half).fit
      have HFT := Lib.hid hfit; clear hfit
      have m5 := (m4.alloc (.cells #[.int .u8 v.kind, .int .i64 v.n, .string v.s] 50)).perm (perm_lv1 _ _ _ Lq L)
      by_cases hk5 : v.kind = 5
      · have hve : v.v = .agg #[.int .u8 5, .int .i64 v.n, .string v.s] := by unfold ValM.v; rw [hk5]; rfl
        rw [hk5] at c0 m5
        have HVE := Lib.hid hve; clear hve
        rcases turnR_cases HOK.out HVIN.out hk5 with ⟨hno, htr, hn0, hni⟩ | ⟨i, hi, hold, hn0, hni, hcase⟩
        · obtain ⟨i, hi2⟩ := Int.eq_ofNat_of_zero_le (show 0 ≤ v.n / 2 by omega)
          rw [hi2, Int.toNat_natCast] at hni
          have HI2 := Lib.hid hi2; clear hi2
          have HTR := Lib.hid htr; clear htr
          have HNO := Lib.hid hno; clear hno
          have HN0 := Lib.hid hn0; clear hn0
          have hdec : decide (v.kind = 5 ∧ v.n.tmod 2 ≠ h.half) = false := decide_eq_false (fun hh => HNO.out ⟨hh.1, by rw [← tmod2 HN0.out]; exact hh.2⟩)
          have HDEC := Lib.hid hdec; clear hdec
          go_wp2_with fail
          rw [← HVE.out]
          refine (split_any v m5 HFT.out.n).mono ?_
          rintro e w5 ⟨rfl, m6⟩
          rw [tdiv2 HN0.out, HI2.out]
          clear c0 c1 c2 m5
          have mu := m6
          unfold HBox at mu
          have es := mu.eqs
          simp only [EqsL] at es
          go_wp2_with fail
          rw [← HVE.out]
          refine (isOld_any b v HFT.out m6).mono ?_
          rintro e w7 ⟨rfl, m7⟩
          rw [HDEC.out]
          clear es mu m6
          have mu := m7
          unfold HBox at mu
          have es := mu.eqs
          simp only [EqsL] at es
          have hlook := Mem.lookup (P := Try.prog) Try.underlying123 Try.underlying3 (zero_bool _) m7 (b := mb) (clock := cl) (by simp) HL.out v.n false
          rw [seenL_lookup] at hlook
          simp only [Bool.false_eq_true, if_false] at hlook
          obtain ⟨f', hf'⟩ : ∃ f', f = f' + 1 := ⟨f - 1, by have := HFB.out; rw [hlenx] at this; omega⟩
          have HF' := Lib.hid hf'; clear hf'
          by_cases hseen : v.n ∈ seen
          · rw [if_pos hseen] at hlook
            simp only [Option.getD_some] at hlook
            have HSEEN := Lib.hid hseen; clear hseen
            go_wp2_with fail
            go_roundw
            case rel =>
              refine ⟨f', seen, init, _, _, Lq, es0, cl, rfl, hq2, HL.out, HND.out, HSR.out, HXI.out, ?_, ?_, by omega, ?_⟩
              · rw [HLV.out, HF'.out, liveN_seen f' h seen init v hk5 (by rw [HTR.out]; exact HSEEN.out)]
              · have := HFB.out; have := HF'.out; rw [hlenx] at *; omega
              · exact (m7.perm (perm_lv2 _ _ _ Lq L)).perm (.swap _ _ _) |>.drop
            case measure =>
              have h1 := mapSize_of m7 (b := mb) (es := es0) (cl := cl) (by simp)
              rw [HL.out.size] at h1
              have h2 := HMSZ.out
              have h3 : (seenL seen).length = seen.length := by simp [seenL]
              simp [sliceLen]
              omega
          · rw [if_neg hseen] at hlook
            simp only [Option.getD_none] at hlook
            have hnd2 : (seen ++ [v.n]).Nodup := by
              rw [List.nodup_append]
              refine ⟨HND.out, by simp, fun a ha c hc => ?_⟩
              rw [List.mem_singleton] at hc
              subst hc
              exact fun e => hseen (e ▸ ha)
            have hsr2 : ∀ k ∈ seen ++ [v.n], 0 ≤ k ∧ k < ((12000 : Nat) : Int) := by
              intro k hk
              rcases List.mem_append.1 hk with hk | hk
              · exact HSR.out k hk
              · rw [List.mem_singleton] at hk
                subst hk
                exact (by have := HN0.out; have := HI2.out; omega)
            have hsl2 := nodup_bound 12000 _ hnd2 hsr2
            rw [List.length_append, List.length_singleton] at hsl2
            have HND2 := Lib.hid hnd2; clear hnd2
            have HSR2 := Lib.hid hsr2; clear hsr2
            have HSEEN := Lib.hid hseen; clear hseen
            obtain ⟨es1, W1, hins, hl1, mI⟩ := Mem.insert (P := Try.prog) Try.underlying123 Try.underlying3 (m7.perm (perm_lv2 _ _ _ Lq L)) HL.out v.n (.bool true) (by rw [seenL_lookup, if_neg HSEEN.out])
            rw [← seenL_snoc] at hl1
            have HL1 := Lib.hid hl1; clear hl1
            have mJ := mI.perm (perm_lv3 _ _ _ Lq L)
            have mu1 := mJ
            unfold HBox at mu1
            have es1' := mu1.eqs
            simp only [EqsL] at es1'
            go_wp2_with fail
            clear es mu hlook hins mI
            rw [← HVE.out]
            refine (split_any v mJ HFT.out.n).mono ?_
            rintro e w8 ⟨rfl, mK⟩
            rw [tdiv2 HN0.out, HI2.out]
            clear es1' mu1 mJ
            have mu := mK
            unfold HBox at mu
            have es := mu.eqs
            simp only [EqsL] at es
            go_wp2_with fail
            rw [← HVE.out]
            refine (isOld_any b v HFT.out mK).mono ?_
            rintro e w9 ⟨rfl, mM⟩
            rw [HDEC.out]
            clear es mu mK
            have mu := mM
            unfold HBox at mu
            have es := mu.eqs
            simp only [EqsL] at es
            obtain ⟨blk, off, sv, hbk, d0, d1, d2, d3, hsl, hft⟩ := HVN.out.getObj hni
            have HSL9 := Lib.hid hsl
            have hs4 := (HOK.out.core.new _ _ (List.getElem?_eq_getElem hni)).len
            have hsv := (HOK.out.core.new _ _ (List.getElem?_eq_getElem hni)).sl
            have HSV := Lib.hid hsv; clear hsv
            have hsr : h.slotsR v = h.new[i].slots := (by unfold HeapM.slotsR HeapM.slotsAt; rw [if_neg HNO.out, HI2.out, Int.toNat_natCast, List.getElem?_eq_getElem hni])
            have HSLR := Lib.hid hsr; clear hsr
            obtain ⟨b1, c1', rfl, -, hc1', -, -⟩ := hsl
            have hc1' := size_le_maxLen hc1'
            cases hbk
            have d0 := d0.cell mM
            have d1 := d1.cell mM
            have d2 := d2.cell mM
            have d3 := d3.cell mM
            skip
            have HFT9 := Lib.hid hft; clear hft
            have hiI : (i : Int) < h.new.length := by omega
            obtain ⟨news, hch, hsrc⟩ := HSL9.out.src mM
            obtain ⟨hnews, _⟩ := chunks_valCs hch
            have HSRC := Lib.hid hsrc; clear hsrc
            have HCH := Lib.hid hch; clear hch
            have HNW := Lib.hid hnews; clear hnews
            have mN := mM.perm (perm_lv4 _ _ _ Lq L)
            go_wp2_with (at_builtin; go_must (refine wpList_append_mem (w0 := w0) (H := H) (L := _ :: _) rfl _ _ 29 rfl 50 3 32 (.agg #[.int .u8 0, .int .i64 0, .string ByteArray.empty]) Try.underlying29 (by kernel_rfl) rfl (by decide) (.slice (some ⟨g, 0, none⟩) init.length pc) init.length (valCs init) (hq2.join mN) rfl _ h.new[i].slots.length news HSRC.out rfl HCH.out.vlen (val_oneCell HCH.out) (by omega) (by unfold maxLen; omega) ?_))
            intro v' w10 hacc
            obtain ⟨b6, c6, rfl, _, _⟩ := hacc.shape
            obtain ⟨Lq3, hq3, mO⟩ := hacc.split
            have mP := mO.perm (perm_lv5 _ _ _ Lq3 L)
            go_wp2_with fail
            go_roundw
            case rel =>
              refine ⟨f', seen ++ [v.n], init ++ h.new[i].slots, b6, c6, Lq3, es1, cl + 1, by rw [List.length_append], ?_, HL1.out, HND2.out, HSR2.out, ?_, ?_, ?_, ?_, (mP.drop)⟩
              · rw [List.length_append, valCs_append, ← HNW.out]; exact hq3
              · intro x hx
                rcases List.mem_append.1 hx with hx | hx
                · exact HXI.out x hx
                · exact (HSV.out x hx).mono (Nat.le_refl _) fun _ => rfl
              · rw [HLV.out, HF'.out, liveN_new f' h seen init v hk5 (by rw [HTR.out]; exact HSEEN.out), HTR.out, HSLR.out]
              · have := HFB.out; have := HF'.out; rw [hlenx] at *; simp only [List.length_append, List.length_singleton] at *; omega
              · simp only [List.length_append, List.length_singleton] at *; omega
            case measure =>
              have h1 := mapSize_of mP (b := mb) (es := es1) (cl := cl + 1) (by simp)
              rw [HL1.out.size] at h1
              have h2 := HMSZ.out
              have h3 : (seenL (seen ++ [v.n])).length = seen.length + 1 := by simp [seenL]
              simp [sliceLen]
              omega
        · have hp := HOK.out.core.old _ (List.getElem_mem hi)
          obtain ⟨blo, offo, svo, hbo, o0, o1, o2, o3, o4, hslo, hfto, hto⟩ := HVO.out.getHeld hi
          have HSLO := Lib.hid hslo
          obtain ⟨bo1, co1, rfl, -, -, -, -⟩ := hslo
          subst hbo
          have HFTO := Lib.hid hfto; clear hfto
          have HI2 := Lib.hid hni; clear hni
          have HOLD := Lib.hid hold; clear hold
          have HN0 := Lib.hid hn0; clear hn0
          have hdec : decide (v.kind = 5 ∧ v.n.tmod 2 ≠ h.half) = true := decide_eq_true ⟨hk5, by rw [tmod2 HN0.out]; exact HOLD.out.2⟩
          have HDEC := Lib.hid hdec; clear hdec
          have hiO : (i : Int) < h.old.length := by omega
          go_wp2_with fail
          rw [← HVE.out]
          refine (split_any v m5 HFT.out.n).mono ?_
          rintro e w5 ⟨rfl, m6⟩
          rw [tdiv2 HN0.out, HI2.out]
          clear c0 c1 c2 m5
          have mu := m6
          unfold HBox at mu
          have es := mu.eqs
          simp only [EqsL] at es
          go_wp2_with fail
          rw [← HVE.out]
          refine (isOld_any b v HFT.out m6).mono ?_
          rintro e w7 ⟨rfl, m7⟩
          rw [HDEC.out]
          clear es mu m6
          have mu := m7
          unfold HBox at mu
          have es := mu.eqs
          simp only [EqsL] at es
          have q4 := o4.cell m7
          have q0 := o0.cell m7
          rcases hcase with ⟨ht, htr⟩ | ⟨ht0, ht1, htr⟩
          · rw [ht] at q4
            have HTR := Lib.hid htr; clear htr
            have HP := Lib.hid hp; clear hp
            clear es mu
            have mu := m7
            unfold HBox at mu
            have es := mu.eqs
            simp only [EqsL] at es
            have hlook := Mem.lookup (P := Try.prog) Try.underlying123 Try.underlying3 (zero_bool _) m7 (b := mb) (clock := cl) (by simp) HL.out v.n false
            rw [seenL_lookup] at hlook
            simp only [Bool.false_eq_true, if_false] at hlook
            obtain ⟨f', hf'⟩ : ∃ f', f = f' + 1 := ⟨f - 1, by have := HFB.out; rw [hlenx] at this; omega⟩
            have HF' := Lib.hid hf'; clear hf'
            by_cases hseen : v.n ∈ seen
            · rw [if_pos hseen] at hlook
              simp only [Option.getD_some] at hlook
              have HSEEN := Lib.hid hseen; clear hseen
              go_wp2_with fail
              go_roundw
              case rel =>
                refine ⟨f', seen, init, _, _, Lq, es0, cl, rfl, hq2, HL.out, HND.out, HSR.out, HXI.out, ?_, ?_, by omega, ?_⟩
                · rw [HLV.out, HF'.out, liveN_seen f' h seen init v hk5 (by rw [HTR.out]; exact HSEEN.out)]
                · have := HFB.out; have := HF'.out; rw [hlenx] at *; omega
                · exact (m7.perm (perm_lv2 _ _ _ Lq L)).perm (.swap _ _ _) |>.drop
              case measure =>
                have h1 := mapSize_of m7 (b := mb) (es := es0) (cl := cl) (by simp)
                rw [HL.out.size] at h1
                have h2 := HMSZ.out
                have h3 : (seenL seen).length = seen.length := by simp [seenL]
                simp [sliceLen]
                omega
            · rw [if_neg hseen] at hlook
              simp only [Option.getD_none] at hlook
              have hnd2 : (seen ++ [v.n]).Nodup := by
                rw [List.nodup_append]
                refine ⟨HND.out, by simp, fun a ha c hc => ?_⟩
                rw [List.mem_singleton] at hc
                subst hc
                exact fun e => hseen (e ▸ ha)
              have hsr2 : ∀ k ∈ seen ++ [v.n], 0 ≤ k ∧ k < ((12000 : Nat) : Int) := by
                intro k hk
                rcases List.mem_append.1 hk with hk | hk
                · exact HSR.out k hk
                · rw [List.mem_singleton] at hk
                  subst hk
                  exact (by have := HN0.out; have := HI2.out; omega)
              have hsl2 := nodup_bound 12000 _ hnd2 hsr2
              rw [List.length_append, List.length_singleton] at hsl2
              have HND2 := Lib.hid hnd2; clear hnd2
              have HSR2 := Lib.hid hsr2; clear hsr2
              have HSEEN := Lib.hid hseen; clear hseen
              obtain ⟨es1, W1, hins, hl1, mI⟩ := Mem.insert (P := Try.prog) Try.underlying123 Try.underlying3 (m7.perm (perm_lv2 _ _ _ Lq L)) HL.out v.n (.bool true) (by rw [seenL_lookup, if_neg HSEEN.out])
              rw [← seenL_snoc] at hl1
              have HL1 := Lib.hid hl1; clear hl1
              have mJ := mI.perm (perm_lv3 _ _ _ Lq L)
              have mu1 := mJ
              unfold HBox at mu1
              have es1' := mu1.eqs
              simp only [EqsL] at es1'
              go_wp2_with fail
              clear es mu hlook hins mI
              rw [← HVE.out]
              refine (split_any v mJ HFT.out.n).mono ?_
              rintro e w8 ⟨rfl, mK⟩
              rw [tdiv2 HN0.out, HI2.out]
              clear es1' mu1 mJ
              have mu := mK
              unfold HBox at mu
              have es := mu.eqs
              simp only [EqsL] at es
              go_wp2_with fail
              rw [← HVE.out]
              refine (isOld_any b v HFT.out mK).mono ?_
              rintro e w9 ⟨rfl, mM⟩
              rw [HDEC.out]
              clear es mu mK
              have mu := mM
              unfold HBox at mu
              have es := mu.eqs
              simp only [EqsL] at es
              obtain ⟨blk, off, sv, hbk, d0, d1, d2, d3, d4, hsl, hft, _⟩ := HVO.out.getHeld hi
              have HSL9 := Lib.hid hsl
              have hs4 := HP.out.2.2.len
              have hsv := HP.out.2.2.sl
              have HSV := Lib.hid hsv; clear hsv
              have hsr : h.slotsR v = h.old[i].1.slots := (by unfold HeapM.slotsR; rw [if_pos HOLD.out, HI2.out, Int.toNat_natCast, List.getElem?_eq_getElem hi])
              have HSLR := Lib.hid hsr; clear hsr
              obtain ⟨b1, c1', rfl, -, hc1', -, -⟩ := hsl
              have hc1' := size_le_maxLen hc1'
              cases hbk
              have d0 := d0.cell mM
              have d1 := d1.cell mM
              have d2 := d2.cell mM
              have d3 := d3.cell mM
              have d4 := d4.cell mM
              have HFT9 := Lib.hid hft; clear hft
              have hiI : (i : Int) < h.old.length := by omega
              obtain ⟨news, hch, hsrc⟩ := HSL9.out.src mM
              obtain ⟨hnews, _⟩ := chunks_valCs hch
              have HSRC := Lib.hid hsrc; clear hsrc
              have HCH := Lib.hid hch; clear hch
              have HNW := Lib.hid hnews; clear hnews
              have mN := mM.perm (perm_lv4 _ _ _ Lq L)
              go_wp2_with (at_builtin; go_must (refine wpList_append_mem (w0 := w0) (H := H) (L := _ :: _) rfl _ _ 29 rfl 50 3 32 (.agg #[.int .u8 0, .int .i64 0, .string ByteArray.empty]) Try.underlying29 (by kernel_rfl) rfl (by decide) (.slice (some ⟨g, 0, none⟩) init.length pc) init.length (valCs init) (hq2.join mN) rfl _ h.old[i].1.slots.length news HSRC.out rfl HCH.out.vlen (val_oneCell HCH.out) (by omega) (by unfold maxLen; omega) ?_))
              intro v' w10 hacc
              obtain ⟨b6, c6, rfl, _, _⟩ := hacc.shape
              obtain ⟨Lq3, hq3, mO⟩ := hacc.split
              have mP := mO.perm (perm_lv5 _ _ _ Lq3 L)
              go_wp2_with fail
              go_roundw
              case rel =>
                refine ⟨f', seen ++ [v.n], init ++ h.old[i].1.slots, b6, c6, Lq3, es1, cl + 1, by rw [List.length_append], ?_, HL1.out, HND2.out, HSR2.out, ?_, ?_, ?_, ?_, (mP.drop)⟩
                · rw [List.length_append, valCs_append, ← HNW.out]; exact hq3
                · intro x hx
                  rcases List.mem_append.1 hx with hx | hx
                  · exact HXI.out x hx
                  · exact (HSV.out x hx).mono (Nat.le_refl _) fun _ => rfl
                · rw [HLV.out, HF'.out, liveN_new f' h seen init v hk5 (by rw [HTR.out]; exact HSEEN.out), HTR.out, HSLR.out]
                · have := HFB.out; have := HF'.out; rw [hlenx] at *; simp only [List.length_append, List.length_singleton] at *; omega
                · simp only [List.length_append, List.length_singleton] at *; omega
              case measure =>
                have h1 := mapSize_of mP (b := mb) (es := es1) (cl := cl + 1) (by simp)
                rw [HL1.out.size] at h1
                have h2 := HMSZ.out
                have h3 : (seenL (seen ++ [v.n])).length = seen.length + 1 := by simp [seenL]
                simp [sliceLen]
                omega
          · have HTR := Lib.hid htr; clear htr
            have hneg : ¬ h.old[i].2 = -1 := by omega
            have hneg2 : (h.old[i].2 != -1) = true := by simpa using hneg
            generalize htt : h.old[i].2 = t at *
            clear htt
            go_wp2_with fail
            refine (refer_any b t (by omega) (by have := HOK.out.core.half; omega) m7).mono ?_
            rintro e w8 ⟨rfl, m8⟩
            have hrin : ValIn h.half h.new.length h.old.length true (refV h.half t) := refV_in HOK.out.core.half t ht0 ht1
            have hrve : (refV h.half t).v = .agg #[.int .u8 5, .int .i64 (refV h.half t).n, .string (refV h.half t).s] := rfl
            have HRVE := Lib.hid hrve
            rw [hrve]
            clear hrve
            have hrf := (hrin.can (by omega) (by omega) HOK.out.core.half).fit
            have hrn0 := (plain_cases hrin.1).2.2.2 rfl
            have hrno : ¬ oldV h.half (refV h.half t) := by
              have := HOK.out.core.half
              unfold oldV refV; simp only; omega
            have hrn2 : (refV h.half t).n / 2 = t := by
              have := HOK.out.core.half
              unfold refV; simp only; omega
            obtain ⟨j, rfl⟩ := Int.eq_ofNat_of_zero_le ht0
            have hj : j < h.new.length := by omega
            generalize hrr : refV h.half (j : Int) = r at *
            have hrk : r.kind = 5 := by rw [← hrr]; rfl
            have HRF := Lib.hid hrf; clear hrf
            have HRN0 := Lib.hid hrn0; clear hrn0
            have HRNO := Lib.hid hrno; clear hrno
            have HRN2 := Lib.hid hrn2; clear hrn2
            have hdec2 : decide (r.kind = 5 ∧ r.n.tmod 2 ≠ h.half) = false := decide_eq_false (fun hh => HRNO.out ⟨hh.1, by rw [← tmod2 HRN0.out]; exact hh.2⟩)
            have HDEC2 := Lib.hid hdec2; clear hdec2 hrr hrin
            have m9 := ((m8.set (i := 0) (v := .int .u8 5) (.tail .head)).set (i := 1) (v := .int .i64 r.n) (.tail .head)).set (i := 2) (v := .string r.s) (.tail .head)
            simp only [List.setIfInBounds_toArray, List.set_cons_zero, List.set_cons_succ] at m9
            clear es mu q0 q4
            have mu8 := m8
            unfold HBox at mu8
            have es8 := mu8.eqs
            simp only [EqsL] at es8
            have mu := m9
            unfold HBox at mu
            have es := mu.eqs
            simp only [EqsL] at es
            have hlook := Mem.lookup (P := Try.prog) Try.underlying123 Try.underlying3 (zero_bool _) m9 (b := mb) (clock := cl) (by simp) HL.out r.n false
            rw [seenL_lookup] at hlook
            simp only [Bool.false_eq_true, if_false] at hlook
            obtain ⟨f', hf'⟩ : ∃ f', f = f' + 1 := ⟨f - 1, by have := HFB.out; rw [hlenx] at this; omega⟩
            have HF' := Lib.hid hf'; clear hf'
            by_cases hseen : r.n ∈ seen
            · rw [if_pos hseen] at hlook
              simp only [Option.getD_some] at hlook
              have HSEEN := Lib.hid hseen; clear hseen
              go_wp2_with fail
              go_roundw
              case rel =>
                refine ⟨f', seen, init, _, _, Lq, es0, cl, rfl, hq2, HL.out, HND.out, HSR.out, HXI.out, ?_, ?_, by omega, ?_⟩
                · rw [HLV.out, HF'.out, liveN_seen f' h seen init v hk5 (by rw [HTR.out]; exact HSEEN.out)]
                · have := HFB.out; have := HF'.out; rw [hlenx] at *; omega
                · exact (m9.perm (perm_lv2 _ _ _ Lq L)).perm (.swap _ _ _) |>.drop
              case measure =>
                have h1 := mapSize_of m9 (b := mb) (es := es0) (cl := cl) (by simp)
                rw [HL.out.size] at h1
                have h2 := HMSZ.out
                have h3 : (seenL seen).length = seen.length := by simp [seenL]
                simp [sliceLen]
                omega
            · rw [if_neg hseen] at hlook
              simp only [Option.getD_none] at hlook
              have hnd2 : (seen ++ [r.n]).Nodup := by
                rw [List.nodup_append]
                refine ⟨HND.out, by simp, fun a ha c hc => ?_⟩
                rw [List.mem_singleton] at hc
                subst hc
                exact fun e => hseen (e ▸ ha)
              have hsr2 : ∀ k ∈ seen ++ [r.n], 0 ≤ k ∧ k < ((12000 : Nat) : Int) := by
                intro k hk
                rcases List.mem_append.1 hk with hk | hk
                · exact HSR.out k hk
                · rw [List.mem_singleton] at hk
                  subst hk
                  exact (by have := HRN0.out; have := HRN2.out; omega)
              have hsl2 := nodup_bound 12000 _ hnd2 hsr2
              rw [List.length_append, List.length_singleton] at hsl2
              have HND2 := Lib.hid hnd2; clear hnd2
              have HSR2 := Lib.hid hsr2; clear hsr2
              have HSEEN := Lib.hid hseen; clear hseen
              obtain ⟨es1, W1, hins, hl1, mI⟩ := Mem.insert (P := Try.prog) Try.underlying123 Try.underlying3 (m9.perm (perm_lv2 _ _ _ Lq L)) HL.out r.n (.bool true) (by rw [seenL_lookup, if_neg HSEEN.out])
              rw [← seenL_snoc] at hl1
              have HL1 := Lib.hid hl1; clear hl1
              have mJ := mI.perm (perm_lv3 _ _ _ Lq L)
              have mu1 := mJ
              unfold HBox at mu1
              have es1' := mu1.eqs
              simp only [EqsL] at es1'
              go_wp2_with fail
              clear es mu hlook hins mI
              rw [← HRVE.out]
              refine (split_any r mJ HRF.out.n).mono ?_
              rintro e w8 ⟨rfl, mK⟩
              rw [tdiv2 HRN0.out, HRN2.out]
              clear es1' mu1 mJ
              have mu := mK
              unfold HBox at mu
              have es := mu.eqs
              simp only [EqsL] at es
              go_wp2_with fail
              rw [← HRVE.out]
              refine (isOld_any b r HRF.out mK).mono ?_
              rintro e w9 ⟨rfl, mM⟩
              rw [HDEC2.out]
              clear es mu mK
              have mu := mM
              unfold HBox at mu
              have es := mu.eqs
              simp only [EqsL] at es
              obtain ⟨blk, off, sv, hbk, d0, d1, d2, d3, hsl, hft⟩ := HVN.out.getObj hj
              have HSL9 := Lib.hid hsl
              have hs4 := (HOK.out.core.new _ _ (List.getElem?_eq_getElem hj)).len
              have hsv := (HOK.out.core.new _ _ (List.getElem?_eq_getElem hj)).sl
              have HSV := Lib.hid hsv; clear hsv
              have hsr : h.slotsR r = h.new[j].slots := (by unfold HeapM.slotsR HeapM.slotsAt; rw [if_neg HRNO.out, HRN2.out, Int.toNat_natCast, List.getElem?_eq_getElem hj])
              have HSLR := Lib.hid hsr; clear hsr
              obtain ⟨b1, c1', rfl, -, hc1', -, -⟩ := hsl
              have hc1' := size_le_maxLen hc1'
              cases hbk
              have d0 := d0.cell mM
              have d1 := d1.cell mM
              have d2 := d2.cell mM
              have d3 := d3.cell mM
              skip
              have HFT9 := Lib.hid hft; clear hft
              have hiI : (j : Int) < h.new.length := by omega
              obtain ⟨news, hch, hsrc⟩ := HSL9.out.src mM
              obtain ⟨hnews, _⟩ := chunks_valCs hch
              have HSRC := Lib.hid hsrc; clear hsrc
              have HCH := Lib.hid hch; clear hch
              have HNW := Lib.hid hnews; clear hnews
              have mN := mM.perm (perm_lv4 _ _ _ Lq L)
              go_wp2_with (at_builtin; go_must (refine wpList_append_mem (w0 := w0) (H := H) (L := _ :: _) rfl _ _ 29 rfl 50 3 32 (.agg #[.int .u8 0, .int .i64 0, .string ByteArray.empty]) Try.underlying29 (by kernel_rfl) rfl (by decide) (.slice (some ⟨g, 0, none⟩) init.length pc) init.length (valCs init) (hq2.join mN) rfl _ h.new[j].slots.length news HSRC.out rfl HCH.out.vlen (val_oneCell HCH.out) (by omega) (by unfold maxLen; omega) ?_))
              intro v' w10 hacc
              obtain ⟨b6, c6, rfl, _, _⟩ := hacc.shape
              obtain ⟨Lq3, hq3, mO⟩ := hacc.split
              have mP := mO.perm (perm_lv5 _ _ _ Lq3 L)
              go_wp2_with fail
              go_roundw
              case rel =>
                refine ⟨f', seen ++ [r.n], init ++ h.new[j].slots, b6, c6, Lq3, es1, cl + 1, by rw [List.length_append], ?_, HL1.out, HND2.out, HSR2.out, ?_, ?_, ?_, ?_, (mP.drop)⟩
                · rw [List.length_append, valCs_append, ← HNW.out]; exact hq3
                · intro x hx
                  rcases List.mem_append.1 hx with hx | hx
                  · exact HXI.out x hx
                  · exact (HSV.out x hx).mono (Nat.le_refl _) fun _ => rfl
                · rw [HLV.out, HF'.out, liveN_new f' h seen init v hk5 (by rw [HTR.out]; exact HSEEN.out), HTR.out, HSLR.out]
                · have := HFB.out; have := HF'.out; rw [hlenx] at *; simp only [List.length_append, List.length_singleton] at *; omega
                · simp only [List.length_append, List.length_singleton] at *; omega
              case measure =>
                have h1 := mapSize_of mP (b := mb) (es := es1) (cl := cl + 1) (by simp)
                rw [HL1.out.size] at h1
                have h2 := HMSZ.out
                have h3 : (seenL (seen ++ [r.n])).length = seen.length + 1 := by simp [seenL]
                simp [sliceLen]
                omega
      · have hk6 : ((v.kind : Int) == 5) = false := beq_eq_false_iff_ne.2 (by omega)
        have hk7 : ((v.kind : Int) != 5) = true := by simpa using (by omega : ¬ (v.kind : Int) = 5)
        go_wp2_with fail
        go_roundw
        case rel =>
          obtain ⟨f', hf'⟩ : ∃ f', f = f' + 1 := ⟨f - 1, by have := HFB.out; rw [hlenx] at this; omega⟩
          refine ⟨f', seen, init, _, _, Lq, es0, cl, rfl, hq2, HL.out, HND.out, HSR.out, HXI.out, ?_, ?_, by omega, ?_⟩
          · rw [HLV.out, hf', liveN_skip f' h seen init v hk5]
          · have := HFB.out; rw [hlenx] at this; omega
          · exact (m5.perm (perm_lv2 _ _ _ Lq L)).perm (.swap _ _ _) |>.drop
        case measure =>
          have h1 := mapSize_of m5 (b := mb) (es := es0) (cl := cl) (by simp)
          rw [HL.out.size] at h1
          have h2 := HMSZ.out
          have h3 : (seenL seen).length = seen.length := by simp [seenL]
          simp [sliceLen]
          omega
end Go.Proofs.Ythipkmmdjhpklaa
