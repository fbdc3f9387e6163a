/- The walk: the law HeapUnseen. -/
import Derived.Test.YthipkmmdjhpklaaK18
namespace Go.Proofs.Ythipkmmdjhpklaa
set_option linter.unusedVariables false
set_option linter.unusedSimpArgs false
open Go.RowKit

theorem filter_snoc {ds : List DeedM} {k : Nat} (h : k < ds.length) : (ds.take (k + 1)).filter nc = (ds.take k).filter nc ++ (if isColl ds[k] = true then [] else [ds[k]]) := by
  rw [List.take_succ_eq_append_getElem h, List.filter_append]
  by_cases hc : isColl ds[k] = true
  · rw [if_pos hc, List.filter_cons_of_neg (by simp [nc, hc]), List.filter_nil]
  · rw [if_neg hc, List.filter_cons_of_pos (by simpa [nc] using hc), List.filter_nil]
theorem perm_un1 {α : Type} (x b : α) (Lq L : List α) : (x :: b :: (Lq ++ L)).Perm (Lq ++ (x :: b :: L)) := (by classical exact List.perm_iff_count.2 (fun a => by simp only [List.count_append, List.count_cons, List.cons_append, List.nil_append, List.append_assoc]; omega))
theorem perm_un2 {α : Type} (b : α) (Lq L : List α) : (Lq ++ (b :: L)).Perm (b :: (Lq ++ L)) := (by classical exact List.perm_iff_count.2 (fun a => by simp only [List.count_append, List.count_cons, List.cons_append, List.nil_append, List.append_assoc]; omega))
/-- A continuation that several orders share. -/
theorem share {K : Act → World → Prop} {G : Prop} (R : Nat → Value → Option Addr → Nat → Option Addr → Nat → Option Addr → Nat → Option Addr → Nat → World → Prop) {f : Nat → Value → Option Addr → Nat → Option Addr → Nat → Option Addr → Nat → Option Addr → Nat → Act}
    (br : (∀ x a b c d e g h i j W, R x a b c d e g h i j W → K (f x a b c d e g h i j) W) → G) (rest : ∀ x a b c d e g h i j W, R x a b c d e g h i j W → K (f x a b c d e g h i j) W) : G := br rest
theorem perm_uu1 {α : Type} (x a b c : α) (L : List α) : (x :: a :: b :: c :: L).Perm (a :: b :: c :: x :: L) := (by classical exact List.perm_iff_count.2 (fun a => by simp only [List.count_append, List.count_cons, List.cons_append, List.nil_append, List.append_assoc]; omega))
theorem perm_uu2 {α : Type} (x a b c : α) (L : List α) : (a :: b :: c :: x :: L).Perm (x :: a :: b :: c :: L) := (by classical exact List.perm_iff_count.2 (fun a => by simp only [List.count_append, List.count_cons, List.cons_append, List.nil_append, List.append_assoc]; omega))
theorem lenSl {H : Hp} {v : Value} {xs : List ValM} {n : Nat} (h : SlR encVal H v xs) (hn : xs.length = n) : ∃ b c, v = .slice b n c := by
  obtain ⟨b, c, e⟩ := h.shape
  exact ⟨b, c, by rw [e, hn]⟩
/-- What the law's first loop makes: the deeds that are none of a collection. -/
def SomeR (ds : List DeedM) (v : Value) (H : Hp) : Prop := SlR encDeed H v (ds.filter nc)
set_option maxRecDepth 10000 in
set_option maxHeartbeats 8000000 in
theorem unseen_any (size regs other : Int) (hs : I64 size) (hr : I64 regs) (hoth : I64 other) (dv : Value) (ds : List DeedM) {w0 w : World} {H : Hp} {L : List (Nat × Obj)} (hd : SlR encDeed H dv ds) (m : Mem w0 H L w) :
    Calls Try.prog 4 #[.agg #[.int .i64 size, .int .i64 regs, dv], .int .i64 other] w (Ret w0 H L (.bool true)) := by
  have HD := Lib.hid hd
  have HSZ := Lib.hid hs; clear hs
  have HRG := Lib.hid hr; clear hr
  have HOT := Lib.hid hoth; clear hoth
  obtain ⟨lb, lc, rfl, _, hlc, _, _⟩ := hd
  have hlc := size_le_maxLen hlc
  have m1 := m.alloc (PBox size regs (.slice lb ds.length lc))
  have mu := m1
  have es := mu.eqs
  simp only [EqsL] at es
  go_enter Try.func4, Try.ntmps4
  go_wp2_with fail
  refine (ready_any size regs _ ds HD.out m1).mono ?_
  rintro e w1 ⟨rfl, m2⟩
  clear es mu m1
  have es := m2.eqs
  simp only [EqsL] at es
  cases hrd : readyM size regs ds
  · have HRD := Lib.hid hrd; clear hrd
    go_wp2_with fail
    refine (awake_any m2).mono ?_
    rintro e w3 ⟨rfl, m3⟩
    go_wp2_with fail
    go_ret
    exact ⟨rfl, m3.drop⟩
  have HRD := Lib.hid hrd; clear hrd
  go_wp2_with fail
  refine (In_any _ _ _ _).mono ?_
  rintro e w3 ⟨rfl, rfl⟩
  cases hio : decide (0 ≤ other ∧ other ≤ 6000)
  · have HIO := Lib.hid hio; clear hio
    go_wp2_with fail
    refine (awake_any m2).mono ?_
    rintro e w3 ⟨rfl, m3⟩
    go_wp2_with fail
    go_ret
    exact ⟨rfl, m3.drop⟩
  have HIO := Lib.hid (of_decide_eq_true hio); clear hio
  have hrd := HRD.out
  unfold readyM at hrd
  simp only [Bool.and_eq_true, decide_eq_true_eq] at hrd
  obtain ⟨⟨⟨htd, hl80⟩, hsz⟩, hrg⟩ := hrd
  have hall : ∀ d ∈ ds, d.list.length ≤ 12 ∧ d.obj.slots.length ≤ 4 ∧ d.obj.name.size ≤ 300 ∧ d.val.s.size ≤ 300 ∧ d.a ≤ 10000 := fun d hd => by
    unfold thinD at htd
    rw [Bool.and_eq_true] at htd
    exact thin1_all (List.all_eq_true.1 htd.2 d hd)
  have HALL := Lib.hid hall; clear hall htd
  have HSZ6 := Lib.hid hsz; clear hsz
  obtain ⟨n, rfl⟩ := Int.eq_ofNat_of_zero_le (show 0 ≤ regs by omega)
  have HN := Lib.hid hrg; clear hrg
  go_wp2_with fail
  go_loopw [5, 6] (fun v5 v6 wr => ∃ (k k' : Nat) (H' : Hp) (pb : Option Addr) (pc : Nat) (cs : List Value) (Lq : List (Nat × Obj)), k ≤ ds.length ∧ k' ≤ k ∧ ((ds.take k).filter nc).length = k' ∧ v6 = .int .i64 k ∧ v5 = .slice pb k' pc ∧ Hle H H' ∧ Chunks encDeed H' cs ((ds.take k).filter nc) ∧ AccL 52 12 (.slice pb k' pc) k' cs Lq ∧ Mem w0 H' (Lq ++ ((w.heap.size, PBox size n (.slice lb ds.length lc)) :: L)) wr) (fun _ i _ => ds.length - (intOf i).toNat)
  case atStart => exact ⟨0, 0, H, none, 0, [], [], Nat.zero_le _, Nat.le_refl _, rfl, rfl, rfl, Hle.refl _, .nil, AccL.nil, m2⟩
  case round =>
    obtain ⟨k, k', H', pb, pc, cs, Lq, hk, hkk, hkl, rfl, rfl, hle, hch, hq, mk0⟩ := hrel
    have HKL := Lib.hid hkl; clear hkl
    have mB := mk0.perm (perm_un2 _ Lq L)
    clear es m2
    have es := mB.eqs
    simp only [EqsL] at es
    by_cases hlt : k < ds.length
    · obtain ⟨blk, off, lv, sv, rfl, hcell, hdr⟩ := HD.out.getDeed hlt
      have hfs := filter_snoc hlt
      have HFS := Lib.hid hfs; clear hfs
      have HDR := Lib.hid hdr; clear hdr
      generalize ds[k] = d at *
      have hltI : (k : Int) < ds.length := by omega
      obtain ⟨lb2, lc2, rfl, -, -, -, -⟩ := HDR.out.list
      obtain ⟨sb2, sc2, rfl, -, -, -, -⟩ := HDR.out.slots
      have HCELL := Lib.hid hcell; clear hcell
      have mk := mB.weaken hle
      have c0 := (HCELL.out 0 _ rfl).cell mk
      rw [Nat.add_zero] at c0
      have c1 := (HCELL.out 1 _ rfl).cell mk
      have c2 := (HCELL.out 2 _ rfl).cell mk
      have c3 := (HCELL.out 3 _ rfl).cell mk
      have c4 := (HCELL.out 4 _ rfl).cell mk
      have c5 := (HCELL.out 5 _ rfl).cell mk
      have c6 := (HCELL.out 6 _ rfl).cell mk
      have c7 := (HCELL.out 7 _ rfl).cell mk
      have c8 := (HCELL.out 8 _ rfl).cell mk
      have c9 := (HCELL.out 9 _ rfl).cell mk
      have c10 := (HCELL.out 10 _ rfl).cell mk
      have c11 := (HCELL.out 11 _ rfl).cell mk
      clear mk
      go_wp2_with fail
      refine (isColl_any d _ _ (HDR.out.mono hle) mB).mono ?_
      rintro e w4 ⟨rfl, m4⟩
      clear c0 c1 c2 c3 c4 c5 c6 c7 c8 c9 c10 c11 es mk0 mB
      have es := m4.eqs
      simp only [EqsL] at es
      cases hc : isColl d
      · have HC := Lib.hid hc; clear hc
        have mk := m4.weaken hle
        have c0 := (HCELL.out 0 _ rfl).cell mk
        rw [Nat.add_zero] at c0
        have c1 := (HCELL.out 1 _ rfl).cell mk
        have c2 := (HCELL.out 2 _ rfl).cell mk
        have c3 := (HCELL.out 3 _ rfl).cell mk
        have c4 := (HCELL.out 4 _ rfl).cell mk
        have c5 := (HCELL.out 5 _ rfl).cell mk
        have c6 := (HCELL.out 6 _ rfl).cell mk
        have c7 := (HCELL.out 7 _ rfl).cell mk
        have c8 := (HCELL.out 8 _ rfl).cell mk
        have c9 := (HCELL.out 9 _ rfl).cell mk
        have c10 := (HCELL.out 10 _ rfl).cell mk
        have c11 := (HCELL.out 11 _ rfl).cell mk
        clear mk
        have m5 := (m4.alloc (.cells #[.int .u8 d.kind, .int .i64 d.a, .int .i64 d.b, .int .i64 d.c, .slice lb2 d.list.length lc2, .int .u8 d.obj.kind, .string d.obj.name, .int .i64 d.obj.n, .slice sb2 d.obj.slots.length sc2, .int .u8 d.val.kind, .int .i64 d.val.n, .string d.val.s] 52)).perm (perm_un1 _ _ Lq L)
        go_wp2_with (at_builtin; go_must (refine wpList_append_mem (w0 := w0) (H := H') (L := _ :: _) rfl _ _ 22 rfl 52 12 144 (.agg #[.int .u8 0, .int .i64 0, .int .i64 0, .int .i64 0, .slice none 0 0, .int .u8 0, .string ByteArray.empty, .int .i64 0, .slice none 0 0, .int .u8 0, .int .i64 0, .string ByteArray.empty]) Try.underlying22 (by kernel_rfl) rfl (by decide) (.slice pb k' pc) k' cs (hq.join m5) rfl (.slice (some ⟨w4.heap.size, 0, none⟩) 1 1) 1 [.int .u8 d.kind, .int .i64 d.a, .int .i64 d.b, .int .i64 d.c, .slice lb2 d.list.length lc2, .int .u8 d.obj.kind, .string d.obj.name, .int .i64 d.obj.n, .slice sb2 d.obj.slots.length sc2, .int .u8 d.val.kind, .int .i64 d.val.n, .string d.val.s] (Src.loc (e := 52) (hq.join m5).mem (.head _)) rfl rfl (by simp [Value.oneCell']) (by omega) (by unfold maxLen; omega) ?_))
        intro v' w6 hacc
        obtain ⟨b6, c6, rfl, _, _⟩ := hacc.shape
        obtain ⟨Lq3, hq3, mF⟩ := hacc.drop.split
        go_wp2_with fail
        go_roundw
        case rel =>
          have e1 : (ds.take (k + 1)).filter nc = (ds.take k).filter nc ++ [d] := by rw [HFS.out, if_neg (by rw [HC.out]; simp)]
          refine ⟨k + 1, k' + 1, H', b6, c6, _, Lq3, by omega, by omega, ?_, by go_num, rfl, hle, ?_, hq3, mF⟩
          · rw [e1, List.length_append, HKL.out]; rfl
          · rw [e1]
            exact hch.append (Chunks.deed (HDR.out.mono hle))
        case measure => simp [intOf]; omega
      · have HC := Lib.hid hc; clear hc
        go_wp2_with fail
        go_roundw
        case rel =>
          have e1 : (ds.take (k + 1)).filter nc = (ds.take k).filter nc := by rw [HFS.out, if_pos HC.out, List.append_nil]
          refine ⟨k + 1, k', H', pb, pc, cs, Lq, by omega, by omega, by rw [e1]; exact HKL.out, by go_num, rfl, hle, by rw [e1]; exact hch, hq, m4.perm (perm_un2 _ Lq L).symm⟩
        case measure => simp [intOf]; omega
    · have hge : ¬ (k : Int) < ds.length := by omega
      have hk' : k = ds.length := by omega
      obtain ⟨H1, m3, hle1, hsm⟩ := (hq.join mk0).done hch rfl HKL.out.symm
      rw [hk', List.take_length] at hsm
      have hk2 : (ds.filter nc).length = k' := by have := HKL.out; rw [hk', List.take_length] at this; exact this
      have HSM := Lib.hid hsm; clear hsm
      have HK2 := Lib.hid hk2; clear hk2
      have HH1 := Lib.hid (hle.trans hle1)
      have hk80 : k' ≤ 80 := by omega
      clear hk' hk hkk HKL hch hq mk0 mB es hle hle1
      have hz := HSZ6.out
      have hio := HIO.out
      have hn40 := HN.out
      have es := m3.eqs
      simp only [EqsL] at es
      go_wp2_with fail
      refine (Make_any size n HSZ.out HRG.out m3).mono ?_
      rintro e w4 h4
      unfold MakeR at h4
      rw [if_pos ⟨hz, by omega⟩] at h4
      obtain ⟨vr4, H4, rfl, hvr4, hl4, m4⟩ := h4
      rw [Int.toNat_natCast] at hvr4
      have FA := Lib.hid (show HFr H4 (newH size n) (.slice none 0 0) (.slice none 0 0) vr4 from ⟨SlR.nil _ _, SlR.nil _ _, hvr4⟩)
      obtain ⟨rb4, rc4, rfl⟩ := hvr4.shape
      rw [List.length_replicate] at FA
      clear hvr4 es m3
      have m5 := m4.alloc (.cells #[.int .i64 size, .int .i64 0, .int .i64 0, .bool false, .slice none 0 0, .slice none 0 0, .slice rb4 n rc4] 31)
      have es := m5.eqs
      simp only [EqsL] at es
      rw [List.length_replicate]
      go_wp2_with fail
      refine (Make_any other n HOT.out HRG.out m5).mono ?_
      rintro e w6 h6
      unfold MakeR at h6
      rw [if_pos ⟨hio, by omega⟩] at h6
      obtain ⟨vr6, H6, rfl, hvr6, hl6, m6⟩ := h6
      rw [Int.toNat_natCast] at hvr6
      have FB := Lib.hid (show HFr H6 (newH other n) (.slice none 0 0) (.slice none 0 0) vr6 from ⟨SlR.nil _ _, SlR.nil _ _, hvr6⟩)
      obtain ⟨rb6, rc6, rfl⟩ := hvr6.shape
      rw [List.length_replicate] at FB
      clear hvr6 es m5 m4
      have m7 := m6.alloc (.cells #[.int .i64 other, .int .i64 0, .int .i64 0, .bool false, .slice none 0 0, .slice none 0 0, .slice rb6 n rc6] 31)
      have es := m7.eqs
      simp only [EqsL] at es
      rw [List.length_replicate]
      have HSM7 := Lib.hid (HSM.out.mono (hl4.trans hl6))
      have FA7 := Lib.hid (FA.out.mono hl6)
      have HH7 := Lib.hid ((HH1.out.trans hl4).trans hl6)
      clear HSM FA HH1 hl4 hl6 m6
      go_wp2_with fail
      have hbd : ∀ d ∈ ds, d.list.length ≤ 100000 ∧ d.obj.slots.length ≤ 100000 := fun d hd => by have := HALL.out d hd; omega
      have HBD := Lib.hid hbd; clear hbd
      have haf : ∀ d ∈ ds, d.a ≤ 100000 := fun d hd => by have := HALL.out d hd; omega
      have HAF := Lib.hid haf; clear haf
      have OKA := Lib.hid (newH_ok size n hz (by omega))
      have OKB := Lib.hid (newH_ok other n hio (by omega))
      clear es
      apply share (R := fun xo dv' ob oc nb nx rb rc qb qc W => ∃ H', Hle H6 H' ∧ SlR encVal H' (.slice qb ds.length qc) ((newH size n).plays ds).1 ∧ Mem w0 H' ((w6.heap.size, .cells #[.int .i64 other, .int .i64 0, .int .i64 0, .bool false, .slice none 0 0, .slice none 0 0, .slice rb6 n rc6] 31) :: (w4.heap.size, .cells #[.int .i64 size, .int .i64 0, .int .i64 0, .bool false, .slice none 0 0, .slice none 0 0, .slice rb4 n rc4] 31) :: (w.heap.size, PBox size n (.slice lb ds.length lc)) :: L) W)
      case' br =>
        intro key
        refine AnyFrom.start (fun w' => ∃ H' L', Mem w0 H' ((w6.heap.size, .cells #[.int .i64 other, .int .i64 0, .int .i64 0, .bool false, .slice none 0 0, .slice none 0 0, .slice rb6 n rc6] 31) :: (w4.heap.size, .cells #[.int .i64 size, .int .i64 0, .int .i64 0, .bool false, .slice none 0 0, .slice none 0 0, .slice rb4 n rc4] 31) :: (w.heap.size, PBox size n (.slice lb ds.length lc)) :: L') w') 13 (by kernel_rfl) ?_
        have mW := m7.drew
        generalize World.drew _ = W at *
        have HS : (fun w' => ∃ H' L', Mem w0 H' ((w6.heap.size, .cells #[.int .i64 other, .int .i64 0, .int .i64 0, .bool false, .slice none 0 0, .slice none 0 0, .slice rb6 n rc6] 31) :: (w4.heap.size, .cells #[.int .i64 size, .int .i64 0, .int .i64 0, .bool false, .slice none 0 0, .slice none 0 0, .slice rb4 n rc4] 31) :: (w.heap.size, PBox size n (.slice lb ds.length lc)) :: L') w') W := ⟨_, _, mW⟩
        refine AnyFrom.take (i := 0) (v := ?_) rfl (by kernel_rfl) (by kernel_rfl) (by kernel_rfl) (by kernel_rfl) (fun _ _ _ h => h) ⟨by kernel_rfl, ?_⟩ HS ?_
        rotate_left
        · first | (rintro w' ⟨H', L', hm⟩; have es := hm.eqs; simp only [EqsL] at es; go_simp; done) | (rintro w' ⟨H', L', hm⟩; have es := hm.eqs; simp only [EqsL] at es; go_simp; with_reducible rfl)
        simp only [Act.put, List.setIfInBounds_toArray, List.set_cons_zero, List.set_cons_succ, List.getElem_toArray, List.getElem_cons_succ, List.getElem_cons_zero]
        refine AnyFrom.pure (i := 1) (v := ?_) rfl (by kernel_rfl) (by kernel_rfl) (by kernel_rfl) (by decide) (fun _ _ _ h => h) ⟨by kernel_rfl, ?_⟩ HS ?_
        rotate_left
        · first | (intro w'; go_simp; done) | (intro w'; go_simp; with_reducible rfl)
        simp only [Act.put, List.setIfInBounds_toArray, List.set_cons_zero, List.set_cons_succ, List.getElem_toArray, List.getElem_cons_succ, List.getElem_cons_zero]
        refine AnyFrom.take (i := 2) (v := ?_) rfl (by kernel_rfl) (by kernel_rfl) (by kernel_rfl) (by kernel_rfl) (fun _ _ _ h => h) ⟨by kernel_rfl, ?_⟩ HS ?_
        rotate_left
        · first | (rintro w' ⟨H', L', hm⟩; have es := hm.eqs; simp only [EqsL] at es; go_simp; done) | (rintro w' ⟨H', L', hm⟩; have es := hm.eqs; simp only [EqsL] at es; go_simp; with_reducible rfl)
        simp only [Act.put, List.setIfInBounds_toArray, List.set_cons_zero, List.set_cons_succ, List.getElem_toArray, List.getElem_cons_succ, List.getElem_cons_zero]
        refine AnyFrom.two (i := 3) (j := 9) (by kernel_rfl) ?_ ?_
        · skip
          refine AnyFrom.op rfl (by kernel_rfl) fun K hK => ?_
          go_simp
          refine (lawDeeds_any _ ds (by omega) HBD.out ((HD.out.mono HH7.out)) mW).mono ?_
          rintro e wd ⟨Hd, dv', rfl, hld, hdd, mA⟩
          clear mW
          have HLD := Lib.hid hld
          refine hK _ _ (.inr ⟨_, _, mA⟩) ?_
          clear hK K HS
          try simp only [Act.put, List.setIfInBounds_toArray, List.set_cons_zero, List.set_cons_succ, List.getElem_toArray, List.getElem_cons_succ, List.getElem_cons_zero]
          have HS : (fun w' => ∃ H' L', Mem w0 H' ((w6.heap.size, .cells #[.int .i64 other, .int .i64 0, .int .i64 0, .bool false, .slice none 0 0, .slice none 0 0, .slice rb6 n rc6] 31) :: (w4.heap.size, .cells #[.int .i64 size, .int .i64 0, .int .i64 0, .bool false, .slice none 0 0, .slice none 0 0, .slice rb4 n rc4] 31) :: (w.heap.size, PBox size n (.slice lb ds.length lc)) :: L') w') wd := ⟨_, _, mA⟩
          refine AnyFrom.two (i := 4) (j := 9) (by kernel_rfl) ?_ ?_
          · skip
            refine AnyFrom.op rfl (by kernel_rfl) fun K hK => ?_
            go_simp
            refine (Play_fr (newH size n) OKA.out rfl ds (by omega) HAF.out _ _ _ _ (FA7.out.mono hld) hdd mA).mono ?_
            rintro e wp ⟨Hp, vo, vn, vr, rv, rfl, hlp, fp, hrv, mP⟩
            clear mA
            obtain ⟨ob, oc, rfl⟩ := fp.o.shape
            obtain ⟨nb, nc', rfl⟩ := fp.n.shape
            obtain ⟨rb, rc, rfl⟩ := fp.r.shape
            obtain ⟨qb, qc, rfl⟩ := lenSl hrv (plays_len _ _)
            have HRV := Lib.hid hrv; clear hrv fp
            unfold HVal
            refine hK _ _ (.inr ⟨_, _, mP⟩) ?_
            clear hK K HS
            try simp only [Act.put, List.setIfInBounds_toArray, List.set_cons_zero, List.set_cons_succ, List.getElem_toArray, List.getElem_cons_succ, List.getElem_cons_zero]
            have HS : (fun w' => ∃ H' L', Mem w0 H' ((w6.heap.size, .cells #[.int .i64 other, .int .i64 0, .int .i64 0, .bool false, .slice none 0 0, .slice none 0 0, .slice rb6 n rc6] 31) :: (w4.heap.size, .cells #[.int .i64 size, .int .i64 0, .int .i64 0, .bool false, .slice none 0 0, .slice none 0 0, .slice rb4 n rc4] 31) :: (w.heap.size, PBox size n (.slice lb ds.length lc)) :: L') w') wp := ⟨_, _, mP⟩
            have HLE := Lib.hid (hld.trans hlp)
            refine AnyFrom.pure (i := 5) (v := ?_) rfl (by kernel_rfl) (by kernel_rfl) (by kernel_rfl) (by decide) (fun _ _ _ h => h) ⟨by kernel_rfl, ?_⟩ HS ?_
            rotate_left
            · first | (intro w'; go_simp; done) | (intro w'; go_simp; with_reducible rfl)
            simp only [Act.put, List.setIfInBounds_toArray, List.set_cons_zero, List.set_cons_succ, List.getElem_toArray, List.getElem_cons_succ, List.getElem_cons_zero]
            refine AnyFrom.pure (i := 6) (v := ?_) rfl (by kernel_rfl) (by kernel_rfl) (by kernel_rfl) (by decide) (fun _ _ _ h => h) ⟨by kernel_rfl, ?_⟩ HS ?_
            rotate_left
            · first | (intro w'; go_simp; done) | (intro w'; go_simp; with_reducible rfl)
            simp only [Act.put, List.setIfInBounds_toArray, List.set_cons_zero, List.set_cons_succ, List.getElem_toArray, List.getElem_cons_succ, List.getElem_cons_zero]
            refine AnyFrom.pure (i := 7) (v := ?_) rfl (by kernel_rfl) (by kernel_rfl) (by kernel_rfl) (by decide) (fun _ _ _ h => h) ⟨by kernel_rfl, ?_⟩ HS ?_
            rotate_left
            · first | (intro w'; go_simp; done) | (intro w'; go_simp; with_reducible rfl)
            simp only [Act.put, List.setIfInBounds_toArray, List.set_cons_zero, List.set_cons_succ, List.getElem_toArray, List.getElem_cons_succ, List.getElem_cons_zero]
            refine AnyFrom.pure (i := 8) (v := ?_) rfl (by kernel_rfl) (by kernel_rfl) (by kernel_rfl) (by decide) (fun _ _ _ h => h) ⟨by kernel_rfl, ?_⟩ HS ?_
            rotate_left
            · first | (intro w'; go_simp; done) | (intro w'; go_simp; with_reducible rfl)
            simp only [Act.put, List.setIfInBounds_toArray, List.set_cons_zero, List.set_cons_succ, List.getElem_toArray, List.getElem_cons_succ, List.getElem_cons_zero]
            refine AnyFrom.call (i := 9) (by kernel_rfl) rfl (by kernel_rfl) fun K hK => ?_
            go_simp
            have mZ := (mP.alloc (.cells #[.int .i64 0, .int .i64 0, .int .i64 0, .bool false, .slice none 0 0, .slice none 0 0, .slice none 0 0] 31)).perm (perm_uu1 _ _ _ _ _)
            have hxo : ∃ xo, xo = Array.size (World.heap wp) := ⟨_, rfl⟩
            obtain ⟨xo, hxo⟩ := hxo
            rw [← hxo] at mZ
            rw [← hxo]
            generalize World.alloc wp _ = wz at *
            clear hxo mP
            refine hK _ _ (.inr ⟨_, _, mZ⟩) ?_
            clear hK K HS
            try simp only [Act.put, List.setIfInBounds_toArray, List.set_cons_zero, List.set_cons_succ, List.getElem_toArray, List.getElem_cons_succ, List.getElem_cons_zero]
            have HS : (fun w' => ∃ H' L', Mem w0 H' ((w6.heap.size, .cells #[.int .i64 other, .int .i64 0, .int .i64 0, .bool false, .slice none 0 0, .slice none 0 0, .slice rb6 n rc6] 31) :: (w4.heap.size, .cells #[.int .i64 size, .int .i64 0, .int .i64 0, .bool false, .slice none 0 0, .slice none 0 0, .slice rb4 n rc4] 31) :: (w.heap.size, PBox size n (.slice lb ds.length lc)) :: L') w') wz := ⟨_, _, mZ⟩
            have es := mZ.eqs
            simp only [EqsL] at es
            have ns := mZ.nes
            simp only [NeL, NeFrom] at ns
            refine AnyFrom.call (i := 10) (by kernel_rfl) rfl (by kernel_rfl) fun K hK => ?_
            go_simp
            refine hK _ _ (.inr ?_) ?_
            · exact ⟨Hp, L, MemB.done (ks := [xo]) (by repeat (first | refine MemB.set (by simp) ?_ | exact ⟨[_], rfl, mZ.perm (perm_uu2 _ _ _ _ _)⟩))⟩
            clear hK K HS es ns
            generalize hWY : World.setCell _ _ _ = WY
            have mY : Mem w0 Hp ((w6.heap.size, .cells #[.int .i64 other, .int .i64 0, .int .i64 0, .bool false, .slice none 0 0, .slice none 0 0, .slice rb6 n rc6] 31) :: (w4.heap.size, .cells #[.int .i64 size, .int .i64 0, .int .i64 0, .bool false, .slice none 0 0, .slice none 0 0, .slice rb4 n rc4] 31) :: (w.heap.size, PBox size n (.slice lb ds.length lc)) :: L) WY := by rw [← hWY]; exact MemB.done (ks := [xo]) (by repeat (first | refine MemB.set (by simp) ?_ | exact ⟨[_], rfl, mZ.perm (perm_uu2 _ _ _ _ _)⟩))
            clear hWY
            try simp only [Act.put, List.setIfInBounds_toArray, List.set_cons_zero, List.set_cons_succ, List.getElem_toArray, List.getElem_cons_succ, List.getElem_cons_zero]
            have HS : (fun w' => ∃ H' L', Mem w0 H' ((w6.heap.size, .cells #[.int .i64 other, .int .i64 0, .int .i64 0, .bool false, .slice none 0 0, .slice none 0 0, .slice rb6 n rc6] 31) :: (w4.heap.size, .cells #[.int .i64 size, .int .i64 0, .int .i64 0, .bool false, .slice none 0 0, .slice none 0 0, .slice rb4 n rc4] 31) :: (w.heap.size, PBox size n (.slice lb ds.length lc)) :: L') w') WY := ⟨_, _, mY⟩
            refine AnyFrom.pure (i := 11) (v := ?_) rfl (by kernel_rfl) (by kernel_rfl) (by kernel_rfl) (by decide) (fun _ _ _ h => h) ⟨by kernel_rfl, ?_⟩ HS ?_
            rotate_left
            · first | (intro w'; go_simp; done) | (intro w'; go_simp; with_reducible rfl)
            simp only [Act.put, List.setIfInBounds_toArray, List.set_cons_zero, List.set_cons_succ, List.getElem_toArray, List.getElem_cons_succ, List.getElem_cons_zero]
            refine AnyFrom.pure (i := 12) (v := ?_) rfl (by kernel_rfl) (by kernel_rfl) (by kernel_rfl) (by decide) (fun _ _ _ h => h) ⟨by kernel_rfl, ?_⟩ HS ?_
            rotate_left
            · first | (intro w'; go_simp; done) | (intro w'; go_simp; with_reducible rfl)
            simp only [Act.put, List.setIfInBounds_toArray, List.set_cons_zero, List.set_cons_succ, List.getElem_toArray, List.getElem_cons_succ, List.getElem_cons_zero]
            refine AnyFrom.done (by kernel_rfl) ?_ _
            exact key xo dv' ob oc nb nc' rb rc qb qc _ ⟨Hp, HLE.out, HRV.out, mY⟩
          · skip
            refine AnyFrom.op rfl (by kernel_rfl) fun K hK => ?_
            go_simp
            have mQ := (mA.alloc (.cells #[.int .i64 0, .int .i64 0, .int .i64 0, .bool false, .slice none 0 0, .slice none 0 0, .slice none 0 0] 31)).perm (perm_uu1 _ _ _ _ _)
            have hxo : ∃ xo, xo = Array.size (World.heap wd) := ⟨_, rfl⟩
            obtain ⟨xo, hxo⟩ := hxo
            rw [← hxo] at mQ
            rw [← hxo]
            generalize World.alloc wd _ = wq at *
            clear hxo mA
            refine hK _ _ (.inr ⟨_, _, mQ⟩) ?_
            clear hK K HS
            try simp only [Act.put, List.setIfInBounds_toArray, List.set_cons_zero, List.set_cons_succ, List.getElem_toArray, List.getElem_cons_succ, List.getElem_cons_zero]
            have HS : (fun w' => ∃ H' L', Mem w0 H' ((w6.heap.size, .cells #[.int .i64 other, .int .i64 0, .int .i64 0, .bool false, .slice none 0 0, .slice none 0 0, .slice rb6 n rc6] 31) :: (w4.heap.size, .cells #[.int .i64 size, .int .i64 0, .int .i64 0, .bool false, .slice none 0 0, .slice none 0 0, .slice rb4 n rc4] 31) :: (w.heap.size, PBox size n (.slice lb ds.length lc)) :: L') w') wq := ⟨_, _, mQ⟩
            refine AnyFrom.call (i := 4) (by kernel_rfl) rfl (by kernel_rfl) fun K hK => ?_
            go_simp
            refine (Play_fr (newH size n) OKA.out rfl ds (by omega) HAF.out _ _ _ _ (FA7.out.mono hld) hdd mQ).mono ?_
            rintro e wp ⟨Hp, vo, vn, vr, rv, rfl, hlp, fp, hrv, mP⟩
            clear mQ
            obtain ⟨ob, oc, rfl⟩ := fp.o.shape
            obtain ⟨nb, nc', rfl⟩ := fp.n.shape
            obtain ⟨rb, rc, rfl⟩ := fp.r.shape
            obtain ⟨qb, qc, rfl⟩ := lenSl hrv (plays_len _ _)
            have HRV := Lib.hid hrv; clear hrv fp
            unfold HVal
            have mZ := mP
            refine hK _ _ (.inr ⟨_, _, mZ⟩) ?_
            clear hK K HS
            try simp only [Act.put, List.setIfInBounds_toArray, List.set_cons_zero, List.set_cons_succ, List.getElem_toArray, List.getElem_cons_succ, List.getElem_cons_zero]
            have HS : (fun w' => ∃ H' L', Mem w0 H' ((w6.heap.size, .cells #[.int .i64 other, .int .i64 0, .int .i64 0, .bool false, .slice none 0 0, .slice none 0 0, .slice rb6 n rc6] 31) :: (w4.heap.size, .cells #[.int .i64 size, .int .i64 0, .int .i64 0, .bool false, .slice none 0 0, .slice none 0 0, .slice rb4 n rc4] 31) :: (w.heap.size, PBox size n (.slice lb ds.length lc)) :: L') w') wp := ⟨_, _, mZ⟩
            have HLE := Lib.hid (hld.trans hlp)
            refine AnyFrom.pure (i := 5) (v := ?_) rfl (by kernel_rfl) (by kernel_rfl) (by kernel_rfl) (by decide) (fun _ _ _ h => h) ⟨by kernel_rfl, ?_⟩ HS ?_
            rotate_left
            · first | (intro w'; go_simp; done) | (intro w'; go_simp; with_reducible rfl)
            simp only [Act.put, List.setIfInBounds_toArray, List.set_cons_zero, List.set_cons_succ, List.getElem_toArray, List.getElem_cons_succ, List.getElem_cons_zero]
            refine AnyFrom.pure (i := 6) (v := ?_) rfl (by kernel_rfl) (by kernel_rfl) (by kernel_rfl) (by decide) (fun _ _ _ h => h) ⟨by kernel_rfl, ?_⟩ HS ?_
            rotate_left
            · first | (intro w'; go_simp; done) | (intro w'; go_simp; with_reducible rfl)
            simp only [Act.put, List.setIfInBounds_toArray, List.set_cons_zero, List.set_cons_succ, List.getElem_toArray, List.getElem_cons_succ, List.getElem_cons_zero]
            refine AnyFrom.pure (i := 7) (v := ?_) rfl (by kernel_rfl) (by kernel_rfl) (by kernel_rfl) (by decide) (fun _ _ _ h => h) ⟨by kernel_rfl, ?_⟩ HS ?_
            rotate_left
            · first | (intro w'; go_simp; done) | (intro w'; go_simp; with_reducible rfl)
            simp only [Act.put, List.setIfInBounds_toArray, List.set_cons_zero, List.set_cons_succ, List.getElem_toArray, List.getElem_cons_succ, List.getElem_cons_zero]
            refine AnyFrom.pure (i := 8) (v := ?_) rfl (by kernel_rfl) (by kernel_rfl) (by kernel_rfl) (by decide) (fun _ _ _ h => h) ⟨by kernel_rfl, ?_⟩ HS ?_
            rotate_left
            · first | (intro w'; go_simp; done) | (intro w'; go_simp; with_reducible rfl)
            simp only [Act.put, List.setIfInBounds_toArray, List.set_cons_zero, List.set_cons_succ, List.getElem_toArray, List.getElem_cons_succ, List.getElem_cons_zero]
            have es := mZ.eqs
            simp only [EqsL] at es
            have ns := mZ.nes
            simp only [NeL, NeFrom] at ns
            refine AnyFrom.call (i := 10) (by kernel_rfl) rfl (by kernel_rfl) fun K hK => ?_
            go_simp
            refine hK _ _ (.inr ?_) ?_
            · exact ⟨Hp, L, MemB.done (ks := [xo]) (by repeat (first | refine MemB.set (by simp) ?_ | exact ⟨[_], rfl, mZ.perm (perm_uu2 _ _ _ _ _)⟩))⟩
            clear hK K HS es ns
            generalize hWY : World.setCell _ _ _ = WY
            have mY : Mem w0 Hp ((w6.heap.size, .cells #[.int .i64 other, .int .i64 0, .int .i64 0, .bool false, .slice none 0 0, .slice none 0 0, .slice rb6 n rc6] 31) :: (w4.heap.size, .cells #[.int .i64 size, .int .i64 0, .int .i64 0, .bool false, .slice none 0 0, .slice none 0 0, .slice rb4 n rc4] 31) :: (w.heap.size, PBox size n (.slice lb ds.length lc)) :: L) WY := by rw [← hWY]; exact MemB.done (ks := [xo]) (by repeat (first | refine MemB.set (by simp) ?_ | exact ⟨[_], rfl, mZ.perm (perm_uu2 _ _ _ _ _)⟩))
            clear hWY
            try simp only [Act.put, List.setIfInBounds_toArray, List.set_cons_zero, List.set_cons_succ, List.getElem_toArray, List.getElem_cons_succ, List.getElem_cons_zero]
            have HS : (fun w' => ∃ H' L', Mem w0 H' ((w6.heap.size, .cells #[.int .i64 other, .int .i64 0, .int .i64 0, .bool false, .slice none 0 0, .slice none 0 0, .slice rb6 n rc6] 31) :: (w4.heap.size, .cells #[.int .i64 size, .int .i64 0, .int .i64 0, .bool false, .slice none 0 0, .slice none 0 0, .slice rb4 n rc4] 31) :: (w.heap.size, PBox size n (.slice lb ds.length lc)) :: L') w') WY := ⟨_, _, mY⟩
            refine AnyFrom.pure (i := 11) (v := ?_) rfl (by kernel_rfl) (by kernel_rfl) (by kernel_rfl) (by decide) (fun _ _ _ h => h) ⟨by kernel_rfl, ?_⟩ HS ?_
            rotate_left
            · first | (intro w'; go_simp; done) | (intro w'; go_simp; with_reducible rfl)
            simp only [Act.put, List.setIfInBounds_toArray, List.set_cons_zero, List.set_cons_succ, List.getElem_toArray, List.getElem_cons_succ, List.getElem_cons_zero]
            refine AnyFrom.pure (i := 12) (v := ?_) rfl (by kernel_rfl) (by kernel_rfl) (by kernel_rfl) (by decide) (fun _ _ _ h => h) ⟨by kernel_rfl, ?_⟩ HS ?_
            rotate_left
            · first | (intro w'; go_simp; done) | (intro w'; go_simp; with_reducible rfl)
            simp only [Act.put, List.setIfInBounds_toArray, List.set_cons_zero, List.set_cons_succ, List.getElem_toArray, List.getElem_cons_succ, List.getElem_cons_zero]
            refine AnyFrom.done (by kernel_rfl) ?_ _
            exact key xo dv' ob oc nb nc' rb rc qb qc _ ⟨Hp, HLE.out, HRV.out, mY⟩
        · skip
          refine AnyFrom.op rfl (by kernel_rfl) fun K hK => ?_
          go_simp
          have mQ := (mW.alloc (.cells #[.int .i64 0, .int .i64 0, .int .i64 0, .bool false, .slice none 0 0, .slice none 0 0, .slice none 0 0] 31)).perm (perm_uu1 _ _ _ _ _)
          have hxo : ∃ xo, xo = Array.size (World.heap W) := ⟨_, rfl⟩
          obtain ⟨xo, hxo⟩ := hxo
          rw [← hxo] at mQ
          rw [← hxo]
          generalize World.alloc W _ = wq at *
          clear hxo mW
          refine hK _ _ (.inr ⟨_, _, mQ⟩) ?_
          clear hK K HS
          try simp only [Act.put, List.setIfInBounds_toArray, List.set_cons_zero, List.set_cons_succ, List.getElem_toArray, List.getElem_cons_succ, List.getElem_cons_zero]
          have HS : (fun w' => ∃ H' L', Mem w0 H' ((w6.heap.size, .cells #[.int .i64 other, .int .i64 0, .int .i64 0, .bool false, .slice none 0 0, .slice none 0 0, .slice rb6 n rc6] 31) :: (w4.heap.size, .cells #[.int .i64 size, .int .i64 0, .int .i64 0, .bool false, .slice none 0 0, .slice none 0 0, .slice rb4 n rc4] 31) :: (w.heap.size, PBox size n (.slice lb ds.length lc)) :: L') w') wq := ⟨_, _, mQ⟩
          refine AnyFrom.call (i := 3) (by kernel_rfl) rfl (by kernel_rfl) fun K hK => ?_
          go_simp
          refine (lawDeeds_any _ ds (by omega) HBD.out ((HD.out.mono HH7.out)) mQ).mono ?_
          rintro e wd ⟨Hd, dv', rfl, hld, hdd, mA⟩
          clear mQ
          refine hK _ _ (.inr ⟨_, _, mA⟩) ?_
          clear hK K HS
          try simp only [Act.put, List.setIfInBounds_toArray, List.set_cons_zero, List.set_cons_succ, List.getElem_toArray, List.getElem_cons_succ, List.getElem_cons_zero]
          have HS : (fun w' => ∃ H' L', Mem w0 H' ((w6.heap.size, .cells #[.int .i64 other, .int .i64 0, .int .i64 0, .bool false, .slice none 0 0, .slice none 0 0, .slice rb6 n rc6] 31) :: (w4.heap.size, .cells #[.int .i64 size, .int .i64 0, .int .i64 0, .bool false, .slice none 0 0, .slice none 0 0, .slice rb4 n rc4] 31) :: (w.heap.size, PBox size n (.slice lb ds.length lc)) :: L') w') wd := ⟨_, _, mA⟩
          refine AnyFrom.call (i := 4) (by kernel_rfl) rfl (by kernel_rfl) fun K hK => ?_
          go_simp
          refine (Play_fr (newH size n) OKA.out rfl ds (by omega) HAF.out _ _ _ _ (FA7.out.mono hld) hdd mA).mono ?_
          rintro e wp ⟨Hp, vo, vn, vr, rv, rfl, hlp, fp, hrv, mP⟩
          clear mA
          obtain ⟨ob, oc, rfl⟩ := fp.o.shape
          obtain ⟨nb, nc', rfl⟩ := fp.n.shape
          obtain ⟨rb, rc, rfl⟩ := fp.r.shape
          obtain ⟨qb, qc, rfl⟩ := lenSl hrv (plays_len _ _)
          have HRV := Lib.hid hrv; clear hrv fp
          unfold HVal
          have mZ := mP
          refine hK _ _ (.inr ⟨_, _, mZ⟩) ?_
          clear hK K HS
          try simp only [Act.put, List.setIfInBounds_toArray, List.set_cons_zero, List.set_cons_succ, List.getElem_toArray, List.getElem_cons_succ, List.getElem_cons_zero]
          have HS : (fun w' => ∃ H' L', Mem w0 H' ((w6.heap.size, .cells #[.int .i64 other, .int .i64 0, .int .i64 0, .bool false, .slice none 0 0, .slice none 0 0, .slice rb6 n rc6] 31) :: (w4.heap.size, .cells #[.int .i64 size, .int .i64 0, .int .i64 0, .bool false, .slice none 0 0, .slice none 0 0, .slice rb4 n rc4] 31) :: (w.heap.size, PBox size n (.slice lb ds.length lc)) :: L') w') wp := ⟨_, _, mZ⟩
          have HLE := Lib.hid (hld.trans hlp)
          refine AnyFrom.pure (i := 5) (v := ?_) rfl (by kernel_rfl) (by kernel_rfl) (by kernel_rfl) (by decide) (fun _ _ _ h => h) ⟨by kernel_rfl, ?_⟩ HS ?_
          rotate_left
          · first | (intro w'; go_simp; done) | (intro w'; go_simp; with_reducible rfl)
          simp only [Act.put, List.setIfInBounds_toArray, List.set_cons_zero, List.set_cons_succ, List.getElem_toArray, List.getElem_cons_succ, List.getElem_cons_zero]
          refine AnyFrom.pure (i := 6) (v := ?_) rfl (by kernel_rfl) (by kernel_rfl) (by kernel_rfl) (by decide) (fun _ _ _ h => h) ⟨by kernel_rfl, ?_⟩ HS ?_
          rotate_left
          · first | (intro w'; go_simp; done) | (intro w'; go_simp; with_reducible rfl)
          simp only [Act.put, List.setIfInBounds_toArray, List.set_cons_zero, List.set_cons_succ, List.getElem_toArray, List.getElem_cons_succ, List.getElem_cons_zero]
          refine AnyFrom.pure (i := 7) (v := ?_) rfl (by kernel_rfl) (by kernel_rfl) (by kernel_rfl) (by decide) (fun _ _ _ h => h) ⟨by kernel_rfl, ?_⟩ HS ?_
          rotate_left
          · first | (intro w'; go_simp; done) | (intro w'; go_simp; with_reducible rfl)
          simp only [Act.put, List.setIfInBounds_toArray, List.set_cons_zero, List.set_cons_succ, List.getElem_toArray, List.getElem_cons_succ, List.getElem_cons_zero]
          refine AnyFrom.pure (i := 8) (v := ?_) rfl (by kernel_rfl) (by kernel_rfl) (by kernel_rfl) (by decide) (fun _ _ _ h => h) ⟨by kernel_rfl, ?_⟩ HS ?_
          rotate_left
          · first | (intro w'; go_simp; done) | (intro w'; go_simp; with_reducible rfl)
          simp only [Act.put, List.setIfInBounds_toArray, List.set_cons_zero, List.set_cons_succ, List.getElem_toArray, List.getElem_cons_succ, List.getElem_cons_zero]
          have es := mZ.eqs
          simp only [EqsL] at es
          have ns := mZ.nes
          simp only [NeL, NeFrom] at ns
          refine AnyFrom.call (i := 10) (by kernel_rfl) rfl (by kernel_rfl) fun K hK => ?_
          go_simp
          refine hK _ _ (.inr ?_) ?_
          · exact ⟨Hp, L, MemB.done (ks := [xo]) (by repeat (first | refine MemB.set (by simp) ?_ | exact ⟨[_], rfl, mZ.perm (perm_uu2 _ _ _ _ _)⟩))⟩
          clear hK K HS es ns
          generalize hWY : World.setCell _ _ _ = WY
          have mY : Mem w0 Hp ((w6.heap.size, .cells #[.int .i64 other, .int .i64 0, .int .i64 0, .bool false, .slice none 0 0, .slice none 0 0, .slice rb6 n rc6] 31) :: (w4.heap.size, .cells #[.int .i64 size, .int .i64 0, .int .i64 0, .bool false, .slice none 0 0, .slice none 0 0, .slice rb4 n rc4] 31) :: (w.heap.size, PBox size n (.slice lb ds.length lc)) :: L) WY := by rw [← hWY]; exact MemB.done (ks := [xo]) (by repeat (first | refine MemB.set (by simp) ?_ | exact ⟨[_], rfl, mZ.perm (perm_uu2 _ _ _ _ _)⟩))
          clear hWY
          try simp only [Act.put, List.setIfInBounds_toArray, List.set_cons_zero, List.set_cons_succ, List.getElem_toArray, List.getElem_cons_succ, List.getElem_cons_zero]
          have HS : (fun w' => ∃ H' L', Mem w0 H' ((w6.heap.size, .cells #[.int .i64 other, .int .i64 0, .int .i64 0, .bool false, .slice none 0 0, .slice none 0 0, .slice rb6 n rc6] 31) :: (w4.heap.size, .cells #[.int .i64 size, .int .i64 0, .int .i64 0, .bool false, .slice none 0 0, .slice none 0 0, .slice rb4 n rc4] 31) :: (w.heap.size, PBox size n (.slice lb ds.length lc)) :: L') w') WY := ⟨_, _, mY⟩
          refine AnyFrom.pure (i := 11) (v := ?_) rfl (by kernel_rfl) (by kernel_rfl) (by kernel_rfl) (by decide) (fun _ _ _ h => h) ⟨by kernel_rfl, ?_⟩ HS ?_
          rotate_left
          · first | (intro w'; go_simp; done) | (intro w'; go_simp; with_reducible rfl)
          simp only [Act.put, List.setIfInBounds_toArray, List.set_cons_zero, List.set_cons_succ, List.getElem_toArray, List.getElem_cons_succ, List.getElem_cons_zero]
          refine AnyFrom.pure (i := 12) (v := ?_) rfl (by kernel_rfl) (by kernel_rfl) (by kernel_rfl) (by decide) (fun _ _ _ h => h) ⟨by kernel_rfl, ?_⟩ HS ?_
          rotate_left
          · first | (intro w'; go_simp; done) | (intro w'; go_simp; with_reducible rfl)
          simp only [Act.put, List.setIfInBounds_toArray, List.set_cons_zero, List.set_cons_succ, List.getElem_toArray, List.getElem_cons_succ, List.getElem_cons_zero]
          refine AnyFrom.done (by kernel_rfl) ?_ _
          exact key xo dv' ob oc nb nc' rb rc qb qc _ ⟨Hp, HLE.out, HRV.out, mY⟩
      case' rest =>
        rintro xo dv' ob oc nb nc' rb rc qb qc wS ⟨H8, hl8, hrv8, m8⟩
        have HRV8 := Lib.hid hrv8; clear hrv8
        have HSM8 := Lib.hid (HSM7.out.mono hl8)
        have FB8 := Lib.hid (FB.out.mono hl8)
        have HH8 := Lib.hid (HH7.out.trans hl8)
        have hbf : ∀ d ∈ ds.filter nc, d.list.length ≤ 100000 ∧ d.obj.slots.length ≤ 100000 := fun d hd => HBD.out d (List.mem_filter.1 hd).1
        have HBF := Lib.hid hbf; clear hbf
        have hff : ∀ d ∈ ds.filter nc, d.a ≤ 100000 := fun d hd => HAF.out d (List.mem_filter.1 hd).1
        have HFF := Lib.hid hff; clear hff
        have es := m8.eqs
        simp only [EqsL] at es
        go_wp2_with fail
        clear es
        apply share (R := fun xo dv' ob oc nb nx rb rc qb qc W => ∃ H', Hle H8 H' ∧ SlR encVal H' (.slice qb k' qc) ((newH other n).plays (ds.filter nc)).1 ∧ Mem w0 H' ((w6.heap.size, .cells #[.int .i64 other, .int .i64 0, .int .i64 0, .bool false, .slice none 0 0, .slice none 0 0, .slice rb6 n rc6] 31) :: (w4.heap.size, .cells #[.int .i64 size, .int .i64 0, .int .i64 0, .bool false, .slice none 0 0, .slice none 0 0, .slice rb4 n rc4] 31) :: (w.heap.size, PBox size n (.slice lb ds.length lc)) :: L) W)
        case' br =>
          intro key
          refine AnyFrom.start (fun w' => ∃ H' L', Mem w0 H' ((w6.heap.size, .cells #[.int .i64 other, .int .i64 0, .int .i64 0, .bool false, .slice none 0 0, .slice none 0 0, .slice rb6 n rc6] 31) :: (w4.heap.size, .cells #[.int .i64 size, .int .i64 0, .int .i64 0, .bool false, .slice none 0 0, .slice none 0 0, .slice rb4 n rc4] 31) :: (w.heap.size, PBox size n (.slice lb ds.length lc)) :: L') w') 12 (by kernel_rfl) ?_
          have mW := m8.drew
          generalize World.drew _ = W at *
          have HS : (fun w' => ∃ H' L', Mem w0 H' ((w6.heap.size, .cells #[.int .i64 other, .int .i64 0, .int .i64 0, .bool false, .slice none 0 0, .slice none 0 0, .slice rb6 n rc6] 31) :: (w4.heap.size, .cells #[.int .i64 size, .int .i64 0, .int .i64 0, .bool false, .slice none 0 0, .slice none 0 0, .slice rb4 n rc4] 31) :: (w.heap.size, PBox size n (.slice lb ds.length lc)) :: L') w') W := ⟨_, _, mW⟩
          refine AnyFrom.take (i := 0) (v := ?_) rfl (by kernel_rfl) (by kernel_rfl) (by kernel_rfl) (by kernel_rfl) (fun _ _ _ h => h) ⟨by kernel_rfl, ?_⟩ HS ?_
          rotate_left
          · first | (rintro w' ⟨H', L', hm⟩; have es := hm.eqs; simp only [EqsL] at es; go_simp; done) | (rintro w' ⟨H', L', hm⟩; have es := hm.eqs; simp only [EqsL] at es; go_simp; with_reducible rfl)
          simp only [Act.put, List.setIfInBounds_toArray, List.set_cons_zero, List.set_cons_succ, List.getElem_toArray, List.getElem_cons_succ, List.getElem_cons_zero]
          refine AnyFrom.pure (i := 1) (v := ?_) rfl (by kernel_rfl) (by kernel_rfl) (by kernel_rfl) (by decide) (fun _ _ _ h => h) ⟨by kernel_rfl, ?_⟩ HS ?_
          rotate_left
          · first | (intro w'; go_simp; done) | (intro w'; go_simp; with_reducible rfl)
          simp only [Act.put, List.setIfInBounds_toArray, List.set_cons_zero, List.set_cons_succ, List.getElem_toArray, List.getElem_cons_succ, List.getElem_cons_zero]
          refine AnyFrom.two (i := 2) (j := 8) (by kernel_rfl) ?_ ?_
          · skip
            refine AnyFrom.op rfl (by kernel_rfl) fun K hK => ?_
            go_simp
            refine (lawDeeds_any _ (ds.filter nc) (by rw [HK2.out]; omega) HBF.out (HSM8.out) mW).mono ?_
            rintro e wd ⟨Hd, dv', rfl, hld, hdd, mA⟩
            clear mW
            have HLD := Lib.hid hld
            refine hK _ _ (.inr ⟨_, _, mA⟩) ?_
            clear hK K HS
            try simp only [Act.put, List.setIfInBounds_toArray, List.set_cons_zero, List.set_cons_succ, List.getElem_toArray, List.getElem_cons_succ, List.getElem_cons_zero]
            have HS : (fun w' => ∃ H' L', Mem w0 H' ((w6.heap.size, .cells #[.int .i64 other, .int .i64 0, .int .i64 0, .bool false, .slice none 0 0, .slice none 0 0, .slice rb6 n rc6] 31) :: (w4.heap.size, .cells #[.int .i64 size, .int .i64 0, .int .i64 0, .bool false, .slice none 0 0, .slice none 0 0, .slice rb4 n rc4] 31) :: (w.heap.size, PBox size n (.slice lb ds.length lc)) :: L') w') wd := ⟨_, _, mA⟩
            refine AnyFrom.two (i := 3) (j := 8) (by kernel_rfl) ?_ ?_
            · skip
              refine AnyFrom.op rfl (by kernel_rfl) fun K hK => ?_
              go_simp
              refine (Play_fr (newH other n) OKB.out rfl (ds.filter nc) (by rw [HK2.out]; omega) HFF.out _ _ _ _ (FB8.out.mono hld) hdd mA).mono ?_
              rintro e wp ⟨Hp, vo, vn, vr, rv, rfl, hlp, fp, hrv, mP⟩
              clear mA
              obtain ⟨ob, oc, rfl⟩ := fp.o.shape
              obtain ⟨nb, nc', rfl⟩ := fp.n.shape
              obtain ⟨rb, rc, rfl⟩ := fp.r.shape
              obtain ⟨qb, qc, rfl⟩ := lenSl hrv ((plays_len _ _).trans HK2.out)
              have HRV := Lib.hid hrv; clear hrv fp
              unfold HVal
              refine hK _ _ (.inr ⟨_, _, mP⟩) ?_
              clear hK K HS
              try simp only [Act.put, List.setIfInBounds_toArray, List.set_cons_zero, List.set_cons_succ, List.getElem_toArray, List.getElem_cons_succ, List.getElem_cons_zero]
              have HS : (fun w' => ∃ H' L', Mem w0 H' ((w6.heap.size, .cells #[.int .i64 other, .int .i64 0, .int .i64 0, .bool false, .slice none 0 0, .slice none 0 0, .slice rb6 n rc6] 31) :: (w4.heap.size, .cells #[.int .i64 size, .int .i64 0, .int .i64 0, .bool false, .slice none 0 0, .slice none 0 0, .slice rb4 n rc4] 31) :: (w.heap.size, PBox size n (.slice lb ds.length lc)) :: L') w') wp := ⟨_, _, mP⟩
              have HLE := Lib.hid (hld.trans hlp)
              refine AnyFrom.pure (i := 4) (v := ?_) rfl (by kernel_rfl) (by kernel_rfl) (by kernel_rfl) (by decide) (fun _ _ _ h => h) ⟨by kernel_rfl, ?_⟩ HS ?_
              rotate_left
              · first | (intro w'; go_simp; done) | (intro w'; go_simp; with_reducible rfl)
              simp only [Act.put, List.setIfInBounds_toArray, List.set_cons_zero, List.set_cons_succ, List.getElem_toArray, List.getElem_cons_succ, List.getElem_cons_zero]
              refine AnyFrom.pure (i := 5) (v := ?_) rfl (by kernel_rfl) (by kernel_rfl) (by kernel_rfl) (by decide) (fun _ _ _ h => h) ⟨by kernel_rfl, ?_⟩ HS ?_
              rotate_left
              · first | (intro w'; go_simp; done) | (intro w'; go_simp; with_reducible rfl)
              simp only [Act.put, List.setIfInBounds_toArray, List.set_cons_zero, List.set_cons_succ, List.getElem_toArray, List.getElem_cons_succ, List.getElem_cons_zero]
              refine AnyFrom.pure (i := 6) (v := ?_) rfl (by kernel_rfl) (by kernel_rfl) (by kernel_rfl) (by decide) (fun _ _ _ h => h) ⟨by kernel_rfl, ?_⟩ HS ?_
              rotate_left
              · first | (intro w'; go_simp; done) | (intro w'; go_simp; with_reducible rfl)
              simp only [Act.put, List.setIfInBounds_toArray, List.set_cons_zero, List.set_cons_succ, List.getElem_toArray, List.getElem_cons_succ, List.getElem_cons_zero]
              refine AnyFrom.pure (i := 7) (v := ?_) rfl (by kernel_rfl) (by kernel_rfl) (by kernel_rfl) (by decide) (fun _ _ _ h => h) ⟨by kernel_rfl, ?_⟩ HS ?_
              rotate_left
              · first | (intro w'; go_simp; done) | (intro w'; go_simp; with_reducible rfl)
              simp only [Act.put, List.setIfInBounds_toArray, List.set_cons_zero, List.set_cons_succ, List.getElem_toArray, List.getElem_cons_succ, List.getElem_cons_zero]
              refine AnyFrom.call (i := 8) (by kernel_rfl) rfl (by kernel_rfl) fun K hK => ?_
              go_simp
              have mZ := (mP.alloc (.cells #[.int .i64 0, .int .i64 0, .int .i64 0, .bool false, .slice none 0 0, .slice none 0 0, .slice none 0 0] 31)).perm (perm_uu1 _ _ _ _ _)
              have hxo : ∃ xo, xo = Array.size (World.heap wp) := ⟨_, rfl⟩
              obtain ⟨xo, hxo⟩ := hxo
              rw [← hxo] at mZ
              rw [← hxo]
              generalize World.alloc wp _ = wz at *
              clear hxo mP
              refine hK _ _ (.inr ⟨_, _, mZ⟩) ?_
              clear hK K HS
              try simp only [Act.put, List.setIfInBounds_toArray, List.set_cons_zero, List.set_cons_succ, List.getElem_toArray, List.getElem_cons_succ, List.getElem_cons_zero]
              have HS : (fun w' => ∃ H' L', Mem w0 H' ((w6.heap.size, .cells #[.int .i64 other, .int .i64 0, .int .i64 0, .bool false, .slice none 0 0, .slice none 0 0, .slice rb6 n rc6] 31) :: (w4.heap.size, .cells #[.int .i64 size, .int .i64 0, .int .i64 0, .bool false, .slice none 0 0, .slice none 0 0, .slice rb4 n rc4] 31) :: (w.heap.size, PBox size n (.slice lb ds.length lc)) :: L') w') wz := ⟨_, _, mZ⟩
              have es := mZ.eqs
              simp only [EqsL] at es
              have ns := mZ.nes
              simp only [NeL, NeFrom] at ns
              refine AnyFrom.call (i := 9) (by kernel_rfl) rfl (by kernel_rfl) fun K hK => ?_
              go_simp
              refine hK _ _ (.inr ?_) ?_
              · exact ⟨Hp, L, MemB.done (ks := [xo]) (by repeat (first | refine MemB.set (by simp) ?_ | exact ⟨[_], rfl, mZ.perm (perm_uu2 _ _ _ _ _)⟩))⟩
              clear hK K HS es ns
              generalize hWY : World.setCell _ _ _ = WY
              have mY : Mem w0 Hp ((w6.heap.size, .cells #[.int .i64 other, .int .i64 0, .int .i64 0, .bool false, .slice none 0 0, .slice none 0 0, .slice rb6 n rc6] 31) :: (w4.heap.size, .cells #[.int .i64 size, .int .i64 0, .int .i64 0, .bool false, .slice none 0 0, .slice none 0 0, .slice rb4 n rc4] 31) :: (w.heap.size, PBox size n (.slice lb ds.length lc)) :: L) WY := by rw [← hWY]; exact MemB.done (ks := [xo]) (by repeat (first | refine MemB.set (by simp) ?_ | exact ⟨[_], rfl, mZ.perm (perm_uu2 _ _ _ _ _)⟩))
              clear hWY
              try simp only [Act.put, List.setIfInBounds_toArray, List.set_cons_zero, List.set_cons_succ, List.getElem_toArray, List.getElem_cons_succ, List.getElem_cons_zero]
              have HS : (fun w' => ∃ H' L', Mem w0 H' ((w6.heap.size, .cells #[.int .i64 other, .int .i64 0, .int .i64 0, .bool false, .slice none 0 0, .slice none 0 0, .slice rb6 n rc6] 31) :: (w4.heap.size, .cells #[.int .i64 size, .int .i64 0, .int .i64 0, .bool false, .slice none 0 0, .slice none 0 0, .slice rb4 n rc4] 31) :: (w.heap.size, PBox size n (.slice lb ds.length lc)) :: L') w') WY := ⟨_, _, mY⟩
              refine AnyFrom.pure (i := 10) (v := ?_) rfl (by kernel_rfl) (by kernel_rfl) (by kernel_rfl) (by decide) (fun _ _ _ h => h) ⟨by kernel_rfl, ?_⟩ HS ?_
              rotate_left
              · first | (intro w'; go_simp; done) | (intro w'; go_simp; with_reducible rfl)
              simp only [Act.put, List.setIfInBounds_toArray, List.set_cons_zero, List.set_cons_succ, List.getElem_toArray, List.getElem_cons_succ, List.getElem_cons_zero]
              refine AnyFrom.pure (i := 11) (v := ?_) rfl (by kernel_rfl) (by kernel_rfl) (by kernel_rfl) (by decide) (fun _ _ _ h => h) ⟨by kernel_rfl, ?_⟩ HS ?_
              rotate_left
              · first | (intro w'; go_simp; done) | (intro w'; go_simp; with_reducible rfl)
              simp only [Act.put, List.setIfInBounds_toArray, List.set_cons_zero, List.set_cons_succ, List.getElem_toArray, List.getElem_cons_succ, List.getElem_cons_zero]
              refine AnyFrom.done (by kernel_rfl) ?_ _
              exact key xo dv' ob oc nb nc' rb rc qb qc _ ⟨Hp, HLE.out, HRV.out, mY⟩
            · skip
              refine AnyFrom.op rfl (by kernel_rfl) fun K hK => ?_
              go_simp
              have mQ := (mA.alloc (.cells #[.int .i64 0, .int .i64 0, .int .i64 0, .bool false, .slice none 0 0, .slice none 0 0, .slice none 0 0] 31)).perm (perm_uu1 _ _ _ _ _)
              have hxo : ∃ xo, xo = Array.size (World.heap wd) := ⟨_, rfl⟩
              obtain ⟨xo, hxo⟩ := hxo
              rw [← hxo] at mQ
              rw [← hxo]
              generalize World.alloc wd _ = wq at *
              clear hxo mA
              refine hK _ _ (.inr ⟨_, _, mQ⟩) ?_
              clear hK K HS
              try simp only [Act.put, List.setIfInBounds_toArray, List.set_cons_zero, List.set_cons_succ, List.getElem_toArray, List.getElem_cons_succ, List.getElem_cons_zero]
              have HS : (fun w' => ∃ H' L', Mem w0 H' ((w6.heap.size, .cells #[.int .i64 other, .int .i64 0, .int .i64 0, .bool false, .slice none 0 0, .slice none 0 0, .slice rb6 n rc6] 31) :: (w4.heap.size, .cells #[.int .i64 size, .int .i64 0, .int .i64 0, .bool false, .slice none 0 0, .slice none 0 0, .slice rb4 n rc4] 31) :: (w.heap.size, PBox size n (.slice lb ds.length lc)) :: L') w') wq := ⟨_, _, mQ⟩
              refine AnyFrom.call (i := 3) (by kernel_rfl) rfl (by kernel_rfl) fun K hK => ?_
              go_simp
              refine (Play_fr (newH other n) OKB.out rfl (ds.filter nc) (by rw [HK2.out]; omega) HFF.out _ _ _ _ (FB8.out.mono hld) hdd mQ).mono ?_
              rintro e wp ⟨Hp, vo, vn, vr, rv, rfl, hlp, fp, hrv, mP⟩
              clear mQ
              obtain ⟨ob, oc, rfl⟩ := fp.o.shape
              obtain ⟨nb, nc', rfl⟩ := fp.n.shape
              obtain ⟨rb, rc, rfl⟩ := fp.r.shape
              obtain ⟨qb, qc, rfl⟩ := lenSl hrv ((plays_len _ _).trans HK2.out)
              have HRV := Lib.hid hrv; clear hrv fp
              unfold HVal
              have mZ := mP
              refine hK _ _ (.inr ⟨_, _, mZ⟩) ?_
              clear hK K HS
              try simp only [Act.put, List.setIfInBounds_toArray, List.set_cons_zero, List.set_cons_succ, List.getElem_toArray, List.getElem_cons_succ, List.getElem_cons_zero]
              have HS : (fun w' => ∃ H' L', Mem w0 H' ((w6.heap.size, .cells #[.int .i64 other, .int .i64 0, .int .i64 0, .bool false, .slice none 0 0, .slice none 0 0, .slice rb6 n rc6] 31) :: (w4.heap.size, .cells #[.int .i64 size, .int .i64 0, .int .i64 0, .bool false, .slice none 0 0, .slice none 0 0, .slice rb4 n rc4] 31) :: (w.heap.size, PBox size n (.slice lb ds.length lc)) :: L') w') wp := ⟨_, _, mZ⟩
              have HLE := Lib.hid (hld.trans hlp)
              refine AnyFrom.pure (i := 4) (v := ?_) rfl (by kernel_rfl) (by kernel_rfl) (by kernel_rfl) (by decide) (fun _ _ _ h => h) ⟨by kernel_rfl, ?_⟩ HS ?_
              rotate_left
              · first | (intro w'; go_simp; done) | (intro w'; go_simp; with_reducible rfl)
              simp only [Act.put, List.setIfInBounds_toArray, List.set_cons_zero, List.set_cons_succ, List.getElem_toArray, List.getElem_cons_succ, List.getElem_cons_zero]
              refine AnyFrom.pure (i := 5) (v := ?_) rfl (by kernel_rfl) (by kernel_rfl) (by kernel_rfl) (by decide) (fun _ _ _ h => h) ⟨by kernel_rfl, ?_⟩ HS ?_
              rotate_left
              · first | (intro w'; go_simp; done) | (intro w'; go_simp; with_reducible rfl)
              simp only [Act.put, List.setIfInBounds_toArray, List.set_cons_zero, List.set_cons_succ, List.getElem_toArray, List.getElem_cons_succ, List.getElem_cons_zero]
              refine AnyFrom.pure (i := 6) (v := ?_) rfl (by kernel_rfl) (by kernel_rfl) (by kernel_rfl) (by decide) (fun _ _ _ h => h) ⟨by kernel_rfl, ?_⟩ HS ?_
              rotate_left
              · first | (intro w'; go_simp; done) | (intro w'; go_simp; with_reducible rfl)
              simp only [Act.put, List.setIfInBounds_toArray, List.set_cons_zero, List.set_cons_succ, List.getElem_toArray, List.getElem_cons_succ, List.getElem_cons_zero]
              refine AnyFrom.pure (i := 7) (v := ?_) rfl (by kernel_rfl) (by kernel_rfl) (by kernel_rfl) (by decide) (fun _ _ _ h => h) ⟨by kernel_rfl, ?_⟩ HS ?_
              rotate_left
              · first | (intro w'; go_simp; done) | (intro w'; go_simp; with_reducible rfl)
              simp only [Act.put, List.setIfInBounds_toArray, List.set_cons_zero, List.set_cons_succ, List.getElem_toArray, List.getElem_cons_succ, List.getElem_cons_zero]
              have es := mZ.eqs
              simp only [EqsL] at es
              have ns := mZ.nes
              simp only [NeL, NeFrom] at ns
              refine AnyFrom.call (i := 9) (by kernel_rfl) rfl (by kernel_rfl) fun K hK => ?_
              go_simp
              refine hK _ _ (.inr ?_) ?_
              · exact ⟨Hp, L, MemB.done (ks := [xo]) (by repeat (first | refine MemB.set (by simp) ?_ | exact ⟨[_], rfl, mZ.perm (perm_uu2 _ _ _ _ _)⟩))⟩
              clear hK K HS es ns
              generalize hWY : World.setCell _ _ _ = WY
              have mY : Mem w0 Hp ((w6.heap.size, .cells #[.int .i64 other, .int .i64 0, .int .i64 0, .bool false, .slice none 0 0, .slice none 0 0, .slice rb6 n rc6] 31) :: (w4.heap.size, .cells #[.int .i64 size, .int .i64 0, .int .i64 0, .bool false, .slice none 0 0, .slice none 0 0, .slice rb4 n rc4] 31) :: (w.heap.size, PBox size n (.slice lb ds.length lc)) :: L) WY := by rw [← hWY]; exact MemB.done (ks := [xo]) (by repeat (first | refine MemB.set (by simp) ?_ | exact ⟨[_], rfl, mZ.perm (perm_uu2 _ _ _ _ _)⟩))
              clear hWY
              try simp only [Act.put, List.setIfInBounds_toArray, List.set_cons_zero, List.set_cons_succ, List.getElem_toArray, List.getElem_cons_succ, List.getElem_cons_zero]
              have HS : (fun w' => ∃ H' L', Mem w0 H' ((w6.heap.size, .cells #[.int .i64 other, .int .i64 0, .int .i64 0, .bool false, .slice none 0 0, .slice none 0 0, .slice rb6 n rc6] 31) :: (w4.heap.size, .cells #[.int .i64 size, .int .i64 0, .int .i64 0, .bool false, .slice none 0 0, .slice none 0 0, .slice rb4 n rc4] 31) :: (w.heap.size, PBox size n (.slice lb ds.length lc)) :: L') w') WY := ⟨_, _, mY⟩
              refine AnyFrom.pure (i := 10) (v := ?_) rfl (by kernel_rfl) (by kernel_rfl) (by kernel_rfl) (by decide) (fun _ _ _ h => h) ⟨by kernel_rfl, ?_⟩ HS ?_
              rotate_left
              · first | (intro w'; go_simp; done) | (intro w'; go_simp; with_reducible rfl)
              simp only [Act.put, List.setIfInBounds_toArray, List.set_cons_zero, List.set_cons_succ, List.getElem_toArray, List.getElem_cons_succ, List.getElem_cons_zero]
              refine AnyFrom.pure (i := 11) (v := ?_) rfl (by kernel_rfl) (by kernel_rfl) (by kernel_rfl) (by decide) (fun _ _ _ h => h) ⟨by kernel_rfl, ?_⟩ HS ?_
              rotate_left
              · first | (intro w'; go_simp; done) | (intro w'; go_simp; with_reducible rfl)
              simp only [Act.put, List.setIfInBounds_toArray, List.set_cons_zero, List.set_cons_succ, List.getElem_toArray, List.getElem_cons_succ, List.getElem_cons_zero]
              refine AnyFrom.done (by kernel_rfl) ?_ _
              exact key xo dv' ob oc nb nc' rb rc qb qc _ ⟨Hp, HLE.out, HRV.out, mY⟩
          · skip
            refine AnyFrom.op rfl (by kernel_rfl) fun K hK => ?_
            go_simp
            have mQ := (mW.alloc (.cells #[.int .i64 0, .int .i64 0, .int .i64 0, .bool false, .slice none 0 0, .slice none 0 0, .slice none 0 0] 31)).perm (perm_uu1 _ _ _ _ _)
            have hxo : ∃ xo, xo = Array.size (World.heap W) := ⟨_, rfl⟩
            obtain ⟨xo, hxo⟩ := hxo
            rw [← hxo] at mQ
            rw [← hxo]
            generalize World.alloc W _ = wq at *
            clear hxo mW
            refine hK _ _ (.inr ⟨_, _, mQ⟩) ?_
            clear hK K HS
            try simp only [Act.put, List.setIfInBounds_toArray, List.set_cons_zero, List.set_cons_succ, List.getElem_toArray, List.getElem_cons_succ, List.getElem_cons_zero]
            have HS : (fun w' => ∃ H' L', Mem w0 H' ((w6.heap.size, .cells #[.int .i64 other, .int .i64 0, .int .i64 0, .bool false, .slice none 0 0, .slice none 0 0, .slice rb6 n rc6] 31) :: (w4.heap.size, .cells #[.int .i64 size, .int .i64 0, .int .i64 0, .bool false, .slice none 0 0, .slice none 0 0, .slice rb4 n rc4] 31) :: (w.heap.size, PBox size n (.slice lb ds.length lc)) :: L') w') wq := ⟨_, _, mQ⟩
            refine AnyFrom.call (i := 2) (by kernel_rfl) rfl (by kernel_rfl) fun K hK => ?_
            go_simp
            refine (lawDeeds_any _ (ds.filter nc) (by rw [HK2.out]; omega) HBF.out (HSM8.out) mQ).mono ?_
            rintro e wd ⟨Hd, dv', rfl, hld, hdd, mA⟩
            clear mQ
            refine hK _ _ (.inr ⟨_, _, mA⟩) ?_
            clear hK K HS
            try simp only [Act.put, List.setIfInBounds_toArray, List.set_cons_zero, List.set_cons_succ, List.getElem_toArray, List.getElem_cons_succ, List.getElem_cons_zero]
            have HS : (fun w' => ∃ H' L', Mem w0 H' ((w6.heap.size, .cells #[.int .i64 other, .int .i64 0, .int .i64 0, .bool false, .slice none 0 0, .slice none 0 0, .slice rb6 n rc6] 31) :: (w4.heap.size, .cells #[.int .i64 size, .int .i64 0, .int .i64 0, .bool false, .slice none 0 0, .slice none 0 0, .slice rb4 n rc4] 31) :: (w.heap.size, PBox size n (.slice lb ds.length lc)) :: L') w') wd := ⟨_, _, mA⟩
            refine AnyFrom.call (i := 3) (by kernel_rfl) rfl (by kernel_rfl) fun K hK => ?_
            go_simp
            refine (Play_fr (newH other n) OKB.out rfl (ds.filter nc) (by rw [HK2.out]; omega) HFF.out _ _ _ _ (FB8.out.mono hld) hdd mA).mono ?_
            rintro e wp ⟨Hp, vo, vn, vr, rv, rfl, hlp, fp, hrv, mP⟩
            clear mA
            obtain ⟨ob, oc, rfl⟩ := fp.o.shape
            obtain ⟨nb, nc', rfl⟩ := fp.n.shape
            obtain ⟨rb, rc, rfl⟩ := fp.r.shape
            obtain ⟨qb, qc, rfl⟩ := lenSl hrv ((plays_len _ _).trans HK2.out)
            have HRV := Lib.hid hrv; clear hrv fp
            unfold HVal
            have mZ := mP
            refine hK _ _ (.inr ⟨_, _, mZ⟩) ?_
            clear hK K HS
            try simp only [Act.put, List.setIfInBounds_toArray, List.set_cons_zero, List.set_cons_succ, List.getElem_toArray, List.getElem_cons_succ, List.getElem_cons_zero]
            have HS : (fun w' => ∃ H' L', Mem w0 H' ((w6.heap.size, .cells #[.int .i64 other, .int .i64 0, .int .i64 0, .bool false, .slice none 0 0, .slice none 0 0, .slice rb6 n rc6] 31) :: (w4.heap.size, .cells #[.int .i64 size, .int .i64 0, .int .i64 0, .bool false, .slice none 0 0, .slice none 0 0, .slice rb4 n rc4] 31) :: (w.heap.size, PBox size n (.slice lb ds.length lc)) :: L') w') wp := ⟨_, _, mZ⟩
            have HLE := Lib.hid (hld.trans hlp)
            refine AnyFrom.pure (i := 4) (v := ?_) rfl (by kernel_rfl) (by kernel_rfl) (by kernel_rfl) (by decide) (fun _ _ _ h => h) ⟨by kernel_rfl, ?_⟩ HS ?_
            rotate_left
            · first | (intro w'; go_simp; done) | (intro w'; go_simp; with_reducible rfl)
            simp only [Act.put, List.setIfInBounds_toArray, List.set_cons_zero, List.set_cons_succ, List.getElem_toArray, List.getElem_cons_succ, List.getElem_cons_zero]
            refine AnyFrom.pure (i := 5) (v := ?_) rfl (by kernel_rfl) (by kernel_rfl) (by kernel_rfl) (by decide) (fun _ _ _ h => h) ⟨by kernel_rfl, ?_⟩ HS ?_
            rotate_left
            · first | (intro w'; go_simp; done) | (intro w'; go_simp; with_reducible rfl)
            simp only [Act.put, List.setIfInBounds_toArray, List.set_cons_zero, List.set_cons_succ, List.getElem_toArray, List.getElem_cons_succ, List.getElem_cons_zero]
            refine AnyFrom.pure (i := 6) (v := ?_) rfl (by kernel_rfl) (by kernel_rfl) (by kernel_rfl) (by decide) (fun _ _ _ h => h) ⟨by kernel_rfl, ?_⟩ HS ?_
            rotate_left
            · first | (intro w'; go_simp; done) | (intro w'; go_simp; with_reducible rfl)
            simp only [Act.put, List.setIfInBounds_toArray, List.set_cons_zero, List.set_cons_succ, List.getElem_toArray, List.getElem_cons_succ, List.getElem_cons_zero]
            refine AnyFrom.pure (i := 7) (v := ?_) rfl (by kernel_rfl) (by kernel_rfl) (by kernel_rfl) (by decide) (fun _ _ _ h => h) ⟨by kernel_rfl, ?_⟩ HS ?_
            rotate_left
            · first | (intro w'; go_simp; done) | (intro w'; go_simp; with_reducible rfl)
            simp only [Act.put, List.setIfInBounds_toArray, List.set_cons_zero, List.set_cons_succ, List.getElem_toArray, List.getElem_cons_succ, List.getElem_cons_zero]
            have es := mZ.eqs
            simp only [EqsL] at es
            have ns := mZ.nes
            simp only [NeL, NeFrom] at ns
            refine AnyFrom.call (i := 9) (by kernel_rfl) rfl (by kernel_rfl) fun K hK => ?_
            go_simp
            refine hK _ _ (.inr ?_) ?_
            · exact ⟨Hp, L, MemB.done (ks := [xo]) (by repeat (first | refine MemB.set (by simp) ?_ | exact ⟨[_], rfl, mZ.perm (perm_uu2 _ _ _ _ _)⟩))⟩
            clear hK K HS es ns
            generalize hWY : World.setCell _ _ _ = WY
            have mY : Mem w0 Hp ((w6.heap.size, .cells #[.int .i64 other, .int .i64 0, .int .i64 0, .bool false, .slice none 0 0, .slice none 0 0, .slice rb6 n rc6] 31) :: (w4.heap.size, .cells #[.int .i64 size, .int .i64 0, .int .i64 0, .bool false, .slice none 0 0, .slice none 0 0, .slice rb4 n rc4] 31) :: (w.heap.size, PBox size n (.slice lb ds.length lc)) :: L) WY := by rw [← hWY]; exact MemB.done (ks := [xo]) (by repeat (first | refine MemB.set (by simp) ?_ | exact ⟨[_], rfl, mZ.perm (perm_uu2 _ _ _ _ _)⟩))
            clear hWY
            try simp only [Act.put, List.setIfInBounds_toArray, List.set_cons_zero, List.set_cons_succ, List.getElem_toArray, List.getElem_cons_succ, List.getElem_cons_zero]
            have HS : (fun w' => ∃ H' L', Mem w0 H' ((w6.heap.size, .cells #[.int .i64 other, .int .i64 0, .int .i64 0, .bool false, .slice none 0 0, .slice none 0 0, .slice rb6 n rc6] 31) :: (w4.heap.size, .cells #[.int .i64 size, .int .i64 0, .int .i64 0, .bool false, .slice none 0 0, .slice none 0 0, .slice rb4 n rc4] 31) :: (w.heap.size, PBox size n (.slice lb ds.length lc)) :: L') w') WY := ⟨_, _, mY⟩
            refine AnyFrom.pure (i := 10) (v := ?_) rfl (by kernel_rfl) (by kernel_rfl) (by kernel_rfl) (by decide) (fun _ _ _ h => h) ⟨by kernel_rfl, ?_⟩ HS ?_
            rotate_left
            · first | (intro w'; go_simp; done) | (intro w'; go_simp; with_reducible rfl)
            simp only [Act.put, List.setIfInBounds_toArray, List.set_cons_zero, List.set_cons_succ, List.getElem_toArray, List.getElem_cons_succ, List.getElem_cons_zero]
            refine AnyFrom.pure (i := 11) (v := ?_) rfl (by kernel_rfl) (by kernel_rfl) (by kernel_rfl) (by decide) (fun _ _ _ h => h) ⟨by kernel_rfl, ?_⟩ HS ?_
            rotate_left
            · first | (intro w'; go_simp; done) | (intro w'; go_simp; with_reducible rfl)
            simp only [Act.put, List.setIfInBounds_toArray, List.set_cons_zero, List.set_cons_succ, List.getElem_toArray, List.getElem_cons_succ, List.getElem_cons_zero]
            refine AnyFrom.done (by kernel_rfl) ?_ _
            exact key xo dv' ob oc nb nc' rb rc qb qc _ ⟨Hp, HLE.out, HRV.out, mY⟩
        case' rest =>
          rintro xo2 dv2 ob2 oc2 nb2 nc2 rb2 rc2 qb2 qc2 wT ⟨H9, hl9, hrv9, m9⟩
          have HM := Lib.hid hrv9; clear hrv9
          have HLL := Lib.hid (HRV8.out.mono hl9)
          have HH9 := Lib.hid (HH8.out.trans hl9)
          have HD9 := Lib.hid (HD.out.mono HH9.out)
          have hkI : ((ds.length : Int) != (ds.length : Int)) = false := by simp
          have hlen : ((newH size n).plays ds).1.length = ds.length := plays_len _ _
          have hlen2 : ((newH other n).plays (ds.filter nc)).1.length = k' := (plays_len _ _).trans HK2.out
          have HLEN2 := Lib.hid hlen2; clear hlen2
          have HUN := Lib.hid (fun hl i d hd hc hm => unseen_at (newH_sim size other n) OKA.out OKB.out ds hl i d hd hc hm)
          generalize hla : ((newH size n).plays ds).1 = la at *
          generalize hlm : ((newH other n).plays (ds.filter nc)).1 = lm at *
          clear hla hlm
          have HLA := Lib.hid hlen; clear hlen
          have es := m9.eqs
          simp only [EqsL] at es
          go_wp2_with fail
          go_loopw [15] (fun v15 wr => ∃ k : Nat, k ≤ ds.length ∧ v15 = .int .i64 k ∧ (∀ (j : Nat) (v : ValM), j < k → la[j]? = some v → v ≠ fullV) ∧ Mem w0 H9 ((w6.heap.size, .cells #[.int .i64 other, .int .i64 0, .int .i64 0, .bool false, .slice none 0 0, .slice none 0 0, .slice rb6 n rc6] 31) :: (w4.heap.size, .cells #[.int .i64 size, .int .i64 0, .int .i64 0, .bool false, .slice none 0 0, .slice none 0 0, .slice rb4 n rc4] 31) :: (w.heap.size, PBox size n (.slice lb ds.length lc)) :: L) wr) (fun i _ => ds.length - (intOf i).toNat)
          case atStart => exact ⟨0, Nat.zero_le _, rfl, fun j v hj => absurd hj (by omega), m9⟩
          case round =>
            obtain ⟨k, hk, rfl, hnf, mk⟩ := hrel
            have HNF := Lib.hid hnf; clear hnf es
            by_cases hlt2 : k < ds.length
            · have hla : k < la.length := by rw [HLA.out]; exact hlt2
              obtain ⟨b1, o1, rfl, x0, x1, x2, hxf⟩ := HLL.out.getV hla
              have x0 := x0.cell mk
              have x1 := x1.cell mk
              have x2 := x2.cell mk
              have hgx : la[k]? = some la[k] := List.getElem?_eq_getElem hla
              have HGX := Lib.hid hgx; clear hgx
              have HXF := Lib.hid hxf; clear hxf
              generalize la[k] = x at *
              obtain ⟨xk, xn, xs⟩ := x
              simp only at x0 x1 x2
              have hltI : (k : Int) < ds.length := by omega
              go_wp2_with fail
              refine (full_any ⟨xk, xn, xs⟩ HXF.out mk).mono ?_
              rintro e wf ⟨rfl, mf⟩
              clear x0 x1 x2
              cases hfl : decide ((⟨xk, xn, xs⟩ : ValM) = fullV)
              · have HFL := Lib.hid (of_decide_eq_false hfl); clear hfl
                go_wp2_with fail
                go_roundw
                case rel =>
                  refine ⟨k + 1, by omega, by go_num, fun j v hj hv => ?_, mf⟩
                  by_cases hjk : j < k
                  · exact HNF.out j v hjk hv
                  · have : j = k := by omega
                    subst this
                    rw [HGX.out] at hv
                    cases hv
                    exact HFL.out
                case measure => simp [intOf]; omega
              · have HFL := Lib.hid hfl; clear hfl
                go_wp2_with fail
                refine (awake_any mf).mono ?_
                rintro e wg ⟨rfl, mg⟩
                go_wp2_with fail
                go_ret
                exact ⟨rfl, mg.drop.drop.drop.weaken HH9.out⟩
            · have hge2 : ¬ (k : Int) < ds.length := by omega
              have hkd : k = ds.length := by omega
              have hno : ∀ v ∈ la, v ≠ fullV := fun v hv => by
                obtain ⟨j, hj, rfl⟩ := List.mem_iff_getElem.1 hv
                exact HNF.out j _ (by rw [HLA.out] at hj; omega) (List.getElem?_eq_getElem hj)
              have HUN2 := Lib.hid (HUN.out hno)
              clear hno hkd hk
              go_wp2_with fail
              go_loopw [16, 17] (fun v16 v17 wr => ∃ k a : Nat, k ≤ ds.length ∧ a ≤ k ∧ v17 = .int .i64 k ∧ v16 = .int .i64 a ∧ ((ds.take k).filter nc).length = a ∧ (∀ (j : Nat) (v : ValM), j < a → lm[j]? = some v → v ≠ fullV) ∧ Mem w0 H9 ((w6.heap.size, .cells #[.int .i64 other, .int .i64 0, .int .i64 0, .bool false, .slice none 0 0, .slice none 0 0, .slice rb6 n rc6] 31) :: (w4.heap.size, .cells #[.int .i64 size, .int .i64 0, .int .i64 0, .bool false, .slice none 0 0, .slice none 0 0, .slice rb4 n rc4] 31) :: (w.heap.size, PBox size n (.slice lb ds.length lc)) :: L) wr) (fun _ i _ => ds.length - (intOf i).toNat)
              case atStart => exact ⟨0, 0, Nat.zero_le _, Nat.le_refl _, rfl, rfl, rfl, fun j v hj => absurd hj (by omega), mk⟩
              case round =>
                obtain ⟨k, a, hk, hak, rfl, rfl, hta, hnm, mk⟩ := hrel
                have HTA := Lib.hid hta; clear hta
                have HNM := Lib.hid hnm; clear hnm
                have es := mk.eqs
                simp only [EqsL] at es
                by_cases hlt3 : k < ds.length
                · obtain ⟨blk, off, lv, sv, rfl, hcell, hdr⟩ := HD9.out.getDeed hlt3
                  have hfs := filter_snoc hlt3
                  have hgd : ds[k]? = some ds[k] := List.getElem?_eq_getElem hlt3
                  have hua := fun hc => HUN2.out k _ hgd hc
                  have HUA := Lib.hid hua; clear hua hgd
                  have HFS := Lib.hid hfs; clear hfs
                  have HDR := Lib.hid hdr; clear hdr
                  generalize ds[k] = d at *
                  have hltI : (k : Int) < ds.length := by omega
                  obtain ⟨lb2, lc2, rfl, -, -, -, -⟩ := HDR.out.list
                  obtain ⟨sb2, sc2, rfl, -, -, -, -⟩ := HDR.out.slots
                  have c0 := (hcell 0 _ rfl).cell mk
                  rw [Nat.add_zero] at c0
                  have c1 := (hcell 1 _ rfl).cell mk
                  have c2 := (hcell 2 _ rfl).cell mk
                  have c3 := (hcell 3 _ rfl).cell mk
                  have c4 := (hcell 4 _ rfl).cell mk
                  have c5 := (hcell 5 _ rfl).cell mk
                  have c6 := (hcell 6 _ rfl).cell mk
                  have c7 := (hcell 7 _ rfl).cell mk
                  have c8 := (hcell 8 _ rfl).cell mk
                  have c9 := (hcell 9 _ rfl).cell mk
                  have c10 := (hcell 10 _ rfl).cell mk
                  have c11 := (hcell 11 _ rfl).cell mk
                  clear hcell
                  go_wp2_with fail
                  refine (isColl_any d _ _ HDR.out mk).mono ?_
                  rintro e w4 ⟨rfl, m4⟩
                  clear c0 c1 c2 c3 c4 c5 c6 c7 c8 c9 c10 c11 es mk
                  cases hc : isColl d
                  · have HC := Lib.hid hc; clear hc
                    obtain ⟨v, u, hv, hu, hvu⟩ := HUA.out HC.out (by rw [HTA.out]; exact HNM.out)
                    rw [HTA.out] at hu
                    have hal : a < lm.length := (List.getElem?_eq_some_iff.1 hu).1
                    have hue : lm[a] = u := (List.getElem?_eq_some_iff.1 hu).2
                    have hkl : k < la.length := (List.getElem?_eq_some_iff.1 hv).1
                    have hve : la[k] = v := (List.getElem?_eq_some_iff.1 hv).2
                    have hak' : a < k' := by have := HLEN2.out; omega
                    have hakI : (a : Int) < k' := by omega
                    obtain ⟨b2, o2, rfl, y0, y1, y2, hyf⟩ := HM.out.getV hal
                    obtain ⟨b1, o1, rfl, x0, x1, x2, hxf⟩ := HLL.out.getV hkl
                    rw [hue] at y0 y1 y2 hyf
                    rw [hve] at x0 x1 x2 hxf
                    clear hue hve
                    have HU := Lib.hid hu; clear hu
                    have HYF := Lib.hid hyf; clear hyf hxf hv
                    have HVU := Lib.hid hvu; clear hvu
                    obtain ⟨uk, un, us⟩ := u
                    simp only at y0 y1 y2
                    have Y0 := Lib.hid y0
                    have Y1 := Lib.hid y1
                    have Y2 := Lib.hid y2
                    have y0 := y0.cell m4
                    have y1 := y1.cell m4
                    have y2 := y2.cell m4
                    go_wp2_with fail
                    refine (full_any ⟨uk, un, us⟩ HYF.out m4).mono ?_
                    rintro e wf ⟨rfl, mf⟩
                    clear y0 y1 y2
                    cases hfl : decide ((⟨uk, un, us⟩ : ValM) = fullV)
                    · have hne := of_decide_eq_false hfl
                      have hvv := HVU.out hne
                      subst hvv
                      simp only at x0 x1 x2
                      have HFL := Lib.hid hne; clear hfl hne
                      have x0 := x0.cell mf
                      have x1 := x1.cell mf
                      have x2 := x2.cell mf
                      have y0 := Y0.out.cell mf
                      have y1 := Y1.out.cell mf
                      have y2 := Y2.out.cell mf
                      go_wp2_with fail
                      go_quiet (fail)
                      go_wp2_with fail
                      go_roundw
                      case rel =>
                        have e1 : (ds.take (k + 1)).filter nc = (ds.take k).filter nc ++ [d] := by rw [HFS.out, if_neg (by rw [HC.out]; simp)]
                        refine ⟨k + 1, a + 1, by omega, by omega, by go_num, by go_num, by rw [e1, List.length_append, HTA.out]; rfl, fun j v hj hv => ?_, mf.drewN _⟩
                        by_cases hjk : j < a
                        · exact HNM.out j v hjk hv
                        · have : j = a := by omega
                          subst this
                          rw [HU.out] at hv
                          cases hv
                          exact HFL.out
                      case measure => simp [intOf]; omega
                    · have HFL := Lib.hid hfl; clear hfl
                      go_wp2_with fail
                      refine (awake_any mf).mono ?_
                      rintro e wg ⟨rfl, mg⟩
                      go_wp2_with fail
                      go_ret
                      exact ⟨rfl, mg.drop.drop.drop.weaken HH9.out⟩
                  · have HC := Lib.hid hc; clear hc
                    go_wp2_with fail
                    go_roundw
                    case rel =>
                      have e1 : (ds.take (k + 1)).filter nc = (ds.take k).filter nc := by rw [HFS.out, if_pos HC.out, List.append_nil]
                      exact ⟨k + 1, a, by omega, by omega, by go_num, rfl, by rw [e1]; exact HTA.out, HNM.out, m4⟩
                    case measure => simp [intOf]; omega
                · have hge3 : ¬ (k : Int) < ds.length := by omega
                  go_wp2_with fail
                  refine (awake_any mk).mono ?_
                  rintro e wg ⟨rfl, mg⟩
                  go_wp2_with fail
                  go_ret
                  exact ⟨rfl, mg.drop.drop.drop.weaken HH9.out⟩
end Go.Proofs.Ythipkmmdjhpklaa
