/- The walk: the law HeapRoom. -/
import Derived.Test.YthipkmmdjhpklaaK22
import Derived.Test.YthipkmmdjhpklaaK19
namespace Go.Proofs.Ythipkmmdjhpklaa
set_option linter.unusedVariables false
set_option linter.unusedSimpArgs false
open Go.RowKit

def zeroH : HeapM := ⟨0, 0, 0, false, [], [], []⟩
def outH (r : Int × ValM × HeapM) : HeapM := if r.1 = 0 then r.2.2 else zeroH
def outV (r : Int × ValM × HeapM) : ValM := if r.1 = 0 then r.2.1 else unitV
/-- How a deed ends, with or without an error. -/
def DoU (r : Int × ValM × HeapM) (w0 : World) (H : Hp) (L : List (Nat × Obj)) (e : Ending) (w' : World) : Prop :=
  ∃ H' vo vn vr, e = .returned (.tuple #[HVal (outH r) vo vn vr, (outV r).v, .int .i64 r.1]) ∧ Hle H H' ∧ HFr H' (outH r) vo vn vr ∧ Mem w0 H' L w'
theorem DoU_any (h : HeapM) (g : HGood h) (vo vn vr : Value) {w0 w : World} {H : Hp} {L : List (Nat × Obj)} (f : HFr H h vo vn vr) (m : Mem w0 H L w) (d : DeedM) (lv sv : Value) (hd : DeedR H d lv sv) (ha : d.a ≤ 100000) :
    Calls Try.prog 24 #[HVal h vo vn vr, d.v lv sv] w (DoU (h.do d) w0 H L) := by
  refine (DoB_any h g vo vn vr f m d lv sv hd ha).mono ?_
  rintro e w' (⟨h1, rfl, m'⟩ | ⟨h1, H', vo', vn', vr', rfl, hl, f', m'⟩)
  · refine ⟨H, .slice none 0 0, .slice none 0 0, .slice none 0 0, ?_, Hle.refl _, ?_, m'⟩
    · unfold outH outV; rw [if_neg h1, if_neg h1]; rfl
    · unfold outH; rw [if_neg h1]; exact ⟨SlR.nil _ _, SlR.nil _ _, SlR.nil _ _⟩
  · refine ⟨H', vo', vn', vr', ?_, hl, ?_, m'⟩
    · unfold outH outV; rw [if_pos h1, if_pos h1, h1]
    · unfold outH; rw [if_pos h1]; exact f'
theorem share15 {K : Act → World → Prop} {G : Prop} (R : Nat → Nat → Nat → Nat → Nat → Option Addr → Nat → Option Addr → Nat → Option Addr → Nat → Option Addr → Nat → Option Addr → Nat → World → Prop) {f : Nat → Nat → Nat → Nat → Nat → Option Addr → Nat → Option Addr → Nat → Option Addr → Nat → Option Addr → Nat → Option Addr → Nat → Act}
    (br : (∀ x7 x8 blk2 off2 cap2 lb2 lc2 sb2 sc2 ob3 oc3 nb3 nc3 rb3 rc3 W, R x7 x8 blk2 off2 cap2 lb2 lc2 sb2 sc2 ob3 oc3 nb3 nc3 rb3 rc3 W → K (f x7 x8 blk2 off2 cap2 lb2 lc2 sb2 sc2 ob3 oc3 nb3 nc3 rb3 rc3) W) → G) (rest : ∀ x7 x8 blk2 off2 cap2 lb2 lc2 sb2 sc2 ob3 oc3 nb3 nc3 rb3 rc3 W, R x7 x8 blk2 off2 cap2 lb2 lc2 sb2 sc2 ob3 oc3 nb3 nc3 rb3 rc3 W → K (f x7 x8 blk2 off2 cap2 lb2 lc2 sb2 sc2 ob3 oc3 nb3 nc3 rb3 rc3) W) : G := br rest
theorem HFr.shape {H : Hp} {h : HeapM} {vo vn vr : Value} (f : HFr H h vo vn vr) : ∃ ob oc nb nc rb rc, vo = .slice ob h.old.length oc ∧ vn = .slice nb h.new.length nc ∧ vr = .slice rb h.regs.length rc := by
  obtain ⟨ob, oc, e1⟩ := f.o.shape
  obtain ⟨nb, nc, e2⟩ := f.n.shape
  obtain ⟨rb, rc, e3⟩ := f.r.shape
  exact ⟨ob, oc, nb, nc, rb, rc, e1, e2, e3⟩
theorem plays_size : ∀ (l : List DeedM) (h : HeapM), (h.plays l).2.size = h.size
  | [], h => rfl
  | d :: l, h => by simp only [HeapM.plays]; rw [plays_size l, do_size]
/-- One deed out of a list, as a list of its own. -/
theorem SlR.one {H : Hp} {b : Option Addr} {c k : Nat} {ds : List DeedM} {d : DeedM} (h : SlR encDeed H (.slice b ds.length c) ds) (hk : ds[k]? = some d) : SlR encDeed H (sliceV b k (k + 1) c 12) [d] := by
  have hl := lt_of_some hk
  have := h.sliced (i := k) (j := k + 1) (by omega) (by omega)
  rw [Nat.add_sub_cancel_left] at this
  have e : (ds.drop k).take 1 = [d] := by
    obtain ⟨h1, h2⟩ := List.getElem?_eq_some_iff.1 hk
    rw [List.drop_eq_getElem_cons h1, h2]; rfl
  rw [e] at this
  exact this
theorem perm_hr1 {α : Type} (g h p x y : α) (L : List α) : (g :: h :: p :: x :: y :: L).Perm (g :: x :: y :: h :: p :: L) := (by classical exact List.perm_iff_count.2 (fun a => by simp only [List.count_append, List.count_cons, List.cons_append, List.nil_append, List.append_assoc]; omega))
theorem sliceV_one (blk off k c s : Nat) (h : k < c) : sliceV (some ⟨blk, off, none⟩) k (k + 1) c s = .slice (some ⟨blk, off + k * s, none⟩) 1 (c - k) := by
  unfold sliceV Go.sliced
  have e : ¬ c = k := by omega
  simp [e, Addr.add]
theorem perm_fr2 {α : Type} (x a b : α) (L : List α) : (x :: a :: b :: L).Perm (a :: b :: x :: L) := (by classical exact List.perm_iff_count.2 (fun a => by simp only [List.count_append, List.count_cons, List.cons_append, List.nil_append, List.append_assoc]; omega))
theorem perm_sw2 {α : Type} (a b x y : α) (L : List α) : (a :: b :: x :: y :: L).Perm (a :: b :: y :: x :: L) := (by classical exact List.perm_iff_count.2 (fun a => by simp only [List.count_append, List.count_cons, List.cons_append, List.nil_append, List.append_assoc]; omega))
theorem perm_fr3 {α : Type} (x a b c : α) (L : List α) : (x :: a :: b :: c :: L).Perm (a :: b :: c :: x :: L) := (by classical exact List.perm_iff_count.2 (fun a => by simp only [List.count_append, List.count_cons, List.cons_append, List.nil_append, List.append_assoc]; omega))
theorem perm_sw3 {α : Type} (a b c x y : α) (L : List α) : (a :: b :: c :: x :: y :: L).Perm (a :: b :: c :: y :: x :: L) := (by classical exact List.perm_iff_count.2 (fun a => by simp only [List.count_append, List.count_cons, List.cons_append, List.nil_append, List.append_assoc]; omega))
set_option maxRecDepth 10000 in
set_option maxHeartbeats 8000000 in
theorem room_any (size regs : Int) (hs : I64 size) (hr : I64 regs) (dv : Value) (ds : List DeedM) {w0 w : World} {H : Hp} {L : List (Nat × Obj)} (hd : SlR encDeed H dv ds) (m : Mem w0 H L w) :
    Calls Try.prog 5 #[.agg #[.int .i64 size, .int .i64 regs, dv]] w (Ret w0 H L (.bool true)) := by
  have HD := Lib.hid hd
  have HSZ := Lib.hid hs; clear hs
  have HRG := Lib.hid hr; clear hr
  obtain ⟨lb, lc, rfl, _, hlc, _, _⟩ := hd
  have hlc := size_le_maxLen hlc
  have m1 := m.alloc (PBox size regs (.slice lb ds.length lc))
  have mu := m1
  have es := mu.eqs
  simp only [EqsL] at es
  go_enter Try.func5, Try.ntmps5
  go_wp2_with fail
  refine (ready_any size regs _ ds HD.out m1).mono ?_
  rintro e w1 ⟨rfl, m2⟩
  clear es mu m1
  have es := m2.eqs
  simp only [EqsL] at es
  cases hrd : readyM size regs ds
  · have HRD := Lib.hid hrd; clear hrd
    go_wp2_with fail
    refine (awake_any m2).mono ?_
    rintro e w3 ⟨rfl, m3⟩
    go_wp2_with fail
    go_ret
    exact ⟨rfl, m3.drop⟩
  have HRD := Lib.hid hrd; clear hrd
  have hrd := HRD.out
  unfold readyM at hrd
  simp only [Bool.and_eq_true, decide_eq_true_eq] at hrd
  obtain ⟨⟨⟨htd, hl80⟩, hsz⟩, hrg⟩ := hrd
  have hall : ∀ d ∈ ds, d.list.length ≤ 12 ∧ d.obj.slots.length ≤ 4 ∧ d.obj.name.size ≤ 300 ∧ d.val.s.size ≤ 300 ∧ d.a ≤ 10000 := fun d hd => by
    unfold thinD at htd
    rw [Bool.and_eq_true] at htd
    exact thin1_all (List.all_eq_true.1 htd.2 d hd)
  have HALL := Lib.hid hall; clear hall htd
  obtain ⟨n, rfl⟩ := Int.eq_ofNat_of_zero_le (show 0 ≤ regs by omega)
  go_wp2_with fail
  refine (Make_any size n HSZ.out HRG.out m2).mono ?_
  rintro e w4 h4
  unfold MakeR at h4
  rw [if_pos ⟨hsz, by omega⟩] at h4
  obtain ⟨vr4, H4, rfl, hvr4, hl4, m4⟩ := h4
  rw [Int.toNat_natCast] at hvr4
  have FA := Lib.hid (show HFr H4 (newH size n) (.slice none 0 0) (.slice none 0 0) vr4 from ⟨SlR.nil _ _, SlR.nil _ _, hvr4⟩)
  obtain ⟨rb4, rc4, rfl⟩ := hvr4.shape
  rw [List.length_replicate] at FA
  clear hvr4 es m2
  have GA := Lib.hid (HGood.mk (newH_ok size n hsz (by omega)) (Copies.nil rfl))
  have m5 := m4.alloc (.cells #[.int .i64 size, .int .i64 0, .int .i64 0, .bool false, .slice none 0 0, .slice none 0 0, .slice rb4 n rc4] 31)
  rw [List.length_replicate]
  have es := m5.eqs
  simp only [EqsL] at es
  have HD4 := Lib.hid (HD.out.mono hl4)
  go_wp2_with fail
  clear es
  go_loopw [5, 6, 7, 8, 9, 10, 11, 12, 13, 14, 15, 16] (fun v5 _ _ _ _ _ _ _ _ _ _ _ wr => ∃ (k : Nat) (H' : Hp) (ob : Option Addr) (oc : Nat) (nb : Option Addr) (nc : Nat) (rb : Option Addr) (rc : Nat), k ≤ ds.length ∧ v5 = .int .i64 k ∧ Hle H4 H' ∧ HFr H' ((newH size n).plays (ds.take k)).2 (.slice ob ((newH size n).plays (ds.take k)).2.old.length oc) (.slice nb ((newH size n).plays (ds.take k)).2.new.length nc) (.slice rb ((newH size n).plays (ds.take k)).2.regs.length rc) ∧ Mem w0 H' ((w4.heap.size, .cells #[.int .i64 ((newH size n).plays (ds.take k)).2.size, .int .i64 ((newH size n).plays (ds.take k)).2.half, .int .i64 ((newH size n).plays (ds.take k)).2.scan, .bool ((newH size n).plays (ds.take k)).2.busy, .slice ob ((newH size n).plays (ds.take k)).2.old.length oc, .slice nb ((newH size n).plays (ds.take k)).2.new.length nc, .slice rb ((newH size n).plays (ds.take k)).2.regs.length rc] 31) :: (w.heap.size, PBox size n (.slice lb ds.length lc)) :: L) wr) (fun i _ _ _ _ _ _ _ _ _ _ _ _ => ds.length - (intOf i).toNat)
  case atStart => exact ⟨0, H4, none, 0, none, 0, rb4, rc4, Nat.zero_le _, rfl, Hle.refl _, by simpa [HeapM.plays, newH] using FA.out, by simpa [HeapM.plays, newH] using m5⟩
  case round =>
    obtain ⟨k, H', ob, oc, nb, nc, rb, rc, hk, rfl, hle, hf, mk⟩ := hrel
    clear m5
    have hgd := plays_good (ds.take k) GA.out
    have hsize : ((newH size n).plays (ds.take k)).2.size = size := plays_size _ _
    by_cases hlt : k < ds.length
    · have hgk : ds[k]? = some ds[k] := List.getElem?_eq_getElem hlt
      have hnx : ((newH size n).plays (ds.take (k + 1))).2 = (((newH size n).plays (ds.take k)).2.do ds[k]).2.2 := by rw [List.take_succ_eq_append_getElem hlt, plays_snoc]
      have hal := HALL.out _ (List.getElem_mem hlt)
      have hone := (HD4.out.mono hle).one hgk
      have hklc : k < lc := by omega
      obtain ⟨blk, off, lv, sv, rfl, hcell, hdr⟩ := HD4.out.getDeed hlt
      rw [sliceV_one _ _ _ _ _ hklc] at hone
      have HONE := Lib.hid hone; clear hone
      have HNX := Lib.hid hnx; clear hnx
      have HCELL := Lib.hid hcell; clear hcell
      have HDR := Lib.hid hdr; clear hdr hgk
      generalize ds[k] = d at *
      generalize ((newH size n).plays (ds.take k)).2 = h at *
      have HF := Lib.hid hf; clear hf
      have HGD := Lib.hid hgd
      have hud := due_used hgd
      have hbds := hgd.ok.hbd
      clear hgd
      have HSI := Lib.hid hsize; clear hsize
      have HAL := Lib.hid hal; clear hal
      obtain ⟨lv1, lv2, rfl, -, -, -, -⟩ := HDR.out.list
      obtain ⟨sv1, sv2, rfl, -, -, -, -⟩ := HDR.out.slots
      have hltI : (k : Int) < ds.length := by omega
      have es := mk.eqs
      simp only [EqsL] at es
      go_wp2_with fail
      refine (Copy_fr h hbds _ _ _ HF.out mk).mono ?_
      rintro e w5 ⟨H5, vo5, vn5, vr5, rfl, hl5, f5, m6⟩
      obtain ⟨ob5, oc5, nb5, nc5, rb5, rc5, rfl, rfl, rfl⟩ := f5.shape
      have F5 := Lib.hid f5; clear f5
      unfold HVal
      clear es mk
      have m7 := m6.alloc (.cells #[.int .i64 h.size, .int .i64 h.half, .int .i64 h.scan, .bool h.busy, .slice ob5 h.old.length oc5, .slice nb5 h.new.length nc5, .slice rb5 h.regs.length rc5] 31)
      have es := m7.eqs
      simp only [EqsL] at es
      go_wp2_with fail
      have HF5 := Lib.hid (HF.out.mono hl5)
      have HONE5 := Lib.hid (HONE.out.mono hl5)
      have HLE5 := Lib.hid (hle.trans hl5)
      have ho : outH (h.do d) = outH (h.do d) := rfl
      generalize hres : h.do d = r at *
      generalize hq : outH r = q at *
      generalize hx : outV r = x at *
      obtain ⟨rk, rn, rs⟩ := x
      clear ho
      apply share15 (R := fun x7 x8 blk2 off2 cap2 lb2 lc2 sb2 sc2 ob3 oc3 nb3 nc3 rb3 rc3 W => ∃ H3, Hle H5 H3 ∧ HFr H3 q (.slice ob3 q.old.length oc3) (.slice nb3 q.new.length nc3) (.slice rb3 q.regs.length rc3) ∧ Mem w0 H3 ((w5.heap.size, .cells #[.int .i64 h.size, .int .i64 h.half, .int .i64 h.scan, .bool h.busy, .slice ob5 h.old.length oc5, .slice nb5 h.new.length nc5, .slice rb5 h.regs.length rc5] 31) :: (w4.heap.size, .cells #[.int .i64 h.size, .int .i64 h.half, .int .i64 h.scan, .bool h.busy, .slice ob h.old.length oc, .slice nb h.new.length nc, .slice rb h.regs.length rc] 31) :: (w.heap.size, PBox size n (.slice (some ⟨blk, off, none⟩) ds.length lc)) :: (x7, .cells #[.int .i64 q.size, .int .i64 q.half, .int .i64 q.scan, .bool q.busy, .slice ob3 q.old.length oc3, .slice nb3 q.new.length nc3, .slice rb3 q.regs.length rc3] 31) :: (x8, .cells #[.int .u8 rk, .int .i64 rn, .string rs] 50) :: L) W)
      case' br =>
        intro key
        have hwk : IntKind.i64.wrap ((k : Int) + 1) = (k : Int) + 1 := wrap_i64s _ (by omega) (by omega)
        have hlk1 : ¬ lc = k := by omega
        have hlk2 : (k : Int) + 1 ≤ (lc : Int) := by omega
        have hlk3 : ((k : Int) + 1).toNat = k + 1 := by omega
        have hlk4 : 0 ≤ (k : Int) + 1 := by omega
        have hlk5 : ¬ (k : Int) + 1 < 0 := by omega
        refine AnyFrom.start (fun w' => ∃ H' L', Hle H5 H' ∧ Mem w0 H' ((w5.heap.size, .cells #[.int .i64 h.size, .int .i64 h.half, .int .i64 h.scan, .bool h.busy, .slice ob5 h.old.length oc5, .slice nb5 h.new.length nc5, .slice rb5 h.regs.length rc5] 31) :: (w4.heap.size, .cells #[.int .i64 h.size, .int .i64 h.half, .int .i64 h.scan, .bool h.busy, .slice ob h.old.length oc, .slice nb h.new.length nc, .slice rb h.regs.length rc] 31) :: (w.heap.size, PBox size n (.slice (some ⟨blk, off, none⟩) ds.length lc)) :: L') w') 20 (by kernel_rfl) ?_
        have mW := m7.drew
        generalize World.drew _ = W at *
        have hs0 := Lib.hid (Hle.refl H5)
        have HS : (fun w' => ∃ H' L', Hle H5 H' ∧ Mem w0 H' ((w5.heap.size, .cells #[.int .i64 h.size, .int .i64 h.half, .int .i64 h.scan, .bool h.busy, .slice ob5 h.old.length oc5, .slice nb5 h.new.length nc5, .slice rb5 h.regs.length rc5] 31) :: (w4.heap.size, .cells #[.int .i64 h.size, .int .i64 h.half, .int .i64 h.scan, .bool h.busy, .slice ob h.old.length oc, .slice nb h.new.length nc, .slice rb h.regs.length rc] 31) :: (w.heap.size, PBox size n (.slice (some ⟨blk, off, none⟩) ds.length lc)) :: L') w') W := ⟨_, _, hs0.out, mW⟩
        have hle0 := Hle.refl H5
        refine AnyFrom.take (i := 0) (v := ?_) rfl (by kernel_rfl) (by kernel_rfl) (by kernel_rfl) (by kernel_rfl) (fun _ _ _ h => h) ⟨by kernel_rfl, ?_⟩ HS ?_
        rotate_left
        · first | (rintro w' ⟨H', L', hl', hm⟩; have es := hm.eqs; simp only [EqsL] at es; go_simp; done) | (rintro w' ⟨H', L', hl', hm⟩; have es := hm.eqs; simp only [EqsL] at es; go_simp; with_reducible rfl)
        simp only [Act.put, List.setIfInBounds_toArray, List.set_cons_zero, List.set_cons_succ, List.getElem_toArray, List.getElem_cons_succ, List.getElem_cons_zero]
        refine AnyFrom.take (i := 1) (v := ?_) rfl (by kernel_rfl) (by kernel_rfl) (by kernel_rfl) (by kernel_rfl) (fun _ _ _ h => h) ⟨by kernel_rfl, ?_⟩ HS ?_
        rotate_left
        · first | (rintro w' ⟨H', L', hl', hm⟩; have es := hm.eqs; simp only [EqsL] at es; go_simp; done) | (rintro w' ⟨H', L', hl', hm⟩; have es := hm.eqs; simp only [EqsL] at es; go_simp; with_reducible rfl)
        simp only [Act.put, List.setIfInBounds_toArray, List.set_cons_zero, List.set_cons_succ, List.getElem_toArray, List.getElem_cons_succ, List.getElem_cons_zero]
        refine AnyFrom.take (i := 2) (v := ?_) rfl (by kernel_rfl) (by kernel_rfl) (by kernel_rfl) (by kernel_rfl) (fun _ _ _ h => h) ⟨by kernel_rfl, ?_⟩ HS ?_
        rotate_left
        · first | (rintro w' ⟨H', L', hl', hm⟩; have es := hm.eqs; simp only [EqsL] at es; go_simp; done) | (rintro w' ⟨H', L', hl', hm⟩; have es := hm.eqs; simp only [EqsL] at es; go_simp; with_reducible rfl)
        simp only [Act.put, List.setIfInBounds_toArray, List.set_cons_zero, List.set_cons_succ, List.getElem_toArray, List.getElem_cons_succ, List.getElem_cons_zero]
        refine AnyFrom.pure (i := 3) (v := ?_) rfl (by kernel_rfl) (by kernel_rfl) (by kernel_rfl) (by decide) (fun _ _ _ h => h) ⟨by kernel_rfl, ?_⟩ HS ?_
        rotate_left
        · first | (intro w'; go_simp; done) | (intro w'; go_simp; with_reducible rfl)
        simp only [Act.put, List.setIfInBounds_toArray, List.set_cons_zero, List.set_cons_succ, List.getElem_toArray, List.getElem_cons_succ, List.getElem_cons_zero]
        refine AnyFrom.pure (i := 4) (v := ?_) rfl (by kernel_rfl) (by kernel_rfl) (by kernel_rfl) (by decide) (fun _ _ _ h => h) ⟨by kernel_rfl, ?_⟩ HS ?_
        rotate_left
        · first | (intro w'; go_simp; done) | (intro w'; go_simp; with_reducible rfl)
        simp only [Act.put, List.setIfInBounds_toArray, List.set_cons_zero, List.set_cons_succ, List.getElem_toArray, List.getElem_cons_succ, List.getElem_cons_zero]
        refine AnyFrom.pure (i := 5) (v := ?_) rfl (by kernel_rfl) (by kernel_rfl) (by kernel_rfl) (by decide) (fun _ _ _ h => h) ⟨by kernel_rfl, ?_⟩ HS ?_
        rotate_left
        · first | (intro w'; go_simp; done) | (intro w'; go_simp; with_reducible rfl)
        simp only [Act.put, List.setIfInBounds_toArray, List.set_cons_zero, List.set_cons_succ, List.getElem_toArray, List.getElem_cons_succ, List.getElem_cons_zero]
        refine AnyFrom.pure (i := 6) (v := .slice (some ⟨blk, off + k * 12, none⟩) 1 (lc - k)) rfl (by kernel_rfl) (by kernel_rfl) (by kernel_rfl) (by decide) (fun _ _ _ h => h) ⟨by kernel_rfl, ?_⟩ HS ?_
        · first | (intro w'; go_simp; done) | (intro w'; go_simp; with_reducible rfl)
        simp only [Act.put, List.setIfInBounds_toArray, List.set_cons_zero, List.set_cons_succ, List.getElem_toArray, List.getElem_cons_succ, List.getElem_cons_zero]
        refine AnyFrom.three (i := 7) (j := 15) (l := 16) (by kernel_rfl) ?_ ?_ ?_
        · skip
          refine AnyFrom.op rfl (by kernel_rfl) fun K hK => ?_
          go_simp
          refine (lawDeeds_any _ [d] (by simp) (fun d' hd' => by rw [List.mem_singleton] at hd'; rw [hd']; have := HAL.out; omega) (HONE5.out.mono hle0) mW).mono ?_
          rintro e wd3 ⟨Hd2, dv2, rfl, hl4, hdd, mD1⟩
          obtain ⟨db2, cap2, rfl⟩ := hdd.shape
          obtain ⟨blk2, off2, lvv, svv, rfl, hcell2, hdr2⟩ := hdd.getDeed (i := 0) (by simp)
          obtain ⟨lb2, lc2, rfl, -, -, -, -⟩ := hdr2.list
          obtain ⟨sb2, sc2, rfl, -, -, -, -⟩ := hdr2.slots
          rw [Nat.zero_mul, Nat.add_zero] at hcell2
          have CD := Lib.hid hcell2; clear hcell2 hdd
          have DR := Lib.hid (show DeedR Hd2 d _ _ from hdr2); clear hdr2
          have hs5 := Lib.hid (hs0.out.trans hl4)
          have hle6 := hle0.trans hl4
          refine hK _ _ (.inr ⟨_, _, hs5.out, mD1⟩) ?_
          clear hK K HS
          try simp only [Act.put, List.setIfInBounds_toArray, List.set_cons_zero, List.set_cons_succ, List.getElem_toArray, List.getElem_cons_succ, List.getElem_cons_zero]
          refine AnyFrom.stronger (S2 := fun w' => ∃ H' L', Hle Hd2 H' ∧ Mem w0 H' ((w5.heap.size, .cells #[.int .i64 h.size, .int .i64 h.half, .int .i64 h.scan, .bool h.busy, .slice ob5 h.old.length oc5, .slice nb5 h.new.length nc5, .slice rb5 h.regs.length rc5] 31) :: (w4.heap.size, .cells #[.int .i64 h.size, .int .i64 h.half, .int .i64 h.scan, .bool h.busy, .slice ob h.old.length oc, .slice nb h.new.length nc, .slice rb h.regs.length rc] 31) :: (w.heap.size, PBox size n (.slice (some ⟨blk, off, none⟩) ds.length lc)) :: L') w') (fun w' ⟨H', L', hl', hm⟩ => ⟨H', L', hs5.out.trans hl', hm⟩) _ ?_
          have hs8 := Lib.hid (Hle.refl Hd2)
          have HS : (fun w' => ∃ H' L', Hle Hd2 H' ∧ Mem w0 H' ((w5.heap.size, .cells #[.int .i64 h.size, .int .i64 h.half, .int .i64 h.scan, .bool h.busy, .slice ob5 h.old.length oc5, .slice nb5 h.new.length nc5, .slice rb5 h.regs.length rc5] 31) :: (w4.heap.size, .cells #[.int .i64 h.size, .int .i64 h.half, .int .i64 h.scan, .bool h.busy, .slice ob h.old.length oc, .slice nb h.new.length nc, .slice rb h.regs.length rc] 31) :: (w.heap.size, PBox size n (.slice (some ⟨blk, off, none⟩) ds.length lc)) :: L') w') wd3 := ⟨_, _, hs8.out, mD1⟩
          refine AnyFrom.take (i := 8) (v := ?_) rfl (by kernel_rfl) (by kernel_rfl) (by kernel_rfl) (by kernel_rfl) (fun _ _ _ h => h) ⟨by kernel_rfl, ?_⟩ HS ?_
          rotate_left
          · first | (rintro w' ⟨H', L', hl', hm⟩; have es := hm.eqs; simp only [EqsL] at es; go_simp; done) | (rintro w' ⟨H', L', hl', hm⟩; have es := hm.eqs; simp only [EqsL] at es; go_simp; with_reducible rfl)
          simp only [Act.put, List.setIfInBounds_toArray, List.set_cons_zero, List.set_cons_succ, List.getElem_toArray, List.getElem_cons_succ, List.getElem_cons_zero]
          refine AnyFrom.take (i := 9) (v := ?_) rfl (by kernel_rfl) (by kernel_rfl) (by kernel_rfl) (by kernel_rfl) (fun _ _ _ h => h) ⟨by kernel_rfl, ?_⟩ HS ?_
          rotate_left
          · first | (rintro w' ⟨H', L', hl', hm⟩; have es := hm.eqs; simp only [EqsL] at es; have q0 := ((CD.out 0 _ rfl).mono hl').cell hm; have q1 := ((CD.out 1 _ rfl).mono hl').cell hm; have q2 := ((CD.out 2 _ rfl).mono hl').cell hm; have q3 := ((CD.out 3 _ rfl).mono hl').cell hm; have q4 := ((CD.out 4 _ rfl).mono hl').cell hm; have q5 := ((CD.out 5 _ rfl).mono hl').cell hm; have q6 := ((CD.out 6 _ rfl).mono hl').cell hm; have q7 := ((CD.out 7 _ rfl).mono hl').cell hm; have q8 := ((CD.out 8 _ rfl).mono hl').cell hm; have q9 := ((CD.out 9 _ rfl).mono hl').cell hm; have q10 := ((CD.out 10 _ rfl).mono hl').cell hm; have q11 := ((CD.out 11 _ rfl).mono hl').cell hm; rw [Nat.add_zero] at q0; go_simp; done) | (rintro w' ⟨H', L', hl', hm⟩; have es := hm.eqs; simp only [EqsL] at es; have q0 := ((CD.out 0 _ rfl).mono hl').cell hm; have q1 := ((CD.out 1 _ rfl).mono hl').cell hm; have q2 := ((CD.out 2 _ rfl).mono hl').cell hm; have q3 := ((CD.out 3 _ rfl).mono hl').cell hm; have q4 := ((CD.out 4 _ rfl).mono hl').cell hm; have q5 := ((CD.out 5 _ rfl).mono hl').cell hm; have q6 := ((CD.out 6 _ rfl).mono hl').cell hm; have q7 := ((CD.out 7 _ rfl).mono hl').cell hm; have q8 := ((CD.out 8 _ rfl).mono hl').cell hm; have q9 := ((CD.out 9 _ rfl).mono hl').cell hm; have q10 := ((CD.out 10 _ rfl).mono hl').cell hm; have q11 := ((CD.out 11 _ rfl).mono hl').cell hm; rw [Nat.add_zero] at q0; go_simp; with_reducible rfl)
          simp only [Act.put, List.setIfInBounds_toArray, List.set_cons_zero, List.set_cons_succ, List.getElem_toArray, List.getElem_cons_succ, List.getElem_cons_zero]
          refine AnyFrom.three (i := 10) (j := 15) (l := 16) (by kernel_rfl) ?_ ?_ ?_
          · skip
            refine AnyFrom.op rfl (by kernel_rfl) fun K hK => ?_
            go_simp
            refine (DoU_any h HGD.out _ _ _ (F5.out.mono hle6) mD1 d _ _ DR.out (by have := HAL.out; omega)).mono ?_
            rw [hres]
            rintro e wd11 ⟨Ho10, vo3, vn3, vr3, rfl, hl12, f3, mD9⟩
            rw [hq] at f3
            rw [hq, hx]
            obtain ⟨ob3, oc3, nb3, nc3, rb3, rc3, rfl, rfl, rfl⟩ := f3.shape
            have F3 := Lib.hid f3; clear f3
            unfold HVal ValM.v
            have hs13 := Lib.hid (hs8.out.trans hl12)
            replace DR := Lib.hid (DR.out.mono hl12)
            have hle14 := hle6.trans hl12
            refine hK _ _ (.inr ⟨_, _, hs13.out, mD9⟩) ?_
            clear hK K HS
            try simp only [Act.put, List.setIfInBounds_toArray, List.set_cons_zero, List.set_cons_succ, List.getElem_toArray, List.getElem_cons_succ, List.getElem_cons_zero]
            have HS : (fun w' => ∃ H' L', Hle Hd2 H' ∧ Mem w0 H' ((w5.heap.size, .cells #[.int .i64 h.size, .int .i64 h.half, .int .i64 h.scan, .bool h.busy, .slice ob5 h.old.length oc5, .slice nb5 h.new.length nc5, .slice rb5 h.regs.length rc5] 31) :: (w4.heap.size, .cells #[.int .i64 h.size, .int .i64 h.half, .int .i64 h.scan, .bool h.busy, .slice ob h.old.length oc, .slice nb h.new.length nc, .slice rb h.regs.length rc] 31) :: (w.heap.size, PBox size n (.slice (some ⟨blk, off, none⟩) ds.length lc)) :: L') w') wd11 := ⟨_, _, hs13.out, mD9⟩
            refine AnyFrom.pure (i := 11) (v := ?_) rfl (by kernel_rfl) (by kernel_rfl) (by kernel_rfl) (by decide) (fun _ _ _ h => h) ⟨by kernel_rfl, ?_⟩ HS ?_
            rotate_left
            · first | (intro w'; go_simp; done) | (intro w'; go_simp; with_reducible rfl)
            simp only [Act.put, List.setIfInBounds_toArray, List.set_cons_zero, List.set_cons_succ, List.getElem_toArray, List.getElem_cons_succ, List.getElem_cons_zero]
            refine AnyFrom.pure (i := 12) (v := ?_) rfl (by kernel_rfl) (by kernel_rfl) (by kernel_rfl) (by decide) (fun _ _ _ h => h) ⟨by kernel_rfl, ?_⟩ HS ?_
            rotate_left
            · first | (intro w'; go_simp; done) | (intro w'; go_simp; with_reducible rfl)
            simp only [Act.put, List.setIfInBounds_toArray, List.set_cons_zero, List.set_cons_succ, List.getElem_toArray, List.getElem_cons_succ, List.getElem_cons_zero]
            refine AnyFrom.pure (i := 13) (v := ?_) rfl (by kernel_rfl) (by kernel_rfl) (by kernel_rfl) (by decide) (fun _ _ _ h => h) ⟨by kernel_rfl, ?_⟩ HS ?_
            rotate_left
            · first | (intro w'; go_simp; done) | (intro w'; go_simp; with_reducible rfl)
            simp only [Act.put, List.setIfInBounds_toArray, List.set_cons_zero, List.set_cons_succ, List.getElem_toArray, List.getElem_cons_succ, List.getElem_cons_zero]
            refine AnyFrom.pure (i := 14) (v := ?_) rfl (by kernel_rfl) (by kernel_rfl) (by kernel_rfl) (by decide) (fun _ _ _ h => h) ⟨by kernel_rfl, ?_⟩ HS ?_
            rotate_left
            · first | (intro w'; go_simp; done) | (intro w'; go_simp; with_reducible rfl)
            simp only [Act.put, List.setIfInBounds_toArray, List.set_cons_zero, List.set_cons_succ, List.getElem_toArray, List.getElem_cons_succ, List.getElem_cons_zero]
            refine AnyFrom.two (i := 15) (j := 16) (by kernel_rfl) ?_ ?_
            · skip
              refine AnyFrom.op rfl (by kernel_rfl) fun K hK => ?_
              go_simp
              generalize hxo : World.alloc wd11 _ = wA16
              have mA15 : Mem w0 Ho10 ((wd11.heap.size, .cells #[.int .i64 0, .int .i64 0, .int .i64 0, .bool false, .slice none 0 0, .slice none 0 0, .slice none 0 0] 31) :: (w5.heap.size, .cells #[.int .i64 h.size, .int .i64 h.half, .int .i64 h.scan, .bool h.busy, .slice ob5 h.old.length oc5, .slice nb5 h.new.length nc5, .slice rb5 h.regs.length rc5] 31) :: (w4.heap.size, .cells #[.int .i64 h.size, .int .i64 h.half, .int .i64 h.scan, .bool h.busy, .slice ob h.old.length oc, .slice nb h.new.length nc, .slice rb h.regs.length rc] 31) :: (w.heap.size, PBox size n (.slice (some ⟨blk, off, none⟩) ds.length lc)) :: L) wA16 := by rw [← hxo]; exact mD9.alloc _
              obtain ⟨x7, hxk⟩ : ∃ k, k = wd11.heap.size := ⟨_, rfl⟩
              rw [← hxk] at mA15
              rw [← hxk]
              replace mA15 := mA15.perm (perm_fr3 _ _ _ _ _)
              clear hxk hxo
              refine hK _ _ (.inr ⟨_, _, hs13.out, mA15⟩) ?_
              clear hK K HS
              try simp only [Act.put, List.setIfInBounds_toArray, List.set_cons_zero, List.set_cons_succ, List.getElem_toArray, List.getElem_cons_succ, List.getElem_cons_zero]
              have HS : (fun w' => ∃ H' L', Hle Hd2 H' ∧ Mem w0 H' ((w5.heap.size, .cells #[.int .i64 h.size, .int .i64 h.half, .int .i64 h.scan, .bool h.busy, .slice ob5 h.old.length oc5, .slice nb5 h.new.length nc5, .slice rb5 h.regs.length rc5] 31) :: (w4.heap.size, .cells #[.int .i64 h.size, .int .i64 h.half, .int .i64 h.scan, .bool h.busy, .slice ob h.old.length oc, .slice nb h.new.length nc, .slice rb h.regs.length rc] 31) :: (w.heap.size, PBox size n (.slice (some ⟨blk, off, none⟩) ds.length lc)) :: L') w') wA16 := ⟨_, _, hs13.out, mA15⟩
              refine AnyFrom.call (i := 16) (by kernel_rfl) rfl (by kernel_rfl) fun K hK => ?_
              go_simp
              generalize hxo : World.alloc wA16 _ = wA18
              have mA17 : Mem w0 Ho10 ((wA16.heap.size, .cells #[.int .u8 0, .int .i64 0, .string ByteArray.empty] 50) :: (w5.heap.size, .cells #[.int .i64 h.size, .int .i64 h.half, .int .i64 h.scan, .bool h.busy, .slice ob5 h.old.length oc5, .slice nb5 h.new.length nc5, .slice rb5 h.regs.length rc5] 31) :: (w4.heap.size, .cells #[.int .i64 h.size, .int .i64 h.half, .int .i64 h.scan, .bool h.busy, .slice ob h.old.length oc, .slice nb h.new.length nc, .slice rb h.regs.length rc] 31) :: (w.heap.size, PBox size n (.slice (some ⟨blk, off, none⟩) ds.length lc)) :: (x7, .cells #[.int .i64 0, .int .i64 0, .int .i64 0, .bool false, .slice none 0 0, .slice none 0 0, .slice none 0 0] 31) :: L) wA18 := by rw [← hxo]; exact mA15.alloc _
              obtain ⟨x8, hxk⟩ : ∃ k, k = wA16.heap.size := ⟨_, rfl⟩
              rw [← hxk] at mA17
              rw [← hxk]
              replace mA17 := mA17.perm (perm_fr3 _ _ _ _ _)
              clear hxk hxo
              refine hK _ _ (.inr ⟨_, _, hs13.out, mA17⟩) ?_
              clear hK K HS
              try simp only [Act.put, List.setIfInBounds_toArray, List.set_cons_zero, List.set_cons_succ, List.getElem_toArray, List.getElem_cons_succ, List.getElem_cons_zero]
              have HS : (fun w' => ∃ H' L', Hle Hd2 H' ∧ Mem w0 H' ((w5.heap.size, .cells #[.int .i64 h.size, .int .i64 h.half, .int .i64 h.scan, .bool h.busy, .slice ob5 h.old.length oc5, .slice nb5 h.new.length nc5, .slice rb5 h.regs.length rc5] 31) :: (w4.heap.size, .cells #[.int .i64 h.size, .int .i64 h.half, .int .i64 h.scan, .bool h.busy, .slice ob h.old.length oc, .slice nb h.new.length nc, .slice rb h.regs.length rc] 31) :: (w.heap.size, PBox size n (.slice (some ⟨blk, off, none⟩) ds.length lc)) :: L') w') wA18 := ⟨_, _, hs13.out, mA17⟩
              refine AnyFrom.call (i := 17) (by kernel_rfl) rfl (by kernel_rfl) fun K hK => ?_
              have es := mA17.eqs
              simp only [EqsL] at es
              have ns := mA17.nes
              simp only [NeL, NeFrom] at ns
              go_simp
              have mS19 := (((((((mA17.set (i := 0) (v := .int .i64 q.size) (.tail (.tail (.tail (.tail .head))))).set (i := 1) (v := .int .i64 q.half) (.tail (.tail (.tail (.tail .head))))).set (i := 2) (v := .int .i64 q.scan) (.tail (.tail (.tail (.tail .head))))).set (i := 3) (v := .bool q.busy) (.tail (.tail (.tail (.tail .head))))).set (i := 4) (v := .slice ob3 q.old.length oc3) (.tail (.tail (.tail (.tail .head))))).set (i := 5) (v := .slice nb3 q.new.length nc3) (.tail (.tail (.tail (.tail .head))))).set (i := 6) (v := .slice rb3 q.regs.length rc3) (.tail (.tail (.tail (.tail .head)))))
              simp only [List.setIfInBounds_toArray, List.set_cons_zero, List.set_cons_succ] at mS19
              generalize hwx : World.setCell _ _ _ = wS20
              rw [hwx] at mS19
              refine hK _ _ (.inr ⟨_, _, hs13.out, mS19⟩) ?_
              clear hK K HS
              try simp only [Act.put, List.setIfInBounds_toArray, List.set_cons_zero, List.set_cons_succ, List.getElem_toArray, List.getElem_cons_succ, List.getElem_cons_zero]
              clear es ns hwx
              have HS : (fun w' => ∃ H' L', Hle Hd2 H' ∧ Mem w0 H' ((w5.heap.size, .cells #[.int .i64 h.size, .int .i64 h.half, .int .i64 h.scan, .bool h.busy, .slice ob5 h.old.length oc5, .slice nb5 h.new.length nc5, .slice rb5 h.regs.length rc5] 31) :: (w4.heap.size, .cells #[.int .i64 h.size, .int .i64 h.half, .int .i64 h.scan, .bool h.busy, .slice ob h.old.length oc, .slice nb h.new.length nc, .slice rb h.regs.length rc] 31) :: (w.heap.size, PBox size n (.slice (some ⟨blk, off, none⟩) ds.length lc)) :: L') w') wS20 := ⟨_, _, hs13.out, mS19⟩
              refine AnyFrom.call (i := 18) (by kernel_rfl) rfl (by kernel_rfl) fun K hK => ?_
              have es := mS19.eqs
              simp only [EqsL] at es
              have ns := mS19.nes
              simp only [NeL, NeFrom] at ns
              go_simp
              have mS21 := (((mS19.set (i := 0) (v := .int .u8 rk) (.tail (.tail (.tail .head)))).set (i := 1) (v := .int .i64 rn) (.tail (.tail (.tail .head)))).set (i := 2) (v := .string rs) (.tail (.tail (.tail .head))))
              simp only [List.setIfInBounds_toArray, List.set_cons_zero, List.set_cons_succ] at mS21
              generalize hwx : World.setCell _ _ _ = wS22
              rw [hwx] at mS21
              refine hK _ _ (.inr ⟨_, _, hs13.out, mS21⟩) ?_
              clear hK K HS
              try simp only [Act.put, List.setIfInBounds_toArray, List.set_cons_zero, List.set_cons_succ, List.getElem_toArray, List.getElem_cons_succ, List.getElem_cons_zero]
              clear es ns hwx
              have HS : (fun w' => ∃ H' L', Hle Hd2 H' ∧ Mem w0 H' ((w5.heap.size, .cells #[.int .i64 h.size, .int .i64 h.half, .int .i64 h.scan, .bool h.busy, .slice ob5 h.old.length oc5, .slice nb5 h.new.length nc5, .slice rb5 h.regs.length rc5] 31) :: (w4.heap.size, .cells #[.int .i64 h.size, .int .i64 h.half, .int .i64 h.scan, .bool h.busy, .slice ob h.old.length oc, .slice nb h.new.length nc, .slice rb h.regs.length rc] 31) :: (w.heap.size, PBox size n (.slice (some ⟨blk, off, none⟩) ds.length lc)) :: L') w') wS22 := ⟨_, _, hs13.out, mS21⟩
              refine AnyFrom.pure (i := 19) (v := ?_) rfl (by kernel_rfl) (by kernel_rfl) (by kernel_rfl) (by decide) (fun _ _ _ h => h) ⟨by kernel_rfl, ?_⟩ HS ?_
              rotate_left
              · first | (intro w'; go_simp; done) | (intro w'; go_simp; with_reducible rfl)
              simp only [Act.put, List.setIfInBounds_toArray, List.set_cons_zero, List.set_cons_succ, List.getElem_toArray, List.getElem_cons_succ, List.getElem_cons_zero]
              refine AnyFrom.done (by kernel_rfl) ?_ _
              exact key x7 x8 blk2 off2 cap2 lb2 lc2 sb2 sc2 ob3 oc3 nb3 nc3 rb3 rc3 _ ⟨Ho10, hle14, F3.out, (mS21.perm (perm_sw3 _ _ _ _ _ _))⟩
            · skip
              refine AnyFrom.op rfl (by kernel_rfl) fun K hK => ?_
              go_simp
              generalize hxo : World.alloc wd11 _ = wA24
              have mA23 : Mem w0 Ho10 ((wd11.heap.size, .cells #[.int .u8 0, .int .i64 0, .string ByteArray.empty] 50) :: (w5.heap.size, .cells #[.int .i64 h.size, .int .i64 h.half, .int .i64 h.scan, .bool h.busy, .slice ob5 h.old.length oc5, .slice nb5 h.new.length nc5, .slice rb5 h.regs.length rc5] 31) :: (w4.heap.size, .cells #[.int .i64 h.size, .int .i64 h.half, .int .i64 h.scan, .bool h.busy, .slice ob h.old.length oc, .slice nb h.new.length nc, .slice rb h.regs.length rc] 31) :: (w.heap.size, PBox size n (.slice (some ⟨blk, off, none⟩) ds.length lc)) :: L) wA24 := by rw [← hxo]; exact mD9.alloc _
              obtain ⟨x8, hxk⟩ : ∃ k, k = wd11.heap.size := ⟨_, rfl⟩
              rw [← hxk] at mA23
              rw [← hxk]
              replace mA23 := mA23.perm (perm_fr3 _ _ _ _ _)
              clear hxk hxo
              refine hK _ _ (.inr ⟨_, _, hs13.out, mA23⟩) ?_
              clear hK K HS
              try simp only [Act.put, List.setIfInBounds_toArray, List.set_cons_zero, List.set_cons_succ, List.getElem_toArray, List.getElem_cons_succ, List.getElem_cons_zero]
              have HS : (fun w' => ∃ H' L', Hle Hd2 H' ∧ Mem w0 H' ((w5.heap.size, .cells #[.int .i64 h.size, .int .i64 h.half, .int .i64 h.scan, .bool h.busy, .slice ob5 h.old.length oc5, .slice nb5 h.new.length nc5, .slice rb5 h.regs.length rc5] 31) :: (w4.heap.size, .cells #[.int .i64 h.size, .int .i64 h.half, .int .i64 h.scan, .bool h.busy, .slice ob h.old.length oc, .slice nb h.new.length nc, .slice rb h.regs.length rc] 31) :: (w.heap.size, PBox size n (.slice (some ⟨blk, off, none⟩) ds.length lc)) :: L') w') wA24 := ⟨_, _, hs13.out, mA23⟩
              refine AnyFrom.call (i := 15) (by kernel_rfl) rfl (by kernel_rfl) fun K hK => ?_
              go_simp
              generalize hxo : World.alloc wA24 _ = wA26
              have mA25 : Mem w0 Ho10 ((wA24.heap.size, .cells #[.int .i64 0, .int .i64 0, .int .i64 0, .bool false, .slice none 0 0, .slice none 0 0, .slice none 0 0] 31) :: (w5.heap.size, .cells #[.int .i64 h.size, .int .i64 h.half, .int .i64 h.scan, .bool h.busy, .slice ob5 h.old.length oc5, .slice nb5 h.new.length nc5, .slice rb5 h.regs.length rc5] 31) :: (w4.heap.size, .cells #[.int .i64 h.size, .int .i64 h.half, .int .i64 h.scan, .bool h.busy, .slice ob h.old.length oc, .slice nb h.new.length nc, .slice rb h.regs.length rc] 31) :: (w.heap.size, PBox size n (.slice (some ⟨blk, off, none⟩) ds.length lc)) :: (x8, .cells #[.int .u8 0, .int .i64 0, .string ByteArray.empty] 50) :: L) wA26 := by rw [← hxo]; exact mA23.alloc _
              obtain ⟨x7, hxk⟩ : ∃ k, k = wA24.heap.size := ⟨_, rfl⟩
              rw [← hxk] at mA25
              rw [← hxk]
              replace mA25 := mA25.perm (perm_fr3 _ _ _ _ _)
              clear hxk hxo
              refine hK _ _ (.inr ⟨_, _, hs13.out, mA25⟩) ?_
              clear hK K HS
              try simp only [Act.put, List.setIfInBounds_toArray, List.set_cons_zero, List.set_cons_succ, List.getElem_toArray, List.getElem_cons_succ, List.getElem_cons_zero]
              have HS : (fun w' => ∃ H' L', Hle Hd2 H' ∧ Mem w0 H' ((w5.heap.size, .cells #[.int .i64 h.size, .int .i64 h.half, .int .i64 h.scan, .bool h.busy, .slice ob5 h.old.length oc5, .slice nb5 h.new.length nc5, .slice rb5 h.regs.length rc5] 31) :: (w4.heap.size, .cells #[.int .i64 h.size, .int .i64 h.half, .int .i64 h.scan, .bool h.busy, .slice ob h.old.length oc, .slice nb h.new.length nc, .slice rb h.regs.length rc] 31) :: (w.heap.size, PBox size n (.slice (some ⟨blk, off, none⟩) ds.length lc)) :: L') w') wA26 := ⟨_, _, hs13.out, mA25⟩
              refine AnyFrom.call (i := 17) (by kernel_rfl) rfl (by kernel_rfl) fun K hK => ?_
              have es := mA25.eqs
              simp only [EqsL] at es
              have ns := mA25.nes
              simp only [NeL, NeFrom] at ns
              go_simp
              have mS27 := (((((((mA25.set (i := 0) (v := .int .i64 q.size) (.tail (.tail (.tail .head)))).set (i := 1) (v := .int .i64 q.half) (.tail (.tail (.tail .head)))).set (i := 2) (v := .int .i64 q.scan) (.tail (.tail (.tail .head)))).set (i := 3) (v := .bool q.busy) (.tail (.tail (.tail .head)))).set (i := 4) (v := .slice ob3 q.old.length oc3) (.tail (.tail (.tail .head)))).set (i := 5) (v := .slice nb3 q.new.length nc3) (.tail (.tail (.tail .head)))).set (i := 6) (v := .slice rb3 q.regs.length rc3) (.tail (.tail (.tail .head))))
              simp only [List.setIfInBounds_toArray, List.set_cons_zero, List.set_cons_succ] at mS27
              generalize hwx : World.setCell _ _ _ = wS28
              rw [hwx] at mS27
              refine hK _ _ (.inr ⟨_, _, hs13.out, mS27⟩) ?_
              clear hK K HS
              try simp only [Act.put, List.setIfInBounds_toArray, List.set_cons_zero, List.set_cons_succ, List.getElem_toArray, List.getElem_cons_succ, List.getElem_cons_zero]
              clear es ns hwx
              have HS : (fun w' => ∃ H' L', Hle Hd2 H' ∧ Mem w0 H' ((w5.heap.size, .cells #[.int .i64 h.size, .int .i64 h.half, .int .i64 h.scan, .bool h.busy, .slice ob5 h.old.length oc5, .slice nb5 h.new.length nc5, .slice rb5 h.regs.length rc5] 31) :: (w4.heap.size, .cells #[.int .i64 h.size, .int .i64 h.half, .int .i64 h.scan, .bool h.busy, .slice ob h.old.length oc, .slice nb h.new.length nc, .slice rb h.regs.length rc] 31) :: (w.heap.size, PBox size n (.slice (some ⟨blk, off, none⟩) ds.length lc)) :: L') w') wS28 := ⟨_, _, hs13.out, mS27⟩
              refine AnyFrom.call (i := 18) (by kernel_rfl) rfl (by kernel_rfl) fun K hK => ?_
              have es := mS27.eqs
              simp only [EqsL] at es
              have ns := mS27.nes
              simp only [NeL, NeFrom] at ns
              go_simp
              have mS29 := (((mS27.set (i := 0) (v := .int .u8 rk) (.tail (.tail (.tail (.tail .head))))).set (i := 1) (v := .int .i64 rn) (.tail (.tail (.tail (.tail .head))))).set (i := 2) (v := .string rs) (.tail (.tail (.tail (.tail .head)))))
              simp only [List.setIfInBounds_toArray, List.set_cons_zero, List.set_cons_succ] at mS29
              generalize hwx : World.setCell _ _ _ = wS30
              rw [hwx] at mS29
              refine hK _ _ (.inr ⟨_, _, hs13.out, mS29⟩) ?_
              clear hK K HS
              try simp only [Act.put, List.setIfInBounds_toArray, List.set_cons_zero, List.set_cons_succ, List.getElem_toArray, List.getElem_cons_succ, List.getElem_cons_zero]
              clear es ns hwx
              have HS : (fun w' => ∃ H' L', Hle Hd2 H' ∧ Mem w0 H' ((w5.heap.size, .cells #[.int .i64 h.size, .int .i64 h.half, .int .i64 h.scan, .bool h.busy, .slice ob5 h.old.length oc5, .slice nb5 h.new.length nc5, .slice rb5 h.regs.length rc5] 31) :: (w4.heap.size, .cells #[.int .i64 h.size, .int .i64 h.half, .int .i64 h.scan, .bool h.busy, .slice ob h.old.length oc, .slice nb h.new.length nc, .slice rb h.regs.length rc] 31) :: (w.heap.size, PBox size n (.slice (some ⟨blk, off, none⟩) ds.length lc)) :: L') w') wS30 := ⟨_, _, hs13.out, mS29⟩
              refine AnyFrom.pure (i := 19) (v := ?_) rfl (by kernel_rfl) (by kernel_rfl) (by kernel_rfl) (by decide) (fun _ _ _ h => h) ⟨by kernel_rfl, ?_⟩ HS ?_
              rotate_left
              · first | (intro w'; go_simp; done) | (intro w'; go_simp; with_reducible rfl)
              simp only [Act.put, List.setIfInBounds_toArray, List.set_cons_zero, List.set_cons_succ, List.getElem_toArray, List.getElem_cons_succ, List.getElem_cons_zero]
              refine AnyFrom.done (by kernel_rfl) ?_ _
              exact key x7 x8 blk2 off2 cap2 lb2 lc2 sb2 sc2 ob3 oc3 nb3 nc3 rb3 rc3 _ ⟨Ho10, hle14, F3.out, mS29⟩
          · skip
            refine AnyFrom.op rfl (by kernel_rfl) fun K hK => ?_
            go_simp
            generalize hxo : World.alloc wd3 _ = wA32
            have mA31 : Mem w0 Hd2 ((wd3.heap.size, .cells #[.int .i64 0, .int .i64 0, .int .i64 0, .bool false, .slice none 0 0, .slice none 0 0, .slice none 0 0] 31) :: (w5.heap.size, .cells #[.int .i64 h.size, .int .i64 h.half, .int .i64 h.scan, .bool h.busy, .slice ob5 h.old.length oc5, .slice nb5 h.new.length nc5, .slice rb5 h.regs.length rc5] 31) :: (w4.heap.size, .cells #[.int .i64 h.size, .int .i64 h.half, .int .i64 h.scan, .bool h.busy, .slice ob h.old.length oc, .slice nb h.new.length nc, .slice rb h.regs.length rc] 31) :: (w.heap.size, PBox size n (.slice (some ⟨blk, off, none⟩) ds.length lc)) :: L) wA32 := by rw [← hxo]; exact mD1.alloc _
            obtain ⟨x7, hxk⟩ : ∃ k, k = wd3.heap.size := ⟨_, rfl⟩
            rw [← hxk] at mA31
            rw [← hxk]
            replace mA31 := mA31.perm (perm_fr3 _ _ _ _ _)
            clear hxk hxo
            refine hK _ _ (.inr ⟨_, _, hs8.out, mA31⟩) ?_
            clear hK K HS
            try simp only [Act.put, List.setIfInBounds_toArray, List.set_cons_zero, List.set_cons_succ, List.getElem_toArray, List.getElem_cons_succ, List.getElem_cons_zero]
            have HS : (fun w' => ∃ H' L', Hle Hd2 H' ∧ Mem w0 H' ((w5.heap.size, .cells #[.int .i64 h.size, .int .i64 h.half, .int .i64 h.scan, .bool h.busy, .slice ob5 h.old.length oc5, .slice nb5 h.new.length nc5, .slice rb5 h.regs.length rc5] 31) :: (w4.heap.size, .cells #[.int .i64 h.size, .int .i64 h.half, .int .i64 h.scan, .bool h.busy, .slice ob h.old.length oc, .slice nb h.new.length nc, .slice rb h.regs.length rc] 31) :: (w.heap.size, PBox size n (.slice (some ⟨blk, off, none⟩) ds.length lc)) :: L') w') wA32 := ⟨_, _, hs8.out, mA31⟩
            refine AnyFrom.two (i := 10) (j := 16) (by kernel_rfl) ?_ ?_
            · skip
              refine AnyFrom.op rfl (by kernel_rfl) fun K hK => ?_
              go_simp
              refine (DoU_any h HGD.out _ _ _ (F5.out.mono hle6) mA31 d _ _ DR.out (by have := HAL.out; omega)).mono ?_
              rw [hres]
              rintro e wd35 ⟨Ho34, vo3, vn3, vr3, rfl, hl36, f3, mD33⟩
              rw [hq] at f3
              rw [hq, hx]
              obtain ⟨ob3, oc3, nb3, nc3, rb3, rc3, rfl, rfl, rfl⟩ := f3.shape
              have F3 := Lib.hid f3; clear f3
              unfold HVal ValM.v
              have hs37 := Lib.hid (hs8.out.trans hl36)
              replace DR := Lib.hid (DR.out.mono hl36)
              have hle38 := hle6.trans hl36
              refine hK _ _ (.inr ⟨_, _, hs37.out, mD33⟩) ?_
              clear hK K HS
              try simp only [Act.put, List.setIfInBounds_toArray, List.set_cons_zero, List.set_cons_succ, List.getElem_toArray, List.getElem_cons_succ, List.getElem_cons_zero]
              have HS : (fun w' => ∃ H' L', Hle Hd2 H' ∧ Mem w0 H' ((w5.heap.size, .cells #[.int .i64 h.size, .int .i64 h.half, .int .i64 h.scan, .bool h.busy, .slice ob5 h.old.length oc5, .slice nb5 h.new.length nc5, .slice rb5 h.regs.length rc5] 31) :: (w4.heap.size, .cells #[.int .i64 h.size, .int .i64 h.half, .int .i64 h.scan, .bool h.busy, .slice ob h.old.length oc, .slice nb h.new.length nc, .slice rb h.regs.length rc] 31) :: (w.heap.size, PBox size n (.slice (some ⟨blk, off, none⟩) ds.length lc)) :: L') w') wd35 := ⟨_, _, hs37.out, mD33⟩
              refine AnyFrom.pure (i := 11) (v := ?_) rfl (by kernel_rfl) (by kernel_rfl) (by kernel_rfl) (by decide) (fun _ _ _ h => h) ⟨by kernel_rfl, ?_⟩ HS ?_
              rotate_left
              · first | (intro w'; go_simp; done) | (intro w'; go_simp; with_reducible rfl)
              simp only [Act.put, List.setIfInBounds_toArray, List.set_cons_zero, List.set_cons_succ, List.getElem_toArray, List.getElem_cons_succ, List.getElem_cons_zero]
              refine AnyFrom.pure (i := 12) (v := ?_) rfl (by kernel_rfl) (by kernel_rfl) (by kernel_rfl) (by decide) (fun _ _ _ h => h) ⟨by kernel_rfl, ?_⟩ HS ?_
              rotate_left
              · first | (intro w'; go_simp; done) | (intro w'; go_simp; with_reducible rfl)
              simp only [Act.put, List.setIfInBounds_toArray, List.set_cons_zero, List.set_cons_succ, List.getElem_toArray, List.getElem_cons_succ, List.getElem_cons_zero]
              refine AnyFrom.pure (i := 13) (v := ?_) rfl (by kernel_rfl) (by kernel_rfl) (by kernel_rfl) (by decide) (fun _ _ _ h => h) ⟨by kernel_rfl, ?_⟩ HS ?_
              rotate_left
              · first | (intro w'; go_simp; done) | (intro w'; go_simp; with_reducible rfl)
              simp only [Act.put, List.setIfInBounds_toArray, List.set_cons_zero, List.set_cons_succ, List.getElem_toArray, List.getElem_cons_succ, List.getElem_cons_zero]
              refine AnyFrom.pure (i := 14) (v := ?_) rfl (by kernel_rfl) (by kernel_rfl) (by kernel_rfl) (by decide) (fun _ _ _ h => h) ⟨by kernel_rfl, ?_⟩ HS ?_
              rotate_left
              · first | (intro w'; go_simp; done) | (intro w'; go_simp; with_reducible rfl)
              simp only [Act.put, List.setIfInBounds_toArray, List.set_cons_zero, List.set_cons_succ, List.getElem_toArray, List.getElem_cons_succ, List.getElem_cons_zero]
              refine AnyFrom.call (i := 16) (by kernel_rfl) rfl (by kernel_rfl) fun K hK => ?_
              go_simp
              generalize hxo : World.alloc wd35 _ = wA40
              have mA39 : Mem w0 Ho34 ((wd35.heap.size, .cells #[.int .u8 0, .int .i64 0, .string ByteArray.empty] 50) :: (w5.heap.size, .cells #[.int .i64 h.size, .int .i64 h.half, .int .i64 h.scan, .bool h.busy, .slice ob5 h.old.length oc5, .slice nb5 h.new.length nc5, .slice rb5 h.regs.length rc5] 31) :: (w4.heap.size, .cells #[.int .i64 h.size, .int .i64 h.half, .int .i64 h.scan, .bool h.busy, .slice ob h.old.length oc, .slice nb h.new.length nc, .slice rb h.regs.length rc] 31) :: (w.heap.size, PBox size n (.slice (some ⟨blk, off, none⟩) ds.length lc)) :: (x7, .cells #[.int .i64 0, .int .i64 0, .int .i64 0, .bool false, .slice none 0 0, .slice none 0 0, .slice none 0 0] 31) :: L) wA40 := by rw [← hxo]; exact mD33.alloc _
              obtain ⟨x8, hxk⟩ : ∃ k, k = wd35.heap.size := ⟨_, rfl⟩
              rw [← hxk] at mA39
              rw [← hxk]
              replace mA39 := mA39.perm (perm_fr3 _ _ _ _ _)
              clear hxk hxo
              refine hK _ _ (.inr ⟨_, _, hs37.out, mA39⟩) ?_
              clear hK K HS
              try simp only [Act.put, List.setIfInBounds_toArray, List.set_cons_zero, List.set_cons_succ, List.getElem_toArray, List.getElem_cons_succ, List.getElem_cons_zero]
              have HS : (fun w' => ∃ H' L', Hle Hd2 H' ∧ Mem w0 H' ((w5.heap.size, .cells #[.int .i64 h.size, .int .i64 h.half, .int .i64 h.scan, .bool h.busy, .slice ob5 h.old.length oc5, .slice nb5 h.new.length nc5, .slice rb5 h.regs.length rc5] 31) :: (w4.heap.size, .cells #[.int .i64 h.size, .int .i64 h.half, .int .i64 h.scan, .bool h.busy, .slice ob h.old.length oc, .slice nb h.new.length nc, .slice rb h.regs.length rc] 31) :: (w.heap.size, PBox size n (.slice (some ⟨blk, off, none⟩) ds.length lc)) :: L') w') wA40 := ⟨_, _, hs37.out, mA39⟩
              refine AnyFrom.call (i := 17) (by kernel_rfl) rfl (by kernel_rfl) fun K hK => ?_
              have es := mA39.eqs
              simp only [EqsL] at es
              have ns := mA39.nes
              simp only [NeL, NeFrom] at ns
              go_simp
              have mS41 := (((((((mA39.set (i := 0) (v := .int .i64 q.size) (.tail (.tail (.tail (.tail .head))))).set (i := 1) (v := .int .i64 q.half) (.tail (.tail (.tail (.tail .head))))).set (i := 2) (v := .int .i64 q.scan) (.tail (.tail (.tail (.tail .head))))).set (i := 3) (v := .bool q.busy) (.tail (.tail (.tail (.tail .head))))).set (i := 4) (v := .slice ob3 q.old.length oc3) (.tail (.tail (.tail (.tail .head))))).set (i := 5) (v := .slice nb3 q.new.length nc3) (.tail (.tail (.tail (.tail .head))))).set (i := 6) (v := .slice rb3 q.regs.length rc3) (.tail (.tail (.tail (.tail .head)))))
              simp only [List.setIfInBounds_toArray, List.set_cons_zero, List.set_cons_succ] at mS41
              generalize hwx : World.setCell _ _ _ = wS42
              rw [hwx] at mS41
              refine hK _ _ (.inr ⟨_, _, hs37.out, mS41⟩) ?_
              clear hK K HS
              try simp only [Act.put, List.setIfInBounds_toArray, List.set_cons_zero, List.set_cons_succ, List.getElem_toArray, List.getElem_cons_succ, List.getElem_cons_zero]
              clear es ns hwx
              have HS : (fun w' => ∃ H' L', Hle Hd2 H' ∧ Mem w0 H' ((w5.heap.size, .cells #[.int .i64 h.size, .int .i64 h.half, .int .i64 h.scan, .bool h.busy, .slice ob5 h.old.length oc5, .slice nb5 h.new.length nc5, .slice rb5 h.regs.length rc5] 31) :: (w4.heap.size, .cells #[.int .i64 h.size, .int .i64 h.half, .int .i64 h.scan, .bool h.busy, .slice ob h.old.length oc, .slice nb h.new.length nc, .slice rb h.regs.length rc] 31) :: (w.heap.size, PBox size n (.slice (some ⟨blk, off, none⟩) ds.length lc)) :: L') w') wS42 := ⟨_, _, hs37.out, mS41⟩
              refine AnyFrom.call (i := 18) (by kernel_rfl) rfl (by kernel_rfl) fun K hK => ?_
              have es := mS41.eqs
              simp only [EqsL] at es
              have ns := mS41.nes
              simp only [NeL, NeFrom] at ns
              go_simp
              have mS43 := (((mS41.set (i := 0) (v := .int .u8 rk) (.tail (.tail (.tail .head)))).set (i := 1) (v := .int .i64 rn) (.tail (.tail (.tail .head)))).set (i := 2) (v := .string rs) (.tail (.tail (.tail .head))))
              simp only [List.setIfInBounds_toArray, List.set_cons_zero, List.set_cons_succ] at mS43
              generalize hwx : World.setCell _ _ _ = wS44
              rw [hwx] at mS43
              refine hK _ _ (.inr ⟨_, _, hs37.out, mS43⟩) ?_
              clear hK K HS
              try simp only [Act.put, List.setIfInBounds_toArray, List.set_cons_zero, List.set_cons_succ, List.getElem_toArray, List.getElem_cons_succ, List.getElem_cons_zero]
              clear es ns hwx
              have HS : (fun w' => ∃ H' L', Hle Hd2 H' ∧ Mem w0 H' ((w5.heap.size, .cells #[.int .i64 h.size, .int .i64 h.half, .int .i64 h.scan, .bool h.busy, .slice ob5 h.old.length oc5, .slice nb5 h.new.length nc5, .slice rb5 h.regs.length rc5] 31) :: (w4.heap.size, .cells #[.int .i64 h.size, .int .i64 h.half, .int .i64 h.scan, .bool h.busy, .slice ob h.old.length oc, .slice nb h.new.length nc, .slice rb h.regs.length rc] 31) :: (w.heap.size, PBox size n (.slice (some ⟨blk, off, none⟩) ds.length lc)) :: L') w') wS44 := ⟨_, _, hs37.out, mS43⟩
              refine AnyFrom.pure (i := 19) (v := ?_) rfl (by kernel_rfl) (by kernel_rfl) (by kernel_rfl) (by decide) (fun _ _ _ h => h) ⟨by kernel_rfl, ?_⟩ HS ?_
              rotate_left
              · first | (intro w'; go_simp; done) | (intro w'; go_simp; with_reducible rfl)
              simp only [Act.put, List.setIfInBounds_toArray, List.set_cons_zero, List.set_cons_succ, List.getElem_toArray, List.getElem_cons_succ, List.getElem_cons_zero]
              refine AnyFrom.done (by kernel_rfl) ?_ _
              exact key x7 x8 blk2 off2 cap2 lb2 lc2 sb2 sc2 ob3 oc3 nb3 nc3 rb3 rc3 _ ⟨Ho34, hle38, F3.out, (mS43.perm (perm_sw3 _ _ _ _ _ _))⟩
            · skip
              refine AnyFrom.op rfl (by kernel_rfl) fun K hK => ?_
              go_simp
              generalize hxo : World.alloc wA32 _ = wA46
              have mA45 : Mem w0 Hd2 ((wA32.heap.size, .cells #[.int .u8 0, .int .i64 0, .string ByteArray.empty] 50) :: (w5.heap.size, .cells #[.int .i64 h.size, .int .i64 h.half, .int .i64 h.scan, .bool h.busy, .slice ob5 h.old.length oc5, .slice nb5 h.new.length nc5, .slice rb5 h.regs.length rc5] 31) :: (w4.heap.size, .cells #[.int .i64 h.size, .int .i64 h.half, .int .i64 h.scan, .bool h.busy, .slice ob h.old.length oc, .slice nb h.new.length nc, .slice rb h.regs.length rc] 31) :: (w.heap.size, PBox size n (.slice (some ⟨blk, off, none⟩) ds.length lc)) :: (x7, .cells #[.int .i64 0, .int .i64 0, .int .i64 0, .bool false, .slice none 0 0, .slice none 0 0, .slice none 0 0] 31) :: L) wA46 := by rw [← hxo]; exact mA31.alloc _
              obtain ⟨x8, hxk⟩ : ∃ k, k = wA32.heap.size := ⟨_, rfl⟩
              rw [← hxk] at mA45
              rw [← hxk]
              replace mA45 := mA45.perm (perm_fr3 _ _ _ _ _)
              clear hxk hxo
              refine hK _ _ (.inr ⟨_, _, hs8.out, mA45⟩) ?_
              clear hK K HS
              try simp only [Act.put, List.setIfInBounds_toArray, List.set_cons_zero, List.set_cons_succ, List.getElem_toArray, List.getElem_cons_succ, List.getElem_cons_zero]
              have HS : (fun w' => ∃ H' L', Hle Hd2 H' ∧ Mem w0 H' ((w5.heap.size, .cells #[.int .i64 h.size, .int .i64 h.half, .int .i64 h.scan, .bool h.busy, .slice ob5 h.old.length oc5, .slice nb5 h.new.length nc5, .slice rb5 h.regs.length rc5] 31) :: (w4.heap.size, .cells #[.int .i64 h.size, .int .i64 h.half, .int .i64 h.scan, .bool h.busy, .slice ob h.old.length oc, .slice nb h.new.length nc, .slice rb h.regs.length rc] 31) :: (w.heap.size, PBox size n (.slice (some ⟨blk, off, none⟩) ds.length lc)) :: L') w') wA46 := ⟨_, _, hs8.out, mA45⟩
              refine AnyFrom.call (i := 10) (by kernel_rfl) rfl (by kernel_rfl) fun K hK => ?_
              go_simp
              refine (DoU_any h HGD.out _ _ _ (F5.out.mono hle6) mA45 d _ _ DR.out (by have := HAL.out; omega)).mono ?_
              rw [hres]
              rintro e wd49 ⟨Ho48, vo3, vn3, vr3, rfl, hl50, f3, mD47⟩
              rw [hq] at f3
              rw [hq, hx]
              obtain ⟨ob3, oc3, nb3, nc3, rb3, rc3, rfl, rfl, rfl⟩ := f3.shape
              have F3 := Lib.hid f3; clear f3
              unfold HVal ValM.v
              have hs51 := Lib.hid (hs8.out.trans hl50)
              replace DR := Lib.hid (DR.out.mono hl50)
              have hle52 := hle6.trans hl50
              refine hK _ _ (.inr ⟨_, _, hs51.out, mD47⟩) ?_
              clear hK K HS
              try simp only [Act.put, List.setIfInBounds_toArray, List.set_cons_zero, List.set_cons_succ, List.getElem_toArray, List.getElem_cons_succ, List.getElem_cons_zero]
              have HS : (fun w' => ∃ H' L', Hle Hd2 H' ∧ Mem w0 H' ((w5.heap.size, .cells #[.int .i64 h.size, .int .i64 h.half, .int .i64 h.scan, .bool h.busy, .slice ob5 h.old.length oc5, .slice nb5 h.new.length nc5, .slice rb5 h.regs.length rc5] 31) :: (w4.heap.size, .cells #[.int .i64 h.size, .int .i64 h.half, .int .i64 h.scan, .bool h.busy, .slice ob h.old.length oc, .slice nb h.new.length nc, .slice rb h.regs.length rc] 31) :: (w.heap.size, PBox size n (.slice (some ⟨blk, off, none⟩) ds.length lc)) :: L') w') wd49 := ⟨_, _, hs51.out, mD47⟩
              refine AnyFrom.pure (i := 11) (v := ?_) rfl (by kernel_rfl) (by kernel_rfl) (by kernel_rfl) (by decide) (fun _ _ _ h => h) ⟨by kernel_rfl, ?_⟩ HS ?_
              rotate_left
              · first | (intro w'; go_simp; done) | (intro w'; go_simp; with_reducible rfl)
              simp only [Act.put, List.setIfInBounds_toArray, List.set_cons_zero, List.set_cons_succ, List.getElem_toArray, List.getElem_cons_succ, List.getElem_cons_zero]
              refine AnyFrom.pure (i := 12) (v := ?_) rfl (by kernel_rfl) (by kernel_rfl) (by kernel_rfl) (by decide) (fun _ _ _ h => h) ⟨by kernel_rfl, ?_⟩ HS ?_
              rotate_left
              · first | (intro w'; go_simp; done) | (intro w'; go_simp; with_reducible rfl)
              simp only [Act.put, List.setIfInBounds_toArray, List.set_cons_zero, List.set_cons_succ, List.getElem_toArray, List.getElem_cons_succ, List.getElem_cons_zero]
              refine AnyFrom.pure (i := 13) (v := ?_) rfl (by kernel_rfl) (by kernel_rfl) (by kernel_rfl) (by decide) (fun _ _ _ h => h) ⟨by kernel_rfl, ?_⟩ HS ?_
              rotate_left
              · first | (intro w'; go_simp; done) | (intro w'; go_simp; with_reducible rfl)
              simp only [Act.put, List.setIfInBounds_toArray, List.set_cons_zero, List.set_cons_succ, List.getElem_toArray, List.getElem_cons_succ, List.getElem_cons_zero]
              refine AnyFrom.pure (i := 14) (v := ?_) rfl (by kernel_rfl) (by kernel_rfl) (by kernel_rfl) (by decide) (fun _ _ _ h => h) ⟨by kernel_rfl, ?_⟩ HS ?_
              rotate_left
              · first | (intro w'; go_simp; done) | (intro w'; go_simp; with_reducible rfl)
              simp only [Act.put, List.setIfInBounds_toArray, List.set_cons_zero, List.set_cons_succ, List.getElem_toArray, List.getElem_cons_succ, List.getElem_cons_zero]
              refine AnyFrom.call (i := 17) (by kernel_rfl) rfl (by kernel_rfl) fun K hK => ?_
              have es := mD47.eqs
              simp only [EqsL] at es
              have ns := mD47.nes
              simp only [NeL, NeFrom] at ns
              go_simp
              have mS53 := (((((((mD47.set (i := 0) (v := .int .i64 q.size) (.tail (.tail (.tail (.tail .head))))).set (i := 1) (v := .int .i64 q.half) (.tail (.tail (.tail (.tail .head))))).set (i := 2) (v := .int .i64 q.scan) (.tail (.tail (.tail (.tail .head))))).set (i := 3) (v := .bool q.busy) (.tail (.tail (.tail (.tail .head))))).set (i := 4) (v := .slice ob3 q.old.length oc3) (.tail (.tail (.tail (.tail .head))))).set (i := 5) (v := .slice nb3 q.new.length nc3) (.tail (.tail (.tail (.tail .head))))).set (i := 6) (v := .slice rb3 q.regs.length rc3) (.tail (.tail (.tail (.tail .head)))))
              simp only [List.setIfInBounds_toArray, List.set_cons_zero, List.set_cons_succ] at mS53
              generalize hwx : World.setCell _ _ _ = wS54
              rw [hwx] at mS53
              refine hK _ _ (.inr ⟨_, _, hs51.out, mS53⟩) ?_
              clear hK K HS
              try simp only [Act.put, List.setIfInBounds_toArray, List.set_cons_zero, List.set_cons_succ, List.getElem_toArray, List.getElem_cons_succ, List.getElem_cons_zero]
              clear es ns hwx
              have HS : (fun w' => ∃ H' L', Hle Hd2 H' ∧ Mem w0 H' ((w5.heap.size, .cells #[.int .i64 h.size, .int .i64 h.half, .int .i64 h.scan, .bool h.busy, .slice ob5 h.old.length oc5, .slice nb5 h.new.length nc5, .slice rb5 h.regs.length rc5] 31) :: (w4.heap.size, .cells #[.int .i64 h.size, .int .i64 h.half, .int .i64 h.scan, .bool h.busy, .slice ob h.old.length oc, .slice nb h.new.length nc, .slice rb h.regs.length rc] 31) :: (w.heap.size, PBox size n (.slice (some ⟨blk, off, none⟩) ds.length lc)) :: L') w') wS54 := ⟨_, _, hs51.out, mS53⟩
              refine AnyFrom.call (i := 18) (by kernel_rfl) rfl (by kernel_rfl) fun K hK => ?_
              have es := mS53.eqs
              simp only [EqsL] at es
              have ns := mS53.nes
              simp only [NeL, NeFrom] at ns
              go_simp
              have mS55 := (((mS53.set (i := 0) (v := .int .u8 rk) (.tail (.tail (.tail .head)))).set (i := 1) (v := .int .i64 rn) (.tail (.tail (.tail .head)))).set (i := 2) (v := .string rs) (.tail (.tail (.tail .head))))
              simp only [List.setIfInBounds_toArray, List.set_cons_zero, List.set_cons_succ] at mS55
              generalize hwx : World.setCell _ _ _ = wS56
              rw [hwx] at mS55
              refine hK _ _ (.inr ⟨_, _, hs51.out, mS55⟩) ?_
              clear hK K HS
              try simp only [Act.put, List.setIfInBounds_toArray, List.set_cons_zero, List.set_cons_succ, List.getElem_toArray, List.getElem_cons_succ, List.getElem_cons_zero]
              clear es ns hwx
              have HS : (fun w' => ∃ H' L', Hle Hd2 H' ∧ Mem w0 H' ((w5.heap.size, .cells #[.int .i64 h.size, .int .i64 h.half, .int .i64 h.scan, .bool h.busy, .slice ob5 h.old.length oc5, .slice nb5 h.new.length nc5, .slice rb5 h.regs.length rc5] 31) :: (w4.heap.size, .cells #[.int .i64 h.size, .int .i64 h.half, .int .i64 h.scan, .bool h.busy, .slice ob h.old.length oc, .slice nb h.new.length nc, .slice rb h.regs.length rc] 31) :: (w.heap.size, PBox size n (.slice (some ⟨blk, off, none⟩) ds.length lc)) :: L') w') wS56 := ⟨_, _, hs51.out, mS55⟩
              refine AnyFrom.pure (i := 19) (v := ?_) rfl (by kernel_rfl) (by kernel_rfl) (by kernel_rfl) (by decide) (fun _ _ _ h => h) ⟨by kernel_rfl, ?_⟩ HS ?_
              rotate_left
              · first | (intro w'; go_simp; done) | (intro w'; go_simp; with_reducible rfl)
              simp only [Act.put, List.setIfInBounds_toArray, List.set_cons_zero, List.set_cons_succ, List.getElem_toArray, List.getElem_cons_succ, List.getElem_cons_zero]
              refine AnyFrom.done (by kernel_rfl) ?_ _
              exact key x7 x8 blk2 off2 cap2 lb2 lc2 sb2 sc2 ob3 oc3 nb3 nc3 rb3 rc3 _ ⟨Ho48, hle52, F3.out, (mS55.perm (perm_sw3 _ _ _ _ _ _))⟩
          · skip
            refine AnyFrom.op rfl (by kernel_rfl) fun K hK => ?_
            go_simp
            generalize hxo : World.alloc wd3 _ = wA58
            have mA57 : Mem w0 Hd2 ((wd3.heap.size, .cells #[.int .u8 0, .int .i64 0, .string ByteArray.empty] 50) :: (w5.heap.size, .cells #[.int .i64 h.size, .int .i64 h.half, .int .i64 h.scan, .bool h.busy, .slice ob5 h.old.length oc5, .slice nb5 h.new.length nc5, .slice rb5 h.regs.length rc5] 31) :: (w4.heap.size, .cells #[.int .i64 h.size, .int .i64 h.half, .int .i64 h.scan, .bool h.busy, .slice ob h.old.length oc, .slice nb h.new.length nc, .slice rb h.regs.length rc] 31) :: (w.heap.size, PBox size n (.slice (some ⟨blk, off, none⟩) ds.length lc)) :: L) wA58 := by rw [← hxo]; exact mD1.alloc _
            obtain ⟨x8, hxk⟩ : ∃ k, k = wd3.heap.size := ⟨_, rfl⟩
            rw [← hxk] at mA57
            rw [← hxk]
            replace mA57 := mA57.perm (perm_fr3 _ _ _ _ _)
            clear hxk hxo
            refine hK _ _ (.inr ⟨_, _, hs8.out, mA57⟩) ?_
            clear hK K HS
            try simp only [Act.put, List.setIfInBounds_toArray, List.set_cons_zero, List.set_cons_succ, List.getElem_toArray, List.getElem_cons_succ, List.getElem_cons_zero]
            have HS : (fun w' => ∃ H' L', Hle Hd2 H' ∧ Mem w0 H' ((w5.heap.size, .cells #[.int .i64 h.size, .int .i64 h.half, .int .i64 h.scan, .bool h.busy, .slice ob5 h.old.length oc5, .slice nb5 h.new.length nc5, .slice rb5 h.regs.length rc5] 31) :: (w4.heap.size, .cells #[.int .i64 h.size, .int .i64 h.half, .int .i64 h.scan, .bool h.busy, .slice ob h.old.length oc, .slice nb h.new.length nc, .slice rb h.regs.length rc] 31) :: (w.heap.size, PBox size n (.slice (some ⟨blk, off, none⟩) ds.length lc)) :: L') w') wA58 := ⟨_, _, hs8.out, mA57⟩
            refine AnyFrom.two (i := 10) (j := 15) (by kernel_rfl) ?_ ?_
            · skip
              refine AnyFrom.op rfl (by kernel_rfl) fun K hK => ?_
              go_simp
              refine (DoU_any h HGD.out _ _ _ (F5.out.mono hle6) mA57 d _ _ DR.out (by have := HAL.out; omega)).mono ?_
              rw [hres]
              rintro e wd61 ⟨Ho60, vo3, vn3, vr3, rfl, hl62, f3, mD59⟩
              rw [hq] at f3
              rw [hq, hx]
              obtain ⟨ob3, oc3, nb3, nc3, rb3, rc3, rfl, rfl, rfl⟩ := f3.shape
              have F3 := Lib.hid f3; clear f3
              unfold HVal ValM.v
              have hs63 := Lib.hid (hs8.out.trans hl62)
              replace DR := Lib.hid (DR.out.mono hl62)
              have hle64 := hle6.trans hl62
              refine hK _ _ (.inr ⟨_, _, hs63.out, mD59⟩) ?_
              clear hK K HS
              try simp only [Act.put, List.setIfInBounds_toArray, List.set_cons_zero, List.set_cons_succ, List.getElem_toArray, List.getElem_cons_succ, List.getElem_cons_zero]
              have HS : (fun w' => ∃ H' L', Hle Hd2 H' ∧ Mem w0 H' ((w5.heap.size, .cells #[.int .i64 h.size, .int .i64 h.half, .int .i64 h.scan, .bool h.busy, .slice ob5 h.old.length oc5, .slice nb5 h.new.length nc5, .slice rb5 h.regs.length rc5] 31) :: (w4.heap.size, .cells #[.int .i64 h.size, .int .i64 h.half, .int .i64 h.scan, .bool h.busy, .slice ob h.old.length oc, .slice nb h.new.length nc, .slice rb h.regs.length rc] 31) :: (w.heap.size, PBox size n (.slice (some ⟨blk, off, none⟩) ds.length lc)) :: L') w') wd61 := ⟨_, _, hs63.out, mD59⟩
              refine AnyFrom.pure (i := 11) (v := ?_) rfl (by kernel_rfl) (by kernel_rfl) (by kernel_rfl) (by decide) (fun _ _ _ h => h) ⟨by kernel_rfl, ?_⟩ HS ?_
              rotate_left
              · first | (intro w'; go_simp; done) | (intro w'; go_simp; with_reducible rfl)
              simp only [Act.put, List.setIfInBounds_toArray, List.set_cons_zero, List.set_cons_succ, List.getElem_toArray, List.getElem_cons_succ, List.getElem_cons_zero]
              refine AnyFrom.pure (i := 12) (v := ?_) rfl (by kernel_rfl) (by kernel_rfl) (by kernel_rfl) (by decide) (fun _ _ _ h => h) ⟨by kernel_rfl, ?_⟩ HS ?_
              rotate_left
              · first | (intro w'; go_simp; done) | (intro w'; go_simp; with_reducible rfl)
              simp only [Act.put, List.setIfInBounds_toArray, List.set_cons_zero, List.set_cons_succ, List.getElem_toArray, List.getElem_cons_succ, List.getElem_cons_zero]
              refine AnyFrom.pure (i := 13) (v := ?_) rfl (by kernel_rfl) (by kernel_rfl) (by kernel_rfl) (by decide) (fun _ _ _ h => h) ⟨by kernel_rfl, ?_⟩ HS ?_
              rotate_left
              · first | (intro w'; go_simp; done) | (intro w'; go_simp; with_reducible rfl)
              simp only [Act.put, List.setIfInBounds_toArray, List.set_cons_zero, List.set_cons_succ, List.getElem_toArray, List.getElem_cons_succ, List.getElem_cons_zero]
              refine AnyFrom.pure (i := 14) (v := ?_) rfl (by kernel_rfl) (by kernel_rfl) (by kernel_rfl) (by decide) (fun _ _ _ h => h) ⟨by kernel_rfl, ?_⟩ HS ?_
              rotate_left
              · first | (intro w'; go_simp; done) | (intro w'; go_simp; with_reducible rfl)
              simp only [Act.put, List.setIfInBounds_toArray, List.set_cons_zero, List.set_cons_succ, List.getElem_toArray, List.getElem_cons_succ, List.getElem_cons_zero]
              refine AnyFrom.call (i := 15) (by kernel_rfl) rfl (by kernel_rfl) fun K hK => ?_
              go_simp
              generalize hxo : World.alloc wd61 _ = wA66
              have mA65 : Mem w0 Ho60 ((wd61.heap.size, .cells #[.int .i64 0, .int .i64 0, .int .i64 0, .bool false, .slice none 0 0, .slice none 0 0, .slice none 0 0] 31) :: (w5.heap.size, .cells #[.int .i64 h.size, .int .i64 h.half, .int .i64 h.scan, .bool h.busy, .slice ob5 h.old.length oc5, .slice nb5 h.new.length nc5, .slice rb5 h.regs.length rc5] 31) :: (w4.heap.size, .cells #[.int .i64 h.size, .int .i64 h.half, .int .i64 h.scan, .bool h.busy, .slice ob h.old.length oc, .slice nb h.new.length nc, .slice rb h.regs.length rc] 31) :: (w.heap.size, PBox size n (.slice (some ⟨blk, off, none⟩) ds.length lc)) :: (x8, .cells #[.int .u8 0, .int .i64 0, .string ByteArray.empty] 50) :: L) wA66 := by rw [← hxo]; exact mD59.alloc _
              obtain ⟨x7, hxk⟩ : ∃ k, k = wd61.heap.size := ⟨_, rfl⟩
              rw [← hxk] at mA65
              rw [← hxk]
              replace mA65 := mA65.perm (perm_fr3 _ _ _ _ _)
              clear hxk hxo
              refine hK _ _ (.inr ⟨_, _, hs63.out, mA65⟩) ?_
              clear hK K HS
              try simp only [Act.put, List.setIfInBounds_toArray, List.set_cons_zero, List.set_cons_succ, List.getElem_toArray, List.getElem_cons_succ, List.getElem_cons_zero]
              have HS : (fun w' => ∃ H' L', Hle Hd2 H' ∧ Mem w0 H' ((w5.heap.size, .cells #[.int .i64 h.size, .int .i64 h.half, .int .i64 h.scan, .bool h.busy, .slice ob5 h.old.length oc5, .slice nb5 h.new.length nc5, .slice rb5 h.regs.length rc5] 31) :: (w4.heap.size, .cells #[.int .i64 h.size, .int .i64 h.half, .int .i64 h.scan, .bool h.busy, .slice ob h.old.length oc, .slice nb h.new.length nc, .slice rb h.regs.length rc] 31) :: (w.heap.size, PBox size n (.slice (some ⟨blk, off, none⟩) ds.length lc)) :: L') w') wA66 := ⟨_, _, hs63.out, mA65⟩
              refine AnyFrom.call (i := 17) (by kernel_rfl) rfl (by kernel_rfl) fun K hK => ?_
              have es := mA65.eqs
              simp only [EqsL] at es
              have ns := mA65.nes
              simp only [NeL, NeFrom] at ns
              go_simp
              have mS67 := (((((((mA65.set (i := 0) (v := .int .i64 q.size) (.tail (.tail (.tail .head)))).set (i := 1) (v := .int .i64 q.half) (.tail (.tail (.tail .head)))).set (i := 2) (v := .int .i64 q.scan) (.tail (.tail (.tail .head)))).set (i := 3) (v := .bool q.busy) (.tail (.tail (.tail .head)))).set (i := 4) (v := .slice ob3 q.old.length oc3) (.tail (.tail (.tail .head)))).set (i := 5) (v := .slice nb3 q.new.length nc3) (.tail (.tail (.tail .head)))).set (i := 6) (v := .slice rb3 q.regs.length rc3) (.tail (.tail (.tail .head))))
              simp only [List.setIfInBounds_toArray, List.set_cons_zero, List.set_cons_succ] at mS67
              generalize hwx : World.setCell _ _ _ = wS68
              rw [hwx] at mS67
              refine hK _ _ (.inr ⟨_, _, hs63.out, mS67⟩) ?_
              clear hK K HS
              try simp only [Act.put, List.setIfInBounds_toArray, List.set_cons_zero, List.set_cons_succ, List.getElem_toArray, List.getElem_cons_succ, List.getElem_cons_zero]
              clear es ns hwx
              have HS : (fun w' => ∃ H' L', Hle Hd2 H' ∧ Mem w0 H' ((w5.heap.size, .cells #[.int .i64 h.size, .int .i64 h.half, .int .i64 h.scan, .bool h.busy, .slice ob5 h.old.length oc5, .slice nb5 h.new.length nc5, .slice rb5 h.regs.length rc5] 31) :: (w4.heap.size, .cells #[.int .i64 h.size, .int .i64 h.half, .int .i64 h.scan, .bool h.busy, .slice ob h.old.length oc, .slice nb h.new.length nc, .slice rb h.regs.length rc] 31) :: (w.heap.size, PBox size n (.slice (some ⟨blk, off, none⟩) ds.length lc)) :: L') w') wS68 := ⟨_, _, hs63.out, mS67⟩
              refine AnyFrom.call (i := 18) (by kernel_rfl) rfl (by kernel_rfl) fun K hK => ?_
              have es := mS67.eqs
              simp only [EqsL] at es
              have ns := mS67.nes
              simp only [NeL, NeFrom] at ns
              go_simp
              have mS69 := (((mS67.set (i := 0) (v := .int .u8 rk) (.tail (.tail (.tail (.tail .head))))).set (i := 1) (v := .int .i64 rn) (.tail (.tail (.tail (.tail .head))))).set (i := 2) (v := .string rs) (.tail (.tail (.tail (.tail .head)))))
              simp only [List.setIfInBounds_toArray, List.set_cons_zero, List.set_cons_succ] at mS69
              generalize hwx : World.setCell _ _ _ = wS70
              rw [hwx] at mS69
              refine hK _ _ (.inr ⟨_, _, hs63.out, mS69⟩) ?_
              clear hK K HS
              try simp only [Act.put, List.setIfInBounds_toArray, List.set_cons_zero, List.set_cons_succ, List.getElem_toArray, List.getElem_cons_succ, List.getElem_cons_zero]
              clear es ns hwx
              have HS : (fun w' => ∃ H' L', Hle Hd2 H' ∧ Mem w0 H' ((w5.heap.size, .cells #[.int .i64 h.size, .int .i64 h.half, .int .i64 h.scan, .bool h.busy, .slice ob5 h.old.length oc5, .slice nb5 h.new.length nc5, .slice rb5 h.regs.length rc5] 31) :: (w4.heap.size, .cells #[.int .i64 h.size, .int .i64 h.half, .int .i64 h.scan, .bool h.busy, .slice ob h.old.length oc, .slice nb h.new.length nc, .slice rb h.regs.length rc] 31) :: (w.heap.size, PBox size n (.slice (some ⟨blk, off, none⟩) ds.length lc)) :: L') w') wS70 := ⟨_, _, hs63.out, mS69⟩
              refine AnyFrom.pure (i := 19) (v := ?_) rfl (by kernel_rfl) (by kernel_rfl) (by kernel_rfl) (by decide) (fun _ _ _ h => h) ⟨by kernel_rfl, ?_⟩ HS ?_
              rotate_left
              · first | (intro w'; go_simp; done) | (intro w'; go_simp; with_reducible rfl)
              simp only [Act.put, List.setIfInBounds_toArray, List.set_cons_zero, List.set_cons_succ, List.getElem_toArray, List.getElem_cons_succ, List.getElem_cons_zero]
              refine AnyFrom.done (by kernel_rfl) ?_ _
              exact key x7 x8 blk2 off2 cap2 lb2 lc2 sb2 sc2 ob3 oc3 nb3 nc3 rb3 rc3 _ ⟨Ho60, hle64, F3.out, mS69⟩
            · skip
              refine AnyFrom.op rfl (by kernel_rfl) fun K hK => ?_
              go_simp
              generalize hxo : World.alloc wA58 _ = wA72
              have mA71 : Mem w0 Hd2 ((wA58.heap.size, .cells #[.int .i64 0, .int .i64 0, .int .i64 0, .bool false, .slice none 0 0, .slice none 0 0, .slice none 0 0] 31) :: (w5.heap.size, .cells #[.int .i64 h.size, .int .i64 h.half, .int .i64 h.scan, .bool h.busy, .slice ob5 h.old.length oc5, .slice nb5 h.new.length nc5, .slice rb5 h.regs.length rc5] 31) :: (w4.heap.size, .cells #[.int .i64 h.size, .int .i64 h.half, .int .i64 h.scan, .bool h.busy, .slice ob h.old.length oc, .slice nb h.new.length nc, .slice rb h.regs.length rc] 31) :: (w.heap.size, PBox size n (.slice (some ⟨blk, off, none⟩) ds.length lc)) :: (x8, .cells #[.int .u8 0, .int .i64 0, .string ByteArray.empty] 50) :: L) wA72 := by rw [← hxo]; exact mA57.alloc _
              obtain ⟨x7, hxk⟩ : ∃ k, k = wA58.heap.size := ⟨_, rfl⟩
              rw [← hxk] at mA71
              rw [← hxk]
              replace mA71 := mA71.perm (perm_fr3 _ _ _ _ _)
              clear hxk hxo
              refine hK _ _ (.inr ⟨_, _, hs8.out, mA71⟩) ?_
              clear hK K HS
              try simp only [Act.put, List.setIfInBounds_toArray, List.set_cons_zero, List.set_cons_succ, List.getElem_toArray, List.getElem_cons_succ, List.getElem_cons_zero]
              have HS : (fun w' => ∃ H' L', Hle Hd2 H' ∧ Mem w0 H' ((w5.heap.size, .cells #[.int .i64 h.size, .int .i64 h.half, .int .i64 h.scan, .bool h.busy, .slice ob5 h.old.length oc5, .slice nb5 h.new.length nc5, .slice rb5 h.regs.length rc5] 31) :: (w4.heap.size, .cells #[.int .i64 h.size, .int .i64 h.half, .int .i64 h.scan, .bool h.busy, .slice ob h.old.length oc, .slice nb h.new.length nc, .slice rb h.regs.length rc] 31) :: (w.heap.size, PBox size n (.slice (some ⟨blk, off, none⟩) ds.length lc)) :: L') w') wA72 := ⟨_, _, hs8.out, mA71⟩
              refine AnyFrom.call (i := 10) (by kernel_rfl) rfl (by kernel_rfl) fun K hK => ?_
              go_simp
              refine (DoU_any h HGD.out _ _ _ (F5.out.mono hle6) mA71 d _ _ DR.out (by have := HAL.out; omega)).mono ?_
              rw [hres]
              rintro e wd75 ⟨Ho74, vo3, vn3, vr3, rfl, hl76, f3, mD73⟩
              rw [hq] at f3
              rw [hq, hx]
              obtain ⟨ob3, oc3, nb3, nc3, rb3, rc3, rfl, rfl, rfl⟩ := f3.shape
              have F3 := Lib.hid f3; clear f3
              unfold HVal ValM.v
              have hs77 := Lib.hid (hs8.out.trans hl76)
              replace DR := Lib.hid (DR.out.mono hl76)
              have hle78 := hle6.trans hl76
              refine hK _ _ (.inr ⟨_, _, hs77.out, mD73⟩) ?_
              clear hK K HS
              try simp only [Act.put, List.setIfInBounds_toArray, List.set_cons_zero, List.set_cons_succ, List.getElem_toArray, List.getElem_cons_succ, List.getElem_cons_zero]
              have HS : (fun w' => ∃ H' L', Hle Hd2 H' ∧ Mem w0 H' ((w5.heap.size, .cells #[.int .i64 h.size, .int .i64 h.half, .int .i64 h.scan, .bool h.busy, .slice ob5 h.old.length oc5, .slice nb5 h.new.length nc5, .slice rb5 h.regs.length rc5] 31) :: (w4.heap.size, .cells #[.int .i64 h.size, .int .i64 h.half, .int .i64 h.scan, .bool h.busy, .slice ob h.old.length oc, .slice nb h.new.length nc, .slice rb h.regs.length rc] 31) :: (w.heap.size, PBox size n (.slice (some ⟨blk, off, none⟩) ds.length lc)) :: L') w') wd75 := ⟨_, _, hs77.out, mD73⟩
              refine AnyFrom.pure (i := 11) (v := ?_) rfl (by kernel_rfl) (by kernel_rfl) (by kernel_rfl) (by decide) (fun _ _ _ h => h) ⟨by kernel_rfl, ?_⟩ HS ?_
              rotate_left
              · first | (intro w'; go_simp; done) | (intro w'; go_simp; with_reducible rfl)
              simp only [Act.put, List.setIfInBounds_toArray, List.set_cons_zero, List.set_cons_succ, List.getElem_toArray, List.getElem_cons_succ, List.getElem_cons_zero]
              refine AnyFrom.pure (i := 12) (v := ?_) rfl (by kernel_rfl) (by kernel_rfl) (by kernel_rfl) (by decide) (fun _ _ _ h => h) ⟨by kernel_rfl, ?_⟩ HS ?_
              rotate_left
              · first | (intro w'; go_simp; done) | (intro w'; go_simp; with_reducible rfl)
              simp only [Act.put, List.setIfInBounds_toArray, List.set_cons_zero, List.set_cons_succ, List.getElem_toArray, List.getElem_cons_succ, List.getElem_cons_zero]
              refine AnyFrom.pure (i := 13) (v := ?_) rfl (by kernel_rfl) (by kernel_rfl) (by kernel_rfl) (by decide) (fun _ _ _ h => h) ⟨by kernel_rfl, ?_⟩ HS ?_
              rotate_left
              · first | (intro w'; go_simp; done) | (intro w'; go_simp; with_reducible rfl)
              simp only [Act.put, List.setIfInBounds_toArray, List.set_cons_zero, List.set_cons_succ, List.getElem_toArray, List.getElem_cons_succ, List.getElem_cons_zero]
              refine AnyFrom.pure (i := 14) (v := ?_) rfl (by kernel_rfl) (by kernel_rfl) (by kernel_rfl) (by decide) (fun _ _ _ h => h) ⟨by kernel_rfl, ?_⟩ HS ?_
              rotate_left
              · first | (intro w'; go_simp; done) | (intro w'; go_simp; with_reducible rfl)
              simp only [Act.put, List.setIfInBounds_toArray, List.set_cons_zero, List.set_cons_succ, List.getElem_toArray, List.getElem_cons_succ, List.getElem_cons_zero]
              refine AnyFrom.call (i := 17) (by kernel_rfl) rfl (by kernel_rfl) fun K hK => ?_
              have es := mD73.eqs
              simp only [EqsL] at es
              have ns := mD73.nes
              simp only [NeL, NeFrom] at ns
              go_simp
              have mS79 := (((((((mD73.set (i := 0) (v := .int .i64 q.size) (.tail (.tail (.tail .head)))).set (i := 1) (v := .int .i64 q.half) (.tail (.tail (.tail .head)))).set (i := 2) (v := .int .i64 q.scan) (.tail (.tail (.tail .head)))).set (i := 3) (v := .bool q.busy) (.tail (.tail (.tail .head)))).set (i := 4) (v := .slice ob3 q.old.length oc3) (.tail (.tail (.tail .head)))).set (i := 5) (v := .slice nb3 q.new.length nc3) (.tail (.tail (.tail .head)))).set (i := 6) (v := .slice rb3 q.regs.length rc3) (.tail (.tail (.tail .head))))
              simp only [List.setIfInBounds_toArray, List.set_cons_zero, List.set_cons_succ] at mS79
              generalize hwx : World.setCell _ _ _ = wS80
              rw [hwx] at mS79
              refine hK _ _ (.inr ⟨_, _, hs77.out, mS79⟩) ?_
              clear hK K HS
              try simp only [Act.put, List.setIfInBounds_toArray, List.set_cons_zero, List.set_cons_succ, List.getElem_toArray, List.getElem_cons_succ, List.getElem_cons_zero]
              clear es ns hwx
              have HS : (fun w' => ∃ H' L', Hle Hd2 H' ∧ Mem w0 H' ((w5.heap.size, .cells #[.int .i64 h.size, .int .i64 h.half, .int .i64 h.scan, .bool h.busy, .slice ob5 h.old.length oc5, .slice nb5 h.new.length nc5, .slice rb5 h.regs.length rc5] 31) :: (w4.heap.size, .cells #[.int .i64 h.size, .int .i64 h.half, .int .i64 h.scan, .bool h.busy, .slice ob h.old.length oc, .slice nb h.new.length nc, .slice rb h.regs.length rc] 31) :: (w.heap.size, PBox size n (.slice (some ⟨blk, off, none⟩) ds.length lc)) :: L') w') wS80 := ⟨_, _, hs77.out, mS79⟩
              refine AnyFrom.call (i := 18) (by kernel_rfl) rfl (by kernel_rfl) fun K hK => ?_
              have es := mS79.eqs
              simp only [EqsL] at es
              have ns := mS79.nes
              simp only [NeL, NeFrom] at ns
              go_simp
              have mS81 := (((mS79.set (i := 0) (v := .int .u8 rk) (.tail (.tail (.tail (.tail .head))))).set (i := 1) (v := .int .i64 rn) (.tail (.tail (.tail (.tail .head))))).set (i := 2) (v := .string rs) (.tail (.tail (.tail (.tail .head)))))
              simp only [List.setIfInBounds_toArray, List.set_cons_zero, List.set_cons_succ] at mS81
              generalize hwx : World.setCell _ _ _ = wS82
              rw [hwx] at mS81
              refine hK _ _ (.inr ⟨_, _, hs77.out, mS81⟩) ?_
              clear hK K HS
              try simp only [Act.put, List.setIfInBounds_toArray, List.set_cons_zero, List.set_cons_succ, List.getElem_toArray, List.getElem_cons_succ, List.getElem_cons_zero]
              clear es ns hwx
              have HS : (fun w' => ∃ H' L', Hle Hd2 H' ∧ Mem w0 H' ((w5.heap.size, .cells #[.int .i64 h.size, .int .i64 h.half, .int .i64 h.scan, .bool h.busy, .slice ob5 h.old.length oc5, .slice nb5 h.new.length nc5, .slice rb5 h.regs.length rc5] 31) :: (w4.heap.size, .cells #[.int .i64 h.size, .int .i64 h.half, .int .i64 h.scan, .bool h.busy, .slice ob h.old.length oc, .slice nb h.new.length nc, .slice rb h.regs.length rc] 31) :: (w.heap.size, PBox size n (.slice (some ⟨blk, off, none⟩) ds.length lc)) :: L') w') wS82 := ⟨_, _, hs77.out, mS81⟩
              refine AnyFrom.pure (i := 19) (v := ?_) rfl (by kernel_rfl) (by kernel_rfl) (by kernel_rfl) (by decide) (fun _ _ _ h => h) ⟨by kernel_rfl, ?_⟩ HS ?_
              rotate_left
              · first | (intro w'; go_simp; done) | (intro w'; go_simp; with_reducible rfl)
              simp only [Act.put, List.setIfInBounds_toArray, List.set_cons_zero, List.set_cons_succ, List.getElem_toArray, List.getElem_cons_succ, List.getElem_cons_zero]
              refine AnyFrom.done (by kernel_rfl) ?_ _
              exact key x7 x8 blk2 off2 cap2 lb2 lc2 sb2 sc2 ob3 oc3 nb3 nc3 rb3 rc3 _ ⟨Ho74, hle78, F3.out, mS81⟩
        · skip
          refine AnyFrom.op rfl (by kernel_rfl) fun K hK => ?_
          go_simp
          generalize hxo : World.alloc W _ = wA84
          have mA83 : Mem w0 H5 ((W.heap.size, .cells #[.int .i64 0, .int .i64 0, .int .i64 0, .bool false, .slice none 0 0, .slice none 0 0, .slice none 0 0] 31) :: (w5.heap.size, .cells #[.int .i64 h.size, .int .i64 h.half, .int .i64 h.scan, .bool h.busy, .slice ob5 h.old.length oc5, .slice nb5 h.new.length nc5, .slice rb5 h.regs.length rc5] 31) :: (w4.heap.size, .cells #[.int .i64 h.size, .int .i64 h.half, .int .i64 h.scan, .bool h.busy, .slice ob h.old.length oc, .slice nb h.new.length nc, .slice rb h.regs.length rc] 31) :: (w.heap.size, PBox size n (.slice (some ⟨blk, off, none⟩) ds.length lc)) :: L) wA84 := by rw [← hxo]; exact mW.alloc _
          obtain ⟨x7, hxk⟩ : ∃ k, k = W.heap.size := ⟨_, rfl⟩
          rw [← hxk] at mA83
          rw [← hxk]
          replace mA83 := mA83.perm (perm_fr3 _ _ _ _ _)
          clear hxk hxo
          refine hK _ _ (.inr ⟨_, _, hs0.out, mA83⟩) ?_
          clear hK K HS
          try simp only [Act.put, List.setIfInBounds_toArray, List.set_cons_zero, List.set_cons_succ, List.getElem_toArray, List.getElem_cons_succ, List.getElem_cons_zero]
          have HS : (fun w' => ∃ H' L', Hle H5 H' ∧ Mem w0 H' ((w5.heap.size, .cells #[.int .i64 h.size, .int .i64 h.half, .int .i64 h.scan, .bool h.busy, .slice ob5 h.old.length oc5, .slice nb5 h.new.length nc5, .slice rb5 h.regs.length rc5] 31) :: (w4.heap.size, .cells #[.int .i64 h.size, .int .i64 h.half, .int .i64 h.scan, .bool h.busy, .slice ob h.old.length oc, .slice nb h.new.length nc, .slice rb h.regs.length rc] 31) :: (w.heap.size, PBox size n (.slice (some ⟨blk, off, none⟩) ds.length lc)) :: L') w') wA84 := ⟨_, _, hs0.out, mA83⟩
          refine AnyFrom.two (i := 7) (j := 16) (by kernel_rfl) ?_ ?_
          · skip
            refine AnyFrom.op rfl (by kernel_rfl) fun K hK => ?_
            go_simp
            refine (lawDeeds_any _ [d] (by simp) (fun d' hd' => by rw [List.mem_singleton] at hd'; rw [hd']; have := HAL.out; omega) (HONE5.out.mono hle0) mA83).mono ?_
            rintro e wd87 ⟨Hd86, dv2, rfl, hl88, hdd, mD85⟩
            obtain ⟨db2, cap2, rfl⟩ := hdd.shape
            obtain ⟨blk2, off2, lvv, svv, rfl, hcell2, hdr2⟩ := hdd.getDeed (i := 0) (by simp)
            obtain ⟨lb2, lc2, rfl, -, -, -, -⟩ := hdr2.list
            obtain ⟨sb2, sc2, rfl, -, -, -, -⟩ := hdr2.slots
            rw [Nat.zero_mul, Nat.add_zero] at hcell2
            have CD := Lib.hid hcell2; clear hcell2 hdd
            have DR := Lib.hid (show DeedR Hd86 d _ _ from hdr2); clear hdr2
            have hs89 := Lib.hid (hs0.out.trans hl88)
            have hle90 := hle0.trans hl88
            refine hK _ _ (.inr ⟨_, _, hs89.out, mD85⟩) ?_
            clear hK K HS
            try simp only [Act.put, List.setIfInBounds_toArray, List.set_cons_zero, List.set_cons_succ, List.getElem_toArray, List.getElem_cons_succ, List.getElem_cons_zero]
            refine AnyFrom.stronger (S2 := fun w' => ∃ H' L', Hle Hd86 H' ∧ Mem w0 H' ((w5.heap.size, .cells #[.int .i64 h.size, .int .i64 h.half, .int .i64 h.scan, .bool h.busy, .slice ob5 h.old.length oc5, .slice nb5 h.new.length nc5, .slice rb5 h.regs.length rc5] 31) :: (w4.heap.size, .cells #[.int .i64 h.size, .int .i64 h.half, .int .i64 h.scan, .bool h.busy, .slice ob h.old.length oc, .slice nb h.new.length nc, .slice rb h.regs.length rc] 31) :: (w.heap.size, PBox size n (.slice (some ⟨blk, off, none⟩) ds.length lc)) :: L') w') (fun w' ⟨H', L', hl', hm⟩ => ⟨H', L', hs89.out.trans hl', hm⟩) _ ?_
            have hs92 := Lib.hid (Hle.refl Hd86)
            have HS : (fun w' => ∃ H' L', Hle Hd86 H' ∧ Mem w0 H' ((w5.heap.size, .cells #[.int .i64 h.size, .int .i64 h.half, .int .i64 h.scan, .bool h.busy, .slice ob5 h.old.length oc5, .slice nb5 h.new.length nc5, .slice rb5 h.regs.length rc5] 31) :: (w4.heap.size, .cells #[.int .i64 h.size, .int .i64 h.half, .int .i64 h.scan, .bool h.busy, .slice ob h.old.length oc, .slice nb h.new.length nc, .slice rb h.regs.length rc] 31) :: (w.heap.size, PBox size n (.slice (some ⟨blk, off, none⟩) ds.length lc)) :: L') w') wd87 := ⟨_, _, hs92.out, mD85⟩
            refine AnyFrom.take (i := 8) (v := ?_) rfl (by kernel_rfl) (by kernel_rfl) (by kernel_rfl) (by kernel_rfl) (fun _ _ _ h => h) ⟨by kernel_rfl, ?_⟩ HS ?_
            rotate_left
            · first | (rintro w' ⟨H', L', hl', hm⟩; have es := hm.eqs; simp only [EqsL] at es; go_simp; done) | (rintro w' ⟨H', L', hl', hm⟩; have es := hm.eqs; simp only [EqsL] at es; go_simp; with_reducible rfl)
            simp only [Act.put, List.setIfInBounds_toArray, List.set_cons_zero, List.set_cons_succ, List.getElem_toArray, List.getElem_cons_succ, List.getElem_cons_zero]
            refine AnyFrom.take (i := 9) (v := ?_) rfl (by kernel_rfl) (by kernel_rfl) (by kernel_rfl) (by kernel_rfl) (fun _ _ _ h => h) ⟨by kernel_rfl, ?_⟩ HS ?_
            rotate_left
            · first | (rintro w' ⟨H', L', hl', hm⟩; have es := hm.eqs; simp only [EqsL] at es; have q0 := ((CD.out 0 _ rfl).mono hl').cell hm; have q1 := ((CD.out 1 _ rfl).mono hl').cell hm; have q2 := ((CD.out 2 _ rfl).mono hl').cell hm; have q3 := ((CD.out 3 _ rfl).mono hl').cell hm; have q4 := ((CD.out 4 _ rfl).mono hl').cell hm; have q5 := ((CD.out 5 _ rfl).mono hl').cell hm; have q6 := ((CD.out 6 _ rfl).mono hl').cell hm; have q7 := ((CD.out 7 _ rfl).mono hl').cell hm; have q8 := ((CD.out 8 _ rfl).mono hl').cell hm; have q9 := ((CD.out 9 _ rfl).mono hl').cell hm; have q10 := ((CD.out 10 _ rfl).mono hl').cell hm; have q11 := ((CD.out 11 _ rfl).mono hl').cell hm; rw [Nat.add_zero] at q0; go_simp; done) | (rintro w' ⟨H', L', hl', hm⟩; have es := hm.eqs; simp only [EqsL] at es; have q0 := ((CD.out 0 _ rfl).mono hl').cell hm; have q1 := ((CD.out 1 _ rfl).mono hl').cell hm; have q2 := ((CD.out 2 _ rfl).mono hl').cell hm; have q3 := ((CD.out 3 _ rfl).mono hl').cell hm; have q4 := ((CD.out 4 _ rfl).mono hl').cell hm; have q5 := ((CD.out 5 _ rfl).mono hl').cell hm; have q6 := ((CD.out 6 _ rfl).mono hl').cell hm; have q7 := ((CD.out 7 _ rfl).mono hl').cell hm; have q8 := ((CD.out 8 _ rfl).mono hl').cell hm; have q9 := ((CD.out 9 _ rfl).mono hl').cell hm; have q10 := ((CD.out 10 _ rfl).mono hl').cell hm; have q11 := ((CD.out 11 _ rfl).mono hl').cell hm; rw [Nat.add_zero] at q0; go_simp; with_reducible rfl)
            simp only [Act.put, List.setIfInBounds_toArray, List.set_cons_zero, List.set_cons_succ, List.getElem_toArray, List.getElem_cons_succ, List.getElem_cons_zero]
            refine AnyFrom.two (i := 10) (j := 16) (by kernel_rfl) ?_ ?_
            · skip
              refine AnyFrom.op rfl (by kernel_rfl) fun K hK => ?_
              go_simp
              refine (DoU_any h HGD.out _ _ _ (F5.out.mono hle90) mD85 d _ _ DR.out (by have := HAL.out; omega)).mono ?_
              rw [hres]
              rintro e wd95 ⟨Ho94, vo3, vn3, vr3, rfl, hl96, f3, mD93⟩
              rw [hq] at f3
              rw [hq, hx]
              obtain ⟨ob3, oc3, nb3, nc3, rb3, rc3, rfl, rfl, rfl⟩ := f3.shape
              have F3 := Lib.hid f3; clear f3
              unfold HVal ValM.v
              have hs97 := Lib.hid (hs92.out.trans hl96)
              replace DR := Lib.hid (DR.out.mono hl96)
              have hle98 := hle90.trans hl96
              refine hK _ _ (.inr ⟨_, _, hs97.out, mD93⟩) ?_
              clear hK K HS
              try simp only [Act.put, List.setIfInBounds_toArray, List.set_cons_zero, List.set_cons_succ, List.getElem_toArray, List.getElem_cons_succ, List.getElem_cons_zero]
              have HS : (fun w' => ∃ H' L', Hle Hd86 H' ∧ Mem w0 H' ((w5.heap.size, .cells #[.int .i64 h.size, .int .i64 h.half, .int .i64 h.scan, .bool h.busy, .slice ob5 h.old.length oc5, .slice nb5 h.new.length nc5, .slice rb5 h.regs.length rc5] 31) :: (w4.heap.size, .cells #[.int .i64 h.size, .int .i64 h.half, .int .i64 h.scan, .bool h.busy, .slice ob h.old.length oc, .slice nb h.new.length nc, .slice rb h.regs.length rc] 31) :: (w.heap.size, PBox size n (.slice (some ⟨blk, off, none⟩) ds.length lc)) :: L') w') wd95 := ⟨_, _, hs97.out, mD93⟩
              refine AnyFrom.pure (i := 11) (v := ?_) rfl (by kernel_rfl) (by kernel_rfl) (by kernel_rfl) (by decide) (fun _ _ _ h => h) ⟨by kernel_rfl, ?_⟩ HS ?_
              rotate_left
              · first | (intro w'; go_simp; done) | (intro w'; go_simp; with_reducible rfl)
              simp only [Act.put, List.setIfInBounds_toArray, List.set_cons_zero, List.set_cons_succ, List.getElem_toArray, List.getElem_cons_succ, List.getElem_cons_zero]
              refine AnyFrom.pure (i := 12) (v := ?_) rfl (by kernel_rfl) (by kernel_rfl) (by kernel_rfl) (by decide) (fun _ _ _ h => h) ⟨by kernel_rfl, ?_⟩ HS ?_
              rotate_left
              · first | (intro w'; go_simp; done) | (intro w'; go_simp; with_reducible rfl)
              simp only [Act.put, List.setIfInBounds_toArray, List.set_cons_zero, List.set_cons_succ, List.getElem_toArray, List.getElem_cons_succ, List.getElem_cons_zero]
              refine AnyFrom.pure (i := 13) (v := ?_) rfl (by kernel_rfl) (by kernel_rfl) (by kernel_rfl) (by decide) (fun _ _ _ h => h) ⟨by kernel_rfl, ?_⟩ HS ?_
              rotate_left
              · first | (intro w'; go_simp; done) | (intro w'; go_simp; with_reducible rfl)
              simp only [Act.put, List.setIfInBounds_toArray, List.set_cons_zero, List.set_cons_succ, List.getElem_toArray, List.getElem_cons_succ, List.getElem_cons_zero]
              refine AnyFrom.pure (i := 14) (v := ?_) rfl (by kernel_rfl) (by kernel_rfl) (by kernel_rfl) (by decide) (fun _ _ _ h => h) ⟨by kernel_rfl, ?_⟩ HS ?_
              rotate_left
              · first | (intro w'; go_simp; done) | (intro w'; go_simp; with_reducible rfl)
              simp only [Act.put, List.setIfInBounds_toArray, List.set_cons_zero, List.set_cons_succ, List.getElem_toArray, List.getElem_cons_succ, List.getElem_cons_zero]
              refine AnyFrom.call (i := 16) (by kernel_rfl) rfl (by kernel_rfl) fun K hK => ?_
              go_simp
              generalize hxo : World.alloc wd95 _ = wA100
              have mA99 : Mem w0 Ho94 ((wd95.heap.size, .cells #[.int .u8 0, .int .i64 0, .string ByteArray.empty] 50) :: (w5.heap.size, .cells #[.int .i64 h.size, .int .i64 h.half, .int .i64 h.scan, .bool h.busy, .slice ob5 h.old.length oc5, .slice nb5 h.new.length nc5, .slice rb5 h.regs.length rc5] 31) :: (w4.heap.size, .cells #[.int .i64 h.size, .int .i64 h.half, .int .i64 h.scan, .bool h.busy, .slice ob h.old.length oc, .slice nb h.new.length nc, .slice rb h.regs.length rc] 31) :: (w.heap.size, PBox size n (.slice (some ⟨blk, off, none⟩) ds.length lc)) :: (x7, .cells #[.int .i64 0, .int .i64 0, .int .i64 0, .bool false, .slice none 0 0, .slice none 0 0, .slice none 0 0] 31) :: L) wA100 := by rw [← hxo]; exact mD93.alloc _
              obtain ⟨x8, hxk⟩ : ∃ k, k = wd95.heap.size := ⟨_, rfl⟩
              rw [← hxk] at mA99
              rw [← hxk]
              replace mA99 := mA99.perm (perm_fr3 _ _ _ _ _)
              clear hxk hxo
              refine hK _ _ (.inr ⟨_, _, hs97.out, mA99⟩) ?_
              clear hK K HS
              try simp only [Act.put, List.setIfInBounds_toArray, List.set_cons_zero, List.set_cons_succ, List.getElem_toArray, List.getElem_cons_succ, List.getElem_cons_zero]
              have HS : (fun w' => ∃ H' L', Hle Hd86 H' ∧ Mem w0 H' ((w5.heap.size, .cells #[.int .i64 h.size, .int .i64 h.half, .int .i64 h.scan, .bool h.busy, .slice ob5 h.old.length oc5, .slice nb5 h.new.length nc5, .slice rb5 h.regs.length rc5] 31) :: (w4.heap.size, .cells #[.int .i64 h.size, .int .i64 h.half, .int .i64 h.scan, .bool h.busy, .slice ob h.old.length oc, .slice nb h.new.length nc, .slice rb h.regs.length rc] 31) :: (w.heap.size, PBox size n (.slice (some ⟨blk, off, none⟩) ds.length lc)) :: L') w') wA100 := ⟨_, _, hs97.out, mA99⟩
              refine AnyFrom.call (i := 17) (by kernel_rfl) rfl (by kernel_rfl) fun K hK => ?_
              have es := mA99.eqs
              simp only [EqsL] at es
              have ns := mA99.nes
              simp only [NeL, NeFrom] at ns
              go_simp
              have mS101 := (((((((mA99.set (i := 0) (v := .int .i64 q.size) (.tail (.tail (.tail (.tail .head))))).set (i := 1) (v := .int .i64 q.half) (.tail (.tail (.tail (.tail .head))))).set (i := 2) (v := .int .i64 q.scan) (.tail (.tail (.tail (.tail .head))))).set (i := 3) (v := .bool q.busy) (.tail (.tail (.tail (.tail .head))))).set (i := 4) (v := .slice ob3 q.old.length oc3) (.tail (.tail (.tail (.tail .head))))).set (i := 5) (v := .slice nb3 q.new.length nc3) (.tail (.tail (.tail (.tail .head))))).set (i := 6) (v := .slice rb3 q.regs.length rc3) (.tail (.tail (.tail (.tail .head)))))
              simp only [List.setIfInBounds_toArray, List.set_cons_zero, List.set_cons_succ] at mS101
              generalize hwx : World.setCell _ _ _ = wS102
              rw [hwx] at mS101
              refine hK _ _ (.inr ⟨_, _, hs97.out, mS101⟩) ?_
              clear hK K HS
              try simp only [Act.put, List.setIfInBounds_toArray, List.set_cons_zero, List.set_cons_succ, List.getElem_toArray, List.getElem_cons_succ, List.getElem_cons_zero]
              clear es ns hwx
              have HS : (fun w' => ∃ H' L', Hle Hd86 H' ∧ Mem w0 H' ((w5.heap.size, .cells #[.int .i64 h.size, .int .i64 h.half, .int .i64 h.scan, .bool h.busy, .slice ob5 h.old.length oc5, .slice nb5 h.new.length nc5, .slice rb5 h.regs.length rc5] 31) :: (w4.heap.size, .cells #[.int .i64 h.size, .int .i64 h.half, .int .i64 h.scan, .bool h.busy, .slice ob h.old.length oc, .slice nb h.new.length nc, .slice rb h.regs.length rc] 31) :: (w.heap.size, PBox size n (.slice (some ⟨blk, off, none⟩) ds.length lc)) :: L') w') wS102 := ⟨_, _, hs97.out, mS101⟩
              refine AnyFrom.call (i := 18) (by kernel_rfl) rfl (by kernel_rfl) fun K hK => ?_
              have es := mS101.eqs
              simp only [EqsL] at es
              have ns := mS101.nes
              simp only [NeL, NeFrom] at ns
              go_simp
              have mS103 := (((mS101.set (i := 0) (v := .int .u8 rk) (.tail (.tail (.tail .head)))).set (i := 1) (v := .int .i64 rn) (.tail (.tail (.tail .head)))).set (i := 2) (v := .string rs) (.tail (.tail (.tail .head))))
              simp only [List.setIfInBounds_toArray, List.set_cons_zero, List.set_cons_succ] at mS103
              generalize hwx : World.setCell _ _ _ = wS104
              rw [hwx] at mS103
              refine hK _ _ (.inr ⟨_, _, hs97.out, mS103⟩) ?_
              clear hK K HS
              try simp only [Act.put, List.setIfInBounds_toArray, List.set_cons_zero, List.set_cons_succ, List.getElem_toArray, List.getElem_cons_succ, List.getElem_cons_zero]
              clear es ns hwx
              have HS : (fun w' => ∃ H' L', Hle Hd86 H' ∧ Mem w0 H' ((w5.heap.size, .cells #[.int .i64 h.size, .int .i64 h.half, .int .i64 h.scan, .bool h.busy, .slice ob5 h.old.length oc5, .slice nb5 h.new.length nc5, .slice rb5 h.regs.length rc5] 31) :: (w4.heap.size, .cells #[.int .i64 h.size, .int .i64 h.half, .int .i64 h.scan, .bool h.busy, .slice ob h.old.length oc, .slice nb h.new.length nc, .slice rb h.regs.length rc] 31) :: (w.heap.size, PBox size n (.slice (some ⟨blk, off, none⟩) ds.length lc)) :: L') w') wS104 := ⟨_, _, hs97.out, mS103⟩
              refine AnyFrom.pure (i := 19) (v := ?_) rfl (by kernel_rfl) (by kernel_rfl) (by kernel_rfl) (by decide) (fun _ _ _ h => h) ⟨by kernel_rfl, ?_⟩ HS ?_
              rotate_left
              · first | (intro w'; go_simp; done) | (intro w'; go_simp; with_reducible rfl)
              simp only [Act.put, List.setIfInBounds_toArray, List.set_cons_zero, List.set_cons_succ, List.getElem_toArray, List.getElem_cons_succ, List.getElem_cons_zero]
              refine AnyFrom.done (by kernel_rfl) ?_ _
              exact key x7 x8 blk2 off2 cap2 lb2 lc2 sb2 sc2 ob3 oc3 nb3 nc3 rb3 rc3 _ ⟨Ho94, hle98, F3.out, (mS103.perm (perm_sw3 _ _ _ _ _ _))⟩
            · skip
              refine AnyFrom.op rfl (by kernel_rfl) fun K hK => ?_
              go_simp
              generalize hxo : World.alloc wd87 _ = wA106
              have mA105 : Mem w0 Hd86 ((wd87.heap.size, .cells #[.int .u8 0, .int .i64 0, .string ByteArray.empty] 50) :: (w5.heap.size, .cells #[.int .i64 h.size, .int .i64 h.half, .int .i64 h.scan, .bool h.busy, .slice ob5 h.old.length oc5, .slice nb5 h.new.length nc5, .slice rb5 h.regs.length rc5] 31) :: (w4.heap.size, .cells #[.int .i64 h.size, .int .i64 h.half, .int .i64 h.scan, .bool h.busy, .slice ob h.old.length oc, .slice nb h.new.length nc, .slice rb h.regs.length rc] 31) :: (w.heap.size, PBox size n (.slice (some ⟨blk, off, none⟩) ds.length lc)) :: (x7, .cells #[.int .i64 0, .int .i64 0, .int .i64 0, .bool false, .slice none 0 0, .slice none 0 0, .slice none 0 0] 31) :: L) wA106 := by rw [← hxo]; exact mD85.alloc _
              obtain ⟨x8, hxk⟩ : ∃ k, k = wd87.heap.size := ⟨_, rfl⟩
              rw [← hxk] at mA105
              rw [← hxk]
              replace mA105 := mA105.perm (perm_fr3 _ _ _ _ _)
              clear hxk hxo
              refine hK _ _ (.inr ⟨_, _, hs92.out, mA105⟩) ?_
              clear hK K HS
              try simp only [Act.put, List.setIfInBounds_toArray, List.set_cons_zero, List.set_cons_succ, List.getElem_toArray, List.getElem_cons_succ, List.getElem_cons_zero]
              have HS : (fun w' => ∃ H' L', Hle Hd86 H' ∧ Mem w0 H' ((w5.heap.size, .cells #[.int .i64 h.size, .int .i64 h.half, .int .i64 h.scan, .bool h.busy, .slice ob5 h.old.length oc5, .slice nb5 h.new.length nc5, .slice rb5 h.regs.length rc5] 31) :: (w4.heap.size, .cells #[.int .i64 h.size, .int .i64 h.half, .int .i64 h.scan, .bool h.busy, .slice ob h.old.length oc, .slice nb h.new.length nc, .slice rb h.regs.length rc] 31) :: (w.heap.size, PBox size n (.slice (some ⟨blk, off, none⟩) ds.length lc)) :: L') w') wA106 := ⟨_, _, hs92.out, mA105⟩
              refine AnyFrom.call (i := 10) (by kernel_rfl) rfl (by kernel_rfl) fun K hK => ?_
              go_simp
              refine (DoU_any h HGD.out _ _ _ (F5.out.mono hle90) mA105 d _ _ DR.out (by have := HAL.out; omega)).mono ?_
              rw [hres]
              rintro e wd109 ⟨Ho108, vo3, vn3, vr3, rfl, hl110, f3, mD107⟩
              rw [hq] at f3
              rw [hq, hx]
              obtain ⟨ob3, oc3, nb3, nc3, rb3, rc3, rfl, rfl, rfl⟩ := f3.shape
              have F3 := Lib.hid f3; clear f3
              unfold HVal ValM.v
              have hs111 := Lib.hid (hs92.out.trans hl110)
              replace DR := Lib.hid (DR.out.mono hl110)
              have hle112 := hle90.trans hl110
              refine hK _ _ (.inr ⟨_, _, hs111.out, mD107⟩) ?_
              clear hK K HS
              try simp only [Act.put, List.setIfInBounds_toArray, List.set_cons_zero, List.set_cons_succ, List.getElem_toArray, List.getElem_cons_succ, List.getElem_cons_zero]
              have HS : (fun w' => ∃ H' L', Hle Hd86 H' ∧ Mem w0 H' ((w5.heap.size, .cells #[.int .i64 h.size, .int .i64 h.half, .int .i64 h.scan, .bool h.busy, .slice ob5 h.old.length oc5, .slice nb5 h.new.length nc5, .slice rb5 h.regs.length rc5] 31) :: (w4.heap.size, .cells #[.int .i64 h.size, .int .i64 h.half, .int .i64 h.scan, .bool h.busy, .slice ob h.old.length oc, .slice nb h.new.length nc, .slice rb h.regs.length rc] 31) :: (w.heap.size, PBox size n (.slice (some ⟨blk, off, none⟩) ds.length lc)) :: L') w') wd109 := ⟨_, _, hs111.out, mD107⟩
              refine AnyFrom.pure (i := 11) (v := ?_) rfl (by kernel_rfl) (by kernel_rfl) (by kernel_rfl) (by decide) (fun _ _ _ h => h) ⟨by kernel_rfl, ?_⟩ HS ?_
              rotate_left
              · first | (intro w'; go_simp; done) | (intro w'; go_simp; with_reducible rfl)
              simp only [Act.put, List.setIfInBounds_toArray, List.set_cons_zero, List.set_cons_succ, List.getElem_toArray, List.getElem_cons_succ, List.getElem_cons_zero]
              refine AnyFrom.pure (i := 12) (v := ?_) rfl (by kernel_rfl) (by kernel_rfl) (by kernel_rfl) (by decide) (fun _ _ _ h => h) ⟨by kernel_rfl, ?_⟩ HS ?_
              rotate_left
              · first | (intro w'; go_simp; done) | (intro w'; go_simp; with_reducible rfl)
              simp only [Act.put, List.setIfInBounds_toArray, List.set_cons_zero, List.set_cons_succ, List.getElem_toArray, List.getElem_cons_succ, List.getElem_cons_zero]
              refine AnyFrom.pure (i := 13) (v := ?_) rfl (by kernel_rfl) (by kernel_rfl) (by kernel_rfl) (by decide) (fun _ _ _ h => h) ⟨by kernel_rfl, ?_⟩ HS ?_
              rotate_left
              · first | (intro w'; go_simp; done) | (intro w'; go_simp; with_reducible rfl)
              simp only [Act.put, List.setIfInBounds_toArray, List.set_cons_zero, List.set_cons_succ, List.getElem_toArray, List.getElem_cons_succ, List.getElem_cons_zero]
              refine AnyFrom.pure (i := 14) (v := ?_) rfl (by kernel_rfl) (by kernel_rfl) (by kernel_rfl) (by decide) (fun _ _ _ h => h) ⟨by kernel_rfl, ?_⟩ HS ?_
              rotate_left
              · first | (intro w'; go_simp; done) | (intro w'; go_simp; with_reducible rfl)
              simp only [Act.put, List.setIfInBounds_toArray, List.set_cons_zero, List.set_cons_succ, List.getElem_toArray, List.getElem_cons_succ, List.getElem_cons_zero]
              refine AnyFrom.call (i := 17) (by kernel_rfl) rfl (by kernel_rfl) fun K hK => ?_
              have es := mD107.eqs
              simp only [EqsL] at es
              have ns := mD107.nes
              simp only [NeL, NeFrom] at ns
              go_simp
              have mS113 := (((((((mD107.set (i := 0) (v := .int .i64 q.size) (.tail (.tail (.tail (.tail .head))))).set (i := 1) (v := .int .i64 q.half) (.tail (.tail (.tail (.tail .head))))).set (i := 2) (v := .int .i64 q.scan) (.tail (.tail (.tail (.tail .head))))).set (i := 3) (v := .bool q.busy) (.tail (.tail (.tail (.tail .head))))).set (i := 4) (v := .slice ob3 q.old.length oc3) (.tail (.tail (.tail (.tail .head))))).set (i := 5) (v := .slice nb3 q.new.length nc3) (.tail (.tail (.tail (.tail .head))))).set (i := 6) (v := .slice rb3 q.regs.length rc3) (.tail (.tail (.tail (.tail .head)))))
              simp only [List.setIfInBounds_toArray, List.set_cons_zero, List.set_cons_succ] at mS113
              generalize hwx : World.setCell _ _ _ = wS114
              rw [hwx] at mS113
              refine hK _ _ (.inr ⟨_, _, hs111.out, mS113⟩) ?_
              clear hK K HS
              try simp only [Act.put, List.setIfInBounds_toArray, List.set_cons_zero, List.set_cons_succ, List.getElem_toArray, List.getElem_cons_succ, List.getElem_cons_zero]
              clear es ns hwx
              have HS : (fun w' => ∃ H' L', Hle Hd86 H' ∧ Mem w0 H' ((w5.heap.size, .cells #[.int .i64 h.size, .int .i64 h.half, .int .i64 h.scan, .bool h.busy, .slice ob5 h.old.length oc5, .slice nb5 h.new.length nc5, .slice rb5 h.regs.length rc5] 31) :: (w4.heap.size, .cells #[.int .i64 h.size, .int .i64 h.half, .int .i64 h.scan, .bool h.busy, .slice ob h.old.length oc, .slice nb h.new.length nc, .slice rb h.regs.length rc] 31) :: (w.heap.size, PBox size n (.slice (some ⟨blk, off, none⟩) ds.length lc)) :: L') w') wS114 := ⟨_, _, hs111.out, mS113⟩
              refine AnyFrom.call (i := 18) (by kernel_rfl) rfl (by kernel_rfl) fun K hK => ?_
              have es := mS113.eqs
              simp only [EqsL] at es
              have ns := mS113.nes
              simp only [NeL, NeFrom] at ns
              go_simp
              have mS115 := (((mS113.set (i := 0) (v := .int .u8 rk) (.tail (.tail (.tail .head)))).set (i := 1) (v := .int .i64 rn) (.tail (.tail (.tail .head)))).set (i := 2) (v := .string rs) (.tail (.tail (.tail .head))))
              simp only [List.setIfInBounds_toArray, List.set_cons_zero, List.set_cons_succ] at mS115
              generalize hwx : World.setCell _ _ _ = wS116
              rw [hwx] at mS115
              refine hK _ _ (.inr ⟨_, _, hs111.out, mS115⟩) ?_
              clear hK K HS
              try simp only [Act.put, List.setIfInBounds_toArray, List.set_cons_zero, List.set_cons_succ, List.getElem_toArray, List.getElem_cons_succ, List.getElem_cons_zero]
              clear es ns hwx
              have HS : (fun w' => ∃ H' L', Hle Hd86 H' ∧ Mem w0 H' ((w5.heap.size, .cells #[.int .i64 h.size, .int .i64 h.half, .int .i64 h.scan, .bool h.busy, .slice ob5 h.old.length oc5, .slice nb5 h.new.length nc5, .slice rb5 h.regs.length rc5] 31) :: (w4.heap.size, .cells #[.int .i64 h.size, .int .i64 h.half, .int .i64 h.scan, .bool h.busy, .slice ob h.old.length oc, .slice nb h.new.length nc, .slice rb h.regs.length rc] 31) :: (w.heap.size, PBox size n (.slice (some ⟨blk, off, none⟩) ds.length lc)) :: L') w') wS116 := ⟨_, _, hs111.out, mS115⟩
              refine AnyFrom.pure (i := 19) (v := ?_) rfl (by kernel_rfl) (by kernel_rfl) (by kernel_rfl) (by decide) (fun _ _ _ h => h) ⟨by kernel_rfl, ?_⟩ HS ?_
              rotate_left
              · first | (intro w'; go_simp; done) | (intro w'; go_simp; with_reducible rfl)
              simp only [Act.put, List.setIfInBounds_toArray, List.set_cons_zero, List.set_cons_succ, List.getElem_toArray, List.getElem_cons_succ, List.getElem_cons_zero]
              refine AnyFrom.done (by kernel_rfl) ?_ _
              exact key x7 x8 blk2 off2 cap2 lb2 lc2 sb2 sc2 ob3 oc3 nb3 nc3 rb3 rc3 _ ⟨Ho108, hle112, F3.out, (mS115.perm (perm_sw3 _ _ _ _ _ _))⟩
          · skip
            refine AnyFrom.op rfl (by kernel_rfl) fun K hK => ?_
            go_simp
            generalize hxo : World.alloc wA84 _ = wA118
            have mA117 : Mem w0 H5 ((wA84.heap.size, .cells #[.int .u8 0, .int .i64 0, .string ByteArray.empty] 50) :: (w5.heap.size, .cells #[.int .i64 h.size, .int .i64 h.half, .int .i64 h.scan, .bool h.busy, .slice ob5 h.old.length oc5, .slice nb5 h.new.length nc5, .slice rb5 h.regs.length rc5] 31) :: (w4.heap.size, .cells #[.int .i64 h.size, .int .i64 h.half, .int .i64 h.scan, .bool h.busy, .slice ob h.old.length oc, .slice nb h.new.length nc, .slice rb h.regs.length rc] 31) :: (w.heap.size, PBox size n (.slice (some ⟨blk, off, none⟩) ds.length lc)) :: (x7, .cells #[.int .i64 0, .int .i64 0, .int .i64 0, .bool false, .slice none 0 0, .slice none 0 0, .slice none 0 0] 31) :: L) wA118 := by rw [← hxo]; exact mA83.alloc _
            obtain ⟨x8, hxk⟩ : ∃ k, k = wA84.heap.size := ⟨_, rfl⟩
            rw [← hxk] at mA117
            rw [← hxk]
            replace mA117 := mA117.perm (perm_fr3 _ _ _ _ _)
            clear hxk hxo
            refine hK _ _ (.inr ⟨_, _, hs0.out, mA117⟩) ?_
            clear hK K HS
            try simp only [Act.put, List.setIfInBounds_toArray, List.set_cons_zero, List.set_cons_succ, List.getElem_toArray, List.getElem_cons_succ, List.getElem_cons_zero]
            have HS : (fun w' => ∃ H' L', Hle H5 H' ∧ Mem w0 H' ((w5.heap.size, .cells #[.int .i64 h.size, .int .i64 h.half, .int .i64 h.scan, .bool h.busy, .slice ob5 h.old.length oc5, .slice nb5 h.new.length nc5, .slice rb5 h.regs.length rc5] 31) :: (w4.heap.size, .cells #[.int .i64 h.size, .int .i64 h.half, .int .i64 h.scan, .bool h.busy, .slice ob h.old.length oc, .slice nb h.new.length nc, .slice rb h.regs.length rc] 31) :: (w.heap.size, PBox size n (.slice (some ⟨blk, off, none⟩) ds.length lc)) :: L') w') wA118 := ⟨_, _, hs0.out, mA117⟩
            refine AnyFrom.call (i := 7) (by kernel_rfl) rfl (by kernel_rfl) fun K hK => ?_
            go_simp
            refine (lawDeeds_any _ [d] (by simp) (fun d' hd' => by rw [List.mem_singleton] at hd'; rw [hd']; have := HAL.out; omega) (HONE5.out.mono hle0) mA117).mono ?_
            rintro e wd121 ⟨Hd120, dv2, rfl, hl122, hdd, mD119⟩
            obtain ⟨db2, cap2, rfl⟩ := hdd.shape
            obtain ⟨blk2, off2, lvv, svv, rfl, hcell2, hdr2⟩ := hdd.getDeed (i := 0) (by simp)
            obtain ⟨lb2, lc2, rfl, -, -, -, -⟩ := hdr2.list
            obtain ⟨sb2, sc2, rfl, -, -, -, -⟩ := hdr2.slots
            rw [Nat.zero_mul, Nat.add_zero] at hcell2
            have CD := Lib.hid hcell2; clear hcell2 hdd
            have DR := Lib.hid (show DeedR Hd120 d _ _ from hdr2); clear hdr2
            have hs123 := Lib.hid (hs0.out.trans hl122)
            have hle124 := hle0.trans hl122
            refine hK _ _ (.inr ⟨_, _, hs123.out, mD119⟩) ?_
            clear hK K HS
            try simp only [Act.put, List.setIfInBounds_toArray, List.set_cons_zero, List.set_cons_succ, List.getElem_toArray, List.getElem_cons_succ, List.getElem_cons_zero]
            refine AnyFrom.stronger (S2 := fun w' => ∃ H' L', Hle Hd120 H' ∧ Mem w0 H' ((w5.heap.size, .cells #[.int .i64 h.size, .int .i64 h.half, .int .i64 h.scan, .bool h.busy, .slice ob5 h.old.length oc5, .slice nb5 h.new.length nc5, .slice rb5 h.regs.length rc5] 31) :: (w4.heap.size, .cells #[.int .i64 h.size, .int .i64 h.half, .int .i64 h.scan, .bool h.busy, .slice ob h.old.length oc, .slice nb h.new.length nc, .slice rb h.regs.length rc] 31) :: (w.heap.size, PBox size n (.slice (some ⟨blk, off, none⟩) ds.length lc)) :: L') w') (fun w' ⟨H', L', hl', hm⟩ => ⟨H', L', hs123.out.trans hl', hm⟩) _ ?_
            have hs126 := Lib.hid (Hle.refl Hd120)
            have HS : (fun w' => ∃ H' L', Hle Hd120 H' ∧ Mem w0 H' ((w5.heap.size, .cells #[.int .i64 h.size, .int .i64 h.half, .int .i64 h.scan, .bool h.busy, .slice ob5 h.old.length oc5, .slice nb5 h.new.length nc5, .slice rb5 h.regs.length rc5] 31) :: (w4.heap.size, .cells #[.int .i64 h.size, .int .i64 h.half, .int .i64 h.scan, .bool h.busy, .slice ob h.old.length oc, .slice nb h.new.length nc, .slice rb h.regs.length rc] 31) :: (w.heap.size, PBox size n (.slice (some ⟨blk, off, none⟩) ds.length lc)) :: L') w') wd121 := ⟨_, _, hs126.out, mD119⟩
            refine AnyFrom.take (i := 8) (v := ?_) rfl (by kernel_rfl) (by kernel_rfl) (by kernel_rfl) (by kernel_rfl) (fun _ _ _ h => h) ⟨by kernel_rfl, ?_⟩ HS ?_
            rotate_left
            · first | (rintro w' ⟨H', L', hl', hm⟩; have es := hm.eqs; simp only [EqsL] at es; go_simp; done) | (rintro w' ⟨H', L', hl', hm⟩; have es := hm.eqs; simp only [EqsL] at es; go_simp; with_reducible rfl)
            simp only [Act.put, List.setIfInBounds_toArray, List.set_cons_zero, List.set_cons_succ, List.getElem_toArray, List.getElem_cons_succ, List.getElem_cons_zero]
            refine AnyFrom.take (i := 9) (v := ?_) rfl (by kernel_rfl) (by kernel_rfl) (by kernel_rfl) (by kernel_rfl) (fun _ _ _ h => h) ⟨by kernel_rfl, ?_⟩ HS ?_
            rotate_left
            · first | (rintro w' ⟨H', L', hl', hm⟩; have es := hm.eqs; simp only [EqsL] at es; have q0 := ((CD.out 0 _ rfl).mono hl').cell hm; have q1 := ((CD.out 1 _ rfl).mono hl').cell hm; have q2 := ((CD.out 2 _ rfl).mono hl').cell hm; have q3 := ((CD.out 3 _ rfl).mono hl').cell hm; have q4 := ((CD.out 4 _ rfl).mono hl').cell hm; have q5 := ((CD.out 5 _ rfl).mono hl').cell hm; have q6 := ((CD.out 6 _ rfl).mono hl').cell hm; have q7 := ((CD.out 7 _ rfl).mono hl').cell hm; have q8 := ((CD.out 8 _ rfl).mono hl').cell hm; have q9 := ((CD.out 9 _ rfl).mono hl').cell hm; have q10 := ((CD.out 10 _ rfl).mono hl').cell hm; have q11 := ((CD.out 11 _ rfl).mono hl').cell hm; rw [Nat.add_zero] at q0; go_simp; done) | (rintro w' ⟨H', L', hl', hm⟩; have es := hm.eqs; simp only [EqsL] at es; have q0 := ((CD.out 0 _ rfl).mono hl').cell hm; have q1 := ((CD.out 1 _ rfl).mono hl').cell hm; have q2 := ((CD.out 2 _ rfl).mono hl').cell hm; have q3 := ((CD.out 3 _ rfl).mono hl').cell hm; have q4 := ((CD.out 4 _ rfl).mono hl').cell hm; have q5 := ((CD.out 5 _ rfl).mono hl').cell hm; have q6 := ((CD.out 6 _ rfl).mono hl').cell hm; have q7 := ((CD.out 7 _ rfl).mono hl').cell hm; have q8 := ((CD.out 8 _ rfl).mono hl').cell hm; have q9 := ((CD.out 9 _ rfl).mono hl').cell hm; have q10 := ((CD.out 10 _ rfl).mono hl').cell hm; have q11 := ((CD.out 11 _ rfl).mono hl').cell hm; rw [Nat.add_zero] at q0; go_simp; with_reducible rfl)
            simp only [Act.put, List.setIfInBounds_toArray, List.set_cons_zero, List.set_cons_succ, List.getElem_toArray, List.getElem_cons_succ, List.getElem_cons_zero]
            refine AnyFrom.call (i := 10) (by kernel_rfl) rfl (by kernel_rfl) fun K hK => ?_
            go_simp
            refine (DoU_any h HGD.out _ _ _ (F5.out.mono hle124) mD119 d _ _ DR.out (by have := HAL.out; omega)).mono ?_
            rw [hres]
            rintro e wd129 ⟨Ho128, vo3, vn3, vr3, rfl, hl130, f3, mD127⟩
            rw [hq] at f3
            rw [hq, hx]
            obtain ⟨ob3, oc3, nb3, nc3, rb3, rc3, rfl, rfl, rfl⟩ := f3.shape
            have F3 := Lib.hid f3; clear f3
            unfold HVal ValM.v
            have hs131 := Lib.hid (hs126.out.trans hl130)
            replace DR := Lib.hid (DR.out.mono hl130)
            have hle132 := hle124.trans hl130
            refine hK _ _ (.inr ⟨_, _, hs131.out, mD127⟩) ?_
            clear hK K HS
            try simp only [Act.put, List.setIfInBounds_toArray, List.set_cons_zero, List.set_cons_succ, List.getElem_toArray, List.getElem_cons_succ, List.getElem_cons_zero]
            have HS : (fun w' => ∃ H' L', Hle Hd120 H' ∧ Mem w0 H' ((w5.heap.size, .cells #[.int .i64 h.size, .int .i64 h.half, .int .i64 h.scan, .bool h.busy, .slice ob5 h.old.length oc5, .slice nb5 h.new.length nc5, .slice rb5 h.regs.length rc5] 31) :: (w4.heap.size, .cells #[.int .i64 h.size, .int .i64 h.half, .int .i64 h.scan, .bool h.busy, .slice ob h.old.length oc, .slice nb h.new.length nc, .slice rb h.regs.length rc] 31) :: (w.heap.size, PBox size n (.slice (some ⟨blk, off, none⟩) ds.length lc)) :: L') w') wd129 := ⟨_, _, hs131.out, mD127⟩
            refine AnyFrom.pure (i := 11) (v := ?_) rfl (by kernel_rfl) (by kernel_rfl) (by kernel_rfl) (by decide) (fun _ _ _ h => h) ⟨by kernel_rfl, ?_⟩ HS ?_
            rotate_left
            · first | (intro w'; go_simp; done) | (intro w'; go_simp; with_reducible rfl)
            simp only [Act.put, List.setIfInBounds_toArray, List.set_cons_zero, List.set_cons_succ, List.getElem_toArray, List.getElem_cons_succ, List.getElem_cons_zero]
            refine AnyFrom.pure (i := 12) (v := ?_) rfl (by kernel_rfl) (by kernel_rfl) (by kernel_rfl) (by decide) (fun _ _ _ h => h) ⟨by kernel_rfl, ?_⟩ HS ?_
            rotate_left
            · first | (intro w'; go_simp; done) | (intro w'; go_simp; with_reducible rfl)
            simp only [Act.put, List.setIfInBounds_toArray, List.set_cons_zero, List.set_cons_succ, List.getElem_toArray, List.getElem_cons_succ, List.getElem_cons_zero]
            refine AnyFrom.pure (i := 13) (v := ?_) rfl (by kernel_rfl) (by kernel_rfl) (by kernel_rfl) (by decide) (fun _ _ _ h => h) ⟨by kernel_rfl, ?_⟩ HS ?_
            rotate_left
            · first | (intro w'; go_simp; done) | (intro w'; go_simp; with_reducible rfl)
            simp only [Act.put, List.setIfInBounds_toArray, List.set_cons_zero, List.set_cons_succ, List.getElem_toArray, List.getElem_cons_succ, List.getElem_cons_zero]
            refine AnyFrom.pure (i := 14) (v := ?_) rfl (by kernel_rfl) (by kernel_rfl) (by kernel_rfl) (by decide) (fun _ _ _ h => h) ⟨by kernel_rfl, ?_⟩ HS ?_
            rotate_left
            · first | (intro w'; go_simp; done) | (intro w'; go_simp; with_reducible rfl)
            simp only [Act.put, List.setIfInBounds_toArray, List.set_cons_zero, List.set_cons_succ, List.getElem_toArray, List.getElem_cons_succ, List.getElem_cons_zero]
            refine AnyFrom.call (i := 17) (by kernel_rfl) rfl (by kernel_rfl) fun K hK => ?_
            have es := mD127.eqs
            simp only [EqsL] at es
            have ns := mD127.nes
            simp only [NeL, NeFrom] at ns
            go_simp
            have mS133 := (((((((mD127.set (i := 0) (v := .int .i64 q.size) (.tail (.tail (.tail (.tail .head))))).set (i := 1) (v := .int .i64 q.half) (.tail (.tail (.tail (.tail .head))))).set (i := 2) (v := .int .i64 q.scan) (.tail (.tail (.tail (.tail .head))))).set (i := 3) (v := .bool q.busy) (.tail (.tail (.tail (.tail .head))))).set (i := 4) (v := .slice ob3 q.old.length oc3) (.tail (.tail (.tail (.tail .head))))).set (i := 5) (v := .slice nb3 q.new.length nc3) (.tail (.tail (.tail (.tail .head))))).set (i := 6) (v := .slice rb3 q.regs.length rc3) (.tail (.tail (.tail (.tail .head)))))
            simp only [List.setIfInBounds_toArray, List.set_cons_zero, List.set_cons_succ] at mS133
            generalize hwx : World.setCell _ _ _ = wS134
            rw [hwx] at mS133
            refine hK _ _ (.inr ⟨_, _, hs131.out, mS133⟩) ?_
            clear hK K HS
            try simp only [Act.put, List.setIfInBounds_toArray, List.set_cons_zero, List.set_cons_succ, List.getElem_toArray, List.getElem_cons_succ, List.getElem_cons_zero]
            clear es ns hwx
            have HS : (fun w' => ∃ H' L', Hle Hd120 H' ∧ Mem w0 H' ((w5.heap.size, .cells #[.int .i64 h.size, .int .i64 h.half, .int .i64 h.scan, .bool h.busy, .slice ob5 h.old.length oc5, .slice nb5 h.new.length nc5, .slice rb5 h.regs.length rc5] 31) :: (w4.heap.size, .cells #[.int .i64 h.size, .int .i64 h.half, .int .i64 h.scan, .bool h.busy, .slice ob h.old.length oc, .slice nb h.new.length nc, .slice rb h.regs.length rc] 31) :: (w.heap.size, PBox size n (.slice (some ⟨blk, off, none⟩) ds.length lc)) :: L') w') wS134 := ⟨_, _, hs131.out, mS133⟩
            refine AnyFrom.call (i := 18) (by kernel_rfl) rfl (by kernel_rfl) fun K hK => ?_
            have es := mS133.eqs
            simp only [EqsL] at es
            have ns := mS133.nes
            simp only [NeL, NeFrom] at ns
            go_simp
            have mS135 := (((mS133.set (i := 0) (v := .int .u8 rk) (.tail (.tail (.tail .head)))).set (i := 1) (v := .int .i64 rn) (.tail (.tail (.tail .head)))).set (i := 2) (v := .string rs) (.tail (.tail (.tail .head))))
            simp only [List.setIfInBounds_toArray, List.set_cons_zero, List.set_cons_succ] at mS135
            generalize hwx : World.setCell _ _ _ = wS136
            rw [hwx] at mS135
            refine hK _ _ (.inr ⟨_, _, hs131.out, mS135⟩) ?_
            clear hK K HS
            try simp only [Act.put, List.setIfInBounds_toArray, List.set_cons_zero, List.set_cons_succ, List.getElem_toArray, List.getElem_cons_succ, List.getElem_cons_zero]
            clear es ns hwx
            have HS : (fun w' => ∃ H' L', Hle Hd120 H' ∧ Mem w0 H' ((w5.heap.size, .cells #[.int .i64 h.size, .int .i64 h.half, .int .i64 h.scan, .bool h.busy, .slice ob5 h.old.length oc5, .slice nb5 h.new.length nc5, .slice rb5 h.regs.length rc5] 31) :: (w4.heap.size, .cells #[.int .i64 h.size, .int .i64 h.half, .int .i64 h.scan, .bool h.busy, .slice ob h.old.length oc, .slice nb h.new.length nc, .slice rb h.regs.length rc] 31) :: (w.heap.size, PBox size n (.slice (some ⟨blk, off, none⟩) ds.length lc)) :: L') w') wS136 := ⟨_, _, hs131.out, mS135⟩
            refine AnyFrom.pure (i := 19) (v := ?_) rfl (by kernel_rfl) (by kernel_rfl) (by kernel_rfl) (by decide) (fun _ _ _ h => h) ⟨by kernel_rfl, ?_⟩ HS ?_
            rotate_left
            · first | (intro w'; go_simp; done) | (intro w'; go_simp; with_reducible rfl)
            simp only [Act.put, List.setIfInBounds_toArray, List.set_cons_zero, List.set_cons_succ, List.getElem_toArray, List.getElem_cons_succ, List.getElem_cons_zero]
            refine AnyFrom.done (by kernel_rfl) ?_ _
            exact key x7 x8 blk2 off2 cap2 lb2 lc2 sb2 sc2 ob3 oc3 nb3 nc3 rb3 rc3 _ ⟨Ho128, hle132, F3.out, (mS135.perm (perm_sw3 _ _ _ _ _ _))⟩
        · skip
          refine AnyFrom.op rfl (by kernel_rfl) fun K hK => ?_
          go_simp
          generalize hxo : World.alloc W _ = wA138
          have mA137 : Mem w0 H5 ((W.heap.size, .cells #[.int .u8 0, .int .i64 0, .string ByteArray.empty] 50) :: (w5.heap.size, .cells #[.int .i64 h.size, .int .i64 h.half, .int .i64 h.scan, .bool h.busy, .slice ob5 h.old.length oc5, .slice nb5 h.new.length nc5, .slice rb5 h.regs.length rc5] 31) :: (w4.heap.size, .cells #[.int .i64 h.size, .int .i64 h.half, .int .i64 h.scan, .bool h.busy, .slice ob h.old.length oc, .slice nb h.new.length nc, .slice rb h.regs.length rc] 31) :: (w.heap.size, PBox size n (.slice (some ⟨blk, off, none⟩) ds.length lc)) :: L) wA138 := by rw [← hxo]; exact mW.alloc _
          obtain ⟨x8, hxk⟩ : ∃ k, k = W.heap.size := ⟨_, rfl⟩
          rw [← hxk] at mA137
          rw [← hxk]
          replace mA137 := mA137.perm (perm_fr3 _ _ _ _ _)
          clear hxk hxo
          refine hK _ _ (.inr ⟨_, _, hs0.out, mA137⟩) ?_
          clear hK K HS
          try simp only [Act.put, List.setIfInBounds_toArray, List.set_cons_zero, List.set_cons_succ, List.getElem_toArray, List.getElem_cons_succ, List.getElem_cons_zero]
          have HS : (fun w' => ∃ H' L', Hle H5 H' ∧ Mem w0 H' ((w5.heap.size, .cells #[.int .i64 h.size, .int .i64 h.half, .int .i64 h.scan, .bool h.busy, .slice ob5 h.old.length oc5, .slice nb5 h.new.length nc5, .slice rb5 h.regs.length rc5] 31) :: (w4.heap.size, .cells #[.int .i64 h.size, .int .i64 h.half, .int .i64 h.scan, .bool h.busy, .slice ob h.old.length oc, .slice nb h.new.length nc, .slice rb h.regs.length rc] 31) :: (w.heap.size, PBox size n (.slice (some ⟨blk, off, none⟩) ds.length lc)) :: L') w') wA138 := ⟨_, _, hs0.out, mA137⟩
          refine AnyFrom.two (i := 7) (j := 15) (by kernel_rfl) ?_ ?_
          · skip
            refine AnyFrom.op rfl (by kernel_rfl) fun K hK => ?_
            go_simp
            refine (lawDeeds_any _ [d] (by simp) (fun d' hd' => by rw [List.mem_singleton] at hd'; rw [hd']; have := HAL.out; omega) (HONE5.out.mono hle0) mA137).mono ?_
            rintro e wd141 ⟨Hd140, dv2, rfl, hl142, hdd, mD139⟩
            obtain ⟨db2, cap2, rfl⟩ := hdd.shape
            obtain ⟨blk2, off2, lvv, svv, rfl, hcell2, hdr2⟩ := hdd.getDeed (i := 0) (by simp)
            obtain ⟨lb2, lc2, rfl, -, -, -, -⟩ := hdr2.list
            obtain ⟨sb2, sc2, rfl, -, -, -, -⟩ := hdr2.slots
            rw [Nat.zero_mul, Nat.add_zero] at hcell2
            have CD := Lib.hid hcell2; clear hcell2 hdd
            have DR := Lib.hid (show DeedR Hd140 d _ _ from hdr2); clear hdr2
            have hs143 := Lib.hid (hs0.out.trans hl142)
            have hle144 := hle0.trans hl142
            refine hK _ _ (.inr ⟨_, _, hs143.out, mD139⟩) ?_
            clear hK K HS
            try simp only [Act.put, List.setIfInBounds_toArray, List.set_cons_zero, List.set_cons_succ, List.getElem_toArray, List.getElem_cons_succ, List.getElem_cons_zero]
            refine AnyFrom.stronger (S2 := fun w' => ∃ H' L', Hle Hd140 H' ∧ Mem w0 H' ((w5.heap.size, .cells #[.int .i64 h.size, .int .i64 h.half, .int .i64 h.scan, .bool h.busy, .slice ob5 h.old.length oc5, .slice nb5 h.new.length nc5, .slice rb5 h.regs.length rc5] 31) :: (w4.heap.size, .cells #[.int .i64 h.size, .int .i64 h.half, .int .i64 h.scan, .bool h.busy, .slice ob h.old.length oc, .slice nb h.new.length nc, .slice rb h.regs.length rc] 31) :: (w.heap.size, PBox size n (.slice (some ⟨blk, off, none⟩) ds.length lc)) :: L') w') (fun w' ⟨H', L', hl', hm⟩ => ⟨H', L', hs143.out.trans hl', hm⟩) _ ?_
            have hs146 := Lib.hid (Hle.refl Hd140)
            have HS : (fun w' => ∃ H' L', Hle Hd140 H' ∧ Mem w0 H' ((w5.heap.size, .cells #[.int .i64 h.size, .int .i64 h.half, .int .i64 h.scan, .bool h.busy, .slice ob5 h.old.length oc5, .slice nb5 h.new.length nc5, .slice rb5 h.regs.length rc5] 31) :: (w4.heap.size, .cells #[.int .i64 h.size, .int .i64 h.half, .int .i64 h.scan, .bool h.busy, .slice ob h.old.length oc, .slice nb h.new.length nc, .slice rb h.regs.length rc] 31) :: (w.heap.size, PBox size n (.slice (some ⟨blk, off, none⟩) ds.length lc)) :: L') w') wd141 := ⟨_, _, hs146.out, mD139⟩
            refine AnyFrom.take (i := 8) (v := ?_) rfl (by kernel_rfl) (by kernel_rfl) (by kernel_rfl) (by kernel_rfl) (fun _ _ _ h => h) ⟨by kernel_rfl, ?_⟩ HS ?_
            rotate_left
            · first | (rintro w' ⟨H', L', hl', hm⟩; have es := hm.eqs; simp only [EqsL] at es; go_simp; done) | (rintro w' ⟨H', L', hl', hm⟩; have es := hm.eqs; simp only [EqsL] at es; go_simp; with_reducible rfl)
            simp only [Act.put, List.setIfInBounds_toArray, List.set_cons_zero, List.set_cons_succ, List.getElem_toArray, List.getElem_cons_succ, List.getElem_cons_zero]
            refine AnyFrom.take (i := 9) (v := ?_) rfl (by kernel_rfl) (by kernel_rfl) (by kernel_rfl) (by kernel_rfl) (fun _ _ _ h => h) ⟨by kernel_rfl, ?_⟩ HS ?_
            rotate_left
            · first | (rintro w' ⟨H', L', hl', hm⟩; have es := hm.eqs; simp only [EqsL] at es; have q0 := ((CD.out 0 _ rfl).mono hl').cell hm; have q1 := ((CD.out 1 _ rfl).mono hl').cell hm; have q2 := ((CD.out 2 _ rfl).mono hl').cell hm; have q3 := ((CD.out 3 _ rfl).mono hl').cell hm; have q4 := ((CD.out 4 _ rfl).mono hl').cell hm; have q5 := ((CD.out 5 _ rfl).mono hl').cell hm; have q6 := ((CD.out 6 _ rfl).mono hl').cell hm; have q7 := ((CD.out 7 _ rfl).mono hl').cell hm; have q8 := ((CD.out 8 _ rfl).mono hl').cell hm; have q9 := ((CD.out 9 _ rfl).mono hl').cell hm; have q10 := ((CD.out 10 _ rfl).mono hl').cell hm; have q11 := ((CD.out 11 _ rfl).mono hl').cell hm; rw [Nat.add_zero] at q0; go_simp; done) | (rintro w' ⟨H', L', hl', hm⟩; have es := hm.eqs; simp only [EqsL] at es; have q0 := ((CD.out 0 _ rfl).mono hl').cell hm; have q1 := ((CD.out 1 _ rfl).mono hl').cell hm; have q2 := ((CD.out 2 _ rfl).mono hl').cell hm; have q3 := ((CD.out 3 _ rfl).mono hl').cell hm; have q4 := ((CD.out 4 _ rfl).mono hl').cell hm; have q5 := ((CD.out 5 _ rfl).mono hl').cell hm; have q6 := ((CD.out 6 _ rfl).mono hl').cell hm; have q7 := ((CD.out 7 _ rfl).mono hl').cell hm; have q8 := ((CD.out 8 _ rfl).mono hl').cell hm; have q9 := ((CD.out 9 _ rfl).mono hl').cell hm; have q10 := ((CD.out 10 _ rfl).mono hl').cell hm; have q11 := ((CD.out 11 _ rfl).mono hl').cell hm; rw [Nat.add_zero] at q0; go_simp; with_reducible rfl)
            simp only [Act.put, List.setIfInBounds_toArray, List.set_cons_zero, List.set_cons_succ, List.getElem_toArray, List.getElem_cons_succ, List.getElem_cons_zero]
            refine AnyFrom.two (i := 10) (j := 15) (by kernel_rfl) ?_ ?_
            · skip
              refine AnyFrom.op rfl (by kernel_rfl) fun K hK => ?_
              go_simp
              refine (DoU_any h HGD.out _ _ _ (F5.out.mono hle144) mD139 d _ _ DR.out (by have := HAL.out; omega)).mono ?_
              rw [hres]
              rintro e wd149 ⟨Ho148, vo3, vn3, vr3, rfl, hl150, f3, mD147⟩
              rw [hq] at f3
              rw [hq, hx]
              obtain ⟨ob3, oc3, nb3, nc3, rb3, rc3, rfl, rfl, rfl⟩ := f3.shape
              have F3 := Lib.hid f3; clear f3
              unfold HVal ValM.v
              have hs151 := Lib.hid (hs146.out.trans hl150)
              replace DR := Lib.hid (DR.out.mono hl150)
              have hle152 := hle144.trans hl150
              refine hK _ _ (.inr ⟨_, _, hs151.out, mD147⟩) ?_
              clear hK K HS
              try simp only [Act.put, List.setIfInBounds_toArray, List.set_cons_zero, List.set_cons_succ, List.getElem_toArray, List.getElem_cons_succ, List.getElem_cons_zero]
              have HS : (fun w' => ∃ H' L', Hle Hd140 H' ∧ Mem w0 H' ((w5.heap.size, .cells #[.int .i64 h.size, .int .i64 h.half, .int .i64 h.scan, .bool h.busy, .slice ob5 h.old.length oc5, .slice nb5 h.new.length nc5, .slice rb5 h.regs.length rc5] 31) :: (w4.heap.size, .cells #[.int .i64 h.size, .int .i64 h.half, .int .i64 h.scan, .bool h.busy, .slice ob h.old.length oc, .slice nb h.new.length nc, .slice rb h.regs.length rc] 31) :: (w.heap.size, PBox size n (.slice (some ⟨blk, off, none⟩) ds.length lc)) :: L') w') wd149 := ⟨_, _, hs151.out, mD147⟩
              refine AnyFrom.pure (i := 11) (v := ?_) rfl (by kernel_rfl) (by kernel_rfl) (by kernel_rfl) (by decide) (fun _ _ _ h => h) ⟨by kernel_rfl, ?_⟩ HS ?_
              rotate_left
              · first | (intro w'; go_simp; done) | (intro w'; go_simp; with_reducible rfl)
              simp only [Act.put, List.setIfInBounds_toArray, List.set_cons_zero, List.set_cons_succ, List.getElem_toArray, List.getElem_cons_succ, List.getElem_cons_zero]
              refine AnyFrom.pure (i := 12) (v := ?_) rfl (by kernel_rfl) (by kernel_rfl) (by kernel_rfl) (by decide) (fun _ _ _ h => h) ⟨by kernel_rfl, ?_⟩ HS ?_
              rotate_left
              · first | (intro w'; go_simp; done) | (intro w'; go_simp; with_reducible rfl)
              simp only [Act.put, List.setIfInBounds_toArray, List.set_cons_zero, List.set_cons_succ, List.getElem_toArray, List.getElem_cons_succ, List.getElem_cons_zero]
              refine AnyFrom.pure (i := 13) (v := ?_) rfl (by kernel_rfl) (by kernel_rfl) (by kernel_rfl) (by decide) (fun _ _ _ h => h) ⟨by kernel_rfl, ?_⟩ HS ?_
              rotate_left
              · first | (intro w'; go_simp; done) | (intro w'; go_simp; with_reducible rfl)
              simp only [Act.put, List.setIfInBounds_toArray, List.set_cons_zero, List.set_cons_succ, List.getElem_toArray, List.getElem_cons_succ, List.getElem_cons_zero]
              refine AnyFrom.pure (i := 14) (v := ?_) rfl (by kernel_rfl) (by kernel_rfl) (by kernel_rfl) (by decide) (fun _ _ _ h => h) ⟨by kernel_rfl, ?_⟩ HS ?_
              rotate_left
              · first | (intro w'; go_simp; done) | (intro w'; go_simp; with_reducible rfl)
              simp only [Act.put, List.setIfInBounds_toArray, List.set_cons_zero, List.set_cons_succ, List.getElem_toArray, List.getElem_cons_succ, List.getElem_cons_zero]
              refine AnyFrom.call (i := 15) (by kernel_rfl) rfl (by kernel_rfl) fun K hK => ?_
              go_simp
              generalize hxo : World.alloc wd149 _ = wA154
              have mA153 : Mem w0 Ho148 ((wd149.heap.size, .cells #[.int .i64 0, .int .i64 0, .int .i64 0, .bool false, .slice none 0 0, .slice none 0 0, .slice none 0 0] 31) :: (w5.heap.size, .cells #[.int .i64 h.size, .int .i64 h.half, .int .i64 h.scan, .bool h.busy, .slice ob5 h.old.length oc5, .slice nb5 h.new.length nc5, .slice rb5 h.regs.length rc5] 31) :: (w4.heap.size, .cells #[.int .i64 h.size, .int .i64 h.half, .int .i64 h.scan, .bool h.busy, .slice ob h.old.length oc, .slice nb h.new.length nc, .slice rb h.regs.length rc] 31) :: (w.heap.size, PBox size n (.slice (some ⟨blk, off, none⟩) ds.length lc)) :: (x8, .cells #[.int .u8 0, .int .i64 0, .string ByteArray.empty] 50) :: L) wA154 := by rw [← hxo]; exact mD147.alloc _
              obtain ⟨x7, hxk⟩ : ∃ k, k = wd149.heap.size := ⟨_, rfl⟩
              rw [← hxk] at mA153
              rw [← hxk]
              replace mA153 := mA153.perm (perm_fr3 _ _ _ _ _)
              clear hxk hxo
              refine hK _ _ (.inr ⟨_, _, hs151.out, mA153⟩) ?_
              clear hK K HS
              try simp only [Act.put, List.setIfInBounds_toArray, List.set_cons_zero, List.set_cons_succ, List.getElem_toArray, List.getElem_cons_succ, List.getElem_cons_zero]
              have HS : (fun w' => ∃ H' L', Hle Hd140 H' ∧ Mem w0 H' ((w5.heap.size, .cells #[.int .i64 h.size, .int .i64 h.half, .int .i64 h.scan, .bool h.busy, .slice ob5 h.old.length oc5, .slice nb5 h.new.length nc5, .slice rb5 h.regs.length rc5] 31) :: (w4.heap.size, .cells #[.int .i64 h.size, .int .i64 h.half, .int .i64 h.scan, .bool h.busy, .slice ob h.old.length oc, .slice nb h.new.length nc, .slice rb h.regs.length rc] 31) :: (w.heap.size, PBox size n (.slice (some ⟨blk, off, none⟩) ds.length lc)) :: L') w') wA154 := ⟨_, _, hs151.out, mA153⟩
              refine AnyFrom.call (i := 17) (by kernel_rfl) rfl (by kernel_rfl) fun K hK => ?_
              have es := mA153.eqs
              simp only [EqsL] at es
              have ns := mA153.nes
              simp only [NeL, NeFrom] at ns
              go_simp
              have mS155 := (((((((mA153.set (i := 0) (v := .int .i64 q.size) (.tail (.tail (.tail .head)))).set (i := 1) (v := .int .i64 q.half) (.tail (.tail (.tail .head)))).set (i := 2) (v := .int .i64 q.scan) (.tail (.tail (.tail .head)))).set (i := 3) (v := .bool q.busy) (.tail (.tail (.tail .head)))).set (i := 4) (v := .slice ob3 q.old.length oc3) (.tail (.tail (.tail .head)))).set (i := 5) (v := .slice nb3 q.new.length nc3) (.tail (.tail (.tail .head)))).set (i := 6) (v := .slice rb3 q.regs.length rc3) (.tail (.tail (.tail .head))))
              simp only [List.setIfInBounds_toArray, List.set_cons_zero, List.set_cons_succ] at mS155
              generalize hwx : World.setCell _ _ _ = wS156
              rw [hwx] at mS155
              refine hK _ _ (.inr ⟨_, _, hs151.out, mS155⟩) ?_
              clear hK K HS
              try simp only [Act.put, List.setIfInBounds_toArray, List.set_cons_zero, List.set_cons_succ, List.getElem_toArray, List.getElem_cons_succ, List.getElem_cons_zero]
              clear es ns hwx
              have HS : (fun w' => ∃ H' L', Hle Hd140 H' ∧ Mem w0 H' ((w5.heap.size, .cells #[.int .i64 h.size, .int .i64 h.half, .int .i64 h.scan, .bool h.busy, .slice ob5 h.old.length oc5, .slice nb5 h.new.length nc5, .slice rb5 h.regs.length rc5] 31) :: (w4.heap.size, .cells #[.int .i64 h.size, .int .i64 h.half, .int .i64 h.scan, .bool h.busy, .slice ob h.old.length oc, .slice nb h.new.length nc, .slice rb h.regs.length rc] 31) :: (w.heap.size, PBox size n (.slice (some ⟨blk, off, none⟩) ds.length lc)) :: L') w') wS156 := ⟨_, _, hs151.out, mS155⟩
              refine AnyFrom.call (i := 18) (by kernel_rfl) rfl (by kernel_rfl) fun K hK => ?_
              have es := mS155.eqs
              simp only [EqsL] at es
              have ns := mS155.nes
              simp only [NeL, NeFrom] at ns
              go_simp
              have mS157 := (((mS155.set (i := 0) (v := .int .u8 rk) (.tail (.tail (.tail (.tail .head))))).set (i := 1) (v := .int .i64 rn) (.tail (.tail (.tail (.tail .head))))).set (i := 2) (v := .string rs) (.tail (.tail (.tail (.tail .head)))))
              simp only [List.setIfInBounds_toArray, List.set_cons_zero, List.set_cons_succ] at mS157
              generalize hwx : World.setCell _ _ _ = wS158
              rw [hwx] at mS157
              refine hK _ _ (.inr ⟨_, _, hs151.out, mS157⟩) ?_
              clear hK K HS
              try simp only [Act.put, List.setIfInBounds_toArray, List.set_cons_zero, List.set_cons_succ, List.getElem_toArray, List.getElem_cons_succ, List.getElem_cons_zero]
              clear es ns hwx
              have HS : (fun w' => ∃ H' L', Hle Hd140 H' ∧ Mem w0 H' ((w5.heap.size, .cells #[.int .i64 h.size, .int .i64 h.half, .int .i64 h.scan, .bool h.busy, .slice ob5 h.old.length oc5, .slice nb5 h.new.length nc5, .slice rb5 h.regs.length rc5] 31) :: (w4.heap.size, .cells #[.int .i64 h.size, .int .i64 h.half, .int .i64 h.scan, .bool h.busy, .slice ob h.old.length oc, .slice nb h.new.length nc, .slice rb h.regs.length rc] 31) :: (w.heap.size, PBox size n (.slice (some ⟨blk, off, none⟩) ds.length lc)) :: L') w') wS158 := ⟨_, _, hs151.out, mS157⟩
              refine AnyFrom.pure (i := 19) (v := ?_) rfl (by kernel_rfl) (by kernel_rfl) (by kernel_rfl) (by decide) (fun _ _ _ h => h) ⟨by kernel_rfl, ?_⟩ HS ?_
              rotate_left
              · first | (intro w'; go_simp; done) | (intro w'; go_simp; with_reducible rfl)
              simp only [Act.put, List.setIfInBounds_toArray, List.set_cons_zero, List.set_cons_succ, List.getElem_toArray, List.getElem_cons_succ, List.getElem_cons_zero]
              refine AnyFrom.done (by kernel_rfl) ?_ _
              exact key x7 x8 blk2 off2 cap2 lb2 lc2 sb2 sc2 ob3 oc3 nb3 nc3 rb3 rc3 _ ⟨Ho148, hle152, F3.out, mS157⟩
            · skip
              refine AnyFrom.op rfl (by kernel_rfl) fun K hK => ?_
              go_simp
              generalize hxo : World.alloc wd141 _ = wA160
              have mA159 : Mem w0 Hd140 ((wd141.heap.size, .cells #[.int .i64 0, .int .i64 0, .int .i64 0, .bool false, .slice none 0 0, .slice none 0 0, .slice none 0 0] 31) :: (w5.heap.size, .cells #[.int .i64 h.size, .int .i64 h.half, .int .i64 h.scan, .bool h.busy, .slice ob5 h.old.length oc5, .slice nb5 h.new.length nc5, .slice rb5 h.regs.length rc5] 31) :: (w4.heap.size, .cells #[.int .i64 h.size, .int .i64 h.half, .int .i64 h.scan, .bool h.busy, .slice ob h.old.length oc, .slice nb h.new.length nc, .slice rb h.regs.length rc] 31) :: (w.heap.size, PBox size n (.slice (some ⟨blk, off, none⟩) ds.length lc)) :: (x8, .cells #[.int .u8 0, .int .i64 0, .string ByteArray.empty] 50) :: L) wA160 := by rw [← hxo]; exact mD139.alloc _
              obtain ⟨x7, hxk⟩ : ∃ k, k = wd141.heap.size := ⟨_, rfl⟩
              rw [← hxk] at mA159
              rw [← hxk]
              replace mA159 := mA159.perm (perm_fr3 _ _ _ _ _)
              clear hxk hxo
              refine hK _ _ (.inr ⟨_, _, hs146.out, mA159⟩) ?_
              clear hK K HS
              try simp only [Act.put, List.setIfInBounds_toArray, List.set_cons_zero, List.set_cons_succ, List.getElem_toArray, List.getElem_cons_succ, List.getElem_cons_zero]
              have HS : (fun w' => ∃ H' L', Hle Hd140 H' ∧ Mem w0 H' ((w5.heap.size, .cells #[.int .i64 h.size, .int .i64 h.half, .int .i64 h.scan, .bool h.busy, .slice ob5 h.old.length oc5, .slice nb5 h.new.length nc5, .slice rb5 h.regs.length rc5] 31) :: (w4.heap.size, .cells #[.int .i64 h.size, .int .i64 h.half, .int .i64 h.scan, .bool h.busy, .slice ob h.old.length oc, .slice nb h.new.length nc, .slice rb h.regs.length rc] 31) :: (w.heap.size, PBox size n (.slice (some ⟨blk, off, none⟩) ds.length lc)) :: L') w') wA160 := ⟨_, _, hs146.out, mA159⟩
              refine AnyFrom.call (i := 10) (by kernel_rfl) rfl (by kernel_rfl) fun K hK => ?_
              go_simp
              refine (DoU_any h HGD.out _ _ _ (F5.out.mono hle144) mA159 d _ _ DR.out (by have := HAL.out; omega)).mono ?_
              rw [hres]
              rintro e wd163 ⟨Ho162, vo3, vn3, vr3, rfl, hl164, f3, mD161⟩
              rw [hq] at f3
              rw [hq, hx]
              obtain ⟨ob3, oc3, nb3, nc3, rb3, rc3, rfl, rfl, rfl⟩ := f3.shape
              have F3 := Lib.hid f3; clear f3
              unfold HVal ValM.v
              have hs165 := Lib.hid (hs146.out.trans hl164)
              replace DR := Lib.hid (DR.out.mono hl164)
              have hle166 := hle144.trans hl164
              refine hK _ _ (.inr ⟨_, _, hs165.out, mD161⟩) ?_
              clear hK K HS
              try simp only [Act.put, List.setIfInBounds_toArray, List.set_cons_zero, List.set_cons_succ, List.getElem_toArray, List.getElem_cons_succ, List.getElem_cons_zero]
              have HS : (fun w' => ∃ H' L', Hle Hd140 H' ∧ Mem w0 H' ((w5.heap.size, .cells #[.int .i64 h.size, .int .i64 h.half, .int .i64 h.scan, .bool h.busy, .slice ob5 h.old.length oc5, .slice nb5 h.new.length nc5, .slice rb5 h.regs.length rc5] 31) :: (w4.heap.size, .cells #[.int .i64 h.size, .int .i64 h.half, .int .i64 h.scan, .bool h.busy, .slice ob h.old.length oc, .slice nb h.new.length nc, .slice rb h.regs.length rc] 31) :: (w.heap.size, PBox size n (.slice (some ⟨blk, off, none⟩) ds.length lc)) :: L') w') wd163 := ⟨_, _, hs165.out, mD161⟩
              refine AnyFrom.pure (i := 11) (v := ?_) rfl (by kernel_rfl) (by kernel_rfl) (by kernel_rfl) (by decide) (fun _ _ _ h => h) ⟨by kernel_rfl, ?_⟩ HS ?_
              rotate_left
              · first | (intro w'; go_simp; done) | (intro w'; go_simp; with_reducible rfl)
              simp only [Act.put, List.setIfInBounds_toArray, List.set_cons_zero, List.set_cons_succ, List.getElem_toArray, List.getElem_cons_succ, List.getElem_cons_zero]
              refine AnyFrom.pure (i := 12) (v := ?_) rfl (by kernel_rfl) (by kernel_rfl) (by kernel_rfl) (by decide) (fun _ _ _ h => h) ⟨by kernel_rfl, ?_⟩ HS ?_
              rotate_left
              · first | (intro w'; go_simp; done) | (intro w'; go_simp; with_reducible rfl)
              simp only [Act.put, List.setIfInBounds_toArray, List.set_cons_zero, List.set_cons_succ, List.getElem_toArray, List.getElem_cons_succ, List.getElem_cons_zero]
              refine AnyFrom.pure (i := 13) (v := ?_) rfl (by kernel_rfl) (by kernel_rfl) (by kernel_rfl) (by decide) (fun _ _ _ h => h) ⟨by kernel_rfl, ?_⟩ HS ?_
              rotate_left
              · first | (intro w'; go_simp; done) | (intro w'; go_simp; with_reducible rfl)
              simp only [Act.put, List.setIfInBounds_toArray, List.set_cons_zero, List.set_cons_succ, List.getElem_toArray, List.getElem_cons_succ, List.getElem_cons_zero]
              refine AnyFrom.pure (i := 14) (v := ?_) rfl (by kernel_rfl) (by kernel_rfl) (by kernel_rfl) (by decide) (fun _ _ _ h => h) ⟨by kernel_rfl, ?_⟩ HS ?_
              rotate_left
              · first | (intro w'; go_simp; done) | (intro w'; go_simp; with_reducible rfl)
              simp only [Act.put, List.setIfInBounds_toArray, List.set_cons_zero, List.set_cons_succ, List.getElem_toArray, List.getElem_cons_succ, List.getElem_cons_zero]
              refine AnyFrom.call (i := 17) (by kernel_rfl) rfl (by kernel_rfl) fun K hK => ?_
              have es := mD161.eqs
              simp only [EqsL] at es
              have ns := mD161.nes
              simp only [NeL, NeFrom] at ns
              go_simp
              have mS167 := (((((((mD161.set (i := 0) (v := .int .i64 q.size) (.tail (.tail (.tail .head)))).set (i := 1) (v := .int .i64 q.half) (.tail (.tail (.tail .head)))).set (i := 2) (v := .int .i64 q.scan) (.tail (.tail (.tail .head)))).set (i := 3) (v := .bool q.busy) (.tail (.tail (.tail .head)))).set (i := 4) (v := .slice ob3 q.old.length oc3) (.tail (.tail (.tail .head)))).set (i := 5) (v := .slice nb3 q.new.length nc3) (.tail (.tail (.tail .head)))).set (i := 6) (v := .slice rb3 q.regs.length rc3) (.tail (.tail (.tail .head))))
              simp only [List.setIfInBounds_toArray, List.set_cons_zero, List.set_cons_succ] at mS167
              generalize hwx : World.setCell _ _ _ = wS168
              rw [hwx] at mS167
              refine hK _ _ (.inr ⟨_, _, hs165.out, mS167⟩) ?_
              clear hK K HS
              try simp only [Act.put, List.setIfInBounds_toArray, List.set_cons_zero, List.set_cons_succ, List.getElem_toArray, List.getElem_cons_succ, List.getElem_cons_zero]
              clear es ns hwx
              have HS : (fun w' => ∃ H' L', Hle Hd140 H' ∧ Mem w0 H' ((w5.heap.size, .cells #[.int .i64 h.size, .int .i64 h.half, .int .i64 h.scan, .bool h.busy, .slice ob5 h.old.length oc5, .slice nb5 h.new.length nc5, .slice rb5 h.regs.length rc5] 31) :: (w4.heap.size, .cells #[.int .i64 h.size, .int .i64 h.half, .int .i64 h.scan, .bool h.busy, .slice ob h.old.length oc, .slice nb h.new.length nc, .slice rb h.regs.length rc] 31) :: (w.heap.size, PBox size n (.slice (some ⟨blk, off, none⟩) ds.length lc)) :: L') w') wS168 := ⟨_, _, hs165.out, mS167⟩
              refine AnyFrom.call (i := 18) (by kernel_rfl) rfl (by kernel_rfl) fun K hK => ?_
              have es := mS167.eqs
              simp only [EqsL] at es
              have ns := mS167.nes
              simp only [NeL, NeFrom] at ns
              go_simp
              have mS169 := (((mS167.set (i := 0) (v := .int .u8 rk) (.tail (.tail (.tail (.tail .head))))).set (i := 1) (v := .int .i64 rn) (.tail (.tail (.tail (.tail .head))))).set (i := 2) (v := .string rs) (.tail (.tail (.tail (.tail .head)))))
              simp only [List.setIfInBounds_toArray, List.set_cons_zero, List.set_cons_succ] at mS169
              generalize hwx : World.setCell _ _ _ = wS170
              rw [hwx] at mS169
              refine hK _ _ (.inr ⟨_, _, hs165.out, mS169⟩) ?_
              clear hK K HS
              try simp only [Act.put, List.setIfInBounds_toArray, List.set_cons_zero, List.set_cons_succ, List.getElem_toArray, List.getElem_cons_succ, List.getElem_cons_zero]
              clear es ns hwx
              have HS : (fun w' => ∃ H' L', Hle Hd140 H' ∧ Mem w0 H' ((w5.heap.size, .cells #[.int .i64 h.size, .int .i64 h.half, .int .i64 h.scan, .bool h.busy, .slice ob5 h.old.length oc5, .slice nb5 h.new.length nc5, .slice rb5 h.regs.length rc5] 31) :: (w4.heap.size, .cells #[.int .i64 h.size, .int .i64 h.half, .int .i64 h.scan, .bool h.busy, .slice ob h.old.length oc, .slice nb h.new.length nc, .slice rb h.regs.length rc] 31) :: (w.heap.size, PBox size n (.slice (some ⟨blk, off, none⟩) ds.length lc)) :: L') w') wS170 := ⟨_, _, hs165.out, mS169⟩
              refine AnyFrom.pure (i := 19) (v := ?_) rfl (by kernel_rfl) (by kernel_rfl) (by kernel_rfl) (by decide) (fun _ _ _ h => h) ⟨by kernel_rfl, ?_⟩ HS ?_
              rotate_left
              · first | (intro w'; go_simp; done) | (intro w'; go_simp; with_reducible rfl)
              simp only [Act.put, List.setIfInBounds_toArray, List.set_cons_zero, List.set_cons_succ, List.getElem_toArray, List.getElem_cons_succ, List.getElem_cons_zero]
              refine AnyFrom.done (by kernel_rfl) ?_ _
              exact key x7 x8 blk2 off2 cap2 lb2 lc2 sb2 sc2 ob3 oc3 nb3 nc3 rb3 rc3 _ ⟨Ho162, hle166, F3.out, mS169⟩
          · skip
            refine AnyFrom.op rfl (by kernel_rfl) fun K hK => ?_
            go_simp
            generalize hxo : World.alloc wA138 _ = wA172
            have mA171 : Mem w0 H5 ((wA138.heap.size, .cells #[.int .i64 0, .int .i64 0, .int .i64 0, .bool false, .slice none 0 0, .slice none 0 0, .slice none 0 0] 31) :: (w5.heap.size, .cells #[.int .i64 h.size, .int .i64 h.half, .int .i64 h.scan, .bool h.busy, .slice ob5 h.old.length oc5, .slice nb5 h.new.length nc5, .slice rb5 h.regs.length rc5] 31) :: (w4.heap.size, .cells #[.int .i64 h.size, .int .i64 h.half, .int .i64 h.scan, .bool h.busy, .slice ob h.old.length oc, .slice nb h.new.length nc, .slice rb h.regs.length rc] 31) :: (w.heap.size, PBox size n (.slice (some ⟨blk, off, none⟩) ds.length lc)) :: (x8, .cells #[.int .u8 0, .int .i64 0, .string ByteArray.empty] 50) :: L) wA172 := by rw [← hxo]; exact mA137.alloc _
            obtain ⟨x7, hxk⟩ : ∃ k, k = wA138.heap.size := ⟨_, rfl⟩
            rw [← hxk] at mA171
            rw [← hxk]
            replace mA171 := mA171.perm (perm_fr3 _ _ _ _ _)
            clear hxk hxo
            refine hK _ _ (.inr ⟨_, _, hs0.out, mA171⟩) ?_
            clear hK K HS
            try simp only [Act.put, List.setIfInBounds_toArray, List.set_cons_zero, List.set_cons_succ, List.getElem_toArray, List.getElem_cons_succ, List.getElem_cons_zero]
            have HS : (fun w' => ∃ H' L', Hle H5 H' ∧ Mem w0 H' ((w5.heap.size, .cells #[.int .i64 h.size, .int .i64 h.half, .int .i64 h.scan, .bool h.busy, .slice ob5 h.old.length oc5, .slice nb5 h.new.length nc5, .slice rb5 h.regs.length rc5] 31) :: (w4.heap.size, .cells #[.int .i64 h.size, .int .i64 h.half, .int .i64 h.scan, .bool h.busy, .slice ob h.old.length oc, .slice nb h.new.length nc, .slice rb h.regs.length rc] 31) :: (w.heap.size, PBox size n (.slice (some ⟨blk, off, none⟩) ds.length lc)) :: L') w') wA172 := ⟨_, _, hs0.out, mA171⟩
            refine AnyFrom.call (i := 7) (by kernel_rfl) rfl (by kernel_rfl) fun K hK => ?_
            go_simp
            refine (lawDeeds_any _ [d] (by simp) (fun d' hd' => by rw [List.mem_singleton] at hd'; rw [hd']; have := HAL.out; omega) (HONE5.out.mono hle0) mA171).mono ?_
            rintro e wd175 ⟨Hd174, dv2, rfl, hl176, hdd, mD173⟩
            obtain ⟨db2, cap2, rfl⟩ := hdd.shape
            obtain ⟨blk2, off2, lvv, svv, rfl, hcell2, hdr2⟩ := hdd.getDeed (i := 0) (by simp)
            obtain ⟨lb2, lc2, rfl, -, -, -, -⟩ := hdr2.list
            obtain ⟨sb2, sc2, rfl, -, -, -, -⟩ := hdr2.slots
            rw [Nat.zero_mul, Nat.add_zero] at hcell2
            have CD := Lib.hid hcell2; clear hcell2 hdd
            have DR := Lib.hid (show DeedR Hd174 d _ _ from hdr2); clear hdr2
            have hs177 := Lib.hid (hs0.out.trans hl176)
            have hle178 := hle0.trans hl176
            refine hK _ _ (.inr ⟨_, _, hs177.out, mD173⟩) ?_
            clear hK K HS
            try simp only [Act.put, List.setIfInBounds_toArray, List.set_cons_zero, List.set_cons_succ, List.getElem_toArray, List.getElem_cons_succ, List.getElem_cons_zero]
            refine AnyFrom.stronger (S2 := fun w' => ∃ H' L', Hle Hd174 H' ∧ Mem w0 H' ((w5.heap.size, .cells #[.int .i64 h.size, .int .i64 h.half, .int .i64 h.scan, .bool h.busy, .slice ob5 h.old.length oc5, .slice nb5 h.new.length nc5, .slice rb5 h.regs.length rc5] 31) :: (w4.heap.size, .cells #[.int .i64 h.size, .int .i64 h.half, .int .i64 h.scan, .bool h.busy, .slice ob h.old.length oc, .slice nb h.new.length nc, .slice rb h.regs.length rc] 31) :: (w.heap.size, PBox size n (.slice (some ⟨blk, off, none⟩) ds.length lc)) :: L') w') (fun w' ⟨H', L', hl', hm⟩ => ⟨H', L', hs177.out.trans hl', hm⟩) _ ?_
            have hs180 := Lib.hid (Hle.refl Hd174)
            have HS : (fun w' => ∃ H' L', Hle Hd174 H' ∧ Mem w0 H' ((w5.heap.size, .cells #[.int .i64 h.size, .int .i64 h.half, .int .i64 h.scan, .bool h.busy, .slice ob5 h.old.length oc5, .slice nb5 h.new.length nc5, .slice rb5 h.regs.length rc5] 31) :: (w4.heap.size, .cells #[.int .i64 h.size, .int .i64 h.half, .int .i64 h.scan, .bool h.busy, .slice ob h.old.length oc, .slice nb h.new.length nc, .slice rb h.regs.length rc] 31) :: (w.heap.size, PBox size n (.slice (some ⟨blk, off, none⟩) ds.length lc)) :: L') w') wd175 := ⟨_, _, hs180.out, mD173⟩
            refine AnyFrom.take (i := 8) (v := ?_) rfl (by kernel_rfl) (by kernel_rfl) (by kernel_rfl) (by kernel_rfl) (fun _ _ _ h => h) ⟨by kernel_rfl, ?_⟩ HS ?_
            rotate_left
            · first | (rintro w' ⟨H', L', hl', hm⟩; have es := hm.eqs; simp only [EqsL] at es; go_simp; done) | (rintro w' ⟨H', L', hl', hm⟩; have es := hm.eqs; simp only [EqsL] at es; go_simp; with_reducible rfl)
            simp only [Act.put, List.setIfInBounds_toArray, List.set_cons_zero, List.set_cons_succ, List.getElem_toArray, List.getElem_cons_succ, List.getElem_cons_zero]
            refine AnyFrom.take (i := 9) (v := ?_) rfl (by kernel_rfl) (by kernel_rfl) (by kernel_rfl) (by kernel_rfl) (fun _ _ _ h => h) ⟨by kernel_rfl, ?_⟩ HS ?_
            rotate_left
            · first | (rintro w' ⟨H', L', hl', hm⟩; have es := hm.eqs; simp only [EqsL] at es; have q0 := ((CD.out 0 _ rfl).mono hl').cell hm; have q1 := ((CD.out 1 _ rfl).mono hl').cell hm; have q2 := ((CD.out 2 _ rfl).mono hl').cell hm; have q3 := ((CD.out 3 _ rfl).mono hl').cell hm; have q4 := ((CD.out 4 _ rfl).mono hl').cell hm; have q5 := ((CD.out 5 _ rfl).mono hl').cell hm; have q6 := ((CD.out 6 _ rfl).mono hl').cell hm; have q7 := ((CD.out 7 _ rfl).mono hl').cell hm; have q8 := ((CD.out 8 _ rfl).mono hl').cell hm; have q9 := ((CD.out 9 _ rfl).mono hl').cell hm; have q10 := ((CD.out 10 _ rfl).mono hl').cell hm; have q11 := ((CD.out 11 _ rfl).mono hl').cell hm; rw [Nat.add_zero] at q0; go_simp; done) | (rintro w' ⟨H', L', hl', hm⟩; have es := hm.eqs; simp only [EqsL] at es; have q0 := ((CD.out 0 _ rfl).mono hl').cell hm; have q1 := ((CD.out 1 _ rfl).mono hl').cell hm; have q2 := ((CD.out 2 _ rfl).mono hl').cell hm; have q3 := ((CD.out 3 _ rfl).mono hl').cell hm; have q4 := ((CD.out 4 _ rfl).mono hl').cell hm; have q5 := ((CD.out 5 _ rfl).mono hl').cell hm; have q6 := ((CD.out 6 _ rfl).mono hl').cell hm; have q7 := ((CD.out 7 _ rfl).mono hl').cell hm; have q8 := ((CD.out 8 _ rfl).mono hl').cell hm; have q9 := ((CD.out 9 _ rfl).mono hl').cell hm; have q10 := ((CD.out 10 _ rfl).mono hl').cell hm; have q11 := ((CD.out 11 _ rfl).mono hl').cell hm; rw [Nat.add_zero] at q0; go_simp; with_reducible rfl)
            simp only [Act.put, List.setIfInBounds_toArray, List.set_cons_zero, List.set_cons_succ, List.getElem_toArray, List.getElem_cons_succ, List.getElem_cons_zero]
            refine AnyFrom.call (i := 10) (by kernel_rfl) rfl (by kernel_rfl) fun K hK => ?_
            go_simp
            refine (DoU_any h HGD.out _ _ _ (F5.out.mono hle178) mD173 d _ _ DR.out (by have := HAL.out; omega)).mono ?_
            rw [hres]
            rintro e wd183 ⟨Ho182, vo3, vn3, vr3, rfl, hl184, f3, mD181⟩
            rw [hq] at f3
            rw [hq, hx]
            obtain ⟨ob3, oc3, nb3, nc3, rb3, rc3, rfl, rfl, rfl⟩ := f3.shape
            have F3 := Lib.hid f3; clear f3
            unfold HVal ValM.v
            have hs185 := Lib.hid (hs180.out.trans hl184)
            replace DR := Lib.hid (DR.out.mono hl184)
            have hle186 := hle178.trans hl184
            refine hK _ _ (.inr ⟨_, _, hs185.out, mD181⟩) ?_
            clear hK K HS
            try simp only [Act.put, List.setIfInBounds_toArray, List.set_cons_zero, List.set_cons_succ, List.getElem_toArray, List.getElem_cons_succ, List.getElem_cons_zero]
            have HS : (fun w' => ∃ H' L', Hle Hd174 H' ∧ Mem w0 H' ((w5.heap.size, .cells #[.int .i64 h.size, .int .i64 h.half, .int .i64 h.scan, .bool h.busy, .slice ob5 h.old.length oc5, .slice nb5 h.new.length nc5, .slice rb5 h.regs.length rc5] 31) :: (w4.heap.size, .cells #[.int .i64 h.size, .int .i64 h.half, .int .i64 h.scan, .bool h.busy, .slice ob h.old.length oc, .slice nb h.new.length nc, .slice rb h.regs.length rc] 31) :: (w.heap.size, PBox size n (.slice (some ⟨blk, off, none⟩) ds.length lc)) :: L') w') wd183 := ⟨_, _, hs185.out, mD181⟩
            refine AnyFrom.pure (i := 11) (v := ?_) rfl (by kernel_rfl) (by kernel_rfl) (by kernel_rfl) (by decide) (fun _ _ _ h => h) ⟨by kernel_rfl, ?_⟩ HS ?_
            rotate_left
            · first | (intro w'; go_simp; done) | (intro w'; go_simp; with_reducible rfl)
            simp only [Act.put, List.setIfInBounds_toArray, List.set_cons_zero, List.set_cons_succ, List.getElem_toArray, List.getElem_cons_succ, List.getElem_cons_zero]
            refine AnyFrom.pure (i := 12) (v := ?_) rfl (by kernel_rfl) (by kernel_rfl) (by kernel_rfl) (by decide) (fun _ _ _ h => h) ⟨by kernel_rfl, ?_⟩ HS ?_
            rotate_left
            · first | (intro w'; go_simp; done) | (intro w'; go_simp; with_reducible rfl)
            simp only [Act.put, List.setIfInBounds_toArray, List.set_cons_zero, List.set_cons_succ, List.getElem_toArray, List.getElem_cons_succ, List.getElem_cons_zero]
            refine AnyFrom.pure (i := 13) (v := ?_) rfl (by kernel_rfl) (by kernel_rfl) (by kernel_rfl) (by decide) (fun _ _ _ h => h) ⟨by kernel_rfl, ?_⟩ HS ?_
            rotate_left
            · first | (intro w'; go_simp; done) | (intro w'; go_simp; with_reducible rfl)
            simp only [Act.put, List.setIfInBounds_toArray, List.set_cons_zero, List.set_cons_succ, List.getElem_toArray, List.getElem_cons_succ, List.getElem_cons_zero]
            refine AnyFrom.pure (i := 14) (v := ?_) rfl (by kernel_rfl) (by kernel_rfl) (by kernel_rfl) (by decide) (fun _ _ _ h => h) ⟨by kernel_rfl, ?_⟩ HS ?_
            rotate_left
            · first | (intro w'; go_simp; done) | (intro w'; go_simp; with_reducible rfl)
            simp only [Act.put, List.setIfInBounds_toArray, List.set_cons_zero, List.set_cons_succ, List.getElem_toArray, List.getElem_cons_succ, List.getElem_cons_zero]
            refine AnyFrom.call (i := 17) (by kernel_rfl) rfl (by kernel_rfl) fun K hK => ?_
            have es := mD181.eqs
            simp only [EqsL] at es
            have ns := mD181.nes
            simp only [NeL, NeFrom] at ns
            go_simp
            have mS187 := (((((((mD181.set (i := 0) (v := .int .i64 q.size) (.tail (.tail (.tail .head)))).set (i := 1) (v := .int .i64 q.half) (.tail (.tail (.tail .head)))).set (i := 2) (v := .int .i64 q.scan) (.tail (.tail (.tail .head)))).set (i := 3) (v := .bool q.busy) (.tail (.tail (.tail .head)))).set (i := 4) (v := .slice ob3 q.old.length oc3) (.tail (.tail (.tail .head)))).set (i := 5) (v := .slice nb3 q.new.length nc3) (.tail (.tail (.tail .head)))).set (i := 6) (v := .slice rb3 q.regs.length rc3) (.tail (.tail (.tail .head))))
            simp only [List.setIfInBounds_toArray, List.set_cons_zero, List.set_cons_succ] at mS187
            generalize hwx : World.setCell _ _ _ = wS188
            rw [hwx] at mS187
            refine hK _ _ (.inr ⟨_, _, hs185.out, mS187⟩) ?_
            clear hK K HS
            try simp only [Act.put, List.setIfInBounds_toArray, List.set_cons_zero, List.set_cons_succ, List.getElem_toArray, List.getElem_cons_succ, List.getElem_cons_zero]
            clear es ns hwx
            have HS : (fun w' => ∃ H' L', Hle Hd174 H' ∧ Mem w0 H' ((w5.heap.size, .cells #[.int .i64 h.size, .int .i64 h.half, .int .i64 h.scan, .bool h.busy, .slice ob5 h.old.length oc5, .slice nb5 h.new.length nc5, .slice rb5 h.regs.length rc5] 31) :: (w4.heap.size, .cells #[.int .i64 h.size, .int .i64 h.half, .int .i64 h.scan, .bool h.busy, .slice ob h.old.length oc, .slice nb h.new.length nc, .slice rb h.regs.length rc] 31) :: (w.heap.size, PBox size n (.slice (some ⟨blk, off, none⟩) ds.length lc)) :: L') w') wS188 := ⟨_, _, hs185.out, mS187⟩
            refine AnyFrom.call (i := 18) (by kernel_rfl) rfl (by kernel_rfl) fun K hK => ?_
            have es := mS187.eqs
            simp only [EqsL] at es
            have ns := mS187.nes
            simp only [NeL, NeFrom] at ns
            go_simp
            have mS189 := (((mS187.set (i := 0) (v := .int .u8 rk) (.tail (.tail (.tail (.tail .head))))).set (i := 1) (v := .int .i64 rn) (.tail (.tail (.tail (.tail .head))))).set (i := 2) (v := .string rs) (.tail (.tail (.tail (.tail .head)))))
            simp only [List.setIfInBounds_toArray, List.set_cons_zero, List.set_cons_succ] at mS189
            generalize hwx : World.setCell _ _ _ = wS190
            rw [hwx] at mS189
            refine hK _ _ (.inr ⟨_, _, hs185.out, mS189⟩) ?_
            clear hK K HS
            try simp only [Act.put, List.setIfInBounds_toArray, List.set_cons_zero, List.set_cons_succ, List.getElem_toArray, List.getElem_cons_succ, List.getElem_cons_zero]
            clear es ns hwx
            have HS : (fun w' => ∃ H' L', Hle Hd174 H' ∧ Mem w0 H' ((w5.heap.size, .cells #[.int .i64 h.size, .int .i64 h.half, .int .i64 h.scan, .bool h.busy, .slice ob5 h.old.length oc5, .slice nb5 h.new.length nc5, .slice rb5 h.regs.length rc5] 31) :: (w4.heap.size, .cells #[.int .i64 h.size, .int .i64 h.half, .int .i64 h.scan, .bool h.busy, .slice ob h.old.length oc, .slice nb h.new.length nc, .slice rb h.regs.length rc] 31) :: (w.heap.size, PBox size n (.slice (some ⟨blk, off, none⟩) ds.length lc)) :: L') w') wS190 := ⟨_, _, hs185.out, mS189⟩
            refine AnyFrom.pure (i := 19) (v := ?_) rfl (by kernel_rfl) (by kernel_rfl) (by kernel_rfl) (by decide) (fun _ _ _ h => h) ⟨by kernel_rfl, ?_⟩ HS ?_
            rotate_left
            · first | (intro w'; go_simp; done) | (intro w'; go_simp; with_reducible rfl)
            simp only [Act.put, List.setIfInBounds_toArray, List.set_cons_zero, List.set_cons_succ, List.getElem_toArray, List.getElem_cons_succ, List.getElem_cons_zero]
            refine AnyFrom.done (by kernel_rfl) ?_ _
            exact key x7 x8 blk2 off2 cap2 lb2 lc2 sb2 sc2 ob3 oc3 nb3 nc3 rb3 rc3 _ ⟨Ho182, hle186, F3.out, mS189⟩
      case' rest =>
        rintro x7 x8 blk2 off2 cap2 lb2 lc2 sb2 sc2 ob3 oc3 nb3 nc3 rb3 rc3 wS ⟨H3, hl3, f3, m8⟩
        have F3 := Lib.hid f3; clear f3
        have HF3 := Lib.hid (HF5.out.mono hl3)
        have F53 := Lib.hid (F5.out.mono hl3)
        have HLE3 := Lib.hid (HLE5.out.trans hl3)
        clear hl3
        have es := m8.eqs
        simp only [EqsL] at es
        have HRES := Lib.hid hres; clear hres
        have HQ := Lib.hid hq; clear hq
        clear hx
        go_wp2_with fail
        refine (Copy_fr h hbds _ _ _ HF3.out m8).mono ?_
        rintro e w9 ⟨H9, vo9, vn9, vr9, rfl, hl9, f9, m9⟩
        clear es m8
        go_wp2_with fail
        refine (WordsB_any h HGD.out _ _ _ f9 m9).mono ?_
        rintro e w10 ⟨rfl, m10⟩
        clear m9 f9
        have hne : (h.size != size) = false := by rw [HSI.out]; simp
        generalize hus : h.used = us at *
        generalize hdu : h.due = du at *
        have HUS := Lib.hid hus; clear hus
        have HDU := Lib.hid hdu; clear hdu
        have hA1 : IntKind.i64.wrap (us + du) = us + du := wrap_i64s _ (by omega) (by omega)
        have hA2 : IntKind.i64.wrap (us + du + (h.size - us - du)) = h.size := by rw [wrap_i64s _ (by omega) (by omega)]; omega
        have hA4 : ¬ h.size - us - du < 0 := by omega
        have es := m10.eqs
        simp only [EqsL] at es
        have F9 := Lib.hid (F53.out.mono hl9)
        have G9 := Lib.hid (HF3.out.mono hl9)
        have Q9 := Lib.hid (F3.out.mono hl9)
        have HLE9 := Lib.hid (HLE3.out.trans hl9)
        clear hl9 HF3 F53 F3 HLE3
        go_wp2_with fail
        refine (Same_eq h hbds _ _ _ _ _ _ F9.out.o F9.out.n F9.out.r G9.out.o G9.out.n G9.out.r m10).mono ?_
        rintro e w11 ⟨rfl, m11⟩
        clear es m10
        have es := m11.eqs
        simp only [EqsL] at es
        by_cases hre : r.1 = 0
        · have hqe : q = r.2.2 := by rw [← HQ.out]; unfold outH; rw [if_pos hre]
          have gq : HGood q := by rw [hqe, ← HRES.out]; exact HGD.out.do d
          have hqd := due_used gq
          have hqb := gq.ok.hbd
          have hrm := room_do HGD.out d (by rw [HRES.out]; exact hre)
          rw [HRES.out, ← hqe] at hrm
          unfold HeapM.sum at hrm
          rw [HUS.out, HDU.out] at hrm
          have HRM := Lib.hid hrm; clear hrm
          have GQ := Lib.hid gq; clear gq
          have HQE := Lib.hid hqe; clear hqe
          have hqn : 0 ≤ q.used ∧ 0 ≤ q.due ∧ q.used + q.due ≤ 6000 := by omega
          clear hqd
          go_wp2_with fail
          refine (Copy_fr q hqb _ _ _ Q9.out m11).mono ?_
          rintro e w12 ⟨H12, vo12, vn12, vr12, rfl, hl12, f12, m12⟩
          clear es m11
          go_wp2_with fail
          refine (WordsB_any q GQ.out _ _ _ f12 m12).mono ?_
          rintro e w13 ⟨rfl, m13⟩
          clear m12 f12
          have es := m13.eqs
          simp only [EqsL] at es
          have Q12 := Lib.hid (Q9.out.mono hl12)
          have HLE12 := Lib.hid (HLE9.out.trans hl12)
          clear hl12
          go_wp2_with fail
          refine (Copy_fr q hqb _ _ _ Q12.out m13).mono ?_
          rintro e w14 ⟨H14, vo14, vn14, vr14, rfl, hl14, f14, m14⟩
          clear es m13
          go_wp2_with fail
          refine (Check_any q GQ.out _ _ _ f14 m14).mono ?_
          rintro e w15 ⟨rfl, m15⟩
          clear m14 f14
          have Q14 := Lib.hid (Q12.out.mono hl14)
          have HLE14 := Lib.hid (HLE12.out.trans hl14)
          clear hl14
          have c0 := ((HCELL.out 0 _ rfl).mono HLE14.out).cell m15
          rw [Nat.add_zero] at c0
          have c4 := ((HCELL.out 4 _ rfl).mono HLE14.out).cell m15
          have es := m15.eqs
          simp only [EqsL] at es
          have ns := m15.nes
          simp only [NeL, NeFrom] at ns
          have hll := HAL.out.1
          generalize hu2 : q.used = us2 at *
          generalize hd2 : q.due = du2 at *
          clear hu2 hd2
          have hB0 : IntKind.i64.wrap (us2 + du2) = us2 + du2 := wrap_i64s _ (by omega) (by omega)
          have hB1 : IntKind.i64.wrap (us + 1) = us + 1 := wrap_i64s _ (by omega) (by omega)
          have hB2 : IntKind.i64.wrap (us + 1 + (d.list.length : Int)) = us + 1 + (d.list.length : Int) := wrap_i64s _ (by omega) (by omega)
          have hbk : d.kind = 1 ∨ d.kind = 8 ∨ (d.kind ≠ 1 ∧ d.kind ≠ 8) := by omega
          rcases hbk with hk1 | hk8 | ⟨hk1, hk8⟩
          · obtain ⟨r1, r2⟩ := HRM.out.1 hk1
            have hk1I : ((d.kind : Int) == 1) = true := by rw [hk1]; rfl
            have hr1 : (us2 != us + 1 + (d.list.length : Int)) = false := by rw [r1]; simp
            have hr2 : (du2 != du) = false := by rw [r2]; simp
            clear r1 r2 hk1
            go_wp2_with fail
            have mY := (((((((m15.set (i := 0) (v := .int .i64 q.size) (.tail .head)).set (i := 1) (v := .int .i64 q.half) (.tail .head)).set (i := 2) (v := .int .i64 q.scan) (.tail .head)).set (i := 3) (v := .bool q.busy) (.tail .head)).set (i := 4) (v := .slice ob3 q.old.length oc3) (.tail .head)).set (i := 5) (v := .slice nb3 q.new.length nc3) (.tail .head)).set (i := 6) (v := .slice rb3 q.regs.length rc3) (.tail .head))
            simp only [List.setIfInBounds_toArray, List.set_cons_zero, List.set_cons_succ] at mY
            go_roundw
            case rel =>
              refine ⟨k + 1, H14, ob3, oc3, nb3, nc3, rb3, rc3, by omega, by go_num, HLE14.out, ?_, ?_⟩
              · rw [HNX.out, ← HQE.out]; exact Q14.out
              · rw [HNX.out, ← HQE.out]; exact (mY.perm (perm_hr1 _ _ _ _ _ _)).drop.drop.drop
            case measure => simp [intOf]; omega
          · have r8 := HRM.out.2.1 hk8
            have hk1I : ((d.kind : Int) == 1) = false := by rw [hk8]; rfl
            have hk8I : ((d.kind : Int) == 8) = true := by rw [hk8]; rfl
            have hr1 : (us2 + du2 != us) = false := by rw [r8]; simp
            clear r8 hk8
            go_wp2_with fail
            have mY := (((((((m15.set (i := 0) (v := .int .i64 q.size) (.tail .head)).set (i := 1) (v := .int .i64 q.half) (.tail .head)).set (i := 2) (v := .int .i64 q.scan) (.tail .head)).set (i := 3) (v := .bool q.busy) (.tail .head)).set (i := 4) (v := .slice ob3 q.old.length oc3) (.tail .head)).set (i := 5) (v := .slice nb3 q.new.length nc3) (.tail .head)).set (i := 6) (v := .slice rb3 q.regs.length rc3) (.tail .head))
            simp only [List.setIfInBounds_toArray, List.set_cons_zero, List.set_cons_succ] at mY
            go_roundw
            case rel =>
              refine ⟨k + 1, H14, ob3, oc3, nb3, nc3, rb3, rc3, by omega, by go_num, HLE14.out, ?_, ?_⟩
              · rw [HNX.out, ← HQE.out]; exact Q14.out
              · rw [HNX.out, ← HQE.out]; exact (mY.perm (perm_hr1 _ _ _ _ _ _)).drop.drop.drop
            case measure => simp [intOf]; omega
          · obtain ⟨r1, r2, r3⟩ := HRM.out.2.2 hk1 hk8
            have hk1I : ((d.kind : Int) == 1) = false := by simpa using (by omega : ¬ (d.kind : Int) = 1)
            have hk8I : ((d.kind : Int) == 8) = false := by simpa using (by omega : ¬ (d.kind : Int) = 8)
            have hr1 : ¬ us2 < us := by omega
            have hr2 : ¬ us + du < us2 + du2 := by omega
            clear hk1 hk8
            cases hbq : q.busy
            · have HBQ := Lib.hid hbq
              rw [hbq] at es
              clear hbq r1 r2 r3
              go_wp2_with fail
              have mY := (((((((m15.set (i := 0) (v := .int .i64 q.size) (.tail .head)).set (i := 1) (v := .int .i64 q.half) (.tail .head)).set (i := 2) (v := .int .i64 q.scan) (.tail .head)).set (i := 3) (v := .bool false) (.tail .head)).set (i := 4) (v := .slice ob3 q.old.length oc3) (.tail .head)).set (i := 5) (v := .slice nb3 q.new.length nc3) (.tail .head)).set (i := 6) (v := .slice rb3 q.regs.length rc3) (.tail .head))
              simp only [List.setIfInBounds_toArray, List.set_cons_zero, List.set_cons_succ] at mY
              go_roundw
              case rel =>
                refine ⟨k + 1, H14, ob3, oc3, nb3, nc3, rb3, rc3, by omega, by go_num, HLE14.out, ?_, ?_⟩
                · rw [HNX.out, ← HQE.out]; exact Q14.out
                · rw [HNX.out, ← HQE.out, HBQ.out]; exact (mY.perm (perm_hr1 _ _ _ _ _ _)).drop.drop.drop
              case measure => simp [intOf]; omega
            · have hr3 : (us2 + du2 != us + du) = false := by rw [r3 hbq]; simp
              have HBQ := Lib.hid hbq
              rw [hbq] at es
              clear hbq r1 r2 r3
              go_wp2_with fail
              have mY := (((((((m15.set (i := 0) (v := .int .i64 q.size) (.tail .head)).set (i := 1) (v := .int .i64 q.half) (.tail .head)).set (i := 2) (v := .int .i64 q.scan) (.tail .head)).set (i := 3) (v := .bool true) (.tail .head)).set (i := 4) (v := .slice ob3 q.old.length oc3) (.tail .head)).set (i := 5) (v := .slice nb3 q.new.length nc3) (.tail .head)).set (i := 6) (v := .slice rb3 q.regs.length rc3) (.tail .head))
              simp only [List.setIfInBounds_toArray, List.set_cons_zero, List.set_cons_succ] at mY
              go_roundw
              case rel =>
                refine ⟨k + 1, H14, ob3, oc3, nb3, nc3, rb3, rc3, by omega, by go_num, HLE14.out, ?_, ?_⟩
                · rw [HNX.out, ← HQE.out]; exact Q14.out
                · rw [HNX.out, ← HQE.out, HBQ.out]; exact (mY.perm (perm_hr1 _ _ _ _ _ _)).drop.drop.drop
              case measure => simp [intOf]; omega
        · have hre2 : (r.1 != 0) = true := by simpa using hre
          have hsm : r.2.2 = h := by rw [← HRES.out]; exact do_error h d (by rw [HRES.out]; exact hre)
          have HSM := Lib.hid hsm; clear hsm hre
          go_wp2_with fail
          go_roundw
          case rel =>
            refine ⟨k + 1, H9, ob, oc, nb, nc, rb, rc, by omega, by go_num, HLE9.out, ?_, ?_⟩
            · rw [HNX.out, HSM.out]; exact G9.out
            · rw [HNX.out, HSM.out]; exact (m11.perm (perm_hr1 _ _ _ _ _ _)).drop.drop.drop
          case measure => simp [intOf]; omega
    · have hge : ¬ (k : Int) < ds.length := by omega
      clear hgd hsize
      have es := mk.eqs
      simp only [EqsL] at es
      go_wp2_with fail
      refine (awake_any mk).mono ?_
      rintro e wg ⟨rfl, mg⟩
      go_wp2_with fail
      go_ret
      exact ⟨rfl, mg.drop.drop.weaken (hl4.trans hle)⟩
end Go.Proofs.Ythipkmmdjhpklaa
