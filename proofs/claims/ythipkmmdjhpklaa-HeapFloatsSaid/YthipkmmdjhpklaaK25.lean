/- The walk: a heap after deeds, finished (the law's). The deeds that the laws do themselves; a collection that is finished. -/
import Derived.Test.YthipkmmdjhpklaaK24
import Derived.Test.YthipkmmdjhpklaaK18
import Derived.Test.YthipkmmdjhpklaaK21
import Derived.Test.YthipkmmdjhpklaaK22
namespace Go.Proofs.Ythipkmmdjhpklaa
set_option linter.unusedVariables false
set_option linter.unusedSimpArgs false
open Go.RowKit

theorem HFr.shape6 {H : Hp} {h : HeapM} {vo vn vr : Value} (f : HFr H h vo vn vr) : ∃ ob oc nb nc rb rc, vo = .slice ob h.old.length oc ∧ vn = .slice nb h.new.length nc ∧ vr = .slice rb h.regs.length rc := by
  obtain ⟨ob, oc, e1⟩ := f.o.shape
  obtain ⟨nb, nc, e2⟩ := f.n.shape
  obtain ⟨rb, rc, e3⟩ := f.r.shape
  exact ⟨ob, oc, nb, nc, rb, rc, e1, e2, e3⟩
/-- A heap that is valid and not busy. -/
def IdleR (w0 : World) (H : Hp) (L : List (Nat × Obj)) (e : Ending) (w' : World) : Prop :=
  ∃ h H' vo vn vr, e = .returned (.tuple #[HVal h vo vn vr, .bool true]) ∧ Hle H H' ∧ HFr H' h vo vn vr ∧ HGood h ∧ h.busy = false ∧ Mem w0 H' L w'
set_option maxRecDepth 10000 in
set_option maxHeartbeats 8000000 in
theorem played_any (size regs : Int) (hs : I64 size) (hr : I64 regs) (dv : Value) (ds : List DeedM) (hrd : readyM size regs ds = true) {w0 w : World} {H : Hp} {L : List (Nat × Obj)} (hd : SlR encDeed H dv ds) (m : Mem w0 H L w) :
    Calls Try.prog 27 #[.agg #[.int .i64 size, .int .i64 regs, dv]] w (IdleR w0 H L) := by
  have HD := Lib.hid hd
  have HSZ := Lib.hid hs; clear hs
  have HRG := Lib.hid hr; clear hr
  obtain ⟨lb, lc, rfl, _, hlc, _, _⟩ := hd
  have hlc := size_le_maxLen hlc
  unfold readyM at hrd
  simp only [Bool.and_eq_true, decide_eq_true_eq] at hrd
  obtain ⟨⟨⟨htd, hl80⟩, hsz⟩, hrg⟩ := hrd
  have hall : ∀ d ∈ ds, d.list.length ≤ 12 ∧ d.obj.slots.length ≤ 4 ∧ d.obj.name.size ≤ 300 ∧ d.val.s.size ≤ 300 ∧ d.a ≤ 10000 := fun d hd => by
    unfold thinD at htd
    rw [Bool.and_eq_true] at htd
    exact thin1_all (List.all_eq_true.1 htd.2 d hd)
  have HALL := Lib.hid hall; clear hall htd
  obtain ⟨n, rfl⟩ := Int.eq_ofNat_of_zero_le (show 0 ≤ regs by omega)
  have m1 := (m.alloc (PBox size n (.slice lb ds.length lc))).alloc (.cells #[.int .i64 0, .int .i64 0, .int .i64 0, .bool false, .slice none 0 0, .slice none 0 0, .slice none 0 0] 31)
  simp only [World.size_alloc] at m1
  go_enter Try.func27, Try.ntmps27
  go_wp2_with fail
  refine (Make_any size n HSZ.out HRG.out m1).mono ?_
  rintro e w4 h4
  unfold MakeR at h4
  rw [if_pos ⟨hsz, by omega⟩] at h4
  obtain ⟨vr4, H4, rfl, hvr4, hl4, m4⟩ := h4
  rw [Int.toNat_natCast] at hvr4
  have FA := Lib.hid (show HFr H4 (newH size n) (.slice none 0 0) (.slice none 0 0) vr4 from ⟨SlR.nil _ _, SlR.nil _ _, hvr4⟩)
  obtain ⟨rb4, rc4, rfl⟩ := hvr4.shape
  rw [List.length_replicate] at FA
  clear hvr4 m1
  have OKA := Lib.hid (newH_ok size n hsz (by omega))
  have GA := Lib.hid (HGood.mk (newH_ok size n hsz (by omega)) (Copies.nil rfl))
  have m5 := m4.alloc (.cells #[.int .i64 size, .int .i64 0, .int .i64 0, .bool false, .slice none 0 0, .slice none 0 0, .slice rb4 n rc4] 31)
  rw [List.length_replicate]
  have es := m5.eqs
  simp only [EqsL] at es
  have HD4 := Lib.hid (HD.out.mono hl4)
  have HL4 := Lib.hid hl4; clear hl4
  go_wp2_with fail
  clear es
  refine AnyFrom.start (fun w' => ∃ H' L', Hle H4 H' ∧ Mem w0 H' ((w4.heap.size, .cells #[.int .i64 size, .int .i64 0, .int .i64 0, .bool false, .slice none 0 0, .slice none 0 0, .slice rb4 n rc4] 31) :: (w.heap.size + 1, .cells #[.int .i64 0, .int .i64 0, .int .i64 0, .bool false, .slice none 0 0, .slice none 0 0, .slice none 0 0] 31) :: (w.heap.size, PBox size n (.slice lb ds.length lc)) :: L') w') 9 (by kernel_rfl) ?_
  have mW := m5.drew
  clear m5 m4
  generalize World.drew _ = W at *
  have HS : (fun w' => ∃ H' L', Hle H4 H' ∧ Mem w0 H' ((w4.heap.size, .cells #[.int .i64 size, .int .i64 0, .int .i64 0, .bool false, .slice none 0 0, .slice none 0 0, .slice rb4 n rc4] 31) :: (w.heap.size + 1, .cells #[.int .i64 0, .int .i64 0, .int .i64 0, .bool false, .slice none 0 0, .slice none 0 0, .slice none 0 0] 31) :: (w.heap.size, PBox size n (.slice lb ds.length lc)) :: L') w') W := ⟨_, _, Hle.refl _, mW⟩
  refine AnyFrom.take (i := 0) (v := ?_) rfl (by kernel_rfl) (by kernel_rfl) (by kernel_rfl) (by kernel_rfl) (fun _ _ _ h => h) ⟨by kernel_rfl, ?_⟩ HS ?_
  rotate_left
  · first | (rintro w' ⟨H', L', hl', hm⟩; have es := hm.eqs; simp only [EqsL] at es; go_simp; done) | (rintro w' ⟨H', L', hl', hm⟩; have es := hm.eqs; simp only [EqsL] at es; go_simp; with_reducible rfl)
  simp only [Act.put, List.setIfInBounds_toArray, List.set_cons_zero, List.set_cons_succ, List.getElem_toArray, List.getElem_cons_succ, List.getElem_cons_zero]
  refine AnyFrom.take (i := 1) (v := ?_) rfl (by kernel_rfl) (by kernel_rfl) (by kernel_rfl) (by kernel_rfl) (fun _ _ _ h => h) ⟨by kernel_rfl, ?_⟩ HS ?_
  rotate_left
  · first | (rintro w' ⟨H', L', hl', hm⟩; have es := hm.eqs; simp only [EqsL] at es; go_simp; done) | (rintro w' ⟨H', L', hl', hm⟩; have es := hm.eqs; simp only [EqsL] at es; go_simp; with_reducible rfl)
  simp only [Act.put, List.setIfInBounds_toArray, List.set_cons_zero, List.set_cons_succ, List.getElem_toArray, List.getElem_cons_succ, List.getElem_cons_zero]
  refine AnyFrom.take (i := 2) (v := ?_) rfl (by kernel_rfl) (by kernel_rfl) (by kernel_rfl) (by kernel_rfl) (fun _ _ _ h => h) ⟨by kernel_rfl, ?_⟩ HS ?_
  rotate_left
  · first | (rintro w' ⟨H', L', hl', hm⟩; have es := hm.eqs; simp only [EqsL] at es; go_simp; done) | (rintro w' ⟨H', L', hl', hm⟩; have es := hm.eqs; simp only [EqsL] at es; go_simp; with_reducible rfl)
  simp only [Act.put, List.setIfInBounds_toArray, List.set_cons_zero, List.set_cons_succ, List.getElem_toArray, List.getElem_cons_succ, List.getElem_cons_zero]
  refine AnyFrom.call (i := 3) (by kernel_rfl) rfl (by kernel_rfl) fun K hK => ?_
  go_simp
  refine (lawDeeds_any _ ds (by omega) (fun d hd => by have := HALL.out d hd; omega) HD4.out mW).mono ?_
  rintro e w5 ⟨H5, dv', rfl, hl5, hdd, mA⟩
  refine hK _ _ (.inr ⟨_, _, hl5, mA⟩) ?_
  clear hK K HS mW
  try simp only [Act.put, List.setIfInBounds_toArray, List.set_cons_zero, List.set_cons_succ, List.getElem_toArray, List.getElem_cons_succ, List.getElem_cons_zero]
  have HS : (fun w' => ∃ H' L', Hle H4 H' ∧ Mem w0 H' ((w4.heap.size, .cells #[.int .i64 size, .int .i64 0, .int .i64 0, .bool false, .slice none 0 0, .slice none 0 0, .slice rb4 n rc4] 31) :: (w.heap.size + 1, .cells #[.int .i64 0, .int .i64 0, .int .i64 0, .bool false, .slice none 0 0, .slice none 0 0, .slice none 0 0] 31) :: (w.heap.size, PBox size n (.slice lb ds.length lc)) :: L') w') w5 := ⟨_, _, hl5, mA⟩
  refine AnyFrom.call (i := 4) (by kernel_rfl) rfl (by kernel_rfl) fun K hK => ?_
  go_simp
  refine (Play_fr (newH size n) OKA.out rfl ds (by omega) (fun d hd => by have := HALL.out d hd; omega) _ _ _ _ (FA.out.mono hl5) hdd mA).mono ?_
  rintro e w6 ⟨H6, vo, vn, vr, rv, rfl, hl6, f6, hrv, mB⟩
  have hl46 := hl5.trans hl6
  refine hK _ _ (.inr ⟨_, _, hl46, mB⟩) ?_
  clear hK K HS mA
  try simp only [Act.put, List.setIfInBounds_toArray, List.set_cons_zero, List.set_cons_succ, List.getElem_toArray, List.getElem_cons_succ, List.getElem_cons_zero]
  have HS : (fun w' => ∃ H' L', Hle H4 H' ∧ Mem w0 H' ((w4.heap.size, .cells #[.int .i64 size, .int .i64 0, .int .i64 0, .bool false, .slice none 0 0, .slice none 0 0, .slice rb4 n rc4] 31) :: (w.heap.size + 1, .cells #[.int .i64 0, .int .i64 0, .int .i64 0, .bool false, .slice none 0 0, .slice none 0 0, .slice none 0 0] 31) :: (w.heap.size, PBox size n (.slice lb ds.length lc)) :: L') w') w6 := ⟨_, _, hl46, mB⟩
  have G1 := Lib.hid (plays_good ds GA.out)
  generalize ((newH size n).plays ds).2 = h1 at *
  obtain ⟨ob6, oc6, nb6, nc6, rb6, rc6, rfl, rfl, rfl⟩ := f6.shape6
  have F6 := Lib.hid f6; clear f6
  clear hrv
  unfold HVal
  refine AnyFrom.pure (i := 5) (v := ?_) rfl (by kernel_rfl) (by kernel_rfl) (by kernel_rfl) (by decide) (fun _ _ _ h => h) ⟨by kernel_rfl, ?_⟩ HS ?_
  rotate_left
  · first | (intro w'; go_simp; done) | (intro w'; go_simp; with_reducible rfl)
  simp only [Act.put, List.setIfInBounds_toArray, List.set_cons_zero, List.set_cons_succ, List.getElem_toArray, List.getElem_cons_succ, List.getElem_cons_zero]
  refine AnyFrom.pure (i := 6) (v := ?_) rfl (by kernel_rfl) (by kernel_rfl) (by kernel_rfl) (by decide) (fun _ _ _ h => h) ⟨by kernel_rfl, ?_⟩ HS ?_
  rotate_left
  · first | (intro w'; go_simp; done) | (intro w'; go_simp; with_reducible rfl)
  simp only [Act.put, List.setIfInBounds_toArray, List.set_cons_zero, List.set_cons_succ, List.getElem_toArray, List.getElem_cons_succ, List.getElem_cons_zero]
  refine AnyFrom.pure (i := 7) (v := ?_) rfl (by kernel_rfl) (by kernel_rfl) (by kernel_rfl) (by decide) (fun _ _ _ h => h) ⟨by kernel_rfl, ?_⟩ HS ?_
  rotate_left
  · first | (intro w'; go_simp; done) | (intro w'; go_simp; with_reducible rfl)
  simp only [Act.put, List.setIfInBounds_toArray, List.set_cons_zero, List.set_cons_succ, List.getElem_toArray, List.getElem_cons_succ, List.getElem_cons_zero]
  refine AnyFrom.pure (i := 8) (v := ?_) rfl (by kernel_rfl) (by kernel_rfl) (by kernel_rfl) (by decide) (fun _ _ _ h => h) ⟨by kernel_rfl, ?_⟩ HS ?_
  rotate_left
  · first | (intro w'; go_simp; done) | (intro w'; go_simp; with_reducible rfl)
  simp only [Act.put, List.setIfInBounds_toArray, List.set_cons_zero, List.set_cons_succ, List.getElem_toArray, List.getElem_cons_succ, List.getElem_cons_zero]
  have es := mB.eqs
  simp only [EqsL] at es
  have ns := mB.nes
  simp only [NeL, NeFrom] at ns
  refine AnyFrom.call (i := 9) (by kernel_rfl) rfl (by kernel_rfl) fun K hK => ?_
  go_simp
  have mC := (((((((mB.set (i := 0) (v := .int .i64 h1.size) .head).set (i := 1) (v := .int .i64 h1.half) .head).set (i := 2) (v := .int .i64 h1.scan) .head).set (i := 3) (v := .bool h1.busy) .head).set (i := 4) (v := .slice ob6 h1.old.length oc6) .head).set (i := 5) (v := .slice nb6 h1.new.length nc6) .head).set (i := 6) (v := .slice rb6 h1.regs.length rc6) .head)
  simp only [List.setIfInBounds_toArray, List.set_cons_zero, List.set_cons_succ] at mC
  generalize hwx : World.setCell _ _ _ = wX
  rw [hwx] at mC
  refine hK _ _ (.inl ⟨9, by decide, by rfl⟩) ?_
  clear hK K HS es ns hwx mB
  try simp only [Act.put, List.setIfInBounds_toArray, List.set_cons_zero, List.set_cons_succ, List.getElem_toArray, List.getElem_cons_succ, List.getElem_cons_zero]
  refine AnyFrom.one (i := 10) (by kernel_rfl) (AnyFrom.op rfl (by kernel_rfl) fun K hK => ?_)
  go_simp
  refine hK _ _ (.inl ⟨9, by decide, by rfl⟩) ?_
  clear hK K
  try simp only [Act.put, List.setIfInBounds_toArray, List.set_cons_zero, List.set_cons_succ, List.getElem_toArray, List.getElem_cons_succ, List.getElem_cons_zero]
  refine AnyFrom.done (by kernel_rfl) ?_ _
  have HL6 := Lib.hid (HL4.out.trans hl46)
  clear hl5 hl6 hl46 hdd
  have es := mC.eqs
  simp only [EqsL] at es
  go_wp2_with fail
  refine (Valid_any h1 G1.out _ _ _ F6.out mC).mono ?_
  rintro e w7 ⟨rfl, mD⟩
  clear es mC
  have es := mD.eqs
  simp only [EqsL] at es
  go_wp2_with fail
  refine (Finish_any h1 G1.out _ _ _ F6.out mD).mono ?_
  rintro e w8 ⟨k, h2, H8, vo8, vn8, vr8, hst, hbz, hk6, rfl, hl8, f8, mE⟩
  have G2 := Lib.hid (show HGood h2 from by
    have h9 := HOk.stepM (k + 1) G1.out.ok
    have h10 := Copies.stepM (k + 1) G1.out.cp G1.out.ok
    rw [hst] at h9 h10
    exact ⟨h9, h10⟩)
  clear hst
  have HBZ := Lib.hid hbz; clear hbz
  obtain ⟨ob8, oc8, nb8, nc8, rb8, rc8, rfl, rfl, rfl⟩ := f8.shape6
  have F8 := Lib.hid f8; clear f8
  have HL8 := Lib.hid (HL6.out.trans hl8); clear hl8
  unfold HVal
  clear es mD
  have es := mE.eqs
  simp only [EqsL] at es
  have ns := mE.nes
  simp only [NeL, NeFrom] at ns
  go_wp2_with fail
  have mF := (((((((mE.set (i := 0) (v := .int .i64 h2.size) .head).set (i := 1) (v := .int .i64 h2.half) .head).set (i := 2) (v := .int .i64 h2.scan) .head).set (i := 3) (v := .bool h2.busy) .head).set (i := 4) (v := .slice ob8 h2.old.length oc8) .head).set (i := 5) (v := .slice nb8 h2.new.length nc8) .head).set (i := 6) (v := .slice rb8 h2.regs.length rc8) .head)
  simp only [List.setIfInBounds_toArray, List.set_cons_zero, List.set_cons_succ] at mF
  generalize hwx : World.setCell _ _ _ = wX2
  rw [hwx] at mF
  clear es ns hwx mE
  refine AnyFrom.start (fun w' => ∃ L', Mem w0 H8 ((w4.heap.size, .cells #[.int .i64 h2.size, .int .i64 h2.half, .int .i64 h2.scan, .bool h2.busy, .slice ob8 h2.old.length oc8, .slice nb8 h2.new.length nc8, .slice rb8 h2.regs.length rc8] 31) :: L') w') 14 (by kernel_rfl) ?_
  have mG := mF.drew
  clear mF
  generalize World.drew _ = W at *
  have HS : (fun w' => ∃ L', Mem w0 H8 ((w4.heap.size, .cells #[.int .i64 h2.size, .int .i64 h2.half, .int .i64 h2.scan, .bool h2.busy, .slice ob8 h2.old.length oc8, .slice nb8 h2.new.length nc8, .slice rb8 h2.regs.length rc8] 31) :: L') w') W := ⟨_, mG⟩
  refine AnyFrom.take (i := 0) (v := ?_) rfl (by kernel_rfl) (by kernel_rfl) (by kernel_rfl) (by kernel_rfl) (fun _ _ _ h => h) ⟨by kernel_rfl, ?_⟩ HS ?_
  rotate_left
  · first | (rintro w' ⟨L', hm⟩; have es := hm.eqs; simp only [EqsL] at es; go_simp; done) | (rintro w' ⟨L', hm⟩; have es := hm.eqs; simp only [EqsL] at es; go_simp; with_reducible rfl)
  simp only [Act.put, List.setIfInBounds_toArray, List.set_cons_zero, List.set_cons_succ, List.getElem_toArray, List.getElem_cons_succ, List.getElem_cons_zero]
  refine AnyFrom.pure (i := 1) (v := ?_) rfl (by kernel_rfl) (by kernel_rfl) (by kernel_rfl) (by decide) (fun _ _ _ h => h) ⟨by kernel_rfl, ?_⟩ HS ?_
  rotate_left
  · first | (intro w'; go_simp; done) | (intro w'; go_simp; with_reducible rfl)
  simp only [Act.put, List.setIfInBounds_toArray, List.set_cons_zero, List.set_cons_succ, List.getElem_toArray, List.getElem_cons_succ, List.getElem_cons_zero]
  refine AnyFrom.pure (i := 2) (v := ?_) rfl (by kernel_rfl) (by kernel_rfl) (by kernel_rfl) (by decide) (fun _ _ _ h => h) ⟨by kernel_rfl, ?_⟩ HS ?_
  rotate_left
  · first | (intro w'; go_simp; done) | (intro w'; go_simp; with_reducible rfl)
  simp only [Act.put, List.setIfInBounds_toArray, List.set_cons_zero, List.set_cons_succ, List.getElem_toArray, List.getElem_cons_succ, List.getElem_cons_zero]
  refine AnyFrom.pure (i := 3) (v := ?_) rfl (by kernel_rfl) (by kernel_rfl) (by kernel_rfl) (by decide) (fun _ _ _ h => h) ⟨by kernel_rfl, ?_⟩ HS ?_
  rotate_left
  · first | (intro w'; go_simp; done) | (intro w'; go_simp; with_reducible rfl)
  simp only [Act.put, List.setIfInBounds_toArray, List.set_cons_zero, List.set_cons_succ, List.getElem_toArray, List.getElem_cons_succ, List.getElem_cons_zero]
  refine AnyFrom.take (i := 4) (v := ?_) rfl (by kernel_rfl) (by kernel_rfl) (by kernel_rfl) (by kernel_rfl) (fun _ _ _ h => h) ⟨by kernel_rfl, ?_⟩ HS ?_
  rotate_left
  · first | (rintro w' ⟨L', hm⟩; have es := hm.eqs; simp only [EqsL] at es; go_simp; done) | (rintro w' ⟨L', hm⟩; have es := hm.eqs; simp only [EqsL] at es; go_simp; with_reducible rfl)
  simp only [Act.put, List.setIfInBounds_toArray, List.set_cons_zero, List.set_cons_succ, List.getElem_toArray, List.getElem_cons_succ, List.getElem_cons_zero]
  refine AnyFrom.call (i := 5) (by kernel_rfl) rfl (by kernel_rfl) fun K hK => ?_
  go_simp
  refine (Valid_any h2 G2.out _ _ _ F8.out mG).mono ?_
  rintro e w9 ⟨rfl, mH⟩
  refine hK _ _ (.inr ⟨_, mH⟩) ?_
  clear hK K HS mG
  try simp only [Act.put, List.setIfInBounds_toArray, List.set_cons_zero, List.set_cons_succ, List.getElem_toArray, List.getElem_cons_succ, List.getElem_cons_zero]
  have HS : (fun w' => ∃ L', Mem w0 H8 ((w4.heap.size, .cells #[.int .i64 h2.size, .int .i64 h2.half, .int .i64 h2.scan, .bool h2.busy, .slice ob8 h2.old.length oc8, .slice nb8 h2.new.length nc8, .slice rb8 h2.regs.length rc8] 31) :: L') w') w9 := ⟨_, mH⟩
  refine AnyFrom.pure (i := 6) (v := ?_) rfl (by kernel_rfl) (by kernel_rfl) (by kernel_rfl) (by decide) (fun _ _ _ h => h) ⟨by kernel_rfl, ?_⟩ HS ?_
  rotate_left
  · first | (intro w'; go_simp; done) | (intro w'; go_simp; with_reducible rfl)
  simp only [Act.put, List.setIfInBounds_toArray, List.set_cons_zero, List.set_cons_succ, List.getElem_toArray, List.getElem_cons_succ, List.getElem_cons_zero]
  refine AnyFrom.pure (i := 7) (v := ?_) rfl (by kernel_rfl) (by kernel_rfl) (by kernel_rfl) (by decide) (fun _ _ _ h => h) ⟨by kernel_rfl, ?_⟩ HS ?_
  rotate_left
  · first | (intro w'; go_simp; done) | (intro w'; go_simp; with_reducible rfl)
  simp only [Act.put, List.setIfInBounds_toArray, List.set_cons_zero, List.set_cons_succ, List.getElem_toArray, List.getElem_cons_succ, List.getElem_cons_zero]
  refine AnyFrom.take (i := 8) (v := ?_) rfl (by kernel_rfl) (by kernel_rfl) (by kernel_rfl) (by kernel_rfl) (fun _ _ _ h => h) ⟨by kernel_rfl, ?_⟩ HS ?_
  rotate_left
  · first | (rintro w' ⟨L', hm⟩; have es := hm.eqs; simp only [EqsL] at es; go_simp; done) | (rintro w' ⟨L', hm⟩; have es := hm.eqs; simp only [EqsL] at es; go_simp; with_reducible rfl)
  simp only [Act.put, List.setIfInBounds_toArray, List.set_cons_zero, List.set_cons_succ, List.getElem_toArray, List.getElem_cons_succ, List.getElem_cons_zero]
  refine AnyFrom.take (i := 9) (v := ?_) rfl (by kernel_rfl) (by kernel_rfl) (by kernel_rfl) (by kernel_rfl) (fun _ _ _ h => h) ⟨by kernel_rfl, ?_⟩ HS ?_
  rotate_left
  · first | (rintro w' ⟨L', hm⟩; have es := hm.eqs; simp only [EqsL] at es; go_simp; done) | (rintro w' ⟨L', hm⟩; have es := hm.eqs; simp only [EqsL] at es; go_simp; with_reducible rfl)
  simp only [Act.put, List.setIfInBounds_toArray, List.set_cons_zero, List.set_cons_succ, List.getElem_toArray, List.getElem_cons_succ, List.getElem_cons_zero]
  refine AnyFrom.pure (i := 10) (v := ?_) rfl (by kernel_rfl) (by kernel_rfl) (by kernel_rfl) (by decide) (fun _ _ _ h => h) ⟨by kernel_rfl, ?_⟩ HS ?_
  rotate_left
  · first | (intro w'; go_simp; done) | (intro w'; go_simp; with_reducible rfl)
  simp only [Act.put, List.setIfInBounds_toArray, List.set_cons_zero, List.set_cons_succ, List.getElem_toArray, List.getElem_cons_succ, List.getElem_cons_zero]
  refine AnyFrom.pure (i := 11) (v := ?_) rfl (by kernel_rfl) (by kernel_rfl) (by kernel_rfl) (by decide) (fun _ _ _ h => h) ⟨by kernel_rfl, ?_⟩ HS ?_
  rotate_left
  · first | (intro w'; go_simp; done) | (intro w'; go_simp; with_reducible rfl)
  simp only [Act.put, List.setIfInBounds_toArray, List.set_cons_zero, List.set_cons_succ, List.getElem_toArray, List.getElem_cons_succ, List.getElem_cons_zero]
  have es := mH.eqs
  simp only [EqsL] at es
  have ns := mH.nes
  simp only [NeL, NeFrom] at ns
  refine AnyFrom.call (i := 12) (by kernel_rfl) rfl (by kernel_rfl) fun K hK => ?_
  go_simp
  have mI := (((((((mH.set (i := 0) (v := .int .i64 h2.size) (.tail .head)).set (i := 1) (v := .int .i64 h2.half) (.tail .head)).set (i := 2) (v := .int .i64 h2.scan) (.tail .head)).set (i := 3) (v := .bool h2.busy) (.tail .head)).set (i := 4) (v := .slice ob8 h2.old.length oc8) (.tail .head)).set (i := 5) (v := .slice nb8 h2.new.length nc8) (.tail .head)).set (i := 6) (v := .slice rb8 h2.regs.length rc8) (.tail .head))
  simp only [List.setIfInBounds_toArray, List.set_cons_zero, List.set_cons_succ] at mI
  generalize hwx : World.setCell _ _ _ = wY
  rw [hwx] at mI
  refine hK _ _ (.inr ⟨_, mI⟩) ?_
  clear hK K HS es ns hwx mH
  try simp only [Act.put, List.setIfInBounds_toArray, List.set_cons_zero, List.set_cons_succ, List.getElem_toArray, List.getElem_cons_succ, List.getElem_cons_zero]
  have HS : (fun w' => ∃ L', Mem w0 H8 ((w4.heap.size, .cells #[.int .i64 h2.size, .int .i64 h2.half, .int .i64 h2.scan, .bool h2.busy, .slice ob8 h2.old.length oc8, .slice nb8 h2.new.length nc8, .slice rb8 h2.regs.length rc8] 31) :: L') w') wY := ⟨_, mI⟩
  refine AnyFrom.pure (i := 13) (v := ?_) rfl (by kernel_rfl) (by kernel_rfl) (by kernel_rfl) (by decide) (fun _ _ _ h => h) ⟨by kernel_rfl, ?_⟩ HS ?_
  rotate_left
  · first | (intro w'; go_simp; done) | (intro w'; go_simp; with_reducible rfl)
  simp only [Act.put, List.setIfInBounds_toArray, List.set_cons_zero, List.set_cons_succ, List.getElem_toArray, List.getElem_cons_succ, List.getElem_cons_zero]
  refine AnyFrom.done (by kernel_rfl) ?_ _
  have es := mI.eqs
  simp only [EqsL] at es
  go_wp2_with fail
  refine bodyPost_ret (v := .tuple #[HVal h2 (.slice ob8 h2.old.length oc8) (.slice nb8 h2.new.length nc8) (.slice rb8 h2.regs.length rc8), .bool (!h2.busy)]) (by simp [results, Try.results27, go_sem, es, HVal]) rfl ?_
  exact ⟨h2, H8, _, _, _, by rw [HBZ.out]; rfl, HL8.out, F8.out, G2.out, HBZ.out, mI.drop.drop.drop⟩
end Go.Proofs.Ythipkmmdjhpklaa
namespace Go.Proofs.Ythipkmmdjhpklaa
set_option linter.unusedVariables false
set_option linter.unusedSimpArgs false
open Go.RowKit

/-- The deeds that the laws do themselves. -/
def emptyO : ObjM := ⟨0, ByteArray.empty, 0, []⟩
def dBegin : DeedM := ⟨8, 0, 0, 0, [], emptyO, unitV⟩
def dStep2 : DeedM := ⟨9, 2, 0, 0, [], emptyO, unitV⟩
def dNew : DeedM := ⟨1, 0, 0, 0, [], ⟨2, ⟨#[110, 101, 119]⟩, 0, []⟩, unitV⟩
theorem deedR_made (H : Hp) (k : Nat) (a b c : Int) (ok : Nat) (on : ByteArray) (hk : k < 256) (ha : I64 a) (hb : I64 b) (hc : I64 c) (hok : ok < 256) (hon : on.size ≤ maxLen) :
    DeedR H ⟨k, a, b, c, [], ⟨ok, on, 0, []⟩, unitV⟩ (.slice none 0 0) (.slice none 0 0) :=
  ⟨hk, ha, hb, hc, SlR.nil _ _, ⟨hok, ⟨by simp, by simp⟩, hon⟩, SlR.nil _ _, unitV_fit⟩
/-- A deed that has no error. -/
theorem Do_ok {h : HeapM} (g : HGood h) (vo vn vr : Value) {w0 w : World} {H : Hp} {L : List (Nat × Obj)} (f : HFr H h vo vn vr) (m : Mem w0 H L w) (d : DeedM) (lv sv : Value) (hd : DeedR H d lv sv) (ha : d.a ≤ 100000) (he : (h.do d).1 = 0) :
    Calls Try.prog 24 #[HVal h vo vn vr, d.v lv sv] w fun e w' => ∃ H' vo vn vr, e = .returned (.tuple #[HVal (h.do d).2.2 vo vn vr, (h.do d).2.1.v, .int .i64 0]) ∧ Hle H H' ∧ HFr H' (h.do d).2.2 vo vn vr ∧ Mem w0 H' L w' := by
  refine (DoB_any h g vo vn vr f m d lv sv hd ha).mono ?_
  rintro e w' (⟨h1, _⟩ | ⟨_, H', vo', vn', vr', h2, h3, h4, h5⟩)
  · exact absurd he h1
  · exact ⟨H', vo', vn', vr', h2, h3, h4, h5⟩
theorem do_begin {h : HeapM} (hb : h.busy = false) : h.do dBegin = (0, unitV, h.begin) := by
  simp [HeapM.do, dBegin, HeapM.doBegin, hb]
theorem do_step2 (h : HeapM) : h.do dStep2 = (0, intV (h.stepM 2).1, (h.stepM 2).2) := by
  simp [HeapM.do, dStep2, HeapM.doStep]
theorem stepM_more : ∀ (n m : Nat) {h : HeapM}, (h.stepM n).2.busy = false → n ≤ m → h.stepM m = h.stepM n
  | 0, m, h, hb, _ => by
    have hb' : h.busy = false := hb
    rw [stepM_notBusy m hb', stepM_notBusy 0 hb']
  | n + 1, 0, h, _, hm => by omega
  | n + 1, m + 1, h, hb, hm => by
    unfold HeapM.stepM at hb ⊢
    by_cases h1 : h.busy = false
    · rw [if_pos h1, if_pos h1]
    · rw [if_neg h1] at hb
      rw [if_neg h1, if_neg h1]
      by_cases h2 : h.scan < h.new.length
      · rw [if_pos h2] at hb
        rw [if_pos h2, if_pos h2, stepM_more n m hb (by omega)]
      · rw [if_neg h2, if_neg h2]
theorem fin_of {h h2 : HeapM} {k : Nat} (hst : h.stepM (k + 1) = (k, h2)) (hb : h2.busy = false) (hk : k < 6999) : h.fin = h2 := by
  unfold HeapM.fin
  rw [stepM_more (k + 1) 7000 (by rw [hst]; exact hb) (by omega), hst]
theorem CellH.ne {w0 w : World} {H : Hp} {L : List (Nat × Obj)} {b i : Nat} {v : Value} (h : CellH H b i v) (m : Mem w0 H L w) {k : Nat} {o : Obj} (hp : (k, o) ∈ L) : b ≠ k := by
  rintro rfl
  obtain ⟨c, t, f, h1, _⟩ := h
  have := (m.loc _ hp).2
  rw [h1] at this
  cases this
theorem perm_fl {α : Type} (h p x y : α) (L : List α) : (h :: p :: x :: y :: L).Perm (x :: y :: h :: p :: L) := (by classical exact List.perm_iff_count.2 (fun a => by simp only [List.count_append, List.count_cons, List.cons_append, List.nil_append, List.append_assoc]; omega))
theorem finN_of {h h2 : HeapM} {k : Nat} (hst : h.stepM (k + 1) = (k, h2)) (hb : h2.busy = false) (hk : k < 6999) : h.finN = k := by
  unfold HeapM.finN
  rw [stepM_more (k + 1) 7000 (by rw [hst]; exact hb) (by omega), hst]
end Go.Proofs.Ythipkmmdjhpklaa
