/- The walks of the reference: objects and heaps compared (the equal ones). -/
import Derived.Test.YthipkmmdjhpklaaK13
namespace Go.Proofs.Ythipkmmdjhpklaa
set_option linter.unusedVariables false
set_option linter.unusedSimpArgs false
open Go.RowKit

set_option maxRecDepth 10000 in
set_option maxHeartbeats 2000000 in
theorem SameObject_eq (k : Nat) (s : ByteArray) (n : Int) (xs : List ValM) (av bv : Value) (hxl : xs.length ≤ 1000000) {w0 : World} {H : Hp} {L : List (Nat × Obj)} {w : World} (hx : SlR encVal H av xs) (hy : SlR encVal H bv xs) (m : Mem w0 H L w) :
    Calls Try.prog 32 #[.agg #[.int .u8 k, .string s, .int .i64 n, av], .agg #[.int .u8 k, .string s, .int .i64 n, bv]] w (Ret w0 H L (.bool true)) := by
  have HX := Lib.hid hx
  have HY := Lib.hid hy
  obtain ⟨ab, ac, rfl, _, _, _, _⟩ := hx
  obtain ⟨bb, bc, rfl, _, _, _, _⟩ := hy
  have m1 := (m.alloc (.cells #[.int .u8 k, .string s, .int .i64 n, .slice ab xs.length ac] 48)).alloc (.cells #[.int .u8 k, .string s, .int .i64 n, .slice bb xs.length bc] 48)
  rw [World.size_alloc] at m1
  have es := m1.eqs
  simp only [EqsL] at es
  go_enter Try.func32, Try.ntmps32
  go_wp2_with fail
  refine (Values_any xs xs _ _ hxl HX.out HY.out m1).mono ?_
  rintro e w1 ⟨rfl, m2⟩
  rw [decide_eq_true rfl]
  go_wp2_with fail
  go_ret
  exact ⟨rfl, m2.drop.drop⟩
set_option maxRecDepth 10000 in
set_option maxHeartbeats 8000000 in
theorem Same_eq (h : HeapM) (hb : HB h) (vo vn vr vo' vn' vr' : Value) {w0 w : World} {H : Hp} {L : List (Nat × Obj)} (ho : SlR encHeld H vo h.old) (hn : SlR encObj H vn h.new) (hr : SlR encVal H vr h.regs) (ho' : SlR encHeld H vo' h.old) (hn' : SlR encObj H vn' h.new) (hr' : SlR encVal H vr' h.regs) (m : Mem w0 H L w) :
    Calls Try.prog 15 #[HVal h vo vn vr, HVal h vo' vn' vr'] w (Ret w0 H L (.bool true)) := by
  have HO := Lib.hid ho
  have HN := Lib.hid hn
  have HR := Lib.hid hr
  have HO' := Lib.hid ho'
  have HN' := Lib.hid hn'
  have HR' := Lib.hid hr'
  obtain ⟨ob, oc, rfl, _, hoc, _, _⟩ := ho
  obtain ⟨nb, nc, rfl, _, hnc, _, _⟩ := hn
  obtain ⟨rb, rc, rfl, _, _, _, _⟩ := hr
  obtain ⟨ob', oc', rfl, _, hoc', _, _⟩ := ho'
  obtain ⟨nb', nc', rfl, _, hnc', _, _⟩ := hn'
  obtain ⟨rb', rc', rfl, _, _, _, _⟩ := hr'
  have hoc := size_le_maxLen hoc
  have hnc := size_le_maxLen hnc
  have hoc' := size_le_maxLen hoc'
  have hnc' := size_le_maxLen hnc'
  obtain ⟨hol, hnl, hrl, hos, hns⟩ := hb
  have HOS := Lib.hid hos; clear hos
  have HNS := Lib.hid hns; clear hns
  unfold HVal
  have m1 := (m.alloc (.cells #[.int .i64 h.size, .int .i64 h.half, .int .i64 h.scan, .bool h.busy, .slice ob h.old.length oc, .slice nb h.new.length nc, .slice rb h.regs.length rc] 31)).alloc (.cells #[.int .i64 h.size, .int .i64 h.half, .int .i64 h.scan, .bool h.busy, .slice ob' h.old.length oc', .slice nb' h.new.length nc', .slice rb' h.regs.length rc'] 31)
  rw [World.size_alloc] at m1
  have es := m1.eqs
  simp only [EqsL] at es
  go_enter Try.func15, Try.ntmps15
  go_wp2_with fail
  refine (Values_any h.regs h.regs _ _ (by omega) HR.out HR'.out m1).mono ?_
  rintro e w1 ⟨rfl, m2⟩
  rw [decide_eq_true rfl]
  clear es m1
  have es := m2.eqs
  simp only [EqsL] at es
  go_wp2_with fail
  clear es
  go_loopw [5] (fun v5 wr => ∃ k : Nat, k ≤ h.old.length ∧ v5 = .int .i64 k ∧ Mem w0 H ((w.heap.size + 1, .cells #[.int .i64 h.size, .int .i64 h.half, .int .i64 h.scan, .bool h.busy, .slice ob' h.old.length oc', .slice nb' h.new.length nc', .slice rb' h.regs.length rc'] 31) :: (w.heap.size, .cells #[.int .i64 h.size, .int .i64 h.half, .int .i64 h.scan, .bool h.busy, .slice ob h.old.length oc, .slice nb h.new.length nc, .slice rb h.regs.length rc] 31) :: L) wr) (fun i _ => h.old.length - (intOf i).toNat)
  case atStart => exact ⟨0, Nat.zero_le _, rfl, m2⟩
  case round =>
    obtain ⟨k, hk, rfl, m3⟩ := hrel
    clear m2
    have es := m3.eqs
    simp only [EqsL] at es
    by_cases hlt : k < h.old.length
    · obtain ⟨b1, o1, sv1, rfl, x0, x1, x2, x3, x4, hsl1, _, _⟩ := HO.out.getHeld hlt
      obtain ⟨b2, o2, sv2, rfl, y0, y1, y2, y3, y4, hsl2, _, _⟩ := HO'.out.getHeld hlt
      have HSL1 := Lib.hid hsl1
      have HSL2 := Lib.hid hsl2
      obtain ⟨a1, c1, rfl, -, -, -, -⟩ := hsl1
      obtain ⟨a2, c2, rfl, -, -, -, -⟩ := hsl2
      have hbk := HOS.out _ (List.getElem_mem hlt)
      have hltI : (k : Int) < h.old.length := by omega
      generalize h.old[k] = p at *
      obtain ⟨⟨pk, ps, pn, pl⟩, pt⟩ := p
      simp only at *
      have X0 := Lib.hid x0; have X1 := Lib.hid x1; have X2 := Lib.hid x2; have X3 := Lib.hid x3; have X4 := Lib.hid x4
      have Y0 := Lib.hid y0; have Y1 := Lib.hid y1; have Y2 := Lib.hid y2; have Y3 := Lib.hid y3; have Y4 := Lib.hid y4
      clear x0 x1 x2 x3 x4 y0 y1 y2 y3 y4
      go_wp2_with fail
      refine AnyFrom.start (fun w' => w' = wr.drew) 26 (by kernel_rfl) ?_
      have mW := m3.drew
      clear m3 es
      generalize wr.drew = W at *
      have es := mW.eqs
      simp only [EqsL] at es
      have x0 := X0.out.cell mW; have x1 := X1.out.cell mW; have x2 := X2.out.cell mW; have x3 := X3.out.cell mW; have x4 := X4.out.cell mW
      have y0 := Y0.out.cell mW; have y1 := Y1.out.cell mW; have y2 := Y2.out.cell mW; have y3 := Y3.out.cell mW; have y4 := Y4.out.cell mW
      have HS : W = W := rfl
      refine AnyFrom.takeT (i := 0) (v := ?_) rfl (by kernel_rfl) (by kernel_rfl) (by kernel_rfl) (by kernel_rfl) (fun _ _ _ h => h) ⟨by kernel_rfl, ?_⟩ HS ?_
      rotate_left
      · first | (rintro w' rfl; go_simp; done) | (rintro w' rfl; go_simp; with_reducible rfl)
      simp only [Act.put, List.setIfInBounds_toArray, List.set_cons_zero, List.set_cons_succ, List.getElem_toArray, List.getElem_cons_succ, List.getElem_cons_zero]
      refine AnyFrom.takeT (i := 1) (v := ?_) rfl (by kernel_rfl) (by kernel_rfl) (by kernel_rfl) (by kernel_rfl) (fun _ _ _ h => h) ⟨by kernel_rfl, ?_⟩ HS ?_
      rotate_left
      · first | (rintro w' rfl; go_simp; done) | (rintro w' rfl; go_simp; with_reducible rfl)
      simp only [Act.put, List.setIfInBounds_toArray, List.set_cons_zero, List.set_cons_succ, List.getElem_toArray, List.getElem_cons_succ, List.getElem_cons_zero]
      refine AnyFrom.takeT (i := 2) (v := ?_) rfl (by kernel_rfl) (by kernel_rfl) (by kernel_rfl) (by kernel_rfl) (fun _ _ _ h => h) ⟨by kernel_rfl, ?_⟩ HS ?_
      rotate_left
      · first | (rintro w' rfl; go_simp; done) | (rintro w' rfl; go_simp; with_reducible rfl)
      simp only [Act.put, List.setIfInBounds_toArray, List.set_cons_zero, List.set_cons_succ, List.getElem_toArray, List.getElem_cons_succ, List.getElem_cons_zero]
      refine AnyFrom.takeT (i := 3) (v := ?_) rfl (by kernel_rfl) (by kernel_rfl) (by kernel_rfl) (by kernel_rfl) (fun _ _ _ h => h) ⟨by kernel_rfl, ?_⟩ HS ?_
      rotate_left
      · first | (rintro w' rfl; go_simp; done) | (rintro w' rfl; go_simp; with_reducible rfl)
      simp only [Act.put, List.setIfInBounds_toArray, List.set_cons_zero, List.set_cons_succ, List.getElem_toArray, List.getElem_cons_succ, List.getElem_cons_zero]
      refine AnyFrom.takeT (i := 4) (v := ?_) rfl (by kernel_rfl) (by kernel_rfl) (by kernel_rfl) (by kernel_rfl) (fun _ _ _ h => h) ⟨by kernel_rfl, ?_⟩ HS ?_
      rotate_left
      · first | (rintro w' rfl; go_simp; done) | (rintro w' rfl; go_simp; with_reducible rfl)
      simp only [Act.put, List.setIfInBounds_toArray, List.set_cons_zero, List.set_cons_succ, List.getElem_toArray, List.getElem_cons_succ, List.getElem_cons_zero]
      refine AnyFrom.takeT (i := 5) (v := ?_) rfl (by kernel_rfl) (by kernel_rfl) (by kernel_rfl) (by kernel_rfl) (fun _ _ _ h => h) ⟨by kernel_rfl, ?_⟩ HS ?_
      rotate_left
      · first | (rintro w' rfl; go_simp; done) | (rintro w' rfl; go_simp; with_reducible rfl)
      simp only [Act.put, List.setIfInBounds_toArray, List.set_cons_zero, List.set_cons_succ, List.getElem_toArray, List.getElem_cons_succ, List.getElem_cons_zero]
      refine AnyFrom.takeT (i := 6) (v := ?_) rfl (by kernel_rfl) (by kernel_rfl) (by kernel_rfl) (by kernel_rfl) (fun _ _ _ h => h) ⟨by kernel_rfl, ?_⟩ HS ?_
      rotate_left
      · first | (rintro w' rfl; go_simp; done) | (rintro w' rfl; go_simp; with_reducible rfl)
      simp only [Act.put, List.setIfInBounds_toArray, List.set_cons_zero, List.set_cons_succ, List.getElem_toArray, List.getElem_cons_succ, List.getElem_cons_zero]
      refine AnyFrom.takeT (i := 7) (v := ?_) rfl (by kernel_rfl) (by kernel_rfl) (by kernel_rfl) (by kernel_rfl) (fun _ _ _ h => h) ⟨by kernel_rfl, ?_⟩ HS ?_
      rotate_left
      · first | (rintro w' rfl; go_simp; done) | (rintro w' rfl; go_simp; with_reducible rfl)
      simp only [Act.put, List.setIfInBounds_toArray, List.set_cons_zero, List.set_cons_succ, List.getElem_toArray, List.getElem_cons_succ, List.getElem_cons_zero]
      refine AnyFrom.takeT (i := 8) (v := ?_) rfl (by kernel_rfl) (by kernel_rfl) (by kernel_rfl) (by kernel_rfl) (fun _ _ _ h => h) ⟨by kernel_rfl, ?_⟩ HS ?_
      rotate_left
      · first | (rintro w' rfl; go_simp; done) | (rintro w' rfl; go_simp; with_reducible rfl)
      simp only [Act.put, List.setIfInBounds_toArray, List.set_cons_zero, List.set_cons_succ, List.getElem_toArray, List.getElem_cons_succ, List.getElem_cons_zero]
      refine AnyFrom.takeT (i := 9) (v := ?_) rfl (by kernel_rfl) (by kernel_rfl) (by kernel_rfl) (by kernel_rfl) (fun _ _ _ h => h) ⟨by kernel_rfl, ?_⟩ HS ?_
      rotate_left
      · first | (rintro w' rfl; go_simp; done) | (rintro w' rfl; go_simp; with_reducible rfl)
      simp only [Act.put, List.setIfInBounds_toArray, List.set_cons_zero, List.set_cons_succ, List.getElem_toArray, List.getElem_cons_succ, List.getElem_cons_zero]
      refine AnyFrom.takeT (i := 10) (v := ?_) rfl (by kernel_rfl) (by kernel_rfl) (by kernel_rfl) (by kernel_rfl) (fun _ _ _ h => h) ⟨by kernel_rfl, ?_⟩ HS ?_
      rotate_left
      · first | (rintro w' rfl; go_simp; done) | (rintro w' rfl; go_simp; with_reducible rfl)
      simp only [Act.put, List.setIfInBounds_toArray, List.set_cons_zero, List.set_cons_succ, List.getElem_toArray, List.getElem_cons_succ, List.getElem_cons_zero]
      refine AnyFrom.takeT (i := 11) (v := ?_) rfl (by kernel_rfl) (by kernel_rfl) (by kernel_rfl) (by kernel_rfl) (fun _ _ _ h => h) ⟨by kernel_rfl, ?_⟩ HS ?_
      rotate_left
      · first | (rintro w' rfl; go_simp; done) | (rintro w' rfl; go_simp; with_reducible rfl)
      simp only [Act.put, List.setIfInBounds_toArray, List.set_cons_zero, List.set_cons_succ, List.getElem_toArray, List.getElem_cons_succ, List.getElem_cons_zero]
      refine AnyFrom.takeT (i := 12) (v := ?_) rfl (by kernel_rfl) (by kernel_rfl) (by kernel_rfl) (by kernel_rfl) (fun _ _ _ h => h) ⟨by kernel_rfl, ?_⟩ HS ?_
      rotate_left
      · first | (rintro w' rfl; go_simp; done) | (rintro w' rfl; go_simp; with_reducible rfl)
      simp only [Act.put, List.setIfInBounds_toArray, List.set_cons_zero, List.set_cons_succ, List.getElem_toArray, List.getElem_cons_succ, List.getElem_cons_zero]
      refine AnyFrom.takeT (i := 13) (v := ?_) rfl (by kernel_rfl) (by kernel_rfl) (by kernel_rfl) (by kernel_rfl) (fun _ _ _ h => h) ⟨by kernel_rfl, ?_⟩ HS ?_
      rotate_left
      · first | (rintro w' rfl; go_simp; done) | (rintro w' rfl; go_simp; with_reducible rfl)
      simp only [Act.put, List.setIfInBounds_toArray, List.set_cons_zero, List.set_cons_succ, List.getElem_toArray, List.getElem_cons_succ, List.getElem_cons_zero]
      refine AnyFrom.takeT (i := 14) (v := ?_) rfl (by kernel_rfl) (by kernel_rfl) (by kernel_rfl) (by kernel_rfl) (fun _ _ _ h => h) ⟨by kernel_rfl, ?_⟩ HS ?_
      rotate_left
      · first | (rintro w' rfl; go_simp; done) | (rintro w' rfl; go_simp; with_reducible rfl)
      simp only [Act.put, List.setIfInBounds_toArray, List.set_cons_zero, List.set_cons_succ, List.getElem_toArray, List.getElem_cons_succ, List.getElem_cons_zero]
      refine AnyFrom.takeT (i := 15) (v := ?_) rfl (by kernel_rfl) (by kernel_rfl) (by kernel_rfl) (by kernel_rfl) (fun _ _ _ h => h) ⟨by kernel_rfl, ?_⟩ HS ?_
      rotate_left
      · first | (rintro w' rfl; go_simp; done) | (rintro w' rfl; go_simp; with_reducible rfl)
      simp only [Act.put, List.setIfInBounds_toArray, List.set_cons_zero, List.set_cons_succ, List.getElem_toArray, List.getElem_cons_succ, List.getElem_cons_zero]
      refine AnyFrom.takeT (i := 16) (v := ?_) rfl (by kernel_rfl) (by kernel_rfl) (by kernel_rfl) (by kernel_rfl) (fun _ _ _ h => h) ⟨by kernel_rfl, ?_⟩ HS ?_
      rotate_left
      · first | (rintro w' rfl; go_simp; done) | (rintro w' rfl; go_simp; with_reducible rfl)
      simp only [Act.put, List.setIfInBounds_toArray, List.set_cons_zero, List.set_cons_succ, List.getElem_toArray, List.getElem_cons_succ, List.getElem_cons_zero]
      refine AnyFrom.takeT (i := 17) (v := ?_) rfl (by kernel_rfl) (by kernel_rfl) (by kernel_rfl) (by kernel_rfl) (fun _ _ _ h => h) ⟨by kernel_rfl, ?_⟩ HS ?_
      rotate_left
      · first | (rintro w' rfl; go_simp; done) | (rintro w' rfl; go_simp; with_reducible rfl)
      simp only [Act.put, List.setIfInBounds_toArray, List.set_cons_zero, List.set_cons_succ, List.getElem_toArray, List.getElem_cons_succ, List.getElem_cons_zero]
      refine AnyFrom.takeT (i := 18) (v := ?_) rfl (by kernel_rfl) (by kernel_rfl) (by kernel_rfl) (by kernel_rfl) (fun _ _ _ h => h) ⟨by kernel_rfl, ?_⟩ HS ?_
      rotate_left
      · first | (rintro w' rfl; go_simp; done) | (rintro w' rfl; go_simp; with_reducible rfl)
      simp only [Act.put, List.setIfInBounds_toArray, List.set_cons_zero, List.set_cons_succ, List.getElem_toArray, List.getElem_cons_succ, List.getElem_cons_zero]
      refine AnyFrom.takeT (i := 19) (v := ?_) rfl (by kernel_rfl) (by kernel_rfl) (by kernel_rfl) (by kernel_rfl) (fun _ _ _ h => h) ⟨by kernel_rfl, ?_⟩ HS ?_
      rotate_left
      · first | (rintro w' rfl; go_simp; done) | (rintro w' rfl; go_simp; with_reducible rfl)
      simp only [Act.put, List.setIfInBounds_toArray, List.set_cons_zero, List.set_cons_succ, List.getElem_toArray, List.getElem_cons_succ, List.getElem_cons_zero]
      refine AnyFrom.takeT (i := 20) (v := ?_) rfl (by kernel_rfl) (by kernel_rfl) (by kernel_rfl) (by kernel_rfl) (fun _ _ _ h => h) ⟨by kernel_rfl, ?_⟩ HS ?_
      rotate_left
      · first | (rintro w' rfl; go_simp; done) | (rintro w' rfl; go_simp; with_reducible rfl)
      simp only [Act.put, List.setIfInBounds_toArray, List.set_cons_zero, List.set_cons_succ, List.getElem_toArray, List.getElem_cons_succ, List.getElem_cons_zero]
      refine AnyFrom.takeT (i := 21) (v := ?_) rfl (by kernel_rfl) (by kernel_rfl) (by kernel_rfl) (by kernel_rfl) (fun _ _ _ h => h) ⟨by kernel_rfl, ?_⟩ HS ?_
      rotate_left
      · first | (rintro w' rfl; go_simp; done) | (rintro w' rfl; go_simp; with_reducible rfl)
      simp only [Act.put, List.setIfInBounds_toArray, List.set_cons_zero, List.set_cons_succ, List.getElem_toArray, List.getElem_cons_succ, List.getElem_cons_zero]
      refine AnyFrom.takeT (i := 22) (v := ?_) rfl (by kernel_rfl) (by kernel_rfl) (by kernel_rfl) (by kernel_rfl) (fun _ _ _ h => h) ⟨by kernel_rfl, ?_⟩ HS ?_
      rotate_left
      · first | (rintro w' rfl; go_simp; done) | (rintro w' rfl; go_simp; with_reducible rfl)
      simp only [Act.put, List.setIfInBounds_toArray, List.set_cons_zero, List.set_cons_succ, List.getElem_toArray, List.getElem_cons_succ, List.getElem_cons_zero]
      refine AnyFrom.takeT (i := 23) (v := ?_) rfl (by kernel_rfl) (by kernel_rfl) (by kernel_rfl) (by kernel_rfl) (fun _ _ _ h => h) ⟨by kernel_rfl, ?_⟩ HS ?_
      rotate_left
      · first | (rintro w' rfl; go_simp; done) | (rintro w' rfl; go_simp; with_reducible rfl)
      simp only [Act.put, List.setIfInBounds_toArray, List.set_cons_zero, List.set_cons_succ, List.getElem_toArray, List.getElem_cons_succ, List.getElem_cons_zero]
      refine AnyFrom.takeT (i := 24) (v := ?_) rfl (by kernel_rfl) (by kernel_rfl) (by kernel_rfl) (by kernel_rfl) (fun _ _ _ h => h) ⟨by kernel_rfl, ?_⟩ HS ?_
      rotate_left
      · first | (rintro w' rfl; go_simp; done) | (rintro w' rfl; go_simp; with_reducible rfl)
      simp only [Act.put, List.setIfInBounds_toArray, List.set_cons_zero, List.set_cons_succ, List.getElem_toArray, List.getElem_cons_succ, List.getElem_cons_zero]
      refine AnyFrom.takeT (i := 25) (v := ?_) rfl (by kernel_rfl) (by kernel_rfl) (by kernel_rfl) (by kernel_rfl) (fun _ _ _ h => h) ⟨by kernel_rfl, ?_⟩ HS ?_
      rotate_left
      · first | (rintro w' rfl; go_simp; done) | (rintro w' rfl; go_simp; with_reducible rfl)
      simp only [Act.put, List.setIfInBounds_toArray, List.set_cons_zero, List.set_cons_succ, List.getElem_toArray, List.getElem_cons_succ, List.getElem_cons_zero]
      refine AnyFrom.call (i := 26) (by kernel_rfl) rfl (by kernel_rfl) fun K hK => ?_
      go_simp
      refine (SameObject_eq pk ps pn pl _ _ (by omega) HSL1.out HSL2.out mW).mono ?_
      rintro e w2 ⟨rfl, m4⟩
      refine hK _ _ (.inl ⟨26, by decide, by rfl⟩) ?_
      clear hK K
      try simp only [Act.put, List.setIfInBounds_toArray, List.set_cons_zero, List.set_cons_succ, List.getElem_toArray, List.getElem_cons_succ, List.getElem_cons_zero]
      refine AnyFrom.call (i := 27) (by kernel_rfl) rfl (by kernel_rfl) fun K hK => ?_
      go_simp
      refine hK _ _ (.inl ⟨26, by decide, by rfl⟩) ?_
      clear hK K
      try simp only [Act.put, List.setIfInBounds_toArray, List.set_cons_zero, List.set_cons_succ, List.getElem_toArray, List.getElem_cons_succ, List.getElem_cons_zero]
      refine AnyFrom.call (i := 28) (by kernel_rfl) rfl (by kernel_rfl) fun K hK => ?_
      go_simp
      refine hK _ _ (.inl ⟨26, by decide, by rfl⟩) ?_
      clear hK K
      try simp only [Act.put, List.setIfInBounds_toArray, List.set_cons_zero, List.set_cons_succ, List.getElem_toArray, List.getElem_cons_succ, List.getElem_cons_zero]
      refine AnyFrom.done (by kernel_rfl) ?_ _
      clear es x0 x1 x2 x3 x4 y0 y1 y2 y3 y4
      go_wp2_with fail
      go_roundw
      case rel => exact ⟨k + 1, by omega, by go_num, m4⟩
      case measure => simp [intOf]; omega
    · have hge : ¬ (k : Int) < h.old.length := by omega
      go_wp2_with fail
      clear es
      go_loopw [6] (fun v6 wr => ∃ k : Nat, k ≤ h.new.length ∧ v6 = .int .i64 k ∧ Mem w0 H ((w.heap.size + 1, .cells #[.int .i64 h.size, .int .i64 h.half, .int .i64 h.scan, .bool h.busy, .slice ob' h.old.length oc', .slice nb' h.new.length nc', .slice rb' h.regs.length rc'] 31) :: (w.heap.size, .cells #[.int .i64 h.size, .int .i64 h.half, .int .i64 h.scan, .bool h.busy, .slice ob h.old.length oc, .slice nb h.new.length nc, .slice rb h.regs.length rc] 31) :: L) wr) (fun i _ => h.new.length - (intOf i).toNat)
      case atStart => exact ⟨0, Nat.zero_le _, rfl, m3⟩
      case round =>
        obtain ⟨j, hj, rfl, m4⟩ := hrel
        clear m3
        have es := m4.eqs
        simp only [EqsL] at es
        by_cases hlt : j < h.new.length
        · obtain ⟨b1, o1, sv1, rfl, x0, x1, x2, x3, hsl1, _⟩ := HN.out.getObj hlt
          obtain ⟨b2, o2, sv2, rfl, y0, y1, y2, y3, hsl2, _⟩ := HN'.out.getObj hlt
          have HSL1 := Lib.hid hsl1
          have HSL2 := Lib.hid hsl2
          obtain ⟨a1, c1, rfl, -, -, -, -⟩ := hsl1
          obtain ⟨a2, c2, rfl, -, -, -, -⟩ := hsl2
          have hbk := HNS.out _ (List.getElem_mem hlt)
          have hltI : (j : Int) < h.new.length := by omega
          generalize h.new[j] = p at *
          obtain ⟨pk, ps, pn, pl⟩ := p
          simp only at *
          have X0 := Lib.hid x0; have X1 := Lib.hid x1; have X2 := Lib.hid x2; have X3 := Lib.hid x3
          have Y0 := Lib.hid y0; have Y1 := Lib.hid y1; have Y2 := Lib.hid y2; have Y3 := Lib.hid y3
          clear x0 x1 x2 x3 y0 y1 y2 y3
          go_wp2_with fail
          refine AnyFrom.start (fun w' => w' = wr.drew) 10 (by kernel_rfl) ?_
          have mW := m4.drew
          clear m4 es
          generalize wr.drew = W at *
          have es := mW.eqs
          simp only [EqsL] at es
          have x0 := X0.out.cell mW; have x1 := X1.out.cell mW; have x2 := X2.out.cell mW; have x3 := X3.out.cell mW
          have y0 := Y0.out.cell mW; have y1 := Y1.out.cell mW; have y2 := Y2.out.cell mW; have y3 := Y3.out.cell mW
          have HS : W = W := rfl
          refine AnyFrom.takeT (i := 0) (v := ?_) rfl (by kernel_rfl) (by kernel_rfl) (by kernel_rfl) (by kernel_rfl) (fun _ _ _ h => h) ⟨by kernel_rfl, ?_⟩ HS ?_
          rotate_left
          · first | (rintro w' rfl; go_simp; done) | (rintro w' rfl; go_simp; with_reducible rfl)
          simp only [Act.put, List.setIfInBounds_toArray, List.set_cons_zero, List.set_cons_succ, List.getElem_toArray, List.getElem_cons_succ, List.getElem_cons_zero]
          refine AnyFrom.takeT (i := 1) (v := ?_) rfl (by kernel_rfl) (by kernel_rfl) (by kernel_rfl) (by kernel_rfl) (fun _ _ _ h => h) ⟨by kernel_rfl, ?_⟩ HS ?_
          rotate_left
          · first | (rintro w' rfl; go_simp; done) | (rintro w' rfl; go_simp; with_reducible rfl)
          simp only [Act.put, List.setIfInBounds_toArray, List.set_cons_zero, List.set_cons_succ, List.getElem_toArray, List.getElem_cons_succ, List.getElem_cons_zero]
          refine AnyFrom.takeT (i := 2) (v := ?_) rfl (by kernel_rfl) (by kernel_rfl) (by kernel_rfl) (by kernel_rfl) (fun _ _ _ h => h) ⟨by kernel_rfl, ?_⟩ HS ?_
          rotate_left
          · first | (rintro w' rfl; go_simp; done) | (rintro w' rfl; go_simp; with_reducible rfl)
          simp only [Act.put, List.setIfInBounds_toArray, List.set_cons_zero, List.set_cons_succ, List.getElem_toArray, List.getElem_cons_succ, List.getElem_cons_zero]
          refine AnyFrom.takeT (i := 3) (v := ?_) rfl (by kernel_rfl) (by kernel_rfl) (by kernel_rfl) (by kernel_rfl) (fun _ _ _ h => h) ⟨by kernel_rfl, ?_⟩ HS ?_
          rotate_left
          · first | (rintro w' rfl; go_simp; done) | (rintro w' rfl; go_simp; with_reducible rfl)
          simp only [Act.put, List.setIfInBounds_toArray, List.set_cons_zero, List.set_cons_succ, List.getElem_toArray, List.getElem_cons_succ, List.getElem_cons_zero]
          refine AnyFrom.takeT (i := 4) (v := ?_) rfl (by kernel_rfl) (by kernel_rfl) (by kernel_rfl) (by kernel_rfl) (fun _ _ _ h => h) ⟨by kernel_rfl, ?_⟩ HS ?_
          rotate_left
          · first | (rintro w' rfl; go_simp; done) | (rintro w' rfl; go_simp; with_reducible rfl)
          simp only [Act.put, List.setIfInBounds_toArray, List.set_cons_zero, List.set_cons_succ, List.getElem_toArray, List.getElem_cons_succ, List.getElem_cons_zero]
          refine AnyFrom.takeT (i := 5) (v := ?_) rfl (by kernel_rfl) (by kernel_rfl) (by kernel_rfl) (by kernel_rfl) (fun _ _ _ h => h) ⟨by kernel_rfl, ?_⟩ HS ?_
          rotate_left
          · first | (rintro w' rfl; go_simp; done) | (rintro w' rfl; go_simp; with_reducible rfl)
          simp only [Act.put, List.setIfInBounds_toArray, List.set_cons_zero, List.set_cons_succ, List.getElem_toArray, List.getElem_cons_succ, List.getElem_cons_zero]
          refine AnyFrom.takeT (i := 6) (v := ?_) rfl (by kernel_rfl) (by kernel_rfl) (by kernel_rfl) (by kernel_rfl) (fun _ _ _ h => h) ⟨by kernel_rfl, ?_⟩ HS ?_
          rotate_left
          · first | (rintro w' rfl; go_simp; done) | (rintro w' rfl; go_simp; with_reducible rfl)
          simp only [Act.put, List.setIfInBounds_toArray, List.set_cons_zero, List.set_cons_succ, List.getElem_toArray, List.getElem_cons_succ, List.getElem_cons_zero]
          refine AnyFrom.takeT (i := 7) (v := ?_) rfl (by kernel_rfl) (by kernel_rfl) (by kernel_rfl) (by kernel_rfl) (fun _ _ _ h => h) ⟨by kernel_rfl, ?_⟩ HS ?_
          rotate_left
          · first | (rintro w' rfl; go_simp; done) | (rintro w' rfl; go_simp; with_reducible rfl)
          simp only [Act.put, List.setIfInBounds_toArray, List.set_cons_zero, List.set_cons_succ, List.getElem_toArray, List.getElem_cons_succ, List.getElem_cons_zero]
          refine AnyFrom.takeT (i := 8) (v := ?_) rfl (by kernel_rfl) (by kernel_rfl) (by kernel_rfl) (by kernel_rfl) (fun _ _ _ h => h) ⟨by kernel_rfl, ?_⟩ HS ?_
          rotate_left
          · first | (rintro w' rfl; go_simp; done) | (rintro w' rfl; go_simp; with_reducible rfl)
          simp only [Act.put, List.setIfInBounds_toArray, List.set_cons_zero, List.set_cons_succ, List.getElem_toArray, List.getElem_cons_succ, List.getElem_cons_zero]
          refine AnyFrom.takeT (i := 9) (v := ?_) rfl (by kernel_rfl) (by kernel_rfl) (by kernel_rfl) (by kernel_rfl) (fun _ _ _ h => h) ⟨by kernel_rfl, ?_⟩ HS ?_
          rotate_left
          · first | (rintro w' rfl; go_simp; done) | (rintro w' rfl; go_simp; with_reducible rfl)
          simp only [Act.put, List.setIfInBounds_toArray, List.set_cons_zero, List.set_cons_succ, List.getElem_toArray, List.getElem_cons_succ, List.getElem_cons_zero]
          refine AnyFrom.call (i := 10) (by kernel_rfl) rfl (by kernel_rfl) fun K hK => ?_
          go_simp
          refine (SameObject_eq pk ps pn pl _ _ (by omega) HSL1.out HSL2.out mW).mono ?_
          rintro e w2 ⟨rfl, m5⟩
          refine hK _ _ (.inl ⟨10, by decide, by rfl⟩) ?_
          clear hK K
          try simp only [Act.put, List.setIfInBounds_toArray, List.set_cons_zero, List.set_cons_succ, List.getElem_toArray, List.getElem_cons_succ, List.getElem_cons_zero]
          refine AnyFrom.call (i := 11) (by kernel_rfl) rfl (by kernel_rfl) fun K hK => ?_
          go_simp
          refine hK _ _ (.inl ⟨10, by decide, by rfl⟩) ?_
          clear hK K
          try simp only [Act.put, List.setIfInBounds_toArray, List.set_cons_zero, List.set_cons_succ, List.getElem_toArray, List.getElem_cons_succ, List.getElem_cons_zero]
          refine AnyFrom.done (by kernel_rfl) ?_ _
          clear es x0 x1 x2 x3 y0 y1 y2 y3
          go_wp2_with fail
          go_roundw
          case rel => exact ⟨j + 1, by omega, by go_num, m5⟩
          case measure => simp [intOf]; omega
        · have hge : ¬ (j : Int) < h.new.length := by omega
          go_wp2_with fail
          go_ret
          exact ⟨rfl, m4.drop.drop⟩
end Go.Proofs.Ythipkmmdjhpklaa
