/- The walk: is a heap valid? -/
import Derived.Test.YthipkmmdjhpklaaK19
import Derived.Test.YthipkmmdjhpklaaK01
namespace Go.Proofs.Ythipkmmdjhpklaa
set_option linter.unusedVariables false
set_option linter.unusedSimpArgs false
open Go.RowKit

set_option maxRecDepth 10000 in
set_option maxHeartbeats 8000000 in
theorem isValid_any (b : Nat) (h : HeapM) (g : HGood h) (vo vn vr : Value) {w0 w : World} {H : Hp} {L : List (Nat × Obj)} (hv0 : SlR encHeld H vo h.old) (hv : SlR encObj H vn h.new) (hx : SlR encVal H vr h.regs)
    (m : Mem w0 H ((b, HBox TH h.size h.half h.scan h.busy vo vn vr) :: L) w) :
    Calls Try.prog 72 #[.pointer (some ⟨b, 0, none⟩)] w (Ret w0 H ((b, HBox TH h.size h.half h.scan h.busy vo vn vr) :: L) (.bool true)) := by
  have HO := Lib.hid hv0
  have HV := Lib.hid hv
  have HX := Lib.hid hx
  obtain ⟨ob, oc, rfl, _, hoc, _, _⟩ := hv0
  obtain ⟨nb, nc, rfl, _, hnc, _, _⟩ := hv
  obtain ⟨rb, rc, rfl, _, hrc, _, _⟩ := hx
  have hoc := size_le_maxLen hoc
  have hnc := size_le_maxLen hnc
  have hrc := size_le_maxLen hrc
  have c := g.ok.core
  have hsz := c.size
  have hhf : 0 ≤ h.half ∧ h.half ≤ 1 := by have := c.half; omega
  have hrl := g.ok.regl
  have hbd := c.bounds
  have hs0 := c.s0
  have hs1 := c.s1
  have hs2 := g.ok.s2
  have hwd := c.words
  have hdg := dueL_ge h.old fun p hp => (c.old p hp).1
  have hwg := wordsM_ge (lens h.new)
  have HNB := Lib.hid (fun o (ho : o ∈ h.new) => show o.slots.length ≤ 100000 by
    obtain ⟨i, hi, rfl⟩ := List.mem_iff_getElem.1 ho
    have := (c.new i _ (List.getElem?_eq_getElem hi)).len
    omega)
  have HOB := Lib.hid (fun p (hp : p ∈ h.old) => show p.1.slots.length ≤ 100000 by
    have := (c.old p hp).2.2.len
    omega)
  have hidle : h.busy = false → h.old.length = 0 ∧ h.scan = 0 := fun hb => ⟨by rw [(c.idle hb).1]; rfl, (c.idle hb).2⟩
  have HID := Lib.hid hidle; clear hidle
  have HRA := Lib.hid (show h.regs.all (inB h.half h.old.length h.new.length) = true from List.all_eq_true.2 fun x hx => valIn_inB (g.ok.regs x hx))
  have HRM := Lib.hid (show h.regs.any (isOldB h.half) = false from List.any_eq_false.2 fun x hx => by rw [valIn_new (g.ok.regs x hx)]; simp)
  have HG := Lib.hid g; clear g
  have HCN := Lib.hid c; clear c
  go_enter Try.func72, Try.ntmps72
  go_wp2_with fail
  have hrl1 : decide ((4000 : Int) < (h.regs.length : Int)) = false := decide_eq_false (by omega)
  have hrl2 : ¬ (4000 : Int) < (h.regs.length : Int) := by omega
  refine AnyFrom.start (fun w' => ∃ L', Mem w0 H ((b, HBox TH h.size h.half h.scan h.busy (.slice ob h.old.length oc) (.slice nb h.new.length nc) (.slice rb h.regs.length rc)) :: L') w') 43 (by kernel_rfl) ?_
  have mW := m.drew
  generalize w.drew = W0 at *
  have HS : ∃ L', Mem w0 H ((b, HBox TH h.size h.half h.scan h.busy (.slice ob h.old.length oc) (.slice nb h.new.length nc) (.slice rb h.regs.length rc)) :: L') W0 := ⟨_, mW⟩
  refine AnyFrom.pure (i := 0) (v := ?_) rfl (by kernel_rfl) (by kernel_rfl) (by kernel_rfl) (by decide) (fun _ _ _ h => h) ⟨by kernel_rfl, ?_⟩ HS ?_
  rotate_left
  · first | (intro w'; go_simp; done) | (intro w'; go_simp; with_reducible rfl)
  simp only [Act.put, List.setIfInBounds_toArray, List.set_cons_zero, List.set_cons_succ, List.getElem_toArray, List.getElem_cons_succ, List.getElem_cons_zero]
  refine AnyFrom.take (i := 1) (v := ?_) rfl (by kernel_rfl) (by kernel_rfl) (by kernel_rfl) (by kernel_rfl) (fun _ _ _ h => h) ⟨by kernel_rfl, ?_⟩ HS ?_
  rotate_left
  · first | (rintro w' ⟨L', hm⟩; have es := hm.eqs; simp only [HBox, EqsL] at es; go_simp; done) | (rintro w' ⟨L', hm⟩; have es := hm.eqs; simp only [HBox, EqsL] at es; go_simp; with_reducible rfl)
  simp only [Act.put, List.setIfInBounds_toArray, List.set_cons_zero, List.set_cons_succ, List.getElem_toArray, List.getElem_cons_succ, List.getElem_cons_zero]
  refine AnyFrom.take (i := 2) (v := ?_) rfl (by kernel_rfl) (by kernel_rfl) (by kernel_rfl) (by kernel_rfl) (fun _ _ _ h => h) ⟨by kernel_rfl, ?_⟩ HS ?_
  rotate_left
  · first | (rintro w' ⟨L', hm⟩; have es := hm.eqs; simp only [HBox, EqsL] at es; go_simp; done) | (rintro w' ⟨L', hm⟩; have es := hm.eqs; simp only [HBox, EqsL] at es; go_simp; with_reducible rfl)
  simp only [Act.put, List.setIfInBounds_toArray, List.set_cons_zero, List.set_cons_succ, List.getElem_toArray, List.getElem_cons_succ, List.getElem_cons_zero]
  refine AnyFrom.take (i := 3) (v := ?_) rfl (by kernel_rfl) (by kernel_rfl) (by kernel_rfl) (by kernel_rfl) (fun _ _ _ h => h) ⟨by kernel_rfl, ?_⟩ HS ?_
  rotate_left
  · first | (rintro w' ⟨L', hm⟩; have es := hm.eqs; simp only [HBox, EqsL] at es; go_simp; done) | (rintro w' ⟨L', hm⟩; have es := hm.eqs; simp only [HBox, EqsL] at es; go_simp; with_reducible rfl)
  simp only [Act.put, List.setIfInBounds_toArray, List.set_cons_zero, List.set_cons_succ, List.getElem_toArray, List.getElem_cons_succ, List.getElem_cons_zero]
  refine AnyFrom.take (i := 4) (v := ?_) rfl (by kernel_rfl) (by kernel_rfl) (by kernel_rfl) (by kernel_rfl) (fun _ _ _ h => h) ⟨by kernel_rfl, ?_⟩ HS ?_
  rotate_left
  · first | (rintro w' ⟨L', hm⟩; have es := hm.eqs; simp only [HBox, EqsL] at es; go_simp; done) | (rintro w' ⟨L', hm⟩; have es := hm.eqs; simp only [HBox, EqsL] at es; go_simp; with_reducible rfl)
  simp only [Act.put, List.setIfInBounds_toArray, List.set_cons_zero, List.set_cons_succ, List.getElem_toArray, List.getElem_cons_succ, List.getElem_cons_zero]
  refine AnyFrom.call (i := 5) (by kernel_rfl) rfl (by kernel_rfl) fun K hK => ?_
  go_simp
  have mA := mW.alloc (.cells #[.int .i64 h.size] 3)
  refine hK _ _ (.inr ⟨_, mA.perm (.swap _ _ _)⟩) ?_
  clear hK K HS
  try simp only [Act.put, List.setIfInBounds_toArray, List.set_cons_zero, List.set_cons_succ, List.getElem_toArray, List.getElem_cons_succ, List.getElem_cons_zero]
  have HS : ∃ L', Mem w0 H ((b, HBox TH h.size h.half h.scan h.busy (.slice ob h.old.length oc) (.slice nb h.new.length nc) (.slice rb h.regs.length rc)) :: L') _ := ⟨_, mA.perm (.swap _ _ _)⟩
  refine AnyFrom.call (i := 6) (by kernel_rfl) rfl (by kernel_rfl) fun K hK => ?_
  go_simp
  refine (within1n _ h.size (0) (6000) ⟨by omega, by omega⟩ mA).mono ?_
  rintro e w1 ⟨rfl, mB⟩
  rw [decide_eq_true hsz]
  refine hK _ _ (.inr ⟨_, mB⟩) ?_
  clear hK K HS
  try simp only [Act.put, List.setIfInBounds_toArray, List.set_cons_zero, List.set_cons_succ, List.getElem_toArray, List.getElem_cons_succ, List.getElem_cons_zero]
  have HS : ∃ L', Mem w0 H ((b, HBox TH h.size h.half h.scan h.busy (.slice ob h.old.length oc) (.slice nb h.new.length nc) (.slice rb h.regs.length rc)) :: L') _ := ⟨_, mB⟩
  refine AnyFrom.pure (i := 7) (v := ?_) rfl (by kernel_rfl) (by kernel_rfl) (by kernel_rfl) (by decide) (fun _ _ _ h => h) ⟨by kernel_rfl, ?_⟩ HS ?_
  rotate_left
  · first | (intro w'; go_simp; done) | (intro w'; go_simp; with_reducible rfl)
  simp only [Act.put, List.setIfInBounds_toArray, List.set_cons_zero, List.set_cons_succ, List.getElem_toArray, List.getElem_cons_succ, List.getElem_cons_zero]
  refine AnyFrom.pure (i := 8) (v := ?_) rfl (by kernel_rfl) (by kernel_rfl) (by kernel_rfl) (by decide) (fun _ _ _ h => h) ⟨by kernel_rfl, ?_⟩ HS ?_
  rotate_left
  · first | (intro w'; go_simp; done) | (intro w'; go_simp; with_reducible rfl)
  simp only [Act.put, List.setIfInBounds_toArray, List.set_cons_zero, List.set_cons_succ, List.getElem_toArray, List.getElem_cons_succ, List.getElem_cons_zero]
  refine AnyFrom.pure (i := 9) (v := ?_) rfl (by kernel_rfl) (by kernel_rfl) (by kernel_rfl) (by decide) (fun _ _ _ h => h) ⟨by kernel_rfl, ?_⟩ HS ?_
  rotate_left
  · first | (intro w'; go_simp; done) | (intro w'; go_simp; with_reducible rfl)
  simp only [Act.put, List.setIfInBounds_toArray, List.set_cons_zero, List.set_cons_succ, List.getElem_toArray, List.getElem_cons_succ, List.getElem_cons_zero]
  refine AnyFrom.take (i := 10) (v := ?_) rfl (by kernel_rfl) (by kernel_rfl) (by kernel_rfl) (by kernel_rfl) (fun _ _ _ h => h) ⟨by kernel_rfl, ?_⟩ HS ?_
  rotate_left
  · first | (rintro w' ⟨L', hm⟩; have es := hm.eqs; simp only [HBox, EqsL] at es; go_simp; done) | (rintro w' ⟨L', hm⟩; have es := hm.eqs; simp only [HBox, EqsL] at es; go_simp; with_reducible rfl)
  simp only [Act.put, List.setIfInBounds_toArray, List.set_cons_zero, List.set_cons_succ, List.getElem_toArray, List.getElem_cons_succ, List.getElem_cons_zero]
  refine AnyFrom.take (i := 11) (v := ?_) rfl (by kernel_rfl) (by kernel_rfl) (by kernel_rfl) (by kernel_rfl) (fun _ _ _ h => h) ⟨by kernel_rfl, ?_⟩ HS ?_
  rotate_left
  · first | (rintro w' ⟨L', hm⟩; have es := hm.eqs; simp only [HBox, EqsL] at es; go_simp; done) | (rintro w' ⟨L', hm⟩; have es := hm.eqs; simp only [HBox, EqsL] at es; go_simp; with_reducible rfl)
  simp only [Act.put, List.setIfInBounds_toArray, List.set_cons_zero, List.set_cons_succ, List.getElem_toArray, List.getElem_cons_succ, List.getElem_cons_zero]
  refine AnyFrom.take (i := 12) (v := ?_) rfl (by kernel_rfl) (by kernel_rfl) (by kernel_rfl) (by kernel_rfl) (fun _ _ _ h => h) ⟨by kernel_rfl, ?_⟩ HS ?_
  rotate_left
  · first | (rintro w' ⟨L', hm⟩; have es := hm.eqs; simp only [HBox, EqsL] at es; go_simp; done) | (rintro w' ⟨L', hm⟩; have es := hm.eqs; simp only [HBox, EqsL] at es; go_simp; with_reducible rfl)
  simp only [Act.put, List.setIfInBounds_toArray, List.set_cons_zero, List.set_cons_succ, List.getElem_toArray, List.getElem_cons_succ, List.getElem_cons_zero]
  refine AnyFrom.take (i := 13) (v := ?_) rfl (by kernel_rfl) (by kernel_rfl) (by kernel_rfl) (by kernel_rfl) (fun _ _ _ h => h) ⟨by kernel_rfl, ?_⟩ HS ?_
  rotate_left
  · first | (rintro w' ⟨L', hm⟩; have es := hm.eqs; simp only [HBox, EqsL] at es; go_simp; done) | (rintro w' ⟨L', hm⟩; have es := hm.eqs; simp only [HBox, EqsL] at es; go_simp; with_reducible rfl)
  simp only [Act.put, List.setIfInBounds_toArray, List.set_cons_zero, List.set_cons_succ, List.getElem_toArray, List.getElem_cons_succ, List.getElem_cons_zero]
  refine AnyFrom.call (i := 14) (by kernel_rfl) rfl (by kernel_rfl) fun K hK => ?_
  go_simp
  have mC := mB.alloc (.cells #[.int .i64 h.half] 3)
  refine hK _ _ (.inr ⟨_, mC.perm (.swap _ _ _)⟩) ?_
  clear hK K HS
  try simp only [Act.put, List.setIfInBounds_toArray, List.set_cons_zero, List.set_cons_succ, List.getElem_toArray, List.getElem_cons_succ, List.getElem_cons_zero]
  have HS : ∃ L', Mem w0 H ((b, HBox TH h.size h.half h.scan h.busy (.slice ob h.old.length oc) (.slice nb h.new.length nc) (.slice rb h.regs.length rc)) :: L') _ := ⟨_, mC.perm (.swap _ _ _)⟩
  refine AnyFrom.call (i := 15) (by kernel_rfl) rfl (by kernel_rfl) fun K hK => ?_
  go_simp
  refine (within1n _ h.half (0) (1) ⟨by omega, by omega⟩ mC).mono ?_
  rintro e w2 ⟨rfl, mD⟩
  rw [decide_eq_true hhf]
  refine hK _ _ (.inr ⟨_, mD⟩) ?_
  clear hK K HS
  try simp only [Act.put, List.setIfInBounds_toArray, List.set_cons_zero, List.set_cons_succ, List.getElem_toArray, List.getElem_cons_succ, List.getElem_cons_zero]
  have HS : ∃ L', Mem w0 H ((b, HBox TH h.size h.half h.scan h.busy (.slice ob h.old.length oc) (.slice nb h.new.length nc) (.slice rb h.regs.length rc)) :: L') _ := ⟨_, mD⟩
  refine AnyFrom.pure (i := 16) (v := ?_) rfl (by kernel_rfl) (by kernel_rfl) (by kernel_rfl) (by decide) (fun _ _ _ h => h) ⟨by kernel_rfl, ?_⟩ HS ?_
  rotate_left
  · first | (intro w'; go_simp; done) | (intro w'; go_simp; with_reducible rfl)
  simp only [Act.put, List.setIfInBounds_toArray, List.set_cons_zero, List.set_cons_succ, List.getElem_toArray, List.getElem_cons_succ, List.getElem_cons_zero]
  refine AnyFrom.pure (i := 17) (v := ?_) rfl (by kernel_rfl) (by kernel_rfl) (by kernel_rfl) (by decide) (fun _ _ _ h => h) ⟨by kernel_rfl, ?_⟩ HS ?_
  rotate_left
  · first | (intro w'; go_simp; done) | (intro w'; go_simp; with_reducible rfl)
  simp only [Act.put, List.setIfInBounds_toArray, List.set_cons_zero, List.set_cons_succ, List.getElem_toArray, List.getElem_cons_succ, List.getElem_cons_zero]
  refine AnyFrom.pure (i := 18) (v := ?_) rfl (by kernel_rfl) (by kernel_rfl) (by kernel_rfl) (by decide) (fun _ _ _ h => h) ⟨by kernel_rfl, ?_⟩ HS ?_
  rotate_left
  · first | (intro w'; go_simp; done) | (intro w'; go_simp; with_reducible rfl)
  simp only [Act.put, List.setIfInBounds_toArray, List.set_cons_zero, List.set_cons_succ, List.getElem_toArray, List.getElem_cons_succ, List.getElem_cons_zero]
  refine AnyFrom.pure (i := 19) (v := ?_) rfl (by kernel_rfl) (by kernel_rfl) (by kernel_rfl) (by decide) (fun _ _ _ h => h) ⟨by kernel_rfl, ?_⟩ HS ?_
  rotate_left
  · first | (intro w'; go_simp; done) | (intro w'; go_simp; with_reducible rfl)
  simp only [Act.put, List.setIfInBounds_toArray, List.set_cons_zero, List.set_cons_succ, List.getElem_toArray, List.getElem_cons_succ, List.getElem_cons_zero]
  refine AnyFrom.take (i := 20) (v := ?_) rfl (by kernel_rfl) (by kernel_rfl) (by kernel_rfl) (by kernel_rfl) (fun _ _ _ h => h) ⟨by kernel_rfl, ?_⟩ HS ?_
  rotate_left
  · first | (rintro w' ⟨L', hm⟩; have es := hm.eqs; simp only [HBox, EqsL] at es; go_simp; done) | (rintro w' ⟨L', hm⟩; have es := hm.eqs; simp only [HBox, EqsL] at es; go_simp; with_reducible rfl)
  simp only [Act.put, List.setIfInBounds_toArray, List.set_cons_zero, List.set_cons_succ, List.getElem_toArray, List.getElem_cons_succ, List.getElem_cons_zero]
  refine AnyFrom.take (i := 21) (v := ?_) rfl (by kernel_rfl) (by kernel_rfl) (by kernel_rfl) (by kernel_rfl) (fun _ _ _ h => h) ⟨by kernel_rfl, ?_⟩ HS ?_
  rotate_left
  · first | (rintro w' ⟨L', hm⟩; have es := hm.eqs; simp only [HBox, EqsL] at es; go_simp; done) | (rintro w' ⟨L', hm⟩; have es := hm.eqs; simp only [HBox, EqsL] at es; go_simp; with_reducible rfl)
  simp only [Act.put, List.setIfInBounds_toArray, List.set_cons_zero, List.set_cons_succ, List.getElem_toArray, List.getElem_cons_succ, List.getElem_cons_zero]
  refine AnyFrom.take (i := 22) (v := ?_) rfl (by kernel_rfl) (by kernel_rfl) (by kernel_rfl) (by kernel_rfl) (fun _ _ _ h => h) ⟨by kernel_rfl, ?_⟩ HS ?_
  rotate_left
  · first | (rintro w' ⟨L', hm⟩; have es := hm.eqs; simp only [HBox, EqsL] at es; go_simp; done) | (rintro w' ⟨L', hm⟩; have es := hm.eqs; simp only [HBox, EqsL] at es; go_simp; with_reducible rfl)
  simp only [Act.put, List.setIfInBounds_toArray, List.set_cons_zero, List.set_cons_succ, List.getElem_toArray, List.getElem_cons_succ, List.getElem_cons_zero]
  refine AnyFrom.take (i := 23) (v := ?_) rfl (by kernel_rfl) (by kernel_rfl) (by kernel_rfl) (by kernel_rfl) (fun _ _ _ h => h) ⟨by kernel_rfl, ?_⟩ HS ?_
  rotate_left
  · first | (rintro w' ⟨L', hm⟩; have es := hm.eqs; simp only [HBox, EqsL] at es; go_simp; done) | (rintro w' ⟨L', hm⟩; have es := hm.eqs; simp only [HBox, EqsL] at es; go_simp; with_reducible rfl)
  simp only [Act.put, List.setIfInBounds_toArray, List.set_cons_zero, List.set_cons_succ, List.getElem_toArray, List.getElem_cons_succ, List.getElem_cons_zero]
  refine AnyFrom.pure (i := 24) (v := ?_) rfl (by kernel_rfl) (by kernel_rfl) (by kernel_rfl) (by decide) (fun _ _ _ h => h) ⟨by kernel_rfl, ?_⟩ HS ?_
  rotate_left
  · first | (intro w'; go_simp; done) | (intro w'; go_simp; with_reducible rfl)
  simp only [Act.put, List.setIfInBounds_toArray, List.set_cons_zero, List.set_cons_succ, List.getElem_toArray, List.getElem_cons_succ, List.getElem_cons_zero]
  refine AnyFrom.pure (i := 25) (v := ?_) rfl (by kernel_rfl) (by kernel_rfl) (by kernel_rfl) (by decide) (fun _ _ _ h => h) ⟨by kernel_rfl, ?_⟩ HS ?_
  rotate_left
  · first | (intro w'; go_simp; done) | (intro w'; go_simp; with_reducible rfl)
  simp only [Act.put, List.setIfInBounds_toArray, List.set_cons_zero, List.set_cons_succ, List.getElem_toArray, List.getElem_cons_succ, List.getElem_cons_zero]
  refine AnyFrom.pure (i := 26) (v := ?_) rfl (by kernel_rfl) (by kernel_rfl) (by kernel_rfl) (by decide) (fun _ _ _ h => h) ⟨by kernel_rfl, ?_⟩ HS ?_
  rotate_left
  · first | (intro w'; go_simp; done) | (intro w'; go_simp; with_reducible rfl)
  simp only [Act.put, List.setIfInBounds_toArray, List.set_cons_zero, List.set_cons_succ, List.getElem_toArray, List.getElem_cons_succ, List.getElem_cons_zero]
  refine AnyFrom.pure (i := 27) (v := ?_) rfl (by kernel_rfl) (by kernel_rfl) (by kernel_rfl) (by decide) (fun _ _ _ h => h) ⟨by kernel_rfl, ?_⟩ HS ?_
  rotate_left
  · first | (intro w'; go_simp; done) | (intro w'; go_simp; with_reducible rfl)
  simp only [Act.put, List.setIfInBounds_toArray, List.set_cons_zero, List.set_cons_succ, List.getElem_toArray, List.getElem_cons_succ, List.getElem_cons_zero]
  refine AnyFrom.pure (i := 28) (v := ?_) rfl (by kernel_rfl) (by kernel_rfl) (by kernel_rfl) (by decide) (fun _ _ _ h => h) ⟨by kernel_rfl, ?_⟩ HS ?_
  rotate_left
  · first | (intro w'; go_simp; done) | (intro w'; go_simp; with_reducible rfl)
  simp only [Act.put, List.setIfInBounds_toArray, List.set_cons_zero, List.set_cons_succ, List.getElem_toArray, List.getElem_cons_succ, List.getElem_cons_zero]
  refine AnyFrom.take (i := 29) (v := ?_) rfl (by kernel_rfl) (by kernel_rfl) (by kernel_rfl) (by kernel_rfl) (fun _ _ _ h => h) ⟨by kernel_rfl, ?_⟩ HS ?_
  rotate_left
  · first | (rintro w' ⟨L', hm⟩; have es := hm.eqs; simp only [HBox, EqsL] at es; go_simp; done) | (rintro w' ⟨L', hm⟩; have es := hm.eqs; simp only [HBox, EqsL] at es; go_simp; with_reducible rfl)
  simp only [Act.put, List.setIfInBounds_toArray, List.set_cons_zero, List.set_cons_succ, List.getElem_toArray, List.getElem_cons_succ, List.getElem_cons_zero]
  refine AnyFrom.take (i := 30) (v := ?_) rfl (by kernel_rfl) (by kernel_rfl) (by kernel_rfl) (by kernel_rfl) (fun _ _ _ h => h) ⟨by kernel_rfl, ?_⟩ HS ?_
  rotate_left
  · first | (rintro w' ⟨L', hm⟩; have es := hm.eqs; simp only [HBox, EqsL] at es; go_simp; done) | (rintro w' ⟨L', hm⟩; have es := hm.eqs; simp only [HBox, EqsL] at es; go_simp; with_reducible rfl)
  simp only [Act.put, List.setIfInBounds_toArray, List.set_cons_zero, List.set_cons_succ, List.getElem_toArray, List.getElem_cons_succ, List.getElem_cons_zero]
  refine AnyFrom.take (i := 31) (v := ?_) rfl (by kernel_rfl) (by kernel_rfl) (by kernel_rfl) (by kernel_rfl) (fun _ _ _ h => h) ⟨by kernel_rfl, ?_⟩ HS ?_
  rotate_left
  · first | (rintro w' ⟨L', hm⟩; have es := hm.eqs; simp only [HBox, EqsL] at es; go_simp; done) | (rintro w' ⟨L', hm⟩; have es := hm.eqs; simp only [HBox, EqsL] at es; go_simp; with_reducible rfl)
  simp only [Act.put, List.setIfInBounds_toArray, List.set_cons_zero, List.set_cons_succ, List.getElem_toArray, List.getElem_cons_succ, List.getElem_cons_zero]
  refine AnyFrom.take (i := 32) (v := ?_) rfl (by kernel_rfl) (by kernel_rfl) (by kernel_rfl) (by kernel_rfl) (fun _ _ _ h => h) ⟨by kernel_rfl, ?_⟩ HS ?_
  rotate_left
  · first | (rintro w' ⟨L', hm⟩; have es := hm.eqs; simp only [HBox, EqsL] at es; go_simp; done) | (rintro w' ⟨L', hm⟩; have es := hm.eqs; simp only [HBox, EqsL] at es; go_simp; with_reducible rfl)
  simp only [Act.put, List.setIfInBounds_toArray, List.set_cons_zero, List.set_cons_succ, List.getElem_toArray, List.getElem_cons_succ, List.getElem_cons_zero]
  refine AnyFrom.pure (i := 33) (v := ?_) rfl (by kernel_rfl) (by kernel_rfl) (by kernel_rfl) (by decide) (fun _ _ _ h => h) ⟨by kernel_rfl, ?_⟩ HS ?_
  rotate_left
  · first | (intro w'; go_simp; done) | (intro w'; go_simp; with_reducible rfl)
  simp only [Act.put, List.setIfInBounds_toArray, List.set_cons_zero, List.set_cons_succ, List.getElem_toArray, List.getElem_cons_succ, List.getElem_cons_zero]
  refine AnyFrom.pure (i := 34) (v := ?_) rfl (by kernel_rfl) (by kernel_rfl) (by kernel_rfl) (by decide) (fun _ _ _ h => h) ⟨by kernel_rfl, ?_⟩ HS ?_
  rotate_left
  · first | (intro w'; go_simp; done) | (intro w'; go_simp; with_reducible rfl)
  simp only [Act.put, List.setIfInBounds_toArray, List.set_cons_zero, List.set_cons_succ, List.getElem_toArray, List.getElem_cons_succ, List.getElem_cons_zero]
  refine AnyFrom.take (i := 35) (v := ?_) rfl (by kernel_rfl) (by kernel_rfl) (by kernel_rfl) (by kernel_rfl) (fun _ _ _ h => h) ⟨by kernel_rfl, ?_⟩ HS ?_
  rotate_left
  · first | (rintro w' ⟨L', hm⟩; have es := hm.eqs; simp only [HBox, EqsL] at es; go_simp; done) | (rintro w' ⟨L', hm⟩; have es := hm.eqs; simp only [HBox, EqsL] at es; go_simp; with_reducible rfl)
  simp only [Act.put, List.setIfInBounds_toArray, List.set_cons_zero, List.set_cons_succ, List.getElem_toArray, List.getElem_cons_succ, List.getElem_cons_zero]
  refine AnyFrom.take (i := 36) (v := ?_) rfl (by kernel_rfl) (by kernel_rfl) (by kernel_rfl) (by kernel_rfl) (fun _ _ _ h => h) ⟨by kernel_rfl, ?_⟩ HS ?_
  rotate_left
  · first | (rintro w' ⟨L', hm⟩; have es := hm.eqs; simp only [HBox, EqsL] at es; go_simp; done) | (rintro w' ⟨L', hm⟩; have es := hm.eqs; simp only [HBox, EqsL] at es; go_simp; with_reducible rfl)
  simp only [Act.put, List.setIfInBounds_toArray, List.set_cons_zero, List.set_cons_succ, List.getElem_toArray, List.getElem_cons_succ, List.getElem_cons_zero]
  refine AnyFrom.take (i := 37) (v := ?_) rfl (by kernel_rfl) (by kernel_rfl) (by kernel_rfl) (by kernel_rfl) (fun _ _ _ h => h) ⟨by kernel_rfl, ?_⟩ HS ?_
  rotate_left
  · first | (rintro w' ⟨L', hm⟩; have es := hm.eqs; simp only [HBox, EqsL] at es; go_simp; done) | (rintro w' ⟨L', hm⟩; have es := hm.eqs; simp only [HBox, EqsL] at es; go_simp; with_reducible rfl)
  simp only [Act.put, List.setIfInBounds_toArray, List.set_cons_zero, List.set_cons_succ, List.getElem_toArray, List.getElem_cons_succ, List.getElem_cons_zero]
  refine AnyFrom.take (i := 38) (v := ?_) rfl (by kernel_rfl) (by kernel_rfl) (by kernel_rfl) (by kernel_rfl) (fun _ _ _ h => h) ⟨by kernel_rfl, ?_⟩ HS ?_
  rotate_left
  · first | (rintro w' ⟨L', hm⟩; have es := hm.eqs; simp only [HBox, EqsL] at es; go_simp; done) | (rintro w' ⟨L', hm⟩; have es := hm.eqs; simp only [HBox, EqsL] at es; go_simp; with_reducible rfl)
  simp only [Act.put, List.setIfInBounds_toArray, List.set_cons_zero, List.set_cons_succ, List.getElem_toArray, List.getElem_cons_succ, List.getElem_cons_zero]
  refine AnyFrom.call (i := 39) (by kernel_rfl) rfl (by kernel_rfl) fun K hK => ?_
  go_simp
  have mE := mD.alloc (.cells #[.int .i64 h.scan] 3)
  refine hK _ _ (.inr ⟨_, mE.perm (.swap _ _ _)⟩) ?_
  clear hK K HS
  try simp only [Act.put, List.setIfInBounds_toArray, List.set_cons_zero, List.set_cons_succ, List.getElem_toArray, List.getElem_cons_succ, List.getElem_cons_zero]
  have HS : ∃ L', Mem w0 H ((b, HBox TH h.size h.half h.scan h.busy (.slice ob h.old.length oc) (.slice nb h.new.length nc) (.slice rb h.regs.length rc)) :: L') _ := ⟨_, mE.perm (.swap _ _ _)⟩
  refine AnyFrom.call (i := 40) (by kernel_rfl) rfl (by kernel_rfl) fun K hK => ?_
  go_simp
  refine (within1n _ h.scan (0) ((h.new.length : Int)) ⟨by omega, by omega⟩ mE).mono ?_
  rintro e w3 ⟨rfl, mF⟩
  rw [decide_eq_true (show (0 : Int) ≤ h.scan ∧ h.scan ≤ h.new.length by omega)]
  refine hK _ _ (.inr ⟨_, mF⟩) ?_
  clear hK K HS
  try simp only [Act.put, List.setIfInBounds_toArray, List.set_cons_zero, List.set_cons_succ, List.getElem_toArray, List.getElem_cons_succ, List.getElem_cons_zero]
  have HS : ∃ L', Mem w0 H ((b, HBox TH h.size h.half h.scan h.busy (.slice ob h.old.length oc) (.slice nb h.new.length nc) (.slice rb h.regs.length rc)) :: L') _ := ⟨_, mF⟩
  refine AnyFrom.pure (i := 41) (v := ?_) rfl (by kernel_rfl) (by kernel_rfl) (by kernel_rfl) (by decide) (fun _ _ _ h => h) ⟨by kernel_rfl, ?_⟩ HS ?_
  rotate_left
  · first | (intro w'; go_simp; done) | (intro w'; go_simp; with_reducible rfl)
  simp only [Act.put, List.setIfInBounds_toArray, List.set_cons_zero, List.set_cons_succ, List.getElem_toArray, List.getElem_cons_succ, List.getElem_cons_zero]
  refine AnyFrom.pure (i := 42) (v := ?_) rfl (by kernel_rfl) (by kernel_rfl) (by kernel_rfl) (by decide) (fun _ _ _ h => h) ⟨by kernel_rfl, ?_⟩ HS ?_
  rotate_left
  · first | (intro w'; go_simp; done) | (intro w'; go_simp; with_reducible rfl)
  simp only [Act.put, List.setIfInBounds_toArray, List.set_cons_zero, List.set_cons_succ, List.getElem_toArray, List.getElem_cons_succ, List.getElem_cons_zero]
  refine AnyFrom.done (by kernel_rfl) ?_ _
  clear HS mW mA mB mC mD mE
  clear hrl1
  have mu := mF
  unfold HBox at mu
  have es := mu.eqs
  simp only [EqsL] at es
  go_wp2_with fail
  clear hrl2
  cases hb : h.busy
  · have HB := Lib.hid hb
    obtain ⟨hl0, hsc0⟩ := HID.out hb
    have HL0 := Lib.hid hl0
    have HSC := Lib.hid hsc0
    rw [hb, hl0, hsc0] at es
    clear hb hl0 hsc0
    clear mu
    go_quiet (fail)
    have mG := mF.drewN nq
    clear es mF
    generalize w3.drewN nq = w4 at *
    have mu := mG
    unfold HBox at mu
    have es := mu.eqs
    simp only [EqsL] at es
    clear mu
    go_wp2_with fail
    refine (all_any b _ h.regs HX.out mG (by omega) (by omega)).mono ?_
    rintro e w5 ⟨rfl, mH⟩
    rw [HRA.out]
    clear es mG
    have mu := mH
    unfold HBox at mu
    have es := mu.eqs
    simp only [EqsL] at es
    go_wp2_with fail
    refine (isMoved_any b _ h.regs HX.out mH).mono ?_
    rintro e w6 ⟨rfl, mI⟩
    rw [HRM.out]
    clear es mu mH
    have mu := mI
    unfold HBox at mu
    have es := mu.eqs
    simp only [EqsL] at es
    go_wp2_with fail
    clear es mu
    go_loopw [3, 4, 124] (fun _ _ v124 wr => ∃ k : Nat, k ≤ h.new.length ∧ v124 = .int .i64 k ∧ Mem w0 H ((b, HBox TH h.size h.half h.scan h.busy (.slice ob h.old.length oc) (.slice nb h.new.length nc) (.slice rb h.regs.length rc)) :: L) wr) (fun _ _ i _ => h.new.length - (intOf i).toNat)
    case atStart => exact ⟨0, Nat.zero_le _, rfl, mI⟩
    case round =>
      obtain ⟨k, hk, rfl, m2⟩ := hrel
      clear mI
      by_cases hlt : k < h.new.length
      · obtain ⟨blk, off, sv, rfl, c0, c1, c2, c3, hsl, hfit⟩ := HV.out.getObj hlt
        have HSL := Lib.hid hsl
        obtain ⟨b1, c1', rfl, _, hc1', _, _⟩ := hsl
        have hc1' := size_le_maxLen hc1'
        have c0 := c0.cell m2
        have c1 := c1.cell m2
        have c2 := c2.cell m2
        have c3 := c3.cell m2
        have hin := HCN.out.new k _ (List.getElem?_eq_getElem hlt)
        have HIN := Lib.hid hin
        have hol := hin.len
        clear hin
        have HF := Lib.hid hfit; clear hfit
        have hltI : (k : Int) < h.new.length := by omega
        generalize h.new[k] = o at *
        have m3 := m2.alloc (.cells #[.int .u8 o.kind, .string o.name, .int .i64 o.n, .slice b1 o.slots.length c1'] 48)
        go_wp2_with fail
        refine (isObject_any o HF.out b1 c1' m3 (by omega)).mono ?_
        rintro e w7 ⟨rfl, m4⟩
        rw [objIn_plain HIN.out]
        clear c0 c1 c2 c3 m3
        have m4p := m4.perm (List.Perm.swap _ _ _)
        have mu := m4p
        unfold HBox at mu
        have es := mu.eqs
        simp only [EqsL] at es
        go_wp2_with fail
        refine (all_any b _ o.slots HSL.out m4p (by omega) (by omega)).mono ?_
        rintro e w8 ⟨rfl, m5⟩
        rw [objIn_all HIN.out]
        clear es mu m4 m4p
        have mu := m5
        unfold HBox at mu
        have es := mu.eqs
        simp only [EqsL] at es
        by_cases hks : (k : Int) < h.scan
        · have hmv : o.slots.any (isOldB h.half) = false := by
            have h9 := HIN.out
            rw [decide_eq_false (by omega)] at h9
            exact List.any_eq_false.2 fun x hx => by rw [valIn_new (h9.sl x hx)]; simp
          have HMV := Lib.hid hmv; clear hmv
          go_wp2_with fail
          refine (isMoved_any b _ o.slots HSL.out m5).mono ?_
          rintro e w9 ⟨rfl, m6⟩
          rw [HMV.out]
          go_wp2_with fail
          go_roundw
          case rel => exact ⟨k + 1, by omega, by go_num, (m6.perm (List.Perm.swap _ _ _)).drop⟩
          case measure => simp [intOf]; omega
        · go_wp2_with fail
          go_roundw
          case rel => exact ⟨k + 1, by omega, by go_num, (m5.perm (List.Perm.swap _ _ _)).drop⟩
          case measure => simp [intOf]; omega
      · have hge : ¬ (k : Int) < h.new.length := by omega
        go_wp2_with fail
        have hwr : IntKind.i64.wrap (wordsM (lens h.new) + dueL h.old) = wordsM (lens h.new) + dueL h.old := wrap_small _ (by omega) (by omega)
        refine AnyFrom.start (fun w' => ∃ L', Mem w0 H ((b, HBox TH h.size h.half h.scan h.busy (.slice ob h.old.length oc) (.slice nb h.new.length nc) (.slice rb h.regs.length rc)) :: L') w') 16 (by kernel_rfl) ?_
        have mW := m2.drew
        generalize wr.drew = W0 at *
        have HS : ∃ L', Mem w0 H ((b, HBox TH h.size h.half h.scan h.busy (.slice ob h.old.length oc) (.slice nb h.new.length nc) (.slice rb h.regs.length rc)) :: L') W0 := ⟨_, mW⟩
        refine AnyFrom.pure (i := 0) (v := ?_) rfl (by kernel_rfl) (by kernel_rfl) (by kernel_rfl) (by decide) (fun _ _ _ h => h) ⟨by kernel_rfl, ?_⟩ HS ?_
        rotate_left
        · first | (intro w'; go_simp; done) | (intro w'; go_simp; with_reducible rfl)
        simp only [Act.put, List.setIfInBounds_toArray, List.set_cons_zero, List.set_cons_succ, List.getElem_toArray, List.getElem_cons_succ, List.getElem_cons_zero]
        refine AnyFrom.call (i := 1) (by kernel_rfl) rfl (by kernel_rfl) fun K hK => ?_
        go_simp
        refine (isOldValid_any b h HG.out _ _ _ HO.out HV.out mW).mono ?_
        rintro e w11 ⟨rfl, mA⟩
        refine hK _ _ (.inr ⟨_, mA⟩) ?_
        clear hK K HS
        try simp only [Act.put, List.setIfInBounds_toArray, List.set_cons_zero, List.set_cons_succ, List.getElem_toArray, List.getElem_cons_succ, List.getElem_cons_zero]
        have HS : ∃ L', Mem w0 H ((b, HBox TH h.size h.half h.scan h.busy (.slice ob h.old.length oc) (.slice nb h.new.length nc) (.slice rb h.regs.length rc)) :: L') _ := ⟨_, mA⟩
        refine AnyFrom.pure (i := 2) (v := ?_) rfl (by kernel_rfl) (by kernel_rfl) (by kernel_rfl) (by decide) (fun _ _ _ h => h) ⟨by kernel_rfl, ?_⟩ HS ?_
        rotate_left
        · first | (intro w'; go_simp; done) | (intro w'; go_simp; with_reducible rfl)
        simp only [Act.put, List.setIfInBounds_toArray, List.set_cons_zero, List.set_cons_succ, List.getElem_toArray, List.getElem_cons_succ, List.getElem_cons_zero]
        refine AnyFrom.pure (i := 3) (v := ?_) rfl (by kernel_rfl) (by kernel_rfl) (by kernel_rfl) (by decide) (fun _ _ _ h => h) ⟨by kernel_rfl, ?_⟩ HS ?_
        rotate_left
        · first | (intro w'; go_simp; done) | (intro w'; go_simp; with_reducible rfl)
        simp only [Act.put, List.setIfInBounds_toArray, List.set_cons_zero, List.set_cons_succ, List.getElem_toArray, List.getElem_cons_succ, List.getElem_cons_zero]
        refine AnyFrom.pure (i := 5) (v := ?_) rfl (by kernel_rfl) (by kernel_rfl) (by kernel_rfl) (by decide) (fun _ _ _ h => h) ⟨by kernel_rfl, ?_⟩ HS ?_
        rotate_left
        · first | (intro w'; go_simp; done) | (intro w'; go_simp; with_reducible rfl)
        simp only [Act.put, List.setIfInBounds_toArray, List.set_cons_zero, List.set_cons_succ, List.getElem_toArray, List.getElem_cons_succ, List.getElem_cons_zero]
        refine AnyFrom.pure (i := 8) (v := ?_) rfl (by kernel_rfl) (by kernel_rfl) (by kernel_rfl) (by decide) (fun _ _ _ h => h) ⟨by kernel_rfl, ?_⟩ HS ?_
        rotate_left
        · first | (intro w'; go_simp; done) | (intro w'; go_simp; with_reducible rfl)
        simp only [Act.put, List.setIfInBounds_toArray, List.set_cons_zero, List.set_cons_succ, List.getElem_toArray, List.getElem_cons_succ, List.getElem_cons_zero]
        refine AnyFrom.take (i := 9) (v := ?_) rfl (by kernel_rfl) (by kernel_rfl) (by kernel_rfl) (by kernel_rfl) (fun _ _ _ h => h) ⟨by kernel_rfl, ?_⟩ HS ?_
        rotate_left
        · first | (rintro w' ⟨L', hm⟩; have es := hm.eqs; simp only [HBox, EqsL] at es; go_simp; done) | (rintro w' ⟨L', hm⟩; have es := hm.eqs; simp only [HBox, EqsL] at es; go_simp; with_reducible rfl)
        simp only [Act.put, List.setIfInBounds_toArray, List.set_cons_zero, List.set_cons_succ, List.getElem_toArray, List.getElem_cons_succ, List.getElem_cons_zero]
        refine AnyFrom.take (i := 10) (v := ?_) rfl (by kernel_rfl) (by kernel_rfl) (by kernel_rfl) (by kernel_rfl) (fun _ _ _ h => h) ⟨by kernel_rfl, ?_⟩ HS ?_
        rotate_left
        · first | (rintro w' ⟨L', hm⟩; have es := hm.eqs; simp only [HBox, EqsL] at es; go_simp; done) | (rintro w' ⟨L', hm⟩; have es := hm.eqs; simp only [HBox, EqsL] at es; go_simp; with_reducible rfl)
        simp only [Act.put, List.setIfInBounds_toArray, List.set_cons_zero, List.set_cons_succ, List.getElem_toArray, List.getElem_cons_succ, List.getElem_cons_zero]
        refine AnyFrom.take (i := 11) (v := ?_) rfl (by kernel_rfl) (by kernel_rfl) (by kernel_rfl) (by kernel_rfl) (fun _ _ _ h => h) ⟨by kernel_rfl, ?_⟩ HS ?_
        rotate_left
        · first | (rintro w' ⟨L', hm⟩; have es := hm.eqs; simp only [HBox, EqsL] at es; go_simp; done) | (rintro w' ⟨L', hm⟩; have es := hm.eqs; simp only [HBox, EqsL] at es; go_simp; with_reducible rfl)
        simp only [Act.put, List.setIfInBounds_toArray, List.set_cons_zero, List.set_cons_succ, List.getElem_toArray, List.getElem_cons_succ, List.getElem_cons_zero]
        refine AnyFrom.take (i := 12) (v := ?_) rfl (by kernel_rfl) (by kernel_rfl) (by kernel_rfl) (by kernel_rfl) (fun _ _ _ h => h) ⟨by kernel_rfl, ?_⟩ HS ?_
        rotate_left
        · first | (rintro w' ⟨L', hm⟩; have es := hm.eqs; simp only [HBox, EqsL] at es; go_simp; done) | (rintro w' ⟨L', hm⟩; have es := hm.eqs; simp only [HBox, EqsL] at es; go_simp; with_reducible rfl)
        simp only [Act.put, List.setIfInBounds_toArray, List.set_cons_zero, List.set_cons_succ, List.getElem_toArray, List.getElem_cons_succ, List.getElem_cons_zero]
        refine AnyFrom.call (i := 4) (by kernel_rfl) rfl (by kernel_rfl) fun K hK => ?_
        go_simp
        refine (used_fr b _ _ h.new HV.out HNB.out (by omega) mA).mono ?_
        rintro e w12 ⟨rfl, mB⟩
        generalize wordsM (lens h.new) = us at *
        refine hK _ _ (.inr ⟨_, mB⟩) ?_
        clear hK K HS
        try simp only [Act.put, List.setIfInBounds_toArray, List.set_cons_zero, List.set_cons_succ, List.getElem_toArray, List.getElem_cons_succ, List.getElem_cons_zero]
        have HS : ∃ L', Mem w0 H ((b, HBox TH h.size h.half h.scan h.busy (.slice ob h.old.length oc) (.slice nb h.new.length nc) (.slice rb h.regs.length rc)) :: L') _ := ⟨_, mB⟩
        refine AnyFrom.call (i := 6) (by kernel_rfl) rfl (by kernel_rfl) fun K hK => ?_
        go_simp
        refine (due_fr b h.old _ _ _ _ _ _ _ HO.out (by omega) HOB.out ⟨_, _, _, rfl⟩ ⟨_, _, _, rfl⟩ mB).mono ?_
        rintro e w13 ⟨rfl, mC⟩
        generalize dueL h.old = du at *
        refine hK _ _ (.inr ⟨_, mC⟩) ?_
        clear hK K HS
        try simp only [Act.put, List.setIfInBounds_toArray, List.set_cons_zero, List.set_cons_succ, List.getElem_toArray, List.getElem_cons_succ, List.getElem_cons_zero]
        have HS : ∃ L', Mem w0 H ((b, HBox TH h.size h.half h.scan h.busy (.slice ob h.old.length oc) (.slice nb h.new.length nc) (.slice rb h.regs.length rc)) :: L') _ := ⟨_, mC⟩
        refine AnyFrom.pure (i := 7) (v := ?_) rfl (by kernel_rfl) (by kernel_rfl) (by kernel_rfl) (by decide) (fun _ _ _ h => h) ⟨by kernel_rfl, ?_⟩ HS ?_
        rotate_left
        · first | (intro w'; go_simp; done) | (intro w'; go_simp; with_reducible rfl)
        simp only [Act.put, List.setIfInBounds_toArray, List.set_cons_zero, List.set_cons_succ, List.getElem_toArray, List.getElem_cons_succ, List.getElem_cons_zero]
        refine AnyFrom.pure (i := 13) (v := ?_) rfl (by kernel_rfl) (by kernel_rfl) (by kernel_rfl) (by decide) (fun _ _ _ h => h) ⟨by kernel_rfl, ?_⟩ HS ?_
        rotate_left
        · first | (intro w'; go_simp; done) | (intro w'; go_simp; with_reducible rfl)
        simp only [Act.put, List.setIfInBounds_toArray, List.set_cons_zero, List.set_cons_succ, List.getElem_toArray, List.getElem_cons_succ, List.getElem_cons_zero]
        refine AnyFrom.pure (i := 14) (v := ?_) rfl (by kernel_rfl) (by kernel_rfl) (by kernel_rfl) (by decide) (fun _ _ _ h => h) ⟨by kernel_rfl, ?_⟩ HS ?_
        rotate_left
        · first | (intro w'; go_simp; done) | (intro w'; go_simp; with_reducible rfl)
        simp only [Act.put, List.setIfInBounds_toArray, List.set_cons_zero, List.set_cons_succ, List.getElem_toArray, List.getElem_cons_succ, List.getElem_cons_zero]
        refine AnyFrom.pure (i := 15) (v := ?_) rfl (by kernel_rfl) (by kernel_rfl) (by kernel_rfl) (by decide) (fun _ _ _ h => h) ⟨by kernel_rfl, ?_⟩ HS ?_
        rotate_left
        · first | (intro w'; go_simp; done) | (intro w'; go_simp; with_reducible rfl)
        simp only [Act.put, List.setIfInBounds_toArray, List.set_cons_zero, List.set_cons_succ, List.getElem_toArray, List.getElem_cons_succ, List.getElem_cons_zero]
        refine AnyFrom.done (by kernel_rfl) ?_ _
        go_wp2_with fail
        go_ret
        exact ⟨by first | rfl | simp, mC⟩
  · have HB := Lib.hid hb
    by_cases hse : h.scan = h.new.length
    · have hsc0 : h.scan = 0 := by omega
      have hnl0 : h.new.length = 0 := by omega
      have HSC := Lib.hid hsc0
      have HNL := Lib.hid hnl0
      rw [hb, hsc0, hnl0] at es
      clear hb hse hsc0 hnl0
      clear mu
      go_quiet (fail)
      have mG := mF.drewN nq
      clear es mF
      generalize w3.drewN nq = w4 at *
      have mu := mG
      unfold HBox at mu
      have es := mu.eqs
      simp only [EqsL] at es
      clear mu
      go_wp2_with fail
      refine (all_any b _ h.regs HX.out mG (by omega) (by omega)).mono ?_
      rintro e w5 ⟨rfl, mH⟩
      rw [HRA.out]
      clear es mG
      have mu := mH
      unfold HBox at mu
      have es := mu.eqs
      simp only [EqsL] at es
      go_wp2_with fail
      refine (isMoved_any b _ h.regs HX.out mH).mono ?_
      rintro e w6 ⟨rfl, mI⟩
      rw [HRM.out]
      clear es mu mH
      have mu := mI
      unfold HBox at mu
      have es := mu.eqs
      simp only [EqsL] at es
      go_wp2_with fail
      clear es mu
      go_loopw [3, 4, 124] (fun _ _ v124 wr => ∃ k : Nat, k ≤ h.new.length ∧ v124 = .int .i64 k ∧ Mem w0 H ((b, HBox TH h.size h.half h.scan h.busy (.slice ob h.old.length oc) (.slice nb h.new.length nc) (.slice rb h.regs.length rc)) :: L) wr) (fun _ _ i _ => h.new.length - (intOf i).toNat)
      case atStart => exact ⟨0, Nat.zero_le _, rfl, mI⟩
      case round =>
        obtain ⟨k, hk, rfl, m2⟩ := hrel
        clear mI
        by_cases hlt : k < h.new.length
        · obtain ⟨blk, off, sv, rfl, c0, c1, c2, c3, hsl, hfit⟩ := HV.out.getObj hlt
          have HSL := Lib.hid hsl
          obtain ⟨b1, c1', rfl, _, hc1', _, _⟩ := hsl
          have hc1' := size_le_maxLen hc1'
          have c0 := c0.cell m2
          have c1 := c1.cell m2
          have c2 := c2.cell m2
          have c3 := c3.cell m2
          have hin := HCN.out.new k _ (List.getElem?_eq_getElem hlt)
          have HIN := Lib.hid hin
          have hol := hin.len
          clear hin
          have HF := Lib.hid hfit; clear hfit
          have hltI : (k : Int) < h.new.length := by omega
          generalize h.new[k] = o at *
          have m3 := m2.alloc (.cells #[.int .u8 o.kind, .string o.name, .int .i64 o.n, .slice b1 o.slots.length c1'] 48)
          go_wp2_with fail
          refine (isObject_any o HF.out b1 c1' m3 (by omega)).mono ?_
          rintro e w7 ⟨rfl, m4⟩
          rw [objIn_plain HIN.out]
          clear c0 c1 c2 c3 m3
          have m4p := m4.perm (List.Perm.swap _ _ _)
          have mu := m4p
          unfold HBox at mu
          have es := mu.eqs
          simp only [EqsL] at es
          go_wp2_with fail
          refine (all_any b _ o.slots HSL.out m4p (by omega) (by omega)).mono ?_
          rintro e w8 ⟨rfl, m5⟩
          rw [objIn_all HIN.out]
          clear es mu m4 m4p
          have mu := m5
          unfold HBox at mu
          have es := mu.eqs
          simp only [EqsL] at es
          by_cases hks : (k : Int) < h.scan
          · have hmv : o.slots.any (isOldB h.half) = false := by
              have h9 := HIN.out
              rw [decide_eq_false (by omega)] at h9
              exact List.any_eq_false.2 fun x hx => by rw [valIn_new (h9.sl x hx)]; simp
            have HMV := Lib.hid hmv; clear hmv
            go_wp2_with fail
            refine (isMoved_any b _ o.slots HSL.out m5).mono ?_
            rintro e w9 ⟨rfl, m6⟩
            rw [HMV.out]
            go_wp2_with fail
            go_roundw
            case rel => exact ⟨k + 1, by omega, by go_num, (m6.perm (List.Perm.swap _ _ _)).drop⟩
            case measure => simp [intOf]; omega
          · go_wp2_with fail
            go_roundw
            case rel => exact ⟨k + 1, by omega, by go_num, (m5.perm (List.Perm.swap _ _ _)).drop⟩
            case measure => simp [intOf]; omega
        · have hge : ¬ (k : Int) < h.new.length := by omega
          go_wp2_with fail
          have hwr : IntKind.i64.wrap (wordsM (lens h.new) + dueL h.old) = wordsM (lens h.new) + dueL h.old := wrap_small _ (by omega) (by omega)
          refine AnyFrom.start (fun w' => ∃ L', Mem w0 H ((b, HBox TH h.size h.half h.scan h.busy (.slice ob h.old.length oc) (.slice nb h.new.length nc) (.slice rb h.regs.length rc)) :: L') w') 16 (by kernel_rfl) ?_
          have mW := m2.drew
          generalize wr.drew = W0 at *
          have HS : ∃ L', Mem w0 H ((b, HBox TH h.size h.half h.scan h.busy (.slice ob h.old.length oc) (.slice nb h.new.length nc) (.slice rb h.regs.length rc)) :: L') W0 := ⟨_, mW⟩
          refine AnyFrom.pure (i := 0) (v := ?_) rfl (by kernel_rfl) (by kernel_rfl) (by kernel_rfl) (by decide) (fun _ _ _ h => h) ⟨by kernel_rfl, ?_⟩ HS ?_
          rotate_left
          · first | (intro w'; go_simp; done) | (intro w'; go_simp; with_reducible rfl)
          simp only [Act.put, List.setIfInBounds_toArray, List.set_cons_zero, List.set_cons_succ, List.getElem_toArray, List.getElem_cons_succ, List.getElem_cons_zero]
          refine AnyFrom.call (i := 1) (by kernel_rfl) rfl (by kernel_rfl) fun K hK => ?_
          go_simp
          refine (isOldValid_any b h HG.out _ _ _ HO.out HV.out mW).mono ?_
          rintro e w11 ⟨rfl, mA⟩
          refine hK _ _ (.inr ⟨_, mA⟩) ?_
          clear hK K HS
          try simp only [Act.put, List.setIfInBounds_toArray, List.set_cons_zero, List.set_cons_succ, List.getElem_toArray, List.getElem_cons_succ, List.getElem_cons_zero]
          have HS : ∃ L', Mem w0 H ((b, HBox TH h.size h.half h.scan h.busy (.slice ob h.old.length oc) (.slice nb h.new.length nc) (.slice rb h.regs.length rc)) :: L') _ := ⟨_, mA⟩
          refine AnyFrom.pure (i := 2) (v := ?_) rfl (by kernel_rfl) (by kernel_rfl) (by kernel_rfl) (by decide) (fun _ _ _ h => h) ⟨by kernel_rfl, ?_⟩ HS ?_
          rotate_left
          · first | (intro w'; go_simp; done) | (intro w'; go_simp; with_reducible rfl)
          simp only [Act.put, List.setIfInBounds_toArray, List.set_cons_zero, List.set_cons_succ, List.getElem_toArray, List.getElem_cons_succ, List.getElem_cons_zero]
          refine AnyFrom.pure (i := 3) (v := ?_) rfl (by kernel_rfl) (by kernel_rfl) (by kernel_rfl) (by decide) (fun _ _ _ h => h) ⟨by kernel_rfl, ?_⟩ HS ?_
          rotate_left
          · first | (intro w'; go_simp; done) | (intro w'; go_simp; with_reducible rfl)
          simp only [Act.put, List.setIfInBounds_toArray, List.set_cons_zero, List.set_cons_succ, List.getElem_toArray, List.getElem_cons_succ, List.getElem_cons_zero]
          refine AnyFrom.pure (i := 5) (v := ?_) rfl (by kernel_rfl) (by kernel_rfl) (by kernel_rfl) (by decide) (fun _ _ _ h => h) ⟨by kernel_rfl, ?_⟩ HS ?_
          rotate_left
          · first | (intro w'; go_simp; done) | (intro w'; go_simp; with_reducible rfl)
          simp only [Act.put, List.setIfInBounds_toArray, List.set_cons_zero, List.set_cons_succ, List.getElem_toArray, List.getElem_cons_succ, List.getElem_cons_zero]
          refine AnyFrom.pure (i := 8) (v := ?_) rfl (by kernel_rfl) (by kernel_rfl) (by kernel_rfl) (by decide) (fun _ _ _ h => h) ⟨by kernel_rfl, ?_⟩ HS ?_
          rotate_left
          · first | (intro w'; go_simp; done) | (intro w'; go_simp; with_reducible rfl)
          simp only [Act.put, List.setIfInBounds_toArray, List.set_cons_zero, List.set_cons_succ, List.getElem_toArray, List.getElem_cons_succ, List.getElem_cons_zero]
          refine AnyFrom.take (i := 9) (v := ?_) rfl (by kernel_rfl) (by kernel_rfl) (by kernel_rfl) (by kernel_rfl) (fun _ _ _ h => h) ⟨by kernel_rfl, ?_⟩ HS ?_
          rotate_left
          · first | (rintro w' ⟨L', hm⟩; have es := hm.eqs; simp only [HBox, EqsL] at es; go_simp; done) | (rintro w' ⟨L', hm⟩; have es := hm.eqs; simp only [HBox, EqsL] at es; go_simp; with_reducible rfl)
          simp only [Act.put, List.setIfInBounds_toArray, List.set_cons_zero, List.set_cons_succ, List.getElem_toArray, List.getElem_cons_succ, List.getElem_cons_zero]
          refine AnyFrom.take (i := 10) (v := ?_) rfl (by kernel_rfl) (by kernel_rfl) (by kernel_rfl) (by kernel_rfl) (fun _ _ _ h => h) ⟨by kernel_rfl, ?_⟩ HS ?_
          rotate_left
          · first | (rintro w' ⟨L', hm⟩; have es := hm.eqs; simp only [HBox, EqsL] at es; go_simp; done) | (rintro w' ⟨L', hm⟩; have es := hm.eqs; simp only [HBox, EqsL] at es; go_simp; with_reducible rfl)
          simp only [Act.put, List.setIfInBounds_toArray, List.set_cons_zero, List.set_cons_succ, List.getElem_toArray, List.getElem_cons_succ, List.getElem_cons_zero]
          refine AnyFrom.take (i := 11) (v := ?_) rfl (by kernel_rfl) (by kernel_rfl) (by kernel_rfl) (by kernel_rfl) (fun _ _ _ h => h) ⟨by kernel_rfl, ?_⟩ HS ?_
          rotate_left
          · first | (rintro w' ⟨L', hm⟩; have es := hm.eqs; simp only [HBox, EqsL] at es; go_simp; done) | (rintro w' ⟨L', hm⟩; have es := hm.eqs; simp only [HBox, EqsL] at es; go_simp; with_reducible rfl)
          simp only [Act.put, List.setIfInBounds_toArray, List.set_cons_zero, List.set_cons_succ, List.getElem_toArray, List.getElem_cons_succ, List.getElem_cons_zero]
          refine AnyFrom.take (i := 12) (v := ?_) rfl (by kernel_rfl) (by kernel_rfl) (by kernel_rfl) (by kernel_rfl) (fun _ _ _ h => h) ⟨by kernel_rfl, ?_⟩ HS ?_
          rotate_left
          · first | (rintro w' ⟨L', hm⟩; have es := hm.eqs; simp only [HBox, EqsL] at es; go_simp; done) | (rintro w' ⟨L', hm⟩; have es := hm.eqs; simp only [HBox, EqsL] at es; go_simp; with_reducible rfl)
          simp only [Act.put, List.setIfInBounds_toArray, List.set_cons_zero, List.set_cons_succ, List.getElem_toArray, List.getElem_cons_succ, List.getElem_cons_zero]
          refine AnyFrom.call (i := 4) (by kernel_rfl) rfl (by kernel_rfl) fun K hK => ?_
          go_simp
          refine (used_fr b _ _ h.new HV.out HNB.out (by omega) mA).mono ?_
          rintro e w12 ⟨rfl, mB⟩
          generalize wordsM (lens h.new) = us at *
          refine hK _ _ (.inr ⟨_, mB⟩) ?_
          clear hK K HS
          try simp only [Act.put, List.setIfInBounds_toArray, List.set_cons_zero, List.set_cons_succ, List.getElem_toArray, List.getElem_cons_succ, List.getElem_cons_zero]
          have HS : ∃ L', Mem w0 H ((b, HBox TH h.size h.half h.scan h.busy (.slice ob h.old.length oc) (.slice nb h.new.length nc) (.slice rb h.regs.length rc)) :: L') _ := ⟨_, mB⟩
          refine AnyFrom.call (i := 6) (by kernel_rfl) rfl (by kernel_rfl) fun K hK => ?_
          go_simp
          refine (due_fr b h.old _ _ _ _ _ _ _ HO.out (by omega) HOB.out ⟨_, _, _, rfl⟩ ⟨_, _, _, rfl⟩ mB).mono ?_
          rintro e w13 ⟨rfl, mC⟩
          generalize dueL h.old = du at *
          refine hK _ _ (.inr ⟨_, mC⟩) ?_
          clear hK K HS
          try simp only [Act.put, List.setIfInBounds_toArray, List.set_cons_zero, List.set_cons_succ, List.getElem_toArray, List.getElem_cons_succ, List.getElem_cons_zero]
          have HS : ∃ L', Mem w0 H ((b, HBox TH h.size h.half h.scan h.busy (.slice ob h.old.length oc) (.slice nb h.new.length nc) (.slice rb h.regs.length rc)) :: L') _ := ⟨_, mC⟩
          refine AnyFrom.pure (i := 7) (v := ?_) rfl (by kernel_rfl) (by kernel_rfl) (by kernel_rfl) (by decide) (fun _ _ _ h => h) ⟨by kernel_rfl, ?_⟩ HS ?_
          rotate_left
          · first | (intro w'; go_simp; done) | (intro w'; go_simp; with_reducible rfl)
          simp only [Act.put, List.setIfInBounds_toArray, List.set_cons_zero, List.set_cons_succ, List.getElem_toArray, List.getElem_cons_succ, List.getElem_cons_zero]
          refine AnyFrom.pure (i := 13) (v := ?_) rfl (by kernel_rfl) (by kernel_rfl) (by kernel_rfl) (by decide) (fun _ _ _ h => h) ⟨by kernel_rfl, ?_⟩ HS ?_
          rotate_left
          · first | (intro w'; go_simp; done) | (intro w'; go_simp; with_reducible rfl)
          simp only [Act.put, List.setIfInBounds_toArray, List.set_cons_zero, List.set_cons_succ, List.getElem_toArray, List.getElem_cons_succ, List.getElem_cons_zero]
          refine AnyFrom.pure (i := 14) (v := ?_) rfl (by kernel_rfl) (by kernel_rfl) (by kernel_rfl) (by decide) (fun _ _ _ h => h) ⟨by kernel_rfl, ?_⟩ HS ?_
          rotate_left
          · first | (intro w'; go_simp; done) | (intro w'; go_simp; with_reducible rfl)
          simp only [Act.put, List.setIfInBounds_toArray, List.set_cons_zero, List.set_cons_succ, List.getElem_toArray, List.getElem_cons_succ, List.getElem_cons_zero]
          refine AnyFrom.pure (i := 15) (v := ?_) rfl (by kernel_rfl) (by kernel_rfl) (by kernel_rfl) (by decide) (fun _ _ _ h => h) ⟨by kernel_rfl, ?_⟩ HS ?_
          rotate_left
          · first | (intro w'; go_simp; done) | (intro w'; go_simp; with_reducible rfl)
          simp only [Act.put, List.setIfInBounds_toArray, List.set_cons_zero, List.set_cons_succ, List.getElem_toArray, List.getElem_cons_succ, List.getElem_cons_zero]
          refine AnyFrom.done (by kernel_rfl) ?_ _
          go_wp2_with fail
          go_ret
          exact ⟨by first | rfl | simp, mC⟩
    · have hse2 : (h.scan == (h.new.length : Int)) = false := beq_eq_false_iff_ne.2 hse
      rw [hb] at es
      clear hb
      clear mu
      go_quiet (fail)
      have mG := mF.drewN nq
      clear es mF
      generalize w3.drewN nq = w4 at *
      have mu := mG
      unfold HBox at mu
      have es := mu.eqs
      simp only [EqsL] at es
      clear mu
      go_wp2_with fail
      refine (all_any b _ h.regs HX.out mG (by omega) (by omega)).mono ?_
      rintro e w5 ⟨rfl, mH⟩
      rw [HRA.out]
      clear es mG
      have mu := mH
      unfold HBox at mu
      have es := mu.eqs
      simp only [EqsL] at es
      go_wp2_with fail
      refine (isMoved_any b _ h.regs HX.out mH).mono ?_
      rintro e w6 ⟨rfl, mI⟩
      rw [HRM.out]
      clear es mu mH
      have mu := mI
      unfold HBox at mu
      have es := mu.eqs
      simp only [EqsL] at es
      go_wp2_with fail
      clear es mu
      go_loopw [3, 4, 124] (fun _ _ v124 wr => ∃ k : Nat, k ≤ h.new.length ∧ v124 = .int .i64 k ∧ Mem w0 H ((b, HBox TH h.size h.half h.scan h.busy (.slice ob h.old.length oc) (.slice nb h.new.length nc) (.slice rb h.regs.length rc)) :: L) wr) (fun _ _ i _ => h.new.length - (intOf i).toNat)
      case atStart => exact ⟨0, Nat.zero_le _, rfl, mI⟩
      case round =>
        obtain ⟨k, hk, rfl, m2⟩ := hrel
        clear mI
        by_cases hlt : k < h.new.length
        · obtain ⟨blk, off, sv, rfl, c0, c1, c2, c3, hsl, hfit⟩ := HV.out.getObj hlt
          have HSL := Lib.hid hsl
          obtain ⟨b1, c1', rfl, _, hc1', _, _⟩ := hsl
          have hc1' := size_le_maxLen hc1'
          have c0 := c0.cell m2
          have c1 := c1.cell m2
          have c2 := c2.cell m2
          have c3 := c3.cell m2
          have hin := HCN.out.new k _ (List.getElem?_eq_getElem hlt)
          have HIN := Lib.hid hin
          have hol := hin.len
          clear hin
          have HF := Lib.hid hfit; clear hfit
          have hltI : (k : Int) < h.new.length := by omega
          generalize h.new[k] = o at *
          have m3 := m2.alloc (.cells #[.int .u8 o.kind, .string o.name, .int .i64 o.n, .slice b1 o.slots.length c1'] 48)
          go_wp2_with fail
          refine (isObject_any o HF.out b1 c1' m3 (by omega)).mono ?_
          rintro e w7 ⟨rfl, m4⟩
          rw [objIn_plain HIN.out]
          clear c0 c1 c2 c3 m3
          have m4p := m4.perm (List.Perm.swap _ _ _)
          have mu := m4p
          unfold HBox at mu
          have es := mu.eqs
          simp only [EqsL] at es
          go_wp2_with fail
          refine (all_any b _ o.slots HSL.out m4p (by omega) (by omega)).mono ?_
          rintro e w8 ⟨rfl, m5⟩
          rw [objIn_all HIN.out]
          clear es mu m4 m4p
          have mu := m5
          unfold HBox at mu
          have es := mu.eqs
          simp only [EqsL] at es
          by_cases hks : (k : Int) < h.scan
          · have hmv : o.slots.any (isOldB h.half) = false := by
              have h9 := HIN.out
              rw [decide_eq_false (by omega)] at h9
              exact List.any_eq_false.2 fun x hx => by rw [valIn_new (h9.sl x hx)]; simp
            have HMV := Lib.hid hmv; clear hmv
            go_wp2_with fail
            refine (isMoved_any b _ o.slots HSL.out m5).mono ?_
            rintro e w9 ⟨rfl, m6⟩
            rw [HMV.out]
            go_wp2_with fail
            go_roundw
            case rel => exact ⟨k + 1, by omega, by go_num, (m6.perm (List.Perm.swap _ _ _)).drop⟩
            case measure => simp [intOf]; omega
          · go_wp2_with fail
            go_roundw
            case rel => exact ⟨k + 1, by omega, by go_num, (m5.perm (List.Perm.swap _ _ _)).drop⟩
            case measure => simp [intOf]; omega
        · have hge : ¬ (k : Int) < h.new.length := by omega
          go_wp2_with fail
          have hwr : IntKind.i64.wrap (wordsM (lens h.new) + dueL h.old) = wordsM (lens h.new) + dueL h.old := wrap_small _ (by omega) (by omega)
          refine AnyFrom.start (fun w' => ∃ L', Mem w0 H ((b, HBox TH h.size h.half h.scan h.busy (.slice ob h.old.length oc) (.slice nb h.new.length nc) (.slice rb h.regs.length rc)) :: L') w') 16 (by kernel_rfl) ?_
          have mW := m2.drew
          generalize wr.drew = W0 at *
          have HS : ∃ L', Mem w0 H ((b, HBox TH h.size h.half h.scan h.busy (.slice ob h.old.length oc) (.slice nb h.new.length nc) (.slice rb h.regs.length rc)) :: L') W0 := ⟨_, mW⟩
          refine AnyFrom.pure (i := 0) (v := ?_) rfl (by kernel_rfl) (by kernel_rfl) (by kernel_rfl) (by decide) (fun _ _ _ h => h) ⟨by kernel_rfl, ?_⟩ HS ?_
          rotate_left
          · first | (intro w'; go_simp; done) | (intro w'; go_simp; with_reducible rfl)
          simp only [Act.put, List.setIfInBounds_toArray, List.set_cons_zero, List.set_cons_succ, List.getElem_toArray, List.getElem_cons_succ, List.getElem_cons_zero]
          refine AnyFrom.call (i := 1) (by kernel_rfl) rfl (by kernel_rfl) fun K hK => ?_
          go_simp
          refine (isOldValid_any b h HG.out _ _ _ HO.out HV.out mW).mono ?_
          rintro e w11 ⟨rfl, mA⟩
          refine hK _ _ (.inr ⟨_, mA⟩) ?_
          clear hK K HS
          try simp only [Act.put, List.setIfInBounds_toArray, List.set_cons_zero, List.set_cons_succ, List.getElem_toArray, List.getElem_cons_succ, List.getElem_cons_zero]
          have HS : ∃ L', Mem w0 H ((b, HBox TH h.size h.half h.scan h.busy (.slice ob h.old.length oc) (.slice nb h.new.length nc) (.slice rb h.regs.length rc)) :: L') _ := ⟨_, mA⟩
          refine AnyFrom.pure (i := 2) (v := ?_) rfl (by kernel_rfl) (by kernel_rfl) (by kernel_rfl) (by decide) (fun _ _ _ h => h) ⟨by kernel_rfl, ?_⟩ HS ?_
          rotate_left
          · first | (intro w'; go_simp; done) | (intro w'; go_simp; with_reducible rfl)
          simp only [Act.put, List.setIfInBounds_toArray, List.set_cons_zero, List.set_cons_succ, List.getElem_toArray, List.getElem_cons_succ, List.getElem_cons_zero]
          refine AnyFrom.pure (i := 3) (v := ?_) rfl (by kernel_rfl) (by kernel_rfl) (by kernel_rfl) (by decide) (fun _ _ _ h => h) ⟨by kernel_rfl, ?_⟩ HS ?_
          rotate_left
          · first | (intro w'; go_simp; done) | (intro w'; go_simp; with_reducible rfl)
          simp only [Act.put, List.setIfInBounds_toArray, List.set_cons_zero, List.set_cons_succ, List.getElem_toArray, List.getElem_cons_succ, List.getElem_cons_zero]
          refine AnyFrom.pure (i := 5) (v := ?_) rfl (by kernel_rfl) (by kernel_rfl) (by kernel_rfl) (by decide) (fun _ _ _ h => h) ⟨by kernel_rfl, ?_⟩ HS ?_
          rotate_left
          · first | (intro w'; go_simp; done) | (intro w'; go_simp; with_reducible rfl)
          simp only [Act.put, List.setIfInBounds_toArray, List.set_cons_zero, List.set_cons_succ, List.getElem_toArray, List.getElem_cons_succ, List.getElem_cons_zero]
          refine AnyFrom.pure (i := 8) (v := ?_) rfl (by kernel_rfl) (by kernel_rfl) (by kernel_rfl) (by decide) (fun _ _ _ h => h) ⟨by kernel_rfl, ?_⟩ HS ?_
          rotate_left
          · first | (intro w'; go_simp; done) | (intro w'; go_simp; with_reducible rfl)
          simp only [Act.put, List.setIfInBounds_toArray, List.set_cons_zero, List.set_cons_succ, List.getElem_toArray, List.getElem_cons_succ, List.getElem_cons_zero]
          refine AnyFrom.take (i := 9) (v := ?_) rfl (by kernel_rfl) (by kernel_rfl) (by kernel_rfl) (by kernel_rfl) (fun _ _ _ h => h) ⟨by kernel_rfl, ?_⟩ HS ?_
          rotate_left
          · first | (rintro w' ⟨L', hm⟩; have es := hm.eqs; simp only [HBox, EqsL] at es; go_simp; done) | (rintro w' ⟨L', hm⟩; have es := hm.eqs; simp only [HBox, EqsL] at es; go_simp; with_reducible rfl)
          simp only [Act.put, List.setIfInBounds_toArray, List.set_cons_zero, List.set_cons_succ, List.getElem_toArray, List.getElem_cons_succ, List.getElem_cons_zero]
          refine AnyFrom.take (i := 10) (v := ?_) rfl (by kernel_rfl) (by kernel_rfl) (by kernel_rfl) (by kernel_rfl) (fun _ _ _ h => h) ⟨by kernel_rfl, ?_⟩ HS ?_
          rotate_left
          · first | (rintro w' ⟨L', hm⟩; have es := hm.eqs; simp only [HBox, EqsL] at es; go_simp; done) | (rintro w' ⟨L', hm⟩; have es := hm.eqs; simp only [HBox, EqsL] at es; go_simp; with_reducible rfl)
          simp only [Act.put, List.setIfInBounds_toArray, List.set_cons_zero, List.set_cons_succ, List.getElem_toArray, List.getElem_cons_succ, List.getElem_cons_zero]
          refine AnyFrom.take (i := 11) (v := ?_) rfl (by kernel_rfl) (by kernel_rfl) (by kernel_rfl) (by kernel_rfl) (fun _ _ _ h => h) ⟨by kernel_rfl, ?_⟩ HS ?_
          rotate_left
          · first | (rintro w' ⟨L', hm⟩; have es := hm.eqs; simp only [HBox, EqsL] at es; go_simp; done) | (rintro w' ⟨L', hm⟩; have es := hm.eqs; simp only [HBox, EqsL] at es; go_simp; with_reducible rfl)
          simp only [Act.put, List.setIfInBounds_toArray, List.set_cons_zero, List.set_cons_succ, List.getElem_toArray, List.getElem_cons_succ, List.getElem_cons_zero]
          refine AnyFrom.take (i := 12) (v := ?_) rfl (by kernel_rfl) (by kernel_rfl) (by kernel_rfl) (by kernel_rfl) (fun _ _ _ h => h) ⟨by kernel_rfl, ?_⟩ HS ?_
          rotate_left
          · first | (rintro w' ⟨L', hm⟩; have es := hm.eqs; simp only [HBox, EqsL] at es; go_simp; done) | (rintro w' ⟨L', hm⟩; have es := hm.eqs; simp only [HBox, EqsL] at es; go_simp; with_reducible rfl)
          simp only [Act.put, List.setIfInBounds_toArray, List.set_cons_zero, List.set_cons_succ, List.getElem_toArray, List.getElem_cons_succ, List.getElem_cons_zero]
          refine AnyFrom.call (i := 4) (by kernel_rfl) rfl (by kernel_rfl) fun K hK => ?_
          go_simp
          refine (used_fr b _ _ h.new HV.out HNB.out (by omega) mA).mono ?_
          rintro e w12 ⟨rfl, mB⟩
          generalize wordsM (lens h.new) = us at *
          refine hK _ _ (.inr ⟨_, mB⟩) ?_
          clear hK K HS
          try simp only [Act.put, List.setIfInBounds_toArray, List.set_cons_zero, List.set_cons_succ, List.getElem_toArray, List.getElem_cons_succ, List.getElem_cons_zero]
          have HS : ∃ L', Mem w0 H ((b, HBox TH h.size h.half h.scan h.busy (.slice ob h.old.length oc) (.slice nb h.new.length nc) (.slice rb h.regs.length rc)) :: L') _ := ⟨_, mB⟩
          refine AnyFrom.call (i := 6) (by kernel_rfl) rfl (by kernel_rfl) fun K hK => ?_
          go_simp
          refine (due_fr b h.old _ _ _ _ _ _ _ HO.out (by omega) HOB.out ⟨_, _, _, rfl⟩ ⟨_, _, _, rfl⟩ mB).mono ?_
          rintro e w13 ⟨rfl, mC⟩
          generalize dueL h.old = du at *
          refine hK _ _ (.inr ⟨_, mC⟩) ?_
          clear hK K HS
          try simp only [Act.put, List.setIfInBounds_toArray, List.set_cons_zero, List.set_cons_succ, List.getElem_toArray, List.getElem_cons_succ, List.getElem_cons_zero]
          have HS : ∃ L', Mem w0 H ((b, HBox TH h.size h.half h.scan h.busy (.slice ob h.old.length oc) (.slice nb h.new.length nc) (.slice rb h.regs.length rc)) :: L') _ := ⟨_, mC⟩
          refine AnyFrom.pure (i := 7) (v := ?_) rfl (by kernel_rfl) (by kernel_rfl) (by kernel_rfl) (by decide) (fun _ _ _ h => h) ⟨by kernel_rfl, ?_⟩ HS ?_
          rotate_left
          · first | (intro w'; go_simp; done) | (intro w'; go_simp; with_reducible rfl)
          simp only [Act.put, List.setIfInBounds_toArray, List.set_cons_zero, List.set_cons_succ, List.getElem_toArray, List.getElem_cons_succ, List.getElem_cons_zero]
          refine AnyFrom.pure (i := 13) (v := ?_) rfl (by kernel_rfl) (by kernel_rfl) (by kernel_rfl) (by decide) (fun _ _ _ h => h) ⟨by kernel_rfl, ?_⟩ HS ?_
          rotate_left
          · first | (intro w'; go_simp; done) | (intro w'; go_simp; with_reducible rfl)
          simp only [Act.put, List.setIfInBounds_toArray, List.set_cons_zero, List.set_cons_succ, List.getElem_toArray, List.getElem_cons_succ, List.getElem_cons_zero]
          refine AnyFrom.pure (i := 14) (v := ?_) rfl (by kernel_rfl) (by kernel_rfl) (by kernel_rfl) (by decide) (fun _ _ _ h => h) ⟨by kernel_rfl, ?_⟩ HS ?_
          rotate_left
          · first | (intro w'; go_simp; done) | (intro w'; go_simp; with_reducible rfl)
          simp only [Act.put, List.setIfInBounds_toArray, List.set_cons_zero, List.set_cons_succ, List.getElem_toArray, List.getElem_cons_succ, List.getElem_cons_zero]
          refine AnyFrom.pure (i := 15) (v := ?_) rfl (by kernel_rfl) (by kernel_rfl) (by kernel_rfl) (by decide) (fun _ _ _ h => h) ⟨by kernel_rfl, ?_⟩ HS ?_
          rotate_left
          · first | (intro w'; go_simp; done) | (intro w'; go_simp; with_reducible rfl)
          simp only [Act.put, List.setIfInBounds_toArray, List.set_cons_zero, List.set_cons_succ, List.getElem_toArray, List.getElem_cons_succ, List.getElem_cons_zero]
          refine AnyFrom.done (by kernel_rfl) ?_ _
          go_wp2_with fail
          go_ret
          exact ⟨by first | rfl | simp, mC⟩
end Go.Proofs.Ythipkmmdjhpklaa
