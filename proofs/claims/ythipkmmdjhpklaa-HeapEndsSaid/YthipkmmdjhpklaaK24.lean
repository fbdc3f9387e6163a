/- The walk of the reference: a heap is valid. -/
import Derived.Test.YthipkmmdjhpklaaK23
namespace Go.Proofs.Ythipkmmdjhpklaa
set_option linter.unusedVariables false
set_option linter.unusedSimpArgs false
open Go.RowKit

theorem valIn_empty {half : Int} {nn on : Nat} {b : Bool} {x : ValM} (h0 : on = 0) (hx : ValIn half nn on b x) (b' : Bool) : ValIn half nn on b' x :=
  ⟨hx.1, fun hk => .inl (by
    rcases hx.2 hk with h1 | h1
    · exact h1
    · omega)⟩
theorem isIn_b {h : HeapM} {bz : Bool} (hbz : h.busy = bz) (x : ValM) (hx : x.fit) (old : Bool) (hv : ValIn h.half h.new.length h.old.length old x) (hh : h.half = 0 ∨ h.half = 1) (ob nb rb : Option Addr) (oc nc rn rc : Nat) (hnl : h.new.length ≤ 6000) (hol : h.old.length ≤ 6000) {w0 w : World} {H : Hp} {L : List (Nat × Obj)} (m : Mem w0 H L w) :
    Calls Try.prog 79 #[.agg #[.int .i64 h.size, .int .i64 h.half, .int .i64 h.scan, .bool bz, .slice ob h.old.length oc, .slice nb h.new.length nc, .slice rb rn rc], .agg #[.int .u8 x.kind, .int .i64 x.n, .string x.s], .bool old] w (Ret w0 H L (.bool true)) := by
  subst hbz
  exact isIn_true h x hx old hv hh ob nb rb oc nc rn rc hnl hol m
set_option maxRecDepth 10000 in
set_option maxHeartbeats 8000000 in
theorem Valid_any (h : HeapM) (g : HGood h) (vo vn vr : Value) {w0 w : World} {H : Hp} {L : List (Nat × Obj)} (f : HFr H h vo vn vr) (m : Mem w0 H L w) :
    Calls Try.prog 56 #[HVal h vo vn vr] w (Ret w0 H L (.bool true)) := by
  have F := Lib.hid f
  have HO := Lib.hid f.o
  have HN := Lib.hid f.n
  have HR := Lib.hid f.r
  obtain ⟨ob, oc, rfl, _, hoc, _, _⟩ := f.o
  obtain ⟨nb, nc, rfl, _, hnc, _, _⟩ := f.n
  obtain ⟨rb, rc, rfl, _, hrc, _, _⟩ := f.r
  clear f
  have hoc := size_le_maxLen hoc
  have hnc := size_le_maxLen hnc
  have hrc := size_le_maxLen hrc
  have c := g.ok.core
  have hbd := c.bounds
  have hsz := c.size
  have hhf := c.half
  have hhf2 : 0 ≤ h.half ∧ h.half ≤ 1 := by omega
  have hs0 := c.s0
  have hs1 := c.s1
  have hs2 := g.ok.s2
  have hrl := g.ok.regl
  have hud := due_used g
  have HHB := Lib.hid g.ok.hbd
  have hidle : h.busy = false → h.old.length = 0 ∧ h.scan = 0 := fun hb => ⟨by rw [(c.idle hb).1]; rfl, (c.idle hb).2⟩
  have HID := Lib.hid hidle; clear hidle
  have HTO := Lib.hid (fun p (hp : p ∈ h.old) => (c.old p hp).1)
  have HRG := Lib.hid g.ok.regs
  have HNW := Lib.hid c.new
  have HG := Lib.hid g; clear g c
  have HSZ := Lib.hid (show decide ((0 : Int) ≤ h.size ∧ h.size ≤ 6000) = true from decide_eq_true hsz)
  have HHF := Lib.hid (show decide ((0 : Int) ≤ h.half ∧ h.half ≤ 1) = true from decide_eq_true hhf2)
  have hrI : decide ((4000 : Int) < (h.regs.length : Int)) = false := decide_eq_false (by omega)
  have hwu : IntKind.i64.wrap (h.used + h.due) = h.used + h.due := wrap_i64s _ (by omega) (by omega)
  have hule : decide (h.size < h.used + h.due) = false := decide_eq_false (by omega)
  have HUS := Lib.hid (rfl : h.used = h.used)
  unfold HVal
  have m1 := m.alloc (.cells #[.int .i64 h.size, .int .i64 h.half, .int .i64 h.scan, .bool h.busy, .slice ob h.old.length oc, .slice nb h.new.length nc, .slice rb h.regs.length rc] 31)
  go_enter Try.func56, Try.ntmps56
  go_wp2_with fail
  refine AnyFrom.start (fun w' => Mem w0 H ((w.heap.size, .cells #[.int .i64 h.size, .int .i64 h.half, .int .i64 h.scan, .bool h.busy, .slice ob h.old.length oc, .slice nb h.new.length nc, .slice rb h.regs.length rc] 31) :: L) w') 26 (by kernel_rfl) ?_
  have mW := m1.drew
  generalize World.drew _ = W0 at *
  have HS : Mem w0 H ((w.heap.size, .cells #[.int .i64 h.size, .int .i64 h.half, .int .i64 h.scan, .bool h.busy, .slice ob h.old.length oc, .slice nb h.new.length nc, .slice rb h.regs.length rc] 31) :: L) W0 := mW
  refine AnyFrom.take (i := 0) (v := ?_) rfl (by kernel_rfl) (by kernel_rfl) (by kernel_rfl) (by kernel_rfl) (fun _ _ _ h => h) ⟨by kernel_rfl, ?_⟩ HS ?_
  rotate_left
  · first | (rintro w' hm; have es := hm.eqs; simp only [EqsL] at es; go_simp; done) | (rintro w' hm; have es := hm.eqs; simp only [EqsL] at es; go_simp; with_reducible rfl)
  simp only [Act.put, List.setIfInBounds_toArray, List.set_cons_zero, List.set_cons_succ, List.getElem_toArray, List.getElem_cons_succ, List.getElem_cons_zero]
  refine AnyFrom.take (i := 1) (v := ?_) rfl (by kernel_rfl) (by kernel_rfl) (by kernel_rfl) (by kernel_rfl) (fun _ _ _ h => h) ⟨by kernel_rfl, ?_⟩ HS ?_
  rotate_left
  · first | (rintro w' hm; have es := hm.eqs; simp only [EqsL] at es; go_simp; done) | (rintro w' hm; have es := hm.eqs; simp only [EqsL] at es; go_simp; with_reducible rfl)
  simp only [Act.put, List.setIfInBounds_toArray, List.set_cons_zero, List.set_cons_succ, List.getElem_toArray, List.getElem_cons_succ, List.getElem_cons_zero]
  refine AnyFrom.call (i := 2) (by kernel_rfl) rfl (by kernel_rfl) fun K hK => ?_
  go_simp
  refine (In_any _ _ _ _).mono ?_
  rintro e w' ⟨rfl, rfl⟩
  rw [HSZ.out]
  refine hK _ _ (.inr mW) ?_
  clear hK K HS
  try simp only [Act.put, List.setIfInBounds_toArray, List.set_cons_zero, List.set_cons_succ, List.getElem_toArray, List.getElem_cons_succ, List.getElem_cons_zero]
  have HS : Mem w0 H ((w.heap.size, .cells #[.int .i64 h.size, .int .i64 h.half, .int .i64 h.scan, .bool h.busy, .slice ob h.old.length oc, .slice nb h.new.length nc, .slice rb h.regs.length rc] 31) :: L) W0 := mW
  refine AnyFrom.pure (i := 3) (v := ?_) rfl (by kernel_rfl) (by kernel_rfl) (by kernel_rfl) (by decide) (fun _ _ _ h => h) ⟨by kernel_rfl, ?_⟩ HS ?_
  rotate_left
  · first | (intro w'; go_simp; done) | (intro w'; go_simp; with_reducible rfl)
  simp only [Act.put, List.setIfInBounds_toArray, List.set_cons_zero, List.set_cons_succ, List.getElem_toArray, List.getElem_cons_succ, List.getElem_cons_zero]
  refine AnyFrom.pure (i := 4) (v := ?_) rfl (by kernel_rfl) (by kernel_rfl) (by kernel_rfl) (by decide) (fun _ _ _ h => h) ⟨by kernel_rfl, ?_⟩ HS ?_
  rotate_left
  · first | (intro w'; go_simp; done) | (intro w'; go_simp; with_reducible rfl)
  simp only [Act.put, List.setIfInBounds_toArray, List.set_cons_zero, List.set_cons_succ, List.getElem_toArray, List.getElem_cons_succ, List.getElem_cons_zero]
  refine AnyFrom.take (i := 5) (v := ?_) rfl (by kernel_rfl) (by kernel_rfl) (by kernel_rfl) (by kernel_rfl) (fun _ _ _ h => h) ⟨by kernel_rfl, ?_⟩ HS ?_
  rotate_left
  · first | (rintro w' hm; have es := hm.eqs; simp only [EqsL] at es; go_simp; done) | (rintro w' hm; have es := hm.eqs; simp only [EqsL] at es; go_simp; with_reducible rfl)
  simp only [Act.put, List.setIfInBounds_toArray, List.set_cons_zero, List.set_cons_succ, List.getElem_toArray, List.getElem_cons_succ, List.getElem_cons_zero]
  refine AnyFrom.take (i := 6) (v := ?_) rfl (by kernel_rfl) (by kernel_rfl) (by kernel_rfl) (by kernel_rfl) (fun _ _ _ h => h) ⟨by kernel_rfl, ?_⟩ HS ?_
  rotate_left
  · first | (rintro w' hm; have es := hm.eqs; simp only [EqsL] at es; go_simp; done) | (rintro w' hm; have es := hm.eqs; simp only [EqsL] at es; go_simp; with_reducible rfl)
  simp only [Act.put, List.setIfInBounds_toArray, List.set_cons_zero, List.set_cons_succ, List.getElem_toArray, List.getElem_cons_succ, List.getElem_cons_zero]
  refine AnyFrom.call (i := 7) (by kernel_rfl) rfl (by kernel_rfl) fun K hK => ?_
  go_simp
  refine (In_any _ _ _ _).mono ?_
  rintro e w' ⟨rfl, rfl⟩
  rw [HHF.out]
  refine hK _ _ (.inr mW) ?_
  clear hK K HS
  try simp only [Act.put, List.setIfInBounds_toArray, List.set_cons_zero, List.set_cons_succ, List.getElem_toArray, List.getElem_cons_succ, List.getElem_cons_zero]
  have HS : Mem w0 H ((w.heap.size, .cells #[.int .i64 h.size, .int .i64 h.half, .int .i64 h.scan, .bool h.busy, .slice ob h.old.length oc, .slice nb h.new.length nc, .slice rb h.regs.length rc] 31) :: L) W0 := mW
  refine AnyFrom.pure (i := 8) (v := ?_) rfl (by kernel_rfl) (by kernel_rfl) (by kernel_rfl) (by decide) (fun _ _ _ h => h) ⟨by kernel_rfl, ?_⟩ HS ?_
  rotate_left
  · first | (intro w'; go_simp; done) | (intro w'; go_simp; with_reducible rfl)
  simp only [Act.put, List.setIfInBounds_toArray, List.set_cons_zero, List.set_cons_succ, List.getElem_toArray, List.getElem_cons_succ, List.getElem_cons_zero]
  refine AnyFrom.pure (i := 9) (v := ?_) rfl (by kernel_rfl) (by kernel_rfl) (by kernel_rfl) (by decide) (fun _ _ _ h => h) ⟨by kernel_rfl, ?_⟩ HS ?_
  rotate_left
  · first | (intro w'; go_simp; done) | (intro w'; go_simp; with_reducible rfl)
  simp only [Act.put, List.setIfInBounds_toArray, List.set_cons_zero, List.set_cons_succ, List.getElem_toArray, List.getElem_cons_succ, List.getElem_cons_zero]
  refine AnyFrom.pure (i := 10) (v := ?_) rfl (by kernel_rfl) (by kernel_rfl) (by kernel_rfl) (by decide) (fun _ _ _ h => h) ⟨by kernel_rfl, ?_⟩ HS ?_
  rotate_left
  · first | (intro w'; go_simp; done) | (intro w'; go_simp; with_reducible rfl)
  simp only [Act.put, List.setIfInBounds_toArray, List.set_cons_zero, List.set_cons_succ, List.getElem_toArray, List.getElem_cons_succ, List.getElem_cons_zero]
  refine AnyFrom.take (i := 11) (v := ?_) rfl (by kernel_rfl) (by kernel_rfl) (by kernel_rfl) (by kernel_rfl) (fun _ _ _ h => h) ⟨by kernel_rfl, ?_⟩ HS ?_
  rotate_left
  · first | (rintro w' hm; have es := hm.eqs; simp only [EqsL] at es; go_simp; done) | (rintro w' hm; have es := hm.eqs; simp only [EqsL] at es; go_simp; with_reducible rfl)
  simp only [Act.put, List.setIfInBounds_toArray, List.set_cons_zero, List.set_cons_succ, List.getElem_toArray, List.getElem_cons_succ, List.getElem_cons_zero]
  refine AnyFrom.take (i := 12) (v := ?_) rfl (by kernel_rfl) (by kernel_rfl) (by kernel_rfl) (by kernel_rfl) (fun _ _ _ h => h) ⟨by kernel_rfl, ?_⟩ HS ?_
  rotate_left
  · first | (rintro w' hm; have es := hm.eqs; simp only [EqsL] at es; go_simp; done) | (rintro w' hm; have es := hm.eqs; simp only [EqsL] at es; go_simp; with_reducible rfl)
  simp only [Act.put, List.setIfInBounds_toArray, List.set_cons_zero, List.set_cons_succ, List.getElem_toArray, List.getElem_cons_succ, List.getElem_cons_zero]
  refine AnyFrom.pure (i := 13) (v := ?_) rfl (by kernel_rfl) (by kernel_rfl) (by kernel_rfl) (by decide) (fun _ _ _ h => h) ⟨by kernel_rfl, ?_⟩ HS ?_
  rotate_left
  · first | (intro w'; go_simp; done) | (intro w'; go_simp; with_reducible rfl)
  simp only [Act.put, List.setIfInBounds_toArray, List.set_cons_zero, List.set_cons_succ, List.getElem_toArray, List.getElem_cons_succ, List.getElem_cons_zero]
  refine AnyFrom.pure (i := 14) (v := ?_) rfl (by kernel_rfl) (by kernel_rfl) (by kernel_rfl) (by decide) (fun _ _ _ h => h) ⟨by kernel_rfl, ?_⟩ HS ?_
  rotate_left
  · first | (intro w'; go_simp; done) | (intro w'; go_simp; with_reducible rfl)
  simp only [Act.put, List.setIfInBounds_toArray, List.set_cons_zero, List.set_cons_succ, List.getElem_toArray, List.getElem_cons_succ, List.getElem_cons_zero]
  refine AnyFrom.pure (i := 15) (v := ?_) rfl (by kernel_rfl) (by kernel_rfl) (by kernel_rfl) (by decide) (fun _ _ _ h => h) ⟨by kernel_rfl, ?_⟩ HS ?_
  rotate_left
  · first | (intro w'; go_simp; done) | (intro w'; go_simp; with_reducible rfl)
  simp only [Act.put, List.setIfInBounds_toArray, List.set_cons_zero, List.set_cons_succ, List.getElem_toArray, List.getElem_cons_succ, List.getElem_cons_zero]
  refine AnyFrom.pure (i := 16) (v := ?_) rfl (by kernel_rfl) (by kernel_rfl) (by kernel_rfl) (by decide) (fun _ _ _ h => h) ⟨by kernel_rfl, ?_⟩ HS ?_
  rotate_left
  · first | (intro w'; go_simp; done) | (intro w'; go_simp; with_reducible rfl)
  simp only [Act.put, List.setIfInBounds_toArray, List.set_cons_zero, List.set_cons_succ, List.getElem_toArray, List.getElem_cons_succ, List.getElem_cons_zero]
  refine AnyFrom.take (i := 17) (v := ?_) rfl (by kernel_rfl) (by kernel_rfl) (by kernel_rfl) (by kernel_rfl) (fun _ _ _ h => h) ⟨by kernel_rfl, ?_⟩ HS ?_
  rotate_left
  · first | (rintro w' hm; have es := hm.eqs; simp only [EqsL] at es; go_simp; done) | (rintro w' hm; have es := hm.eqs; simp only [EqsL] at es; go_simp; with_reducible rfl)
  simp only [Act.put, List.setIfInBounds_toArray, List.set_cons_zero, List.set_cons_succ, List.getElem_toArray, List.getElem_cons_succ, List.getElem_cons_zero]
  refine AnyFrom.take (i := 19) (v := ?_) rfl (by kernel_rfl) (by kernel_rfl) (by kernel_rfl) (by kernel_rfl) (fun _ _ _ h => h) ⟨by kernel_rfl, ?_⟩ HS ?_
  rotate_left
  · first | (rintro w' hm; have es := hm.eqs; simp only [EqsL] at es; go_simp; done) | (rintro w' hm; have es := hm.eqs; simp only [EqsL] at es; go_simp; with_reducible rfl)
  simp only [Act.put, List.setIfInBounds_toArray, List.set_cons_zero, List.set_cons_succ, List.getElem_toArray, List.getElem_cons_succ, List.getElem_cons_zero]
  refine AnyFrom.take (i := 22) (v := ?_) rfl (by kernel_rfl) (by kernel_rfl) (by kernel_rfl) (by kernel_rfl) (fun _ _ _ h => h) ⟨by kernel_rfl, ?_⟩ HS ?_
  rotate_left
  · first | (rintro w' hm; have es := hm.eqs; simp only [EqsL] at es; go_simp; done) | (rintro w' hm; have es := hm.eqs; simp only [EqsL] at es; go_simp; with_reducible rfl)
  simp only [Act.put, List.setIfInBounds_toArray, List.set_cons_zero, List.set_cons_succ, List.getElem_toArray, List.getElem_cons_succ, List.getElem_cons_zero]
  refine AnyFrom.take (i := 23) (v := ?_) rfl (by kernel_rfl) (by kernel_rfl) (by kernel_rfl) (by kernel_rfl) (fun _ _ _ h => h) ⟨by kernel_rfl, ?_⟩ HS ?_
  rotate_left
  · first | (rintro w' hm; have es := hm.eqs; simp only [EqsL] at es; go_simp; done) | (rintro w' hm; have es := hm.eqs; simp only [EqsL] at es; go_simp; with_reducible rfl)
  simp only [Act.put, List.setIfInBounds_toArray, List.set_cons_zero, List.set_cons_succ, List.getElem_toArray, List.getElem_cons_succ, List.getElem_cons_zero]
  refine AnyFrom.call (i := 18) (by kernel_rfl) rfl (by kernel_rfl) fun K hK => ?_
  go_simp
  refine (RUsed_any h nb nc _ _ ⟨_, _, _, rfl⟩ ⟨_, _, _, rfl⟩ HHB.out HN.out mW).mono ?_
  rintro e w2 ⟨rfl, mA⟩
  refine hK _ _ (.inr mA) ?_
  clear hK K HS
  try simp only [Act.put, List.setIfInBounds_toArray, List.set_cons_zero, List.set_cons_succ, List.getElem_toArray, List.getElem_cons_succ, List.getElem_cons_zero]
  have HS : Mem w0 H ((w.heap.size, .cells #[.int .i64 h.size, .int .i64 h.half, .int .i64 h.scan, .bool h.busy, .slice ob h.old.length oc, .slice nb h.new.length nc, .slice rb h.regs.length rc] 31) :: L) w2 := mA
  refine AnyFrom.call (i := 20) (by kernel_rfl) rfl (by kernel_rfl) fun K hK => ?_
  go_simp
  refine (RDue_any h ob oc _ _ ⟨_, _, _, rfl⟩ ⟨_, _, _, rfl⟩ HHB.out HTO.out HO.out mA).mono ?_
  rintro e w3 ⟨rfl, mB⟩
  refine hK _ _ (.inr mB) ?_
  clear hK K HS
  try simp only [Act.put, List.setIfInBounds_toArray, List.set_cons_zero, List.set_cons_succ, List.getElem_toArray, List.getElem_cons_succ, List.getElem_cons_zero]
  have HS : Mem w0 H ((w.heap.size, .cells #[.int .i64 h.size, .int .i64 h.half, .int .i64 h.scan, .bool h.busy, .slice ob h.old.length oc, .slice nb h.new.length nc, .slice rb h.regs.length rc] 31) :: L) w3 := mB
  refine AnyFrom.pure (i := 21) (v := ?_) rfl (by kernel_rfl) (by kernel_rfl) (by kernel_rfl) (by decide) (fun _ _ _ h => h) ⟨by kernel_rfl, ?_⟩ HS ?_
  rotate_left
  · first | (intro w'; go_simp; done) | (intro w'; go_simp; with_reducible rfl)
  simp only [Act.put, List.setIfInBounds_toArray, List.set_cons_zero, List.set_cons_succ, List.getElem_toArray, List.getElem_cons_succ, List.getElem_cons_zero]
  refine AnyFrom.pure (i := 24) (v := ?_) rfl (by kernel_rfl) (by kernel_rfl) (by kernel_rfl) (by decide) (fun _ _ _ h => h) ⟨by kernel_rfl, ?_⟩ HS ?_
  rotate_left
  · first | (intro w'; go_simp; done) | (intro w'; go_simp; with_reducible rfl)
  simp only [Act.put, List.setIfInBounds_toArray, List.set_cons_zero, List.set_cons_succ, List.getElem_toArray, List.getElem_cons_succ, List.getElem_cons_zero]
  refine AnyFrom.pure (i := 25) (v := ?_) rfl (by kernel_rfl) (by kernel_rfl) (by kernel_rfl) (by decide) (fun _ _ _ h => h) ⟨by kernel_rfl, ?_⟩ HS ?_
  rotate_left
  · first | (intro w'; go_simp; done) | (intro w'; go_simp; with_reducible rfl)
  simp only [Act.put, List.setIfInBounds_toArray, List.set_cons_zero, List.set_cons_succ, List.getElem_toArray, List.getElem_cons_succ, List.getElem_cons_zero]
  refine AnyFrom.done (by kernel_rfl) ?_ _
  clear HS mW mA
  have es := mB.eqs
  simp only [EqsL] at es
  cases hb : h.busy
  · have HBS := Lib.hid hb
    obtain ⟨hl0, hsc0⟩ := HID.out hb
    have HL0 := Lib.hid hl0
    have HSC := Lib.hid hsc0
    rw [hb] at mB
    rw [hb, hl0, hsc0] at es
    clear hb hl0 hsc0
    go_wp2_with fail
    clear es
    go_loopw [3] (fun v3 wr => ∃ k : Nat, k ≤ h.regs.length ∧ v3 = .int .i64 k ∧ Mem w0 H ((w.heap.size, .cells #[.int .i64 h.size, .int .i64 h.half, .int .i64 h.scan, .bool false, .slice ob h.old.length oc, .slice nb h.new.length nc, .slice rb h.regs.length rc] 31) :: L) wr) (fun i _ => h.regs.length - (intOf i).toNat)
    case atStart => exact ⟨0, Nat.zero_le _, rfl, mB⟩
    case round =>
      obtain ⟨k, hk, rfl, m2⟩ := hrel
      clear mB
      have es := m2.eqs
      simp only [EqsL] at es
      by_cases hlt : k < h.regs.length
      · obtain ⟨bs, os, rfl, d0, d1, d2, hvf⟩ := HR.out.getV hlt
        have hltI : (k : Int) < h.regs.length := by omega
        have HVI := Lib.hid (HRG.out _ (List.getElem_mem hlt))
        have HVF := Lib.hid hvf; clear hvf
        generalize h.regs[k] = x at *
        go_wp2_with fail
        clear es
        refine AnyFrom.start (fun w' => Mem w0 H ((w.heap.size, .cells #[.int .i64 h.size, .int .i64 h.half, .int .i64 h.scan, .bool false, .slice ob h.old.length oc, .slice nb h.new.length nc, .slice (some ⟨bs, os, none⟩) h.regs.length rc] 31) :: L) w') 8 (by kernel_rfl) ?_
        have mW := m2.drew
        generalize World.drew _ = W1 at *
        have HS : Mem w0 H ((w.heap.size, .cells #[.int .i64 h.size, .int .i64 h.half, .int .i64 h.scan, .bool false, .slice ob h.old.length oc, .slice nb h.new.length nc, .slice (some ⟨bs, os, none⟩) h.regs.length rc] 31) :: L) W1 := mW
        clear m2
        refine AnyFrom.take (i := 0) (v := ?_) rfl (by kernel_rfl) (by kernel_rfl) (by kernel_rfl) (by kernel_rfl) (fun _ _ _ h => h) ⟨by kernel_rfl, ?_⟩ HS ?_
        rotate_left
        · first | (rintro w' hm; have es := hm.eqs; simp only [EqsL] at es; have d0 := d0.cell hm; have d1 := d1.cell hm; have d2 := d2.cell hm; go_simp; done) | (rintro w' hm; have es := hm.eqs; simp only [EqsL] at es; have d0 := d0.cell hm; have d1 := d1.cell hm; have d2 := d2.cell hm; go_simp; with_reducible rfl)
        simp only [Act.put, List.setIfInBounds_toArray, List.set_cons_zero, List.set_cons_succ, List.getElem_toArray, List.getElem_cons_succ, List.getElem_cons_zero]
        refine AnyFrom.take (i := 1) (v := ?_) rfl (by kernel_rfl) (by kernel_rfl) (by kernel_rfl) (by kernel_rfl) (fun _ _ _ h => h) ⟨by kernel_rfl, ?_⟩ HS ?_
        rotate_left
        · first | (rintro w' hm; have es := hm.eqs; simp only [EqsL] at es; have d0 := d0.cell hm; have d1 := d1.cell hm; have d2 := d2.cell hm; go_simp; done) | (rintro w' hm; have es := hm.eqs; simp only [EqsL] at es; have d0 := d0.cell hm; have d1 := d1.cell hm; have d2 := d2.cell hm; go_simp; with_reducible rfl)
        simp only [Act.put, List.setIfInBounds_toArray, List.set_cons_zero, List.set_cons_succ, List.getElem_toArray, List.getElem_cons_succ, List.getElem_cons_zero]
        refine AnyFrom.take (i := 2) (v := ?_) rfl (by kernel_rfl) (by kernel_rfl) (by kernel_rfl) (by kernel_rfl) (fun _ _ _ h => h) ⟨by kernel_rfl, ?_⟩ HS ?_
        rotate_left
        · first | (rintro w' hm; have es := hm.eqs; simp only [EqsL] at es; have d0 := d0.cell hm; have d1 := d1.cell hm; have d2 := d2.cell hm; go_simp; done) | (rintro w' hm; have es := hm.eqs; simp only [EqsL] at es; have d0 := d0.cell hm; have d1 := d1.cell hm; have d2 := d2.cell hm; go_simp; with_reducible rfl)
        simp only [Act.put, List.setIfInBounds_toArray, List.set_cons_zero, List.set_cons_succ, List.getElem_toArray, List.getElem_cons_succ, List.getElem_cons_zero]
        refine AnyFrom.pure (i := 3) (v := ?_) rfl (by kernel_rfl) (by kernel_rfl) (by kernel_rfl) (by decide) (fun _ _ _ h => h) ⟨by kernel_rfl, ?_⟩ HS ?_
        rotate_left
        · first | (intro w'; go_simp; done) | (intro w'; go_simp; with_reducible rfl)
        simp only [Act.put, List.setIfInBounds_toArray, List.set_cons_zero, List.set_cons_succ, List.getElem_toArray, List.getElem_cons_succ, List.getElem_cons_zero]
        refine AnyFrom.take (i := 4) (v := ?_) rfl (by kernel_rfl) (by kernel_rfl) (by kernel_rfl) (by kernel_rfl) (fun _ _ _ h => h) ⟨by kernel_rfl, ?_⟩ HS ?_
        rotate_left
        · first | (rintro w' hm; have es := hm.eqs; simp only [EqsL] at es; have d0 := d0.cell hm; have d1 := d1.cell hm; have d2 := d2.cell hm; go_simp; done) | (rintro w' hm; have es := hm.eqs; simp only [EqsL] at es; have d0 := d0.cell hm; have d1 := d1.cell hm; have d2 := d2.cell hm; go_simp; with_reducible rfl)
        simp only [Act.put, List.setIfInBounds_toArray, List.set_cons_zero, List.set_cons_succ, List.getElem_toArray, List.getElem_cons_succ, List.getElem_cons_zero]
        refine AnyFrom.take (i := 5) (v := ?_) rfl (by kernel_rfl) (by kernel_rfl) (by kernel_rfl) (by kernel_rfl) (fun _ _ _ h => h) ⟨by kernel_rfl, ?_⟩ HS ?_
        rotate_left
        · first | (rintro w' hm; have es := hm.eqs; simp only [EqsL] at es; have d0 := d0.cell hm; have d1 := d1.cell hm; have d2 := d2.cell hm; go_simp; done) | (rintro w' hm; have es := hm.eqs; simp only [EqsL] at es; have d0 := d0.cell hm; have d1 := d1.cell hm; have d2 := d2.cell hm; go_simp; with_reducible rfl)
        simp only [Act.put, List.setIfInBounds_toArray, List.set_cons_zero, List.set_cons_succ, List.getElem_toArray, List.getElem_cons_succ, List.getElem_cons_zero]
        refine AnyFrom.call (i := 6) (by kernel_rfl) rfl (by kernel_rfl) fun K hK => ?_
        go_simp
        refine (isIn_b HBS.out x HVF.out false HVI.out hhf _ _ _ _ _ _ _ hbd.1 hbd.2.1 mW).mono ?_
        rintro e w7 ⟨rfl, mV⟩
        refine hK _ _ (.inr mV) ?_
        clear hK K HS
        try simp only [Act.put, List.setIfInBounds_toArray, List.set_cons_zero, List.set_cons_succ, List.getElem_toArray, List.getElem_cons_succ, List.getElem_cons_zero]
        have HS : Mem w0 H ((w.heap.size, .cells #[.int .i64 h.size, .int .i64 h.half, .int .i64 h.scan, .bool false, .slice ob h.old.length oc, .slice nb h.new.length nc, .slice (some ⟨bs, os, none⟩) h.regs.length rc] 31) :: L) w7 := mV
        refine AnyFrom.pure (i := 7) (v := ?_) rfl (by kernel_rfl) (by kernel_rfl) (by kernel_rfl) (by decide) (fun _ _ _ h => h) ⟨by kernel_rfl, ?_⟩ HS ?_
        rotate_left
        · first | (intro w'; go_simp; done) | (intro w'; go_simp; with_reducible rfl)
        simp only [Act.put, List.setIfInBounds_toArray, List.set_cons_zero, List.set_cons_succ, List.getElem_toArray, List.getElem_cons_succ, List.getElem_cons_zero]
        refine AnyFrom.done (by kernel_rfl) ?_ _
        go_wp2_with fail
        go_roundw
        case rel => exact ⟨k + 1, by omega, by go_num, mV⟩
        case measure => simp [intOf]; omega
      · have hge : ¬ (k : Int) < h.regs.length := by omega
        go_wp2_with fail
        clear es
        go_loopw [4, 5] (fun v4 _ wr => ∃ k : Nat, k ≤ h.new.length ∧ v4 = .int .i64 k ∧ Mem w0 H ((w.heap.size, .cells #[.int .i64 h.size, .int .i64 h.half, .int .i64 h.scan, .bool false, .slice ob h.old.length oc, .slice nb h.new.length nc, .slice rb h.regs.length rc] 31) :: L) wr) (fun i _ _ => h.new.length - (intOf i).toNat)
        case atStart => exact ⟨0, Nat.zero_le _, rfl, m2⟩
        case round =>
          clear hk hlt hge
          clear m2
          obtain ⟨k, hk, rfl, m2⟩ := hrel
          have es := m2.eqs
          simp only [EqsL] at es
          by_cases hlt : k < h.new.length
          · obtain ⟨blk, off, sv, rfl, c0, c1, c2, c3, hsl, hfit⟩ := HN.out.getObj hlt
            have HSL := Lib.hid hsl
            obtain ⟨b1, c1', rfl, _, hc1', _, _⟩ := hsl
            have hc1' := size_le_maxLen hc1'
            have hltI : (k : Int) < h.new.length := by omega
            have hin := HNW.out k _ (List.getElem?_eq_getElem hlt)
            have HIN := Lib.hid hin
            have hol := hin.len
            clear hin
            have HF := Lib.hid hfit; clear hfit
            generalize h.new[k] = o at *
            have e0 := c0.cell m2
            have e1 := c1.cell m2
            have e2 := c2.cell m2
            have e3 := c3.cell m2
            have hln : ¬ (400 : Int) < (o.slots.length : Int) := by omega
            go_wp2_with fail
            refine (IsPlainObject_any o HF.out _ _ _ m2).mono ?_
            rintro e w4 ⟨rfl, m5⟩
            rw [HIN.out.plain]
            clear es e0 e1 e2 e3
            have es := m5.eqs
            simp only [EqsL] at es
            have e0 := c0.cell m5
            have e1 := c1.cell m5
            have e2 := c2.cell m5
            have e3 := c3.cell m5
            go_wp2_with fail
            clear es m2 e0 e1 e2 e3
            go_loopw [5] (fun v5 wq => ∃ j : Nat, j ≤ o.slots.length ∧ v5 = .int .i64 j ∧ Mem w0 H ((w.heap.size, .cells #[.int .i64 h.size, .int .i64 h.half, .int .i64 h.scan, .bool false, .slice ob h.old.length oc, .slice (some ⟨blk, off, none⟩) h.new.length nc, .slice rb h.regs.length rc] 31) :: L) wq) (fun i _ => o.slots.length - (intOf i).toNat)
            case atStart => exact ⟨0, Nat.zero_le _, rfl, m5⟩
            case round =>
              obtain ⟨j, hj, rfl, m6⟩ := hrel
              clear m5
              have es := m6.eqs
              simp only [EqsL] at es
              have e3 := c3.cell m6
              by_cases hjl : j < o.slots.length
              · obtain ⟨bs, os, rfl, d0, d1, d2, hvf⟩ := HSL.out.getV hjl
                have hjI : (j : Int) < o.slots.length := by omega
                have hvi := HIN.out.sl _ (List.getElem_mem hjl)
                have hvi := valIn_empty HL0.out hvi false
                have HVI := Lib.hid hvi; clear hvi
                have HVF := Lib.hid hvf; clear hvf
                generalize o.slots[j] = x at *
                go_wp2_with fail
                clear es e3
                refine AnyFrom.start (fun w' => Mem w0 H ((w.heap.size, .cells #[.int .i64 h.size, .int .i64 h.half, .int .i64 h.scan, .bool false, .slice ob h.old.length oc, .slice (some ⟨blk, off, none⟩) h.new.length nc, .slice rb h.regs.length rc] 31) :: L) w') 20 (by kernel_rfl) ?_
                have mW := m6.drew
                generalize World.drew _ = W1 at *
                have HS : Mem w0 H ((w.heap.size, .cells #[.int .i64 h.size, .int .i64 h.half, .int .i64 h.scan, .bool false, .slice ob h.old.length oc, .slice (some ⟨blk, off, none⟩) h.new.length nc, .slice rb h.regs.length rc] 31) :: L) W1 := mW
                clear m6
                refine AnyFrom.take (i := 0) (v := ?_) rfl (by kernel_rfl) (by kernel_rfl) (by kernel_rfl) (by kernel_rfl) (fun _ _ _ h => h) ⟨by kernel_rfl, ?_⟩ HS ?_
                rotate_left
                · first | (rintro w' hm; have es := hm.eqs; simp only [EqsL] at es; have c3 := c3.cell hm; have d0 := d0.cell hm; have d1 := d1.cell hm; have d2 := d2.cell hm; go_simp; done) | (rintro w' hm; have es := hm.eqs; simp only [EqsL] at es; have c3 := c3.cell hm; have d0 := d0.cell hm; have d1 := d1.cell hm; have d2 := d2.cell hm; go_simp; with_reducible rfl)
                simp only [Act.put, List.setIfInBounds_toArray, List.set_cons_zero, List.set_cons_succ, List.getElem_toArray, List.getElem_cons_succ, List.getElem_cons_zero]
                refine AnyFrom.take (i := 1) (v := ?_) rfl (by kernel_rfl) (by kernel_rfl) (by kernel_rfl) (by kernel_rfl) (fun _ _ _ h => h) ⟨by kernel_rfl, ?_⟩ HS ?_
                rotate_left
                · first | (rintro w' hm; have es := hm.eqs; simp only [EqsL] at es; have c3 := c3.cell hm; have d0 := d0.cell hm; have d1 := d1.cell hm; have d2 := d2.cell hm; go_simp; done) | (rintro w' hm; have es := hm.eqs; simp only [EqsL] at es; have c3 := c3.cell hm; have d0 := d0.cell hm; have d1 := d1.cell hm; have d2 := d2.cell hm; go_simp; with_reducible rfl)
                simp only [Act.put, List.setIfInBounds_toArray, List.set_cons_zero, List.set_cons_succ, List.getElem_toArray, List.getElem_cons_succ, List.getElem_cons_zero]
                refine AnyFrom.take (i := 2) (v := ?_) rfl (by kernel_rfl) (by kernel_rfl) (by kernel_rfl) (by kernel_rfl) (fun _ _ _ h => h) ⟨by kernel_rfl, ?_⟩ HS ?_
                rotate_left
                · first | (rintro w' hm; have es := hm.eqs; simp only [EqsL] at es; have c3 := c3.cell hm; have d0 := d0.cell hm; have d1 := d1.cell hm; have d2 := d2.cell hm; go_simp; done) | (rintro w' hm; have es := hm.eqs; simp only [EqsL] at es; have c3 := c3.cell hm; have d0 := d0.cell hm; have d1 := d1.cell hm; have d2 := d2.cell hm; go_simp; with_reducible rfl)
                simp only [Act.put, List.setIfInBounds_toArray, List.set_cons_zero, List.set_cons_succ, List.getElem_toArray, List.getElem_cons_succ, List.getElem_cons_zero]
                refine AnyFrom.pure (i := 3) (v := ?_) rfl (by kernel_rfl) (by kernel_rfl) (by kernel_rfl) (by decide) (fun _ _ _ h => h) ⟨by kernel_rfl, ?_⟩ HS ?_
                rotate_left
                · first | (intro w'; go_simp; done) | (intro w'; go_simp; with_reducible rfl)
                simp only [Act.put, List.setIfInBounds_toArray, List.set_cons_zero, List.set_cons_succ, List.getElem_toArray, List.getElem_cons_succ, List.getElem_cons_zero]
                refine AnyFrom.take (i := 4) (v := ?_) rfl (by kernel_rfl) (by kernel_rfl) (by kernel_rfl) (by kernel_rfl) (fun _ _ _ h => h) ⟨by kernel_rfl, ?_⟩ HS ?_
                rotate_left
                · first | (rintro w' hm; have es := hm.eqs; simp only [EqsL] at es; have c3 := c3.cell hm; have d0 := d0.cell hm; have d1 := d1.cell hm; have d2 := d2.cell hm; go_simp; done) | (rintro w' hm; have es := hm.eqs; simp only [EqsL] at es; have c3 := c3.cell hm; have d0 := d0.cell hm; have d1 := d1.cell hm; have d2 := d2.cell hm; go_simp; with_reducible rfl)
                simp only [Act.put, List.setIfInBounds_toArray, List.set_cons_zero, List.set_cons_succ, List.getElem_toArray, List.getElem_cons_succ, List.getElem_cons_zero]
                refine AnyFrom.take (i := 5) (v := ?_) rfl (by kernel_rfl) (by kernel_rfl) (by kernel_rfl) (by kernel_rfl) (fun _ _ _ h => h) ⟨by kernel_rfl, ?_⟩ HS ?_
                rotate_left
                · first | (rintro w' hm; have es := hm.eqs; simp only [EqsL] at es; have c3 := c3.cell hm; have d0 := d0.cell hm; have d1 := d1.cell hm; have d2 := d2.cell hm; go_simp; done) | (rintro w' hm; have es := hm.eqs; simp only [EqsL] at es; have c3 := c3.cell hm; have d0 := d0.cell hm; have d1 := d1.cell hm; have d2 := d2.cell hm; go_simp; with_reducible rfl)
                simp only [Act.put, List.setIfInBounds_toArray, List.set_cons_zero, List.set_cons_succ, List.getElem_toArray, List.getElem_cons_succ, List.getElem_cons_zero]
                refine AnyFrom.take (i := 6) (v := ?_) rfl (by kernel_rfl) (by kernel_rfl) (by kernel_rfl) (by kernel_rfl) (fun _ _ _ h => h) ⟨by kernel_rfl, ?_⟩ HS ?_
                rotate_left
                · first | (rintro w' hm; have es := hm.eqs; simp only [EqsL] at es; have c3 := c3.cell hm; have d0 := d0.cell hm; have d1 := d1.cell hm; have d2 := d2.cell hm; go_simp; done) | (rintro w' hm; have es := hm.eqs; simp only [EqsL] at es; have c3 := c3.cell hm; have d0 := d0.cell hm; have d1 := d1.cell hm; have d2 := d2.cell hm; go_simp; with_reducible rfl)
                simp only [Act.put, List.setIfInBounds_toArray, List.set_cons_zero, List.set_cons_succ, List.getElem_toArray, List.getElem_cons_succ, List.getElem_cons_zero]
                refine AnyFrom.pure (i := 7) (v := ?_) rfl (by kernel_rfl) (by kernel_rfl) (by kernel_rfl) (by decide) (fun _ _ _ h => h) ⟨by kernel_rfl, ?_⟩ HS ?_
                rotate_left
                · first | (intro w'; go_simp; done) | (intro w'; go_simp; with_reducible rfl)
                simp only [Act.put, List.setIfInBounds_toArray, List.set_cons_zero, List.set_cons_succ, List.getElem_toArray, List.getElem_cons_succ, List.getElem_cons_zero]
                refine AnyFrom.take (i := 8) (v := ?_) rfl (by kernel_rfl) (by kernel_rfl) (by kernel_rfl) (by kernel_rfl) (fun _ _ _ h => h) ⟨by kernel_rfl, ?_⟩ HS ?_
                rotate_left
                · first | (rintro w' hm; have es := hm.eqs; simp only [EqsL] at es; have c3 := c3.cell hm; have d0 := d0.cell hm; have d1 := d1.cell hm; have d2 := d2.cell hm; go_simp; done) | (rintro w' hm; have es := hm.eqs; simp only [EqsL] at es; have c3 := c3.cell hm; have d0 := d0.cell hm; have d1 := d1.cell hm; have d2 := d2.cell hm; go_simp; with_reducible rfl)
                simp only [Act.put, List.setIfInBounds_toArray, List.set_cons_zero, List.set_cons_succ, List.getElem_toArray, List.getElem_cons_succ, List.getElem_cons_zero]
                refine AnyFrom.take (i := 9) (v := ?_) rfl (by kernel_rfl) (by kernel_rfl) (by kernel_rfl) (by kernel_rfl) (fun _ _ _ h => h) ⟨by kernel_rfl, ?_⟩ HS ?_
                rotate_left
                · first | (rintro w' hm; have es := hm.eqs; simp only [EqsL] at es; have c3 := c3.cell hm; have d0 := d0.cell hm; have d1 := d1.cell hm; have d2 := d2.cell hm; go_simp; done) | (rintro w' hm; have es := hm.eqs; simp only [EqsL] at es; have c3 := c3.cell hm; have d0 := d0.cell hm; have d1 := d1.cell hm; have d2 := d2.cell hm; go_simp; with_reducible rfl)
                simp only [Act.put, List.setIfInBounds_toArray, List.set_cons_zero, List.set_cons_succ, List.getElem_toArray, List.getElem_cons_succ, List.getElem_cons_zero]
                refine AnyFrom.take (i := 10) (v := ?_) rfl (by kernel_rfl) (by kernel_rfl) (by kernel_rfl) (by kernel_rfl) (fun _ _ _ h => h) ⟨by kernel_rfl, ?_⟩ HS ?_
                rotate_left
                · first | (rintro w' hm; have es := hm.eqs; simp only [EqsL] at es; have c3 := c3.cell hm; have d0 := d0.cell hm; have d1 := d1.cell hm; have d2 := d2.cell hm; go_simp; done) | (rintro w' hm; have es := hm.eqs; simp only [EqsL] at es; have c3 := c3.cell hm; have d0 := d0.cell hm; have d1 := d1.cell hm; have d2 := d2.cell hm; go_simp; with_reducible rfl)
                simp only [Act.put, List.setIfInBounds_toArray, List.set_cons_zero, List.set_cons_succ, List.getElem_toArray, List.getElem_cons_succ, List.getElem_cons_zero]
                refine AnyFrom.take (i := 11) (v := ?_) rfl (by kernel_rfl) (by kernel_rfl) (by kernel_rfl) (by kernel_rfl) (fun _ _ _ h => h) ⟨by kernel_rfl, ?_⟩ HS ?_
                rotate_left
                · first | (rintro w' hm; have es := hm.eqs; simp only [EqsL] at es; have c3 := c3.cell hm; have d0 := d0.cell hm; have d1 := d1.cell hm; have d2 := d2.cell hm; go_simp; done) | (rintro w' hm; have es := hm.eqs; simp only [EqsL] at es; have c3 := c3.cell hm; have d0 := d0.cell hm; have d1 := d1.cell hm; have d2 := d2.cell hm; go_simp; with_reducible rfl)
                simp only [Act.put, List.setIfInBounds_toArray, List.set_cons_zero, List.set_cons_succ, List.getElem_toArray, List.getElem_cons_succ, List.getElem_cons_zero]
                refine AnyFrom.pure (i := 12) (v := ?_) rfl (by kernel_rfl) (by kernel_rfl) (by kernel_rfl) (by decide) (fun _ _ _ h => h) ⟨by kernel_rfl, ?_⟩ HS ?_
                rotate_left
                · first | (intro w'; go_simp; done) | (intro w'; go_simp; with_reducible rfl)
                simp only [Act.put, List.setIfInBounds_toArray, List.set_cons_zero, List.set_cons_succ, List.getElem_toArray, List.getElem_cons_succ, List.getElem_cons_zero]
                refine AnyFrom.skip (i := 13) rfl (by kernel_rfl) (by kernel_rfl) (by kernel_rfl) (by decide) (fun _ _ _ h => h) (by kernel_rfl) HS ?_
                simp only [Act.put, List.setIfInBounds_toArray, List.set_cons_zero, List.set_cons_succ, List.getElem_toArray, List.getElem_cons_succ, List.getElem_cons_zero]
                refine AnyFrom.skip (i := 14) rfl (by kernel_rfl) (by kernel_rfl) (by kernel_rfl) (by decide) (fun _ _ _ h => h) (by kernel_rfl) HS ?_
                simp only [Act.put, List.setIfInBounds_toArray, List.set_cons_zero, List.set_cons_succ, List.getElem_toArray, List.getElem_cons_succ, List.getElem_cons_zero]
                refine AnyFrom.skip (i := 15) rfl (by kernel_rfl) (by kernel_rfl) (by kernel_rfl) (by decide) (fun _ _ _ h => h) (by kernel_rfl) HS ?_
                simp only [Act.put, List.setIfInBounds_toArray, List.set_cons_zero, List.set_cons_succ, List.getElem_toArray, List.getElem_cons_succ, List.getElem_cons_zero]
                refine AnyFrom.skip (i := 16) rfl (by kernel_rfl) (by kernel_rfl) (by kernel_rfl) (by decide) (fun _ _ _ h => h) (by kernel_rfl) HS ?_
                simp only [Act.put, List.setIfInBounds_toArray, List.set_cons_zero, List.set_cons_succ, List.getElem_toArray, List.getElem_cons_succ, List.getElem_cons_zero]
                refine AnyFrom.pure (i := 17) (v := ?_) rfl (by kernel_rfl) (by kernel_rfl) (by kernel_rfl) (by decide) (fun _ _ _ h => h) ⟨by kernel_rfl, ?_⟩ HS ?_
                rotate_left
                · first | (intro w'; go_simp; done) | (intro w'; go_simp; with_reducible rfl)
                simp only [Act.put, List.setIfInBounds_toArray, List.set_cons_zero, List.set_cons_succ, List.getElem_toArray, List.getElem_cons_succ, List.getElem_cons_zero]
                refine AnyFrom.call (i := 18) (by kernel_rfl) rfl (by kernel_rfl) fun K hK => ?_
                go_simp
                refine (isIn_b HBS.out x HVF.out false HVI.out hhf _ _ _ _ _ _ _ hbd.1 hbd.2.1 mW).mono ?_
                rintro e w7 ⟨rfl, mV⟩
                refine hK _ _ (.inr mV) ?_
                clear hK K HS
                try simp only [Act.put, List.setIfInBounds_toArray, List.set_cons_zero, List.set_cons_succ, List.getElem_toArray, List.getElem_cons_succ, List.getElem_cons_zero]
                have HS : Mem w0 H ((w.heap.size, .cells #[.int .i64 h.size, .int .i64 h.half, .int .i64 h.scan, .bool false, .slice ob h.old.length oc, .slice (some ⟨blk, off, none⟩) h.new.length nc, .slice rb h.regs.length rc] 31) :: L) w7 := mV
                refine AnyFrom.pure (i := 19) (v := ?_) rfl (by kernel_rfl) (by kernel_rfl) (by kernel_rfl) (by decide) (fun _ _ _ h => h) ⟨by kernel_rfl, ?_⟩ HS ?_
                rotate_left
                · first | (intro w'; go_simp; done) | (intro w'; go_simp; with_reducible rfl)
                simp only [Act.put, List.setIfInBounds_toArray, List.set_cons_zero, List.set_cons_succ, List.getElem_toArray, List.getElem_cons_succ, List.getElem_cons_zero]
                refine AnyFrom.done (by kernel_rfl) ?_ _
                go_wp2_with fail
                go_roundw
                case rel => exact ⟨j + 1, by omega, by go_num, mV⟩
                case measure => simp [intOf]; omega
              · have hjI : ¬ (j : Int) < o.slots.length := by omega
                go_wp2_with fail
                go_roundw
                case rel => exact ⟨k + 1, by omega, by go_num, m6⟩
                case measure => simp [intOf]; omega
          · have hge : ¬ (k : Int) < h.new.length := by omega
            go_wp2_with fail
            have hvo := validOld_any h HG.out _ _ _ F.out m2
            unfold HVal at hvo
            rw [HBS.out] at hvo
            refine hvo.mono ?_
            rintro e w8 ⟨rfl, m7⟩
            go_wp2_with fail
            go_ret
            exact ⟨rfl, m7.drop⟩
  · have HBS := Lib.hid hb
    rw [hb] at mB es
    clear hb
    by_cases hm : h.new.length ≤ 1
    · have hmI : (h.new.length : Int) ≤ 1 := by omega
      have HSC := Lib.hid (show decide ((0 : Int) ≤ h.scan ∧ h.scan ≤ 0) = true from decide_eq_true (by omega))
      go_wp2_with fail
      refine (In_any _ _ _ _).mono ?_
      rintro e w' ⟨rfl, rfl⟩
      rw [HSC.out]
      go_wp2_with fail
      clear es
      go_loopw [3] (fun v3 wr => ∃ k : Nat, k ≤ h.regs.length ∧ v3 = .int .i64 k ∧ Mem w0 H ((w.heap.size, .cells #[.int .i64 h.size, .int .i64 h.half, .int .i64 h.scan, .bool true, .slice ob h.old.length oc, .slice nb h.new.length nc, .slice rb h.regs.length rc] 31) :: L) wr) (fun i _ => h.regs.length - (intOf i).toNat)
      case atStart => exact ⟨0, Nat.zero_le _, rfl, mB⟩
      case round =>
        obtain ⟨k, hk, rfl, m2⟩ := hrel
        clear mB
        have es := m2.eqs
        simp only [EqsL] at es
        by_cases hlt : k < h.regs.length
        · obtain ⟨bs, os, rfl, d0, d1, d2, hvf⟩ := HR.out.getV hlt
          have hltI : (k : Int) < h.regs.length := by omega
          have HVI := Lib.hid (HRG.out _ (List.getElem_mem hlt))
          have HVF := Lib.hid hvf; clear hvf
          generalize h.regs[k] = x at *
          go_wp2_with fail
          clear es
          refine AnyFrom.start (fun w' => Mem w0 H ((w.heap.size, .cells #[.int .i64 h.size, .int .i64 h.half, .int .i64 h.scan, .bool true, .slice ob h.old.length oc, .slice nb h.new.length nc, .slice (some ⟨bs, os, none⟩) h.regs.length rc] 31) :: L) w') 8 (by kernel_rfl) ?_
          have mW := m2.drew
          generalize World.drew _ = W1 at *
          have HS : Mem w0 H ((w.heap.size, .cells #[.int .i64 h.size, .int .i64 h.half, .int .i64 h.scan, .bool true, .slice ob h.old.length oc, .slice nb h.new.length nc, .slice (some ⟨bs, os, none⟩) h.regs.length rc] 31) :: L) W1 := mW
          clear m2
          refine AnyFrom.take (i := 0) (v := ?_) rfl (by kernel_rfl) (by kernel_rfl) (by kernel_rfl) (by kernel_rfl) (fun _ _ _ h => h) ⟨by kernel_rfl, ?_⟩ HS ?_
          rotate_left
          · first | (rintro w' hm; have es := hm.eqs; simp only [EqsL] at es; have d0 := d0.cell hm; have d1 := d1.cell hm; have d2 := d2.cell hm; go_simp; done) | (rintro w' hm; have es := hm.eqs; simp only [EqsL] at es; have d0 := d0.cell hm; have d1 := d1.cell hm; have d2 := d2.cell hm; go_simp; with_reducible rfl)
          simp only [Act.put, List.setIfInBounds_toArray, List.set_cons_zero, List.set_cons_succ, List.getElem_toArray, List.getElem_cons_succ, List.getElem_cons_zero]
          refine AnyFrom.take (i := 1) (v := ?_) rfl (by kernel_rfl) (by kernel_rfl) (by kernel_rfl) (by kernel_rfl) (fun _ _ _ h => h) ⟨by kernel_rfl, ?_⟩ HS ?_
          rotate_left
          · first | (rintro w' hm; have es := hm.eqs; simp only [EqsL] at es; have d0 := d0.cell hm; have d1 := d1.cell hm; have d2 := d2.cell hm; go_simp; done) | (rintro w' hm; have es := hm.eqs; simp only [EqsL] at es; have d0 := d0.cell hm; have d1 := d1.cell hm; have d2 := d2.cell hm; go_simp; with_reducible rfl)
          simp only [Act.put, List.setIfInBounds_toArray, List.set_cons_zero, List.set_cons_succ, List.getElem_toArray, List.getElem_cons_succ, List.getElem_cons_zero]
          refine AnyFrom.take (i := 2) (v := ?_) rfl (by kernel_rfl) (by kernel_rfl) (by kernel_rfl) (by kernel_rfl) (fun _ _ _ h => h) ⟨by kernel_rfl, ?_⟩ HS ?_
          rotate_left
          · first | (rintro w' hm; have es := hm.eqs; simp only [EqsL] at es; have d0 := d0.cell hm; have d1 := d1.cell hm; have d2 := d2.cell hm; go_simp; done) | (rintro w' hm; have es := hm.eqs; simp only [EqsL] at es; have d0 := d0.cell hm; have d1 := d1.cell hm; have d2 := d2.cell hm; go_simp; with_reducible rfl)
          simp only [Act.put, List.setIfInBounds_toArray, List.set_cons_zero, List.set_cons_succ, List.getElem_toArray, List.getElem_cons_succ, List.getElem_cons_zero]
          refine AnyFrom.pure (i := 3) (v := ?_) rfl (by kernel_rfl) (by kernel_rfl) (by kernel_rfl) (by decide) (fun _ _ _ h => h) ⟨by kernel_rfl, ?_⟩ HS ?_
          rotate_left
          · first | (intro w'; go_simp; done) | (intro w'; go_simp; with_reducible rfl)
          simp only [Act.put, List.setIfInBounds_toArray, List.set_cons_zero, List.set_cons_succ, List.getElem_toArray, List.getElem_cons_succ, List.getElem_cons_zero]
          refine AnyFrom.take (i := 4) (v := ?_) rfl (by kernel_rfl) (by kernel_rfl) (by kernel_rfl) (by kernel_rfl) (fun _ _ _ h => h) ⟨by kernel_rfl, ?_⟩ HS ?_
          rotate_left
          · first | (rintro w' hm; have es := hm.eqs; simp only [EqsL] at es; have d0 := d0.cell hm; have d1 := d1.cell hm; have d2 := d2.cell hm; go_simp; done) | (rintro w' hm; have es := hm.eqs; simp only [EqsL] at es; have d0 := d0.cell hm; have d1 := d1.cell hm; have d2 := d2.cell hm; go_simp; with_reducible rfl)
          simp only [Act.put, List.setIfInBounds_toArray, List.set_cons_zero, List.set_cons_succ, List.getElem_toArray, List.getElem_cons_succ, List.getElem_cons_zero]
          refine AnyFrom.take (i := 5) (v := ?_) rfl (by kernel_rfl) (by kernel_rfl) (by kernel_rfl) (by kernel_rfl) (fun _ _ _ h => h) ⟨by kernel_rfl, ?_⟩ HS ?_
          rotate_left
          · first | (rintro w' hm; have es := hm.eqs; simp only [EqsL] at es; have d0 := d0.cell hm; have d1 := d1.cell hm; have d2 := d2.cell hm; go_simp; done) | (rintro w' hm; have es := hm.eqs; simp only [EqsL] at es; have d0 := d0.cell hm; have d1 := d1.cell hm; have d2 := d2.cell hm; go_simp; with_reducible rfl)
          simp only [Act.put, List.setIfInBounds_toArray, List.set_cons_zero, List.set_cons_succ, List.getElem_toArray, List.getElem_cons_succ, List.getElem_cons_zero]
          refine AnyFrom.call (i := 6) (by kernel_rfl) rfl (by kernel_rfl) fun K hK => ?_
          go_simp
          refine (isIn_b HBS.out x HVF.out false HVI.out hhf _ _ _ _ _ _ _ hbd.1 hbd.2.1 mW).mono ?_
          rintro e w7 ⟨rfl, mV⟩
          refine hK _ _ (.inr mV) ?_
          clear hK K HS
          try simp only [Act.put, List.setIfInBounds_toArray, List.set_cons_zero, List.set_cons_succ, List.getElem_toArray, List.getElem_cons_succ, List.getElem_cons_zero]
          have HS : Mem w0 H ((w.heap.size, .cells #[.int .i64 h.size, .int .i64 h.half, .int .i64 h.scan, .bool true, .slice ob h.old.length oc, .slice nb h.new.length nc, .slice (some ⟨bs, os, none⟩) h.regs.length rc] 31) :: L) w7 := mV
          refine AnyFrom.pure (i := 7) (v := ?_) rfl (by kernel_rfl) (by kernel_rfl) (by kernel_rfl) (by decide) (fun _ _ _ h => h) ⟨by kernel_rfl, ?_⟩ HS ?_
          rotate_left
          · first | (intro w'; go_simp; done) | (intro w'; go_simp; with_reducible rfl)
          simp only [Act.put, List.setIfInBounds_toArray, List.set_cons_zero, List.set_cons_succ, List.getElem_toArray, List.getElem_cons_succ, List.getElem_cons_zero]
          refine AnyFrom.done (by kernel_rfl) ?_ _
          go_wp2_with fail
          go_roundw
          case rel => exact ⟨k + 1, by omega, by go_num, mV⟩
          case measure => simp [intOf]; omega
        · have hge : ¬ (k : Int) < h.regs.length := by omega
          go_wp2_with fail
          clear es
          go_loopw [4, 5] (fun v4 _ wr => ∃ k : Nat, k ≤ h.new.length ∧ v4 = .int .i64 k ∧ Mem w0 H ((w.heap.size, .cells #[.int .i64 h.size, .int .i64 h.half, .int .i64 h.scan, .bool true, .slice ob h.old.length oc, .slice nb h.new.length nc, .slice rb h.regs.length rc] 31) :: L) wr) (fun i _ _ => h.new.length - (intOf i).toNat)
          case atStart => exact ⟨0, Nat.zero_le _, rfl, m2⟩
          case round =>
            clear hk hlt hge
            clear m2
            obtain ⟨k, hk, rfl, m2⟩ := hrel
            have es := m2.eqs
            simp only [EqsL] at es
            by_cases hlt : k < h.new.length
            · obtain ⟨blk, off, sv, rfl, c0, c1, c2, c3, hsl, hfit⟩ := HN.out.getObj hlt
              have HSL := Lib.hid hsl
              obtain ⟨b1, c1', rfl, _, hc1', _, _⟩ := hsl
              have hc1' := size_le_maxLen hc1'
              have hltI : (k : Int) < h.new.length := by omega
              have hin := HNW.out k _ (List.getElem?_eq_getElem hlt)
              have HIN := Lib.hid hin
              have hol := hin.len
              clear hin
              have HF := Lib.hid hfit; clear hfit
              generalize h.new[k] = o at *
              have e0 := c0.cell m2
              have e1 := c1.cell m2
              have e2 := c2.cell m2
              have e3 := c3.cell m2
              have hln : ¬ (400 : Int) < (o.slots.length : Int) := by omega
              go_wp2_with fail
              refine (IsPlainObject_any o HF.out _ _ _ m2).mono ?_
              rintro e w4 ⟨rfl, m5⟩
              rw [HIN.out.plain]
              clear es e0 e1 e2 e3
              have es := m5.eqs
              simp only [EqsL] at es
              have e0 := c0.cell m5
              have e1 := c1.cell m5
              have e2 := c2.cell m5
              have e3 := c3.cell m5
              go_wp2_with fail
              clear es m2 e0 e1 e2 e3
              go_loopw [5] (fun v5 wq => ∃ j : Nat, j ≤ o.slots.length ∧ v5 = .int .i64 j ∧ Mem w0 H ((w.heap.size, .cells #[.int .i64 h.size, .int .i64 h.half, .int .i64 h.scan, .bool true, .slice ob h.old.length oc, .slice (some ⟨blk, off, none⟩) h.new.length nc, .slice rb h.regs.length rc] 31) :: L) wq) (fun i _ => o.slots.length - (intOf i).toNat)
              case atStart => exact ⟨0, Nat.zero_le _, rfl, m5⟩
              case round =>
                obtain ⟨j, hj, rfl, m6⟩ := hrel
                clear m5
                have es := m6.eqs
                simp only [EqsL] at es
                have e3 := c3.cell m6
                by_cases hjl : j < o.slots.length
                · obtain ⟨bs, os, rfl, d0, d1, d2, hvf⟩ := HSL.out.getV hjl
                  have hjI : (j : Int) < o.slots.length := by omega
                  have hvi := HIN.out.sl _ (List.getElem_mem hjl)
                  have HVI := Lib.hid hvi; clear hvi
                  have HVF := Lib.hid hvf; clear hvf
                  generalize o.slots[j] = x at *
                  go_wp2_with fail
                  clear es e3
                  refine AnyFrom.start (fun w' => Mem w0 H ((w.heap.size, .cells #[.int .i64 h.size, .int .i64 h.half, .int .i64 h.scan, .bool true, .slice ob h.old.length oc, .slice (some ⟨blk, off, none⟩) h.new.length nc, .slice rb h.regs.length rc] 31) :: L) w') 20 (by kernel_rfl) ?_
                  have mW := m6.drew
                  generalize World.drew _ = W1 at *
                  have HS : Mem w0 H ((w.heap.size, .cells #[.int .i64 h.size, .int .i64 h.half, .int .i64 h.scan, .bool true, .slice ob h.old.length oc, .slice (some ⟨blk, off, none⟩) h.new.length nc, .slice rb h.regs.length rc] 31) :: L) W1 := mW
                  clear m6
                  refine AnyFrom.take (i := 0) (v := ?_) rfl (by kernel_rfl) (by kernel_rfl) (by kernel_rfl) (by kernel_rfl) (fun _ _ _ h => h) ⟨by kernel_rfl, ?_⟩ HS ?_
                  rotate_left
                  · first | (rintro w' hm; have es := hm.eqs; simp only [EqsL] at es; have c3 := c3.cell hm; have d0 := d0.cell hm; have d1 := d1.cell hm; have d2 := d2.cell hm; go_simp; done) | (rintro w' hm; have es := hm.eqs; simp only [EqsL] at es; have c3 := c3.cell hm; have d0 := d0.cell hm; have d1 := d1.cell hm; have d2 := d2.cell hm; go_simp; with_reducible rfl)
                  simp only [Act.put, List.setIfInBounds_toArray, List.set_cons_zero, List.set_cons_succ, List.getElem_toArray, List.getElem_cons_succ, List.getElem_cons_zero]
                  refine AnyFrom.take (i := 1) (v := ?_) rfl (by kernel_rfl) (by kernel_rfl) (by kernel_rfl) (by kernel_rfl) (fun _ _ _ h => h) ⟨by kernel_rfl, ?_⟩ HS ?_
                  rotate_left
                  · first | (rintro w' hm; have es := hm.eqs; simp only [EqsL] at es; have c3 := c3.cell hm; have d0 := d0.cell hm; have d1 := d1.cell hm; have d2 := d2.cell hm; go_simp; done) | (rintro w' hm; have es := hm.eqs; simp only [EqsL] at es; have c3 := c3.cell hm; have d0 := d0.cell hm; have d1 := d1.cell hm; have d2 := d2.cell hm; go_simp; with_reducible rfl)
                  simp only [Act.put, List.setIfInBounds_toArray, List.set_cons_zero, List.set_cons_succ, List.getElem_toArray, List.getElem_cons_succ, List.getElem_cons_zero]
                  refine AnyFrom.take (i := 2) (v := ?_) rfl (by kernel_rfl) (by kernel_rfl) (by kernel_rfl) (by kernel_rfl) (fun _ _ _ h => h) ⟨by kernel_rfl, ?_⟩ HS ?_
                  rotate_left
                  · first | (rintro w' hm; have es := hm.eqs; simp only [EqsL] at es; have c3 := c3.cell hm; have d0 := d0.cell hm; have d1 := d1.cell hm; have d2 := d2.cell hm; go_simp; done) | (rintro w' hm; have es := hm.eqs; simp only [EqsL] at es; have c3 := c3.cell hm; have d0 := d0.cell hm; have d1 := d1.cell hm; have d2 := d2.cell hm; go_simp; with_reducible rfl)
                  simp only [Act.put, List.setIfInBounds_toArray, List.set_cons_zero, List.set_cons_succ, List.getElem_toArray, List.getElem_cons_succ, List.getElem_cons_zero]
                  refine AnyFrom.pure (i := 3) (v := ?_) rfl (by kernel_rfl) (by kernel_rfl) (by kernel_rfl) (by decide) (fun _ _ _ h => h) ⟨by kernel_rfl, ?_⟩ HS ?_
                  rotate_left
                  · first | (intro w'; go_simp; done) | (intro w'; go_simp; with_reducible rfl)
                  simp only [Act.put, List.setIfInBounds_toArray, List.set_cons_zero, List.set_cons_succ, List.getElem_toArray, List.getElem_cons_succ, List.getElem_cons_zero]
                  refine AnyFrom.take (i := 4) (v := ?_) rfl (by kernel_rfl) (by kernel_rfl) (by kernel_rfl) (by kernel_rfl) (fun _ _ _ h => h) ⟨by kernel_rfl, ?_⟩ HS ?_
                  rotate_left
                  · first | (rintro w' hm; have es := hm.eqs; simp only [EqsL] at es; have c3 := c3.cell hm; have d0 := d0.cell hm; have d1 := d1.cell hm; have d2 := d2.cell hm; go_simp; done) | (rintro w' hm; have es := hm.eqs; simp only [EqsL] at es; have c3 := c3.cell hm; have d0 := d0.cell hm; have d1 := d1.cell hm; have d2 := d2.cell hm; go_simp; with_reducible rfl)
                  simp only [Act.put, List.setIfInBounds_toArray, List.set_cons_zero, List.set_cons_succ, List.getElem_toArray, List.getElem_cons_succ, List.getElem_cons_zero]
                  refine AnyFrom.take (i := 5) (v := ?_) rfl (by kernel_rfl) (by kernel_rfl) (by kernel_rfl) (by kernel_rfl) (fun _ _ _ h => h) ⟨by kernel_rfl, ?_⟩ HS ?_
                  rotate_left
                  · first | (rintro w' hm; have es := hm.eqs; simp only [EqsL] at es; have c3 := c3.cell hm; have d0 := d0.cell hm; have d1 := d1.cell hm; have d2 := d2.cell hm; go_simp; done) | (rintro w' hm; have es := hm.eqs; simp only [EqsL] at es; have c3 := c3.cell hm; have d0 := d0.cell hm; have d1 := d1.cell hm; have d2 := d2.cell hm; go_simp; with_reducible rfl)
                  simp only [Act.put, List.setIfInBounds_toArray, List.set_cons_zero, List.set_cons_succ, List.getElem_toArray, List.getElem_cons_succ, List.getElem_cons_zero]
                  refine AnyFrom.take (i := 6) (v := ?_) rfl (by kernel_rfl) (by kernel_rfl) (by kernel_rfl) (by kernel_rfl) (fun _ _ _ h => h) ⟨by kernel_rfl, ?_⟩ HS ?_
                  rotate_left
                  · first | (rintro w' hm; have es := hm.eqs; simp only [EqsL] at es; have c3 := c3.cell hm; have d0 := d0.cell hm; have d1 := d1.cell hm; have d2 := d2.cell hm; go_simp; done) | (rintro w' hm; have es := hm.eqs; simp only [EqsL] at es; have c3 := c3.cell hm; have d0 := d0.cell hm; have d1 := d1.cell hm; have d2 := d2.cell hm; go_simp; with_reducible rfl)
                  simp only [Act.put, List.setIfInBounds_toArray, List.set_cons_zero, List.set_cons_succ, List.getElem_toArray, List.getElem_cons_succ, List.getElem_cons_zero]
                  refine AnyFrom.pure (i := 7) (v := ?_) rfl (by kernel_rfl) (by kernel_rfl) (by kernel_rfl) (by decide) (fun _ _ _ h => h) ⟨by kernel_rfl, ?_⟩ HS ?_
                  rotate_left
                  · first | (intro w'; go_simp; done) | (intro w'; go_simp; with_reducible rfl)
                  simp only [Act.put, List.setIfInBounds_toArray, List.set_cons_zero, List.set_cons_succ, List.getElem_toArray, List.getElem_cons_succ, List.getElem_cons_zero]
                  refine AnyFrom.take (i := 8) (v := ?_) rfl (by kernel_rfl) (by kernel_rfl) (by kernel_rfl) (by kernel_rfl) (fun _ _ _ h => h) ⟨by kernel_rfl, ?_⟩ HS ?_
                  rotate_left
                  · first | (rintro w' hm; have es := hm.eqs; simp only [EqsL] at es; have c3 := c3.cell hm; have d0 := d0.cell hm; have d1 := d1.cell hm; have d2 := d2.cell hm; go_simp; done) | (rintro w' hm; have es := hm.eqs; simp only [EqsL] at es; have c3 := c3.cell hm; have d0 := d0.cell hm; have d1 := d1.cell hm; have d2 := d2.cell hm; go_simp; with_reducible rfl)
                  simp only [Act.put, List.setIfInBounds_toArray, List.set_cons_zero, List.set_cons_succ, List.getElem_toArray, List.getElem_cons_succ, List.getElem_cons_zero]
                  refine AnyFrom.take (i := 9) (v := ?_) rfl (by kernel_rfl) (by kernel_rfl) (by kernel_rfl) (by kernel_rfl) (fun _ _ _ h => h) ⟨by kernel_rfl, ?_⟩ HS ?_
                  rotate_left
                  · first | (rintro w' hm; have es := hm.eqs; simp only [EqsL] at es; have c3 := c3.cell hm; have d0 := d0.cell hm; have d1 := d1.cell hm; have d2 := d2.cell hm; go_simp; done) | (rintro w' hm; have es := hm.eqs; simp only [EqsL] at es; have c3 := c3.cell hm; have d0 := d0.cell hm; have d1 := d1.cell hm; have d2 := d2.cell hm; go_simp; with_reducible rfl)
                  simp only [Act.put, List.setIfInBounds_toArray, List.set_cons_zero, List.set_cons_succ, List.getElem_toArray, List.getElem_cons_succ, List.getElem_cons_zero]
                  refine AnyFrom.take (i := 10) (v := ?_) rfl (by kernel_rfl) (by kernel_rfl) (by kernel_rfl) (by kernel_rfl) (fun _ _ _ h => h) ⟨by kernel_rfl, ?_⟩ HS ?_
                  rotate_left
                  · first | (rintro w' hm; have es := hm.eqs; simp only [EqsL] at es; have c3 := c3.cell hm; have d0 := d0.cell hm; have d1 := d1.cell hm; have d2 := d2.cell hm; go_simp; done) | (rintro w' hm; have es := hm.eqs; simp only [EqsL] at es; have c3 := c3.cell hm; have d0 := d0.cell hm; have d1 := d1.cell hm; have d2 := d2.cell hm; go_simp; with_reducible rfl)
                  simp only [Act.put, List.setIfInBounds_toArray, List.set_cons_zero, List.set_cons_succ, List.getElem_toArray, List.getElem_cons_succ, List.getElem_cons_zero]
                  refine AnyFrom.take (i := 11) (v := ?_) rfl (by kernel_rfl) (by kernel_rfl) (by kernel_rfl) (by kernel_rfl) (fun _ _ _ h => h) ⟨by kernel_rfl, ?_⟩ HS ?_
                  rotate_left
                  · first | (rintro w' hm; have es := hm.eqs; simp only [EqsL] at es; have c3 := c3.cell hm; have d0 := d0.cell hm; have d1 := d1.cell hm; have d2 := d2.cell hm; go_simp; done) | (rintro w' hm; have es := hm.eqs; simp only [EqsL] at es; have c3 := c3.cell hm; have d0 := d0.cell hm; have d1 := d1.cell hm; have d2 := d2.cell hm; go_simp; with_reducible rfl)
                  simp only [Act.put, List.setIfInBounds_toArray, List.set_cons_zero, List.set_cons_succ, List.getElem_toArray, List.getElem_cons_succ, List.getElem_cons_zero]
                  refine AnyFrom.pure (i := 12) (v := ?_) rfl (by kernel_rfl) (by kernel_rfl) (by kernel_rfl) (by decide) (fun _ _ _ h => h) ⟨by kernel_rfl, ?_⟩ HS ?_
                  rotate_left
                  · first | (intro w'; go_simp; done) | (intro w'; go_simp; with_reducible rfl)
                  simp only [Act.put, List.setIfInBounds_toArray, List.set_cons_zero, List.set_cons_succ, List.getElem_toArray, List.getElem_cons_succ, List.getElem_cons_zero]
                  refine AnyFrom.pure (i := 13) (v := ?_) rfl (by kernel_rfl) (by kernel_rfl) (by kernel_rfl) (by decide) (fun _ _ _ h => h) ⟨by kernel_rfl, ?_⟩ HS ?_
                  rotate_left
                  · first | (intro w'; go_simp; done) | (intro w'; go_simp; with_reducible rfl)
                  simp only [Act.put, List.setIfInBounds_toArray, List.set_cons_zero, List.set_cons_succ, List.getElem_toArray, List.getElem_cons_succ, List.getElem_cons_zero]
                  refine AnyFrom.take (i := 14) (v := ?_) rfl (by kernel_rfl) (by kernel_rfl) (by kernel_rfl) (by kernel_rfl) (fun _ _ _ h => h) ⟨by kernel_rfl, ?_⟩ HS ?_
                  rotate_left
                  · first | (rintro w' hm; have es := hm.eqs; simp only [EqsL] at es; have c3 := c3.cell hm; have d0 := d0.cell hm; have d1 := d1.cell hm; have d2 := d2.cell hm; go_simp; done) | (rintro w' hm; have es := hm.eqs; simp only [EqsL] at es; have c3 := c3.cell hm; have d0 := d0.cell hm; have d1 := d1.cell hm; have d2 := d2.cell hm; go_simp; with_reducible rfl)
                  simp only [Act.put, List.setIfInBounds_toArray, List.set_cons_zero, List.set_cons_succ, List.getElem_toArray, List.getElem_cons_succ, List.getElem_cons_zero]
                  refine AnyFrom.take (i := 15) (v := ?_) rfl (by kernel_rfl) (by kernel_rfl) (by kernel_rfl) (by kernel_rfl) (fun _ _ _ h => h) ⟨by kernel_rfl, ?_⟩ HS ?_
                  rotate_left
                  · first | (rintro w' hm; have es := hm.eqs; simp only [EqsL] at es; have c3 := c3.cell hm; have d0 := d0.cell hm; have d1 := d1.cell hm; have d2 := d2.cell hm; go_simp; done) | (rintro w' hm; have es := hm.eqs; simp only [EqsL] at es; have c3 := c3.cell hm; have d0 := d0.cell hm; have d1 := d1.cell hm; have d2 := d2.cell hm; go_simp; with_reducible rfl)
                  simp only [Act.put, List.setIfInBounds_toArray, List.set_cons_zero, List.set_cons_succ, List.getElem_toArray, List.getElem_cons_succ, List.getElem_cons_zero]
                  refine AnyFrom.pure (i := 16) (v := ?_) rfl (by kernel_rfl) (by kernel_rfl) (by kernel_rfl) (by decide) (fun _ _ _ h => h) ⟨by kernel_rfl, ?_⟩ HS ?_
                  rotate_left
                  · first | (intro w'; go_simp; done) | (intro w'; go_simp; with_reducible rfl)
                  simp only [Act.put, List.setIfInBounds_toArray, List.set_cons_zero, List.set_cons_succ, List.getElem_toArray, List.getElem_cons_succ, List.getElem_cons_zero]
                  refine AnyFrom.pure (i := 17) (v := ?_) rfl (by kernel_rfl) (by kernel_rfl) (by kernel_rfl) (by decide) (fun _ _ _ h => h) ⟨by kernel_rfl, ?_⟩ HS ?_
                  rotate_left
                  · first | (intro w'; go_simp; done) | (intro w'; go_simp; with_reducible rfl)
                  simp only [Act.put, List.setIfInBounds_toArray, List.set_cons_zero, List.set_cons_succ, List.getElem_toArray, List.getElem_cons_succ, List.getElem_cons_zero]
                  refine AnyFrom.call (i := 18) (by kernel_rfl) rfl (by kernel_rfl) fun K hK => ?_
                  go_simp
                  refine (isIn_b HBS.out x HVF.out (decide (h.scan ≤ (k : Int))) HVI.out hhf _ _ _ _ _ _ _ hbd.1 hbd.2.1 mW).mono ?_
                  rintro e w7 ⟨rfl, mV⟩
                  refine hK _ _ (.inr mV) ?_
                  clear hK K HS
                  try simp only [Act.put, List.setIfInBounds_toArray, List.set_cons_zero, List.set_cons_succ, List.getElem_toArray, List.getElem_cons_succ, List.getElem_cons_zero]
                  have HS : Mem w0 H ((w.heap.size, .cells #[.int .i64 h.size, .int .i64 h.half, .int .i64 h.scan, .bool true, .slice ob h.old.length oc, .slice (some ⟨blk, off, none⟩) h.new.length nc, .slice rb h.regs.length rc] 31) :: L) w7 := mV
                  refine AnyFrom.pure (i := 19) (v := ?_) rfl (by kernel_rfl) (by kernel_rfl) (by kernel_rfl) (by decide) (fun _ _ _ h => h) ⟨by kernel_rfl, ?_⟩ HS ?_
                  rotate_left
                  · first | (intro w'; go_simp; done) | (intro w'; go_simp; with_reducible rfl)
                  simp only [Act.put, List.setIfInBounds_toArray, List.set_cons_zero, List.set_cons_succ, List.getElem_toArray, List.getElem_cons_succ, List.getElem_cons_zero]
                  refine AnyFrom.done (by kernel_rfl) ?_ _
                  go_wp2_with fail
                  go_roundw
                  case rel => exact ⟨j + 1, by omega, by go_num, mV⟩
                  case measure => simp [intOf]; omega
                · have hjI : ¬ (j : Int) < o.slots.length := by omega
                  go_wp2_with fail
                  go_roundw
                  case rel => exact ⟨k + 1, by omega, by go_num, m6⟩
                  case measure => simp [intOf]; omega
            · have hge : ¬ (k : Int) < h.new.length := by omega
              go_wp2_with fail
              have hvo := validOld_any h HG.out _ _ _ F.out m2
              unfold HVal at hvo
              rw [HBS.out] at hvo
              refine hvo.mono ?_
              rintro e w8 ⟨rfl, m7⟩
              go_wp2_with fail
              go_ret
              exact ⟨rfl, m7.drop⟩
    · have hmI : ¬ (h.new.length : Int) ≤ 1 := by omega
      have HSC := Lib.hid (show decide ((0 : Int) ≤ h.scan ∧ h.scan ≤ (h.new.length : Int) - 1) = true from decide_eq_true (by omega))
      have hwn : IntKind.i64.wrap ((h.new.length : Int) - 1) = (h.new.length : Int) - 1 := wrap_i64s _ (by omega) (by omega)
      go_wp2_with fail
      refine (In_any _ _ _ _).mono ?_
      rintro e w' ⟨rfl, rfl⟩
      rw [HSC.out]
      go_wp2_with fail
      clear es
      go_loopw [3] (fun v3 wr => ∃ k : Nat, k ≤ h.regs.length ∧ v3 = .int .i64 k ∧ Mem w0 H ((w.heap.size, .cells #[.int .i64 h.size, .int .i64 h.half, .int .i64 h.scan, .bool true, .slice ob h.old.length oc, .slice nb h.new.length nc, .slice rb h.regs.length rc] 31) :: L) wr) (fun i _ => h.regs.length - (intOf i).toNat)
      case atStart => exact ⟨0, Nat.zero_le _, rfl, mB⟩
      case round =>
        obtain ⟨k, hk, rfl, m2⟩ := hrel
        clear mB
        have es := m2.eqs
        simp only [EqsL] at es
        by_cases hlt : k < h.regs.length
        · obtain ⟨bs, os, rfl, d0, d1, d2, hvf⟩ := HR.out.getV hlt
          have hltI : (k : Int) < h.regs.length := by omega
          have HVI := Lib.hid (HRG.out _ (List.getElem_mem hlt))
          have HVF := Lib.hid hvf; clear hvf
          generalize h.regs[k] = x at *
          go_wp2_with fail
          clear es
          refine AnyFrom.start (fun w' => Mem w0 H ((w.heap.size, .cells #[.int .i64 h.size, .int .i64 h.half, .int .i64 h.scan, .bool true, .slice ob h.old.length oc, .slice nb h.new.length nc, .slice (some ⟨bs, os, none⟩) h.regs.length rc] 31) :: L) w') 8 (by kernel_rfl) ?_
          have mW := m2.drew
          generalize World.drew _ = W1 at *
          have HS : Mem w0 H ((w.heap.size, .cells #[.int .i64 h.size, .int .i64 h.half, .int .i64 h.scan, .bool true, .slice ob h.old.length oc, .slice nb h.new.length nc, .slice (some ⟨bs, os, none⟩) h.regs.length rc] 31) :: L) W1 := mW
          clear m2
          refine AnyFrom.take (i := 0) (v := ?_) rfl (by kernel_rfl) (by kernel_rfl) (by kernel_rfl) (by kernel_rfl) (fun _ _ _ h => h) ⟨by kernel_rfl, ?_⟩ HS ?_
          rotate_left
          · first | (rintro w' hm; have es := hm.eqs; simp only [EqsL] at es; have d0 := d0.cell hm; have d1 := d1.cell hm; have d2 := d2.cell hm; go_simp; done) | (rintro w' hm; have es := hm.eqs; simp only [EqsL] at es; have d0 := d0.cell hm; have d1 := d1.cell hm; have d2 := d2.cell hm; go_simp; with_reducible rfl)
          simp only [Act.put, List.setIfInBounds_toArray, List.set_cons_zero, List.set_cons_succ, List.getElem_toArray, List.getElem_cons_succ, List.getElem_cons_zero]
          refine AnyFrom.take (i := 1) (v := ?_) rfl (by kernel_rfl) (by kernel_rfl) (by kernel_rfl) (by kernel_rfl) (fun _ _ _ h => h) ⟨by kernel_rfl, ?_⟩ HS ?_
          rotate_left
          · first | (rintro w' hm; have es := hm.eqs; simp only [EqsL] at es; have d0 := d0.cell hm; have d1 := d1.cell hm; have d2 := d2.cell hm; go_simp; done) | (rintro w' hm; have es := hm.eqs; simp only [EqsL] at es; have d0 := d0.cell hm; have d1 := d1.cell hm; have d2 := d2.cell hm; go_simp; with_reducible rfl)
          simp only [Act.put, List.setIfInBounds_toArray, List.set_cons_zero, List.set_cons_succ, List.getElem_toArray, List.getElem_cons_succ, List.getElem_cons_zero]
          refine AnyFrom.take (i := 2) (v := ?_) rfl (by kernel_rfl) (by kernel_rfl) (by kernel_rfl) (by kernel_rfl) (fun _ _ _ h => h) ⟨by kernel_rfl, ?_⟩ HS ?_
          rotate_left
          · first | (rintro w' hm; have es := hm.eqs; simp only [EqsL] at es; have d0 := d0.cell hm; have d1 := d1.cell hm; have d2 := d2.cell hm; go_simp; done) | (rintro w' hm; have es := hm.eqs; simp only [EqsL] at es; have d0 := d0.cell hm; have d1 := d1.cell hm; have d2 := d2.cell hm; go_simp; with_reducible rfl)
          simp only [Act.put, List.setIfInBounds_toArray, List.set_cons_zero, List.set_cons_succ, List.getElem_toArray, List.getElem_cons_succ, List.getElem_cons_zero]
          refine AnyFrom.pure (i := 3) (v := ?_) rfl (by kernel_rfl) (by kernel_rfl) (by kernel_rfl) (by decide) (fun _ _ _ h => h) ⟨by kernel_rfl, ?_⟩ HS ?_
          rotate_left
          · first | (intro w'; go_simp; done) | (intro w'; go_simp; with_reducible rfl)
          simp only [Act.put, List.setIfInBounds_toArray, List.set_cons_zero, List.set_cons_succ, List.getElem_toArray, List.getElem_cons_succ, List.getElem_cons_zero]
          refine AnyFrom.take (i := 4) (v := ?_) rfl (by kernel_rfl) (by kernel_rfl) (by kernel_rfl) (by kernel_rfl) (fun _ _ _ h => h) ⟨by kernel_rfl, ?_⟩ HS ?_
          rotate_left
          · first | (rintro w' hm; have es := hm.eqs; simp only [EqsL] at es; have d0 := d0.cell hm; have d1 := d1.cell hm; have d2 := d2.cell hm; go_simp; done) | (rintro w' hm; have es := hm.eqs; simp only [EqsL] at es; have d0 := d0.cell hm; have d1 := d1.cell hm; have d2 := d2.cell hm; go_simp; with_reducible rfl)
          simp only [Act.put, List.setIfInBounds_toArray, List.set_cons_zero, List.set_cons_succ, List.getElem_toArray, List.getElem_cons_succ, List.getElem_cons_zero]
          refine AnyFrom.take (i := 5) (v := ?_) rfl (by kernel_rfl) (by kernel_rfl) (by kernel_rfl) (by kernel_rfl) (fun _ _ _ h => h) ⟨by kernel_rfl, ?_⟩ HS ?_
          rotate_left
          · first | (rintro w' hm; have es := hm.eqs; simp only [EqsL] at es; have d0 := d0.cell hm; have d1 := d1.cell hm; have d2 := d2.cell hm; go_simp; done) | (rintro w' hm; have es := hm.eqs; simp only [EqsL] at es; have d0 := d0.cell hm; have d1 := d1.cell hm; have d2 := d2.cell hm; go_simp; with_reducible rfl)
          simp only [Act.put, List.setIfInBounds_toArray, List.set_cons_zero, List.set_cons_succ, List.getElem_toArray, List.getElem_cons_succ, List.getElem_cons_zero]
          refine AnyFrom.call (i := 6) (by kernel_rfl) rfl (by kernel_rfl) fun K hK => ?_
          go_simp
          refine (isIn_b HBS.out x HVF.out false HVI.out hhf _ _ _ _ _ _ _ hbd.1 hbd.2.1 mW).mono ?_
          rintro e w7 ⟨rfl, mV⟩
          refine hK _ _ (.inr mV) ?_
          clear hK K HS
          try simp only [Act.put, List.setIfInBounds_toArray, List.set_cons_zero, List.set_cons_succ, List.getElem_toArray, List.getElem_cons_succ, List.getElem_cons_zero]
          have HS : Mem w0 H ((w.heap.size, .cells #[.int .i64 h.size, .int .i64 h.half, .int .i64 h.scan, .bool true, .slice ob h.old.length oc, .slice nb h.new.length nc, .slice (some ⟨bs, os, none⟩) h.regs.length rc] 31) :: L) w7 := mV
          refine AnyFrom.pure (i := 7) (v := ?_) rfl (by kernel_rfl) (by kernel_rfl) (by kernel_rfl) (by decide) (fun _ _ _ h => h) ⟨by kernel_rfl, ?_⟩ HS ?_
          rotate_left
          · first | (intro w'; go_simp; done) | (intro w'; go_simp; with_reducible rfl)
          simp only [Act.put, List.setIfInBounds_toArray, List.set_cons_zero, List.set_cons_succ, List.getElem_toArray, List.getElem_cons_succ, List.getElem_cons_zero]
          refine AnyFrom.done (by kernel_rfl) ?_ _
          go_wp2_with fail
          go_roundw
          case rel => exact ⟨k + 1, by omega, by go_num, mV⟩
          case measure => simp [intOf]; omega
        · have hge : ¬ (k : Int) < h.regs.length := by omega
          go_wp2_with fail
          clear es
          go_loopw [4, 5] (fun v4 _ wr => ∃ k : Nat, k ≤ h.new.length ∧ v4 = .int .i64 k ∧ Mem w0 H ((w.heap.size, .cells #[.int .i64 h.size, .int .i64 h.half, .int .i64 h.scan, .bool true, .slice ob h.old.length oc, .slice nb h.new.length nc, .slice rb h.regs.length rc] 31) :: L) wr) (fun i _ _ => h.new.length - (intOf i).toNat)
          case atStart => exact ⟨0, Nat.zero_le _, rfl, m2⟩
          case round =>
            clear hk hlt hge
            clear m2
            obtain ⟨k, hk, rfl, m2⟩ := hrel
            have es := m2.eqs
            simp only [EqsL] at es
            by_cases hlt : k < h.new.length
            · obtain ⟨blk, off, sv, rfl, c0, c1, c2, c3, hsl, hfit⟩ := HN.out.getObj hlt
              have HSL := Lib.hid hsl
              obtain ⟨b1, c1', rfl, _, hc1', _, _⟩ := hsl
              have hc1' := size_le_maxLen hc1'
              have hltI : (k : Int) < h.new.length := by omega
              have hin := HNW.out k _ (List.getElem?_eq_getElem hlt)
              have HIN := Lib.hid hin
              have hol := hin.len
              clear hin
              have HF := Lib.hid hfit; clear hfit
              generalize h.new[k] = o at *
              have e0 := c0.cell m2
              have e1 := c1.cell m2
              have e2 := c2.cell m2
              have e3 := c3.cell m2
              have hln : ¬ (400 : Int) < (o.slots.length : Int) := by omega
              go_wp2_with fail
              refine (IsPlainObject_any o HF.out _ _ _ m2).mono ?_
              rintro e w4 ⟨rfl, m5⟩
              rw [HIN.out.plain]
              clear es e0 e1 e2 e3
              have es := m5.eqs
              simp only [EqsL] at es
              have e0 := c0.cell m5
              have e1 := c1.cell m5
              have e2 := c2.cell m5
              have e3 := c3.cell m5
              go_wp2_with fail
              clear es m2 e0 e1 e2 e3
              go_loopw [5] (fun v5 wq => ∃ j : Nat, j ≤ o.slots.length ∧ v5 = .int .i64 j ∧ Mem w0 H ((w.heap.size, .cells #[.int .i64 h.size, .int .i64 h.half, .int .i64 h.scan, .bool true, .slice ob h.old.length oc, .slice (some ⟨blk, off, none⟩) h.new.length nc, .slice rb h.regs.length rc] 31) :: L) wq) (fun i _ => o.slots.length - (intOf i).toNat)
              case atStart => exact ⟨0, Nat.zero_le _, rfl, m5⟩
              case round =>
                obtain ⟨j, hj, rfl, m6⟩ := hrel
                clear m5
                have es := m6.eqs
                simp only [EqsL] at es
                have e3 := c3.cell m6
                by_cases hjl : j < o.slots.length
                · obtain ⟨bs, os, rfl, d0, d1, d2, hvf⟩ := HSL.out.getV hjl
                  have hjI : (j : Int) < o.slots.length := by omega
                  have hvi := HIN.out.sl _ (List.getElem_mem hjl)
                  have HVI := Lib.hid hvi; clear hvi
                  have HVF := Lib.hid hvf; clear hvf
                  generalize o.slots[j] = x at *
                  go_wp2_with fail
                  clear es e3
                  refine AnyFrom.start (fun w' => Mem w0 H ((w.heap.size, .cells #[.int .i64 h.size, .int .i64 h.half, .int .i64 h.scan, .bool true, .slice ob h.old.length oc, .slice (some ⟨blk, off, none⟩) h.new.length nc, .slice rb h.regs.length rc] 31) :: L) w') 20 (by kernel_rfl) ?_
                  have mW := m6.drew
                  generalize World.drew _ = W1 at *
                  have HS : Mem w0 H ((w.heap.size, .cells #[.int .i64 h.size, .int .i64 h.half, .int .i64 h.scan, .bool true, .slice ob h.old.length oc, .slice (some ⟨blk, off, none⟩) h.new.length nc, .slice rb h.regs.length rc] 31) :: L) W1 := mW
                  clear m6
                  refine AnyFrom.take (i := 0) (v := ?_) rfl (by kernel_rfl) (by kernel_rfl) (by kernel_rfl) (by kernel_rfl) (fun _ _ _ h => h) ⟨by kernel_rfl, ?_⟩ HS ?_
                  rotate_left
                  · first | (rintro w' hm; have es := hm.eqs; simp only [EqsL] at es; have c3 := c3.cell hm; have d0 := d0.cell hm; have d1 := d1.cell hm; have d2 := d2.cell hm; go_simp; done) | (rintro w' hm; have es := hm.eqs; simp only [EqsL] at es; have c3 := c3.cell hm; have d0 := d0.cell hm; have d1 := d1.cell hm; have d2 := d2.cell hm; go_simp; with_reducible rfl)
                  simp only [Act.put, List.setIfInBounds_toArray, List.set_cons_zero, List.set_cons_succ, List.getElem_toArray, List.getElem_cons_succ, List.getElem_cons_zero]
                  refine AnyFrom.take (i := 1) (v := ?_) rfl (by kernel_rfl) (by kernel_rfl) (by kernel_rfl) (by kernel_rfl) (fun _ _ _ h => h) ⟨by kernel_rfl, ?_⟩ HS ?_
                  rotate_left
                  · first | (rintro w' hm; have es := hm.eqs; simp only [EqsL] at es; have c3 := c3.cell hm; have d0 := d0.cell hm; have d1 := d1.cell hm; have d2 := d2.cell hm; go_simp; done) | (rintro w' hm; have es := hm.eqs; simp only [EqsL] at es; have c3 := c3.cell hm; have d0 := d0.cell hm; have d1 := d1.cell hm; have d2 := d2.cell hm; go_simp; with_reducible rfl)
                  simp only [Act.put, List.setIfInBounds_toArray, List.set_cons_zero, List.set_cons_succ, List.getElem_toArray, List.getElem_cons_succ, List.getElem_cons_zero]
                  refine AnyFrom.take (i := 2) (v := ?_) rfl (by kernel_rfl) (by kernel_rfl) (by kernel_rfl) (by kernel_rfl) (fun _ _ _ h => h) ⟨by kernel_rfl, ?_⟩ HS ?_
                  rotate_left
                  · first | (rintro w' hm; have es := hm.eqs; simp only [EqsL] at es; have c3 := c3.cell hm; have d0 := d0.cell hm; have d1 := d1.cell hm; have d2 := d2.cell hm; go_simp; done) | (rintro w' hm; have es := hm.eqs; simp only [EqsL] at es; have c3 := c3.cell hm; have d0 := d0.cell hm; have d1 := d1.cell hm; have d2 := d2.cell hm; go_simp; with_reducible rfl)
                  simp only [Act.put, List.setIfInBounds_toArray, List.set_cons_zero, List.set_cons_succ, List.getElem_toArray, List.getElem_cons_succ, List.getElem_cons_zero]
                  refine AnyFrom.pure (i := 3) (v := ?_) rfl (by kernel_rfl) (by kernel_rfl) (by kernel_rfl) (by decide) (fun _ _ _ h => h) ⟨by kernel_rfl, ?_⟩ HS ?_
                  rotate_left
                  · first | (intro w'; go_simp; done) | (intro w'; go_simp; with_reducible rfl)
                  simp only [Act.put, List.setIfInBounds_toArray, List.set_cons_zero, List.set_cons_succ, List.getElem_toArray, List.getElem_cons_succ, List.getElem_cons_zero]
                  refine AnyFrom.take (i := 4) (v := ?_) rfl (by kernel_rfl) (by kernel_rfl) (by kernel_rfl) (by kernel_rfl) (fun _ _ _ h => h) ⟨by kernel_rfl, ?_⟩ HS ?_
                  rotate_left
                  · first | (rintro w' hm; have es := hm.eqs; simp only [EqsL] at es; have c3 := c3.cell hm; have d0 := d0.cell hm; have d1 := d1.cell hm; have d2 := d2.cell hm; go_simp; done) | (rintro w' hm; have es := hm.eqs; simp only [EqsL] at es; have c3 := c3.cell hm; have d0 := d0.cell hm; have d1 := d1.cell hm; have d2 := d2.cell hm; go_simp; with_reducible rfl)
                  simp only [Act.put, List.setIfInBounds_toArray, List.set_cons_zero, List.set_cons_succ, List.getElem_toArray, List.getElem_cons_succ, List.getElem_cons_zero]
                  refine AnyFrom.take (i := 5) (v := ?_) rfl (by kernel_rfl) (by kernel_rfl) (by kernel_rfl) (by kernel_rfl) (fun _ _ _ h => h) ⟨by kernel_rfl, ?_⟩ HS ?_
                  rotate_left
                  · first | (rintro w' hm; have es := hm.eqs; simp only [EqsL] at es; have c3 := c3.cell hm; have d0 := d0.cell hm; have d1 := d1.cell hm; have d2 := d2.cell hm; go_simp; done) | (rintro w' hm; have es := hm.eqs; simp only [EqsL] at es; have c3 := c3.cell hm; have d0 := d0.cell hm; have d1 := d1.cell hm; have d2 := d2.cell hm; go_simp; with_reducible rfl)
                  simp only [Act.put, List.setIfInBounds_toArray, List.set_cons_zero, List.set_cons_succ, List.getElem_toArray, List.getElem_cons_succ, List.getElem_cons_zero]
                  refine AnyFrom.take (i := 6) (v := ?_) rfl (by kernel_rfl) (by kernel_rfl) (by kernel_rfl) (by kernel_rfl) (fun _ _ _ h => h) ⟨by kernel_rfl, ?_⟩ HS ?_
                  rotate_left
                  · first | (rintro w' hm; have es := hm.eqs; simp only [EqsL] at es; have c3 := c3.cell hm; have d0 := d0.cell hm; have d1 := d1.cell hm; have d2 := d2.cell hm; go_simp; done) | (rintro w' hm; have es := hm.eqs; simp only [EqsL] at es; have c3 := c3.cell hm; have d0 := d0.cell hm; have d1 := d1.cell hm; have d2 := d2.cell hm; go_simp; with_reducible rfl)
                  simp only [Act.put, List.setIfInBounds_toArray, List.set_cons_zero, List.set_cons_succ, List.getElem_toArray, List.getElem_cons_succ, List.getElem_cons_zero]
                  refine AnyFrom.pure (i := 7) (v := ?_) rfl (by kernel_rfl) (by kernel_rfl) (by kernel_rfl) (by decide) (fun _ _ _ h => h) ⟨by kernel_rfl, ?_⟩ HS ?_
                  rotate_left
                  · first | (intro w'; go_simp; done) | (intro w'; go_simp; with_reducible rfl)
                  simp only [Act.put, List.setIfInBounds_toArray, List.set_cons_zero, List.set_cons_succ, List.getElem_toArray, List.getElem_cons_succ, List.getElem_cons_zero]
                  refine AnyFrom.take (i := 8) (v := ?_) rfl (by kernel_rfl) (by kernel_rfl) (by kernel_rfl) (by kernel_rfl) (fun _ _ _ h => h) ⟨by kernel_rfl, ?_⟩ HS ?_
                  rotate_left
                  · first | (rintro w' hm; have es := hm.eqs; simp only [EqsL] at es; have c3 := c3.cell hm; have d0 := d0.cell hm; have d1 := d1.cell hm; have d2 := d2.cell hm; go_simp; done) | (rintro w' hm; have es := hm.eqs; simp only [EqsL] at es; have c3 := c3.cell hm; have d0 := d0.cell hm; have d1 := d1.cell hm; have d2 := d2.cell hm; go_simp; with_reducible rfl)
                  simp only [Act.put, List.setIfInBounds_toArray, List.set_cons_zero, List.set_cons_succ, List.getElem_toArray, List.getElem_cons_succ, List.getElem_cons_zero]
                  refine AnyFrom.take (i := 9) (v := ?_) rfl (by kernel_rfl) (by kernel_rfl) (by kernel_rfl) (by kernel_rfl) (fun _ _ _ h => h) ⟨by kernel_rfl, ?_⟩ HS ?_
                  rotate_left
                  · first | (rintro w' hm; have es := hm.eqs; simp only [EqsL] at es; have c3 := c3.cell hm; have d0 := d0.cell hm; have d1 := d1.cell hm; have d2 := d2.cell hm; go_simp; done) | (rintro w' hm; have es := hm.eqs; simp only [EqsL] at es; have c3 := c3.cell hm; have d0 := d0.cell hm; have d1 := d1.cell hm; have d2 := d2.cell hm; go_simp; with_reducible rfl)
                  simp only [Act.put, List.setIfInBounds_toArray, List.set_cons_zero, List.set_cons_succ, List.getElem_toArray, List.getElem_cons_succ, List.getElem_cons_zero]
                  refine AnyFrom.take (i := 10) (v := ?_) rfl (by kernel_rfl) (by kernel_rfl) (by kernel_rfl) (by kernel_rfl) (fun _ _ _ h => h) ⟨by kernel_rfl, ?_⟩ HS ?_
                  rotate_left
                  · first | (rintro w' hm; have es := hm.eqs; simp only [EqsL] at es; have c3 := c3.cell hm; have d0 := d0.cell hm; have d1 := d1.cell hm; have d2 := d2.cell hm; go_simp; done) | (rintro w' hm; have es := hm.eqs; simp only [EqsL] at es; have c3 := c3.cell hm; have d0 := d0.cell hm; have d1 := d1.cell hm; have d2 := d2.cell hm; go_simp; with_reducible rfl)
                  simp only [Act.put, List.setIfInBounds_toArray, List.set_cons_zero, List.set_cons_succ, List.getElem_toArray, List.getElem_cons_succ, List.getElem_cons_zero]
                  refine AnyFrom.take (i := 11) (v := ?_) rfl (by kernel_rfl) (by kernel_rfl) (by kernel_rfl) (by kernel_rfl) (fun _ _ _ h => h) ⟨by kernel_rfl, ?_⟩ HS ?_
                  rotate_left
                  · first | (rintro w' hm; have es := hm.eqs; simp only [EqsL] at es; have c3 := c3.cell hm; have d0 := d0.cell hm; have d1 := d1.cell hm; have d2 := d2.cell hm; go_simp; done) | (rintro w' hm; have es := hm.eqs; simp only [EqsL] at es; have c3 := c3.cell hm; have d0 := d0.cell hm; have d1 := d1.cell hm; have d2 := d2.cell hm; go_simp; with_reducible rfl)
                  simp only [Act.put, List.setIfInBounds_toArray, List.set_cons_zero, List.set_cons_succ, List.getElem_toArray, List.getElem_cons_succ, List.getElem_cons_zero]
                  refine AnyFrom.pure (i := 12) (v := ?_) rfl (by kernel_rfl) (by kernel_rfl) (by kernel_rfl) (by decide) (fun _ _ _ h => h) ⟨by kernel_rfl, ?_⟩ HS ?_
                  rotate_left
                  · first | (intro w'; go_simp; done) | (intro w'; go_simp; with_reducible rfl)
                  simp only [Act.put, List.setIfInBounds_toArray, List.set_cons_zero, List.set_cons_succ, List.getElem_toArray, List.getElem_cons_succ, List.getElem_cons_zero]
                  refine AnyFrom.pure (i := 13) (v := ?_) rfl (by kernel_rfl) (by kernel_rfl) (by kernel_rfl) (by decide) (fun _ _ _ h => h) ⟨by kernel_rfl, ?_⟩ HS ?_
                  rotate_left
                  · first | (intro w'; go_simp; done) | (intro w'; go_simp; with_reducible rfl)
                  simp only [Act.put, List.setIfInBounds_toArray, List.set_cons_zero, List.set_cons_succ, List.getElem_toArray, List.getElem_cons_succ, List.getElem_cons_zero]
                  refine AnyFrom.take (i := 14) (v := ?_) rfl (by kernel_rfl) (by kernel_rfl) (by kernel_rfl) (by kernel_rfl) (fun _ _ _ h => h) ⟨by kernel_rfl, ?_⟩ HS ?_
                  rotate_left
                  · first | (rintro w' hm; have es := hm.eqs; simp only [EqsL] at es; have c3 := c3.cell hm; have d0 := d0.cell hm; have d1 := d1.cell hm; have d2 := d2.cell hm; go_simp; done) | (rintro w' hm; have es := hm.eqs; simp only [EqsL] at es; have c3 := c3.cell hm; have d0 := d0.cell hm; have d1 := d1.cell hm; have d2 := d2.cell hm; go_simp; with_reducible rfl)
                  simp only [Act.put, List.setIfInBounds_toArray, List.set_cons_zero, List.set_cons_succ, List.getElem_toArray, List.getElem_cons_succ, List.getElem_cons_zero]
                  refine AnyFrom.take (i := 15) (v := ?_) rfl (by kernel_rfl) (by kernel_rfl) (by kernel_rfl) (by kernel_rfl) (fun _ _ _ h => h) ⟨by kernel_rfl, ?_⟩ HS ?_
                  rotate_left
                  · first | (rintro w' hm; have es := hm.eqs; simp only [EqsL] at es; have c3 := c3.cell hm; have d0 := d0.cell hm; have d1 := d1.cell hm; have d2 := d2.cell hm; go_simp; done) | (rintro w' hm; have es := hm.eqs; simp only [EqsL] at es; have c3 := c3.cell hm; have d0 := d0.cell hm; have d1 := d1.cell hm; have d2 := d2.cell hm; go_simp; with_reducible rfl)
                  simp only [Act.put, List.setIfInBounds_toArray, List.set_cons_zero, List.set_cons_succ, List.getElem_toArray, List.getElem_cons_succ, List.getElem_cons_zero]
                  refine AnyFrom.pure (i := 16) (v := ?_) rfl (by kernel_rfl) (by kernel_rfl) (by kernel_rfl) (by decide) (fun _ _ _ h => h) ⟨by kernel_rfl, ?_⟩ HS ?_
                  rotate_left
                  · first | (intro w'; go_simp; done) | (intro w'; go_simp; with_reducible rfl)
                  simp only [Act.put, List.setIfInBounds_toArray, List.set_cons_zero, List.set_cons_succ, List.getElem_toArray, List.getElem_cons_succ, List.getElem_cons_zero]
                  refine AnyFrom.pure (i := 17) (v := ?_) rfl (by kernel_rfl) (by kernel_rfl) (by kernel_rfl) (by decide) (fun _ _ _ h => h) ⟨by kernel_rfl, ?_⟩ HS ?_
                  rotate_left
                  · first | (intro w'; go_simp; done) | (intro w'; go_simp; with_reducible rfl)
                  simp only [Act.put, List.setIfInBounds_toArray, List.set_cons_zero, List.set_cons_succ, List.getElem_toArray, List.getElem_cons_succ, List.getElem_cons_zero]
                  refine AnyFrom.call (i := 18) (by kernel_rfl) rfl (by kernel_rfl) fun K hK => ?_
                  go_simp
                  refine (isIn_b HBS.out x HVF.out (decide (h.scan ≤ (k : Int))) HVI.out hhf _ _ _ _ _ _ _ hbd.1 hbd.2.1 mW).mono ?_
                  rintro e w7 ⟨rfl, mV⟩
                  refine hK _ _ (.inr mV) ?_
                  clear hK K HS
                  try simp only [Act.put, List.setIfInBounds_toArray, List.set_cons_zero, List.set_cons_succ, List.getElem_toArray, List.getElem_cons_succ, List.getElem_cons_zero]
                  have HS : Mem w0 H ((w.heap.size, .cells #[.int .i64 h.size, .int .i64 h.half, .int .i64 h.scan, .bool true, .slice ob h.old.length oc, .slice (some ⟨blk, off, none⟩) h.new.length nc, .slice rb h.regs.length rc] 31) :: L) w7 := mV
                  refine AnyFrom.pure (i := 19) (v := ?_) rfl (by kernel_rfl) (by kernel_rfl) (by kernel_rfl) (by decide) (fun _ _ _ h => h) ⟨by kernel_rfl, ?_⟩ HS ?_
                  rotate_left
                  · first | (intro w'; go_simp; done) | (intro w'; go_simp; with_reducible rfl)
                  simp only [Act.put, List.setIfInBounds_toArray, List.set_cons_zero, List.set_cons_succ, List.getElem_toArray, List.getElem_cons_succ, List.getElem_cons_zero]
                  refine AnyFrom.done (by kernel_rfl) ?_ _
                  go_wp2_with fail
                  go_roundw
                  case rel => exact ⟨j + 1, by omega, by go_num, mV⟩
                  case measure => simp [intOf]; omega
                · have hjI : ¬ (j : Int) < o.slots.length := by omega
                  go_wp2_with fail
                  go_roundw
                  case rel => exact ⟨k + 1, by omega, by go_num, m6⟩
                  case measure => simp [intOf]; omega
            · have hge : ¬ (k : Int) < h.new.length := by omega
              go_wp2_with fail
              have hvo := validOld_any h HG.out _ _ _ F.out m2
              unfold HVal at hvo
              rw [HBS.out] at hvo
              refine hvo.mono ?_
              rintro e w8 ⟨rfl, m7⟩
              go_wp2_with fail
              go_ret
              exact ⟨rfl, m7.drop⟩
end Go.Proofs.Ythipkmmdjhpklaa
