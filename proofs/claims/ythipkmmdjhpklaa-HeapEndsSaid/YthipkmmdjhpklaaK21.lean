/- The walk: any valid heap, taken over. The walks: Check, Words, Live, Do at any valid heap. How a deed ends, with or without an error; small laws for walks. No program's function in sight but Do. The walk: Finish at any valid heap. Plain law: collections end; how many objects there are while one goes on. No program in sight. -/
import Derived.Test.YthipkmmdjhpklaaK20
import Derived.Test.YthipkmmdjhpklaaK18
import Derived.Test.YthipkmmdjhpklaaK19
import Derived.Test.YthipkmmdjhpklaaK09
namespace Go.Proofs.Ythipkmmdjhpklaa
set_option linter.unusedVariables false
set_option linter.unusedSimpArgs false
open Go.RowKit

theorem perm_bn1 {α : Type} (x k p b : α) (Lq R : List α) : (x :: k :: p :: b :: (Lq ++ R)).Perm (Lq ++ (x :: k :: p :: b :: R)) := (by classical exact List.perm_iff_count.2 (fun a => by simp only [List.count_append, List.count_cons, List.cons_append, List.nil_append, List.append_assoc]; omega))
theorem perm_bn2 {α : Type} (k p b : α) (Lq R : List α) : (Lq ++ (k :: p :: b :: R)).Perm (k :: p :: b :: (Lq ++ R)) := (by classical exact List.perm_iff_count.2 (fun a => by simp only [List.count_append, List.count_cons, List.cons_append, List.nil_append, List.append_assoc]; omega))
theorem perm_bn3 {α : Type} (x k p b : α) (L : List α) : (x :: k :: p :: b :: L).Perm (k :: p :: b :: x :: L) := (by classical exact List.perm_iff_count.2 (fun a => by simp only [List.count_append, List.count_cons, List.cons_append, List.nil_append, List.append_assoc]; omega))
set_option maxRecDepth 10000 in
set_option maxHeartbeats 8000000 in
theorem newHeap_any (h : HeapM) (g : HGood h) (vo vn vr : Value) {w0 w : World} {H : Hp} {L : List (Nat × Obj)} (f : HFr H h vo vn vr) (m : Mem w0 H L w) :
    Calls Try.prog 50 #[HVal h vo vn vr] w fun e w' => ∃ H' b, e = .returned (.tuple #[.pointer (some ⟨b, 0, none⟩), .int .i64 0]) ∧ Hle H H' ∧ HeapOwn TH b h w0 H' L w' := by
  obtain ⟨hvo, hvn, hvr⟩ := f
  have HO := Lib.hid hvo
  have HV := Lib.hid hvn
  have HX := Lib.hid hvr
  obtain ⟨ob, oc, rfl, _, hoc, _, _⟩ := hvo
  obtain ⟨nb, nc, rfl, _, hnc, _, _⟩ := hvn
  obtain ⟨rb, rc, rfl, _, hrc, _, _⟩ := hvr
  have hoc := size_le_maxLen hoc
  have hnc := size_le_maxLen hnc
  have hrc := size_le_maxLen hrc
  have hbds := g.ok.hbd
  have hrl := g.ok.regl
  have hbd := g.ok.core.bounds
  have hnl := hbd.1
  have HNB := Lib.hid hbds.ns
  have HOB := Lib.hid hbds.os
  have HG := Lib.hid g; clear g hbds
  unfold HVal
  have m1 := (m.alloc (.cells #[.int .i64 h.size, .int .i64 h.half, .int .i64 h.scan, .bool h.busy, .slice ob h.old.length oc, .slice nb h.new.length nc, .slice rb h.regs.length rc] 31)).alloc (HBox TH h.size h.half h.scan h.busy (.slice ob h.old.length oc) (.slice nb h.new.length nc) (.slice rb h.regs.length rc))
  rw [World.size_alloc] at m1
  go_enter Try.func50, Try.ntmps50
  go_wp2_with fail
  refine (isValid_any (w.heap.size + 1) h HG.out _ _ _ HO.out HV.out HX.out m1).mono ?_
  rintro e w1 ⟨rfl, m2⟩
  have m3 := m2.perm (perm_nh1 _ _ _)
  clear m1 m2
  have mu := m3
  unfold HBox at mu
  have es := mu.eqs
  simp only [EqsL] at es
  go_wp2_with fail
  clear es mu
  refine AnyFrom.start (fun w' => ∃ L', Mem w0 H ((w.heap.size, .cells #[.int .i64 h.size, .int .i64 h.half, .int .i64 h.scan, .bool h.busy, .slice ob h.old.length oc, .slice nb h.new.length nc, .slice rb h.regs.length rc] 31) :: L') w') 21 (by kernel_rfl) ?_
  have mW := m3.drew
  clear m3
  generalize w1.drew = W at *
  have HS : ∃ L', Mem w0 H ((w.heap.size, .cells #[.int .i64 h.size, .int .i64 h.half, .int .i64 h.scan, .bool h.busy, .slice ob h.old.length oc, .slice nb h.new.length nc, .slice rb h.regs.length rc] 31) :: L') W := ⟨_, mW⟩
  refine AnyFrom.pure (i := 0) (v := ?_) rfl (by kernel_rfl) (by kernel_rfl) (by kernel_rfl) (by decide) (fun _ _ _ h => h) ⟨by kernel_rfl, ?_⟩ HS ?_
  rotate_left
  · first | (intro w'; go_simp; done) | (intro w'; go_simp; with_reducible rfl)
  simp only [Act.put, List.setIfInBounds_toArray, List.set_cons_zero, List.set_cons_succ]
  refine AnyFrom.pure (i := 1) (v := ?_) rfl (by kernel_rfl) (by kernel_rfl) (by kernel_rfl) (by decide) (fun _ _ _ h => h) ⟨by kernel_rfl, ?_⟩ HS ?_
  rotate_left
  · first | (intro w'; go_simp; done) | (intro w'; go_simp; with_reducible rfl)
  simp only [Act.put, List.setIfInBounds_toArray, List.set_cons_zero, List.set_cons_succ]
  refine AnyFrom.pure (i := 2) (v := ?_) rfl (by kernel_rfl) (by kernel_rfl) (by kernel_rfl) (by decide) (fun _ _ _ h => h) ⟨by kernel_rfl, ?_⟩ HS ?_
  rotate_left
  · first | (intro w'; go_simp; done) | (intro w'; go_simp; with_reducible rfl)
  simp only [Act.put, List.setIfInBounds_toArray, List.set_cons_zero, List.set_cons_succ]
  refine AnyFrom.take (i := 3) (v := ?_) rfl (by kernel_rfl) (by kernel_rfl) (by kernel_rfl) (by kernel_rfl) (fun _ _ _ h => h) ⟨by kernel_rfl, ?_⟩ HS ?_
  rotate_left
  · first | (rintro w' ⟨L', hm⟩; have es := hm.eqs; simp only [EqsL] at es; go_simp; done) | (rintro w' ⟨L', hm⟩; have es := hm.eqs; simp only [EqsL] at es; go_simp; with_reducible rfl)
  simp only [Act.put, List.setIfInBounds_toArray, List.set_cons_zero, List.set_cons_succ]
  refine AnyFrom.take (i := 4) (v := ?_) rfl (by kernel_rfl) (by kernel_rfl) (by kernel_rfl) (by kernel_rfl) (fun _ _ _ h => h) ⟨by kernel_rfl, ?_⟩ HS ?_
  rotate_left
  · first | (rintro w' ⟨L', hm⟩; have es := hm.eqs; simp only [EqsL] at es; go_simp; done) | (rintro w' ⟨L', hm⟩; have es := hm.eqs; simp only [EqsL] at es; go_simp; with_reducible rfl)
  simp only [Act.put, List.setIfInBounds_toArray, List.set_cons_zero, List.set_cons_succ]
  refine AnyFrom.take (i := 6) (v := ?_) rfl (by kernel_rfl) (by kernel_rfl) (by kernel_rfl) (by kernel_rfl) (fun _ _ _ h => h) ⟨by kernel_rfl, ?_⟩ HS ?_
  rotate_left
  · first | (rintro w' ⟨L', hm⟩; have es := hm.eqs; simp only [EqsL] at es; go_simp; done) | (rintro w' ⟨L', hm⟩; have es := hm.eqs; simp only [EqsL] at es; go_simp; with_reducible rfl)
  simp only [Act.put, List.setIfInBounds_toArray, List.set_cons_zero, List.set_cons_succ]
  refine AnyFrom.take (i := 7) (v := ?_) rfl (by kernel_rfl) (by kernel_rfl) (by kernel_rfl) (by kernel_rfl) (fun _ _ _ h => h) ⟨by kernel_rfl, ?_⟩ HS ?_
  rotate_left
  · first | (rintro w' ⟨L', hm⟩; have es := hm.eqs; simp only [EqsL] at es; go_simp; done) | (rintro w' ⟨L', hm⟩; have es := hm.eqs; simp only [EqsL] at es; go_simp; with_reducible rfl)
  simp only [Act.put, List.setIfInBounds_toArray, List.set_cons_zero, List.set_cons_succ]
  refine AnyFrom.call (i := 5) (by kernel_rfl) rfl (by kernel_rfl) fun K hK => ?_
  go_simp
  refine (CloneV_any _ h.regs mW HX.out (by omega)).mono ?_
  rintro e w2 ⟨cb, cc, L0, rfl, hcl, mA⟩
  have mB := mA.perm (perm_nh2 _ _ L0 L)
  clear mA
  refine hK _ _ (.inr ⟨_, mB⟩) ?_
  clear hK K HS
  try simp only [Act.put, List.setIfInBounds_toArray, List.set_cons_zero, List.set_cons_succ]
  have HS : ∃ L', Mem w0 H ((w.heap.size, .cells #[.int .i64 h.size, .int .i64 h.half, .int .i64 h.scan, .bool h.busy, .slice ob h.old.length oc, .slice nb h.new.length nc, .slice rb h.regs.length rc] 31) :: L') _ := ⟨_, mB⟩
  refine AnyFrom.call (i := 8) (by kernel_rfl) rfl (by kernel_rfl) fun K hK => ?_
  go_simp
  refine (objects_any _ h.new HV.out HNB.out (by omega) mB).mono ?_
  rintro e w4 ⟨ab, ac, rs, Ln, Ls, rfl, hn, hs, mC⟩
  have mD := mC.perm (perm_nh3 _ _ Ln Ls L0 L)
  clear mC
  refine hK _ _ (.inr ⟨_, mD⟩) ?_
  clear hK K HS
  try simp only [Act.put, List.setIfInBounds_toArray, List.set_cons_zero, List.set_cons_succ]
  have HS : ∃ L', Mem w0 H ((w.heap.size, .cells #[.int .i64 h.size, .int .i64 h.half, .int .i64 h.scan, .bool h.busy, .slice ob h.old.length oc, .slice nb h.new.length nc, .slice rb h.regs.length rc] 31) :: L') _ := ⟨_, mD⟩
  refine AnyFrom.call (i := 9) (by kernel_rfl) rfl (by kernel_rfl) fun K hK => ?_
  go_simp
  refine hK _ _ (.inr ⟨_, mD⟩) ?_
  clear hK K HS
  try simp only [Act.put, List.setIfInBounds_toArray, List.set_cons_zero, List.set_cons_succ]
  have HS : ∃ L', Mem w0 H ((w.heap.size, .cells #[.int .i64 h.size, .int .i64 h.half, .int .i64 h.scan, .bool h.busy, .slice ob h.old.length oc, .slice nb h.new.length nc, .slice rb h.regs.length rc] 31) :: L') _ := ⟨_, mD⟩
  refine AnyFrom.call (i := 10) (by kernel_rfl) rfl (by kernel_rfl) fun K hK => ?_
  go_simp
  refine hK _ _ (.inr ⟨_, mD⟩) ?_
  clear hK K HS
  try simp only [Act.put, List.setIfInBounds_toArray, List.set_cons_zero, List.set_cons_succ]
  have HS : ∃ L', Mem w0 H ((w.heap.size, .cells #[.int .i64 h.size, .int .i64 h.half, .int .i64 h.scan, .bool h.busy, .slice ob h.old.length oc, .slice nb h.new.length nc, .slice rb h.regs.length rc] 31) :: L') _ := ⟨_, mD⟩
  refine AnyFrom.call (i := 11) (by kernel_rfl) rfl (by kernel_rfl) fun K hK => ?_
  go_simp
  refine hK _ _ (.inr ⟨_, mD⟩) ?_
  clear hK K HS
  try simp only [Act.put, List.setIfInBounds_toArray, List.set_cons_zero, List.set_cons_succ]
  have HS : ∃ L', Mem w0 H ((w.heap.size, .cells #[.int .i64 h.size, .int .i64 h.half, .int .i64 h.scan, .bool h.busy, .slice ob h.old.length oc, .slice nb h.new.length nc, .slice rb h.regs.length rc] 31) :: L') _ := ⟨_, mD⟩
  have mu := mD
  try unfold HBox at mu
  have es := mu.eqs
  simp only [EqsL] at es
  refine AnyFrom.call (i := 12) (by kernel_rfl) rfl (by kernel_rfl) fun K hK => ?_
  go_simp
  have mE := mD.set (i := 6) (v := .slice cb h.regs.length cc) (.tail .head)
  simp only [List.setIfInBounds_toArray, List.set_cons_zero, List.set_cons_succ] at mE
  clear es mu
  refine hK _ _ (.inr ⟨_, mE⟩) ?_
  clear hK K HS
  try simp only [Act.put, List.setIfInBounds_toArray, List.set_cons_zero, List.set_cons_succ]
  have HS : ∃ L', Mem w0 H ((w.heap.size, .cells #[.int .i64 h.size, .int .i64 h.half, .int .i64 h.scan, .bool h.busy, .slice ob h.old.length oc, .slice nb h.new.length nc, .slice rb h.regs.length rc] 31) :: L') _ := ⟨_, mE⟩
  refine AnyFrom.call (i := 13) (by kernel_rfl) rfl (by kernel_rfl) fun K hK => ?_
  go_simp
  refine hK _ _ (.inr ⟨_, mE⟩) ?_
  clear hK K HS
  try simp only [Act.put, List.setIfInBounds_toArray, List.set_cons_zero, List.set_cons_succ]
  have HS : ∃ L', Mem w0 H ((w.heap.size, .cells #[.int .i64 h.size, .int .i64 h.half, .int .i64 h.scan, .bool h.busy, .slice ob h.old.length oc, .slice nb h.new.length nc, .slice rb h.regs.length rc] 31) :: L') _ := ⟨_, mE⟩
  refine AnyFrom.call (i := 14) (by kernel_rfl) rfl (by kernel_rfl) fun K hK => ?_
  go_simp
  refine hK _ _ (.inr ⟨_, mE⟩) ?_
  clear hK K HS
  try simp only [Act.put, List.setIfInBounds_toArray, List.set_cons_zero, List.set_cons_succ]
  have HS : ∃ L', Mem w0 H ((w.heap.size, .cells #[.int .i64 h.size, .int .i64 h.half, .int .i64 h.scan, .bool h.busy, .slice ob h.old.length oc, .slice nb h.new.length nc, .slice rb h.regs.length rc] 31) :: L') _ := ⟨_, mE⟩
  refine AnyFrom.call (i := 15) (by kernel_rfl) rfl (by kernel_rfl) fun K hK => ?_
  go_simp
  refine hK _ _ (.inr ⟨_, mE⟩) ?_
  clear hK K HS
  try simp only [Act.put, List.setIfInBounds_toArray, List.set_cons_zero, List.set_cons_succ]
  have HS : ∃ L', Mem w0 H ((w.heap.size, .cells #[.int .i64 h.size, .int .i64 h.half, .int .i64 h.scan, .bool h.busy, .slice ob h.old.length oc, .slice nb h.new.length nc, .slice rb h.regs.length rc] 31) :: L') _ := ⟨_, mE⟩
  have mu := mE
  try unfold HBox at mu
  have es := mu.eqs
  simp only [EqsL] at es
  refine AnyFrom.call (i := 16) (by kernel_rfl) rfl (by kernel_rfl) fun K hK => ?_
  go_simp
  have mF := mE.set (i := 5) (v := .slice ab rs.length ac) (.tail .head)
  simp only [List.setIfInBounds_toArray, List.set_cons_zero, List.set_cons_succ] at mF
  clear es mu
  refine hK _ _ (.inr ⟨_, mF⟩) ?_
  clear hK K HS
  try simp only [Act.put, List.setIfInBounds_toArray, List.set_cons_zero, List.set_cons_succ]
  have HS : ∃ L', Mem w0 H ((w.heap.size, .cells #[.int .i64 h.size, .int .i64 h.half, .int .i64 h.scan, .bool h.busy, .slice ob h.old.length oc, .slice nb h.new.length nc, .slice rb h.regs.length rc] 31) :: L') _ := ⟨_, mF⟩
  refine AnyFrom.call (i := 17) (by kernel_rfl) rfl (by kernel_rfl) fun K hK => ?_
  go_simp
  refine hK _ _ (.inr ⟨_, mF⟩) ?_
  clear hK K HS
  try simp only [Act.put, List.setIfInBounds_toArray, List.set_cons_zero, List.set_cons_succ]
  have HS : ∃ L', Mem w0 H ((w.heap.size, .cells #[.int .i64 h.size, .int .i64 h.half, .int .i64 h.scan, .bool h.busy, .slice ob h.old.length oc, .slice nb h.new.length nc, .slice rb h.regs.length rc] 31) :: L') _ := ⟨_, mF⟩
  refine AnyFrom.call (i := 18) (by kernel_rfl) rfl (by kernel_rfl) fun K hK => ?_
  go_simp
  refine hK _ _ (.inr ⟨_, mF⟩) ?_
  clear hK K HS
  try simp only [Act.put, List.setIfInBounds_toArray, List.set_cons_zero, List.set_cons_succ]
  have HS : ∃ L', Mem w0 H ((w.heap.size, .cells #[.int .i64 h.size, .int .i64 h.half, .int .i64 h.scan, .bool h.busy, .slice ob h.old.length oc, .slice nb h.new.length nc, .slice rb h.regs.length rc] 31) :: L') _ := ⟨_, mF⟩
  refine AnyFrom.call (i := 19) (by kernel_rfl) rfl (by kernel_rfl) fun K hK => ?_
  go_simp
  refine hK _ _ (.inr ⟨_, mF⟩) ?_
  clear hK K HS
  try simp only [Act.put, List.setIfInBounds_toArray, List.set_cons_zero, List.set_cons_succ]
  have HS : ∃ L', Mem w0 H ((w.heap.size, .cells #[.int .i64 h.size, .int .i64 h.half, .int .i64 h.scan, .bool h.busy, .slice ob h.old.length oc, .slice nb h.new.length nc, .slice rb h.regs.length rc] 31) :: L') _ := ⟨_, mF⟩
  have mu := mF
  try unfold HBox at mu
  have es := mu.eqs
  simp only [EqsL] at es
  refine AnyFrom.call (i := 20) (by kernel_rfl) rfl (by kernel_rfl) fun K hK => ?_
  go_simp
  have mG := mF.set (i := 4) (v := .slice none 0 0) (.tail .head)
  simp only [List.setIfInBounds_toArray, List.set_cons_zero, List.set_cons_succ] at mG
  clear es mu
  refine hK _ _ (.inr ⟨_, mG⟩) ?_
  clear hK K HS
  try simp only [Act.put, List.setIfInBounds_toArray, List.set_cons_zero, List.set_cons_succ]
  have HS : ∃ L', Mem w0 H ((w.heap.size, .cells #[.int .i64 h.size, .int .i64 h.half, .int .i64 h.scan, .bool h.busy, .slice ob h.old.length oc, .slice nb h.new.length nc, .slice rb h.regs.length rc] 31) :: L') _ := ⟨_, mG⟩
  refine AnyFrom.done (by kernel_rfl) ?_ _
  clear HS
  generalize ((w4.setCell _ _).setCell _ _).setCell _ _ = W9 at *
  have mu := mG
  have es := mu.eqs
  simp only [EqsL] at es
  go_wp2_with fail
  clear es mu
  go_loopw [6, 34] (fun _ v34 wr => ∃ (k : Nat) (H' : Hp) (qb : Option Addr) (qc : Nat) (hr : List (RowM × Int)) (Lq : List (Nat × Obj)), k ≤ h.old.length ∧ v34 = .int .i64 k ∧ Hle H H' ∧ AccL 87 5 (.slice qb k qc) k (heldCs hr) Lq ∧ hr.length = k ∧ HeldF H' hr (h.old.take k) ∧ Mem w0 H' ((w.heap.size, .cells #[.int .i64 h.size, .int .i64 h.half, .int .i64 h.scan, .bool h.busy, .slice ob h.old.length oc, .slice nb h.new.length nc, .slice rb h.regs.length rc] 31) :: (w.heap.size + 1, .cells #[.int .i64 h.size, .int .i64 h.half, .int .i64 h.scan, .bool h.busy, .slice qb k qc, .slice ab rs.length ac, .slice cb h.regs.length cc] TH) :: (Lq ++ (Ln ++ (Ls ++ (L0 ++ L))))) wr) (fun _ i _ => h.old.length - (intOf i).toNat)
  case atStart => exact ⟨0, H, none, 0, [], [], Nat.zero_le _, rfl, Hle.refl _, AccL.nil, rfl, .nil, mG⟩
  case round =>
    obtain ⟨k, H', qb, qc, hr, Lq, hk, rfl, hle, hq, hhl, hhf, mH⟩ := hrel
    clear mG
    have HHL := Lib.hid hhl; clear hhl
    have HHF := Lib.hid hhf; clear hhf
    by_cases hlt : k < h.old.length
    · obtain ⟨blo, offo, svo, hbo, o0, o1, o2, o3, o4, hslo, hfto, hto⟩ := (HO.out.mono hle).getHeld hlt
      have HSLO := Lib.hid hslo
      obtain ⟨bo1, co1, rfl, -, hco1, -, -⟩ := hslo
      have hco1 := size_le_maxLen hco1
      subst hbo
      have o0 := o0.cell mH
      have o1 := o1.cell mH
      have o2 := o2.cell mH
      have o3 := o3.cell mH
      have o4 := o4.cell mH
      have hok := HOB.out _ (List.getElem_mem hlt)
      have htk : h.old.take (k + 1) = h.old.take k ++ [h.old[k]] := List.take_succ_eq_append_getElem hlt
      have HTK := Lib.hid htk; clear htk
      have HFTO := Lib.hid hfto; clear hfto
      have HTO := Lib.hid hto; clear hto
      have hltI : (k : Int) < h.old.length := by omega
      generalize h.old[k] = p at *
      obtain ⟨po, pt⟩ := p
      simp only at *
      have es := mH.eqs
      simp only [EqsL] at es
      have mF0 := mH.alloc (.cells #[.int .u8 po.kind, .string po.name, .int .i64 po.n, .slice bo1 po.slots.length co1, .int .i64 pt] 87)
      go_wp2_with fail
      clear o0 o1 o2 o3 o4 es
      refine AnyFrom.start (fun w' => ∃ H'' L'', Mem w0 H'' ((wr.heap.size, .cells #[.int .u8 po.kind, .string po.name, .int .i64 po.n, .slice bo1 po.slots.length co1, .int .i64 pt] 87) :: (w.heap.size, .cells #[.int .i64 h.size, .int .i64 h.half, .int .i64 h.scan, .bool h.busy, .slice (some ⟨blo, offo, none⟩) h.old.length oc, .slice nb h.new.length nc, .slice rb h.regs.length rc] 31) :: (w.heap.size + 1, .cells #[.int .i64 h.size, .int .i64 h.half, .int .i64 h.scan, .bool h.busy, .slice qb k qc, .slice ab rs.length ac, .slice cb h.regs.length cc] TH) :: L'') w') 17 (by kernel_rfl) ?_
      have mW := mF0.drew
      generalize World.drew _ = W at *
      clear mF0 mH
      have HS : (fun w' => ∃ H'' L'', Mem w0 H'' ((wr.heap.size, .cells #[.int .u8 po.kind, .string po.name, .int .i64 po.n, .slice bo1 po.slots.length co1, .int .i64 pt] 87) :: (w.heap.size, .cells #[.int .i64 h.size, .int .i64 h.half, .int .i64 h.scan, .bool h.busy, .slice (some ⟨blo, offo, none⟩) h.old.length oc, .slice nb h.new.length nc, .slice rb h.regs.length rc] 31) :: (w.heap.size + 1, .cells #[.int .i64 h.size, .int .i64 h.half, .int .i64 h.scan, .bool h.busy, .slice qb k qc, .slice ab rs.length ac, .slice cb h.regs.length cc] TH) :: L'') w') W := ⟨_, _, mW⟩
      refine AnyFrom.pure (i := 0) (v := ?_) rfl (by kernel_rfl) (by kernel_rfl) (by kernel_rfl) (by decide) (fun _ _ _ h => h) ⟨by kernel_rfl, ?_⟩ HS ?_
      rotate_left
      · first | (intro w'; go_simp; done) | (intro w'; go_simp; with_reducible rfl)
      simp only [Act.put, List.setIfInBounds_toArray, List.set_cons_zero, List.set_cons_succ, List.getElem_toArray, List.getElem_cons_succ, List.getElem_cons_zero]
      refine AnyFrom.pure (i := 1) (v := ?_) rfl (by kernel_rfl) (by kernel_rfl) (by kernel_rfl) (by decide) (fun _ _ _ h => h) ⟨by kernel_rfl, ?_⟩ HS ?_
      rotate_left
      · first | (intro w'; go_simp; done) | (intro w'; go_simp; with_reducible rfl)
      simp only [Act.put, List.setIfInBounds_toArray, List.set_cons_zero, List.set_cons_succ, List.getElem_toArray, List.getElem_cons_succ, List.getElem_cons_zero]
      refine AnyFrom.take (i := 2) (v := ?_) rfl (by kernel_rfl) (by kernel_rfl) (by kernel_rfl) (by kernel_rfl) (fun _ _ _ h => h) ⟨by kernel_rfl, ?_⟩ HS ?_
      rotate_left
      · first | (rintro w' ⟨H'', L'', hm⟩; have es := hm.eqs; simp only [EqsL] at es; go_simp; done) | (rintro w' ⟨H'', L'', hm⟩; have es := hm.eqs; simp only [EqsL] at es; go_simp; with_reducible rfl)
      simp only [Act.put, List.setIfInBounds_toArray, List.set_cons_zero, List.set_cons_succ, List.getElem_toArray, List.getElem_cons_succ, List.getElem_cons_zero]
      refine AnyFrom.take (i := 3) (v := ?_) rfl (by kernel_rfl) (by kernel_rfl) (by kernel_rfl) (by kernel_rfl) (fun _ _ _ h => h) ⟨by kernel_rfl, ?_⟩ HS ?_
      rotate_left
      · first | (rintro w' ⟨H'', L'', hm⟩; have es := hm.eqs; simp only [EqsL] at es; go_simp; done) | (rintro w' ⟨H'', L'', hm⟩; have es := hm.eqs; simp only [EqsL] at es; go_simp; with_reducible rfl)
      simp only [Act.put, List.setIfInBounds_toArray, List.set_cons_zero, List.set_cons_succ, List.getElem_toArray, List.getElem_cons_succ, List.getElem_cons_zero]
      refine AnyFrom.take (i := 4) (v := ?_) rfl (by kernel_rfl) (by kernel_rfl) (by kernel_rfl) (by kernel_rfl) (fun _ _ _ h => h) ⟨by kernel_rfl, ?_⟩ HS ?_
      rotate_left
      · first | (rintro w' ⟨H'', L'', hm⟩; have es := hm.eqs; simp only [EqsL] at es; go_simp; done) | (rintro w' ⟨H'', L'', hm⟩; have es := hm.eqs; simp only [EqsL] at es; go_simp; with_reducible rfl)
      simp only [Act.put, List.setIfInBounds_toArray, List.set_cons_zero, List.set_cons_succ, List.getElem_toArray, List.getElem_cons_succ, List.getElem_cons_zero]
      refine AnyFrom.take (i := 5) (v := ?_) rfl (by kernel_rfl) (by kernel_rfl) (by kernel_rfl) (by kernel_rfl) (fun _ _ _ h => h) ⟨by kernel_rfl, ?_⟩ HS ?_
      rotate_left
      · first | (rintro w' ⟨H'', L'', hm⟩; have es := hm.eqs; simp only [EqsL] at es; go_simp; done) | (rintro w' ⟨H'', L'', hm⟩; have es := hm.eqs; simp only [EqsL] at es; go_simp; with_reducible rfl)
      simp only [Act.put, List.setIfInBounds_toArray, List.set_cons_zero, List.set_cons_succ, List.getElem_toArray, List.getElem_cons_succ, List.getElem_cons_zero]
      refine AnyFrom.take (i := 6) (v := ?_) rfl (by kernel_rfl) (by kernel_rfl) (by kernel_rfl) (by kernel_rfl) (fun _ _ _ h => h) ⟨by kernel_rfl, ?_⟩ HS ?_
      rotate_left
      · first | (rintro w' ⟨H'', L'', hm⟩; have es := hm.eqs; simp only [EqsL] at es; go_simp; done) | (rintro w' ⟨H'', L'', hm⟩; have es := hm.eqs; simp only [EqsL] at es; go_simp; with_reducible rfl)
      simp only [Act.put, List.setIfInBounds_toArray, List.set_cons_zero, List.set_cons_succ, List.getElem_toArray, List.getElem_cons_succ, List.getElem_cons_zero]
      refine AnyFrom.take (i := 7) (v := ?_) rfl (by kernel_rfl) (by kernel_rfl) (by kernel_rfl) (by kernel_rfl) (fun _ _ _ h => h) ⟨by kernel_rfl, ?_⟩ HS ?_
      rotate_left
      · first | (rintro w' ⟨H'', L'', hm⟩; have es := hm.eqs; simp only [EqsL] at es; go_simp; done) | (rintro w' ⟨H'', L'', hm⟩; have es := hm.eqs; simp only [EqsL] at es; go_simp; with_reducible rfl)
      simp only [Act.put, List.setIfInBounds_toArray, List.set_cons_zero, List.set_cons_succ, List.getElem_toArray, List.getElem_cons_succ, List.getElem_cons_zero]
      refine AnyFrom.take (i := 9) (v := ?_) rfl (by kernel_rfl) (by kernel_rfl) (by kernel_rfl) (by kernel_rfl) (fun _ _ _ h => h) ⟨by kernel_rfl, ?_⟩ HS ?_
      rotate_left
      · first | (rintro w' ⟨H'', L'', hm⟩; have es := hm.eqs; simp only [EqsL] at es; go_simp; done) | (rintro w' ⟨H'', L'', hm⟩; have es := hm.eqs; simp only [EqsL] at es; go_simp; with_reducible rfl)
      simp only [Act.put, List.setIfInBounds_toArray, List.set_cons_zero, List.set_cons_succ, List.getElem_toArray, List.getElem_cons_succ, List.getElem_cons_zero]
      refine AnyFrom.take (i := 10) (v := ?_) rfl (by kernel_rfl) (by kernel_rfl) (by kernel_rfl) (by kernel_rfl) (fun _ _ _ h => h) ⟨by kernel_rfl, ?_⟩ HS ?_
      rotate_left
      · first | (rintro w' ⟨H'', L'', hm⟩; have es := hm.eqs; simp only [EqsL] at es; go_simp; done) | (rintro w' ⟨H'', L'', hm⟩; have es := hm.eqs; simp only [EqsL] at es; go_simp; with_reducible rfl)
      simp only [Act.put, List.setIfInBounds_toArray, List.set_cons_zero, List.set_cons_succ, List.getElem_toArray, List.getElem_cons_succ, List.getElem_cons_zero]
      refine AnyFrom.call (i := 8) (by kernel_rfl) rfl (by kernel_rfl) fun K hK => ?_
      go_simp
      refine (object_any po HFTO.out _ mW HSLO.out hok).mono ?_
      rintro e w5 ⟨b5, c5, L1, rfl, hown5, mX⟩
      obtain ⟨H2, mY, hle2, hsl5⟩ := hown5.freeze mX
      have HSL5 := Lib.hid hsl5; clear hsl5 mW mX hown5
      refine hK _ _ (.inr ⟨_, _, mY⟩) ?_
      clear hK K HS
      try simp only [Act.put, List.setIfInBounds_toArray, List.set_cons_zero, List.set_cons_succ, List.getElem_toArray, List.getElem_cons_succ, List.getElem_cons_zero]
      have HS : (fun w' => ∃ H'' L'', Mem w0 H'' ((wr.heap.size, .cells #[.int .u8 po.kind, .string po.name, .int .i64 po.n, .slice bo1 po.slots.length co1, .int .i64 pt] 87) :: (w.heap.size, .cells #[.int .i64 h.size, .int .i64 h.half, .int .i64 h.scan, .bool h.busy, .slice (some ⟨blo, offo, none⟩) h.old.length oc, .slice nb h.new.length nc, .slice rb h.regs.length rc] 31) :: (w.heap.size + 1, .cells #[.int .i64 h.size, .int .i64 h.half, .int .i64 h.scan, .bool h.busy, .slice qb k qc, .slice ab rs.length ac, .slice cb h.regs.length cc] TH) :: L'') w') w5 := ⟨_, _, mY⟩
      refine AnyFrom.pure (i := 11) (v := ?_) rfl (by kernel_rfl) (by kernel_rfl) (by kernel_rfl) (by decide) (fun _ _ _ h => h) ⟨by kernel_rfl, ?_⟩ HS ?_
      rotate_left
      · first | (intro w'; go_simp; done) | (intro w'; go_simp; with_reducible rfl)
      simp only [Act.put, List.setIfInBounds_toArray, List.set_cons_zero, List.set_cons_succ, List.getElem_toArray, List.getElem_cons_succ, List.getElem_cons_zero]
      refine AnyFrom.call (i := 12) (by kernel_rfl) rfl (by kernel_rfl) fun K hK => ?_
      go_simp
      generalize hxo : World.alloc w5 _ = wX
      have mX : Mem w0 H2 ((w5.heap.size, .cells #[.int .u8 po.kind, .string po.name, .int .i64 po.n, .slice b5 po.slots.length c5, .int .i64 pt] 87) :: (wr.heap.size, .cells #[.int .u8 po.kind, .string po.name, .int .i64 po.n, .slice bo1 po.slots.length co1, .int .i64 pt] 87) :: (w.heap.size, .cells #[.int .i64 h.size, .int .i64 h.half, .int .i64 h.scan, .bool h.busy, .slice (some ⟨blo, offo, none⟩) h.old.length oc, .slice nb h.new.length nc, .slice rb h.regs.length rc] 31) :: (w.heap.size + 1, .cells #[.int .i64 h.size, .int .i64 h.half, .int .i64 h.scan, .bool h.busy, .slice qb k qc, .slice ab rs.length ac, .slice cb h.regs.length cc] TH) :: (Lq ++ (Ln ++ (Ls ++ (L0 ++ L))))) wX := by rw [← hxo]; exact mY.alloc _
      generalize w5.heap.size = xo at *
      clear hxo mY
      have mX3 := mX.perm (perm_bn3 _ _ _ _ _)
      refine hK _ _ (.inr ⟨_, _, mX3⟩) ?_
      clear hK K HS
      try simp only [Act.put, List.setIfInBounds_toArray, List.set_cons_zero, List.set_cons_succ, List.getElem_toArray, List.getElem_cons_succ, List.getElem_cons_zero]
      have HS : (fun w' => ∃ H'' L'', Mem w0 H'' ((wr.heap.size, .cells #[.int .u8 po.kind, .string po.name, .int .i64 po.n, .slice bo1 po.slots.length co1, .int .i64 pt] 87) :: (w.heap.size, .cells #[.int .i64 h.size, .int .i64 h.half, .int .i64 h.scan, .bool h.busy, .slice (some ⟨blo, offo, none⟩) h.old.length oc, .slice nb h.new.length nc, .slice rb h.regs.length rc] 31) :: (w.heap.size + 1, .cells #[.int .i64 h.size, .int .i64 h.half, .int .i64 h.scan, .bool h.busy, .slice qb k qc, .slice ab rs.length ac, .slice cb h.regs.length cc] TH) :: L'') w') wX := ⟨_, _, mX3⟩
      have mJ := mX.perm (perm_bn1 _ _ _ _ Lq _)
      clear mX mX3
      obtain ⟨_, _, hqe, hq1, hq2⟩ := hq.shape
      cases hqe
      refine AnyFrom.one (i := 13) (by kernel_rfl) (AnyFrom.opIf rfl fun K hK => ?_)
      refine step_append_mem (w0 := w0) (H := H2) (L := _ :: _) rfl _ _ 27 rfl 87 5 64 (.agg #[.int .u8 0, .string ByteArray.empty, .int .i64 0, .slice none 0 0, .int .i64 0]) Try.underlying27 (by kernel_rfl) rfl (by decide) (.slice qb k qc) k (heldCs hr) (hq.join mJ) rfl (.slice (some ⟨xo, 0, none⟩) 1 1) 1 [.int .u8 po.kind, .string po.name, .int .i64 po.n, .slice b5 po.slots.length c5, .int .i64 pt] (Src.loc (e := 87) (hq.join mJ).mem (.head _)) rfl rfl (one5 rfl) (by omega) (by unfold maxLen; omega) ?_
      intro v' w6 hacc
      obtain ⟨b6, c6, rfl, _, _⟩ := hacc.shape
      obtain ⟨Lq3, hq3, mK⟩ := hacc.drop.split
      have mL := mK.perm (perm_bn2 _ _ _ Lq3 _)
      clear hacc mK mJ
      refine hK _ _ (.inr ⟨_, _, mL⟩) ?_
      clear hK K HS
      try simp only [Act.put, List.setIfInBounds_toArray, List.set_cons_zero, List.set_cons_succ, List.getElem_toArray, List.getElem_cons_succ, List.getElem_cons_zero]
      have HS : (fun w' => ∃ H'' L'', Mem w0 H'' ((wr.heap.size, .cells #[.int .u8 po.kind, .string po.name, .int .i64 po.n, .slice bo1 po.slots.length co1, .int .i64 pt] 87) :: (w.heap.size, .cells #[.int .i64 h.size, .int .i64 h.half, .int .i64 h.scan, .bool h.busy, .slice (some ⟨blo, offo, none⟩) h.old.length oc, .slice nb h.new.length nc, .slice rb h.regs.length rc] 31) :: (w.heap.size + 1, .cells #[.int .i64 h.size, .int .i64 h.half, .int .i64 h.scan, .bool h.busy, .slice qb k qc, .slice ab rs.length ac, .slice cb h.regs.length cc] TH) :: L'') w') w6 := ⟨_, _, mL⟩
      refine AnyFrom.call (i := 14) (by kernel_rfl) rfl (by kernel_rfl) fun K hK => ?_
      go_simp
      refine hK _ _ (.inr ⟨_, _, mL⟩) ?_
      clear hK K HS
      try simp only [Act.put, List.setIfInBounds_toArray, List.set_cons_zero, List.set_cons_succ, List.getElem_toArray, List.getElem_cons_succ, List.getElem_cons_zero]
      have HS : (fun w' => ∃ H'' L'', Mem w0 H'' ((wr.heap.size, .cells #[.int .u8 po.kind, .string po.name, .int .i64 po.n, .slice bo1 po.slots.length co1, .int .i64 pt] 87) :: (w.heap.size, .cells #[.int .i64 h.size, .int .i64 h.half, .int .i64 h.scan, .bool h.busy, .slice (some ⟨blo, offo, none⟩) h.old.length oc, .slice nb h.new.length nc, .slice rb h.regs.length rc] 31) :: (w.heap.size + 1, .cells #[.int .i64 h.size, .int .i64 h.half, .int .i64 h.scan, .bool h.busy, .slice qb k qc, .slice ab rs.length ac, .slice cb h.regs.length cc] TH) :: L'') w') w6 := ⟨_, _, mL⟩
      refine AnyFrom.call (i := 15) (by kernel_rfl) rfl (by kernel_rfl) fun K hK => ?_
      go_simp
      refine hK _ _ (.inr ⟨_, _, mL⟩) ?_
      clear hK K HS
      try simp only [Act.put, List.setIfInBounds_toArray, List.set_cons_zero, List.set_cons_succ, List.getElem_toArray, List.getElem_cons_succ, List.getElem_cons_zero]
      have HS : (fun w' => ∃ H'' L'', Mem w0 H'' ((wr.heap.size, .cells #[.int .u8 po.kind, .string po.name, .int .i64 po.n, .slice bo1 po.slots.length co1, .int .i64 pt] 87) :: (w.heap.size, .cells #[.int .i64 h.size, .int .i64 h.half, .int .i64 h.scan, .bool h.busy, .slice (some ⟨blo, offo, none⟩) h.old.length oc, .slice nb h.new.length nc, .slice rb h.regs.length rc] 31) :: (w.heap.size + 1, .cells #[.int .i64 h.size, .int .i64 h.half, .int .i64 h.scan, .bool h.busy, .slice qb k qc, .slice ab rs.length ac, .slice cb h.regs.length cc] TH) :: L'') w') w6 := ⟨_, _, mL⟩
      refine AnyFrom.call (i := 16) (by kernel_rfl) rfl (by kernel_rfl) fun K hK => ?_
      go_simp
      refine hK _ _ (.inr ⟨_, _, mL⟩) ?_
      clear hK K HS
      try simp only [Act.put, List.setIfInBounds_toArray, List.set_cons_zero, List.set_cons_succ, List.getElem_toArray, List.getElem_cons_succ, List.getElem_cons_zero]
      have HS : (fun w' => ∃ H'' L'', Mem w0 H'' ((wr.heap.size, .cells #[.int .u8 po.kind, .string po.name, .int .i64 po.n, .slice bo1 po.slots.length co1, .int .i64 pt] 87) :: (w.heap.size, .cells #[.int .i64 h.size, .int .i64 h.half, .int .i64 h.scan, .bool h.busy, .slice (some ⟨blo, offo, none⟩) h.old.length oc, .slice nb h.new.length nc, .slice rb h.regs.length rc] 31) :: (w.heap.size + 1, .cells #[.int .i64 h.size, .int .i64 h.half, .int .i64 h.scan, .bool h.busy, .slice qb k qc, .slice ab rs.length ac, .slice cb h.regs.length cc] TH) :: L'') w') w6 := ⟨_, _, mL⟩
      have es := mL.eqs
      simp only [EqsL] at es
      refine AnyFrom.one (i := 17) (by kernel_rfl) (AnyFrom.op rfl (by kernel_rfl) fun K hK => ?_)
      go_simp
      have mM := (mL.set (i := 4) (v := .slice b6 (k + 1) c6) (.tail (.tail .head))).drop
      simp only [List.setIfInBounds_toArray, List.set_cons_zero, List.set_cons_succ] at mM
      refine hK _ _ (.inl ⟨17, by decide, by rfl⟩) ?_
      clear hK K HS es
      try simp only [Act.put, List.setIfInBounds_toArray, List.set_cons_zero, List.set_cons_succ, List.getElem_toArray, List.getElem_cons_succ, List.getElem_cons_zero]
      refine AnyFrom.done (by kernel_rfl) ?_ _
      go_wp2_with fail
      go_roundw
      case rel =>
        refine ⟨k + 1, H2, b6, c6, hr ++ [(⟨po.kind, po.name, po.n, .slice b5 po.slots.length c5⟩, pt)], Lq3, by omega, by go_num, hle.trans hle2, ?_, by rw [List.length_append, HHL.out]; rfl, ?_, mM⟩
        · rw [heldCs_append]; exact hq3
        · rw [HTK.out]; exact (HHF.out.mono hle2).snoc ⟨rfl, rfl, rfl, HFTO.out, HSL5.out⟩ HTO.out
      case measure => simp [intOf]; omega
    · have hge : ¬ (k : Int) < h.old.length := by omega
      have hk' : k = h.old.length := by omega
      have hhf := HHF.out
      rw [hk', List.take_length] at hhf
      have HHF2 := Lib.hid hhf
      clear hhf hk'
      go_wp2_with fail
      refine bodyPost_ret (v := .tuple #[.pointer (some ⟨w.heap.size + 1, 0, none⟩), .int .i64 0]) (by simp [results, Try.results50, go_sem]) rfl ?_
      exact ⟨H', _, rfl, hle, rs, _, Ls, L0, hs, hcl, _, _, hr, Lq, Ln, by rw [HHL.out]; exact hq, HHF2.out, hn, mH.drop⟩
end Go.Proofs.Ythipkmmdjhpklaa
namespace Go.Proofs.Ythipkmmdjhpklaa
set_option linter.unusedVariables false
set_option linter.unusedSimpArgs false
open Go.RowKit

set_option maxRecDepth 10000 in
set_option maxHeartbeats 4000000 in
theorem Check_any (h : HeapM) (g : HGood h) (vo vn vr : Value) {w0 w : World} {H : Hp} {L : List (Nat × Obj)} (f : HFr H h vo vn vr) (m : Mem w0 H L w) :
    Calls Try.prog 26 #[HVal h vo vn vr] w (Ret w0 H L (.int .i64 0)) := by
  have F := Lib.hid f
  obtain ⟨ob, oc, rfl⟩ := f.o.shape
  obtain ⟨nb, nc, rfl⟩ := f.n.shape
  obtain ⟨rb, rc, rfl⟩ := f.r.shape
  clear f
  have HG := Lib.hid g; clear g
  have m1 := (m.alloc (.cells #[.int .i64 h.size, .int .i64 h.half, .int .i64 h.scan, .bool h.busy, .slice ob h.old.length oc, .slice nb h.new.length nc, .slice rb h.regs.length rc] 31)).drop
  unfold HVal
  go_enter Try.func26, Try.ntmps26
  go_wp2_with fail
  refine (newHeap_any h HG.out _ _ _ F.out m1).mono ?_
  rintro e w1 ⟨H', b, rfl, hle, hc⟩
  obtain ⟨LH, m2, _⟩ := HeapOwn.out (L1 := []) hc
  go_wp2_with fail
  go_ret
  exact ⟨rfl, (Mem.dropL LH m2).weaken hle⟩
theorem due_used {h : HeapM} (g : HGood h) : 0 ≤ h.used ∧ 0 ≤ h.due ∧ h.used + h.due ≤ h.size ∧ h.size ≤ 6000 := by
  have h1 := wordsM_ge (lens h.new)
  have h3 := dueL_ge h.old fun p hp => (g.ok.core.old p hp).1
  have h4 := g.ok.core.words
  have h5 := g.ok.core.size.2
  have e1 : h.used = wordsM (lens h.new) := rfl
  have e2 : h.due = dueL h.old := rfl
  rw [e1, e2]
  omega
set_option maxRecDepth 10000 in
set_option maxHeartbeats 4000000 in
theorem WordsB_any (h : HeapM) (g : HGood h) (vo vn vr : Value) {w0 w : World} {H : Hp} {L : List (Nat × Obj)} (f : HFr H h vo vn vr) (m : Mem w0 H L w) :
    Calls Try.prog 25 #[HVal h vo vn vr] w (Ret w0 H L (.tuple #[.int .i64 h.used, .int .i64 h.due, .int .i64 (h.size - h.used - h.due), .int .i64 0])) := by
  have hud := due_used g
  have hbd := g.ok.hbd
  have F := Lib.hid f
  obtain ⟨ob, oc, rfl⟩ := f.o.shape
  obtain ⟨nb, nc, rfl⟩ := f.n.shape
  obtain ⟨rb, rc, rfl⟩ := f.r.shape
  clear f
  have HG := Lib.hid g; clear g
  have m1 := (m.alloc (.cells #[.int .i64 h.size, .int .i64 h.half, .int .i64 h.scan, .bool h.busy, .slice ob h.old.length oc, .slice nb h.new.length nc, .slice rb h.regs.length rc] 31)).drop
  unfold HVal
  go_enter Try.func25, Try.ntmps25
  go_wp2_with fail
  refine (newHeap_any h HG.out _ _ _ F.out m1).mono ?_
  rintro e w1 ⟨H', b, rfl, hle, hc⟩
  go_wp2_with fail
  refine (used_any b h hc hbd.nl hbd.ns).mono ?_
  rintro e w2 ⟨rfl, hc2⟩
  go_wp2_with fail
  refine (due_any b h hc2 hbd.ol hbd.os).mono ?_
  rintro e w3 ⟨rfl, hc3⟩
  obtain ⟨rs, rv, Ls, Lr, hs, hv3, vo3, vn3, hr3, Lo, Ln, h1, h2, h3, m3⟩ := hc3
  have hw1 : IntKind.i64.wrap (h.size - h.used) = h.size - h.used := wrap_i64s _ (by omega) (by omega)
  have hw2 : IntKind.i64.wrap (h.size - h.used - h.due) = h.size - h.used - h.due := wrap_i64s _ (by omega) (by omega)
  generalize hus : h.used = us at *
  generalize hdu : h.due = du at *
  have HUS := Lib.hid hus; clear hus
  have HDU := Lib.hid hdu; clear hdu
  have mu := m3
  unfold HBox at mu
  have es := mu.eqs
  simp only [EqsL] at es
  go_wp2_with fail
  go_quiet (fail)
  go_wp2_with fail
  refine bodyPost_ret (v := .tuple #[.int .i64 us, .int .i64 du, .int .i64 (h.size - us - du), .int .i64 0]) (by simp [results, Try.results25, go_sem]) rfl ?_
  exact ⟨rfl, (Mem.dropL Lr (Mem.dropL Ls (Mem.dropL Ln (Mem.dropL Lo ((m3.drewN _).drop))))).weaken hle⟩
set_option maxRecDepth 10000 in
set_option maxHeartbeats 4000000 in
theorem LiveB_any (Fu : Nat) (h : HeapM) (g : HGood h) (vo vn vr : Value) {w0 w : World} {H : Hp} {L : List (Nat × Obj)} (f : HFr H h vo vn vr) (m : Mem w0 H L w) (hF : 12000 * 401 + h.regs.length ≤ Fu) :
    Calls Try.prog 29 #[HVal h vo vn vr] w (Ret w0 H L (.tuple #[.int .i64 ((h.liveN Fu [] h.regs).length : Nat), .int .i64 0])) := by
  have HF := Lib.hid hF; clear hF
  have F := Lib.hid f
  obtain ⟨ob, oc, rfl⟩ := f.o.shape
  obtain ⟨nb, nc, rfl⟩ := f.n.shape
  obtain ⟨rb, rc, rfl⟩ := f.r.shape
  clear f
  have HG := Lib.hid g; clear g
  have m1 := (m.alloc (.cells #[.int .i64 h.size, .int .i64 h.half, .int .i64 h.scan, .bool h.busy, .slice ob h.old.length oc, .slice nb h.new.length nc, .slice rb h.regs.length rc] 31)).drop
  unfold HVal
  go_enter Try.func29, Try.ntmps29
  go_wp2_with fail
  refine (newHeap_any h HG.out _ _ _ F.out m1).mono ?_
  rintro e w1 ⟨H1, b, rfl, hle1, hc⟩
  obtain ⟨H', vo, vn', vr', hle, hvo, hvn, hvr, m2⟩ := hc.freeze
  obtain ⟨ob2, oc2, rfl⟩ := hvo.shape
  obtain ⟨nb2, nc2, rfl⟩ := hvn.shape
  obtain ⟨rb2, rc2, rfl⟩ := hvr.shape
  have HVO := Lib.hid hvo
  have HVN := Lib.hid hvn
  have HVR := Lib.hid hvr
  clear hvo hvn hvr
  go_wp2_with fail
  refine (live_any b h HG.out.ok Fu HF.out ob2 nb2 rb2 oc2 nc2 rc2 HVO.out HVN.out HVR.out m2).mono ?_
  rintro e w2 ⟨rfl, m3⟩
  generalize hlv : h.liveN Fu [] h.regs = lv at *
  have HLV := Lib.hid hlv; clear hlv
  go_wp2_with fail
  refine bodyPost_ret (v := .tuple #[.int .i64 (lv.length : Nat), .int .i64 0]) (by simp [results, Try.results29, go_sem]) rfl ?_
  exact ⟨rfl, m3.weaken (hle1.trans hle)⟩
/-- How a deed on a heap handed over ends. -/
def DoR (r : Int × ValM × HeapM) (w0 : World) (H : Hp) (L : List (Nat × Obj)) (e : Ending) (w' : World) : Prop :=
  (r.1 ≠ 0 ∧ e = .returned (.tuple #[heapZ, unitV.v, .int .i64 r.1]) ∧ Mem w0 H L w') ∨
  (r.1 = 0 ∧ ∃ H' vo vn vr, e = .returned (.tuple #[HVal r.2.2 vo vn vr, r.2.1.v, .int .i64 0]) ∧ Hle H H' ∧ HFr H' r.2.2 vo vn vr ∧ Mem w0 H' L w')
theorem perm_dn1 {α : Type} (a b c d : α) (L : List α) : (a :: b :: c :: d :: L).Perm (c :: d :: a :: b :: L) := (by classical exact List.perm_iff_count.2 (fun a => by simp only [List.count_append, List.count_cons, List.cons_append, List.nil_append, List.append_assoc]; omega))
theorem perm_dn2 {α : Type} (v b x y : α) (L : List α) : (v :: b :: x :: y :: L).Perm (x :: y :: b :: v :: L) := (by classical exact List.perm_iff_count.2 (fun a => by simp only [List.count_append, List.count_cons, List.cons_append, List.nil_append, List.append_assoc]; omega))
set_option maxRecDepth 10000 in
set_option maxHeartbeats 8000000 in
theorem DoB_any (h : HeapM) (g : HGood h) (vo vn vr : Value) {w0 w : World} {H : Hp} {L : List (Nat × Obj)} (f : HFr H h vo vn vr) (m : Mem w0 H L w) (d : DeedM) (lv sv : Value) (hd : DeedR H d lv sv) (ha : d.a ≤ 100000) :
    Calls Try.prog 24 #[HVal h vo vn vr, d.v lv sv] w (DoR (h.do d) w0 H L) := by
  have F := Lib.hid f
  obtain ⟨ob, oc, rfl⟩ := f.o.shape
  obtain ⟨nb, nc, rfl⟩ := f.n.shape
  obtain ⟨rb, rc, rfl⟩ := f.r.shape
  clear f
  have HG := Lib.hid g; clear g
  have HD := Lib.hid hd
  have HA := Lib.hid ha; clear ha
  obtain ⟨lb, lc, rfl, _, _, _, _⟩ := hd.list
  obtain ⟨sb, sc, rfl, _, _, _, _⟩ := hd.slots
  clear hd
  have m1 := ((((m.alloc (.cells #[.int .i64 h.size, .int .i64 h.half, .int .i64 h.scan, .bool h.busy, .slice ob h.old.length oc, .slice nb h.new.length nc, .slice rb h.regs.length rc] 31)).alloc (DBox d (.slice lb d.list.length lc) (.slice sb d.obj.slots.length sc))).alloc (.cells #[.int .i64 0, .int .i64 0, .int .i64 0, .bool false, .slice none 0 0, .slice none 0 0, .slice none 0 0] 31)).alloc (.cells #[.int .u8 0, .int .i64 0, .string ByteArray.empty] 50))
  simp only [World.size_alloc] at m1
  unfold HVal DeedM.v
  have mu := m1
  unfold DBox at mu
  have es := mu.eqs
  simp only [EqsL] at es
  go_enter Try.func24, Try.ntmps24
  go_wp2_with fail
  refine (newHeap_any h HG.out _ _ _ F.out m1).mono ?_
  rintro e w1 ⟨H1, b, rfl, hle1, hc⟩
  obtain ⟨LH1, mB, _⟩ := HeapOwn.out (L1 := []) hc
  clear es mu m1
  have mu := mB.perm (List.perm_append_comm (l₁ := LH1))
  unfold DBox at mu
  simp only [List.cons_append] at mu
  have es := mu.eqs
  simp only [EqsL] at es
  go_wp2_with fail
  refine (do_any b h d _ _ hc (HD.out.mono hle1) HG.out.ok HA.out).mono ?_
  rintro e w2 ⟨rfl, H2, hle2, hc2⟩
  clear es mu mB hc
  have HG2 := Lib.hid (HG.out.do d)
  generalize hres : h.do d = r at *
  have HRES := Lib.hid hres; clear hres
  obtain ⟨re, rx, rh⟩ := r
  simp only at *
  obtain ⟨H3, vo3, vn3, vr3, hle3, hvo, hvn, hvr, m3⟩ := hc2.freeze
  have HFF := Lib.hid (HFr.mk hvo hvn hvr)
  obtain ⟨ob3, oc3, rfl⟩ := hvo.shape
  obtain ⟨nb3, nc3, rfl⟩ := hvn.shape
  obtain ⟨rb3, rc3, rfl⟩ := hvr.shape
  clear hvo hvn hvr hc2
  obtain ⟨rk, rn, rs⟩ := rx
  unfold ValM.v
  have HLE := Lib.hid ((hle1.trans hle2).trans hle3)
  clear hle1 hle2 hle3
  have m4 := m3.alloc (.cells #[.int .u8 rk, .int .i64 rn, .string rs] 50)
  have mu := m4
  unfold DBox HBox at mu
  have es := mu.eqs
  simp only [EqsL] at es
  have ns := mu.nes
  simp only [NeL, NeFrom] at ns
  by_cases hre : re = 0
  · subst hre
    go_wp2_with fail
    clear es ns
    refine AnyFrom.start (fun w' => ∃ L', Mem w0 H3 ((w2.heap.size, .cells #[.int .u8 rk, .int .i64 rn, .string rs] 50) :: (b, .cells #[.int .i64 rh.size, .int .i64 rh.half, .int .i64 rh.scan, .bool rh.busy, .slice ob3 rh.old.length oc3, .slice nb3 rh.new.length nc3, .slice rb3 rh.regs.length rc3] TH) :: L') w') 8 (by kernel_rfl) ?_
    have mW := mu.drew
    generalize World.drew _ = W at *
    clear mu m3 m4
    have HS : (fun w' => ∃ L', Mem w0 H3 ((w2.heap.size, .cells #[.int .u8 rk, .int .i64 rn, .string rs] 50) :: (b, .cells #[.int .i64 rh.size, .int .i64 rh.half, .int .i64 rh.scan, .bool rh.busy, .slice ob3 rh.old.length oc3, .slice nb3 rh.new.length nc3, .slice rb3 rh.regs.length rc3] TH) :: L') w') W := ⟨_, mW⟩
    refine AnyFrom.pure (i := 0) (v := ?_) rfl (by kernel_rfl) (by kernel_rfl) (by kernel_rfl) (by decide) (fun _ _ _ h => h) ⟨by kernel_rfl, ?_⟩ HS ?_
    rotate_left
    · first | (intro w'; go_simp; done) | (intro w'; go_simp; with_reducible rfl)
    simp only [Act.put, List.setIfInBounds_toArray, List.set_cons_zero, List.set_cons_succ, List.getElem_toArray, List.getElem_cons_succ, List.getElem_cons_zero]
    refine AnyFrom.take (i := 1) (v := ?_) rfl (by kernel_rfl) (by kernel_rfl) (by kernel_rfl) (by kernel_rfl) (fun _ _ _ h => h) ⟨by kernel_rfl, ?_⟩ HS ?_
    rotate_left
    · first | (rintro w' ⟨L', hm⟩; have es := hm.eqs; simp only [EqsL] at es; go_simp; done) | (rintro w' ⟨L', hm⟩; have es := hm.eqs; simp only [EqsL] at es; go_simp; with_reducible rfl)
    simp only [Act.put, List.setIfInBounds_toArray, List.set_cons_zero, List.set_cons_succ, List.getElem_toArray, List.getElem_cons_succ, List.getElem_cons_zero]
    refine AnyFrom.take (i := 2) (v := ?_) rfl (by kernel_rfl) (by kernel_rfl) (by kernel_rfl) (by kernel_rfl) (fun _ _ _ h => h) ⟨by kernel_rfl, ?_⟩ HS ?_
    rotate_left
    · first | (rintro w' ⟨L', hm⟩; have es := hm.eqs; simp only [EqsL] at es; go_simp; done) | (rintro w' ⟨L', hm⟩; have es := hm.eqs; simp only [EqsL] at es; go_simp; with_reducible rfl)
    simp only [Act.put, List.setIfInBounds_toArray, List.set_cons_zero, List.set_cons_succ, List.getElem_toArray, List.getElem_cons_succ, List.getElem_cons_zero]
    refine AnyFrom.take (i := 3) (v := ?_) rfl (by kernel_rfl) (by kernel_rfl) (by kernel_rfl) (by kernel_rfl) (fun _ _ _ h => h) ⟨by kernel_rfl, ?_⟩ HS ?_
    rotate_left
    · first | (rintro w' ⟨L', hm⟩; have es := hm.eqs; simp only [EqsL] at es; go_simp; done) | (rintro w' ⟨L', hm⟩; have es := hm.eqs; simp only [EqsL] at es; go_simp; with_reducible rfl)
    simp only [Act.put, List.setIfInBounds_toArray, List.set_cons_zero, List.set_cons_succ, List.getElem_toArray, List.getElem_cons_succ, List.getElem_cons_zero]
    refine AnyFrom.take (i := 4) (v := ?_) rfl (by kernel_rfl) (by kernel_rfl) (by kernel_rfl) (by kernel_rfl) (fun _ _ _ h => h) ⟨by kernel_rfl, ?_⟩ HS ?_
    rotate_left
    · first | (rintro w' ⟨L', hm⟩; have es := hm.eqs; simp only [EqsL] at es; go_simp; done) | (rintro w' ⟨L', hm⟩; have es := hm.eqs; simp only [EqsL] at es; go_simp; with_reducible rfl)
    simp only [Act.put, List.setIfInBounds_toArray, List.set_cons_zero, List.set_cons_succ, List.getElem_toArray, List.getElem_cons_succ, List.getElem_cons_zero]
    have es := mW.eqs
    simp only [EqsL] at es
    have ns := mW.nes
    simp only [NeL, NeFrom] at ns
    refine AnyFrom.call (i := 5) (by kernel_rfl) rfl (by kernel_rfl) fun K hK => ?_
    go_simp
    have mX := ((((((mW.set (i := 0) (v := .int .i64 rh.size) (.tail (.tail (.tail .head)))).set (i := 1) (v := .int .i64 rh.half) (.tail (.tail (.tail .head)))).set (i := 2) (v := .int .i64 rh.scan) (.tail (.tail (.tail .head)))).set (i := 3) (v := .bool rh.busy) (.tail (.tail (.tail .head)))).set (i := 4) (v := .slice ob3 rh.old.length oc3) (.tail (.tail (.tail .head)))).set (i := 5) (v := .slice nb3 rh.new.length nc3) (.tail (.tail (.tail .head)))).set (i := 6) (v := .slice rb3 rh.regs.length rc3) (.tail (.tail (.tail .head)))
    simp only [List.setIfInBounds_toArray, List.set_cons_zero, List.set_cons_succ] at mX
    generalize hwx : World.setCell _ _ _ = wX
    rw [hwx] at mX
    refine hK _ _ (.inr ⟨_, mX⟩) ?_
    clear hK K HS es ns mW hwx
    try simp only [Act.put, List.setIfInBounds_toArray, List.set_cons_zero, List.set_cons_succ, List.getElem_toArray, List.getElem_cons_succ, List.getElem_cons_zero]
    have HS : (fun w' => ∃ L', Mem w0 H3 ((w2.heap.size, .cells #[.int .u8 rk, .int .i64 rn, .string rs] 50) :: (b, .cells #[.int .i64 rh.size, .int .i64 rh.half, .int .i64 rh.scan, .bool rh.busy, .slice ob3 rh.old.length oc3, .slice nb3 rh.new.length nc3, .slice rb3 rh.regs.length rc3] TH) :: L') w') wX := ⟨_, mX⟩
    have es := mX.eqs
    simp only [EqsL] at es
    have ns := mX.nes
    simp only [NeL, NeFrom] at ns
    refine AnyFrom.call (i := 6) (by kernel_rfl) rfl (by kernel_rfl) fun K hK => ?_
    go_simp
    have mY := ((mX.set (i := 0) (v := .int .u8 rk) (.tail (.tail .head))).set (i := 1) (v := .int .i64 rn) (.tail (.tail .head))).set (i := 2) (v := .string rs) (.tail (.tail .head))
    simp only [List.setIfInBounds_toArray, List.set_cons_zero, List.set_cons_succ] at mY
    generalize hwy : World.setCell _ _ _ = wY
    rw [hwy] at mY
    refine hK _ _ (.inr ⟨_, mY⟩) ?_
    clear hK K HS es ns mX hwy
    try simp only [Act.put, List.setIfInBounds_toArray, List.set_cons_zero, List.set_cons_succ, List.getElem_toArray, List.getElem_cons_succ, List.getElem_cons_zero]
    have HS : (fun w' => ∃ L', Mem w0 H3 ((w2.heap.size, .cells #[.int .u8 rk, .int .i64 rn, .string rs] 50) :: (b, .cells #[.int .i64 rh.size, .int .i64 rh.half, .int .i64 rh.scan, .bool rh.busy, .slice ob3 rh.old.length oc3, .slice nb3 rh.new.length nc3, .slice rb3 rh.regs.length rc3] TH) :: L') w') wY := ⟨_, mY⟩
    refine AnyFrom.pure (i := 7) (v := ?_) rfl (by kernel_rfl) (by kernel_rfl) (by kernel_rfl) (by decide) (fun _ _ _ h => h) ⟨by kernel_rfl, ?_⟩ HS ?_
    rotate_left
    · first | (intro w'; go_simp; done) | (intro w'; go_simp; with_reducible rfl)
    simp only [Act.put, List.setIfInBounds_toArray, List.set_cons_zero, List.set_cons_succ, List.getElem_toArray, List.getElem_cons_succ, List.getElem_cons_zero]
    refine AnyFrom.done (by kernel_rfl) ?_ _
    have mZ := mY
    have es := mZ.eqs
    simp only [EqsL] at es
    go_wp2_with fail
    refine bodyPost_ret (v := .tuple #[HVal rh (.slice ob3 rh.old.length oc3) (.slice nb3 rh.new.length nc3) (.slice rb3 rh.regs.length rc3), (⟨rk, rn, rs⟩ : ValM).v, .int .i64 0]) (by simp [results, Try.results24, go_sem, es, HVal, ValM.v]) rfl ?_
    exact .inr ⟨rfl, H3, _, _, _, rfl, HLE.out, HFF.out, mZ.drop.drop.drop.drop.drop.drop⟩
  · have hre2 : (re != 0) = true := by simpa using hre
    have HRE := Lib.hid hre; clear hre
    go_wp2_with fail
    refine bodyPost_ret (v := .tuple #[heapZ, unitV.v, .int .i64 re]) (by simp [results, Try.results24, go_sem, es, ns, heapZ, unitV, ValM.v]; first | rfl | done) rfl ?_
    refine .inl ⟨HRE.out, rfl, Mem.weaken (MemB.done (ks := [w2.heap.size, b, w.heap.size + 1 + 1 + 1, w.heap.size + 1 + 1, w.heap.size + 1, w.heap.size]) ?_) HLE.out⟩
    repeat (first | refine MemB.set (by simp) ?_ | exact ⟨[_, _, _, _, _, _], rfl, m4⟩)
end Go.Proofs.Ythipkmmdjhpklaa
namespace Go.Proofs.Ythipkmmdjhpklaa
set_option linter.unusedVariables false
set_option linter.unusedSimpArgs false
open Go Go.RowKit

section
variable {P : Program} {ops : Array Oper} {Q : Exit → Act → World → Prop} {S S2 : World → Prop} {n : Nat}
theorem AnyFrom.three {i j l k : Nat} {ls : Array Bool} {a : Act} {w : World} (hr : Region.ready .any ops ls = [i, j, l])
    (h : wpOp P ops Q i (fun a' w' => (Spent n (ls.setIfInBounds i true) ∨ S w') ∧ AnyFrom P ops Q S n k (ls.setIfInBounds i true) a' w') a w)
    (h' : wpOp P ops Q j (fun a' w' => (Spent n (ls.setIfInBounds j true) ∨ S w') ∧ AnyFrom P ops Q S n k (ls.setIfInBounds j true) a' w') a w)
    (h'' : wpOp P ops Q l (fun a' w' => (Spent n (ls.setIfInBounds l true) ∨ S w') ∧ AnyFrom P ops Q S n k (ls.setIfInBounds l true) a' w') a w) : AnyFrom P ops Q S n (k + 1) ls a w :=
  ⟨fun h0 => (by rw [hr] at h0; cases h0), fun x hx => by
    rw [hr] at hx
    simp only [List.mem_cons, List.not_mem_nil, or_false] at hx
    rcases hx with rfl | rfl | rfl
    · exact h
    · exact h'
    · exact h''⟩
theorem AnyFrom.stronger (hs : ∀ w, S2 w → S w) : ∀ (k : Nat) {ls : Array Bool} {a : Act} {w : World}, AnyFrom P ops Q S2 n k ls a w → AnyFrom P ops Q S n k ls a w
  | 0, _, _, _, h => h
  | k + 1, ls, a, w, h => ⟨h.1, fun i hi => wpOp_mono (fun _ _ hx => ⟨hx.1.imp_right (hs _), AnyFrom.stronger hs k hx.2⟩) (h.2 i hi)⟩
end

def zeroH : HeapM := ⟨0, 0, 0, false, [], [], []⟩
def outH (r : Int × ValM × HeapM) : HeapM := if r.1 = 0 then r.2.2 else zeroH
def outV (r : Int × ValM × HeapM) : ValM := if r.1 = 0 then r.2.1 else unitV
/-- How a deed ends, with or without an error. -/
def DoU (r : Int × ValM × HeapM) (w0 : World) (H : Hp) (L : List (Nat × Obj)) (e : Ending) (w' : World) : Prop :=
  ∃ H' vo vn vr, e = .returned (.tuple #[HVal (outH r) vo vn vr, (outV r).v, .int .i64 r.1]) ∧ Hle H H' ∧ HFr H' (outH r) vo vn vr ∧ Mem w0 H' L w'
theorem DoU_any (h : HeapM) (g : HGood h) (vo vn vr : Value) {w0 w : World} {H : Hp} {L : List (Nat × Obj)} (f : HFr H h vo vn vr) (m : Mem w0 H L w) (d : DeedM) (lv sv : Value) (hd : DeedR H d lv sv) (ha : d.a ≤ 100000) :
    Calls Try.prog 24 #[HVal h vo vn vr, d.v lv sv] w (DoU (h.do d) w0 H L) := by
  refine (DoB_any h g vo vn vr f m d lv sv hd ha).mono ?_
  rintro e w' (⟨h1, rfl, m'⟩ | ⟨h1, H', vo', vn', vr', rfl, hl, f', m'⟩)
  · refine ⟨H, .slice none 0 0, .slice none 0 0, .slice none 0 0, ?_, Hle.refl _, ?_, m'⟩
    · unfold outH outV; rw [if_neg h1, if_neg h1]; rfl
    · unfold outH; rw [if_neg h1]; exact ⟨SlR.nil _ _, SlR.nil _ _, SlR.nil _ _⟩
  · refine ⟨H', vo', vn', vr', ?_, hl, ?_, m'⟩
    · unfold outH outV; rw [if_pos h1, if_pos h1, h1]
    · unfold outH; rw [if_pos h1]; exact f'
theorem share15 {K : Act → World → Prop} {G : Prop} (R : Nat → Nat → Nat → Nat → Nat → Option Addr → Nat → Option Addr → Nat → Option Addr → Nat → Option Addr → Nat → Option Addr → Nat → World → Prop) {f : Nat → Nat → Nat → Nat → Nat → Option Addr → Nat → Option Addr → Nat → Option Addr → Nat → Option Addr → Nat → Option Addr → Nat → Act}
    (br : (∀ x7 x8 blk2 off2 cap2 lb2 lc2 sb2 sc2 ob3 oc3 nb3 nc3 rb3 rc3 W, R x7 x8 blk2 off2 cap2 lb2 lc2 sb2 sc2 ob3 oc3 nb3 nc3 rb3 rc3 W → K (f x7 x8 blk2 off2 cap2 lb2 lc2 sb2 sc2 ob3 oc3 nb3 nc3 rb3 rc3) W) → G) (rest : ∀ x7 x8 blk2 off2 cap2 lb2 lc2 sb2 sc2 ob3 oc3 nb3 nc3 rb3 rc3 W, R x7 x8 blk2 off2 cap2 lb2 lc2 sb2 sc2 ob3 oc3 nb3 nc3 rb3 rc3 W → K (f x7 x8 blk2 off2 cap2 lb2 lc2 sb2 sc2 ob3 oc3 nb3 nc3 rb3 rc3) W) : G := br rest
theorem HFr.shape {H : Hp} {h : HeapM} {vo vn vr : Value} (f : HFr H h vo vn vr) : ∃ ob oc nb nc rb rc, vo = .slice ob h.old.length oc ∧ vn = .slice nb h.new.length nc ∧ vr = .slice rb h.regs.length rc := by
  obtain ⟨ob, oc, e1⟩ := f.o.shape
  obtain ⟨nb, nc, e2⟩ := f.n.shape
  obtain ⟨rb, rc, e3⟩ := f.r.shape
  exact ⟨ob, oc, nb, nc, rb, rc, e1, e2, e3⟩
/-- One deed out of a list, as a list of its own. -/
theorem SlR.one {H : Hp} {b : Option Addr} {c k : Nat} {ds : List DeedM} {d : DeedM} (h : SlR encDeed H (.slice b ds.length c) ds) (hk : ds[k]? = some d) : SlR encDeed H (sliceV b k (k + 1) c 12) [d] := by
  have hl := lt_of_some hk
  have := h.sliced (i := k) (j := k + 1) (by omega) (by omega)
  rw [Nat.add_sub_cancel_left] at this
  have e : (ds.drop k).take 1 = [d] := by
    obtain ⟨h1, h2⟩ := List.getElem?_eq_some_iff.1 hk
    rw [List.drop_eq_getElem_cons h1, h2]; rfl
  rw [e] at this
  exact this
theorem perm_hr1 {α : Type} (g h p x y : α) (L : List α) : (g :: h :: p :: x :: y :: L).Perm (g :: x :: y :: h :: p :: L) := (by classical exact List.perm_iff_count.2 (fun a => by simp only [List.count_append, List.count_cons, List.cons_append, List.nil_append, List.append_assoc]; omega))
theorem sliceV_one (blk off k c s : Nat) (h : k < c) : sliceV (some ⟨blk, off, none⟩) k (k + 1) c s = .slice (some ⟨blk, off + k * s, none⟩) 1 (c - k) := by
  unfold sliceV Go.sliced
  have e : ¬ c = k := by omega
  simp [e, Addr.add]
theorem perm_fr2 {α : Type} (x a b : α) (L : List α) : (x :: a :: b :: L).Perm (a :: b :: x :: L) := (by classical exact List.perm_iff_count.2 (fun a => by simp only [List.count_append, List.count_cons, List.cons_append, List.nil_append, List.append_assoc]; omega))
theorem perm_sw2 {α : Type} (a b x y : α) (L : List α) : (a :: b :: x :: y :: L).Perm (a :: b :: y :: x :: L) := (by classical exact List.perm_iff_count.2 (fun a => by simp only [List.count_append, List.count_cons, List.cons_append, List.nil_append, List.append_assoc]; omega))
theorem perm_fr3 {α : Type} (x a b c : α) (L : List α) : (x :: a :: b :: c :: L).Perm (a :: b :: c :: x :: L) := (by classical exact List.perm_iff_count.2 (fun a => by simp only [List.count_append, List.count_cons, List.cons_append, List.nil_append, List.append_assoc]; omega))
theorem perm_sw3 {α : Type} (a b c x y : α) (L : List α) : (a :: b :: c :: x :: y :: L).Perm (a :: b :: c :: y :: x :: L) := (by classical exact List.perm_iff_count.2 (fun a => by simp only [List.count_append, List.count_cons, List.cons_append, List.nil_append, List.append_assoc]; omega))
end Go.Proofs.Ythipkmmdjhpklaa
namespace Go.Proofs.Ythipkmmdjhpklaa
set_option linter.unusedVariables false
set_option linter.unusedSimpArgs false
open Go.RowKit
attribute [local go_sem] Oper.semAt_some

theorem reach_good {k : Nat} {h h1 : HeapM} (r : Reach k h h1) : HGood h → HGood h1 ∧ k + h1.left ≤ h.left := by
  induction r with
  | zero h => intro g; exact ⟨g, by omega⟩
  | @succ j h h1 r hb hs ih =>
    intro g
    obtain ⟨g1, b1⟩ := ih g
    have h2 := (g1.ok.core.scanOk.scan1 hb hs).2.2
    have h3 := endIf_left h1.scan1
    exact ⟨⟨g1.ok.scanned hb hs, (g1.cp.scan1 g1.ok.core hs).endIf⟩, by have := h3; omega⟩
theorem left_le {h : HeapM} (g : HGood h) : h.left ≤ 6001 := by
  have := g.ok.core.bounds
  have := g.ok.core.s0
  unfold HeapM.left
  split <;> omega
theorem wrap_succ (k : Nat) : IntKind.i64.wrap (IntKind.i64.wrap (k : Int) + 1) = IntKind.i64.wrap ((k + 1 : Nat) : Int) := by
  rw [IntKind.wrap_i64, IntKind.wrap_i64, IntKind.wrap_i64]
  omega
theorem perm_fi1 {α : Type} (b d k z p : α) (L : List α) : (b :: d :: k :: z :: p :: L).Perm (b :: k :: z :: d :: p :: L) := (by classical exact List.perm_iff_count.2 (fun a => by simp only [List.count_append, List.count_cons, List.cons_append, List.nil_append, List.append_assoc]; omega))
def calmQ (Q : Exit → Act → World → Prop) : Exit → Act → World → Prop
  | .panic _, _, _ => False
  | e, a, w => Q e a w
theorem calmQ_wp {P : Program} {c : Code} {Q : Exit → Act → World → Prop} {a : Act} {w : World} (h : c.wp P (calmQ Q) a w) : c.wp P Q a w :=
  Code.wp_mono (fun e a w h => by cases e <;> first | exact h | exact h.elim) h
theorem calmQ_normal {Q : Exit → Act → World → Prop} {a : Act} {w : World} (h : Q .normal a w) : calmQ Q .normal a w := h
def FinR (h : HeapM) (w0 : World) (H : Hp) (L : List (Nat × Obj)) (e : Ending) (w' : World) : Prop :=
  ∃ k h2 H' vo vn vr, h.stepM (k + 1) = (k, h2) ∧ h2.busy = false ∧ k ≤ 6001 ∧ e = .returned (.tuple #[HVal h2 vo vn vr, .int .i64 k, .int .i64 0]) ∧ Hle H H' ∧ HFr H' h2 vo vn vr ∧ Mem w0 H' L w'
set_option maxRecDepth 10000 in
set_option maxHeartbeats 8000000 in
theorem Finish_any (h : HeapM) (g : HGood h) (vo vn vr : Value) {w0 w : World} {H : Hp} {L : List (Nat × Obj)} (f : HFr H h vo vn vr) (m : Mem w0 H L w) :
    Calls Try.prog 33 #[HVal h vo vn vr] w (FinR h w0 H L) := by
  have F := Lib.hid f
  obtain ⟨ob, oc, rfl⟩ := f.o.shape
  obtain ⟨nb, nc, rfl⟩ := f.n.shape
  obtain ⟨rb, rc, rfl⟩ := f.r.shape
  clear f
  have HG := Lib.hid g; clear g
  have m1 := (m.alloc (.cells #[.int .i64 h.size, .int .i64 h.half, .int .i64 h.scan, .bool h.busy, .slice ob h.old.length oc, .slice nb h.new.length nc, .slice rb h.regs.length rc] 31)).alloc (.cells #[.int .i64 0, .int .i64 0, .int .i64 0, .bool false, .slice none 0 0, .slice none 0 0, .slice none 0 0] 31)
  simp only [World.size_alloc] at m1
  unfold HVal
  have hmf : ∀ (fn : Fn) (first cap : Array Value) (w : World), (Instr.makeFunc fn first cap).run Try.prog w = .ok (.func fn first cap) w := fun _ _ _ _ => rfl
  refine callsIn_wide.1 (callsIn_of_wp_marks (F := Fence.wide) (n := 3) Try.func33 rfl trivial ?_)
  rw [wpIn_wide]
  simp only [Try.ntmps33, List.size_toArray, List.length_cons, List.length_nil, Nat.reduceAdd, Nat.reduceSub, Array.replicate_succ, Array.replicate_zero, List.push_toArray, List.append_toArray, List.nil_append, List.cons_append]
  go_wp2_with fail
  refine (newHeap_any h HG.out _ _ _ F.out m1).mono ?_
  rintro e w1 ⟨H1, b, rfl, hle1, hc⟩
  have hc2 := hc.alloc (.cells #[.int .i64 0] 3)
  go_wp2_with fail
  obtain ⟨LH, m2, back⟩ := HeapOwn.out (L1 := []) hc2
  rw [List.nil_append] at m2
  refine wp_rangeFunc_mem (gf := 59) (first := #[.pointer (some ⟨b, 0, none⟩)]) (LH := LH) m2 rfl (fun args w => (enters_of (P := Try.prog) Try.func59 (by kernel_rfl) rfl) args w)
    (fun k LB => LB = (w1.heap.size, .cells #[.int .i64 (IntKind.i64.wrap (k : Int))] 3) :: (w.heap.size + 1, .cells #[.int .i64 0, .int .i64 0, .int .i64 0, .bool false, .slice none 0 0, .slice none 0 0, .slice none 0 0] 31) :: (w.heap.size, .cells #[.int .i64 h.size, .int .i64 h.half, .int .i64 h.scan, .bool h.busy, .slice ob h.old.length oc, .slice nb h.new.length nc, .slice rb h.regs.length rc] 31) :: L)
    (fun _ _ _ => False)
    (fun k H' LH' => H' = H1 ∧ ∃ h1 h2, Reach k h h1 ∧ (∀ L' w', Mem w0 H1 (LH' ++ L') w' → HeapOwn TH b h2 w0 H1 L' w') ∧ ((h1.busy = false ∧ h2 = h1) ∨ (h1.busy = true ∧ ¬ h1.scan < h1.new.length ∧ h2 = h1.endIf)))
    (fun _ _ _ => True)
    rfl ?body ?it ?done ?stop
  case body =>
    rintro l n' k H1' L1 LB W rfl mW
    have mF := mW.perm (List.perm_middle (l₁ := L1))
    have es := mF.eqs
    simp only [EqsL] at es
    have hws := wrap_succ k
    have mS := mW.set (i := 0) (v := .int .i64 (IntKind.i64.wrap ((k + 1 : Nat) : Int))) (LUpd.head.appR L1)
    simp only [List.setIfInBounds_toArray, List.set_cons_zero] at mS
    clear mF
    gi_wp2
    have h64 : wrap64 (wrap64 (k : Int) + 1) = IntKind.i64.wrap ((k : Int) + 1) := by
      rw [IntWalk.i64_left]
      unfold wrap64
      omega
    rw [h64]
    exact mS
  case it =>
    intro l RB' Rx' hY LB' W hRB mW
    refine (scans_any b h (fun _ => HG.out.ok.core.scanOk) hY hRB (back mW)).mono ?_
    rintro e W' ⟨hv, k, h1, LB2, hre, (⟨hR, h2, hown, hcase⟩ | ⟨hR, hown⟩)⟩
    · obtain ⟨LH', m', back'⟩ := HeapOwn.out (L1 := []) hown
      exact ⟨hv, k, H1, LH', LB2, m', .inl ⟨hR, rfl, h1, h2, hre, fun L' w' hm => back' hm, hcase⟩⟩
    · obtain ⟨LH', m', back'⟩ := HeapOwn.out (L1 := []) hown
      exact ⟨hv, k, H1, LH', LB2, m', .inr ⟨hR, trivial⟩⟩
  case done =>
    rintro D k H' LH' LB' W rfl ⟨rfl, h1, h2, hre, hown, hcase⟩ mW
    obtain ⟨g1, hkl⟩ := reach_good hre HG.out
    have hll := left_le HG.out
    have hk6 : k ≤ 6001 := by omega
    have hst : h.stepM (k + 1) = (k, h2) := by
      rw [stepM_reach hre (k + 1) (by omega), Nat.add_sub_cancel_left]
      rcases hcase with ⟨e1, rfl⟩ | ⟨e1, e2, rfl⟩
      · simp [HeapM.stepM, e1]
      · simp only [HeapM.stepM]
        rw [if_neg (by simp [e1]), if_neg (by omega)]
        simp
    have hbz : h2.busy = false := by
      rcases hcase with ⟨e1, rfl⟩ | ⟨e1, e2, rfl⟩
      · exact e1
      · have := g1.ok.core.s1
        unfold HeapM.endIf
        rw [if_pos (by omega)]
    have HST := Lib.hid hst; clear hst
    have HBZ := Lib.hid hbz; clear hbz
    clear hcase hre g1 hkl hll
    obtain ⟨H3, vo3, vn3, vr3, hle3, hvo, hvn, hvr, m3⟩ := (hown _ _ mW).freeze
    have HFF := Lib.hid (HFr.mk hvo hvn hvr)
    obtain ⟨ob3, oc3, rfl⟩ := hvo.shape
    obtain ⟨nb3, nc3, rfl⟩ := hvn.shape
    obtain ⟨rb3, rc3, rfl⟩ := hvr.shape
    clear hvo hvn hvr hown mW
    rw [wrap_i64s (k : Int) (by omega) (by omega)] at m3
    have m4 := m3.perm (perm_fi1 _ _ _ _ _ _)
    unfold HBox at m4
    have HLE := Lib.hid (hle1.trans hle3)
    clear m3
    go_wp2_with fail
    refine calmQ_wp ?_
    refine AnyFrom.start (fun w' => ∃ L', Mem w0 H3 ((b, .cells #[.int .i64 h2.size, .int .i64 h2.half, .int .i64 h2.scan, .bool h2.busy, .slice ob3 h2.old.length oc3, .slice nb3 h2.new.length nc3, .slice rb3 h2.regs.length rc3] TH) :: (w1.heap.size, .cells #[.int .i64 (k : Int)] 3) :: L') w') 8 (by kernel_rfl) ?_
    have mW := m4.drew
    generalize World.drew _ = WW at *
    clear m4
    have HS : (fun w' => ∃ L', Mem w0 H3 ((b, .cells #[.int .i64 h2.size, .int .i64 h2.half, .int .i64 h2.scan, .bool h2.busy, .slice ob3 h2.old.length oc3, .slice nb3 h2.new.length nc3, .slice rb3 h2.regs.length rc3] TH) :: (w1.heap.size, .cells #[.int .i64 (k : Int)] 3) :: L') w') WW := ⟨_, mW⟩
    refine AnyFrom.pure (i := 0) (v := ?_) rfl (by kernel_rfl) (by kernel_rfl) (by kernel_rfl) (by decide) (fun _ _ _ h => h) ⟨by kernel_rfl, ?_⟩ HS ?_
    rotate_left
    · first | (intro w'; go_simp; done) | (intro w'; go_simp; with_reducible rfl)
    simp only [Act.put, List.setIfInBounds_toArray, List.set_cons_zero, List.set_cons_succ, List.getElem_toArray, List.getElem_cons_succ, List.getElem_cons_zero]
    refine AnyFrom.take (i := 1) (v := ?_) rfl (by kernel_rfl) (by kernel_rfl) (by kernel_rfl) (by kernel_rfl) (fun _ _ _ h => h) ⟨by kernel_rfl, ?_⟩ HS ?_
    rotate_left
    · first | (rintro w' ⟨L', hm⟩; have es := hm.eqs; simp only [EqsL] at es; go_simp; done) | (rintro w' ⟨L', hm⟩; have es := hm.eqs; simp only [EqsL] at es; go_simp; with_reducible rfl)
    simp only [Act.put, List.setIfInBounds_toArray, List.set_cons_zero, List.set_cons_succ, List.getElem_toArray, List.getElem_cons_succ, List.getElem_cons_zero]
    refine AnyFrom.take (i := 2) (v := ?_) rfl (by kernel_rfl) (by kernel_rfl) (by kernel_rfl) (by kernel_rfl) (fun _ _ _ h => h) ⟨by kernel_rfl, ?_⟩ HS ?_
    rotate_left
    · first | (rintro w' ⟨L', hm⟩; have es := hm.eqs; simp only [EqsL] at es; go_simp; done) | (rintro w' ⟨L', hm⟩; have es := hm.eqs; simp only [EqsL] at es; go_simp; with_reducible rfl)
    simp only [Act.put, List.setIfInBounds_toArray, List.set_cons_zero, List.set_cons_succ, List.getElem_toArray, List.getElem_cons_succ, List.getElem_cons_zero]
    refine AnyFrom.take (i := 3) (v := ?_) rfl (by kernel_rfl) (by kernel_rfl) (by kernel_rfl) (by kernel_rfl) (fun _ _ _ h => h) ⟨by kernel_rfl, ?_⟩ HS ?_
    rotate_left
    · first | (rintro w' ⟨L', hm⟩; have es := hm.eqs; simp only [EqsL] at es; go_simp; done) | (rintro w' ⟨L', hm⟩; have es := hm.eqs; simp only [EqsL] at es; go_simp; with_reducible rfl)
    simp only [Act.put, List.setIfInBounds_toArray, List.set_cons_zero, List.set_cons_succ, List.getElem_toArray, List.getElem_cons_succ, List.getElem_cons_zero]
    refine AnyFrom.take (i := 4) (v := ?_) rfl (by kernel_rfl) (by kernel_rfl) (by kernel_rfl) (by kernel_rfl) (fun _ _ _ h => h) ⟨by kernel_rfl, ?_⟩ HS ?_
    rotate_left
    · first | (rintro w' ⟨L', hm⟩; have es := hm.eqs; simp only [EqsL] at es; go_simp; done) | (rintro w' ⟨L', hm⟩; have es := hm.eqs; simp only [EqsL] at es; go_simp; with_reducible rfl)
    simp only [Act.put, List.setIfInBounds_toArray, List.set_cons_zero, List.set_cons_succ, List.getElem_toArray, List.getElem_cons_succ, List.getElem_cons_zero]
    have es := mW.eqs
    simp only [EqsL] at es
    have ns := mW.nes
    simp only [NeL, NeFrom] at ns
    refine AnyFrom.call (i := 5) (by kernel_rfl) rfl (by kernel_rfl) fun K hK => ?_
    go_simp
    have mY := ((((((mW.set (i := 0) (v := .int .i64 h2.size) (.tail (.tail .head))).set (i := 1) (v := .int .i64 h2.half) (.tail (.tail .head))).set (i := 2) (v := .int .i64 h2.scan) (.tail (.tail .head))).set (i := 3) (v := .bool h2.busy) (.tail (.tail .head))).set (i := 4) (v := .slice ob3 h2.old.length oc3) (.tail (.tail .head))).set (i := 5) (v := .slice nb3 h2.new.length nc3) (.tail (.tail .head))).set (i := 6) (v := .slice rb3 h2.regs.length rc3) (.tail (.tail .head))
    simp only [List.setIfInBounds_toArray, List.set_cons_zero, List.set_cons_succ] at mY
    generalize hwx : World.setCell _ _ _ = wX
    rw [hwx] at mY
    refine hK _ _ (.inr ⟨_, mY⟩) ?_
    clear hK K HS es ns mW hwx
    try simp only [Act.put, List.setIfInBounds_toArray, List.set_cons_zero, List.set_cons_succ, List.getElem_toArray, List.getElem_cons_succ, List.getElem_cons_zero]
    have HS : (fun w' => ∃ L', Mem w0 H3 ((b, .cells #[.int .i64 h2.size, .int .i64 h2.half, .int .i64 h2.scan, .bool h2.busy, .slice ob3 h2.old.length oc3, .slice nb3 h2.new.length nc3, .slice rb3 h2.regs.length rc3] TH) :: (w1.heap.size, .cells #[.int .i64 (k : Int)] 3) :: L') w') wX := ⟨_, mY⟩
    refine AnyFrom.pure (i := 6) (v := ?_) rfl (by kernel_rfl) (by kernel_rfl) (by kernel_rfl) (by decide) (fun _ _ _ h => h) ⟨by kernel_rfl, ?_⟩ HS ?_
    rotate_left
    · first | (intro w'; go_simp; done) | (intro w'; go_simp; with_reducible rfl)
    simp only [Act.put, List.setIfInBounds_toArray, List.set_cons_zero, List.set_cons_succ, List.getElem_toArray, List.getElem_cons_succ, List.getElem_cons_zero]
    refine AnyFrom.pure (i := 7) (v := ?_) rfl (by kernel_rfl) (by kernel_rfl) (by kernel_rfl) (by decide) (fun _ _ _ h => h) ⟨by kernel_rfl, ?_⟩ HS ?_
    rotate_left
    · first | (intro w'; go_simp; done) | (intro w'; go_simp; with_reducible rfl)
    simp only [Act.put, List.setIfInBounds_toArray, List.set_cons_zero, List.set_cons_succ, List.getElem_toArray, List.getElem_cons_succ, List.getElem_cons_zero]
    refine AnyFrom.done (by kernel_rfl) (calmQ_normal ?_) _
    go_wp2_with fail
    have hD := (mY.loc _ (.tail _ (.tail _ (.tail _ (.head _))))).1
    refine ⟨by simp, .inl ⟨_, _, rfl, run_takeDeferred hD, ?_⟩⟩
    have m5 := mY.putObj (LUpd.tail (.tail (.tail (LUpd.head (o' := .deferred none)))))
    have es := m5.eqs
    simp only [EqsL] at es
    refine ⟨.tuple #[HVal h2 (.slice ob3 h2.old.length oc3) (.slice nb3 h2.new.length nc3) (.slice rb3 h2.regs.length rc3), .int .i64 k, .int .i64 0], by simp [results, Try.results33, go_sem, es, HVal], ?_⟩
    exact ⟨k, h2, H3, _, _, _, HST.out, HBZ.out, hk6, rfl, HLE.out, HFF.out, m5.drop.drop.drop.drop.drop⟩
  case stop =>
    rintro D k id H' LH' LB' W hf
    exact hf.elim
end Go.Proofs.Ythipkmmdjhpklaa
namespace Go.Proofs.Ythipkmmdjhpklaa
set_option linter.unusedVariables false
set_option linter.unusedSimpArgs false
open Go.RowKit

/-- Objects of the new half, and those that may still come there. -/
def HeapM.cnt (h : HeapM) : Nat := h.new.length + unc h.old
theorem scan1_cnt {h : HeapM} (o : HOk h) (hb : h.busy = true) (hi : h.scan < h.new.length) : h.scan1.cnt = h.cnt ∧ h.scan1.scan = h.scan + 1 ∧ h.scan1.busy = true := by
  have hs0 := o.core.s0
  have hi' : h.scan.toNat < h.new.length := by omega
  have sc := o.core.scanOk
  have hm := List.getElem_mem hi'
  obtain ⟨d1, _, _, _⟩ := movesN_all sc.can.half h.new[h.scan.toNat].slots sc.can (sc.new _ hm)
  rw [scan1_eq hi']
  refine ⟨?_, rfl, hb⟩
  simp only [HeapM.cnt, List.length_append, List.length_set]
  omega
theorem endIf_cases (h : HeapM) : (h.scan = h.new.length ∧ h.endIf.busy = false ∧ h.endIf.new = h.new) ∨ (h.scan ≠ h.new.length ∧ h.endIf = h) := by
  unfold HeapM.endIf
  by_cases e : h.scan = h.new.length
  · rw [if_pos e]; exact .inl ⟨e, rfl, rfl⟩
  · rw [if_neg e]; exact .inr ⟨e, rfl⟩
theorem stepM_notBusy : ∀ (n : Nat) {h : HeapM}, h.busy = false → h.stepM n = (0, h)
  | 0, h, _ => rfl
  | n + 1, h, hb => by unfold HeapM.stepM; rw [if_pos hb]
theorem stepM_cnt : ∀ (n : Nat) {h : HeapM}, HOk h → h.busy = true →
    ((h.stepM n).2.busy = true → (h.stepM n).1 = n ∧ (h.stepM n).2.scan = h.scan + n ∧ (h.stepM n).2.cnt = h.cnt) ∧ h.scan + (h.stepM n).1 ≤ h.cnt
  | 0, h, o, hb => by
    have := o.core.s1
    refine ⟨fun _ => ⟨rfl, by simp [HeapM.stepM], rfl⟩, ?_⟩
    simp only [HeapM.stepM, HeapM.cnt]
    omega
  | n + 1, h, o, hb => by
    have hs1 := o.core.s1
    unfold HeapM.stepM
    rw [if_neg (by simp [hb])]
    by_cases hi : h.scan < h.new.length
    · rw [if_pos hi]
      obtain ⟨c1, c2, c3⟩ := scan1_cnt o hb hi
      have o' := o.scanned hb hi
      rcases endIf_cases h.scan1 with ⟨e1, e2, e3⟩ | ⟨e1, e2⟩
      · rw [stepM_notBusy n e2]
        refine ⟨fun hq => ?_, ?_⟩
        · rw [e2] at hq; cases hq
        · simp only
          have : (h.scan1.new.length : Int) ≤ h.scan1.cnt := by unfold HeapM.cnt; omega
          omega
      · have e3 : h.scan1.endIf.busy = true := by rw [e2]; exact c3
        obtain ⟨i1, i2⟩ := stepM_cnt n o' e3
        rw [e2] at i1 i2 ⊢
        refine ⟨fun hq => ?_, by simp only; omega⟩
        obtain ⟨j1, j2, j3⟩ := i1 hq
        simp only
        exact ⟨by omega, by omega, by omega⟩
    · rw [if_neg hi]
      rcases endIf_cases h with ⟨e1, e2, e3⟩ | ⟨e1, e2⟩
      · simp only
        refine ⟨fun hq => ?_, by unfold HeapM.cnt; omega⟩
        rw [e2] at hq; cases hq
      · omega
theorem unc_oldOf : ∀ (l : List ObjM), unc (oldOf l) = l.length
  | [] => rfl
  | o :: l => by
    have := unc_oldOf l
    unfold oldOf at this ⊢
    simp only [List.map_cons, unc, List.length_cons, this]
    rw [if_pos (by decide)]
    omega
theorem begin_cnt {h : HeapM} (o : HOk h) (hb : h.busy = false) : h.begin.cnt = h.new.length ∧ h.begin.scan = 0 ∧ h.begin.busy = true ∧ h.begin.half = 1 - h.half := by
  obtain ⟨c0, r0⟩ := o.started hb
  have sc := c0.scanOk
  have bd := c0.bounds
  have bd2 := o.core.bounds.1
  obtain ⟨d1, _, _, _⟩ := movesN_all sc.can.half h.regs sc.can (fun x hx => by
    rw [oldOf_length]
    exact (r0 x hx).can (by omega) bd2 c0.half)
  refine ⟨?_, rfl, rfl, rfl⟩
  simp only [HeapM.cnt, HeapM.begin]
  have := unc_oldOf h.new
  simp only [List.length_nil] at d1
  omega
/-! ### A collection that is finished -/
theorem stepM_idle : ∀ (n : Nat) {h : HeapM}, HOk h → h.left ≤ n → (h.stepM n).2.busy = false
  | 0, h, o, hl => by
    cases hb : h.busy with
    | false => simp [HeapM.stepM, hb]
    | true => unfold HeapM.left at hl; rw [if_pos hb] at hl; omega
  | n + 1, h, o, hl => by
    unfold HeapM.stepM
    cases hb : h.busy with
    | false => rw [if_pos rfl]; exact hb
    | true =>
      rw [if_neg (by simp)]
      by_cases hi : h.scan < h.new.length
      · rw [if_pos hi]
        have h1 := (o.core.scanOk.scan1 hb hi).2.2
        have h2 := endIf_left h.scan1
        exact stepM_idle n (o.scanned hb hi) (by omega)
      · rw [if_neg hi]
        have hs1 := o.core.s1
        rcases endIf_cases h with ⟨e1, e2, e3⟩ | ⟨e1, e2⟩
        · exact e2
        · omega
def HeapM.fin (h : HeapM) : HeapM := (h.stepM 7000).2
def HeapM.finN (h : HeapM) : Nat := (h.stepM 7000).1
theorem left_bound {h : HeapM} (o : HOk h) : h.left ≤ 6001 := by
  have := o.core.bounds
  have := o.core.s0
  unfold HeapM.left
  split <;> omega
theorem fin_idle {h : HeapM} (o : HOk h) : h.fin.busy = false := stepM_idle 7000 o (by have := left_bound o; omega)
theorem fin_good {h : HeapM} (g : HGood h) : HGood h.fin := ⟨HOk.stepM 7000 g.ok, Copies.stepM 7000 g.cp g.ok⟩
theorem fin_done {h : HeapM} (hb : h.busy = false) : h.fin = h ∧ h.finN = 0 := by
  unfold HeapM.fin HeapM.finN
  rw [stepM_notBusy _ hb]
  exact ⟨rfl, rfl⟩
/-! ### The law HeapEnds -/
theorem make_ok {h : HeapM} {d : DeedM} (he : (h.doMake d).1 = 0) : (h.doMake d).2.2 = { h with regs := h.regs.set d.a.toNat (refV h.half h.new.length), new := h.new ++ [h.made d] } := by
  unfold HeapM.doMake at he ⊢
  split at he
  · cases he
  rename_i h1; rw [if_neg h1]
  split at he
  · cases he
  rename_i h2; rw [if_neg h2]
  split at he
  · cases he
  rename_i h3; rw [if_neg h3]
  split at he
  · cases he
  rename_i h4; rw [if_neg h4]
  split at he
  · cases he
  rename_i h5; rw [if_neg h5]
  split at he
  · cases he
  rename_i h6; rw [if_neg h6]
/-- Behind i rounds, each of which scans two objects and makes one at most. -/
structure EndsInv (n i : Nat) (h : HeapM) (scanned : Nat) : Prop where
  good : HGood h
  busy : h.busy = true → scanned = 2 * i ∧ h.scan = 2 * i ∧ h.cnt ≤ n + i
  idle : h.busy = false → scanned ≤ 2 * n
theorem EndsInv.start {h : HeapM} (g : HGood h) (hb : h.busy = false) : EndsInv h.new.length 0 h.begin 0 := by
  obtain ⟨b1, b2, b3, b4⟩ := begin_cnt g.ok hb
  exact ⟨⟨g.ok.begin hb, Copies.begin g.ok hb⟩, fun _ => ⟨rfl, by rw [b2]; rfl, by omega⟩, fun h => by rw [b3] at h; cases h⟩
/-- Scanning: the numbers are right, and what is left is ready for a new object. -/
structure EndsMid (n i : Nat) (h : HeapM) (scanned : Nat) : Prop where
  good : HGood h
  busy : h.busy = true → scanned = 2 * (i + 1) ∧ h.scan = 2 * (i + 1) ∧ h.cnt ≤ n + i
  idle : h.busy = false → scanned ≤ 2 * n
theorem EndsInv.step {n i : Nat} {h : HeapM} {s : Nat} (v : EndsInv n i h s) (hb : h.busy = true) : EndsMid n i (h.stepM 2).2 (s + (h.stepM 2).1) ∧ (h.stepM 2).1 ≤ 2 := by
  obtain ⟨b1, b2, b3⟩ := v.busy hb
  obtain ⟨c1, c2⟩ := stepM_cnt 2 v.good.ok hb
  refine ⟨⟨⟨HOk.stepM 2 v.good.ok, Copies.stepM 2 v.good.cp v.good.ok⟩, fun hq => ?_, fun hq => ?_⟩, stepM_le 2 h⟩
  · obtain ⟨d1, d2, d3⟩ := c1 hq
    exact ⟨by omega, by omega, by omega⟩
  · have h2 := v.good.ok.s2
    have h3 : h.new.length ≤ h.cnt := by unfold HeapM.cnt; omega
    omega
theorem EndsMid.made {n i : Nat} {h : HeapM} {s : Nat} (v : EndsMid n i h s) (d : DeedM) (hk : d.kind = 1) (he : (h.do d).1 = 0) : EndsInv n (i + 1) (h.do d).2.2 s := by
  have hd : h.do d = h.doMake d := by unfold HeapM.do; rw [if_pos hk]
  rw [hd] at he
  have hm := make_ok he
  have hg := v.good.do d
  rw [hd] at hg ⊢
  have e1 : (h.doMake d).2.2.busy = h.busy := by rw [hm]
  have e2 : (h.doMake d).2.2.scan = h.scan := by rw [hm]
  have e3 : (h.doMake d).2.2.cnt = h.cnt + 1 := by rw [hm]; simp only [HeapM.cnt, List.length_append, List.length_singleton]; omega
  refine ⟨hg, fun hb => ?_, fun hb => ?_⟩
  · rw [e1] at hb
    obtain ⟨b1, b2, b3⟩ := v.busy hb
    exact ⟨b1, by rw [e2]; exact b2, by omega⟩
  · rw [e1] at hb
    exact v.idle hb
theorem EndsMid.kept {n i : Nat} {h : HeapM} {s : Nat} (v : EndsMid n i h s) : EndsInv n (i + 1) h s :=
  ⟨v.good, fun hb => by
    obtain ⟨b1, b2, b3⟩ := v.busy hb
    exact ⟨b1, b2, by omega⟩, v.idle⟩
/-- Behind n + 1 rounds it is over. -/
theorem EndsInv.over {n i : Nat} {h : HeapM} {s : Nat} (v : EndsInv n i h s) (hi : n < i) : h.busy = false := by
  cases hb : h.busy with
  | false => rfl
  | true =>
    obtain ⟨b1, b2, b3⟩ := v.busy hb
    have h2 := v.good.ok.s2
    have h3 : h.new.length ≤ h.cnt := by unfold HeapM.cnt; omega
    omega
end Go.Proofs.Ythipkmmdjhpklaa
