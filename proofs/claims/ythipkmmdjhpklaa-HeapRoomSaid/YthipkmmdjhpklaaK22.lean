/- The walk: any valid heap, taken over. The walks: Check, Words, Live, Do at any valid heap. Laws for a region that draws its order (three that may be next; a stronger S from here on); plain law: the words of a heap. No program's function in sight. -/
import Derived.Test.YthipkmmdjhpklaaK21
import Derived.Test.YthipkmmdjhpklaaK18
namespace Go.Proofs.Ythipkmmdjhpklaa
set_option linter.unusedVariables false
set_option linter.unusedSimpArgs false
open Go.RowKit

theorem perm_bn1 {α : Type} (x k p b : α) (Lq R : List α) : (x :: k :: p :: b :: (Lq ++ R)).Perm (Lq ++ (x :: k :: p :: b :: R)) := (by classical exact List.perm_iff_count.2 (fun a => by simp only [List.count_append, List.count_cons, List.cons_append, List.nil_append, List.append_assoc]; omega))
theorem perm_bn2 {α : Type} (k p b : α) (Lq R : List α) : (Lq ++ (k :: p :: b :: R)).Perm (k :: p :: b :: (Lq ++ R)) := (by classical exact List.perm_iff_count.2 (fun a => by simp only [List.count_append, List.count_cons, List.cons_append, List.nil_append, List.append_assoc]; omega))
theorem perm_bn3 {α : Type} (x k p b : α) (L : List α) : (x :: k :: p :: b :: L).Perm (k :: p :: b :: x :: L) := (by classical exact List.perm_iff_count.2 (fun a => by simp only [List.count_append, List.count_cons, List.cons_append, List.nil_append, List.append_assoc]; omega))
set_option maxRecDepth 10000 in
set_option maxHeartbeats 8000000 in
theorem newHeap_any (h : HeapM) (g : HGood h) (vo vn vr : Value) {w0 w : World} {H : Hp} {L : List (Nat × Obj)} (f : HFr H h vo vn vr) (m : Mem w0 H L w) :
    Calls Try.prog 50 #[HVal h vo vn vr] w fun e w' => ∃ H' b, e = .returned (.tuple #[.pointer (some ⟨b, 0, none⟩), .int .i64 0]) ∧ Hle H H' ∧ HeapOwn TH b h w0 H' L w' := by
  obtain ⟨hvo, hvn, hvr⟩ := f
  have HO := Lib.hid hvo
  have HV := Lib.hid hvn
  have HX := Lib.hid hvr
  obtain ⟨ob, oc, rfl, _, hoc, _, _⟩ := hvo
  obtain ⟨nb, nc, rfl, _, hnc, _, _⟩ := hvn
  obtain ⟨rb, rc, rfl, _, hrc, _, _⟩ := hvr
  have hoc := size_le_maxLen hoc
  have hnc := size_le_maxLen hnc
  have hrc := size_le_maxLen hrc
  have hbds := g.ok.hbd
  have hrl := g.ok.regl
  have hbd := g.ok.core.bounds
  have hnl := hbd.1
  have HNB := Lib.hid hbds.ns
  have HOB := Lib.hid hbds.os
  have HG := Lib.hid g; clear g hbds
  unfold HVal
  have m1 := (m.alloc (.cells #[.int .i64 h.size, .int .i64 h.half, .int .i64 h.scan, .bool h.busy, .slice ob h.old.length oc, .slice nb h.new.length nc, .slice rb h.regs.length rc] 31)).alloc (HBox TH h.size h.half h.scan h.busy (.slice ob h.old.length oc) (.slice nb h.new.length nc) (.slice rb h.regs.length rc))
  rw [World.size_alloc] at m1
  go_enter Try.func50, Try.ntmps50
  go_wp2_with fail
  refine (isValid_any (w.heap.size + 1) h HG.out _ _ _ HO.out HV.out HX.out m1).mono ?_
  rintro e w1 ⟨rfl, m2⟩
  have m3 := m2.perm (perm_nh1 _ _ _)
  clear m1 m2
  have mu := m3
  unfold HBox at mu
  have es := mu.eqs
  simp only [EqsL] at es
  go_wp2_with fail
  clear es mu
  refine AnyFrom.start (fun w' => ∃ L', Mem w0 H ((w.heap.size, .cells #[.int .i64 h.size, .int .i64 h.half, .int .i64 h.scan, .bool h.busy, .slice ob h.old.length oc, .slice nb h.new.length nc, .slice rb h.regs.length rc] 31) :: L') w') 21 (by kernel_rfl) ?_
  have mW := m3.drew
  clear m3
  generalize w1.drew = W at *
  have HS : ∃ L', Mem w0 H ((w.heap.size, .cells #[.int .i64 h.size, .int .i64 h.half, .int .i64 h.scan, .bool h.busy, .slice ob h.old.length oc, .slice nb h.new.length nc, .slice rb h.regs.length rc] 31) :: L') W := ⟨_, mW⟩
  refine AnyFrom.pure (i := 0) (v := ?_) rfl (by kernel_rfl) (by kernel_rfl) (by kernel_rfl) (by decide) (fun _ _ _ h => h) ⟨by kernel_rfl, ?_⟩ HS ?_
  rotate_left
  · first | (intro w'; go_simp; done) | (intro w'; go_simp; with_reducible rfl)
  simp only [Act.put, List.setIfInBounds_toArray, List.set_cons_zero, List.set_cons_succ]
  refine AnyFrom.pure (i := 1) (v := ?_) rfl (by kernel_rfl) (by kernel_rfl) (by kernel_rfl) (by decide) (fun _ _ _ h => h) ⟨by kernel_rfl, ?_⟩ HS ?_
  rotate_left
  · first | (intro w'; go_simp; done) | (intro w'; go_simp; with_reducible rfl)
  simp only [Act.put, List.setIfInBounds_toArray, List.set_cons_zero, List.set_cons_succ]
  refine AnyFrom.pure (i := 2) (v := ?_) rfl (by kernel_rfl) (by kernel_rfl) (by kernel_rfl) (by decide) (fun _ _ _ h => h) ⟨by kernel_rfl, ?_⟩ HS ?_
  rotate_left
  · first | (intro w'; go_simp; done) | (intro w'; go_simp; with_reducible rfl)
  simp only [Act.put, List.setIfInBounds_toArray, List.set_cons_zero, List.set_cons_succ]
  refine AnyFrom.take (i := 3) (v := ?_) rfl (by kernel_rfl) (by kernel_rfl) (by kernel_rfl) (by kernel_rfl) (fun _ _ _ h => h) ⟨by kernel_rfl, ?_⟩ HS ?_
  rotate_left
  · first | (rintro w' ⟨L', hm⟩; have es := hm.eqs; simp only [EqsL] at es; go_simp; done) | (rintro w' ⟨L', hm⟩; have es := hm.eqs; simp only [EqsL] at es; go_simp; with_reducible rfl)
  simp only [Act.put, List.setIfInBounds_toArray, List.set_cons_zero, List.set_cons_succ]
  refine AnyFrom.take (i := 4) (v := ?_) rfl (by kernel_rfl) (by kernel_rfl) (by kernel_rfl) (by kernel_rfl) (fun _ _ _ h => h) ⟨by kernel_rfl, ?_⟩ HS ?_
  rotate_left
  · first | (rintro w' ⟨L', hm⟩; have es := hm.eqs; simp only [EqsL] at es; go_simp; done) | (rintro w' ⟨L', hm⟩; have es := hm.eqs; simp only [EqsL] at es; go_simp; with_reducible rfl)
  simp only [Act.put, List.setIfInBounds_toArray, List.set_cons_zero, List.set_cons_succ]
  refine AnyFrom.take (i := 6) (v := ?_) rfl (by kernel_rfl) (by kernel_rfl) (by kernel_rfl) (by kernel_rfl) (fun _ _ _ h => h) ⟨by kernel_rfl, ?_⟩ HS ?_
  rotate_left
  · first | (rintro w' ⟨L', hm⟩; have es := hm.eqs; simp only [EqsL] at es; go_simp; done) | (rintro w' ⟨L', hm⟩; have es := hm.eqs; simp only [EqsL] at es; go_simp; with_reducible rfl)
  simp only [Act.put, List.setIfInBounds_toArray, List.set_cons_zero, List.set_cons_succ]
  refine AnyFrom.take (i := 7) (v := ?_) rfl (by kernel_rfl) (by kernel_rfl) (by kernel_rfl) (by kernel_rfl) (fun _ _ _ h => h) ⟨by kernel_rfl, ?_⟩ HS ?_
  rotate_left
  · first | (rintro w' ⟨L', hm⟩; have es := hm.eqs; simp only [EqsL] at es; go_simp; done) | (rintro w' ⟨L', hm⟩; have es := hm.eqs; simp only [EqsL] at es; go_simp; with_reducible rfl)
  simp only [Act.put, List.setIfInBounds_toArray, List.set_cons_zero, List.set_cons_succ]
  refine AnyFrom.call (i := 5) (by kernel_rfl) rfl (by kernel_rfl) fun K hK => ?_
  go_simp
  refine (CloneV_any _ h.regs mW HX.out (by omega)).mono ?_
  rintro e w2 ⟨cb, cc, L0, rfl, hcl, mA⟩
  have mB := mA.perm (perm_nh2 _ _ L0 L)
  clear mA
  refine hK _ _ (.inr ⟨_, mB⟩) ?_
  clear hK K HS
  try simp only [Act.put, List.setIfInBounds_toArray, List.set_cons_zero, List.set_cons_succ]
  have HS : ∃ L', Mem w0 H ((w.heap.size, .cells #[.int .i64 h.size, .int .i64 h.half, .int .i64 h.scan, .bool h.busy, .slice ob h.old.length oc, .slice nb h.new.length nc, .slice rb h.regs.length rc] 31) :: L') _ := ⟨_, mB⟩
  refine AnyFrom.call (i := 8) (by kernel_rfl) rfl (by kernel_rfl) fun K hK => ?_
  go_simp
  refine (objects_any _ h.new HV.out HNB.out (by omega) mB).mono ?_
  rintro e w4 ⟨ab, ac, rs, Ln, Ls, rfl, hn, hs, mC⟩
  have mD := mC.perm (perm_nh3 _ _ Ln Ls L0 L)
  clear mC
  refine hK _ _ (.inr ⟨_, mD⟩) ?_
  clear hK K HS
  try simp only [Act.put, List.setIfInBounds_toArray, List.set_cons_zero, List.set_cons_succ]
  have HS : ∃ L', Mem w0 H ((w.heap.size, .cells #[.int .i64 h.size, .int .i64 h.half, .int .i64 h.scan, .bool h.busy, .slice ob h.old.length oc, .slice nb h.new.length nc, .slice rb h.regs.length rc] 31) :: L') _ := ⟨_, mD⟩
  refine AnyFrom.call (i := 9) (by kernel_rfl) rfl (by kernel_rfl) fun K hK => ?_
  go_simp
  refine hK _ _ (.inr ⟨_, mD⟩) ?_
  clear hK K HS
  try simp only [Act.put, List.setIfInBounds_toArray, List.set_cons_zero, List.set_cons_succ]
  have HS : ∃ L', Mem w0 H ((w.heap.size, .cells #[.int .i64 h.size, .int .i64 h.half, .int .i64 h.scan, .bool h.busy, .slice ob h.old.length oc, .slice nb h.new.length nc, .slice rb h.regs.length rc] 31) :: L') _ := ⟨_, mD⟩
  refine AnyFrom.call (i := 10) (by kernel_rfl) rfl (by kernel_rfl) fun K hK => ?_
  go_simp
  refine hK _ _ (.inr ⟨_, mD⟩) ?_
  clear hK K HS
  try simp only [Act.put, List.setIfInBounds_toArray, List.set_cons_zero, List.set_cons_succ]
  have HS : ∃ L', Mem w0 H ((w.heap.size, .cells #[.int .i64 h.size, .int .i64 h.half, .int .i64 h.scan, .bool h.busy, .slice ob h.old.length oc, .slice nb h.new.length nc, .slice rb h.regs.length rc] 31) :: L') _ := ⟨_, mD⟩
  refine AnyFrom.call (i := 11) (by kernel_rfl) rfl (by kernel_rfl) fun K hK => ?_
  go_simp
  refine hK _ _ (.inr ⟨_, mD⟩) ?_
  clear hK K HS
  try simp only [Act.put, List.setIfInBounds_toArray, List.set_cons_zero, List.set_cons_succ]
  have HS : ∃ L', Mem w0 H ((w.heap.size, .cells #[.int .i64 h.size, .int .i64 h.half, .int .i64 h.scan, .bool h.busy, .slice ob h.old.length oc, .slice nb h.new.length nc, .slice rb h.regs.length rc] 31) :: L') _ := ⟨_, mD⟩
  have mu := mD
  try unfold HBox at mu
  have es := mu.eqs
  simp only [EqsL] at es
  refine AnyFrom.call (i := 12) (by kernel_rfl) rfl (by kernel_rfl) fun K hK => ?_
  go_simp
  have mE := mD.set (i := 6) (v := .slice cb h.regs.length cc) (.tail .head)
  simp only [List.setIfInBounds_toArray, List.set_cons_zero, List.set_cons_succ] at mE
  clear es mu
  refine hK _ _ (.inr ⟨_, mE⟩) ?_
  clear hK K HS
  try simp only [Act.put, List.setIfInBounds_toArray, List.set_cons_zero, List.set_cons_succ]
  have HS : ∃ L', Mem w0 H ((w.heap.size, .cells #[.int .i64 h.size, .int .i64 h.half, .int .i64 h.scan, .bool h.busy, .slice ob h.old.length oc, .slice nb h.new.length nc, .slice rb h.regs.length rc] 31) :: L') _ := ⟨_, mE⟩
  refine AnyFrom.call (i := 13) (by kernel_rfl) rfl (by kernel_rfl) fun K hK => ?_
  go_simp
  refine hK _ _ (.inr ⟨_, mE⟩) ?_
  clear hK K HS
  try simp only [Act.put, List.setIfInBounds_toArray, List.set_cons_zero, List.set_cons_succ]
  have HS : ∃ L', Mem w0 H ((w.heap.size, .cells #[.int .i64 h.size, .int .i64 h.half, .int .i64 h.scan, .bool h.busy, .slice ob h.old.length oc, .slice nb h.new.length nc, .slice rb h.regs.length rc] 31) :: L') _ := ⟨_, mE⟩
  refine AnyFrom.call (i := 14) (by kernel_rfl) rfl (by kernel_rfl) fun K hK => ?_
  go_simp
  refine hK _ _ (.inr ⟨_, mE⟩) ?_
  clear hK K HS
  try simp only [Act.put, List.setIfInBounds_toArray, List.set_cons_zero, List.set_cons_succ]
  have HS : ∃ L', Mem w0 H ((w.heap.size, .cells #[.int .i64 h.size, .int .i64 h.half, .int .i64 h.scan, .bool h.busy, .slice ob h.old.length oc, .slice nb h.new.length nc, .slice rb h.regs.length rc] 31) :: L') _ := ⟨_, mE⟩
  refine AnyFrom.call (i := 15) (by kernel_rfl) rfl (by kernel_rfl) fun K hK => ?_
  go_simp
  refine hK _ _ (.inr ⟨_, mE⟩) ?_
  clear hK K HS
  try simp only [Act.put, List.setIfInBounds_toArray, List.set_cons_zero, List.set_cons_succ]
  have HS : ∃ L', Mem w0 H ((w.heap.size, .cells #[.int .i64 h.size, .int .i64 h.half, .int .i64 h.scan, .bool h.busy, .slice ob h.old.length oc, .slice nb h.new.length nc, .slice rb h.regs.length rc] 31) :: L') _ := ⟨_, mE⟩
  have mu := mE
  try unfold HBox at mu
  have es := mu.eqs
  simp only [EqsL] at es
  refine AnyFrom.call (i := 16) (by kernel_rfl) rfl (by kernel_rfl) fun K hK => ?_
  go_simp
  have mF := mE.set (i := 5) (v := .slice ab rs.length ac) (.tail .head)
  simp only [List.setIfInBounds_toArray, List.set_cons_zero, List.set_cons_succ] at mF
  clear es mu
  refine hK _ _ (.inr ⟨_, mF⟩) ?_
  clear hK K HS
  try simp only [Act.put, List.setIfInBounds_toArray, List.set_cons_zero, List.set_cons_succ]
  have HS : ∃ L', Mem w0 H ((w.heap.size, .cells #[.int .i64 h.size, .int .i64 h.half, .int .i64 h.scan, .bool h.busy, .slice ob h.old.length oc, .slice nb h.new.length nc, .slice rb h.regs.length rc] 31) :: L') _ := ⟨_, mF⟩
  refine AnyFrom.call (i := 17) (by kernel_rfl) rfl (by kernel_rfl) fun K hK => ?_
  go_simp
  refine hK _ _ (.inr ⟨_, mF⟩) ?_
  clear hK K HS
  try simp only [Act.put, List.setIfInBounds_toArray, List.set_cons_zero, List.set_cons_succ]
  have HS : ∃ L', Mem w0 H ((w.heap.size, .cells #[.int .i64 h.size, .int .i64 h.half, .int .i64 h.scan, .bool h.busy, .slice ob h.old.length oc, .slice nb h.new.length nc, .slice rb h.regs.length rc] 31) :: L') _ := ⟨_, mF⟩
  refine AnyFrom.call (i := 18) (by kernel_rfl) rfl (by kernel_rfl) fun K hK => ?_
  go_simp
  refine hK _ _ (.inr ⟨_, mF⟩) ?_
  clear hK K HS
  try simp only [Act.put, List.setIfInBounds_toArray, List.set_cons_zero, List.set_cons_succ]
  have HS : ∃ L', Mem w0 H ((w.heap.size, .cells #[.int .i64 h.size, .int .i64 h.half, .int .i64 h.scan, .bool h.busy, .slice ob h.old.length oc, .slice nb h.new.length nc, .slice rb h.regs.length rc] 31) :: L') _ := ⟨_, mF⟩
  refine AnyFrom.call (i := 19) (by kernel_rfl) rfl (by kernel_rfl) fun K hK => ?_
  go_simp
  refine hK _ _ (.inr ⟨_, mF⟩) ?_
  clear hK K HS
  try simp only [Act.put, List.setIfInBounds_toArray, List.set_cons_zero, List.set_cons_succ]
  have HS : ∃ L', Mem w0 H ((w.heap.size, .cells #[.int .i64 h.size, .int .i64 h.half, .int .i64 h.scan, .bool h.busy, .slice ob h.old.length oc, .slice nb h.new.length nc, .slice rb h.regs.length rc] 31) :: L') _ := ⟨_, mF⟩
  have mu := mF
  try unfold HBox at mu
  have es := mu.eqs
  simp only [EqsL] at es
  refine AnyFrom.call (i := 20) (by kernel_rfl) rfl (by kernel_rfl) fun K hK => ?_
  go_simp
  have mG := mF.set (i := 4) (v := .slice none 0 0) (.tail .head)
  simp only [List.setIfInBounds_toArray, List.set_cons_zero, List.set_cons_succ] at mG
  clear es mu
  refine hK _ _ (.inr ⟨_, mG⟩) ?_
  clear hK K HS
  try simp only [Act.put, List.setIfInBounds_toArray, List.set_cons_zero, List.set_cons_succ]
  have HS : ∃ L', Mem w0 H ((w.heap.size, .cells #[.int .i64 h.size, .int .i64 h.half, .int .i64 h.scan, .bool h.busy, .slice ob h.old.length oc, .slice nb h.new.length nc, .slice rb h.regs.length rc] 31) :: L') _ := ⟨_, mG⟩
  refine AnyFrom.done (by kernel_rfl) ?_ _
  clear HS
  generalize ((w4.setCell _ _).setCell _ _).setCell _ _ = W9 at *
  have mu := mG
  have es := mu.eqs
  simp only [EqsL] at es
  go_wp2_with fail
  clear es mu
  go_loopw [6, 34] (fun _ v34 wr => ∃ (k : Nat) (H' : Hp) (qb : Option Addr) (qc : Nat) (hr : List (RowM × Int)) (Lq : List (Nat × Obj)), k ≤ h.old.length ∧ v34 = .int .i64 k ∧ Hle H H' ∧ AccL 87 5 (.slice qb k qc) k (heldCs hr) Lq ∧ hr.length = k ∧ HeldF H' hr (h.old.take k) ∧ Mem w0 H' ((w.heap.size, .cells #[.int .i64 h.size, .int .i64 h.half, .int .i64 h.scan, .bool h.busy, .slice ob h.old.length oc, .slice nb h.new.length nc, .slice rb h.regs.length rc] 31) :: (w.heap.size + 1, .cells #[.int .i64 h.size, .int .i64 h.half, .int .i64 h.scan, .bool h.busy, .slice qb k qc, .slice ab rs.length ac, .slice cb h.regs.length cc] TH) :: (Lq ++ (Ln ++ (Ls ++ (L0 ++ L))))) wr) (fun _ i _ => h.old.length - (intOf i).toNat)
  case atStart => exact ⟨0, H, none, 0, [], [], Nat.zero_le _, rfl, Hle.refl _, AccL.nil, rfl, .nil, mG⟩
  case round =>
    obtain ⟨k, H', qb, qc, hr, Lq, hk, rfl, hle, hq, hhl, hhf, mH⟩ := hrel
    clear mG
    have HHL := Lib.hid hhl; clear hhl
    have HHF := Lib.hid hhf; clear hhf
    by_cases hlt : k < h.old.length
    · obtain ⟨blo, offo, svo, hbo, o0, o1, o2, o3, o4, hslo, hfto, hto⟩ := (HO.out.mono hle).getHeld hlt
      have HSLO := Lib.hid hslo
      obtain ⟨bo1, co1, rfl, -, hco1, -, -⟩ := hslo
      have hco1 := size_le_maxLen hco1
      subst hbo
      have o0 := o0.cell mH
      have o1 := o1.cell mH
      have o2 := o2.cell mH
      have o3 := o3.cell mH
      have o4 := o4.cell mH
      have hok := HOB.out _ (List.getElem_mem hlt)
      have htk : h.old.take (k + 1) = h.old.take k ++ [h.old[k]] := List.take_succ_eq_append_getElem hlt
      have HTK := Lib.hid htk; clear htk
      have HFTO := Lib.hid hfto; clear hfto
      have HTO := Lib.hid hto; clear hto
      have hltI : (k : Int) < h.old.length := by omega
      generalize h.old[k] = p at *
      obtain ⟨po, pt⟩ := p
      simp only at *
      have es := mH.eqs
      simp only [EqsL] at es
      have mF0 := mH.alloc (.cells #[.int .u8 po.kind, .string po.name, .int .i64 po.n, .slice bo1 po.slots.length co1, .int .i64 pt] 87)
      go_wp2_with fail
      clear o0 o1 o2 o3 o4 es
      refine AnyFrom.start (fun w' => ∃ H'' L'', Mem w0 H'' ((wr.heap.size, .cells #[.int .u8 po.kind, .string po.name, .int .i64 po.n, .slice bo1 po.slots.length co1, .int .i64 pt] 87) :: (w.heap.size, .cells #[.int .i64 h.size, .int .i64 h.half, .int .i64 h.scan, .bool h.busy, .slice (some ⟨blo, offo, none⟩) h.old.length oc, .slice nb h.new.length nc, .slice rb h.regs.length rc] 31) :: (w.heap.size + 1, .cells #[.int .i64 h.size, .int .i64 h.half, .int .i64 h.scan, .bool h.busy, .slice qb k qc, .slice ab rs.length ac, .slice cb h.regs.length cc] TH) :: L'') w') 17 (by kernel_rfl) ?_
      have mW := mF0.drew
      generalize World.drew _ = W at *
      clear mF0 mH
      have HS : (fun w' => ∃ H'' L'', Mem w0 H'' ((wr.heap.size, .cells #[.int .u8 po.kind, .string po.name, .int .i64 po.n, .slice bo1 po.slots.length co1, .int .i64 pt] 87) :: (w.heap.size, .cells #[.int .i64 h.size, .int .i64 h.half, .int .i64 h.scan, .bool h.busy, .slice (some ⟨blo, offo, none⟩) h.old.length oc, .slice nb h.new.length nc, .slice rb h.regs.length rc] 31) :: (w.heap.size + 1, .cells #[.int .i64 h.size, .int .i64 h.half, .int .i64 h.scan, .bool h.busy, .slice qb k qc, .slice ab rs.length ac, .slice cb h.regs.length cc] TH) :: L'') w') W := ⟨_, _, mW⟩
      refine AnyFrom.pure (i := 0) (v := ?_) rfl (by kernel_rfl) (by kernel_rfl) (by kernel_rfl) (by decide) (fun _ _ _ h => h) ⟨by kernel_rfl, ?_⟩ HS ?_
      rotate_left
      · first | (intro w'; go_simp; done) | (intro w'; go_simp; with_reducible rfl)
      simp only [Act.put, List.setIfInBounds_toArray, List.set_cons_zero, List.set_cons_succ, List.getElem_toArray, List.getElem_cons_succ, List.getElem_cons_zero]
      refine AnyFrom.pure (i := 1) (v := ?_) rfl (by kernel_rfl) (by kernel_rfl) (by kernel_rfl) (by decide) (fun _ _ _ h => h) ⟨by kernel_rfl, ?_⟩ HS ?_
      rotate_left
      · first | (intro w'; go_simp; done) | (intro w'; go_simp; with_reducible rfl)
      simp only [Act.put, List.setIfInBounds_toArray, List.set_cons_zero, List.set_cons_succ, List.getElem_toArray, List.getElem_cons_succ, List.getElem_cons_zero]
      refine AnyFrom.take (i := 2) (v := ?_) rfl (by kernel_rfl) (by kernel_rfl) (by kernel_rfl) (by kernel_rfl) (fun _ _ _ h => h) ⟨by kernel_rfl, ?_⟩ HS ?_
      rotate_left
      · first | (rintro w' ⟨H'', L'', hm⟩; have es := hm.eqs; simp only [EqsL] at es; go_simp; done) | (rintro w' ⟨H'', L'', hm⟩; have es := hm.eqs; simp only [EqsL] at es; go_simp; with_reducible rfl)
      simp only [Act.put, List.setIfInBounds_toArray, List.set_cons_zero, List.set_cons_succ, List.getElem_toArray, List.getElem_cons_succ, List.getElem_cons_zero]
      refine AnyFrom.take (i := 3) (v := ?_) rfl (by kernel_rfl) (by kernel_rfl) (by kernel_rfl) (by kernel_rfl) (fun _ _ _ h => h) ⟨by kernel_rfl, ?_⟩ HS ?_
      rotate_left
      · first | (rintro w' ⟨H'', L'', hm⟩; have es := hm.eqs; simp only [EqsL] at es; go_simp; done) | (rintro w' ⟨H'', L'', hm⟩; have es := hm.eqs; simp only [EqsL] at es; go_simp; with_reducible rfl)
      simp only [Act.put, List.setIfInBounds_toArray, List.set_cons_zero, List.set_cons_succ, List.getElem_toArray, List.getElem_cons_succ, List.getElem_cons_zero]
      refine AnyFrom.take (i := 4) (v := ?_) rfl (by kernel_rfl) (by kernel_rfl) (by kernel_rfl) (by kernel_rfl) (fun _ _ _ h => h) ⟨by kernel_rfl, ?_⟩ HS ?_
      rotate_left
      · first | (rintro w' ⟨H'', L'', hm⟩; have es := hm.eqs; simp only [EqsL] at es; go_simp; done) | (rintro w' ⟨H'', L'', hm⟩; have es := hm.eqs; simp only [EqsL] at es; go_simp; with_reducible rfl)
      simp only [Act.put, List.setIfInBounds_toArray, List.set_cons_zero, List.set_cons_succ, List.getElem_toArray, List.getElem_cons_succ, List.getElem_cons_zero]
      refine AnyFrom.take (i := 5) (v := ?_) rfl (by kernel_rfl) (by kernel_rfl) (by kernel_rfl) (by kernel_rfl) (fun _ _ _ h => h) ⟨by kernel_rfl, ?_⟩ HS ?_
      rotate_left
      · first | (rintro w' ⟨H'', L'', hm⟩; have es := hm.eqs; simp only [EqsL] at es; go_simp; done) | (rintro w' ⟨H'', L'', hm⟩; have es := hm.eqs; simp only [EqsL] at es; go_simp; with_reducible rfl)
      simp only [Act.put, List.setIfInBounds_toArray, List.set_cons_zero, List.set_cons_succ, List.getElem_toArray, List.getElem_cons_succ, List.getElem_cons_zero]
      refine AnyFrom.take (i := 6) (v := ?_) rfl (by kernel_rfl) (by kernel_rfl) (by kernel_rfl) (by kernel_rfl) (fun _ _ _ h => h) ⟨by kernel_rfl, ?_⟩ HS ?_
      rotate_left
      · first | (rintro w' ⟨H'', L'', hm⟩; have es := hm.eqs; simp only [EqsL] at es; go_simp; done) | (rintro w' ⟨H'', L'', hm⟩; have es := hm.eqs; simp only [EqsL] at es; go_simp; with_reducible rfl)
      simp only [Act.put, List.setIfInBounds_toArray, List.set_cons_zero, List.set_cons_succ, List.getElem_toArray, List.getElem_cons_succ, List.getElem_cons_zero]
      refine AnyFrom.take (i := 7) (v := ?_) rfl (by kernel_rfl) (by kernel_rfl) (by kernel_rfl) (by kernel_rfl) (fun _ _ _ h => h) ⟨by kernel_rfl, ?_⟩ HS ?_
      rotate_left
      · first | (rintro w' ⟨H'', L'', hm⟩; have es := hm.eqs; simp only [EqsL] at es; go_simp; done) | (rintro w' ⟨H'', L'', hm⟩; have es := hm.eqs; simp only [EqsL] at es; go_simp; with_reducible rfl)
      simp only [Act.put, List.setIfInBounds_toArray, List.set_cons_zero, List.set_cons_succ, List.getElem_toArray, List.getElem_cons_succ, List.getElem_cons_zero]
      refine AnyFrom.take (i := 9) (v := ?_) rfl (by kernel_rfl) (by kernel_rfl) (by kernel_rfl) (by kernel_rfl) (fun _ _ _ h => h) ⟨by kernel_rfl, ?_⟩ HS ?_
      rotate_left
      · first | (rintro w' ⟨H'', L'', hm⟩; have es := hm.eqs; simp only [EqsL] at es; go_simp; done) | (rintro w' ⟨H'', L'', hm⟩; have es := hm.eqs; simp only [EqsL] at es; go_simp; with_reducible rfl)
      simp only [Act.put, List.setIfInBounds_toArray, List.set_cons_zero, List.set_cons_succ, List.getElem_toArray, List.getElem_cons_succ, List.getElem_cons_zero]
      refine AnyFrom.take (i := 10) (v := ?_) rfl (by kernel_rfl) (by kernel_rfl) (by kernel_rfl) (by kernel_rfl) (fun _ _ _ h => h) ⟨by kernel_rfl, ?_⟩ HS ?_
      rotate_left
      · first | (rintro w' ⟨H'', L'', hm⟩; have es := hm.eqs; simp only [EqsL] at es; go_simp; done) | (rintro w' ⟨H'', L'', hm⟩; have es := hm.eqs; simp only [EqsL] at es; go_simp; with_reducible rfl)
      simp only [Act.put, List.setIfInBounds_toArray, List.set_cons_zero, List.set_cons_succ, List.getElem_toArray, List.getElem_cons_succ, List.getElem_cons_zero]
      refine AnyFrom.call (i := 8) (by kernel_rfl) rfl (by kernel_rfl) fun K hK => ?_
      go_simp
      refine (object_any po HFTO.out _ mW HSLO.out hok).mono ?_
      rintro e w5 ⟨b5, c5, L1, rfl, hown5, mX⟩
      obtain ⟨H2, mY, hle2, hsl5⟩ := hown5.freeze mX
      have HSL5 := Lib.hid hsl5; clear hsl5 mW mX hown5
      refine hK _ _ (.inr ⟨_, _, mY⟩) ?_
      clear hK K HS
      try simp only [Act.put, List.setIfInBounds_toArray, List.set_cons_zero, List.set_cons_succ, List.getElem_toArray, List.getElem_cons_succ, List.getElem_cons_zero]
      have HS : (fun w' => ∃ H'' L'', Mem w0 H'' ((wr.heap.size, .cells #[.int .u8 po.kind, .string po.name, .int .i64 po.n, .slice bo1 po.slots.length co1, .int .i64 pt] 87) :: (w.heap.size, .cells #[.int .i64 h.size, .int .i64 h.half, .int .i64 h.scan, .bool h.busy, .slice (some ⟨blo, offo, none⟩) h.old.length oc, .slice nb h.new.length nc, .slice rb h.regs.length rc] 31) :: (w.heap.size + 1, .cells #[.int .i64 h.size, .int .i64 h.half, .int .i64 h.scan, .bool h.busy, .slice qb k qc, .slice ab rs.length ac, .slice cb h.regs.length cc] TH) :: L'') w') w5 := ⟨_, _, mY⟩
      refine AnyFrom.pure (i := 11) (v := ?_) rfl (by kernel_rfl) (by kernel_rfl) (by kernel_rfl) (by decide) (fun _ _ _ h => h) ⟨by kernel_rfl, ?_⟩ HS ?_
      rotate_left
      · first | (intro w'; go_simp; done) | (intro w'; go_simp; with_reducible rfl)
      simp only [Act.put, List.setIfInBounds_toArray, List.set_cons_zero, List.set_cons_succ, List.getElem_toArray, List.getElem_cons_succ, List.getElem_cons_zero]
      refine AnyFrom.call (i := 12) (by kernel_rfl) rfl (by kernel_rfl) fun K hK => ?_
      go_simp
      generalize hxo : World.alloc w5 _ = wX
      have mX : Mem w0 H2 ((w5.heap.size, .cells #[.int .u8 po.kind, .string po.name, .int .i64 po.n, .slice b5 po.slots.length c5, .int .i64 pt] 87) :: (wr.heap.size, .cells #[.int .u8 po.kind, .string po.name, .int .i64 po.n, .slice bo1 po.slots.length co1, .int .i64 pt] 87) :: (w.heap.size, .cells #[.int .i64 h.size, .int .i64 h.half, .int .i64 h.scan, .bool h.busy, .slice (some ⟨blo, offo, none⟩) h.old.length oc, .slice nb h.new.length nc, .slice rb h.regs.length rc] 31) :: (w.heap.size + 1, .cells #[.int .i64 h.size, .int .i64 h.half, .int .i64 h.scan, .bool h.busy, .slice qb k qc, .slice ab rs.length ac, .slice cb h.regs.length cc] TH) :: (Lq ++ (Ln ++ (Ls ++ (L0 ++ L))))) wX := by rw [← hxo]; exact mY.alloc _
      generalize w5.heap.size = xo at *
      clear hxo mY
      have mX3 := mX.perm (perm_bn3 _ _ _ _ _)
      refine hK _ _ (.inr ⟨_, _, mX3⟩) ?_
      clear hK K HS
      try simp only [Act.put, List.setIfInBounds_toArray, List.set_cons_zero, List.set_cons_succ, List.getElem_toArray, List.getElem_cons_succ, List.getElem_cons_zero]
      have HS : (fun w' => ∃ H'' L'', Mem w0 H'' ((wr.heap.size, .cells #[.int .u8 po.kind, .string po.name, .int .i64 po.n, .slice bo1 po.slots.length co1, .int .i64 pt] 87) :: (w.heap.size, .cells #[.int .i64 h.size, .int .i64 h.half, .int .i64 h.scan, .bool h.busy, .slice (some ⟨blo, offo, none⟩) h.old.length oc, .slice nb h.new.length nc, .slice rb h.regs.length rc] 31) :: (w.heap.size + 1, .cells #[.int .i64 h.size, .int .i64 h.half, .int .i64 h.scan, .bool h.busy, .slice qb k qc, .slice ab rs.length ac, .slice cb h.regs.length cc] TH) :: L'') w') wX := ⟨_, _, mX3⟩
      have mJ := mX.perm (perm_bn1 _ _ _ _ Lq _)
      clear mX mX3
      obtain ⟨_, _, hqe, hq1, hq2⟩ := hq.shape
      cases hqe
      refine AnyFrom.one (i := 13) (by kernel_rfl) (AnyFrom.opIf rfl fun K hK => ?_)
      refine step_append_mem (w0 := w0) (H := H2) (L := _ :: _) rfl _ _ 27 rfl 87 5 64 (.agg #[.int .u8 0, .string ByteArray.empty, .int .i64 0, .slice none 0 0, .int .i64 0]) Try.underlying27 (by kernel_rfl) rfl (by decide) (.slice qb k qc) k (heldCs hr) (hq.join mJ) rfl (.slice (some ⟨xo, 0, none⟩) 1 1) 1 [.int .u8 po.kind, .string po.name, .int .i64 po.n, .slice b5 po.slots.length c5, .int .i64 pt] (Src.loc (e := 87) (hq.join mJ).mem (.head _)) rfl rfl (one5 rfl) (by omega) (by unfold maxLen; omega) ?_
      intro v' w6 hacc
      obtain ⟨b6, c6, rfl, _, _⟩ := hacc.shape
      obtain ⟨Lq3, hq3, mK⟩ := hacc.drop.split
      have mL := mK.perm (perm_bn2 _ _ _ Lq3 _)
      clear hacc mK mJ
      refine hK _ _ (.inr ⟨_, _, mL⟩) ?_
      clear hK K HS
      try simp only [Act.put, List.setIfInBounds_toArray, List.set_cons_zero, List.set_cons_succ, List.getElem_toArray, List.getElem_cons_succ, List.getElem_cons_zero]
      have HS : (fun w' => ∃ H'' L'', Mem w0 H'' ((wr.heap.size, .cells #[.int .u8 po.kind, .string po.name, .int .i64 po.n, .slice bo1 po.slots.length co1, .int .i64 pt] 87) :: (w.heap.size, .cells #[.int .i64 h.size, .int .i64 h.half, .int .i64 h.scan, .bool h.busy, .slice (some ⟨blo, offo, none⟩) h.old.length oc, .slice nb h.new.length nc, .slice rb h.regs.length rc] 31) :: (w.heap.size + 1, .cells #[.int .i64 h.size, .int .i64 h.half, .int .i64 h.scan, .bool h.busy, .slice qb k qc, .slice ab rs.length ac, .slice cb h.regs.length cc] TH) :: L'') w') w6 := ⟨_, _, mL⟩
      refine AnyFrom.call (i := 14) (by kernel_rfl) rfl (by kernel_rfl) fun K hK => ?_
      go_simp
      refine hK _ _ (.inr ⟨_, _, mL⟩) ?_
      clear hK K HS
      try simp only [Act.put, List.setIfInBounds_toArray, List.set_cons_zero, List.set_cons_succ, List.getElem_toArray, List.getElem_cons_succ, List.getElem_cons_zero]
      have HS : (fun w' => ∃ H'' L'', Mem w0 H'' ((wr.heap.size, .cells #[.int .u8 po.kind, .string po.name, .int .i64 po.n, .slice bo1 po.slots.length co1, .int .i64 pt] 87) :: (w.heap.size, .cells #[.int .i64 h.size, .int .i64 h.half, .int .i64 h.scan, .bool h.busy, .slice (some ⟨blo, offo, none⟩) h.old.length oc, .slice nb h.new.length nc, .slice rb h.regs.length rc] 31) :: (w.heap.size + 1, .cells #[.int .i64 h.size, .int .i64 h.half, .int .i64 h.scan, .bool h.busy, .slice qb k qc, .slice ab rs.length ac, .slice cb h.regs.length cc] TH) :: L'') w') w6 := ⟨_, _, mL⟩
      refine AnyFrom.call (i := 15) (by kernel_rfl) rfl (by kernel_rfl) fun K hK => ?_
      go_simp
      refine hK _ _ (.inr ⟨_, _, mL⟩) ?_
      clear hK K HS
      try simp only [Act.put, List.setIfInBounds_toArray, List.set_cons_zero, List.set_cons_succ, List.getElem_toArray, List.getElem_cons_succ, List.getElem_cons_zero]
      have HS : (fun w' => ∃ H'' L'', Mem w0 H'' ((wr.heap.size, .cells #[.int .u8 po.kind, .string po.name, .int .i64 po.n, .slice bo1 po.slots.length co1, .int .i64 pt] 87) :: (w.heap.size, .cells #[.int .i64 h.size, .int .i64 h.half, .int .i64 h.scan, .bool h.busy, .slice (some ⟨blo, offo, none⟩) h.old.length oc, .slice nb h.new.length nc, .slice rb h.regs.length rc] 31) :: (w.heap.size + 1, .cells #[.int .i64 h.size, .int .i64 h.half, .int .i64 h.scan, .bool h.busy, .slice qb k qc, .slice ab rs.length ac, .slice cb h.regs.length cc] TH) :: L'') w') w6 := ⟨_, _, mL⟩
      refine AnyFrom.call (i := 16) (by kernel_rfl) rfl (by kernel_rfl) fun K hK => ?_
      go_simp
      refine hK _ _ (.inr ⟨_, _, mL⟩) ?_
      clear hK K HS
      try simp only [Act.put, List.setIfInBounds_toArray, List.set_cons_zero, List.set_cons_succ, List.getElem_toArray, List.getElem_cons_succ, List.getElem_cons_zero]
      have HS : (fun w' => ∃ H'' L'', Mem w0 H'' ((wr.heap.size, .cells #[.int .u8 po.kind, .string po.name, .int .i64 po.n, .slice bo1 po.slots.length co1, .int .i64 pt] 87) :: (w.heap.size, .cells #[.int .i64 h.size, .int .i64 h.half, .int .i64 h.scan, .bool h.busy, .slice (some ⟨blo, offo, none⟩) h.old.length oc, .slice nb h.new.length nc, .slice rb h.regs.length rc] 31) :: (w.heap.size + 1, .cells #[.int .i64 h.size, .int .i64 h.half, .int .i64 h.scan, .bool h.busy, .slice qb k qc, .slice ab rs.length ac, .slice cb h.regs.length cc] TH) :: L'') w') w6 := ⟨_, _, mL⟩
      have es := mL.eqs
      simp only [EqsL] at es
      refine AnyFrom.one (i := 17) (by kernel_rfl) (AnyFrom.op rfl (by kernel_rfl) fun K hK => ?_)
      go_simp
      have mM := (mL.set (i := 4) (v := .slice b6 (k + 1) c6) (.tail (.tail .head))).drop
      simp only [List.setIfInBounds_toArray, List.set_cons_zero, List.set_cons_succ] at mM
      refine hK _ _ (.inl ⟨17, by decide, by rfl⟩) ?_
      clear hK K HS es
      try simp only [Act.put, List.setIfInBounds_toArray, List.set_cons_zero, List.set_cons_succ, List.getElem_toArray, List.getElem_cons_succ, List.getElem_cons_zero]
      refine AnyFrom.done (by kernel_rfl) ?_ _
      go_wp2_with fail
      go_roundw
      case rel =>
        refine ⟨k + 1, H2, b6, c6, hr ++ [(⟨po.kind, po.name, po.n, .slice b5 po.slots.length c5⟩, pt)], Lq3, by omega, by go_num, hle.trans hle2, ?_, by rw [List.length_append, HHL.out]; rfl, ?_, mM⟩
        · rw [heldCs_append]; exact hq3
        · rw [HTK.out]; exact (HHF.out.mono hle2).snoc ⟨rfl, rfl, rfl, HFTO.out, HSL5.out⟩ HTO.out
      case measure => simp [intOf]; omega
    · have hge : ¬ (k : Int) < h.old.length := by omega
      have hk' : k = h.old.length := by omega
      have hhf := HHF.out
      rw [hk', List.take_length] at hhf
      have HHF2 := Lib.hid hhf
      clear hhf hk'
      go_wp2_with fail
      refine bodyPost_ret (v := .tuple #[.pointer (some ⟨w.heap.size + 1, 0, none⟩), .int .i64 0]) (by simp [results, Try.results50, go_sem]) rfl ?_
      exact ⟨H', _, rfl, hle, rs, _, Ls, L0, hs, hcl, _, _, hr, Lq, Ln, by rw [HHL.out]; exact hq, HHF2.out, hn, mH.drop⟩
end Go.Proofs.Ythipkmmdjhpklaa
namespace Go.Proofs.Ythipkmmdjhpklaa
set_option linter.unusedVariables false
set_option linter.unusedSimpArgs false
open Go.RowKit

set_option maxRecDepth 10000 in
set_option maxHeartbeats 4000000 in
theorem Check_any (h : HeapM) (g : HGood h) (vo vn vr : Value) {w0 w : World} {H : Hp} {L : List (Nat × Obj)} (f : HFr H h vo vn vr) (m : Mem w0 H L w) :
    Calls Try.prog 26 #[HVal h vo vn vr] w (Ret w0 H L (.int .i64 0)) := by
  have F := Lib.hid f
  obtain ⟨ob, oc, rfl⟩ := f.o.shape
  obtain ⟨nb, nc, rfl⟩ := f.n.shape
  obtain ⟨rb, rc, rfl⟩ := f.r.shape
  clear f
  have HG := Lib.hid g; clear g
  have m1 := (m.alloc (.cells #[.int .i64 h.size, .int .i64 h.half, .int .i64 h.scan, .bool h.busy, .slice ob h.old.length oc, .slice nb h.new.length nc, .slice rb h.regs.length rc] 31)).drop
  unfold HVal
  go_enter Try.func26, Try.ntmps26
  go_wp2_with fail
  refine (newHeap_any h HG.out _ _ _ F.out m1).mono ?_
  rintro e w1 ⟨H', b, rfl, hle, hc⟩
  obtain ⟨LH, m2, _⟩ := HeapOwn.out (L1 := []) hc
  go_wp2_with fail
  go_ret
  exact ⟨rfl, (Mem.dropL LH m2).weaken hle⟩
theorem due_used {h : HeapM} (g : HGood h) : 0 ≤ h.used ∧ 0 ≤ h.due ∧ h.used + h.due ≤ h.size ∧ h.size ≤ 6000 := by
  have h1 := wordsM_ge (lens h.new)
  have h3 := dueL_ge h.old fun p hp => (g.ok.core.old p hp).1
  have h4 := g.ok.core.words
  have h5 := g.ok.core.size.2
  have e1 : h.used = wordsM (lens h.new) := rfl
  have e2 : h.due = dueL h.old := rfl
  rw [e1, e2]
  omega
set_option maxRecDepth 10000 in
set_option maxHeartbeats 4000000 in
theorem WordsB_any (h : HeapM) (g : HGood h) (vo vn vr : Value) {w0 w : World} {H : Hp} {L : List (Nat × Obj)} (f : HFr H h vo vn vr) (m : Mem w0 H L w) :
    Calls Try.prog 25 #[HVal h vo vn vr] w (Ret w0 H L (.tuple #[.int .i64 h.used, .int .i64 h.due, .int .i64 (h.size - h.used - h.due), .int .i64 0])) := by
  have hud := due_used g
  have hbd := g.ok.hbd
  have F := Lib.hid f
  obtain ⟨ob, oc, rfl⟩ := f.o.shape
  obtain ⟨nb, nc, rfl⟩ := f.n.shape
  obtain ⟨rb, rc, rfl⟩ := f.r.shape
  clear f
  have HG := Lib.hid g; clear g
  have m1 := (m.alloc (.cells #[.int .i64 h.size, .int .i64 h.half, .int .i64 h.scan, .bool h.busy, .slice ob h.old.length oc, .slice nb h.new.length nc, .slice rb h.regs.length rc] 31)).drop
  unfold HVal
  go_enter Try.func25, Try.ntmps25
  go_wp2_with fail
  refine (newHeap_any h HG.out _ _ _ F.out m1).mono ?_
  rintro e w1 ⟨H', b, rfl, hle, hc⟩
  go_wp2_with fail
  refine (used_any b h hc hbd.nl hbd.ns).mono ?_
  rintro e w2 ⟨rfl, hc2⟩
  go_wp2_with fail
  refine (due_any b h hc2 hbd.ol hbd.os).mono ?_
  rintro e w3 ⟨rfl, hc3⟩
  obtain ⟨rs, rv, Ls, Lr, hs, hv3, vo3, vn3, hr3, Lo, Ln, h1, h2, h3, m3⟩ := hc3
  have hw1 : IntKind.i64.wrap (h.size - h.used) = h.size - h.used := wrap_i64s _ (by omega) (by omega)
  have hw2 : IntKind.i64.wrap (h.size - h.used - h.due) = h.size - h.used - h.due := wrap_i64s _ (by omega) (by omega)
  generalize hus : h.used = us at *
  generalize hdu : h.due = du at *
  have HUS := Lib.hid hus; clear hus
  have HDU := Lib.hid hdu; clear hdu
  have mu := m3
  unfold HBox at mu
  have es := mu.eqs
  simp only [EqsL] at es
  go_wp2_with fail
  go_quiet (fail)
  go_wp2_with fail
  refine bodyPost_ret (v := .tuple #[.int .i64 us, .int .i64 du, .int .i64 (h.size - us - du), .int .i64 0]) (by simp [results, Try.results25, go_sem]) rfl ?_
  exact ⟨rfl, (Mem.dropL Lr (Mem.dropL Ls (Mem.dropL Ln (Mem.dropL Lo ((m3.drewN _).drop))))).weaken hle⟩
set_option maxRecDepth 10000 in
set_option maxHeartbeats 4000000 in
theorem LiveB_any (Fu : Nat) (h : HeapM) (g : HGood h) (vo vn vr : Value) {w0 w : World} {H : Hp} {L : List (Nat × Obj)} (f : HFr H h vo vn vr) (m : Mem w0 H L w) (hF : 12000 * 401 + h.regs.length ≤ Fu) :
    Calls Try.prog 29 #[HVal h vo vn vr] w (Ret w0 H L (.tuple #[.int .i64 ((h.liveN Fu [] h.regs).length : Nat), .int .i64 0])) := by
  have HF := Lib.hid hF; clear hF
  have F := Lib.hid f
  obtain ⟨ob, oc, rfl⟩ := f.o.shape
  obtain ⟨nb, nc, rfl⟩ := f.n.shape
  obtain ⟨rb, rc, rfl⟩ := f.r.shape
  clear f
  have HG := Lib.hid g; clear g
  have m1 := (m.alloc (.cells #[.int .i64 h.size, .int .i64 h.half, .int .i64 h.scan, .bool h.busy, .slice ob h.old.length oc, .slice nb h.new.length nc, .slice rb h.regs.length rc] 31)).drop
  unfold HVal
  go_enter Try.func29, Try.ntmps29
  go_wp2_with fail
  refine (newHeap_any h HG.out _ _ _ F.out m1).mono ?_
  rintro e w1 ⟨H1, b, rfl, hle1, hc⟩
  obtain ⟨H', vo, vn', vr', hle, hvo, hvn, hvr, m2⟩ := hc.freeze
  obtain ⟨ob2, oc2, rfl⟩ := hvo.shape
  obtain ⟨nb2, nc2, rfl⟩ := hvn.shape
  obtain ⟨rb2, rc2, rfl⟩ := hvr.shape
  have HVO := Lib.hid hvo
  have HVN := Lib.hid hvn
  have HVR := Lib.hid hvr
  clear hvo hvn hvr
  go_wp2_with fail
  refine (live_any b h HG.out.ok Fu HF.out ob2 nb2 rb2 oc2 nc2 rc2 HVO.out HVN.out HVR.out m2).mono ?_
  rintro e w2 ⟨rfl, m3⟩
  generalize hlv : h.liveN Fu [] h.regs = lv at *
  have HLV := Lib.hid hlv; clear hlv
  go_wp2_with fail
  refine bodyPost_ret (v := .tuple #[.int .i64 (lv.length : Nat), .int .i64 0]) (by simp [results, Try.results29, go_sem]) rfl ?_
  exact ⟨rfl, m3.weaken (hle1.trans hle)⟩
/-- How a deed on a heap handed over ends. -/
def DoR (r : Int × ValM × HeapM) (w0 : World) (H : Hp) (L : List (Nat × Obj)) (e : Ending) (w' : World) : Prop :=
  (r.1 ≠ 0 ∧ e = .returned (.tuple #[heapZ, unitV.v, .int .i64 r.1]) ∧ Mem w0 H L w') ∨
  (r.1 = 0 ∧ ∃ H' vo vn vr, e = .returned (.tuple #[HVal r.2.2 vo vn vr, r.2.1.v, .int .i64 0]) ∧ Hle H H' ∧ HFr H' r.2.2 vo vn vr ∧ Mem w0 H' L w')
theorem perm_dn1 {α : Type} (a b c d : α) (L : List α) : (a :: b :: c :: d :: L).Perm (c :: d :: a :: b :: L) := (by classical exact List.perm_iff_count.2 (fun a => by simp only [List.count_append, List.count_cons, List.cons_append, List.nil_append, List.append_assoc]; omega))
theorem perm_dn2 {α : Type} (v b x y : α) (L : List α) : (v :: b :: x :: y :: L).Perm (x :: y :: b :: v :: L) := (by classical exact List.perm_iff_count.2 (fun a => by simp only [List.count_append, List.count_cons, List.cons_append, List.nil_append, List.append_assoc]; omega))
set_option maxRecDepth 10000 in
set_option maxHeartbeats 8000000 in
theorem DoB_any (h : HeapM) (g : HGood h) (vo vn vr : Value) {w0 w : World} {H : Hp} {L : List (Nat × Obj)} (f : HFr H h vo vn vr) (m : Mem w0 H L w) (d : DeedM) (lv sv : Value) (hd : DeedR H d lv sv) (ha : d.a ≤ 100000) :
    Calls Try.prog 24 #[HVal h vo vn vr, d.v lv sv] w (DoR (h.do d) w0 H L) := by
  have F := Lib.hid f
  obtain ⟨ob, oc, rfl⟩ := f.o.shape
  obtain ⟨nb, nc, rfl⟩ := f.n.shape
  obtain ⟨rb, rc, rfl⟩ := f.r.shape
  clear f
  have HG := Lib.hid g; clear g
  have HD := Lib.hid hd
  have HA := Lib.hid ha; clear ha
  obtain ⟨lb, lc, rfl, _, _, _, _⟩ := hd.list
  obtain ⟨sb, sc, rfl, _, _, _, _⟩ := hd.slots
  clear hd
  have m1 := ((((m.alloc (.cells #[.int .i64 h.size, .int .i64 h.half, .int .i64 h.scan, .bool h.busy, .slice ob h.old.length oc, .slice nb h.new.length nc, .slice rb h.regs.length rc] 31)).alloc (DBox d (.slice lb d.list.length lc) (.slice sb d.obj.slots.length sc))).alloc (.cells #[.int .i64 0, .int .i64 0, .int .i64 0, .bool false, .slice none 0 0, .slice none 0 0, .slice none 0 0] 31)).alloc (.cells #[.int .u8 0, .int .i64 0, .string ByteArray.empty] 50))
  simp only [World.size_alloc] at m1
  unfold HVal DeedM.v
  have mu := m1
  unfold DBox at mu
  have es := mu.eqs
  simp only [EqsL] at es
  go_enter Try.func24, Try.ntmps24
  go_wp2_with fail
  refine (newHeap_any h HG.out _ _ _ F.out m1).mono ?_
  rintro e w1 ⟨H1, b, rfl, hle1, hc⟩
  obtain ⟨LH1, mB, _⟩ := HeapOwn.out (L1 := []) hc
  clear es mu m1
  have mu := mB.perm (List.perm_append_comm (l₁ := LH1))
  unfold DBox at mu
  simp only [List.cons_append] at mu
  have es := mu.eqs
  simp only [EqsL] at es
  go_wp2_with fail
  refine (do_any b h d _ _ hc (HD.out.mono hle1) HG.out.ok HA.out).mono ?_
  rintro e w2 ⟨rfl, H2, hle2, hc2⟩
  clear es mu mB hc
  have HG2 := Lib.hid (HG.out.do d)
  generalize hres : h.do d = r at *
  have HRES := Lib.hid hres; clear hres
  obtain ⟨re, rx, rh⟩ := r
  simp only at *
  obtain ⟨H3, vo3, vn3, vr3, hle3, hvo, hvn, hvr, m3⟩ := hc2.freeze
  have HFF := Lib.hid (HFr.mk hvo hvn hvr)
  obtain ⟨ob3, oc3, rfl⟩ := hvo.shape
  obtain ⟨nb3, nc3, rfl⟩ := hvn.shape
  obtain ⟨rb3, rc3, rfl⟩ := hvr.shape
  clear hvo hvn hvr hc2
  obtain ⟨rk, rn, rs⟩ := rx
  unfold ValM.v
  have HLE := Lib.hid ((hle1.trans hle2).trans hle3)
  clear hle1 hle2 hle3
  have m4 := m3.alloc (.cells #[.int .u8 rk, .int .i64 rn, .string rs] 50)
  have mu := m4
  unfold DBox HBox at mu
  have es := mu.eqs
  simp only [EqsL] at es
  have ns := mu.nes
  simp only [NeL, NeFrom] at ns
  by_cases hre : re = 0
  · subst hre
    go_wp2_with fail
    clear es ns
    refine AnyFrom.start (fun w' => ∃ L', Mem w0 H3 ((w2.heap.size, .cells #[.int .u8 rk, .int .i64 rn, .string rs] 50) :: (b, .cells #[.int .i64 rh.size, .int .i64 rh.half, .int .i64 rh.scan, .bool rh.busy, .slice ob3 rh.old.length oc3, .slice nb3 rh.new.length nc3, .slice rb3 rh.regs.length rc3] TH) :: L') w') 8 (by kernel_rfl) ?_
    have mW := mu.drew
    generalize World.drew _ = W at *
    clear mu m3 m4
    have HS : (fun w' => ∃ L', Mem w0 H3 ((w2.heap.size, .cells #[.int .u8 rk, .int .i64 rn, .string rs] 50) :: (b, .cells #[.int .i64 rh.size, .int .i64 rh.half, .int .i64 rh.scan, .bool rh.busy, .slice ob3 rh.old.length oc3, .slice nb3 rh.new.length nc3, .slice rb3 rh.regs.length rc3] TH) :: L') w') W := ⟨_, mW⟩
    refine AnyFrom.pure (i := 0) (v := ?_) rfl (by kernel_rfl) (by kernel_rfl) (by kernel_rfl) (by decide) (fun _ _ _ h => h) ⟨by kernel_rfl, ?_⟩ HS ?_
    rotate_left
    · first | (intro w'; go_simp; done) | (intro w'; go_simp; with_reducible rfl)
    simp only [Act.put, List.setIfInBounds_toArray, List.set_cons_zero, List.set_cons_succ, List.getElem_toArray, List.getElem_cons_succ, List.getElem_cons_zero]
    refine AnyFrom.take (i := 1) (v := ?_) rfl (by kernel_rfl) (by kernel_rfl) (by kernel_rfl) (by kernel_rfl) (fun _ _ _ h => h) ⟨by kernel_rfl, ?_⟩ HS ?_
    rotate_left
    · first | (rintro w' ⟨L', hm⟩; have es := hm.eqs; simp only [EqsL] at es; go_simp; done) | (rintro w' ⟨L', hm⟩; have es := hm.eqs; simp only [EqsL] at es; go_simp; with_reducible rfl)
    simp only [Act.put, List.setIfInBounds_toArray, List.set_cons_zero, List.set_cons_succ, List.getElem_toArray, List.getElem_cons_succ, List.getElem_cons_zero]
    refine AnyFrom.take (i := 2) (v := ?_) rfl (by kernel_rfl) (by kernel_rfl) (by kernel_rfl) (by kernel_rfl) (fun _ _ _ h => h) ⟨by kernel_rfl, ?_⟩ HS ?_
    rotate_left
    · first | (rintro w' ⟨L', hm⟩; have es := hm.eqs; simp only [EqsL] at es; go_simp; done) | (rintro w' ⟨L', hm⟩; have es := hm.eqs; simp only [EqsL] at es; go_simp; with_reducible rfl)
    simp only [Act.put, List.setIfInBounds_toArray, List.set_cons_zero, List.set_cons_succ, List.getElem_toArray, List.getElem_cons_succ, List.getElem_cons_zero]
    refine AnyFrom.take (i := 3) (v := ?_) rfl (by kernel_rfl) (by kernel_rfl) (by kernel_rfl) (by kernel_rfl) (fun _ _ _ h => h) ⟨by kernel_rfl, ?_⟩ HS ?_
    rotate_left
    · first | (rintro w' ⟨L', hm⟩; have es := hm.eqs; simp only [EqsL] at es; go_simp; done) | (rintro w' ⟨L', hm⟩; have es := hm.eqs; simp only [EqsL] at es; go_simp; with_reducible rfl)
    simp only [Act.put, List.setIfInBounds_toArray, List.set_cons_zero, List.set_cons_succ, List.getElem_toArray, List.getElem_cons_succ, List.getElem_cons_zero]
    refine AnyFrom.take (i := 4) (v := ?_) rfl (by kernel_rfl) (by kernel_rfl) (by kernel_rfl) (by kernel_rfl) (fun _ _ _ h => h) ⟨by kernel_rfl, ?_⟩ HS ?_
    rotate_left
    · first | (rintro w' ⟨L', hm⟩; have es := hm.eqs; simp only [EqsL] at es; go_simp; done) | (rintro w' ⟨L', hm⟩; have es := hm.eqs; simp only [EqsL] at es; go_simp; with_reducible rfl)
    simp only [Act.put, List.setIfInBounds_toArray, List.set_cons_zero, List.set_cons_succ, List.getElem_toArray, List.getElem_cons_succ, List.getElem_cons_zero]
    have es := mW.eqs
    simp only [EqsL] at es
    have ns := mW.nes
    simp only [NeL, NeFrom] at ns
    refine AnyFrom.call (i := 5) (by kernel_rfl) rfl (by kernel_rfl) fun K hK => ?_
    go_simp
    have mX := ((((((mW.set (i := 0) (v := .int .i64 rh.size) (.tail (.tail (.tail .head)))).set (i := 1) (v := .int .i64 rh.half) (.tail (.tail (.tail .head)))).set (i := 2) (v := .int .i64 rh.scan) (.tail (.tail (.tail .head)))).set (i := 3) (v := .bool rh.busy) (.tail (.tail (.tail .head)))).set (i := 4) (v := .slice ob3 rh.old.length oc3) (.tail (.tail (.tail .head)))).set (i := 5) (v := .slice nb3 rh.new.length nc3) (.tail (.tail (.tail .head)))).set (i := 6) (v := .slice rb3 rh.regs.length rc3) (.tail (.tail (.tail .head)))
    simp only [List.setIfInBounds_toArray, List.set_cons_zero, List.set_cons_succ] at mX
    generalize hwx : World.setCell _ _ _ = wX
    rw [hwx] at mX
    refine hK _ _ (.inr ⟨_, mX⟩) ?_
    clear hK K HS es ns mW hwx
    try simp only [Act.put, List.setIfInBounds_toArray, List.set_cons_zero, List.set_cons_succ, List.getElem_toArray, List.getElem_cons_succ, List.getElem_cons_zero]
    have HS : (fun w' => ∃ L', Mem w0 H3 ((w2.heap.size, .cells #[.int .u8 rk, .int .i64 rn, .string rs] 50) :: (b, .cells #[.int .i64 rh.size, .int .i64 rh.half, .int .i64 rh.scan, .bool rh.busy, .slice ob3 rh.old.length oc3, .slice nb3 rh.new.length nc3, .slice rb3 rh.regs.length rc3] TH) :: L') w') wX := ⟨_, mX⟩
    have es := mX.eqs
    simp only [EqsL] at es
    have ns := mX.nes
    simp only [NeL, NeFrom] at ns
    refine AnyFrom.call (i := 6) (by kernel_rfl) rfl (by kernel_rfl) fun K hK => ?_
    go_simp
    have mY := ((mX.set (i := 0) (v := .int .u8 rk) (.tail (.tail .head))).set (i := 1) (v := .int .i64 rn) (.tail (.tail .head))).set (i := 2) (v := .string rs) (.tail (.tail .head))
    simp only [List.setIfInBounds_toArray, List.set_cons_zero, List.set_cons_succ] at mY
    generalize hwy : World.setCell _ _ _ = wY
    rw [hwy] at mY
    refine hK _ _ (.inr ⟨_, mY⟩) ?_
    clear hK K HS es ns mX hwy
    try simp only [Act.put, List.setIfInBounds_toArray, List.set_cons_zero, List.set_cons_succ, List.getElem_toArray, List.getElem_cons_succ, List.getElem_cons_zero]
    have HS : (fun w' => ∃ L', Mem w0 H3 ((w2.heap.size, .cells #[.int .u8 rk, .int .i64 rn, .string rs] 50) :: (b, .cells #[.int .i64 rh.size, .int .i64 rh.half, .int .i64 rh.scan, .bool rh.busy, .slice ob3 rh.old.length oc3, .slice nb3 rh.new.length nc3, .slice rb3 rh.regs.length rc3] TH) :: L') w') wY := ⟨_, mY⟩
    refine AnyFrom.pure (i := 7) (v := ?_) rfl (by kernel_rfl) (by kernel_rfl) (by kernel_rfl) (by decide) (fun _ _ _ h => h) ⟨by kernel_rfl, ?_⟩ HS ?_
    rotate_left
    · first | (intro w'; go_simp; done) | (intro w'; go_simp; with_reducible rfl)
    simp only [Act.put, List.setIfInBounds_toArray, List.set_cons_zero, List.set_cons_succ, List.getElem_toArray, List.getElem_cons_succ, List.getElem_cons_zero]
    refine AnyFrom.done (by kernel_rfl) ?_ _
    have mZ := mY
    have es := mZ.eqs
    simp only [EqsL] at es
    go_wp2_with fail
    refine bodyPost_ret (v := .tuple #[HVal rh (.slice ob3 rh.old.length oc3) (.slice nb3 rh.new.length nc3) (.slice rb3 rh.regs.length rc3), (⟨rk, rn, rs⟩ : ValM).v, .int .i64 0]) (by simp [results, Try.results24, go_sem, es, HVal, ValM.v]) rfl ?_
    exact .inr ⟨rfl, H3, _, _, _, rfl, HLE.out, HFF.out, mZ.drop.drop.drop.drop.drop.drop⟩
  · have hre2 : (re != 0) = true := by simpa using hre
    have HRE := Lib.hid hre; clear hre
    go_wp2_with fail
    refine bodyPost_ret (v := .tuple #[heapZ, unitV.v, .int .i64 re]) (by simp [results, Try.results24, go_sem, es, ns, heapZ, unitV, ValM.v]; first | rfl | done) rfl ?_
    refine .inl ⟨HRE.out, rfl, Mem.weaken (MemB.done (ks := [w2.heap.size, b, w.heap.size + 1 + 1 + 1, w.heap.size + 1 + 1, w.heap.size + 1, w.heap.size]) ?_) HLE.out⟩
    repeat (first | refine MemB.set (by simp) ?_ | exact ⟨[_, _, _, _, _, _], rfl, m4⟩)
end Go.Proofs.Ythipkmmdjhpklaa
namespace Go.Proofs.Ythipkmmdjhpklaa
set_option linter.unusedVariables false
set_option linter.unusedSimpArgs false
open Go Go.RowKit

section
variable {P : Program} {ops : Array Oper} {Q : Exit → Act → World → Prop} {S S2 : World → Prop} {n : Nat}
theorem AnyFrom.three {i j l k : Nat} {ls : Array Bool} {a : Act} {w : World} (hr : Region.ready .any ops ls = [i, j, l])
    (h : wpOp P ops Q i (fun a' w' => (Spent n (ls.setIfInBounds i true) ∨ S w') ∧ AnyFrom P ops Q S n k (ls.setIfInBounds i true) a' w') a w)
    (h' : wpOp P ops Q j (fun a' w' => (Spent n (ls.setIfInBounds j true) ∨ S w') ∧ AnyFrom P ops Q S n k (ls.setIfInBounds j true) a' w') a w)
    (h'' : wpOp P ops Q l (fun a' w' => (Spent n (ls.setIfInBounds l true) ∨ S w') ∧ AnyFrom P ops Q S n k (ls.setIfInBounds l true) a' w') a w) : AnyFrom P ops Q S n (k + 1) ls a w :=
  ⟨fun h0 => (by rw [hr] at h0; cases h0), fun x hx => by
    rw [hr] at hx
    simp only [List.mem_cons, List.not_mem_nil, or_false] at hx
    rcases hx with rfl | rfl | rfl
    · exact h
    · exact h'
    · exact h''⟩
theorem AnyFrom.stronger (hs : ∀ w, S2 w → S w) : ∀ (k : Nat) {ls : Array Bool} {a : Act} {w : World}, AnyFrom P ops Q S2 n k ls a w → AnyFrom P ops Q S n k ls a w
  | 0, _, _, _, h => h
  | k + 1, ls, a, w, h => ⟨h.1, fun i hi => wpOp_mono (fun _ _ hx => ⟨hx.1.imp_right (hs _), AnyFrom.stronger hs k hx.2⟩) (h.2 i hi)⟩
end

/-! ### Words -/
def HeapM.sum (h : HeapM) : Int := h.used + h.due
theorem used_eq (h : HeapM) : h.used = wordsM (lens h.new) := rfl
theorem due_eq (h : HeapM) : h.due = dueL h.old := rfl
theorem move_words {h : HeapM} (c : HCore h) {x : ValM} (hx : ValIn h.half h.new.length h.old.length true x) : (h.afterMove x).sum = h.sum ∧ h.used ≤ (h.afterMove x).used := by
  have hb := c.bounds
  have hcv := hx.can hb.1 hb.2.1 c.half
  unfold HeapM.sum
  simp only [used_eq, due_eq]
  unfold HeapM.afterMove
  rcases moveN_cases (nn := h.new.length) hcv.o with ⟨h1, h2⟩ | ⟨i, hi, h1, h2, ⟨h3, h4⟩ | ⟨h3, h4⟩⟩
  · rw [h2]
    simp only [List.append_nil]
    exact ⟨trivial, Int.le_refl _⟩
  · have hp := c.old _ (List.getElem_mem hi)
    have h5 := dueL_set h.old i hi (h.new.length : Int) (by omega) (by omega)
    rw [h4]
    simp only [lens, List.map_append, List.map_singleton, wordsM_append, wordsM]
    omega
  · rw [h4]
    simp only [List.append_nil]
    exact ⟨trivial, Int.le_refl _⟩
theorem moves_words : ∀ (l : List ValM) {h : HeapM}, HCore h → (∀ x ∈ l, ValIn h.half h.new.length h.old.length true x) → (h.afterMoves l).sum = h.sum ∧ h.used ≤ (h.afterMoves l).used
  | [], h, c, _ => by
    have e : h.afterMoves [] = h := by unfold HeapM.afterMoves; simp [movesN]
    rw [e]
    exact ⟨rfl, Int.le_refl _⟩
  | x :: l, h, c, hx => by
    obtain ⟨c1, v1, o1, n1⟩ := c.move (hx x (.head _))
    have hl : ∀ y ∈ l, ValIn (h.afterMove x).half (h.afterMove x).new.length (h.afterMove x).old.length true y := fun y hy => by
      rw [o1]; exact (hx y (.tail _ hy)).mono n1 fun h => h
    have h1 := move_words c (hx x (.head _))
    have h2 := moves_words l c1 hl
    rw [afterMoves_cons]
    exact ⟨h2.1.trans h1.1, Int.le_trans h1.2 h2.2⟩
theorem scan1_words {h : HeapM} (c : HCore h) (hi : h.scan < h.new.length) : h.scan1.sum = h.sum ∧ h.used ≤ h.scan1.used := by
  have hs0 := c.s0
  have hi' : h.scan.toNat < h.new.length := by omega
  have hg := List.getElem?_eq_getElem hi'
  have ho := c.inNew hg
  have h1 := moves_words h.new[h.scan.toNat].slots c ho.sl
  have hgA : (h.afterMoves h.new[h.scan.toNat].slots).new[h.scan.toNat]? = some h.new[h.scan.toNat] := by
    simp only [HeapM.afterMoves]
    rw [List.getElem?_append_left hi', hg]
  have hlt := lt_of_some hgA
  have hu : h.scan1.used = (h.afterMoves h.new[h.scan.toNat].slots).used := by
    rw [scan1_eq hi', used_eq, used_eq]
    simp only
    rw [← set_append_of_lt _ _ _ _ hi']
    have := lens_set (h.afterMoves h.new[h.scan.toNat].slots).new h.scan.toNat ⟨h.new[h.scan.toNat].kind, h.new[h.scan.toNat].name, h.new[h.scan.toNat].n, (movesN h.half h.old h.new.length h.new[h.scan.toNat].slots).1⟩ hlt (by
      rw [(List.getElem?_eq_some_iff.1 hgA).2]
      simp only [movesN_len])
    exact congrArg wordsM this
  have hd : h.scan1.due = (h.afterMoves h.new[h.scan.toNat].slots).due := by
    rw [scan1_eq hi']; rfl
  unfold HeapM.sum at *
  rw [hu, hd]
  exact h1
theorem endIf_words {h : HeapM} (c : HCore h) : h.endIf.used = h.used ∧ h.endIf.sum ≤ h.sum ∧ (h.endIf.busy = true → h.endIf.sum = h.sum) := by
  have h2 := dueL_ge h.old fun p hp => (c.old p hp).1
  unfold HeapM.sum
  unfold HeapM.endIf
  by_cases e : h.scan = h.new.length
  · rw [if_pos e]
    simp only [used_eq, due_eq, dueL]
    exact ⟨trivial, by omega, fun h => by cases h⟩
  · rw [if_neg e]
    exact ⟨rfl, Int.le_refl _, fun _ => rfl⟩
theorem stepM_words : ∀ (n : Nat) {h : HeapM}, HOk h → h.used ≤ (h.stepM n).2.used ∧ (h.stepM n).2.sum ≤ h.sum ∧ ((h.stepM n).2.busy = true → (h.stepM n).2.sum = h.sum)
  | 0, h, o => ⟨Int.le_refl _, Int.le_refl _, fun _ => rfl⟩
  | n + 1, h, o => by
    unfold HeapM.stepM
    split
    · exact ⟨Int.le_refl _, Int.le_refl _, fun _ => rfl⟩
    · rename_i hb
      have hb' : h.busy = true := by simpa using hb
      split
      · rename_i hi
        have h1 := scan1_words o.core hi
        have h2 := endIf_words (o.core.scan1 hb' hi).1
        have h3 := stepM_words n (o.scanned hb' hi)
        refine ⟨?_, ?_, fun hq => ?_⟩
        · have := h3.1; simp only; omega
        · have := h3.2.1; have := h2.2.1; simp only; omega
        · have h4 := h3.2.2 hq
          by_cases hz : h.scan1.endIf.busy = true
          · have := h2.2.2 hz; simp only; omega
          · exfalso
            have hz' : h.scan1.endIf.busy = false := by simpa using hz
            have e : ∀ m, h.scan1.endIf.stepM m = (0, h.scan1.endIf) := fun m => by
              cases m with
              | zero => rfl
              | succ m => unfold HeapM.stepM; rw [if_pos hz']
            rw [e] at hq
            exact hz hq
      · have h2 := endIf_words o.core
        exact ⟨by rw [h2.1]; exact Int.le_refl _, h2.2.1, h2.2.2⟩
theorem setSlot_words (h : HeapM) (k n : Nat) (v : ValM) : (h.setSlot k n v).used = h.used ∧ (h.setSlot k n v).due = h.due ∧ (h.setSlot k n v).busy = h.busy := by
  unfold HeapM.setSlot
  cases hk : h.new[k]? with
  | none => exact ⟨rfl, rfl, rfl⟩
  | some p =>
    refine ⟨?_, rfl, rfl⟩
    rw [used_eq, used_eq]
    simp only
    rw [lens_set _ _ _ (lt_of_some hk) (by rw [(List.getElem?_eq_some_iff.1 hk).2]; simp)]
theorem begin_words {h : HeapM} (o : HOk h) (hb : h.busy = false) : h.begin.sum = h.used := by
  obtain ⟨c0, r0⟩ := o.started hb
  have h1 := moves_words h.regs c0 (fun x hx => by simp only [oldOf_length, List.length_nil]; exact r0 x hx)
  unfold HeapM.sum at *
  simp only [used_eq, due_eq, HeapM.afterMoves, List.nil_append, List.length_nil, HeapM.begin] at h1 ⊢
  rw [h1.1, dueL_oldOf]
  simp [lens, wordsM]
theorem do_size (h : HeapM) (d : DeedM) : (h.do d).2.2.size = h.size := by
  have hset : ∀ (g : HeapM) k n v, (g.setSlot k n v).size = g.size := fun g k n v => by unfold HeapM.setSlot; split <;> rfl
  have hstep : ∀ (n : Nat) (g : HeapM), (g.stepM n).2.size = g.size := by
    intro n
    induction n with
    | zero => intro g; rfl
    | succ n ih =>
      intro g
      have he : ∀ g : HeapM, g.endIf.size = g.size := fun g => by unfold HeapM.endIf; split <;> rfl
      have hs : g.scan1.size = g.size := by unfold HeapM.scan1; split <;> rfl
      unfold HeapM.stepM
      split
      · rfl
      · split
        · simp only; rw [ih, he, hs]
        · simp only; rw [he]
  unfold HeapM.do
  repeat' split
  · unfold HeapM.doMake; repeat' split
    all_goals rfl
  · unfold HeapM.doGet; repeat' split
    · rfl
    · rfl
    · simp only; unfold HeapM.getTo; rw [hset]
  · unfold HeapM.doPut; repeat' split
    · rfl
    · rfl
    · simp only; rw [hset]
  · unfold HeapM.doMove; split <;> rfl
  · unfold HeapM.doSet; repeat' split
    all_goals rfl
  · unfold HeapM.doSame; split <;> rfl
  · unfold HeapM.doRead; split <;> rfl
  · unfold HeapM.doBegin; split <;> rfl
  · unfold HeapM.doStep; split
    · rfl
    · simp only; rw [hstep]
  · rfl
theorem do_error (h : HeapM) (d : DeedM) (he : (h.do d).1 ≠ 0) : (h.do d).2.2 = h := by
  revert he
  unfold HeapM.do
  repeat' split
  · unfold HeapM.doMake; repeat' split
    all_goals simp
  · unfold HeapM.doGet; repeat' split
    all_goals simp
  · unfold HeapM.doPut; repeat' split
    all_goals simp
  · unfold HeapM.doMove; repeat' split
    all_goals simp
  · unfold HeapM.doSet; repeat' split
    all_goals simp
  · unfold HeapM.doSame; repeat' split
    all_goals simp
  · unfold HeapM.doRead; repeat' split
    all_goals simp
  · unfold HeapM.doBegin; repeat' split
    all_goals simp
  · unfold HeapM.doStep; repeat' split
    all_goals simp
  · simp
/-- What the law HeapRoom says of a deed without an error. -/
theorem room_do {h : HeapM} (g : HGood h) (d : DeedM) (he : (h.do d).1 = 0) :
    (d.kind = 1 → (h.do d).2.2.used = h.used + 1 + d.list.length ∧ (h.do d).2.2.due = h.due) ∧ (d.kind = 8 → (h.do d).2.2.sum = h.used) ∧
    (d.kind ≠ 1 → d.kind ≠ 8 → h.used ≤ (h.do d).2.2.used ∧ (h.do d).2.2.sum ≤ h.sum ∧ ((h.do d).2.2.busy = true → (h.do d).2.2.sum = h.sum)) := by
  have hsame : ∀ {h' : HeapM}, h'.used = h.used → h'.due = h.due → h.used ≤ h'.used ∧ h'.sum ≤ h.sum ∧ (h'.busy = true → h'.sum = h.sum) := fun {h'} e1 e2 => by
    unfold HeapM.sum
    rw [e1, e2]
    exact ⟨Int.le_refl _, Int.le_refl _, fun _ => rfl⟩
  refine ⟨fun hk => ?_, fun hk => ?_, fun h1 h8 => ?_⟩
  · unfold HeapM.do at *
    rw [if_pos hk] at *
    unfold HeapM.doMake at *
    repeat' split at he
    all_goals first | (exfalso; revert he; simp; done) | skip
    rename_i q1 q2 q3 q4 q5 q6
    rw [if_neg q1, if_neg q2, if_neg q3, if_neg q4, if_neg q5, if_neg q6]
    simp only [used_eq, due_eq, lens, List.map_append, List.map_singleton, wordsM_append, wordsM]
    have h9 : (h.made d).slots.length = d.list.length := by simp [HeapM.made]
    rw [h9]
    refine ⟨by omega, trivial⟩
  · unfold HeapM.do at *
    rw [if_neg (by omega), if_neg (by omega), if_neg (by omega), if_neg (by omega), if_neg (by omega), if_neg (by omega), if_neg (by omega), if_pos hk] at *
    unfold HeapM.doBegin at *
    split at he
    · exfalso; revert he; simp
    · rename_i hb
      rw [if_neg hb]
      exact begin_words g.ok (by simpa using hb)
  · unfold HeapM.do at *
    rw [if_neg h1] at *
    by_cases h2 : d.kind = 2
    · rw [if_pos h2] at *
      unfold HeapM.doGet at *
      split at he
      · exfalso; revert he; simp
      · rename_i ha
        rw [if_neg ha] at *
        split at he
        · rename_i hs
          exfalso; exact hs he
        · rename_i hs
          rw [if_neg hs]
          have hn := (slotE_zero hs).2.2
          simp only
          unfold HeapM.getTo
          have hx : ValIn h.half h.new.length h.old.length true ((h.slotsAt ((h.reg d.b).n / 2).toNat).getD d.c.toNat unitV) := by
            rw [List.getD_eq_getElem?_getD, List.getElem?_eq_getElem hn]
            simp only [Option.getD_some]
            have hm := List.getElem_mem hn
            generalize (h.slotsAt ((h.reg d.b).n / 2).toNat)[d.c.toNat] = y at *
            unfold HeapM.slotsAt at hm
            cases hk : h.new[((h.reg d.b).n / 2).toNat]? with
            | none => rw [hk] at hm; cases hm
            | some p =>
              rw [hk] at hm
              exact ((g.ok.core.new _ p hk).sl y hm).mono (Nat.le_refl _) fun _ => rfl
          have h3 := move_words g.ok.core hx
          generalize (h.slotsAt ((h.reg d.b).n / 2).toNat).getD d.c.toNat unitV = x at *
          have h4 := setSlot_words { h with old := (moveN h.half h.old h.new.length x).2.1, new := h.new ++ (moveN h.half h.old h.new.length x).2.2, regs := h.regs.set d.a.toNat (moveN h.half h.old h.new.length x).1 } ((h.reg d.b).n / 2).toNat d.c.toNat (moveN h.half h.old h.new.length x).1
          have e1 : ({ h with old := (moveN h.half h.old h.new.length x).2.1, new := h.new ++ (moveN h.half h.old h.new.length x).2.2, regs := h.regs.set d.a.toNat (moveN h.half h.old h.new.length x).1 } : HeapM).used = (h.afterMove x).used := rfl
          have e2 : ({ h with old := (moveN h.half h.old h.new.length x).2.1, new := h.new ++ (moveN h.half h.old h.new.length x).2.2, regs := h.regs.set d.a.toNat (moveN h.half h.old h.new.length x).1 } : HeapM).due = (h.afterMove x).due := rfl
          unfold HeapM.sum at *
          rw [h4.1, h4.2.1, e1, e2]
          exact ⟨h3.2, by omega, fun _ => h3.1⟩
    rw [if_neg h2] at *
    by_cases h3 : d.kind = 3
    · rw [if_pos h3] at *
      unfold HeapM.doPut at *
      split at he
      · exfalso; revert he; simp
      · rename_i ha
        rw [if_neg ha] at *
        split at he
        · rename_i hs
          exfalso; exact hs he
        · rename_i hs
          rw [if_neg hs]
          exact hsame (setSlot_words _ _ _ _).1 (setSlot_words _ _ _ _).2.1
    rw [if_neg h3] at *
    by_cases h4 : d.kind = 4
    · rw [if_pos h4] at *
      unfold HeapM.doMove
      split <;> exact hsame rfl rfl
    rw [if_neg h4] at *
    by_cases h5 : d.kind = 5
    · rw [if_pos h5] at *
      unfold HeapM.doSet
      repeat' split
      all_goals exact hsame rfl rfl
    rw [if_neg h5] at *
    by_cases h6 : d.kind = 6
    · rw [if_pos h6] at *
      unfold HeapM.doSame
      split <;> exact hsame rfl rfl
    rw [if_neg h6] at *
    by_cases h7 : d.kind = 7
    · rw [if_pos h7] at *
      unfold HeapM.doRead
      split <;> exact hsame rfl rfl
    rw [if_neg h7, if_neg h8] at *
    by_cases h9 : d.kind = 9
    · rw [if_pos h9] at *
      unfold HeapM.doStep at *
      split
      · exact hsame rfl rfl
      · exact stepM_words _ g.ok
    · rw [if_neg h9] at he
      exact absurd he (by simp)
end Go.Proofs.Ythipkmmdjhpklaa
