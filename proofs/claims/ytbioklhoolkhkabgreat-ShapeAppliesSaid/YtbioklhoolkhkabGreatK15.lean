/- The walk of the reference: Apply. The walks of the law: ThinChanges. The walks of the law: ThinLayout. -/
import Derived.Test.YtbioklhoolkhkabGreatK14
namespace Go.Proofs.YtbioklhoolkhkabGreat
set_option linter.unusedVariables false
set_option linter.unusedSimpArgs false
open Go.RowKit

theorem shareA {K : Act → World → Prop} {G : Prop} (R : Nat → Option Addr → Nat → Nat → Option Addr → Nat → Nat → World → Prop) {f : Nat → Option Addr → Nat → Nat → Option Addr → Nat → Nat → Act}
    (br : (∀ q b1 n1 c1 b2 n2 c2 W, R q b1 n1 c1 b2 n2 c2 W → K (f q b1 n1 c1 b2 n2 c2) W) → G) (rest : ∀ q b1 n1 c1 b2 n2 c2 W, R q b1 n1 c1 b2 n2 c2 W → K (f q b1 n1 c1 b2 n2 c2) W) : G := br rest
theorem slE {α : Type} {E : Enc α} {H : Hp} {v : Value} {xs : List α} (h : SlR E H v xs) : ∃ b n c, v = .slice b n c ∧ n = xs.length := by
  obtain ⟨b, c, rfl, _⟩ := h
  exact ⟨b, _, c, rfl, rfl⟩
set_option maxRecDepth 10000 in
set_option maxHeartbeats 8000000 in
theorem RApply_any (x : LayM) (v1 v2 v3 : Value) (cs : List ChangeM) (hx : x.fit 50000) {w0 w : World} {H : Hp} {L : List (Nat × Obj)} (m : Mem w0 H L w) (hv1 : SlR encClass H v1 x.classes) (hv2 : SlR encStr H v2 x.roots) (hv3 : SlR encChange H v3 cs) :
    Calls Tryz.prog 9 #[v1, v2, v3] w (ApR (applyM x cs) w0 H L) := by
  have H1 := Lib.hid hv1
  have H2 := Lib.hid hv2
  have H3 := Lib.hid hv3
  have HX := Lib.hid hx; clear hx
  obtain ⟨b1, n1, c1, rfl, -⟩ := slE hv1
  obtain ⟨b2, n2, c2, rfl, -⟩ := slE hv2
  clear hv1 hv2
  obtain ⟨vb, vcp, rfl, hvc1, hvc, _, _⟩ := hv3
  have hvc := size_le_maxLen hvc
  go_enter Tryz.func9, Tryz.ntmps9
  by_cases h60 : 60 < cs.length
  · have h60I : (60 : Int) < cs.length := by omega
    have HA : Hid (applyM x cs = ⟨⟨[], []⟩, 0, 5⟩) := Lib.hid (if_pos h60)
    go_wp2_with fail
    refine bodyPost_ret (v := .tuple #[.slice none 0 0, .slice none 0 0, .int .i64 0, .int .i64 5]) (by simp [results, Tryz.results9, go_sem]) rfl ?_
    rw [HA.out]
    exact ⟨H, _, _, rfl, Hle.refl H, SlR.nil _ _, SlR.nil _ _, m⟩
  have h60I : ¬ (60 : Int) < cs.length := by omega
  have HA : Hid (applyM x cs = ⟨(x.apply 0 cs).1, (x.apply 0 cs).2.1, (x.apply 0 cs).2.2⟩) := Lib.hid (if_neg h60)
  have m1 := m.alloc (LBox TRL (.slice b1 n1 c1) (.slice b2 n2 c2))
  generalize hxb : w.heap.size = xb at *
  go_wp2_with fail
  go_loopw [11, 12, 13] (fun i _ _ wr => ∃ (k : Nat) (y : LayM) (H' : Hp) (d1 d2 : Option Addr) (m1 e1 m2 e2 : Nat), k ≤ cs.length ∧ i = .int .i64 k ∧ Hid (y.fit (50000 + k)) ∧ Hle H H' ∧ Hid (SlR encClass H' (.slice d1 m1 e1) y.classes) ∧ Hid (SlR encStr H' (.slice d2 m2 e2) y.roots) ∧ Mem w0 H' ((xb, LBox TRL (.slice d1 m1 e1) (.slice d2 m2 e2)) :: L) wr ∧ Hid (y.apply k (cs.drop k) = x.apply 0 cs)) (fun i _ _ _ => cs.length - (intOf i).toNat)
  case atStart => exact ⟨0, x, H, b1, b2, n1, c1, n2, c2, Nat.zero_le _, rfl, Lib.hid (by simpa using HX.out), Hle.refl H, H1, H2, m1, Lib.hid rfl⟩
  case round =>
    clear m1 m
    obtain ⟨k, y, H', d1, d2, m1, e1, m2, e2, hk, rfl, hfit, hle, hs1, hs2, mk, hap⟩ := hrel
    by_cases hlt : k < cs.length
    · have hltI : (k : Int) < cs.length := by omega
      have HDR := Lib.hid (show cs.drop k = cs[k] :: cs.drop (k + 1) from List.drop_eq_getElem_cons hlt)
      obtain ⟨blk, off, rfl, hcell, hcf⟩ := (H3.out.mono hle).getChange hlt
      have HCF := Lib.hid hcf; clear hcf
      generalize cs[k] = c at *
      have HCELL := Lib.hid hcell; clear hcell
      go_wp2_with fail
      apply shareA (R := fun q b1 n1 c1 b2 n2 c2 W => ∃ H9, Hle H' H9 ∧ SlR encClass H9 (.slice b1 n1 c1) (y.done c).2.classes ∧ SlR encStr H9 (.slice b2 n2 c2) (y.done c).2.roots ∧ Mem w0 H9 ((q, LBox TRL (.slice b1 n1 c1) (.slice b2 n2 c2)) :: (xb, LBox TRL (.slice d1 m1 e1) (.slice d2 m2 e2)) :: L) W)
      case' br =>
        intro key
        refine AnyFrom.start (fun w' => ∃ H9 L', Hle H' H9 ∧ Mem w0 H9 L' w' ∧ (xb, LBox TRL (.slice d1 m1 e1) (.slice d2 m2 e2)) ∈ L') 12 (by kernel_rfl) ?_
        have mS := mk.drew
        generalize wr.drew = W at *
        have HS : ∃ H9 L', Hle H' H9 ∧ Mem w0 H9 L' W ∧ (xb, LBox TRL (.slice d1 m1 e1) (.slice d2 m2 e2)) ∈ L' := ⟨_, _, Hle.refl _, mS, by simp⟩
        refine AnyFrom.takeT (i := 0) (v := ?_) rfl (by kernel_rfl) (by kernel_rfl) (by kernel_rfl) (by kernel_rfl) (fun _ _ _ h => h) ⟨by kernel_rfl, ?_⟩ HS ?_
        rotate_left
        · first | (rintro w' ⟨H9, L', hl9, hm, hmem⟩; have hcb := cell_of_heap (hm.loc _ hmem).1; have hlt9 := lt_of_heap (hm.loc _ hmem).1; simp only [LBox] at hcb hlt9; have a0 := ((HCELL.out 0 _ rfl).mono hl9).cell hm; rw [Nat.add_zero] at a0; have a1 := ((HCELL.out 1 _ rfl).mono hl9).cell hm; have a2 := ((HCELL.out 2 _ rfl).mono hl9).cell hm; have a3 := ((HCELL.out 3 _ rfl).mono hl9).cell hm; have a4 := ((HCELL.out 4 _ rfl).mono hl9).cell hm; have a5 := ((HCELL.out 5 _ rfl).mono hl9).cell hm; have a6 := ((HCELL.out 6 _ rfl).mono hl9).cell hm; go_simp; done) | (rintro w' ⟨H9, L', hl9, hm, hmem⟩; have hcb := cell_of_heap (hm.loc _ hmem).1; have hlt9 := lt_of_heap (hm.loc _ hmem).1; simp only [LBox] at hcb hlt9; have a0 := ((HCELL.out 0 _ rfl).mono hl9).cell hm; rw [Nat.add_zero] at a0; have a1 := ((HCELL.out 1 _ rfl).mono hl9).cell hm; have a2 := ((HCELL.out 2 _ rfl).mono hl9).cell hm; have a3 := ((HCELL.out 3 _ rfl).mono hl9).cell hm; have a4 := ((HCELL.out 4 _ rfl).mono hl9).cell hm; have a5 := ((HCELL.out 5 _ rfl).mono hl9).cell hm; have a6 := ((HCELL.out 6 _ rfl).mono hl9).cell hm; go_simp; with_reducible rfl)
        simp only [Act.put, List.setIfInBounds_toArray, List.set_cons_zero, List.set_cons_succ, List.getElem_toArray, List.getElem_cons_succ, List.getElem_cons_zero]
        refine AnyFrom.takeT (i := 1) (v := ?_) rfl (by kernel_rfl) (by kernel_rfl) (by kernel_rfl) (by kernel_rfl) (fun _ _ _ h => h) ⟨by kernel_rfl, ?_⟩ HS ?_
        rotate_left
        · first | (rintro w' ⟨H9, L', hl9, hm, hmem⟩; have hcb := cell_of_heap (hm.loc _ hmem).1; have hlt9 := lt_of_heap (hm.loc _ hmem).1; simp only [LBox] at hcb hlt9; have a0 := ((HCELL.out 0 _ rfl).mono hl9).cell hm; rw [Nat.add_zero] at a0; have a1 := ((HCELL.out 1 _ rfl).mono hl9).cell hm; have a2 := ((HCELL.out 2 _ rfl).mono hl9).cell hm; have a3 := ((HCELL.out 3 _ rfl).mono hl9).cell hm; have a4 := ((HCELL.out 4 _ rfl).mono hl9).cell hm; have a5 := ((HCELL.out 5 _ rfl).mono hl9).cell hm; have a6 := ((HCELL.out 6 _ rfl).mono hl9).cell hm; go_simp; done) | (rintro w' ⟨H9, L', hl9, hm, hmem⟩; have hcb := cell_of_heap (hm.loc _ hmem).1; have hlt9 := lt_of_heap (hm.loc _ hmem).1; simp only [LBox] at hcb hlt9; have a0 := ((HCELL.out 0 _ rfl).mono hl9).cell hm; rw [Nat.add_zero] at a0; have a1 := ((HCELL.out 1 _ rfl).mono hl9).cell hm; have a2 := ((HCELL.out 2 _ rfl).mono hl9).cell hm; have a3 := ((HCELL.out 3 _ rfl).mono hl9).cell hm; have a4 := ((HCELL.out 4 _ rfl).mono hl9).cell hm; have a5 := ((HCELL.out 5 _ rfl).mono hl9).cell hm; have a6 := ((HCELL.out 6 _ rfl).mono hl9).cell hm; go_simp; with_reducible rfl)
        simp only [Act.put, List.setIfInBounds_toArray, List.set_cons_zero, List.set_cons_succ, List.getElem_toArray, List.getElem_cons_succ, List.getElem_cons_zero]
        refine AnyFrom.takeT (i := 2) (v := ?_) rfl (by kernel_rfl) (by kernel_rfl) (by kernel_rfl) (by kernel_rfl) (fun _ _ _ h => h) ⟨by kernel_rfl, ?_⟩ HS ?_
        rotate_left
        · first | (rintro w' ⟨H9, L', hl9, hm, hmem⟩; have hcb := cell_of_heap (hm.loc _ hmem).1; have hlt9 := lt_of_heap (hm.loc _ hmem).1; simp only [LBox] at hcb hlt9; have a0 := ((HCELL.out 0 _ rfl).mono hl9).cell hm; rw [Nat.add_zero] at a0; have a1 := ((HCELL.out 1 _ rfl).mono hl9).cell hm; have a2 := ((HCELL.out 2 _ rfl).mono hl9).cell hm; have a3 := ((HCELL.out 3 _ rfl).mono hl9).cell hm; have a4 := ((HCELL.out 4 _ rfl).mono hl9).cell hm; have a5 := ((HCELL.out 5 _ rfl).mono hl9).cell hm; have a6 := ((HCELL.out 6 _ rfl).mono hl9).cell hm; go_simp; done) | (rintro w' ⟨H9, L', hl9, hm, hmem⟩; have hcb := cell_of_heap (hm.loc _ hmem).1; have hlt9 := lt_of_heap (hm.loc _ hmem).1; simp only [LBox] at hcb hlt9; have a0 := ((HCELL.out 0 _ rfl).mono hl9).cell hm; rw [Nat.add_zero] at a0; have a1 := ((HCELL.out 1 _ rfl).mono hl9).cell hm; have a2 := ((HCELL.out 2 _ rfl).mono hl9).cell hm; have a3 := ((HCELL.out 3 _ rfl).mono hl9).cell hm; have a4 := ((HCELL.out 4 _ rfl).mono hl9).cell hm; have a5 := ((HCELL.out 5 _ rfl).mono hl9).cell hm; have a6 := ((HCELL.out 6 _ rfl).mono hl9).cell hm; go_simp; with_reducible rfl)
        simp only [Act.put, List.setIfInBounds_toArray, List.set_cons_zero, List.set_cons_succ, List.getElem_toArray, List.getElem_cons_succ, List.getElem_cons_zero]
        refine AnyFrom.takeT (i := 3) (v := ?_) rfl (by kernel_rfl) (by kernel_rfl) (by kernel_rfl) (by kernel_rfl) (fun _ _ _ h => h) ⟨by kernel_rfl, ?_⟩ HS ?_
        rotate_left
        · first | (rintro w' ⟨H9, L', hl9, hm, hmem⟩; have hcb := cell_of_heap (hm.loc _ hmem).1; have hlt9 := lt_of_heap (hm.loc _ hmem).1; simp only [LBox] at hcb hlt9; have a0 := ((HCELL.out 0 _ rfl).mono hl9).cell hm; rw [Nat.add_zero] at a0; have a1 := ((HCELL.out 1 _ rfl).mono hl9).cell hm; have a2 := ((HCELL.out 2 _ rfl).mono hl9).cell hm; have a3 := ((HCELL.out 3 _ rfl).mono hl9).cell hm; have a4 := ((HCELL.out 4 _ rfl).mono hl9).cell hm; have a5 := ((HCELL.out 5 _ rfl).mono hl9).cell hm; have a6 := ((HCELL.out 6 _ rfl).mono hl9).cell hm; go_simp; done) | (rintro w' ⟨H9, L', hl9, hm, hmem⟩; have hcb := cell_of_heap (hm.loc _ hmem).1; have hlt9 := lt_of_heap (hm.loc _ hmem).1; simp only [LBox] at hcb hlt9; have a0 := ((HCELL.out 0 _ rfl).mono hl9).cell hm; rw [Nat.add_zero] at a0; have a1 := ((HCELL.out 1 _ rfl).mono hl9).cell hm; have a2 := ((HCELL.out 2 _ rfl).mono hl9).cell hm; have a3 := ((HCELL.out 3 _ rfl).mono hl9).cell hm; have a4 := ((HCELL.out 4 _ rfl).mono hl9).cell hm; have a5 := ((HCELL.out 5 _ rfl).mono hl9).cell hm; have a6 := ((HCELL.out 6 _ rfl).mono hl9).cell hm; go_simp; with_reducible rfl)
        simp only [Act.put, List.setIfInBounds_toArray, List.set_cons_zero, List.set_cons_succ, List.getElem_toArray, List.getElem_cons_succ, List.getElem_cons_zero]
        refine AnyFrom.takeT (i := 4) (v := ?_) rfl (by kernel_rfl) (by kernel_rfl) (by kernel_rfl) (by kernel_rfl) (fun _ _ _ h => h) ⟨by kernel_rfl, ?_⟩ HS ?_
        rotate_left
        · first | (rintro w' ⟨H9, L', hl9, hm, hmem⟩; have hcb := cell_of_heap (hm.loc _ hmem).1; have hlt9 := lt_of_heap (hm.loc _ hmem).1; simp only [LBox] at hcb hlt9; have a0 := ((HCELL.out 0 _ rfl).mono hl9).cell hm; rw [Nat.add_zero] at a0; have a1 := ((HCELL.out 1 _ rfl).mono hl9).cell hm; have a2 := ((HCELL.out 2 _ rfl).mono hl9).cell hm; have a3 := ((HCELL.out 3 _ rfl).mono hl9).cell hm; have a4 := ((HCELL.out 4 _ rfl).mono hl9).cell hm; have a5 := ((HCELL.out 5 _ rfl).mono hl9).cell hm; have a6 := ((HCELL.out 6 _ rfl).mono hl9).cell hm; go_simp; done) | (rintro w' ⟨H9, L', hl9, hm, hmem⟩; have hcb := cell_of_heap (hm.loc _ hmem).1; have hlt9 := lt_of_heap (hm.loc _ hmem).1; simp only [LBox] at hcb hlt9; have a0 := ((HCELL.out 0 _ rfl).mono hl9).cell hm; rw [Nat.add_zero] at a0; have a1 := ((HCELL.out 1 _ rfl).mono hl9).cell hm; have a2 := ((HCELL.out 2 _ rfl).mono hl9).cell hm; have a3 := ((HCELL.out 3 _ rfl).mono hl9).cell hm; have a4 := ((HCELL.out 4 _ rfl).mono hl9).cell hm; have a5 := ((HCELL.out 5 _ rfl).mono hl9).cell hm; have a6 := ((HCELL.out 6 _ rfl).mono hl9).cell hm; go_simp; with_reducible rfl)
        simp only [Act.put, List.setIfInBounds_toArray, List.set_cons_zero, List.set_cons_succ, List.getElem_toArray, List.getElem_cons_succ, List.getElem_cons_zero]
        refine AnyFrom.two (i := 5) (j := 9) (by kernel_rfl) ?_ ?_
        · skip
          refine AnyFrom.op rfl (by kernel_rfl) fun K hK => ?_
          go_simp
          refine (RDone_any y _ _ c HCF.out ⟨by have := hfit.out.roots; omega, hfit.out.classes, hfit.out.fields⟩ mS hs1.out hs2.out).mono ?_
          rintro e W2 ⟨H9, u1, u2, rfl, hl9, hq1, hq2, m5⟩
          obtain ⟨b1, n1, c1, rfl, -⟩ := slE hq1
          obtain ⟨b2, n2, c2, rfl, -⟩ := slE hq2
          refine hK _ _ (.inr ⟨_, _, hl9, m5, by simp⟩) ?_
          clear hK K HS
          try simp only [Act.put, List.setIfInBounds_toArray, List.set_cons_zero, List.set_cons_succ, List.getElem_toArray, List.getElem_cons_succ, List.getElem_cons_zero]
          have HS : ∃ H9 L', Hle H' H9 ∧ Mem w0 H9 L' W2 ∧ (xb, LBox TRL (.slice d1 m1 e1) (.slice d2 m2 e2)) ∈ L' := ⟨_, _, hl9, m5, by simp⟩
          refine AnyFrom.pure (i := 6) (v := ?_) rfl (by kernel_rfl) (by kernel_rfl) (by kernel_rfl) (by decide) (fun _ _ _ h => h) ⟨by kernel_rfl, ?_⟩ HS ?_
          rotate_left
          · first | (intro w'; go_simp; done) | (intro w'; go_simp; with_reducible rfl)
          simp only [Act.put, List.setIfInBounds_toArray, List.set_cons_zero, List.set_cons_succ, List.getElem_toArray, List.getElem_cons_succ, List.getElem_cons_zero]
          refine AnyFrom.pure (i := 7) (v := ?_) rfl (by kernel_rfl) (by kernel_rfl) (by kernel_rfl) (by decide) (fun _ _ _ h => h) ⟨by kernel_rfl, ?_⟩ HS ?_
          rotate_left
          · first | (intro w'; go_simp; done) | (intro w'; go_simp; with_reducible rfl)
          simp only [Act.put, List.setIfInBounds_toArray, List.set_cons_zero, List.set_cons_succ, List.getElem_toArray, List.getElem_cons_succ, List.getElem_cons_zero]
          refine AnyFrom.pure (i := 8) (v := ?_) rfl (by kernel_rfl) (by kernel_rfl) (by kernel_rfl) (by decide) (fun _ _ _ h => h) ⟨by kernel_rfl, ?_⟩ HS ?_
          rotate_left
          · first | (intro w'; go_simp; done) | (intro w'; go_simp; with_reducible rfl)
          simp only [Act.put, List.setIfInBounds_toArray, List.set_cons_zero, List.set_cons_succ, List.getElem_toArray, List.getElem_cons_succ, List.getElem_cons_zero]
          refine AnyFrom.one (i := 9) (by kernel_rfl) ?_
          refine AnyFrom.op rfl (by kernel_rfl) fun K hK => ?_
          go_simp
          have mA := m5.alloc (Obj.cells #[.slice none 0 0, .slice none 0 0] 78 (0, 0))
          obtain ⟨q, hp⟩ : ∃ q, q = W2.heap.size := ⟨_, rfl⟩
          rw [← hp] at mA
          rw [← hp]
          generalize World.alloc W2 _ = W3 at *
          clear hp
          refine hK _ _ (.inr ⟨_, _, hl9, mA, by simp⟩) ?_
          clear hK K HS
          try simp only [Act.put, List.setIfInBounds_toArray, List.set_cons_zero, List.set_cons_succ, List.getElem_toArray, List.getElem_cons_succ, List.getElem_cons_zero]
          have HS : ∃ H9 L', Hle H' H9 ∧ Mem w0 H9 L' W3 ∧ (xb, LBox TRL (.slice d1 m1 e1) (.slice d2 m2 e2)) ∈ L' := ⟨_, _, hl9, mA, by simp⟩
          have es := mA.eqs
          simp only [EqsL] at es
          refine AnyFrom.one (i := 10) (by kernel_rfl) (AnyFrom.op rfl (by kernel_rfl) fun K hK => ?_)
          go_simp
          have mT := ((mA.set (i := 0) (v := .slice b1 n1 c1) .head).set (i := 1) (v := .slice b2 n2 c2) .head)
          simp only [List.setIfInBounds_toArray, List.set_cons_zero, List.set_cons_succ] at mT
          refine hK _ _ (.inr ⟨_, _, hl9, mT, by simp⟩) ?_
          clear hK K HS es
          try simp only [Act.put, List.setIfInBounds_toArray, List.set_cons_zero, List.set_cons_succ, List.getElem_toArray, List.getElem_cons_succ, List.getElem_cons_zero]
          refine AnyFrom.one (i := 11) (by kernel_rfl) (AnyFrom.op rfl (by kernel_rfl) fun K hK => ?_)
          go_simp
          refine hK _ _ (.inr ⟨_, _, hl9, mT, by simp⟩) ?_
          clear hK K
          try simp only [Act.put, List.setIfInBounds_toArray, List.set_cons_zero, List.set_cons_succ, List.getElem_toArray, List.getElem_cons_succ, List.getElem_cons_zero]
          refine AnyFrom.done (by kernel_rfl) ?_ _
          exact key q b1 n1 c1 b2 n2 c2 _ ⟨H9, hl9, hq1, hq2, mT⟩
        · skip
          refine AnyFrom.op rfl (by kernel_rfl) fun K hK => ?_
          go_simp
          have mA := mS.alloc (Obj.cells #[.slice none 0 0, .slice none 0 0] 78 (0, 0))
          obtain ⟨q, hp⟩ : ∃ q, q = W.heap.size := ⟨_, rfl⟩
          rw [← hp] at mA
          rw [← hp]
          generalize World.alloc W _ = W3 at *
          clear hp
          refine hK _ _ (.inr ⟨_, _, (Hle.refl _), mA, by simp⟩) ?_
          clear hK K HS
          try simp only [Act.put, List.setIfInBounds_toArray, List.set_cons_zero, List.set_cons_succ, List.getElem_toArray, List.getElem_cons_succ, List.getElem_cons_zero]
          have HS : ∃ H9 L', Hle H' H9 ∧ Mem w0 H9 L' W3 ∧ (xb, LBox TRL (.slice d1 m1 e1) (.slice d2 m2 e2)) ∈ L' := ⟨_, _, (Hle.refl _), mA, by simp⟩
          refine AnyFrom.one (i := 5) (by kernel_rfl) ?_
          refine AnyFrom.op rfl (by kernel_rfl) fun K hK => ?_
          go_simp
          refine (RDone_any y _ _ c HCF.out ⟨by have := hfit.out.roots; omega, hfit.out.classes, hfit.out.fields⟩ mA hs1.out hs2.out).mono ?_
          rintro e W2 ⟨H9, u1, u2, rfl, hl9, hq1, hq2, m5⟩
          obtain ⟨b1, n1, c1, rfl, -⟩ := slE hq1
          obtain ⟨b2, n2, c2, rfl, -⟩ := slE hq2
          refine hK _ _ (.inr ⟨_, _, hl9, m5, by simp⟩) ?_
          clear hK K HS
          try simp only [Act.put, List.setIfInBounds_toArray, List.set_cons_zero, List.set_cons_succ, List.getElem_toArray, List.getElem_cons_succ, List.getElem_cons_zero]
          have HS : ∃ H9 L', Hle H' H9 ∧ Mem w0 H9 L' W2 ∧ (xb, LBox TRL (.slice d1 m1 e1) (.slice d2 m2 e2)) ∈ L' := ⟨_, _, hl9, m5, by simp⟩
          refine AnyFrom.pure (i := 6) (v := ?_) rfl (by kernel_rfl) (by kernel_rfl) (by kernel_rfl) (by decide) (fun _ _ _ h => h) ⟨by kernel_rfl, ?_⟩ HS ?_
          rotate_left
          · first | (intro w'; go_simp; done) | (intro w'; go_simp; with_reducible rfl)
          simp only [Act.put, List.setIfInBounds_toArray, List.set_cons_zero, List.set_cons_succ, List.getElem_toArray, List.getElem_cons_succ, List.getElem_cons_zero]
          refine AnyFrom.pure (i := 7) (v := ?_) rfl (by kernel_rfl) (by kernel_rfl) (by kernel_rfl) (by decide) (fun _ _ _ h => h) ⟨by kernel_rfl, ?_⟩ HS ?_
          rotate_left
          · first | (intro w'; go_simp; done) | (intro w'; go_simp; with_reducible rfl)
          simp only [Act.put, List.setIfInBounds_toArray, List.set_cons_zero, List.set_cons_succ, List.getElem_toArray, List.getElem_cons_succ, List.getElem_cons_zero]
          refine AnyFrom.pure (i := 8) (v := ?_) rfl (by kernel_rfl) (by kernel_rfl) (by kernel_rfl) (by decide) (fun _ _ _ h => h) ⟨by kernel_rfl, ?_⟩ HS ?_
          rotate_left
          · first | (intro w'; go_simp; done) | (intro w'; go_simp; with_reducible rfl)
          simp only [Act.put, List.setIfInBounds_toArray, List.set_cons_zero, List.set_cons_succ, List.getElem_toArray, List.getElem_cons_succ, List.getElem_cons_zero]
          have es := m5.eqs
          simp only [EqsL] at es
          refine AnyFrom.one (i := 10) (by kernel_rfl) (AnyFrom.op rfl (by kernel_rfl) fun K hK => ?_)
          go_simp
          have mT := ((m5.set (i := 0) (v := .slice b1 n1 c1) .head).set (i := 1) (v := .slice b2 n2 c2) .head)
          simp only [List.setIfInBounds_toArray, List.set_cons_zero, List.set_cons_succ] at mT
          refine hK _ _ (.inr ⟨_, _, hl9, mT, by simp⟩) ?_
          clear hK K HS es
          try simp only [Act.put, List.setIfInBounds_toArray, List.set_cons_zero, List.set_cons_succ, List.getElem_toArray, List.getElem_cons_succ, List.getElem_cons_zero]
          refine AnyFrom.one (i := 11) (by kernel_rfl) (AnyFrom.op rfl (by kernel_rfl) fun K hK => ?_)
          go_simp
          refine hK _ _ (.inr ⟨_, _, hl9, mT, by simp⟩) ?_
          clear hK K
          try simp only [Act.put, List.setIfInBounds_toArray, List.set_cons_zero, List.set_cons_succ, List.getElem_toArray, List.getElem_cons_succ, List.getElem_cons_zero]
          refine AnyFrom.done (by kernel_rfl) ?_ _
          exact key q b1 n1 c1 b2 n2 c2 _ ⟨H9, hl9, hq1, hq2, mT⟩
      rintro q b1 n1 c1 b2 n2 c2 W ⟨H9, hl9, hq1, hq2, mT⟩
      clear mk
      have HQ1 := Lib.hid hq1; clear hq1
      have HQ2 := Lib.hid hq2; clear hq2
      obtain ⟨er, he0⟩ : ∃ er, er = (y.done c).1 := ⟨_, rfl⟩
      have HN := Lib.hid (hfit.out.done c)
      generalize hdc : y.done c = dc at *
      obtain ⟨er', y'⟩ := dc
      simp only at he0 HQ1 HQ2 HN
      subst he0
      have HDC := Lib.hid hdc; clear hdc
      have HAP := Lib.hid hap.out; clear hap
      by_cases he : er = 0
      · subst he
        have es := mT.eqs
        simp only [EqsL, LBox] at es
        go_wp2_with fail
        have mU := ((mT.set (i := 0) (v := .slice b1 n1 c1) (.tail .head)).set (i := 1) (v := .slice b2 n2 c2) (.tail .head))
        simp only [List.setIfInBounds_toArray, List.set_cons_zero, List.set_cons_succ] at mU
        go_roundw
        case rel =>
          refine ⟨k + 1, y', H9, b1, b2, n1, c1, n2, c2, by omega, by go_num, Lib.hid (by have := HN.out; simpa [Nat.add_assoc] using this), hle.trans hl9, HQ1, HQ2, ?_, ?_⟩
          · exact mU.drop
          · refine Lib.hid ?_
            rw [← HAP.out, HDR.out]
            exact (LayM.apply_good HDC.out).symm
        case measure => simp [intOf]; omega
      · have HE := Lib.hid he
        have hb : (er == 0) = false := by simpa using he
        have hb2 : (er != 0) = true := by simpa using he
        clear he
        go_wp2_with fail
        refine AnyFrom.start (fun w' => w' = W.drew) 10 (by kernel_rfl) ?_
        have md := mT.drew
        clear mT
        generalize W.drew = W5 at *
        have es := md.eqs
        simp only [EqsL, LBox] at es
        have HS : W5 = W5 := rfl
        refine AnyFrom.takeT (i := 0) (v := ?_) rfl (by kernel_rfl) (by kernel_rfl) (by kernel_rfl) (by kernel_rfl) (fun _ _ _ h => h) ⟨by kernel_rfl, ?_⟩ HS ?_
        rotate_left
        · first | (rintro w' rfl; go_simp; done) | (rintro w' rfl; go_simp; with_reducible rfl)
        simp only [Act.put, List.setIfInBounds_toArray, List.set_cons_zero, List.set_cons_succ, List.getElem_toArray, List.getElem_cons_succ, List.getElem_cons_zero]
        refine AnyFrom.takeT (i := 1) (v := ?_) rfl (by kernel_rfl) (by kernel_rfl) (by kernel_rfl) (by kernel_rfl) (fun _ _ _ h => h) ⟨by kernel_rfl, ?_⟩ HS ?_
        rotate_left
        · first | (rintro w' rfl; go_simp; done) | (rintro w' rfl; go_simp; with_reducible rfl)
        simp only [Act.put, List.setIfInBounds_toArray, List.set_cons_zero, List.set_cons_succ, List.getElem_toArray, List.getElem_cons_succ, List.getElem_cons_zero]
        refine AnyFrom.takeT (i := 2) (v := ?_) rfl (by kernel_rfl) (by kernel_rfl) (by kernel_rfl) (by kernel_rfl) (fun _ _ _ h => h) ⟨by kernel_rfl, ?_⟩ HS ?_
        rotate_left
        · first | (rintro w' rfl; go_simp; done) | (rintro w' rfl; go_simp; with_reducible rfl)
        simp only [Act.put, List.setIfInBounds_toArray, List.set_cons_zero, List.set_cons_succ, List.getElem_toArray, List.getElem_cons_succ, List.getElem_cons_zero]
        refine AnyFrom.takeT (i := 3) (v := ?_) rfl (by kernel_rfl) (by kernel_rfl) (by kernel_rfl) (by kernel_rfl) (fun _ _ _ h => h) ⟨by kernel_rfl, ?_⟩ HS ?_
        rotate_left
        · first | (rintro w' rfl; go_simp; done) | (rintro w' rfl; go_simp; with_reducible rfl)
        simp only [Act.put, List.setIfInBounds_toArray, List.set_cons_zero, List.set_cons_succ, List.getElem_toArray, List.getElem_cons_succ, List.getElem_cons_zero]
        refine AnyFrom.pure (i := 4) (v := ?_) rfl (by kernel_rfl) (by kernel_rfl) (by kernel_rfl) (by decide) (fun _ _ _ h => h) ⟨by kernel_rfl, ?_⟩ HS ?_
        rotate_left
        · first | (intro w'; go_simp; done) | (intro w'; go_simp; with_reducible rfl)
        simp only [Act.put, List.setIfInBounds_toArray, List.set_cons_zero, List.set_cons_succ, List.getElem_toArray, List.getElem_cons_succ, List.getElem_cons_zero]
        refine AnyFrom.pure (i := 5) (v := ?_) rfl (by kernel_rfl) (by kernel_rfl) (by kernel_rfl) (by decide) (fun _ _ _ h => h) ⟨by kernel_rfl, ?_⟩ HS ?_
        rotate_left
        · first | (intro w'; go_simp; done) | (intro w'; go_simp; with_reducible rfl)
        simp only [Act.put, List.setIfInBounds_toArray, List.set_cons_zero, List.set_cons_succ, List.getElem_toArray, List.getElem_cons_succ, List.getElem_cons_zero]
        refine AnyFrom.one (i := 6) (by kernel_rfl) (AnyFrom.op rfl (by kernel_rfl) fun K hK => ?_)
        refine hK _ _ (.inr rfl) ?_
        clear hK K
        try simp only [Act.put, List.setIfInBounds_toArray, List.set_cons_zero, List.set_cons_succ, List.getElem_toArray, List.getElem_cons_succ, List.getElem_cons_zero]
        refine AnyFrom.one (i := 7) (by kernel_rfl) (AnyFrom.op rfl (by kernel_rfl) fun K hK => ?_)
        refine hK _ _ (.inr rfl) ?_
        clear hK K
        try simp only [Act.put, List.setIfInBounds_toArray, List.set_cons_zero, List.set_cons_succ, List.getElem_toArray, List.getElem_cons_succ, List.getElem_cons_zero]
        refine AnyFrom.one (i := 8) (by kernel_rfl) (AnyFrom.op rfl (by kernel_rfl) fun K hK => ?_)
        refine hK _ _ (.inr rfl) ?_
        clear hK K
        try simp only [Act.put, List.setIfInBounds_toArray, List.set_cons_zero, List.set_cons_succ, List.getElem_toArray, List.getElem_cons_succ, List.getElem_cons_zero]
        refine AnyFrom.one (i := 9) (by kernel_rfl) (AnyFrom.op rfl (by kernel_rfl) fun K hK => ?_)
        refine hK _ _ (.inr rfl) ?_
        clear hK K
        try simp only [Act.put, List.setIfInBounds_toArray, List.set_cons_zero, List.set_cons_succ, List.getElem_toArray, List.getElem_cons_succ, List.getElem_cons_zero]
        refine AnyFrom.done (by kernel_rfl) ?_ _
        clear HS es
        go_wp2_with fail
        refine bodyPost_ret (v := .tuple #[.slice d1 m1 e1, .slice d2 m2 e2, .int .i64 k, .int .i64 er]) (by simp [results, Tryz.results9, go_sem]) rfl ?_
        rw [HA.out, ← HAP.out, HDR.out, LayM.apply_bad HDC.out HE.out]
        exact ⟨H9, _, _, rfl, hle.trans hl9, hs1.out.mono hl9, hs2.out.mono hl9, (md.drop).drop⟩
    · have hge : ¬ (k : Int) < cs.length := by omega
      have hke : k = cs.length := by omega
      go_wp2_with fail
      refine AnyFrom.start (fun w' => w' = wr.drew) 10 (by kernel_rfl) ?_
      have md := mk.drew
      clear mk
      generalize wr.drew = W5 at *
      have es := md.eqs
      simp only [EqsL, LBox] at es
      have HS : W5 = W5 := rfl
      refine AnyFrom.takeT (i := 0) (v := ?_) rfl (by kernel_rfl) (by kernel_rfl) (by kernel_rfl) (by kernel_rfl) (fun _ _ _ h => h) ⟨by kernel_rfl, ?_⟩ HS ?_
      rotate_left
      · first | (rintro w' rfl; go_simp; done) | (rintro w' rfl; go_simp; with_reducible rfl)
      simp only [Act.put, List.setIfInBounds_toArray, List.set_cons_zero, List.set_cons_succ, List.getElem_toArray, List.getElem_cons_succ, List.getElem_cons_zero]
      refine AnyFrom.takeT (i := 1) (v := ?_) rfl (by kernel_rfl) (by kernel_rfl) (by kernel_rfl) (by kernel_rfl) (fun _ _ _ h => h) ⟨by kernel_rfl, ?_⟩ HS ?_
      rotate_left
      · first | (rintro w' rfl; go_simp; done) | (rintro w' rfl; go_simp; with_reducible rfl)
      simp only [Act.put, List.setIfInBounds_toArray, List.set_cons_zero, List.set_cons_succ, List.getElem_toArray, List.getElem_cons_succ, List.getElem_cons_zero]
      refine AnyFrom.takeT (i := 2) (v := ?_) rfl (by kernel_rfl) (by kernel_rfl) (by kernel_rfl) (by kernel_rfl) (fun _ _ _ h => h) ⟨by kernel_rfl, ?_⟩ HS ?_
      rotate_left
      · first | (rintro w' rfl; go_simp; done) | (rintro w' rfl; go_simp; with_reducible rfl)
      simp only [Act.put, List.setIfInBounds_toArray, List.set_cons_zero, List.set_cons_succ, List.getElem_toArray, List.getElem_cons_succ, List.getElem_cons_zero]
      refine AnyFrom.takeT (i := 3) (v := ?_) rfl (by kernel_rfl) (by kernel_rfl) (by kernel_rfl) (by kernel_rfl) (fun _ _ _ h => h) ⟨by kernel_rfl, ?_⟩ HS ?_
      rotate_left
      · first | (rintro w' rfl; go_simp; done) | (rintro w' rfl; go_simp; with_reducible rfl)
      simp only [Act.put, List.setIfInBounds_toArray, List.set_cons_zero, List.set_cons_succ, List.getElem_toArray, List.getElem_cons_succ, List.getElem_cons_zero]
      refine AnyFrom.pure (i := 4) (v := ?_) rfl (by kernel_rfl) (by kernel_rfl) (by kernel_rfl) (by decide) (fun _ _ _ h => h) ⟨by kernel_rfl, ?_⟩ HS ?_
      rotate_left
      · first | (intro w'; go_simp; done) | (intro w'; go_simp; with_reducible rfl)
      simp only [Act.put, List.setIfInBounds_toArray, List.set_cons_zero, List.set_cons_succ, List.getElem_toArray, List.getElem_cons_succ, List.getElem_cons_zero]
      refine AnyFrom.pure (i := 5) (v := ?_) rfl (by kernel_rfl) (by kernel_rfl) (by kernel_rfl) (by decide) (fun _ _ _ h => h) ⟨by kernel_rfl, ?_⟩ HS ?_
      rotate_left
      · first | (intro w'; go_simp; done) | (intro w'; go_simp; with_reducible rfl)
      simp only [Act.put, List.setIfInBounds_toArray, List.set_cons_zero, List.set_cons_succ, List.getElem_toArray, List.getElem_cons_succ, List.getElem_cons_zero]
      refine AnyFrom.one (i := 6) (by kernel_rfl) (AnyFrom.op rfl (by kernel_rfl) fun K hK => ?_)
      refine hK _ _ (.inr rfl) ?_
      clear hK K
      try simp only [Act.put, List.setIfInBounds_toArray, List.set_cons_zero, List.set_cons_succ, List.getElem_toArray, List.getElem_cons_succ, List.getElem_cons_zero]
      refine AnyFrom.one (i := 7) (by kernel_rfl) (AnyFrom.op rfl (by kernel_rfl) fun K hK => ?_)
      refine hK _ _ (.inr rfl) ?_
      clear hK K
      try simp only [Act.put, List.setIfInBounds_toArray, List.set_cons_zero, List.set_cons_succ, List.getElem_toArray, List.getElem_cons_succ, List.getElem_cons_zero]
      refine AnyFrom.one (i := 8) (by kernel_rfl) (AnyFrom.op rfl (by kernel_rfl) fun K hK => ?_)
      refine hK _ _ (.inr rfl) ?_
      clear hK K
      try simp only [Act.put, List.setIfInBounds_toArray, List.set_cons_zero, List.set_cons_succ, List.getElem_toArray, List.getElem_cons_succ, List.getElem_cons_zero]
      refine AnyFrom.one (i := 9) (by kernel_rfl) (AnyFrom.op rfl (by kernel_rfl) fun K hK => ?_)
      refine hK _ _ (.inr rfl) ?_
      clear hK K
      try simp only [Act.put, List.setIfInBounds_toArray, List.set_cons_zero, List.set_cons_succ, List.getElem_toArray, List.getElem_cons_succ, List.getElem_cons_zero]
      refine AnyFrom.done (by kernel_rfl) ?_ _
      clear HS es
      go_wp2_with fail
      refine bodyPost_ret (v := .tuple #[.slice d1 m1 e1, .slice d2 m2 e2, .int .i64 cs.length, .int .i64 0]) (by simp [results, Tryz.results9, go_sem]) rfl ?_
      have HAP := Lib.hid hap.out; clear hap
      rw [hke, List.drop_length] at HAP
      rw [HA.out, ← HAP.out]
      exact ⟨H', _, _, rfl, hle, hs1.out, hs2.out, md.drop⟩
end Go.Proofs.YtbioklhoolkhkabGreat
namespace Go.Proofs.YtbioklhoolkhkabGreat
set_option linter.unusedVariables false
set_option linter.unusedSimpArgs false
open Go.RowKit

/-- Some truth value, and the memory as it was. -/
def RetB (w0 : World) (H : Hp) (L : List (Nat × Obj)) (p : Bool → Prop) (e : Ending) (w' : World) : Prop := ∃ b, p b ∧ Ret w0 H L (.bool b) e w'
set_option maxRecDepth 10000 in
set_option maxHeartbeats 4000000 in
theorem ThinChanges_any (v : Value) (cs : List ChangeM) {w0 w : World} {H : Hp} {L : List (Nat × Obj)} (m : Mem w0 H L w) (h1 : SlR encChange H v cs) :
    Calls Tryz.prog 5 #[v] w (RetB w0 H L fun b => b = true → cs.length ≤ 64) := by
  have H1 := Lib.hid h1
  obtain ⟨b1, c1, rfl, hvc1, hx1, _, _⟩ := h1
  have hx1 := size_le_maxLen hx1
  go_enter Tryz.func5, Tryz.ntmps5
  go_wp2_with fail
  go_loopw [3] (fun i wr => ∃ (k : Nat), k ≤ cs.length ∧ i = .int .i64 k ∧ Mem w0 H L wr) (fun i _ => cs.length - (intOf i).toNat)
  case atStart => exact ⟨0, Nat.zero_le _, rfl, m⟩
  case round =>
    clear m
    obtain ⟨k, hk, rfl, m⟩ := hrel
    by_cases hlt : k < cs.length
    · have hltI : (k : Int) < cs.length := by omega
      obtain ⟨blk, off, rfl, hcell, hcf⟩ := H1.out.getChange hlt
      generalize cs[k] = c at *
      have HCF := Lib.hid hcf
      have z1 := hcf.name
      have z2 := hcf.field
      have z3 := hcf.to
      have z4 := hcf.v.s
      clear hcf
      have a1 := (hcell 1 _ rfl).cell m
      have a2 := (hcell 2 _ rfl).cell m
      have a3 := (hcell 3 _ rfl).cell m
      have a6 := (hcell 6 _ rfl).cell m
      clear hcell
      by_cases g1 : 300 < c.name.size
      · have g1I : (300 : Int) < c.name.size := by omega
        go_wp2_with fail
        go_ret
        exact ⟨_, (by intro h; cases h), ⟨rfl, m⟩⟩
      have g1I : ¬ (300 : Int) < c.name.size := by omega
      by_cases g2 : 300 < c.field.size
      · have g2I : (300 : Int) < c.field.size := by omega
        go_wp2_with fail
        go_ret
        exact ⟨_, (by intro h; cases h), ⟨rfl, m⟩⟩
      have g2I : ¬ (300 : Int) < c.field.size := by omega
      by_cases g3 : 300 < c.to.size
      · have g3I : (300 : Int) < c.to.size := by omega
        go_wp2_with fail
        go_ret
        exact ⟨_, (by intro h; cases h), ⟨rfl, m⟩⟩
      have g3I : ¬ (300 : Int) < c.to.size := by omega
      by_cases g4 : 300 < c.v.s.size
      · have g4I : (300 : Int) < c.v.s.size := by omega
        go_wp2_with fail
        go_ret
        exact ⟨_, (by intro h; cases h), ⟨rfl, m⟩⟩
      have g4I : ¬ (300 : Int) < c.v.s.size := by omega
      go_wp2_with fail
      go_roundw
      case rel => exact ⟨k + 1, by omega, by go_num, m⟩
      case measure => simp [intOf]; omega
    · have hge : ¬ (k : Int) < cs.length := by omega
      by_cases h64 : cs.length ≤ 64
      · have h64I : (cs.length : Int) ≤ 64 := by omega
        go_wp2_with fail
        go_ret
        exact ⟨true, (by first | trivial | exact fun _ => h64), ⟨rfl, m⟩⟩
      have h64I : ¬ (cs.length : Int) ≤ 64 := by omega
      go_wp2_with fail
      go_ret
      exact ⟨false, (by first | rfl | (intro h; cases h)), ⟨rfl, m⟩⟩
end Go.Proofs.YtbioklhoolkhkabGreat
namespace Go.Proofs.YtbioklhoolkhkabGreat
set_option linter.unusedVariables false
set_option linter.unusedSimpArgs false
open Go.RowKit

def RetBH (w0 : World) (H : Hp) (L : List (Nat × Obj)) (p : Bool → Prop) (e : Ending) (w' : World) : Prop := ∃ b H', p b ∧ e = .returned (.bool b) ∧ Hle H H' ∧ Mem w0 H' L w'
theorem perm_tl2 {α : Type} (y z : α) (L3 L : List α) : (y :: z :: (L3 ++ L)).Perm (L3 ++ (y :: z :: L)) := (by classical exact List.perm_iff_count.2 (fun a => by simp only [List.count_append, List.count_cons, List.cons_append, List.nil_append, List.append_assoc]; omega))
theorem perm_tl1 {α : Type} (y z : α) (L3 L : List α) : (y :: (L3 ++ (z :: L))).Perm (L3 ++ (y :: z :: L)) := (by classical exact List.perm_iff_count.2 (fun a => by simp only [List.count_append, List.count_cons, List.cons_append, List.nil_append, List.append_assoc]; omega))
set_option maxRecDepth 10000 in
set_option maxHeartbeats 8000000 in
theorem ThinLayout_any (x : LayM) (v1 v2 : Value) {w0 w : World} {H : Hp} {L : List (Nat × Obj)} (m : Mem w0 H L w) (h1 : SlR encClass H v1 x.classes) (h2 : SlR encStr H v2 x.roots) :
    Calls Tryz.prog 4 #[.agg #[v1, v2]] w (RetBH w0 H L fun b => b = true → x.fit 50000) := by
  have H1 := Lib.hid h1
  have H2 := Lib.hid h2
  obtain ⟨b1, c1, rfl, _, hx1, _, _⟩ := h1
  have hx1 := size_le_maxLen hx1
  obtain ⟨b2, c2, rfl, _, hx2, _, _⟩ := h2
  have hx2 := size_le_maxLen hx2
  go_enter Tryz.func4, Tryz.ntmps4
  have m1 := m.alloc (LBox 25 (.slice b1 x.classes.length c1) (.slice b2 x.roots.length c2))
  generalize hxb : w.heap.size = xb at *
  have es := m1.eqs
  simp only [EqsL, LBox] at es
  by_cases g1 : 20 < x.classes.length
  · have g1I : (20 : Int) < x.classes.length := by omega
    go_wp2_with fail
    go_ret
    exact ⟨_, _, (by intro h; cases h), rfl, Hle.refl H, m1.drop⟩
  have g1I : ¬ (20 : Int) < x.classes.length := by omega
  by_cases g2 : 40 < x.roots.length
  · have g2I : (40 : Int) < x.roots.length := by omega
    go_wp2_with fail
    go_ret
    exact ⟨_, _, (by intro h; cases h), rfl, Hle.refl H, m1.drop⟩
  have g2I : ¬ (40 : Int) < x.roots.length := by omega
  have hx1b : (w.alloc (LBox 25 (.slice b1 x.classes.length c1) (.slice b2 x.roots.length c2))).heap.size = xb + 1 := by rw [← hxb]; exact Array.size_push ..
  have m2 := m1.alloc (.cells #[] 9)
  rw [hx1b] at m2
  simp only [LBox] at m2
  obtain ⟨news, hch, hsrc⟩ := H2.out.src m2
  have HC := Lib.hid hch; clear hch
  have HSR := Lib.hid hsrc; clear hsrc
  go_wp2_with (at_builtin; refine wpList_append_mem (w0 := w0) (H := H) (L := (xb, LBox 25 (.slice b1 x.classes.length c1) (.slice b2 x.roots.length c2)) :: L) rfl _ _ 23 rfl 9 1 16 (.string ByteArray.empty) Tryz.underlying23 (by kernel_rfl) rfl (by decide) _ 0 [] ?hacc rfl _ x.roots.length news ?hsrc rfl ?hl ?h1 ?hb ?h63 ?_)
  case hacc => exact MemAcc.row m2 (Nat.le_refl _) (by decide) rfl rfl
  case hsrc => exact HSR.out
  case hl => rw [HC.out.length]; exact Nat.mul_one _
  case h1 => rw [(chunks_strs HC.out).1]; exact str_oneCell
  case hb => omega
  case h63 => unfold maxLen; omega
  intro v' w' hacc
  try simp only [Nat.zero_add, List.nil_append] at hacc
  obtain ⟨L0, ho, m3⟩ := OwnS.of hacc HC.out
  clear hacc HSR HC m2 m1 es
  go_wp2_with fail
  go_loopw [3, 4] (fun v3 i wr => ∃ (k : Nat) (zs : List ByteArray) (L3 : List (Nat × Obj)), k ≤ x.classes.length ∧ i = .int .i64 k ∧ Hid (OwnS v3 zs L3) ∧ Hid (zs.length ≤ 40 + 11 * k) ∧ Hid (∀ c ∈ x.classes.take k, c.fields.length ≤ 10) ∧ Mem w0 H (L3 ++ ((xb, LBox 25 (.slice b1 x.classes.length c1) (.slice b2 x.roots.length c2)) :: L)) wr) (fun _ i _ => x.classes.length - (intOf i).toNat)
  case atStart => exact ⟨0, x.roots, L0, Nat.zero_le _, rfl, Lib.hid ho, Lib.hid (by omega), Lib.hid (by simp), m3⟩
  case round =>
    clear m3 ho
    obtain ⟨k, zs, L3, hk, rfl, hown, hzl, hfl, mk⟩ := hrel
    have mk2 := mk.perm ((by classical exact List.perm_iff_count.2 (fun a => by simp only [List.count_append, List.count_cons, List.cons_append, List.nil_append, List.append_assoc]; omega)) : (L3 ++ ((xb, LBox 25 (.slice b1 x.classes.length c1) (.slice b2 x.roots.length c2)) :: L)).Perm ((xb, LBox 25 (.slice b1 x.classes.length c1) (.slice b2 x.roots.length c2)) :: (L3 ++ L)))
    clear mk
    by_cases hlt : k < x.classes.length
    · obtain ⟨q1, o1, s1, rfl, d1, f1, g1, hnm⟩ := H1.out.getClass hlt
      have HG1 := Lib.hid g1
      obtain ⟨sb1, sc1, rfl, -⟩ := g1
      have HD1 := Lib.hid d1; clear d1
      have HF1 := Lib.hid f1; clear f1
      have hltI : (k : Int) < x.classes.length := by omega
      have htk : x.classes.take (k + 1) = x.classes.take k ++ [x.classes[k]] := List.take_succ_eq_append_getElem hlt
      have HTK := Lib.hid htk; clear htk
      generalize hck : x.classes[k] = c at *
      clear hck
      have d1 := HD1.out.cell mk2
      have f1 := HF1.out.cell mk2
      have es := mk2.eqs
      simp only [EqsL, LBox] at es
      by_cases g3 : 10 < c.fields.length
      · have g3I : (10 : Int) < c.fields.length := by omega
        go_wp2_with fail
        go_ret
        exact ⟨_, _, (by intro h; cases h), rfl, Hle.refl H, (mk2.drop).dropL⟩
      have g3I : ¬ (10 : Int) < c.fields.length := by omega
      go_wp2_with fail
      obtain ⟨pb, pc, rfl, -, -⟩ := hown.out.shape
      refine AnyFrom.start (fun w' => ∃ L', Mem w0 H L' w' ∧ (xb, LBox 25 (.slice (some ⟨q1, o1, none⟩) x.classes.length c1) (.slice b2 x.roots.length c2)) ∈ L') 17 (by kernel_rfl) ?_
      have md := mk2.drew
      clear mk2 es d1 f1
      generalize wr.drew = W at *
      have HS : ∃ L', Mem w0 H L' W ∧ (xb, LBox 25 (.slice (some ⟨q1, o1, none⟩) x.classes.length c1) (.slice b2 x.roots.length c2)) ∈ L' := ⟨_, md, by simp⟩
      refine AnyFrom.pure (i := 0) (v := ?_) rfl (by kernel_rfl) (by kernel_rfl) (by kernel_rfl) (by decide) (fun _ _ _ h => h) ⟨by kernel_rfl, ?_⟩ HS ?_
      rotate_left
      · first | (intro w'; go_simp; done) | (intro w'; go_simp; with_reducible rfl)
      simp only [Act.put, List.setIfInBounds_toArray, List.set_cons_zero, List.set_cons_succ, List.getElem_toArray, List.getElem_cons_succ, List.getElem_cons_zero]
      refine AnyFrom.takeT (i := 1) (v := ?_) rfl (by kernel_rfl) (by kernel_rfl) (by kernel_rfl) (by kernel_rfl) (fun _ _ _ h => h) ⟨by kernel_rfl, ?_⟩ HS ?_
      rotate_left
      · first | (rintro w' ⟨L', hm, hmem⟩; have d1 := HD1.out.cell hm; have f1 := HF1.out.cell hm; have hcb := cell_of_heap (hm.loc _ hmem).1; have hlt9 := lt_of_heap (hm.loc _ hmem).1; simp only [LBox] at hcb hlt9; go_simp; done) | (rintro w' ⟨L', hm, hmem⟩; have d1 := HD1.out.cell hm; have f1 := HF1.out.cell hm; have hcb := cell_of_heap (hm.loc _ hmem).1; have hlt9 := lt_of_heap (hm.loc _ hmem).1; simp only [LBox] at hcb hlt9; go_simp; with_reducible rfl)
      simp only [Act.put, List.setIfInBounds_toArray, List.set_cons_zero, List.set_cons_succ, List.getElem_toArray, List.getElem_cons_succ, List.getElem_cons_zero]
      refine AnyFrom.takeT (i := 2) (v := ?_) rfl (by kernel_rfl) (by kernel_rfl) (by kernel_rfl) (by kernel_rfl) (fun _ _ _ h => h) ⟨by kernel_rfl, ?_⟩ HS ?_
      rotate_left
      · first | (rintro w' ⟨L', hm, hmem⟩; have d1 := HD1.out.cell hm; have f1 := HF1.out.cell hm; have hcb := cell_of_heap (hm.loc _ hmem).1; have hlt9 := lt_of_heap (hm.loc _ hmem).1; simp only [LBox] at hcb hlt9; go_simp; done) | (rintro w' ⟨L', hm, hmem⟩; have d1 := HD1.out.cell hm; have f1 := HF1.out.cell hm; have hcb := cell_of_heap (hm.loc _ hmem).1; have hlt9 := lt_of_heap (hm.loc _ hmem).1; simp only [LBox] at hcb hlt9; go_simp; with_reducible rfl)
      simp only [Act.put, List.setIfInBounds_toArray, List.set_cons_zero, List.set_cons_succ, List.getElem_toArray, List.getElem_cons_succ, List.getElem_cons_zero]
      refine AnyFrom.takeT (i := 3) (v := ?_) rfl (by kernel_rfl) (by kernel_rfl) (by kernel_rfl) (by kernel_rfl) (fun _ _ _ h => h) ⟨by kernel_rfl, ?_⟩ HS ?_
      rotate_left
      · first | (rintro w' ⟨L', hm, hmem⟩; have d1 := HD1.out.cell hm; have f1 := HF1.out.cell hm; have hcb := cell_of_heap (hm.loc _ hmem).1; have hlt9 := lt_of_heap (hm.loc _ hmem).1; simp only [LBox] at hcb hlt9; go_simp; done) | (rintro w' ⟨L', hm, hmem⟩; have d1 := HD1.out.cell hm; have f1 := HF1.out.cell hm; have hcb := cell_of_heap (hm.loc _ hmem).1; have hlt9 := lt_of_heap (hm.loc _ hmem).1; simp only [LBox] at hcb hlt9; go_simp; with_reducible rfl)
      simp only [Act.put, List.setIfInBounds_toArray, List.set_cons_zero, List.set_cons_succ, List.getElem_toArray, List.getElem_cons_succ, List.getElem_cons_zero]
      refine AnyFrom.takeT (i := 4) (v := ?_) rfl (by kernel_rfl) (by kernel_rfl) (by kernel_rfl) (by kernel_rfl) (fun _ _ _ h => h) ⟨by kernel_rfl, ?_⟩ HS ?_
      rotate_left
      · first | (rintro w' ⟨L', hm, hmem⟩; have d1 := HD1.out.cell hm; have f1 := HF1.out.cell hm; have hcb := cell_of_heap (hm.loc _ hmem).1; have hlt9 := lt_of_heap (hm.loc _ hmem).1; simp only [LBox] at hcb hlt9; go_simp; done) | (rintro w' ⟨L', hm, hmem⟩; have d1 := HD1.out.cell hm; have f1 := HF1.out.cell hm; have hcb := cell_of_heap (hm.loc _ hmem).1; have hlt9 := lt_of_heap (hm.loc _ hmem).1; simp only [LBox] at hcb hlt9; go_simp; with_reducible rfl)
      simp only [Act.put, List.setIfInBounds_toArray, List.set_cons_zero, List.set_cons_succ, List.getElem_toArray, List.getElem_cons_succ, List.getElem_cons_zero]
      refine AnyFrom.takeT (i := 5) (v := ?_) rfl (by kernel_rfl) (by kernel_rfl) (by kernel_rfl) (by kernel_rfl) (fun _ _ _ h => h) ⟨by kernel_rfl, ?_⟩ HS ?_
      rotate_left
      · first | (rintro w' ⟨L', hm, hmem⟩; have d1 := HD1.out.cell hm; have f1 := HF1.out.cell hm; have hcb := cell_of_heap (hm.loc _ hmem).1; have hlt9 := lt_of_heap (hm.loc _ hmem).1; simp only [LBox] at hcb hlt9; go_simp; done) | (rintro w' ⟨L', hm, hmem⟩; have d1 := HD1.out.cell hm; have f1 := HF1.out.cell hm; have hcb := cell_of_heap (hm.loc _ hmem).1; have hlt9 := lt_of_heap (hm.loc _ hmem).1; simp only [LBox] at hcb hlt9; go_simp; with_reducible rfl)
      simp only [Act.put, List.setIfInBounds_toArray, List.set_cons_zero, List.set_cons_succ, List.getElem_toArray, List.getElem_cons_succ, List.getElem_cons_zero]
      refine AnyFrom.takeT (i := 6) (v := ?_) rfl (by kernel_rfl) (by kernel_rfl) (by kernel_rfl) (by kernel_rfl) (fun _ _ _ h => h) ⟨by kernel_rfl, ?_⟩ HS ?_
      rotate_left
      · first | (rintro w' ⟨L', hm, hmem⟩; have d1 := HD1.out.cell hm; have f1 := HF1.out.cell hm; have hcb := cell_of_heap (hm.loc _ hmem).1; have hlt9 := lt_of_heap (hm.loc _ hmem).1; simp only [LBox] at hcb hlt9; go_simp; done) | (rintro w' ⟨L', hm, hmem⟩; have d1 := HD1.out.cell hm; have f1 := HF1.out.cell hm; have hcb := cell_of_heap (hm.loc _ hmem).1; have hlt9 := lt_of_heap (hm.loc _ hmem).1; simp only [LBox] at hcb hlt9; go_simp; with_reducible rfl)
      simp only [Act.put, List.setIfInBounds_toArray, List.set_cons_zero, List.set_cons_succ, List.getElem_toArray, List.getElem_cons_succ, List.getElem_cons_zero]
      refine AnyFrom.takeT (i := 9) (v := ?_) rfl (by kernel_rfl) (by kernel_rfl) (by kernel_rfl) (by kernel_rfl) (fun _ _ _ h => h) ⟨by kernel_rfl, ?_⟩ HS ?_
      rotate_left
      · first | (rintro w' ⟨L', hm, hmem⟩; have d1 := HD1.out.cell hm; have f1 := HF1.out.cell hm; have hcb := cell_of_heap (hm.loc _ hmem).1; have hlt9 := lt_of_heap (hm.loc _ hmem).1; simp only [LBox] at hcb hlt9; go_simp; done) | (rintro w' ⟨L', hm, hmem⟩; have d1 := HD1.out.cell hm; have f1 := HF1.out.cell hm; have hcb := cell_of_heap (hm.loc _ hmem).1; have hlt9 := lt_of_heap (hm.loc _ hmem).1; simp only [LBox] at hcb hlt9; go_simp; with_reducible rfl)
      simp only [Act.put, List.setIfInBounds_toArray, List.set_cons_zero, List.set_cons_succ, List.getElem_toArray, List.getElem_cons_succ, List.getElem_cons_zero]
      refine AnyFrom.takeT (i := 10) (v := ?_) rfl (by kernel_rfl) (by kernel_rfl) (by kernel_rfl) (by kernel_rfl) (fun _ _ _ h => h) ⟨by kernel_rfl, ?_⟩ HS ?_
      rotate_left
      · first | (rintro w' ⟨L', hm, hmem⟩; have d1 := HD1.out.cell hm; have f1 := HF1.out.cell hm; have hcb := cell_of_heap (hm.loc _ hmem).1; have hlt9 := lt_of_heap (hm.loc _ hmem).1; simp only [LBox] at hcb hlt9; go_simp; done) | (rintro w' ⟨L', hm, hmem⟩; have d1 := HD1.out.cell hm; have f1 := HF1.out.cell hm; have hcb := cell_of_heap (hm.loc _ hmem).1; have hlt9 := lt_of_heap (hm.loc _ hmem).1; simp only [LBox] at hcb hlt9; go_simp; with_reducible rfl)
      simp only [Act.put, List.setIfInBounds_toArray, List.set_cons_zero, List.set_cons_succ, List.getElem_toArray, List.getElem_cons_succ, List.getElem_cons_zero]
      refine AnyFrom.takeT (i := 11) (v := ?_) rfl (by kernel_rfl) (by kernel_rfl) (by kernel_rfl) (by kernel_rfl) (fun _ _ _ h => h) ⟨by kernel_rfl, ?_⟩ HS ?_
      rotate_left
      · first | (rintro w' ⟨L', hm, hmem⟩; have d1 := HD1.out.cell hm; have f1 := HF1.out.cell hm; have hcb := cell_of_heap (hm.loc _ hmem).1; have hlt9 := lt_of_heap (hm.loc _ hmem).1; simp only [LBox] at hcb hlt9; go_simp; done) | (rintro w' ⟨L', hm, hmem⟩; have d1 := HD1.out.cell hm; have f1 := HF1.out.cell hm; have hcb := cell_of_heap (hm.loc _ hmem).1; have hlt9 := lt_of_heap (hm.loc _ hmem).1; simp only [LBox] at hcb hlt9; go_simp; with_reducible rfl)
      simp only [Act.put, List.setIfInBounds_toArray, List.set_cons_zero, List.set_cons_succ, List.getElem_toArray, List.getElem_cons_succ, List.getElem_cons_zero]
      refine AnyFrom.takeT (i := 12) (v := ?_) rfl (by kernel_rfl) (by kernel_rfl) (by kernel_rfl) (by kernel_rfl) (fun _ _ _ h => h) ⟨by kernel_rfl, ?_⟩ HS ?_
      rotate_left
      · first | (rintro w' ⟨L', hm, hmem⟩; have d1 := HD1.out.cell hm; have f1 := HF1.out.cell hm; have hcb := cell_of_heap (hm.loc _ hmem).1; have hlt9 := lt_of_heap (hm.loc _ hmem).1; simp only [LBox] at hcb hlt9; go_simp; done) | (rintro w' ⟨L', hm, hmem⟩; have d1 := HD1.out.cell hm; have f1 := HF1.out.cell hm; have hcb := cell_of_heap (hm.loc _ hmem).1; have hlt9 := lt_of_heap (hm.loc _ hmem).1; simp only [LBox] at hcb hlt9; go_simp; with_reducible rfl)
      simp only [Act.put, List.setIfInBounds_toArray, List.set_cons_zero, List.set_cons_succ, List.getElem_toArray, List.getElem_cons_succ, List.getElem_cons_zero]
      refine AnyFrom.takeT (i := 13) (v := ?_) rfl (by kernel_rfl) (by kernel_rfl) (by kernel_rfl) (by kernel_rfl) (fun _ _ _ h => h) ⟨by kernel_rfl, ?_⟩ HS ?_
      rotate_left
      · first | (rintro w' ⟨L', hm, hmem⟩; have d1 := HD1.out.cell hm; have f1 := HF1.out.cell hm; have hcb := cell_of_heap (hm.loc _ hmem).1; have hlt9 := lt_of_heap (hm.loc _ hmem).1; simp only [LBox] at hcb hlt9; go_simp; done) | (rintro w' ⟨L', hm, hmem⟩; have d1 := HD1.out.cell hm; have f1 := HF1.out.cell hm; have hcb := cell_of_heap (hm.loc _ hmem).1; have hlt9 := lt_of_heap (hm.loc _ hmem).1; simp only [LBox] at hcb hlt9; go_simp; with_reducible rfl)
      simp only [Act.put, List.setIfInBounds_toArray, List.set_cons_zero, List.set_cons_succ, List.getElem_toArray, List.getElem_cons_succ, List.getElem_cons_zero]
      refine AnyFrom.takeT (i := 14) (v := ?_) rfl (by kernel_rfl) (by kernel_rfl) (by kernel_rfl) (by kernel_rfl) (fun _ _ _ h => h) ⟨by kernel_rfl, ?_⟩ HS ?_
      rotate_left
      · first | (rintro w' ⟨L', hm, hmem⟩; have d1 := HD1.out.cell hm; have f1 := HF1.out.cell hm; have hcb := cell_of_heap (hm.loc _ hmem).1; have hlt9 := lt_of_heap (hm.loc _ hmem).1; simp only [LBox] at hcb hlt9; go_simp; done) | (rintro w' ⟨L', hm, hmem⟩; have d1 := HD1.out.cell hm; have f1 := HF1.out.cell hm; have hcb := cell_of_heap (hm.loc _ hmem).1; have hlt9 := lt_of_heap (hm.loc _ hmem).1; simp only [LBox] at hcb hlt9; go_simp; with_reducible rfl)
      simp only [Act.put, List.setIfInBounds_toArray, List.set_cons_zero, List.set_cons_succ, List.getElem_toArray, List.getElem_cons_succ, List.getElem_cons_zero]
      have mA := md.alloc (.cells #[.string c.name] 9)
      refine AnyFrom.one (i := 7) (by kernel_rfl) (AnyFrom.op rfl (by kernel_rfl) fun K hK => ?_)
      go_simp
      refine hK _ _ (.inr ⟨_, mA, by simp⟩) ?_
      clear hK K
      try simp only [Act.put, List.setIfInBounds_toArray, List.set_cons_zero, List.set_cons_succ, List.getElem_toArray, List.getElem_cons_succ, List.getElem_cons_zero]
      have mB := mA.perm (perm_tl2 _ _ _ _)
      refine AnyFrom.one (i := 8) (by kernel_rfl) (AnyFrom.opIf rfl fun K hK => ?_)
      refine step_append_mem (w0 := w0) (H := H) (L := _ :: _) rfl _ _ 23 rfl 9 1 16 (.string ByteArray.empty) Tryz.underlying23 (by kernel_rfl) rfl (by decide) (.slice pb zs.length pc) zs.length (zs.map Value.string) (hown.out.acc.join mB) rfl (.slice (some ⟨W.heap.size, 0, none⟩) 1 1) 1 [.string c.name] (Src.loc (e := 9) (cs := [.string c.name]) mB (by simp)) rfl rfl (by intro u hu; rw [List.mem_singleton.1 hu]; rfl) (by have := hzl.out; omega) (by unfold maxLen; have := hzl.out; omega) ?_
      intro v' w6 hacc
      obtain ⟨b6, c6, rfl, _, _⟩ := hacc.shape
      obtain ⟨L5, hq5, m7⟩ := hacc.drop.split
      clear hacc mB mA md HS
      have m8 := m7.perm ((by classical exact List.perm_iff_count.2 (fun a => by simp only [List.count_append, List.count_cons, List.cons_append, List.nil_append, List.append_assoc]; omega)) : (L5 ++ ((xb, LBox 25 (.slice (some ⟨q1, o1, none⟩) x.classes.length c1) (.slice b2 x.roots.length c2)) :: L)).Perm ((xb, LBox 25 (.slice (some ⟨q1, o1, none⟩) x.classes.length c1) (.slice b2 x.roots.length c2)) :: (L5 ++ L)))
      refine hK _ _ (.inr ⟨_, m8, by simp⟩) ?_
      clear hK K
      try simp only [Act.put, List.setIfInBounds_toArray, List.set_cons_zero, List.set_cons_succ, List.getElem_toArray, List.getElem_cons_succ, List.getElem_cons_zero]
      obtain ⟨news, hch, hsrc⟩ := HG1.out.src m7
      have HC := Lib.hid hch; clear hch
      have HSR := Lib.hid hsrc; clear hsrc
      refine AnyFrom.one (i := 15) (by kernel_rfl) (AnyFrom.opIf rfl fun K hK => ?_)
      refine step_append_mem (w0 := w0) (H := H) (L := (xb, LBox 25 (.slice (some ⟨q1, o1, none⟩) x.classes.length c1) (.slice b2 x.roots.length c2)) :: L) rfl _ _ 23 rfl 9 1 16 (.string ByteArray.empty) Tryz.underlying23 (by kernel_rfl) rfl (by decide) (.slice b6 (zs.length + 1) c6) (zs.length + 1) (zs.map Value.string ++ [.string c.name]) (hq5.join m7) rfl _ c.fields.length news HSR.out rfl (by rw [HC.out.length]; rfl) (by rw [(chunks_strs HC.out).1]; exact str_oneCell) (by have := hzl.out; omega) (by unfold maxLen; have := hzl.out; omega) ?_
      intro v' w7 hacc
      obtain ⟨b7, c7, rfl, _, _⟩ := hacc.shape
      obtain ⟨L6, hq6, m9⟩ := hacc.split
      have hqo := Lib.hid (show OwnS (.slice b7 (zs.length + 1 + c.fields.length) c7) (zs ++ [c.name] ++ c.fields) L6 from ⟨by
        rw [List.map_append, List.map_append, List.length_append, List.length_append]
        rw [(chunks_strs HC.out).1] at hq6
        exact hq6, by
        intro z hz
        rcases List.mem_append.1 hz with hz | hz
        · rcases List.mem_append.1 hz with hz | hz
          · exact hown.out.fit z hz
          · rw [List.mem_singleton.1 hz]; exact hnm
        · exact (chunks_strs HC.out).2 z hz⟩)
      clear hacc hq6 m7 m8 HSR HC
      have m10 := m9.perm ((by classical exact List.perm_iff_count.2 (fun a => by simp only [List.count_append, List.count_cons, List.cons_append, List.nil_append, List.append_assoc]; omega)) : (L6 ++ ((xb, LBox 25 (.slice (some ⟨q1, o1, none⟩) x.classes.length c1) (.slice b2 x.roots.length c2)) :: L)).Perm ((xb, LBox 25 (.slice (some ⟨q1, o1, none⟩) x.classes.length c1) (.slice b2 x.roots.length c2)) :: (L6 ++ L)))
      refine hK _ _ (.inr ⟨_, m10, by simp⟩) ?_
      clear hK K
      try simp only [Act.put, List.setIfInBounds_toArray, List.set_cons_zero, List.set_cons_succ, List.getElem_toArray, List.getElem_cons_succ, List.getElem_cons_zero]
      refine AnyFrom.one (i := 16) (by kernel_rfl) (AnyFrom.op rfl (by kernel_rfl) fun K hK => ?_)
      go_simp
      refine hK _ _ (.inr ⟨_, m10, by simp⟩) ?_
      clear hK K
      try simp only [Act.put, List.setIfInBounds_toArray, List.set_cons_zero, List.set_cons_succ, List.getElem_toArray, List.getElem_cons_succ, List.getElem_cons_zero]
      refine AnyFrom.done (by kernel_rfl) ?_ _
      go_wp2_with fail
      go_roundw
      case rel =>
        refine ⟨k + 1, zs ++ [c.name] ++ c.fields, L6, by omega, by go_num, hqo, Lib.hid (by have := hzl.out; simp only [List.length_append, List.length_cons, List.length_nil]; omega), Lib.hid ?_, m9⟩
        rw [HTK.out]
        intro d hd
        rcases List.mem_append.1 hd with hd | hd
        · exact hfl.out d hd
        · rw [List.mem_singleton.1 hd]; omega
      case measure => simp [intOf]; omega
    · have hge : ¬ (k : Int) < x.classes.length := by omega
      have HXF := Lib.hid (show x.fit 50000 from ⟨by omega, by omega, fun c hc => by have := hfl.out c (by rw [List.take_of_length_le (by omega)]; exact hc); omega⟩)
      obtain ⟨pb, pc, rfl, hp1, hp2⟩ := hown.out.shape
      have hp2 := size_le_maxLen hp2
      obtain ⟨H', mz, hl, hzs⟩ := hown.out.freeze (mk2.drop)
      have HZ := Lib.hid hzs; clear hzs
      have es := mk2.eqs
      simp only [EqsL, LBox] at es
      clear mk2 hown
      go_wp2_with fail
      clear es
      go_loopw [5] (fun i wr => ∃ (k : Nat), k ≤ zs.length ∧ i = .int .i64 k ∧ Mem w0 H' L wr) (fun i _ => zs.length - (intOf i).toNat)
      case atStart => exact ⟨0, Nat.zero_le _, rfl, mz⟩
      case round =>
        clear mz
        obtain ⟨k, hk, rfl, m⟩ := hrel
        by_cases hlt : k < zs.length
        · have hltI : (k : Int) < zs.length := by omega
          obtain ⟨blk, off, rfl, hcell, hsz⟩ := HZ.out.getStr hlt
          generalize zs[k] = z at *
          have a0 := hcell.cell m
          clear hcell
          by_cases g4 : 100 < z.size
          · have g4I : (100 : Int) < z.size := by omega
            go_wp2_with fail
            go_ret
            exact ⟨_, H', (by intro h; cases h), rfl, hl, m⟩
          have g4I : ¬ (100 : Int) < z.size := by omega
          go_wp2_with fail
          go_roundw
          case rel => exact ⟨k + 1, by omega, by go_num, m⟩
          case measure => simp [intOf]; omega
        · have hge : ¬ (k : Int) < zs.length := by omega
          go_wp2_with fail
          go_ret
          exact ⟨_, H', (fun _ => HXF.out), rfl, hl, m⟩
end Go.Proofs.YtbioklhoolkhkabGreat
