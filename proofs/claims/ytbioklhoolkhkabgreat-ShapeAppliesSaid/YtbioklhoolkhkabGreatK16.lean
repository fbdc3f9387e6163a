/- The walk of the law ShapeApplies. -/
import Derived.Test.YtbioklhoolkhkabGreatK15
namespace Go.Proofs.YtbioklhoolkhkabGreat
set_option linter.unusedVariables false
set_option linter.unusedSimpArgs false
open Go.RowKit

theorem shareS {K : Act → World → Prop} {G : Prop} (R : Nat → Nat → Option Addr → Nat → Option Addr → Nat → Option Addr → Nat → World → Prop) {f : Nat → Nat → Option Addr → Nat → Option Addr → Nat → Option Addr → Nat → Act}
    (br : (∀ p q d1 e1 d2 e2 d3 e3 W, R p q d1 e1 d2 e2 d3 e3 W → K (f p q d1 e1 d2 e2 d3 e3) W) → G) (rest : ∀ p q d1 e1 d2 e2 d3 e3 W, R p q d1 e1 d2 e2 d3 e3 W → K (f p q d1 e1 d2 e2 d3 e3) W) : G := br rest
theorem chg_oneCell {H : Hp} {vs : List Value} {xs : List ChangeM} (h : Chunks encChange H vs xs) : ∀ u ∈ vs, u.oneCell' = true :=
  h.oneCell fun vs x hx u hu => by
    obtain ⟨rfl, _⟩ := hx
    simp only [ChangeM.cs, List.mem_cons, List.not_mem_nil, or_false] at hu
    rcases hu with rfl | rfl | rfl | rfl | rfl | rfl | rfl <;> rfl
/-- The call ends with true. -/
def RetT (w0 : World) (H : Hp) (L : List (Nat × Obj)) (e : Ending) (w' : World) : Prop := ∃ H', e = .returned (.bool true) ∧ Hle H H' ∧ Mem w0 H' L w'
set_option maxRecDepth 10000 in
set_option maxHeartbeats 8000000 in
theorem ShapeApplies_any (hawake : ∀ (w0 w : World) (H : Hp) (L : List (Nat × Obj)), Mem w0 H L w → Calls Tryz.prog 6 #[] w (Ret w0 H L (.bool true))) (x : LayM) (v1 v2 v3 : Value) (cs : List ChangeM) {w0 w : World} {H : Hp} {L : List (Nat × Obj)} (m : Mem w0 H L w) (h1 : SlR encClass H v1 x.classes) (h2 : SlR encStr H v2 x.roots) (h3 : SlR encChange H v3 cs) :
    Calls Tryz.prog 3 #[.agg #[v1, v2], v3] w (RetT w0 H L) := by
  have H1 := Lib.hid h1
  have H2 := Lib.hid h2
  have H3 := Lib.hid h3
  obtain ⟨b1, c1, rfl, _, hx1, _, _⟩ := h1
  have hx1 := size_le_maxLen hx1
  obtain ⟨b2, c2, rfl, _, hx2, _, _⟩ := h2
  have hx2 := size_le_maxLen hx2
  obtain ⟨b3, c3, rfl, hc3, hx3, _, _⟩ := h3
  have hx3 := size_le_maxLen hx3
  go_enter Tryz.func3, Tryz.ntmps3
  have m1 := m.alloc (LBox 25 (.slice b1 x.classes.length c1) (.slice b2 x.roots.length c2))
  generalize hxb : w.heap.size = xb at *
  have es := m1.eqs
  simp only [EqsL, LBox] at es
  go_wp2_with fail
  clear es
  refine (ThinLayout_any x _ _ m1 H1.out H2.out).mono ?_
  rintro e w1 ⟨g, H', hfit, rfl, hle, m2⟩
  have es := m2.eqs
  simp only [EqsL, LBox] at es
  cases g
  · go_wp2_with fail
    clear es
    refine (hawake _ _ _ _ m2).mono ?_
    rintro e w3 ⟨rfl, m3⟩
    go_wp2_with fail
    go_ret
    exact ⟨_, rfl, hle, m3.drop⟩
  go_wp2_with fail
  clear es
  refine (ThinChanges_any _ cs m2 (H3.out.mono hle)).mono ?_
  rintro e w3 ⟨g, hg, rfl, m3⟩
  clear m2 m1 m
  cases g
  · go_wp2_with fail
    refine (hawake _ _ _ _ m3).mono ?_
    rintro e w4 ⟨rfl, m4⟩
    go_wp2_with fail
    go_ret
    exact ⟨_, rfl, hle, m4.drop⟩
  go_wp2_with fail
  have HX := Lib.hid (hfit trivial); clear hfit
  have h64 : cs.length ≤ 64 := hg (by trivial)
  clear hg
  -- R3BEGIN
  apply shareS (R := fun p q d1 e1 d2 e2 d3 e3 W => ∃ rs Lc Lf L3 L5 vs, Hid (rs.length = x.classes.length) ∧ AccL 39 2 (.slice d1 x.classes.length e1) x.classes.length (clsCs rs) Lc ∧ OwnF rs x.classes Lf ∧ OwnS (.slice d2 x.roots.length e2) x.roots L3 ∧ AccL 43 7 (.slice d3 cs.length e3) cs.length vs L5 ∧ Hid (Chunks encChange H' vs cs) ∧ Mem w0 H' (Lc ++ (Lf ++ (L3 ++ (L5 ++ ((xb, LBox 25 (.slice b1 x.classes.length c1) (.slice b2 x.roots.length c2)) :: L))))) W)
  case' br =>
    intro key
    refine AnyFrom.start (fun w' => ∃ L', Mem w0 H' L' w' ∧ (xb, LBox 25 (.slice b1 x.classes.length c1) (.slice b2 x.roots.length c2)) ∈ L') 13 (by kernel_rfl) ?_
    have mS := m3.drew
    generalize w3.drew = W at *
    have HS : ∃ L', Mem w0 H' L' W ∧ (xb, LBox 25 (.slice b1 x.classes.length c1) (.slice b2 x.roots.length c2)) ∈ L' := ⟨_, mS, by simp⟩
    refine AnyFrom.takeT (i := 0) (v := ?_) rfl (by kernel_rfl) (by kernel_rfl) (by kernel_rfl) (by kernel_rfl) (fun _ _ _ h => h) ⟨by kernel_rfl, ?_⟩ HS ?_
    rotate_left
    · first | (rintro w' ⟨L', hm, hmem⟩; have hcb := cell_of_heap (hm.loc _ hmem).1; have hlt9 := lt_of_heap (hm.loc _ hmem).1; simp only [LBox] at hcb hlt9; go_simp; done) | (rintro w' ⟨L', hm, hmem⟩; have hcb := cell_of_heap (hm.loc _ hmem).1; have hlt9 := lt_of_heap (hm.loc _ hmem).1; simp only [LBox] at hcb hlt9; go_simp; with_reducible rfl)
    simp only [Act.put, List.setIfInBounds_toArray, List.set_cons_zero, List.set_cons_succ, List.getElem_toArray, List.getElem_cons_succ, List.getElem_cons_zero]
    refine AnyFrom.takeT (i := 1) (v := ?_) rfl (by kernel_rfl) (by kernel_rfl) (by kernel_rfl) (by kernel_rfl) (fun _ _ _ h => h) ⟨by kernel_rfl, ?_⟩ HS ?_
    rotate_left
    · first | (rintro w' ⟨L', hm, hmem⟩; have hcb := cell_of_heap (hm.loc _ hmem).1; have hlt9 := lt_of_heap (hm.loc _ hmem).1; simp only [LBox] at hcb hlt9; go_simp; done) | (rintro w' ⟨L', hm, hmem⟩; have hcb := cell_of_heap (hm.loc _ hmem).1; have hlt9 := lt_of_heap (hm.loc _ hmem).1; simp only [LBox] at hcb hlt9; go_simp; with_reducible rfl)
    simp only [Act.put, List.setIfInBounds_toArray, List.set_cons_zero, List.set_cons_succ, List.getElem_toArray, List.getElem_cons_succ, List.getElem_cons_zero]
    refine AnyFrom.takeT (i := 4) (v := ?_) rfl (by kernel_rfl) (by kernel_rfl) (by kernel_rfl) (by kernel_rfl) (fun _ _ _ h => h) ⟨by kernel_rfl, ?_⟩ HS ?_
    rotate_left
    · first | (rintro w' ⟨L', hm, hmem⟩; have hcb := cell_of_heap (hm.loc _ hmem).1; have hlt9 := lt_of_heap (hm.loc _ hmem).1; simp only [LBox] at hcb hlt9; go_simp; done) | (rintro w' ⟨L', hm, hmem⟩; have hcb := cell_of_heap (hm.loc _ hmem).1; have hlt9 := lt_of_heap (hm.loc _ hmem).1; simp only [LBox] at hcb hlt9; go_simp; with_reducible rfl)
    simp only [Act.put, List.setIfInBounds_toArray, List.set_cons_zero, List.set_cons_succ, List.getElem_toArray, List.getElem_cons_succ, List.getElem_cons_zero]
    refine AnyFrom.takeT (i := 5) (v := ?_) rfl (by kernel_rfl) (by kernel_rfl) (by kernel_rfl) (by kernel_rfl) (fun _ _ _ h => h) ⟨by kernel_rfl, ?_⟩ HS ?_
    rotate_left
    · first | (rintro w' ⟨L', hm, hmem⟩; have hcb := cell_of_heap (hm.loc _ hmem).1; have hlt9 := lt_of_heap (hm.loc _ hmem).1; simp only [LBox] at hcb hlt9; go_simp; done) | (rintro w' ⟨L', hm, hmem⟩; have hcb := cell_of_heap (hm.loc _ hmem).1; have hlt9 := lt_of_heap (hm.loc _ hmem).1; simp only [LBox] at hcb hlt9; go_simp; with_reducible rfl)
    simp only [Act.put, List.setIfInBounds_toArray, List.set_cons_zero, List.set_cons_succ, List.getElem_toArray, List.getElem_cons_succ, List.getElem_cons_zero]
    refine AnyFrom.pure (i := 8) (v := ?_) rfl (by kernel_rfl) (by kernel_rfl) (by kernel_rfl) (by decide) (fun _ _ _ h => h) ⟨by kernel_rfl, ?_⟩ HS ?_
    rotate_left
    · first | (intro w'; go_simp; done) | (intro w'; go_simp; with_reducible rfl)
    simp only [Act.put, List.setIfInBounds_toArray, List.set_cons_zero, List.set_cons_succ, List.getElem_toArray, List.getElem_cons_succ, List.getElem_cons_zero]
    refine AnyFrom.three (i := 2) (j := 3) (k := 7) (by kernel_rfl) ?_ ?_ ?_
    · skip
      refine AnyFrom.op rfl (by kernel_rfl) fun K hK => ?_
      go_simp
      refine (CopyClasses_any _ x.classes (fun z hz => by have := HX.out.fields z hz; omega) (by have := HX.out.classes; omega) mS (H1.out.mono hle)).mono ?_
      clear mS
      rintro e W ⟨vc, rs, Lc, Lf, rfl, hac, hof, m7⟩
      obtain ⟨d1, e1, rfl, _, _⟩ := hac.shape
      have HRS := Lib.hid hof.length
      rw [HRS.out] at hac
      rw [HRS.out]
      have mS : Mem w0 H' (Lc ++ (Lf ++ ((xb, LBox 25 (.slice b1 x.classes.length c1) (.slice b2 x.roots.length c2)) :: L))) W := m7.perm (by first | exact List.Perm.refl _ | exact (by classical exact List.perm_iff_count.2 (fun a => by simp only [List.count_append, List.count_cons, List.cons_append, List.nil_append, List.append_assoc]; omega)) | exact (by classical exact List.perm_iff_count.2 (fun a => by simp only [List.count_append, List.count_cons, List.cons_append, List.nil_append, List.append_assoc]; omega)))
      clear m7
      refine hK _ _ (.inr ⟨_, mS, by simp⟩) ?_
      clear hK K HS
      try simp only [Act.put, List.setIfInBounds_toArray, List.set_cons_zero, List.set_cons_succ, List.getElem_toArray, List.getElem_cons_succ, List.getElem_cons_zero]
      have HS : (fun w' => ∃ L', Mem w0 H' L' w' ∧ (xb, LBox 25 (.slice b1 x.classes.length c1) (.slice b2 x.roots.length c2)) ∈ L') W := ⟨_, mS, by simp⟩
      refine AnyFrom.two (i := 3) (j := 7) (by kernel_rfl) ?_ ?_
      · skip
        refine AnyFrom.op rfl (by kernel_rfl) fun K hK => ?_
        go_simp
        have mA := mS.alloc (Obj.cells #[] 9 (0, 0))
        obtain ⟨p, hp⟩ : ∃ p, p = W.heap.size := ⟨_, rfl⟩
        rw [← hp] at mA
        rw [← hp]
        generalize World.alloc W _ = W at *
        clear hp mS
        have mS : Mem w0 H' (Lc ++ (Lf ++ ((p, Obj.cells #[] 9 (0, 0)) :: ((xb, LBox 25 (.slice b1 x.classes.length c1) (.slice b2 x.roots.length c2)) :: L)))) W := mA.perm (by first | exact List.Perm.refl _ | exact (by classical exact List.perm_iff_count.2 (fun a => by simp only [List.count_append, List.count_cons, List.cons_append, List.nil_append, List.append_assoc]; omega)) | exact (by classical exact List.perm_iff_count.2 (fun a => by simp only [List.count_append, List.count_cons, List.cons_append, List.nil_append, List.append_assoc]; omega)))
        clear mA
        refine hK _ _ (.inr ⟨_, mS, by simp⟩) ?_
        clear hK K HS
        try simp only [Act.put, List.setIfInBounds_toArray, List.set_cons_zero, List.set_cons_succ, List.getElem_toArray, List.getElem_cons_succ, List.getElem_cons_zero]
        have HS : (fun w' => ∃ L', Mem w0 H' L' w' ∧ (xb, LBox 25 (.slice b1 x.classes.length c1) (.slice b2 x.roots.length c2)) ∈ L') W := ⟨_, mS, by simp⟩
        refine AnyFrom.two (i := 6) (j := 7) (by kernel_rfl) ?_ ?_
        · skip
          have mP : Mem w0 H' ((p, Obj.cells #[] 9 (0, 0)) :: (Lc ++ (Lf ++ ((xb, LBox 25 (.slice b1 x.classes.length c1) (.slice b2 x.roots.length c2)) :: L)))) W := mS.perm (by first | exact List.Perm.refl _ | exact (by classical exact List.perm_iff_count.2 (fun a => by simp only [List.count_append, List.count_cons, List.cons_append, List.nil_append, List.append_assoc]; omega)) | exact (by classical exact List.perm_iff_count.2 (fun a => by simp only [List.count_append, List.count_cons, List.cons_append, List.nil_append, List.append_assoc]; omega)))
          obtain ⟨news, hch, hsrc⟩ := (H2.out.mono hle).src mP
          have HC := Lib.hid hch; clear hch
          have HSR := Lib.hid hsrc; clear hsrc
          refine AnyFrom.opIf rfl fun K hK => ?_
          refine step_append_mem (w0 := w0) (H := H') (L := Lc ++ (Lf ++ ((xb, LBox 25 (.slice b1 x.classes.length c1) (.slice b2 x.roots.length c2)) :: L))) rfl _ _ 23 rfl 9 1 16 (.string ByteArray.empty) Tryz.underlying23 (by kernel_rfl) rfl (by decide) _ 0 [] (MemAcc.row mP (Nat.le_refl _) (by decide) rfl rfl) rfl _ x.roots.length news HSR.out rfl (by rw [HC.out.length]; rfl) (by rw [(chunks_strs HC.out).1]; exact str_oneCell) (by have := HX.out.roots; omega) (by unfold maxLen; have := HX.out.roots; omega) ?_
          clear mS mP
          intro v' W hacc
          try simp only [Nat.zero_add, List.nil_append] at hacc
          obtain ⟨d2, e2, rfl, _, _⟩ := hacc.shape
          obtain ⟨L3, ho3, m7⟩ := OwnS.of hacc HC.out
          have mS : Mem w0 H' (Lc ++ (Lf ++ (L3 ++ ((xb, LBox 25 (.slice b1 x.classes.length c1) (.slice b2 x.roots.length c2)) :: L)))) W := m7.perm (by first | exact List.Perm.refl _ | exact (by classical exact List.perm_iff_count.2 (fun a => by simp only [List.count_append, List.count_cons, List.cons_append, List.nil_append, List.append_assoc]; omega)) | exact (by classical exact List.perm_iff_count.2 (fun a => by simp only [List.count_append, List.count_cons, List.cons_append, List.nil_append, List.append_assoc]; omega)))
          clear hacc m7 HSR HC
          refine hK _ _ (.inr ⟨_, mS, by simp⟩) ?_
          clear hK K HS
          try simp only [Act.put, List.setIfInBounds_toArray, List.set_cons_zero, List.set_cons_succ, List.getElem_toArray, List.getElem_cons_succ, List.getElem_cons_zero]
          have HS : (fun w' => ∃ L', Mem w0 H' L' w' ∧ (xb, LBox 25 (.slice b1 x.classes.length c1) (.slice b2 x.roots.length c2)) ∈ L') W := ⟨_, mS, by simp⟩
          refine AnyFrom.one (i := 7) (by kernel_rfl) ?_
          · skip
            refine AnyFrom.op rfl (by kernel_rfl) fun K hK => ?_
            go_simp
            have mA := mS.alloc (Obj.cells #[] 43 (0, 0))
            obtain ⟨q, hp⟩ : ∃ p, p = W.heap.size := ⟨_, rfl⟩
            rw [← hp] at mA
            rw [← hp]
            generalize World.alloc W _ = W at *
            clear hp mS
            have mS : Mem w0 H' (Lc ++ (Lf ++ (L3 ++ ((q, Obj.cells #[] 43 (0, 0)) :: ((xb, LBox 25 (.slice b1 x.classes.length c1) (.slice b2 x.roots.length c2)) :: L))))) W := mA.perm (by first | exact List.Perm.refl _ | exact (by classical exact List.perm_iff_count.2 (fun a => by simp only [List.count_append, List.count_cons, List.cons_append, List.nil_append, List.append_assoc]; omega)) | exact (by classical exact List.perm_iff_count.2 (fun a => by simp only [List.count_append, List.count_cons, List.cons_append, List.nil_append, List.append_assoc]; omega)))
            clear mA
            refine hK _ _ (.inr ⟨_, mS, by simp⟩) ?_
            clear hK K HS
            try simp only [Act.put, List.setIfInBounds_toArray, List.set_cons_zero, List.set_cons_succ, List.getElem_toArray, List.getElem_cons_succ, List.getElem_cons_zero]
            have HS : (fun w' => ∃ L', Mem w0 H' L' w' ∧ (xb, LBox 25 (.slice b1 x.classes.length c1) (.slice b2 x.roots.length c2)) ∈ L') W := ⟨_, mS, by simp⟩
            refine AnyFrom.one (i := 9) (by kernel_rfl) ?_
            · skip
              have mP : Mem w0 H' ((q, Obj.cells #[] 43 (0, 0)) :: (Lc ++ (Lf ++ (L3 ++ ((xb, LBox 25 (.slice b1 x.classes.length c1) (.slice b2 x.roots.length c2)) :: L))))) W := mS.perm (by first | exact List.Perm.refl _ | exact (by classical exact List.perm_iff_count.2 (fun a => by simp only [List.count_append, List.count_cons, List.cons_append, List.nil_append, List.append_assoc]; omega)) | exact (by classical exact List.perm_iff_count.2 (fun a => by simp only [List.count_append, List.count_cons, List.cons_append, List.nil_append, List.append_assoc]; omega)))
              obtain ⟨vs, hch, hsrc⟩ := (H3.out.mono hle).src mP
              have HCV := Lib.hid hch; clear hch
              have HSR := Lib.hid hsrc; clear hsrc
              refine AnyFrom.opIf rfl fun K hK => ?_
              refine step_append_mem (w0 := w0) (H := H') (L := Lc ++ (Lf ++ (L3 ++ ((xb, LBox 25 (.slice b1 x.classes.length c1) (.slice b2 x.roots.length c2)) :: L)))) rfl _ _ 26 rfl 43 7 88 (.agg #[.int .u8 0, .string ByteArray.empty, .string ByteArray.empty, .string ByteArray.empty, .int .u8 0, .int .i64 0, .string ByteArray.empty]) Tryz.underlying26 (by kernel_rfl) rfl (by decide) _ 0 [] (MemAcc.row mP (Nat.le_refl _) (by decide) rfl rfl) rfl _ cs.length vs HSR.out rfl (by rw [HCV.out.length]; rfl) (chg_oneCell HCV.out) (by omega) (by unfold maxLen; omega) ?_
              clear mS mP
              intro v' W hacc
              try simp only [Nat.zero_add, List.nil_append] at hacc
              obtain ⟨d3, e3, rfl, _, _⟩ := hacc.shape
              obtain ⟨L5, hq5, m7⟩ := hacc.split
              have mS : Mem w0 H' (Lc ++ (Lf ++ (L3 ++ (L5 ++ ((xb, LBox 25 (.slice b1 x.classes.length c1) (.slice b2 x.roots.length c2)) :: L))))) W := m7.perm (by first | exact List.Perm.refl _ | exact (by classical exact List.perm_iff_count.2 (fun a => by simp only [List.count_append, List.count_cons, List.cons_append, List.nil_append, List.append_assoc]; omega)) | exact (by classical exact List.perm_iff_count.2 (fun a => by simp only [List.count_append, List.count_cons, List.cons_append, List.nil_append, List.append_assoc]; omega)))
              clear hacc m7 HSR
              refine hK _ _ (.inr ⟨_, mS, by simp⟩) ?_
              clear hK K HS
              try simp only [Act.put, List.setIfInBounds_toArray, List.set_cons_zero, List.set_cons_succ, List.getElem_toArray, List.getElem_cons_succ, List.getElem_cons_zero]
              have HS : (fun w' => ∃ L', Mem w0 H' L' w' ∧ (xb, LBox 25 (.slice b1 x.classes.length c1) (.slice b2 x.roots.length c2)) ∈ L') W := ⟨_, mS, by simp⟩
              refine AnyFrom.one (i := 10) (by kernel_rfl) (AnyFrom.op rfl (by kernel_rfl) fun K hK => ?_)
              go_simp
              refine hK _ _ (.inr ⟨_, mS, by simp⟩) ?_
              clear hK K
              try simp only [Act.put, List.setIfInBounds_toArray, List.set_cons_zero, List.set_cons_succ, List.getElem_toArray, List.getElem_cons_succ, List.getElem_cons_zero]
              refine AnyFrom.one (i := 11) (by kernel_rfl) (AnyFrom.op rfl (by kernel_rfl) fun K hK => ?_)
              go_simp
              refine hK _ _ (.inr ⟨_, mS, by simp⟩) ?_
              clear hK K
              try simp only [Act.put, List.setIfInBounds_toArray, List.set_cons_zero, List.set_cons_succ, List.getElem_toArray, List.getElem_cons_succ, List.getElem_cons_zero]
              refine AnyFrom.one (i := 12) (by kernel_rfl) (AnyFrom.op rfl (by kernel_rfl) fun K hK => ?_)
              go_simp
              refine hK _ _ (.inr ⟨_, mS, by simp⟩) ?_
              clear hK K
              try simp only [Act.put, List.setIfInBounds_toArray, List.set_cons_zero, List.set_cons_succ, List.getElem_toArray, List.getElem_cons_succ, List.getElem_cons_zero]
              refine AnyFrom.done (by kernel_rfl) ?_ _
              exact key p q d1 e1 d2 e2 d3 e3 _ ⟨rs, Lc, Lf, L3, L5, vs, HRS, hac, hof, ho3, hq5, HCV, mS.perm (by first | exact List.Perm.refl _ | exact (by classical exact List.perm_iff_count.2 (fun a => by simp only [List.count_append, List.count_cons, List.cons_append, List.nil_append, List.append_assoc]; omega)) | exact (by classical exact List.perm_iff_count.2 (fun a => by simp only [List.count_append, List.count_cons, List.cons_append, List.nil_append, List.append_assoc]; omega)))⟩
        · skip
          refine AnyFrom.op rfl (by kernel_rfl) fun K hK => ?_
          go_simp
          have mA := mS.alloc (Obj.cells #[] 43 (0, 0))
          obtain ⟨q, hp⟩ : ∃ p, p = W.heap.size := ⟨_, rfl⟩
          rw [← hp] at mA
          rw [← hp]
          generalize World.alloc W _ = W at *
          clear hp mS
          have mS : Mem w0 H' (Lc ++ (Lf ++ ((p, Obj.cells #[] 9 (0, 0)) :: ((q, Obj.cells #[] 43 (0, 0)) :: ((xb, LBox 25 (.slice b1 x.classes.length c1) (.slice b2 x.roots.length c2)) :: L))))) W := mA.perm (by first | exact List.Perm.refl _ | exact (by classical exact List.perm_iff_count.2 (fun a => by simp only [List.count_append, List.count_cons, List.cons_append, List.nil_append, List.append_assoc]; omega)) | exact (by classical exact List.perm_iff_count.2 (fun a => by simp only [List.count_append, List.count_cons, List.cons_append, List.nil_append, List.append_assoc]; omega)))
          clear mA
          refine hK _ _ (.inr ⟨_, mS, by simp⟩) ?_
          clear hK K HS
          try simp only [Act.put, List.setIfInBounds_toArray, List.set_cons_zero, List.set_cons_succ, List.getElem_toArray, List.getElem_cons_succ, List.getElem_cons_zero]
          have HS : (fun w' => ∃ L', Mem w0 H' L' w' ∧ (xb, LBox 25 (.slice b1 x.classes.length c1) (.slice b2 x.roots.length c2)) ∈ L') W := ⟨_, mS, by simp⟩
          refine AnyFrom.one (i := 6) (by kernel_rfl) ?_
          · skip
            have mP : Mem w0 H' ((p, Obj.cells #[] 9 (0, 0)) :: (Lc ++ (Lf ++ ((q, Obj.cells #[] 43 (0, 0)) :: ((xb, LBox 25 (.slice b1 x.classes.length c1) (.slice b2 x.roots.length c2)) :: L))))) W := mS.perm (by first | exact List.Perm.refl _ | exact (by classical exact List.perm_iff_count.2 (fun a => by simp only [List.count_append, List.count_cons, List.cons_append, List.nil_append, List.append_assoc]; omega)) | exact (by classical exact List.perm_iff_count.2 (fun a => by simp only [List.count_append, List.count_cons, List.cons_append, List.nil_append, List.append_assoc]; omega)))
            obtain ⟨news, hch, hsrc⟩ := (H2.out.mono hle).src mP
            have HC := Lib.hid hch; clear hch
            have HSR := Lib.hid hsrc; clear hsrc
            refine AnyFrom.opIf rfl fun K hK => ?_
            refine step_append_mem (w0 := w0) (H := H') (L := Lc ++ (Lf ++ ((q, Obj.cells #[] 43 (0, 0)) :: ((xb, LBox 25 (.slice b1 x.classes.length c1) (.slice b2 x.roots.length c2)) :: L)))) rfl _ _ 23 rfl 9 1 16 (.string ByteArray.empty) Tryz.underlying23 (by kernel_rfl) rfl (by decide) _ 0 [] (MemAcc.row mP (Nat.le_refl _) (by decide) rfl rfl) rfl _ x.roots.length news HSR.out rfl (by rw [HC.out.length]; rfl) (by rw [(chunks_strs HC.out).1]; exact str_oneCell) (by have := HX.out.roots; omega) (by unfold maxLen; have := HX.out.roots; omega) ?_
            clear mS mP
            intro v' W hacc
            try simp only [Nat.zero_add, List.nil_append] at hacc
            obtain ⟨d2, e2, rfl, _, _⟩ := hacc.shape
            obtain ⟨L3, ho3, m7⟩ := OwnS.of hacc HC.out
            have mS : Mem w0 H' (Lc ++ (Lf ++ (L3 ++ ((q, Obj.cells #[] 43 (0, 0)) :: ((xb, LBox 25 (.slice b1 x.classes.length c1) (.slice b2 x.roots.length c2)) :: L))))) W := m7.perm (by first | exact List.Perm.refl _ | exact (by classical exact List.perm_iff_count.2 (fun a => by simp only [List.count_append, List.count_cons, List.cons_append, List.nil_append, List.append_assoc]; omega)) | exact (by classical exact List.perm_iff_count.2 (fun a => by simp only [List.count_append, List.count_cons, List.cons_append, List.nil_append, List.append_assoc]; omega)))
            clear hacc m7 HSR HC
            refine hK _ _ (.inr ⟨_, mS, by simp⟩) ?_
            clear hK K HS
            try simp only [Act.put, List.setIfInBounds_toArray, List.set_cons_zero, List.set_cons_succ, List.getElem_toArray, List.getElem_cons_succ, List.getElem_cons_zero]
            have HS : (fun w' => ∃ L', Mem w0 H' L' w' ∧ (xb, LBox 25 (.slice b1 x.classes.length c1) (.slice b2 x.roots.length c2)) ∈ L') W := ⟨_, mS, by simp⟩
            refine AnyFrom.one (i := 9) (by kernel_rfl) ?_
            · skip
              have mP : Mem w0 H' ((q, Obj.cells #[] 43 (0, 0)) :: (Lc ++ (Lf ++ (L3 ++ ((xb, LBox 25 (.slice b1 x.classes.length c1) (.slice b2 x.roots.length c2)) :: L))))) W := mS.perm (by first | exact List.Perm.refl _ | exact (by classical exact List.perm_iff_count.2 (fun a => by simp only [List.count_append, List.count_cons, List.cons_append, List.nil_append, List.append_assoc]; omega)) | exact (by classical exact List.perm_iff_count.2 (fun a => by simp only [List.count_append, List.count_cons, List.cons_append, List.nil_append, List.append_assoc]; omega)))
              obtain ⟨vs, hch, hsrc⟩ := (H3.out.mono hle).src mP
              have HCV := Lib.hid hch; clear hch
              have HSR := Lib.hid hsrc; clear hsrc
              refine AnyFrom.opIf rfl fun K hK => ?_
              refine step_append_mem (w0 := w0) (H := H') (L := Lc ++ (Lf ++ (L3 ++ ((xb, LBox 25 (.slice b1 x.classes.length c1) (.slice b2 x.roots.length c2)) :: L)))) rfl _ _ 26 rfl 43 7 88 (.agg #[.int .u8 0, .string ByteArray.empty, .string ByteArray.empty, .string ByteArray.empty, .int .u8 0, .int .i64 0, .string ByteArray.empty]) Tryz.underlying26 (by kernel_rfl) rfl (by decide) _ 0 [] (MemAcc.row mP (Nat.le_refl _) (by decide) rfl rfl) rfl _ cs.length vs HSR.out rfl (by rw [HCV.out.length]; rfl) (chg_oneCell HCV.out) (by omega) (by unfold maxLen; omega) ?_
              clear mS mP
              intro v' W hacc
              try simp only [Nat.zero_add, List.nil_append] at hacc
              obtain ⟨d3, e3, rfl, _, _⟩ := hacc.shape
              obtain ⟨L5, hq5, m7⟩ := hacc.split
              have mS : Mem w0 H' (Lc ++ (Lf ++ (L3 ++ (L5 ++ ((xb, LBox 25 (.slice b1 x.classes.length c1) (.slice b2 x.roots.length c2)) :: L))))) W := m7.perm (by first | exact List.Perm.refl _ | exact (by classical exact List.perm_iff_count.2 (fun a => by simp only [List.count_append, List.count_cons, List.cons_append, List.nil_append, List.append_assoc]; omega)) | exact (by classical exact List.perm_iff_count.2 (fun a => by simp only [List.count_append, List.count_cons, List.cons_append, List.nil_append, List.append_assoc]; omega)))
              clear hacc m7 HSR
              refine hK _ _ (.inr ⟨_, mS, by simp⟩) ?_
              clear hK K HS
              try simp only [Act.put, List.setIfInBounds_toArray, List.set_cons_zero, List.set_cons_succ, List.getElem_toArray, List.getElem_cons_succ, List.getElem_cons_zero]
              have HS : (fun w' => ∃ L', Mem w0 H' L' w' ∧ (xb, LBox 25 (.slice b1 x.classes.length c1) (.slice b2 x.roots.length c2)) ∈ L') W := ⟨_, mS, by simp⟩
              refine AnyFrom.one (i := 10) (by kernel_rfl) (AnyFrom.op rfl (by kernel_rfl) fun K hK => ?_)
              go_simp
              refine hK _ _ (.inr ⟨_, mS, by simp⟩) ?_
              clear hK K
              try simp only [Act.put, List.setIfInBounds_toArray, List.set_cons_zero, List.set_cons_succ, List.getElem_toArray, List.getElem_cons_succ, List.getElem_cons_zero]
              refine AnyFrom.one (i := 11) (by kernel_rfl) (AnyFrom.op rfl (by kernel_rfl) fun K hK => ?_)
              go_simp
              refine hK _ _ (.inr ⟨_, mS, by simp⟩) ?_
              clear hK K
              try simp only [Act.put, List.setIfInBounds_toArray, List.set_cons_zero, List.set_cons_succ, List.getElem_toArray, List.getElem_cons_succ, List.getElem_cons_zero]
              refine AnyFrom.one (i := 12) (by kernel_rfl) (AnyFrom.op rfl (by kernel_rfl) fun K hK => ?_)
              go_simp
              refine hK _ _ (.inr ⟨_, mS, by simp⟩) ?_
              clear hK K
              try simp only [Act.put, List.setIfInBounds_toArray, List.set_cons_zero, List.set_cons_succ, List.getElem_toArray, List.getElem_cons_succ, List.getElem_cons_zero]
              refine AnyFrom.done (by kernel_rfl) ?_ _
              exact key p q d1 e1 d2 e2 d3 e3 _ ⟨rs, Lc, Lf, L3, L5, vs, HRS, hac, hof, ho3, hq5, HCV, mS.perm (by first | exact List.Perm.refl _ | exact (by classical exact List.perm_iff_count.2 (fun a => by simp only [List.count_append, List.count_cons, List.cons_append, List.nil_append, List.append_assoc]; omega)) | exact (by classical exact List.perm_iff_count.2 (fun a => by simp only [List.count_append, List.count_cons, List.cons_append, List.nil_append, List.append_assoc]; omega)))⟩
      · skip
        refine AnyFrom.op rfl (by kernel_rfl) fun K hK => ?_
        go_simp
        have mA := mS.alloc (Obj.cells #[] 43 (0, 0))
        obtain ⟨q, hp⟩ : ∃ p, p = W.heap.size := ⟨_, rfl⟩
        rw [← hp] at mA
        rw [← hp]
        generalize World.alloc W _ = W at *
        clear hp mS
        have mS : Mem w0 H' (Lc ++ (Lf ++ ((q, Obj.cells #[] 43 (0, 0)) :: ((xb, LBox 25 (.slice b1 x.classes.length c1) (.slice b2 x.roots.length c2)) :: L)))) W := mA.perm (by first | exact List.Perm.refl _ | exact (by classical exact List.perm_iff_count.2 (fun a => by simp only [List.count_append, List.count_cons, List.cons_append, List.nil_append, List.append_assoc]; omega)) | exact (by classical exact List.perm_iff_count.2 (fun a => by simp only [List.count_append, List.count_cons, List.cons_append, List.nil_append, List.append_assoc]; omega)))
        clear mA
        refine hK _ _ (.inr ⟨_, mS, by simp⟩) ?_
        clear hK K HS
        try simp only [Act.put, List.setIfInBounds_toArray, List.set_cons_zero, List.set_cons_succ, List.getElem_toArray, List.getElem_cons_succ, List.getElem_cons_zero]
        have HS : (fun w' => ∃ L', Mem w0 H' L' w' ∧ (xb, LBox 25 (.slice b1 x.classes.length c1) (.slice b2 x.roots.length c2)) ∈ L') W := ⟨_, mS, by simp⟩
        refine AnyFrom.one (i := 3) (by kernel_rfl) ?_
        · skip
          refine AnyFrom.op rfl (by kernel_rfl) fun K hK => ?_
          go_simp
          have mA := mS.alloc (Obj.cells #[] 9 (0, 0))
          obtain ⟨p, hp⟩ : ∃ p, p = W.heap.size := ⟨_, rfl⟩
          rw [← hp] at mA
          rw [← hp]
          generalize World.alloc W _ = W at *
          clear hp mS
          have mS : Mem w0 H' (Lc ++ (Lf ++ ((p, Obj.cells #[] 9 (0, 0)) :: ((q, Obj.cells #[] 43 (0, 0)) :: ((xb, LBox 25 (.slice b1 x.classes.length c1) (.slice b2 x.roots.length c2)) :: L))))) W := mA.perm (by first | exact List.Perm.refl _ | exact (by classical exact List.perm_iff_count.2 (fun a => by simp only [List.count_append, List.count_cons, List.cons_append, List.nil_append, List.append_assoc]; omega)) | exact (by classical exact List.perm_iff_count.2 (fun a => by simp only [List.count_append, List.count_cons, List.cons_append, List.nil_append, List.append_assoc]; omega)))
          clear mA
          refine hK _ _ (.inr ⟨_, mS, by simp⟩) ?_
          clear hK K HS
          try simp only [Act.put, List.setIfInBounds_toArray, List.set_cons_zero, List.set_cons_succ, List.getElem_toArray, List.getElem_cons_succ, List.getElem_cons_zero]
          have HS : (fun w' => ∃ L', Mem w0 H' L' w' ∧ (xb, LBox 25 (.slice b1 x.classes.length c1) (.slice b2 x.roots.length c2)) ∈ L') W := ⟨_, mS, by simp⟩
          refine AnyFrom.one (i := 6) (by kernel_rfl) ?_
          · skip
            have mP : Mem w0 H' ((p, Obj.cells #[] 9 (0, 0)) :: (Lc ++ (Lf ++ ((q, Obj.cells #[] 43 (0, 0)) :: ((xb, LBox 25 (.slice b1 x.classes.length c1) (.slice b2 x.roots.length c2)) :: L))))) W := mS.perm (by first | exact List.Perm.refl _ | exact (by classical exact List.perm_iff_count.2 (fun a => by simp only [List.count_append, List.count_cons, List.cons_append, List.nil_append, List.append_assoc]; omega)) | exact (by classical exact List.perm_iff_count.2 (fun a => by simp only [List.count_append, List.count_cons, List.cons_append, List.nil_append, List.append_assoc]; omega)))
            obtain ⟨news, hch, hsrc⟩ := (H2.out.mono hle).src mP
            have HC := Lib.hid hch; clear hch
            have HSR := Lib.hid hsrc; clear hsrc
            refine AnyFrom.opIf rfl fun K hK => ?_
            refine step_append_mem (w0 := w0) (H := H') (L := Lc ++ (Lf ++ ((q, Obj.cells #[] 43 (0, 0)) :: ((xb, LBox 25 (.slice b1 x.classes.length c1) (.slice b2 x.roots.length c2)) :: L)))) rfl _ _ 23 rfl 9 1 16 (.string ByteArray.empty) Tryz.underlying23 (by kernel_rfl) rfl (by decide) _ 0 [] (MemAcc.row mP (Nat.le_refl _) (by decide) rfl rfl) rfl _ x.roots.length news HSR.out rfl (by rw [HC.out.length]; rfl) (by rw [(chunks_strs HC.out).1]; exact str_oneCell) (by have := HX.out.roots; omega) (by unfold maxLen; have := HX.out.roots; omega) ?_
            clear mS mP
            intro v' W hacc
            try simp only [Nat.zero_add, List.nil_append] at hacc
            obtain ⟨d2, e2, rfl, _, _⟩ := hacc.shape
            obtain ⟨L3, ho3, m7⟩ := OwnS.of hacc HC.out
            have mS : Mem w0 H' (Lc ++ (Lf ++ (L3 ++ ((q, Obj.cells #[] 43 (0, 0)) :: ((xb, LBox 25 (.slice b1 x.classes.length c1) (.slice b2 x.roots.length c2)) :: L))))) W := m7.perm (by first | exact List.Perm.refl _ | exact (by classical exact List.perm_iff_count.2 (fun a => by simp only [List.count_append, List.count_cons, List.cons_append, List.nil_append, List.append_assoc]; omega)) | exact (by classical exact List.perm_iff_count.2 (fun a => by simp only [List.count_append, List.count_cons, List.cons_append, List.nil_append, List.append_assoc]; omega)))
            clear hacc m7 HSR HC
            refine hK _ _ (.inr ⟨_, mS, by simp⟩) ?_
            clear hK K HS
            try simp only [Act.put, List.setIfInBounds_toArray, List.set_cons_zero, List.set_cons_succ, List.getElem_toArray, List.getElem_cons_succ, List.getElem_cons_zero]
            have HS : (fun w' => ∃ L', Mem w0 H' L' w' ∧ (xb, LBox 25 (.slice b1 x.classes.length c1) (.slice b2 x.roots.length c2)) ∈ L') W := ⟨_, mS, by simp⟩
            refine AnyFrom.one (i := 9) (by kernel_rfl) ?_
            · skip
              have mP : Mem w0 H' ((q, Obj.cells #[] 43 (0, 0)) :: (Lc ++ (Lf ++ (L3 ++ ((xb, LBox 25 (.slice b1 x.classes.length c1) (.slice b2 x.roots.length c2)) :: L))))) W := mS.perm (by first | exact List.Perm.refl _ | exact (by classical exact List.perm_iff_count.2 (fun a => by simp only [List.count_append, List.count_cons, List.cons_append, List.nil_append, List.append_assoc]; omega)) | exact (by classical exact List.perm_iff_count.2 (fun a => by simp only [List.count_append, List.count_cons, List.cons_append, List.nil_append, List.append_assoc]; omega)))
              obtain ⟨vs, hch, hsrc⟩ := (H3.out.mono hle).src mP
              have HCV := Lib.hid hch; clear hch
              have HSR := Lib.hid hsrc; clear hsrc
              refine AnyFrom.opIf rfl fun K hK => ?_
              refine step_append_mem (w0 := w0) (H := H') (L := Lc ++ (Lf ++ (L3 ++ ((xb, LBox 25 (.slice b1 x.classes.length c1) (.slice b2 x.roots.length c2)) :: L)))) rfl _ _ 26 rfl 43 7 88 (.agg #[.int .u8 0, .string ByteArray.empty, .string ByteArray.empty, .string ByteArray.empty, .int .u8 0, .int .i64 0, .string ByteArray.empty]) Tryz.underlying26 (by kernel_rfl) rfl (by decide) _ 0 [] (MemAcc.row mP (Nat.le_refl _) (by decide) rfl rfl) rfl _ cs.length vs HSR.out rfl (by rw [HCV.out.length]; rfl) (chg_oneCell HCV.out) (by omega) (by unfold maxLen; omega) ?_
              clear mS mP
              intro v' W hacc
              try simp only [Nat.zero_add, List.nil_append] at hacc
              obtain ⟨d3, e3, rfl, _, _⟩ := hacc.shape
              obtain ⟨L5, hq5, m7⟩ := hacc.split
              have mS : Mem w0 H' (Lc ++ (Lf ++ (L3 ++ (L5 ++ ((xb, LBox 25 (.slice b1 x.classes.length c1) (.slice b2 x.roots.length c2)) :: L))))) W := m7.perm (by first | exact List.Perm.refl _ | exact (by classical exact List.perm_iff_count.2 (fun a => by simp only [List.count_append, List.count_cons, List.cons_append, List.nil_append, List.append_assoc]; omega)) | exact (by classical exact List.perm_iff_count.2 (fun a => by simp only [List.count_append, List.count_cons, List.cons_append, List.nil_append, List.append_assoc]; omega)))
              clear hacc m7 HSR
              refine hK _ _ (.inr ⟨_, mS, by simp⟩) ?_
              clear hK K HS
              try simp only [Act.put, List.setIfInBounds_toArray, List.set_cons_zero, List.set_cons_succ, List.getElem_toArray, List.getElem_cons_succ, List.getElem_cons_zero]
              have HS : (fun w' => ∃ L', Mem w0 H' L' w' ∧ (xb, LBox 25 (.slice b1 x.classes.length c1) (.slice b2 x.roots.length c2)) ∈ L') W := ⟨_, mS, by simp⟩
              refine AnyFrom.one (i := 10) (by kernel_rfl) (AnyFrom.op rfl (by kernel_rfl) fun K hK => ?_)
              go_simp
              refine hK _ _ (.inr ⟨_, mS, by simp⟩) ?_
              clear hK K
              try simp only [Act.put, List.setIfInBounds_toArray, List.set_cons_zero, List.set_cons_succ, List.getElem_toArray, List.getElem_cons_succ, List.getElem_cons_zero]
              refine AnyFrom.one (i := 11) (by kernel_rfl) (AnyFrom.op rfl (by kernel_rfl) fun K hK => ?_)
              go_simp
              refine hK _ _ (.inr ⟨_, mS, by simp⟩) ?_
              clear hK K
              try simp only [Act.put, List.setIfInBounds_toArray, List.set_cons_zero, List.set_cons_succ, List.getElem_toArray, List.getElem_cons_succ, List.getElem_cons_zero]
              refine AnyFrom.one (i := 12) (by kernel_rfl) (AnyFrom.op rfl (by kernel_rfl) fun K hK => ?_)
              go_simp
              refine hK _ _ (.inr ⟨_, mS, by simp⟩) ?_
              clear hK K
              try simp only [Act.put, List.setIfInBounds_toArray, List.set_cons_zero, List.set_cons_succ, List.getElem_toArray, List.getElem_cons_succ, List.getElem_cons_zero]
              refine AnyFrom.done (by kernel_rfl) ?_ _
              exact key p q d1 e1 d2 e2 d3 e3 _ ⟨rs, Lc, Lf, L3, L5, vs, HRS, hac, hof, ho3, hq5, HCV, mS.perm (by first | exact List.Perm.refl _ | exact (by classical exact List.perm_iff_count.2 (fun a => by simp only [List.count_append, List.count_cons, List.cons_append, List.nil_append, List.append_assoc]; omega)) | exact (by classical exact List.perm_iff_count.2 (fun a => by simp only [List.count_append, List.count_cons, List.cons_append, List.nil_append, List.append_assoc]; omega)))⟩
    · skip
      refine AnyFrom.op rfl (by kernel_rfl) fun K hK => ?_
      go_simp
      have mA := mS.alloc (Obj.cells #[] 9 (0, 0))
      obtain ⟨p, hp⟩ : ∃ p, p = W.heap.size := ⟨_, rfl⟩
      rw [← hp] at mA
      rw [← hp]
      generalize World.alloc W _ = W at *
      clear hp mS
      have mS : Mem w0 H' ((p, Obj.cells #[] 9 (0, 0)) :: ((xb, LBox 25 (.slice b1 x.classes.length c1) (.slice b2 x.roots.length c2)) :: L)) W := mA.perm (by first | exact List.Perm.refl _ | exact (by classical exact List.perm_iff_count.2 (fun a => by simp only [List.count_append, List.count_cons, List.cons_append, List.nil_append, List.append_assoc]; omega)) | exact (by classical exact List.perm_iff_count.2 (fun a => by simp only [List.count_append, List.count_cons, List.cons_append, List.nil_append, List.append_assoc]; omega)))
      clear mA
      refine hK _ _ (.inr ⟨_, mS, by simp⟩) ?_
      clear hK K HS
      try simp only [Act.put, List.setIfInBounds_toArray, List.set_cons_zero, List.set_cons_succ, List.getElem_toArray, List.getElem_cons_succ, List.getElem_cons_zero]
      have HS : (fun w' => ∃ L', Mem w0 H' L' w' ∧ (xb, LBox 25 (.slice b1 x.classes.length c1) (.slice b2 x.roots.length c2)) ∈ L') W := ⟨_, mS, by simp⟩
      refine AnyFrom.two (i := 2) (j := 7) (by kernel_rfl) ?_ ?_
      · skip
        refine AnyFrom.op rfl (by kernel_rfl) fun K hK => ?_
        go_simp
        refine (CopyClasses_any _ x.classes (fun z hz => by have := HX.out.fields z hz; omega) (by have := HX.out.classes; omega) mS (H1.out.mono hle)).mono ?_
        clear mS
        rintro e W ⟨vc, rs, Lc, Lf, rfl, hac, hof, m7⟩
        obtain ⟨d1, e1, rfl, _, _⟩ := hac.shape
        have HRS := Lib.hid hof.length
        rw [HRS.out] at hac
        rw [HRS.out]
        have mS : Mem w0 H' (Lc ++ (Lf ++ ((p, Obj.cells #[] 9 (0, 0)) :: ((xb, LBox 25 (.slice b1 x.classes.length c1) (.slice b2 x.roots.length c2)) :: L)))) W := m7.perm (by first | exact List.Perm.refl _ | exact (by classical exact List.perm_iff_count.2 (fun a => by simp only [List.count_append, List.count_cons, List.cons_append, List.nil_append, List.append_assoc]; omega)) | exact (by classical exact List.perm_iff_count.2 (fun a => by simp only [List.count_append, List.count_cons, List.cons_append, List.nil_append, List.append_assoc]; omega)))
        clear m7
        refine hK _ _ (.inr ⟨_, mS, by simp⟩) ?_
        clear hK K HS
        try simp only [Act.put, List.setIfInBounds_toArray, List.set_cons_zero, List.set_cons_succ, List.getElem_toArray, List.getElem_cons_succ, List.getElem_cons_zero]
        have HS : (fun w' => ∃ L', Mem w0 H' L' w' ∧ (xb, LBox 25 (.slice b1 x.classes.length c1) (.slice b2 x.roots.length c2)) ∈ L') W := ⟨_, mS, by simp⟩
        refine AnyFrom.two (i := 6) (j := 7) (by kernel_rfl) ?_ ?_
        · skip
          have mP : Mem w0 H' ((p, Obj.cells #[] 9 (0, 0)) :: (Lc ++ (Lf ++ ((xb, LBox 25 (.slice b1 x.classes.length c1) (.slice b2 x.roots.length c2)) :: L)))) W := mS.perm (by first | exact List.Perm.refl _ | exact (by classical exact List.perm_iff_count.2 (fun a => by simp only [List.count_append, List.count_cons, List.cons_append, List.nil_append, List.append_assoc]; omega)) | exact (by classical exact List.perm_iff_count.2 (fun a => by simp only [List.count_append, List.count_cons, List.cons_append, List.nil_append, List.append_assoc]; omega)))
          obtain ⟨news, hch, hsrc⟩ := (H2.out.mono hle).src mP
          have HC := Lib.hid hch; clear hch
          have HSR := Lib.hid hsrc; clear hsrc
          refine AnyFrom.opIf rfl fun K hK => ?_
          refine step_append_mem (w0 := w0) (H := H') (L := Lc ++ (Lf ++ ((xb, LBox 25 (.slice b1 x.classes.length c1) (.slice b2 x.roots.length c2)) :: L))) rfl _ _ 23 rfl 9 1 16 (.string ByteArray.empty) Tryz.underlying23 (by kernel_rfl) rfl (by decide) _ 0 [] (MemAcc.row mP (Nat.le_refl _) (by decide) rfl rfl) rfl _ x.roots.length news HSR.out rfl (by rw [HC.out.length]; rfl) (by rw [(chunks_strs HC.out).1]; exact str_oneCell) (by have := HX.out.roots; omega) (by unfold maxLen; have := HX.out.roots; omega) ?_
          clear mS mP
          intro v' W hacc
          try simp only [Nat.zero_add, List.nil_append] at hacc
          obtain ⟨d2, e2, rfl, _, _⟩ := hacc.shape
          obtain ⟨L3, ho3, m7⟩ := OwnS.of hacc HC.out
          have mS : Mem w0 H' (Lc ++ (Lf ++ (L3 ++ ((xb, LBox 25 (.slice b1 x.classes.length c1) (.slice b2 x.roots.length c2)) :: L)))) W := m7.perm (by first | exact List.Perm.refl _ | exact (by classical exact List.perm_iff_count.2 (fun a => by simp only [List.count_append, List.count_cons, List.cons_append, List.nil_append, List.append_assoc]; omega)) | exact (by classical exact List.perm_iff_count.2 (fun a => by simp only [List.count_append, List.count_cons, List.cons_append, List.nil_append, List.append_assoc]; omega)))
          clear hacc m7 HSR HC
          refine hK _ _ (.inr ⟨_, mS, by simp⟩) ?_
          clear hK K HS
          try simp only [Act.put, List.setIfInBounds_toArray, List.set_cons_zero, List.set_cons_succ, List.getElem_toArray, List.getElem_cons_succ, List.getElem_cons_zero]
          have HS : (fun w' => ∃ L', Mem w0 H' L' w' ∧ (xb, LBox 25 (.slice b1 x.classes.length c1) (.slice b2 x.roots.length c2)) ∈ L') W := ⟨_, mS, by simp⟩
          refine AnyFrom.one (i := 7) (by kernel_rfl) ?_
          · skip
            refine AnyFrom.op rfl (by kernel_rfl) fun K hK => ?_
            go_simp
            have mA := mS.alloc (Obj.cells #[] 43 (0, 0))
            obtain ⟨q, hp⟩ : ∃ p, p = W.heap.size := ⟨_, rfl⟩
            rw [← hp] at mA
            rw [← hp]
            generalize World.alloc W _ = W at *
            clear hp mS
            have mS : Mem w0 H' (Lc ++ (Lf ++ (L3 ++ ((q, Obj.cells #[] 43 (0, 0)) :: ((xb, LBox 25 (.slice b1 x.classes.length c1) (.slice b2 x.roots.length c2)) :: L))))) W := mA.perm (by first | exact List.Perm.refl _ | exact (by classical exact List.perm_iff_count.2 (fun a => by simp only [List.count_append, List.count_cons, List.cons_append, List.nil_append, List.append_assoc]; omega)) | exact (by classical exact List.perm_iff_count.2 (fun a => by simp only [List.count_append, List.count_cons, List.cons_append, List.nil_append, List.append_assoc]; omega)))
            clear mA
            refine hK _ _ (.inr ⟨_, mS, by simp⟩) ?_
            clear hK K HS
            try simp only [Act.put, List.setIfInBounds_toArray, List.set_cons_zero, List.set_cons_succ, List.getElem_toArray, List.getElem_cons_succ, List.getElem_cons_zero]
            have HS : (fun w' => ∃ L', Mem w0 H' L' w' ∧ (xb, LBox 25 (.slice b1 x.classes.length c1) (.slice b2 x.roots.length c2)) ∈ L') W := ⟨_, mS, by simp⟩
            refine AnyFrom.one (i := 9) (by kernel_rfl) ?_
            · skip
              have mP : Mem w0 H' ((q, Obj.cells #[] 43 (0, 0)) :: (Lc ++ (Lf ++ (L3 ++ ((xb, LBox 25 (.slice b1 x.classes.length c1) (.slice b2 x.roots.length c2)) :: L))))) W := mS.perm (by first | exact List.Perm.refl _ | exact (by classical exact List.perm_iff_count.2 (fun a => by simp only [List.count_append, List.count_cons, List.cons_append, List.nil_append, List.append_assoc]; omega)) | exact (by classical exact List.perm_iff_count.2 (fun a => by simp only [List.count_append, List.count_cons, List.cons_append, List.nil_append, List.append_assoc]; omega)))
              obtain ⟨vs, hch, hsrc⟩ := (H3.out.mono hle).src mP
              have HCV := Lib.hid hch; clear hch
              have HSR := Lib.hid hsrc; clear hsrc
              refine AnyFrom.opIf rfl fun K hK => ?_
              refine step_append_mem (w0 := w0) (H := H') (L := Lc ++ (Lf ++ (L3 ++ ((xb, LBox 25 (.slice b1 x.classes.length c1) (.slice b2 x.roots.length c2)) :: L)))) rfl _ _ 26 rfl 43 7 88 (.agg #[.int .u8 0, .string ByteArray.empty, .string ByteArray.empty, .string ByteArray.empty, .int .u8 0, .int .i64 0, .string ByteArray.empty]) Tryz.underlying26 (by kernel_rfl) rfl (by decide) _ 0 [] (MemAcc.row mP (Nat.le_refl _) (by decide) rfl rfl) rfl _ cs.length vs HSR.out rfl (by rw [HCV.out.length]; rfl) (chg_oneCell HCV.out) (by omega) (by unfold maxLen; omega) ?_
              clear mS mP
              intro v' W hacc
              try simp only [Nat.zero_add, List.nil_append] at hacc
              obtain ⟨d3, e3, rfl, _, _⟩ := hacc.shape
              obtain ⟨L5, hq5, m7⟩ := hacc.split
              have mS : Mem w0 H' (Lc ++ (Lf ++ (L3 ++ (L5 ++ ((xb, LBox 25 (.slice b1 x.classes.length c1) (.slice b2 x.roots.length c2)) :: L))))) W := m7.perm (by first | exact List.Perm.refl _ | exact (by classical exact List.perm_iff_count.2 (fun a => by simp only [List.count_append, List.count_cons, List.cons_append, List.nil_append, List.append_assoc]; omega)) | exact (by classical exact List.perm_iff_count.2 (fun a => by simp only [List.count_append, List.count_cons, List.cons_append, List.nil_append, List.append_assoc]; omega)))
              clear hacc m7 HSR
              refine hK _ _ (.inr ⟨_, mS, by simp⟩) ?_
              clear hK K HS
              try simp only [Act.put, List.setIfInBounds_toArray, List.set_cons_zero, List.set_cons_succ, List.getElem_toArray, List.getElem_cons_succ, List.getElem_cons_zero]
              have HS : (fun w' => ∃ L', Mem w0 H' L' w' ∧ (xb, LBox 25 (.slice b1 x.classes.length c1) (.slice b2 x.roots.length c2)) ∈ L') W := ⟨_, mS, by simp⟩
              refine AnyFrom.one (i := 10) (by kernel_rfl) (AnyFrom.op rfl (by kernel_rfl) fun K hK => ?_)
              go_simp
              refine hK _ _ (.inr ⟨_, mS, by simp⟩) ?_
              clear hK K
              try simp only [Act.put, List.setIfInBounds_toArray, List.set_cons_zero, List.set_cons_succ, List.getElem_toArray, List.getElem_cons_succ, List.getElem_cons_zero]
              refine AnyFrom.one (i := 11) (by kernel_rfl) (AnyFrom.op rfl (by kernel_rfl) fun K hK => ?_)
              go_simp
              refine hK _ _ (.inr ⟨_, mS, by simp⟩) ?_
              clear hK K
              try simp only [Act.put, List.setIfInBounds_toArray, List.set_cons_zero, List.set_cons_succ, List.getElem_toArray, List.getElem_cons_succ, List.getElem_cons_zero]
              refine AnyFrom.one (i := 12) (by kernel_rfl) (AnyFrom.op rfl (by kernel_rfl) fun K hK => ?_)
              go_simp
              refine hK _ _ (.inr ⟨_, mS, by simp⟩) ?_
              clear hK K
              try simp only [Act.put, List.setIfInBounds_toArray, List.set_cons_zero, List.set_cons_succ, List.getElem_toArray, List.getElem_cons_succ, List.getElem_cons_zero]
              refine AnyFrom.done (by kernel_rfl) ?_ _
              exact key p q d1 e1 d2 e2 d3 e3 _ ⟨rs, Lc, Lf, L3, L5, vs, HRS, hac, hof, ho3, hq5, HCV, mS.perm (by first | exact List.Perm.refl _ | exact (by classical exact List.perm_iff_count.2 (fun a => by simp only [List.count_append, List.count_cons, List.cons_append, List.nil_append, List.append_assoc]; omega)) | exact (by classical exact List.perm_iff_count.2 (fun a => by simp only [List.count_append, List.count_cons, List.cons_append, List.nil_append, List.append_assoc]; omega)))⟩
        · skip
          refine AnyFrom.op rfl (by kernel_rfl) fun K hK => ?_
          go_simp
          have mA := mS.alloc (Obj.cells #[] 43 (0, 0))
          obtain ⟨q, hp⟩ : ∃ p, p = W.heap.size := ⟨_, rfl⟩
          rw [← hp] at mA
          rw [← hp]
          generalize World.alloc W _ = W at *
          clear hp mS
          have mS : Mem w0 H' (Lc ++ (Lf ++ ((p, Obj.cells #[] 9 (0, 0)) :: ((q, Obj.cells #[] 43 (0, 0)) :: ((xb, LBox 25 (.slice b1 x.classes.length c1) (.slice b2 x.roots.length c2)) :: L))))) W := mA.perm (by first | exact List.Perm.refl _ | exact (by classical exact List.perm_iff_count.2 (fun a => by simp only [List.count_append, List.count_cons, List.cons_append, List.nil_append, List.append_assoc]; omega)) | exact (by classical exact List.perm_iff_count.2 (fun a => by simp only [List.count_append, List.count_cons, List.cons_append, List.nil_append, List.append_assoc]; omega)))
          clear mA
          refine hK _ _ (.inr ⟨_, mS, by simp⟩) ?_
          clear hK K HS
          try simp only [Act.put, List.setIfInBounds_toArray, List.set_cons_zero, List.set_cons_succ, List.getElem_toArray, List.getElem_cons_succ, List.getElem_cons_zero]
          have HS : (fun w' => ∃ L', Mem w0 H' L' w' ∧ (xb, LBox 25 (.slice b1 x.classes.length c1) (.slice b2 x.roots.length c2)) ∈ L') W := ⟨_, mS, by simp⟩
          refine AnyFrom.one (i := 6) (by kernel_rfl) ?_
          · skip
            have mP : Mem w0 H' ((p, Obj.cells #[] 9 (0, 0)) :: (Lc ++ (Lf ++ ((q, Obj.cells #[] 43 (0, 0)) :: ((xb, LBox 25 (.slice b1 x.classes.length c1) (.slice b2 x.roots.length c2)) :: L))))) W := mS.perm (by first | exact List.Perm.refl _ | exact (by classical exact List.perm_iff_count.2 (fun a => by simp only [List.count_append, List.count_cons, List.cons_append, List.nil_append, List.append_assoc]; omega)) | exact (by classical exact List.perm_iff_count.2 (fun a => by simp only [List.count_append, List.count_cons, List.cons_append, List.nil_append, List.append_assoc]; omega)))
            obtain ⟨news, hch, hsrc⟩ := (H2.out.mono hle).src mP
            have HC := Lib.hid hch; clear hch
            have HSR := Lib.hid hsrc; clear hsrc
            refine AnyFrom.opIf rfl fun K hK => ?_
            refine step_append_mem (w0 := w0) (H := H') (L := Lc ++ (Lf ++ ((q, Obj.cells #[] 43 (0, 0)) :: ((xb, LBox 25 (.slice b1 x.classes.length c1) (.slice b2 x.roots.length c2)) :: L)))) rfl _ _ 23 rfl 9 1 16 (.string ByteArray.empty) Tryz.underlying23 (by kernel_rfl) rfl (by decide) _ 0 [] (MemAcc.row mP (Nat.le_refl _) (by decide) rfl rfl) rfl _ x.roots.length news HSR.out rfl (by rw [HC.out.length]; rfl) (by rw [(chunks_strs HC.out).1]; exact str_oneCell) (by have := HX.out.roots; omega) (by unfold maxLen; have := HX.out.roots; omega) ?_
            clear mS mP
            intro v' W hacc
            try simp only [Nat.zero_add, List.nil_append] at hacc
            obtain ⟨d2, e2, rfl, _, _⟩ := hacc.shape
            obtain ⟨L3, ho3, m7⟩ := OwnS.of hacc HC.out
            have mS : Mem w0 H' (Lc ++ (Lf ++ (L3 ++ ((q, Obj.cells #[] 43 (0, 0)) :: ((xb, LBox 25 (.slice b1 x.classes.length c1) (.slice b2 x.roots.length c2)) :: L))))) W := m7.perm (by first | exact List.Perm.refl _ | exact (by classical exact List.perm_iff_count.2 (fun a => by simp only [List.count_append, List.count_cons, List.cons_append, List.nil_append, List.append_assoc]; omega)) | exact (by classical exact List.perm_iff_count.2 (fun a => by simp only [List.count_append, List.count_cons, List.cons_append, List.nil_append, List.append_assoc]; omega)))
            clear hacc m7 HSR HC
            refine hK _ _ (.inr ⟨_, mS, by simp⟩) ?_
            clear hK K HS
            try simp only [Act.put, List.setIfInBounds_toArray, List.set_cons_zero, List.set_cons_succ, List.getElem_toArray, List.getElem_cons_succ, List.getElem_cons_zero]
            have HS : (fun w' => ∃ L', Mem w0 H' L' w' ∧ (xb, LBox 25 (.slice b1 x.classes.length c1) (.slice b2 x.roots.length c2)) ∈ L') W := ⟨_, mS, by simp⟩
            refine AnyFrom.one (i := 9) (by kernel_rfl) ?_
            · skip
              have mP : Mem w0 H' ((q, Obj.cells #[] 43 (0, 0)) :: (Lc ++ (Lf ++ (L3 ++ ((xb, LBox 25 (.slice b1 x.classes.length c1) (.slice b2 x.roots.length c2)) :: L))))) W := mS.perm (by first | exact List.Perm.refl _ | exact (by classical exact List.perm_iff_count.2 (fun a => by simp only [List.count_append, List.count_cons, List.cons_append, List.nil_append, List.append_assoc]; omega)) | exact (by classical exact List.perm_iff_count.2 (fun a => by simp only [List.count_append, List.count_cons, List.cons_append, List.nil_append, List.append_assoc]; omega)))
              obtain ⟨vs, hch, hsrc⟩ := (H3.out.mono hle).src mP
              have HCV := Lib.hid hch; clear hch
              have HSR := Lib.hid hsrc; clear hsrc
              refine AnyFrom.opIf rfl fun K hK => ?_
              refine step_append_mem (w0 := w0) (H := H') (L := Lc ++ (Lf ++ (L3 ++ ((xb, LBox 25 (.slice b1 x.classes.length c1) (.slice b2 x.roots.length c2)) :: L)))) rfl _ _ 26 rfl 43 7 88 (.agg #[.int .u8 0, .string ByteArray.empty, .string ByteArray.empty, .string ByteArray.empty, .int .u8 0, .int .i64 0, .string ByteArray.empty]) Tryz.underlying26 (by kernel_rfl) rfl (by decide) _ 0 [] (MemAcc.row mP (Nat.le_refl _) (by decide) rfl rfl) rfl _ cs.length vs HSR.out rfl (by rw [HCV.out.length]; rfl) (chg_oneCell HCV.out) (by omega) (by unfold maxLen; omega) ?_
              clear mS mP
              intro v' W hacc
              try simp only [Nat.zero_add, List.nil_append] at hacc
              obtain ⟨d3, e3, rfl, _, _⟩ := hacc.shape
              obtain ⟨L5, hq5, m7⟩ := hacc.split
              have mS : Mem w0 H' (Lc ++ (Lf ++ (L3 ++ (L5 ++ ((xb, LBox 25 (.slice b1 x.classes.length c1) (.slice b2 x.roots.length c2)) :: L))))) W := m7.perm (by first | exact List.Perm.refl _ | exact (by classical exact List.perm_iff_count.2 (fun a => by simp only [List.count_append, List.count_cons, List.cons_append, List.nil_append, List.append_assoc]; omega)) | exact (by classical exact List.perm_iff_count.2 (fun a => by simp only [List.count_append, List.count_cons, List.cons_append, List.nil_append, List.append_assoc]; omega)))
              clear hacc m7 HSR
              refine hK _ _ (.inr ⟨_, mS, by simp⟩) ?_
              clear hK K HS
              try simp only [Act.put, List.setIfInBounds_toArray, List.set_cons_zero, List.set_cons_succ, List.getElem_toArray, List.getElem_cons_succ, List.getElem_cons_zero]
              have HS : (fun w' => ∃ L', Mem w0 H' L' w' ∧ (xb, LBox 25 (.slice b1 x.classes.length c1) (.slice b2 x.roots.length c2)) ∈ L') W := ⟨_, mS, by simp⟩
              refine AnyFrom.one (i := 10) (by kernel_rfl) (AnyFrom.op rfl (by kernel_rfl) fun K hK => ?_)
              go_simp
              refine hK _ _ (.inr ⟨_, mS, by simp⟩) ?_
              clear hK K
              try simp only [Act.put, List.setIfInBounds_toArray, List.set_cons_zero, List.set_cons_succ, List.getElem_toArray, List.getElem_cons_succ, List.getElem_cons_zero]
              refine AnyFrom.one (i := 11) (by kernel_rfl) (AnyFrom.op rfl (by kernel_rfl) fun K hK => ?_)
              go_simp
              refine hK _ _ (.inr ⟨_, mS, by simp⟩) ?_
              clear hK K
              try simp only [Act.put, List.setIfInBounds_toArray, List.set_cons_zero, List.set_cons_succ, List.getElem_toArray, List.getElem_cons_succ, List.getElem_cons_zero]
              refine AnyFrom.one (i := 12) (by kernel_rfl) (AnyFrom.op rfl (by kernel_rfl) fun K hK => ?_)
              go_simp
              refine hK _ _ (.inr ⟨_, mS, by simp⟩) ?_
              clear hK K
              try simp only [Act.put, List.setIfInBounds_toArray, List.set_cons_zero, List.set_cons_succ, List.getElem_toArray, List.getElem_cons_succ, List.getElem_cons_zero]
              refine AnyFrom.done (by kernel_rfl) ?_ _
              exact key p q d1 e1 d2 e2 d3 e3 _ ⟨rs, Lc, Lf, L3, L5, vs, HRS, hac, hof, ho3, hq5, HCV, mS.perm (by first | exact List.Perm.refl _ | exact (by classical exact List.perm_iff_count.2 (fun a => by simp only [List.count_append, List.count_cons, List.cons_append, List.nil_append, List.append_assoc]; omega)) | exact (by classical exact List.perm_iff_count.2 (fun a => by simp only [List.count_append, List.count_cons, List.cons_append, List.nil_append, List.append_assoc]; omega)))⟩
      · skip
        refine AnyFrom.op rfl (by kernel_rfl) fun K hK => ?_
        go_simp
        have mA := mS.alloc (Obj.cells #[] 43 (0, 0))
        obtain ⟨q, hp⟩ : ∃ p, p = W.heap.size := ⟨_, rfl⟩
        rw [← hp] at mA
        rw [← hp]
        generalize World.alloc W _ = W at *
        clear hp mS
        have mS : Mem w0 H' ((p, Obj.cells #[] 9 (0, 0)) :: ((q, Obj.cells #[] 43 (0, 0)) :: ((xb, LBox 25 (.slice b1 x.classes.length c1) (.slice b2 x.roots.length c2)) :: L))) W := mA.perm (by first | exact List.Perm.refl _ | exact (by classical exact List.perm_iff_count.2 (fun a => by simp only [List.count_append, List.count_cons, List.cons_append, List.nil_append, List.append_assoc]; omega)) | exact (by classical exact List.perm_iff_count.2 (fun a => by simp only [List.count_append, List.count_cons, List.cons_append, List.nil_append, List.append_assoc]; omega)))
        clear mA
        refine hK _ _ (.inr ⟨_, mS, by simp⟩) ?_
        clear hK K HS
        try simp only [Act.put, List.setIfInBounds_toArray, List.set_cons_zero, List.set_cons_succ, List.getElem_toArray, List.getElem_cons_succ, List.getElem_cons_zero]
        have HS : (fun w' => ∃ L', Mem w0 H' L' w' ∧ (xb, LBox 25 (.slice b1 x.classes.length c1) (.slice b2 x.roots.length c2)) ∈ L') W := ⟨_, mS, by simp⟩
        refine AnyFrom.one (i := 2) (by kernel_rfl) ?_
        · skip
          refine AnyFrom.op rfl (by kernel_rfl) fun K hK => ?_
          go_simp
          refine (CopyClasses_any _ x.classes (fun z hz => by have := HX.out.fields z hz; omega) (by have := HX.out.classes; omega) mS (H1.out.mono hle)).mono ?_
          clear mS
          rintro e W ⟨vc, rs, Lc, Lf, rfl, hac, hof, m7⟩
          obtain ⟨d1, e1, rfl, _, _⟩ := hac.shape
          have HRS := Lib.hid hof.length
          rw [HRS.out] at hac
          rw [HRS.out]
          have mS : Mem w0 H' (Lc ++ (Lf ++ ((p, Obj.cells #[] 9 (0, 0)) :: ((q, Obj.cells #[] 43 (0, 0)) :: ((xb, LBox 25 (.slice b1 x.classes.length c1) (.slice b2 x.roots.length c2)) :: L))))) W := m7.perm (by first | exact List.Perm.refl _ | exact (by classical exact List.perm_iff_count.2 (fun a => by simp only [List.count_append, List.count_cons, List.cons_append, List.nil_append, List.append_assoc]; omega)) | exact (by classical exact List.perm_iff_count.2 (fun a => by simp only [List.count_append, List.count_cons, List.cons_append, List.nil_append, List.append_assoc]; omega)))
          clear m7
          refine hK _ _ (.inr ⟨_, mS, by simp⟩) ?_
          clear hK K HS
          try simp only [Act.put, List.setIfInBounds_toArray, List.set_cons_zero, List.set_cons_succ, List.getElem_toArray, List.getElem_cons_succ, List.getElem_cons_zero]
          have HS : (fun w' => ∃ L', Mem w0 H' L' w' ∧ (xb, LBox 25 (.slice b1 x.classes.length c1) (.slice b2 x.roots.length c2)) ∈ L') W := ⟨_, mS, by simp⟩
          refine AnyFrom.one (i := 6) (by kernel_rfl) ?_
          · skip
            have mP : Mem w0 H' ((p, Obj.cells #[] 9 (0, 0)) :: (Lc ++ (Lf ++ ((q, Obj.cells #[] 43 (0, 0)) :: ((xb, LBox 25 (.slice b1 x.classes.length c1) (.slice b2 x.roots.length c2)) :: L))))) W := mS.perm (by first | exact List.Perm.refl _ | exact (by classical exact List.perm_iff_count.2 (fun a => by simp only [List.count_append, List.count_cons, List.cons_append, List.nil_append, List.append_assoc]; omega)) | exact (by classical exact List.perm_iff_count.2 (fun a => by simp only [List.count_append, List.count_cons, List.cons_append, List.nil_append, List.append_assoc]; omega)))
            obtain ⟨news, hch, hsrc⟩ := (H2.out.mono hle).src mP
            have HC := Lib.hid hch; clear hch
            have HSR := Lib.hid hsrc; clear hsrc
            refine AnyFrom.opIf rfl fun K hK => ?_
            refine step_append_mem (w0 := w0) (H := H') (L := Lc ++ (Lf ++ ((q, Obj.cells #[] 43 (0, 0)) :: ((xb, LBox 25 (.slice b1 x.classes.length c1) (.slice b2 x.roots.length c2)) :: L)))) rfl _ _ 23 rfl 9 1 16 (.string ByteArray.empty) Tryz.underlying23 (by kernel_rfl) rfl (by decide) _ 0 [] (MemAcc.row mP (Nat.le_refl _) (by decide) rfl rfl) rfl _ x.roots.length news HSR.out rfl (by rw [HC.out.length]; rfl) (by rw [(chunks_strs HC.out).1]; exact str_oneCell) (by have := HX.out.roots; omega) (by unfold maxLen; have := HX.out.roots; omega) ?_
            clear mS mP
            intro v' W hacc
            try simp only [Nat.zero_add, List.nil_append] at hacc
            obtain ⟨d2, e2, rfl, _, _⟩ := hacc.shape
            obtain ⟨L3, ho3, m7⟩ := OwnS.of hacc HC.out
            have mS : Mem w0 H' (Lc ++ (Lf ++ (L3 ++ ((q, Obj.cells #[] 43 (0, 0)) :: ((xb, LBox 25 (.slice b1 x.classes.length c1) (.slice b2 x.roots.length c2)) :: L))))) W := m7.perm (by first | exact List.Perm.refl _ | exact (by classical exact List.perm_iff_count.2 (fun a => by simp only [List.count_append, List.count_cons, List.cons_append, List.nil_append, List.append_assoc]; omega)) | exact (by classical exact List.perm_iff_count.2 (fun a => by simp only [List.count_append, List.count_cons, List.cons_append, List.nil_append, List.append_assoc]; omega)))
            clear hacc m7 HSR HC
            refine hK _ _ (.inr ⟨_, mS, by simp⟩) ?_
            clear hK K HS
            try simp only [Act.put, List.setIfInBounds_toArray, List.set_cons_zero, List.set_cons_succ, List.getElem_toArray, List.getElem_cons_succ, List.getElem_cons_zero]
            have HS : (fun w' => ∃ L', Mem w0 H' L' w' ∧ (xb, LBox 25 (.slice b1 x.classes.length c1) (.slice b2 x.roots.length c2)) ∈ L') W := ⟨_, mS, by simp⟩
            refine AnyFrom.one (i := 9) (by kernel_rfl) ?_
            · skip
              have mP : Mem w0 H' ((q, Obj.cells #[] 43 (0, 0)) :: (Lc ++ (Lf ++ (L3 ++ ((xb, LBox 25 (.slice b1 x.classes.length c1) (.slice b2 x.roots.length c2)) :: L))))) W := mS.perm (by first | exact List.Perm.refl _ | exact (by classical exact List.perm_iff_count.2 (fun a => by simp only [List.count_append, List.count_cons, List.cons_append, List.nil_append, List.append_assoc]; omega)) | exact (by classical exact List.perm_iff_count.2 (fun a => by simp only [List.count_append, List.count_cons, List.cons_append, List.nil_append, List.append_assoc]; omega)))
              obtain ⟨vs, hch, hsrc⟩ := (H3.out.mono hle).src mP
              have HCV := Lib.hid hch; clear hch
              have HSR := Lib.hid hsrc; clear hsrc
              refine AnyFrom.opIf rfl fun K hK => ?_
              refine step_append_mem (w0 := w0) (H := H') (L := Lc ++ (Lf ++ (L3 ++ ((xb, LBox 25 (.slice b1 x.classes.length c1) (.slice b2 x.roots.length c2)) :: L)))) rfl _ _ 26 rfl 43 7 88 (.agg #[.int .u8 0, .string ByteArray.empty, .string ByteArray.empty, .string ByteArray.empty, .int .u8 0, .int .i64 0, .string ByteArray.empty]) Tryz.underlying26 (by kernel_rfl) rfl (by decide) _ 0 [] (MemAcc.row mP (Nat.le_refl _) (by decide) rfl rfl) rfl _ cs.length vs HSR.out rfl (by rw [HCV.out.length]; rfl) (chg_oneCell HCV.out) (by omega) (by unfold maxLen; omega) ?_
              clear mS mP
              intro v' W hacc
              try simp only [Nat.zero_add, List.nil_append] at hacc
              obtain ⟨d3, e3, rfl, _, _⟩ := hacc.shape
              obtain ⟨L5, hq5, m7⟩ := hacc.split
              have mS : Mem w0 H' (Lc ++ (Lf ++ (L3 ++ (L5 ++ ((xb, LBox 25 (.slice b1 x.classes.length c1) (.slice b2 x.roots.length c2)) :: L))))) W := m7.perm (by first | exact List.Perm.refl _ | exact (by classical exact List.perm_iff_count.2 (fun a => by simp only [List.count_append, List.count_cons, List.cons_append, List.nil_append, List.append_assoc]; omega)) | exact (by classical exact List.perm_iff_count.2 (fun a => by simp only [List.count_append, List.count_cons, List.cons_append, List.nil_append, List.append_assoc]; omega)))
              clear hacc m7 HSR
              refine hK _ _ (.inr ⟨_, mS, by simp⟩) ?_
              clear hK K HS
              try simp only [Act.put, List.setIfInBounds_toArray, List.set_cons_zero, List.set_cons_succ, List.getElem_toArray, List.getElem_cons_succ, List.getElem_cons_zero]
              have HS : (fun w' => ∃ L', Mem w0 H' L' w' ∧ (xb, LBox 25 (.slice b1 x.classes.length c1) (.slice b2 x.roots.length c2)) ∈ L') W := ⟨_, mS, by simp⟩
              refine AnyFrom.one (i := 10) (by kernel_rfl) (AnyFrom.op rfl (by kernel_rfl) fun K hK => ?_)
              go_simp
              refine hK _ _ (.inr ⟨_, mS, by simp⟩) ?_
              clear hK K
              try simp only [Act.put, List.setIfInBounds_toArray, List.set_cons_zero, List.set_cons_succ, List.getElem_toArray, List.getElem_cons_succ, List.getElem_cons_zero]
              refine AnyFrom.one (i := 11) (by kernel_rfl) (AnyFrom.op rfl (by kernel_rfl) fun K hK => ?_)
              go_simp
              refine hK _ _ (.inr ⟨_, mS, by simp⟩) ?_
              clear hK K
              try simp only [Act.put, List.setIfInBounds_toArray, List.set_cons_zero, List.set_cons_succ, List.getElem_toArray, List.getElem_cons_succ, List.getElem_cons_zero]
              refine AnyFrom.one (i := 12) (by kernel_rfl) (AnyFrom.op rfl (by kernel_rfl) fun K hK => ?_)
              go_simp
              refine hK _ _ (.inr ⟨_, mS, by simp⟩) ?_
              clear hK K
              try simp only [Act.put, List.setIfInBounds_toArray, List.set_cons_zero, List.set_cons_succ, List.getElem_toArray, List.getElem_cons_succ, List.getElem_cons_zero]
              refine AnyFrom.done (by kernel_rfl) ?_ _
              exact key p q d1 e1 d2 e2 d3 e3 _ ⟨rs, Lc, Lf, L3, L5, vs, HRS, hac, hof, ho3, hq5, HCV, mS.perm (by first | exact List.Perm.refl _ | exact (by classical exact List.perm_iff_count.2 (fun a => by simp only [List.count_append, List.count_cons, List.cons_append, List.nil_append, List.append_assoc]; omega)) | exact (by classical exact List.perm_iff_count.2 (fun a => by simp only [List.count_append, List.count_cons, List.cons_append, List.nil_append, List.append_assoc]; omega)))⟩
    · skip
      refine AnyFrom.op rfl (by kernel_rfl) fun K hK => ?_
      go_simp
      have mA := mS.alloc (Obj.cells #[] 43 (0, 0))
      obtain ⟨q, hp⟩ : ∃ p, p = W.heap.size := ⟨_, rfl⟩
      rw [← hp] at mA
      rw [← hp]
      generalize World.alloc W _ = W at *
      clear hp mS
      have mS : Mem w0 H' ((q, Obj.cells #[] 43 (0, 0)) :: ((xb, LBox 25 (.slice b1 x.classes.length c1) (.slice b2 x.roots.length c2)) :: L)) W := mA.perm (by first | exact List.Perm.refl _ | exact (by classical exact List.perm_iff_count.2 (fun a => by simp only [List.count_append, List.count_cons, List.cons_append, List.nil_append, List.append_assoc]; omega)) | exact (by classical exact List.perm_iff_count.2 (fun a => by simp only [List.count_append, List.count_cons, List.cons_append, List.nil_append, List.append_assoc]; omega)))
      clear mA
      refine hK _ _ (.inr ⟨_, mS, by simp⟩) ?_
      clear hK K HS
      try simp only [Act.put, List.setIfInBounds_toArray, List.set_cons_zero, List.set_cons_succ, List.getElem_toArray, List.getElem_cons_succ, List.getElem_cons_zero]
      have HS : (fun w' => ∃ L', Mem w0 H' L' w' ∧ (xb, LBox 25 (.slice b1 x.classes.length c1) (.slice b2 x.roots.length c2)) ∈ L') W := ⟨_, mS, by simp⟩
      refine AnyFrom.two (i := 2) (j := 3) (by kernel_rfl) ?_ ?_
      · skip
        refine AnyFrom.op rfl (by kernel_rfl) fun K hK => ?_
        go_simp
        refine (CopyClasses_any _ x.classes (fun z hz => by have := HX.out.fields z hz; omega) (by have := HX.out.classes; omega) mS (H1.out.mono hle)).mono ?_
        clear mS
        rintro e W ⟨vc, rs, Lc, Lf, rfl, hac, hof, m7⟩
        obtain ⟨d1, e1, rfl, _, _⟩ := hac.shape
        have HRS := Lib.hid hof.length
        rw [HRS.out] at hac
        rw [HRS.out]
        have mS : Mem w0 H' (Lc ++ (Lf ++ ((q, Obj.cells #[] 43 (0, 0)) :: ((xb, LBox 25 (.slice b1 x.classes.length c1) (.slice b2 x.roots.length c2)) :: L)))) W := m7.perm (by first | exact List.Perm.refl _ | exact (by classical exact List.perm_iff_count.2 (fun a => by simp only [List.count_append, List.count_cons, List.cons_append, List.nil_append, List.append_assoc]; omega)) | exact (by classical exact List.perm_iff_count.2 (fun a => by simp only [List.count_append, List.count_cons, List.cons_append, List.nil_append, List.append_assoc]; omega)))
        clear m7
        refine hK _ _ (.inr ⟨_, mS, by simp⟩) ?_
        clear hK K HS
        try simp only [Act.put, List.setIfInBounds_toArray, List.set_cons_zero, List.set_cons_succ, List.getElem_toArray, List.getElem_cons_succ, List.getElem_cons_zero]
        have HS : (fun w' => ∃ L', Mem w0 H' L' w' ∧ (xb, LBox 25 (.slice b1 x.classes.length c1) (.slice b2 x.roots.length c2)) ∈ L') W := ⟨_, mS, by simp⟩
        refine AnyFrom.one (i := 3) (by kernel_rfl) ?_
        · skip
          refine AnyFrom.op rfl (by kernel_rfl) fun K hK => ?_
          go_simp
          have mA := mS.alloc (Obj.cells #[] 9 (0, 0))
          obtain ⟨p, hp⟩ : ∃ p, p = W.heap.size := ⟨_, rfl⟩
          rw [← hp] at mA
          rw [← hp]
          generalize World.alloc W _ = W at *
          clear hp mS
          have mS : Mem w0 H' (Lc ++ (Lf ++ ((p, Obj.cells #[] 9 (0, 0)) :: ((q, Obj.cells #[] 43 (0, 0)) :: ((xb, LBox 25 (.slice b1 x.classes.length c1) (.slice b2 x.roots.length c2)) :: L))))) W := mA.perm (by first | exact List.Perm.refl _ | exact (by classical exact List.perm_iff_count.2 (fun a => by simp only [List.count_append, List.count_cons, List.cons_append, List.nil_append, List.append_assoc]; omega)) | exact (by classical exact List.perm_iff_count.2 (fun a => by simp only [List.count_append, List.count_cons, List.cons_append, List.nil_append, List.append_assoc]; omega)))
          clear mA
          refine hK _ _ (.inr ⟨_, mS, by simp⟩) ?_
          clear hK K HS
          try simp only [Act.put, List.setIfInBounds_toArray, List.set_cons_zero, List.set_cons_succ, List.getElem_toArray, List.getElem_cons_succ, List.getElem_cons_zero]
          have HS : (fun w' => ∃ L', Mem w0 H' L' w' ∧ (xb, LBox 25 (.slice b1 x.classes.length c1) (.slice b2 x.roots.length c2)) ∈ L') W := ⟨_, mS, by simp⟩
          refine AnyFrom.one (i := 6) (by kernel_rfl) ?_
          · skip
            have mP : Mem w0 H' ((p, Obj.cells #[] 9 (0, 0)) :: (Lc ++ (Lf ++ ((q, Obj.cells #[] 43 (0, 0)) :: ((xb, LBox 25 (.slice b1 x.classes.length c1) (.slice b2 x.roots.length c2)) :: L))))) W := mS.perm (by first | exact List.Perm.refl _ | exact (by classical exact List.perm_iff_count.2 (fun a => by simp only [List.count_append, List.count_cons, List.cons_append, List.nil_append, List.append_assoc]; omega)) | exact (by classical exact List.perm_iff_count.2 (fun a => by simp only [List.count_append, List.count_cons, List.cons_append, List.nil_append, List.append_assoc]; omega)))
            obtain ⟨news, hch, hsrc⟩ := (H2.out.mono hle).src mP
            have HC := Lib.hid hch; clear hch
            have HSR := Lib.hid hsrc; clear hsrc
            refine AnyFrom.opIf rfl fun K hK => ?_
            refine step_append_mem (w0 := w0) (H := H') (L := Lc ++ (Lf ++ ((q, Obj.cells #[] 43 (0, 0)) :: ((xb, LBox 25 (.slice b1 x.classes.length c1) (.slice b2 x.roots.length c2)) :: L)))) rfl _ _ 23 rfl 9 1 16 (.string ByteArray.empty) Tryz.underlying23 (by kernel_rfl) rfl (by decide) _ 0 [] (MemAcc.row mP (Nat.le_refl _) (by decide) rfl rfl) rfl _ x.roots.length news HSR.out rfl (by rw [HC.out.length]; rfl) (by rw [(chunks_strs HC.out).1]; exact str_oneCell) (by have := HX.out.roots; omega) (by unfold maxLen; have := HX.out.roots; omega) ?_
            clear mS mP
            intro v' W hacc
            try simp only [Nat.zero_add, List.nil_append] at hacc
            obtain ⟨d2, e2, rfl, _, _⟩ := hacc.shape
            obtain ⟨L3, ho3, m7⟩ := OwnS.of hacc HC.out
            have mS : Mem w0 H' (Lc ++ (Lf ++ (L3 ++ ((q, Obj.cells #[] 43 (0, 0)) :: ((xb, LBox 25 (.slice b1 x.classes.length c1) (.slice b2 x.roots.length c2)) :: L))))) W := m7.perm (by first | exact List.Perm.refl _ | exact (by classical exact List.perm_iff_count.2 (fun a => by simp only [List.count_append, List.count_cons, List.cons_append, List.nil_append, List.append_assoc]; omega)) | exact (by classical exact List.perm_iff_count.2 (fun a => by simp only [List.count_append, List.count_cons, List.cons_append, List.nil_append, List.append_assoc]; omega)))
            clear hacc m7 HSR HC
            refine hK _ _ (.inr ⟨_, mS, by simp⟩) ?_
            clear hK K HS
            try simp only [Act.put, List.setIfInBounds_toArray, List.set_cons_zero, List.set_cons_succ, List.getElem_toArray, List.getElem_cons_succ, List.getElem_cons_zero]
            have HS : (fun w' => ∃ L', Mem w0 H' L' w' ∧ (xb, LBox 25 (.slice b1 x.classes.length c1) (.slice b2 x.roots.length c2)) ∈ L') W := ⟨_, mS, by simp⟩
            refine AnyFrom.one (i := 9) (by kernel_rfl) ?_
            · skip
              have mP : Mem w0 H' ((q, Obj.cells #[] 43 (0, 0)) :: (Lc ++ (Lf ++ (L3 ++ ((xb, LBox 25 (.slice b1 x.classes.length c1) (.slice b2 x.roots.length c2)) :: L))))) W := mS.perm (by first | exact List.Perm.refl _ | exact (by classical exact List.perm_iff_count.2 (fun a => by simp only [List.count_append, List.count_cons, List.cons_append, List.nil_append, List.append_assoc]; omega)) | exact (by classical exact List.perm_iff_count.2 (fun a => by simp only [List.count_append, List.count_cons, List.cons_append, List.nil_append, List.append_assoc]; omega)))
              obtain ⟨vs, hch, hsrc⟩ := (H3.out.mono hle).src mP
              have HCV := Lib.hid hch; clear hch
              have HSR := Lib.hid hsrc; clear hsrc
              refine AnyFrom.opIf rfl fun K hK => ?_
              refine step_append_mem (w0 := w0) (H := H') (L := Lc ++ (Lf ++ (L3 ++ ((xb, LBox 25 (.slice b1 x.classes.length c1) (.slice b2 x.roots.length c2)) :: L)))) rfl _ _ 26 rfl 43 7 88 (.agg #[.int .u8 0, .string ByteArray.empty, .string ByteArray.empty, .string ByteArray.empty, .int .u8 0, .int .i64 0, .string ByteArray.empty]) Tryz.underlying26 (by kernel_rfl) rfl (by decide) _ 0 [] (MemAcc.row mP (Nat.le_refl _) (by decide) rfl rfl) rfl _ cs.length vs HSR.out rfl (by rw [HCV.out.length]; rfl) (chg_oneCell HCV.out) (by omega) (by unfold maxLen; omega) ?_
              clear mS mP
              intro v' W hacc
              try simp only [Nat.zero_add, List.nil_append] at hacc
              obtain ⟨d3, e3, rfl, _, _⟩ := hacc.shape
              obtain ⟨L5, hq5, m7⟩ := hacc.split
              have mS : Mem w0 H' (Lc ++ (Lf ++ (L3 ++ (L5 ++ ((xb, LBox 25 (.slice b1 x.classes.length c1) (.slice b2 x.roots.length c2)) :: L))))) W := m7.perm (by first | exact List.Perm.refl _ | exact (by classical exact List.perm_iff_count.2 (fun a => by simp only [List.count_append, List.count_cons, List.cons_append, List.nil_append, List.append_assoc]; omega)) | exact (by classical exact List.perm_iff_count.2 (fun a => by simp only [List.count_append, List.count_cons, List.cons_append, List.nil_append, List.append_assoc]; omega)))
              clear hacc m7 HSR
              refine hK _ _ (.inr ⟨_, mS, by simp⟩) ?_
              clear hK K HS
              try simp only [Act.put, List.setIfInBounds_toArray, List.set_cons_zero, List.set_cons_succ, List.getElem_toArray, List.getElem_cons_succ, List.getElem_cons_zero]
              have HS : (fun w' => ∃ L', Mem w0 H' L' w' ∧ (xb, LBox 25 (.slice b1 x.classes.length c1) (.slice b2 x.roots.length c2)) ∈ L') W := ⟨_, mS, by simp⟩
              refine AnyFrom.one (i := 10) (by kernel_rfl) (AnyFrom.op rfl (by kernel_rfl) fun K hK => ?_)
              go_simp
              refine hK _ _ (.inr ⟨_, mS, by simp⟩) ?_
              clear hK K
              try simp only [Act.put, List.setIfInBounds_toArray, List.set_cons_zero, List.set_cons_succ, List.getElem_toArray, List.getElem_cons_succ, List.getElem_cons_zero]
              refine AnyFrom.one (i := 11) (by kernel_rfl) (AnyFrom.op rfl (by kernel_rfl) fun K hK => ?_)
              go_simp
              refine hK _ _ (.inr ⟨_, mS, by simp⟩) ?_
              clear hK K
              try simp only [Act.put, List.setIfInBounds_toArray, List.set_cons_zero, List.set_cons_succ, List.getElem_toArray, List.getElem_cons_succ, List.getElem_cons_zero]
              refine AnyFrom.one (i := 12) (by kernel_rfl) (AnyFrom.op rfl (by kernel_rfl) fun K hK => ?_)
              go_simp
              refine hK _ _ (.inr ⟨_, mS, by simp⟩) ?_
              clear hK K
              try simp only [Act.put, List.setIfInBounds_toArray, List.set_cons_zero, List.set_cons_succ, List.getElem_toArray, List.getElem_cons_succ, List.getElem_cons_zero]
              refine AnyFrom.done (by kernel_rfl) ?_ _
              exact key p q d1 e1 d2 e2 d3 e3 _ ⟨rs, Lc, Lf, L3, L5, vs, HRS, hac, hof, ho3, hq5, HCV, mS.perm (by first | exact List.Perm.refl _ | exact (by classical exact List.perm_iff_count.2 (fun a => by simp only [List.count_append, List.count_cons, List.cons_append, List.nil_append, List.append_assoc]; omega)) | exact (by classical exact List.perm_iff_count.2 (fun a => by simp only [List.count_append, List.count_cons, List.cons_append, List.nil_append, List.append_assoc]; omega)))⟩
      · skip
        refine AnyFrom.op rfl (by kernel_rfl) fun K hK => ?_
        go_simp
        have mA := mS.alloc (Obj.cells #[] 9 (0, 0))
        obtain ⟨p, hp⟩ : ∃ p, p = W.heap.size := ⟨_, rfl⟩
        rw [← hp] at mA
        rw [← hp]
        generalize World.alloc W _ = W at *
        clear hp mS
        have mS : Mem w0 H' ((p, Obj.cells #[] 9 (0, 0)) :: ((q, Obj.cells #[] 43 (0, 0)) :: ((xb, LBox 25 (.slice b1 x.classes.length c1) (.slice b2 x.roots.length c2)) :: L))) W := mA.perm (by first | exact List.Perm.refl _ | exact (by classical exact List.perm_iff_count.2 (fun a => by simp only [List.count_append, List.count_cons, List.cons_append, List.nil_append, List.append_assoc]; omega)) | exact (by classical exact List.perm_iff_count.2 (fun a => by simp only [List.count_append, List.count_cons, List.cons_append, List.nil_append, List.append_assoc]; omega)))
        clear mA
        refine hK _ _ (.inr ⟨_, mS, by simp⟩) ?_
        clear hK K HS
        try simp only [Act.put, List.setIfInBounds_toArray, List.set_cons_zero, List.set_cons_succ, List.getElem_toArray, List.getElem_cons_succ, List.getElem_cons_zero]
        have HS : (fun w' => ∃ L', Mem w0 H' L' w' ∧ (xb, LBox 25 (.slice b1 x.classes.length c1) (.slice b2 x.roots.length c2)) ∈ L') W := ⟨_, mS, by simp⟩
        refine AnyFrom.one (i := 2) (by kernel_rfl) ?_
        · skip
          refine AnyFrom.op rfl (by kernel_rfl) fun K hK => ?_
          go_simp
          refine (CopyClasses_any _ x.classes (fun z hz => by have := HX.out.fields z hz; omega) (by have := HX.out.classes; omega) mS (H1.out.mono hle)).mono ?_
          clear mS
          rintro e W ⟨vc, rs, Lc, Lf, rfl, hac, hof, m7⟩
          obtain ⟨d1, e1, rfl, _, _⟩ := hac.shape
          have HRS := Lib.hid hof.length
          rw [HRS.out] at hac
          rw [HRS.out]
          have mS : Mem w0 H' (Lc ++ (Lf ++ ((p, Obj.cells #[] 9 (0, 0)) :: ((q, Obj.cells #[] 43 (0, 0)) :: ((xb, LBox 25 (.slice b1 x.classes.length c1) (.slice b2 x.roots.length c2)) :: L))))) W := m7.perm (by first | exact List.Perm.refl _ | exact (by classical exact List.perm_iff_count.2 (fun a => by simp only [List.count_append, List.count_cons, List.cons_append, List.nil_append, List.append_assoc]; omega)) | exact (by classical exact List.perm_iff_count.2 (fun a => by simp only [List.count_append, List.count_cons, List.cons_append, List.nil_append, List.append_assoc]; omega)))
          clear m7
          refine hK _ _ (.inr ⟨_, mS, by simp⟩) ?_
          clear hK K HS
          try simp only [Act.put, List.setIfInBounds_toArray, List.set_cons_zero, List.set_cons_succ, List.getElem_toArray, List.getElem_cons_succ, List.getElem_cons_zero]
          have HS : (fun w' => ∃ L', Mem w0 H' L' w' ∧ (xb, LBox 25 (.slice b1 x.classes.length c1) (.slice b2 x.roots.length c2)) ∈ L') W := ⟨_, mS, by simp⟩
          refine AnyFrom.one (i := 6) (by kernel_rfl) ?_
          · skip
            have mP : Mem w0 H' ((p, Obj.cells #[] 9 (0, 0)) :: (Lc ++ (Lf ++ ((q, Obj.cells #[] 43 (0, 0)) :: ((xb, LBox 25 (.slice b1 x.classes.length c1) (.slice b2 x.roots.length c2)) :: L))))) W := mS.perm (by first | exact List.Perm.refl _ | exact (by classical exact List.perm_iff_count.2 (fun a => by simp only [List.count_append, List.count_cons, List.cons_append, List.nil_append, List.append_assoc]; omega)) | exact (by classical exact List.perm_iff_count.2 (fun a => by simp only [List.count_append, List.count_cons, List.cons_append, List.nil_append, List.append_assoc]; omega)))
            obtain ⟨news, hch, hsrc⟩ := (H2.out.mono hle).src mP
            have HC := Lib.hid hch; clear hch
            have HSR := Lib.hid hsrc; clear hsrc
            refine AnyFrom.opIf rfl fun K hK => ?_
            refine step_append_mem (w0 := w0) (H := H') (L := Lc ++ (Lf ++ ((q, Obj.cells #[] 43 (0, 0)) :: ((xb, LBox 25 (.slice b1 x.classes.length c1) (.slice b2 x.roots.length c2)) :: L)))) rfl _ _ 23 rfl 9 1 16 (.string ByteArray.empty) Tryz.underlying23 (by kernel_rfl) rfl (by decide) _ 0 [] (MemAcc.row mP (Nat.le_refl _) (by decide) rfl rfl) rfl _ x.roots.length news HSR.out rfl (by rw [HC.out.length]; rfl) (by rw [(chunks_strs HC.out).1]; exact str_oneCell) (by have := HX.out.roots; omega) (by unfold maxLen; have := HX.out.roots; omega) ?_
            clear mS mP
            intro v' W hacc
            try simp only [Nat.zero_add, List.nil_append] at hacc
            obtain ⟨d2, e2, rfl, _, _⟩ := hacc.shape
            obtain ⟨L3, ho3, m7⟩ := OwnS.of hacc HC.out
            have mS : Mem w0 H' (Lc ++ (Lf ++ (L3 ++ ((q, Obj.cells #[] 43 (0, 0)) :: ((xb, LBox 25 (.slice b1 x.classes.length c1) (.slice b2 x.roots.length c2)) :: L))))) W := m7.perm (by first | exact List.Perm.refl _ | exact (by classical exact List.perm_iff_count.2 (fun a => by simp only [List.count_append, List.count_cons, List.cons_append, List.nil_append, List.append_assoc]; omega)) | exact (by classical exact List.perm_iff_count.2 (fun a => by simp only [List.count_append, List.count_cons, List.cons_append, List.nil_append, List.append_assoc]; omega)))
            clear hacc m7 HSR HC
            refine hK _ _ (.inr ⟨_, mS, by simp⟩) ?_
            clear hK K HS
            try simp only [Act.put, List.setIfInBounds_toArray, List.set_cons_zero, List.set_cons_succ, List.getElem_toArray, List.getElem_cons_succ, List.getElem_cons_zero]
            have HS : (fun w' => ∃ L', Mem w0 H' L' w' ∧ (xb, LBox 25 (.slice b1 x.classes.length c1) (.slice b2 x.roots.length c2)) ∈ L') W := ⟨_, mS, by simp⟩
            refine AnyFrom.one (i := 9) (by kernel_rfl) ?_
            · skip
              have mP : Mem w0 H' ((q, Obj.cells #[] 43 (0, 0)) :: (Lc ++ (Lf ++ (L3 ++ ((xb, LBox 25 (.slice b1 x.classes.length c1) (.slice b2 x.roots.length c2)) :: L))))) W := mS.perm (by first | exact List.Perm.refl _ | exact (by classical exact List.perm_iff_count.2 (fun a => by simp only [List.count_append, List.count_cons, List.cons_append, List.nil_append, List.append_assoc]; omega)) | exact (by classical exact List.perm_iff_count.2 (fun a => by simp only [List.count_append, List.count_cons, List.cons_append, List.nil_append, List.append_assoc]; omega)))
              obtain ⟨vs, hch, hsrc⟩ := (H3.out.mono hle).src mP
              have HCV := Lib.hid hch; clear hch
              have HSR := Lib.hid hsrc; clear hsrc
              refine AnyFrom.opIf rfl fun K hK => ?_
              refine step_append_mem (w0 := w0) (H := H') (L := Lc ++ (Lf ++ (L3 ++ ((xb, LBox 25 (.slice b1 x.classes.length c1) (.slice b2 x.roots.length c2)) :: L)))) rfl _ _ 26 rfl 43 7 88 (.agg #[.int .u8 0, .string ByteArray.empty, .string ByteArray.empty, .string ByteArray.empty, .int .u8 0, .int .i64 0, .string ByteArray.empty]) Tryz.underlying26 (by kernel_rfl) rfl (by decide) _ 0 [] (MemAcc.row mP (Nat.le_refl _) (by decide) rfl rfl) rfl _ cs.length vs HSR.out rfl (by rw [HCV.out.length]; rfl) (chg_oneCell HCV.out) (by omega) (by unfold maxLen; omega) ?_
              clear mS mP
              intro v' W hacc
              try simp only [Nat.zero_add, List.nil_append] at hacc
              obtain ⟨d3, e3, rfl, _, _⟩ := hacc.shape
              obtain ⟨L5, hq5, m7⟩ := hacc.split
              have mS : Mem w0 H' (Lc ++ (Lf ++ (L3 ++ (L5 ++ ((xb, LBox 25 (.slice b1 x.classes.length c1) (.slice b2 x.roots.length c2)) :: L))))) W := m7.perm (by first | exact List.Perm.refl _ | exact (by classical exact List.perm_iff_count.2 (fun a => by simp only [List.count_append, List.count_cons, List.cons_append, List.nil_append, List.append_assoc]; omega)) | exact (by classical exact List.perm_iff_count.2 (fun a => by simp only [List.count_append, List.count_cons, List.cons_append, List.nil_append, List.append_assoc]; omega)))
              clear hacc m7 HSR
              refine hK _ _ (.inr ⟨_, mS, by simp⟩) ?_
              clear hK K HS
              try simp only [Act.put, List.setIfInBounds_toArray, List.set_cons_zero, List.set_cons_succ, List.getElem_toArray, List.getElem_cons_succ, List.getElem_cons_zero]
              have HS : (fun w' => ∃ L', Mem w0 H' L' w' ∧ (xb, LBox 25 (.slice b1 x.classes.length c1) (.slice b2 x.roots.length c2)) ∈ L') W := ⟨_, mS, by simp⟩
              refine AnyFrom.one (i := 10) (by kernel_rfl) (AnyFrom.op rfl (by kernel_rfl) fun K hK => ?_)
              go_simp
              refine hK _ _ (.inr ⟨_, mS, by simp⟩) ?_
              clear hK K
              try simp only [Act.put, List.setIfInBounds_toArray, List.set_cons_zero, List.set_cons_succ, List.getElem_toArray, List.getElem_cons_succ, List.getElem_cons_zero]
              refine AnyFrom.one (i := 11) (by kernel_rfl) (AnyFrom.op rfl (by kernel_rfl) fun K hK => ?_)
              go_simp
              refine hK _ _ (.inr ⟨_, mS, by simp⟩) ?_
              clear hK K
              try simp only [Act.put, List.setIfInBounds_toArray, List.set_cons_zero, List.set_cons_succ, List.getElem_toArray, List.getElem_cons_succ, List.getElem_cons_zero]
              refine AnyFrom.one (i := 12) (by kernel_rfl) (AnyFrom.op rfl (by kernel_rfl) fun K hK => ?_)
              go_simp
              refine hK _ _ (.inr ⟨_, mS, by simp⟩) ?_
              clear hK K
              try simp only [Act.put, List.setIfInBounds_toArray, List.set_cons_zero, List.set_cons_succ, List.getElem_toArray, List.getElem_cons_succ, List.getElem_cons_zero]
              refine AnyFrom.done (by kernel_rfl) ?_ _
              exact key p q d1 e1 d2 e2 d3 e3 _ ⟨rs, Lc, Lf, L3, L5, vs, HRS, hac, hof, ho3, hq5, HCV, mS.perm (by first | exact List.Perm.refl _ | exact (by classical exact List.perm_iff_count.2 (fun a => by simp only [List.count_append, List.count_cons, List.cons_append, List.nil_append, List.append_assoc]; omega)) | exact (by classical exact List.perm_iff_count.2 (fun a => by simp only [List.count_append, List.count_cons, List.cons_append, List.nil_append, List.append_assoc]; omega)))⟩
  rintro p q d1 e1 d2 e2 d3 e3 W ⟨rs, Lc, Lf, L3, L5, vs, HRS, hac, hof, ho3, hq5, HCV, mR⟩
  obtain ⟨H9, hl9, hs1, hs2, m9⟩ := freezeC (by rw [HRS.out]; exact hac) hof ho3 mR
  obtain ⟨H10, m10, hl10, hs3⟩ := (hq5.join m9).done (E := encChange) (HCV.out.mono hl9) rfl rfl
  have G1 := Lib.hid (hs1.mono hl10)
  have G2 := Lib.hid (hs2.mono hl10)
  have G3 := Lib.hid hs3
  have hle2 := (hle.trans hl9).trans hl10
  clear hs1 hs2 hs3 m9 mR hac hof ho3 hq5 HCV hl9 hl10
  go_wp2_with fail
  refine (shApply_any x _ _ _ cs HX.out m10 (by rw [HRS.out] at *; exact G1.out) G2.out G3.out).mono ?_
  rintro e w5 ⟨H11, u1, u2, rfl, hl11, hq1, hq2, m11⟩
  clear m10
  have Q1 := Lib.hid hq1; clear hq1
  have Q2 := Lib.hid hq2; clear hq2
  have es := m11.eqs
  simp only [EqsL, LBox] at es
  go_wp2_with fail
  clear es
  refine (RApply_any x _ _ _ cs HX.out m11 (H1.out.mono (hle2.trans hl11)) (H2.out.mono (hle2.trans hl11)) (H3.out.mono (hle2.trans hl11))).mono ?_
  rintro e w6 ⟨H12, u3, u4, rfl, hl12, hq3, hq4, m12⟩
  clear m11
  have Q3 := Lib.hid hq3; clear hq3
  have Q4 := Lib.hid hq4; clear hq4
  have es := m12.eqs
  simp only [EqsL, LBox] at es
  go_wp2_with fail
  clear es
  refine (Classes_same _ _ _ m12 (Q1.out.mono hl12) Q3.out).mono ?_
  rintro e w7 ⟨rfl, m13⟩
  clear m12
  go_wp2_with fail
  refine (Texts_any _ _ _ _ m13 (Q2.out.mono hl12) Q4.out).mono ?_
  rintro e w8 ⟨rfl, m14⟩
  clear m13
  rw [alikeS_self]
  have es := m14.eqs
  simp only [EqsL, LBox] at es
  go_wp2_with fail
  clear es
  refine (Classes_same _ _ _ m14 (G1.out.mono (hl11.trans hl12)) (H1.out.mono ((hle2.trans hl11).trans hl12))).mono ?_
  rintro e w9 ⟨rfl, m15⟩
  clear m14
  have es := m15.eqs
  simp only [EqsL, LBox] at es
  go_wp2_with fail
  clear es
  refine (Texts_any _ _ _ _ m15 (G2.out.mono (hl11.trans hl12)) (H2.out.mono ((hle2.trans hl11).trans hl12))).mono ?_
  rintro e w10 ⟨rfl, m16⟩
  clear m15
  rw [alikeS_self]
  go_wp2_with fail
  refine (Changes_same _ _ _ m16 (G3.out.mono (hl11.trans hl12)) (H3.out.mono ((hle2.trans hl11).trans hl12))).mono ?_
  rintro e w11 ⟨rfl, m17⟩
  clear m16
  go_wp2_with fail
  refine (hawake _ _ _ _ m17).mono ?_
  rintro e w12 ⟨rfl, m18⟩
  go_wp2_with fail
  go_ret
  exact ⟨_, rfl, (hle2.trans hl11).trans hl12, m18.drop⟩
end Go.Proofs.YtbioklhoolkhkabGreat
