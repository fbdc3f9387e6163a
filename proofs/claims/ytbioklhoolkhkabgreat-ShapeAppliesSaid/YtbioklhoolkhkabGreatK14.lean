/- The walk of the reference: one change done to a layout. -/
import Derived.Test.YtbioklhoolkhkabGreatK13
namespace Go.Proofs.YtbioklhoolkhkabGreat
set_option linter.unusedVariables false
set_option linter.unusedSimpArgs false
open Go.RowKit

abbrev TRL : TypeId := 78
def DoneR (r : Int × LayM) (w0 : World) (H : Hp) (L : List (Nat × Obj)) (e : Ending) (w' : World) : Prop :=
  ∃ H' v1 v2, e = .returned (.tuple #[.agg #[v1, v2], .int .i64 r.1]) ∧ Hle H H' ∧ SlR encClass H' v1 r.2.classes ∧ SlR encStr H' v2 r.2.roots ∧ Mem w0 H' L w'
/-- A continuation that several orders share. -/
theorem shareD {K : Act → World → Prop} {G : Prop} (R : Nat → Nat → Option Addr → Nat → Option Addr → Nat → World → Prop) {f : Nat → Nat → Option Addr → Nat → Option Addr → Nat → Act}
    (br : (∀ p q b1 c1 b2 c2 W, R p q b1 c1 b2 c2 W → K (f p q b1 c1 b2 c2) W) → G) (rest : ∀ p q b1 c1 b2 c2 W, R p q b1 c1 b2 c2 W → K (f p q b1 c1 b2 c2) W) : G := br rest
theorem AnyFrom.three {P : Program} {ops : Array Oper} {Q : Exit → Act → World → Prop} {S : World → Prop} {n : Nat} {i j k d : Nat} {ls : Array Bool} {a : Act} {w : World} (hr : Region.ready .any ops ls = [i, j, k])
    (h : wpOp P ops Q i (fun a' w' => (Spent n (ls.setIfInBounds i true) ∨ S w') ∧ AnyFrom P ops Q S n d (ls.setIfInBounds i true) a' w') a w)
    (h' : wpOp P ops Q j (fun a' w' => (Spent n (ls.setIfInBounds j true) ∨ S w') ∧ AnyFrom P ops Q S n d (ls.setIfInBounds j true) a' w') a w)
    (h2 : wpOp P ops Q k (fun a' w' => (Spent n (ls.setIfInBounds k true) ∨ S w') ∧ AnyFrom P ops Q S n d (ls.setIfInBounds k true) a' w') a w) : AnyFrom P ops Q S n (d + 1) ls a w :=
  ⟨fun h0 => (by rw [hr] at h0; cases h0), fun x hx => by
    rw [hr] at hx
    rcases List.mem_cons.1 hx with rfl | hx
    · exact h
    · rcases List.mem_cons.1 hx with rfl | hx
      · exact h'
      · obtain rfl := List.mem_singleton.1 hx
        exact h2⟩
theorem freezeC {x : LayM} {w0 w : World} {H : Hp} {L : List (Nat × Obj)} {vc vr : Value} {rs : List (ByteArray × Value)} {rts : List ByteArray} {Lc Lf Lr : List (Nat × Obj)} (hac : AccL 39 2 vc rs.length (clsCs rs) Lc) (hof : OwnF rs x.classes Lf) (hor : OwnS vr rts Lr) (m : Mem w0 H (Lc ++ (Lf ++ (Lr ++ L))) w) :
    ∃ H', Hle H H' ∧ SlR encClass H' vc x.classes ∧ SlR encStr H' vr rts ∧ Mem w0 H' L w := by
  have m1 : Mem w0 H (Lf ++ (Lr ++ (Lc ++ L))) w := m.perm (by classical exact List.perm_iff_count.2 (fun a => by simp only [List.count_append, List.count_cons, List.cons_append, List.nil_append, List.append_assoc]; omega))
  obtain ⟨H1, m2, hl1, hrc⟩ := hof.freeze m1
  obtain ⟨H2, m3, hl2, hsr⟩ := hor.freeze m2
  obtain ⟨H3, m4, hl3, hsc⟩ := (hac.join m3).done (E := encClass) ((hrc.mono hl2).chunks) rfl hof.length
  exact ⟨H3, (hl1.trans hl2).trans hl3, hsc, hsr.mono hl3, m4⟩
set_option maxRecDepth 10000 in
set_option maxHeartbeats 16000000 in
theorem RDone_any (x : LayM) (v1 v2 : Value) (c : ChangeM) (hf : c.fit) (hx : x.fit 60000) {w0 w : World} {H : Hp} {L : List (Nat × Obj)} (m : Mem w0 H L w) (h1 : SlR encClass H v1 x.classes) (h2 : SlR encStr H v2 x.roots) :
    Calls Tryz.prog 27 #[.agg #[v1, v2], c.val] w (DoneR (x.done c) w0 H L) := by
  have HX := Lib.hid hx; clear hx
  have HF := Lib.hid hf; clear hf
  have H1 := Lib.hid h1
  have H2 := Lib.hid h2
  obtain ⟨vb1, vc1, rfl, _, hx1, _, _⟩ := h1
  obtain ⟨vb2, vc2, rfl, _, hx2, _, _⟩ := h2
  have hx1 := size_le_maxLen hx1
  have hx2 := size_le_maxLen hx2
  have m1 := ((m.alloc (LBox TRL (.slice vb1 x.classes.length vc1) (.slice vb2 x.roots.length vc2))).alloc (CBox c)).alloc (LBox TRL (.slice none 0 0) (.slice none 0 0))
  rw [World.size_alloc, World.size_alloc] at m1
  clear m
  unfold LBox CBox at m1
  have es := m1.eqs; simp only [EqsL, and_true] at es
  have ns := m1.nes; simp only [NeL, NeFrom, and_true, true_and] at ns
  unfold ChangeM.val
  go_enter Tryz.func27, Tryz.ntmps27
  go_wp2_with fail
  refine (IsForm_any c HF.out m1).mono ?_
  rintro e w1 ⟨rfl, m2⟩
  clear es ns m1
  generalize hxb : w.heap.size = xb at *
  have es := m2.eqs
  simp only [EqsL] at es
  have ns := m2.nes
  simp only [NeL, NeFrom] at ns
  cases hform : c.form
  · have HFM := Lib.hid hform
    go_wp2_with fail
    have m3 := ((m2.set (i := 0) (v := .slice vb1 x.classes.length vc1) .head).set (i := 1) (v := .slice vb2 x.roots.length vc2) .head)
    simp only [List.setIfInBounds_toArray, List.set_cons_zero, List.set_cons_succ] at m3
    have es3 := m3.eqs
    simp only [EqsL] at es3
    refine bodyPost_ret (v := .tuple #[.agg #[.slice vb1 x.classes.length vc1, .slice vb2 x.roots.length vc2], .int .i64 4]) (by simp [results, Tryz.results27, go_sem, es3]) rfl ?_
    rw [LayM.done_form HFM.out]
    exact ⟨H, _, _, rfl, Hle.refl H, H1.out, H2.out, m3.drop.drop.drop⟩
  have HFM := Lib.hid hform
  go_wp2_with fail
  clear es ns
  apply shareD (R := fun p q b1 c1 b2 c2 W => ∃ rs Lc Lf L3, Hid (rs.length = x.classes.length) ∧ AccL 39 2 (.slice b1 x.classes.length c1) x.classes.length (clsCs rs) Lc ∧ OwnF rs x.classes Lf ∧ OwnS (.slice b2 x.roots.length c2) x.roots L3 ∧ Mem w0 H ((q, LBox TRL (.slice b1 x.classes.length c1) (.slice b2 x.roots.length c2)) :: (Lc ++ (Lf ++ (L3 ++ ((xb + 1 + 1, Obj.cells #[.slice none 0 0, .slice none 0 0] 78 (0, 0)) :: (xb + 1, Obj.cells #[.int .u8 c.kind, .string c.name, .string c.field, .string c.to, .int .u8 c.v.kind, .int .i64 c.v.n, .string c.v.s] 43 (0, 0)) :: (xb, Obj.cells #[.slice vb1 x.classes.length vc1, .slice vb2 x.roots.length vc2] 78 (0, 0)) :: L))))) W)
  case' br =>
    intro key
    refine AnyFrom.start (fun w' => ∃ L', Mem w0 H L' w' ∧ (xb, Obj.cells #[.slice vb1 x.classes.length vc1, .slice vb2 x.roots.length vc2] 78 (0, 0)) ∈ L') 10 (by kernel_rfl) ?_
    have mS : Mem w0 H ((xb + 1 + 1, Obj.cells #[.slice none 0 0, .slice none 0 0] 78 (0, 0)) :: (xb + 1, Obj.cells #[.int .u8 c.kind, .string c.name, .string c.field, .string c.to, .int .u8 c.v.kind, .int .i64 c.v.n, .string c.v.s] 43 (0, 0)) :: (xb, Obj.cells #[.slice vb1 x.classes.length vc1, .slice vb2 x.roots.length vc2] 78 (0, 0)) :: L) w1.drew := m2.drew
    generalize w1.drew = W at *
    have HS : (fun w' => ∃ L', Mem w0 H L' w' ∧ (xb, Obj.cells #[.slice vb1 x.classes.length vc1, .slice vb2 x.roots.length vc2] 78 (0, 0)) ∈ L') W := ⟨_, mS, by simp⟩
    refine AnyFrom.takeT (i := 0) (v := ?_) rfl (by kernel_rfl) (by kernel_rfl) (by kernel_rfl) (by kernel_rfl) (fun _ _ _ h => h) ⟨by kernel_rfl, ?_⟩ HS ?_
    rotate_left
    · first | (rintro w' ⟨L', hm, hmem⟩; have hcb := cell_of_heap (hm.loc _ hmem).1; have hlt := lt_of_heap (hm.loc _ hmem).1; simp only at hcb hlt; go_simp; done) | (rintro w' ⟨L', hm, hmem⟩; have hcb := cell_of_heap (hm.loc _ hmem).1; have hlt := lt_of_heap (hm.loc _ hmem).1; simp only at hcb hlt; go_simp; with_reducible rfl)
    simp only [Act.put, List.setIfInBounds_toArray, List.set_cons_zero, List.set_cons_succ, List.getElem_toArray, List.getElem_cons_succ, List.getElem_cons_zero]
    refine AnyFrom.takeT (i := 1) (v := ?_) rfl (by kernel_rfl) (by kernel_rfl) (by kernel_rfl) (by kernel_rfl) (fun _ _ _ h => h) ⟨by kernel_rfl, ?_⟩ HS ?_
    rotate_left
    · first | (rintro w' ⟨L', hm, hmem⟩; have hcb := cell_of_heap (hm.loc _ hmem).1; have hlt := lt_of_heap (hm.loc _ hmem).1; simp only at hcb hlt; go_simp; done) | (rintro w' ⟨L', hm, hmem⟩; have hcb := cell_of_heap (hm.loc _ hmem).1; have hlt := lt_of_heap (hm.loc _ hmem).1; simp only at hcb hlt; go_simp; with_reducible rfl)
    simp only [Act.put, List.setIfInBounds_toArray, List.set_cons_zero, List.set_cons_succ, List.getElem_toArray, List.getElem_cons_succ, List.getElem_cons_zero]
    refine AnyFrom.takeT (i := 4) (v := ?_) rfl (by kernel_rfl) (by kernel_rfl) (by kernel_rfl) (by kernel_rfl) (fun _ _ _ h => h) ⟨by kernel_rfl, ?_⟩ HS ?_
    rotate_left
    · first | (rintro w' ⟨L', hm, hmem⟩; have hcb := cell_of_heap (hm.loc _ hmem).1; have hlt := lt_of_heap (hm.loc _ hmem).1; simp only at hcb hlt; go_simp; done) | (rintro w' ⟨L', hm, hmem⟩; have hcb := cell_of_heap (hm.loc _ hmem).1; have hlt := lt_of_heap (hm.loc _ hmem).1; simp only at hcb hlt; go_simp; with_reducible rfl)
    simp only [Act.put, List.setIfInBounds_toArray, List.set_cons_zero, List.set_cons_succ, List.getElem_toArray, List.getElem_cons_succ, List.getElem_cons_zero]
    refine AnyFrom.takeT (i := 5) (v := ?_) rfl (by kernel_rfl) (by kernel_rfl) (by kernel_rfl) (by kernel_rfl) (fun _ _ _ h => h) ⟨by kernel_rfl, ?_⟩ HS ?_
    rotate_left
    · first | (rintro w' ⟨L', hm, hmem⟩; have hcb := cell_of_heap (hm.loc _ hmem).1; have hlt := lt_of_heap (hm.loc _ hmem).1; simp only at hcb hlt; go_simp; done) | (rintro w' ⟨L', hm, hmem⟩; have hcb := cell_of_heap (hm.loc _ hmem).1; have hlt := lt_of_heap (hm.loc _ hmem).1; simp only at hcb hlt; go_simp; with_reducible rfl)
    simp only [Act.put, List.setIfInBounds_toArray, List.set_cons_zero, List.set_cons_succ, List.getElem_toArray, List.getElem_cons_succ, List.getElem_cons_zero]
    refine AnyFrom.three (i := 2) (j := 3) (k := 8) (by kernel_rfl) ?_ ?_ ?_
    · skip
      refine AnyFrom.op rfl (by kernel_rfl) fun K hK => ?_
      go_simp
      refine (CopyClasses_any _ x.classes (fun z hz => by have := HX.out.fields z hz; omega) (by have := HX.out.classes; omega) mS H1.out).mono ?_
      clear mS
      rintro e W ⟨vc, rs, Lc, Lf, rfl, hac, hof, m7⟩
      obtain ⟨b1, c1, rfl, _, _⟩ := hac.shape
      have HRS := Lib.hid hof.length
      rw [HRS.out] at hac
      rw [HRS.out]
      have mS : Mem w0 H (Lc ++ (Lf ++ ((xb + 1 + 1, Obj.cells #[.slice none 0 0, .slice none 0 0] 78 (0, 0)) :: (xb + 1, Obj.cells #[.int .u8 c.kind, .string c.name, .string c.field, .string c.to, .int .u8 c.v.kind, .int .i64 c.v.n, .string c.v.s] 43 (0, 0)) :: (xb, Obj.cells #[.slice vb1 x.classes.length vc1, .slice vb2 x.roots.length vc2] 78 (0, 0)) :: L))) W := m7.perm (by first | exact List.Perm.refl _ | exact (by classical exact List.perm_iff_count.2 (fun a => by simp only [List.count_append, List.count_cons, List.cons_append, List.nil_append, List.append_assoc]; omega)) | exact (by classical exact List.perm_iff_count.2 (fun a => by simp only [List.count_append, List.count_cons, List.cons_append, List.nil_append, List.append_assoc])))
      clear m7
      refine hK _ _ (.inr ⟨_, mS, by simp⟩) ?_
      clear hK K HS
      try simp only [Act.put, List.setIfInBounds_toArray, List.set_cons_zero, List.set_cons_succ, List.getElem_toArray, List.getElem_cons_succ, List.getElem_cons_zero]
      have HS : (fun w' => ∃ L', Mem w0 H L' w' ∧ (xb, Obj.cells #[.slice vb1 x.classes.length vc1, .slice vb2 x.roots.length vc2] 78 (0, 0)) ∈ L') W := ⟨_, mS, by simp⟩
      refine AnyFrom.two (i := 3) (j := 8) (by kernel_rfl) ?_ ?_
      · skip
        refine AnyFrom.op rfl (by kernel_rfl) fun K hK => ?_
        go_simp
        have mA := mS.alloc (Obj.cells #[] 9 (0, 0))
        obtain ⟨p, hp⟩ : ∃ p, p = W.heap.size := ⟨_, rfl⟩
        rw [← hp] at mA
        rw [← hp]
        generalize World.alloc W _ = W at *
        clear hp mS
        have mS : Mem w0 H (Lc ++ (Lf ++ ((p, Obj.cells #[] 9 (0, 0)) :: ((xb + 1 + 1, Obj.cells #[.slice none 0 0, .slice none 0 0] 78 (0, 0)) :: (xb + 1, Obj.cells #[.int .u8 c.kind, .string c.name, .string c.field, .string c.to, .int .u8 c.v.kind, .int .i64 c.v.n, .string c.v.s] 43 (0, 0)) :: (xb, Obj.cells #[.slice vb1 x.classes.length vc1, .slice vb2 x.roots.length vc2] 78 (0, 0)) :: L)))) W := mA.perm (by first | exact List.Perm.refl _ | exact (by classical exact List.perm_iff_count.2 (fun a => by simp only [List.count_append, List.count_cons, List.cons_append, List.nil_append, List.append_assoc]; omega)) | exact (by classical exact List.perm_iff_count.2 (fun a => by simp only [List.count_append, List.count_cons, List.cons_append, List.nil_append, List.append_assoc])))
        clear mA
        refine hK _ _ (.inr ⟨_, mS, by simp⟩) ?_
        clear hK K HS
        try simp only [Act.put, List.setIfInBounds_toArray, List.set_cons_zero, List.set_cons_succ, List.getElem_toArray, List.getElem_cons_succ, List.getElem_cons_zero]
        have HS : (fun w' => ∃ L', Mem w0 H L' w' ∧ (xb, Obj.cells #[.slice vb1 x.classes.length vc1, .slice vb2 x.roots.length vc2] 78 (0, 0)) ∈ L') W := ⟨_, mS, by simp⟩
        refine AnyFrom.two (i := 6) (j := 8) (by kernel_rfl) ?_ ?_
        · skip
          have mP : Mem w0 H ((p, Obj.cells #[] 9 (0, 0)) :: (Lc ++ (Lf ++ ((xb + 1 + 1, Obj.cells #[.slice none 0 0, .slice none 0 0] 78 (0, 0)) :: (xb + 1, Obj.cells #[.int .u8 c.kind, .string c.name, .string c.field, .string c.to, .int .u8 c.v.kind, .int .i64 c.v.n, .string c.v.s] 43 (0, 0)) :: (xb, Obj.cells #[.slice vb1 x.classes.length vc1, .slice vb2 x.roots.length vc2] 78 (0, 0)) :: L)))) W := mS.perm (by first | exact List.Perm.refl _ | exact (by classical exact List.perm_iff_count.2 (fun a => by simp only [List.count_append, List.count_cons, List.cons_append, List.nil_append, List.append_assoc]; omega)) | exact (by classical exact List.perm_iff_count.2 (fun a => by simp only [List.count_append, List.count_cons, List.cons_append, List.nil_append, List.append_assoc])))
          obtain ⟨news, hch, hsrc⟩ := H2.out.src mP
          have HC := Lib.hid hch; clear hch
          have HSR := Lib.hid hsrc; clear hsrc
          refine AnyFrom.opIf rfl fun K hK => ?_
          refine step_append_mem (w0 := w0) (H := H) (L := Lc ++ (Lf ++ ((xb + 1 + 1, Obj.cells #[.slice none 0 0, .slice none 0 0] 78 (0, 0)) :: (xb + 1, Obj.cells #[.int .u8 c.kind, .string c.name, .string c.field, .string c.to, .int .u8 c.v.kind, .int .i64 c.v.n, .string c.v.s] 43 (0, 0)) :: (xb, Obj.cells #[.slice vb1 x.classes.length vc1, .slice vb2 x.roots.length vc2] 78 (0, 0)) :: L))) rfl _ _ 23 rfl 9 1 16 (.string ByteArray.empty) Tryz.underlying23 (by kernel_rfl) rfl (by decide) _ 0 [] (MemAcc.row mP (Nat.le_refl _) (by decide) rfl rfl) rfl _ x.roots.length news HSR.out rfl (by rw [HC.out.length]; rfl) (by rw [(chunks_strs HC.out).1]; exact str_oneCell) (by have := HX.out.roots; omega) (by have := HX.out.roots; unfold maxLen; omega) ?_
          clear mS mP
          intro v' W hacc
          try simp only [Nat.zero_add, List.nil_append] at hacc
          obtain ⟨b2, c2, rfl, _, _⟩ := hacc.shape
          obtain ⟨L3, ho3, m7⟩ := OwnS.of hacc HC.out
          have mS : Mem w0 H (Lc ++ (Lf ++ (L3 ++ ((xb + 1 + 1, Obj.cells #[.slice none 0 0, .slice none 0 0] 78 (0, 0)) :: (xb + 1, Obj.cells #[.int .u8 c.kind, .string c.name, .string c.field, .string c.to, .int .u8 c.v.kind, .int .i64 c.v.n, .string c.v.s] 43 (0, 0)) :: (xb, Obj.cells #[.slice vb1 x.classes.length vc1, .slice vb2 x.roots.length vc2] 78 (0, 0)) :: L)))) W := m7.perm (by first | exact List.Perm.refl _ | exact (by classical exact List.perm_iff_count.2 (fun a => by simp only [List.count_append, List.count_cons, List.cons_append, List.nil_append, List.append_assoc]; omega)) | exact (by classical exact List.perm_iff_count.2 (fun a => by simp only [List.count_append, List.count_cons, List.cons_append, List.nil_append, List.append_assoc])))
          clear hacc m7 HSR HC
          refine hK _ _ (.inr ⟨_, mS, by simp⟩) ?_
          clear hK K HS
          try simp only [Act.put, List.setIfInBounds_toArray, List.set_cons_zero, List.set_cons_succ, List.getElem_toArray, List.getElem_cons_succ, List.getElem_cons_zero]
          have HS : (fun w' => ∃ L', Mem w0 H L' w' ∧ (xb, Obj.cells #[.slice vb1 x.classes.length vc1, .slice vb2 x.roots.length vc2] 78 (0, 0)) ∈ L') W := ⟨_, mS, by simp⟩
          refine AnyFrom.pure (i := 7) (v := ?_) rfl (by kernel_rfl) (by kernel_rfl) (by kernel_rfl) (by decide) (fun _ _ _ h => h) ⟨by kernel_rfl, ?_⟩ HS ?_
          rotate_left
          · first | (intro w'; go_simp; done) | (intro w'; go_simp; with_reducible rfl)
          simp only [Act.put, List.setIfInBounds_toArray, List.set_cons_zero, List.set_cons_succ, List.getElem_toArray, List.getElem_cons_succ, List.getElem_cons_zero]
          refine AnyFrom.one (i := 8) (by kernel_rfl) ?_
          · skip
            refine AnyFrom.op rfl (by kernel_rfl) fun K hK => ?_
            go_simp
            have mA := mS.alloc (Obj.cells #[.slice none 0 0, .slice none 0 0] 78 (0, 0))
            obtain ⟨q, hp⟩ : ∃ p, p = W.heap.size := ⟨_, rfl⟩
            rw [← hp] at mA
            rw [← hp]
            generalize World.alloc W _ = W at *
            clear hp mS
            have mS : Mem w0 H ((q, Obj.cells #[.slice none 0 0, .slice none 0 0] 78 (0, 0)) :: (Lc ++ (Lf ++ (L3 ++ ((xb + 1 + 1, Obj.cells #[.slice none 0 0, .slice none 0 0] 78 (0, 0)) :: (xb + 1, Obj.cells #[.int .u8 c.kind, .string c.name, .string c.field, .string c.to, .int .u8 c.v.kind, .int .i64 c.v.n, .string c.v.s] 43 (0, 0)) :: (xb, Obj.cells #[.slice vb1 x.classes.length vc1, .slice vb2 x.roots.length vc2] 78 (0, 0)) :: L))))) W := mA.perm (by first | exact List.Perm.refl _ | exact (by classical exact List.perm_iff_count.2 (fun a => by simp only [List.count_append, List.count_cons, List.cons_append, List.nil_append, List.append_assoc]; omega)) | exact (by classical exact List.perm_iff_count.2 (fun a => by simp only [List.count_append, List.count_cons, List.cons_append, List.nil_append, List.append_assoc])))
            clear mA
            refine hK _ _ (.inr ⟨_, mS, by simp⟩) ?_
            clear hK K HS
            try simp only [Act.put, List.setIfInBounds_toArray, List.set_cons_zero, List.set_cons_succ, List.getElem_toArray, List.getElem_cons_succ, List.getElem_cons_zero]
            have HS : (fun w' => ∃ L', Mem w0 H L' w' ∧ (xb, Obj.cells #[.slice vb1 x.classes.length vc1, .slice vb2 x.roots.length vc2] 78 (0, 0)) ∈ L') W := ⟨_, mS, by simp⟩
            refine AnyFrom.one (i := 9) (by kernel_rfl) ?_
            · skip
              have es := mS.eqs
              simp only [EqsL] at es
              refine AnyFrom.op rfl (by kernel_rfl) fun K hK => ?_
              go_simp
              have mT := ((mS.set (i := 0) (v := .slice b1 x.classes.length c1) .head).set (i := 1) (v := .slice b2 x.roots.length c2) .head)
              simp only [List.setIfInBounds_toArray, List.set_cons_zero, List.set_cons_succ] at mT
              refine hK _ _ (.inr ⟨_, mT, by simp⟩) ?_
              clear hK K HS es
              try simp only [Act.put, List.setIfInBounds_toArray, List.set_cons_zero, List.set_cons_succ, List.getElem_toArray, List.getElem_cons_succ, List.getElem_cons_zero]
              refine AnyFrom.done (by kernel_rfl) ?_ _
              exact key p q b1 c1 b2 c2 _ ⟨rs, Lc, Lf, L3, HRS, hac, hof, ho3, mT.perm (by first | exact List.Perm.refl _ | exact (by classical exact List.perm_iff_count.2 (fun a => by simp only [List.count_append, List.count_cons, List.cons_append, List.nil_append, List.append_assoc]; omega)) | exact (by classical exact List.perm_iff_count.2 (fun a => by simp only [List.count_append, List.count_cons, List.cons_append, List.nil_append, List.append_assoc])))⟩
        · skip
          refine AnyFrom.op rfl (by kernel_rfl) fun K hK => ?_
          go_simp
          have mA := mS.alloc (Obj.cells #[.slice none 0 0, .slice none 0 0] 78 (0, 0))
          obtain ⟨q, hp⟩ : ∃ p, p = W.heap.size := ⟨_, rfl⟩
          rw [← hp] at mA
          rw [← hp]
          generalize World.alloc W _ = W at *
          clear hp mS
          have mS : Mem w0 H ((q, Obj.cells #[.slice none 0 0, .slice none 0 0] 78 (0, 0)) :: (Lc ++ (Lf ++ ((p, Obj.cells #[] 9 (0, 0)) :: ((xb + 1 + 1, Obj.cells #[.slice none 0 0, .slice none 0 0] 78 (0, 0)) :: (xb + 1, Obj.cells #[.int .u8 c.kind, .string c.name, .string c.field, .string c.to, .int .u8 c.v.kind, .int .i64 c.v.n, .string c.v.s] 43 (0, 0)) :: (xb, Obj.cells #[.slice vb1 x.classes.length vc1, .slice vb2 x.roots.length vc2] 78 (0, 0)) :: L))))) W := mA.perm (by first | exact List.Perm.refl _ | exact (by classical exact List.perm_iff_count.2 (fun a => by simp only [List.count_append, List.count_cons, List.cons_append, List.nil_append, List.append_assoc]; omega)) | exact (by classical exact List.perm_iff_count.2 (fun a => by simp only [List.count_append, List.count_cons, List.cons_append, List.nil_append, List.append_assoc])))
          clear mA
          refine hK _ _ (.inr ⟨_, mS, by simp⟩) ?_
          clear hK K HS
          try simp only [Act.put, List.setIfInBounds_toArray, List.set_cons_zero, List.set_cons_succ, List.getElem_toArray, List.getElem_cons_succ, List.getElem_cons_zero]
          have HS : (fun w' => ∃ L', Mem w0 H L' w' ∧ (xb, Obj.cells #[.slice vb1 x.classes.length vc1, .slice vb2 x.roots.length vc2] 78 (0, 0)) ∈ L') W := ⟨_, mS, by simp⟩
          refine AnyFrom.one (i := 6) (by kernel_rfl) ?_
          · skip
            have mP : Mem w0 H ((p, Obj.cells #[] 9 (0, 0)) :: ((q, Obj.cells #[.slice none 0 0, .slice none 0 0] 78 (0, 0)) :: (Lc ++ (Lf ++ ((xb + 1 + 1, Obj.cells #[.slice none 0 0, .slice none 0 0] 78 (0, 0)) :: (xb + 1, Obj.cells #[.int .u8 c.kind, .string c.name, .string c.field, .string c.to, .int .u8 c.v.kind, .int .i64 c.v.n, .string c.v.s] 43 (0, 0)) :: (xb, Obj.cells #[.slice vb1 x.classes.length vc1, .slice vb2 x.roots.length vc2] 78 (0, 0)) :: L))))) W := mS.perm (by first | exact List.Perm.refl _ | exact (by classical exact List.perm_iff_count.2 (fun a => by simp only [List.count_append, List.count_cons, List.cons_append, List.nil_append, List.append_assoc]; omega)) | exact (by classical exact List.perm_iff_count.2 (fun a => by simp only [List.count_append, List.count_cons, List.cons_append, List.nil_append, List.append_assoc])))
            obtain ⟨news, hch, hsrc⟩ := H2.out.src mP
            have HC := Lib.hid hch; clear hch
            have HSR := Lib.hid hsrc; clear hsrc
            refine AnyFrom.opIf rfl fun K hK => ?_
            refine step_append_mem (w0 := w0) (H := H) (L := (q, Obj.cells #[.slice none 0 0, .slice none 0 0] 78 (0, 0)) :: (Lc ++ (Lf ++ ((xb + 1 + 1, Obj.cells #[.slice none 0 0, .slice none 0 0] 78 (0, 0)) :: (xb + 1, Obj.cells #[.int .u8 c.kind, .string c.name, .string c.field, .string c.to, .int .u8 c.v.kind, .int .i64 c.v.n, .string c.v.s] 43 (0, 0)) :: (xb, Obj.cells #[.slice vb1 x.classes.length vc1, .slice vb2 x.roots.length vc2] 78 (0, 0)) :: L)))) rfl _ _ 23 rfl 9 1 16 (.string ByteArray.empty) Tryz.underlying23 (by kernel_rfl) rfl (by decide) _ 0 [] (MemAcc.row mP (Nat.le_refl _) (by decide) rfl rfl) rfl _ x.roots.length news HSR.out rfl (by rw [HC.out.length]; rfl) (by rw [(chunks_strs HC.out).1]; exact str_oneCell) (by have := HX.out.roots; omega) (by have := HX.out.roots; unfold maxLen; omega) ?_
            clear mS mP
            intro v' W hacc
            try simp only [Nat.zero_add, List.nil_append] at hacc
            obtain ⟨b2, c2, rfl, _, _⟩ := hacc.shape
            obtain ⟨L3, ho3, m7⟩ := OwnS.of hacc HC.out
            have mS : Mem w0 H ((q, Obj.cells #[.slice none 0 0, .slice none 0 0] 78 (0, 0)) :: (Lc ++ (Lf ++ (L3 ++ ((xb + 1 + 1, Obj.cells #[.slice none 0 0, .slice none 0 0] 78 (0, 0)) :: (xb + 1, Obj.cells #[.int .u8 c.kind, .string c.name, .string c.field, .string c.to, .int .u8 c.v.kind, .int .i64 c.v.n, .string c.v.s] 43 (0, 0)) :: (xb, Obj.cells #[.slice vb1 x.classes.length vc1, .slice vb2 x.roots.length vc2] 78 (0, 0)) :: L))))) W := m7.perm (by first | exact List.Perm.refl _ | exact (by classical exact List.perm_iff_count.2 (fun a => by simp only [List.count_append, List.count_cons, List.cons_append, List.nil_append, List.append_assoc]; omega)) | exact (by classical exact List.perm_iff_count.2 (fun a => by simp only [List.count_append, List.count_cons, List.cons_append, List.nil_append, List.append_assoc])))
            clear hacc m7 HSR HC
            refine hK _ _ (.inr ⟨_, mS, by simp⟩) ?_
            clear hK K HS
            try simp only [Act.put, List.setIfInBounds_toArray, List.set_cons_zero, List.set_cons_succ, List.getElem_toArray, List.getElem_cons_succ, List.getElem_cons_zero]
            have HS : (fun w' => ∃ L', Mem w0 H L' w' ∧ (xb, Obj.cells #[.slice vb1 x.classes.length vc1, .slice vb2 x.roots.length vc2] 78 (0, 0)) ∈ L') W := ⟨_, mS, by simp⟩
            refine AnyFrom.pure (i := 7) (v := ?_) rfl (by kernel_rfl) (by kernel_rfl) (by kernel_rfl) (by decide) (fun _ _ _ h => h) ⟨by kernel_rfl, ?_⟩ HS ?_
            rotate_left
            · first | (intro w'; go_simp; done) | (intro w'; go_simp; with_reducible rfl)
            simp only [Act.put, List.setIfInBounds_toArray, List.set_cons_zero, List.set_cons_succ, List.getElem_toArray, List.getElem_cons_succ, List.getElem_cons_zero]
            refine AnyFrom.one (i := 9) (by kernel_rfl) ?_
            · skip
              have es := mS.eqs
              simp only [EqsL] at es
              refine AnyFrom.op rfl (by kernel_rfl) fun K hK => ?_
              go_simp
              have mT := ((mS.set (i := 0) (v := .slice b1 x.classes.length c1) .head).set (i := 1) (v := .slice b2 x.roots.length c2) .head)
              simp only [List.setIfInBounds_toArray, List.set_cons_zero, List.set_cons_succ] at mT
              refine hK _ _ (.inr ⟨_, mT, by simp⟩) ?_
              clear hK K HS es
              try simp only [Act.put, List.setIfInBounds_toArray, List.set_cons_zero, List.set_cons_succ, List.getElem_toArray, List.getElem_cons_succ, List.getElem_cons_zero]
              refine AnyFrom.done (by kernel_rfl) ?_ _
              exact key p q b1 c1 b2 c2 _ ⟨rs, Lc, Lf, L3, HRS, hac, hof, ho3, mT.perm (by first | exact List.Perm.refl _ | exact (by classical exact List.perm_iff_count.2 (fun a => by simp only [List.count_append, List.count_cons, List.cons_append, List.nil_append, List.append_assoc]; omega)) | exact (by classical exact List.perm_iff_count.2 (fun a => by simp only [List.count_append, List.count_cons, List.cons_append, List.nil_append, List.append_assoc])))⟩
      · skip
        refine AnyFrom.op rfl (by kernel_rfl) fun K hK => ?_
        go_simp
        have mA := mS.alloc (Obj.cells #[.slice none 0 0, .slice none 0 0] 78 (0, 0))
        obtain ⟨q, hp⟩ : ∃ p, p = W.heap.size := ⟨_, rfl⟩
        rw [← hp] at mA
        rw [← hp]
        generalize World.alloc W _ = W at *
        clear hp mS
        have mS : Mem w0 H ((q, Obj.cells #[.slice none 0 0, .slice none 0 0] 78 (0, 0)) :: (Lc ++ (Lf ++ ((xb + 1 + 1, Obj.cells #[.slice none 0 0, .slice none 0 0] 78 (0, 0)) :: (xb + 1, Obj.cells #[.int .u8 c.kind, .string c.name, .string c.field, .string c.to, .int .u8 c.v.kind, .int .i64 c.v.n, .string c.v.s] 43 (0, 0)) :: (xb, Obj.cells #[.slice vb1 x.classes.length vc1, .slice vb2 x.roots.length vc2] 78 (0, 0)) :: L)))) W := mA.perm (by first | exact List.Perm.refl _ | exact (by classical exact List.perm_iff_count.2 (fun a => by simp only [List.count_append, List.count_cons, List.cons_append, List.nil_append, List.append_assoc]; omega)) | exact (by classical exact List.perm_iff_count.2 (fun a => by simp only [List.count_append, List.count_cons, List.cons_append, List.nil_append, List.append_assoc])))
        clear mA
        refine hK _ _ (.inr ⟨_, mS, by simp⟩) ?_
        clear hK K HS
        try simp only [Act.put, List.setIfInBounds_toArray, List.set_cons_zero, List.set_cons_succ, List.getElem_toArray, List.getElem_cons_succ, List.getElem_cons_zero]
        have HS : (fun w' => ∃ L', Mem w0 H L' w' ∧ (xb, Obj.cells #[.slice vb1 x.classes.length vc1, .slice vb2 x.roots.length vc2] 78 (0, 0)) ∈ L') W := ⟨_, mS, by simp⟩
        refine AnyFrom.one (i := 3) (by kernel_rfl) ?_
        · skip
          refine AnyFrom.op rfl (by kernel_rfl) fun K hK => ?_
          go_simp
          have mA := mS.alloc (Obj.cells #[] 9 (0, 0))
          obtain ⟨p, hp⟩ : ∃ p, p = W.heap.size := ⟨_, rfl⟩
          rw [← hp] at mA
          rw [← hp]
          generalize World.alloc W _ = W at *
          clear hp mS
          have mS : Mem w0 H ((q, Obj.cells #[.slice none 0 0, .slice none 0 0] 78 (0, 0)) :: (Lc ++ (Lf ++ ((p, Obj.cells #[] 9 (0, 0)) :: ((xb + 1 + 1, Obj.cells #[.slice none 0 0, .slice none 0 0] 78 (0, 0)) :: (xb + 1, Obj.cells #[.int .u8 c.kind, .string c.name, .string c.field, .string c.to, .int .u8 c.v.kind, .int .i64 c.v.n, .string c.v.s] 43 (0, 0)) :: (xb, Obj.cells #[.slice vb1 x.classes.length vc1, .slice vb2 x.roots.length vc2] 78 (0, 0)) :: L))))) W := mA.perm (by first | exact List.Perm.refl _ | exact (by classical exact List.perm_iff_count.2 (fun a => by simp only [List.count_append, List.count_cons, List.cons_append, List.nil_append, List.append_assoc]; omega)) | exact (by classical exact List.perm_iff_count.2 (fun a => by simp only [List.count_append, List.count_cons, List.cons_append, List.nil_append, List.append_assoc])))
          clear mA
          refine hK _ _ (.inr ⟨_, mS, by simp⟩) ?_
          clear hK K HS
          try simp only [Act.put, List.setIfInBounds_toArray, List.set_cons_zero, List.set_cons_succ, List.getElem_toArray, List.getElem_cons_succ, List.getElem_cons_zero]
          have HS : (fun w' => ∃ L', Mem w0 H L' w' ∧ (xb, Obj.cells #[.slice vb1 x.classes.length vc1, .slice vb2 x.roots.length vc2] 78 (0, 0)) ∈ L') W := ⟨_, mS, by simp⟩
          refine AnyFrom.one (i := 6) (by kernel_rfl) ?_
          · skip
            have mP : Mem w0 H ((p, Obj.cells #[] 9 (0, 0)) :: ((q, Obj.cells #[.slice none 0 0, .slice none 0 0] 78 (0, 0)) :: (Lc ++ (Lf ++ ((xb + 1 + 1, Obj.cells #[.slice none 0 0, .slice none 0 0] 78 (0, 0)) :: (xb + 1, Obj.cells #[.int .u8 c.kind, .string c.name, .string c.field, .string c.to, .int .u8 c.v.kind, .int .i64 c.v.n, .string c.v.s] 43 (0, 0)) :: (xb, Obj.cells #[.slice vb1 x.classes.length vc1, .slice vb2 x.roots.length vc2] 78 (0, 0)) :: L))))) W := mS.perm (by first | exact List.Perm.refl _ | exact (by classical exact List.perm_iff_count.2 (fun a => by simp only [List.count_append, List.count_cons, List.cons_append, List.nil_append, List.append_assoc]; omega)) | exact (by classical exact List.perm_iff_count.2 (fun a => by simp only [List.count_append, List.count_cons, List.cons_append, List.nil_append, List.append_assoc])))
            obtain ⟨news, hch, hsrc⟩ := H2.out.src mP
            have HC := Lib.hid hch; clear hch
            have HSR := Lib.hid hsrc; clear hsrc
            refine AnyFrom.opIf rfl fun K hK => ?_
            refine step_append_mem (w0 := w0) (H := H) (L := (q, Obj.cells #[.slice none 0 0, .slice none 0 0] 78 (0, 0)) :: (Lc ++ (Lf ++ ((xb + 1 + 1, Obj.cells #[.slice none 0 0, .slice none 0 0] 78 (0, 0)) :: (xb + 1, Obj.cells #[.int .u8 c.kind, .string c.name, .string c.field, .string c.to, .int .u8 c.v.kind, .int .i64 c.v.n, .string c.v.s] 43 (0, 0)) :: (xb, Obj.cells #[.slice vb1 x.classes.length vc1, .slice vb2 x.roots.length vc2] 78 (0, 0)) :: L)))) rfl _ _ 23 rfl 9 1 16 (.string ByteArray.empty) Tryz.underlying23 (by kernel_rfl) rfl (by decide) _ 0 [] (MemAcc.row mP (Nat.le_refl _) (by decide) rfl rfl) rfl _ x.roots.length news HSR.out rfl (by rw [HC.out.length]; rfl) (by rw [(chunks_strs HC.out).1]; exact str_oneCell) (by have := HX.out.roots; omega) (by have := HX.out.roots; unfold maxLen; omega) ?_
            clear mS mP
            intro v' W hacc
            try simp only [Nat.zero_add, List.nil_append] at hacc
            obtain ⟨b2, c2, rfl, _, _⟩ := hacc.shape
            obtain ⟨L3, ho3, m7⟩ := OwnS.of hacc HC.out
            have mS : Mem w0 H ((q, Obj.cells #[.slice none 0 0, .slice none 0 0] 78 (0, 0)) :: (Lc ++ (Lf ++ (L3 ++ ((xb + 1 + 1, Obj.cells #[.slice none 0 0, .slice none 0 0] 78 (0, 0)) :: (xb + 1, Obj.cells #[.int .u8 c.kind, .string c.name, .string c.field, .string c.to, .int .u8 c.v.kind, .int .i64 c.v.n, .string c.v.s] 43 (0, 0)) :: (xb, Obj.cells #[.slice vb1 x.classes.length vc1, .slice vb2 x.roots.length vc2] 78 (0, 0)) :: L))))) W := m7.perm (by first | exact List.Perm.refl _ | exact (by classical exact List.perm_iff_count.2 (fun a => by simp only [List.count_append, List.count_cons, List.cons_append, List.nil_append, List.append_assoc]; omega)) | exact (by classical exact List.perm_iff_count.2 (fun a => by simp only [List.count_append, List.count_cons, List.cons_append, List.nil_append, List.append_assoc])))
            clear hacc m7 HSR HC
            refine hK _ _ (.inr ⟨_, mS, by simp⟩) ?_
            clear hK K HS
            try simp only [Act.put, List.setIfInBounds_toArray, List.set_cons_zero, List.set_cons_succ, List.getElem_toArray, List.getElem_cons_succ, List.getElem_cons_zero]
            have HS : (fun w' => ∃ L', Mem w0 H L' w' ∧ (xb, Obj.cells #[.slice vb1 x.classes.length vc1, .slice vb2 x.roots.length vc2] 78 (0, 0)) ∈ L') W := ⟨_, mS, by simp⟩
            refine AnyFrom.pure (i := 7) (v := ?_) rfl (by kernel_rfl) (by kernel_rfl) (by kernel_rfl) (by decide) (fun _ _ _ h => h) ⟨by kernel_rfl, ?_⟩ HS ?_
            rotate_left
            · first | (intro w'; go_simp; done) | (intro w'; go_simp; with_reducible rfl)
            simp only [Act.put, List.setIfInBounds_toArray, List.set_cons_zero, List.set_cons_succ, List.getElem_toArray, List.getElem_cons_succ, List.getElem_cons_zero]
            refine AnyFrom.one (i := 9) (by kernel_rfl) ?_
            · skip
              have es := mS.eqs
              simp only [EqsL] at es
              refine AnyFrom.op rfl (by kernel_rfl) fun K hK => ?_
              go_simp
              have mT := ((mS.set (i := 0) (v := .slice b1 x.classes.length c1) .head).set (i := 1) (v := .slice b2 x.roots.length c2) .head)
              simp only [List.setIfInBounds_toArray, List.set_cons_zero, List.set_cons_succ] at mT
              refine hK _ _ (.inr ⟨_, mT, by simp⟩) ?_
              clear hK K HS es
              try simp only [Act.put, List.setIfInBounds_toArray, List.set_cons_zero, List.set_cons_succ, List.getElem_toArray, List.getElem_cons_succ, List.getElem_cons_zero]
              refine AnyFrom.done (by kernel_rfl) ?_ _
              exact key p q b1 c1 b2 c2 _ ⟨rs, Lc, Lf, L3, HRS, hac, hof, ho3, mT.perm (by first | exact List.Perm.refl _ | exact (by classical exact List.perm_iff_count.2 (fun a => by simp only [List.count_append, List.count_cons, List.cons_append, List.nil_append, List.append_assoc]; omega)) | exact (by classical exact List.perm_iff_count.2 (fun a => by simp only [List.count_append, List.count_cons, List.cons_append, List.nil_append, List.append_assoc])))⟩
    · skip
      refine AnyFrom.op rfl (by kernel_rfl) fun K hK => ?_
      go_simp
      have mA := mS.alloc (Obj.cells #[] 9 (0, 0))
      obtain ⟨p, hp⟩ : ∃ p, p = W.heap.size := ⟨_, rfl⟩
      rw [← hp] at mA
      rw [← hp]
      generalize World.alloc W _ = W at *
      clear hp mS
      have mS : Mem w0 H ((p, Obj.cells #[] 9 (0, 0)) :: ((xb + 1 + 1, Obj.cells #[.slice none 0 0, .slice none 0 0] 78 (0, 0)) :: (xb + 1, Obj.cells #[.int .u8 c.kind, .string c.name, .string c.field, .string c.to, .int .u8 c.v.kind, .int .i64 c.v.n, .string c.v.s] 43 (0, 0)) :: (xb, Obj.cells #[.slice vb1 x.classes.length vc1, .slice vb2 x.roots.length vc2] 78 (0, 0)) :: L)) W := mA.perm (by first | exact List.Perm.refl _ | exact (by classical exact List.perm_iff_count.2 (fun a => by simp only [List.count_append, List.count_cons, List.cons_append, List.nil_append, List.append_assoc]; omega)) | exact (by classical exact List.perm_iff_count.2 (fun a => by simp only [List.count_append, List.count_cons, List.cons_append, List.nil_append, List.append_assoc])))
      clear mA
      refine hK _ _ (.inr ⟨_, mS, by simp⟩) ?_
      clear hK K HS
      try simp only [Act.put, List.setIfInBounds_toArray, List.set_cons_zero, List.set_cons_succ, List.getElem_toArray, List.getElem_cons_succ, List.getElem_cons_zero]
      have HS : (fun w' => ∃ L', Mem w0 H L' w' ∧ (xb, Obj.cells #[.slice vb1 x.classes.length vc1, .slice vb2 x.roots.length vc2] 78 (0, 0)) ∈ L') W := ⟨_, mS, by simp⟩
      refine AnyFrom.two (i := 2) (j := 8) (by kernel_rfl) ?_ ?_
      · skip
        refine AnyFrom.op rfl (by kernel_rfl) fun K hK => ?_
        go_simp
        refine (CopyClasses_any _ x.classes (fun z hz => by have := HX.out.fields z hz; omega) (by have := HX.out.classes; omega) mS H1.out).mono ?_
        clear mS
        rintro e W ⟨vc, rs, Lc, Lf, rfl, hac, hof, m7⟩
        obtain ⟨b1, c1, rfl, _, _⟩ := hac.shape
        have HRS := Lib.hid hof.length
        rw [HRS.out] at hac
        rw [HRS.out]
        have mS : Mem w0 H (Lc ++ (Lf ++ ((p, Obj.cells #[] 9 (0, 0)) :: ((xb + 1 + 1, Obj.cells #[.slice none 0 0, .slice none 0 0] 78 (0, 0)) :: (xb + 1, Obj.cells #[.int .u8 c.kind, .string c.name, .string c.field, .string c.to, .int .u8 c.v.kind, .int .i64 c.v.n, .string c.v.s] 43 (0, 0)) :: (xb, Obj.cells #[.slice vb1 x.classes.length vc1, .slice vb2 x.roots.length vc2] 78 (0, 0)) :: L)))) W := m7.perm (by first | exact List.Perm.refl _ | exact (by classical exact List.perm_iff_count.2 (fun a => by simp only [List.count_append, List.count_cons, List.cons_append, List.nil_append, List.append_assoc]; omega)) | exact (by classical exact List.perm_iff_count.2 (fun a => by simp only [List.count_append, List.count_cons, List.cons_append, List.nil_append, List.append_assoc])))
        clear m7
        refine hK _ _ (.inr ⟨_, mS, by simp⟩) ?_
        clear hK K HS
        try simp only [Act.put, List.setIfInBounds_toArray, List.set_cons_zero, List.set_cons_succ, List.getElem_toArray, List.getElem_cons_succ, List.getElem_cons_zero]
        have HS : (fun w' => ∃ L', Mem w0 H L' w' ∧ (xb, Obj.cells #[.slice vb1 x.classes.length vc1, .slice vb2 x.roots.length vc2] 78 (0, 0)) ∈ L') W := ⟨_, mS, by simp⟩
        refine AnyFrom.two (i := 6) (j := 8) (by kernel_rfl) ?_ ?_
        · skip
          have mP : Mem w0 H ((p, Obj.cells #[] 9 (0, 0)) :: (Lc ++ (Lf ++ ((xb + 1 + 1, Obj.cells #[.slice none 0 0, .slice none 0 0] 78 (0, 0)) :: (xb + 1, Obj.cells #[.int .u8 c.kind, .string c.name, .string c.field, .string c.to, .int .u8 c.v.kind, .int .i64 c.v.n, .string c.v.s] 43 (0, 0)) :: (xb, Obj.cells #[.slice vb1 x.classes.length vc1, .slice vb2 x.roots.length vc2] 78 (0, 0)) :: L)))) W := mS.perm (by first | exact List.Perm.refl _ | exact (by classical exact List.perm_iff_count.2 (fun a => by simp only [List.count_append, List.count_cons, List.cons_append, List.nil_append, List.append_assoc]; omega)) | exact (by classical exact List.perm_iff_count.2 (fun a => by simp only [List.count_append, List.count_cons, List.cons_append, List.nil_append, List.append_assoc])))
          obtain ⟨news, hch, hsrc⟩ := H2.out.src mP
          have HC := Lib.hid hch; clear hch
          have HSR := Lib.hid hsrc; clear hsrc
          refine AnyFrom.opIf rfl fun K hK => ?_
          refine step_append_mem (w0 := w0) (H := H) (L := Lc ++ (Lf ++ ((xb + 1 + 1, Obj.cells #[.slice none 0 0, .slice none 0 0] 78 (0, 0)) :: (xb + 1, Obj.cells #[.int .u8 c.kind, .string c.name, .string c.field, .string c.to, .int .u8 c.v.kind, .int .i64 c.v.n, .string c.v.s] 43 (0, 0)) :: (xb, Obj.cells #[.slice vb1 x.classes.length vc1, .slice vb2 x.roots.length vc2] 78 (0, 0)) :: L))) rfl _ _ 23 rfl 9 1 16 (.string ByteArray.empty) Tryz.underlying23 (by kernel_rfl) rfl (by decide) _ 0 [] (MemAcc.row mP (Nat.le_refl _) (by decide) rfl rfl) rfl _ x.roots.length news HSR.out rfl (by rw [HC.out.length]; rfl) (by rw [(chunks_strs HC.out).1]; exact str_oneCell) (by have := HX.out.roots; omega) (by have := HX.out.roots; unfold maxLen; omega) ?_
          clear mS mP
          intro v' W hacc
          try simp only [Nat.zero_add, List.nil_append] at hacc
          obtain ⟨b2, c2, rfl, _, _⟩ := hacc.shape
          obtain ⟨L3, ho3, m7⟩ := OwnS.of hacc HC.out
          have mS : Mem w0 H (Lc ++ (Lf ++ (L3 ++ ((xb + 1 + 1, Obj.cells #[.slice none 0 0, .slice none 0 0] 78 (0, 0)) :: (xb + 1, Obj.cells #[.int .u8 c.kind, .string c.name, .string c.field, .string c.to, .int .u8 c.v.kind, .int .i64 c.v.n, .string c.v.s] 43 (0, 0)) :: (xb, Obj.cells #[.slice vb1 x.classes.length vc1, .slice vb2 x.roots.length vc2] 78 (0, 0)) :: L)))) W := m7.perm (by first | exact List.Perm.refl _ | exact (by classical exact List.perm_iff_count.2 (fun a => by simp only [List.count_append, List.count_cons, List.cons_append, List.nil_append, List.append_assoc]; omega)) | exact (by classical exact List.perm_iff_count.2 (fun a => by simp only [List.count_append, List.count_cons, List.cons_append, List.nil_append, List.append_assoc])))
          clear hacc m7 HSR HC
          refine hK _ _ (.inr ⟨_, mS, by simp⟩) ?_
          clear hK K HS
          try simp only [Act.put, List.setIfInBounds_toArray, List.set_cons_zero, List.set_cons_succ, List.getElem_toArray, List.getElem_cons_succ, List.getElem_cons_zero]
          have HS : (fun w' => ∃ L', Mem w0 H L' w' ∧ (xb, Obj.cells #[.slice vb1 x.classes.length vc1, .slice vb2 x.roots.length vc2] 78 (0, 0)) ∈ L') W := ⟨_, mS, by simp⟩
          refine AnyFrom.pure (i := 7) (v := ?_) rfl (by kernel_rfl) (by kernel_rfl) (by kernel_rfl) (by decide) (fun _ _ _ h => h) ⟨by kernel_rfl, ?_⟩ HS ?_
          rotate_left
          · first | (intro w'; go_simp; done) | (intro w'; go_simp; with_reducible rfl)
          simp only [Act.put, List.setIfInBounds_toArray, List.set_cons_zero, List.set_cons_succ, List.getElem_toArray, List.getElem_cons_succ, List.getElem_cons_zero]
          refine AnyFrom.one (i := 8) (by kernel_rfl) ?_
          · skip
            refine AnyFrom.op rfl (by kernel_rfl) fun K hK => ?_
            go_simp
            have mA := mS.alloc (Obj.cells #[.slice none 0 0, .slice none 0 0] 78 (0, 0))
            obtain ⟨q, hp⟩ : ∃ p, p = W.heap.size := ⟨_, rfl⟩
            rw [← hp] at mA
            rw [← hp]
            generalize World.alloc W _ = W at *
            clear hp mS
            have mS : Mem w0 H ((q, Obj.cells #[.slice none 0 0, .slice none 0 0] 78 (0, 0)) :: (Lc ++ (Lf ++ (L3 ++ ((xb + 1 + 1, Obj.cells #[.slice none 0 0, .slice none 0 0] 78 (0, 0)) :: (xb + 1, Obj.cells #[.int .u8 c.kind, .string c.name, .string c.field, .string c.to, .int .u8 c.v.kind, .int .i64 c.v.n, .string c.v.s] 43 (0, 0)) :: (xb, Obj.cells #[.slice vb1 x.classes.length vc1, .slice vb2 x.roots.length vc2] 78 (0, 0)) :: L))))) W := mA.perm (by first | exact List.Perm.refl _ | exact (by classical exact List.perm_iff_count.2 (fun a => by simp only [List.count_append, List.count_cons, List.cons_append, List.nil_append, List.append_assoc]; omega)) | exact (by classical exact List.perm_iff_count.2 (fun a => by simp only [List.count_append, List.count_cons, List.cons_append, List.nil_append, List.append_assoc])))
            clear mA
            refine hK _ _ (.inr ⟨_, mS, by simp⟩) ?_
            clear hK K HS
            try simp only [Act.put, List.setIfInBounds_toArray, List.set_cons_zero, List.set_cons_succ, List.getElem_toArray, List.getElem_cons_succ, List.getElem_cons_zero]
            have HS : (fun w' => ∃ L', Mem w0 H L' w' ∧ (xb, Obj.cells #[.slice vb1 x.classes.length vc1, .slice vb2 x.roots.length vc2] 78 (0, 0)) ∈ L') W := ⟨_, mS, by simp⟩
            refine AnyFrom.one (i := 9) (by kernel_rfl) ?_
            · skip
              have es := mS.eqs
              simp only [EqsL] at es
              refine AnyFrom.op rfl (by kernel_rfl) fun K hK => ?_
              go_simp
              have mT := ((mS.set (i := 0) (v := .slice b1 x.classes.length c1) .head).set (i := 1) (v := .slice b2 x.roots.length c2) .head)
              simp only [List.setIfInBounds_toArray, List.set_cons_zero, List.set_cons_succ] at mT
              refine hK _ _ (.inr ⟨_, mT, by simp⟩) ?_
              clear hK K HS es
              try simp only [Act.put, List.setIfInBounds_toArray, List.set_cons_zero, List.set_cons_succ, List.getElem_toArray, List.getElem_cons_succ, List.getElem_cons_zero]
              refine AnyFrom.done (by kernel_rfl) ?_ _
              exact key p q b1 c1 b2 c2 _ ⟨rs, Lc, Lf, L3, HRS, hac, hof, ho3, mT.perm (by first | exact List.Perm.refl _ | exact (by classical exact List.perm_iff_count.2 (fun a => by simp only [List.count_append, List.count_cons, List.cons_append, List.nil_append, List.append_assoc]; omega)) | exact (by classical exact List.perm_iff_count.2 (fun a => by simp only [List.count_append, List.count_cons, List.cons_append, List.nil_append, List.append_assoc])))⟩
        · skip
          refine AnyFrom.op rfl (by kernel_rfl) fun K hK => ?_
          go_simp
          have mA := mS.alloc (Obj.cells #[.slice none 0 0, .slice none 0 0] 78 (0, 0))
          obtain ⟨q, hp⟩ : ∃ p, p = W.heap.size := ⟨_, rfl⟩
          rw [← hp] at mA
          rw [← hp]
          generalize World.alloc W _ = W at *
          clear hp mS
          have mS : Mem w0 H ((q, Obj.cells #[.slice none 0 0, .slice none 0 0] 78 (0, 0)) :: (Lc ++ (Lf ++ ((p, Obj.cells #[] 9 (0, 0)) :: ((xb + 1 + 1, Obj.cells #[.slice none 0 0, .slice none 0 0] 78 (0, 0)) :: (xb + 1, Obj.cells #[.int .u8 c.kind, .string c.name, .string c.field, .string c.to, .int .u8 c.v.kind, .int .i64 c.v.n, .string c.v.s] 43 (0, 0)) :: (xb, Obj.cells #[.slice vb1 x.classes.length vc1, .slice vb2 x.roots.length vc2] 78 (0, 0)) :: L))))) W := mA.perm (by first | exact List.Perm.refl _ | exact (by classical exact List.perm_iff_count.2 (fun a => by simp only [List.count_append, List.count_cons, List.cons_append, List.nil_append, List.append_assoc]; omega)) | exact (by classical exact List.perm_iff_count.2 (fun a => by simp only [List.count_append, List.count_cons, List.cons_append, List.nil_append, List.append_assoc])))
          clear mA
          refine hK _ _ (.inr ⟨_, mS, by simp⟩) ?_
          clear hK K HS
          try simp only [Act.put, List.setIfInBounds_toArray, List.set_cons_zero, List.set_cons_succ, List.getElem_toArray, List.getElem_cons_succ, List.getElem_cons_zero]
          have HS : (fun w' => ∃ L', Mem w0 H L' w' ∧ (xb, Obj.cells #[.slice vb1 x.classes.length vc1, .slice vb2 x.roots.length vc2] 78 (0, 0)) ∈ L') W := ⟨_, mS, by simp⟩
          refine AnyFrom.one (i := 6) (by kernel_rfl) ?_
          · skip
            have mP : Mem w0 H ((p, Obj.cells #[] 9 (0, 0)) :: ((q, Obj.cells #[.slice none 0 0, .slice none 0 0] 78 (0, 0)) :: (Lc ++ (Lf ++ ((xb + 1 + 1, Obj.cells #[.slice none 0 0, .slice none 0 0] 78 (0, 0)) :: (xb + 1, Obj.cells #[.int .u8 c.kind, .string c.name, .string c.field, .string c.to, .int .u8 c.v.kind, .int .i64 c.v.n, .string c.v.s] 43 (0, 0)) :: (xb, Obj.cells #[.slice vb1 x.classes.length vc1, .slice vb2 x.roots.length vc2] 78 (0, 0)) :: L))))) W := mS.perm (by first | exact List.Perm.refl _ | exact (by classical exact List.perm_iff_count.2 (fun a => by simp only [List.count_append, List.count_cons, List.cons_append, List.nil_append, List.append_assoc]; omega)) | exact (by classical exact List.perm_iff_count.2 (fun a => by simp only [List.count_append, List.count_cons, List.cons_append, List.nil_append, List.append_assoc])))
            obtain ⟨news, hch, hsrc⟩ := H2.out.src mP
            have HC := Lib.hid hch; clear hch
            have HSR := Lib.hid hsrc; clear hsrc
            refine AnyFrom.opIf rfl fun K hK => ?_
            refine step_append_mem (w0 := w0) (H := H) (L := (q, Obj.cells #[.slice none 0 0, .slice none 0 0] 78 (0, 0)) :: (Lc ++ (Lf ++ ((xb + 1 + 1, Obj.cells #[.slice none 0 0, .slice none 0 0] 78 (0, 0)) :: (xb + 1, Obj.cells #[.int .u8 c.kind, .string c.name, .string c.field, .string c.to, .int .u8 c.v.kind, .int .i64 c.v.n, .string c.v.s] 43 (0, 0)) :: (xb, Obj.cells #[.slice vb1 x.classes.length vc1, .slice vb2 x.roots.length vc2] 78 (0, 0)) :: L)))) rfl _ _ 23 rfl 9 1 16 (.string ByteArray.empty) Tryz.underlying23 (by kernel_rfl) rfl (by decide) _ 0 [] (MemAcc.row mP (Nat.le_refl _) (by decide) rfl rfl) rfl _ x.roots.length news HSR.out rfl (by rw [HC.out.length]; rfl) (by rw [(chunks_strs HC.out).1]; exact str_oneCell) (by have := HX.out.roots; omega) (by have := HX.out.roots; unfold maxLen; omega) ?_
            clear mS mP
            intro v' W hacc
            try simp only [Nat.zero_add, List.nil_append] at hacc
            obtain ⟨b2, c2, rfl, _, _⟩ := hacc.shape
            obtain ⟨L3, ho3, m7⟩ := OwnS.of hacc HC.out
            have mS : Mem w0 H ((q, Obj.cells #[.slice none 0 0, .slice none 0 0] 78 (0, 0)) :: (Lc ++ (Lf ++ (L3 ++ ((xb + 1 + 1, Obj.cells #[.slice none 0 0, .slice none 0 0] 78 (0, 0)) :: (xb + 1, Obj.cells #[.int .u8 c.kind, .string c.name, .string c.field, .string c.to, .int .u8 c.v.kind, .int .i64 c.v.n, .string c.v.s] 43 (0, 0)) :: (xb, Obj.cells #[.slice vb1 x.classes.length vc1, .slice vb2 x.roots.length vc2] 78 (0, 0)) :: L))))) W := m7.perm (by first | exact List.Perm.refl _ | exact (by classical exact List.perm_iff_count.2 (fun a => by simp only [List.count_append, List.count_cons, List.cons_append, List.nil_append, List.append_assoc]; omega)) | exact (by classical exact List.perm_iff_count.2 (fun a => by simp only [List.count_append, List.count_cons, List.cons_append, List.nil_append, List.append_assoc])))
            clear hacc m7 HSR HC
            refine hK _ _ (.inr ⟨_, mS, by simp⟩) ?_
            clear hK K HS
            try simp only [Act.put, List.setIfInBounds_toArray, List.set_cons_zero, List.set_cons_succ, List.getElem_toArray, List.getElem_cons_succ, List.getElem_cons_zero]
            have HS : (fun w' => ∃ L', Mem w0 H L' w' ∧ (xb, Obj.cells #[.slice vb1 x.classes.length vc1, .slice vb2 x.roots.length vc2] 78 (0, 0)) ∈ L') W := ⟨_, mS, by simp⟩
            refine AnyFrom.pure (i := 7) (v := ?_) rfl (by kernel_rfl) (by kernel_rfl) (by kernel_rfl) (by decide) (fun _ _ _ h => h) ⟨by kernel_rfl, ?_⟩ HS ?_
            rotate_left
            · first | (intro w'; go_simp; done) | (intro w'; go_simp; with_reducible rfl)
            simp only [Act.put, List.setIfInBounds_toArray, List.set_cons_zero, List.set_cons_succ, List.getElem_toArray, List.getElem_cons_succ, List.getElem_cons_zero]
            refine AnyFrom.one (i := 9) (by kernel_rfl) ?_
            · skip
              have es := mS.eqs
              simp only [EqsL] at es
              refine AnyFrom.op rfl (by kernel_rfl) fun K hK => ?_
              go_simp
              have mT := ((mS.set (i := 0) (v := .slice b1 x.classes.length c1) .head).set (i := 1) (v := .slice b2 x.roots.length c2) .head)
              simp only [List.setIfInBounds_toArray, List.set_cons_zero, List.set_cons_succ] at mT
              refine hK _ _ (.inr ⟨_, mT, by simp⟩) ?_
              clear hK K HS es
              try simp only [Act.put, List.setIfInBounds_toArray, List.set_cons_zero, List.set_cons_succ, List.getElem_toArray, List.getElem_cons_succ, List.getElem_cons_zero]
              refine AnyFrom.done (by kernel_rfl) ?_ _
              exact key p q b1 c1 b2 c2 _ ⟨rs, Lc, Lf, L3, HRS, hac, hof, ho3, mT.perm (by first | exact List.Perm.refl _ | exact (by classical exact List.perm_iff_count.2 (fun a => by simp only [List.count_append, List.count_cons, List.cons_append, List.nil_append, List.append_assoc]; omega)) | exact (by classical exact List.perm_iff_count.2 (fun a => by simp only [List.count_append, List.count_cons, List.cons_append, List.nil_append, List.append_assoc])))⟩
      · skip
        refine AnyFrom.op rfl (by kernel_rfl) fun K hK => ?_
        go_simp
        have mA := mS.alloc (Obj.cells #[.slice none 0 0, .slice none 0 0] 78 (0, 0))
        obtain ⟨q, hp⟩ : ∃ p, p = W.heap.size := ⟨_, rfl⟩
        rw [← hp] at mA
        rw [← hp]
        generalize World.alloc W _ = W at *
        clear hp mS
        have mS : Mem w0 H ((q, Obj.cells #[.slice none 0 0, .slice none 0 0] 78 (0, 0)) :: ((p, Obj.cells #[] 9 (0, 0)) :: ((xb + 1 + 1, Obj.cells #[.slice none 0 0, .slice none 0 0] 78 (0, 0)) :: (xb + 1, Obj.cells #[.int .u8 c.kind, .string c.name, .string c.field, .string c.to, .int .u8 c.v.kind, .int .i64 c.v.n, .string c.v.s] 43 (0, 0)) :: (xb, Obj.cells #[.slice vb1 x.classes.length vc1, .slice vb2 x.roots.length vc2] 78 (0, 0)) :: L))) W := mA.perm (by first | exact List.Perm.refl _ | exact (by classical exact List.perm_iff_count.2 (fun a => by simp only [List.count_append, List.count_cons, List.cons_append, List.nil_append, List.append_assoc]; omega)) | exact (by classical exact List.perm_iff_count.2 (fun a => by simp only [List.count_append, List.count_cons, List.cons_append, List.nil_append, List.append_assoc])))
        clear mA
        refine hK _ _ (.inr ⟨_, mS, by simp⟩) ?_
        clear hK K HS
        try simp only [Act.put, List.setIfInBounds_toArray, List.set_cons_zero, List.set_cons_succ, List.getElem_toArray, List.getElem_cons_succ, List.getElem_cons_zero]
        have HS : (fun w' => ∃ L', Mem w0 H L' w' ∧ (xb, Obj.cells #[.slice vb1 x.classes.length vc1, .slice vb2 x.roots.length vc2] 78 (0, 0)) ∈ L') W := ⟨_, mS, by simp⟩
        refine AnyFrom.one (i := 2) (by kernel_rfl) ?_
        · skip
          refine AnyFrom.op rfl (by kernel_rfl) fun K hK => ?_
          go_simp
          refine (CopyClasses_any _ x.classes (fun z hz => by have := HX.out.fields z hz; omega) (by have := HX.out.classes; omega) mS H1.out).mono ?_
          clear mS
          rintro e W ⟨vc, rs, Lc, Lf, rfl, hac, hof, m7⟩
          obtain ⟨b1, c1, rfl, _, _⟩ := hac.shape
          have HRS := Lib.hid hof.length
          rw [HRS.out] at hac
          rw [HRS.out]
          have mS : Mem w0 H ((q, Obj.cells #[.slice none 0 0, .slice none 0 0] 78 (0, 0)) :: (Lc ++ (Lf ++ ((p, Obj.cells #[] 9 (0, 0)) :: ((xb + 1 + 1, Obj.cells #[.slice none 0 0, .slice none 0 0] 78 (0, 0)) :: (xb + 1, Obj.cells #[.int .u8 c.kind, .string c.name, .string c.field, .string c.to, .int .u8 c.v.kind, .int .i64 c.v.n, .string c.v.s] 43 (0, 0)) :: (xb, Obj.cells #[.slice vb1 x.classes.length vc1, .slice vb2 x.roots.length vc2] 78 (0, 0)) :: L))))) W := m7.perm (by first | exact List.Perm.refl _ | exact (by classical exact List.perm_iff_count.2 (fun a => by simp only [List.count_append, List.count_cons, List.cons_append, List.nil_append, List.append_assoc]; omega)) | exact (by classical exact List.perm_iff_count.2 (fun a => by simp only [List.count_append, List.count_cons, List.cons_append, List.nil_append, List.append_assoc])))
          clear m7
          refine hK _ _ (.inr ⟨_, mS, by simp⟩) ?_
          clear hK K HS
          try simp only [Act.put, List.setIfInBounds_toArray, List.set_cons_zero, List.set_cons_succ, List.getElem_toArray, List.getElem_cons_succ, List.getElem_cons_zero]
          have HS : (fun w' => ∃ L', Mem w0 H L' w' ∧ (xb, Obj.cells #[.slice vb1 x.classes.length vc1, .slice vb2 x.roots.length vc2] 78 (0, 0)) ∈ L') W := ⟨_, mS, by simp⟩
          refine AnyFrom.one (i := 6) (by kernel_rfl) ?_
          · skip
            have mP : Mem w0 H ((p, Obj.cells #[] 9 (0, 0)) :: ((q, Obj.cells #[.slice none 0 0, .slice none 0 0] 78 (0, 0)) :: (Lc ++ (Lf ++ ((xb + 1 + 1, Obj.cells #[.slice none 0 0, .slice none 0 0] 78 (0, 0)) :: (xb + 1, Obj.cells #[.int .u8 c.kind, .string c.name, .string c.field, .string c.to, .int .u8 c.v.kind, .int .i64 c.v.n, .string c.v.s] 43 (0, 0)) :: (xb, Obj.cells #[.slice vb1 x.classes.length vc1, .slice vb2 x.roots.length vc2] 78 (0, 0)) :: L))))) W := mS.perm (by first | exact List.Perm.refl _ | exact (by classical exact List.perm_iff_count.2 (fun a => by simp only [List.count_append, List.count_cons, List.cons_append, List.nil_append, List.append_assoc]; omega)) | exact (by classical exact List.perm_iff_count.2 (fun a => by simp only [List.count_append, List.count_cons, List.cons_append, List.nil_append, List.append_assoc])))
            obtain ⟨news, hch, hsrc⟩ := H2.out.src mP
            have HC := Lib.hid hch; clear hch
            have HSR := Lib.hid hsrc; clear hsrc
            refine AnyFrom.opIf rfl fun K hK => ?_
            refine step_append_mem (w0 := w0) (H := H) (L := (q, Obj.cells #[.slice none 0 0, .slice none 0 0] 78 (0, 0)) :: (Lc ++ (Lf ++ ((xb + 1 + 1, Obj.cells #[.slice none 0 0, .slice none 0 0] 78 (0, 0)) :: (xb + 1, Obj.cells #[.int .u8 c.kind, .string c.name, .string c.field, .string c.to, .int .u8 c.v.kind, .int .i64 c.v.n, .string c.v.s] 43 (0, 0)) :: (xb, Obj.cells #[.slice vb1 x.classes.length vc1, .slice vb2 x.roots.length vc2] 78 (0, 0)) :: L)))) rfl _ _ 23 rfl 9 1 16 (.string ByteArray.empty) Tryz.underlying23 (by kernel_rfl) rfl (by decide) _ 0 [] (MemAcc.row mP (Nat.le_refl _) (by decide) rfl rfl) rfl _ x.roots.length news HSR.out rfl (by rw [HC.out.length]; rfl) (by rw [(chunks_strs HC.out).1]; exact str_oneCell) (by have := HX.out.roots; omega) (by have := HX.out.roots; unfold maxLen; omega) ?_
            clear mS mP
            intro v' W hacc
            try simp only [Nat.zero_add, List.nil_append] at hacc
            obtain ⟨b2, c2, rfl, _, _⟩ := hacc.shape
            obtain ⟨L3, ho3, m7⟩ := OwnS.of hacc HC.out
            have mS : Mem w0 H ((q, Obj.cells #[.slice none 0 0, .slice none 0 0] 78 (0, 0)) :: (Lc ++ (Lf ++ (L3 ++ ((xb + 1 + 1, Obj.cells #[.slice none 0 0, .slice none 0 0] 78 (0, 0)) :: (xb + 1, Obj.cells #[.int .u8 c.kind, .string c.name, .string c.field, .string c.to, .int .u8 c.v.kind, .int .i64 c.v.n, .string c.v.s] 43 (0, 0)) :: (xb, Obj.cells #[.slice vb1 x.classes.length vc1, .slice vb2 x.roots.length vc2] 78 (0, 0)) :: L))))) W := m7.perm (by first | exact List.Perm.refl _ | exact (by classical exact List.perm_iff_count.2 (fun a => by simp only [List.count_append, List.count_cons, List.cons_append, List.nil_append, List.append_assoc]; omega)) | exact (by classical exact List.perm_iff_count.2 (fun a => by simp only [List.count_append, List.count_cons, List.cons_append, List.nil_append, List.append_assoc])))
            clear hacc m7 HSR HC
            refine hK _ _ (.inr ⟨_, mS, by simp⟩) ?_
            clear hK K HS
            try simp only [Act.put, List.setIfInBounds_toArray, List.set_cons_zero, List.set_cons_succ, List.getElem_toArray, List.getElem_cons_succ, List.getElem_cons_zero]
            have HS : (fun w' => ∃ L', Mem w0 H L' w' ∧ (xb, Obj.cells #[.slice vb1 x.classes.length vc1, .slice vb2 x.roots.length vc2] 78 (0, 0)) ∈ L') W := ⟨_, mS, by simp⟩
            refine AnyFrom.pure (i := 7) (v := ?_) rfl (by kernel_rfl) (by kernel_rfl) (by kernel_rfl) (by decide) (fun _ _ _ h => h) ⟨by kernel_rfl, ?_⟩ HS ?_
            rotate_left
            · first | (intro w'; go_simp; done) | (intro w'; go_simp; with_reducible rfl)
            simp only [Act.put, List.setIfInBounds_toArray, List.set_cons_zero, List.set_cons_succ, List.getElem_toArray, List.getElem_cons_succ, List.getElem_cons_zero]
            refine AnyFrom.one (i := 9) (by kernel_rfl) ?_
            · skip
              have es := mS.eqs
              simp only [EqsL] at es
              refine AnyFrom.op rfl (by kernel_rfl) fun K hK => ?_
              go_simp
              have mT := ((mS.set (i := 0) (v := .slice b1 x.classes.length c1) .head).set (i := 1) (v := .slice b2 x.roots.length c2) .head)
              simp only [List.setIfInBounds_toArray, List.set_cons_zero, List.set_cons_succ] at mT
              refine hK _ _ (.inr ⟨_, mT, by simp⟩) ?_
              clear hK K HS es
              try simp only [Act.put, List.setIfInBounds_toArray, List.set_cons_zero, List.set_cons_succ, List.getElem_toArray, List.getElem_cons_succ, List.getElem_cons_zero]
              refine AnyFrom.done (by kernel_rfl) ?_ _
              exact key p q b1 c1 b2 c2 _ ⟨rs, Lc, Lf, L3, HRS, hac, hof, ho3, mT.perm (by first | exact List.Perm.refl _ | exact (by classical exact List.perm_iff_count.2 (fun a => by simp only [List.count_append, List.count_cons, List.cons_append, List.nil_append, List.append_assoc]; omega)) | exact (by classical exact List.perm_iff_count.2 (fun a => by simp only [List.count_append, List.count_cons, List.cons_append, List.nil_append, List.append_assoc])))⟩
    · skip
      refine AnyFrom.op rfl (by kernel_rfl) fun K hK => ?_
      go_simp
      have mA := mS.alloc (Obj.cells #[.slice none 0 0, .slice none 0 0] 78 (0, 0))
      obtain ⟨q, hp⟩ : ∃ p, p = W.heap.size := ⟨_, rfl⟩
      rw [← hp] at mA
      rw [← hp]
      generalize World.alloc W _ = W at *
      clear hp mS
      have mS : Mem w0 H ((q, Obj.cells #[.slice none 0 0, .slice none 0 0] 78 (0, 0)) :: ((xb + 1 + 1, Obj.cells #[.slice none 0 0, .slice none 0 0] 78 (0, 0)) :: (xb + 1, Obj.cells #[.int .u8 c.kind, .string c.name, .string c.field, .string c.to, .int .u8 c.v.kind, .int .i64 c.v.n, .string c.v.s] 43 (0, 0)) :: (xb, Obj.cells #[.slice vb1 x.classes.length vc1, .slice vb2 x.roots.length vc2] 78 (0, 0)) :: L)) W := mA.perm (by first | exact List.Perm.refl _ | exact (by classical exact List.perm_iff_count.2 (fun a => by simp only [List.count_append, List.count_cons, List.cons_append, List.nil_append, List.append_assoc]; omega)) | exact (by classical exact List.perm_iff_count.2 (fun a => by simp only [List.count_append, List.count_cons, List.cons_append, List.nil_append, List.append_assoc])))
      clear mA
      refine hK _ _ (.inr ⟨_, mS, by simp⟩) ?_
      clear hK K HS
      try simp only [Act.put, List.setIfInBounds_toArray, List.set_cons_zero, List.set_cons_succ, List.getElem_toArray, List.getElem_cons_succ, List.getElem_cons_zero]
      have HS : (fun w' => ∃ L', Mem w0 H L' w' ∧ (xb, Obj.cells #[.slice vb1 x.classes.length vc1, .slice vb2 x.roots.length vc2] 78 (0, 0)) ∈ L') W := ⟨_, mS, by simp⟩
      refine AnyFrom.two (i := 2) (j := 3) (by kernel_rfl) ?_ ?_
      · skip
        refine AnyFrom.op rfl (by kernel_rfl) fun K hK => ?_
        go_simp
        refine (CopyClasses_any _ x.classes (fun z hz => by have := HX.out.fields z hz; omega) (by have := HX.out.classes; omega) mS H1.out).mono ?_
        clear mS
        rintro e W ⟨vc, rs, Lc, Lf, rfl, hac, hof, m7⟩
        obtain ⟨b1, c1, rfl, _, _⟩ := hac.shape
        have HRS := Lib.hid hof.length
        rw [HRS.out] at hac
        rw [HRS.out]
        have mS : Mem w0 H ((q, Obj.cells #[.slice none 0 0, .slice none 0 0] 78 (0, 0)) :: (Lc ++ (Lf ++ ((xb + 1 + 1, Obj.cells #[.slice none 0 0, .slice none 0 0] 78 (0, 0)) :: (xb + 1, Obj.cells #[.int .u8 c.kind, .string c.name, .string c.field, .string c.to, .int .u8 c.v.kind, .int .i64 c.v.n, .string c.v.s] 43 (0, 0)) :: (xb, Obj.cells #[.slice vb1 x.classes.length vc1, .slice vb2 x.roots.length vc2] 78 (0, 0)) :: L)))) W := m7.perm (by first | exact List.Perm.refl _ | exact (by classical exact List.perm_iff_count.2 (fun a => by simp only [List.count_append, List.count_cons, List.cons_append, List.nil_append, List.append_assoc]; omega)) | exact (by classical exact List.perm_iff_count.2 (fun a => by simp only [List.count_append, List.count_cons, List.cons_append, List.nil_append, List.append_assoc])))
        clear m7
        refine hK _ _ (.inr ⟨_, mS, by simp⟩) ?_
        clear hK K HS
        try simp only [Act.put, List.setIfInBounds_toArray, List.set_cons_zero, List.set_cons_succ, List.getElem_toArray, List.getElem_cons_succ, List.getElem_cons_zero]
        have HS : (fun w' => ∃ L', Mem w0 H L' w' ∧ (xb, Obj.cells #[.slice vb1 x.classes.length vc1, .slice vb2 x.roots.length vc2] 78 (0, 0)) ∈ L') W := ⟨_, mS, by simp⟩
        refine AnyFrom.one (i := 3) (by kernel_rfl) ?_
        · skip
          refine AnyFrom.op rfl (by kernel_rfl) fun K hK => ?_
          go_simp
          have mA := mS.alloc (Obj.cells #[] 9 (0, 0))
          obtain ⟨p, hp⟩ : ∃ p, p = W.heap.size := ⟨_, rfl⟩
          rw [← hp] at mA
          rw [← hp]
          generalize World.alloc W _ = W at *
          clear hp mS
          have mS : Mem w0 H ((q, Obj.cells #[.slice none 0 0, .slice none 0 0] 78 (0, 0)) :: (Lc ++ (Lf ++ ((p, Obj.cells #[] 9 (0, 0)) :: ((xb + 1 + 1, Obj.cells #[.slice none 0 0, .slice none 0 0] 78 (0, 0)) :: (xb + 1, Obj.cells #[.int .u8 c.kind, .string c.name, .string c.field, .string c.to, .int .u8 c.v.kind, .int .i64 c.v.n, .string c.v.s] 43 (0, 0)) :: (xb, Obj.cells #[.slice vb1 x.classes.length vc1, .slice vb2 x.roots.length vc2] 78 (0, 0)) :: L))))) W := mA.perm (by first | exact List.Perm.refl _ | exact (by classical exact List.perm_iff_count.2 (fun a => by simp only [List.count_append, List.count_cons, List.cons_append, List.nil_append, List.append_assoc]; omega)) | exact (by classical exact List.perm_iff_count.2 (fun a => by simp only [List.count_append, List.count_cons, List.cons_append, List.nil_append, List.append_assoc])))
          clear mA
          refine hK _ _ (.inr ⟨_, mS, by simp⟩) ?_
          clear hK K HS
          try simp only [Act.put, List.setIfInBounds_toArray, List.set_cons_zero, List.set_cons_succ, List.getElem_toArray, List.getElem_cons_succ, List.getElem_cons_zero]
          have HS : (fun w' => ∃ L', Mem w0 H L' w' ∧ (xb, Obj.cells #[.slice vb1 x.classes.length vc1, .slice vb2 x.roots.length vc2] 78 (0, 0)) ∈ L') W := ⟨_, mS, by simp⟩
          refine AnyFrom.one (i := 6) (by kernel_rfl) ?_
          · skip
            have mP : Mem w0 H ((p, Obj.cells #[] 9 (0, 0)) :: ((q, Obj.cells #[.slice none 0 0, .slice none 0 0] 78 (0, 0)) :: (Lc ++ (Lf ++ ((xb + 1 + 1, Obj.cells #[.slice none 0 0, .slice none 0 0] 78 (0, 0)) :: (xb + 1, Obj.cells #[.int .u8 c.kind, .string c.name, .string c.field, .string c.to, .int .u8 c.v.kind, .int .i64 c.v.n, .string c.v.s] 43 (0, 0)) :: (xb, Obj.cells #[.slice vb1 x.classes.length vc1, .slice vb2 x.roots.length vc2] 78 (0, 0)) :: L))))) W := mS.perm (by first | exact List.Perm.refl _ | exact (by classical exact List.perm_iff_count.2 (fun a => by simp only [List.count_append, List.count_cons, List.cons_append, List.nil_append, List.append_assoc]; omega)) | exact (by classical exact List.perm_iff_count.2 (fun a => by simp only [List.count_append, List.count_cons, List.cons_append, List.nil_append, List.append_assoc])))
            obtain ⟨news, hch, hsrc⟩ := H2.out.src mP
            have HC := Lib.hid hch; clear hch
            have HSR := Lib.hid hsrc; clear hsrc
            refine AnyFrom.opIf rfl fun K hK => ?_
            refine step_append_mem (w0 := w0) (H := H) (L := (q, Obj.cells #[.slice none 0 0, .slice none 0 0] 78 (0, 0)) :: (Lc ++ (Lf ++ ((xb + 1 + 1, Obj.cells #[.slice none 0 0, .slice none 0 0] 78 (0, 0)) :: (xb + 1, Obj.cells #[.int .u8 c.kind, .string c.name, .string c.field, .string c.to, .int .u8 c.v.kind, .int .i64 c.v.n, .string c.v.s] 43 (0, 0)) :: (xb, Obj.cells #[.slice vb1 x.classes.length vc1, .slice vb2 x.roots.length vc2] 78 (0, 0)) :: L)))) rfl _ _ 23 rfl 9 1 16 (.string ByteArray.empty) Tryz.underlying23 (by kernel_rfl) rfl (by decide) _ 0 [] (MemAcc.row mP (Nat.le_refl _) (by decide) rfl rfl) rfl _ x.roots.length news HSR.out rfl (by rw [HC.out.length]; rfl) (by rw [(chunks_strs HC.out).1]; exact str_oneCell) (by have := HX.out.roots; omega) (by have := HX.out.roots; unfold maxLen; omega) ?_
            clear mS mP
            intro v' W hacc
            try simp only [Nat.zero_add, List.nil_append] at hacc
            obtain ⟨b2, c2, rfl, _, _⟩ := hacc.shape
            obtain ⟨L3, ho3, m7⟩ := OwnS.of hacc HC.out
            have mS : Mem w0 H ((q, Obj.cells #[.slice none 0 0, .slice none 0 0] 78 (0, 0)) :: (Lc ++ (Lf ++ (L3 ++ ((xb + 1 + 1, Obj.cells #[.slice none 0 0, .slice none 0 0] 78 (0, 0)) :: (xb + 1, Obj.cells #[.int .u8 c.kind, .string c.name, .string c.field, .string c.to, .int .u8 c.v.kind, .int .i64 c.v.n, .string c.v.s] 43 (0, 0)) :: (xb, Obj.cells #[.slice vb1 x.classes.length vc1, .slice vb2 x.roots.length vc2] 78 (0, 0)) :: L))))) W := m7.perm (by first | exact List.Perm.refl _ | exact (by classical exact List.perm_iff_count.2 (fun a => by simp only [List.count_append, List.count_cons, List.cons_append, List.nil_append, List.append_assoc]; omega)) | exact (by classical exact List.perm_iff_count.2 (fun a => by simp only [List.count_append, List.count_cons, List.cons_append, List.nil_append, List.append_assoc])))
            clear hacc m7 HSR HC
            refine hK _ _ (.inr ⟨_, mS, by simp⟩) ?_
            clear hK K HS
            try simp only [Act.put, List.setIfInBounds_toArray, List.set_cons_zero, List.set_cons_succ, List.getElem_toArray, List.getElem_cons_succ, List.getElem_cons_zero]
            have HS : (fun w' => ∃ L', Mem w0 H L' w' ∧ (xb, Obj.cells #[.slice vb1 x.classes.length vc1, .slice vb2 x.roots.length vc2] 78 (0, 0)) ∈ L') W := ⟨_, mS, by simp⟩
            refine AnyFrom.pure (i := 7) (v := ?_) rfl (by kernel_rfl) (by kernel_rfl) (by kernel_rfl) (by decide) (fun _ _ _ h => h) ⟨by kernel_rfl, ?_⟩ HS ?_
            rotate_left
            · first | (intro w'; go_simp; done) | (intro w'; go_simp; with_reducible rfl)
            simp only [Act.put, List.setIfInBounds_toArray, List.set_cons_zero, List.set_cons_succ, List.getElem_toArray, List.getElem_cons_succ, List.getElem_cons_zero]
            refine AnyFrom.one (i := 9) (by kernel_rfl) ?_
            · skip
              have es := mS.eqs
              simp only [EqsL] at es
              refine AnyFrom.op rfl (by kernel_rfl) fun K hK => ?_
              go_simp
              have mT := ((mS.set (i := 0) (v := .slice b1 x.classes.length c1) .head).set (i := 1) (v := .slice b2 x.roots.length c2) .head)
              simp only [List.setIfInBounds_toArray, List.set_cons_zero, List.set_cons_succ] at mT
              refine hK _ _ (.inr ⟨_, mT, by simp⟩) ?_
              clear hK K HS es
              try simp only [Act.put, List.setIfInBounds_toArray, List.set_cons_zero, List.set_cons_succ, List.getElem_toArray, List.getElem_cons_succ, List.getElem_cons_zero]
              refine AnyFrom.done (by kernel_rfl) ?_ _
              exact key p q b1 c1 b2 c2 _ ⟨rs, Lc, Lf, L3, HRS, hac, hof, ho3, mT.perm (by first | exact List.Perm.refl _ | exact (by classical exact List.perm_iff_count.2 (fun a => by simp only [List.count_append, List.count_cons, List.cons_append, List.nil_append, List.append_assoc]; omega)) | exact (by classical exact List.perm_iff_count.2 (fun a => by simp only [List.count_append, List.count_cons, List.cons_append, List.nil_append, List.append_assoc])))⟩
      · skip
        refine AnyFrom.op rfl (by kernel_rfl) fun K hK => ?_
        go_simp
        have mA := mS.alloc (Obj.cells #[] 9 (0, 0))
        obtain ⟨p, hp⟩ : ∃ p, p = W.heap.size := ⟨_, rfl⟩
        rw [← hp] at mA
        rw [← hp]
        generalize World.alloc W _ = W at *
        clear hp mS
        have mS : Mem w0 H ((q, Obj.cells #[.slice none 0 0, .slice none 0 0] 78 (0, 0)) :: ((p, Obj.cells #[] 9 (0, 0)) :: ((xb + 1 + 1, Obj.cells #[.slice none 0 0, .slice none 0 0] 78 (0, 0)) :: (xb + 1, Obj.cells #[.int .u8 c.kind, .string c.name, .string c.field, .string c.to, .int .u8 c.v.kind, .int .i64 c.v.n, .string c.v.s] 43 (0, 0)) :: (xb, Obj.cells #[.slice vb1 x.classes.length vc1, .slice vb2 x.roots.length vc2] 78 (0, 0)) :: L))) W := mA.perm (by first | exact List.Perm.refl _ | exact (by classical exact List.perm_iff_count.2 (fun a => by simp only [List.count_append, List.count_cons, List.cons_append, List.nil_append, List.append_assoc]; omega)) | exact (by classical exact List.perm_iff_count.2 (fun a => by simp only [List.count_append, List.count_cons, List.cons_append, List.nil_append, List.append_assoc])))
        clear mA
        refine hK _ _ (.inr ⟨_, mS, by simp⟩) ?_
        clear hK K HS
        try simp only [Act.put, List.setIfInBounds_toArray, List.set_cons_zero, List.set_cons_succ, List.getElem_toArray, List.getElem_cons_succ, List.getElem_cons_zero]
        have HS : (fun w' => ∃ L', Mem w0 H L' w' ∧ (xb, Obj.cells #[.slice vb1 x.classes.length vc1, .slice vb2 x.roots.length vc2] 78 (0, 0)) ∈ L') W := ⟨_, mS, by simp⟩
        refine AnyFrom.one (i := 2) (by kernel_rfl) ?_
        · skip
          refine AnyFrom.op rfl (by kernel_rfl) fun K hK => ?_
          go_simp
          refine (CopyClasses_any _ x.classes (fun z hz => by have := HX.out.fields z hz; omega) (by have := HX.out.classes; omega) mS H1.out).mono ?_
          clear mS
          rintro e W ⟨vc, rs, Lc, Lf, rfl, hac, hof, m7⟩
          obtain ⟨b1, c1, rfl, _, _⟩ := hac.shape
          have HRS := Lib.hid hof.length
          rw [HRS.out] at hac
          rw [HRS.out]
          have mS : Mem w0 H ((q, Obj.cells #[.slice none 0 0, .slice none 0 0] 78 (0, 0)) :: (Lc ++ (Lf ++ ((p, Obj.cells #[] 9 (0, 0)) :: ((xb + 1 + 1, Obj.cells #[.slice none 0 0, .slice none 0 0] 78 (0, 0)) :: (xb + 1, Obj.cells #[.int .u8 c.kind, .string c.name, .string c.field, .string c.to, .int .u8 c.v.kind, .int .i64 c.v.n, .string c.v.s] 43 (0, 0)) :: (xb, Obj.cells #[.slice vb1 x.classes.length vc1, .slice vb2 x.roots.length vc2] 78 (0, 0)) :: L))))) W := m7.perm (by first | exact List.Perm.refl _ | exact (by classical exact List.perm_iff_count.2 (fun a => by simp only [List.count_append, List.count_cons, List.cons_append, List.nil_append, List.append_assoc]; omega)) | exact (by classical exact List.perm_iff_count.2 (fun a => by simp only [List.count_append, List.count_cons, List.cons_append, List.nil_append, List.append_assoc])))
          clear m7
          refine hK _ _ (.inr ⟨_, mS, by simp⟩) ?_
          clear hK K HS
          try simp only [Act.put, List.setIfInBounds_toArray, List.set_cons_zero, List.set_cons_succ, List.getElem_toArray, List.getElem_cons_succ, List.getElem_cons_zero]
          have HS : (fun w' => ∃ L', Mem w0 H L' w' ∧ (xb, Obj.cells #[.slice vb1 x.classes.length vc1, .slice vb2 x.roots.length vc2] 78 (0, 0)) ∈ L') W := ⟨_, mS, by simp⟩
          refine AnyFrom.one (i := 6) (by kernel_rfl) ?_
          · skip
            have mP : Mem w0 H ((p, Obj.cells #[] 9 (0, 0)) :: ((q, Obj.cells #[.slice none 0 0, .slice none 0 0] 78 (0, 0)) :: (Lc ++ (Lf ++ ((xb + 1 + 1, Obj.cells #[.slice none 0 0, .slice none 0 0] 78 (0, 0)) :: (xb + 1, Obj.cells #[.int .u8 c.kind, .string c.name, .string c.field, .string c.to, .int .u8 c.v.kind, .int .i64 c.v.n, .string c.v.s] 43 (0, 0)) :: (xb, Obj.cells #[.slice vb1 x.classes.length vc1, .slice vb2 x.roots.length vc2] 78 (0, 0)) :: L))))) W := mS.perm (by first | exact List.Perm.refl _ | exact (by classical exact List.perm_iff_count.2 (fun a => by simp only [List.count_append, List.count_cons, List.cons_append, List.nil_append, List.append_assoc]; omega)) | exact (by classical exact List.perm_iff_count.2 (fun a => by simp only [List.count_append, List.count_cons, List.cons_append, List.nil_append, List.append_assoc])))
            obtain ⟨news, hch, hsrc⟩ := H2.out.src mP
            have HC := Lib.hid hch; clear hch
            have HSR := Lib.hid hsrc; clear hsrc
            refine AnyFrom.opIf rfl fun K hK => ?_
            refine step_append_mem (w0 := w0) (H := H) (L := (q, Obj.cells #[.slice none 0 0, .slice none 0 0] 78 (0, 0)) :: (Lc ++ (Lf ++ ((xb + 1 + 1, Obj.cells #[.slice none 0 0, .slice none 0 0] 78 (0, 0)) :: (xb + 1, Obj.cells #[.int .u8 c.kind, .string c.name, .string c.field, .string c.to, .int .u8 c.v.kind, .int .i64 c.v.n, .string c.v.s] 43 (0, 0)) :: (xb, Obj.cells #[.slice vb1 x.classes.length vc1, .slice vb2 x.roots.length vc2] 78 (0, 0)) :: L)))) rfl _ _ 23 rfl 9 1 16 (.string ByteArray.empty) Tryz.underlying23 (by kernel_rfl) rfl (by decide) _ 0 [] (MemAcc.row mP (Nat.le_refl _) (by decide) rfl rfl) rfl _ x.roots.length news HSR.out rfl (by rw [HC.out.length]; rfl) (by rw [(chunks_strs HC.out).1]; exact str_oneCell) (by have := HX.out.roots; omega) (by have := HX.out.roots; unfold maxLen; omega) ?_
            clear mS mP
            intro v' W hacc
            try simp only [Nat.zero_add, List.nil_append] at hacc
            obtain ⟨b2, c2, rfl, _, _⟩ := hacc.shape
            obtain ⟨L3, ho3, m7⟩ := OwnS.of hacc HC.out
            have mS : Mem w0 H ((q, Obj.cells #[.slice none 0 0, .slice none 0 0] 78 (0, 0)) :: (Lc ++ (Lf ++ (L3 ++ ((xb + 1 + 1, Obj.cells #[.slice none 0 0, .slice none 0 0] 78 (0, 0)) :: (xb + 1, Obj.cells #[.int .u8 c.kind, .string c.name, .string c.field, .string c.to, .int .u8 c.v.kind, .int .i64 c.v.n, .string c.v.s] 43 (0, 0)) :: (xb, Obj.cells #[.slice vb1 x.classes.length vc1, .slice vb2 x.roots.length vc2] 78 (0, 0)) :: L))))) W := m7.perm (by first | exact List.Perm.refl _ | exact (by classical exact List.perm_iff_count.2 (fun a => by simp only [List.count_append, List.count_cons, List.cons_append, List.nil_append, List.append_assoc]; omega)) | exact (by classical exact List.perm_iff_count.2 (fun a => by simp only [List.count_append, List.count_cons, List.cons_append, List.nil_append, List.append_assoc])))
            clear hacc m7 HSR HC
            refine hK _ _ (.inr ⟨_, mS, by simp⟩) ?_
            clear hK K HS
            try simp only [Act.put, List.setIfInBounds_toArray, List.set_cons_zero, List.set_cons_succ, List.getElem_toArray, List.getElem_cons_succ, List.getElem_cons_zero]
            have HS : (fun w' => ∃ L', Mem w0 H L' w' ∧ (xb, Obj.cells #[.slice vb1 x.classes.length vc1, .slice vb2 x.roots.length vc2] 78 (0, 0)) ∈ L') W := ⟨_, mS, by simp⟩
            refine AnyFrom.pure (i := 7) (v := ?_) rfl (by kernel_rfl) (by kernel_rfl) (by kernel_rfl) (by decide) (fun _ _ _ h => h) ⟨by kernel_rfl, ?_⟩ HS ?_
            rotate_left
            · first | (intro w'; go_simp; done) | (intro w'; go_simp; with_reducible rfl)
            simp only [Act.put, List.setIfInBounds_toArray, List.set_cons_zero, List.set_cons_succ, List.getElem_toArray, List.getElem_cons_succ, List.getElem_cons_zero]
            refine AnyFrom.one (i := 9) (by kernel_rfl) ?_
            · skip
              have es := mS.eqs
              simp only [EqsL] at es
              refine AnyFrom.op rfl (by kernel_rfl) fun K hK => ?_
              go_simp
              have mT := ((mS.set (i := 0) (v := .slice b1 x.classes.length c1) .head).set (i := 1) (v := .slice b2 x.roots.length c2) .head)
              simp only [List.setIfInBounds_toArray, List.set_cons_zero, List.set_cons_succ] at mT
              refine hK _ _ (.inr ⟨_, mT, by simp⟩) ?_
              clear hK K HS es
              try simp only [Act.put, List.setIfInBounds_toArray, List.set_cons_zero, List.set_cons_succ, List.getElem_toArray, List.getElem_cons_succ, List.getElem_cons_zero]
              refine AnyFrom.done (by kernel_rfl) ?_ _
              exact key p q b1 c1 b2 c2 _ ⟨rs, Lc, Lf, L3, HRS, hac, hof, ho3, mT.perm (by first | exact List.Perm.refl _ | exact (by classical exact List.perm_iff_count.2 (fun a => by simp only [List.count_append, List.count_cons, List.cons_append, List.nil_append, List.append_assoc]; omega)) | exact (by classical exact List.perm_iff_count.2 (fun a => by simp only [List.count_append, List.count_cons, List.cons_append, List.nil_append, List.append_assoc])))⟩
  rintro p q b1 c1 b2 c2 W ⟨rs, Lc, Lf, L3, HRS, hac, hof, ho3, mS⟩
  clear m2
  have HO3 := Lib.hid ho3; clear ho3
  have HAC := Lib.hid hac; clear hac
  have HOF := Lib.hid hof; clear hof
  have hc2r := HO3.out.shape
  obtain ⟨_, _, hv', hc2a, hc2b⟩ := hc2r
  cases hv'
  have hc2b' := size_le_maxLen hc2b
  have M0 : Mem w0 H ((q, LBox TRL (.slice b1 x.classes.length c1) (.slice b2 x.roots.length c2)) :: (xb + 1 + 1, Obj.cells #[.slice none 0 0, .slice none 0 0] 78 (0, 0)) :: (xb + 1, Obj.cells #[.int .u8 c.kind, .string c.name, .string c.field, .string c.to, .int .u8 c.v.kind, .int .i64 c.v.n, .string c.v.s] 43 (0, 0)) :: (xb, Obj.cells #[.slice vb1 x.classes.length vc1, .slice vb2 x.roots.length vc2] 78 (0, 0)) :: (Lc ++ (Lf ++ (L3 ++ L)))) W := mS.perm (by first | exact List.Perm.refl _ | exact (by classical exact List.perm_iff_count.2 (fun a => by simp only [List.count_append, List.count_cons, List.cons_append, List.nil_append, List.append_assoc]; omega)) | exact (by classical exact List.perm_iff_count.2 (fun a => by simp only [List.count_append, List.count_cons, List.cons_append, List.nil_append, List.append_assoc])))
  clear mS
  have es := M0.eqs
  simp only [LBox, EqsL] at es
  have ns := M0.nes
  simp only [LBox, NeL, NeFrom] at ns
  by_cases h5 : 5 ≤ c.kind
  · have h5I : (5 : Int) ≤ c.kind := by omega
    go_wp2_with fail
    refine (Where_any _ x.roots c.name (H2.out.strsAt M0)).mono ?_
    rintro e w5 ⟨rfl, rfl⟩
    have HDN := Lib.hid (LayM.done_roots HFM.out h5 : x.done c = _)
    have hpl := idxF_cases (fun y => decide (y = c.name)) x.roots
    have hps : placeS x.roots c.name = idxF (fun y => decide (y = c.name)) x.roots := rfl
    rw [← hps] at hpl
    have HPL := Lib.hid hpl; clear hpl hps
    generalize hat : placeS x.roots c.name = at0 at *
    have HAT := Lib.hid hat; clear hat
    by_cases k5 : c.kind = 5
    · have e5 : ((c.kind : Int) == 5) = true := by rw [k5]; rfl
      by_cases hp : 0 ≤ at0
      · have HRD : Hid (x.done c = (6, x)) := Lib.hid (by rw [HDN.out]; unfold rootsDone; rw [HAT.out, if_pos ⟨k5, hp⟩])
        go_wp2_with fail
        have m3 := ((M0.set (i := 0) (v := .slice vb1 x.classes.length vc1) (.tail .head)).set (i := 1) (v := .slice vb2 x.roots.length vc2) (.tail .head))
        simp only [List.setIfInBounds_toArray, List.set_cons_zero, List.set_cons_succ] at m3
        have es3 := m3.eqs
        simp only [EqsL] at es3
        refine bodyPost_ret (v := .tuple #[.agg #[.slice vb1 x.classes.length vc1, .slice vb2 x.roots.length vc2], .int .i64 6]) (by simp [results, Tryz.results27, go_sem, es3]) rfl ?_
        rw [HRD.out]
        exact ⟨H, _, _, rfl, Hle.refl H, H1.out, H2.out, Mem.dropL L3 (Mem.dropL Lf (Mem.dropL Lc m3.drop.drop.drop.drop))⟩
      · have HRD : Hid (x.done c = (0, { x with roots := x.roots ++ [c.name] })) := Lib.hid (by rw [HDN.out]; unfold rootsDone; rw [HAT.out, if_neg (fun h => hp h.2), if_pos k5])
        have K5 := Lib.hid k5; clear k5
        have mA := M0.alloc (.cells #[.string c.name] 9)
        have mB : Mem w0 H (L3 ++ ((W.heap.size, Obj.cells #[.string c.name] 9 (0, 0)) :: (q, LBox TRL (.slice b1 x.classes.length c1) (.slice b2 x.roots.length c2)) :: (xb + 1 + 1, Obj.cells #[.slice none 0 0, .slice none 0 0] 78 (0, 0)) :: (xb + 1, Obj.cells #[.int .u8 c.kind, .string c.name, .string c.field, .string c.to, .int .u8 c.v.kind, .int .i64 c.v.n, .string c.v.s] 43 (0, 0)) :: (xb, Obj.cells #[.slice vb1 x.classes.length vc1, .slice vb2 x.roots.length vc2] 78 (0, 0)) :: (Lc ++ (Lf ++ L)))) (W.alloc (.cells #[.string c.name] 9)) := mA.perm (by first | exact List.Perm.refl _ | exact (by classical exact List.perm_iff_count.2 (fun a => by simp only [List.count_append, List.count_cons, List.cons_append, List.nil_append, List.append_assoc]; omega)))
        have hq1 : Hid ((x.roots.length + 1) * 16 ≤ 140737488355328) := Lib.hid (by have := HX.out.roots; omega)
        have hq2 : Hid (x.roots.length + 1 ≤ maxLen) := Lib.hid (by have := HX.out.roots; unfold maxLen; omega)
        go_wp2_with (at_builtin; go_must (refine wpList_append_mem (w0 := w0) (H := H) (L := _ :: _) rfl _ _ 23 rfl 9 1 16 (.string ByteArray.empty) Tryz.underlying23 (by kernel_rfl) rfl (by decide) (.slice b2 x.roots.length c2) x.roots.length (x.roots.map Value.string) (HO3.out.acc.join mB) rfl (.slice (some ⟨W.heap.size, 0, none⟩) 1 1) 1 [.string c.name] (Src.loc (e := 9) (cs := [.string c.name]) mB (by simp)) rfl rfl (by intro u hu; rw [List.mem_singleton.1 hu]; rfl) hq1.out hq2.out ?_))
        intro v' w6 hacc
        obtain ⟨b6, c6, rfl, _, _⟩ := hacc.shape
        obtain ⟨L6, hq6, m7⟩ := hacc.drop.split
        have ho6 : OwnS (.slice b6 (x.roots.length + 1) c6) (x.roots ++ [c.name]) L6 := ⟨by simpa using hq6, fun z hz => by
          rcases List.mem_append.1 hz with hz | hz
          · exact HO3.out.fit z hz
          · rw [List.mem_singleton.1 hz]; exact HF.out.name⟩
        have M1 : Mem w0 H ((q, LBox TRL (.slice b1 x.classes.length c1) (.slice b2 x.roots.length c2)) :: (xb + 1 + 1, Obj.cells #[.slice none 0 0, .slice none 0 0] 78 (0, 0)) :: (xb + 1, Obj.cells #[.int .u8 c.kind, .string c.name, .string c.field, .string c.to, .int .u8 c.v.kind, .int .i64 c.v.n, .string c.v.s] 43 (0, 0)) :: (xb, Obj.cells #[.slice vb1 x.classes.length vc1, .slice vb2 x.roots.length vc2] 78 (0, 0)) :: (Lc ++ (Lf ++ (L6 ++ L)))) w6 := m7.perm (by first | exact List.Perm.refl _ | exact (by classical exact List.perm_iff_count.2 (fun a => by simp only [List.count_append, List.count_cons, List.cons_append, List.nil_append, List.append_assoc]; omega)))
        clear es ns m7 mA mB hacc
        have es := M1.eqs
        simp only [LBox, EqsL] at es
        have ns := M1.nes
        simp only [LBox, NeL, NeFrom] at ns
        go_wp2_with fail
        have m3 := (((M1.set (i := 1) (v := .slice b6 (x.roots.length + 1) c6) .head).set (i := 0) (v := .slice b1 x.classes.length c1) (.tail .head)).set (i := 1) (v := .slice b6 (x.roots.length + 1) c6) (.tail .head))
        simp only [LBox, List.setIfInBounds_toArray, List.set_cons_zero, List.set_cons_succ] at m3
        have es3 := m3.eqs
        simp only [EqsL] at es3
        obtain ⟨H9, hl9, hs1, hs2, m9⟩ := freezeC (by rw [HRS.out]; exact HAC.out) HOF.out ho6 m3.drop.drop.drop.drop
        refine bodyPost_ret (v := .tuple #[.agg #[.slice b1 x.classes.length c1, .slice b6 (x.roots.length + 1) c6], .int .i64 0]) (by simp [results, Tryz.results27, go_sem, es3]) rfl ?_
        rw [HRD.out]
        exact ⟨H9, _, _, rfl, hl9, hs1, hs2, m9⟩
    · have e5 : ((c.kind : Int) == 5) = false := by simp; omega
      by_cases hp : at0 < 0
      · have HRD : Hid (x.done c = (7, x)) := Lib.hid (by rw [HDN.out]; unfold rootsDone; rw [HAT.out, if_neg (fun h => k5 h.1), if_neg k5, if_pos hp])
        go_wp2_with fail
        have m3 := ((M0.set (i := 0) (v := .slice vb1 x.classes.length vc1) (.tail .head)).set (i := 1) (v := .slice vb2 x.roots.length vc2) (.tail .head))
        simp only [List.setIfInBounds_toArray, List.set_cons_zero, List.set_cons_succ] at m3
        have es3 := m3.eqs
        simp only [EqsL] at es3
        refine bodyPost_ret (v := .tuple #[.agg #[.slice vb1 x.classes.length vc1, .slice vb2 x.roots.length vc2], .int .i64 7]) (by simp [results, Tryz.results27, go_sem, es3]) rfl ?_
        rw [HRD.out]
        exact ⟨H, _, _, rfl, Hle.refl H, H1.out, H2.out, Mem.dropL L3 (Mem.dropL Lf (Mem.dropL Lc m3.drop.drop.drop.drop))⟩
      · rcases HPL.out with ⟨h1, -⟩ | ⟨k, hk, hk2, -⟩
        · omega
        subst hk2
        by_cases k6 : c.kind = 6
        · have HRD : Hid (x.done c = (0, { x with roots := x.roots.eraseIdx k })) := Lib.hid (by rw [HDN.out]; unfold rootsDone; rw [HAT.out, if_neg (fun h => k5 h.1), if_neg k5, if_neg (by omega), if_pos k6, Int.toNat_natCast])
          have e6 : ((c.kind : Int) == 6) = true := by rw [k6]; rfl
          go_wp2_with fail
          refine (Without_any _ x.roots k hk (by have := HX.out.roots; omega) HO3.out.fit M0 (fun L' w' hm => HO3.out.strsAt hm (fun p hp => by simp [hp])) (by rintro b n cc h; cases h; omega)).mono ?_
          rintro e w6 ⟨v6, L6, rfl, ho6, m6⟩
          obtain ⟨b6, c6, rfl, _, _⟩ := ho6.shape
          have M1 : Mem w0 H ((q, LBox TRL (.slice b1 x.classes.length c1) (.slice b2 x.roots.length c2)) :: (xb + 1 + 1, Obj.cells #[.slice none 0 0, .slice none 0 0] 78 (0, 0)) :: (xb + 1, Obj.cells #[.int .u8 c.kind, .string c.name, .string c.field, .string c.to, .int .u8 c.v.kind, .int .i64 c.v.n, .string c.v.s] 43 (0, 0)) :: (xb, Obj.cells #[.slice vb1 x.classes.length vc1, .slice vb2 x.roots.length vc2] 78 (0, 0)) :: (Lc ++ (Lf ++ (L6 ++ (L3 ++ L))))) w6 := m6.perm (by first | exact List.Perm.refl _ | exact (by classical exact List.perm_iff_count.2 (fun a => by simp only [List.count_append, List.count_cons, List.cons_append, List.nil_append, List.append_assoc]; omega)) | exact (by classical exact List.perm_iff_count.2 (fun a => by simp only [List.count_append, List.count_cons, List.cons_append, List.nil_append, List.append_assoc])))
          clear es ns m6
          have es := M1.eqs
          simp only [LBox, EqsL] at es
          have ns := M1.nes
          simp only [LBox, NeL, NeFrom] at ns
          go_wp2_with fail
          have m3 := (((M1.set (i := 1) (v := .slice b6 (x.roots.eraseIdx k).length c6) .head).set (i := 0) (v := .slice b1 x.classes.length c1) (.tail .head)).set (i := 1) (v := .slice b6 (x.roots.eraseIdx k).length c6) (.tail .head))
          simp only [LBox, List.setIfInBounds_toArray, List.set_cons_zero, List.set_cons_succ] at m3
          have es3 := m3.eqs
          simp only [EqsL] at es3
          obtain ⟨H9, hl9, hs1, hs2, m9⟩ := freezeC (by rw [HRS.out]; exact HAC.out) HOF.out ho6 m3.drop.drop.drop.drop
          refine bodyPost_ret (v := .tuple #[.agg #[.slice b1 x.classes.length c1, .slice b6 (x.roots.eraseIdx k).length c6], .int .i64 0]) (by simp [results, Tryz.results27, go_sem, es3]) rfl ?_
          rw [HRD.out]
          exact ⟨H9, _, _, rfl, hl9, hs1, hs2, Mem.dropL L3 m9⟩
        · have e6 : ((c.kind : Int) == 6) = false := by simp; omega
          go_wp2_with fail
          refine (Where_any _ x.roots c.to (H2.out.strsAt M0)).mono ?_
          rintro e w6 ⟨rfl, rfl⟩
          by_cases ht : 0 ≤ placeS x.roots c.to
          · have HRD : Hid (x.done c = (6, x)) := Lib.hid (by rw [HDN.out]; unfold rootsDone; rw [HAT.out, if_neg (fun h => k5 h.1), if_neg k5, if_neg (by omega), if_neg k6, if_pos ht])
            go_wp2_with fail
            have m3 := ((M0.set (i := 0) (v := .slice vb1 x.classes.length vc1) (.tail .head)).set (i := 1) (v := .slice vb2 x.roots.length vc2) (.tail .head))
            simp only [List.setIfInBounds_toArray, List.set_cons_zero, List.set_cons_succ] at m3
            have es3 := m3.eqs
            simp only [EqsL] at es3
            refine bodyPost_ret (v := .tuple #[.agg #[.slice vb1 x.classes.length vc1, .slice vb2 x.roots.length vc2], .int .i64 6]) (by simp [results, Tryz.results27, go_sem, es3]) rfl ?_
            rw [HRD.out]
            exact ⟨H, _, _, rfl, Hle.refl H, H1.out, H2.out, Mem.dropL L3 (Mem.dropL Lf (Mem.dropL Lc m3.drop.drop.drop.drop))⟩
          · have HRD : Hid (x.done c = (0, { x with roots := x.roots.set k c.to })) := Lib.hid (by rw [HDN.out]; unfold rootsDone; rw [HAT.out, if_neg (fun h => k5 h.1), if_neg k5, if_neg (by omega), if_neg k6, if_neg ht, Int.toNat_natCast])
            obtain ⟨g, rfl, d1, hfz, hgl, -, -⟩ := HO3.out.at hk M0 (fun p hp => by simp [hp])
            have hfz1 := hfz k
            have hkI : (k : Int) < x.roots.length := by omega
            obtain ⟨L6, ho6, m7⟩ := HO3.out.set hk c.to HF.out.to (M0.perm (L' := L3 ++ ((q, LBox TRL (.slice b1 x.classes.length c1) (.slice (some ⟨g, 0, none⟩) x.roots.length c2)) :: (xb + 1 + 1, Obj.cells #[.slice none 0 0, .slice none 0 0] 78 (0, 0)) :: (xb + 1, Obj.cells #[.int .u8 c.kind, .string c.name, .string c.field, .string c.to, .int .u8 c.v.kind, .int .i64 c.v.n, .string c.v.s] 43 (0, 0)) :: (xb, Obj.cells #[.slice vb1 x.classes.length vc1, .slice vb2 x.roots.length vc2] 78 (0, 0)) :: (Lc ++ (Lf ++ L)))) (by first | exact List.Perm.refl _ | exact (by classical exact List.perm_iff_count.2 (fun a => by simp only [List.count_append, List.count_cons, List.cons_append, List.nil_append, List.append_assoc]; omega))))
            have M1 : Mem w0 H ((q, LBox TRL (.slice b1 x.classes.length c1) (.slice (some ⟨g, 0, none⟩) x.roots.length c2)) :: (xb + 1 + 1, Obj.cells #[.slice none 0 0, .slice none 0 0] 78 (0, 0)) :: (xb + 1, Obj.cells #[.int .u8 c.kind, .string c.name, .string c.field, .string c.to, .int .u8 c.v.kind, .int .i64 c.v.n, .string c.v.s] 43 (0, 0)) :: (xb, Obj.cells #[.slice vb1 x.classes.length vc1, .slice vb2 x.roots.length vc2] 78 (0, 0)) :: (Lc ++ (Lf ++ (L6 ++ L)))) _ := m7.perm (by first | exact List.Perm.refl _ | exact (by classical exact List.perm_iff_count.2 (fun a => by simp only [List.count_append, List.count_cons, List.cons_append, List.nil_append, List.append_assoc]; omega)))
            have es1 := M1.eqs
            simp only [LBox, EqsL] at es1
            have ns1 := M1.nes
            clear ns
            simp only [LBox, NeL, NeFrom] at ns1
            go_wp2_with fail
            have m3 := ((M1.set (i := 0) (v := .slice b1 x.classes.length c1) (.tail .head)).set (i := 1) (v := .slice (some ⟨g, 0, none⟩) x.roots.length c2) (.tail .head))
            simp only [LBox, List.setIfInBounds_toArray, List.set_cons_zero, List.set_cons_succ] at m3
            have es3 := m3.eqs
            simp only [EqsL] at es3
            have ho7 : OwnS (.slice (some ⟨g, 0, none⟩) x.roots.length c2) (x.roots.set k c.to) L6 := ho6
            obtain ⟨H9, hl9, hs1, hs2, m9⟩ := freezeC (by rw [HRS.out]; exact HAC.out) HOF.out ho7 m3.drop.drop.drop.drop
            refine bodyPost_ret (v := .tuple #[.agg #[.slice b1 x.classes.length c1, .slice (some ⟨g, 0, none⟩) x.roots.length c2], .int .i64 0]) (by simp [results, Tryz.results27, go_sem, es3]) rfl ?_
            rw [HRD.out]
            exact ⟨H9, _, _, rfl, hl9, hs1, hs2, m9⟩
  · have h5I : ¬ (5 : Int) ≤ c.kind := by omega
    go_wp2_with fail
    refine (RClass_any _ x.classes c.name (H1.out.clsAt M0)).mono ?_
    rintro e w5 ⟨rfl, rfl⟩
    have HDN := Lib.hid (LayM.done_classes HFM.out h5 : x.done c = _)
    have hpl := idxF_cases (fun y => decide (y.name = c.name)) x.classes
    have hps : placeC x.classes c.name = idxF (fun y => decide (y.name = c.name)) x.classes := rfl
    rw [← hps] at hpl
    have HPL := Lib.hid hpl; clear hpl hps
    generalize hat : placeC x.classes c.name = at0 at *
    have HAT := Lib.hid hat; clear hat
    by_cases hp : at0 < 0
    · have HRD : Hid (x.done c = (7, x)) := Lib.hid (by rw [HDN.out]; unfold classesDone; rw [HAT.out, if_pos hp])
      go_wp2_with fail
      have m3 := ((M0.set (i := 0) (v := .slice vb1 x.classes.length vc1) (.tail .head)).set (i := 1) (v := .slice vb2 x.roots.length vc2) (.tail .head))
      simp only [List.setIfInBounds_toArray, List.set_cons_zero, List.set_cons_succ] at m3
      have es3 := m3.eqs
      simp only [EqsL] at es3
      refine bodyPost_ret (v := .tuple #[.agg #[.slice vb1 x.classes.length vc1, .slice vb2 x.roots.length vc2], .int .i64 7]) (by simp [results, Tryz.results27, go_sem, es3]) rfl ?_
      rw [HRD.out]
      exact ⟨H, _, _, rfl, Hle.refl H, H1.out, H2.out, Mem.dropL L3 (Mem.dropL Lf (Mem.dropL Lc m3.drop.drop.drop.drop))⟩
    · rcases HPL.out with ⟨h1, -⟩ | ⟨i, hi, hi2, hnm⟩
      · omega
      subst hi2
      have hnm := of_decide_eq_true hnm
      have hi' : i < rs.length := by rw [HRS.out]; exact hi
      obtain ⟨⟨hr1, hr2⟩, L1, L0, L2, hLf, hos, hset⟩ := HOF.out.at i hi' hi
      subst hLf
      have hgl := clsCs_get rs i hi'
      have HGL := Lib.hid hgl; clear hgl
      have HOS := Lib.hid hos
      obtain ⟨fb, fc, hfv, hfc1, hfc2⟩ := hos.shape
      clear hos
      have hfl := Lib.hid (HX.out.fields _ (List.getElem_mem hi))
      have HFIN := Lib.hid (show fieldsIn x.classes i = x.classes[i].fields by unfold fieldsIn; rw [List.getElem?_eq_getElem hi])
      have HSET := Lib.hid hset; clear hset
      have HR1 := Lib.hid hr1; clear hr1
      have HNM := Lib.hid hnm; clear hnm
      generalize hfs : x.classes[i].fields = fs at *
      generalize hrv : rs[i].2 = fv at *
      subst hfv
      have HRV := Lib.hid hrv; clear hrv
      have HFS := Lib.hid hfs; clear hfs
      obtain ⟨g, rfl, -, -, -, -, -⟩ := HAC.out.at (by rw [clsCs_length, HRS.out]; omega) M0 (fun p hp => by simp [hp])
      have hfc2' := size_le_maxLen hfc2
      have hiI : (i : Int) < x.classes.length := by omega
      have HPOS := Lib.hid (show 0 < (clsCs rs).length by rw [clsCs_length, HRS.out]; omega)
      go_wp2_with fail
      clear es ns
      refine AnyFrom.start (fun w' => w' = W.drew) 8 (by kernel_rfl) ?_
      have md := M0.drew
      clear M0
      generalize W.drew = W1 at *
      have HS : W1 = W1 := rfl
      have es := md.eqs
      simp only [LBox, EqsL] at es
      have ns := md.nes
      simp only [LBox, NeL, NeFrom] at ns
      obtain ⟨g', hg', hcell, hfz, hglt, -, -⟩ := HAC.out.at HPOS.out md (fun p hp => by simp [hp])
      cases hg'
      have c1' := hcell _ _ HGL.out.1
      have c2' := hcell _ _ HGL.out.2
      clear hcell hfz hglt
      refine AnyFrom.takeT (i := 0) (v := ?_) rfl (by kernel_rfl) (by kernel_rfl) (by kernel_rfl) (by kernel_rfl) (fun _ _ _ h => h) ⟨by kernel_rfl, ?_⟩ HS ?_
      rotate_left
      · first | (rintro w' rfl; go_simp; done) | (rintro w' rfl; go_simp; with_reducible rfl)
      simp only [Act.put, List.setIfInBounds_toArray, List.set_cons_zero, List.set_cons_succ, List.getElem_toArray, List.getElem_cons_succ, List.getElem_cons_zero]
      refine AnyFrom.takeT (i := 1) (v := ?_) rfl (by kernel_rfl) (by kernel_rfl) (by kernel_rfl) (by kernel_rfl) (fun _ _ _ h => h) ⟨by kernel_rfl, ?_⟩ HS ?_
      rotate_left
      · first | (rintro w' rfl; go_simp; done) | (rintro w' rfl; go_simp; with_reducible rfl)
      simp only [Act.put, List.setIfInBounds_toArray, List.set_cons_zero, List.set_cons_succ, List.getElem_toArray, List.getElem_cons_succ, List.getElem_cons_zero]
      refine AnyFrom.takeT (i := 2) (v := ?_) rfl (by kernel_rfl) (by kernel_rfl) (by kernel_rfl) (by kernel_rfl) (fun _ _ _ h => h) ⟨by kernel_rfl, ?_⟩ HS ?_
      rotate_left
      · first | (rintro w' rfl; go_simp; done) | (rintro w' rfl; go_simp; with_reducible rfl)
      simp only [Act.put, List.setIfInBounds_toArray, List.set_cons_zero, List.set_cons_succ, List.getElem_toArray, List.getElem_cons_succ, List.getElem_cons_zero]
      refine AnyFrom.takeT (i := 3) (v := ?_) rfl (by kernel_rfl) (by kernel_rfl) (by kernel_rfl) (by kernel_rfl) (fun _ _ _ h => h) ⟨by kernel_rfl, ?_⟩ HS ?_
      rotate_left
      · first | (rintro w' rfl; go_simp; done) | (rintro w' rfl; go_simp; with_reducible rfl)
      simp only [Act.put, List.setIfInBounds_toArray, List.set_cons_zero, List.set_cons_succ, List.getElem_toArray, List.getElem_cons_succ, List.getElem_cons_zero]
      refine AnyFrom.takeT (i := 4) (v := ?_) rfl (by kernel_rfl) (by kernel_rfl) (by kernel_rfl) (by kernel_rfl) (fun _ _ _ h => h) ⟨by kernel_rfl, ?_⟩ HS ?_
      rotate_left
      · first | (rintro w' rfl; go_simp; done) | (rintro w' rfl; go_simp; with_reducible rfl)
      simp only [Act.put, List.setIfInBounds_toArray, List.set_cons_zero, List.set_cons_succ, List.getElem_toArray, List.getElem_cons_succ, List.getElem_cons_zero]
      refine AnyFrom.takeT (i := 5) (v := ?_) rfl (by kernel_rfl) (by kernel_rfl) (by kernel_rfl) (by kernel_rfl) (fun _ _ _ h => h) ⟨by kernel_rfl, ?_⟩ HS ?_
      rotate_left
      · first | (rintro w' rfl; go_simp; done) | (rintro w' rfl; go_simp; with_reducible rfl)
      simp only [Act.put, List.setIfInBounds_toArray, List.set_cons_zero, List.set_cons_succ, List.getElem_toArray, List.getElem_cons_succ, List.getElem_cons_zero]
      refine AnyFrom.one (i := 6) (by kernel_rfl) (AnyFrom.op rfl (by kernel_rfl) fun K hK => ?_)
      go_simp
      refine (Where_any _ fs c.field (HOS.out.strsAt md (fun p hp => by simp [hp]))).mono ?_
      rintro e w2 ⟨rfl, rfl⟩
      refine hK _ _ (.inr rfl) ?_
      clear hK K
      try simp only [Act.put, List.setIfInBounds_toArray, List.set_cons_zero, List.set_cons_succ, List.getElem_toArray, List.getElem_cons_succ, List.getElem_cons_zero]
      refine AnyFrom.one (i := 7) (by kernel_rfl) (AnyFrom.op rfl (by kernel_rfl) fun K hK => ?_)
      go_simp
      refine hK _ _ (.inr rfl) ?_
      clear hK K HS
      try simp only [Act.put, List.setIfInBounds_toArray, List.set_cons_zero, List.set_cons_succ, List.getElem_toArray, List.getElem_cons_succ, List.getElem_cons_zero]
      refine AnyFrom.done (by kernel_rfl) ?_ _
      have hpl1 := idxF_cases (fun y => decide (y = c.field)) fs
      have hps1 : placeS fs c.field = idxF (fun y => decide (y = c.field)) fs := rfl
      rw [← hps1] at hpl1
      have HPL1 := Lib.hid hpl1; clear hpl1 hps1
      generalize hat1 : placeS fs c.field = at1 at *
      have HAT1 := Lib.hid hat1; clear hat1
      have M0 := md
      clear md
      by_cases k4 : c.kind = 4
      · have e4 : ((c.kind : Int) == 4) = true := by rw [k4]; rfl
        go_wp2_with fail
        refine (RClass_any _ x.classes c.to (H1.out.clsAt M0)).mono ?_
        rintro e w6 ⟨rfl, rfl⟩
        by_cases hq : 0 ≤ placeC x.classes c.to
        · have HRD : Hid (x.done c = (6, x)) := Lib.hid (by rw [HDN.out, classesDone_4 HAT.out HFIN.out k4, if_pos hq])
          go_wp2_with fail
          have m3 := ((M0.set (i := 0) (v := .slice vb1 x.classes.length vc1) (.tail .head)).set (i := 1) (v := .slice vb2 x.roots.length vc2) (.tail .head))
          simp only [List.setIfInBounds_toArray, List.set_cons_zero, List.set_cons_succ] at m3
          have es3 := m3.eqs
          simp only [EqsL] at es3
          refine bodyPost_ret (v := .tuple #[.agg #[.slice vb1 x.classes.length vc1, .slice vb2 x.roots.length vc2], .int .i64 6]) (by simp [results, Tryz.results27, go_sem, es3]) rfl ?_
          rw [HRD.out]
          exact ⟨H, _, _, rfl, Hle.refl H, H1.out, H2.out, Mem.dropL L3 (Mem.dropL (L1 ++ (L0 ++ L2)) (Mem.dropL Lc m3.drop.drop.drop.drop))⟩
        · have HRD : Hid (x.done c = (0, { x with classes := x.classes.set i ⟨c.to, fs⟩ })) := Lib.hid (by rw [HDN.out, classesDone_4 HAT.out HFIN.out k4, if_neg hq])
          obtain ⟨g', hg', hcell, hfz, hglt, -, -⟩ := HAC.out.at HPOS.out M0 (fun p hp => by simp [hp])
          cases hg'
          have hfz1 := hfz (i * 2)
          clear hcell hfz es ns
          obtain ⟨Lc2, hac2, m8⟩ := HAC.out.set1 (k := i * 2) (x := .string c.to) (by rw [clsCs_length]; omega) (M0.perm (L' := Lc ++ ((q, LBox TRL (.slice (some ⟨g, 0, none⟩) x.classes.length c1) (.slice b2 x.roots.length c2)) :: (xb + 1 + 1, Obj.cells #[.slice none 0 0, .slice none 0 0] 78 (0, 0)) :: (xb + 1, Obj.cells #[.int .u8 c.kind, .string c.name, .string c.field, .string c.to, .int .u8 c.v.kind, .int .i64 c.v.n, .string c.v.s] 43 (0, 0)) :: (xb, Obj.cells #[.slice vb1 x.classes.length vc1, .slice vb2 x.roots.length vc2] 78 (0, 0)) :: ((L1 ++ (L0 ++ L2)) ++ (L3 ++ L)))) (by first | exact List.Perm.refl _ | exact (by classical exact List.perm_iff_count.2 (fun a => by simp only [List.count_append, List.count_cons, List.cons_append, List.nil_append, List.append_assoc]; omega)) | exact (by classical exact List.perm_iff_count.2 (fun a => by simp only [List.count_append, List.count_cons, List.cons_append, List.nil_append, List.append_assoc]))))
          rw [clsCs_set1 rs i hi', HRV.out] at hac2
          have hof2 := HSET.out c.to _ fs L0 HF.out.to HOS.out
          have M1 : Mem w0 H ((q, LBox TRL (.slice (some ⟨g, 0, none⟩) x.classes.length c1) (.slice b2 x.roots.length c2)) :: (xb + 1 + 1, Obj.cells #[.slice none 0 0, .slice none 0 0] 78 (0, 0)) :: (xb + 1, Obj.cells #[.int .u8 c.kind, .string c.name, .string c.field, .string c.to, .int .u8 c.v.kind, .int .i64 c.v.n, .string c.v.s] 43 (0, 0)) :: (xb, Obj.cells #[.slice vb1 x.classes.length vc1, .slice vb2 x.roots.length vc2] 78 (0, 0)) :: (Lc2 ++ ((L1 ++ (L0 ++ L2)) ++ (L3 ++ L)))) _ := m8.perm (by first | exact List.Perm.refl _ | exact (by classical exact List.perm_iff_count.2 (fun a => by simp only [List.count_append, List.count_cons, List.cons_append, List.nil_append, List.append_assoc]; omega)) | exact (by classical exact List.perm_iff_count.2 (fun a => by simp only [List.count_append, List.count_cons, List.cons_append, List.nil_append, List.append_assoc])))
          clear m8
          have es0 := M0.eqs
          simp only [LBox, EqsL] at es0
          have es := M1.eqs
          simp only [LBox, EqsL] at es
          have ns := M1.nes
          simp only [LBox, NeL, NeFrom] at ns
          go_wp2_with fail
          have m3 := ((M1.set (i := 0) (v := .slice (some ⟨g, 0, none⟩) x.classes.length c1) (.tail .head)).set (i := 1) (v := .slice b2 x.roots.length c2) (.tail .head))
          simp only [LBox, List.setIfInBounds_toArray, List.set_cons_zero, List.set_cons_succ] at m3
          have es3 := m3.eqs
          simp only [EqsL] at es3
          obtain ⟨H9, hl9, hs1, hs2, m9⟩ := freezeC (x := ⟨_, x.roots⟩) (by rw [List.length_set, HRS.out]; exact hac2) hof2 HO3.out m3.drop.drop.drop.drop
          refine bodyPost_ret (v := .tuple #[.agg #[.slice (some ⟨g, 0, none⟩) x.classes.length c1, .slice b2 x.roots.length c2], .int .i64 0]) (by simp [results, Tryz.results27, go_sem, es3]) rfl ?_
          rw [HRD.out]
          exact ⟨H9, _, _, rfl, hl9, hs1, hs2, m9⟩
      · have e4 : ((c.kind : Int) == 4) = false := by simp; omega
        by_cases k1 : c.kind = 1
        · have e1 : ((c.kind : Int) == 1) = true := by rw [k1]; rfl
          by_cases hq : 0 ≤ at1
          · have HRD : Hid (x.done c = (6, x)) := Lib.hid (by rw [HDN.out, classesDone_f HAT.out HFIN.out k4 (show fieldsDone fs c = (6, fs) by unfold fieldsDone; rw [HAT1.out, if_pos k1, if_pos hq])]; rfl)
            go_wp2_with fail
            have m3 := ((M0.set (i := 0) (v := .slice vb1 x.classes.length vc1) (.tail .head)).set (i := 1) (v := .slice vb2 x.roots.length vc2) (.tail .head))
            simp only [List.setIfInBounds_toArray, List.set_cons_zero, List.set_cons_succ] at m3
            have es3 := m3.eqs
            simp only [EqsL] at es3
            refine bodyPost_ret (v := .tuple #[.agg #[.slice vb1 x.classes.length vc1, .slice vb2 x.roots.length vc2], .int .i64 6]) (by simp [results, Tryz.results27, go_sem, es3]) rfl ?_
            rw [HRD.out]
            exact ⟨H, _, _, rfl, Hle.refl H, H1.out, H2.out, Mem.dropL L3 (Mem.dropL (L1 ++ (L0 ++ L2)) (Mem.dropL Lc m3.drop.drop.drop.drop))⟩
          · by_cases h6 : 6 ≤ fs.length
            · have h6I : (6 : Int) ≤ fs.length := by omega
              have HRD : Hid (x.done c = (8, x)) := Lib.hid (by rw [HDN.out, classesDone_f HAT.out HFIN.out k4 (show fieldsDone fs c = (8, fs) by unfold fieldsDone; rw [HAT1.out, if_pos k1, if_neg hq, if_pos h6])]; rfl)
              go_wp2_with fail
              have m3 := ((M0.set (i := 0) (v := .slice vb1 x.classes.length vc1) (.tail .head)).set (i := 1) (v := .slice vb2 x.roots.length vc2) (.tail .head))
              simp only [List.setIfInBounds_toArray, List.set_cons_zero, List.set_cons_succ] at m3
              have es3 := m3.eqs
              simp only [EqsL] at es3
              refine bodyPost_ret (v := .tuple #[.agg #[.slice vb1 x.classes.length vc1, .slice vb2 x.roots.length vc2], .int .i64 8]) (by simp [results, Tryz.results27, go_sem, es3]) rfl ?_
              rw [HRD.out]
              exact ⟨H, _, _, rfl, Hle.refl H, H1.out, H2.out, Mem.dropL L3 (Mem.dropL (L1 ++ (L0 ++ L2)) (Mem.dropL Lc m3.drop.drop.drop.drop))⟩
            · have h6I : ¬ (6 : Int) ≤ fs.length := by omega
              have HRD : Hid (x.done c = (0, { x with classes := x.classes.set i ⟨c.name, fs ++ [c.field]⟩ })) := Lib.hid (by rw [HDN.out, classesDone_f HAT.out HFIN.out k4 (show fieldsDone fs c = (0, fs ++ [c.field]) by unfold fieldsDone; rw [HAT1.out, if_pos k1, if_neg hq, if_neg h6])]; rfl)
              go_wp2_with fail
              have K1 := Lib.hid k1; clear k1
              clear es ns c1' c2'
              refine AnyFrom.start (fun w' => ∃ L', Mem w0 H L' w' ∧ (xb + 1, Obj.cells #[.int .u8 c.kind, .string c.name, .string c.field, .string c.to, .int .u8 c.v.kind, .int .i64 c.v.n, .string c.v.s] 43 (0, 0)) ∈ L' ∧ ∀ p ∈ Lc, p ∈ L') 8 (by kernel_rfl) ?_
              have me := M0.drew
              clear M0
              generalize W1.drew = W2 at *
              have HS : (fun w' => ∃ L', Mem w0 H L' w' ∧ (xb + 1, Obj.cells #[.int .u8 c.kind, .string c.name, .string c.field, .string c.to, .int .u8 c.v.kind, .int .i64 c.v.n, .string c.v.s] 43 (0, 0)) ∈ L' ∧ ∀ p ∈ Lc, p ∈ L') W2 := ⟨_, me, by simp, fun p hp => by simp [hp]⟩
              refine AnyFrom.pure (i := 0) (v := ?_) rfl (by kernel_rfl) (by kernel_rfl) (by kernel_rfl) (by decide) (fun _ _ _ h => h) ⟨by kernel_rfl, ?_⟩ HS ?_
              rotate_left
              · first | (intro w'; go_simp; done) | (intro w'; go_simp; with_reducible rfl)
              simp only [Act.put, List.setIfInBounds_toArray, List.set_cons_zero, List.set_cons_succ, List.getElem_toArray, List.getElem_cons_succ, List.getElem_cons_zero]
              refine AnyFrom.takeT (i := 1) (v := ?_) rfl (by kernel_rfl) (by kernel_rfl) (by kernel_rfl) (by kernel_rfl) (fun _ _ _ h => h) ⟨by kernel_rfl, ?_⟩ HS ?_
              rotate_left
              · first | (rintro w' ⟨L', hm, hmem, hsub⟩; have hcb := cell_of_heap (hm.loc _ hmem).1; have hlt := lt_of_heap (hm.loc _ hmem).1; simp only at hcb hlt; obtain ⟨g', hg', hcell, -, hglt, -, -⟩ := HAC.out.at HPOS.out hm hsub; cases hg'; have c2' := hcell _ _ HGL.out.2; clear hcell; go_simp; done) | (rintro w' ⟨L', hm, hmem, hsub⟩; have hcb := cell_of_heap (hm.loc _ hmem).1; have hlt := lt_of_heap (hm.loc _ hmem).1; simp only at hcb hlt; obtain ⟨g', hg', hcell, -, hglt, -, -⟩ := HAC.out.at HPOS.out hm hsub; cases hg'; have c2' := hcell _ _ HGL.out.2; clear hcell; go_simp; with_reducible rfl)
              simp only [Act.put, List.setIfInBounds_toArray, List.set_cons_zero, List.set_cons_succ, List.getElem_toArray, List.getElem_cons_succ, List.getElem_cons_zero]
              refine AnyFrom.takeT (i := 2) (v := ?_) rfl (by kernel_rfl) (by kernel_rfl) (by kernel_rfl) (by kernel_rfl) (fun _ _ _ h => h) ⟨by kernel_rfl, ?_⟩ HS ?_
              rotate_left
              · first | (rintro w' ⟨L', hm, hmem, hsub⟩; have hcb := cell_of_heap (hm.loc _ hmem).1; have hlt := lt_of_heap (hm.loc _ hmem).1; simp only at hcb hlt; obtain ⟨g', hg', hcell, -, hglt, -, -⟩ := HAC.out.at HPOS.out hm hsub; cases hg'; have c2' := hcell _ _ HGL.out.2; clear hcell; go_simp; done) | (rintro w' ⟨L', hm, hmem, hsub⟩; have hcb := cell_of_heap (hm.loc _ hmem).1; have hlt := lt_of_heap (hm.loc _ hmem).1; simp only at hcb hlt; obtain ⟨g', hg', hcell, -, hglt, -, -⟩ := HAC.out.at HPOS.out hm hsub; cases hg'; have c2' := hcell _ _ HGL.out.2; clear hcell; go_simp; with_reducible rfl)
              simp only [Act.put, List.setIfInBounds_toArray, List.set_cons_zero, List.set_cons_succ, List.getElem_toArray, List.getElem_cons_succ, List.getElem_cons_zero]
              refine AnyFrom.takeT (i := 3) (v := ?_) rfl (by kernel_rfl) (by kernel_rfl) (by kernel_rfl) (by kernel_rfl) (fun _ _ _ h => h) ⟨by kernel_rfl, ?_⟩ HS ?_
              rotate_left
              · first | (rintro w' ⟨L', hm, hmem, hsub⟩; have hcb := cell_of_heap (hm.loc _ hmem).1; have hlt := lt_of_heap (hm.loc _ hmem).1; simp only at hcb hlt; obtain ⟨g', hg', hcell, -, hglt, -, -⟩ := HAC.out.at HPOS.out hm hsub; cases hg'; have c2' := hcell _ _ HGL.out.2; clear hcell; go_simp; done) | (rintro w' ⟨L', hm, hmem, hsub⟩; have hcb := cell_of_heap (hm.loc _ hmem).1; have hlt := lt_of_heap (hm.loc _ hmem).1; simp only at hcb hlt; obtain ⟨g', hg', hcell, -, hglt, -, -⟩ := HAC.out.at HPOS.out hm hsub; cases hg'; have c2' := hcell _ _ HGL.out.2; clear hcell; go_simp; with_reducible rfl)
              simp only [Act.put, List.setIfInBounds_toArray, List.set_cons_zero, List.set_cons_succ, List.getElem_toArray, List.getElem_cons_succ, List.getElem_cons_zero]
              refine AnyFrom.takeT (i := 4) (v := ?_) rfl (by kernel_rfl) (by kernel_rfl) (by kernel_rfl) (by kernel_rfl) (fun _ _ _ h => h) ⟨by kernel_rfl, ?_⟩ HS ?_
              rotate_left
              · first | (rintro w' ⟨L', hm, hmem, hsub⟩; have hcb := cell_of_heap (hm.loc _ hmem).1; have hlt := lt_of_heap (hm.loc _ hmem).1; simp only at hcb hlt; obtain ⟨g', hg', hcell, -, hglt, -, -⟩ := HAC.out.at HPOS.out hm hsub; cases hg'; have c2' := hcell _ _ HGL.out.2; clear hcell; go_simp; done) | (rintro w' ⟨L', hm, hmem, hsub⟩; have hcb := cell_of_heap (hm.loc _ hmem).1; have hlt := lt_of_heap (hm.loc _ hmem).1; simp only at hcb hlt; obtain ⟨g', hg', hcell, -, hglt, -, -⟩ := HAC.out.at HPOS.out hm hsub; cases hg'; have c2' := hcell _ _ HGL.out.2; clear hcell; go_simp; with_reducible rfl)
              simp only [Act.put, List.setIfInBounds_toArray, List.set_cons_zero, List.set_cons_succ, List.getElem_toArray, List.getElem_cons_succ, List.getElem_cons_zero]
              refine AnyFrom.takeT (i := 5) (v := ?_) rfl (by kernel_rfl) (by kernel_rfl) (by kernel_rfl) (by kernel_rfl) (fun _ _ _ h => h) ⟨by kernel_rfl, ?_⟩ HS ?_
              rotate_left
              · first | (rintro w' ⟨L', hm, hmem, hsub⟩; have hcb := cell_of_heap (hm.loc _ hmem).1; have hlt := lt_of_heap (hm.loc _ hmem).1; simp only at hcb hlt; obtain ⟨g', hg', hcell, -, hglt, -, -⟩ := HAC.out.at HPOS.out hm hsub; cases hg'; have c2' := hcell _ _ HGL.out.2; clear hcell; go_simp; done) | (rintro w' ⟨L', hm, hmem, hsub⟩; have hcb := cell_of_heap (hm.loc _ hmem).1; have hlt := lt_of_heap (hm.loc _ hmem).1; simp only at hcb hlt; obtain ⟨g', hg', hcell, -, hglt, -, -⟩ := HAC.out.at HPOS.out hm hsub; cases hg'; have c2' := hcell _ _ HGL.out.2; clear hcell; go_simp; with_reducible rfl)
              simp only [Act.put, List.setIfInBounds_toArray, List.set_cons_zero, List.set_cons_succ, List.getElem_toArray, List.getElem_cons_succ, List.getElem_cons_zero]
              refine AnyFrom.takeT (i := 6) (v := ?_) rfl (by kernel_rfl) (by kernel_rfl) (by kernel_rfl) (by kernel_rfl) (fun _ _ _ h => h) ⟨by kernel_rfl, ?_⟩ HS ?_
              rotate_left
              · first | (rintro w' ⟨L', hm, hmem, hsub⟩; have hcb := cell_of_heap (hm.loc _ hmem).1; have hlt := lt_of_heap (hm.loc _ hmem).1; simp only at hcb hlt; obtain ⟨g', hg', hcell, -, hglt, -, -⟩ := HAC.out.at HPOS.out hm hsub; cases hg'; have c2' := hcell _ _ HGL.out.2; clear hcell; go_simp; done) | (rintro w' ⟨L', hm, hmem, hsub⟩; have hcb := cell_of_heap (hm.loc _ hmem).1; have hlt := lt_of_heap (hm.loc _ hmem).1; simp only at hcb hlt; obtain ⟨g', hg', hcell, -, hglt, -, -⟩ := HAC.out.at HPOS.out hm hsub; cases hg'; have c2' := hcell _ _ HGL.out.2; clear hcell; go_simp; with_reducible rfl)
              simp only [Act.put, List.setIfInBounds_toArray, List.set_cons_zero, List.set_cons_succ, List.getElem_toArray, List.getElem_cons_succ, List.getElem_cons_zero]
              refine AnyFrom.one (i := 7) (by kernel_rfl) (AnyFrom.op rfl (by kernel_rfl) fun K hK => ?_)
              go_simp
              have mA := me.alloc (.cells #[.string c.field] 9)
              refine hK _ _ (.inr ⟨_, mA, by simp, fun p hp => by simp [hp]⟩) ?_
              clear hK K
              try simp only [Act.put, List.setIfInBounds_toArray, List.set_cons_zero, List.set_cons_succ, List.getElem_toArray, List.getElem_cons_succ, List.getElem_cons_zero]
              have mB : Mem w0 H (L0 ++ ((W2.heap.size, Obj.cells #[.string c.field] 9 (0, 0)) :: (q, LBox TRL (.slice (some ⟨g, 0, none⟩) x.classes.length c1) (.slice b2 x.roots.length c2)) :: (xb + 1 + 1, Obj.cells #[.slice none 0 0, .slice none 0 0] 78 (0, 0)) :: (xb + 1, Obj.cells #[.int .u8 c.kind, .string c.name, .string c.field, .string c.to, .int .u8 c.v.kind, .int .i64 c.v.n, .string c.v.s] 43 (0, 0)) :: (xb, Obj.cells #[.slice vb1 x.classes.length vc1, .slice vb2 x.roots.length vc2] 78 (0, 0)) :: (Lc ++ ((L1 ++ L2) ++ (L3 ++ L))))) (W2.alloc (.cells #[.string c.field] 9)) := mA.perm (by first | exact List.Perm.refl _ | exact (by classical exact List.perm_iff_count.2 (fun a => by simp only [List.count_append, List.count_cons, List.cons_append, List.nil_append, List.append_assoc]; omega)) | exact (by classical exact List.perm_iff_count.2 (fun a => by simp only [List.count_append, List.count_cons, List.cons_append, List.nil_append, List.append_assoc])))
              refine AnyFrom.one (i := 8) (by kernel_rfl) (AnyFrom.opIf rfl fun K hK => ?_)
              refine step_append_mem (w0 := w0) (H := H) (L := _ :: _) rfl _ _ 23 rfl 9 1 16 (.string ByteArray.empty) Tryz.underlying23 (by kernel_rfl) rfl (by decide) (.slice fb fs.length fc) fs.length (fs.map Value.string) (HOS.out.acc.join mB) rfl (.slice (some ⟨W2.heap.size, 0, none⟩) 1 1) 1 [.string c.field] (Src.loc (e := 9) (cs := [.string c.field]) mB (by simp)) rfl rfl (by intro u hu; rw [List.mem_singleton.1 hu]; rfl) (by have := hfl.out; omega) (by have := hfl.out; unfold maxLen; omega) ?_
              intro v' w6 hacc
              obtain ⟨b6, c6, rfl, _, _⟩ := hacc.shape
              obtain ⟨L6, hq6, m7⟩ := hacc.drop.split
              have ho6 : OwnS (.slice b6 (fs.length + 1) c6) (fs ++ [c.field]) L6 := ⟨by simpa using hq6, fun z hz => by
                rcases List.mem_append.1 hz with hz | hz
                · exact HOS.out.fit z hz
                · rw [List.mem_singleton.1 hz]; exact HF.out.field⟩
              have mp : Mem w0 H (Lc ++ ((q, LBox TRL (.slice (some ⟨g, 0, none⟩) x.classes.length c1) (.slice b2 x.roots.length c2)) :: (xb + 1 + 1, Obj.cells #[.slice none 0 0, .slice none 0 0] 78 (0, 0)) :: (xb + 1, Obj.cells #[.int .u8 c.kind, .string c.name, .string c.field, .string c.to, .int .u8 c.v.kind, .int .i64 c.v.n, .string c.v.s] 43 (0, 0)) :: (xb, Obj.cells #[.slice vb1 x.classes.length vc1, .slice vb2 x.roots.length vc2] 78 (0, 0)) :: ((L1 ++ (L6 ++ L2)) ++ (L3 ++ L)))) w6 := m7.perm (by first | exact List.Perm.refl _ | exact (by classical exact List.perm_iff_count.2 (fun a => by simp only [List.count_append, List.count_cons, List.cons_append, List.nil_append, List.append_assoc]; omega)) | exact (by classical exact List.perm_iff_count.2 (fun a => by simp only [List.count_append, List.count_cons, List.cons_append, List.nil_append, List.append_assoc])))
              clear hacc m7 mB mA me HS
              refine hK _ _ (.inl ⟨8, by decide, by rfl⟩) ?_
              clear hK K
              try simp only [Act.put, List.setIfInBounds_toArray, List.set_cons_zero, List.set_cons_succ, List.getElem_toArray, List.getElem_cons_succ, List.getElem_cons_zero]
              obtain ⟨g', hg', hcell, hfz, hglt, -, -⟩ := HAC.out.at HPOS.out mp (fun p hp => by simp [hp])
              cases hg'
              have c2' := hcell _ _ HGL.out.2
              have hfz1 := hfz (i * 2 + 1)
              clear hcell hfz
              refine AnyFrom.one (i := 9) (by kernel_rfl) (AnyFrom.op rfl (by kernel_rfl) fun K hK => ?_)
              go_simp
              refine hK _ _ (.inl ⟨9, by decide, by rfl⟩) ?_
              clear hK K
              try simp only [Act.put, List.setIfInBounds_toArray, List.set_cons_zero, List.set_cons_succ, List.getElem_toArray, List.getElem_cons_succ, List.getElem_cons_zero]
              refine AnyFrom.one (i := 10) (by kernel_rfl) (AnyFrom.op rfl (by kernel_rfl) fun K hK => ?_)
              go_simp
              refine hK _ _ (.inl ⟨10, by decide, by rfl⟩) ?_
              clear hK K
              try simp only [Act.put, List.setIfInBounds_toArray, List.set_cons_zero, List.set_cons_succ, List.getElem_toArray, List.getElem_cons_succ, List.getElem_cons_zero]
              refine AnyFrom.one (i := 11) (by kernel_rfl) (AnyFrom.op rfl (by kernel_rfl) fun K hK => ?_)
              go_simp
              refine hK _ _ (.inl ⟨11, by decide, by rfl⟩) ?_
              clear hK K
              try simp only [Act.put, List.setIfInBounds_toArray, List.set_cons_zero, List.set_cons_succ, List.getElem_toArray, List.getElem_cons_succ, List.getElem_cons_zero]
              refine AnyFrom.done (by kernel_rfl) ?_ _
              obtain ⟨Lc2, hac2, m8⟩ := HAC.out.set1 (k := i * 2 + 1) (x := .slice b6 (fs.length + 1) c6) (by rw [clsCs_length]; omega) mp
              rw [clsCs_set2 rs i hi'] at hac2
              have hof2 := HSET.out rs[i].1 _ _ L6 (by rw [HR1.out]; exact hr2) ho6
              have hof3 : OwnF (rs.set i (rs[i].1, .slice b6 (fs.length + 1) c6)) (x.classes.set i ⟨c.name, fs ++ [c.field]⟩) (L1 ++ (L6 ++ L2)) := by rw [← HNM.out, ← HR1.out]; exact hof2
              have M1 : Mem w0 H ((q, LBox TRL (.slice (some ⟨g, 0, none⟩) x.classes.length c1) (.slice b2 x.roots.length c2)) :: (xb + 1 + 1, Obj.cells #[.slice none 0 0, .slice none 0 0] 78 (0, 0)) :: (xb + 1, Obj.cells #[.int .u8 c.kind, .string c.name, .string c.field, .string c.to, .int .u8 c.v.kind, .int .i64 c.v.n, .string c.v.s] 43 (0, 0)) :: (xb, Obj.cells #[.slice vb1 x.classes.length vc1, .slice vb2 x.roots.length vc2] 78 (0, 0)) :: (Lc2 ++ ((L1 ++ (L6 ++ L2)) ++ (L3 ++ L)))) _ := m8.perm (by first | exact List.Perm.refl _ | exact (by classical exact List.perm_iff_count.2 (fun a => by simp only [List.count_append, List.count_cons, List.cons_append, List.nil_append, List.append_assoc]; omega)) | exact (by classical exact List.perm_iff_count.2 (fun a => by simp only [List.count_append, List.count_cons, List.cons_append, List.nil_append, List.append_assoc])))
              clear m8 c2' hfz1 mp
              have es := M1.eqs
              simp only [LBox, EqsL] at es
              have ns := M1.nes
              simp only [LBox, NeL, NeFrom] at ns
              go_wp2_with fail
              have m3 := ((M1.set (i := 0) (v := .slice (some ⟨g, 0, none⟩) x.classes.length c1) (.tail .head)).set (i := 1) (v := .slice b2 x.roots.length c2) (.tail .head))
              simp only [LBox, List.setIfInBounds_toArray, List.set_cons_zero, List.set_cons_succ] at m3
              have es3 := m3.eqs
              simp only [EqsL] at es3
              obtain ⟨H9, hl9, hs1, hs2, m9⟩ := freezeC (x := ⟨_, x.roots⟩) (by rw [List.length_set, HRS.out]; exact hac2) hof3 HO3.out m3.drop.drop.drop.drop
              refine bodyPost_ret (v := .tuple #[.agg #[.slice (some ⟨g, 0, none⟩) x.classes.length c1, .slice b2 x.roots.length c2], .int .i64 0]) (by simp [results, Tryz.results27, go_sem, es3]) rfl ?_
              rw [HRD.out]
              exact ⟨H9, _, _, rfl, hl9, hs1, hs2, m9⟩
        · have e1 : ((c.kind : Int) == 1) = false := by simp; omega
          by_cases hq : at1 < 0
          · have HRD : Hid (x.done c = (7, x)) := Lib.hid (by rw [HDN.out, classesDone_f HAT.out HFIN.out k4 (show fieldsDone fs c = (7, fs) by unfold fieldsDone; rw [HAT1.out, if_neg k1, if_pos hq])]; rfl)
            go_wp2_with fail
            have m3 := ((M0.set (i := 0) (v := .slice vb1 x.classes.length vc1) (.tail .head)).set (i := 1) (v := .slice vb2 x.roots.length vc2) (.tail .head))
            simp only [List.setIfInBounds_toArray, List.set_cons_zero, List.set_cons_succ] at m3
            have es3 := m3.eqs
            simp only [EqsL] at es3
            refine bodyPost_ret (v := .tuple #[.agg #[.slice vb1 x.classes.length vc1, .slice vb2 x.roots.length vc2], .int .i64 7]) (by simp [results, Tryz.results27, go_sem, es3]) rfl ?_
            rw [HRD.out]
            exact ⟨H, _, _, rfl, Hle.refl H, H1.out, H2.out, Mem.dropL L3 (Mem.dropL (L1 ++ (L0 ++ L2)) (Mem.dropL Lc m3.drop.drop.drop.drop))⟩
          · rcases HPL1.out with ⟨h1, -⟩ | ⟨k, hk, hk2, -⟩
            · omega
            subst hk2
            have hkI : (k : Int) < fs.length := by omega
            by_cases k2 : c.kind = 2
            · have e2 : ((c.kind : Int) == 2) = true := by rw [k2]; rfl
              have HRD : Hid (x.done c = (0, { x with classes := x.classes.set i ⟨c.name, fs.eraseIdx k⟩ })) := Lib.hid (by rw [HDN.out, classesDone_f HAT.out HFIN.out k4 (show fieldsDone fs c = (0, fs.eraseIdx k) by unfold fieldsDone; rw [HAT1.out, if_neg k1, if_neg (by omega), if_pos k2, Int.toNat_natCast])]; rfl)
              have K2 := Lib.hid k2; clear k2
              go_wp2_with fail
              refine (Without_any _ fs k hk (by have := hfl.out; omega) HOS.out.fit M0 (fun L' w' hm => HOS.out.strsAt hm (fun p hp => by simp [hp])) (by rintro b n cc h; cases h; omega)).mono ?_
              rintro e w6 ⟨v6, L6, rfl, ho6, m6⟩
              obtain ⟨b6, c6, rfl, _, _⟩ := ho6.shape
              have mp : Mem w0 H (Lc ++ ((q, LBox TRL (.slice (some ⟨g, 0, none⟩) x.classes.length c1) (.slice b2 x.roots.length c2)) :: (xb + 1 + 1, Obj.cells #[.slice none 0 0, .slice none 0 0] 78 (0, 0)) :: (xb + 1, Obj.cells #[.int .u8 c.kind, .string c.name, .string c.field, .string c.to, .int .u8 c.v.kind, .int .i64 c.v.n, .string c.v.s] 43 (0, 0)) :: (xb, Obj.cells #[.slice vb1 x.classes.length vc1, .slice vb2 x.roots.length vc2] 78 (0, 0)) :: ((L1 ++ (L6 ++ L2)) ++ (L3 ++ (L0 ++ L))))) w6 := m6.perm (by first | exact List.Perm.refl _ | exact (by classical exact List.perm_iff_count.2 (fun a => by simp only [List.count_append, List.count_cons, List.cons_append, List.nil_append, List.append_assoc]; omega)) | exact (by classical exact List.perm_iff_count.2 (fun a => by simp only [List.count_append, List.count_cons, List.cons_append, List.nil_append, List.append_assoc])))
              clear es ns c1' c2' m6
              obtain ⟨g', hg', hcell, hfz, hglt, -, -⟩ := HAC.out.at HPOS.out mp (fun p hp => by simp [hp])
              cases hg'
              have c2' := hcell _ _ HGL.out.2
              have hfz1 := hfz (i * 2 + 1)
              clear hcell hfz
              obtain ⟨Lc2, hac2, m8⟩ := HAC.out.set1 (k := i * 2 + 1) (x := .slice b6 (fs.eraseIdx k).length c6) (by rw [clsCs_length]; omega) mp
              rw [clsCs_set2 rs i hi'] at hac2
              have hof2 := HSET.out rs[i].1 _ _ L6 (by rw [HR1.out]; exact hr2) ho6
              have hof3 : OwnF (rs.set i (rs[i].1, .slice b6 (fs.eraseIdx k).length c6)) (x.classes.set i ⟨c.name, fs.eraseIdx k⟩) (L1 ++ (L6 ++ L2)) := by rw [← HNM.out, ← HR1.out]; exact hof2
              have M1 : Mem w0 H ((q, LBox TRL (.slice (some ⟨g, 0, none⟩) x.classes.length c1) (.slice b2 x.roots.length c2)) :: (xb + 1 + 1, Obj.cells #[.slice none 0 0, .slice none 0 0] 78 (0, 0)) :: (xb + 1, Obj.cells #[.int .u8 c.kind, .string c.name, .string c.field, .string c.to, .int .u8 c.v.kind, .int .i64 c.v.n, .string c.v.s] 43 (0, 0)) :: (xb, Obj.cells #[.slice vb1 x.classes.length vc1, .slice vb2 x.roots.length vc2] 78 (0, 0)) :: (Lc2 ++ ((L1 ++ (L6 ++ L2)) ++ (L3 ++ (L0 ++ L))))) _ := m8.perm (by first | exact List.Perm.refl _ | exact (by classical exact List.perm_iff_count.2 (fun a => by simp only [List.count_append, List.count_cons, List.cons_append, List.nil_append, List.append_assoc]; omega)) | exact (by classical exact List.perm_iff_count.2 (fun a => by simp only [List.count_append, List.count_cons, List.cons_append, List.nil_append, List.append_assoc])))
              clear m8
              have es := M1.eqs
              simp only [LBox, EqsL] at es
              have ns := M1.nes
              simp only [LBox, NeL, NeFrom] at ns
              go_wp2_with fail
              have m3 := ((M1.set (i := 0) (v := .slice (some ⟨g, 0, none⟩) x.classes.length c1) (.tail .head)).set (i := 1) (v := .slice b2 x.roots.length c2) (.tail .head))
              simp only [LBox, List.setIfInBounds_toArray, List.set_cons_zero, List.set_cons_succ] at m3
              have es3 := m3.eqs
              simp only [EqsL] at es3
              obtain ⟨H9, hl9, hs1, hs2, m9⟩ := freezeC (x := ⟨_, x.roots⟩) (by rw [List.length_set, HRS.out]; exact hac2) hof3 HO3.out m3.drop.drop.drop.drop
              refine bodyPost_ret (v := .tuple #[.agg #[.slice (some ⟨g, 0, none⟩) x.classes.length c1, .slice b2 x.roots.length c2], .int .i64 0]) (by simp [results, Tryz.results27, go_sem, es3]) rfl ?_
              rw [HRD.out]
              exact ⟨H9, _, _, rfl, hl9, hs1, hs2, Mem.dropL L0 m9⟩
            · have e2 : ((c.kind : Int) == 2) = false := by simp; omega
              go_wp2_with fail
              clear es ns c1' c2'
              refine AnyFrom.start (fun w' => w' = W1.drew) 9 (by kernel_rfl) ?_
              have me := M0.drew
              clear M0
              generalize W1.drew = W2 at *
              have HS : W2 = W2 := rfl
              have es := me.eqs
              simp only [LBox, EqsL] at es
              have ns := me.nes
              simp only [LBox, NeL, NeFrom] at ns
              obtain ⟨g', hg', hcell, hfz, hglt, -, -⟩ := HAC.out.at HPOS.out me (fun p hp => by simp [hp])
              cases hg'
              have c2' := hcell _ _ HGL.out.2
              clear hcell hfz
              refine AnyFrom.takeT (i := 0) (v := ?_) rfl (by kernel_rfl) (by kernel_rfl) (by kernel_rfl) (by kernel_rfl) (fun _ _ _ h => h) ⟨by kernel_rfl, ?_⟩ HS ?_
              rotate_left
              · first | (rintro w' rfl; go_simp; done) | (rintro w' rfl; go_simp; with_reducible rfl)
              simp only [Act.put, List.setIfInBounds_toArray, List.set_cons_zero, List.set_cons_succ, List.getElem_toArray, List.getElem_cons_succ, List.getElem_cons_zero]
              refine AnyFrom.takeT (i := 1) (v := ?_) rfl (by kernel_rfl) (by kernel_rfl) (by kernel_rfl) (by kernel_rfl) (fun _ _ _ h => h) ⟨by kernel_rfl, ?_⟩ HS ?_
              rotate_left
              · first | (rintro w' rfl; go_simp; done) | (rintro w' rfl; go_simp; with_reducible rfl)
              simp only [Act.put, List.setIfInBounds_toArray, List.set_cons_zero, List.set_cons_succ, List.getElem_toArray, List.getElem_cons_succ, List.getElem_cons_zero]
              refine AnyFrom.takeT (i := 2) (v := ?_) rfl (by kernel_rfl) (by kernel_rfl) (by kernel_rfl) (by kernel_rfl) (fun _ _ _ h => h) ⟨by kernel_rfl, ?_⟩ HS ?_
              rotate_left
              · first | (rintro w' rfl; go_simp; done) | (rintro w' rfl; go_simp; with_reducible rfl)
              simp only [Act.put, List.setIfInBounds_toArray, List.set_cons_zero, List.set_cons_succ, List.getElem_toArray, List.getElem_cons_succ, List.getElem_cons_zero]
              refine AnyFrom.takeT (i := 3) (v := ?_) rfl (by kernel_rfl) (by kernel_rfl) (by kernel_rfl) (by kernel_rfl) (fun _ _ _ h => h) ⟨by kernel_rfl, ?_⟩ HS ?_
              rotate_left
              · first | (rintro w' rfl; go_simp; done) | (rintro w' rfl; go_simp; with_reducible rfl)
              simp only [Act.put, List.setIfInBounds_toArray, List.set_cons_zero, List.set_cons_succ, List.getElem_toArray, List.getElem_cons_succ, List.getElem_cons_zero]
              refine AnyFrom.takeT (i := 4) (v := ?_) rfl (by kernel_rfl) (by kernel_rfl) (by kernel_rfl) (by kernel_rfl) (fun _ _ _ h => h) ⟨by kernel_rfl, ?_⟩ HS ?_
              rotate_left
              · first | (rintro w' rfl; go_simp; done) | (rintro w' rfl; go_simp; with_reducible rfl)
              simp only [Act.put, List.setIfInBounds_toArray, List.set_cons_zero, List.set_cons_succ, List.getElem_toArray, List.getElem_cons_succ, List.getElem_cons_zero]
              refine AnyFrom.takeT (i := 5) (v := ?_) rfl (by kernel_rfl) (by kernel_rfl) (by kernel_rfl) (by kernel_rfl) (fun _ _ _ h => h) ⟨by kernel_rfl, ?_⟩ HS ?_
              rotate_left
              · first | (rintro w' rfl; go_simp; done) | (rintro w' rfl; go_simp; with_reducible rfl)
              simp only [Act.put, List.setIfInBounds_toArray, List.set_cons_zero, List.set_cons_succ, List.getElem_toArray, List.getElem_cons_succ, List.getElem_cons_zero]
              refine AnyFrom.one (i := 6) (by kernel_rfl) (AnyFrom.op rfl (by kernel_rfl) fun K hK => ?_)
              go_simp
              refine (Where_any _ fs c.to (HOS.out.strsAt me (fun p hp => by simp [hp]))).mono ?_
              rintro e w2 ⟨rfl, rfl⟩
              refine hK _ _ (.inr rfl) ?_
              clear hK K
              try simp only [Act.put, List.setIfInBounds_toArray, List.set_cons_zero, List.set_cons_succ, List.getElem_toArray, List.getElem_cons_succ, List.getElem_cons_zero]
              refine AnyFrom.pure (i := 7) (v := ?_) rfl (by kernel_rfl) (by kernel_rfl) (by kernel_rfl) (by decide) (fun _ _ _ h => h) ⟨by kernel_rfl, ?_⟩ HS ?_
              rotate_left
              · first | (intro w'; go_simp; done) | (intro w'; go_simp; with_reducible rfl)
              simp only [Act.put, List.setIfInBounds_toArray, List.set_cons_zero, List.set_cons_succ, List.getElem_toArray, List.getElem_cons_succ, List.getElem_cons_zero]
              refine AnyFrom.one (i := 8) (by kernel_rfl) (AnyFrom.op rfl (by kernel_rfl) fun K hK => ?_)
              go_simp
              refine hK _ _ (.inr rfl) ?_
              clear hK K HS
              try simp only [Act.put, List.setIfInBounds_toArray, List.set_cons_zero, List.set_cons_succ, List.getElem_toArray, List.getElem_cons_succ, List.getElem_cons_zero]
              refine AnyFrom.done (by kernel_rfl) ?_ _
              by_cases ht : 0 ≤ placeS fs c.to
              · have HRD : Hid (x.done c = (6, x)) := Lib.hid (by rw [HDN.out, classesDone_f HAT.out HFIN.out k4 (show fieldsDone fs c = (6, fs) by unfold fieldsDone; rw [HAT1.out, if_neg k1, if_neg (by omega), if_neg k2, if_pos ht])]; rfl)
                have M0 := me
                have htb : decide (0 ≤ placeS fs c.to) = true := decide_eq_true ht
                go_wp2_with fail
                have m3 := ((M0.set (i := 0) (v := .slice vb1 x.classes.length vc1) (.tail .head)).set (i := 1) (v := .slice vb2 x.roots.length vc2) (.tail .head))
                simp only [List.setIfInBounds_toArray, List.set_cons_zero, List.set_cons_succ] at m3
                have es3 := m3.eqs
                simp only [EqsL] at es3
                refine bodyPost_ret (v := .tuple #[.agg #[.slice vb1 x.classes.length vc1, .slice vb2 x.roots.length vc2], .int .i64 6]) (by simp [results, Tryz.results27, go_sem, es3]) rfl ?_
                rw [HRD.out]
                exact ⟨H, _, _, rfl, Hle.refl H, H1.out, H2.out, Mem.dropL L3 (Mem.dropL (L1 ++ (L0 ++ L2)) (Mem.dropL Lc m3.drop.drop.drop.drop))⟩
              · have HRD : Hid (x.done c = (0, { x with classes := x.classes.set i ⟨c.name, fs.set k c.to⟩ })) := Lib.hid (by rw [HDN.out, classesDone_f HAT.out HFIN.out k4 (show fieldsDone fs c = (0, fs.set k c.to) by unfold fieldsDone; rw [HAT1.out, if_neg k1, if_neg (by omega), if_neg k2, if_neg ht, Int.toNat_natCast])]; rfl)
                go_wp2_with fail
                clear es ns c2'
                obtain ⟨z, rfl, -, -, -, -, -⟩ := HOS.out.at hk me (fun p hp => by simp [hp])
                refine AnyFrom.start (fun w' => w' = W2.drew) 8 (by kernel_rfl) ?_
                have mf := me.drew
                clear me
                generalize W2.drew = W3 at *
                have HS : W3 = W3 := rfl
                have es := mf.eqs
                simp only [LBox, EqsL] at es
                have ns := mf.nes
                simp only [LBox, NeL, NeFrom] at ns
                obtain ⟨g', hg', hcell, hfz, hglt, -, -⟩ := HAC.out.at HPOS.out mf (fun p hp => by simp [hp])
                cases hg'
                have c2' := hcell _ _ HGL.out.2
                clear hcell hfz
                refine AnyFrom.takeT (i := 0) (v := ?_) rfl (by kernel_rfl) (by kernel_rfl) (by kernel_rfl) (by kernel_rfl) (fun _ _ _ h => h) ⟨by kernel_rfl, ?_⟩ HS ?_
                rotate_left
                · first | (rintro w' rfl; go_simp; done) | (rintro w' rfl; go_simp; with_reducible rfl)
                simp only [Act.put, List.setIfInBounds_toArray, List.set_cons_zero, List.set_cons_succ, List.getElem_toArray, List.getElem_cons_succ, List.getElem_cons_zero]
                refine AnyFrom.takeT (i := 1) (v := ?_) rfl (by kernel_rfl) (by kernel_rfl) (by kernel_rfl) (by kernel_rfl) (fun _ _ _ h => h) ⟨by kernel_rfl, ?_⟩ HS ?_
                rotate_left
                · first | (rintro w' rfl; go_simp; done) | (rintro w' rfl; go_simp; with_reducible rfl)
                simp only [Act.put, List.setIfInBounds_toArray, List.set_cons_zero, List.set_cons_succ, List.getElem_toArray, List.getElem_cons_succ, List.getElem_cons_zero]
                refine AnyFrom.takeT (i := 2) (v := ?_) rfl (by kernel_rfl) (by kernel_rfl) (by kernel_rfl) (by kernel_rfl) (fun _ _ _ h => h) ⟨by kernel_rfl, ?_⟩ HS ?_
                rotate_left
                · first | (rintro w' rfl; go_simp; done) | (rintro w' rfl; go_simp; with_reducible rfl)
                simp only [Act.put, List.setIfInBounds_toArray, List.set_cons_zero, List.set_cons_succ, List.getElem_toArray, List.getElem_cons_succ, List.getElem_cons_zero]
                refine AnyFrom.takeT (i := 3) (v := ?_) rfl (by kernel_rfl) (by kernel_rfl) (by kernel_rfl) (by kernel_rfl) (fun _ _ _ h => h) ⟨by kernel_rfl, ?_⟩ HS ?_
                rotate_left
                · first | (rintro w' rfl; go_simp; done) | (rintro w' rfl; go_simp; with_reducible rfl)
                simp only [Act.put, List.setIfInBounds_toArray, List.set_cons_zero, List.set_cons_succ, List.getElem_toArray, List.getElem_cons_succ, List.getElem_cons_zero]
                refine AnyFrom.takeT (i := 4) (v := ?_) rfl (by kernel_rfl) (by kernel_rfl) (by kernel_rfl) (by kernel_rfl) (fun _ _ _ h => h) ⟨by kernel_rfl, ?_⟩ HS ?_
                rotate_left
                · first | (rintro w' rfl; go_simp; done) | (rintro w' rfl; go_simp; with_reducible rfl)
                simp only [Act.put, List.setIfInBounds_toArray, List.set_cons_zero, List.set_cons_succ, List.getElem_toArray, List.getElem_cons_succ, List.getElem_cons_zero]
                refine AnyFrom.takeT (i := 5) (v := ?_) rfl (by kernel_rfl) (by kernel_rfl) (by kernel_rfl) (by kernel_rfl) (fun _ _ _ h => h) ⟨by kernel_rfl, ?_⟩ HS ?_
                rotate_left
                · first | (rintro w' rfl; go_simp; done) | (rintro w' rfl; go_simp; with_reducible rfl)
                simp only [Act.put, List.setIfInBounds_toArray, List.set_cons_zero, List.set_cons_succ, List.getElem_toArray, List.getElem_cons_succ, List.getElem_cons_zero]
                refine AnyFrom.takeT (i := 6) (v := ?_) rfl (by kernel_rfl) (by kernel_rfl) (by kernel_rfl) (by kernel_rfl) (fun _ _ _ h => h) ⟨by kernel_rfl, ?_⟩ HS ?_
                rotate_left
                · first | (rintro w' rfl; go_simp; done) | (rintro w' rfl; go_simp; with_reducible rfl)
                simp only [Act.put, List.setIfInBounds_toArray, List.set_cons_zero, List.set_cons_succ, List.getElem_toArray, List.getElem_cons_succ, List.getElem_cons_zero]
                refine AnyFrom.pure (i := 7) (v := ?_) rfl (by kernel_rfl) (by kernel_rfl) (by kernel_rfl) (by decide) (fun _ _ _ h => h) ⟨by kernel_rfl, ?_⟩ HS ?_
                rotate_left
                · first | (intro w'; go_simp; done) | (intro w'; go_simp; with_reducible rfl)
                simp only [Act.put, List.setIfInBounds_toArray, List.set_cons_zero, List.set_cons_succ, List.getElem_toArray, List.getElem_cons_succ, List.getElem_cons_zero]
                obtain ⟨z', hz', d1, hfz, hgl9, -, -⟩ := HOS.out.at hk mf (fun p hp => by simp [hp])
                cases hz'
                have hfz1 := hfz k
                refine AnyFrom.one (i := 8) (by kernel_rfl) (AnyFrom.op rfl (by kernel_rfl) fun K hK => ?_)
                go_simp
                refine hK _ _ (.inl ⟨8, by decide, by rfl⟩) ?_
                clear hK K HS
                try simp only [Act.put, List.setIfInBounds_toArray, List.set_cons_zero, List.set_cons_succ, List.getElem_toArray, List.getElem_cons_succ, List.getElem_cons_zero]
                refine AnyFrom.done (by kernel_rfl) ?_ _
                obtain ⟨L6, ho6, m7⟩ := HOS.out.set hk c.to HF.out.to (mf.perm (L' := L0 ++ ((q, LBox TRL (.slice (some ⟨g, 0, none⟩) x.classes.length c1) (.slice b2 x.roots.length c2)) :: (xb + 1 + 1, Obj.cells #[.slice none 0 0, .slice none 0 0] 78 (0, 0)) :: (xb + 1, Obj.cells #[.int .u8 c.kind, .string c.name, .string c.field, .string c.to, .int .u8 c.v.kind, .int .i64 c.v.n, .string c.v.s] 43 (0, 0)) :: (xb, Obj.cells #[.slice vb1 x.classes.length vc1, .slice vb2 x.roots.length vc2] 78 (0, 0)) :: (Lc ++ ((L1 ++ L2) ++ (L3 ++ L))))) (by first | exact List.Perm.refl _ | exact (by classical exact List.perm_iff_count.2 (fun a => by simp only [List.count_append, List.count_cons, List.cons_append, List.nil_append, List.append_assoc]; omega)) | exact (by classical exact List.perm_iff_count.2 (fun a => by simp only [List.count_append, List.count_cons, List.cons_append, List.nil_append, List.append_assoc]))))
                have ho7 : OwnS (.slice (some ⟨z, 0, none⟩) fs.length fc) (fs.set k c.to) L6 := ho6
                have hof2 := HSET.out rs[i].1 _ _ L6 (by rw [HR1.out]; exact hr2) ho7
                have hrs2 : rs.set i (rs[i].1, .slice (some ⟨z, 0, none⟩) fs.length fc) = rs := by
                  rw [← HRV.out]
                  exact List.set_getElem_self hi'
                rw [hrs2] at hof2
                have hof3 : OwnF rs (x.classes.set i ⟨c.name, fs.set k c.to⟩) (L1 ++ (L6 ++ L2)) := by rw [← HNM.out, ← HR1.out]; exact hof2
                have M1 : Mem w0 H ((q, LBox TRL (.slice (some ⟨g, 0, none⟩) x.classes.length c1) (.slice b2 x.roots.length c2)) :: (xb + 1 + 1, Obj.cells #[.slice none 0 0, .slice none 0 0] 78 (0, 0)) :: (xb + 1, Obj.cells #[.int .u8 c.kind, .string c.name, .string c.field, .string c.to, .int .u8 c.v.kind, .int .i64 c.v.n, .string c.v.s] 43 (0, 0)) :: (xb, Obj.cells #[.slice vb1 x.classes.length vc1, .slice vb2 x.roots.length vc2] 78 (0, 0)) :: (Lc ++ ((L1 ++ (L6 ++ L2)) ++ (L3 ++ L)))) _ := m7.perm (by first | exact List.Perm.refl _ | exact (by classical exact List.perm_iff_count.2 (fun a => by simp only [List.count_append, List.count_cons, List.cons_append, List.nil_append, List.append_assoc]; omega)) | exact (by classical exact List.perm_iff_count.2 (fun a => by simp only [List.count_append, List.count_cons, List.cons_append, List.nil_append, List.append_assoc])))
                clear es ns c2' d1 hfz hfz1 m7
                have es := M1.eqs
                simp only [LBox, EqsL] at es
                have ns := M1.nes
                simp only [LBox, NeL, NeFrom] at ns
                go_wp2_with fail
                have m3 := ((M1.set (i := 0) (v := .slice (some ⟨g, 0, none⟩) x.classes.length c1) (.tail .head)).set (i := 1) (v := .slice b2 x.roots.length c2) (.tail .head))
                simp only [LBox, List.setIfInBounds_toArray, List.set_cons_zero, List.set_cons_succ] at m3
                have es3 := m3.eqs
                simp only [EqsL] at es3
                obtain ⟨H9, hl9, hs1, hs2, m9⟩ := freezeC (x := ⟨_, x.roots⟩) (by rw [HRS.out]; exact HAC.out) hof3 HO3.out m3.drop.drop.drop.drop
                refine bodyPost_ret (v := .tuple #[.agg #[.slice (some ⟨g, 0, none⟩) x.classes.length c1, .slice b2 x.roots.length c2], .int .i64 0]) (by simp [results, Tryz.results27, go_sem, es3]) rfl ?_
                rw [HRD.out]
                exact ⟨H9, _, _, rfl, hl9, hs1, hs2, m9⟩
end Go.Proofs.YtbioklhoolkhkabGreat
