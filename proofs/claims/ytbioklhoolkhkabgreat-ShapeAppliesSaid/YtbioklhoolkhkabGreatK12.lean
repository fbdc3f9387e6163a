/- The walk: a change done to the classes of a layout of the call's own. The walks: changes done one after the other; Apply. The walk: Apply of the program. The walks of the reference: lists of texts, of classes and of changes compared. The walks of the reference: lists of classes and of changes compared with themselves. -/
import Derived.Test.YtbioklhoolkhkabGreatK11
namespace Go.Proofs.YtbioklhoolkhkabGreat
set_option linter.unusedVariables false
set_option linter.unusedSimpArgs false
open Go.RowKit

def fieldsIn (cs : List ClassM) (k : Nat) : List ByteArray := match cs[k]? with
  | some c => c.fields
  | none => []
def classesDone (cs : List ClassM) (c : ChangeM) : Int × List ClassM :=
  if placeC cs c.name < 0 then (7, cs)
  else if c.kind = 4 then (if 0 ≤ placeC cs c.to then (6, cs) else (0, cs.set (placeC cs c.name).toNat ⟨c.to, fieldsIn cs (placeC cs c.name).toNat⟩))
  else if (fieldsDone (fieldsIn cs (placeC cs c.name).toNat) c).1 ≠ 0 then ((fieldsDone (fieldsIn cs (placeC cs c.name).toNat) c).1, cs)
  else (0, cs.set (placeC cs c.name).toNat ⟨c.name, (fieldsDone (fieldsIn cs (placeC cs c.name).toNat) c).2⟩)
theorem inClasses_eq (x : LayM) (c : ChangeM) : x.inClasses c = ((classesDone x.classes c).1, { x with classes := (classesDone x.classes c).2 }) := by
  have hf : ∀ k, x.fieldsAt k = fieldsIn x.classes k := fun k => rfl
  unfold LayM.inClasses classesDone
  simp only [hf]
  repeat' split
  all_goals rfl
theorem classesDone_f {cs : List ClassM} {c : ChangeM} {i : Nat} {fs : List ByteArray} (hat : placeC cs c.name = (i : Int)) (hfin : fieldsIn cs i = fs) (h4 : ¬ c.kind = 4) {e : Int} {fs' : List ByteArray} (hfd : fieldsDone fs c = (e, fs')) :
    classesDone cs c = if e ≠ 0 then (e, cs) else (0, cs.set i ⟨c.name, fs'⟩) := by
  unfold classesDone
  rw [hat, if_neg (by omega), if_neg h4, Int.toNat_natCast, hfin, hfd]
theorem classesDone_4 {cs : List ClassM} {c : ChangeM} {i : Nat} {fs : List ByteArray} (hat : placeC cs c.name = (i : Int)) (hfin : fieldsIn cs i = fs) (h4 : c.kind = 4) :
    classesDone cs c = if 0 ≤ placeC cs c.to then (6, cs) else (0, cs.set i ⟨c.to, fs⟩) := by
  unfold classesDone
  rw [hat, if_neg (by omega), if_pos h4, Int.toNat_natCast, hfin]
def ClassesR (b : Nat) (vc vr : Value) (r : Int × List ClassM) (w0 : World) (H : Hp) (R : List (Nat × Obj)) (e : Ending) (w' : World) : Prop :=
  ∃ rs' Lc' Lf', e = .returned (.int .i64 r.1) ∧ AccL 39 2 vc rs'.length (clsCs rs') Lc' ∧ OwnF rs' r.2 Lf' ∧ Mem w0 H ((b, LBox TLay vc vr) :: (Lc' ++ (Lf' ++ R))) w'
theorem perm_ic1 {α : Type} (x b : α) (Lc L1 L0 L2 R : List α) : (x :: b :: (Lc ++ ((L1 ++ (L0 ++ L2)) ++ R))).Perm (L0 ++ (x :: b :: (Lc ++ (L1 ++ (L2 ++ R))))) := (by classical exact List.perm_iff_count.2 (fun a => by simp only [List.count_append, List.count_cons, List.cons_append, List.nil_append, List.append_assoc]; omega))
theorem perm_ic2 {α : Type} (x b : α) (Lc L1 L0 L2 R : List α) : (L0 ++ (x :: b :: (Lc ++ (L1 ++ (L2 ++ R))))).Perm (Lc ++ (x :: b :: ((L1 ++ (L0 ++ L2)) ++ R))) := (by classical exact List.perm_iff_count.2 (fun a => by simp only [List.count_append, List.count_cons, List.cons_append, List.nil_append, List.append_assoc]; omega))
theorem perm_ic3 {α : Type} (x b : α) (Lc F R : List α) : (Lc ++ (x :: b :: (F ++ R))).Perm (x :: b :: (Lc ++ (F ++ R))) := (by classical exact List.perm_iff_count.2 (fun a => by simp only [List.count_append, List.count_cons, List.cons_append, List.nil_append, List.append_assoc]; omega))
theorem perm_ic4 {α : Type} (x b : α) (Lc F R : List α) : (x :: b :: (Lc ++ (F ++ R))).Perm (Lc ++ (x :: b :: (F ++ R))) := (by classical exact List.perm_iff_count.2 (fun a => by simp only [List.count_append, List.count_cons, List.cons_append, List.nil_append, List.append_assoc]; omega))
theorem perm_ic5 {α : Type} (y x b : α) (Lc L1 L0 L2 R : List α) : (y :: x :: b :: (Lc ++ ((L1 ++ (L0 ++ L2)) ++ R))).Perm (L0 ++ (y :: x :: b :: (Lc ++ (L1 ++ (L2 ++ R))))) := (by classical exact List.perm_iff_count.2 (fun a => by simp only [List.count_append, List.count_cons, List.cons_append, List.nil_append, List.append_assoc]; omega))
theorem perm_ic6 {α : Type} (y x b : α) (Lc F R : List α) : (y :: x :: b :: (Lc ++ (F ++ R))).Perm (x :: b :: (Lc ++ (y :: (F ++ R)))) := (by classical exact List.perm_iff_count.2 (fun a => by simp only [List.count_append, List.count_cons, List.cons_append, List.nil_append, List.append_assoc]; omega))
theorem perm_ia1 {α : Type} (x b : α) (Lc F : List α) : (x :: b :: (Lc ++ F)).Perm (b :: (Lc ++ (x :: F))) := (by classical exact List.perm_iff_count.2 (fun a => by simp only [List.count_append, List.count_cons, List.cons_append, List.nil_append, List.append_assoc]; omega))
theorem perm_ia2 {α : Type} (x b : α) (Lc F : List α) : (b :: (Lc ++ (x :: F))).Perm (x :: b :: (Lc ++ F)) := (by classical exact List.perm_iff_count.2 (fun a => by simp only [List.count_append, List.count_cons, List.cons_append, List.nil_append, List.append_assoc]; omega))
set_option maxRecDepth 10000 in
set_option maxHeartbeats 8000000 in
theorem inClasses_any (b : Nat) (vc vr : Value) (cs : List ClassM) (rs : List (ByteArray × Value)) (c : ChangeM) (hf : c.fit) (hn : ∀ x ∈ cs, x.fields.length ≤ 100000) (hnc : cs.length ≤ 100000) {w0 w : World} {H : Hp} {Lc Lf R : List (Nat × Obj)} (hac : AccL 39 2 vc rs.length (clsCs rs) Lc) (hof : OwnF rs cs Lf) (m : Mem w0 H ((b, LBox TLay vc vr) :: (Lc ++ (Lf ++ R))) w) (hvr : ∃ cb cn cc, vr = .slice cb cn cc) :
    Calls Tryz.prog 46 #[.pointer (some ⟨b, 0, none⟩), c.val] w (ClassesR b vc vr (classesDone cs c) w0 H R) := by
  obtain ⟨rb, rn, rc, rfl⟩ := hvr
  have HF := Lib.hid hf; clear hf
  have HN := Lib.hid hn; clear hn
  have HAC := Lib.hid hac
  have HOF := Lib.hid hof
  obtain ⟨cb, cc, rfl, hcc1, hcc2⟩ := hac.shape
  have HRL : Hid (rs.length = cs.length) := Lib.hid hof.length
  have HRN := Lib.hid hof.rowsN
  clear hof hac
  have hcc2' := size_le_maxLen hcc2
  have m1 := m.alloc (CBox c)
  generalize hx : w.heap.size = xb at *
  have m2 := m1.perm (List.Perm.swap _ _ _)
  have mu := m1
  unfold LBox CBox at mu
  have es := mu.eqs; simp only [EqsL, and_true] at es
  have ns := mu.nes; simp only [NeL, NeFrom, and_true, true_and] at ns
  have hpl := idxF_cases (fun x => decide (x.name = c.name)) cs
  have hps : placeC cs c.name = idxF (fun x => decide (x.name = c.name)) cs := rfl
  rw [← hps] at hpl
  have HPS := Lib.hid hps; clear hps
  have HPL := Lib.hid hpl; clear hpl
  unfold ChangeM.val
  go_enter Tryz.func46, Tryz.ntmps46
  go_wp2_with fail
  refine ((LayClass_any b _ _ cs rs c.name (R := (xb, CBox c) :: (Lf ++ R)) (m1.perm (perm_ia1 _ _ _ _)) HAC.out HRN.out)).mono ?_
  rintro e w1 ⟨rfl, m3⟩
  have m4 := m3.perm (perm_ia2 _ _ _ _)
  clear es ns mu m1 m2 m3 m
  generalize hat : placeC cs c.name = at0 at *
  by_cases hp : at0 < 0
  · have HRD : Hid (classesDone cs c = (7, cs)) := Lib.hid (by unfold classesDone; rw [hat, if_pos hp])
    go_wp2_with fail
    go_ret
    rw [HRD.out]
    exact ⟨rs, Lc, Lf, rfl, HAC.out, HOF.out, m4.drop⟩
  · rcases HPL.out with ⟨h1, -⟩ | ⟨i, hi, hi2, hnm⟩
    · omega
    subst hi2
    have hnm := of_decide_eq_true hnm
    have hi' : i < rs.length := by rw [HRL.out]; exact hi
    obtain ⟨⟨hr1, hr2⟩, L1, L0, L2, hLf, hos, hset⟩ := HOF.out.at i hi' hi
    subst hLf
    have hgl := clsCs_get rs i hi'
    have HGL := Lib.hid hgl; clear hgl
    have HOS := Lib.hid hos
    obtain ⟨fb, fc, hfv, hfc1, hfc2⟩ := hos.shape
    clear hos
    have hfl := HN.out _ (List.getElem_mem hi)
    have hfin : fieldsIn cs i = cs[i].fields := by unfold fieldsIn; rw [List.getElem?_eq_getElem hi]
    have HFIN := Lib.hid hfin; clear hfin
    have HSET := Lib.hid hset; clear hset
    have HR1 := Lib.hid hr1; clear hr1
    have HNM := Lib.hid hnm; clear hnm
    have hcn := cs[i].name
    generalize hfs : cs[i].fields = fs at *
    generalize hrv : rs[i].2 = fv at *
    subst hfv
    have HRV := Lib.hid hrv; clear hrv
    have HFS := Lib.hid hfs; clear hfs
    obtain ⟨g, rfl, -, -, -, -, -⟩ := HAC.out.at (by rw [clsCs_length]; omega) m4 (fun p hp => by simp [hp])
    have hfc2' := size_le_maxLen hfc2
    have hiI : (i : Int) < rs.length := by omega
    have mu := m4
    unfold LBox CBox at mu
    have es := mu.eqs
    simp only [EqsL] at es
    have ns := mu.nes
    simp only [NeL, NeFrom] at ns
    go_wp2_with fail
    clear es ns mu
    have HAT := Lib.hid hat; clear hat
    refine AnyFrom.start (fun w' => w' = w1.drew) 8 (by kernel_rfl) ?_
    have md := m4.drew
    clear m4
    generalize w1.drew = W at *
    have HS : W = W := rfl
    have mu := md
    unfold LBox CBox at mu
    have es := mu.eqs
    simp only [EqsL] at es
    have ns := mu.nes
    simp only [NeL, NeFrom] at ns
    obtain ⟨g', hg', hcell, hfz, hglt, -, -⟩ := HAC.out.at (by rw [clsCs_length]; omega) md (fun p hp => by simp [hp])
    cases hg'
    have c1 := hcell _ _ HGL.out.1
    have c2 := hcell _ _ HGL.out.2
    clear hcell hfz hglt
    refine AnyFrom.takeT (i := 0) (v := ?_) rfl (by kernel_rfl) (by kernel_rfl) (by kernel_rfl) (by kernel_rfl) (fun _ _ _ h => h) ⟨by kernel_rfl, ?_⟩ HS ?_
    rotate_left
    · first | (rintro w' rfl; go_simp; done) | (rintro w' rfl; go_simp; with_reducible rfl)
    simp only [Act.put, List.setIfInBounds_toArray, List.set_cons_zero, List.set_cons_succ, List.getElem_toArray, List.getElem_cons_succ, List.getElem_cons_zero]
    refine AnyFrom.takeT (i := 1) (v := ?_) rfl (by kernel_rfl) (by kernel_rfl) (by kernel_rfl) (by kernel_rfl) (fun _ _ _ h => h) ⟨by kernel_rfl, ?_⟩ HS ?_
    rotate_left
    · first | (rintro w' rfl; go_simp; done) | (rintro w' rfl; go_simp; with_reducible rfl)
    simp only [Act.put, List.setIfInBounds_toArray, List.set_cons_zero, List.set_cons_succ, List.getElem_toArray, List.getElem_cons_succ, List.getElem_cons_zero]
    refine AnyFrom.takeT (i := 2) (v := ?_) rfl (by kernel_rfl) (by kernel_rfl) (by kernel_rfl) (by kernel_rfl) (fun _ _ _ h => h) ⟨by kernel_rfl, ?_⟩ HS ?_
    rotate_left
    · first | (rintro w' rfl; go_simp; done) | (rintro w' rfl; go_simp; with_reducible rfl)
    simp only [Act.put, List.setIfInBounds_toArray, List.set_cons_zero, List.set_cons_succ, List.getElem_toArray, List.getElem_cons_succ, List.getElem_cons_zero]
    refine AnyFrom.takeT (i := 3) (v := ?_) rfl (by kernel_rfl) (by kernel_rfl) (by kernel_rfl) (by kernel_rfl) (fun _ _ _ h => h) ⟨by kernel_rfl, ?_⟩ HS ?_
    rotate_left
    · first | (rintro w' rfl; go_simp; done) | (rintro w' rfl; go_simp; with_reducible rfl)
    simp only [Act.put, List.setIfInBounds_toArray, List.set_cons_zero, List.set_cons_succ, List.getElem_toArray, List.getElem_cons_succ, List.getElem_cons_zero]
    refine AnyFrom.takeT (i := 4) (v := ?_) rfl (by kernel_rfl) (by kernel_rfl) (by kernel_rfl) (by kernel_rfl) (fun _ _ _ h => h) ⟨by kernel_rfl, ?_⟩ HS ?_
    rotate_left
    · first | (rintro w' rfl; go_simp; done) | (rintro w' rfl; go_simp; with_reducible rfl)
    simp only [Act.put, List.setIfInBounds_toArray, List.set_cons_zero, List.set_cons_succ, List.getElem_toArray, List.getElem_cons_succ, List.getElem_cons_zero]
    refine AnyFrom.takeT (i := 5) (v := ?_) rfl (by kernel_rfl) (by kernel_rfl) (by kernel_rfl) (by kernel_rfl) (fun _ _ _ h => h) ⟨by kernel_rfl, ?_⟩ HS ?_
    rotate_left
    · first | (rintro w' rfl; go_simp; done) | (rintro w' rfl; go_simp; with_reducible rfl)
    simp only [Act.put, List.setIfInBounds_toArray, List.set_cons_zero, List.set_cons_succ, List.getElem_toArray, List.getElem_cons_succ, List.getElem_cons_zero]
    refine AnyFrom.one (i := 6) (by kernel_rfl) (AnyFrom.op rfl (by kernel_rfl) fun K hK => ?_)
    go_simp
    refine (Index_any _ fs c.field (HOS.out.strsAt md (fun p hp => by simp [hp]))).mono ?_
    rintro e w2 ⟨rfl, rfl⟩
    refine hK _ _ (.inr rfl) ?_
    clear hK K
    try simp only [Act.put, List.setIfInBounds_toArray, List.set_cons_zero, List.set_cons_succ, List.getElem_toArray, List.getElem_cons_succ, List.getElem_cons_zero]
    refine AnyFrom.one (i := 7) (by kernel_rfl) (AnyFrom.op rfl (by kernel_rfl) fun K hK => ?_)
    go_simp
    refine hK _ _ (.inr rfl) ?_
    clear hK K HS
    try simp only [Act.put, List.setIfInBounds_toArray, List.set_cons_zero, List.set_cons_succ, List.getElem_toArray, List.getElem_cons_succ, List.getElem_cons_zero]
    refine AnyFrom.done (by kernel_rfl) ?_ _
    have hpl1 := idxF_cases (fun x => decide (x = c.field)) fs
    have hps1 : placeS fs c.field = idxF (fun x => decide (x = c.field)) fs := rfl
    rw [← hps1] at hpl1
    have HPL1 := Lib.hid hpl1; clear hpl1 hps1
    generalize hat1 : placeS fs c.field = at1 at *
    have HAT1 := Lib.hid hat1; clear hat1
    by_cases k1 : c.kind = 1
    · have e1 : ((c.kind : Int) == 1) = true := by rw [k1]; rfl
      by_cases hq : 0 ≤ at1
      · have HRD : Hid (classesDone cs c = (6, cs)) := Lib.hid ((classesDone_f HAT.out HFIN.out (by omega) (show fieldsDone fs c = (6, fs) by unfold fieldsDone; rw [HAT1.out, if_pos k1, if_pos hq])).trans rfl)
        go_wp2_with fail
        go_ret
        rw [HRD.out]
        exact ⟨rs, Lc, _, rfl, HAC.out, HOF.out, md.drop⟩
      · by_cases h6 : 6 ≤ fs.length
        · have h6I : (6 : Int) ≤ fs.length := by omega
          have HRD : Hid (classesDone cs c = (8, cs)) := Lib.hid ((classesDone_f HAT.out HFIN.out (by omega) (show fieldsDone fs c = (8, fs) by unfold fieldsDone; rw [HAT1.out, if_pos k1, if_neg hq, if_pos h6])).trans rfl)
          go_wp2_with fail
          go_ret
          rw [HRD.out]
          exact ⟨rs, Lc, _, rfl, HAC.out, HOF.out, md.drop⟩
        · have h6I : ¬ (6 : Int) ≤ fs.length := by omega
          have HRD : Hid (classesDone cs c = (0, cs.set i ⟨c.name, fs ++ [c.field]⟩)) := Lib.hid ((classesDone_f HAT.out HFIN.out (by omega) (show fieldsDone fs c = (0, fs ++ [c.field]) by unfold fieldsDone; rw [HAT1.out, if_pos k1, if_neg hq, if_neg h6])).trans rfl)
          go_wp2_with fail
          clear es ns mu c1 c2
          refine AnyFrom.start (fun w' => ∃ L', Mem w0 H ((xb, CBox c) :: (b, LBox TLay (.slice (some ⟨g, 0, none⟩) rs.length cc) (.slice rb rn rc)) :: (Lc ++ L')) w') 8 (by kernel_rfl) ?_
          have me := md.drew
          clear md
          generalize W.drew = W1 at *
          have HS : ∃ L', Mem w0 H ((xb, CBox c) :: (b, LBox TLay (.slice (some ⟨g, 0, none⟩) rs.length cc) (.slice rb rn rc)) :: (Lc ++ L')) W1 := ⟨_, me⟩
          refine AnyFrom.pure (i := 0) (v := ?_) rfl (by kernel_rfl) (by kernel_rfl) (by kernel_rfl) (by decide) (fun _ _ _ h => h) ⟨by kernel_rfl, ?_⟩ HS ?_
          rotate_left
          · first | (intro w'; go_simp; done) | (intro w'; go_simp; with_reducible rfl)
          simp only [Act.put, List.setIfInBounds_toArray, List.set_cons_zero, List.set_cons_succ, List.getElem_toArray, List.getElem_cons_succ, List.getElem_cons_zero]
          refine AnyFrom.takeT (i := 1) (v := ?_) rfl (by kernel_rfl) (by kernel_rfl) (by kernel_rfl) (by kernel_rfl) (fun _ _ _ h => h) ⟨by kernel_rfl, ?_⟩ HS ?_
          rotate_left
          · first | (rintro w' ⟨L', hm⟩; have mu := hm; unfold LBox CBox at mu; have es := mu.eqs; simp only [EqsL] at es; have ns := mu.nes; simp only [NeL, NeFrom] at ns; obtain ⟨g', hg', hcell, -, hglt, -, -⟩ := HAC.out.at (by rw [clsCs_length]; omega) hm (fun p hp => by simp [hp]); cases hg'; have c2 := hcell _ _ HGL.out.2; clear hcell; go_simp; done) | (rintro w' ⟨L', hm⟩; have mu := hm; unfold LBox CBox at mu; have es := mu.eqs; simp only [EqsL] at es; have ns := mu.nes; simp only [NeL, NeFrom] at ns; obtain ⟨g', hg', hcell, -, hglt, -, -⟩ := HAC.out.at (by rw [clsCs_length]; omega) hm (fun p hp => by simp [hp]); cases hg'; have c2 := hcell _ _ HGL.out.2; clear hcell; go_simp; with_reducible rfl)
          simp only [Act.put, List.setIfInBounds_toArray, List.set_cons_zero, List.set_cons_succ, List.getElem_toArray, List.getElem_cons_succ, List.getElem_cons_zero]
          refine AnyFrom.takeT (i := 2) (v := ?_) rfl (by kernel_rfl) (by kernel_rfl) (by kernel_rfl) (by kernel_rfl) (fun _ _ _ h => h) ⟨by kernel_rfl, ?_⟩ HS ?_
          rotate_left
          · first | (rintro w' ⟨L', hm⟩; have mu := hm; unfold LBox CBox at mu; have es := mu.eqs; simp only [EqsL] at es; have ns := mu.nes; simp only [NeL, NeFrom] at ns; obtain ⟨g', hg', hcell, -, hglt, -, -⟩ := HAC.out.at (by rw [clsCs_length]; omega) hm (fun p hp => by simp [hp]); cases hg'; have c2 := hcell _ _ HGL.out.2; clear hcell; go_simp; done) | (rintro w' ⟨L', hm⟩; have mu := hm; unfold LBox CBox at mu; have es := mu.eqs; simp only [EqsL] at es; have ns := mu.nes; simp only [NeL, NeFrom] at ns; obtain ⟨g', hg', hcell, -, hglt, -, -⟩ := HAC.out.at (by rw [clsCs_length]; omega) hm (fun p hp => by simp [hp]); cases hg'; have c2 := hcell _ _ HGL.out.2; clear hcell; go_simp; with_reducible rfl)
          simp only [Act.put, List.setIfInBounds_toArray, List.set_cons_zero, List.set_cons_succ, List.getElem_toArray, List.getElem_cons_succ, List.getElem_cons_zero]
          refine AnyFrom.takeT (i := 3) (v := ?_) rfl (by kernel_rfl) (by kernel_rfl) (by kernel_rfl) (by kernel_rfl) (fun _ _ _ h => h) ⟨by kernel_rfl, ?_⟩ HS ?_
          rotate_left
          · first | (rintro w' ⟨L', hm⟩; have mu := hm; unfold LBox CBox at mu; have es := mu.eqs; simp only [EqsL] at es; have ns := mu.nes; simp only [NeL, NeFrom] at ns; obtain ⟨g', hg', hcell, -, hglt, -, -⟩ := HAC.out.at (by rw [clsCs_length]; omega) hm (fun p hp => by simp [hp]); cases hg'; have c2 := hcell _ _ HGL.out.2; clear hcell; go_simp; done) | (rintro w' ⟨L', hm⟩; have mu := hm; unfold LBox CBox at mu; have es := mu.eqs; simp only [EqsL] at es; have ns := mu.nes; simp only [NeL, NeFrom] at ns; obtain ⟨g', hg', hcell, -, hglt, -, -⟩ := HAC.out.at (by rw [clsCs_length]; omega) hm (fun p hp => by simp [hp]); cases hg'; have c2 := hcell _ _ HGL.out.2; clear hcell; go_simp; with_reducible rfl)
          simp only [Act.put, List.setIfInBounds_toArray, List.set_cons_zero, List.set_cons_succ, List.getElem_toArray, List.getElem_cons_succ, List.getElem_cons_zero]
          refine AnyFrom.takeT (i := 4) (v := ?_) rfl (by kernel_rfl) (by kernel_rfl) (by kernel_rfl) (by kernel_rfl) (fun _ _ _ h => h) ⟨by kernel_rfl, ?_⟩ HS ?_
          rotate_left
          · first | (rintro w' ⟨L', hm⟩; have mu := hm; unfold LBox CBox at mu; have es := mu.eqs; simp only [EqsL] at es; have ns := mu.nes; simp only [NeL, NeFrom] at ns; obtain ⟨g', hg', hcell, -, hglt, -, -⟩ := HAC.out.at (by rw [clsCs_length]; omega) hm (fun p hp => by simp [hp]); cases hg'; have c2 := hcell _ _ HGL.out.2; clear hcell; go_simp; done) | (rintro w' ⟨L', hm⟩; have mu := hm; unfold LBox CBox at mu; have es := mu.eqs; simp only [EqsL] at es; have ns := mu.nes; simp only [NeL, NeFrom] at ns; obtain ⟨g', hg', hcell, -, hglt, -, -⟩ := HAC.out.at (by rw [clsCs_length]; omega) hm (fun p hp => by simp [hp]); cases hg'; have c2 := hcell _ _ HGL.out.2; clear hcell; go_simp; with_reducible rfl)
          simp only [Act.put, List.setIfInBounds_toArray, List.set_cons_zero, List.set_cons_succ, List.getElem_toArray, List.getElem_cons_succ, List.getElem_cons_zero]
          refine AnyFrom.takeT (i := 5) (v := ?_) rfl (by kernel_rfl) (by kernel_rfl) (by kernel_rfl) (by kernel_rfl) (fun _ _ _ h => h) ⟨by kernel_rfl, ?_⟩ HS ?_
          rotate_left
          · first | (rintro w' ⟨L', hm⟩; have mu := hm; unfold LBox CBox at mu; have es := mu.eqs; simp only [EqsL] at es; have ns := mu.nes; simp only [NeL, NeFrom] at ns; obtain ⟨g', hg', hcell, -, hglt, -, -⟩ := HAC.out.at (by rw [clsCs_length]; omega) hm (fun p hp => by simp [hp]); cases hg'; have c2 := hcell _ _ HGL.out.2; clear hcell; go_simp; done) | (rintro w' ⟨L', hm⟩; have mu := hm; unfold LBox CBox at mu; have es := mu.eqs; simp only [EqsL] at es; have ns := mu.nes; simp only [NeL, NeFrom] at ns; obtain ⟨g', hg', hcell, -, hglt, -, -⟩ := HAC.out.at (by rw [clsCs_length]; omega) hm (fun p hp => by simp [hp]); cases hg'; have c2 := hcell _ _ HGL.out.2; clear hcell; go_simp; with_reducible rfl)
          simp only [Act.put, List.setIfInBounds_toArray, List.set_cons_zero, List.set_cons_succ, List.getElem_toArray, List.getElem_cons_succ, List.getElem_cons_zero]
          refine AnyFrom.takeT (i := 6) (v := ?_) rfl (by kernel_rfl) (by kernel_rfl) (by kernel_rfl) (by kernel_rfl) (fun _ _ _ h => h) ⟨by kernel_rfl, ?_⟩ HS ?_
          rotate_left
          · first | (rintro w' ⟨L', hm⟩; have mu := hm; unfold LBox CBox at mu; have es := mu.eqs; simp only [EqsL] at es; have ns := mu.nes; simp only [NeL, NeFrom] at ns; obtain ⟨g', hg', hcell, -, hglt, -, -⟩ := HAC.out.at (by rw [clsCs_length]; omega) hm (fun p hp => by simp [hp]); cases hg'; have c2 := hcell _ _ HGL.out.2; clear hcell; go_simp; done) | (rintro w' ⟨L', hm⟩; have mu := hm; unfold LBox CBox at mu; have es := mu.eqs; simp only [EqsL] at es; have ns := mu.nes; simp only [NeL, NeFrom] at ns; obtain ⟨g', hg', hcell, -, hglt, -, -⟩ := HAC.out.at (by rw [clsCs_length]; omega) hm (fun p hp => by simp [hp]); cases hg'; have c2 := hcell _ _ HGL.out.2; clear hcell; go_simp; with_reducible rfl)
          simp only [Act.put, List.setIfInBounds_toArray, List.set_cons_zero, List.set_cons_succ, List.getElem_toArray, List.getElem_cons_succ, List.getElem_cons_zero]
          refine AnyFrom.one (i := 7) (by kernel_rfl) (AnyFrom.op rfl (by kernel_rfl) fun K hK => ?_)
          go_simp
          have mA := me.alloc (.cells #[.string c.field] 9)
          refine hK _ _ (.inr ⟨_, mA.perm (perm_ic6 _ _ _ _ _ _)⟩) ?_
          clear hK K
          try simp only [Act.put, List.setIfInBounds_toArray, List.set_cons_zero, List.set_cons_succ, List.getElem_toArray, List.getElem_cons_succ, List.getElem_cons_zero]
          have mB := mA.perm (perm_ic5 _ _ _ _ _ _ _ _)
          refine AnyFrom.one (i := 8) (by kernel_rfl) (AnyFrom.opIf rfl fun K hK => ?_)
          refine step_append_mem (w0 := w0) (H := H) (L := _ :: _) rfl _ _ 23 rfl 9 1 16 (.string ByteArray.empty) Tryz.underlying23 (by kernel_rfl) rfl (by decide) (.slice fb fs.length fc) fs.length (fs.map Value.string) (HOS.out.acc.join mB) rfl (.slice (some ⟨W1.heap.size, 0, none⟩) 1 1) 1 [.string c.field] (Src.loc (e := 9) (cs := [.string c.field]) mB (by simp)) rfl rfl (by intro u hu; rw [List.mem_singleton.1 hu]; rfl) (by omega) (by unfold maxLen; omega) ?_
          intro v' w6 hacc
          obtain ⟨b6, c6, rfl, _, _⟩ := hacc.shape
          obtain ⟨L3, ho3, m7⟩ := hacc.drop.split
          have mp := m7.perm (perm_ic2 _ _ _ _ _ _ _)
          clear hacc m7 mB mA me HS
          refine hK _ _ (.inl ⟨8, by decide, by rfl⟩) ?_
          clear hK K
          try simp only [Act.put, List.setIfInBounds_toArray, List.set_cons_zero, List.set_cons_succ, List.getElem_toArray, List.getElem_cons_succ, List.getElem_cons_zero]
          obtain ⟨g', hg', hcell, hfz, hglt, -, -⟩ := HAC.out.at (by rw [clsCs_length]; omega) mp (fun p hp => by simp [hp])
          cases hg'
          have c2 := hcell _ _ HGL.out.2
          have hfz1 := hfz (i * 2 + 1)
          clear hcell hfz
          refine AnyFrom.one (i := 9) (by kernel_rfl) (AnyFrom.op rfl (by kernel_rfl) fun K hK => ?_)
          go_simp
          refine hK _ _ (.inl ⟨9, by decide, by rfl⟩) ?_
          clear hK K
          try simp only [Act.put, List.setIfInBounds_toArray, List.set_cons_zero, List.set_cons_succ, List.getElem_toArray, List.getElem_cons_succ, List.getElem_cons_zero]
          refine AnyFrom.one (i := 10) (by kernel_rfl) (AnyFrom.op rfl (by kernel_rfl) fun K hK => ?_)
          go_simp
          refine hK _ _ (.inl ⟨10, by decide, by rfl⟩) ?_
          clear hK K
          try simp only [Act.put, List.setIfInBounds_toArray, List.set_cons_zero, List.set_cons_succ, List.getElem_toArray, List.getElem_cons_succ, List.getElem_cons_zero]
          refine AnyFrom.one (i := 11) (by kernel_rfl) (AnyFrom.op rfl (by kernel_rfl) fun K hK => ?_)
          go_simp
          refine hK _ _ (.inl ⟨11, by decide, by rfl⟩) ?_
          clear hK K
          try simp only [Act.put, List.setIfInBounds_toArray, List.set_cons_zero, List.set_cons_succ, List.getElem_toArray, List.getElem_cons_succ, List.getElem_cons_zero]
          refine AnyFrom.done (by kernel_rfl) ?_ _
          obtain ⟨Lc2, hac2, m8⟩ := HAC.out.set1 (k := i * 2 + 1) (x := .slice b6 (fs.length + 1) c6) (by rw [clsCs_length]; omega) mp
          rw [clsCs_set2 rs i hi'] at hac2
          have hfs3 : OwnS (.slice b6 (fs.length + 1) c6) (fs ++ [c.field]) L3 := ⟨by simpa using ho3, fun x hx => by
            rcases List.mem_append.1 hx with hx | hx
            · exact HOS.out.fit x hx
            · rw [List.mem_singleton.1 hx]; exact HF.out.field⟩
          have hof2 := HSET.out rs[i].1 _ _ L3 (by rw [HR1.out]; exact hr2) hfs3
          have m9 := (m8.perm (perm_ic3 _ _ _ _ _)).drop
          clear c2 hfz1 m8 mp
          go_wp2_with fail
          go_ret
          rw [HRD.out]
          exact ⟨_, Lc2, _, rfl, by rw [List.length_set]; exact hac2, by rw [← HNM.out, ← HR1.out]; exact hof2, m9⟩
    · have e1 : ((c.kind : Int) == 1) = false := by simp; omega
      by_cases k4 : c.kind = 4
      · have e4 : ((c.kind : Int) == 4) = true := by rw [k4]; rfl
        go_wp2_with fail
        refine ((LayClass_any b _ _ cs rs c.to (R := (xb, CBox c) :: ((L1 ++ (L0 ++ L2)) ++ R)) (md.perm (perm_ia1 _ _ _ _)) HAC.out HRN.out)).mono ?_
        rintro e w2 ⟨rfl, m5⟩
        have m6 := m5.perm (perm_ia2 _ _ _ _)
        clear es ns mu c1 c2 m5
        have mu := m6
        unfold LBox CBox at mu
        have es := mu.eqs
        simp only [EqsL] at es
        have ns := mu.nes
        simp only [NeL, NeFrom] at ns
        obtain ⟨g', hg', hcell, hfz, hglt, -, -⟩ := HAC.out.at (by rw [clsCs_length]; omega) m6 (fun p hp => by simp [hp])
        cases hg'
        have c1 := hcell _ _ HGL.out.1
        have hfz1 := hfz (i * 2)
        clear hcell hfz
        by_cases hq : 0 ≤ placeC cs c.to
        · have HRD : Hid (classesDone cs c = (6, cs)) := Lib.hid ((classesDone_4 HAT.out HFIN.out k4).trans (if_pos hq))
          go_wp2_with fail
          go_ret
          rw [HRD.out]
          exact ⟨rs, Lc, _, rfl, HAC.out, HOF.out, m6.drop⟩
        · have HRD : Hid (classesDone cs c = (0, cs.set i ⟨c.to, fs⟩)) := Lib.hid ((classesDone_4 HAT.out HFIN.out k4).trans (if_neg hq))
          go_wp2_with fail
          obtain ⟨Lc2, hac2, m8⟩ := HAC.out.set1 (k := i * 2) (x := .string c.to) (by rw [clsCs_length]; omega) (m6.perm (perm_ic4 _ _ _ _ _))
          rw [clsCs_set1 rs i hi'] at hac2
          have hof2 := HSET.out c.to _ fs L0 HF.out.to HOS.out
          have m9 := (m8.perm (perm_ic3 _ _ _ _ _)).drop
          go_ret
          rw [HRD.out]
          rw [HRV.out] at hac2
          exact ⟨_, Lc2, _, rfl, by rw [List.length_set]; exact hac2, hof2, m9⟩
      · have e4 : ((c.kind : Int) == 4) = false := by simp; omega
        by_cases hq : at1 < 0
        · have HRD : Hid (classesDone cs c = (7, cs)) := Lib.hid ((classesDone_f HAT.out HFIN.out k4 (show fieldsDone fs c = (7, fs) by unfold fieldsDone; rw [HAT1.out, if_neg k1, if_pos hq])).trans rfl)
          go_wp2_with fail
          go_ret
          rw [HRD.out]
          exact ⟨rs, Lc, _, rfl, HAC.out, HOF.out, md.drop⟩
        · rcases HPL1.out with ⟨h1, -⟩ | ⟨k, hk, hk2, -⟩
          · omega
          subst hk2
          have hkI : (k : Int) < fs.length := by omega
          by_cases k2 : c.kind = 2
          · have e2 : ((c.kind : Int) == 2) = true := by rw [k2]; rfl
            have HRD : Hid (classesDone cs c = (0, cs.set i ⟨c.name, fs.eraseIdx k⟩)) := Lib.hid ((classesDone_f HAT.out HFIN.out k4 (show fieldsDone fs c = (0, fs.eraseIdx k) by unfold fieldsDone; rw [HAT1.out, if_neg k1, if_neg (by omega), if_pos k2, Int.toNat_natCast])).trans rfl)
            go_wp2_with fail
            refine (Delete_any _ fs k hk HOS.out (md.perm (perm_ic1 _ _ _ _ _ _ _))).mono ?_
            rintro e w5 ⟨v5, L5, rfl, ho5, m5⟩
            obtain ⟨b5, c5, rfl, _, _⟩ := ho5.shape
            have mp := m5.perm (perm_ic2 _ _ _ _ _ _ _)
            clear es ns mu c1 c2 m5
            obtain ⟨g', hg', hcell, hfz, hglt, -, -⟩ := HAC.out.at (by rw [clsCs_length]; omega) mp (fun p hp => by simp [hp])
            cases hg'
            have c2 := hcell _ _ HGL.out.2
            have hfz1 := hfz (i * 2 + 1)
            clear hcell hfz
            go_wp2_with fail
            obtain ⟨Lc2, hac2, m8⟩ := HAC.out.set1 (k := i * 2 + 1) (x := .slice b5 (fs.eraseIdx k).length c5) (by rw [clsCs_length]; omega) mp
            rw [clsCs_set2 rs i hi'] at hac2
            have hof2 := HSET.out rs[i].1 _ _ L5 (by rw [HR1.out]; exact hr2) ho5
            have m9 := (m8.perm (perm_ic3 _ _ _ _ _)).drop
            go_ret
            rw [HRD.out]
            exact ⟨_, Lc2, _, rfl, by rw [List.length_set]; exact hac2, by rw [← HNM.out, ← HR1.out]; exact hof2, m9⟩
          · have e2 : ((c.kind : Int) == 2) = false := by simp; omega
            go_wp2_with fail
            clear es ns mu c1 c2
            refine AnyFrom.start (fun w' => w' = W.drew) 8 (by kernel_rfl) ?_
            have me := md.drew
            clear md
            generalize W.drew = W1 at *
            have HS : W1 = W1 := rfl
            have mu := me
            unfold LBox CBox at mu
            have es := mu.eqs
            simp only [EqsL] at es
            have ns := mu.nes
            simp only [NeL, NeFrom] at ns
            obtain ⟨g', hg', hcell, hfz, hglt, -, -⟩ := HAC.out.at (by rw [clsCs_length]; omega) me (fun p hp => by simp [hp])
            cases hg'
            have c2 := hcell _ _ HGL.out.2
            clear hcell hfz
            refine AnyFrom.takeT (i := 0) (v := ?_) rfl (by kernel_rfl) (by kernel_rfl) (by kernel_rfl) (by kernel_rfl) (fun _ _ _ h => h) ⟨by kernel_rfl, ?_⟩ HS ?_
            rotate_left
            · first | (rintro w' rfl; go_simp; done) | (rintro w' rfl; go_simp; with_reducible rfl)
            simp only [Act.put, List.setIfInBounds_toArray, List.set_cons_zero, List.set_cons_succ, List.getElem_toArray, List.getElem_cons_succ, List.getElem_cons_zero]
            refine AnyFrom.takeT (i := 1) (v := ?_) rfl (by kernel_rfl) (by kernel_rfl) (by kernel_rfl) (by kernel_rfl) (fun _ _ _ h => h) ⟨by kernel_rfl, ?_⟩ HS ?_
            rotate_left
            · first | (rintro w' rfl; go_simp; done) | (rintro w' rfl; go_simp; with_reducible rfl)
            simp only [Act.put, List.setIfInBounds_toArray, List.set_cons_zero, List.set_cons_succ, List.getElem_toArray, List.getElem_cons_succ, List.getElem_cons_zero]
            refine AnyFrom.takeT (i := 2) (v := ?_) rfl (by kernel_rfl) (by kernel_rfl) (by kernel_rfl) (by kernel_rfl) (fun _ _ _ h => h) ⟨by kernel_rfl, ?_⟩ HS ?_
            rotate_left
            · first | (rintro w' rfl; go_simp; done) | (rintro w' rfl; go_simp; with_reducible rfl)
            simp only [Act.put, List.setIfInBounds_toArray, List.set_cons_zero, List.set_cons_succ, List.getElem_toArray, List.getElem_cons_succ, List.getElem_cons_zero]
            refine AnyFrom.takeT (i := 3) (v := ?_) rfl (by kernel_rfl) (by kernel_rfl) (by kernel_rfl) (by kernel_rfl) (fun _ _ _ h => h) ⟨by kernel_rfl, ?_⟩ HS ?_
            rotate_left
            · first | (rintro w' rfl; go_simp; done) | (rintro w' rfl; go_simp; with_reducible rfl)
            simp only [Act.put, List.setIfInBounds_toArray, List.set_cons_zero, List.set_cons_succ, List.getElem_toArray, List.getElem_cons_succ, List.getElem_cons_zero]
            refine AnyFrom.takeT (i := 4) (v := ?_) rfl (by kernel_rfl) (by kernel_rfl) (by kernel_rfl) (by kernel_rfl) (fun _ _ _ h => h) ⟨by kernel_rfl, ?_⟩ HS ?_
            rotate_left
            · first | (rintro w' rfl; go_simp; done) | (rintro w' rfl; go_simp; with_reducible rfl)
            simp only [Act.put, List.setIfInBounds_toArray, List.set_cons_zero, List.set_cons_succ, List.getElem_toArray, List.getElem_cons_succ, List.getElem_cons_zero]
            refine AnyFrom.takeT (i := 5) (v := ?_) rfl (by kernel_rfl) (by kernel_rfl) (by kernel_rfl) (by kernel_rfl) (fun _ _ _ h => h) ⟨by kernel_rfl, ?_⟩ HS ?_
            rotate_left
            · first | (rintro w' rfl; go_simp; done) | (rintro w' rfl; go_simp; with_reducible rfl)
            simp only [Act.put, List.setIfInBounds_toArray, List.set_cons_zero, List.set_cons_succ, List.getElem_toArray, List.getElem_cons_succ, List.getElem_cons_zero]
            refine AnyFrom.one (i := 6) (by kernel_rfl) (AnyFrom.op rfl (by kernel_rfl) fun K hK => ?_)
            go_simp
            refine (Contains_any _ fs c.to (HOS.out.strsAt me (fun p hp => by simp [hp]))).mono ?_
            rintro e w2 ⟨rfl, rfl⟩
            refine hK _ _ (.inr rfl) ?_
            clear hK K
            try simp only [Act.put, List.setIfInBounds_toArray, List.set_cons_zero, List.set_cons_succ, List.getElem_toArray, List.getElem_cons_succ, List.getElem_cons_zero]
            refine AnyFrom.one (i := 7) (by kernel_rfl) (AnyFrom.op rfl (by kernel_rfl) fun K hK => ?_)
            go_simp
            refine hK _ _ (.inr rfl) ?_
            clear hK K HS
            try simp only [Act.put, List.setIfInBounds_toArray, List.set_cons_zero, List.set_cons_succ, List.getElem_toArray, List.getElem_cons_succ, List.getElem_cons_zero]
            refine AnyFrom.done (by kernel_rfl) ?_ _
            by_cases ht : 0 ≤ placeS fs c.to
            · have HRD : Hid (classesDone cs c = (6, cs)) := Lib.hid ((classesDone_f HAT.out HFIN.out k4 (show fieldsDone fs c = (6, fs) by unfold fieldsDone; rw [HAT1.out, if_neg k1, if_neg (by omega), if_neg k2, if_pos ht])).trans rfl)
              rw [decide_eq_true ht]
              go_wp2_with fail
              go_ret
              rw [HRD.out]
              exact ⟨rs, Lc, _, rfl, HAC.out, HOF.out, me.drop⟩
            · have HRD : Hid (classesDone cs c = (0, cs.set i ⟨c.name, fs.set k c.to⟩)) := Lib.hid ((classesDone_f HAT.out HFIN.out k4 (show fieldsDone fs c = (0, fs.set k c.to) by unfold fieldsDone; rw [HAT1.out, if_neg k1, if_neg (by omega), if_neg k2, if_neg ht, Int.toNat_natCast])).trans rfl)
              rw [decide_eq_false ht]
              go_wp2_with fail
              clear es ns mu c2
              obtain ⟨q, rfl, -, -, -, -, -⟩ := HOS.out.at hk me (fun p hp => by simp [hp])
              refine AnyFrom.start (fun w' => w' = W1.drew) 8 (by kernel_rfl) ?_
              have mf := me.drew
              clear me
              generalize W1.drew = W2 at *
              have HS : W2 = W2 := rfl
              have mu := mf
              unfold LBox CBox at mu
              have es := mu.eqs
              simp only [EqsL] at es
              have ns := mu.nes
              simp only [NeL, NeFrom] at ns
              obtain ⟨g', hg', hcell, hfz, hglt, -, -⟩ := HAC.out.at (by rw [clsCs_length]; omega) mf (fun p hp => by simp [hp])
              cases hg'
              have c2 := hcell _ _ HGL.out.2
              clear hcell hfz
              refine AnyFrom.takeT (i := 0) (v := ?_) rfl (by kernel_rfl) (by kernel_rfl) (by kernel_rfl) (by kernel_rfl) (fun _ _ _ h => h) ⟨by kernel_rfl, ?_⟩ HS ?_
              rotate_left
              · first | (rintro w' rfl; go_simp; done) | (rintro w' rfl; go_simp; with_reducible rfl)
              simp only [Act.put, List.setIfInBounds_toArray, List.set_cons_zero, List.set_cons_succ, List.getElem_toArray, List.getElem_cons_succ, List.getElem_cons_zero]
              refine AnyFrom.takeT (i := 1) (v := ?_) rfl (by kernel_rfl) (by kernel_rfl) (by kernel_rfl) (by kernel_rfl) (fun _ _ _ h => h) ⟨by kernel_rfl, ?_⟩ HS ?_
              rotate_left
              · first | (rintro w' rfl; go_simp; done) | (rintro w' rfl; go_simp; with_reducible rfl)
              simp only [Act.put, List.setIfInBounds_toArray, List.set_cons_zero, List.set_cons_succ, List.getElem_toArray, List.getElem_cons_succ, List.getElem_cons_zero]
              refine AnyFrom.takeT (i := 2) (v := ?_) rfl (by kernel_rfl) (by kernel_rfl) (by kernel_rfl) (by kernel_rfl) (fun _ _ _ h => h) ⟨by kernel_rfl, ?_⟩ HS ?_
              rotate_left
              · first | (rintro w' rfl; go_simp; done) | (rintro w' rfl; go_simp; with_reducible rfl)
              simp only [Act.put, List.setIfInBounds_toArray, List.set_cons_zero, List.set_cons_succ, List.getElem_toArray, List.getElem_cons_succ, List.getElem_cons_zero]
              refine AnyFrom.takeT (i := 3) (v := ?_) rfl (by kernel_rfl) (by kernel_rfl) (by kernel_rfl) (by kernel_rfl) (fun _ _ _ h => h) ⟨by kernel_rfl, ?_⟩ HS ?_
              rotate_left
              · first | (rintro w' rfl; go_simp; done) | (rintro w' rfl; go_simp; with_reducible rfl)
              simp only [Act.put, List.setIfInBounds_toArray, List.set_cons_zero, List.set_cons_succ, List.getElem_toArray, List.getElem_cons_succ, List.getElem_cons_zero]
              refine AnyFrom.takeT (i := 4) (v := ?_) rfl (by kernel_rfl) (by kernel_rfl) (by kernel_rfl) (by kernel_rfl) (fun _ _ _ h => h) ⟨by kernel_rfl, ?_⟩ HS ?_
              rotate_left
              · first | (rintro w' rfl; go_simp; done) | (rintro w' rfl; go_simp; with_reducible rfl)
              simp only [Act.put, List.setIfInBounds_toArray, List.set_cons_zero, List.set_cons_succ, List.getElem_toArray, List.getElem_cons_succ, List.getElem_cons_zero]
              refine AnyFrom.takeT (i := 5) (v := ?_) rfl (by kernel_rfl) (by kernel_rfl) (by kernel_rfl) (by kernel_rfl) (fun _ _ _ h => h) ⟨by kernel_rfl, ?_⟩ HS ?_
              rotate_left
              · first | (rintro w' rfl; go_simp; done) | (rintro w' rfl; go_simp; with_reducible rfl)
              simp only [Act.put, List.setIfInBounds_toArray, List.set_cons_zero, List.set_cons_succ, List.getElem_toArray, List.getElem_cons_succ, List.getElem_cons_zero]
              refine AnyFrom.takeT (i := 6) (v := ?_) rfl (by kernel_rfl) (by kernel_rfl) (by kernel_rfl) (by kernel_rfl) (fun _ _ _ h => h) ⟨by kernel_rfl, ?_⟩ HS ?_
              rotate_left
              · first | (rintro w' rfl; go_simp; done) | (rintro w' rfl; go_simp; with_reducible rfl)
              simp only [Act.put, List.setIfInBounds_toArray, List.set_cons_zero, List.set_cons_succ, List.getElem_toArray, List.getElem_cons_succ, List.getElem_cons_zero]
              refine AnyFrom.pure (i := 7) (v := ?_) rfl (by kernel_rfl) (by kernel_rfl) (by kernel_rfl) (by decide) (fun _ _ _ h => h) ⟨by kernel_rfl, ?_⟩ HS ?_
              rotate_left
              · first | (intro w'; go_simp; done) | (intro w'; go_simp; with_reducible rfl)
              simp only [Act.put, List.setIfInBounds_toArray, List.set_cons_zero, List.set_cons_succ, List.getElem_toArray, List.getElem_cons_succ, List.getElem_cons_zero]
              obtain ⟨q', hq', d1, hfz, hgl, -, -⟩ := HOS.out.at hk mf (fun p hp => by simp [hp])
              cases hq'
              have hfz1 := hfz k
              refine AnyFrom.one (i := 8) (by kernel_rfl) (AnyFrom.op rfl (by kernel_rfl) fun K hK => ?_)
              go_simp
              refine hK _ _ (.inl ⟨8, by decide, by rfl⟩) ?_
              clear hK K HS
              try simp only [Act.put, List.setIfInBounds_toArray, List.set_cons_zero, List.set_cons_succ, List.getElem_toArray, List.getElem_cons_succ, List.getElem_cons_zero]
              refine AnyFrom.done (by kernel_rfl) ?_ _
              obtain ⟨L3, ho3, m7⟩ := HOS.out.set hk c.to HF.out.to (mf.perm (perm_ic1 _ _ _ _ _ _ _))
              have mp := m7.perm (perm_ic2 _ _ _ _ _ _ _)
              have m8 := (mp.perm (perm_ic3 _ _ _ _ _)).drop
              have ho4 : OwnS (.slice (some ⟨q, 0, none⟩) fs.length fc) (fs.set k c.to) L3 := ho3
              have hof2 := HSET.out rs[i].1 _ _ L3 (by rw [HR1.out]; exact hr2) ho4
              have hrs2 : rs.set i (rs[i].1, .slice (some ⟨q, 0, none⟩) fs.length fc) = rs := by
                rw [← HRV.out]
                exact List.set_getElem_self hi'
              rw [hrs2] at hof2
              clear es ns mu c2 d1 hfz hfz1 m7 mp
              go_wp2_with fail
              go_ret
              rw [HRD.out]
              exact ⟨rs, Lc, _, rfl, HAC.out, by rw [← HNM.out, ← HR1.out]; exact hof2, m8⟩
end Go.Proofs.YtbioklhoolkhkabGreat
namespace Go.Proofs.YtbioklhoolkhkabGreat
set_option linter.unusedVariables false
set_option linter.unusedSimpArgs false
open Go.RowKit

/-- Bounds under which lists grow. -/
structure LayM.fit (x : LayM) (n : Nat) : Prop where
  roots : x.roots.length ≤ n
  classes : x.classes.length ≤ 50000
  fields : ∀ c ∈ x.classes, c.fields.length ≤ 50000
theorem rootsDone_len (rts : List ByteArray) (c : ChangeM) : (rootsDone rts c).2.length ≤ rts.length + 1 := by
  unfold rootsDone
  repeat' split
  all_goals simp
  · exact Nat.le_succ_of_le (List.length_eraseIdx_le _ _)
theorem fieldsDone_len (fs : List ByteArray) (c : ChangeM) (h : fs.length ≤ 50000) : (fieldsDone fs c).2.length ≤ 50000 := by
  unfold fieldsDone
  repeat' split
  all_goals simp
  all_goals first | exact h | omega | exact Nat.le_trans (List.length_eraseIdx_le _ _) h
theorem fieldsIn_len {cs : List ClassM} (h : ∀ c ∈ cs, c.fields.length ≤ 50000) (k : Nat) : (fieldsIn cs k).length ≤ 50000 := by
  unfold fieldsIn
  split
  · rename_i c hc
    exact h c (List.mem_of_getElem? hc)
  · simp
theorem classesDone_fit {cs : List ClassM} (h1 : cs.length ≤ 50000) (h : ∀ c ∈ cs, c.fields.length ≤ 50000) (c : ChangeM) : (classesDone cs c).2.length ≤ 50000 ∧ ∀ x ∈ (classesDone cs c).2, x.fields.length ≤ 50000 := by
  have hset : ∀ (k : Nat) (y : ClassM), y.fields.length ≤ 50000 → (cs.set k y).length ≤ 50000 ∧ ∀ x ∈ cs.set k y, x.fields.length ≤ 50000 := fun k y hy => by
    refine ⟨by rw [List.length_set]; exact h1, fun x hx => ?_⟩
    rcases List.mem_or_eq_of_mem_set hx with hx | rfl
    · exact h x hx
    · exact hy
  unfold classesDone
  repeat' split
  all_goals first
    | exact ⟨h1, h⟩
    | exact hset _ _ (fieldsIn_len h _)
    | exact hset _ _ (fieldsDone_len _ _ (fieldsIn_len h _))
theorem LayM.fit.done {x : LayM} {n : Nat} (h : x.fit n) (c : ChangeM) : (x.done c).2.fit (n + 1) := by
  unfold LayM.done
  split
  · exact ⟨Nat.le_succ_of_le h.roots, h.classes, h.fields⟩
  · split
    · rw [inRoots_eq]
      exact ⟨Nat.le_trans (rootsDone_len _ _) (Nat.succ_le_succ h.roots), h.classes, h.fields⟩
    · rw [inClasses_eq]
      obtain ⟨h1, h2⟩ := classesDone_fit h.classes h.fields c
      exact ⟨Nat.le_succ_of_le h.roots, h1, h2⟩
/-- The error of a change; the layout is as it was then. -/
theorem LayM.done_form {x : LayM} {c : ChangeM} (h : c.form = false) : x.done c = (4, x) := by unfold LayM.done; rw [if_pos h]
theorem LayM.done_roots {x : LayM} {c : ChangeM} (h : c.form = true) (h5 : 5 ≤ c.kind) : x.done c = ((rootsDone x.roots c).1, { x with roots := (rootsDone x.roots c).2 }) := by
  unfold LayM.done; rw [if_neg (by simp [h]), if_pos h5, inRoots_eq]
theorem LayM.done_classes {x : LayM} {c : ChangeM} (h : c.form = true) (h5 : ¬ 5 ≤ c.kind) : x.done c = ((classesDone x.classes c).1, { x with classes := (classesDone x.classes c).2 }) := by
  unfold LayM.done; rw [if_neg (by simp [h]), if_neg h5, inClasses_eq]
theorem LayM.apply_bad {x : LayM} {n : Nat} {c : ChangeM} {l : List ChangeM} {e : Int} {y : LayM} (h : x.done c = (e, y)) (he : e ≠ 0) : x.apply n (c :: l) = (x, n, e) := by
  simp only [LayM.apply, h, ne_eq, he, not_false_iff, if_true]
theorem LayM.apply_good {x : LayM} {n : Nat} {c : ChangeM} {l : List ChangeM} {y : LayM} (h : x.done c = (0, y)) : x.apply n (c :: l) = y.apply (n + 1) l := by
  simp only [LayM.apply, h, ne_eq, not_true, if_false]
theorem rootsDone_err {rts : List ByteArray} {c : ChangeM} (h : (rootsDone rts c).1 ≠ 0) : (rootsDone rts c).2 = rts := by
  revert h
  unfold rootsDone
  repeat' split
  all_goals simp
theorem classesDone_err {cs : List ClassM} {c : ChangeM} (h : (classesDone cs c).1 ≠ 0) : (classesDone cs c).2 = cs := by
  revert h
  unfold classesDone
  repeat' split
  all_goals simp
def ApplyR (b : Nat) (r : LayM × Nat × Int) (w0 : World) (H : Hp) (L : List (Nat × Obj)) (e : Ending) (w' : World) : Prop :=
  e = .returned (.tuple #[.int .i64 r.2.1, .int .i64 r.2.2]) ∧ LayOwn TLay b r.1 w0 H L w'
theorem perm_ap1 {α : Type} (x b : α) (Lc Lf Lr L : List α) : (x :: b :: (Lc ++ (Lf ++ (Lr ++ L)))).Perm (b :: (Lr ++ (Lc ++ (Lf ++ (x :: L))))) := (by classical exact List.perm_iff_count.2 (fun a => by simp only [List.count_append, List.count_cons, List.cons_append, List.nil_append, List.append_assoc]; omega))
theorem perm_ap2 {α : Type} (x b : α) (Lc Lf Lr L : List α) : (b :: (Lr ++ (Lc ++ (Lf ++ (x :: L))))).Perm (x :: b :: (Lc ++ (Lf ++ (Lr ++ L)))) := (by classical exact List.perm_iff_count.2 (fun a => by simp only [List.count_append, List.count_cons, List.cons_append, List.nil_append, List.append_assoc]; omega))
theorem perm_ap3 {α : Type} (x b : α) (Lc Lf Lr L : List α) : (x :: b :: (Lc ++ (Lf ++ (Lr ++ L)))).Perm (b :: (Lc ++ (Lf ++ (Lr ++ (x :: L))))) := (by classical exact List.perm_iff_count.2 (fun a => by simp only [List.count_append, List.count_cons, List.cons_append, List.nil_append, List.append_assoc]; omega))
theorem perm_ap4 {α : Type} (x b : α) (Lc Lf Lr L : List α) : (b :: (Lc ++ (Lf ++ (Lr ++ (x :: L))))).Perm (x :: b :: (Lc ++ (Lf ++ (Lr ++ L)))) := (by classical exact List.perm_iff_count.2 (fun a => by simp only [List.count_append, List.count_cons, List.cons_append, List.nil_append, List.append_assoc]; omega))
set_option maxRecDepth 10000 in
set_option maxHeartbeats 8000000 in
theorem apply_any (b : Nat) (x : LayM) (v : Value) (cs : List ChangeM) (hx : x.fit 50000) (hcs : cs.length ≤ 1000) {w0 w : World} {H : Hp} {L : List (Nat × Obj)} (hl : LayOwn TLay b x w0 H L w) (hv : SlR encChange H v cs) :
    Calls Tryz.prog 26 #[.pointer (some ⟨b, 0, none⟩), v] w (ApplyR b (x.apply 0 cs) w0 H L) := by
  have HV := Lib.hid hv
  obtain ⟨vb, vcp, rfl, _, hvc, _, _⟩ := hv
  have hvc := size_le_maxLen hvc
  go_enter Tryz.func26, Tryz.ntmps26
  go_wp2_with fail
  go_loopw [6, 7, 8, 9, 12] (fun _ _ _ _ i wr => ∃ (k : Nat) (y : LayM), k ≤ cs.length ∧ i = .int .i64 k ∧ Hid (y.fit (50000 + k)) ∧ LayOwn TLay b y w0 H L wr ∧ Hid (y.apply k (cs.drop k) = x.apply 0 cs)) (fun _ _ _ _ i _ => cs.length - (intOf i).toNat)
  case atStart => exact ⟨0, x, Nat.zero_le _, rfl, Lib.hid (by simpa using hx), hl, Lib.hid rfl⟩
  case round =>
    clear hl
    obtain ⟨k, y, hk, rfl, hfit, hl, hap⟩ := hrel
    by_cases hlt : k < cs.length
    · have hltI : (k : Int) < cs.length := by omega
      have hdr : cs.drop k = cs[k] :: cs.drop (k + 1) := List.drop_eq_getElem_cons hlt
      have HAP := Lib.hid hap.out
      clear hap
      obtain ⟨blk, off, rfl, hcell, hcf⟩ := HV.out.getChange hlt
      generalize hck : cs[k] = c at *
      have HDR := Lib.hid hdr; clear hdr
      obtain ⟨vc, vr, rs, Lc, Lf, Lr, hac, hof, hor, m⟩ := hl
      have HCF := Lib.hid hcf; clear hcf
      have c0 := (hcell 0 _ rfl).cell m
      rw [Nat.add_zero] at c0
      have c1 := (hcell 1 _ rfl).cell m
      have c2 := (hcell 2 _ rfl).cell m
      have c3 := (hcell 3 _ rfl).cell m
      have c4 := (hcell 4 _ rfl).cell m
      have c5 := (hcell 5 _ rfl).cell m
      have c6 := (hcell 6 _ rfl).cell m
      clear hcell
      go_wp2_with fail
      have mA := m.alloc (CBox c)
      unfold CBox at mA
      clear c0 c1 c2 c3 c4 c5 c6 m
      generalize hxb : wr.heap.size = xb at *
      refine (shIsChange_any c HCF.out mA).mono ?_
      rintro e w1 ⟨rfl, m1⟩
      clear mA
      obtain ⟨cb, cc, rfl, -, -⟩ := hac.shape
      obtain ⟨rb, rc, rfl, -, -⟩ := hor.shape
      have es := m1.eqs
      simp only [EqsL] at es
      cases hform : c.form
      · have HFM := Lib.hid hform
        go_wp2_with fail
        go_ret2
        rw [← HAP.out, HDR.out, LayM.apply_bad (LayM.done_form HFM.out) (by decide)]
        exact ⟨rfl, _, _, rs, Lc, Lf, Lr, hac, hof, hor, m1.drop⟩
      by_cases h5 : 5 ≤ c.kind
      · have h5I : (5 : Int) ≤ c.kind := by omega
        go_wp2_with fail
        clear es
        refine (inRoots_any b _ _ y.roots c HCF.out (by have := hfit.out.roots; omega) hor (m1.perm (perm_ap1 _ _ _ _ _ _)) ⟨_, _, _, rfl⟩).mono ?_
        rintro e w2 ⟨v5, L5, rfl, ho5, m2⟩
        have m3 := m2.perm (perm_ap2 _ _ _ _ _ _)
        have HD := Lib.hid (LayM.done_roots hform h5 : y.done c = _)
        by_cases he : (rootsDone y.roots c).1 = 0
        · have HE := Lib.hid he
          have HN := Lib.hid (hfit.out.done c)
          rw [he]
          clear he
          go_wp2_with fail
          go_roundw
          case rel =>
            refine ⟨k + 1, { y with roots := (rootsDone y.roots c).2 }, by omega, by go_num, ?_, ⟨_, v5, rs, Lc, Lf, L5, hac, hof, ho5, m3.drop⟩, ?_⟩
            · have := HN.out
              rw [HD.out] at this
              exact Lib.hid this
            · refine Lib.hid ?_
              rw [← HAP.out, HDR.out]
              have h9 := HD.out
              rw [HE.out] at h9
              exact (LayM.apply_good h9).symm
          case measure => simp [intOf]; omega
        · have hsame := Lib.hid (rootsDone_err he)
          have HE := Lib.hid he
          generalize hee : (rootsDone y.roots c).1 = er at *
          have hb : (er == 0) = false := by simpa using he
          have hb2 : (er != 0) = true := by simpa using he
          clear he
          go_wp2_with fail
          go_ret2
          rw [← HAP.out, HDR.out]
          have h9 := HD.out
          rw [LayM.apply_bad h9 HE.out]
          exact ⟨rfl, ⟨_, v5, rs, Lc, Lf, L5, hac, hof, by rw [← hsame.out]; exact ho5, m3.drop⟩⟩
      · have h5I : ¬ (5 : Int) ≤ c.kind := by omega
        go_wp2_with fail
        clear es
        refine (inClasses_any b _ _ y.classes rs c HCF.out (fun z hz => by have := hfit.out.fields z hz; omega) (by have := hfit.out.classes; omega) hac hof (m1.perm (perm_ap3 _ _ _ _ _ _)) ⟨_, _, _, rfl⟩).mono ?_
        rintro e w2 ⟨rs5, Lc5, Lf5, rfl, hac5, hof5, m2⟩
        have m3 := m2.perm (perm_ap4 _ _ _ _ _ _)
        have HD := Lib.hid (LayM.done_classes hform h5 : y.done c = _)
        by_cases he : (classesDone y.classes c).1 = 0
        · have HE := Lib.hid he
          have HN := Lib.hid (hfit.out.done c)
          rw [he]
          clear he
          go_wp2_with fail
          go_roundw
          case rel =>
            refine ⟨k + 1, { y with classes := (classesDone y.classes c).2 }, by omega, by go_num, ?_, ⟨_, _, rs5, Lc5, Lf5, Lr, hac5, hof5, hor, m3.drop⟩, ?_⟩
            · have := HN.out
              rw [HD.out] at this
              exact Lib.hid this
            · refine Lib.hid ?_
              rw [← HAP.out, HDR.out]
              have h9 := HD.out
              rw [HE.out] at h9
              exact (LayM.apply_good h9).symm
          case measure => simp [intOf]; omega
        · have hsame := Lib.hid (classesDone_err he)
          have HE := Lib.hid he
          generalize hee : (classesDone y.classes c).1 = er at *
          have hb : (er == 0) = false := by simpa using he
          have hb2 : (er != 0) = true := by simpa using he
          clear he
          go_wp2_with fail
          go_ret2
          rw [← HAP.out, HDR.out]
          have h9 := HD.out
          rw [LayM.apply_bad h9 HE.out]
          exact ⟨rfl, ⟨_, _, rs5, Lc5, Lf5, Lr, hac5, by rw [← hsame.out]; exact hof5, hor, m3.drop⟩⟩
    · have hge : ¬ (k : Int) < cs.length := by omega
      have hk' : k = cs.length := by omega
      have HAP : Hid (x.apply 0 cs = (y, k, 0)) := Lib.hid (by rw [← hap.out, List.drop_of_length_le (by omega)]; rfl)
      have HK := Lib.hid hk'; clear hk' hap
      go_wp2_with fail
      go_ret2
      rw [HAP.out]
      exact ⟨by rw [← HK.out]; rfl, hl⟩
end Go.Proofs.YtbioklhoolkhkabGreat
namespace Go.Proofs.YtbioklhoolkhkabGreat
set_option linter.unusedVariables false
set_option linter.unusedSimpArgs false
open Go.RowKit

structure ApM where
  lay : LayM
  n : Nat
  e : Int
def applyM (x : LayM) (l : List ChangeM) : ApM := if 60 < l.length then ⟨⟨[], []⟩, 0, 5⟩ else ⟨(x.apply 0 l).1, (x.apply 0 l).2.1, (x.apply 0 l).2.2⟩
def ApR (r : ApM) (w0 : World) (H : Hp) (L : List (Nat × Obj)) (e : Ending) (w' : World) : Prop :=
  ∃ H' v1 v2, e = .returned (.tuple #[v1, v2, .int .i64 r.n, .int .i64 r.e]) ∧ Hle H H' ∧ SlR encClass H' v1 r.lay.classes ∧ SlR encStr H' v2 r.lay.roots ∧ Mem w0 H' L w'
theorem LayOwn.freeze {b : Nat} {x : LayM} {w0 w : World} {H : Hp} {L : List (Nat × Obj)} {vc vr : Value} {rs : List (ByteArray × Value)} {Lc Lf Lr : List (Nat × Obj)} (hac : AccL 39 2 vc rs.length (clsCs rs) Lc) (hof : OwnF rs x.classes Lf) (hor : OwnS vr x.roots Lr) (m : Mem w0 H ((b, LBox TLay vc vr) :: (Lc ++ (Lf ++ (Lr ++ L)))) w) :
    ∃ H', Hle H H' ∧ SlR encClass H' vc x.classes ∧ SlR encStr H' vr x.roots ∧ Mem w0 H' L w := by
  have m1 : Mem w0 H (Lf ++ (Lr ++ (Lc ++ L))) w := (m.drop).perm (by classical exact List.perm_iff_count.2 (fun a => by simp only [List.count_append, List.count_cons, List.cons_append, List.nil_append, List.append_assoc]; omega))
  obtain ⟨H1, m2, hl1, hrc⟩ := hof.freeze m1
  obtain ⟨H2, m3, hl2, hsr⟩ := hor.freeze m2
  obtain ⟨H3, m4, hl3, hsc⟩ := (hac.join m3).done (E := encClass) ((hrc.mono hl2).chunks) rfl hof.length
  exact ⟨H3, (hl1.trans hl2).trans hl3, hsc, hsr.mono hl3, m4⟩
set_option maxRecDepth 10000 in
set_option maxHeartbeats 4000000 in
theorem shApply_any (x : LayM) (v1 v2 v3 : Value) (cs : List ChangeM) (hx : x.fit 50000) {w0 w : World} {H : Hp} {L : List (Nat × Obj)} (m : Mem w0 H L w) (hv1 : SlR encClass H v1 x.classes) (hv2 : SlR encStr H v2 x.roots) (hv3 : SlR encChange H v3 cs) :
    Calls Tryz.prog 8 #[v1, v2, v3] w (ApR (applyM x cs) w0 H L) := by
  have H1 := Lib.hid hv1; clear hv1
  have H2 := Lib.hid hv2; clear hv2
  have H3 := Lib.hid hv3
  obtain ⟨vb, vcp, rfl, hvc1, hvc, _, _⟩ := hv3
  have hvc := size_le_maxLen hvc
  go_enter Tryz.func8, Tryz.ntmps8
  by_cases h60 : 60 < cs.length
  · have h60I : (60 : Int) < cs.length := by omega
    have HA : Hid (applyM x cs = ⟨⟨[], []⟩, 0, 5⟩) := Lib.hid (if_pos h60)
    go_wp2_with fail
    refine bodyPost_ret (v := .tuple #[.slice none 0 0, .slice none 0 0, .int .i64 0, .int .i64 5]) (by simp [results, Tryz.results8, go_sem]) rfl ?_
    rw [HA.out]
    exact ⟨H, _, _, rfl, Hle.refl H, SlR.nil _ _, SlR.nil _ _, m⟩
  · have h60I : ¬ (60 : Int) < cs.length := by omega
    have HA : Hid (applyM x cs = ⟨(x.apply 0 cs).1, (x.apply 0 cs).2.1, (x.apply 0 cs).2.2⟩) := Lib.hid (if_neg h60)
    go_wp2_with fail
    refine (newLayout_any v1 v2 x.classes x.roots m H1.out H2.out (by have := hx.classes; omega) (by have := hx.roots; omega) (fun c hc => by have := hx.fields c hc; omega)).mono ?_
    rintro e w1 ⟨b, rfl, hl⟩
    go_wp2_with fail
    refine (apply_any b x _ cs hx (by omega) hl H3.out).mono ?_
    rintro e w2 ⟨rfl, hl2⟩
    generalize hr : x.apply 0 cs = r at *
    obtain ⟨y, n, er⟩ := r
    obtain ⟨vc, vr, rs, Lc, Lf, Lr, hac, hof, hor, m2⟩ := hl2
    obtain ⟨cb, cc, rfl, -, -⟩ := hac.shape
    obtain ⟨rb, rc, rfl, -, -⟩ := hor.shape
    clear hl hr
    have mu := m2
    unfold LBox at mu
    have es := mu.eqs
    simp only [EqsL] at es
    simp only
    go_wp2_with fail
    clear es mu
    refine AnyFrom.start (fun w' => w' = w2.drew) 14 (by kernel_rfl) ?_
    have md := m2.drew
    clear m2
    generalize w2.drew = W at *
    have HS : W = W := rfl
    have mu := md
    unfold LBox at mu
    have es := mu.eqs
    simp only [EqsL] at es
    refine AnyFrom.takeT (i := 0) (v := ?_) rfl (by kernel_rfl) (by kernel_rfl) (by kernel_rfl) (by kernel_rfl) (fun _ _ _ h => h) ⟨by kernel_rfl, ?_⟩ HS ?_
    rotate_left
    · first | (rintro w' rfl; go_simp; done) | (rintro w' rfl; go_simp; with_reducible rfl)
    simp only [Act.put, List.setIfInBounds_toArray, List.set_cons_zero, List.set_cons_succ, List.getElem_toArray, List.getElem_cons_succ, List.getElem_cons_zero]
    refine AnyFrom.takeT (i := 1) (v := ?_) rfl (by kernel_rfl) (by kernel_rfl) (by kernel_rfl) (by kernel_rfl) (fun _ _ _ h => h) ⟨by kernel_rfl, ?_⟩ HS ?_
    rotate_left
    · first | (rintro w' rfl; go_simp; done) | (rintro w' rfl; go_simp; with_reducible rfl)
    simp only [Act.put, List.setIfInBounds_toArray, List.set_cons_zero, List.set_cons_succ, List.getElem_toArray, List.getElem_cons_succ, List.getElem_cons_zero]
    refine AnyFrom.takeT (i := 2) (v := ?_) rfl (by kernel_rfl) (by kernel_rfl) (by kernel_rfl) (by kernel_rfl) (fun _ _ _ h => h) ⟨by kernel_rfl, ?_⟩ HS ?_
    rotate_left
    · first | (rintro w' rfl; go_simp; done) | (rintro w' rfl; go_simp; with_reducible rfl)
    simp only [Act.put, List.setIfInBounds_toArray, List.set_cons_zero, List.set_cons_succ, List.getElem_toArray, List.getElem_cons_succ, List.getElem_cons_zero]
    refine AnyFrom.takeT (i := 3) (v := ?_) rfl (by kernel_rfl) (by kernel_rfl) (by kernel_rfl) (by kernel_rfl) (fun _ _ _ h => h) ⟨by kernel_rfl, ?_⟩ HS ?_
    rotate_left
    · first | (rintro w' rfl; go_simp; done) | (rintro w' rfl; go_simp; with_reducible rfl)
    simp only [Act.put, List.setIfInBounds_toArray, List.set_cons_zero, List.set_cons_succ, List.getElem_toArray, List.getElem_cons_succ, List.getElem_cons_zero]
    refine AnyFrom.takeT (i := 4) (v := ?_) rfl (by kernel_rfl) (by kernel_rfl) (by kernel_rfl) (by kernel_rfl) (fun _ _ _ h => h) ⟨by kernel_rfl, ?_⟩ HS ?_
    rotate_left
    · first | (rintro w' rfl; go_simp; done) | (rintro w' rfl; go_simp; with_reducible rfl)
    simp only [Act.put, List.setIfInBounds_toArray, List.set_cons_zero, List.set_cons_succ, List.getElem_toArray, List.getElem_cons_succ, List.getElem_cons_zero]
    refine AnyFrom.takeT (i := 5) (v := ?_) rfl (by kernel_rfl) (by kernel_rfl) (by kernel_rfl) (by kernel_rfl) (fun _ _ _ h => h) ⟨by kernel_rfl, ?_⟩ HS ?_
    rotate_left
    · first | (rintro w' rfl; go_simp; done) | (rintro w' rfl; go_simp; with_reducible rfl)
    simp only [Act.put, List.setIfInBounds_toArray, List.set_cons_zero, List.set_cons_succ, List.getElem_toArray, List.getElem_cons_succ, List.getElem_cons_zero]
    refine AnyFrom.takeT (i := 6) (v := ?_) rfl (by kernel_rfl) (by kernel_rfl) (by kernel_rfl) (by kernel_rfl) (fun _ _ _ h => h) ⟨by kernel_rfl, ?_⟩ HS ?_
    rotate_left
    · first | (rintro w' rfl; go_simp; done) | (rintro w' rfl; go_simp; with_reducible rfl)
    simp only [Act.put, List.setIfInBounds_toArray, List.set_cons_zero, List.set_cons_succ, List.getElem_toArray, List.getElem_cons_succ, List.getElem_cons_zero]
    refine AnyFrom.takeT (i := 7) (v := ?_) rfl (by kernel_rfl) (by kernel_rfl) (by kernel_rfl) (by kernel_rfl) (fun _ _ _ h => h) ⟨by kernel_rfl, ?_⟩ HS ?_
    rotate_left
    · first | (rintro w' rfl; go_simp; done) | (rintro w' rfl; go_simp; with_reducible rfl)
    simp only [Act.put, List.setIfInBounds_toArray, List.set_cons_zero, List.set_cons_succ, List.getElem_toArray, List.getElem_cons_succ, List.getElem_cons_zero]
    refine AnyFrom.pure (i := 8) (v := ?_) rfl (by kernel_rfl) (by kernel_rfl) (by kernel_rfl) (by decide) (fun _ _ _ h => h) ⟨by kernel_rfl, ?_⟩ HS ?_
    rotate_left
    · first | (intro w'; go_simp; done) | (intro w'; go_simp; with_reducible rfl)
    simp only [Act.put, List.setIfInBounds_toArray, List.set_cons_zero, List.set_cons_succ, List.getElem_toArray, List.getElem_cons_succ, List.getElem_cons_zero]
    refine AnyFrom.pure (i := 9) (v := ?_) rfl (by kernel_rfl) (by kernel_rfl) (by kernel_rfl) (by decide) (fun _ _ _ h => h) ⟨by kernel_rfl, ?_⟩ HS ?_
    rotate_left
    · first | (intro w'; go_simp; done) | (intro w'; go_simp; with_reducible rfl)
    simp only [Act.put, List.setIfInBounds_toArray, List.set_cons_zero, List.set_cons_succ, List.getElem_toArray, List.getElem_cons_succ, List.getElem_cons_zero]
    refine AnyFrom.one (i := 10) (by kernel_rfl) (AnyFrom.op rfl (by kernel_rfl) fun K hK => ?_)
    go_simp
    refine hK _ _ (.inr rfl) ?_
    clear hK K
    try simp only [Act.put, List.setIfInBounds_toArray, List.set_cons_zero, List.set_cons_succ, List.getElem_toArray, List.getElem_cons_succ, List.getElem_cons_zero]
    refine AnyFrom.one (i := 11) (by kernel_rfl) (AnyFrom.op rfl (by kernel_rfl) fun K hK => ?_)
    go_simp
    refine hK _ _ (.inr rfl) ?_
    clear hK K
    try simp only [Act.put, List.setIfInBounds_toArray, List.set_cons_zero, List.set_cons_succ, List.getElem_toArray, List.getElem_cons_succ, List.getElem_cons_zero]
    refine AnyFrom.one (i := 12) (by kernel_rfl) (AnyFrom.op rfl (by kernel_rfl) fun K hK => ?_)
    go_simp
    refine hK _ _ (.inr rfl) ?_
    clear hK K
    try simp only [Act.put, List.setIfInBounds_toArray, List.set_cons_zero, List.set_cons_succ, List.getElem_toArray, List.getElem_cons_succ, List.getElem_cons_zero]
    refine AnyFrom.one (i := 13) (by kernel_rfl) (AnyFrom.op rfl (by kernel_rfl) fun K hK => ?_)
    go_simp
    refine hK _ _ (.inr rfl) ?_
    clear hK K
    try simp only [Act.put, List.setIfInBounds_toArray, List.set_cons_zero, List.set_cons_succ, List.getElem_toArray, List.getElem_cons_succ, List.getElem_cons_zero]
    refine AnyFrom.done (by kernel_rfl) ?_ _
    clear HS es mu
    obtain ⟨H9, hl9, hs1, hs2, m9⟩ := LayOwn.freeze hac hof hor md
    go_wp2_with fail
    refine bodyPost_ret (v := .tuple #[.slice cb rs.length cc, .slice rb y.roots.length rc, .int .i64 n, .int .i64 er]) (by simp [results, Tryz.results8, go_sem]) rfl ?_
    rw [HA.out]
    exact ⟨H9, _, _, rfl, hl9, hs1, hs2, m9⟩
end Go.Proofs.YtbioklhoolkhkabGreat
namespace Go.Proofs.YtbioklhoolkhkabGreat
set_option linter.unusedVariables false
set_option linter.unusedSimpArgs false
open Go.RowKit

/-- Are two lists alike, element by element? -/
def alikeL {α : Type} (p : α → α → Bool) : List α → List α → Bool
  | [], [] => true
  | x :: l, y :: m => p x y && alikeL p l m
  | _, _ => false
theorem alikeL_len {α : Type} {p : α → α → Bool} : ∀ {l m : List α}, l.length ≠ m.length → alikeL p l m = false
  | [], [], h => absurd rfl h
  | [], _ :: _, _ => rfl
  | _ :: _, [], _ => rfl
  | x :: l, y :: m, h => by
    simp only [alikeL, Bool.and_eq_false_iff]
    exact .inr (alikeL_len (by simpa using h))
theorem alikeL_bad {α : Type} {p : α → α → Bool} : ∀ {l m : List α} (k : Nat) (h1 : k < l.length) (h2 : k < m.length), p l[k] m[k] = false → alikeL p l m = false
  | x :: l, y :: m, 0, _, _, h => by simp only [alikeL, Bool.and_eq_false_iff]; exact .inl h
  | x :: l, y :: m, k + 1, h1, h2, h => by
    simp only [alikeL, Bool.and_eq_false_iff]
    exact .inr (alikeL_bad k (by simpa using h1) (by simpa using h2) h)
theorem alikeL_good {α : Type} {p : α → α → Bool} : ∀ {l m : List α}, l.length = m.length → (∀ k (h1 : k < l.length) (h2 : k < m.length), p l[k] m[k] = true) → alikeL p l m = true
  | [], [], _, _ => rfl
  | x :: l, y :: m, h, hp => by
    simp only [alikeL, Bool.and_eq_true]
    exact ⟨hp 0 (by simp) (by simp), alikeL_good (by simpa using h) fun k h1 h2 => hp (k + 1) (by simpa using h1) (by simpa using h2)⟩
def alikeS (xs ys : List ByteArray) : Bool := alikeL (fun a b => decide (a = b)) xs ys
def alikeC (xs ys : List ClassM) : Bool := alikeL (fun a b => decide (a.name = b.name) && alikeS a.fields b.fields) xs ys
theorem alikeS_self : ∀ xs : List ByteArray, alikeS xs xs = true := fun xs => alikeL_good rfl fun k h1 h2 => by simp
theorem alikeC_self : ∀ xs : List ClassM, alikeC xs xs = true := fun xs => alikeL_good rfl fun k h1 h2 => by simp [alikeS_self]

set_option maxRecDepth 10000 in
set_option maxHeartbeats 4000000 in
theorem Texts_any (v1 v2 : Value) (xs ys : List ByteArray) {w0 w : World} {H : Hp} {L : List (Nat × Obj)} (m : Mem w0 H L w) (h1 : SlR encStr H v1 xs) (h2 : SlR encStr H v2 ys) :
    Calls Tryz.prog 11 #[v1, v2] w (Ret w0 H L (.bool (alikeS xs ys))) := by
  have H1 := Lib.hid h1
  have H2 := Lib.hid h2
  obtain ⟨b1, c1, rfl, _, hx1, _, _⟩ := h1
  obtain ⟨b2, c2, rfl, _, hx2, _, _⟩ := h2
  have hx1 := size_le_maxLen hx1
  have hx2 := size_le_maxLen hx2
  go_enter Tryz.func11, Tryz.ntmps11
  by_cases hl : xs.length = ys.length
  · have HL := Lib.hid hl
    have hlI : ((xs.length : Int) != (ys.length : Int)) = false := by simp [hl]
    clear hl
    go_wp2_with fail
    go_loopw [5] (fun i wr => ∃ k : Nat, k ≤ xs.length ∧ i = .int .i64 k ∧ Hid (∀ j (q1 : j < xs.length) (q2 : j < ys.length), j < k → xs[j] = ys[j]) ∧ Mem w0 H L wr) (fun i _ => xs.length - (intOf i).toNat)
    case atStart => exact ⟨0, Nat.zero_le _, rfl, Lib.hid (fun j _ _ h => absurd h (Nat.not_lt_zero _)), m⟩
    case round =>
      obtain ⟨k, hk, rfl, hall, mk⟩ := hrel
      by_cases hlt : k < xs.length
      · have hlt2 : k < ys.length := by rw [← HL.out]; exact hlt
        obtain ⟨q1, o1, rfl, d1, _⟩ := H1.out.getStr hlt
        obtain ⟨q2, o2, rfl, d2, _⟩ := H2.out.getStr hlt2
        have d1 := d1.cell mk
        have d2 := d2.cell mk
        have hltI : (k : Int) < xs.length := by omega
        have hlt2I : (k : Int) < ys.length := by omega
        by_cases hq : xs[k] = ys[k]
        · have HQ := Lib.hid hq
          have hb : (xs[k].toList == ys[k].toList) = true := by rw [hq]; exact beq_self_eq_true _
          have hb2 : (xs[k].toList != ys[k].toList) = false := by rw [bne, hb]; rfl
          clear hq
          go_wp2_with fail
          go_quiet (fail)
          go_wp2_with fail
          go_roundw
          case rel =>
            refine ⟨k + 1, by omega, by go_num, Lib.hid (fun j q1 q2 hj => ?_), mk.drewN _⟩
            rcases Nat.lt_succ_iff_lt_or_eq.1 hj with hj | rfl
            · exact hall.out j q1 q2 hj
            · exact HQ.out
          case measure => simp [intOf]; omega
        · have HQ := Lib.hid hq
          have hb : (xs[k].toList == ys[k].toList) = false := beq_eq_false_iff_ne.2 fun e => hq ((toList_eq_iff _ _).1 e)
          have hb2 : (xs[k].toList != ys[k].toList) = true := by rw [bne, hb]; rfl
          clear hq
          go_wp2_with fail
          go_quiet (fail)
          go_wp2_with fail
          go_ret
          exact ⟨ret_bool (alikeL_bad k hlt hlt2 (decide_eq_false HQ.out)).symm, mk.drewN _⟩
      · have hge : ¬ (k : Int) < xs.length := by omega
        go_wp2_with fail
        go_ret
        exact ⟨ret_bool (alikeL_good HL.out fun j q1 q2 => decide_eq_true (hall.out j q1 q2 (by omega))).symm, mk⟩
  · have hlI : ((xs.length : Int) != (ys.length : Int)) = true := by simp; omega
    have HL := Lib.hid hl
    clear hl
    go_wp2_with fail
    go_ret
    exact ⟨ret_bool (alikeL_len HL.out).symm, m⟩
end Go.Proofs.YtbioklhoolkhkabGreat
namespace Go.Proofs.YtbioklhoolkhkabGreat
set_option linter.unusedVariables false
set_option linter.unusedSimpArgs false
open Go.RowKit

theorem alikeS_true (xs : List ByteArray) : Ending.returned (.bool (alikeS xs xs)) = .returned (.bool true) := by rw [alikeS_self]
set_option maxRecDepth 10000 in
set_option maxHeartbeats 4000000 in
theorem Classes_same (v1 v2 : Value) (xs : List ClassM) {w0 w : World} {H : Hp} {L : List (Nat × Obj)} (m : Mem w0 H L w) (h1 : SlR encClass H v1 xs) (h2 : SlR encClass H v2 xs) :
    Calls Tryz.prog 10 #[v1, v2] w (Ret w0 H L (.bool true)) := by
  have H1 := Lib.hid h1
  have H2 := Lib.hid h2
  obtain ⟨b1, c1, rfl, _, hx1, _, _⟩ := h1
  obtain ⟨b2, c2, rfl, _, hx2, _, _⟩ := h2
  have hx1 := size_le_maxLen hx1
  have hx2 := size_le_maxLen hx2
  go_enter Tryz.func10, Tryz.ntmps10
  go_wp2_with fail
  go_loopw [5] (fun i wr => ∃ k : Nat, k ≤ xs.length ∧ i = .int .i64 k ∧ Mem w0 H L wr) (fun i _ => xs.length - (intOf i).toNat)
  case atStart => exact ⟨0, Nat.zero_le _, rfl, m⟩
  case round =>
    obtain ⟨k, hk, rfl, mk⟩ := hrel
    by_cases hlt : k < xs.length
    · obtain ⟨q1, o1, s1, rfl, d1, f1, g1, _⟩ := H1.out.getClass hlt
      obtain ⟨q2, o2, s2, rfl, d2, f2, g2, _⟩ := H2.out.getClass hlt
      have HG1 := Lib.hid g1
      have HG2 := Lib.hid g2
      obtain ⟨sb1, sc1, rfl, -⟩ := g1
      obtain ⟨sb2, sc2, rfl, -⟩ := g2
      have HD1 := Lib.hid d1; clear d1
      have HD2 := Lib.hid d2; clear d2
      have HF1 := Lib.hid f1; clear f1
      have HF2 := Lib.hid f2; clear f2
      have hltI : (k : Int) < xs.length := by omega
      have hb : (xs[k].name.toList == xs[k].name.toList) = true := beq_self_eq_true _
      have hb2 : (xs[k].name.toList != xs[k].name.toList) = false := by rw [bne, hb]; rfl
      go_wp2_with fail
      refine AnyFrom.start (fun w' => Mem w0 H L w') 25 (by kernel_rfl) ?_
      have md := mk.drew
      clear mk
      generalize wr.drew = W at *
      have HS : Mem w0 H L W := md
      refine AnyFrom.takeT (i := 0) (v := ?_) rfl (by kernel_rfl) (by kernel_rfl) (by kernel_rfl) (by kernel_rfl) (fun _ _ _ h => h) ⟨by kernel_rfl, ?_⟩ HS ?_
      rotate_left
      · first | (intro w' hm; have d1 := HD1.out.cell hm; have d2 := HD2.out.cell hm; have f1 := HF1.out.cell hm; have f2 := HF2.out.cell hm; go_simp; done) | (intro w' hm; have d1 := HD1.out.cell hm; have d2 := HD2.out.cell hm; have f1 := HF1.out.cell hm; have f2 := HF2.out.cell hm; go_simp; with_reducible rfl)
      simp only [Act.put, List.setIfInBounds_toArray, List.set_cons_zero, List.set_cons_succ, List.getElem_toArray, List.getElem_cons_succ, List.getElem_cons_zero]
      refine AnyFrom.takeT (i := 1) (v := ?_) rfl (by kernel_rfl) (by kernel_rfl) (by kernel_rfl) (by kernel_rfl) (fun _ _ _ h => h) ⟨by kernel_rfl, ?_⟩ HS ?_
      rotate_left
      · first | (intro w' hm; have d1 := HD1.out.cell hm; have d2 := HD2.out.cell hm; have f1 := HF1.out.cell hm; have f2 := HF2.out.cell hm; go_simp; done) | (intro w' hm; have d1 := HD1.out.cell hm; have d2 := HD2.out.cell hm; have f1 := HF1.out.cell hm; have f2 := HF2.out.cell hm; go_simp; with_reducible rfl)
      simp only [Act.put, List.setIfInBounds_toArray, List.set_cons_zero, List.set_cons_succ, List.getElem_toArray, List.getElem_cons_succ, List.getElem_cons_zero]
      refine AnyFrom.takeT (i := 2) (v := ?_) rfl (by kernel_rfl) (by kernel_rfl) (by kernel_rfl) (by kernel_rfl) (fun _ _ _ h => h) ⟨by kernel_rfl, ?_⟩ HS ?_
      rotate_left
      · first | (intro w' hm; have d1 := HD1.out.cell hm; have d2 := HD2.out.cell hm; have f1 := HF1.out.cell hm; have f2 := HF2.out.cell hm; go_simp; done) | (intro w' hm; have d1 := HD1.out.cell hm; have d2 := HD2.out.cell hm; have f1 := HF1.out.cell hm; have f2 := HF2.out.cell hm; go_simp; with_reducible rfl)
      simp only [Act.put, List.setIfInBounds_toArray, List.set_cons_zero, List.set_cons_succ, List.getElem_toArray, List.getElem_cons_succ, List.getElem_cons_zero]
      refine AnyFrom.takeT (i := 3) (v := ?_) rfl (by kernel_rfl) (by kernel_rfl) (by kernel_rfl) (by kernel_rfl) (fun _ _ _ h => h) ⟨by kernel_rfl, ?_⟩ HS ?_
      rotate_left
      · first | (intro w' hm; have d1 := HD1.out.cell hm; have d2 := HD2.out.cell hm; have f1 := HF1.out.cell hm; have f2 := HF2.out.cell hm; go_simp; done) | (intro w' hm; have d1 := HD1.out.cell hm; have d2 := HD2.out.cell hm; have f1 := HF1.out.cell hm; have f2 := HF2.out.cell hm; go_simp; with_reducible rfl)
      simp only [Act.put, List.setIfInBounds_toArray, List.set_cons_zero, List.set_cons_succ, List.getElem_toArray, List.getElem_cons_succ, List.getElem_cons_zero]
      refine AnyFrom.takeT (i := 4) (v := ?_) rfl (by kernel_rfl) (by kernel_rfl) (by kernel_rfl) (by kernel_rfl) (fun _ _ _ h => h) ⟨by kernel_rfl, ?_⟩ HS ?_
      rotate_left
      · first | (intro w' hm; have d1 := HD1.out.cell hm; have d2 := HD2.out.cell hm; have f1 := HF1.out.cell hm; have f2 := HF2.out.cell hm; go_simp; done) | (intro w' hm; have d1 := HD1.out.cell hm; have d2 := HD2.out.cell hm; have f1 := HF1.out.cell hm; have f2 := HF2.out.cell hm; go_simp; with_reducible rfl)
      simp only [Act.put, List.setIfInBounds_toArray, List.set_cons_zero, List.set_cons_succ, List.getElem_toArray, List.getElem_cons_succ, List.getElem_cons_zero]
      refine AnyFrom.takeT (i := 5) (v := ?_) rfl (by kernel_rfl) (by kernel_rfl) (by kernel_rfl) (by kernel_rfl) (fun _ _ _ h => h) ⟨by kernel_rfl, ?_⟩ HS ?_
      rotate_left
      · first | (intro w' hm; have d1 := HD1.out.cell hm; have d2 := HD2.out.cell hm; have f1 := HF1.out.cell hm; have f2 := HF2.out.cell hm; go_simp; done) | (intro w' hm; have d1 := HD1.out.cell hm; have d2 := HD2.out.cell hm; have f1 := HF1.out.cell hm; have f2 := HF2.out.cell hm; go_simp; with_reducible rfl)
      simp only [Act.put, List.setIfInBounds_toArray, List.set_cons_zero, List.set_cons_succ, List.getElem_toArray, List.getElem_cons_succ, List.getElem_cons_zero]
      refine AnyFrom.takeT (i := 6) (v := ?_) rfl (by kernel_rfl) (by kernel_rfl) (by kernel_rfl) (by kernel_rfl) (fun _ _ _ h => h) ⟨by kernel_rfl, ?_⟩ HS ?_
      rotate_left
      · first | (intro w' hm; have d1 := HD1.out.cell hm; have d2 := HD2.out.cell hm; have f1 := HF1.out.cell hm; have f2 := HF2.out.cell hm; go_simp; done) | (intro w' hm; have d1 := HD1.out.cell hm; have d2 := HD2.out.cell hm; have f1 := HF1.out.cell hm; have f2 := HF2.out.cell hm; go_simp; with_reducible rfl)
      simp only [Act.put, List.setIfInBounds_toArray, List.set_cons_zero, List.set_cons_succ, List.getElem_toArray, List.getElem_cons_succ, List.getElem_cons_zero]
      refine AnyFrom.takeT (i := 7) (v := ?_) rfl (by kernel_rfl) (by kernel_rfl) (by kernel_rfl) (by kernel_rfl) (fun _ _ _ h => h) ⟨by kernel_rfl, ?_⟩ HS ?_
      rotate_left
      · first | (intro w' hm; have d1 := HD1.out.cell hm; have d2 := HD2.out.cell hm; have f1 := HF1.out.cell hm; have f2 := HF2.out.cell hm; go_simp; done) | (intro w' hm; have d1 := HD1.out.cell hm; have d2 := HD2.out.cell hm; have f1 := HF1.out.cell hm; have f2 := HF2.out.cell hm; go_simp; with_reducible rfl)
      simp only [Act.put, List.setIfInBounds_toArray, List.set_cons_zero, List.set_cons_succ, List.getElem_toArray, List.getElem_cons_succ, List.getElem_cons_zero]
      refine AnyFrom.takeT (i := 8) (v := ?_) rfl (by kernel_rfl) (by kernel_rfl) (by kernel_rfl) (by kernel_rfl) (fun _ _ _ h => h) ⟨by kernel_rfl, ?_⟩ HS ?_
      rotate_left
      · first | (intro w' hm; have d1 := HD1.out.cell hm; have d2 := HD2.out.cell hm; have f1 := HF1.out.cell hm; have f2 := HF2.out.cell hm; go_simp; done) | (intro w' hm; have d1 := HD1.out.cell hm; have d2 := HD2.out.cell hm; have f1 := HF1.out.cell hm; have f2 := HF2.out.cell hm; go_simp; with_reducible rfl)
      simp only [Act.put, List.setIfInBounds_toArray, List.set_cons_zero, List.set_cons_succ, List.getElem_toArray, List.getElem_cons_succ, List.getElem_cons_zero]
      refine AnyFrom.takeT (i := 9) (v := ?_) rfl (by kernel_rfl) (by kernel_rfl) (by kernel_rfl) (by kernel_rfl) (fun _ _ _ h => h) ⟨by kernel_rfl, ?_⟩ HS ?_
      rotate_left
      · first | (intro w' hm; have d1 := HD1.out.cell hm; have d2 := HD2.out.cell hm; have f1 := HF1.out.cell hm; have f2 := HF2.out.cell hm; go_simp; done) | (intro w' hm; have d1 := HD1.out.cell hm; have d2 := HD2.out.cell hm; have f1 := HF1.out.cell hm; have f2 := HF2.out.cell hm; go_simp; with_reducible rfl)
      simp only [Act.put, List.setIfInBounds_toArray, List.set_cons_zero, List.set_cons_succ, List.getElem_toArray, List.getElem_cons_succ, List.getElem_cons_zero]
      refine AnyFrom.takeT (i := 10) (v := ?_) rfl (by kernel_rfl) (by kernel_rfl) (by kernel_rfl) (by kernel_rfl) (fun _ _ _ h => h) ⟨by kernel_rfl, ?_⟩ HS ?_
      rotate_left
      · first | (intro w' hm; have d1 := HD1.out.cell hm; have d2 := HD2.out.cell hm; have f1 := HF1.out.cell hm; have f2 := HF2.out.cell hm; go_simp; done) | (intro w' hm; have d1 := HD1.out.cell hm; have d2 := HD2.out.cell hm; have f1 := HF1.out.cell hm; have f2 := HF2.out.cell hm; go_simp; with_reducible rfl)
      simp only [Act.put, List.setIfInBounds_toArray, List.set_cons_zero, List.set_cons_succ, List.getElem_toArray, List.getElem_cons_succ, List.getElem_cons_zero]
      refine AnyFrom.takeT (i := 11) (v := ?_) rfl (by kernel_rfl) (by kernel_rfl) (by kernel_rfl) (by kernel_rfl) (fun _ _ _ h => h) ⟨by kernel_rfl, ?_⟩ HS ?_
      rotate_left
      · first | (intro w' hm; have d1 := HD1.out.cell hm; have d2 := HD2.out.cell hm; have f1 := HF1.out.cell hm; have f2 := HF2.out.cell hm; go_simp; done) | (intro w' hm; have d1 := HD1.out.cell hm; have d2 := HD2.out.cell hm; have f1 := HF1.out.cell hm; have f2 := HF2.out.cell hm; go_simp; with_reducible rfl)
      simp only [Act.put, List.setIfInBounds_toArray, List.set_cons_zero, List.set_cons_succ, List.getElem_toArray, List.getElem_cons_succ, List.getElem_cons_zero]
      refine AnyFrom.takeT (i := 12) (v := ?_) rfl (by kernel_rfl) (by kernel_rfl) (by kernel_rfl) (by kernel_rfl) (fun _ _ _ h => h) ⟨by kernel_rfl, ?_⟩ HS ?_
      rotate_left
      · first | (intro w' hm; have d1 := HD1.out.cell hm; have d2 := HD2.out.cell hm; have f1 := HF1.out.cell hm; have f2 := HF2.out.cell hm; go_simp; done) | (intro w' hm; have d1 := HD1.out.cell hm; have d2 := HD2.out.cell hm; have f1 := HF1.out.cell hm; have f2 := HF2.out.cell hm; go_simp; with_reducible rfl)
      simp only [Act.put, List.setIfInBounds_toArray, List.set_cons_zero, List.set_cons_succ, List.getElem_toArray, List.getElem_cons_succ, List.getElem_cons_zero]
      refine AnyFrom.takeT (i := 13) (v := ?_) rfl (by kernel_rfl) (by kernel_rfl) (by kernel_rfl) (by kernel_rfl) (fun _ _ _ h => h) ⟨by kernel_rfl, ?_⟩ HS ?_
      rotate_left
      · first | (intro w' hm; have d1 := HD1.out.cell hm; have d2 := HD2.out.cell hm; have f1 := HF1.out.cell hm; have f2 := HF2.out.cell hm; go_simp; done) | (intro w' hm; have d1 := HD1.out.cell hm; have d2 := HD2.out.cell hm; have f1 := HF1.out.cell hm; have f2 := HF2.out.cell hm; go_simp; with_reducible rfl)
      simp only [Act.put, List.setIfInBounds_toArray, List.set_cons_zero, List.set_cons_succ, List.getElem_toArray, List.getElem_cons_succ, List.getElem_cons_zero]
      refine AnyFrom.takeT (i := 14) (v := ?_) rfl (by kernel_rfl) (by kernel_rfl) (by kernel_rfl) (by kernel_rfl) (fun _ _ _ h => h) ⟨by kernel_rfl, ?_⟩ HS ?_
      rotate_left
      · first | (intro w' hm; have d1 := HD1.out.cell hm; have d2 := HD2.out.cell hm; have f1 := HF1.out.cell hm; have f2 := HF2.out.cell hm; go_simp; done) | (intro w' hm; have d1 := HD1.out.cell hm; have d2 := HD2.out.cell hm; have f1 := HF1.out.cell hm; have f2 := HF2.out.cell hm; go_simp; with_reducible rfl)
      simp only [Act.put, List.setIfInBounds_toArray, List.set_cons_zero, List.set_cons_succ, List.getElem_toArray, List.getElem_cons_succ, List.getElem_cons_zero]
      refine AnyFrom.takeT (i := 15) (v := ?_) rfl (by kernel_rfl) (by kernel_rfl) (by kernel_rfl) (by kernel_rfl) (fun _ _ _ h => h) ⟨by kernel_rfl, ?_⟩ HS ?_
      rotate_left
      · first | (intro w' hm; have d1 := HD1.out.cell hm; have d2 := HD2.out.cell hm; have f1 := HF1.out.cell hm; have f2 := HF2.out.cell hm; go_simp; done) | (intro w' hm; have d1 := HD1.out.cell hm; have d2 := HD2.out.cell hm; have f1 := HF1.out.cell hm; have f2 := HF2.out.cell hm; go_simp; with_reducible rfl)
      simp only [Act.put, List.setIfInBounds_toArray, List.set_cons_zero, List.set_cons_succ, List.getElem_toArray, List.getElem_cons_succ, List.getElem_cons_zero]
      refine AnyFrom.takeT (i := 16) (v := ?_) rfl (by kernel_rfl) (by kernel_rfl) (by kernel_rfl) (by kernel_rfl) (fun _ _ _ h => h) ⟨by kernel_rfl, ?_⟩ HS ?_
      rotate_left
      · first | (intro w' hm; have d1 := HD1.out.cell hm; have d2 := HD2.out.cell hm; have f1 := HF1.out.cell hm; have f2 := HF2.out.cell hm; go_simp; done) | (intro w' hm; have d1 := HD1.out.cell hm; have d2 := HD2.out.cell hm; have f1 := HF1.out.cell hm; have f2 := HF2.out.cell hm; go_simp; with_reducible rfl)
      simp only [Act.put, List.setIfInBounds_toArray, List.set_cons_zero, List.set_cons_succ, List.getElem_toArray, List.getElem_cons_succ, List.getElem_cons_zero]
      refine AnyFrom.takeT (i := 17) (v := ?_) rfl (by kernel_rfl) (by kernel_rfl) (by kernel_rfl) (by kernel_rfl) (fun _ _ _ h => h) ⟨by kernel_rfl, ?_⟩ HS ?_
      rotate_left
      · first | (intro w' hm; have d1 := HD1.out.cell hm; have d2 := HD2.out.cell hm; have f1 := HF1.out.cell hm; have f2 := HF2.out.cell hm; go_simp; done) | (intro w' hm; have d1 := HD1.out.cell hm; have d2 := HD2.out.cell hm; have f1 := HF1.out.cell hm; have f2 := HF2.out.cell hm; go_simp; with_reducible rfl)
      simp only [Act.put, List.setIfInBounds_toArray, List.set_cons_zero, List.set_cons_succ, List.getElem_toArray, List.getElem_cons_succ, List.getElem_cons_zero]
      refine AnyFrom.takeT (i := 18) (v := ?_) rfl (by kernel_rfl) (by kernel_rfl) (by kernel_rfl) (by kernel_rfl) (fun _ _ _ h => h) ⟨by kernel_rfl, ?_⟩ HS ?_
      rotate_left
      · first | (intro w' hm; have d1 := HD1.out.cell hm; have d2 := HD2.out.cell hm; have f1 := HF1.out.cell hm; have f2 := HF2.out.cell hm; go_simp; done) | (intro w' hm; have d1 := HD1.out.cell hm; have d2 := HD2.out.cell hm; have f1 := HF1.out.cell hm; have f2 := HF2.out.cell hm; go_simp; with_reducible rfl)
      simp only [Act.put, List.setIfInBounds_toArray, List.set_cons_zero, List.set_cons_succ, List.getElem_toArray, List.getElem_cons_succ, List.getElem_cons_zero]
      refine AnyFrom.takeT (i := 19) (v := ?_) rfl (by kernel_rfl) (by kernel_rfl) (by kernel_rfl) (by kernel_rfl) (fun _ _ _ h => h) ⟨by kernel_rfl, ?_⟩ HS ?_
      rotate_left
      · first | (intro w' hm; have d1 := HD1.out.cell hm; have d2 := HD2.out.cell hm; have f1 := HF1.out.cell hm; have f2 := HF2.out.cell hm; go_simp; done) | (intro w' hm; have d1 := HD1.out.cell hm; have d2 := HD2.out.cell hm; have f1 := HF1.out.cell hm; have f2 := HF2.out.cell hm; go_simp; with_reducible rfl)
      simp only [Act.put, List.setIfInBounds_toArray, List.set_cons_zero, List.set_cons_succ, List.getElem_toArray, List.getElem_cons_succ, List.getElem_cons_zero]
      refine AnyFrom.takeT (i := 20) (v := ?_) rfl (by kernel_rfl) (by kernel_rfl) (by kernel_rfl) (by kernel_rfl) (fun _ _ _ h => h) ⟨by kernel_rfl, ?_⟩ HS ?_
      rotate_left
      · first | (intro w' hm; have d1 := HD1.out.cell hm; have d2 := HD2.out.cell hm; have f1 := HF1.out.cell hm; have f2 := HF2.out.cell hm; go_simp; done) | (intro w' hm; have d1 := HD1.out.cell hm; have d2 := HD2.out.cell hm; have f1 := HF1.out.cell hm; have f2 := HF2.out.cell hm; go_simp; with_reducible rfl)
      simp only [Act.put, List.setIfInBounds_toArray, List.set_cons_zero, List.set_cons_succ, List.getElem_toArray, List.getElem_cons_succ, List.getElem_cons_zero]
      refine AnyFrom.takeT (i := 21) (v := ?_) rfl (by kernel_rfl) (by kernel_rfl) (by kernel_rfl) (by kernel_rfl) (fun _ _ _ h => h) ⟨by kernel_rfl, ?_⟩ HS ?_
      rotate_left
      · first | (intro w' hm; have d1 := HD1.out.cell hm; have d2 := HD2.out.cell hm; have f1 := HF1.out.cell hm; have f2 := HF2.out.cell hm; go_simp; done) | (intro w' hm; have d1 := HD1.out.cell hm; have d2 := HD2.out.cell hm; have f1 := HF1.out.cell hm; have f2 := HF2.out.cell hm; go_simp; with_reducible rfl)
      simp only [Act.put, List.setIfInBounds_toArray, List.set_cons_zero, List.set_cons_succ, List.getElem_toArray, List.getElem_cons_succ, List.getElem_cons_zero]
      refine AnyFrom.call (i := 22) (by kernel_rfl) rfl (by kernel_rfl) fun K hK => ?_
      go_simp
      refine (Texts_any _ _ xs[k].fields xs[k].fields md HG1.out HG2.out).mono ?_
      rintro e w2 ⟨rfl, m2⟩
      rw [alikeS_self]
      refine hK _ _ (.inr m2) ?_
      clear hK K HS
      try simp only [Act.put, List.setIfInBounds_toArray, List.set_cons_zero, List.set_cons_succ, List.getElem_toArray, List.getElem_cons_succ, List.getElem_cons_zero]
      have HS : Mem w0 H L w2 := m2
      refine AnyFrom.pure (i := 23) (v := ?_) rfl (by kernel_rfl) (by kernel_rfl) (by kernel_rfl) (by decide) (fun _ _ _ h => h) ⟨by kernel_rfl, ?_⟩ HS ?_
      rotate_left
      · first | (intro w'; go_simp; done) | (intro w'; go_simp; with_reducible rfl)
      simp only [Act.put, List.setIfInBounds_toArray, List.set_cons_zero, List.set_cons_succ, List.getElem_toArray, List.getElem_cons_succ, List.getElem_cons_zero]
      refine AnyFrom.pure (i := 24) (v := ?_) rfl (by kernel_rfl) (by kernel_rfl) (by kernel_rfl) (by decide) (fun _ _ _ h => h) ⟨by kernel_rfl, ?_⟩ HS ?_
      rotate_left
      · first | (intro w'; go_simp; done) | (intro w'; go_simp; with_reducible rfl)
      simp only [Act.put, List.setIfInBounds_toArray, List.set_cons_zero, List.set_cons_succ, List.getElem_toArray, List.getElem_cons_succ, List.getElem_cons_zero]
      refine AnyFrom.done (by kernel_rfl) ?_ _
      clear HS
      go_wp2_with fail
      go_roundw
      case rel => exact ⟨k + 1, by omega, by go_num, m2⟩
      case measure => simp [intOf]; omega
    · have hge : ¬ (k : Int) < xs.length := by omega
      go_wp2_with fail
      go_ret
      exact ⟨rfl, mk⟩
set_option maxRecDepth 10000 in
set_option maxHeartbeats 4000000 in
theorem Changes_same (v1 v2 : Value) (xs : List ChangeM) {w0 w : World} {H : Hp} {L : List (Nat × Obj)} (m : Mem w0 H L w) (h1 : SlR encChange H v1 xs) (h2 : SlR encChange H v2 xs) :
    Calls Tryz.prog 12 #[v1, v2] w (Ret w0 H L (.bool true)) := by
  have H1 := Lib.hid h1
  have H2 := Lib.hid h2
  obtain ⟨b1, c1, rfl, _, hx1, _, _⟩ := h1
  obtain ⟨b2, c2, rfl, _, hx2, _, _⟩ := h2
  have hx1 := size_le_maxLen hx1
  have hx2 := size_le_maxLen hx2
  go_enter Tryz.func12, Tryz.ntmps12
  go_wp2_with fail
  go_loopw [5] (fun i wr => ∃ k : Nat, k ≤ xs.length ∧ i = .int .i64 k ∧ Mem w0 H L wr) (fun i _ => xs.length - (intOf i).toNat)
  case atStart => exact ⟨0, Nat.zero_le _, rfl, m⟩
  case round =>
    obtain ⟨k, hk, rfl, mk⟩ := hrel
    by_cases hlt : k < xs.length
    · obtain ⟨q1, o1, rfl, d1, _⟩ := H1.out.getChange hlt
      obtain ⟨q2, o2, rfl, d2, _⟩ := H2.out.getChange hlt
      have hltI : (k : Int) < xs.length := by omega
      generalize xs[k] = c at *
      have a10 := (d1 0 _ rfl).cell mk
      rw [Nat.add_zero] at a10
      have a11 := (d1 1 _ rfl).cell mk
      have a12 := (d1 2 _ rfl).cell mk
      have a13 := (d1 3 _ rfl).cell mk
      have a14 := (d1 4 _ rfl).cell mk
      have a15 := (d1 5 _ rfl).cell mk
      have a16 := (d1 6 _ rfl).cell mk
      have a20 := (d2 0 _ rfl).cell mk
      rw [Nat.add_zero] at a20
      have a21 := (d2 1 _ rfl).cell mk
      have a22 := (d2 2 _ rfl).cell mk
      have a23 := (d2 3 _ rfl).cell mk
      have a24 := (d2 4 _ rfl).cell mk
      have a25 := (d2 5 _ rfl).cell mk
      have a26 := (d2 6 _ rfl).cell mk
      clear d1 d2
      go_wp2_with fail
      go_quiet (fail)
      go_wp2_with fail
      go_roundw
      case rel => exact ⟨k + 1, by omega, by go_num, mk.drewN _⟩
      case measure => simp [intOf]; omega
    · have hge : ¬ (k : Int) < xs.length := by omega
      go_wp2_with fail
      go_ret
      exact ⟨rfl, mk⟩
end Go.Proofs.YtbioklhoolkhkabGreat
