/- The walks of the reference: classes copied; a list without one text. The walk of the reference: a list without one text. -/
import Derived.Test.YtbioklhoolkhkabGreatK12
namespace Go.Proofs.YtbioklhoolkhkabGreat
set_option linter.unusedVariables false
set_option linter.unusedSimpArgs false
open Go.RowKit

/-- Classes that are the call's own, with their fields. -/
def OwnCR (xs : List ClassM) (w0 : World) (H : Hp) (L : List (Nat × Obj)) (e : Ending) (w' : World) : Prop :=
  ∃ v rs Lc Lf, e = .returned v ∧ AccL 39 2 v rs.length (clsCs rs) Lc ∧ OwnF rs xs Lf ∧ Mem w0 H (Lc ++ (Lf ++ L)) w'
theorem perm_cp1 {α : Type} (y : α) (L3 Lc Lf L : List α) : (y :: (L3 ++ (Lc ++ (Lf ++ L)))).Perm (Lc ++ (y :: (Lf ++ L3 ++ L))) := (by classical exact List.perm_iff_count.2 (fun a => by simp only [List.count_append, List.count_cons, List.cons_append, List.nil_append, List.append_assoc]; omega))
set_option maxRecDepth 10000 in
set_option maxHeartbeats 4000000 in
theorem CopyClasses_any (v : Value) (xs : List ClassM) (hf : ∀ c ∈ xs, c.fields.length ≤ 100000) (hn : xs.length ≤ 100000) {w0 w : World} {H : Hp} {L : List (Nat × Obj)} (m : Mem w0 H L w) (h1 : SlR encClass H v xs) :
    Calls Tryz.prog 7 #[v] w (OwnCR xs w0 H L) := by
  have H1 := Lib.hid h1
  have HF := Lib.hid hf; clear hf
  obtain ⟨b1, c1, rfl, _, hx1, _, _⟩ := h1
  have hx1 := size_le_maxLen hx1
  go_enter Tryz.func7, Tryz.ntmps7
  go_wp2_with fail
  go_loopw [3, 4] (fun v3 i wr => ∃ (k : Nat) (pb : Option Addr) (pc : Nat) (rs : List (ByteArray × Value)) (Lc Lf : List (Nat × Obj)), k ≤ xs.length ∧ i = .int .i64 k ∧ v3 = .slice pb k pc ∧ Hid (rs.length = k) ∧ AccL 39 2 (.slice pb k pc) k (clsCs rs) Lc ∧ OwnF rs (xs.take k) Lf ∧ Mem w0 H (Lc ++ (Lf ++ L)) wr) (fun _ i _ => xs.length - (intOf i).toNat)
  case atStart => exact ⟨0, none, 0, [], [], [], Nat.zero_le _, rfl, rfl, Lib.hid rfl, AccL.nil, .nil, m⟩
  case round =>
    obtain ⟨k, pb, pc, rs, Lc, Lf, hk, rfl, rfl, hrs, hac, hof, mk⟩ := hrel
    have HOF := Lib.hid hof; clear hof
    by_cases hlt : k < xs.length
    · obtain ⟨q1, o1, s1, rfl, d1, f1, g1, hnm⟩ := H1.out.getClass hlt
      have HG1 := Lib.hid g1
      obtain ⟨sb1, sc1, rfl, -⟩ := g1
      have HD1 := Lib.hid d1; clear d1
      have HF1 := Lib.hid f1; clear f1
      have hltI : (k : Int) < xs.length := by omega
      have hfl := HF.out _ (List.getElem_mem hlt)
      have htk : xs.take (k + 1) = xs.take k ++ [xs[k]] := List.take_succ_eq_append_getElem hlt
      have HTK := Lib.hid htk; clear htk
      generalize hck : xs[k] = c at *
      clear hck
      go_wp2_with fail
      refine AnyFrom.start (fun w' => ∃ L', Mem w0 H L' w') 17 (by kernel_rfl) ?_
      have md := mk.drew
      clear mk
      generalize wr.drew = W at *
      have HS : ∃ L', Mem w0 H L' W := ⟨_, md⟩
      refine AnyFrom.pure (i := 0) (v := ?_) rfl (by kernel_rfl) (by kernel_rfl) (by kernel_rfl) (by decide) (fun _ _ _ h => h) ⟨by kernel_rfl, ?_⟩ HS ?_
      rotate_left
      · first | (intro w'; go_simp; done) | (intro w'; go_simp; with_reducible rfl)
      simp only [Act.put, List.setIfInBounds_toArray, List.set_cons_zero, List.set_cons_succ, List.getElem_toArray, List.getElem_cons_succ, List.getElem_cons_zero]
      refine AnyFrom.takeT (i := 1) (v := ?_) rfl (by kernel_rfl) (by kernel_rfl) (by kernel_rfl) (by kernel_rfl) (fun _ _ _ h => h) ⟨by kernel_rfl, ?_⟩ HS ?_
      rotate_left
      · first | (rintro w' ⟨L', hm⟩; have d1 := HD1.out.cell hm; have f1 := HF1.out.cell hm; go_simp; done) | (rintro w' ⟨L', hm⟩; have d1 := HD1.out.cell hm; have f1 := HF1.out.cell hm; go_simp; with_reducible rfl)
      simp only [Act.put, List.setIfInBounds_toArray, List.set_cons_zero, List.set_cons_succ, List.getElem_toArray, List.getElem_cons_succ, List.getElem_cons_zero]
      refine AnyFrom.takeT (i := 2) (v := ?_) rfl (by kernel_rfl) (by kernel_rfl) (by kernel_rfl) (by kernel_rfl) (fun _ _ _ h => h) ⟨by kernel_rfl, ?_⟩ HS ?_
      rotate_left
      · first | (rintro w' ⟨L', hm⟩; have d1 := HD1.out.cell hm; have f1 := HF1.out.cell hm; go_simp; done) | (rintro w' ⟨L', hm⟩; have d1 := HD1.out.cell hm; have f1 := HF1.out.cell hm; go_simp; with_reducible rfl)
      simp only [Act.put, List.setIfInBounds_toArray, List.set_cons_zero, List.set_cons_succ, List.getElem_toArray, List.getElem_cons_succ, List.getElem_cons_zero]
      refine AnyFrom.takeT (i := 3) (v := ?_) rfl (by kernel_rfl) (by kernel_rfl) (by kernel_rfl) (by kernel_rfl) (fun _ _ _ h => h) ⟨by kernel_rfl, ?_⟩ HS ?_
      rotate_left
      · first | (rintro w' ⟨L', hm⟩; have d1 := HD1.out.cell hm; have f1 := HF1.out.cell hm; go_simp; done) | (rintro w' ⟨L', hm⟩; have d1 := HD1.out.cell hm; have f1 := HF1.out.cell hm; go_simp; with_reducible rfl)
      simp only [Act.put, List.setIfInBounds_toArray, List.set_cons_zero, List.set_cons_succ, List.getElem_toArray, List.getElem_cons_succ, List.getElem_cons_zero]
      refine AnyFrom.takeT (i := 4) (v := ?_) rfl (by kernel_rfl) (by kernel_rfl) (by kernel_rfl) (by kernel_rfl) (fun _ _ _ h => h) ⟨by kernel_rfl, ?_⟩ HS ?_
      rotate_left
      · first | (rintro w' ⟨L', hm⟩; have d1 := HD1.out.cell hm; have f1 := HF1.out.cell hm; go_simp; done) | (rintro w' ⟨L', hm⟩; have d1 := HD1.out.cell hm; have f1 := HF1.out.cell hm; go_simp; with_reducible rfl)
      simp only [Act.put, List.setIfInBounds_toArray, List.set_cons_zero, List.set_cons_succ, List.getElem_toArray, List.getElem_cons_succ, List.getElem_cons_zero]
      refine AnyFrom.takeT (i := 5) (v := ?_) rfl (by kernel_rfl) (by kernel_rfl) (by kernel_rfl) (by kernel_rfl) (fun _ _ _ h => h) ⟨by kernel_rfl, ?_⟩ HS ?_
      rotate_left
      · first | (rintro w' ⟨L', hm⟩; have d1 := HD1.out.cell hm; have f1 := HF1.out.cell hm; go_simp; done) | (rintro w' ⟨L', hm⟩; have d1 := HD1.out.cell hm; have f1 := HF1.out.cell hm; go_simp; with_reducible rfl)
      simp only [Act.put, List.setIfInBounds_toArray, List.set_cons_zero, List.set_cons_succ, List.getElem_toArray, List.getElem_cons_succ, List.getElem_cons_zero]
      refine AnyFrom.takeT (i := 7) (v := ?_) rfl (by kernel_rfl) (by kernel_rfl) (by kernel_rfl) (by kernel_rfl) (fun _ _ _ h => h) ⟨by kernel_rfl, ?_⟩ HS ?_
      rotate_left
      · first | (rintro w' ⟨L', hm⟩; have d1 := HD1.out.cell hm; have f1 := HF1.out.cell hm; go_simp; done) | (rintro w' ⟨L', hm⟩; have d1 := HD1.out.cell hm; have f1 := HF1.out.cell hm; go_simp; with_reducible rfl)
      simp only [Act.put, List.setIfInBounds_toArray, List.set_cons_zero, List.set_cons_succ, List.getElem_toArray, List.getElem_cons_succ, List.getElem_cons_zero]
      refine AnyFrom.takeT (i := 8) (v := ?_) rfl (by kernel_rfl) (by kernel_rfl) (by kernel_rfl) (by kernel_rfl) (fun _ _ _ h => h) ⟨by kernel_rfl, ?_⟩ HS ?_
      rotate_left
      · first | (rintro w' ⟨L', hm⟩; have d1 := HD1.out.cell hm; have f1 := HF1.out.cell hm; go_simp; done) | (rintro w' ⟨L', hm⟩; have d1 := HD1.out.cell hm; have f1 := HF1.out.cell hm; go_simp; with_reducible rfl)
      simp only [Act.put, List.setIfInBounds_toArray, List.set_cons_zero, List.set_cons_succ, List.getElem_toArray, List.getElem_cons_succ, List.getElem_cons_zero]
      refine AnyFrom.takeT (i := 9) (v := ?_) rfl (by kernel_rfl) (by kernel_rfl) (by kernel_rfl) (by kernel_rfl) (fun _ _ _ h => h) ⟨by kernel_rfl, ?_⟩ HS ?_
      rotate_left
      · first | (rintro w' ⟨L', hm⟩; have d1 := HD1.out.cell hm; have f1 := HF1.out.cell hm; go_simp; done) | (rintro w' ⟨L', hm⟩; have d1 := HD1.out.cell hm; have f1 := HF1.out.cell hm; go_simp; with_reducible rfl)
      simp only [Act.put, List.setIfInBounds_toArray, List.set_cons_zero, List.set_cons_succ, List.getElem_toArray, List.getElem_cons_succ, List.getElem_cons_zero]
      refine AnyFrom.takeT (i := 10) (v := ?_) rfl (by kernel_rfl) (by kernel_rfl) (by kernel_rfl) (by kernel_rfl) (fun _ _ _ h => h) ⟨by kernel_rfl, ?_⟩ HS ?_
      rotate_left
      · first | (rintro w' ⟨L', hm⟩; have d1 := HD1.out.cell hm; have f1 := HF1.out.cell hm; go_simp; done) | (rintro w' ⟨L', hm⟩; have d1 := HD1.out.cell hm; have f1 := HF1.out.cell hm; go_simp; with_reducible rfl)
      simp only [Act.put, List.setIfInBounds_toArray, List.set_cons_zero, List.set_cons_succ, List.getElem_toArray, List.getElem_cons_succ, List.getElem_cons_zero]
      refine AnyFrom.takeT (i := 11) (v := ?_) rfl (by kernel_rfl) (by kernel_rfl) (by kernel_rfl) (by kernel_rfl) (fun _ _ _ h => h) ⟨by kernel_rfl, ?_⟩ HS ?_
      rotate_left
      · first | (rintro w' ⟨L', hm⟩; have d1 := HD1.out.cell hm; have f1 := HF1.out.cell hm; go_simp; done) | (rintro w' ⟨L', hm⟩; have d1 := HD1.out.cell hm; have f1 := HF1.out.cell hm; go_simp; with_reducible rfl)
      simp only [Act.put, List.setIfInBounds_toArray, List.set_cons_zero, List.set_cons_succ, List.getElem_toArray, List.getElem_cons_succ, List.getElem_cons_zero]
      refine AnyFrom.one (i := 6) (by kernel_rfl) (AnyFrom.op rfl (by kernel_rfl) fun K hK => ?_)
      go_simp
      have mA := md.alloc (.cells #[] 9)
      refine hK _ _ (.inr ⟨_, mA⟩) ?_
      clear hK K
      try simp only [Act.put, List.setIfInBounds_toArray, List.set_cons_zero, List.set_cons_succ, List.getElem_toArray, List.getElem_cons_succ, List.getElem_cons_zero]
      obtain ⟨news, hch, hsrc⟩ := HG1.out.src mA
      have HC := Lib.hid hch; clear hch
      have HSR := Lib.hid hsrc; clear hsrc
      refine AnyFrom.one (i := 12) (by kernel_rfl) (AnyFrom.opIf rfl fun K hK => ?_)
      refine step_append_mem (w0 := w0) (H := H) (L := Lc ++ (Lf ++ L)) rfl _ _ 23 rfl 9 1 16 (.string ByteArray.empty) Tryz.underlying23 (by kernel_rfl) rfl (by decide) _ 0 [] (MemAcc.row mA (Nat.le_refl _) (by decide) rfl rfl) rfl _ c.fields.length news HSR.out rfl (by rw [HC.out.length]; rfl) (by rw [(chunks_strs HC.out).1]; exact str_oneCell) (by omega) (by unfold maxLen; omega) ?_
      intro v' w6 hacc
      try simp only [Nat.zero_add, List.nil_append] at hacc
      obtain ⟨b6, c6, rfl, _, _⟩ := hacc.shape
      obtain ⟨L3, ho3, m7⟩ := OwnS.of hacc HC.out
      clear hacc mA md HS HSR
      refine hK _ _ (.inr ⟨_, m7⟩) ?_
      clear hK K
      try simp only [Act.put, List.setIfInBounds_toArray, List.set_cons_zero, List.set_cons_succ, List.getElem_toArray, List.getElem_cons_succ, List.getElem_cons_zero]
      have HS : ∃ L', Mem w0 H L' w6 := ⟨_, m7⟩
      refine AnyFrom.pure (i := 13) (v := ?_) rfl (by kernel_rfl) (by kernel_rfl) (by kernel_rfl) (by decide) (fun _ _ _ h => h) ⟨by kernel_rfl, ?_⟩ HS ?_
      rotate_left
      · first | (intro w'; go_simp; done) | (intro w'; go_simp; with_reducible rfl)
      simp only [Act.put, List.setIfInBounds_toArray, List.set_cons_zero, List.set_cons_succ, List.getElem_toArray, List.getElem_cons_succ, List.getElem_cons_zero]
      refine AnyFrom.one (i := 14) (by kernel_rfl) (AnyFrom.op rfl (by kernel_rfl) fun K hK => ?_)
      go_simp
      have mB := m7.alloc (.cells #[.string c.name, .slice b6 c.fields.length c6] 39)
      refine hK _ _ (.inr ⟨_, mB⟩) ?_
      clear hK K
      try simp only [Act.put, List.setIfInBounds_toArray, List.set_cons_zero, List.set_cons_succ, List.getElem_toArray, List.getElem_cons_succ, List.getElem_cons_zero]
      have mC := mB.perm (perm_cp1 _ _ _ _ _)
      refine AnyFrom.one (i := 15) (by kernel_rfl) (AnyFrom.opIf rfl fun K hK => ?_)
      refine step_append_mem (w0 := w0) (H := H) (L := _ :: _) rfl _ _ 22 rfl 39 2 40 (.agg #[.string ByteArray.empty, .slice none 0 0]) Tryz.underlying22 (by kernel_rfl) rfl (by decide) (.slice pb k pc) k (clsCs rs) (hac.join mC) rfl (.slice (some ⟨w6.heap.size, 0, none⟩) 1 1) 1 [.string c.name, .slice b6 c.fields.length c6] (Src.loc (e := 39) (cs := [.string c.name, .slice b6 c.fields.length c6]) mC (by simp)) rfl rfl (by intro u hu; simp only [List.mem_cons, List.not_mem_nil, or_false] at hu; rcases hu with rfl | rfl <;> rfl) (by omega) (by unfold maxLen; omega) ?_
      intro v' w7 hacc
      obtain ⟨b7, c7, rfl, _, _⟩ := hacc.shape
      obtain ⟨Lc3, hc3, m8⟩ := hacc.drop.split
      clear hacc mC mB m7 HS
      refine hK _ _ (.inr ⟨_, m8⟩) ?_
      clear hK K
      try simp only [Act.put, List.setIfInBounds_toArray, List.set_cons_zero, List.set_cons_succ, List.getElem_toArray, List.getElem_cons_succ, List.getElem_cons_zero]
      refine AnyFrom.one (i := 16) (by kernel_rfl) (AnyFrom.op rfl (by kernel_rfl) fun K hK => ?_)
      go_simp
      refine hK _ _ (.inr ⟨_, m8⟩) ?_
      clear hK K
      try simp only [Act.put, List.setIfInBounds_toArray, List.set_cons_zero, List.set_cons_succ, List.getElem_toArray, List.getElem_cons_succ, List.getElem_cons_zero]
      refine AnyFrom.done (by kernel_rfl) ?_ _
      go_wp2_with fail
      go_roundw
      case rel =>
        refine ⟨k + 1, b7, c7, rs ++ [(c.name, .slice b6 c.fields.length c6)], Lc3, Lf ++ L3, by omega, by go_num, rfl, Lib.hid (by rw [List.length_append, hrs.out]; rfl), ?_, ?_, m8⟩
        · rw [clsCs_append]; exact hc3
        · rw [HTK.out]
          exact HOF.out.append (OwnF.one rfl hnm ho3)
      case measure => simp [intOf]; omega
    · have hge : ¬ (k : Int) < xs.length := by omega
      have hof := HOF.out
      rw [List.take_of_length_le (by omega)] at hof
      have HOF2 := Lib.hid hof; clear hof
      have hac2 : AccL 39 2 (.slice pb k pc) rs.length (clsCs rs) Lc := by rw [hrs.out]; exact hac
      have HAC2 := Lib.hid hac2; clear hac2 hac
      go_wp2_with fail
      go_ret
      exact ⟨_, rs, Lc, Lf, rfl, HAC2.out, HOF2.out, mk⟩
end Go.Proofs.YtbioklhoolkhkabGreat
namespace Go.Proofs.YtbioklhoolkhkabGreat
set_option linter.unusedVariables false
set_option linter.unusedSimpArgs false
open Go.RowKit

theorem strs_src {w : World} {blk off n c k m : Nat} {xs : List ByteArray} (h : StrsAt w (.slice (some ⟨blk, off, none⟩) xs.length c) xs) (hk : k + m ≤ xs.length) (c' : Nat) :
    Src w (.slice (some ⟨blk, off + k, none⟩) m c') m (((xs.drop k).take m).map Value.string) := by
  refine .inr ⟨_, _, rfl, fun j u hu => ?_⟩
  obtain ⟨b, c2, hv, _, hat⟩ := h
  rw [List.getElem?_map, List.getElem?_take] at hu
  split at hu
  · rename_i hj
    rw [List.getElem?_drop] at hu
    have hlt : k + j < xs.length := by omega
    obtain ⟨q, o, hq, hc⟩ := hat (k + j) hlt
    cases hv
    cases hq
    rw [List.getElem?_eq_getElem hlt, Option.map_some, Option.some.injEq] at hu
    rw [Addr.add_lit, ← hu, Nat.add_assoc]
    exact hc
  · cases hu
set_option maxRecDepth 10000 in
set_option maxHeartbeats 4000000 in
theorem Without_any (v : Value) (xs : List ByteArray) (k : Nat) (hk : k < xs.length) (hn : xs.length ≤ 100000) (hfit : ∀ x ∈ xs, x.size ≤ maxLen) {w0 w : World} {H : Hp} {L : List (Nat × Obj)} (m : Mem w0 H L w) (hv : ∀ (L' : List (Nat × Obj)) (w' : World), Mem w0 H (L' ++ L) w' → StrsAt w' v xs) (hcv : ∀ b n c, v = .slice b n c → n ≤ c ∧ c ≤ 9223372036854775807) :
    Calls Tryz.prog 50 #[v, .int .i64 k] w (OwnSR (xs.eraseIdx k) w0 H L) := by
  have HV := Lib.hid hv
  have hv0 := hv [] w m
  clear hv
  obtain ⟨b, c, rfl, hx1, hat⟩ := hv0
  have hx1 := size_le_maxLen hx1
  obtain ⟨blk, off, rfl, -⟩ := hat k hk
  clear hat
  have hcap := hcv _ _ _ rfl
  obtain ⟨hcl, hcm⟩ : xs.length ≤ c ∧ c ≤ 9223372036854775807 := hcap
  have hkc : k ≤ c := by omega
  have hk1 : (0 : Int) ≤ (k : Int) + 1 ∧ (k : Int) + 1 ≤ xs.length := by omega
  have hw : IntKind.i64.wrap ((k : Int) + 1) = (k : Int) + 1 := by rw [IntKind.wrap_i64]; omega
  go_enter Tryz.func50, Tryz.ntmps50
  by_cases hck : c = k + 1
  · subst hck
    have hk2 : (k : Int) ≤ (k : Int) + 1 := by omega
    go_wp2_with fail
    refine AnyFrom.start (fun w' => ∃ L', Mem w0 H L' w') 11 (by kernel_rfl) ?_
    have md := m.drew
    clear m
    generalize w.drew = W at *
    have HS : ∃ L', Mem w0 H L' W := ⟨_, md⟩
    refine AnyFrom.pure (i := 1) (v := ?_) rfl (by kernel_rfl) (by kernel_rfl) (by kernel_rfl) (by decide) (fun _ _ _ h => h) ⟨by kernel_rfl, ?_⟩ HS ?_
    rotate_left
    · first | (intro w'; go_simp; done) | (intro w'; go_simp; with_reducible rfl)
    simp only [Act.put, List.setIfInBounds_toArray, List.set_cons_zero, List.set_cons_succ, List.getElem_toArray, List.getElem_cons_succ, List.getElem_cons_zero]
    refine AnyFrom.pure (i := 2) (v := ?_) rfl (by kernel_rfl) (by kernel_rfl) (by kernel_rfl) (by decide) (fun _ _ _ h => h) ⟨by kernel_rfl, ?_⟩ HS ?_
    rotate_left
    · first | (intro w'; go_simp; done) | (intro w'; go_simp; with_reducible rfl)
    simp only [Act.put, List.setIfInBounds_toArray, List.set_cons_zero, List.set_cons_succ, List.getElem_toArray, List.getElem_cons_succ, List.getElem_cons_zero]
    refine AnyFrom.pure (i := 3) (v := ?_) rfl (by kernel_rfl) (by kernel_rfl) (by kernel_rfl) (by decide) (fun _ _ _ h => h) ⟨by kernel_rfl, ?_⟩ HS ?_
    rotate_left
    · first | (intro w'; go_simp; done) | (intro w'; go_simp; with_reducible rfl)
    simp only [Act.put, List.setIfInBounds_toArray, List.set_cons_zero, List.set_cons_succ, List.getElem_toArray, List.getElem_cons_succ, List.getElem_cons_zero]
    refine AnyFrom.pure (i := 5) (v := ?_) rfl (by kernel_rfl) (by kernel_rfl) (by kernel_rfl) (by decide) (fun _ _ _ h => h) ⟨by kernel_rfl, ?_⟩ HS ?_
    rotate_left
    · first | (intro w'; go_simp; done) | (intro w'; go_simp; with_reducible rfl)
    simp only [Act.put, List.setIfInBounds_toArray, List.set_cons_zero, List.set_cons_succ, List.getElem_toArray, List.getElem_cons_succ, List.getElem_cons_zero]
    refine AnyFrom.pure (i := 6) (v := ?_) rfl (by kernel_rfl) (by kernel_rfl) (by kernel_rfl) (by decide) (fun _ _ _ h => h) ⟨by kernel_rfl, ?_⟩ HS ?_
    rotate_left
    · first | (intro w'; go_simp; done) | (intro w'; go_simp; with_reducible rfl)
    simp only [Act.put, List.setIfInBounds_toArray, List.set_cons_zero, List.set_cons_succ, List.getElem_toArray, List.getElem_cons_succ, List.getElem_cons_zero]
    refine AnyFrom.pure (i := 7) (v := ?_) rfl (by kernel_rfl) (by kernel_rfl) (by kernel_rfl) (by decide) (fun _ _ _ h => h) ⟨by kernel_rfl, ?_⟩ HS ?_
    rotate_left
    · first | (intro w'; go_simp; done) | (intro w'; go_simp; with_reducible rfl)
    simp only [Act.put, List.setIfInBounds_toArray, List.set_cons_zero, List.set_cons_succ, List.getElem_toArray, List.getElem_cons_succ, List.getElem_cons_zero]
    refine AnyFrom.pure (i := 8) (v := ?_) rfl (by kernel_rfl) (by kernel_rfl) (by kernel_rfl) (by decide) (fun _ _ _ h => h) ⟨by kernel_rfl, ?_⟩ HS ?_
    rotate_left
    · first | (intro w'; go_simp; done) | (intro w'; go_simp; with_reducible rfl)
    simp only [Act.put, List.setIfInBounds_toArray, List.set_cons_zero, List.set_cons_succ, List.getElem_toArray, List.getElem_cons_succ, List.getElem_cons_zero]
    refine AnyFrom.one (i := 0) (by kernel_rfl) (AnyFrom.op rfl (by kernel_rfl) fun K hK => ?_)
    go_simp
    have mA := md.alloc (.cells #[] 9)
    refine hK _ _ (.inr ⟨_, mA⟩) ?_
    clear hK K
    try simp only [Act.put, List.setIfInBounds_toArray, List.set_cons_zero, List.set_cons_succ, List.getElem_toArray, List.getElem_cons_succ, List.getElem_cons_zero]
    have hs1 := strs_src (n := 0) (k := 0) (m := k) (HV.out [_] _ mA) (by omega) (k + 1)
    rw [Nat.add_zero, List.drop_zero] at hs1
    refine AnyFrom.one (i := 4) (by kernel_rfl) (AnyFrom.opIf rfl fun K hK => ?_)
    refine step_append_mem (w0 := w0) (H := H) (L := L) rfl _ _ 23 rfl 9 1 16 (.string ByteArray.empty) Tryz.underlying23 (by kernel_rfl) rfl (by decide) _ 0 [] (MemAcc.row mA (Nat.le_refl _) (by decide) rfl rfl) rfl _ k ((xs.take k).map Value.string) hs1 rfl (by rw [List.length_map, List.length_take]; omega) str_oneCell (by omega) (by unfold maxLen; omega) ?_
    intro v' w6 hacc
    try simp only [Nat.zero_add, List.nil_append] at hacc
    obtain ⟨b6, c6, rfl, _, _⟩ := hacc.shape
    obtain ⟨L3, hq3, m7⟩ := hacc.split
    clear hacc mA md HS hs1
    refine hK _ _ (.inr ⟨_, m7⟩) ?_
    clear hK K
    try simp only [Act.put, List.setIfInBounds_toArray, List.set_cons_zero, List.set_cons_succ, List.getElem_toArray, List.getElem_cons_succ, List.getElem_cons_zero]
    have hs2 : Src w6 (.slice (some ⟨blk, off, none⟩) 0 0) 0 [] := .inr ⟨_, _, rfl, fun j u hu => by simp at hu⟩
    refine AnyFrom.one (i := 9) (by kernel_rfl) (AnyFrom.opIf rfl fun K hK => ?_)
    refine step_append_mem (w0 := w0) (H := H) (L := L) rfl _ _ 23 rfl 9 1 16 (.string ByteArray.empty) Tryz.underlying23 (by kernel_rfl) rfl (by decide) (.slice b6 k c6) k ((xs.take k).map Value.string) (hq3.join m7) rfl _ 0 [] hs2 rfl (by simp) (by first | exact str_oneCell | (intro u hu; cases hu)) (by omega) (by unfold maxLen; omega) ?_
    intro v' w7 hacc
    obtain ⟨b7, c7, rfl, _, _⟩ := hacc.shape
    obtain ⟨L4, hq4, m8⟩ := hacc.split
    clear hacc m7 hs2
    refine hK _ _ (.inr ⟨_, m8⟩) ?_
    clear hK K
    try simp only [Act.put, List.setIfInBounds_toArray, List.set_cons_zero, List.set_cons_succ, List.getElem_toArray, List.getElem_cons_succ, List.getElem_cons_zero]
    refine AnyFrom.one (i := 10) (by kernel_rfl) (AnyFrom.op rfl (by kernel_rfl) fun K hK => ?_)
    go_simp
    refine hK _ _ (.inr ⟨_, m8⟩) ?_
    clear hK K
    try simp only [Act.put, List.setIfInBounds_toArray, List.set_cons_zero, List.set_cons_succ, List.getElem_toArray, List.getElem_cons_succ, List.getElem_cons_zero]
    refine AnyFrom.done (by kernel_rfl) ?_ _
    have hlen : (xs.eraseIdx k).length = k + 0 := by rw [List.length_eraseIdx, if_pos hk]; omega
    have hmap : (xs.eraseIdx k).map Value.string = (xs.take k).map Value.string ++ [] := by
      rw [List.eraseIdx_eq_take_drop_succ, List.map_append]
      congr 1
      first
        | (rw [List.take_of_length_le (by rw [List.length_drop]; omega)])
        | (rw [List.drop_of_length_le (by omega)]; rfl)
    go_wp2_with fail
    go_ret
    refine ⟨_, L4, rfl, ⟨?_, fun x hx => hfit x (List.mem_of_mem_eraseIdx hx)⟩, m8⟩
    rw [hlen, hmap]
    exact hq4
  · skip
    go_wp2_with fail
    refine AnyFrom.start (fun w' => ∃ L', Mem w0 H L' w') 11 (by kernel_rfl) ?_
    have md := m.drew
    clear m
    generalize w.drew = W at *
    have HS : ∃ L', Mem w0 H L' W := ⟨_, md⟩
    refine AnyFrom.pure (i := 1) (v := ?_) rfl (by kernel_rfl) (by kernel_rfl) (by kernel_rfl) (by decide) (fun _ _ _ h => h) ⟨by kernel_rfl, ?_⟩ HS ?_
    rotate_left
    · first | (intro w'; go_simp; done) | (intro w'; go_simp; with_reducible rfl)
    simp only [Act.put, List.setIfInBounds_toArray, List.set_cons_zero, List.set_cons_succ, List.getElem_toArray, List.getElem_cons_succ, List.getElem_cons_zero]
    refine AnyFrom.pure (i := 2) (v := ?_) rfl (by kernel_rfl) (by kernel_rfl) (by kernel_rfl) (by decide) (fun _ _ _ h => h) ⟨by kernel_rfl, ?_⟩ HS ?_
    rotate_left
    · first | (intro w'; go_simp; done) | (intro w'; go_simp; with_reducible rfl)
    simp only [Act.put, List.setIfInBounds_toArray, List.set_cons_zero, List.set_cons_succ, List.getElem_toArray, List.getElem_cons_succ, List.getElem_cons_zero]
    refine AnyFrom.pure (i := 3) (v := ?_) rfl (by kernel_rfl) (by kernel_rfl) (by kernel_rfl) (by decide) (fun _ _ _ h => h) ⟨by kernel_rfl, ?_⟩ HS ?_
    rotate_left
    · first | (intro w'; go_simp; done) | (intro w'; go_simp; with_reducible rfl)
    simp only [Act.put, List.setIfInBounds_toArray, List.set_cons_zero, List.set_cons_succ, List.getElem_toArray, List.getElem_cons_succ, List.getElem_cons_zero]
    refine AnyFrom.pure (i := 5) (v := ?_) rfl (by kernel_rfl) (by kernel_rfl) (by kernel_rfl) (by decide) (fun _ _ _ h => h) ⟨by kernel_rfl, ?_⟩ HS ?_
    rotate_left
    · first | (intro w'; go_simp; done) | (intro w'; go_simp; with_reducible rfl)
    simp only [Act.put, List.setIfInBounds_toArray, List.set_cons_zero, List.set_cons_succ, List.getElem_toArray, List.getElem_cons_succ, List.getElem_cons_zero]
    refine AnyFrom.pure (i := 6) (v := ?_) rfl (by kernel_rfl) (by kernel_rfl) (by kernel_rfl) (by decide) (fun _ _ _ h => h) ⟨by kernel_rfl, ?_⟩ HS ?_
    rotate_left
    · first | (intro w'; go_simp; done) | (intro w'; go_simp; with_reducible rfl)
    simp only [Act.put, List.setIfInBounds_toArray, List.set_cons_zero, List.set_cons_succ, List.getElem_toArray, List.getElem_cons_succ, List.getElem_cons_zero]
    refine AnyFrom.pure (i := 7) (v := ?_) rfl (by kernel_rfl) (by kernel_rfl) (by kernel_rfl) (by decide) (fun _ _ _ h => h) ⟨by kernel_rfl, ?_⟩ HS ?_
    rotate_left
    · first | (intro w'; go_simp; done) | (intro w'; go_simp; with_reducible rfl)
    simp only [Act.put, List.setIfInBounds_toArray, List.set_cons_zero, List.set_cons_succ, List.getElem_toArray, List.getElem_cons_succ, List.getElem_cons_zero]
    refine AnyFrom.pure (i := 8) (v := ?_) rfl (by kernel_rfl) (by kernel_rfl) (by kernel_rfl) (by decide) (fun _ _ _ h => h) ⟨by kernel_rfl, ?_⟩ HS ?_
    rotate_left
    · first | (intro w'; go_simp; done) | (intro w'; go_simp; with_reducible rfl)
    simp only [Act.put, List.setIfInBounds_toArray, List.set_cons_zero, List.set_cons_succ, List.getElem_toArray, List.getElem_cons_succ, List.getElem_cons_zero]
    refine AnyFrom.one (i := 0) (by kernel_rfl) (AnyFrom.op rfl (by kernel_rfl) fun K hK => ?_)
    go_simp
    have mA := md.alloc (.cells #[] 9)
    refine hK _ _ (.inr ⟨_, mA⟩) ?_
    clear hK K
    try simp only [Act.put, List.setIfInBounds_toArray, List.set_cons_zero, List.set_cons_succ, List.getElem_toArray, List.getElem_cons_succ, List.getElem_cons_zero]
    have hs1 := strs_src (n := 0) (k := 0) (m := k) (HV.out [_] _ mA) (by omega) c
    rw [Nat.add_zero, List.drop_zero] at hs1
    refine AnyFrom.one (i := 4) (by kernel_rfl) (AnyFrom.opIf rfl fun K hK => ?_)
    refine step_append_mem (w0 := w0) (H := H) (L := L) rfl _ _ 23 rfl 9 1 16 (.string ByteArray.empty) Tryz.underlying23 (by kernel_rfl) rfl (by decide) _ 0 [] (MemAcc.row mA (Nat.le_refl _) (by decide) rfl rfl) rfl _ k ((xs.take k).map Value.string) hs1 rfl (by rw [List.length_map, List.length_take]; omega) str_oneCell (by omega) (by unfold maxLen; omega) ?_
    intro v' w6 hacc
    try simp only [Nat.zero_add, List.nil_append] at hacc
    obtain ⟨b6, c6, rfl, _, _⟩ := hacc.shape
    obtain ⟨L3, hq3, m7⟩ := hacc.split
    clear hacc mA md HS hs1
    refine hK _ _ (.inr ⟨_, m7⟩) ?_
    clear hK K
    try simp only [Act.put, List.setIfInBounds_toArray, List.set_cons_zero, List.set_cons_succ, List.getElem_toArray, List.getElem_cons_succ, List.getElem_cons_zero]
    have hs2 := strs_src (n := 0) (k := k + 1) (m := xs.length - (k + 1)) (HV.out _ _ m7) (by omega) (c - (k + 1))
    refine AnyFrom.one (i := 9) (by kernel_rfl) (AnyFrom.opIf rfl fun K hK => ?_)
    refine step_append_mem (w0 := w0) (H := H) (L := L) rfl _ _ 23 rfl 9 1 16 (.string ByteArray.empty) Tryz.underlying23 (by kernel_rfl) rfl (by decide) (.slice b6 k c6) k ((xs.take k).map Value.string) (hq3.join m7) rfl _ (xs.length - (k + 1)) (((xs.drop (k + 1)).take (xs.length - (k + 1))).map Value.string) hs2 rfl (by simp) (by first | exact str_oneCell | (intro u hu; cases hu)) (by omega) (by unfold maxLen; omega) ?_
    intro v' w7 hacc
    obtain ⟨b7, c7, rfl, _, _⟩ := hacc.shape
    obtain ⟨L4, hq4, m8⟩ := hacc.split
    clear hacc m7 hs2
    refine hK _ _ (.inr ⟨_, m8⟩) ?_
    clear hK K
    try simp only [Act.put, List.setIfInBounds_toArray, List.set_cons_zero, List.set_cons_succ, List.getElem_toArray, List.getElem_cons_succ, List.getElem_cons_zero]
    refine AnyFrom.one (i := 10) (by kernel_rfl) (AnyFrom.op rfl (by kernel_rfl) fun K hK => ?_)
    go_simp
    refine hK _ _ (.inr ⟨_, m8⟩) ?_
    clear hK K
    try simp only [Act.put, List.setIfInBounds_toArray, List.set_cons_zero, List.set_cons_succ, List.getElem_toArray, List.getElem_cons_succ, List.getElem_cons_zero]
    refine AnyFrom.done (by kernel_rfl) ?_ _
    have hlen : (xs.eraseIdx k).length = k + (xs.length - (k + 1)) := by rw [List.length_eraseIdx, if_pos hk]; omega
    have hmap : (xs.eraseIdx k).map Value.string = (xs.take k).map Value.string ++ (((xs.drop (k + 1)).take (xs.length - (k + 1))).map Value.string) := by
      rw [List.eraseIdx_eq_take_drop_succ, List.map_append]
      congr 1
      first
        | (rw [List.take_of_length_le (by rw [List.length_drop]; omega)])
        | (rw [List.drop_of_length_le (by omega)]; rfl)
    go_wp2_with fail
    go_ret
    refine ⟨_, L4, rfl, ⟨?_, fun x hx => hfit x (List.mem_of_mem_eraseIdx hx)⟩, m8⟩
    rw [hlen, hmap]
    exact hq4
end Go.Proofs.YtbioklhoolkhkabGreat
