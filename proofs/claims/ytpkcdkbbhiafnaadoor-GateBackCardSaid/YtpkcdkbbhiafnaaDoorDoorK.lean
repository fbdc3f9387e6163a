/- The walk: the law GateBack. -/
import Derived.Test.YtpkcdkbbhiafnaaDoorBackM
import Derived.Test.YtpkcdkbbhiafnaaDoorReadB
import Derived.Test.YtpkcdkbbhiafnaaDoorDoorO
namespace Go.Proofs.YtpkcdkbbhiafnaaDoor
set_option linter.unusedVariables false
set_option linter.unusedSimpArgs false
open Go.RowKit

theorem b_oneCell' {H : Hp} {cs : List Value} {xs : List UInt8} (h : Chunks encB H cs xs) : ∀ u ∈ cs, u.oneCell' = true :=
  h.oneCell fun cs x hx u hu => by
    obtain ⟨rfl, _⟩ := hx
    simp only [List.mem_cons, List.not_mem_nil, or_false] at hu
    subst hu; rfl

theorem SlR.pre {α : Type} {E : Enc α} {H : Hp} {b : Option Addr} {n c k : Nat} {xs : List α} (h : SlR E H (.slice b n c) xs) (hk : k ≤ n) : SlR E H (.slice b k c) (xs.take k) := by
  obtain ⟨b', c', hv, h1, h2, h3, hc⟩ := h
  cases hv
  have hl : (xs.take k).length = k := by rw [List.length_take]; omega
  refine ⟨b, c, by rw [hl], by omega, h2, h3, fun i hi => ?_⟩
  obtain ⟨blk, off, cs, e1, e2, e3⟩ := hc i (by omega)
  exact ⟨blk, off, cs, e1, by rw [List.getElem_take]; exact e2, e3⟩

set_option maxRecDepth 10000 in
set_option maxHeartbeats 4000000 in
theorem lawBack (v : Value) (l : List UInt8) (at' : Nat) (hat : at' < 65536) {w0 w : World} {H : Hp} {L : List (Nat × Obj)} (m : Mem w0 H L w) (hv : SlR encB H v l) :
    Calls Tryd.prog 6 #[v, .int .u16 at'] w (Lawful w0 H L) := by
  obtain ⟨hlen, hput50, hchk, hsum, hfo⟩ := back_law l
  have hpm : playM (stormM l).out = ((PlayM.start.run (stormM l).out).1.gate, (PlayM.start.run (stormM l).out).1.out, (PlayM.start.run (stormM l).out).2, 0) := by unfold playM; rw [if_neg (by omega)]
  have HPM := Lib.hid hpm; clear hpm
  have HCK := Lib.hid hchk; clear hchk
  go_enter Tryd.func6, Tryd.ntmps6
  go_wp2_with fail
  refine (acts_any v l m hv).mono ?_
  rintro e w1 ⟨b1, c1, b2, c2, H1, rfl, m1, hl1, s1, s2⟩
  have S1 := Lib.hid s1; clear s1
  have S2 := Lib.hid s2; clear s2
  generalize stormM l = s at *
  go_wp2_with fail
  refine (Play_any _ s.out m1 S1.out).mono ?_
  rintro e w2 hR
  rw [HPM.out] at hR
  clear HPM
  generalize PlayM.start.run s.out = r at *
  obtain ⟨⟨g, o, sv, si⟩, x⟩ := r
  simp only at *
  obtain ⟨k1, k2, k3, k4, k5, k6⟩ := GateM.chk_in HCK.out
  have HBL := Lib.hid (bytesM_len HCK.out)
  have HRS := Lib.hid (read_same HCK.out)
  have HRM := Lib.hid (read_more HCK.out 0)
  have HRL := Lib.hid (fun k hk => read_less HCK.out k hk)
  have hbr : bytesR g = (bytesM g, 0) := by unfold bytesR; rw [if_neg (by rw [HCK.out]; decide)]
  have HBR := Lib.hid hbr; clear hbr
  have hbl := HBL.out
  obtain ⟨f, q, n⟩ := g
  simp only at *
  obtain ⟨b3, c3, b4, c4, b5, c5, H2, rfl, m2, hl2, s3, s4, s5⟩ := PlayR.lit rfl rfl rfl rfl hR
  have S3 := Lib.hid s3; clear s3 s4 s5 hR
  have m3 := (m2.alloc (.cells #[.int .i64 f, .slice b3 q.length c3, .int .i64 n] 29))
  go_wp2_with fail
  generalize w2.heap.size = gb at *
  generalize w2.alloc (.cells #[.int .i64 f, .slice b3 q.length c3, .int .i64 n] 29) = W3 at *
  refine AnyFrom.start (fun w' => ∃ H' L', Hle H2 H' ∧ Mem w0 H' ((gb, .cells #[.int .i64 f, .slice b3 q.length c3, .int .i64 n] 29) :: L') w') 15 (by kernel_rfl) ?_
  have m3' := m3.drew
  clear m3 m2
  generalize W3.drew = W4 at *
  have HS : ∃ H' L', Hle H2 H' ∧ Mem w0 H' ((gb, .cells #[.int .i64 f, .slice b3 q.length c3, .int .i64 n] 29) :: L') W4 := ⟨_, _, Hle.refl _, m3'⟩
  refine AnyFrom.take (i := 0) (v := ?_) rfl (by kernel_rfl) (by kernel_rfl) (by kernel_rfl) (by kernel_rfl) (fun _ _ _ h => h) ⟨by rfl, ?_⟩ HS ?_
  rotate_left
  · first | (rintro w' ⟨H', L', hl', hm⟩; have es := hm.eqs; simp only [EqsL, and_true] at es; replace es := es.1; go_simp; done) | (rintro w' ⟨H', L', hl', hm⟩; have es := hm.eqs; simp only [EqsL, and_true] at es; replace es := es.1; go_simp; with_reducible rfl)
  simp only [Act.put, List.setIfInBounds_toArray, List.set_cons_zero, List.set_cons_succ]
  refine AnyFrom.take (i := 1) (v := ?_) rfl (by kernel_rfl) (by kernel_rfl) (by kernel_rfl) (by kernel_rfl) (fun _ _ _ h => h) ⟨by rfl, ?_⟩ HS ?_
  rotate_left
  · first | (rintro w' ⟨H', L', hl', hm⟩; have es := hm.eqs; simp only [EqsL, and_true] at es; replace es := es.1; go_simp; done) | (rintro w' ⟨H', L', hl', hm⟩; have es := hm.eqs; simp only [EqsL, and_true] at es; replace es := es.1; go_simp; with_reducible rfl)
  simp only [Act.put, List.setIfInBounds_toArray, List.set_cons_zero, List.set_cons_succ]
  refine AnyFrom.take (i := 3) (v := ?_) rfl (by kernel_rfl) (by kernel_rfl) (by kernel_rfl) (by kernel_rfl) (fun _ _ _ h => h) ⟨by rfl, ?_⟩ HS ?_
  rotate_left
  · first | (rintro w' ⟨H', L', hl', hm⟩; have es := hm.eqs; simp only [EqsL, and_true] at es; replace es := es.1; go_simp; done) | (rintro w' ⟨H', L', hl', hm⟩; have es := hm.eqs; simp only [EqsL, and_true] at es; replace es := es.1; go_simp; with_reducible rfl)
  simp only [Act.put, List.setIfInBounds_toArray, List.set_cons_zero, List.set_cons_succ]
  refine AnyFrom.take (i := 4) (v := ?_) rfl (by kernel_rfl) (by kernel_rfl) (by kernel_rfl) (by kernel_rfl) (fun _ _ _ h => h) ⟨by rfl, ?_⟩ HS ?_
  rotate_left
  · first | (rintro w' ⟨H', L', hl', hm⟩; have es := hm.eqs; simp only [EqsL, and_true] at es; replace es := es.1; go_simp; done) | (rintro w' ⟨H', L', hl', hm⟩; have es := hm.eqs; simp only [EqsL, and_true] at es; replace es := es.1; go_simp; with_reducible rfl)
  simp only [Act.put, List.setIfInBounds_toArray, List.set_cons_zero, List.set_cons_succ]
  refine AnyFrom.take (i := 6) (v := ?_) rfl (by kernel_rfl) (by kernel_rfl) (by kernel_rfl) (by kernel_rfl) (fun _ _ _ h => h) ⟨by rfl, ?_⟩ HS ?_
  rotate_left
  · first | (rintro w' ⟨H', L', hl', hm⟩; have es := hm.eqs; simp only [EqsL, and_true] at es; replace es := es.1; go_simp; done) | (rintro w' ⟨H', L', hl', hm⟩; have es := hm.eqs; simp only [EqsL, and_true] at es; replace es := es.1; go_simp; with_reducible rfl)
  simp only [Act.put, List.setIfInBounds_toArray, List.set_cons_zero, List.set_cons_succ]
  refine AnyFrom.take (i := 7) (v := ?_) rfl (by kernel_rfl) (by kernel_rfl) (by kernel_rfl) (by kernel_rfl) (fun _ _ _ h => h) ⟨by rfl, ?_⟩ HS ?_
  rotate_left
  · first | (rintro w' ⟨H', L', hl', hm⟩; have es := hm.eqs; simp only [EqsL, and_true] at es; replace es := es.1; go_simp; done) | (rintro w' ⟨H', L', hl', hm⟩; have es := hm.eqs; simp only [EqsL, and_true] at es; replace es := es.1; go_simp; with_reducible rfl)
  simp only [Act.put, List.setIfInBounds_toArray, List.set_cons_zero, List.set_cons_succ]
  refine AnyFrom.one (i := 2) (by kernel_rfl) (AnyFrom.op rfl (by rfl) fun K hK => ?_)
  go_simp
  have m4 := m3'.alloc (.cells #[] 9)
  refine hK _ _ (.inr ⟨_, _, Hle.refl _, m4.perm (.swap _ _ _)⟩) ?_
  clear hK K
  try simp only [Act.put, List.setIfInBounds_toArray, List.set_cons_zero, List.set_cons_succ]
  obtain ⟨news, hch, hsrc⟩ := S3.out.src m4
  have HC := Lib.hid hch; clear hch
  have HSR := Lib.hid hsrc; clear hsrc
  have hnl : news.length = q.length := by simpa [encStr, encV] using HC.out.length
  refine AnyFrom.one (i := 5) (by kernel_rfl) (AnyFrom.opIf rfl fun K hK => ?_)
  refine step_append_mem (w0 := w0) (H := H2) (L := _ :: L) rfl _ _ 25 rfl 9 1 16 (.string ByteArray.empty) Tryd.underlying25 (by kernel_rfl) rfl (by decide) (.slice (some ⟨W4.heap.size, 0, none⟩) 0 0) 0 [] (MemAcc.row m4 (Nat.le_refl _) (by decide) rfl rfl) rfl (.slice b3 q.length c3) q.length news HSR.out rfl (by omega) (str_oneCell HC.out) (by omega) (by unfold maxLen; omega) ?_
  intro v' w5 hacc
  simp only [Nat.zero_add, List.nil_append] at hacc
  obtain ⟨b6, c6, rfl, _, _⟩ := hacc.shape
  obtain ⟨H3, m5, hl3, hsl3⟩ := hacc.done HC.out rfl rfl
  have HSL := Lib.hid hsl3; clear hsl3 hacc m4
  refine hK _ _ (.inr ⟨_, _, hl3, m5⟩) ?_
  clear hK K
  try simp only [Act.put, List.setIfInBounds_toArray, List.set_cons_zero, List.set_cons_succ]
  refine AnyFrom.one (i := 8) (by kernel_rfl) (AnyFrom.op rfl (by rfl) fun K hK => ?_)
  go_simp
  refine hK _ _ (.inr ⟨_, _, hl3, m5⟩) ?_
  clear hK K
  try simp only [Act.put, List.setIfInBounds_toArray, List.set_cons_zero, List.set_cons_succ]
  refine AnyFrom.one (i := 9) (by kernel_rfl) (AnyFrom.op rfl (by rfl) fun K hK => ?_)
  go_simp
  refine (Bytes_any _ ⟨f, q, n⟩ m5 ⟨_, rfl, HSL.out⟩ ⟨⟨by simp only; omega, by simp only; omega⟩, ⟨by simp only; omega, by simp only; omega⟩⟩).mono ?_
  rintro e w6 ⟨b7, n7, c7, H4, rfl, m6, hl4, hs4⟩
  simp only [HBR.out] at hs4 ⊢
  have hn7 : n7 = (bytesM ⟨f, q, n⟩).length := by obtain ⟨_, _, he, _⟩ := hs4; cases he; rfl
  subst hn7
  have HB4 := Lib.hid hs4; clear hs4
  refine hK _ _ (.inr ⟨_, _, hl3.trans hl4, m6⟩) ?_
  clear hK K
  try simp only [Act.put, List.setIfInBounds_toArray, List.set_cons_zero, List.set_cons_succ]
  refine AnyFrom.one (i := 10) (by kernel_rfl) (AnyFrom.op rfl (by rfl) fun K hK => ?_)
  go_simp
  refine hK _ _ (.inr ⟨_, _, hl3.trans hl4, m6⟩) ?_
  clear hK K
  try simp only [Act.put, List.setIfInBounds_toArray, List.set_cons_zero, List.set_cons_succ]
  have HS : ∃ H' L', Hle H2 H' ∧ Mem w0 H' ((gb, .cells #[.int .i64 f, .slice b3 q.length c3, .int .i64 n] 29) :: L') w6 := ⟨_, _, hl3.trans hl4, m6⟩
  refine AnyFrom.pure (i := 11) (v := ?_) rfl (by kernel_rfl) (by kernel_rfl) (by kernel_rfl) (by decide) (fun _ _ _ h => h) ⟨by rfl, ?_⟩ HS ?_
  rotate_left
  · first | (intro w'; go_simp; done) | (intro w'; go_simp; with_reducible rfl)
  simp only [Act.put, List.setIfInBounds_toArray, List.set_cons_zero, List.set_cons_succ]
  refine AnyFrom.pure (i := 12) (v := ?_) rfl (by kernel_rfl) (by kernel_rfl) (by kernel_rfl) (by decide) (fun _ _ _ h => h) ⟨by rfl, ?_⟩ HS ?_
  rotate_left
  · first | (intro w'; go_simp; done) | (intro w'; go_simp; with_reducible rfl)
  simp only [Act.put, List.setIfInBounds_toArray, List.set_cons_zero, List.set_cons_succ]
  refine AnyFrom.one (i := 13) (by kernel_rfl) (AnyFrom.op rfl (by rfl) fun K hK => ?_)
  go_simp
  refine hK _ _ (.inr ⟨_, _, hl3.trans hl4, m6⟩) ?_
  clear hK K
  try simp only [Act.put, List.setIfInBounds_toArray, List.set_cons_zero, List.set_cons_succ]
  refine AnyFrom.one (i := 14) (by kernel_rfl) (AnyFrom.op rfl (by rfl) fun K hK => ?_)
  go_simp
  refine hK _ _ (.inr ⟨_, _, hl3.trans hl4, m6⟩) ?_
  clear hK K
  try simp only [Act.put, List.setIfInBounds_toArray, List.set_cons_zero, List.set_cons_succ]
  refine AnyFrom.done (by kernel_rfl) ?_ _
  generalize hbm : bytesM ⟨f, q, n⟩ = bm at *
  clear hbm
  have es := m6.eqs; simp only [EqsL, and_true] at es
  obtain ⟨_, _, hv1, hc1, hcm, _, _⟩ := HB4.out
  cases hv1
  have hcm := size_le_maxLen hcm
  obtain ⟨blk7, off7, rfl, _, _⟩ := HB4.out.cellV (i := 0) (by omega)
  obtain ⟨k, hk⟩ : ∃ k, k = at' % bm.length := ⟨_, rfl⟩
  have hk1 : k < bm.length := by rw [hk]; exact Nat.mod_lt _ (by omega)
  have hk2 : (at' : Int) % (bm.length : Int) = (k : Int) := by rw [hk]; simp
  clear hk
  have hsum' : ((f + (q.length : Int)) != s.put.length) = false := by rw [hsum]; simp
  have hb0 : ((bm.length : Int) == 0) = false := beq_eq_false_iff_ne.2 (by omega)
  have hfo' : ¬ ((o.length : Int) < f) := by omega
  have m7 := m6.alloc (.cells #[] 5)
  obtain ⟨news2, hch2, hsrc2⟩ := HB4.out.src m7
  have HC2 := Lib.hid hch2; clear hch2
  have HSR2 := Lib.hid hsrc2; clear hsrc2
  have hnl2 : news2.length = bm.length := by simpa [encB, encV] using HC2.out.length
  go_wp2_with (at_builtin; refine wpList_append_mem (w0 := w0) (H := H4) (L := _ :: L) rfl _ _ 22 rfl 5 1 1 (.int .u8 0) Tryd.underlying22 (by kernel_rfl) rfl (by decide) _ 0 [] (MemAcc.row m7 (Nat.le_refl _) (by decide) rfl rfl) rfl _ bm.length news2 HSR2.out rfl (by omega) (b_oneCell' HC2.out) (by omega) (by unfold maxLen; omega) ?_)
  intro v' w7 hacc
  obtain ⟨b8, c8, rfl, _, _⟩ := hacc.shape
  obtain ⟨H5, m8, hl5, hsl5⟩ := hacc.done HC2.out rfl rfl
  have HSL5 := Lib.hid hsl5; clear hsl5 hacc m7 es m6
  go_wp2_with fail
  refine (Read_any _ bm (by omega) m8 HSL5.out).mono ?_
  rintro e w8 hR
  rw [HRS.out] at hR
  obtain ⟨b9, c9, H6, rfl, m9, hl6, hs6⟩ := GateR.lit (f := f) (q := q) (n := n) (k := 0) rfl rfl hR
  have HS6 := Lib.hid hs6; clear hs6 hR m8
  have m10 := m9.alloc (.cells #[.int .i64 f, .slice b9 q.length c9, .int .i64 n] 29)
  have hst : (bm.take k).length = k := by rw [List.length_take]; omega
  have hsp := (HB4.out.pre (k := k) (by omega)).mono (hl5.trans hl6)
  have HSP := Lib.hid hsp; clear hsp
  have m11 := m10.alloc (.cells #[] 5)
  rw [World.size_alloc] at m11
  obtain ⟨news3, hch3, hsrc3⟩ := HSP.out.src m11
  rw [hst] at hsrc3
  have HC3 := Lib.hid hch3; clear hch3
  have HSR3 := Lib.hid hsrc3; clear hsrc3
  have hnl3 : news3.length = k := by rw [← hst]; simpa [encB, encV] using HC3.out.length
  go_wp2_with (at_builtin; refine wpList_append_mem (w0 := w0) (H := H6) (L := _ :: _ :: L) rfl _ _ 22 rfl 5 1 1 (.int .u8 0) Tryd.underlying22 (by kernel_rfl) rfl (by decide) _ 0 [] (MemAcc.row m11 (Nat.le_refl _) (by decide) rfl rfl) rfl _ k news3 HSR3.out rfl (by omega) (b_oneCell' HC3.out) (by omega) (by unfold maxLen; omega) ?_)
  intro v' w9 hacc
  obtain ⟨b10, c10, rfl, _, _⟩ := hacc.shape
  obtain ⟨H7, m12, hl7, hsl7⟩ := hacc.done HC3.out rfl (by omega)
  have HSL7 := Lib.hid hsl7; clear hsl7 hacc m11 m9 m10
  go_wp2_with fail
  refine (Read_any _ (bm.take k) (by omega) m12 HSL7.out).mono ?_
  rintro e w10 hR
  rw [HRL.out k hk1] at hR
  obtain ⟨b11, c11, H8, rfl, m13, hl8, hs8⟩ := GateR.lit (f := 0) (q := []) (n := 0) (k := 4) rfl rfl hR
  clear hs8 hR m12
  have m14 := m13.alloc (.cells #[.int .i64 0, .slice b11 0 c11, .int .i64 0] 29)
  have m15 := m14.alloc (.cells #[] 5)
  rw [World.size_alloc] at m15
  have hsb := (HB4.out.mono (hl5.trans hl6)).mono (hl7.trans hl8)
  obtain ⟨news4, hch4, hsrc4⟩ := hsb.src m15
  have HC4 := Lib.hid hch4; clear hch4 hsb
  have HSR4 := Lib.hid hsrc4; clear hsrc4
  have hnl4 : news4.length = bm.length := by simpa [encB, encV] using HC4.out.length
  go_wp2_with (at_builtin; refine wpList_append_mem (w0 := w0) (H := H8) (L := _ :: _ :: _ :: L) rfl _ _ 22 rfl 5 1 1 (.int .u8 0) Tryd.underlying22 (by kernel_rfl) rfl (by decide) _ 0 [] (MemAcc.row m15 (Nat.le_refl _) (by decide) rfl rfl) rfl _ bm.length news4 HSR4.out rfl (by omega) (b_oneCell' HC4.out) (by omega) (by unfold maxLen; omega) ?_)
  intro v' w11 hacc
  obtain ⟨b12, c12, rfl, _, _⟩ := hacc.shape
  have hac2 := hacc.alloc (.cells #[.int .u8 0] 5)
  go_wp2_with (at_builtin; refine wpList_append_mem (w0 := w0) (H := H8) (L := _ :: _ :: _ :: _ :: L) rfl _ _ 22 rfl 5 1 1 (.int .u8 0) Tryd.underlying22 (by kernel_rfl) rfl (by decide) _ bm.length news4 hac2 rfl _ 1 [.int .u8 0] (Src.loc (e := 5) hac2.mem (.head _)) rfl rfl (by simp [Value.oneCell']) (by omega) (by unfold maxLen; omega) ?_)
  intro v' w12 hac3
  obtain ⟨b13, c13, rfl, _, _⟩ := hac3.shape
  have hcm4 : Chunks encB H8 (news4 ++ [.int .u8 0]) (bm ++ [0]) := HC4.out.append (.one (E := encB) (x := (0 : UInt8)) ⟨rfl, trivial⟩ rfl)
  obtain ⟨H9, m16, hl9, hsl9⟩ := hac3.done hcm4 rfl (by simp)
  have HSL9 := Lib.hid hsl9
  clear hac2 hac3 m15 m14 m13 hacc hsl9
  go_wp2_with fail
  refine (Read_any _ (bm ++ [0]) (by simp; omega) m16 HSL9.out).mono ?_
  rintro e w13 hR
  rw [HRM.out] at hR
  obtain ⟨b14, c14, H10, rfl, m17, hl10, hs10⟩ := GateR.lit (f := 0) (q := []) (n := 0) (k := 4) rfl rfl hR
  clear hs10 hR m16
  have m18 := m17.alloc (.cells #[.int .i64 0, .slice b14 0 c14, .int .i64 0] 29)
  have es := m18.eqs; simp only [EqsL, and_true] at es
  go_wp2_with fail
  refine (begins_any _ _ q q m18 ((((HS6.out.mono hl7).mono hl8).mono hl9).mono hl10) (S3.out.mono (hl3.trans (hl4.trans (hl5.trans (hl6.trans (hl7.trans (hl8.trans (hl9.trans hl10))))))))).mono ?_
  rintro e w14 ⟨rfl, m19⟩
  rw [show beginsM q q = true from decide_eq_true (by rw [List.take_length])]
  go_wp2_with fail
  refine (awake_any m19).mono ?_
  rintro e w15 ⟨rfl, m20⟩
  go_wp2_with fail
  go_ret
  exact ⟨rfl, (m20.weaken (hl1.trans (hl2.trans (hl3.trans (hl4.trans (hl5.trans (hl6.trans (hl7.trans (hl8.trans (hl9.trans hl10)))))))))).drop.drop.drop.drop.drop⟩
end Go.Proofs.YtpkcdkbbhiafnaaDoor
