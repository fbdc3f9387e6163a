/- The walk: the law GateLast. -/
import Derived.Test.YtpkcdkbbhiafnaaDoorLastM
import Derived.Test.YtpkcdkbbhiafnaaDoorDoorO
namespace Go.Proofs.YtpkcdkbbhiafnaaDoor
set_option linter.unusedVariables false
set_option linter.unusedSimpArgs false
open Go.RowKit

theorem perm_la1 {α : Type} (a b : α) (L5 L : List α) : (a :: b :: (L5 ++ L)).Perm (L5 ++ (a :: b :: L)) := (by classical exact List.perm_iff_count.2 (fun a => by simp only [List.count_append, List.count_cons, List.cons_append, List.nil_append, List.append_assoc]; omega))
set_option maxRecDepth 10000 in
set_option maxHeartbeats 4000000 in
theorem lawLast (v : Value) (l : List UInt8) {w0 w : World} {H : Hp} {L : List (Nat × Obj)} (m : Mem w0 H L w) (hv : SlR encB H v l) :
    Calls Tryd.prog 4 #[v] w (Lawful w0 H L) := by
  obtain ⟨hlen, hq50, hlast⟩ := last_law l
  have hpm : playM (stormM l).out = ((PlayM.start.run (stormM l).out).1.gate, (PlayM.start.run (stormM l).out).1.out, (PlayM.start.run (stormM l).out).2, 0) := by unfold playM; rw [if_neg (by omega)]
  have HPM := Lib.hid hpm; clear hpm
  have HLA := Lib.hid hlast; clear hlast
  go_enter Tryd.func4, Tryd.ntmps4
  go_wp2_with fail
  refine (acts_own v l m hv).mono ?_
  rintro e w1 ⟨b1, c1, b2, c2, cs4, L4, H1, rfl, ha4, hc4, m1, hl1, s2⟩
  have S2 := Lib.hid s2; clear s2
  have HC4 := Lib.hid hc4; clear hc4
  generalize stormM l = s at *
  obtain ⟨H2, m2, hl2, s1, hback⟩ := ha4.borrow HC4.out rfl rfl m1
  have HB := Lib.hid hback; clear hback
  have S1 := Lib.hid s1; clear s1
  obtain ⟨_, _, hv1, hc1, hcm, _, _⟩ := S1.out
  cases hv1
  have hcm := size_le_maxLen hcm
  have m3 := m2.alloc (.cells #[] 38)
  obtain ⟨news, hch, hsrc⟩ := S1.out.src m3
  have HC := Lib.hid hch; clear hch
  have HS := Lib.hid hsrc; clear hsrc
  go_wp2_with (at_builtin; refine wpList_append_mem (w0 := w0) (H := H2) (L := L) rfl _ _ 24 rfl 38 3 32 (.agg #[.int .u8 0, .int .i64 0, .string ByteArray.empty]) Tryd.underlying24 (by kernel_rfl) rfl (by decide) _ 0 [] (MemAcc.row m3 (Nat.le_refl _) (by decide) rfl rfl) rfl _ s.out.length news HS.out rfl HC.out.length (act_oneCell HC.out) (by omega) (by unfold maxLen; omega) ?_)
  intro v' w' hacc
  obtain ⟨H3, m4, hl3, hsl2⟩ := hacc.done HC.out rfl rfl
  obtain ⟨b', c', rfl, _, hc3⟩ := hacc.shape
  have hc3 := size_le_maxLen hc3
  clear hacc m3 m2 m1 HS HC news
  have HSL := Lib.hid hsl2; clear hsl2
  go_wp2_with fail
  refine (Play_any _ s.out m4 HSL.out).mono ?_
  rintro e w2 hR
  rw [HPM.out] at hR
  generalize hr : PlayM.start.run s.out = r at *
  obtain ⟨⟨⟨f, q, n⟩, o, sv, si⟩, x⟩ := r
  clear hr
  simp only at *
  obtain ⟨b3, c3, b4, c4, b5, c5, H4, rfl, m5, hl4, s3, s4, s5⟩ := PlayR.lit rfl rfl rfl rfl hR
  clear s3 s4 s5 hR
  have hq1 : ¬ ((50 : Int) < q.length) := by omega
  have m6 := HB.out _ _ (m5.weaken (hl3.trans hl4))
  have m7 := (m6.alloc (.cells #[.int .i64 f, .slice b3 q.length c3, .int .i64 n] 29))
  go_wp2_with fail
  generalize hgb : w2.heap.size = gb at *
  generalize hW7 : w2.alloc (.cells #[.int .i64 f, .slice b3 q.length c3, .int .i64 n] 29) = W7 at *
  clear hgb hW7 m6 m5 m4 hl3 hl4 HB HSL S1
  go_loopw [3, 9] (fun v3 v9 wr => ∃ (j : Nat) (b : Option Addr) (c : Nat) (cs : List Value) (L5 : List (Nat × Obj)), j ≤ q.length ∧ v9 = .int .i64 j ∧ v3 = .slice b (s.out.length + j) c ∧ AccL 38 3 v3 (s.out.length + j) cs L5 ∧ Chunks encAct H1 cs (s.out ++ List.replicate j (bare 2)) ∧ Mem w0 H1 ((gb, .cells #[.int .i64 f, .slice b3 q.length c3, .int .i64 n] 29) :: (L5 ++ L)) wr) (fun _ i _ => q.length - (intOf i).toNat)
  case atStart => exact ⟨0, b1, c1, cs4, L4, Nat.zero_le _, rfl, rfl, ha4, by simpa using HC4.out, m7⟩
  case round =>
    obtain ⟨j, b, c, cs, L5, hj, rfl, rfl, ha5, hc5, m8⟩ := hrel
    have HC5 := Lib.hid hc5; clear hc5
    have es := m8.eqs; simp only [EqsL, and_true] at es
    by_cases hlt : j < q.length
    · have mL := (m8.alloc (.cells #[.int .u8 2, .int .i64 0, .string ByteArray.empty] 38)).perm (perm_la1 _ _ L5 L)
      have hlt1 : (j : Int) < q.length := by omega
      go_wp2_with (at_builtin; refine wpList_append_mem (w0 := w0) (H := H1) (L := _ :: _) rfl _ _ 24 rfl 38 3 32 (.agg #[.int .u8 0, .int .i64 0, .string ByteArray.empty]) Tryd.underlying24 (by kernel_rfl) rfl (by decide) (.slice b (s.out.length + j) c) (s.out.length + j) cs (ha5.join mL) rfl _ 1 [.int .u8 2, .int .i64 0, .string ByteArray.empty] (Src.loc (e := 38) (ha5.join mL).mem (.head _)) rfl rfl (by simp [Value.oneCell']) (by omega) (by unfold maxLen; omega) ?_)
      intro v' w3 hacc
      obtain ⟨b9, c9, rfl, _, _⟩ := hacc.shape
      obtain ⟨L6, ha6, m9⟩ := hacc.drop.split
      have hone : Chunks encAct H1 [.int .u8 2, .int .i64 0, .string ByteArray.empty] [bare 2] := .one (E := encAct) (x := bare 2) ⟨rfl, ⟨by decide, by decide⟩, by decide⟩ rfl
      clear hacc mL m8
      go_wp2_with fail
      go_roundw
      case rel =>
        refine ⟨j + 1, b9, c9, _, L6, by omega, by go_num, rfl, ha6, ?_, m9.perm List.perm_middle⟩
        rw [List.replicate_succ', ← List.append_assoc]
        exact HC5.out.append hone
      case measure => simp [intOf]; omega
    · have hj' : j = q.length := by omega
      subst hj'
      have hn1 : (s.out ++ List.replicate q.length (bare 2)).length = s.out.length + q.length := by simp
      by_cases h200 : 200 < s.out.length + q.length
      · go_wp2_with fail
        refine (awake_any m8).mono ?_
        rintro e w6 ⟨rfl, m9⟩
        go_wp2_with fail
        go_ret
        obtain ⟨H5, mA, hlA, _⟩ := (ha5.join m9.drop).done HC5.out rfl hn1.symm
        exact ⟨rfl, mA.weaken (hl1.trans hlA)⟩
      · have hpm2 : playM (s.out ++ List.replicate q.length (bare 2)) = ((PlayM.start.run (s.out ++ List.replicate q.length (bare 2))).1.gate, (PlayM.start.run (s.out ++ List.replicate q.length (bare 2))).1.out, (PlayM.start.run (s.out ++ List.replicate q.length (bare 2))).2, 0) := by unfold playM; rw [if_neg (by omega)]
        have HPM2 := Lib.hid hpm2; clear hpm2
        obtain ⟨H5, m9, hl5, hs5⟩ := (ha5.join (m8.perm List.perm_middle.symm)).done HC5.out rfl hn1.symm
        have HS5 := Lib.hid hs5; clear hs5
        have h201 : ¬ ((200 : Int) < (s.out.length : Int) + q.length) := by omega
        go_wp2_with fail
        rw [show s.out.length + q.length = (s.out ++ List.replicate q.length (bare 2)).length from hn1.symm] at HS5 ⊢
        refine (Play_any _ (s.out ++ List.replicate q.length (bare 2)) m9 HS5.out).mono ?_
        rintro e w4 hR
        rw [HPM2.out] at hR
        obtain ⟨hla1, hla2, hla3⟩ := HLA.out
        rw [hla3] at hR
        clear HLA HPM2 HPM es
        generalize PlayM.start.run (s.out ++ List.replicate q.length (bare 2)) = r at *
        obtain ⟨⟨⟨f', q', n'⟩, o', sv', si'⟩, x'⟩ := r
        simp only at *
        subst hla1 hla2 hla3
        obtain ⟨b6, c6, b7, c7, b8, c8, H6, rfl, mA, hlA, s3, s4, s5⟩ := PlayR.lit rfl rfl rfl rfl hR
        have S4 := Lib.hid s4; clear s3 s4 s5 hR
        have mB := (mA.alloc (.cells #[.int .i64 s.put.length, .slice b6 0 c6, .int .i64 n'] 29))
        have es := mB.eqs; simp only [EqsL, and_true] at es
        go_wp2_with fail
        refine (begins_any _ _ s.put s.put mB S4.out ((S2.out.mono hl5).mono hlA)).mono ?_
        rintro e w5 ⟨rfl, mC⟩
        rw [show beginsM s.put s.put = true from decide_eq_true (by rw [List.take_length])]
        go_wp2_with fail
        refine (awake_any mC).mono ?_
        rintro e w6 ⟨rfl, mD⟩
        go_wp2_with fail
        go_ret
        exact ⟨rfl, ((mD.weaken (hl1.trans (hl5.trans hlA))).drop).drop⟩
end Go.Proofs.YtpkcdkbbhiafnaaDoor
