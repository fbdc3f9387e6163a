/- The walk: the law GateWaits. -/
import Derived.Test.YtpkcdkbbhiafnaaDoorWaitM
import Derived.Test.YtpkcdkbbhiafnaaDoorDoorO
namespace Go.Proofs.YtpkcdkbbhiafnaaDoor
set_option linter.unusedVariables false
set_option linter.unusedSimpArgs false
open Go.RowKit

theorem filter_take_succ {α : Type} (p : α → Bool) (l : List α) (k : Nat) (h : k < l.length) : (l.take (k + 1)).filter p = (l.take k).filter p ++ (if p l[k] then [l[k]] else []) := by
  rw [List.take_succ_eq_append_getElem h, List.filter_append, List.filter_cons]
  rfl

theorem perm_w1 {α : Type} (a : α) (L5 L : List α) : (a :: (L5 ++ L)).Perm (L5 ++ (a :: L)) := (by classical exact List.perm_iff_count.2 (fun a => by simp only [List.count_append, List.count_cons, List.cons_append, List.nil_append, List.append_assoc]; omega))
set_option maxRecDepth 10000 in
set_option maxHeartbeats 4000000 in
theorem lawWaits (v : Value) (l : List UInt8) {w0 w : World} {H : Hp} {L : List (Nat × Obj)} (m : Mem w0 H L w) (hv : SlR encB H v l) :
    Calls Tryd.prog 5 #[v] w (Lawful w0 H L) := by
  obtain ⟨hlen, hput50, hlaw⟩ := waits_law l
  have hfl : ((stormM l).out.filter keepA).length ≤ (stormM l).out.length := List.length_filter_le _ _
  have hrl := PlayM.run_len ((stormM l).out.filter keepA) PlayM.start
  have hpm : playM ((stormM l).out.filter keepA) = ((PlayM.start.run ((stormM l).out.filter keepA)).1.gate, (PlayM.start.run ((stormM l).out.filter keepA)).1.out, (PlayM.start.run ((stormM l).out.filter keepA)).2, 0) := by unfold playM; rw [if_neg (by omega)]
  have HPM := Lib.hid hpm; clear hpm
  have HLA := Lib.hid hlaw; clear hlaw
  have HRL := Lib.hid hrl; clear hrl
  go_enter Tryd.func5, Tryd.ntmps5
  go_wp2_with fail
  refine (acts_any v l m hv).mono ?_
  rintro e w1 ⟨b1, c1, b2, c2, H1, rfl, m1, hl1, s1, s2⟩
  have S1 := Lib.hid s1; clear s1
  have S2 := Lib.hid s2; clear s2
  generalize stormM l = s at *
  go_wp2_with fail
  go_loopw [5, 6] (fun v5 v6 wr => ∃ (j : Nat) (b : Option Addr) (c : Nat) (cs : List Value) (L5 : List (Nat × Obj)), j ≤ s.out.length ∧ v6 = .int .i64 j ∧ v5 = .slice b ((s.out.take j).filter keepA).length c ∧ AccL 38 3 v5 ((s.out.take j).filter keepA).length cs L5 ∧ Chunks encAct H1 cs ((s.out.take j).filter keepA) ∧ Mem w0 H1 (L5 ++ L) wr) (fun _ i _ => s.out.length - (intOf i).toNat)
  case atStart => exact ⟨0, none, 0, [], [], Nat.zero_le _, rfl, rfl, AccL.nil, .nil, m1⟩
  case round =>
    obtain ⟨j, b, c, cs, L5, hj, rfl, rfl, ha5, hc5, m2⟩ := hrel
    have HC5 := Lib.hid hc5; clear hc5
    have hfj : ((s.out.take j).filter keepA).length ≤ j := Nat.le_trans (List.length_filter_le _ _) (by rw [List.length_take]; omega)
    by_cases hlt : j < s.out.length
    · obtain ⟨blk, off, rfl, ca, cb, cc, hn, hs⟩ := S1.out.act hlt
      have hca := ca.cell m2
      have hcb := cb.cell m2
      have hcc := cc.cell m2
      have HF := Lib.hid (filter_take_succ keepA s.out j hlt)
      have hkn := (s.out[j]).kind.toNat_lt
      obtain ⟨_, _, hv1, _, hcm, _, _⟩ := S1.out
      cases hv1
      have hcm := size_le_maxLen hcm
      have hlt1 : (j : Int) < s.out.length := by omega
      by_cases hk : s.out[j].kind = 7
      · have hk1 : (s.out[j].kind.toNat : Int) = 7 := by rw [hk]; rfl
        have HF2 := Lib.hid (show (s.out.take (j + 1)).filter keepA = (s.out.take j).filter keepA by rw [HF.out, if_neg (by simp [keepA, hk]), List.append_nil])
        clear HF hk hn hs
        rw [hk1] at hca
        go_wp2_with fail
        go_roundw
        case rel => exact ⟨j + 1, b, c, cs, L5, by omega, by go_num, by rw [HF2.out], by rw [HF2.out]; exact ha5, by rw [HF2.out]; exact HC5.out, m2⟩
        case measure => simp [intOf]; omega
      · have hk1 : ((s.out[j].kind.toNat : Int) != 7) = true := by
          have : s.out[j].kind.toNat ≠ 7 := fun e => hk (UInt8.toNat_inj.1 e)
          simp; omega
        have HF2 := Lib.hid (show (s.out.take (j + 1)).filter keepA = (s.out.take j).filter keepA ++ [s.out[j]] by rw [HF.out, if_pos (by simp [keepA, hk])])
        clear HF hk
        have HN := Lib.hid hn; clear hn
        have HS := Lib.hid hs; clear hs
        generalize s.out[j] = a at *
        have mL := (m2.alloc (.cells #[.int .u8 a.kind.toNat, .int .i64 a.n, .string a.s] 38)).perm (perm_w1 _ L5 L)
        go_wp2_with (at_builtin; refine wpList_append_mem (w0 := w0) (H := H1) (L := _ :: _) rfl _ _ 24 rfl 38 3 32 (.agg #[.int .u8 0, .int .i64 0, .string ByteArray.empty]) Tryd.underlying24 (by kernel_rfl) rfl (by decide) (.slice b ((s.out.take j).filter keepA).length c) ((s.out.take j).filter keepA).length cs (ha5.join mL) rfl _ 1 [.int .u8 a.kind.toNat, .int .i64 a.n, .string a.s] (Src.loc (e := 38) (ha5.join mL).mem (.head _)) rfl rfl (by simp [Value.oneCell']) (by omega) (by unfold maxLen; omega) ?_)
        intro v' w3 hacc
        obtain ⟨b9, c9, rfl, _, _⟩ := hacc.shape
        obtain ⟨L6, ha6, m9⟩ := hacc.drop.split
        have hone : Chunks encAct H1 [.int .u8 a.kind.toNat, .int .i64 a.n, .string a.s] [a] := .one (E := encAct) (x := a) ⟨rfl, HN.out, HS.out⟩ rfl
        have hl1 : ((s.out.take j).filter keepA ++ [a]).length = ((s.out.take j).filter keepA).length + 1 := by simp
        clear hacc mL m2
        go_wp2_with fail
        go_roundw
        case rel => exact ⟨j + 1, b9, c9, _, L6, by omega, by go_num, by rw [HF2.out]; simp only [hl1], by rw [HF2.out]; simp only [hl1]; exact ha6, by rw [HF2.out]; exact HC5.out.append hone, m9⟩
        case measure => simp [intOf]; omega
    · have hj' : s.out.take j = s.out := List.take_of_length_le (by omega)
      rw [hj'] at ha5 HC5 ⊢
      clear hfj hj'
      obtain ⟨H2, m3, hl2, hs2⟩ := (ha5.join m2).done HC5.out rfl rfl
      have S5 := Lib.hid hs2; clear hs2 ha5 HC5 m2
      have m4 := m3.alloc (.cells #[] 38)
      obtain ⟨news, hch, hsrc⟩ := S5.out.src m4
      have HC := Lib.hid hch; clear hch
      have HS := Lib.hid hsrc; clear hsrc
      generalize s.out.filter keepA = ks at *
      obtain ⟨_, _, hv1, hc1, hcm, _, _⟩ := S5.out
      cases hv1
      have hcm := size_le_maxLen hcm
      go_wp2_with (at_builtin; refine wpList_append_mem (w0 := w0) (H := H2) (L := L) rfl _ _ 24 rfl 38 3 32 (.agg #[.int .u8 0, .int .i64 0, .string ByteArray.empty]) Tryd.underlying24 (by kernel_rfl) rfl (by decide) _ 0 [] (MemAcc.row m4 (Nat.le_refl _) (by decide) rfl rfl) rfl _ ks.length news HS.out rfl HC.out.length (act_oneCell HC.out) (by omega) (by unfold maxLen; omega) ?_)
      intro v' w' hacc
      obtain ⟨H3, m5, hl3, hsl2⟩ := hacc.done HC.out rfl rfl
      obtain ⟨b', c', rfl, _, hc3⟩ := hacc.shape
      have hc3 := size_le_maxLen hc3
      clear hacc m4 m3 HS HC news
      have HSL := Lib.hid hsl2; clear hsl2
      go_wp2_with fail
      refine (Play_any _ ks m5 HSL.out).mono ?_
      rintro e w2 hR
      rw [HPM.out] at hR
      clear HPM S1 S5 HSL
      generalize PlayM.start.run ks = r at *
      obtain ⟨⟨⟨f, q, n⟩, o, sv, si⟩, x⟩ := r
      simp only at *
      obtain ⟨b3, c3, b4, c4, b5, c5, H4, rfl, m6, hl4, s3, s4, s5⟩ := PlayR.lit rfl rfl rfl rfl hR
      obtain ⟨hf1, hf2, hf3, hf4, hf5⟩ := HLA.out
      clear HLA s4 hR
      have S3 := Lib.hid s3; clear s3
      have S6 := Lib.hid s5; clear s5
      have HQ := Lib.hid hf4; clear hf4
      have HE := Lib.hid hf5; clear hf5
      have hxb : x.length ≤ 180 := by rw [HRL.out]; omega
      have hx1 : ((x.length : Int) != ks.length) = false := by rw [HRL.out]; simp
      have hf3' : ((f + (q.length : Int)) != s.put.length) = false := by rw [hf3]; simp
      have hf1' : ¬ f < 0 := by omega
      have hf2' : ¬ ((o.length : Int) < f) := by omega
      have m7 := (m6.alloc (.cells #[.int .i64 f, .slice b3 q.length c3, .int .i64 n] 29))
      have es := m7.eqs; simp only [EqsL, and_true] at es
      go_wp2_with fail
      obtain ⟨F, rfl⟩ := Int.eq_ofNat_of_zero_le hf1
      have hFq : F + q.length = s.put.length := by omega
      have HQ2 := Lib.hid (show ∀ k, (h : k < q.length) → ∃ h' : F + k < s.put.length, s.put[F + k] = q[k] from fun k h => ⟨by omega, by have := HQ.out; rw [Int.toNat_natCast] at this; subst this; rw [List.getElem_drop]⟩)
      clear HQ hf3 hf3' hf1' hf2' hf1 hf2 m5 m6
      have SP := Lib.hid (((S2.out.mono hl2).mono hl3).mono hl4)
      generalize w2.heap.size = gb at *
      go_loopw [11] (fun v11 wr => ∃ (k : Nat), k ≤ q.length ∧ v11 = .int .i64 k ∧ Mem w0 H4 ((gb, .cells #[.int .i64 F, .slice b3 q.length c3, .int .i64 n] 29) :: L) wr) (fun i _ => q.length - (intOf i).toNat)
      case atStart => exact ⟨0, Nat.zero_le _, rfl, m7⟩
      case round =>
        obtain ⟨k, hk, rfl, m8⟩ := hrel
        clear es m7
        have es := m8.eqs; simp only [EqsL, and_true] at es
        by_cases hlt : k < q.length
        · obtain ⟨hlt2, he⟩ := HQ2.out k hlt
          obtain ⟨blk, off, rfl, hcell, _⟩ := S3.out.cellV hlt
          obtain ⟨blk', off', rfl, hcell', _⟩ := SP.out.cellV hlt2
          have hcell := hcell.cell m8
          have hcell' := hcell'.cell m8
          rw [he] at hcell'
          have hlt3 : (F : Int) + k < s.put.length := by omega
          have hlt4 : (k : Int) < q.length := by omega
          clear he
          go_wp2_with fail
          go_quiet (fail)
          go_wp2_with fail
          go_roundw
          case rel => exact ⟨k + 1, by omega, by go_num, m8.drewN _⟩
          case measure => simp [intOf]; omega
        · go_wp2_with fail
          clear es
          go_loopw [12] (fun v12 wr => ∃ (k : Nat), k ≤ x.length ∧ v12 = .int .i64 k ∧ Mem w0 H4 ((gb, .cells #[.int .i64 F, .slice b3 q.length c3, .int .i64 n] 29) :: L) wr) (fun i _ => x.length - (intOf i).toNat)
          case atStart => exact ⟨0, Nat.zero_le _, rfl, m8⟩
          case round =>
            obtain ⟨k2, hk2, rfl, m9⟩ := hrel
            by_cases hlt3 : k2 < x.length
            · obtain ⟨blk, off, rfl, hcell, _⟩ := S6.out.cellV hlt3
              have hcell := hcell.cell m9
              have hok := HE.out x[k2] (List.getElem_mem hlt3)
              have hlt4 : (k2 : Int) < x.length := by omega
              rcases hok with h0 | h7 | h3
              · rw [h0] at hcell
                clear h0
                go_wp2_with fail
                go_roundw
                case rel => exact ⟨k2 + 1, by omega, by go_num, m9⟩
                case measure => simp [intOf]; omega
              · rw [h7] at hcell
                clear h7
                go_wp2_with fail
                go_roundw
                case rel => exact ⟨k2 + 1, by omega, by go_num, m9⟩
                case measure => simp [intOf]; omega
              · rw [h3] at hcell
                clear h3
                go_wp2_with fail
                go_roundw
                case rel => exact ⟨k2 + 1, by omega, by go_num, m9⟩
                case measure => simp [intOf]; omega
            · go_wp2_with fail
              refine (awake_any m9).mono ?_
              rintro e w6 ⟨rfl, mD⟩
              go_wp2_with fail
              go_ret
              exact ⟨rfl, (mD.weaken (hl1.trans (hl2.trans (hl3.trans hl4)))).drop⟩
end Go.Proofs.YtpkcdkbbhiafnaaDoor
