/- The walk: the law GatePlays. -/
import Derived.Test.YtpkcdkbbhiafnaaWorldE
import Derived.Test.YtpkcdkbbhiafnaaGateX
namespace Go.Proofs.Ytpkcdkbbhiafnaa
set_option linter.unusedVariables false
set_option linter.unusedSimpArgs false
open Go.RowKit

theorem act_oneCell {H : Hp} {cs : List Value} {xs : List ActM} (h : Chunks encAct H cs xs) : ∀ u ∈ cs, u.oneCell' = true :=
  h.oneCell fun cs x hx u hu => by
    obtain ⟨rfl, _⟩ := hx
    simp only [List.mem_cons, List.not_mem_nil, or_false] at hu
    rcases hu with rfl | rfl | rfl <;> rfl

set_option maxRecDepth 10000 in
set_option maxHeartbeats 4000000 in
theorem lawPlays (v : Value) (l : List ActM) {w0 w : World} {H : Hp} {L : List (Nat × Obj)} (m : Mem w0 H L w) (hv : SlR encAct H v l) :
    Calls Try.prog 6 #[v] w (Lawful w0 H L) := by
  have HV := Lib.hid hv
  obtain ⟨b, c, rfl, hc1, hc2, _, _⟩ := hv
  have hc2 := size_le_maxLen hc2
  by_cases hl : 210 < l.length
  · go_enter Try.func6, Try.ntmps6
    go_wp2_with fail
    refine (awake_any m).mono ?_
    rintro e w2 ⟨rfl, m3⟩
    go_wp2_with fail
    go_ret
    exact ⟨rfl, m3⟩
  · go_enter Try.func6, Try.ntmps6
    go_wp2_with fail
    go_loopw [3] (fun v3 wr => ∃ j : Nat, j ≤ l.length ∧ v3 = .int .i64 j ∧ wr = w) (fun i _ => l.length - (intOf i).toNat)
    case atStart => exact ⟨0, Nat.zero_le _, rfl, rfl⟩
    case round =>
      obtain ⟨j, hj, rfl, rfl⟩ := hrel
      by_cases hlt : j < l.length
      · obtain ⟨blk, off, rfl, ca, cb, cc, hn, hs⟩ := HV.out.act hlt
        have hcc := cc.cell m
        have hs := size_le_maxLen hs
        by_cases h3 : 300 < l[j].s.size
        · go_wp2_with fail
          refine (awake_any m).mono ?_
          rintro e w2 ⟨rfl, m3⟩
          go_wp2_with fail
          go_ret
          exact ⟨rfl, m3⟩
        · go_wp2_with fail
          go_roundw
          case rel => exact ⟨j + 1, by omega, by go_num, trivial⟩
          case measure => simp [intOf]; omega
      · have m2 := m.alloc (.cells #[] 43)
        obtain ⟨news, hch, hsrc⟩ := HV.out.src m2
        have HC := Lib.hid hch; clear hch
        have HS := Lib.hid hsrc; clear hsrc
        go_wp2_with (at_builtin; refine wpList_append_mem (w0 := w0) (H := H) (L := L) rfl _ _ 41 rfl 43 3 32 (.agg #[.int .u8 0, .int .i64 0, .string ByteArray.empty]) Try.underlying41 (by kernel_rfl) rfl (by decide) _ 0 [] (MemAcc.row m2 (Nat.le_refl _) (by decide) rfl rfl) rfl _ l.length news HS.out rfl HC.out.length (act_oneCell HC.out) (by omega) (by unfold maxLen; omega) ?_)
        intro v' w' hacc
        obtain ⟨H2, m3, hl2, hsl2⟩ := hacc.done HC.out rfl rfl
        obtain ⟨b', c', rfl, _, hc3⟩ := hacc.shape
        have hc3 := size_le_maxLen hc3
        clear hacc m2
        have HSL := Lib.hid hsl2; clear hsl2
        go_wp2_with fail
        refine (Play_any _ l m3 HSL.out).mono ?_
        rintro e w2 hR
        generalize hr : playM l = r at *
        obtain ⟨⟨f, q, n⟩, o, x, k⟩ := r
        obtain ⟨b1, c1, b2, c2, b3, c3, H3, rfl, m4, hl3, s1, s2, s3⟩ := PlayR.lit rfl rfl rfl rfl hR
        have S1 := Lib.hid s1; clear s1
        have S2 := Lib.hid s2; clear s2
        have S3 := Lib.hid s3; clear s3 hR
        go_wp2_with fail
        have m5 := m4.alloc (.cells #[.int .i64 f, .slice b1 q.length c1, .int .i64 n] 24)
        refine (RPlay_any _ l m5 ((HV.out.mono hl2).mono hl3)).mono ?_
        rintro e w3 hR
        rw [hr] at hR
        obtain ⟨b4, c4, b5, c5, b6, c6, H4, rfl, m6, hl4, s4, s5, s6⟩ := PlayR.lit rfl rfl rfl rfl hR
        have S4 := Lib.hid s4; clear s4
        have S5 := Lib.hid s5; clear s5
        have S6 := Lib.hid s6; clear s6 hR m5 hr
        have m7 := m6.alloc (.cells #[.int .i64 f, .slice b4 q.length c4, .int .i64 n] 24)
        go_wp2_with fail
        generalize w3.alloc (.cells #[.int .i64 f, .slice b4 q.length c4, .int .i64 n] 24) = W8 at *
        generalize w3.heap.size = gb at *
        go_loopw [13] (fun v13 wr2 => ∃ i : Nat, i ≤ l.length ∧ v13 = .int .i64 i ∧ Mem w0 H4 ((gb, .cells #[.int .i64 f, .slice b4 q.length c4, .int .i64 n] 24) :: (w2.heap.size, .cells #[.int .i64 f, .slice b1 q.length c1, .int .i64 n] 24) :: L) wr2) (fun i _ => l.length - (intOf i).toNat)
        case atStart => exact ⟨0, Nat.zero_le _, rfl, m7⟩
        case round =>
          obtain ⟨i, hi, rfl, m8⟩ := hrel
          clear m7
          by_cases hli : i < l.length
          · obtain ⟨blk, off, rfl, ca, cb, cc, hn, hs⟩ := (((HV.out.mono hl2).mono hl3).mono hl4).act hli
            obtain ⟨blk', off', rfl, ca', cb', cc', _, _⟩ := ((HSL.out.mono hl3).mono hl4).act hli
            have hca := ca.cell m8
            have hcb := cb.cell m8
            have hcc := cc.cell m8
            have hca' := ca'.cell m8
            have hcb' := cb'.cell m8
            have hcc' := cc'.cell m8
            clear ca cb cc ca' cb' cc'
            go_wp2_with fail
            go_quiet (fail)
            go_wp2_with fail
            go_roundw
            case rel => exact ⟨i + 1, by omega, by go_num, m8.drewN _⟩
            case measure => simp [intOf]; omega
          · have es := m8.eqs; simp only [EqsL, and_true] at es
            go_wp2_with fail
            refine (Same_any _ _ ⟨f, q, n⟩ ⟨f, q, n⟩ m8 ⟨_, rfl, S1.out.mono hl4⟩ ⟨_, rfl, S4.out⟩).mono ?_
            rintro e w5 ⟨rfl, m9⟩
            rw [GateM.eqv_refl]
            go_wp2_with fail
            refine (Texts_any _ _ o o m9 (S2.out.mono hl4) S5.out).mono ?_
            rintro e w6 ⟨rfl, n6, hw⟩
            have m10 : Mem w0 H4 _ w6 := hw ▸ m9.drewN n6
            clear hw
            have et : decide (o = o) = true := by simp
            rw [et]; clear et
            go_wp2_with fail
            refine (Errors_any _ _ x x m10 (S3.out.mono hl4) S6.out).mono ?_
            rintro e w7 ⟨rfl, n7, hw⟩
            have m11 : Mem w0 H4 _ w7 := hw ▸ m10.drewN n7
            clear hw
            have et : decide (x = x) = true := by simp
            rw [et]; clear et
            go_wp2_with fail
            refine (awake_any m11).mono ?_
            rintro e w8 ⟨rfl, m12⟩
            go_wp2_with fail
            go_ret
            exact ⟨rfl, (m12.weaken ((hl2.trans hl3).trans hl4)).drop.drop⟩
end Go.Proofs.Ytpkcdkbbhiafnaa
