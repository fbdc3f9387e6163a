/- The walks: Equal of bytes, Four, Number. -/
import Derived.Test.YtpkcdkbbhiafnaaDoorGateX
namespace Go.Proofs.YtpkcdkbbhiafnaaDoor
set_option linter.unusedVariables false
set_option linter.unusedSimpArgs false
open Go.RowKit

set_option maxHeartbeats 1000000 in
theorem Equal_any (v v' : Value) (xs ys : List UInt8) {w0 w : World} {H : Hp} {L : List (Nat × Obj)} (m : Mem w0 H L w) (hv : SlR encB H v xs) (hv' : SlR encB H v' ys) :
    Calls Tryd.prog 25 #[v, v'] w fun e w' => e = .returned (.bool (decide (xs = ys))) ∧ ∃ n, w' = w.drewN n := by
  have HV := Lib.hid hv
  have HV' := Lib.hid hv'
  obtain ⟨b, c, rfl, hc1, hc2, _, _⟩ := hv
  obtain ⟨b', c', rfl, hc1', hc2', _, _⟩ := hv'
  have hc2 := size_le_maxLen hc2
  have hc2' := size_le_maxLen hc2'
  by_cases hl : xs.length = ys.length
  · have hl1 : ((xs.length : Int) != ys.length) = false := by simp [hl]
    have HL := Lib.hid hl; clear hl
    go_enter Tryd.func25, Tryd.ntmps25
    go_wp2
    go_loopw [5, 13] (fun _ i wr => ∃ k : Nat, k ≤ xs.length ∧ i = .int .i64 k ∧ (xs.take k = ys.take k) ∧ ∃ n, wr = w.drewN n) (fun _ i _ => xs.length - (intOf i).toNat)
    case atStart => exact ⟨0, Nat.zero_le _, rfl, rfl, 0, rfl⟩
    case round =>
      obtain ⟨k, hk, rfl, hall, n, rfl⟩ := hrel
      have HA := Lib.hid hall; clear hall
      by_cases hlt : k < xs.length
      · have hlt' : k < ys.length := by have := HL.out; omega
        obtain ⟨blk, off, rfl, hcell, _⟩ := HV.out.cellV hlt
        obtain ⟨blk', off', rfl, hcell', _⟩ := HV'.out.cellV hlt'
        have hcell := hcell.cell m
        have hcell' := hcell'.cell m
        by_cases he : xs[k] = ys[k]
        · have he2 : ((xs[k].toNat : Int) != ys[k].toNat) = false := by simp [he]
          have HE := Lib.hid he; clear he
          go_wp2
          go_quiet (fail)
          go_wp2
          go_roundw
          case rel => exact ⟨k + 1, by omega, by go_num, eq_take_succ hlt hlt' HA.out HE.out, _, rfl⟩
          case measure => simp [intOf]; omega
        · have he2 : ((xs[k].toNat : Int) != ys[k].toNat) = true := by
            simp only [bne_iff_ne, ne_eq]
            exact fun h => he (UInt8.toNat_inj.1 (by omega))
          have HE := Lib.hid he; clear he
          go_wp2
          go_quiet (fail)
          go_wp2
          go_ret
          exact ⟨ret_bool (decide_eq_false (ne_of_get hlt hlt' HE.out)).symm, _, World.drewN_drewN _ _ _⟩
      · go_wp2
        go_ret
        exact ⟨ret_bool (by have := HA.out; have := HL.out; rw [List.take_of_length_le (by omega), List.take_of_length_le (by omega)] at *; simp; assumption), _, rfl⟩
  · have hl1 : ((xs.length : Int) != ys.length) = true := by simp; omega
    have HL := Lib.hid hl; clear hl
    go_enter Tryd.func25, Tryd.ntmps25
    go_wp2
    go_ret
    exact ⟨ret_bool (decide_eq_false (fun h => HL.out (by rw [h]))).symm, 0, rfl⟩

/-- The number in the first four of some bytes. -/
def numAt (l : List UInt8) (k : Nat) : Int := (l.getD k 0).toNat * 16777216 + (l.getD (k + 1) 0).toNat * 65536 + (l.getD (k + 2) 0).toNat * 256 + (l.getD (k + 3) 0).toNat
end Go.Proofs.YtpkcdkbbhiafnaaDoor
