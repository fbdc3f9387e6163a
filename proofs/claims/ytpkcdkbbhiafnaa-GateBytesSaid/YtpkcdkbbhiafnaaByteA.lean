/- The walks: Equal of bytes, Four, Number. -/
import Derived.Test.YtpkcdkbbhiafnaaGateX
namespace Go.Proofs.Ytpkcdkbbhiafnaa
set_option linter.unusedVariables false
set_option linter.unusedSimpArgs false
open Go.RowKit

set_option maxHeartbeats 1000000 in
theorem Equal_any (v v' : Value) (xs ys : List UInt8) {w0 w : World} {H : Hp} {L : List (Nat × Obj)} (m : Mem w0 H L w) (hv : SlR encB H v xs) (hv' : SlR encB H v' ys) :
    Calls Try.prog 49 #[v, v'] w fun e w' => e = .returned (.bool (decide (xs = ys))) ∧ ∃ n, w' = w.drewN n := by
  have HV := Lib.hid hv
  have HV' := Lib.hid hv'
  obtain ⟨b, c, rfl, hc1, hc2, _, _⟩ := hv
  obtain ⟨b', c', rfl, hc1', hc2', _, _⟩ := hv'
  have hc2 := size_le_maxLen hc2
  have hc2' := size_le_maxLen hc2'
  by_cases hl : xs.length = ys.length
  · have hl1 : ((xs.length : Int) != ys.length) = false := by simp [hl]
    have HL := Lib.hid hl; clear hl
    go_enter Try.func49, Try.ntmps49
    go_wp2
    go_loopw [5, 13] (fun _ i wr => ∃ k : Nat, k ≤ xs.length ∧ i = .int .i64 k ∧ (xs.take k = ys.take k) ∧ ∃ n, wr = w.drewN n) (fun _ i _ => xs.length - (intOf i).toNat)
    case atStart => exact ⟨0, Nat.zero_le _, rfl, rfl, 0, rfl⟩
    case round =>
      obtain ⟨k, hk, rfl, hall, n, rfl⟩ := hrel
      have HA := Lib.hid hall; clear hall
      by_cases hlt : k < xs.length
      · have hlt' : k < ys.length := by have := HL.out; omega
        obtain ⟨blk, off, rfl, hcell, _⟩ := HV.out.cellV hlt
        obtain ⟨blk', off', rfl, hcell', _⟩ := HV'.out.cellV hlt'
        have hcell := hcell.cell m
        have hcell' := hcell'.cell m
        by_cases he : xs[k] = ys[k]
        · have he2 : ((xs[k].toNat : Int) != ys[k].toNat) = false := by simp [he]
          have HE := Lib.hid he; clear he
          go_wp2
          go_quiet (fail)
          go_wp2
          go_roundw
          case rel => exact ⟨k + 1, by omega, by go_num, eq_take_succ hlt hlt' HA.out HE.out, _, rfl⟩
          case measure => simp [intOf]; omega
        · have he2 : ((xs[k].toNat : Int) != ys[k].toNat) = true := by
            simp only [bne_iff_ne, ne_eq]
            exact fun h => he (UInt8.toNat_inj.1 (by omega))
          have HE := Lib.hid he; clear he
          go_wp2
          go_quiet (fail)
          go_wp2
          go_ret
          exact ⟨ret_bool (decide_eq_false (ne_of_get hlt hlt' HE.out)).symm, _, World.drewN_drewN _ _ _⟩
      · go_wp2
        go_ret
        exact ⟨ret_bool (by have := HA.out; have := HL.out; rw [List.take_of_length_le (by omega), List.take_of_length_le (by omega)] at *; simp; assumption), _, rfl⟩
  · have hl1 : ((xs.length : Int) != ys.length) = true := by simp; omega
    have HL := Lib.hid hl; clear hl
    go_enter Try.func49, Try.ntmps49
    go_wp2
    go_ret
    exact ⟨ret_bool (decide_eq_false (fun h => HL.out (by rw [h]))).symm, 0, rfl⟩

set_option maxRecDepth 10000 in
set_option maxHeartbeats 4000000 in
theorem Four_any (n : Int) (h0 : 0 ≤ n) (h1 : n ≤ 2000000000) {w0 w : World} {H : Hp} {L : List (Nat × Obj)} (m : Mem w0 H L w) :
    Calls Try.prog 50 #[.int .i64 n] w fun e w' => ∃ b cs, e = .returned (.slice (some ⟨b, 0, none⟩) 4 4) ∧ Mem w0 H ((b, .cells cs.toArray 5) :: L) w' ∧ Chunks encB H cs (numberM n) := by
  go_enter Try.func50, Try.ntmps50
  go_wp2_with fail
  go_ret
  refine ⟨_, [.int .u8 (byteM n 3).toNat, .int .u8 (byteM n 2).toNat, .int .u8 (byteM n 1).toNat, .int .u8 (byteM n 0).toNat], rfl, ?_, Chunks.ofV (f := fun b : UInt8 => Value.int .u8 b.toNat) (numberM n) (fun _ _ => trivial)⟩
  have := m.alloc (.cells #[.int .u8 (byteM n 3).toNat, .int .u8 (byteM n 2).toNat, .int .u8 (byteM n 1).toNat, .int .u8 (byteM n 0).toNat] 5)
  simpa [byteM_val n h0, show n / 16777216 % 256 = n / 16777216 by omega] using this

/-- The number in the first four of some bytes. -/
def numAt (l : List UInt8) (k : Nat) : Int := (l.getD k 0).toNat * 16777216 + (l.getD (k + 1) 0).toNat * 65536 + (l.getD (k + 2) 0).toNat * 256 + (l.getD (k + 3) 0).toNat
set_option maxRecDepth 10000 in
set_option maxHeartbeats 4000000 in
theorem Number_any (blk off : Nat) (n c : Nat) (x0 x1 x2 x3 : UInt8) (hn : 4 ≤ n) {w : World} (hc : n ≤ c) (hm : c ≤ 9223372036854775807)
    (c0 : w.cell? ⟨blk, off, none⟩ = some (.int .u8 x0.toNat)) (c1 : w.cell? ⟨blk, off + 1, none⟩ = some (.int .u8 x1.toNat)) (c2 : w.cell? ⟨blk, off + 2, none⟩ = some (.int .u8 x2.toNat)) (c3 : w.cell? ⟨blk, off + 3, none⟩ = some (.int .u8 x3.toNat)) :
    Calls Try.prog 51 #[.slice (some ⟨blk, off, none⟩) n c] w fun e w' => e = .returned (.int .i64 ((x0.toNat : Int) * 16777216 + x1.toNat * 65536 + x2.toNat * 256 + x3.toNat)) ∧ ∃ k, w' = w.drewN k := by
  have h0 := x0.toNat_lt
  have h1 := x1.toNat_lt
  have h2 := x2.toNat_lt
  have h3 := x3.toNat_lt
  generalize x0.toNat = y0 at *
  generalize x1.toNat = y1 at *
  generalize x2.toNat = y2 at *
  generalize x3.toNat = y3 at *
  have i1 : (0 : Int) < n := by omega
  have i2 : (1 : Int) < n := by omega
  have i3 : (2 : Int) < n := by omega
  have i4 : (3 : Int) < n := by omega
  go_enter Try.func51, Try.ntmps51
  go_wp2_with fail
  go_quiet (fail)
  go_wp2_with fail
  go_ret
  exact ⟨rfl, _, rfl⟩
end Go.Proofs.Ytpkcdkbbhiafnaa
