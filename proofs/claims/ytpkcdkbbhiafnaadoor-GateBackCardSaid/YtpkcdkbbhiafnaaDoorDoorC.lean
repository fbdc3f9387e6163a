/- The walk: begins. -/
import Derived.Test.YtpkcdkbbhiafnaaDoorDoorB
namespace Go.Proofs.YtpkcdkbbhiafnaaDoor
set_option linter.unusedVariables false
set_option linter.unusedSimpArgs false
open Go.RowKit

/-- Is a list the beginning of another one? -/
def beginsM (a b : List ByteArray) : Bool := decide (a = b.take a.length)

set_option maxHeartbeats 1000000 in
theorem begins_any (v v' : Value) (xs ys : List ByteArray) {w0 w : World} {H : Hp} {L : List (Nat × Obj)} (m : Mem w0 H L w) (hv : SlR encStr H v xs) (hv' : SlR encStr H v' ys) :
    Calls Tryd.prog 9 #[v, v'] w fun e w' => e = .returned (.bool (beginsM xs ys)) ∧ Mem w0 H L w' := by
  have HV := Lib.hid hv
  have HV' := Lib.hid hv'
  obtain ⟨b, c, rfl, hc1, hc2, _, _⟩ := hv
  obtain ⟨b', c', rfl, hc1', hc2', _, _⟩ := hv'
  have hc2 := size_le_maxLen hc2
  have hc2' := size_le_maxLen hc2'
  by_cases hl : ys.length < xs.length
  · have HL := Lib.hid hl
    have hl1 : (ys.length : Int) < xs.length := by omega
    go_enter Tryd.func9, Tryd.ntmps9
    go_wp2_with fail
    go_ret
    exact ⟨ret_bool (decide_eq_false (fun h => by have := congrArg List.length h; simp at this; have := HL.out; omega)).symm, m⟩
  · have hl1 : ¬ ((ys.length : Int) < xs.length) := by omega
    go_enter Tryd.func9, Tryd.ntmps9
    go_wp2_with fail
    go_loopw [5] (fun i wr => ∃ k : Nat, k ≤ xs.length ∧ i = .int .i64 k ∧ (xs.take k = ys.take k) ∧ Mem w0 H L wr) (fun i _ => xs.length - (intOf i).toNat)
    case atStart => exact ⟨0, Nat.zero_le _, rfl, rfl, m⟩
    case round =>
      obtain ⟨k, hk, rfl, hall, m2⟩ := hrel
      have HA := Lib.hid hall; clear hall
      by_cases hlt : k < xs.length
      · have hlt' : k < ys.length := by omega
        obtain ⟨blk, off, rfl, hcell, _⟩ := HV.out.cellV hlt
        obtain ⟨blk', off', rfl, hcell', _⟩ := HV'.out.cellV hlt'
        have hcell := hcell.cell m2
        have hcell' := hcell'.cell m2
        by_cases he : xs[k] = ys[k]
        · have he2 : (!xs[k].toList == ys[k].toList) = false := by simp [he]
          have HE := Lib.hid he; clear he
          go_wp2_with fail
          go_quiet (fail)
          go_wp2_with fail
          go_roundw
          case rel => exact ⟨k + 1, by omega, by go_num, eq_take_succ hlt hlt' HA.out HE.out, m2.drewN _⟩
          case measure => simp [intOf]; omega
        · have he2 : (!xs[k].toList == ys[k].toList) = true := by simpa [bytes_eq_iff] using he
          have HE := Lib.hid he; clear he
          go_wp2_with fail
          go_quiet (fail)
          go_wp2_with fail
          go_ret
          refine ⟨ret_bool (decide_eq_false (fun h => HE.out ?_)).symm, m2.drewN _⟩
          have := congrArg (fun l => l[k]?) h
          simp only [List.getElem?_take, hlt, if_true] at this
          rw [List.getElem?_eq_getElem hlt, List.getElem?_eq_getElem hlt'] at this
          exact Option.some.inj this
      · go_wp2_with fail
        go_ret
        refine ⟨ret_bool (decide_eq_true ?_).symm, m2⟩
        have := HA.out
        rw [List.take_of_length_le (by omega), show k = xs.length by omega] at this
        exact this
end Go.Proofs.YtpkcdkbbhiafnaaDoor
