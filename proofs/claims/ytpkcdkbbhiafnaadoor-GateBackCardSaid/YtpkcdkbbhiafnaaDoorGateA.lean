/- The walks: the small functions of chapter 24 that only read: texts, lists of texts, errors. -/
import Derived.Test.YtpkcdkbbhiafnaaDoorRows
import Derived.Test.YtpkcdkbbhiafnaaDoorGateM
import Derived.Deep.QuietTactic
import Derived.BigQuiet
namespace Go.Proofs.YtpkcdkbbhiafnaaDoor
set_option linter.unusedVariables false
set_option linter.unusedSimpArgs false
open Go.RowKit

theorem ret_bool {a b : Bool} (h : a = b) : Ending.returned (.bool a) = .returned (.bool b) := by rw [h]
theorem ret_int {k : IntKind} {a b : Int} (h : a = b) : Ending.returned (.int k a) = .returned (.int k b) := by rw [h]

set_option maxHeartbeats 400000 in
theorem isNoText_any (s : ByteArray) (hs : s.size ≤ maxLen) (w : World) :
    Calls Tryd.prog 40 #[.string s] w fun e w' => e = .returned (.bool (!isText s)) ∧ w = w' := by
  have hs := size_le_maxLen hs
  by_cases h200 : s.size ≤ 200
  · have hd : decide ((200 : Int) < s.size) = false := by simp; omega
    go_enter Tryd.func40, Tryd.ntmps40
    go_wp2
    go_loop [3, 9] (fun _ i => ∃ k : Nat, k ≤ s.size ∧ i = .int .i64 k ∧ (s.data.toList.take k).all okByte = true) (fun _ i => s.size - (intOf i).toNat)
    case atStart => exact ⟨0, Nat.zero_le _, rfl, rfl⟩
    case round =>
      obtain ⟨k, hk, rfl, hall⟩ := hrel
      have HA := Lib.hid hall; clear hall
      by_cases hlt : k < s.size
      · cases ho : okByte s[k]
        · have hb := (okByte_not _).1 ho; have HO := Lib.hid ho; clear ho
          have hx : ((s[k].toNat : Int) != 10) = true := by rw [bne_iff_ne]; omega
          go_wp2
          all_goals (go_ret; exact ⟨ret_bool (by rw [isText_bad s k hlt HO.out]; rfl), rfl⟩)
        · have hb := (okByte_iff _).1 ho; have HO := Lib.hid ho; clear ho
          rcases hb with hb | hb
          all_goals (first | (have hx : ((s[k].toNat : Int) != 10) = true := by rw [bne_iff_ne]; omega) | skip)
          all_goals go_wp2
          all_goals
            go_round
            case rel => exact ⟨k + 1, by omega, by go_num, okByte_snoc s k hlt HA.out HO.out⟩
            case measure => simp [intOf]; omega
      · go_wp2
        go_ret
        exact ⟨ret_bool (by rw [isText_good s k hlt h200 HA.out]; rfl), rfl⟩
  · have hd : decide ((200 : Int) < s.size) = true := by simp; omega
    go_enter Tryd.func40, Tryd.ntmps40
    go_wp2
    go_ret
    exact ⟨ret_bool (by rw [isText_long s (by omega)]; rfl), rfl⟩

theorem eq_take_succ {α : Type} {xs ys : List α} {k : Nat} (hx : k < xs.length) (hy : k < ys.length) (h : xs.take k = ys.take k) (he : xs[k] = ys[k]) : xs.take (k + 1) = ys.take (k + 1) := by
  rw [List.take_succ_eq_append_getElem hx, List.take_succ_eq_append_getElem hy, h, he]
theorem ne_of_get {α : Type} {xs ys : List α} {k : Nat} (hx : k < xs.length) (hy : k < ys.length) (he : xs[k] ≠ ys[k]) : xs ≠ ys := by
  rintro rfl; exact he rfl
theorem bytes_eq_iff (a b : ByteArray) : a.toList = b.toList ↔ a = b := by
  constructor
  · intro h
    have : a.data.toList = b.data.toList := by simpa [ByteArray.toList_eq] using h
    cases a; cases b; simp_all
  · rintro rfl; rfl

set_option maxHeartbeats 400000 in
theorem Texts_any (v v' : Value) (xs ys : List ByteArray) {w0 w : World} {H : Hp} {L : List (Nat × Obj)} (m : Mem w0 H L w) (hv : SlR encStr H v xs) (hv' : SlR encStr H v' ys) :
    Calls Tryd.prog 20 #[v, v'] w fun e w' => e = .returned (.bool (decide (xs = ys))) ∧ ∃ n, w' = w.drewN n := by
  have HV := Lib.hid hv
  have HV' := Lib.hid hv'
  obtain ⟨b, c, rfl, hc1, hc2, _, _⟩ := hv
  obtain ⟨b', c', rfl, hc1', hc2', _, _⟩ := hv'
  have hc2 := size_le_maxLen hc2
  have hc2' := size_le_maxLen hc2'
  by_cases hl : xs.length = ys.length
  · have hl1 : ((xs.length : Int) != ys.length) = false := by simp [hl]
    have HL := Lib.hid hl; clear hl
    go_enter Tryd.func20, Tryd.ntmps20
    go_wp2
    go_loopw [5] (fun i wr => ∃ k : Nat, k ≤ xs.length ∧ i = .int .i64 k ∧ (xs.take k = ys.take k) ∧ ∃ n, wr = w.drewN n) (fun i _ => xs.length - (intOf i).toNat)
    case atStart => exact ⟨0, Nat.zero_le _, rfl, rfl, 0, rfl⟩
    case round =>
      obtain ⟨k, hk, rfl, hall, n, rfl⟩ := hrel
      have HA := Lib.hid hall; clear hall
      by_cases hlt : k < xs.length
      · have hlt' : k < ys.length := by have := HL.out; omega
        obtain ⟨blk, off, rfl, hcell, _⟩ := HV.out.cellV hlt
        obtain ⟨blk', off', rfl, hcell', _⟩ := HV'.out.cellV hlt'
        have hcell := hcell.cell m
        have hcell' := hcell'.cell m
        by_cases he : xs[k] = ys[k]
        · have he2 : (!xs[k].toList == ys[k].toList) = false := by simp [he]
          have HE := Lib.hid he; clear he
          go_wp2
          go_quiet (fail)
          go_wp2
          go_roundw
          case rel => exact ⟨k + 1, by omega, by go_num, eq_take_succ hlt hlt' HA.out HE.out, _, rfl⟩
          case measure => simp [intOf]; omega
        · have he2 : (!xs[k].toList == ys[k].toList) = true := by simpa [bytes_eq_iff] using he
          have HE := Lib.hid he; clear he
          go_wp2
          go_quiet (fail)
          go_wp2
          go_ret
          exact ⟨ret_bool (decide_eq_false (ne_of_get hlt hlt' HE.out)).symm, _, World.drewN_drewN _ _ _⟩
      · go_wp2
        go_ret
        exact ⟨ret_bool (by have := HA.out; have := HL.out; rw [List.take_of_length_le (by omega), List.take_of_length_le (by omega)] at *; simp; assumption), _, rfl⟩
  · have hl1 : ((xs.length : Int) != ys.length) = true := by simp; omega
    have HL := Lib.hid hl; clear hl
    go_enter Tryd.func20, Tryd.ntmps20
    go_wp2
    go_ret
    exact ⟨ret_bool (decide_eq_false (fun h => HL.out (by rw [h]))).symm, 0, rfl⟩
end Go.Proofs.YtpkcdkbbhiafnaaDoor
