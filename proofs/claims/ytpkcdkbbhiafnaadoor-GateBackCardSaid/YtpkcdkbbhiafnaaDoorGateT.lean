/- The walks: number, Grow, Concat, bytes, Bytes. -/
import Derived.Test.YtpkcdkbbhiafnaaDoorGateS
import Derived.Lib.AppendZeros
namespace Go.Proofs.YtpkcdkbbhiafnaaDoor
set_option linter.unusedVariables false
set_option linter.unusedSimpArgs false
open Go.RowKit

def encB : Enc UInt8 := encV (fun b => Value.int .u8 b.toNat) (fun _ => True)
/-- Byte k of a number. -/
def byteM (n : Int) (k : Nat) : UInt8 := UInt8.ofNat (n.toNat / 256 ^ k)
def numberM (n : Int) : List UInt8 := [byteM n 3, byteM n 2, byteM n 1, byteM n 0]
theorem byteM_val (n : Int) (h0 : 0 ≤ n) (k : Nat) : ((byteM n k).toNat : Int) = n / 256 ^ k % 256 := by
  unfold byteM
  obtain ⟨m, rfl⟩ := Int.eq_ofNat_of_zero_le h0
  simp
def numC (n : Int) (j : Nat) : Array Value := #[.int .u8 (if 4 ≤ j then (byteM n 3).toNat else 0), .int .u8 (if 3 ≤ j then (byteM n 2).toNat else 0), .int .u8 (if 2 ≤ j then (byteM n 1).toNat else 0), .int .u8 (if 1 ≤ j then (byteM n 0).toNat else 0)]

set_option maxRecDepth 10000 in
set_option maxHeartbeats 4000000 in
theorem number_any (n : Int) (h0 : 0 ≤ n) (h1 : n ≤ 2000000000) {w0 w : World} {H : Hp} {L : List (Nat × Obj)} (m : Mem w0 H L w) :
    Calls Tryd.prog 42 #[.int .i64 n] w fun e w' => ∃ b c H', e = .returned (.slice b 4 c) ∧ Mem w0 H' L w' ∧ Hle H H' ∧ SlR encB H' (.slice b 4 c) (numberM n) := by
  go_enter Tryd.func42, Tryd.ntmps42
  go_wp2_with fail
  go_loopw [4, 5] (fun _ v5 wr => ∃ j : Nat, j ≤ 4 ∧ v5 = .int .i64 j ∧ Mem w0 H ((w.heap.size, .cells (numC n j) 95) :: L) wr) (fun _ i _ => 4 - (intOf i).toNat)
  case atStart => exact ⟨0, by omega, rfl, m.alloc _⟩
  case round =>
    obtain ⟨j, hj, rfl, m1⟩ := hrel
    have hcs : j = 0 ∨ j = 1 ∨ j = 2 ∨ j = 3 ∨ j = 4 := by omega
    rcases hcs with rfl | rfl | rfl | rfl | rfl
    all_goals simp only [numC] at m1
    all_goals have es := m1.eqs; simp only [EqsL, and_true] at es
    all_goals go_wp2_with fail
    · refine ⟨⟨1, by omega, rfl, ?_⟩, by decide⟩
      have := m1.set (i := 3) (v := .int .u8 (n % 256)) .head
      simpa [numC, byteM_val n h0, show n / 16777216 % 256 = n / 16777216 by omega] using this
    · refine ⟨⟨2, by omega, rfl, ?_⟩, by decide⟩
      have := m1.set (i := 2) (v := .int .u8 (n / 256 % 256)) .head
      simpa [numC, byteM_val n h0, show n / 16777216 % 256 = n / 16777216 by omega] using this
    · refine ⟨⟨3, by omega, rfl, ?_⟩, by decide⟩
      have := m1.set (i := 1) (v := .int .u8 (n / 65536 % 256)) .head
      simpa [numC, byteM_val n h0, show n / 16777216 % 256 = n / 16777216 by omega] using this
    · refine ⟨⟨4, by omega, rfl, ?_⟩, by decide⟩
      have := m1.set (i := 0) (v := .int .u8 (n / 16777216 % 256)) .head
      simpa [numC, byteM_val n h0, show n / 16777216 % 256 = n / 16777216 by omega] using this
    · go_ret
      obtain ⟨H', m2, hle, hs⟩ := Mem.lit (E := encB) (ys := numberM n) (cs := [.int .u8 (byteM n 3).toNat, .int .u8 (byteM n 2).toNat, .int .u8 (byteM n 1).toNat, .int .u8 (byteM n 0).toNat]) m1 (Chunks.ofV (f := fun b : UInt8 => Value.int .u8 b.toNat) (numberM n) (fun _ _ => trivial)) (by simp [numberM, maxLen])
      exact ⟨_, _, H', rfl, m2, hle, hs⟩

/-! ### Grow at nil; append of a string -/
theorem zeroCells_size (n : Nat) : (Builtin.zeroCells #[Value.int .u8 0] n).size = n := by rw [size_zeroCells]; simp
set_option maxRecDepth 10000 in
set_option maxHeartbeats 4000000 in
theorem Grow_any (n : Nat) (h0 : 0 < n) (h1 : n ≤ 100000) {w0 w : World} {H : Hp} {L : List (Nat × Obj)} (m : Mem w0 H L w) :
    Calls Tryd.prog 48 #[.slice none 0 0, .int .i64 n] w fun e w' => ∃ v, e = .returned v ∧ MemAcc w0 H L 5 1 v 0 [] w' := by
  go_enter Tryd.func48, Tryd.ntmps48
  have h2 : (0 : Int) < n := by omega
  obtain ⟨i, hi1, hi2, hi3, hi4⟩ := info_parts (P := Tryd.prog) (e := 5) (z := .int .u8 0) (size := 1) (bytes := 1) (by kernel_rfl)
  have hr := Lib.hid (Lib.run_append_nil_zeros (P := Tryd.prog) w 22 3 22 5 i (.int .u8 0) .i64 .i64 Tryd.underlying22 (by kernel_rfl) hi1 hi2 n h0 (by omega) (by omega) (by rw [hi4]; omega))
  go_wp2_with (at_builtin; refine Lib.wpList_append_run _ rfl _ _ _ _ rfl _ _ rfl rfl _ _ hr.out ?_)
  go_ret
  have hge := grownCap_ge w n 0 5
  exact ⟨_, rfl, MemAcc.row (m.drew.alloc _) (Nat.zero_le _) (grownCap_le_maxLen w n 0 5 (by unfold maxLen; omega)) (by simp [size_zeroCells]; omega) (by simp)⟩

/-- An element of a slice of slices. -/
theorem SlR.cellS {α : Type} {E : Enc α} {H : Hp} {b : Option Addr} {n c : Nat} {xs : List (List α)} (h : SlR (encSl E) H (.slice b n c) xs) {i : Nat} (hi : i < xs.length) :
    ∃ blk off b' c', b = some ⟨blk, off, none⟩ ∧ CellH H blk (off + i) (.slice b' xs[i].length c') ∧ SlR E H (.slice b' xs[i].length c') xs[i] := by
  obtain ⟨b0, c0, hv, _, _, _, hc⟩ := h
  cases hv
  obtain ⟨blk, off, cs, e1, ⟨v, rfl, e2⟩, e3⟩ := hc i hi
  have h3 := e2
  obtain ⟨b', c', rfl, _⟩ := e2
  refine ⟨blk, off, b', c', e1, ?_, h3⟩
  have := e3 0 _ rfl
  simpa [encSl] using this

/-- All of them on end. -/
def flatB (ls : List (List UInt8)) : List UInt8 := ls.flatten
theorem sum_take_le (ls : List (List UInt8)) (j : Nat) : (flatB (ls.take j)).length ≤ (flatB ls).length := by
  have := congrArg (fun l => l.flatten.length) (List.take_append_drop j ls)
  simp only [List.flatten_append, List.length_append] at this
  unfold flatB
  omega
theorem flat_take_succ (ls : List (List UInt8)) (j : Nat) (h : j < ls.length) : flatB (ls.take (j + 1)) = flatB (ls.take j) ++ ls[j] := by
  unfold flatB
  rw [List.take_succ_eq_append_getElem h, List.flatten_append, List.flatten_cons, List.flatten_nil, List.append_nil]

set_option maxRecDepth 10000 in
set_option maxHeartbeats 4000000 in
theorem Concat_any (v : Value) (ls : List (List UInt8)) (h0 : 0 < (flatB ls).length) (h1 : (flatB ls).length ≤ 100000) {w0 w : World} {H : Hp} {L : List (Nat × Obj)} (m : Mem w0 H L w) (hv : SlR (encSl encB) H v ls) :
    Calls Tryd.prog 41 #[v] w fun e w' => ∃ v, e = .returned v ∧ ∃ cs, MemAcc w0 H L 5 1 v (flatB ls).length cs w' ∧ Chunks encB H cs (flatB ls) := by
  have HV := Lib.hid hv
  obtain ⟨b, c, rfl, hc1, hc2, _, _⟩ := hv
  have hc2 := size_le_maxLen hc2
  go_enter Tryd.func41, Tryd.ntmps41
  go_wp2_with fail
  go_loopw [3, 5, 11] (fun v3 _ v11 wr => ∃ j : Nat, j ≤ ls.length ∧ v11 = .int .i64 j ∧ v3 = .int .i64 (flatB (ls.take j)).length ∧ wr = w) (fun _ _ i _ => ls.length - (intOf i).toNat)
  case atStart => exact ⟨0, Nat.zero_le _, rfl, rfl, rfl⟩
  case round =>
    obtain ⟨j, hj, rfl, rfl, rfl⟩ := hrel
    by_cases hlt : j < ls.length
    · obtain ⟨blk, off, b', c', rfl, hcell, hs⟩ := HV.out.cellS hlt
      have hcell := hcell.cell m
      have hf := flat_take_succ ls j hlt
      have hle := sum_take_le ls (j + 1)
      have hlen : (flatB (ls.take (j + 1))).length = (flatB (ls.take j)).length + ls[j].length := by rw [hf, List.length_append]
      have HL := Lib.hid hlen
      have h63 : (flatB (ls.take j)).length + ls[j].length ≤ 100000 := by omega
      clear hf hle hlen
      generalize hA : (flatB (ls.take j)).length = A at *
      generalize hB : (flatB (ls.take (j + 1))).length = B at *
      generalize hC : ls[j].length = C at *
      clear hA hC
      go_wp2_with fail
      go_roundw
      case rel => exact ⟨j + 1, by omega, by go_num, by rw [hB, HL.out]; go_num, by first | trivial | rfl⟩
      case measure => simp [intOf]; omega
    · have hjj : ls.take j = ls := List.take_of_length_le (by omega)
      rw [hjj]
      clear hjj
      go_wp2_with fail
      refine (Grow_any _ h0 h1 m).mono ?_
      rintro e w2 ⟨v2, rfl, hacc0⟩
      obtain ⟨b2, c2, rfl, _, _⟩ := hacc0.shape
      go_wp2_with fail
      go_loopw [6, 8, 27] (fun v6 _ v27 wr => ∃ (j : Nat) (b6 : Option Addr) (c6 : Nat) (cs : List Value), j ≤ ls.length ∧ v27 = .int .i64 j ∧ v6 = .slice b6 (flatB (ls.take j)).length c6 ∧ MemAcc w0 H L 5 1 v6 (flatB (ls.take j)).length cs wr ∧ Chunks encB H cs (flatB (ls.take j))) (fun _ _ i _ => ls.length - (intOf i).toNat)
      case atStart => exact ⟨0, _, _, [], Nat.zero_le _, rfl, rfl, hacc0, .nil⟩
      case round =>
        obtain ⟨k, b6, c6, cs, hk, rfl, rfl, hacc, hch⟩ := hrel
        by_cases hlt : k < ls.length
        · obtain ⟨blk, off, b', c', rfl, hcell, hs⟩ := HV.out.cellS hlt
          have hcell := hcell.cell hacc.mem
          have hf := flat_take_succ ls k hlt
          have hle := sum_take_le ls (k + 1)
          generalize hB : (flatB (ls.take (k + 1))) = B at *
          generalize (flatB (ls.take k)) = A at *
          generalize ls[k] = x at *
          have h63 : A.length + x.length ≤ 100000 := by rw [hf, List.length_append] at hle; omega
          subst hf
          have HB := Lib.hid hB; clear hB hle
          obtain ⟨news, hn1, hn2⟩ := hs.src hacc.mem
          have hn3 := hn1.length
          go_wp2_with (at_builtin; refine wpList_append_mem (w0 := w0) (H := H) (L := L) rfl _ _ 22 rfl 5 1 1 (.int .u8 0) Tryd.underlying22 (by kernel_rfl) rfl (by decide) (.slice b6 A.length c6) A.length cs hacc rfl _ x.length news hn2 rfl hn3 (hn1.oneCell fun cs x hx u hu => by obtain ⟨rfl, _⟩ := hx; simp at hu; subst hu; rfl) (by omega) (by unfold maxLen; omega) ?_)
          intro v' w' hacc2
          have hch2 := hch.append hn1
          rw [← List.length_append] at hacc2
          have HC2 := Lib.hid hch2
          have HA2 := Lib.hid hacc2
          clear hacc2 hch2
          obtain ⟨b9, c9, rfl, _, _⟩ := HA2.out.shape
          go_wp2_with fail
          go_roundw
          case rel => exact ⟨k + 1, b9, c9, cs ++ news, by omega, by go_num, by rw [HB.out], by rw [HB.out]; exact HA2.out, by rw [HB.out]; exact HC2.out⟩
          case measure => simp [intOf]; omega
        · have hjj : ls.take k = ls := List.take_of_length_le (by omega)
          rw [hjj] at hacc hch
          rw [hjj]
          go_wp2_with fail
          go_ret
          exact ⟨_, rfl, cs, hacc, hch⟩
end Go.Proofs.YtpkcdkbbhiafnaaDoor
