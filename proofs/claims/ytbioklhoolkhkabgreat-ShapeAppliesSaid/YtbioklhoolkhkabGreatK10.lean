/- The walks of the references that chapter 23 leans on: numbers, names, plain values. The walks: texts and classes looked up in lists that nobody writes. The walks: has a change its form? (the program's side) The walks: has a change its form? The walks of the reference: has a change its form? The walks of the reference: has a change its form? -/
import Derived.Test.YtbioklhoolkhkabGreatK09
namespace Go.Proofs.YtbioklhoolkhkabGreat
set_option linter.unusedVariables false
set_option linter.unusedSimpArgs false
open Go.RowKit

theorem In_any (n lo hi : Int) (w : World) : Calls Tryz.prog 170 #[.int .i64 n, .int .i64 lo, .int .i64 hi] w fun e w' => e = .returned (.bool (decide (lo ≤ n ∧ n ≤ hi))) ∧ w = w' := by
  by_cases h1 : lo ≤ n
  · by_cases h2 : n ≤ hi
    · rw [decide_eq_true ⟨h1, h2⟩]
      go_enter Tryz.func170, Tryz.ntmps170
      go_wp2_with fail
      all_goals (go_ret; exact ⟨by first | rfl | simp [h1, h2], rfl⟩)
    · rw [decide_eq_false (fun h => h2 h.2)]
      go_enter Tryz.func170, Tryz.ntmps170
      go_wp2_with fail
      all_goals (go_ret; exact ⟨by first | rfl | (simp; omega), rfl⟩)
  · rw [decide_eq_false (fun h => h1 h.1)]
    go_enter Tryz.func170, Tryz.ntmps170
    go_wp2_with fail
    all_goals (go_ret; exact ⟨by first | rfl | (simp; omega), rfl⟩)
theorem IsString_any (s : ByteArray) (hs : s.size ≤ maxLen) (w : World) :
    Calls Tryz.prog 171 #[.string s] w fun e w' => e = .returned (.bool (isText s)) ∧ w = w' := by
  have hs := size_le_maxLen hs
  go_enter Tryz.func171, Tryz.ntmps171
  go_wp2_with fail
  go_loop [3] (fun i => ∃ k : Nat, k ≤ s.size ∧ i = .int .i64 k ∧ (s.data.toList.take k).all okByte = true) (fun i => s.size - (intOf i).toNat)
  case atStart => exact ⟨0, Nat.zero_le _, rfl, rfl⟩
  case round =>
    obtain ⟨k, hk, rfl, hall⟩ := hrel
    have HA := Lib.hid hall; clear hall
    by_cases hlt : k < s.size
    · have hltI : (k : Int) < s.size := by omega
      have h256 : s[k].toNat < 256 := s[k].toNat_lt
      cases ho : okByte s[k]
      · have hb := (okByte_not _).1 ho; have HO := Lib.hid ho; clear ho
        have hx : ((s[k].toNat : Int) != 10) = true := by rw [bne_iff_ne]; omega
        have hin : decide ((32 : Int) ≤ (s[k].toNat : Int) ∧ (s[k].toNat : Int) ≤ 126) = false := decide_eq_false (by omega)
        go_wp2_with fail
        refine (In_any _ _ _ _).mono ?_
        rintro e w' ⟨rfl, rfl⟩
        rw [hin]
        go_wp2_with fail
        all_goals (go_ret; exact ⟨ret_bool (by rw [isText_bad s k hlt HO.out]), rfl⟩)
      · have hb := (okByte_iff _).1 ho; have HO := Lib.hid ho; clear ho
        by_cases h10 : s[k].toNat = 10
        · have hx : ((s[k].toNat : Int) != 10) = false := by rw [h10]; rfl
          have hin : decide ((32 : Int) ≤ (s[k].toNat : Int) ∧ (s[k].toNat : Int) ≤ 126) = false := decide_eq_false (by omega)
          go_wp2_with fail
          refine (In_any _ _ _ _).mono ?_
          rintro e w' ⟨rfl, rfl⟩
          first | rw [hin] | (rw [show decide ((32 : Int) ≤ 10 ∧ (10 : Int) ≤ 126) = false by decide])
          go_wp2_with fail
          go_round
          case rel => exact ⟨k + 1, by omega, by go_num, okByte_snoc s k hlt HA.out HO.out⟩
          case measure => simp [intOf]; omega
        · have hin : decide ((32 : Int) ≤ (s[k].toNat : Int) ∧ (s[k].toNat : Int) ≤ 126) = true := decide_eq_true (by omega)
          go_wp2_with fail
          refine (In_any _ _ _ _).mono ?_
          rintro e w' ⟨rfl, rfl⟩
          rw [hin]
          go_wp2_with fail
          go_round
          case rel => exact ⟨k + 1, by omega, by go_num, okByte_snoc s k hlt HA.out HO.out⟩
          case measure => simp [intOf]; omega
    · by_cases h200 : s.size ≤ 200
      · go_wp2_with fail
        go_ret
        exact ⟨ret_bool (by rw [isText_good s k hlt h200 HA.out]; simp; omega), rfl⟩
      · go_wp2_with fail
        go_ret
        exact ⟨ret_bool (by rw [isText_long s (by omega)]; simp; omega), rfl⟩
theorem IsName_any (s : ByteArray) (hs : s.size ≤ maxLen) (w : World) :
    Calls Tryz.prog 172 #[.string s] w fun e w' => e = .returned (.bool (isName s)) ∧ w = w' := by
  have hs := size_le_maxLen hs
  by_cases hl : 1 ≤ s.size ∧ s.size ≤ 40
  · have hin0 : decide ((1 : Int) ≤ (s.size : Int) ∧ (s.size : Int) ≤ 40) = true := decide_eq_true (by omega)
    go_enter Tryz.func172, Tryz.ntmps172
    go_wp2_with fail
    refine (In_any _ _ _ _).mono ?_
    rintro e w' ⟨rfl, rfl⟩
    rw [hin0]
    clear hin0
    go_wp2_with fail
    go_loop [3] (fun i => ∃ k : Nat, k ≤ s.size ∧ i = .int .i64 k ∧ (s.data.toList.take k).all nameByte = true) (fun i => s.size - (intOf i).toNat)
    case atStart => exact ⟨0, Nat.zero_le _, rfl, rfl⟩
    case round =>
      obtain ⟨k, hk, rfl, hall⟩ := hrel
      have HA := Lib.hid hall; clear hall
      by_cases hlt : k < s.size
      · have hltI : (k : Int) < s.size := by omega
        have h256 : s[k].toNat < 256 := s[k].toNat_lt
        cases ho : nameByte s[k]
        · have hb := (nameByte_not _).1 ho; have HO := Lib.hid ho; clear ho
          by_cases hr : 33 ≤ s[k].toNat ∧ s[k].toNat ≤ 126
          · have hin : decide ((33 : Int) ≤ (s[k].toNat : Int) ∧ (s[k].toNat : Int) ≤ 126) = true := decide_eq_true (by omega)
            have hx : ((s[k].toNat : Int) == 34) = true := by have : s[k].toNat = 34 := by omega
                                                              rw [this]; rfl
            go_wp2_with fail
            refine (In_any _ _ _ _).mono ?_
            rintro e w' ⟨rfl, rfl⟩
            rw [hin]
            go_wp2_with fail
            all_goals (go_ret; exact ⟨ret_bool (by rw [isName_bad s k hlt HO.out]), rfl⟩)
          · have hin : decide ((33 : Int) ≤ (s[k].toNat : Int) ∧ (s[k].toNat : Int) ≤ 126) = false := decide_eq_false (by omega)
            go_wp2_with fail
            refine (In_any _ _ _ _).mono ?_
            rintro e w' ⟨rfl, rfl⟩
            rw [hin]
            go_wp2_with fail
            all_goals (go_ret; exact ⟨ret_bool (by rw [isName_bad s k hlt HO.out]), rfl⟩)
        · have hb := (nameByte_iff _).1 ho; have HO := Lib.hid ho; clear ho
          have hx : ((s[k].toNat : Int) == 34) = false := beq_eq_false_iff_ne.2 (by omega)
          have hin : decide ((33 : Int) ≤ (s[k].toNat : Int) ∧ (s[k].toNat : Int) ≤ 126) = true := decide_eq_true (by omega)
          go_wp2_with fail
          refine (In_any _ _ _ _).mono ?_
          rintro e w' ⟨rfl, rfl⟩
          rw [hin]
          go_wp2_with fail
          go_round
          case rel => exact ⟨k + 1, by omega, by go_num, nameByte_snoc s k hlt HA.out HO.out⟩
          case measure => simp [intOf]; omega
      · go_wp2_with fail
        go_ret
        exact ⟨ret_bool (by rw [isName_good s k hlt hl HA.out]), rfl⟩
  · have hin0 : decide ((1 : Int) ≤ (s.size : Int) ∧ (s.size : Int) ≤ 40) = false := decide_eq_false (by omega)
    go_enter Tryz.func172, Tryz.ntmps172
    go_wp2_with fail
    refine (In_any _ _ _ _).mono ?_
    rintro e w' ⟨rfl, rfl⟩
    rw [hin0]
    go_wp2_with fail
    go_ret
    exact ⟨ret_bool (by rw [isName_size s hl]), rfl⟩
theorem IsPlain_any (x : ValM) (hx : x.fit) {w0 : World} {H : Hp} {L : List (Nat × Obj)} {w : World} (m : Mem w0 H L w) :
    Calls Tryz.prog 116 #[x.v] w (Ret w0 H L (.bool x.plain)) := by
  obtain ⟨hk, hn, hs⟩ := hx
  have HS := Lib.hid hs; clear hs
  show Calls Tryz.prog 116 #[.agg #[.int .u8 x.kind, .int .i64 x.n, .string x.s]] w _
  have m1 := m.alloc (.cells #[.int .u8 x.kind, .int .i64 x.n, .string x.s] 41)
  have hI := hn
  unfold I64 at hn
  obtain ⟨k, n, s⟩ := x
  simp only at *
  have hks : k = 0 ∨ k = 1 ∨ k = 2 ∨ k = 3 ∨ k = 4 ∨ k = 5 ∨ 5 < k := by omega
  rcases hks with rfl | rfl | rfl | rfl | rfl | rfl | hk5
  · go_enter Tryz.func116, Tryz.ntmps116
    by_cases h0 : n = 0 ∧ s = ByteArray.empty
    · obtain ⟨rfl, rfl⟩ := h0
      go_wp2_with fail
      go_ret
      exact ⟨ret_bool (by simp [ValM.plain]), m1.drop⟩
    · have hp : ValM.plain ⟨0, n, s⟩ = false := by
        simp only [ValM.plain]
        simp
        intro h1 h2
        exact h0 ⟨h1, h2⟩
      rw [hp]
      go_wp2_with fail
      all_goals first
        | (go_ret; exact ⟨rfl, m1.drop⟩)
        | (exfalso; rename_i h1 h2; exact h0 ⟨h1, (toList_nil s).1 h2⟩)
        | (rename_i h1 h2; subst h1; go_ret; exact ⟨rfl, m1.drop⟩)
  · by_cases hs0 : s = ByteArray.empty
    · subst hs0
      go_enter Tryz.func116, Tryz.ntmps116
      go_wp2_with fail
      refine (In_any _ _ _ _).mono ?_
      rintro e w' ⟨rfl, rfl⟩
      by_cases hr : (-1000000000 : Int) ≤ n ∧ n ≤ 1000000000
      · rw [decide_eq_true hr]
        go_wp2_with fail
        go_ret
        exact ⟨ret_bool (by simp [ValM.plain, hr]), m1.drop⟩
      · rw [decide_eq_false hr]
        go_wp2_with fail
        go_ret
        exact ⟨ret_bool (by simp [ValM.plain, hr]), m1.drop⟩
    · have hl0 : ¬ s.toList = [] := fun e => hs0 ((toList_nil s).1 e)
      go_enter Tryz.func116, Tryz.ntmps116
      go_wp2_with fail
      go_ret
      exact ⟨ret_bool (by simp [ValM.plain, hs0]), m1.drop⟩
  · by_cases hs0 : s = ByteArray.empty
    · subst hs0
      go_enter Tryz.func116, Tryz.ntmps116
      go_wp2_with fail
      refine (In_any _ _ _ _).mono ?_
      rintro e w' ⟨rfl, rfl⟩
      by_cases hr : (0 : Int) ≤ n ∧ n ≤ 1
      · rw [decide_eq_true hr]
        go_wp2_with fail
        go_ret
        exact ⟨ret_bool (by simp [ValM.plain, hr]), m1.drop⟩
      · rw [decide_eq_false hr]
        go_wp2_with fail
        go_ret
        exact ⟨ret_bool (by simp [ValM.plain, hr]), m1.drop⟩
    · have hl0 : ¬ s.toList = [] := fun e => hs0 ((toList_nil s).1 e)
      go_enter Tryz.func116, Tryz.ntmps116
      go_wp2_with fail
      go_ret
      exact ⟨ret_bool (by simp [ValM.plain, hs0]), m1.drop⟩
  · by_cases hn0 : n = 0
    · subst hn0
      go_enter Tryz.func116, Tryz.ntmps116
      go_wp2_with fail
      refine (IsString_any s HS.out _).mono ?_
      rintro e w' ⟨rfl, rfl⟩
      go_wp2_with fail
      go_ret
      exact ⟨ret_bool (by simp [ValM.plain]), m1.drop⟩
    · have hn1 : (n == 0) = false := by simpa using hn0
      go_enter Tryz.func116, Tryz.ntmps116
      go_wp2_with fail
      go_ret
      exact ⟨ret_bool (by simp [ValM.plain, hn0]), m1.drop⟩
  · by_cases hn0 : n = 0
    · subst hn0
      go_enter Tryz.func116, Tryz.ntmps116
      go_wp2_with fail
      refine (IsName_any s HS.out _).mono ?_
      rintro e w' ⟨rfl, rfl⟩
      go_wp2_with fail
      go_ret
      exact ⟨ret_bool (by simp [ValM.plain]), m1.drop⟩
    · have hn1 : (n == 0) = false := by simpa using hn0
      go_enter Tryz.func116, Tryz.ntmps116
      go_wp2_with fail
      go_ret
      exact ⟨ret_bool (by simp [ValM.plain, hn0]), m1.drop⟩
  · by_cases hs0 : s = ByteArray.empty
    · subst hs0
      go_enter Tryz.func116, Tryz.ntmps116
      by_cases hn0 : 0 ≤ n
      · go_wp2_with fail
        go_ret
        exact ⟨ret_bool (by simp [ValM.plain, hn0]), m1.drop⟩
      · have hge : ¬ (0 : Int) ≤ n := hn0
        go_wp2_with fail
        go_ret
        exact ⟨ret_bool (by simp [ValM.plain]; omega), m1.drop⟩
    · have hl0 : ¬ s.toList = [] := fun e => hs0 ((toList_nil s).1 e)
      go_enter Tryz.func116, Tryz.ntmps116
      go_wp2_with fail
      go_ret
      exact ⟨ret_bool (by simp [ValM.plain, hs0]), m1.drop⟩
  · have e0 : ((k : Int) == 0) = false := beq_eq_false_iff_ne.2 (by omega)
    have e1 : ((k : Int) == 1) = false := beq_eq_false_iff_ne.2 (by omega)
    have e2 : ((k : Int) == 2) = false := beq_eq_false_iff_ne.2 (by omega)
    have e3 : ((k : Int) == 3) = false := beq_eq_false_iff_ne.2 (by omega)
    have e4 : ((k : Int) == 4) = false := beq_eq_false_iff_ne.2 (by omega)
    have e5 : ((k : Int) == 5) = false := beq_eq_false_iff_ne.2 (by omega)
    go_enter Tryz.func116, Tryz.ntmps116
    go_wp2_with fail
    go_ret
    refine ⟨ret_bool ?_, m1.drop⟩
    simp [ValM.plain, show k ≠ 0 by omega, show k ≠ 1 by omega, show k ≠ 2 by omega, show k ≠ 3 by omega, show k ≠ 4 by omega, show k ≠ 5 by omega]
end Go.Proofs.YtbioklhoolkhkabGreat
namespace Go.Proofs.YtbioklhoolkhkabGreat
set_option linter.unusedVariables false
set_option linter.unusedSimpArgs false
open Go.RowKit

theorem toList_eq_iff (a b : ByteArray) : a.toList = b.toList ↔ a = b := by
  rw [ByteArray.toList_eq, ByteArray.toList_eq]
  constructor
  · intro h
    cases a; cases b
    simp only at h
    rw [Array.ext' h]
  · rintro rfl; rfl
/-- 'a list of texts, whoever owns it': what is read of it. -/
def StrsAt (w : World) (v : Value) (xs : List ByteArray) : Prop := ∃ b c, v = .slice b xs.length c ∧ xs.length ≤ maxLen ∧ ∀ i, (h : i < xs.length) → ∃ blk off, b = some ⟨blk, off, none⟩ ∧ w.cell? ⟨blk, off + i, none⟩ = some (.string xs[i])
theorem SlR.strsAt {v : Value} {xs : List ByteArray} {w0 w : World} {H : Hp} {L : List (Nat × Obj)} (h : SlR encStr H v xs) (m : Mem w0 H L w) : StrsAt w v xs := by
  have h' := h
  obtain ⟨b, c, rfl, h1, h2, _, _⟩ := h'
  refine ⟨b, c, rfl, by omega, fun i hi => ?_⟩
  obtain ⟨blk, off, rfl, hc, _⟩ := h.getStr hi
  exact ⟨blk, off, rfl, hc.cell m⟩

set_option maxHeartbeats 1000000 in
theorem Index_any (v : Value) (xs : List ByteArray) (s : ByteArray) {w : World} (hv : StrsAt w v xs) :
    Calls Tryz.prog 79 #[v, .string s] w fun e w' => e = .returned (.int .i64 (placeS xs s)) ∧ w = w' := by
  obtain ⟨b, c, rfl, hc2, hat⟩ := hv
  have hc2 := size_le_maxLen hc2
  have HAT := Lib.hid hat; clear hat
  go_enter Tryz.func79, Tryz.ntmps79
  go_wp2_with fail
  go_loop [5, 8] (fun _ i => ∃ k : Nat, k ≤ xs.length ∧ i = .int .i64 k ∧ (xs.take k).all (fun x => !decide (x = s)) = true) (fun _ i => xs.length - (intOf i).toNat)
  case atStart => exact ⟨0, Nat.zero_le _, rfl, rfl⟩
  case round =>
    obtain ⟨k, hk, rfl, hall⟩ := hrel
    have HA := Lib.hid hall; clear hall
    by_cases hlt : k < xs.length
    · obtain ⟨blk, off, rfl, hcell⟩ := HAT.out k hlt
      by_cases hq : xs[k] = s
      · have HQ := Lib.hid hq
        have hsl : (s.toList == xs[k].toList) = true := by rw [hq]; exact beq_self_eq_true _
        go_wp2_with fail
        go_ret
        exact ⟨ret_int (by unfold placeS; rw [idxF_at k hlt (decide_eq_true HQ.out) HA.out]), rfl⟩
      · have HQ := Lib.hid hq
        have hsl : (s.toList == xs[k].toList) = false := beq_eq_false_iff_ne.2 fun e => hq ((toList_eq_iff _ _).1 e).symm
        go_wp2_with fail
        go_round
        case rel => exact ⟨k + 1, by omega, by go_num, all_not_snoc hlt HA.out (decide_eq_false HQ.out)⟩
        case measure => simp [intOf]; omega
    · go_wp2_with fail
      go_ret
      exact ⟨ret_int (by unfold placeS; rw [idxF_none k hlt HA.out]), rfl⟩
set_option maxHeartbeats 1000000 in
theorem Contains_any (v : Value) (xs : List ByteArray) (s : ByteArray) {w : World} (hv : StrsAt w v xs) :
    Calls Tryz.prog 75 #[v, .string s] w fun e w' => e = .returned (.bool (decide (0 ≤ placeS xs s))) ∧ w = w' := by
  go_enter Tryz.func75, Tryz.ntmps75
  go_wp2_with (go_at_call 79; refine (Index_any v xs s hv).mono ?_; rintro e w' ⟨rfl, rfl⟩)
  go_ret
  exact ⟨rfl, rfl⟩
set_option maxHeartbeats 1000000 in
theorem Where_any (v : Value) (xs : List ByteArray) (s : ByteArray) {w : World} (hv : StrsAt w v xs) :
    Calls Tryz.prog 49 #[v, .string s] w fun e w' => e = .returned (.int .i64 (placeS xs s)) ∧ w = w' := by
  obtain ⟨b, c, rfl, hc2, hat⟩ := hv
  have hc2 := size_le_maxLen hc2
  have HAT := Lib.hid hat; clear hat
  go_enter Tryz.func49, Tryz.ntmps49
  go_wp2_with fail
  go_loop [5] (fun i => ∃ k : Nat, k ≤ xs.length ∧ i = .int .i64 k ∧ (xs.take k).all (fun x => !decide (x = s)) = true) (fun i => xs.length - (intOf i).toNat)
  case atStart => exact ⟨0, Nat.zero_le _, rfl, rfl⟩
  case round =>
    obtain ⟨k, hk, rfl, hall⟩ := hrel
    have HA := Lib.hid hall; clear hall
    by_cases hlt : k < xs.length
    · obtain ⟨blk, off, rfl, hcell⟩ := HAT.out k hlt
      have hltI : (k : Int) < xs.length := by omega
      by_cases hq : xs[k] = s
      · have HQ := Lib.hid hq
        have hsl : (xs[k].toList == s.toList) = true := by rw [hq]; exact beq_self_eq_true _
        go_wp2_with fail
        go_ret
        exact ⟨ret_int (by unfold placeS; rw [idxF_at k hlt (decide_eq_true HQ.out) HA.out]), rfl⟩
      · have HQ := Lib.hid hq
        have hsl : (xs[k].toList == s.toList) = false := beq_eq_false_iff_ne.2 fun e => hq ((toList_eq_iff _ _).1 e)
        go_wp2_with fail
        go_round
        case rel => exact ⟨k + 1, by omega, by go_num, all_not_snoc hlt HA.out (decide_eq_false HQ.out)⟩
        case measure => simp [intOf]; omega
    · go_wp2_with fail
      go_ret
      exact ⟨ret_int (by unfold placeS; rw [idxF_none k hlt HA.out]), rfl⟩
/-- A list of classes, whoever owns it: what is read of its names. -/
def ClsAt (w : World) (v : Value) (xs : List ClassM) : Prop := ∃ b c, v = .slice b xs.length c ∧ xs.length ≤ maxLen ∧ ∀ i, (h : i < xs.length) → ∃ blk off sv, b = some ⟨blk, off, none⟩ ∧ w.cell? ⟨blk, off + i * 2, none⟩ = some (.string xs[i].name) ∧ w.cell? ⟨blk, off + i * 2 + 1, none⟩ = some sv ∧ ∃ sb sn sc, sv = .slice sb sn sc
theorem SlR.cells1 {α : Type} {E : Enc α} {H : Hp} {v : Value} {xs : List α} (h : SlR E H v xs) : v.cells = #[v] := by
  obtain ⟨b, c, rfl, _⟩ := h
  rfl
theorem SlR.clsAt {v : Value} {xs : List ClassM} {w0 w : World} {H : Hp} {L : List (Nat × Obj)} (h : SlR encClass H v xs) (m : Mem w0 H L w) : ClsAt w v xs := by
  have h' := h
  obtain ⟨b, c, rfl, h1, h2, _, _⟩ := h'
  refine ⟨b, c, rfl, by omega, fun i hi => ?_⟩
  obtain ⟨blk, off, sv, rfl, hc, hd, hs, _⟩ := h.getClass hi
  obtain ⟨sb, sc, rfl, _⟩ := hs
  exact ⟨blk, off, _, rfl, hc.cell m, hd.cell m, sb, _, sc, rfl⟩
set_option maxHeartbeats 1000000 in
theorem RClass_any (v : Value) (xs : List ClassM) (s : ByteArray) {w : World} (hv : ClsAt w v xs) :
    Calls Tryz.prog 51 #[v, .string s] w fun e w' => e = .returned (.int .i64 (placeC xs s)) ∧ w = w' := by
  obtain ⟨b, c, rfl, hc2, hat⟩ := hv
  have hc2 := size_le_maxLen hc2
  have HAT := Lib.hid hat; clear hat
  go_enter Tryz.func51, Tryz.ntmps51
  go_wp2_with fail
  go_loop [5] (fun i => ∃ k : Nat, k ≤ xs.length ∧ i = .int .i64 k ∧ (xs.take k).all (fun x => !decide (x.name = s)) = true) (fun i => xs.length - (intOf i).toNat)
  case atStart => exact ⟨0, Nat.zero_le _, rfl, rfl⟩
  case round =>
    obtain ⟨k, hk, rfl, hall⟩ := hrel
    have HA := Lib.hid hall; clear hall
    by_cases hlt : k < xs.length
    · obtain ⟨blk, off, sv, rfl, hcell, _, _⟩ := HAT.out k hlt
      have hltI : (k : Int) < xs.length := by omega
      by_cases hq : xs[k].name = s
      · have HQ := Lib.hid hq
        have hsl : (xs[k].name.toList == s.toList) = true := by rw [hq]; exact beq_self_eq_true _
        go_wp2_with fail
        go_ret
        exact ⟨ret_int (by unfold placeC; rw [idxF_at k hlt (decide_eq_true HQ.out) HA.out]), rfl⟩
      · have HQ := Lib.hid hq
        have hsl : (xs[k].name.toList == s.toList) = false := beq_eq_false_iff_ne.2 fun e => hq ((toList_eq_iff _ _).1 e)
        go_wp2_with fail
        go_round
        case rel => exact ⟨k + 1, by omega, by go_num, all_not_snoc hlt HA.out (decide_eq_false HQ.out)⟩
        case measure => simp [intOf]; omega
    · go_wp2_with fail
      go_ret
      exact ⟨ret_int (by unfold placeC; rw [idxF_none k hlt HA.out]), rfl⟩
end Go.Proofs.YtbioklhoolkhkabGreat
namespace Go.Proofs.YtbioklhoolkhkabGreat
set_option linter.unusedVariables false
set_option linter.unusedSimpArgs false
open Go.RowKit

@[go_sem] theorem run_store_func (P : Program) (w : World) (ad : Addr) (f : Fn) (a b : Array Value) (md : Mode) : (store ad (.func f a b) md).run P w = stored P w ad (.func f a b) md := run_store P w ad _ md rfl
@[go_sem] theorem run_store_nilFunc (P : Program) (w : World) (ad : Addr) (md : Mode) : (store ad .nilFunc md).run P w = stored P w ad .nilFunc md := run_store P w ad _ md rfl
set_option maxRecDepth 10000 in
set_option maxHeartbeats 1000000 in
theorem eql_val (xk yk : Nat) (xn yn : Int) (xs ys : ByteArray) (w : World) : (binOp .eql 41 (.agg #[.int .u8 xk, .int .i64 xn, .string xs]) (.agg #[.int .u8 yk, .int .i64 yn, .string ys])).run Tryz.prog w = .ok (.bool (decide ((⟨xk, xn, xs⟩ : ValM) = ⟨yk, yn, ys⟩))) w := by
  have hs : decide ((⟨xk, xn, xs⟩ : ValM) = ⟨yk, yn, ys⟩) = ((decide (xk = yk) && decide (xn = yn)) && decide (xs = ys)) := by
    rw [Bool.eq_iff_iff]; simp [ValM.ext_iff']; exact and_assoc.symm
  rw [hs]
  clear hs
  by_cases h1 : xk = yk
  · subst h1
    by_cases h2 : xn = yn
    · subst h2
      by_cases h3 : xs = ys
      · subst h3; go_simp
      · have h3' : (xs.toList == ys.toList) = false := beq_eq_false_iff_ne.2 fun e => h3 ((toList_eq_iff _ _).1 e)
        simp only [decide_eq_true_eq, h3, decide_false, Bool.and_false, decide_true, Bool.and_self]
        go_simp
    · have h2' : (xn == yn) = false := by simpa using h2
      go_simp
  · have h1' : ((xk : Int) == (yk : Int)) = false := by simpa using (by omega : ¬ (xk : Int) = yk)
    go_simp
abbrev CBox (c : ChangeM) : Obj := .cells #[.int .u8 c.kind, .string c.name, .string c.field, .string c.to, .int .u8 c.v.kind, .int .i64 c.v.n, .string c.v.s] 43
set_option maxHeartbeats 1000000 in
theorem shUse1_any (c : ChangeM) {w0 : World} {H : Hp} {L : List (Nat × Obj)} {w : World} (m : Mem w0 H L w) :
    Calls Tryz.prog 108 #[c.val] w (Ret w0 H L (.string c.name)) := by
  have m1 := m.alloc (CBox c)
  unfold CBox at m1
  have es := m1.eqs; simp only [EqsL, and_true] at es
  unfold ChangeM.val
  go_enter Tryz.func108, Tryz.ntmps108
  go_wp2_with fail
  go_ret
  exact ⟨rfl, m1.drop⟩
set_option maxHeartbeats 1000000 in
theorem shUse2_any (c : ChangeM) {w0 : World} {H : Hp} {L : List (Nat × Obj)} {w : World} (m : Mem w0 H L w) :
    Calls Tryz.prog 109 #[c.val] w (Ret w0 H L (.string c.field)) := by
  have m1 := m.alloc (CBox c)
  unfold CBox at m1
  have es := m1.eqs; simp only [EqsL, and_true] at es
  unfold ChangeM.val
  go_enter Tryz.func109, Tryz.ntmps109
  go_wp2_with fail
  go_ret
  exact ⟨rfl, m1.drop⟩
set_option maxHeartbeats 1000000 in
theorem shUse3_any (c : ChangeM) {w0 : World} {H : Hp} {L : List (Nat × Obj)} {w : World} (m : Mem w0 H L w) :
    Calls Tryz.prog 110 #[c.val] w (Ret w0 H L (.string c.to)) := by
  have m1 := m.alloc (CBox c)
  unfold CBox at m1
  have es := m1.eqs; simp only [EqsL, and_true] at es
  unfold ChangeM.val
  go_enter Tryz.func110, Tryz.ntmps110
  go_wp2_with fail
  go_ret
  exact ⟨rfl, m1.drop⟩
def oldS : ByteArray := ⟨#[111, 108, 100]⟩
set_option maxHeartbeats 1000000 in
theorem shUse4_any (c : ChangeM) {w0 : World} {H : Hp} {L : List (Nat × Obj)} {w : World} (m : Mem w0 H L w) :
    Calls Tryz.prog 111 #[c.val] w (Ret w0 H L (.string oldS)) := by
  have m1 := m.alloc (CBox c)
  unfold ChangeM.val
  go_enter Tryz.func111, Tryz.ntmps111
  go_wp2_with fail
  go_ret
  exact ⟨rfl, m1.drop⟩
set_option maxHeartbeats 1000000 in
theorem shUseOf1_any {w0 : World} {H : Hp} {L : List (Nat × Obj)} {w : World} (m : Mem w0 H L w) :
    Calls Tryz.prog 76 #[.int .u8 1] w (Ret w0 H L (.tuple #[.agg #[.bool true, .bool false, .bool true, .func (.func 109) #[] #[]], .bool true])) := by
  have m1 := m.alloc (.cells #[.bool true, .bool false, .bool true, .func (.func 109) #[] #[]] 149)
  have es := m1.eqs; simp only [EqsL, and_true] at es
  go_enter Tryz.func76, Tryz.ntmps76
  go_wp2_with fail
  refine bodyPost_ret (v := .tuple #[.agg #[.bool true, .bool false, .bool true, .func (.func 109) #[] #[]], .bool true]) (by simp [results, Tryz.results76, go_sem, es]) rfl ?_
  exact ⟨rfl, m1.drop⟩
set_option maxHeartbeats 1000000 in
theorem shUseOf2_any {w0 : World} {H : Hp} {L : List (Nat × Obj)} {w : World} (m : Mem w0 H L w) :
    Calls Tryz.prog 76 #[.int .u8 2] w (Ret w0 H L (.tuple #[.agg #[.bool true, .bool false, .bool false, .func (.func 111) #[] #[]], .bool true])) := by
  have m1 := m.alloc (.cells #[.bool true, .bool false, .bool false, .func (.func 111) #[] #[]] 149)
  have es := m1.eqs; simp only [EqsL, and_true] at es
  go_enter Tryz.func76, Tryz.ntmps76
  go_wp2_with fail
  refine bodyPost_ret (v := .tuple #[.agg #[.bool true, .bool false, .bool false, .func (.func 111) #[] #[]], .bool true]) (by simp [results, Tryz.results76, go_sem, es]) rfl ?_
  exact ⟨rfl, m1.drop⟩
set_option maxHeartbeats 1000000 in
theorem shUseOf3_any {w0 : World} {H : Hp} {L : List (Nat × Obj)} {w : World} (m : Mem w0 H L w) :
    Calls Tryz.prog 76 #[.int .u8 3] w (Ret w0 H L (.tuple #[.agg #[.bool true, .bool true, .bool false, .func (.func 110) #[] #[]], .bool true])) := by
  have m1 := m.alloc (.cells #[.bool true, .bool true, .bool false, .func (.func 110) #[] #[]] 149)
  have es := m1.eqs; simp only [EqsL, and_true] at es
  go_enter Tryz.func76, Tryz.ntmps76
  go_wp2_with fail
  refine bodyPost_ret (v := .tuple #[.agg #[.bool true, .bool true, .bool false, .func (.func 110) #[] #[]], .bool true]) (by simp [results, Tryz.results76, go_sem, es]) rfl ?_
  exact ⟨rfl, m1.drop⟩
set_option maxHeartbeats 1000000 in
theorem shUseOf4_any {w0 : World} {H : Hp} {L : List (Nat × Obj)} {w : World} (m : Mem w0 H L w) :
    Calls Tryz.prog 76 #[.int .u8 4] w (Ret w0 H L (.tuple #[.agg #[.bool false, .bool true, .bool false, .func (.func 110) #[] #[]], .bool true])) := by
  have m1 := m.alloc (.cells #[.bool false, .bool true, .bool false, .func (.func 110) #[] #[]] 149)
  have es := m1.eqs; simp only [EqsL, and_true] at es
  go_enter Tryz.func76, Tryz.ntmps76
  go_wp2_with fail
  refine bodyPost_ret (v := .tuple #[.agg #[.bool false, .bool true, .bool false, .func (.func 110) #[] #[]], .bool true]) (by simp [results, Tryz.results76, go_sem, es]) rfl ?_
  exact ⟨rfl, m1.drop⟩
set_option maxHeartbeats 1000000 in
theorem shUseOf5_any {w0 : World} {H : Hp} {L : List (Nat × Obj)} {w : World} (m : Mem w0 H L w) :
    Calls Tryz.prog 76 #[.int .u8 5] w (Ret w0 H L (.tuple #[.agg #[.bool false, .bool false, .bool true, .func (.func 108) #[] #[]], .bool true])) := by
  have m1 := m.alloc (.cells #[.bool false, .bool false, .bool true, .func (.func 108) #[] #[]] 149)
  have es := m1.eqs; simp only [EqsL, and_true] at es
  go_enter Tryz.func76, Tryz.ntmps76
  go_wp2_with fail
  refine bodyPost_ret (v := .tuple #[.agg #[.bool false, .bool false, .bool true, .func (.func 108) #[] #[]], .bool true]) (by simp [results, Tryz.results76, go_sem, es]) rfl ?_
  exact ⟨rfl, m1.drop⟩
set_option maxHeartbeats 1000000 in
theorem shUseOf6_any {w0 : World} {H : Hp} {L : List (Nat × Obj)} {w : World} (m : Mem w0 H L w) :
    Calls Tryz.prog 76 #[.int .u8 6] w (Ret w0 H L (.tuple #[.agg #[.bool false, .bool false, .bool false, .func (.func 111) #[] #[]], .bool true])) := by
  have m1 := m.alloc (.cells #[.bool false, .bool false, .bool false, .func (.func 111) #[] #[]] 149)
  have es := m1.eqs; simp only [EqsL, and_true] at es
  go_enter Tryz.func76, Tryz.ntmps76
  go_wp2_with fail
  refine bodyPost_ret (v := .tuple #[.agg #[.bool false, .bool false, .bool false, .func (.func 111) #[] #[]], .bool true]) (by simp [results, Tryz.results76, go_sem, es]) rfl ?_
  exact ⟨rfl, m1.drop⟩
set_option maxHeartbeats 1000000 in
theorem shUseOf7_any {w0 : World} {H : Hp} {L : List (Nat × Obj)} {w : World} (m : Mem w0 H L w) :
    Calls Tryz.prog 76 #[.int .u8 7] w (Ret w0 H L (.tuple #[.agg #[.bool false, .bool true, .bool false, .func (.func 110) #[] #[]], .bool true])) := by
  have m1 := m.alloc (.cells #[.bool false, .bool true, .bool false, .func (.func 110) #[] #[]] 149)
  have es := m1.eqs; simp only [EqsL, and_true] at es
  go_enter Tryz.func76, Tryz.ntmps76
  go_wp2_with fail
  refine bodyPost_ret (v := .tuple #[.agg #[.bool false, .bool true, .bool false, .func (.func 110) #[] #[]], .bool true]) (by simp [results, Tryz.results76, go_sem, es]) rfl ?_
  exact ⟨rfl, m1.drop⟩
set_option maxHeartbeats 1000000 in
theorem shUseOf_no (k : Nat) (hk : k < 1 ∨ 7 < k) (hb : k < 256) {w0 : World} {H : Hp} {L : List (Nat × Obj)} {w : World} (m : Mem w0 H L w) :
    Calls Tryz.prog 76 #[.int .u8 k] w (Ret w0 H L (.tuple #[.agg #[.bool false, .bool false, .bool false, .nilFunc], .bool false])) := by
  have m1 := m.alloc (.cells #[.bool false, .bool false, .bool false, .nilFunc] 149)
  have es := m1.eqs; simp only [EqsL, and_true] at es
  have e1 : ((k : Int) == 1) = false := by simp; omega
  have e2 : ((k : Int) == 2) = false := by simp; omega
  have e3 : ((k : Int) == 3) = false := by simp; omega
  have e4 : ((k : Int) == 4) = false := by simp; omega
  have e5 : ((k : Int) == 5) = false := by simp; omega
  have e6 : ((k : Int) == 6) = false := by simp; omega
  have e7 : ((k : Int) == 7) = false := by simp; omega
  go_enter Tryz.func76, Tryz.ntmps76
  go_wp2_with fail
  refine bodyPost_ret (v := .tuple #[.agg #[.bool false, .bool false, .bool false, .nilFunc], .bool false]) (by simp [results, Tryz.results76, go_sem, es]) rfl ?_
  exact ⟨rfl, m1.drop⟩
end Go.Proofs.YtbioklhoolkhkabGreat
namespace Go.Proofs.YtbioklhoolkhkabGreat
set_option linter.unusedVariables false
set_option linter.unusedSimpArgs false
open Go.RowKit

set_option maxRecDepth 10000 in
set_option maxHeartbeats 1000000 in
theorem neq_val (xk yk : Nat) (xn yn : Int) (xs ys : ByteArray) (w : World) : (binOp .neq 41 (.agg #[.int .u8 xk, .int .i64 xn, .string xs]) (.agg #[.int .u8 yk, .int .i64 yn, .string ys])).run Tryz.prog w = .ok (.bool (!decide ((⟨xk, xn, xs⟩ : ValM) = ⟨yk, yn, ys⟩))) w := by
  have hs : decide ((⟨xk, xn, xs⟩ : ValM) = ⟨yk, yn, ys⟩) = ((decide (xk = yk) && decide (xn = yn)) && decide (xs = ys)) := by
    rw [Bool.eq_iff_iff]; simp [ValM.ext_iff']; exact and_assoc.symm
  rw [hs]
  clear hs
  by_cases h1 : xk = yk
  · subst h1
    by_cases h2 : xn = yn
    · subst h2
      by_cases h3 : xs = ys
      · subst h3; go_simp
      · have h3' : (xs.toList == ys.toList) = false := beq_eq_false_iff_ne.2 fun e => h3 ((toList_eq_iff _ _).1 e)
        simp only [decide_eq_true_eq, h3, decide_false, Bool.and_false, decide_true, Bool.and_self]
        go_simp
    · have h2' : (xn == yn) = false := by simpa using h2
      go_simp
  · have h1' : ((xk : Int) == (yk : Int)) = false := by simpa using (by omega : ¬ (xk : Int) = yk)
    go_simp
theorem isName_old : isName oldS = true := by decide
theorem oldS_size : oldS.size ≤ maxLen := by decide
set_option maxRecDepth 10000 in
set_option maxHeartbeats 4000000 in
theorem shIsChange1_any (c : ChangeM) (hf : c.fit) (hk : c.kind = 1) {w0 : World} {H : Hp} {L : List (Nat × Obj)} {w : World} (m : Mem w0 H L w) :
    Calls Tryz.prog 45 #[c.val] w (Ret w0 H L (.bool c.form)) := by
  have HF := Lib.hid hf; clear hf
  obtain ⟨ck, cn, cf, ct, ⟨vk, vn, vs⟩⟩ := c
  simp only at hk
  subst hk
  have m1 := m.alloc (CBox ⟨1, cn, cf, ct, ⟨vk, vn, vs⟩⟩)
  unfold CBox at m1
  unfold ChangeM.val ChangeM.form
  simp only [Nat.reduceEqDiff, if_true, if_false, reduceIte]
  by_cases hct : ct = ByteArray.empty
  rotate_left
  · rw [decide_eq_false hct]
    have hl : ¬ ct.toList = [] := fun e => hct ((toList_nil _).1 e)
    have hb : (ct.toList == []) = false := beq_eq_false_iff_ne.2 hl
    go_enter Tryz.func45, Tryz.ntmps45
    go_wp2_with fail
    refine (shUseOf1_any m1).mono ?_
    rintro e w1 ⟨rfl, m2⟩
    have m3 := m2.alloc (.cells #[.bool true, .bool false, .bool true, .func (.func 109) #[] #[]] 149)
    have es := m3.eqs; simp only [EqsL, and_true] at es
    have ns := m3.nes; simp only [NeL, NeFrom, and_true, true_and] at ns
    go_wp2_with fail
    go_ret
    exact ⟨ret_bool (by simp), m3.drop.drop⟩
  subst hct
  go_enter Tryz.func45, Tryz.ntmps45
  go_wp2_with fail
  refine (shUseOf1_any m1).mono ?_
  rintro e w1 ⟨rfl, m2⟩
  have m3 := m2.alloc (.cells #[.bool true, .bool false, .bool true, .func (.func 109) #[] #[]] 149)
  have es := m3.eqs; simp only [EqsL, and_true] at es
  have ns := m3.nes; simp only [NeL, NeFrom, and_true, true_and] at ns
  go_wp2_with fail
  refine (shUse2_any ⟨1, cn, cf, ByteArray.empty, ⟨vk, vn, vs⟩⟩ m3).mono ?_
  rintro e w2 ⟨rfl, m4⟩
  go_wp2_with fail
  refine (shIsName_any _ HF.out.field m4).mono ?_
  rintro e w3 ⟨rfl, m5⟩
  have es := m5.eqs
  simp only [EqsL, and_true] at es
  cases hn : isName cf
  · go_wp2_with fail
    go_ret
    exact ⟨ret_bool (by simp [hn]), m5.drop.drop⟩
  · go_wp2_with fail
    refine (shIsPlain_any ⟨vk, vn, vs⟩ HF.out.v m5).mono ?_
    rintro e w4 ⟨rfl, m6⟩
    go_wp2_with fail
    go_ret
    exact ⟨ret_bool (by simp [hn]), m6.drop.drop⟩
set_option maxRecDepth 10000 in
set_option maxHeartbeats 4000000 in
theorem shIsChange2_any (c : ChangeM) (hf : c.fit) (hk : c.kind = 2) {w0 : World} {H : Hp} {L : List (Nat × Obj)} {w : World} (m : Mem w0 H L w) :
    Calls Tryz.prog 45 #[c.val] w (Ret w0 H L (.bool c.form)) := by
  have HF := Lib.hid hf; clear hf
  obtain ⟨ck, cn, cf, ct, ⟨vk, vn, vs⟩⟩ := c
  simp only at hk
  subst hk
  have m1 := m.alloc (CBox ⟨2, cn, cf, ct, ⟨vk, vn, vs⟩⟩)
  unfold CBox at m1
  unfold ChangeM.val ChangeM.form
  simp only [Nat.reduceEqDiff, if_true, if_false, reduceIte]
  by_cases hct : ct = ByteArray.empty
  rotate_left
  · rw [decide_eq_false hct]
    have hl : ¬ ct.toList = [] := fun e => hct ((toList_nil _).1 e)
    have hb : (ct.toList == []) = false := beq_eq_false_iff_ne.2 hl
    go_enter Tryz.func45, Tryz.ntmps45
    go_wp2_with fail
    refine (shUseOf2_any m1).mono ?_
    rintro e w1 ⟨rfl, m2⟩
    have m3 := m2.alloc (.cells #[.bool true, .bool false, .bool false, .func (.func 111) #[] #[]] 149)
    have es := m3.eqs; simp only [EqsL, and_true] at es
    have ns := m3.nes; simp only [NeL, NeFrom, and_true, true_and] at ns
    go_wp2_with fail
    go_ret
    exact ⟨ret_bool (by simp), m3.drop.drop⟩
  subst hct
  by_cases hv : (⟨vk, vn, vs⟩ : ValM) = unitV
  rotate_left
  · rw [decide_eq_false hv]
    have he : ∀ w : World, (binOp .neq 41 (.agg #[.int .u8 vk, .int .i64 vn, .string vs]) (.agg #[.int .u8 0, .int .i64 0, .string ⟨#[]⟩])).run Tryz.prog w = .ok (.bool true) w := fun w => (neq_val vk 0 vn 0 vs ⟨#[]⟩ w).trans (by rw [decide_eq_false (show ¬ (⟨vk, vn, vs⟩ : ValM) = ⟨0, 0, ⟨#[]⟩⟩ from hv)]; rfl)
    go_enter Tryz.func45, Tryz.ntmps45
    go_wp2_with fail
    refine (shUseOf2_any m1).mono ?_
    rintro e w1 ⟨rfl, m2⟩
    have m3 := m2.alloc (.cells #[.bool true, .bool false, .bool false, .func (.func 111) #[] #[]] 149)
    have es := m3.eqs; simp only [EqsL, and_true] at es
    have ns := m3.nes; simp only [NeL, NeFrom, and_true, true_and] at ns
    go_wp2_with fail
    go_ret
    exact ⟨ret_bool (by simp), m3.drop.drop⟩
  obtain ⟨rfl, rfl, rfl⟩ := (ValM.ext_iff' _ _).1 hv
  have he : ∀ w : World, (binOp .neq 41 (.agg #[.int .u8 0, .int .i64 0, .string ⟨#[]⟩]) (.agg #[.int .u8 0, .int .i64 0, .string ⟨#[]⟩])).run Tryz.prog w = .ok (.bool false) w := fun w => neq_val 0 0 0 0 ⟨#[]⟩ ⟨#[]⟩ w
  unfold unitV at *
  simp only at *
  go_enter Tryz.func45, Tryz.ntmps45
  go_wp2_with fail
  refine (shUseOf2_any m1).mono ?_
  rintro e w1 ⟨rfl, m2⟩
  have m3 := m2.alloc (.cells #[.bool true, .bool false, .bool false, .func (.func 111) #[] #[]] 149)
  have es := m3.eqs; simp only [EqsL, and_true] at es
  have ns := m3.nes; simp only [NeL, NeFrom, and_true, true_and] at ns
  go_wp2_with fail
  refine (shUse4_any ⟨2, cn, cf, ByteArray.empty, ⟨0, 0, ByteArray.empty⟩⟩ m3).mono ?_
  rintro e w2 ⟨rfl, m4⟩
  go_wp2_with fail
  refine (shIsName_any _ oldS_size m4).mono ?_
  rintro e w3 ⟨rfl, m5⟩
  have es := m5.eqs
  simp only [EqsL, and_true] at es
  rw [isName_old]
  go_wp2_with fail
  go_ret
  exact ⟨ret_bool (by simp), m5.drop.drop⟩
set_option maxRecDepth 10000 in
set_option maxHeartbeats 4000000 in
theorem shIsChange3_any (c : ChangeM) (hf : c.fit) (hk : c.kind = 3) {w0 : World} {H : Hp} {L : List (Nat × Obj)} {w : World} (m : Mem w0 H L w) :
    Calls Tryz.prog 45 #[c.val] w (Ret w0 H L (.bool c.form)) := by
  have HF := Lib.hid hf; clear hf
  obtain ⟨ck, cn, cf, ct, ⟨vk, vn, vs⟩⟩ := c
  simp only at hk
  subst hk
  have m1 := m.alloc (CBox ⟨3, cn, cf, ct, ⟨vk, vn, vs⟩⟩)
  unfold CBox at m1
  unfold ChangeM.val ChangeM.form
  simp only [Nat.reduceEqDiff, if_true, if_false, reduceIte]
  by_cases hv : (⟨vk, vn, vs⟩ : ValM) = unitV
  rotate_left
  · rw [decide_eq_false hv]
    have he : ∀ w : World, (binOp .neq 41 (.agg #[.int .u8 vk, .int .i64 vn, .string vs]) (.agg #[.int .u8 0, .int .i64 0, .string ⟨#[]⟩])).run Tryz.prog w = .ok (.bool true) w := fun w => (neq_val vk 0 vn 0 vs ⟨#[]⟩ w).trans (by rw [decide_eq_false (show ¬ (⟨vk, vn, vs⟩ : ValM) = ⟨0, 0, ⟨#[]⟩⟩ from hv)]; rfl)
    go_enter Tryz.func45, Tryz.ntmps45
    go_wp2_with fail
    refine (shUseOf3_any m1).mono ?_
    rintro e w1 ⟨rfl, m2⟩
    have m3 := m2.alloc (.cells #[.bool true, .bool true, .bool false, .func (.func 110) #[] #[]] 149)
    have es := m3.eqs; simp only [EqsL, and_true] at es
    have ns := m3.nes; simp only [NeL, NeFrom, and_true, true_and] at ns
    go_wp2_with fail
    go_ret
    exact ⟨ret_bool (by simp), m3.drop.drop⟩
  obtain ⟨rfl, rfl, rfl⟩ := (ValM.ext_iff' _ _).1 hv
  have he : ∀ w : World, (binOp .neq 41 (.agg #[.int .u8 0, .int .i64 0, .string ⟨#[]⟩]) (.agg #[.int .u8 0, .int .i64 0, .string ⟨#[]⟩])).run Tryz.prog w = .ok (.bool false) w := fun w => neq_val 0 0 0 0 ⟨#[]⟩ ⟨#[]⟩ w
  unfold unitV at *
  simp only at *
  go_enter Tryz.func45, Tryz.ntmps45
  go_wp2_with fail
  refine (shUseOf3_any m1).mono ?_
  rintro e w1 ⟨rfl, m2⟩
  have m3 := m2.alloc (.cells #[.bool true, .bool true, .bool false, .func (.func 110) #[] #[]] 149)
  have es := m3.eqs; simp only [EqsL, and_true] at es
  have ns := m3.nes; simp only [NeL, NeFrom, and_true, true_and] at ns
  go_wp2_with fail
  refine (shUse3_any ⟨3, cn, cf, ct, ⟨0, 0, ByteArray.empty⟩⟩ m3).mono ?_
  rintro e w2 ⟨rfl, m4⟩
  go_wp2_with fail
  refine (shIsName_any _ HF.out.to m4).mono ?_
  rintro e w3 ⟨rfl, m5⟩
  have es := m5.eqs
  simp only [EqsL, and_true] at es
  cases hn : isName ct
  all_goals (go_wp2_with fail; go_ret; exact ⟨ret_bool (by simp [hn]), m5.drop.drop⟩)
set_option maxRecDepth 10000 in
set_option maxHeartbeats 4000000 in
theorem shIsChange4_any (c : ChangeM) (hf : c.fit) (hk : c.kind = 4) {w0 : World} {H : Hp} {L : List (Nat × Obj)} {w : World} (m : Mem w0 H L w) :
    Calls Tryz.prog 45 #[c.val] w (Ret w0 H L (.bool c.form)) := by
  have HF := Lib.hid hf; clear hf
  obtain ⟨ck, cn, cf, ct, ⟨vk, vn, vs⟩⟩ := c
  simp only at hk
  subst hk
  have m1 := m.alloc (CBox ⟨4, cn, cf, ct, ⟨vk, vn, vs⟩⟩)
  unfold CBox at m1
  unfold ChangeM.val ChangeM.form
  simp only [Nat.reduceEqDiff, if_true, if_false, reduceIte]
  by_cases hcf : cf = ByteArray.empty
  rotate_left
  · rw [decide_eq_false hcf]
    have hl : ¬ cf.toList = [] := fun e => hcf ((toList_nil _).1 e)
    have hb : (cf.toList == []) = false := beq_eq_false_iff_ne.2 hl
    go_enter Tryz.func45, Tryz.ntmps45
    go_wp2_with fail
    refine (shUseOf4_any m1).mono ?_
    rintro e w1 ⟨rfl, m2⟩
    have m3 := m2.alloc (.cells #[.bool false, .bool true, .bool false, .func (.func 110) #[] #[]] 149)
    have es := m3.eqs; simp only [EqsL, and_true] at es
    have ns := m3.nes; simp only [NeL, NeFrom, and_true, true_and] at ns
    go_wp2_with fail
    go_ret
    exact ⟨ret_bool (by simp), m3.drop.drop⟩
  subst hcf
  by_cases hv : (⟨vk, vn, vs⟩ : ValM) = unitV
  rotate_left
  · rw [decide_eq_false hv]
    have he : ∀ w : World, (binOp .neq 41 (.agg #[.int .u8 vk, .int .i64 vn, .string vs]) (.agg #[.int .u8 0, .int .i64 0, .string ⟨#[]⟩])).run Tryz.prog w = .ok (.bool true) w := fun w => (neq_val vk 0 vn 0 vs ⟨#[]⟩ w).trans (by rw [decide_eq_false (show ¬ (⟨vk, vn, vs⟩ : ValM) = ⟨0, 0, ⟨#[]⟩⟩ from hv)]; rfl)
    go_enter Tryz.func45, Tryz.ntmps45
    go_wp2_with fail
    refine (shUseOf4_any m1).mono ?_
    rintro e w1 ⟨rfl, m2⟩
    have m3 := m2.alloc (.cells #[.bool false, .bool true, .bool false, .func (.func 110) #[] #[]] 149)
    have es := m3.eqs; simp only [EqsL, and_true] at es
    have ns := m3.nes; simp only [NeL, NeFrom, and_true, true_and] at ns
    go_wp2_with fail
    go_ret
    exact ⟨ret_bool (by simp), m3.drop.drop⟩
  obtain ⟨rfl, rfl, rfl⟩ := (ValM.ext_iff' _ _).1 hv
  have he : ∀ w : World, (binOp .neq 41 (.agg #[.int .u8 0, .int .i64 0, .string ⟨#[]⟩]) (.agg #[.int .u8 0, .int .i64 0, .string ⟨#[]⟩])).run Tryz.prog w = .ok (.bool false) w := fun w => neq_val 0 0 0 0 ⟨#[]⟩ ⟨#[]⟩ w
  unfold unitV at *
  simp only at *
  go_enter Tryz.func45, Tryz.ntmps45
  go_wp2_with fail
  refine (shUseOf4_any m1).mono ?_
  rintro e w1 ⟨rfl, m2⟩
  have m3 := m2.alloc (.cells #[.bool false, .bool true, .bool false, .func (.func 110) #[] #[]] 149)
  have es := m3.eqs; simp only [EqsL, and_true] at es
  have ns := m3.nes; simp only [NeL, NeFrom, and_true, true_and] at ns
  go_wp2_with fail
  refine (shUse3_any ⟨4, cn, ByteArray.empty, ct, ⟨0, 0, ByteArray.empty⟩⟩ m3).mono ?_
  rintro e w2 ⟨rfl, m4⟩
  go_wp2_with fail
  refine (shIsName_any _ HF.out.to m4).mono ?_
  rintro e w3 ⟨rfl, m5⟩
  have es := m5.eqs
  simp only [EqsL, and_true] at es
  cases hn : isName ct
  all_goals (go_wp2_with fail; go_ret; exact ⟨ret_bool (by simp [hn]), m5.drop.drop⟩)
set_option maxRecDepth 10000 in
set_option maxHeartbeats 4000000 in
theorem shIsChange5_any (c : ChangeM) (hf : c.fit) (hk : c.kind = 5) {w0 : World} {H : Hp} {L : List (Nat × Obj)} {w : World} (m : Mem w0 H L w) :
    Calls Tryz.prog 45 #[c.val] w (Ret w0 H L (.bool c.form)) := by
  have HF := Lib.hid hf; clear hf
  obtain ⟨ck, cn, cf, ct, ⟨vk, vn, vs⟩⟩ := c
  simp only at hk
  subst hk
  have m1 := m.alloc (CBox ⟨5, cn, cf, ct, ⟨vk, vn, vs⟩⟩)
  unfold CBox at m1
  unfold ChangeM.val ChangeM.form
  simp only [Nat.reduceEqDiff, if_true, if_false, reduceIte]
  by_cases hcf : cf = ByteArray.empty
  rotate_left
  · rw [decide_eq_false hcf]
    have hl : ¬ cf.toList = [] := fun e => hcf ((toList_nil _).1 e)
    have hb : (cf.toList == []) = false := beq_eq_false_iff_ne.2 hl
    go_enter Tryz.func45, Tryz.ntmps45
    go_wp2_with fail
    refine (shUseOf5_any m1).mono ?_
    rintro e w1 ⟨rfl, m2⟩
    have m3 := m2.alloc (.cells #[.bool false, .bool false, .bool true, .func (.func 108) #[] #[]] 149)
    have es := m3.eqs; simp only [EqsL, and_true] at es
    have ns := m3.nes; simp only [NeL, NeFrom, and_true, true_and] at ns
    go_wp2_with fail
    go_ret
    exact ⟨ret_bool (by simp), m3.drop.drop⟩
  subst hcf
  by_cases hct : ct = ByteArray.empty
  rotate_left
  · rw [decide_eq_false hct]
    have hl : ¬ ct.toList = [] := fun e => hct ((toList_nil _).1 e)
    have hb : (ct.toList == []) = false := beq_eq_false_iff_ne.2 hl
    go_enter Tryz.func45, Tryz.ntmps45
    go_wp2_with fail
    refine (shUseOf5_any m1).mono ?_
    rintro e w1 ⟨rfl, m2⟩
    have m3 := m2.alloc (.cells #[.bool false, .bool false, .bool true, .func (.func 108) #[] #[]] 149)
    have es := m3.eqs; simp only [EqsL, and_true] at es
    have ns := m3.nes; simp only [NeL, NeFrom, and_true, true_and] at ns
    go_wp2_with fail
    go_ret
    exact ⟨ret_bool (by simp), m3.drop.drop⟩
  subst hct
  go_enter Tryz.func45, Tryz.ntmps45
  go_wp2_with fail
  refine (shUseOf5_any m1).mono ?_
  rintro e w1 ⟨rfl, m2⟩
  have m3 := m2.alloc (.cells #[.bool false, .bool false, .bool true, .func (.func 108) #[] #[]] 149)
  have es := m3.eqs; simp only [EqsL, and_true] at es
  have ns := m3.nes; simp only [NeL, NeFrom, and_true, true_and] at ns
  go_wp2_with fail
  refine (shUse1_any ⟨5, cn, ByteArray.empty, ByteArray.empty, ⟨vk, vn, vs⟩⟩ m3).mono ?_
  rintro e w2 ⟨rfl, m4⟩
  go_wp2_with fail
  refine (shIsName_any _ HF.out.name m4).mono ?_
  rintro e w3 ⟨rfl, m5⟩
  have es := m5.eqs
  simp only [EqsL, and_true] at es
  cases hn : isName cn
  · go_wp2_with fail
    go_ret
    exact ⟨ret_bool (by simp [hn]), m5.drop.drop⟩
  · go_wp2_with fail
    refine (shIsPlain_any ⟨vk, vn, vs⟩ HF.out.v m5).mono ?_
    rintro e w4 ⟨rfl, m6⟩
    go_wp2_with fail
    go_ret
    exact ⟨ret_bool (by simp [hn]), m6.drop.drop⟩
set_option maxRecDepth 10000 in
set_option maxHeartbeats 4000000 in
theorem shIsChange6_any (c : ChangeM) (hf : c.fit) (hk : c.kind = 6) {w0 : World} {H : Hp} {L : List (Nat × Obj)} {w : World} (m : Mem w0 H L w) :
    Calls Tryz.prog 45 #[c.val] w (Ret w0 H L (.bool c.form)) := by
  have HF := Lib.hid hf; clear hf
  obtain ⟨ck, cn, cf, ct, ⟨vk, vn, vs⟩⟩ := c
  simp only at hk
  subst hk
  have m1 := m.alloc (CBox ⟨6, cn, cf, ct, ⟨vk, vn, vs⟩⟩)
  unfold CBox at m1
  unfold ChangeM.val ChangeM.form
  simp only [Nat.reduceEqDiff, if_true, if_false, reduceIte]
  by_cases hcf : cf = ByteArray.empty
  rotate_left
  · rw [decide_eq_false hcf]
    have hl : ¬ cf.toList = [] := fun e => hcf ((toList_nil _).1 e)
    have hb : (cf.toList == []) = false := beq_eq_false_iff_ne.2 hl
    go_enter Tryz.func45, Tryz.ntmps45
    go_wp2_with fail
    refine (shUseOf6_any m1).mono ?_
    rintro e w1 ⟨rfl, m2⟩
    have m3 := m2.alloc (.cells #[.bool false, .bool false, .bool false, .func (.func 111) #[] #[]] 149)
    have es := m3.eqs; simp only [EqsL, and_true] at es
    have ns := m3.nes; simp only [NeL, NeFrom, and_true, true_and] at ns
    go_wp2_with fail
    go_ret
    exact ⟨ret_bool (by simp), m3.drop.drop⟩
  subst hcf
  by_cases hct : ct = ByteArray.empty
  rotate_left
  · rw [decide_eq_false hct]
    have hl : ¬ ct.toList = [] := fun e => hct ((toList_nil _).1 e)
    have hb : (ct.toList == []) = false := beq_eq_false_iff_ne.2 hl
    go_enter Tryz.func45, Tryz.ntmps45
    go_wp2_with fail
    refine (shUseOf6_any m1).mono ?_
    rintro e w1 ⟨rfl, m2⟩
    have m3 := m2.alloc (.cells #[.bool false, .bool false, .bool false, .func (.func 111) #[] #[]] 149)
    have es := m3.eqs; simp only [EqsL, and_true] at es
    have ns := m3.nes; simp only [NeL, NeFrom, and_true, true_and] at ns
    go_wp2_with fail
    go_ret
    exact ⟨ret_bool (by simp), m3.drop.drop⟩
  subst hct
  by_cases hv : (⟨vk, vn, vs⟩ : ValM) = unitV
  rotate_left
  · rw [decide_eq_false hv]
    have he : ∀ w : World, (binOp .neq 41 (.agg #[.int .u8 vk, .int .i64 vn, .string vs]) (.agg #[.int .u8 0, .int .i64 0, .string ⟨#[]⟩])).run Tryz.prog w = .ok (.bool true) w := fun w => (neq_val vk 0 vn 0 vs ⟨#[]⟩ w).trans (by rw [decide_eq_false (show ¬ (⟨vk, vn, vs⟩ : ValM) = ⟨0, 0, ⟨#[]⟩⟩ from hv)]; rfl)
    go_enter Tryz.func45, Tryz.ntmps45
    go_wp2_with fail
    refine (shUseOf6_any m1).mono ?_
    rintro e w1 ⟨rfl, m2⟩
    have m3 := m2.alloc (.cells #[.bool false, .bool false, .bool false, .func (.func 111) #[] #[]] 149)
    have es := m3.eqs; simp only [EqsL, and_true] at es
    have ns := m3.nes; simp only [NeL, NeFrom, and_true, true_and] at ns
    go_wp2_with fail
    go_ret
    exact ⟨ret_bool (by simp), m3.drop.drop⟩
  obtain ⟨rfl, rfl, rfl⟩ := (ValM.ext_iff' _ _).1 hv
  have he : ∀ w : World, (binOp .neq 41 (.agg #[.int .u8 0, .int .i64 0, .string ⟨#[]⟩]) (.agg #[.int .u8 0, .int .i64 0, .string ⟨#[]⟩])).run Tryz.prog w = .ok (.bool false) w := fun w => neq_val 0 0 0 0 ⟨#[]⟩ ⟨#[]⟩ w
  unfold unitV at *
  simp only at *
  go_enter Tryz.func45, Tryz.ntmps45
  go_wp2_with fail
  refine (shUseOf6_any m1).mono ?_
  rintro e w1 ⟨rfl, m2⟩
  have m3 := m2.alloc (.cells #[.bool false, .bool false, .bool false, .func (.func 111) #[] #[]] 149)
  have es := m3.eqs; simp only [EqsL, and_true] at es
  have ns := m3.nes; simp only [NeL, NeFrom, and_true, true_and] at ns
  go_wp2_with fail
  refine (shUse4_any ⟨6, cn, ByteArray.empty, ByteArray.empty, ⟨0, 0, ByteArray.empty⟩⟩ m3).mono ?_
  rintro e w2 ⟨rfl, m4⟩
  go_wp2_with fail
  refine (shIsName_any _ oldS_size m4).mono ?_
  rintro e w3 ⟨rfl, m5⟩
  have es := m5.eqs
  simp only [EqsL, and_true] at es
  rw [isName_old]
  go_wp2_with fail
  go_ret
  exact ⟨ret_bool (by simp), m5.drop.drop⟩
set_option maxRecDepth 10000 in
set_option maxHeartbeats 4000000 in
theorem shIsChange7_any (c : ChangeM) (hf : c.fit) (hk : c.kind = 7) {w0 : World} {H : Hp} {L : List (Nat × Obj)} {w : World} (m : Mem w0 H L w) :
    Calls Tryz.prog 45 #[c.val] w (Ret w0 H L (.bool c.form)) := by
  have HF := Lib.hid hf; clear hf
  obtain ⟨ck, cn, cf, ct, ⟨vk, vn, vs⟩⟩ := c
  simp only at hk
  subst hk
  have m1 := m.alloc (CBox ⟨7, cn, cf, ct, ⟨vk, vn, vs⟩⟩)
  unfold CBox at m1
  unfold ChangeM.val ChangeM.form
  simp only [Nat.reduceEqDiff, if_true, if_false, reduceIte]
  by_cases hcf : cf = ByteArray.empty
  rotate_left
  · rw [decide_eq_false hcf]
    have hl : ¬ cf.toList = [] := fun e => hcf ((toList_nil _).1 e)
    have hb : (cf.toList == []) = false := beq_eq_false_iff_ne.2 hl
    go_enter Tryz.func45, Tryz.ntmps45
    go_wp2_with fail
    refine (shUseOf7_any m1).mono ?_
    rintro e w1 ⟨rfl, m2⟩
    have m3 := m2.alloc (.cells #[.bool false, .bool true, .bool false, .func (.func 110) #[] #[]] 149)
    have es := m3.eqs; simp only [EqsL, and_true] at es
    have ns := m3.nes; simp only [NeL, NeFrom, and_true, true_and] at ns
    go_wp2_with fail
    go_ret
    exact ⟨ret_bool (by simp), m3.drop.drop⟩
  subst hcf
  by_cases hv : (⟨vk, vn, vs⟩ : ValM) = unitV
  rotate_left
  · rw [decide_eq_false hv]
    have he : ∀ w : World, (binOp .neq 41 (.agg #[.int .u8 vk, .int .i64 vn, .string vs]) (.agg #[.int .u8 0, .int .i64 0, .string ⟨#[]⟩])).run Tryz.prog w = .ok (.bool true) w := fun w => (neq_val vk 0 vn 0 vs ⟨#[]⟩ w).trans (by rw [decide_eq_false (show ¬ (⟨vk, vn, vs⟩ : ValM) = ⟨0, 0, ⟨#[]⟩⟩ from hv)]; rfl)
    go_enter Tryz.func45, Tryz.ntmps45
    go_wp2_with fail
    refine (shUseOf7_any m1).mono ?_
    rintro e w1 ⟨rfl, m2⟩
    have m3 := m2.alloc (.cells #[.bool false, .bool true, .bool false, .func (.func 110) #[] #[]] 149)
    have es := m3.eqs; simp only [EqsL, and_true] at es
    have ns := m3.nes; simp only [NeL, NeFrom, and_true, true_and] at ns
    go_wp2_with fail
    go_ret
    exact ⟨ret_bool (by simp), m3.drop.drop⟩
  obtain ⟨rfl, rfl, rfl⟩ := (ValM.ext_iff' _ _).1 hv
  have he : ∀ w : World, (binOp .neq 41 (.agg #[.int .u8 0, .int .i64 0, .string ⟨#[]⟩]) (.agg #[.int .u8 0, .int .i64 0, .string ⟨#[]⟩])).run Tryz.prog w = .ok (.bool false) w := fun w => neq_val 0 0 0 0 ⟨#[]⟩ ⟨#[]⟩ w
  unfold unitV at *
  simp only at *
  go_enter Tryz.func45, Tryz.ntmps45
  go_wp2_with fail
  refine (shUseOf7_any m1).mono ?_
  rintro e w1 ⟨rfl, m2⟩
  have m3 := m2.alloc (.cells #[.bool false, .bool true, .bool false, .func (.func 110) #[] #[]] 149)
  have es := m3.eqs; simp only [EqsL, and_true] at es
  have ns := m3.nes; simp only [NeL, NeFrom, and_true, true_and] at ns
  go_wp2_with fail
  refine (shUse3_any ⟨7, cn, ByteArray.empty, ct, ⟨0, 0, ByteArray.empty⟩⟩ m3).mono ?_
  rintro e w2 ⟨rfl, m4⟩
  go_wp2_with fail
  refine (shIsName_any _ HF.out.to m4).mono ?_
  rintro e w3 ⟨rfl, m5⟩
  have es := m5.eqs
  simp only [EqsL, and_true] at es
  cases hn : isName ct
  all_goals (go_wp2_with fail; go_ret; exact ⟨ret_bool (by simp [hn]), m5.drop.drop⟩)
set_option maxRecDepth 10000 in
set_option maxHeartbeats 4000000 in
theorem shIsChange_any (c : ChangeM) (hf : c.fit) {w0 : World} {H : Hp} {L : List (Nat × Obj)} {w : World} (m : Mem w0 H L w) :
    Calls Tryz.prog 45 #[c.val] w (Ret w0 H L (.bool c.form)) := by
  by_cases h1 : c.kind = 1
  · exact shIsChange1_any c hf h1 m
  by_cases h2 : c.kind = 2
  · exact shIsChange2_any c hf h2 m
  by_cases h3 : c.kind = 3
  · exact shIsChange3_any c hf h3 m
  by_cases h4 : c.kind = 4
  · exact shIsChange4_any c hf h4 m
  by_cases h5 : c.kind = 5
  · exact shIsChange5_any c hf h5 m
  by_cases h6 : c.kind = 6
  · exact shIsChange6_any c hf h6 m
  by_cases h7 : c.kind = 7
  · exact shIsChange7_any c hf h7 m
  have hfm : c.form = false := by
    unfold ChangeM.form
    rw [if_neg h1, if_neg h2, if_neg h3, if_neg h4, if_neg h5, if_neg h6, if_neg h7]
  rw [hfm]
  have hk := hf.k
  have m1 := m.alloc (CBox c)
  unfold CBox at m1
  unfold ChangeM.val
  generalize hck : c.kind = k at *
  go_enter Tryz.func45, Tryz.ntmps45
  go_wp2_with fail
  refine (shUseOf_no k (by omega) hk m1).mono ?_
  rintro e w1 ⟨rfl, m2⟩
  have m3 := m2.alloc (.cells #[.bool false, .bool false, .bool false, .nilFunc] 149)
  go_wp2_with fail
  go_ret
  exact ⟨rfl, m3.drop.drop⟩
end Go.Proofs.YtbioklhoolkhkabGreat
namespace Go.Proofs.YtbioklhoolkhkabGreat
set_option linter.unusedVariables false
set_option linter.unusedSimpArgs false
open Go.RowKit

theorem In10_any (n lo hi : Int) (w : World) : Calls Tryz.prog 115 #[.int .i64 n, .int .i64 lo, .int .i64 hi] w fun e w' => e = .returned (.bool (decide (lo ≤ n ∧ n ≤ hi))) ∧ w = w' := by
  by_cases h1 : lo ≤ n
  · by_cases h2 : n ≤ hi
    · rw [decide_eq_true ⟨h1, h2⟩]
      go_enter Tryz.func115, Tryz.ntmps115
      go_wp2_with fail
      all_goals (go_ret; exact ⟨by first | rfl | simp [h1, h2], rfl⟩)
    · rw [decide_eq_false (fun h => h2 h.2)]
      go_enter Tryz.func115, Tryz.ntmps115
      go_wp2_with fail
      all_goals (go_ret; exact ⟨by first | rfl | (simp; omega), rfl⟩)
  · rw [decide_eq_false (fun h => h1 h.1)]
    go_enter Tryz.func115, Tryz.ntmps115
    go_wp2_with fail
    all_goals (go_ret; exact ⟨by first | rfl | (simp; omega), rfl⟩)
set_option maxHeartbeats 1000000 in
theorem RIsName_any (s : ByteArray) (hs : s.size ≤ maxLen) (w : World) :
    Calls Tryz.prog 81 #[.string s] w fun e w' => e = .returned (.bool (isName s)) ∧ w = w' := by
  have hs := size_le_maxLen hs
  go_enter Tryz.func81, Tryz.ntmps81
  go_wp2_with fail
  go_loop [3] (fun i => ∃ k : Nat, k ≤ s.size ∧ i = .int .i64 k ∧ (s.data.toList.take k).all nameByte = true) (fun i => s.size - (intOf i).toNat)
  case atStart => exact ⟨0, Nat.zero_le _, rfl, rfl⟩
  case round =>
    obtain ⟨k, hk, rfl, hall⟩ := hrel
    have HA := Lib.hid hall; clear hall
    by_cases hlt : k < s.size
    · have hltI : (k : Int) < s.size := by omega
      have h256 : s[k].toNat < 256 := s[k].toNat_lt
      cases ho : nameByte s[k]
      · have hb := (nameByte_not _).1 ho; have HO := Lib.hid ho; clear ho
        by_cases hr : 33 ≤ s[k].toNat ∧ s[k].toNat ≤ 126
        · have hin : decide ((33 : Int) ≤ (s[k].toNat : Int) ∧ (s[k].toNat : Int) ≤ 126) = true := decide_eq_true (by omega)
          have hx : ((s[k].toNat : Int) == 34) = true := by have : s[k].toNat = 34 := by omega
                                                            rw [this]; rfl
          go_wp2_with fail
          refine (In10_any _ _ _ _).mono ?_
          rintro e w' ⟨rfl, rfl⟩
          rw [hin]
          go_wp2_with fail
          all_goals (go_ret; exact ⟨ret_bool (by rw [isName_bad s k hlt HO.out]), rfl⟩)
        · have hin : decide ((33 : Int) ≤ (s[k].toNat : Int) ∧ (s[k].toNat : Int) ≤ 126) = false := decide_eq_false (by omega)
          go_wp2_with fail
          refine (In10_any _ _ _ _).mono ?_
          rintro e w' ⟨rfl, rfl⟩
          rw [hin]
          go_wp2_with fail
          all_goals (go_ret; exact ⟨ret_bool (by rw [isName_bad s k hlt HO.out]), rfl⟩)
      · have hb := (nameByte_iff _).1 ho; have HO := Lib.hid ho; clear ho
        have hx : ((s[k].toNat : Int) == 34) = false := beq_eq_false_iff_ne.2 (by omega)
        have hin : decide ((33 : Int) ≤ (s[k].toNat : Int) ∧ (s[k].toNat : Int) ≤ 126) = true := decide_eq_true (by omega)
        go_wp2_with fail
        refine (In10_any _ _ _ _).mono ?_
        rintro e w' ⟨rfl, rfl⟩
        rw [hin]
        go_wp2_with fail
        go_round
        case rel => exact ⟨k + 1, by omega, by go_num, nameByte_snoc s k hlt HA.out HO.out⟩
        case measure => simp [intOf]; omega
    · go_wp2_with fail
      refine (In10_any _ _ _ _).mono ?_
      rintro e w' ⟨rfl, rfl⟩
      go_wp2_with fail
      go_ret
      exact ⟨ret_bool (by rw [isName_all s k hlt HA.out, Bool.eq_iff_iff]; simp; omega), rfl⟩
set_option maxRecDepth 10000 in
set_option maxHeartbeats 4000000 in
theorem IsBasic_any (x : ValM) (hx : x.fit) {w0 : World} {H : Hp} {L : List (Nat × Obj)} {w : World} (m : Mem w0 H L w) :
    Calls Tryz.prog 82 #[x.v] w (Ret w0 H L (.bool x.basic)) := by
  have HX := Lib.hid hx
  have m1 := m.alloc (.cells #[.int .u8 x.kind, .int .i64 x.n, .string x.s] 41)
  have es := m1.eqs; simp only [EqsL, and_true] at es
  unfold ValM.basic
  have e4 : ((x.kind : Int) != 4) = decide (x.kind ≠ 4) := by rw [Bool.eq_iff_iff]; simp; omega
  have e5 : ((x.kind : Int) != 5) = decide (x.kind ≠ 5) := by rw [Bool.eq_iff_iff]; simp; omega
  have HE4 := Lib.hid e4
  have HE5 := Lib.hid e5
  clear e4 e5
  unfold ValM.v
  go_enter Tryz.func82, Tryz.ntmps82
  go_wp2_with fail
  refine (IsPlain_any x HX.out m1).mono ?_
  rintro e w1 ⟨rfl, m2⟩
  have es := m2.eqs; simp only [EqsL, and_true] at es
  cases hp : x.plain
  · go_wp2_with fail
    go_ret
    exact ⟨ret_bool (by simp [hp]), m2.drop⟩
  · by_cases h4 : x.kind = 4
    · have e4 : ((x.kind : Int) != 4) = false := by rw [h4]; rfl
      go_wp2_with fail
      all_goals (go_ret; exact ⟨ret_bool (by simp [hp, h4]), m2.drop⟩)
    · have e4 : ((x.kind : Int) != 4) = true := by simp; omega
      by_cases h5 : x.kind = 5
      · have e5 : ((x.kind : Int) != 5) = false := by rw [h5]; rfl
        go_wp2_with fail
        all_goals (go_ret; exact ⟨ret_bool (by simp [hp, h5]), m2.drop⟩)
      · have e5 : ((x.kind : Int) != 5) = true := by simp; omega
        go_wp2_with fail
        all_goals (go_ret; exact ⟨ret_bool (by simp [hp, h4, h5]), m2.drop⟩)
end Go.Proofs.YtbioklhoolkhkabGreat
namespace Go.Proofs.YtbioklhoolkhkabGreat
set_option linter.unusedVariables false
set_option linter.unusedSimpArgs false
open Go.RowKit

set_option maxRecDepth 10000 in
set_option maxHeartbeats 4000000 in
theorem IsForm1z_any (c : ChangeM) (hf : c.fit) (hk : c.kind = 1) (hv : c.v = unitV) {w0 : World} {H : Hp} {L : List (Nat × Obj)} {w : World} (m : Mem w0 H L w) :
    Calls Tryz.prog 48 #[c.val] w (Ret w0 H L (.bool c.form)) := by
  have HF := Lib.hid hf; clear hf
  obtain ⟨ck, cn, cf, ct, ⟨vk, vn, vs⟩⟩ := c
  simp only at hk
  subst hk
  simp only at hv
  obtain ⟨rfl, rfl, rfl⟩ := (ValM.ext_iff' _ _).1 hv
  have he : ∀ w : World, (binOp .eql 41 (.agg #[.int .u8 0, .int .i64 0, .string ⟨#[]⟩]) (.agg #[.int .u8 0, .int .i64 0, .string ⟨#[]⟩])).run Tryz.prog w = .ok (.bool true) w := fun w => eql_val 0 0 0 0 ⟨#[]⟩ ⟨#[]⟩ w
  unfold unitV at *
  simp only at *
  have m1 := m.alloc (CBox ⟨1, cn, cf, ct, ⟨0, 0, ByteArray.empty⟩⟩)
  unfold CBox at m1
  have es := m1.eqs; simp only [EqsL, and_true] at es
  unfold ChangeM.val ChangeM.form
  simp only [Nat.reduceEqDiff, if_true, if_false, reduceIte]
  have hvv := hv
  go_enter Tryz.func48, Tryz.ntmps48
  go_wp2_with fail
  refine (RIsName_any _ HF.out.field _).mono ?_
  rintro e w1 ⟨rfl, rfl⟩
  cases hn : isName cf
  · go_wp2_with fail
    go_ret
    exact ⟨ret_bool (by simp [hn]), m1.drop⟩
  by_cases hct : ct = ByteArray.empty
  rotate_left
  · have hl : ¬ ct.toList = [] := fun e => hct ((toList_nil _).1 e)
    have hb : (ct.toList == []) = false := beq_eq_false_iff_ne.2 hl
    go_wp2_with fail
    go_ret
    exact ⟨ret_bool (by simp [hn, hct]), m1.drop⟩
  subst hct
  go_wp2_with fail
  refine (IsBasic_any ⟨0, 0, ByteArray.empty⟩ HF.out.v m1).mono ?_
  rintro e w4 ⟨rfl, m6⟩
  go_wp2_with fail
  go_ret
  exact ⟨ret_bool (by simp [hn]), m6.drop⟩
set_option maxRecDepth 10000 in
set_option maxHeartbeats 4000000 in
theorem IsForm1n_any (c : ChangeM) (hf : c.fit) (hk : c.kind = 1) (hv : ¬ c.v = unitV) {w0 : World} {H : Hp} {L : List (Nat × Obj)} {w : World} (m : Mem w0 H L w) :
    Calls Tryz.prog 48 #[c.val] w (Ret w0 H L (.bool c.form)) := by
  have HF := Lib.hid hf; clear hf
  obtain ⟨ck, cn, cf, ct, ⟨vk, vn, vs⟩⟩ := c
  simp only at hk
  subst hk
  simp only at hv
  have hdv := decide_eq_false hv
  have he : ∀ w : World, (binOp .eql 41 (.agg #[.int .u8 vk, .int .i64 vn, .string vs]) (.agg #[.int .u8 0, .int .i64 0, .string ⟨#[]⟩])).run Tryz.prog w = .ok (.bool false) w := fun w => (eql_val vk 0 vn 0 vs ⟨#[]⟩ w).trans (by rw [decide_eq_false (show ¬ (⟨vk, vn, vs⟩ : ValM) = ⟨0, 0, ⟨#[]⟩⟩ from hv)])
  have m1 := m.alloc (CBox ⟨1, cn, cf, ct, ⟨vk, vn, vs⟩⟩)
  unfold CBox at m1
  have es := m1.eqs; simp only [EqsL, and_true] at es
  unfold ChangeM.val ChangeM.form
  simp only [Nat.reduceEqDiff, if_true, if_false, reduceIte]
  have hvv := hv
  go_enter Tryz.func48, Tryz.ntmps48
  go_wp2_with fail
  refine (RIsName_any _ HF.out.field _).mono ?_
  rintro e w1 ⟨rfl, rfl⟩
  cases hn : isName cf
  · go_wp2_with fail
    go_ret
    exact ⟨ret_bool (by simp [hn]), m1.drop⟩
  by_cases hct : ct = ByteArray.empty
  rotate_left
  · have hl : ¬ ct.toList = [] := fun e => hct ((toList_nil _).1 e)
    have hb : (ct.toList == []) = false := beq_eq_false_iff_ne.2 hl
    go_wp2_with fail
    go_ret
    exact ⟨ret_bool (by simp [hn, hct]), m1.drop⟩
  subst hct
  go_wp2_with fail
  refine (IsBasic_any ⟨vk, vn, vs⟩ HF.out.v m1).mono ?_
  rintro e w4 ⟨rfl, m6⟩
  go_wp2_with fail
  go_ret
  exact ⟨ret_bool (by simp [hn]), m6.drop⟩
set_option maxRecDepth 10000 in
set_option maxHeartbeats 4000000 in
theorem IsForm2z_any (c : ChangeM) (hf : c.fit) (hk : c.kind = 2) (hv : c.v = unitV) {w0 : World} {H : Hp} {L : List (Nat × Obj)} {w : World} (m : Mem w0 H L w) :
    Calls Tryz.prog 48 #[c.val] w (Ret w0 H L (.bool c.form)) := by
  have HF := Lib.hid hf; clear hf
  obtain ⟨ck, cn, cf, ct, ⟨vk, vn, vs⟩⟩ := c
  simp only at hk
  subst hk
  simp only at hv
  obtain ⟨rfl, rfl, rfl⟩ := (ValM.ext_iff' _ _).1 hv
  have he : ∀ w : World, (binOp .eql 41 (.agg #[.int .u8 0, .int .i64 0, .string ⟨#[]⟩]) (.agg #[.int .u8 0, .int .i64 0, .string ⟨#[]⟩])).run Tryz.prog w = .ok (.bool true) w := fun w => eql_val 0 0 0 0 ⟨#[]⟩ ⟨#[]⟩ w
  unfold unitV at *
  simp only at *
  have m1 := m.alloc (CBox ⟨2, cn, cf, ct, ⟨0, 0, ByteArray.empty⟩⟩)
  unfold CBox at m1
  have es := m1.eqs; simp only [EqsL, and_true] at es
  unfold ChangeM.val ChangeM.form
  simp only [Nat.reduceEqDiff, if_true, if_false, reduceIte]
  have hvv := hv
  go_enter Tryz.func48, Tryz.ntmps48
  by_cases hct : ct = ByteArray.empty
  rotate_left
  · have hl : ¬ ct.toList = [] := fun e => hct ((toList_nil _).1 e)
    have hb : (ct.toList == []) = false := beq_eq_false_iff_ne.2 hl
    go_wp2_with fail
    go_ret
    exact ⟨ret_bool (by simp [hct]), m1.drop⟩
  subst hct
  go_wp2_with fail
  go_ret
  exact ⟨ret_bool (by simp [unitV]), m1.drop⟩
set_option maxRecDepth 10000 in
set_option maxHeartbeats 4000000 in
theorem IsForm2n_any (c : ChangeM) (hf : c.fit) (hk : c.kind = 2) (hv : ¬ c.v = unitV) {w0 : World} {H : Hp} {L : List (Nat × Obj)} {w : World} (m : Mem w0 H L w) :
    Calls Tryz.prog 48 #[c.val] w (Ret w0 H L (.bool c.form)) := by
  have HF := Lib.hid hf; clear hf
  obtain ⟨ck, cn, cf, ct, ⟨vk, vn, vs⟩⟩ := c
  simp only at hk
  subst hk
  simp only at hv
  have hdv := decide_eq_false hv
  have he : ∀ w : World, (binOp .eql 41 (.agg #[.int .u8 vk, .int .i64 vn, .string vs]) (.agg #[.int .u8 0, .int .i64 0, .string ⟨#[]⟩])).run Tryz.prog w = .ok (.bool false) w := fun w => (eql_val vk 0 vn 0 vs ⟨#[]⟩ w).trans (by rw [decide_eq_false (show ¬ (⟨vk, vn, vs⟩ : ValM) = ⟨0, 0, ⟨#[]⟩⟩ from hv)])
  have m1 := m.alloc (CBox ⟨2, cn, cf, ct, ⟨vk, vn, vs⟩⟩)
  unfold CBox at m1
  have es := m1.eqs; simp only [EqsL, and_true] at es
  unfold ChangeM.val ChangeM.form
  simp only [Nat.reduceEqDiff, if_true, if_false, reduceIte]
  have hvv := hv
  go_enter Tryz.func48, Tryz.ntmps48
  by_cases hct : ct = ByteArray.empty
  rotate_left
  · have hl : ¬ ct.toList = [] := fun e => hct ((toList_nil _).1 e)
    have hb : (ct.toList == []) = false := beq_eq_false_iff_ne.2 hl
    go_wp2_with fail
    go_ret
    exact ⟨ret_bool (by simp [hct]), m1.drop⟩
  subst hct
  go_wp2_with fail
  go_ret
  exact ⟨ret_bool (by simp [hdv]), m1.drop⟩
set_option maxRecDepth 10000 in
set_option maxHeartbeats 4000000 in
theorem IsForm3z_any (c : ChangeM) (hf : c.fit) (hk : c.kind = 3) (hv : c.v = unitV) {w0 : World} {H : Hp} {L : List (Nat × Obj)} {w : World} (m : Mem w0 H L w) :
    Calls Tryz.prog 48 #[c.val] w (Ret w0 H L (.bool c.form)) := by
  have HF := Lib.hid hf; clear hf
  obtain ⟨ck, cn, cf, ct, ⟨vk, vn, vs⟩⟩ := c
  simp only at hk
  subst hk
  simp only at hv
  obtain ⟨rfl, rfl, rfl⟩ := (ValM.ext_iff' _ _).1 hv
  have he : ∀ w : World, (binOp .eql 41 (.agg #[.int .u8 0, .int .i64 0, .string ⟨#[]⟩]) (.agg #[.int .u8 0, .int .i64 0, .string ⟨#[]⟩])).run Tryz.prog w = .ok (.bool true) w := fun w => eql_val 0 0 0 0 ⟨#[]⟩ ⟨#[]⟩ w
  unfold unitV at *
  simp only at *
  have m1 := m.alloc (CBox ⟨3, cn, cf, ct, ⟨0, 0, ByteArray.empty⟩⟩)
  unfold CBox at m1
  have es := m1.eqs; simp only [EqsL, and_true] at es
  unfold ChangeM.val ChangeM.form
  simp only [Nat.reduceEqDiff, if_true, if_false, reduceIte]
  have hvv := hv
  go_enter Tryz.func48, Tryz.ntmps48
  go_wp2_with fail
  refine (RIsName_any _ HF.out.to _).mono ?_
  rintro e w1 ⟨rfl, rfl⟩
  cases hn : isName ct
  · go_wp2_with fail
    go_ret
    exact ⟨ret_bool (by simp [hn]), m1.drop⟩
  go_wp2_with fail
  go_ret
  exact ⟨ret_bool (by simp [hn, unitV]), m1.drop⟩
set_option maxRecDepth 10000 in
set_option maxHeartbeats 4000000 in
theorem IsForm3n_any (c : ChangeM) (hf : c.fit) (hk : c.kind = 3) (hv : ¬ c.v = unitV) {w0 : World} {H : Hp} {L : List (Nat × Obj)} {w : World} (m : Mem w0 H L w) :
    Calls Tryz.prog 48 #[c.val] w (Ret w0 H L (.bool c.form)) := by
  have HF := Lib.hid hf; clear hf
  obtain ⟨ck, cn, cf, ct, ⟨vk, vn, vs⟩⟩ := c
  simp only at hk
  subst hk
  simp only at hv
  have hdv := decide_eq_false hv
  have he : ∀ w : World, (binOp .eql 41 (.agg #[.int .u8 vk, .int .i64 vn, .string vs]) (.agg #[.int .u8 0, .int .i64 0, .string ⟨#[]⟩])).run Tryz.prog w = .ok (.bool false) w := fun w => (eql_val vk 0 vn 0 vs ⟨#[]⟩ w).trans (by rw [decide_eq_false (show ¬ (⟨vk, vn, vs⟩ : ValM) = ⟨0, 0, ⟨#[]⟩⟩ from hv)])
  have m1 := m.alloc (CBox ⟨3, cn, cf, ct, ⟨vk, vn, vs⟩⟩)
  unfold CBox at m1
  have es := m1.eqs; simp only [EqsL, and_true] at es
  unfold ChangeM.val ChangeM.form
  simp only [Nat.reduceEqDiff, if_true, if_false, reduceIte]
  have hvv := hv
  go_enter Tryz.func48, Tryz.ntmps48
  go_wp2_with fail
  refine (RIsName_any _ HF.out.to _).mono ?_
  rintro e w1 ⟨rfl, rfl⟩
  cases hn : isName ct
  · go_wp2_with fail
    go_ret
    exact ⟨ret_bool (by simp [hn]), m1.drop⟩
  go_wp2_with fail
  go_ret
  exact ⟨ret_bool (by simp [hn, hdv]), m1.drop⟩
set_option maxRecDepth 10000 in
set_option maxHeartbeats 4000000 in
theorem IsForm4z_any (c : ChangeM) (hf : c.fit) (hk : c.kind = 4) (hv : c.v = unitV) {w0 : World} {H : Hp} {L : List (Nat × Obj)} {w : World} (m : Mem w0 H L w) :
    Calls Tryz.prog 48 #[c.val] w (Ret w0 H L (.bool c.form)) := by
  have HF := Lib.hid hf; clear hf
  obtain ⟨ck, cn, cf, ct, ⟨vk, vn, vs⟩⟩ := c
  simp only at hk
  subst hk
  simp only at hv
  obtain ⟨rfl, rfl, rfl⟩ := (ValM.ext_iff' _ _).1 hv
  have he : ∀ w : World, (binOp .eql 41 (.agg #[.int .u8 0, .int .i64 0, .string ⟨#[]⟩]) (.agg #[.int .u8 0, .int .i64 0, .string ⟨#[]⟩])).run Tryz.prog w = .ok (.bool true) w := fun w => eql_val 0 0 0 0 ⟨#[]⟩ ⟨#[]⟩ w
  unfold unitV at *
  simp only at *
  have m1 := m.alloc (CBox ⟨4, cn, cf, ct, ⟨0, 0, ByteArray.empty⟩⟩)
  unfold CBox at m1
  have es := m1.eqs; simp only [EqsL, and_true] at es
  unfold ChangeM.val ChangeM.form
  simp only [Nat.reduceEqDiff, if_true, if_false, reduceIte]
  have hvv := hv
  go_enter Tryz.func48, Tryz.ntmps48
  go_wp2_with fail
  refine (RIsName_any _ HF.out.to _).mono ?_
  rintro e w1 ⟨rfl, rfl⟩
  cases hn : isName ct
  · go_wp2_with fail
    go_ret
    exact ⟨ret_bool (by simp [hn]), m1.drop⟩
  by_cases hcf : cf = ByteArray.empty
  rotate_left
  · have hl : ¬ cf.toList = [] := fun e => hcf ((toList_nil _).1 e)
    have hb : (cf.toList == []) = false := beq_eq_false_iff_ne.2 hl
    go_wp2_with fail
    go_ret
    exact ⟨ret_bool (by simp [hn, hcf]), m1.drop⟩
  subst hcf
  go_wp2_with fail
  go_ret
  exact ⟨ret_bool (by simp [hn, unitV]), m1.drop⟩
set_option maxRecDepth 10000 in
set_option maxHeartbeats 4000000 in
theorem IsForm4n_any (c : ChangeM) (hf : c.fit) (hk : c.kind = 4) (hv : ¬ c.v = unitV) {w0 : World} {H : Hp} {L : List (Nat × Obj)} {w : World} (m : Mem w0 H L w) :
    Calls Tryz.prog 48 #[c.val] w (Ret w0 H L (.bool c.form)) := by
  have HF := Lib.hid hf; clear hf
  obtain ⟨ck, cn, cf, ct, ⟨vk, vn, vs⟩⟩ := c
  simp only at hk
  subst hk
  simp only at hv
  have hdv := decide_eq_false hv
  have he : ∀ w : World, (binOp .eql 41 (.agg #[.int .u8 vk, .int .i64 vn, .string vs]) (.agg #[.int .u8 0, .int .i64 0, .string ⟨#[]⟩])).run Tryz.prog w = .ok (.bool false) w := fun w => (eql_val vk 0 vn 0 vs ⟨#[]⟩ w).trans (by rw [decide_eq_false (show ¬ (⟨vk, vn, vs⟩ : ValM) = ⟨0, 0, ⟨#[]⟩⟩ from hv)])
  have m1 := m.alloc (CBox ⟨4, cn, cf, ct, ⟨vk, vn, vs⟩⟩)
  unfold CBox at m1
  have es := m1.eqs; simp only [EqsL, and_true] at es
  unfold ChangeM.val ChangeM.form
  simp only [Nat.reduceEqDiff, if_true, if_false, reduceIte]
  have hvv := hv
  go_enter Tryz.func48, Tryz.ntmps48
  go_wp2_with fail
  refine (RIsName_any _ HF.out.to _).mono ?_
  rintro e w1 ⟨rfl, rfl⟩
  cases hn : isName ct
  · go_wp2_with fail
    go_ret
    exact ⟨ret_bool (by simp [hn]), m1.drop⟩
  by_cases hcf : cf = ByteArray.empty
  rotate_left
  · have hl : ¬ cf.toList = [] := fun e => hcf ((toList_nil _).1 e)
    have hb : (cf.toList == []) = false := beq_eq_false_iff_ne.2 hl
    go_wp2_with fail
    go_ret
    exact ⟨ret_bool (by simp [hn, hcf]), m1.drop⟩
  subst hcf
  go_wp2_with fail
  go_ret
  exact ⟨ret_bool (by simp [hn, hdv]), m1.drop⟩
set_option maxRecDepth 10000 in
set_option maxHeartbeats 4000000 in
theorem IsForm5z_any (c : ChangeM) (hf : c.fit) (hk : c.kind = 5) (hv : c.v = unitV) {w0 : World} {H : Hp} {L : List (Nat × Obj)} {w : World} (m : Mem w0 H L w) :
    Calls Tryz.prog 48 #[c.val] w (Ret w0 H L (.bool c.form)) := by
  have HF := Lib.hid hf; clear hf
  obtain ⟨ck, cn, cf, ct, ⟨vk, vn, vs⟩⟩ := c
  simp only at hk
  subst hk
  simp only at hv
  obtain ⟨rfl, rfl, rfl⟩ := (ValM.ext_iff' _ _).1 hv
  have he : ∀ w : World, (binOp .eql 41 (.agg #[.int .u8 0, .int .i64 0, .string ⟨#[]⟩]) (.agg #[.int .u8 0, .int .i64 0, .string ⟨#[]⟩])).run Tryz.prog w = .ok (.bool true) w := fun w => eql_val 0 0 0 0 ⟨#[]⟩ ⟨#[]⟩ w
  unfold unitV at *
  simp only at *
  have m1 := m.alloc (CBox ⟨5, cn, cf, ct, ⟨0, 0, ByteArray.empty⟩⟩)
  unfold CBox at m1
  have es := m1.eqs; simp only [EqsL, and_true] at es
  unfold ChangeM.val ChangeM.form
  simp only [Nat.reduceEqDiff, if_true, if_false, reduceIte]
  have hvv := hv
  go_enter Tryz.func48, Tryz.ntmps48
  go_wp2_with fail
  refine (RIsName_any _ HF.out.name _).mono ?_
  rintro e w1 ⟨rfl, rfl⟩
  cases hn : isName cn
  · go_wp2_with fail
    go_ret
    exact ⟨ret_bool (by simp [hn]), m1.drop⟩
  by_cases hcf : cf = ByteArray.empty
  rotate_left
  · have hl : ¬ cf.toList = [] := fun e => hcf ((toList_nil _).1 e)
    have hb : (cf.toList == []) = false := beq_eq_false_iff_ne.2 hl
    go_wp2_with fail
    go_ret
    exact ⟨ret_bool (by simp [hn, hcf]), m1.drop⟩
  subst hcf
  by_cases hct : ct = ByteArray.empty
  rotate_left
  · have hl : ¬ ct.toList = [] := fun e => hct ((toList_nil _).1 e)
    have hb : (ct.toList == []) = false := beq_eq_false_iff_ne.2 hl
    go_wp2_with fail
    go_ret
    exact ⟨ret_bool (by simp [hn, hct]), m1.drop⟩
  subst hct
  go_wp2_with fail
  refine (IsBasic_any ⟨0, 0, ByteArray.empty⟩ HF.out.v m1).mono ?_
  rintro e w4 ⟨rfl, m6⟩
  go_wp2_with fail
  go_ret
  exact ⟨ret_bool (by simp [hn]), m6.drop⟩
set_option maxRecDepth 10000 in
set_option maxHeartbeats 4000000 in
theorem IsForm5n_any (c : ChangeM) (hf : c.fit) (hk : c.kind = 5) (hv : ¬ c.v = unitV) {w0 : World} {H : Hp} {L : List (Nat × Obj)} {w : World} (m : Mem w0 H L w) :
    Calls Tryz.prog 48 #[c.val] w (Ret w0 H L (.bool c.form)) := by
  have HF := Lib.hid hf; clear hf
  obtain ⟨ck, cn, cf, ct, ⟨vk, vn, vs⟩⟩ := c
  simp only at hk
  subst hk
  simp only at hv
  have hdv := decide_eq_false hv
  have he : ∀ w : World, (binOp .eql 41 (.agg #[.int .u8 vk, .int .i64 vn, .string vs]) (.agg #[.int .u8 0, .int .i64 0, .string ⟨#[]⟩])).run Tryz.prog w = .ok (.bool false) w := fun w => (eql_val vk 0 vn 0 vs ⟨#[]⟩ w).trans (by rw [decide_eq_false (show ¬ (⟨vk, vn, vs⟩ : ValM) = ⟨0, 0, ⟨#[]⟩⟩ from hv)])
  have m1 := m.alloc (CBox ⟨5, cn, cf, ct, ⟨vk, vn, vs⟩⟩)
  unfold CBox at m1
  have es := m1.eqs; simp only [EqsL, and_true] at es
  unfold ChangeM.val ChangeM.form
  simp only [Nat.reduceEqDiff, if_true, if_false, reduceIte]
  have hvv := hv
  go_enter Tryz.func48, Tryz.ntmps48
  go_wp2_with fail
  refine (RIsName_any _ HF.out.name _).mono ?_
  rintro e w1 ⟨rfl, rfl⟩
  cases hn : isName cn
  · go_wp2_with fail
    go_ret
    exact ⟨ret_bool (by simp [hn]), m1.drop⟩
  by_cases hcf : cf = ByteArray.empty
  rotate_left
  · have hl : ¬ cf.toList = [] := fun e => hcf ((toList_nil _).1 e)
    have hb : (cf.toList == []) = false := beq_eq_false_iff_ne.2 hl
    go_wp2_with fail
    go_ret
    exact ⟨ret_bool (by simp [hn, hcf]), m1.drop⟩
  subst hcf
  by_cases hct : ct = ByteArray.empty
  rotate_left
  · have hl : ¬ ct.toList = [] := fun e => hct ((toList_nil _).1 e)
    have hb : (ct.toList == []) = false := beq_eq_false_iff_ne.2 hl
    go_wp2_with fail
    go_ret
    exact ⟨ret_bool (by simp [hn, hct]), m1.drop⟩
  subst hct
  go_wp2_with fail
  refine (IsBasic_any ⟨vk, vn, vs⟩ HF.out.v m1).mono ?_
  rintro e w4 ⟨rfl, m6⟩
  go_wp2_with fail
  go_ret
  exact ⟨ret_bool (by simp [hn]), m6.drop⟩
set_option maxRecDepth 10000 in
set_option maxHeartbeats 4000000 in
theorem IsForm6z_any (c : ChangeM) (hf : c.fit) (hk : c.kind = 6) (hv : c.v = unitV) {w0 : World} {H : Hp} {L : List (Nat × Obj)} {w : World} (m : Mem w0 H L w) :
    Calls Tryz.prog 48 #[c.val] w (Ret w0 H L (.bool c.form)) := by
  have HF := Lib.hid hf; clear hf
  obtain ⟨ck, cn, cf, ct, ⟨vk, vn, vs⟩⟩ := c
  simp only at hk
  subst hk
  simp only at hv
  obtain ⟨rfl, rfl, rfl⟩ := (ValM.ext_iff' _ _).1 hv
  have he : ∀ w : World, (binOp .eql 41 (.agg #[.int .u8 0, .int .i64 0, .string ⟨#[]⟩]) (.agg #[.int .u8 0, .int .i64 0, .string ⟨#[]⟩])).run Tryz.prog w = .ok (.bool true) w := fun w => eql_val 0 0 0 0 ⟨#[]⟩ ⟨#[]⟩ w
  unfold unitV at *
  simp only at *
  have m1 := m.alloc (CBox ⟨6, cn, cf, ct, ⟨0, 0, ByteArray.empty⟩⟩)
  unfold CBox at m1
  have es := m1.eqs; simp only [EqsL, and_true] at es
  unfold ChangeM.val ChangeM.form
  simp only [Nat.reduceEqDiff, if_true, if_false, reduceIte]
  have hvv := hv
  go_enter Tryz.func48, Tryz.ntmps48
  by_cases hcf : cf = ByteArray.empty
  rotate_left
  · have hl : ¬ cf.toList = [] := fun e => hcf ((toList_nil _).1 e)
    have hb : (cf.toList == []) = false := beq_eq_false_iff_ne.2 hl
    go_wp2_with fail
    go_ret
    exact ⟨ret_bool (by simp [hcf]), m1.drop⟩
  subst hcf
  by_cases hct : ct = ByteArray.empty
  rotate_left
  · have hl : ¬ ct.toList = [] := fun e => hct ((toList_nil _).1 e)
    have hb : (ct.toList == []) = false := beq_eq_false_iff_ne.2 hl
    go_wp2_with fail
    go_ret
    exact ⟨ret_bool (by simp [hct]), m1.drop⟩
  subst hct
  go_wp2_with fail
  go_ret
  exact ⟨ret_bool (by simp [unitV]), m1.drop⟩
set_option maxRecDepth 10000 in
set_option maxHeartbeats 4000000 in
theorem IsForm6n_any (c : ChangeM) (hf : c.fit) (hk : c.kind = 6) (hv : ¬ c.v = unitV) {w0 : World} {H : Hp} {L : List (Nat × Obj)} {w : World} (m : Mem w0 H L w) :
    Calls Tryz.prog 48 #[c.val] w (Ret w0 H L (.bool c.form)) := by
  have HF := Lib.hid hf; clear hf
  obtain ⟨ck, cn, cf, ct, ⟨vk, vn, vs⟩⟩ := c
  simp only at hk
  subst hk
  simp only at hv
  have hdv := decide_eq_false hv
  have he : ∀ w : World, (binOp .eql 41 (.agg #[.int .u8 vk, .int .i64 vn, .string vs]) (.agg #[.int .u8 0, .int .i64 0, .string ⟨#[]⟩])).run Tryz.prog w = .ok (.bool false) w := fun w => (eql_val vk 0 vn 0 vs ⟨#[]⟩ w).trans (by rw [decide_eq_false (show ¬ (⟨vk, vn, vs⟩ : ValM) = ⟨0, 0, ⟨#[]⟩⟩ from hv)])
  have m1 := m.alloc (CBox ⟨6, cn, cf, ct, ⟨vk, vn, vs⟩⟩)
  unfold CBox at m1
  have es := m1.eqs; simp only [EqsL, and_true] at es
  unfold ChangeM.val ChangeM.form
  simp only [Nat.reduceEqDiff, if_true, if_false, reduceIte]
  have hvv := hv
  go_enter Tryz.func48, Tryz.ntmps48
  by_cases hcf : cf = ByteArray.empty
  rotate_left
  · have hl : ¬ cf.toList = [] := fun e => hcf ((toList_nil _).1 e)
    have hb : (cf.toList == []) = false := beq_eq_false_iff_ne.2 hl
    go_wp2_with fail
    go_ret
    exact ⟨ret_bool (by simp [hcf]), m1.drop⟩
  subst hcf
  by_cases hct : ct = ByteArray.empty
  rotate_left
  · have hl : ¬ ct.toList = [] := fun e => hct ((toList_nil _).1 e)
    have hb : (ct.toList == []) = false := beq_eq_false_iff_ne.2 hl
    go_wp2_with fail
    go_ret
    exact ⟨ret_bool (by simp [hct]), m1.drop⟩
  subst hct
  go_wp2_with fail
  go_ret
  exact ⟨ret_bool (by simp [hdv]), m1.drop⟩
set_option maxRecDepth 10000 in
set_option maxHeartbeats 4000000 in
theorem IsForm7z_any (c : ChangeM) (hf : c.fit) (hk : c.kind = 7) (hv : c.v = unitV) {w0 : World} {H : Hp} {L : List (Nat × Obj)} {w : World} (m : Mem w0 H L w) :
    Calls Tryz.prog 48 #[c.val] w (Ret w0 H L (.bool c.form)) := by
  have HF := Lib.hid hf; clear hf
  obtain ⟨ck, cn, cf, ct, ⟨vk, vn, vs⟩⟩ := c
  simp only at hk
  subst hk
  simp only at hv
  obtain ⟨rfl, rfl, rfl⟩ := (ValM.ext_iff' _ _).1 hv
  have he : ∀ w : World, (binOp .eql 41 (.agg #[.int .u8 0, .int .i64 0, .string ⟨#[]⟩]) (.agg #[.int .u8 0, .int .i64 0, .string ⟨#[]⟩])).run Tryz.prog w = .ok (.bool true) w := fun w => eql_val 0 0 0 0 ⟨#[]⟩ ⟨#[]⟩ w
  unfold unitV at *
  simp only at *
  have m1 := m.alloc (CBox ⟨7, cn, cf, ct, ⟨0, 0, ByteArray.empty⟩⟩)
  unfold CBox at m1
  have es := m1.eqs; simp only [EqsL, and_true] at es
  unfold ChangeM.val ChangeM.form
  simp only [Nat.reduceEqDiff, if_true, if_false, reduceIte]
  have hvv := hv
  go_enter Tryz.func48, Tryz.ntmps48
  go_wp2_with fail
  refine (RIsName_any _ HF.out.to _).mono ?_
  rintro e w1 ⟨rfl, rfl⟩
  cases hn : isName ct
  · go_wp2_with fail
    go_ret
    exact ⟨ret_bool (by simp [hn]), m1.drop⟩
  by_cases hcf : cf = ByteArray.empty
  rotate_left
  · have hl : ¬ cf.toList = [] := fun e => hcf ((toList_nil _).1 e)
    have hb : (cf.toList == []) = false := beq_eq_false_iff_ne.2 hl
    go_wp2_with fail
    go_ret
    exact ⟨ret_bool (by simp [hn, hcf]), m1.drop⟩
  subst hcf
  go_wp2_with fail
  go_ret
  exact ⟨ret_bool (by simp [hn, unitV]), m1.drop⟩
set_option maxRecDepth 10000 in
set_option maxHeartbeats 4000000 in
theorem IsForm7n_any (c : ChangeM) (hf : c.fit) (hk : c.kind = 7) (hv : ¬ c.v = unitV) {w0 : World} {H : Hp} {L : List (Nat × Obj)} {w : World} (m : Mem w0 H L w) :
    Calls Tryz.prog 48 #[c.val] w (Ret w0 H L (.bool c.form)) := by
  have HF := Lib.hid hf; clear hf
  obtain ⟨ck, cn, cf, ct, ⟨vk, vn, vs⟩⟩ := c
  simp only at hk
  subst hk
  simp only at hv
  have hdv := decide_eq_false hv
  have he : ∀ w : World, (binOp .eql 41 (.agg #[.int .u8 vk, .int .i64 vn, .string vs]) (.agg #[.int .u8 0, .int .i64 0, .string ⟨#[]⟩])).run Tryz.prog w = .ok (.bool false) w := fun w => (eql_val vk 0 vn 0 vs ⟨#[]⟩ w).trans (by rw [decide_eq_false (show ¬ (⟨vk, vn, vs⟩ : ValM) = ⟨0, 0, ⟨#[]⟩⟩ from hv)])
  have m1 := m.alloc (CBox ⟨7, cn, cf, ct, ⟨vk, vn, vs⟩⟩)
  unfold CBox at m1
  have es := m1.eqs; simp only [EqsL, and_true] at es
  unfold ChangeM.val ChangeM.form
  simp only [Nat.reduceEqDiff, if_true, if_false, reduceIte]
  have hvv := hv
  go_enter Tryz.func48, Tryz.ntmps48
  go_wp2_with fail
  refine (RIsName_any _ HF.out.to _).mono ?_
  rintro e w1 ⟨rfl, rfl⟩
  cases hn : isName ct
  · go_wp2_with fail
    go_ret
    exact ⟨ret_bool (by simp [hn]), m1.drop⟩
  by_cases hcf : cf = ByteArray.empty
  rotate_left
  · have hl : ¬ cf.toList = [] := fun e => hcf ((toList_nil _).1 e)
    have hb : (cf.toList == []) = false := beq_eq_false_iff_ne.2 hl
    go_wp2_with fail
    go_ret
    exact ⟨ret_bool (by simp [hn, hcf]), m1.drop⟩
  subst hcf
  go_wp2_with fail
  go_ret
  exact ⟨ret_bool (by simp [hn, hdv]), m1.drop⟩
set_option maxRecDepth 10000 in
set_option maxHeartbeats 4000000 in
theorem IsForm_any (c : ChangeM) (hf : c.fit) {w0 : World} {H : Hp} {L : List (Nat × Obj)} {w : World} (m : Mem w0 H L w) :
    Calls Tryz.prog 48 #[c.val] w (Ret w0 H L (.bool c.form)) := by
  by_cases h1 : c.kind = 1
  · by_cases hv : c.v = unitV
    · exact IsForm1z_any c hf h1 hv m
    · exact IsForm1n_any c hf h1 hv m
  by_cases h2 : c.kind = 2
  · by_cases hv : c.v = unitV
    · exact IsForm2z_any c hf h2 hv m
    · exact IsForm2n_any c hf h2 hv m
  by_cases h3 : c.kind = 3
  · by_cases hv : c.v = unitV
    · exact IsForm3z_any c hf h3 hv m
    · exact IsForm3n_any c hf h3 hv m
  by_cases h4 : c.kind = 4
  · by_cases hv : c.v = unitV
    · exact IsForm4z_any c hf h4 hv m
    · exact IsForm4n_any c hf h4 hv m
  by_cases h5 : c.kind = 5
  · by_cases hv : c.v = unitV
    · exact IsForm5z_any c hf h5 hv m
    · exact IsForm5n_any c hf h5 hv m
  by_cases h6 : c.kind = 6
  · by_cases hv : c.v = unitV
    · exact IsForm6z_any c hf h6 hv m
    · exact IsForm6n_any c hf h6 hv m
  by_cases h7 : c.kind = 7
  · by_cases hv : c.v = unitV
    · exact IsForm7z_any c hf h7 hv m
    · exact IsForm7n_any c hf h7 hv m
  have hfm : c.form = false := by
    unfold ChangeM.form
    rw [if_neg h1, if_neg h2, if_neg h3, if_neg h4, if_neg h5, if_neg h6, if_neg h7]
  rw [hfm]
  have m1 := m.alloc (CBox c)
  unfold CBox at m1
  have es := m1.eqs; simp only [EqsL, and_true] at es
  have hk := hf.k
  have he := fun w : World => eql_val c.v.kind 0 c.v.n 0 c.v.s ⟨#[]⟩ w
  unfold ChangeM.val
  generalize hck : c.kind = k at *
  have e1 : ((k : Int) == 1) = false := by simp; omega
  have e2 : ((k : Int) == 2) = false := by simp; omega
  have e3 : ((k : Int) == 3) = false := by simp; omega
  have e4 : ((k : Int) == 4) = false := by simp; omega
  have e5 : ((k : Int) == 5) = false := by simp; omega
  have e6 : ((k : Int) == 6) = false := by simp; omega
  have e7 : ((k : Int) == 7) = false := by simp; omega
  generalize hz : decide ((⟨c.v.kind, c.v.n, c.v.s⟩ : ValM) = ⟨0, 0, ⟨#[]⟩⟩) = z at *
  have he2 : ∀ w : World, (binOp .eql 41 (.agg #[.int .u8 c.v.kind, .int .i64 c.v.n, .string c.v.s]) (.agg #[.int .u8 0, .int .i64 0, .string ⟨#[]⟩])).run Tryz.prog w = .ok (.bool z) w := he
  clear he
  go_enter Tryz.func48, Tryz.ntmps48
  go_wp2_with fail
  go_ret
  exact ⟨rfl, m1.drop⟩
end Go.Proofs.YtbioklhoolkhkabGreat
