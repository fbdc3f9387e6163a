/- The walks of the reference: its small functions. The walks of the reference: texts, names, values. The walks of the reference: values and objects of a heap. The walks of the reference: registers, and words. The walk of the reference: how many words are due. The walks of the reference: lists of values compared; objects compared. -/
import Derived.Test.YthipkmmdjhpklaaK12
import Derived.Test.YthipkmmdjhpklaaK01
namespace Go.Proofs.Ythipkmmdjhpklaa
set_option linter.unusedVariables false
set_option linter.unusedSimpArgs false
open Go.RowKit

set_option maxHeartbeats 400000 in
theorem In_any (n lo hi : Int) (w : World) : Calls Try.prog 13 #[.int .i64 n, .int .i64 lo, .int .i64 hi] w fun e w' => e = .returned (.bool (decide (lo ≤ n ∧ n ≤ hi))) ∧ w = w' := by
  by_cases h1 : lo ≤ n
  · by_cases h2 : n ≤ hi
    · rw [decide_eq_true ⟨h1, h2⟩]
      go_enter Try.func13, Try.ntmps13
      go_wp2_with fail
      all_goals (go_ret; exact ⟨by first | rfl | simp [h1, h2], rfl⟩)
    · rw [decide_eq_false (fun h => h2 h.2)]
      go_enter Try.func13, Try.ntmps13
      go_wp2_with fail
      all_goals (go_ret; exact ⟨by first | rfl | (simp; omega), rfl⟩)
  · rw [decide_eq_false (fun h => h1 h.1)]
    go_enter Try.func13, Try.ntmps13
    go_wp2_with fail
    all_goals (go_ret; exact ⟨by first | rfl | (simp; omega), rfl⟩)
set_option maxHeartbeats 400000 in
theorem KRef_any (n : Int) {w0 : World} {H : Hp} {L : List (Nat × Obj)} {w : World} (m : Mem w0 H L w) : Calls Try.prog 46 #[.int .i64 n] w (RetV w0 H L (⟨5, n, ByteArray.empty⟩ : ValM)) := by
  go_enter Try.func46, Try.ntmps46
  go_wp2_with fail
  refine bodyPost_ret (v := (⟨5, n, ByteArray.empty⟩ : ValM).v) (by simp [results, Try.results46, go_sem]; rfl) rfl ?_
  exact ⟨rfl, (m.alloc _).drop⟩
set_option maxHeartbeats 400000 in
theorem KInt_any (n : Int) {w0 : World} {H : Hp} {L : List (Nat × Obj)} {w : World} (m : Mem w0 H L w) : Calls Try.prog 47 #[.int .i64 n] w (RetV w0 H L (intV n)) := by
  go_enter Try.func47, Try.ntmps47
  go_wp2_with fail
  refine bodyPost_ret (v := (intV n).v) (by simp [results, Try.results47, go_sem]; rfl) rfl ?_
  exact ⟨rfl, (m.alloc _).drop⟩
set_option maxHeartbeats 400000 in
theorem KText_any (s : ByteArray) (hs : s.size ≤ maxLen) {w0 : World} {H : Hp} {L : List (Nat × Obj)} {w : World} (m : Mem w0 H L w) : Calls Try.prog 44 #[.string s] w (RetV w0 H L (textV s)) := by
  go_enter Try.func44, Try.ntmps44
  go_wp2_with fail
  refine bodyPost_ret (v := (textV s).v) (by simp [results, Try.results44, go_sem]; rfl) rfl ?_
  exact ⟨rfl, (m.alloc _).drop⟩
set_option maxHeartbeats 400000 in
theorem KBool_any (n : Bool) {w0 : World} {H : Hp} {L : List (Nat × Obj)} {w : World} (m : Mem w0 H L w) : Calls Try.prog 45 #[.bool n] w (RetV w0 H L (boolV n)) := by
  cases n
  · go_enter Try.func45, Try.ntmps45
    go_wp2_with fail
    refine bodyPost_ret (v := (boolV false).v) (by simp [results, Try.results45, go_sem]; rfl) rfl ?_
    exact ⟨rfl, (m.alloc _).drop⟩
  · go_enter Try.func45, Try.ntmps45
    go_wp2_with fail
    refine bodyPost_ret (v := (boolV true).v) (by simp [results, Try.results45, go_sem]; rfl) rfl ?_
    exact ⟨rfl, (m.alloc _).drop⟩
theorem wrap_i64s (n : Int) (h0 : -9223372036854775808 ≤ n) (h1 : n < 9223372036854775808) : IntKind.i64.wrap n = n := by rw [IntKind.wrap_i64]; omega
set_option maxHeartbeats 400000 in
theorem RRef_any (k half : Int) (hk : -1000000 ≤ k ∧ k ≤ 1000000) (hh : -10 ≤ half ∧ half ≤ 10) {w0 : World} {H : Hp} {L : List (Nat × Obj)} {w : World} (m : Mem w0 H L w) : Calls Try.prog 58 #[.int .i64 k, .int .i64 half] w (RetV w0 H L (refV half k)) := by
  have m1 := m.alloc (.cells #[.int .u8 0, .int .i64 0, .string ⟨#[]⟩] 50)
  have hw : IntKind.i64.wrap (2 * k) = 2 * k := wrap_i64s _ (by omega) (by omega)
  have hw2 : IntKind.i64.wrap (2 * k + half) = 2 * k + half := wrap_i64s _ (by omega) (by omega)
  go_enter Try.func58, Try.ntmps58
  go_wp2_with fail
  refine (KRef_any (2 * k + half) m1).mono ?_
  rintro e w1 ⟨rfl, m2⟩
  have es := m2.eqs
  simp only [EqsL] at es
  unfold ValM.v
  go_wp2_with fail
  refine bodyPost_ret (v := (refV half k).v) (by simp [results, Try.results58, go_sem, es]; rfl) rfl ?_
  refine ⟨rfl, MemB.done (ks := [w.heap.size]) ?_⟩
  repeat (first | refine MemB.set (by simp) ?_ | exact ⟨[_], rfl, m2⟩)
set_option maxHeartbeats 400000 in
theorem At_any (x : ValM) {w0 : World} {H : Hp} {L : List (Nat × Obj)} {w : World} (m : Mem w0 H L w) (hn : I64 x.n) :
    Calls Try.prog 63 #[x.v] w (Ret w0 H L (.tuple #[.int .i64 (x.n.tdiv 2), .int .i64 (x.n.tmod 2)])) := by
  unfold I64 at hn
  unfold ValM.v
  go_enter Try.func63, Try.ntmps63
  have m1 := m.alloc (.cells #[.int .u8 x.kind, .int .i64 x.n, .string x.s] 50)
  have es := m1.eqs; simp only [EqsL, and_true] at es
  go_wp2_with fail
  go_quiet (fail)
  go_wp2_with fail
  refine bodyPost_ret (v := .tuple #[.int .i64 (x.n.tdiv 2), .int .i64 (x.n.tmod 2)]) (by simp [results, Try.results63, go_sem]) rfl ?_
  exact ⟨rfl, m1.drop.drewN _⟩
set_option maxHeartbeats 400000 in
theorem Words_one (k : Nat) (s : ByteArray) (n : Int) (b : Option Addr) (l c : Nat) (hl : l ≤ 100000) {w0 : World} {H : Hp} {L : List (Nat × Obj)} {w : World} (m : Mem w0 H L w) :
    Calls Try.prog 62 #[.agg #[.int .u8 k, .string s, .int .i64 n, .slice b l c]] w (Ret w0 H L (.int .i64 (1 + (l : Int)))) := by
  go_enter Try.func62, Try.ntmps62
  go_wp2_with fail
  go_ret
  exact ⟨rfl, (m.alloc _).drop⟩
end Go.Proofs.Ythipkmmdjhpklaa
namespace Go.Proofs.Ythipkmmdjhpklaa
set_option linter.unusedVariables false
set_option linter.unusedSimpArgs false
open Go.RowKit

set_option maxHeartbeats 1000000 in
theorem IsString_any (s : ByteArray) (hs : s.size ≤ maxLen) (w : World) :
    Calls Try.prog 86 #[.string s] w fun e w' => e = .returned (.bool (isText s)) ∧ w = w' := by
  have hs := size_le_maxLen hs
  go_enter Try.func86, Try.ntmps86
  go_wp2_with fail
  go_loop [3] (fun i => ∃ k : Nat, k ≤ s.size ∧ i = .int .i64 k ∧ (s.data.toList.take k).all okByte = true) (fun i => s.size - (intOf i).toNat)
  case atStart => exact ⟨0, Nat.zero_le _, rfl, rfl⟩
  case round =>
    obtain ⟨k, hk, rfl, hall⟩ := hrel
    have HA := Lib.hid hall; clear hall
    by_cases hlt : k < s.size
    · have hltI : (k : Int) < s.size := by omega
      have h256 : s[k].toNat < 256 := s[k].toNat_lt
      cases ho : okByte s[k]
      · have hb := (okByte_not _).1 ho; have HO := Lib.hid ho; clear ho
        have hx : ((s[k].toNat : Int) != 10) = true := by rw [bne_iff_ne]; omega
        have hin : decide ((32 : Int) ≤ (s[k].toNat : Int) ∧ (s[k].toNat : Int) ≤ 126) = false := decide_eq_false (by omega)
        go_wp2_with fail
        refine (In_any _ _ _ _).mono ?_
        rintro e w' ⟨rfl, rfl⟩
        rw [hin]
        go_wp2_with fail
        all_goals (go_ret; exact ⟨ret_bool (by rw [isText_bad s k hlt HO.out]), rfl⟩)
      · have hb := (okByte_iff _).1 ho; have HO := Lib.hid ho; clear ho
        by_cases h10 : s[k].toNat = 10
        · have hx : ((s[k].toNat : Int) != 10) = false := by rw [h10]; rfl
          have hin : decide ((32 : Int) ≤ (s[k].toNat : Int) ∧ (s[k].toNat : Int) ≤ 126) = false := decide_eq_false (by omega)
          go_wp2_with fail
          refine (In_any _ _ _ _).mono ?_
          rintro e w' ⟨rfl, rfl⟩
          first | rw [hin] | (rw [show decide ((32 : Int) ≤ 10 ∧ (10 : Int) ≤ 126) = false by decide])
          go_wp2_with fail
          go_round
          case rel => exact ⟨k + 1, by omega, by go_num, okByte_snoc s k hlt HA.out HO.out⟩
          case measure => simp [intOf]; omega
        · have hin : decide ((32 : Int) ≤ (s[k].toNat : Int) ∧ (s[k].toNat : Int) ≤ 126) = true := decide_eq_true (by omega)
          go_wp2_with fail
          refine (In_any _ _ _ _).mono ?_
          rintro e w' ⟨rfl, rfl⟩
          rw [hin]
          go_wp2_with fail
          go_round
          case rel => exact ⟨k + 1, by omega, by go_num, okByte_snoc s k hlt HA.out HO.out⟩
          case measure => simp [intOf]; omega
    · by_cases h200 : s.size ≤ 200
      · go_wp2_with fail
        go_ret
        exact ⟨ret_bool (by rw [isText_good s k hlt h200 HA.out]; simp; omega), rfl⟩
      · go_wp2_with fail
        go_ret
        exact ⟨ret_bool (by rw [isText_long s (by omega)]; simp; omega), rfl⟩
set_option maxHeartbeats 1000000 in
theorem IsName_any (s : ByteArray) (hs : s.size ≤ maxLen) (w : World) :
    Calls Try.prog 85 #[.string s] w fun e w' => e = .returned (.bool (isName s)) ∧ w = w' := by
  have hs := size_le_maxLen hs
  by_cases hl : 1 ≤ s.size ∧ s.size ≤ 40
  · have hin0 : decide ((1 : Int) ≤ (s.size : Int) ∧ (s.size : Int) ≤ 40) = true := decide_eq_true (by omega)
    go_enter Try.func85, Try.ntmps85
    go_wp2_with fail
    refine (In_any _ _ _ _).mono ?_
    rintro e w' ⟨rfl, rfl⟩
    rw [hin0]
    clear hin0
    go_wp2_with fail
    go_loop [3] (fun i => ∃ k : Nat, k ≤ s.size ∧ i = .int .i64 k ∧ (s.data.toList.take k).all nameByte = true) (fun i => s.size - (intOf i).toNat)
    case atStart => exact ⟨0, Nat.zero_le _, rfl, rfl⟩
    case round =>
      obtain ⟨k, hk, rfl, hall⟩ := hrel
      have HA := Lib.hid hall; clear hall
      by_cases hlt : k < s.size
      · have hltI : (k : Int) < s.size := by omega
        have h256 : s[k].toNat < 256 := s[k].toNat_lt
        cases ho : nameByte s[k]
        · have hb := (nameByte_not _).1 ho; have HO := Lib.hid ho; clear ho
          by_cases hr : 33 ≤ s[k].toNat ∧ s[k].toNat ≤ 126
          · have hin : decide ((33 : Int) ≤ (s[k].toNat : Int) ∧ (s[k].toNat : Int) ≤ 126) = true := decide_eq_true (by omega)
            have hx : ((s[k].toNat : Int) == 34) = true := by have : s[k].toNat = 34 := by omega
                                                              rw [this]; rfl
            go_wp2_with fail
            refine (In_any _ _ _ _).mono ?_
            rintro e w' ⟨rfl, rfl⟩
            rw [hin]
            go_wp2_with fail
            all_goals (go_ret; exact ⟨ret_bool (by rw [isName_bad s k hlt HO.out]), rfl⟩)
          · have hin : decide ((33 : Int) ≤ (s[k].toNat : Int) ∧ (s[k].toNat : Int) ≤ 126) = false := decide_eq_false (by omega)
            go_wp2_with fail
            refine (In_any _ _ _ _).mono ?_
            rintro e w' ⟨rfl, rfl⟩
            rw [hin]
            go_wp2_with fail
            all_goals (go_ret; exact ⟨ret_bool (by rw [isName_bad s k hlt HO.out]), rfl⟩)
        · have hb := (nameByte_iff _).1 ho; have HO := Lib.hid ho; clear ho
          have hx : ((s[k].toNat : Int) == 34) = false := beq_eq_false_iff_ne.2 (by omega)
          have hin : decide ((33 : Int) ≤ (s[k].toNat : Int) ∧ (s[k].toNat : Int) ≤ 126) = true := decide_eq_true (by omega)
          go_wp2_with fail
          refine (In_any _ _ _ _).mono ?_
          rintro e w' ⟨rfl, rfl⟩
          rw [hin]
          go_wp2_with fail
          go_round
          case rel => exact ⟨k + 1, by omega, by go_num, nameByte_snoc s k hlt HA.out HO.out⟩
          case measure => simp [intOf]; omega
      · go_wp2_with fail
        go_ret
        exact ⟨ret_bool (by rw [isName_good s k hlt hl HA.out]), rfl⟩
  · have hin0 : decide ((1 : Int) ≤ (s.size : Int) ∧ (s.size : Int) ≤ 40) = false := decide_eq_false (by omega)
    go_enter Try.func85, Try.ntmps85
    go_wp2_with fail
    refine (In_any _ _ _ _).mono ?_
    rintro e w' ⟨rfl, rfl⟩
    rw [hin0]
    go_wp2_with fail
    go_ret
    exact ⟨ret_bool (by rw [isName_size s hl]), rfl⟩
end Go.Proofs.Ythipkmmdjhpklaa
namespace Go.Proofs.Ythipkmmdjhpklaa
set_option linter.unusedVariables false
set_option linter.unusedSimpArgs false
open Go.RowKit

set_option maxRecDepth 10000 in
set_option maxHeartbeats 4000000 in
theorem IsPlain_any (x : ValM) (hx : x.fit) {w0 : World} {H : Hp} {L : List (Nat × Obj)} {w : World} (m : Mem w0 H L w) :
    Calls Try.prog 66 #[x.v] w (Ret w0 H L (.bool x.plain)) := by
  obtain ⟨hk, hn, hs⟩ := hx
  have HS := Lib.hid hs; clear hs
  show Calls Try.prog 66 #[.agg #[.int .u8 x.kind, .int .i64 x.n, .string x.s]] w _
  have m1 := m.alloc (.cells #[.int .u8 x.kind, .int .i64 x.n, .string x.s] 50)
  have hI := hn
  unfold I64 at hn
  obtain ⟨k, n, s⟩ := x
  simp only at *
  have hks : k = 0 ∨ k = 1 ∨ k = 2 ∨ k = 3 ∨ k = 4 ∨ k = 5 ∨ 5 < k := by omega
  rcases hks with rfl | rfl | rfl | rfl | rfl | rfl | hk5
  · go_enter Try.func66, Try.ntmps66
    by_cases h0 : n = 0 ∧ s = ByteArray.empty
    · obtain ⟨rfl, rfl⟩ := h0
      go_wp2_with fail
      go_ret
      exact ⟨ret_bool (by simp [ValM.plain]), m1.drop⟩
    · have hp : ValM.plain ⟨0, n, s⟩ = false := by
        simp only [ValM.plain]
        simp
        intro h1 h2
        exact h0 ⟨h1, h2⟩
      rw [hp]
      go_wp2_with fail
      all_goals first
        | (go_ret; exact ⟨rfl, m1.drop⟩)
        | (exfalso; rename_i h1 h2; exact h0 ⟨h1, (toList_nil s).1 h2⟩)
        | (rename_i h1 h2; subst h1; go_ret; exact ⟨rfl, m1.drop⟩)
  · by_cases hs0 : s = ByteArray.empty
    · subst hs0
      go_enter Try.func66, Try.ntmps66
      go_wp2_with fail
      refine (In_any _ _ _ _).mono ?_
      rintro e w' ⟨rfl, rfl⟩
      by_cases hr : (-1000000000 : Int) ≤ n ∧ n ≤ 1000000000
      · rw [decide_eq_true hr]
        go_wp2_with fail
        go_ret
        exact ⟨ret_bool (by simp [ValM.plain, hr]), m1.drop⟩
      · rw [decide_eq_false hr]
        go_wp2_with fail
        go_ret
        exact ⟨ret_bool (by simp [ValM.plain, hr]), m1.drop⟩
    · have hl0 : ¬ s.toList = [] := fun e => hs0 ((toList_nil s).1 e)
      go_enter Try.func66, Try.ntmps66
      go_wp2_with fail
      go_ret
      exact ⟨ret_bool (by simp [ValM.plain, hs0]), m1.drop⟩
  · by_cases hs0 : s = ByteArray.empty
    · subst hs0
      go_enter Try.func66, Try.ntmps66
      go_wp2_with fail
      refine (In_any _ _ _ _).mono ?_
      rintro e w' ⟨rfl, rfl⟩
      by_cases hr : (0 : Int) ≤ n ∧ n ≤ 1
      · rw [decide_eq_true hr]
        go_wp2_with fail
        go_ret
        exact ⟨ret_bool (by simp [ValM.plain, hr]), m1.drop⟩
      · rw [decide_eq_false hr]
        go_wp2_with fail
        go_ret
        exact ⟨ret_bool (by simp [ValM.plain, hr]), m1.drop⟩
    · have hl0 : ¬ s.toList = [] := fun e => hs0 ((toList_nil s).1 e)
      go_enter Try.func66, Try.ntmps66
      go_wp2_with fail
      go_ret
      exact ⟨ret_bool (by simp [ValM.plain, hs0]), m1.drop⟩
  · by_cases hn0 : n = 0
    · subst hn0
      go_enter Try.func66, Try.ntmps66
      go_wp2_with fail
      refine (IsString_any s HS.out _).mono ?_
      rintro e w' ⟨rfl, rfl⟩
      go_wp2_with fail
      go_ret
      exact ⟨ret_bool (by simp [ValM.plain]), m1.drop⟩
    · have hn1 : (n == 0) = false := by simpa using hn0
      go_enter Try.func66, Try.ntmps66
      go_wp2_with fail
      go_ret
      exact ⟨ret_bool (by simp [ValM.plain, hn0]), m1.drop⟩
  · by_cases hn0 : n = 0
    · subst hn0
      go_enter Try.func66, Try.ntmps66
      go_wp2_with fail
      refine (IsName_any s HS.out _).mono ?_
      rintro e w' ⟨rfl, rfl⟩
      go_wp2_with fail
      go_ret
      exact ⟨ret_bool (by simp [ValM.plain]), m1.drop⟩
    · have hn1 : (n == 0) = false := by simpa using hn0
      go_enter Try.func66, Try.ntmps66
      go_wp2_with fail
      go_ret
      exact ⟨ret_bool (by simp [ValM.plain, hn0]), m1.drop⟩
  · by_cases hs0 : s = ByteArray.empty
    · subst hs0
      go_enter Try.func66, Try.ntmps66
      by_cases hn0 : 0 ≤ n
      · go_wp2_with fail
        go_ret
        exact ⟨ret_bool (by simp [ValM.plain, hn0]), m1.drop⟩
      · have hge : ¬ (0 : Int) ≤ n := hn0
        go_wp2_with fail
        go_ret
        exact ⟨ret_bool (by simp [ValM.plain]; omega), m1.drop⟩
    · have hl0 : ¬ s.toList = [] := fun e => hs0 ((toList_nil s).1 e)
      go_enter Try.func66, Try.ntmps66
      go_wp2_with fail
      go_ret
      exact ⟨ret_bool (by simp [ValM.plain, hs0]), m1.drop⟩
  · have e0 : ((k : Int) == 0) = false := beq_eq_false_iff_ne.2 (by omega)
    have e1 : ((k : Int) == 1) = false := beq_eq_false_iff_ne.2 (by omega)
    have e2 : ((k : Int) == 2) = false := beq_eq_false_iff_ne.2 (by omega)
    have e3 : ((k : Int) == 3) = false := beq_eq_false_iff_ne.2 (by omega)
    have e4 : ((k : Int) == 4) = false := beq_eq_false_iff_ne.2 (by omega)
    have e5 : ((k : Int) == 5) = false := beq_eq_false_iff_ne.2 (by omega)
    go_enter Try.func66, Try.ntmps66
    go_wp2_with fail
    go_ret
    refine ⟨ret_bool ?_, m1.drop⟩
    simp [ValM.plain, show k ≠ 0 by omega, show k ≠ 1 by omega, show k ≠ 2 by omega, show k ≠ 3 by omega, show k ≠ 4 by omega, show k ≠ 5 by omega]
set_option maxRecDepth 10000 in
set_option maxHeartbeats 4000000 in
theorem IsPlainObject_any (o : ObjM) (ho : o.fit) (sb : Option Addr) (sl sc : Nat) {w0 w : World} {H : Hp} {L : List (Nat × Obj)} (m : Mem w0 H L w) :
    Calls Try.prog 65 #[.agg #[.int .u8 o.kind, .string o.name, .int .i64 o.n, .slice sb sl sc]] w (Ret w0 H L (.bool o.plain)) := by
  obtain ⟨hk, hn, hs⟩ := ho
  have HS := Lib.hid hs; clear hs
  unfold I64 at hn
  have m1 := m.alloc (.cells #[.int .u8 o.kind, .string o.name, .int .i64 o.n, .slice sb sl sc] 48)
  by_cases h1 : 1 ≤ o.kind ∧ o.kind ≤ 5
  · have hin : decide ((1 : Int) ≤ (o.kind : Int) ∧ (o.kind : Int) ≤ 5) = true := decide_eq_true (by omega)
    go_enter Try.func65, Try.ntmps65
    by_cases he : o.name = ByteArray.empty
    · have hl0 : o.name.toList = [] := (toList_nil _).2 he
      have HE := Lib.hid he; clear he
      go_wp2_with fail
      refine (In_any _ _ _ _).mono ?_
      rintro e w' ⟨rfl, rfl⟩
      rw [hin]
      go_wp2_with fail
      refine (In_any _ _ _ _).mono ?_
      rintro e w' ⟨rfl, rfl⟩
      by_cases hr : (-1 : Int) ≤ o.n ∧ o.n ≤ 1000000000
      · rw [decide_eq_true hr]
        go_wp2_with fail
        go_ret
        exact ⟨ret_bool (by simp [ObjM.plain, h1, hr, HE.out]), m1.drop⟩
      · rw [decide_eq_false hr]
        go_wp2_with fail
        go_ret
        exact ⟨ret_bool (by simp [ObjM.plain, hr]), m1.drop⟩
    · have hl0 : ¬ o.name.toList = [] := fun h => he ((toList_nil _).1 h)
      go_wp2_with fail
      refine (In_any _ _ _ _).mono ?_
      rintro e w' ⟨rfl, rfl⟩
      rw [hin]
      go_wp2_with fail
      refine (IsName_any o.name HS.out _).mono ?_
      rintro e w' ⟨rfl, rfl⟩
      cases hnm : isName o.name
      · go_wp2_with fail
        go_ret
        exact ⟨ret_bool (by simp [ObjM.plain, he, hnm]), m1.drop⟩
      · go_wp2_with fail
        refine (In_any _ _ _ _).mono ?_
        rintro e w' ⟨rfl, rfl⟩
        by_cases hr : (-1 : Int) ≤ o.n ∧ o.n ≤ 1000000000
        · rw [decide_eq_true hr]
          go_wp2_with fail
          go_ret
          exact ⟨ret_bool (by simp [ObjM.plain, h1, hr, hnm]), m1.drop⟩
        · rw [decide_eq_false hr]
          go_wp2_with fail
          go_ret
          exact ⟨ret_bool (by simp [ObjM.plain, hr]), m1.drop⟩
  · have hin : decide ((1 : Int) ≤ (o.kind : Int) ∧ (o.kind : Int) ≤ 5) = false := decide_eq_false (by omega)
    go_enter Try.func65, Try.ntmps65
    go_wp2_with fail
    refine (In_any _ _ _ _).mono ?_
    rintro e w' ⟨rfl, rfl⟩
    rw [hin]
    go_wp2_with fail
    go_ret
    exact ⟨ret_bool (by unfold ObjM.plain; rw [decide_eq_false h1]; rfl), m1.drop⟩
end Go.Proofs.Ythipkmmdjhpklaa
namespace Go.Proofs.Ythipkmmdjhpklaa
set_option linter.unusedVariables false
set_option linter.unusedSimpArgs false
open Go.RowKit

set_option maxRecDepth 10000 in
set_option maxHeartbeats 4000000 in
theorem IsReg_any (h : HeapM) (vo vn lv : Value) (rb : Option Addr) (rc : Nat) (l : List Int) (hvo : ∃ a b c, vo = .slice a b c) (hvn : ∃ a b c, vn = .slice a b c) (hr : h.regs.length ≤ 100000) {w0 w : World} {H : Hp} {L : List (Nat × Obj)} (hl : SlR encInt H lv l) (m : Mem w0 H L w) :
    Calls Try.prog 64 #[HVal h vo vn (.slice rb h.regs.length rc), lv] w (Ret w0 H L (.bool (h.are l))) := by
  have HL := Lib.hid hl
  obtain ⟨lb, lc, rfl, _, hlc, _, _⟩ := hl
  have hlc := size_le_maxLen hlc
  obtain ⟨oa, on, oc, rfl⟩ := hvo
  obtain ⟨na, nn, nc, rfl⟩ := hvn
  unfold HVal
  have m1 := m.alloc (.cells #[.int .i64 h.size, .int .i64 h.half, .int .i64 h.scan, .bool h.busy, .slice oa on oc, .slice na nn nc, .slice rb h.regs.length rc] 31)
  go_enter Try.func64, Try.ntmps64
  go_wp2_with fail
  go_loopw [5] (fun v5 wr => ∃ k : Nat, k ≤ l.length ∧ v5 = .int .i64 k ∧ inAll 0 ((h.regs.length : Int) - 1) (l.take k) = true ∧ Mem w0 H ((w.heap.size, .cells #[.int .i64 h.size, .int .i64 h.half, .int .i64 h.scan, .bool h.busy, .slice oa on oc, .slice na nn nc, .slice rb h.regs.length rc] 31) :: L) wr) (fun i _ => l.length - (intOf i).toNat)
  case atStart => exact ⟨0, Nat.zero_le _, rfl, rfl, m1⟩
  case round =>
    obtain ⟨k, hk, rfl, hall, m2⟩ := hrel
    have HA := Lib.hid hall; clear hall
    clear m1
    have es := m2.eqs
    simp only [EqsL] at es
    by_cases hlt : k < l.length
    · obtain ⟨blk, off, rfl, hcell, hp⟩ := HL.out.cellV hlt
      have hcell := hcell.cell m2
      have hltI : (k : Int) < l.length := by omega
      unfold I64 at hp
      have hwl : IntKind.i64.wrap ((h.regs.length : Int) - 1) = (h.regs.length : Int) - 1 := wrap_i64s _ (by omega) (by omega)
      cases hq : decide ((0 : Int) ≤ l[k] ∧ l[k] ≤ (h.regs.length : Int) - 1)
      · have HQ := Lib.hid hq; clear hq
        go_wp2_with fail
        refine AnyFrom.start (fun w' => w' = wr.drew) 10 (by kernel_rfl) ?_
        have mW := m2.drew
        have hcW : wr.drew.cell? ⟨blk, off + k, none⟩ = some (.int .i64 l[k]) := hcell
        clear m2 es hcell
        generalize wr.drew = W at *
        have es := mW.eqs
        simp only [EqsL] at es
        have HS : W = W := rfl
        refine AnyFrom.take (i := 0) (v := ?_) rfl (by kernel_rfl) (by kernel_rfl) (by kernel_rfl) (by kernel_rfl) (fun _ _ _ h => h) ⟨by kernel_rfl, ?_⟩ HS ?_
        rotate_left
        · first | (rintro w' rfl; go_simp; done) | (rintro w' rfl; go_simp; with_reducible rfl)
        simp only [Act.put, List.setIfInBounds_toArray, List.set_cons_zero, List.set_cons_succ, List.getElem_toArray, List.getElem_cons_succ, List.getElem_cons_zero]
        refine AnyFrom.take (i := 1) (v := ?_) rfl (by kernel_rfl) (by kernel_rfl) (by kernel_rfl) (by kernel_rfl) (fun _ _ _ h => h) ⟨by kernel_rfl, ?_⟩ HS ?_
        rotate_left
        · first | (rintro w' rfl; go_simp; done) | (rintro w' rfl; go_simp; with_reducible rfl)
        simp only [Act.put, List.setIfInBounds_toArray, List.set_cons_zero, List.set_cons_succ, List.getElem_toArray, List.getElem_cons_succ, List.getElem_cons_zero]
        refine AnyFrom.take (i := 2) (v := ?_) rfl (by kernel_rfl) (by kernel_rfl) (by kernel_rfl) (by kernel_rfl) (fun _ _ _ h => h) ⟨by kernel_rfl, ?_⟩ HS ?_
        rotate_left
        · first | (rintro w' rfl; go_simp; done) | (rintro w' rfl; go_simp; with_reducible rfl)
        simp only [Act.put, List.setIfInBounds_toArray, List.set_cons_zero, List.set_cons_succ, List.getElem_toArray, List.getElem_cons_succ, List.getElem_cons_zero]
        refine AnyFrom.take (i := 3) (v := ?_) rfl (by kernel_rfl) (by kernel_rfl) (by kernel_rfl) (by kernel_rfl) (fun _ _ _ h => h) ⟨by kernel_rfl, ?_⟩ HS ?_
        rotate_left
        · first | (rintro w' rfl; go_simp; done) | (rintro w' rfl; go_simp; with_reducible rfl)
        simp only [Act.put, List.setIfInBounds_toArray, List.set_cons_zero, List.set_cons_succ, List.getElem_toArray, List.getElem_cons_succ, List.getElem_cons_zero]
        refine AnyFrom.take (i := 4) (v := ?_) rfl (by kernel_rfl) (by kernel_rfl) (by kernel_rfl) (by kernel_rfl) (fun _ _ _ h => h) ⟨by kernel_rfl, ?_⟩ HS ?_
        rotate_left
        · first | (rintro w' rfl; go_simp; done) | (rintro w' rfl; go_simp; with_reducible rfl)
        simp only [Act.put, List.setIfInBounds_toArray, List.set_cons_zero, List.set_cons_succ, List.getElem_toArray, List.getElem_cons_succ, List.getElem_cons_zero]
        refine AnyFrom.take (i := 5) (v := ?_) rfl (by kernel_rfl) (by kernel_rfl) (by kernel_rfl) (by kernel_rfl) (fun _ _ _ h => h) ⟨by kernel_rfl, ?_⟩ HS ?_
        rotate_left
        · first | (rintro w' rfl; go_simp; done) | (rintro w' rfl; go_simp; with_reducible rfl)
        simp only [Act.put, List.setIfInBounds_toArray, List.set_cons_zero, List.set_cons_succ, List.getElem_toArray, List.getElem_cons_succ, List.getElem_cons_zero]
        refine AnyFrom.take (i := 6) (v := ?_) rfl (by kernel_rfl) (by kernel_rfl) (by kernel_rfl) (by kernel_rfl) (fun _ _ _ h => h) ⟨by kernel_rfl, ?_⟩ HS ?_
        rotate_left
        · first | (rintro w' rfl; go_simp; done) | (rintro w' rfl; go_simp; with_reducible rfl)
        simp only [Act.put, List.setIfInBounds_toArray, List.set_cons_zero, List.set_cons_succ, List.getElem_toArray, List.getElem_cons_succ, List.getElem_cons_zero]
        refine AnyFrom.take (i := 7) (v := ?_) rfl (by kernel_rfl) (by kernel_rfl) (by kernel_rfl) (by kernel_rfl) (fun _ _ _ h => h) ⟨by kernel_rfl, ?_⟩ HS ?_
        rotate_left
        · first | (rintro w' rfl; go_simp; done) | (rintro w' rfl; go_simp; with_reducible rfl)
        simp only [Act.put, List.setIfInBounds_toArray, List.set_cons_zero, List.set_cons_succ, List.getElem_toArray, List.getElem_cons_succ, List.getElem_cons_zero]
        refine AnyFrom.call (i := 8) (by kernel_rfl) rfl (by kernel_rfl) fun K hK => ?_
        go_simp
        refine (In_any _ _ _ _).mono ?_
        rintro e w' ⟨rfl, rfl⟩
        rw [HQ.out]
        refine hK _ _ (.inr rfl) ?_
        clear hK K
        try simp only [Act.put, List.setIfInBounds_toArray, List.set_cons_zero, List.set_cons_succ, List.getElem_toArray, List.getElem_cons_succ, List.getElem_cons_zero]
        refine AnyFrom.pure (i := 9) (v := ?_) rfl (by kernel_rfl) (by kernel_rfl) (by kernel_rfl) (by decide) (fun _ _ _ h => h) ⟨by kernel_rfl, ?_⟩ HS ?_
        rotate_left
        · first | (intro w'; go_simp; done) | (intro w'; go_simp; with_reducible rfl)
        simp only [Act.put, List.setIfInBounds_toArray, List.set_cons_zero, List.set_cons_succ, List.getElem_toArray, List.getElem_cons_succ, List.getElem_cons_zero]
        refine AnyFrom.done (by kernel_rfl) ?_ _
        go_wp2_with fail
        go_ret
        refine ⟨ret_bool ?_, mW.drop⟩
        exact (all_false_of _ l k hlt HQ.out).symm
      · have HQ := Lib.hid hq; clear hq
        go_wp2_with fail
        refine AnyFrom.start (fun w' => w' = wr.drew) 10 (by kernel_rfl) ?_
        have mW := m2.drew
        have hcW : wr.drew.cell? ⟨blk, off + k, none⟩ = some (.int .i64 l[k]) := hcell
        clear m2 es hcell
        generalize wr.drew = W at *
        have es := mW.eqs
        simp only [EqsL] at es
        have HS : W = W := rfl
        refine AnyFrom.take (i := 0) (v := ?_) rfl (by kernel_rfl) (by kernel_rfl) (by kernel_rfl) (by kernel_rfl) (fun _ _ _ h => h) ⟨by kernel_rfl, ?_⟩ HS ?_
        rotate_left
        · first | (rintro w' rfl; go_simp; done) | (rintro w' rfl; go_simp; with_reducible rfl)
        simp only [Act.put, List.setIfInBounds_toArray, List.set_cons_zero, List.set_cons_succ, List.getElem_toArray, List.getElem_cons_succ, List.getElem_cons_zero]
        refine AnyFrom.take (i := 1) (v := ?_) rfl (by kernel_rfl) (by kernel_rfl) (by kernel_rfl) (by kernel_rfl) (fun _ _ _ h => h) ⟨by kernel_rfl, ?_⟩ HS ?_
        rotate_left
        · first | (rintro w' rfl; go_simp; done) | (rintro w' rfl; go_simp; with_reducible rfl)
        simp only [Act.put, List.setIfInBounds_toArray, List.set_cons_zero, List.set_cons_succ, List.getElem_toArray, List.getElem_cons_succ, List.getElem_cons_zero]
        refine AnyFrom.take (i := 2) (v := ?_) rfl (by kernel_rfl) (by kernel_rfl) (by kernel_rfl) (by kernel_rfl) (fun _ _ _ h => h) ⟨by kernel_rfl, ?_⟩ HS ?_
        rotate_left
        · first | (rintro w' rfl; go_simp; done) | (rintro w' rfl; go_simp; with_reducible rfl)
        simp only [Act.put, List.setIfInBounds_toArray, List.set_cons_zero, List.set_cons_succ, List.getElem_toArray, List.getElem_cons_succ, List.getElem_cons_zero]
        refine AnyFrom.take (i := 3) (v := ?_) rfl (by kernel_rfl) (by kernel_rfl) (by kernel_rfl) (by kernel_rfl) (fun _ _ _ h => h) ⟨by kernel_rfl, ?_⟩ HS ?_
        rotate_left
        · first | (rintro w' rfl; go_simp; done) | (rintro w' rfl; go_simp; with_reducible rfl)
        simp only [Act.put, List.setIfInBounds_toArray, List.set_cons_zero, List.set_cons_succ, List.getElem_toArray, List.getElem_cons_succ, List.getElem_cons_zero]
        refine AnyFrom.take (i := 4) (v := ?_) rfl (by kernel_rfl) (by kernel_rfl) (by kernel_rfl) (by kernel_rfl) (fun _ _ _ h => h) ⟨by kernel_rfl, ?_⟩ HS ?_
        rotate_left
        · first | (rintro w' rfl; go_simp; done) | (rintro w' rfl; go_simp; with_reducible rfl)
        simp only [Act.put, List.setIfInBounds_toArray, List.set_cons_zero, List.set_cons_succ, List.getElem_toArray, List.getElem_cons_succ, List.getElem_cons_zero]
        refine AnyFrom.take (i := 5) (v := ?_) rfl (by kernel_rfl) (by kernel_rfl) (by kernel_rfl) (by kernel_rfl) (fun _ _ _ h => h) ⟨by kernel_rfl, ?_⟩ HS ?_
        rotate_left
        · first | (rintro w' rfl; go_simp; done) | (rintro w' rfl; go_simp; with_reducible rfl)
        simp only [Act.put, List.setIfInBounds_toArray, List.set_cons_zero, List.set_cons_succ, List.getElem_toArray, List.getElem_cons_succ, List.getElem_cons_zero]
        refine AnyFrom.take (i := 6) (v := ?_) rfl (by kernel_rfl) (by kernel_rfl) (by kernel_rfl) (by kernel_rfl) (fun _ _ _ h => h) ⟨by kernel_rfl, ?_⟩ HS ?_
        rotate_left
        · first | (rintro w' rfl; go_simp; done) | (rintro w' rfl; go_simp; with_reducible rfl)
        simp only [Act.put, List.setIfInBounds_toArray, List.set_cons_zero, List.set_cons_succ, List.getElem_toArray, List.getElem_cons_succ, List.getElem_cons_zero]
        refine AnyFrom.take (i := 7) (v := ?_) rfl (by kernel_rfl) (by kernel_rfl) (by kernel_rfl) (by kernel_rfl) (fun _ _ _ h => h) ⟨by kernel_rfl, ?_⟩ HS ?_
        rotate_left
        · first | (rintro w' rfl; go_simp; done) | (rintro w' rfl; go_simp; with_reducible rfl)
        simp only [Act.put, List.setIfInBounds_toArray, List.set_cons_zero, List.set_cons_succ, List.getElem_toArray, List.getElem_cons_succ, List.getElem_cons_zero]
        refine AnyFrom.call (i := 8) (by kernel_rfl) rfl (by kernel_rfl) fun K hK => ?_
        go_simp
        refine (In_any _ _ _ _).mono ?_
        rintro e w' ⟨rfl, rfl⟩
        rw [HQ.out]
        refine hK _ _ (.inr rfl) ?_
        clear hK K
        try simp only [Act.put, List.setIfInBounds_toArray, List.set_cons_zero, List.set_cons_succ, List.getElem_toArray, List.getElem_cons_succ, List.getElem_cons_zero]
        refine AnyFrom.pure (i := 9) (v := ?_) rfl (by kernel_rfl) (by kernel_rfl) (by kernel_rfl) (by decide) (fun _ _ _ h => h) ⟨by kernel_rfl, ?_⟩ HS ?_
        rotate_left
        · first | (intro w'; go_simp; done) | (intro w'; go_simp; with_reducible rfl)
        simp only [Act.put, List.setIfInBounds_toArray, List.set_cons_zero, List.set_cons_succ, List.getElem_toArray, List.getElem_cons_succ, List.getElem_cons_zero]
        refine AnyFrom.done (by kernel_rfl) ?_ _
        go_wp2_with fail
        go_roundw
        case rel => exact ⟨k + 1, by omega, by go_num, by have := HA.out; unfold inAll at *; rw [all_take_succ _ _ _ hlt, this, HQ.out]; rfl, mW⟩
        case measure => simp [intOf]; omega
    · have hge : ¬ (k : Int) < l.length := by omega
      go_wp2_with fail
      go_ret
      refine ⟨ret_bool ?_, m2.drop⟩
      have := HA.out
      rw [List.take_of_length_le (by omega)] at this
      exact this.symm
set_option maxRecDepth 10000 in
set_option maxHeartbeats 4000000 in
theorem RUsed_any (h : HeapM) (nb : Option Addr) (nc : Nat) (vo vr : Value) (hvo : ∃ a b c, vo = .slice a b c) (hvr : ∃ a b c, vr = .slice a b c) (hb : HB h) {w0 w : World} {H : Hp} {L : List (Nat × Obj)} (hvn : SlR encObj H (.slice nb h.new.length nc) h.new) (m : Mem w0 H L w) :
    Calls Try.prog 37 #[HVal h vo (.slice nb h.new.length nc) vr] w (Ret w0 H L (.int .i64 h.used)) := by
  obtain ⟨oa, on, oc, rfl⟩ := hvo
  obtain ⟨ra, rn, rc, rfl⟩ := hvr
  have HVN := Lib.hid hvn
  have hnc : nc ≤ maxLen := by obtain ⟨_, _, e, _, h2, _⟩ := hvn; cases e; exact h2
  have hnc := size_le_maxLen hnc
  clear hvn
  obtain ⟨hol, hnl, hrl, hos, hns⟩ := hb
  have HNS := Lib.hid hns; clear hns hos
  unfold HVal
  have m1 := m.alloc (.cells #[.int .i64 h.size, .int .i64 h.half, .int .i64 h.scan, .bool h.busy, .slice oa on oc, .slice nb h.new.length nc, .slice ra rn rc] 31)
  go_enter Try.func37, Try.ntmps37
  go_wp2_with fail
  go_loopw [3, 4] (fun v3 v4 wr => ∃ k : Nat, k ≤ h.new.length ∧ v4 = .int .i64 k ∧ v3 = .int .i64 (wordsM ((lens h.new).take k)) ∧ Mem w0 H ((w.heap.size, .cells #[.int .i64 h.size, .int .i64 h.half, .int .i64 h.scan, .bool h.busy, .slice oa on oc, .slice nb h.new.length nc, .slice ra rn rc] 31) :: L) wr) (fun _ i _ => h.new.length - (intOf i).toNat)
  case atStart => exact ⟨0, Nat.zero_le _, rfl, rfl, m1⟩
  case round =>
    obtain ⟨k, hk, rfl, rfl, m2⟩ := hrel
    clear m1
    have es := m2.eqs
    simp only [EqsL] at es
    by_cases hlt : k < h.new.length
    · obtain ⟨blk, off, sv, rfl, c0, c1, c2, c3, hsl, hfit⟩ := HVN.out.getObj hlt
      obtain ⟨b1, c1', rfl, -, -, -, -⟩ := hsl
      have c0 := c0.cell m2
      have c1 := c1.cell m2
      have c2 := c2.cell m2
      have c3 := c3.cell m2
      have hltI : (k : Int) < h.new.length := by omega
      have hbk := HNS.out _ (List.getElem_mem hlt)
      have hbd := wordsM_bound ((lens h.new).take k) (fun n hn => by
        obtain ⟨o, ho, rfl⟩ := List.mem_map.1 (List.mem_of_mem_take hn)
        have := HNS.out o ho
        omega)
      have hlen : (lens h.new).length = h.new.length := by simp [lens]
      have hlen2 : ((lens h.new).take k).length = k := by rw [List.length_take]; omega
      rw [hlen2] at hbd
      have hsn : wordsM ((lens h.new).take (k + 1)) = wordsM ((lens h.new).take k) + (1 + (h.new[k].slots.length : Int)) := by
        rw [List.take_succ_eq_append_getElem (by omega), wordsM_snoc]
        simp [lens]
      have HSN := Lib.hid hsn; clear hsn hlen hlen2
      have HF := Lib.hid hfit; clear hfit
      generalize h.new[k].slots.length = nk at *
      generalize hwk : wordsM ((lens h.new).take k) = wk at *
      clear hwk
      have hw1 : 0 ≤ wk := hbd.1
      have hw2 : wk ≤ 900000000000100000 := by omega
      have hwr : IntKind.i64.wrap (wk + (1 + (nk : Int))) = wk + (1 + (nk : Int)) := wrap_small _ (by omega) (by omega)
      go_wp2_with fail
      refine (Words_one _ _ _ _ _ _ hbk m2).mono ?_
      rintro e w5 ⟨rfl, m3⟩
      go_wp2_with fail
      go_roundw
      case rel => exact ⟨k + 1, by omega, by go_num, by rw [HSN.out], m3⟩
      case measure => simp [intOf]; omega
    · have hge : ¬ (k : Int) < h.new.length := by omega
      have hk' : k = (lens h.new).length := by simp [lens]; omega
      have HK := Lib.hid hk'; clear hk'
      go_wp2_with fail
      go_ret
      refine ⟨?_, m2.drop⟩
      rw [HK.out, List.take_length]
      rfl
end Go.Proofs.Ythipkmmdjhpklaa
namespace Go.Proofs.Ythipkmmdjhpklaa
set_option linter.unusedVariables false
set_option linter.unusedSimpArgs false
open Go.RowKit

set_option maxRecDepth 10000 in
set_option maxHeartbeats 4000000 in
theorem RDue_any (h : HeapM) (ob : Option Addr) (oc : Nat) (vn vr : Value) (hvn : ∃ a b c, vn = .slice a b c) (hvr : ∃ a b c, vr = .slice a b c) (hb : HB h) (hto : ∀ p ∈ h.old, -1 ≤ p.2) {w0 w : World} {H : Hp} {L : List (Nat × Obj)} (hvo : SlR encHeld H (.slice ob h.old.length oc) h.old) (m : Mem w0 H L w) :
    Calls Try.prog 38 #[HVal h (.slice ob h.old.length oc) vn vr] w (Ret w0 H L (.int .i64 h.due)) := by
  obtain ⟨na, nn, nc, rfl⟩ := hvn
  obtain ⟨ra, rn, rc, rfl⟩ := hvr
  have HVO := Lib.hid hvo
  have hoc : oc ≤ maxLen := by obtain ⟨_, _, e, _, h2, _⟩ := hvo; cases e; exact h2
  have hoc := size_le_maxLen hoc
  clear hvo
  obtain ⟨hol, hnl, hrl, hos, hns⟩ := hb
  have HOS := Lib.hid hos; clear hns hos
  have HTOS := Lib.hid hto; clear hto
  unfold HVal
  have m1 := m.alloc (.cells #[.int .i64 h.size, .int .i64 h.half, .int .i64 h.scan, .bool h.busy, .slice ob h.old.length oc, .slice na nn nc, .slice ra rn rc] 31)
  go_enter Try.func38, Try.ntmps38
  go_wp2_with fail
  go_loopw [3, 4] (fun v3 v4 wr => ∃ k : Nat, k ≤ h.old.length ∧ v4 = .int .i64 k ∧ v3 = .int .i64 (dueL (h.old.take k)) ∧ Mem w0 H ((w.heap.size, .cells #[.int .i64 h.size, .int .i64 h.half, .int .i64 h.scan, .bool h.busy, .slice ob h.old.length oc, .slice na nn nc, .slice ra rn rc] 31) :: L) wr) (fun _ i _ => h.old.length - (intOf i).toNat)
  case atStart => exact ⟨0, Nat.zero_le _, rfl, rfl, m1⟩
  case round =>
    obtain ⟨k, hk, rfl, rfl, m2⟩ := hrel
    clear m1
    have es := m2.eqs
    simp only [EqsL] at es
    by_cases hlt : k < h.old.length
    · obtain ⟨blk, off, sv, rfl, c0, c1, c2, c3, c4, hsl, hfit, hto⟩ := HVO.out.getHeld hlt
      obtain ⟨b1, c1', rfl, -, -, -, -⟩ := hsl
      have c0 := c0.cell m2
      have c1 := c1.cell m2
      have c2 := c2.cell m2
      have c3 := c3.cell m2
      have c4 := c4.cell m2
      have hltI : (k : Int) < h.old.length := by omega
      have hbk := HOS.out _ (List.getElem_mem hlt)
      have htk := HTOS.out _ (List.getElem_mem hlt)
      have hbd := dueL_bound (h.old.take k) (fun p hp => HOS.out p (List.mem_of_mem_take hp))
      have hlen2 : (h.old.take k).length = k := by rw [List.length_take]; omega
      rw [hlen2] at hbd
      have hsn : dueL (h.old.take (k + 1)) = dueL (h.old.take k) + (if h.old[k].2 = -1 then 1 + (h.old[k].1.slots.length : Int) else 0) := by rw [List.take_succ_eq_append_getElem hlt, dueL_snoc]
      have HSN := Lib.hid hsn; clear hsn hlen2
      have HF := Lib.hid hfit; clear hfit
      clear hto
      generalize h.old[k].1.slots.length = nk at *
      generalize h.old[k].2 = t at *
      generalize hwk : dueL (h.old.take k) = wk at *
      clear hwk
      have hw1 : 0 ≤ wk := hbd.1
      have hw2 : wk ≤ 900000000000100000 := by omega
      have hwr : IntKind.i64.wrap (wk + (1 + (nk : Int))) = wk + (1 + (nk : Int)) := wrap_small _ (by omega) (by omega)
      by_cases ht : t = -1
      · have HT := Lib.hid ht
        subst ht
        go_wp2_with fail
        refine (Words_one _ _ _ _ _ _ hbk m2).mono ?_
        rintro e w5 ⟨rfl, m3⟩
        go_wp2_with fail
        go_roundw
        case rel => exact ⟨k + 1, by omega, by go_num, by rw [HSN.out]; simp, m3⟩
        case measure => simp [intOf]; omega
      · have hge : ¬ t < 0 := by omega
        have HT := Lib.hid ht; clear ht
        go_wp2_with fail
        go_roundw
        case rel => exact ⟨k + 1, by omega, by go_num, by rw [HSN.out, if_neg HT.out, Int.add_zero], m2⟩
        case measure => simp [intOf]; omega
    · have hge : ¬ (k : Int) < h.old.length := by omega
      have hk' : k = h.old.length := by omega
      have HK := Lib.hid hk'; clear hk'
      go_wp2_with fail
      go_ret
      refine ⟨?_, m2.drop⟩
      rw [HK.out, List.take_length]
      rfl
end Go.Proofs.Ythipkmmdjhpklaa
namespace Go.Proofs.Ythipkmmdjhpklaa
set_option linter.unusedVariables false
set_option linter.unusedSimpArgs false
open Go.RowKit

theorem val_cases (xk yk : Nat) (xn yn : Int) (xs ys : ByteArray) :
    ((⟨xk, xn, xs⟩ : ValM) = ⟨yk, yn, ys⟩ ∧ xk = yk ∧ xn = yn ∧ xs = ys) ∨ ((⟨xk, xn, xs⟩ : ValM) ≠ ⟨yk, yn, ys⟩ ∧ ((xk : Int) == (yk : Int)) = false) ∨ ((⟨xk, xn, xs⟩ : ValM) ≠ ⟨yk, yn, ys⟩ ∧ xk = yk ∧ (xn == yn) = false) ∨ ((⟨xk, xn, xs⟩ : ValM) ≠ ⟨yk, yn, ys⟩ ∧ xk = yk ∧ xn = yn ∧ (xs.toList == ys.toList) = false) := by
  by_cases h1 : xk = yk
  · by_cases h2 : xn = yn
    · by_cases h3 : xs = ys
      · exact .inl ⟨by rw [h1, h2, h3], h1, h2, h3⟩
      · exact .inr (.inr (.inr ⟨fun e => h3 ((ValM.ext_iff' _ _).1 e).2.2, h1, h2, beq_eq_false_iff_ne.2 fun e => h3 (by
          rw [ByteArray.toList_eq, ByteArray.toList_eq] at e
          exact ByteArray.ext (Array.toList_inj.1 e))⟩))
    · exact .inr (.inr (.inl ⟨fun e => h2 ((ValM.ext_iff' _ _).1 e).2.1, h1, by simpa using h2⟩))
  · exact .inr (.inl ⟨fun e => h1 ((ValM.ext_iff' _ _).1 e).1, by simpa using (by omega : ¬ (xk : Int) = yk)⟩)
set_option maxRecDepth 10000 in
set_option maxHeartbeats 2000000 in
theorem Values_any (xs ys : List ValM) (av bv : Value) (hxl : xs.length ≤ 1000000) {w0 : World} {H : Hp} {L : List (Nat × Obj)} {w : World} (hx : SlR encVal H av xs) (hy : SlR encVal H bv ys) (m : Mem w0 H L w) :
    Calls Try.prog 19 #[av, bv] w (Ret w0 H L (.bool (decide (xs = ys)))) := by
  have HX := Lib.hid hx
  have HY := Lib.hid hy
  obtain ⟨ab, ac, rfl, _, _, _, _⟩ := hx
  obtain ⟨bb, bc, rfl, _, _, _, _⟩ := hy
  by_cases hlen : xs.length = ys.length
  · have hylI : (ys.length : Int) = (xs.length : Int) := by omega
    go_enter Try.func19, Try.ntmps19
    go_wp2_with fail
    go_loopw [5] (fun v5 wr => ∃ k : Nat, k ≤ xs.length ∧ v5 = .int .i64 k ∧ xs.take k = ys.take k ∧ Mem w0 H L wr) (fun i _ => xs.length - (intOf i).toNat)
    case atStart => exact ⟨0, Nat.zero_le _, rfl, rfl, m⟩
    case round =>
      obtain ⟨k, hk, rfl, hall, m2⟩ := hrel
      have HA := Lib.hid hall; clear hall
      by_cases hlt : k < xs.length
      · have hlt2 : k < ys.length := by omega
        obtain ⟨b1, o1, rfl, x0, x1, x2, _⟩ := HX.out.getV hlt
        obtain ⟨b2, o2, rfl, y0, y1, y2, _⟩ := HY.out.getV hlt2
        have x0 := x0.cell m2
        have x1 := x1.cell m2
        have x2 := x2.cell m2
        have y0 := y0.cell m2
        have y1 := y1.cell m2
        have y2 := y2.cell m2
        have hltI : (k : Int) < xs.length := by omega
        have hltJ : (k : Int) < ys.length := by omega
        have htx : xs.take (k + 1) = xs.take k ++ [xs[k]] := List.take_succ_eq_append_getElem hlt
        have hty : ys.take (k + 1) = ys.take k ++ [ys[k]] := List.take_succ_eq_append_getElem hlt2
        have hne : xs[k] ≠ ys[k] → xs ≠ ys := fun h e => h (by subst e; rfl)
        have HTX := Lib.hid htx; clear htx
        have HTY := Lib.hid hty; clear hty
        have HNE := Lib.hid hne; clear hne
        generalize xs[k] = x at *
        generalize ys[k] = y at *
        obtain ⟨xk, xn, xss⟩ := x
        obtain ⟨yk, yn, yss⟩ := y
        simp only at *
        rcases val_cases xk yk xn yn xss yss with ⟨he, rfl, rfl, rfl⟩ | ⟨he, h1⟩ | ⟨he, rfl, h1⟩ | ⟨he, rfl, rfl, h1⟩
        · clear he
          go_wp2_with fail
          go_quiet (fail)
          have m3 := m2.drewN nq
          generalize wr.drewN nq = W at *
          go_wp2_with fail
          go_roundw
          case rel => exact ⟨k + 1, by omega, by go_num, by rw [HTX.out, HTY.out, HA.out], m3⟩
          case measure => simp [intOf]; omega
        all_goals
          have HE := Lib.hid (HNE.out he); clear he
          rw [decide_eq_false HE.out]
          go_wp2_with fail
          go_quiet (fail)
          have m3 := m2.drewN nq
          generalize wr.drewN nq = W at *
          go_wp2_with fail
          go_ret
          exact ⟨rfl, m3⟩
      · have hge : ¬ (k : Int) < xs.length := by omega
        go_wp2_with fail
        go_ret
        refine ⟨ret_bool ?_, m2⟩
        have := HA.out
        rw [List.take_of_length_le (by omega), List.take_of_length_le (by omega)] at this
        simp [this]
  · have hlI : ¬ (xs.length : Int) = ys.length := by omega
    rw [decide_eq_false (fun e => hlen (by rw [e]))]
    clear hlen
    go_enter Try.func19, Try.ntmps19
    go_wp2_with fail
    go_ret
    exact ⟨rfl, m⟩
end Go.Proofs.Ythipkmmdjhpklaa
