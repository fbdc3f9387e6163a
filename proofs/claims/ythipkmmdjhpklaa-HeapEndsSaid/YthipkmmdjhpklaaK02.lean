/- The walks: the small functions of chapter 15 that only read. The walks: is a value one of a heap? Plain lemmas: a heap of chapter 15 that a call owns: its rows, and the slots of each object, in blocks of the call's own. No program's function in sight. The walks: copies of slots and objects; one value moved. The walk: one value moved. The walk: values moved, one after the other, where they lie. -/
import Derived.Test.YthipkmmdjhpklaaRows
import Derived.Test.YthipkmmdjhpklaaK01
import Derived.Deep.QuietTactic
import Derived.BigQuiet
import Derived.Deep.DeepMust
import Derived.Deep.CutRange
namespace Go.Proofs.Ythipkmmdjhpklaa
set_option linter.unusedVariables false
set_option linter.unusedSimpArgs false
open Go.RowKit

theorem ret_bool {a b : Bool} (h : a = b) : Ending.returned (.bool a) = .returned (.bool b) := by rw [h]
theorem ret_int {k : IntKind} {a b : Int} (h : a = b) : Ending.returned (.int k a) = .returned (.int k b) := by rw [h]
def inAll (lo hi : Int) (xs : List Int) : Bool := xs.all fun n => decide (lo ≤ n ∧ n ≤ hi)

set_option maxHeartbeats 400000 in
theorem isString_any (s : ByteArray) (hs : s.size ≤ maxLen) (w : World) :
    Calls Try.prog 113 #[.string s] w fun e w' => e = .returned (.bool (isText s)) ∧ w = w' := by
  have hs := size_le_maxLen hs
  go_enter Try.func113, Try.ntmps113
  go_wp2
  go_loop [3, 6] (fun _ i => ∃ k : Nat, k ≤ s.size ∧ i = .int .i64 k ∧ (s.data.toList.take k).all okByte = true) (fun _ i => s.size - (intOf i).toNat)
  case atStart => exact ⟨0, Nat.zero_le _, rfl, rfl⟩
  case round =>
    obtain ⟨k, hk, rfl, hall⟩ := hrel
    have HA := Lib.hid hall; clear hall
    by_cases hlt : k < s.size
    · cases ho : okByte s[k]
      · have hb := (okByte_not _).1 ho; have HO := Lib.hid ho; clear ho
        have hx : ((s[k].toNat : Int) != 10) = true := by rw [bne_iff_ne]; omega
        go_wp2
        all_goals (go_ret; exact ⟨ret_bool (by rw [isText_bad s k hlt HO.out]), rfl⟩)
      · have hb := (okByte_iff _).1 ho; have HO := Lib.hid ho; clear ho
        rcases hb with hb | hb
        all_goals (first | (have hx : ((s[k].toNat : Int) != 10) = true := by rw [bne_iff_ne]; omega) | skip)
        all_goals go_wp2
        all_goals
          go_round
          case rel => exact ⟨k + 1, by omega, by go_num, okByte_snoc s k hlt HA.out HO.out⟩
          case measure => simp [intOf]; omega
    · by_cases h200 : s.size ≤ 200
      · go_wp2
        go_ret
        exact ⟨ret_bool (by rw [isText_good s k hlt h200 HA.out]; simp; omega), rfl⟩
      · go_wp2
        go_ret
        exact ⟨ret_bool (by rw [isText_long s (by omega)]; simp; omega), rfl⟩

/-- within's closure: is a number outside? -/
theorem within1_any (n lo hi : Int) (bl bh : Nat) (w : World) (h1 : w.cell? ⟨bl, 0, none⟩ = some (.int .i64 lo)) (h2 : w.cell? ⟨bh, 0, none⟩ = some (.int .i64 hi)) :
    Calls Try.prog 70 #[.int .i64 n, .pointer (some ⟨bl, 0, none⟩), .pointer (some ⟨bh, 0, none⟩)] w fun e w' => e = .returned (.bool (!decide (lo ≤ n ∧ n ≤ hi))) ∧ w = w' := by
  go_enter Try.func70, Try.ntmps70
  go_wp2
  all_goals (go_ret; refine ⟨ret_bool ?_, rfl⟩; rw [Bool.eq_iff_iff]; simp <;> omega)

def SomeIdx (p : Bool) (w : World) (e : Ending) (w' : World) : Prop := ∃ k : Int, e = .returned (.int .i64 k) ∧ decide (0 ≤ k) = p ∧ w = w'

set_option maxHeartbeats 400000 in
theorem IndexFuncI_any (v : Value) (xs : List Int) (lo hi : Int) (bl bh : Nat) {w0 w : World} {H : Hp} {L : List (Nat × Obj)} (m : Mem w0 H L w) (hv : SlR encInt H v xs)
    (h1 : w.cell? ⟨bl, 0, none⟩ = some (.int .i64 lo)) (h2 : w.cell? ⟨bh, 0, none⟩ = some (.int .i64 hi)) :
    Calls Try.prog 87 #[v, .func (.func 70) #[] #[.pointer (some ⟨bl, 0, none⟩), .pointer (some ⟨bh, 0, none⟩)]] w (SomeIdx (!inAll lo hi xs) w) := by
  have HV := Lib.hid hv
  obtain ⟨b, c, rfl, hc1, hc2, _, _⟩ := hv
  have hc2 := size_le_maxLen hc2
  go_enter Try.func87, Try.ntmps87
  go_wp2
  go_loop [5, 8] (fun _ i => ∃ k : Nat, k ≤ xs.length ∧ i = .int .i64 k ∧ inAll lo hi (xs.take k) = true) (fun _ i => xs.length - (intOf i).toNat)
  case atStart => exact ⟨0, Nat.zero_le _, rfl, rfl⟩
  case round =>
    obtain ⟨k, hk, rfl, hall⟩ := hrel
    have HA := Lib.hid hall; clear hall
    by_cases hlt : k < xs.length
    · obtain ⟨blk, off, rfl, hcell, hp⟩ := HV.out.cellV hlt
      have hcell := hcell.cell m
      cases hq : decide (lo ≤ xs[k] ∧ xs[k] ≤ hi)
      · have HQ := Lib.hid hq
        go_wp2_with (go_at_call 70; refine (within1_any _ lo hi bl bh _ h1 h2).mono ?_; rintro e w' ⟨rfl, rfl⟩)
        go_ret
        refine ⟨_, rfl, ?_, rfl⟩
        rw [show inAll lo hi xs = false from all_false_of _ xs k hlt HQ.out]
        simp
      · have HQ := Lib.hid hq
        go_wp2_with (go_at_call 70; refine (within1_any _ lo hi bl bh _ h1 h2).mono ?_; rintro e w' ⟨rfl, rfl⟩)
        go_round
        case rel => exact ⟨k + 1, by omega, by go_num, by have := HA.out; unfold inAll at *; rw [all_take_succ _ _ _ hlt, this, HQ.out]; rfl⟩
        case measure => simp [intOf]; omega
    · go_wp2
      go_ret
      refine ⟨_, rfl, ?_, rfl⟩
      have := HA.out
      rw [List.take_of_length_le (by omega)] at this
      rw [this]
      rfl

theorem ContainsFuncI_any (v : Value) (xs : List Int) (lo hi : Int) (bl bh : Nat) {w0 w : World} {H : Hp} {L : List (Nat × Obj)} (m : Mem w0 H L w) (hv : SlR encInt H v xs)
    (h1 : w.cell? ⟨bl, 0, none⟩ = some (.int .i64 lo)) (h2 : w.cell? ⟨bh, 0, none⟩ = some (.int .i64 hi)) :
    Calls Try.prog 69 #[v, .func (.func 70) #[] #[.pointer (some ⟨bl, 0, none⟩), .pointer (some ⟨bh, 0, none⟩)]] w fun e w' => e = .returned (.bool (!inAll lo hi xs)) ∧ w = w' := by
  go_enter Try.func69, Try.ntmps69
  go_wp2_with (go_at_call 87; refine (IndexFuncI_any v xs lo hi bl bh m hv h1 h2).mono ?_; rintro e w' ⟨k, rfl, hk, rfl⟩; have HK := Lib.hid hk; clear hk)
  go_ret
  exact ⟨ret_bool HK.out, rfl⟩

theorem within_any (v : Value) (xs : List Int) (lo hi : Int) {w0 w : World} {H : Hp} {L : List (Nat × Obj)} (m : Mem w0 H L w) (hv : SlR encInt H v xs) :
    Calls Try.prog 48 #[.int .i64 lo, .int .i64 hi, v] w (Ret w0 H L (.bool (inAll lo hi xs))) := by
  have HV := Lib.hid hv; clear hv
  go_enter Try.func48, Try.ntmps48
  go_wp2_with fail
  have m1 := (m.alloc (.cells #[.int .i64 lo] 3)).alloc (.cells #[.int .i64 hi] 3)
  have es := m1.eqs
  simp only [EqsL] at es
  refine (ContainsFuncI_any v xs lo hi _ _ m1 HV.out (by simp [es]) (by simp [es])).mono ?_
  rintro e w1 ⟨rfl, rfl⟩
  go_wp2
  go_ret
  exact ⟨ret_bool (by simp), m1.drop.drop⟩
/-- A list of numbers, written out, that lies in a block of the call's own. -/
theorem Mem.ints {w0 w : World} {H : Hp} {L : List (Nat × Obj)} {b : Nat} {xs : List Int} (m : Mem w0 H ((b, .cells (xs.map (Value.int .i64)).toArray 3) :: L) w) (hx : ∀ x ∈ xs, I64 x) (hm : xs.length ≤ maxLen) :
    ∃ H', Mem w0 H' L w ∧ Hle H H' ∧ SlR encInt H' (.slice (some ⟨b, 0, none⟩) xs.length xs.length) xs :=
  m.lit (Chunks.ofV (f := Value.int .i64) (p := I64) xs hx) hm
theorem within1n (b : Nat) (n lo hi : Int) (hn : I64 n) {w0 w : World} {H : Hp} {L : List (Nat × Obj)} (m : Mem w0 H ((b, .cells #[.int .i64 n] 3) :: L) w) :
    Calls Try.prog 48 #[.int .i64 lo, .int .i64 hi, .slice (some ⟨b, 0, none⟩) 1 1] w (Ret w0 H L (.bool (decide (lo ≤ n ∧ n ≤ hi)))) := by
  obtain ⟨H', m1, hl, hs⟩ := Mem.ints (xs := [n]) m (by simpa using hn) (by simp [maxLen])
  refine (within_any _ [n] lo hi m1 hs).mono ?_
  rintro e w' ⟨rfl, m2⟩
  exact ⟨by simp [inAll], m2.weaken hl⟩

set_option maxHeartbeats 400000 in
theorem isName_any (s : ByteArray) (hs : s.size ≤ maxLen) {w0 w : World} {H : Hp} {L : List (Nat × Obj)} (m : Mem w0 H L w) :
    Calls Try.prog 107 #[.string s] w (Ret w0 H L (.bool (isName s))) := by
  have hs := size_le_maxLen hs
  go_enter Try.func107, Try.ntmps107
  go_wp2_with fail
  go_loop [3, 6] (fun _ i => ∃ k : Nat, k ≤ s.size ∧ i = .int .i64 k ∧ (s.data.toList.take k).all nameByte = true) (fun _ i => s.size - (intOf i).toNat)
  case atStart => exact ⟨0, Nat.zero_le _, rfl, rfl⟩
  case round =>
    obtain ⟨k, hk, rfl, hall⟩ := hrel
    have HA := Lib.hid hall; clear hall
    by_cases hlt : k < s.size
    · cases ho : nameByte s[k]
      · have hb := (nameByte_not _).1 ho; have HO := Lib.hid ho; clear ho
        have hx : ((s[k].toNat : Int) == 34) = decide (s[k].toNat = 34) := by rw [Bool.eq_iff_iff]; simp; omega
        rcases hb with hb | hb | hb
        all_goals go_wp2_with fail
        all_goals (go_ret; exact ⟨ret_bool (by rw [isName_bad s k hlt HO.out]), m⟩)
      · have hb := (nameByte_iff _).1 ho; have HO := Lib.hid ho; clear ho
        have hx : ((s[k].toNat : Int) == 34) = false := beq_eq_false_iff_ne.2 (by omega)
        go_wp2_with fail
        go_round
        case rel => exact ⟨k + 1, by omega, by go_num, nameByte_snoc s k hlt HA.out HO.out⟩
        case measure => simp [intOf]; omega
    · go_wp2_with fail
      have m1 := m.alloc (.cells #[.int .i64 s.size] 3)
      refine (within1n _ s.size 1 40 ⟨by omega, by omega⟩ m1).mono ?_
      rintro e w' ⟨rfl, m2⟩
      go_wp2_with fail
      go_ret
      refine ⟨ret_bool ?_, m2⟩
      rw [isName_all s k hlt HA.out, Bool.eq_iff_iff]
      simp
      omega

def VBox (x : ValM) : Obj := .cells #[.int .u8 x.kind, .int .i64 x.n, .string x.s] 50
set_option maxHeartbeats 400000 in
theorem split_any (x : ValM) {w0 : World} {H : Hp} {L : List (Nat × Obj)} {w : World} (m : Mem w0 H L w) (hn : I64 x.n) :
    Calls Try.prog 81 #[x.v] w (Ret w0 H L (.tuple #[.int .i64 (x.n.tmod 2), .int .i64 (x.n.tdiv 2)])) := by
  unfold I64 at hn
  unfold ValM.v
  go_enter Try.func81, Try.ntmps81
  have m1 := m.alloc (.cells #[.int .u8 x.kind, .int .i64 x.n, .string x.s] 50)
  have es := m1.eqs; simp only [EqsL, and_true] at es
  go_wp2_with fail
  go_quiet (fail)
  go_wp2_with fail
  go_ret2
  exact ⟨rfl, m1.drop.drewN _⟩
theorem beq_u8 (k : Nat) (c : Nat) : ((k : Int) == (c : Int)) = decide (k = c) := by rw [Bool.eq_iff_iff]; simp; omega
/-- The box of a heap that is changed, first in the list of what is owned. -/
abbrev HBox (T : TypeId) (size half scan : Int) (busy : Bool) (vo vn vr : Value) : Obj := .cells #[.int .i64 size, .int .i64 half, .int .i64 scan, .bool busy, vo, vn, vr] T
abbrev TH : TypeId := 94
set_option maxHeartbeats 1000000 in
theorem isOld_any (b : Nat) (x : ValM) (hx : x.fit) {size half scan : Int} {busy : Bool} {vo vn vr : Value} {w0 : World} {H : Hp} {L : List (Nat × Obj)} {w : World} (m : Mem w0 H ((b, HBox TH size half scan busy vo vn vr) :: L) w) :
    Calls Try.prog 82 #[.pointer (some ⟨b, 0, none⟩), x.v] w (Ret w0 H ((b, HBox TH size half scan busy vo vn vr) :: L) (.bool (decide (x.kind = 5 ∧ x.n.tmod 2 ≠ half)))) := by
  obtain ⟨hk, hn, hs⟩ := hx
  have hs := size_le_maxLen hs
  show Calls Try.prog 82 #[.pointer (some ⟨b, 0, none⟩), .agg #[.int .u8 x.kind, .int .i64 x.n, .string x.s]] w _
  have m1 := m.alloc (VBox x)
  unfold VBox HBox at m1
  have es := m1.eqs; simp only [EqsL, and_true] at es
  have ns := m1.nes; simp only [NeL, NeFrom, and_true, true_and] at ns
  have hk5 := beq_u8 x.kind 5
  have hne : (x.n.tmod 2 != half) = decide (x.n.tmod 2 ≠ half) := by rw [Bool.eq_iff_iff]; simp
  go_enter Try.func82, Try.ntmps82
  go_wp2_with (go_at_call 81; refine (split_any x m1 hn).mono ?_; rintro e w1 ⟨rfl, m2⟩; have es := m2.eqs; simp only [EqsL, and_true] at es)
  · rename_i h
    go_ret
    exact ⟨ret_bool (by rw [Bool.eq_iff_iff]; simp [show x.kind = 5 by omega]), m2.drop⟩
  · rename_i h
    go_ret
    exact ⟨ret_bool (by rw [Bool.eq_iff_iff]; simp; omega), m2.drop⟩
theorem tmod2 {n : Int} (h : 0 ≤ n) : n.tmod 2 = n % 2 := Int.tmod_eq_emod_of_nonneg h
theorem tdiv2 {n : Int} (h : 0 ≤ n) : n.tdiv 2 = n / 2 := Int.tdiv_eq_ediv_of_nonneg h

def RetV (w0 : World) (H : Hp) (L : List (Nat × Obj)) (x : ValM) (e : Ending) (w' : World) : Prop := e = .returned x.v ∧ Mem w0 H L w'
set_option maxHeartbeats 400000 in
theorem unit_any {w0 : World} {H : Hp} {L : List (Nat × Obj)} {w : World} (m : Mem w0 H L w) : Calls Try.prog 77 #[] w (RetV w0 H L unitV) := by
  go_enter Try.func77, Try.ntmps77
  go_wp2_with fail
  refine bodyPost_ret (v := unitV.v) (by simp [results, Try.results77, go_sem]; rfl) rfl ?_
  exact ⟨rfl, (m.alloc _).drop⟩
set_option maxHeartbeats 400000 in
theorem number_any (n : Int) {w0 : World} {H : Hp} {L : List (Nat × Obj)} {w : World} (m : Mem w0 H L w) : Calls Try.prog 52 #[.int .i64 n] w (RetV w0 H L (intV n)) := by
  go_enter Try.func52, Try.ntmps52
  go_wp2_with fail
  refine bodyPost_ret (v := (intV n).v) (by simp [results, Try.results52, go_sem]; rfl) rfl ?_
  exact ⟨rfl, (m.alloc _).drop⟩
set_option maxHeartbeats 400000 in
theorem truth_any (n : Bool) {w0 : World} {H : Hp} {L : List (Nat × Obj)} {w : World} (m : Mem w0 H L w) : Calls Try.prog 110 #[.bool n] w (RetV w0 H L (boolV n)) := by
  cases n
  · go_enter Try.func110, Try.ntmps110
    go_wp2_with fail
    refine bodyPost_ret (v := (boolV false).v) (by simp [results, Try.results110, go_sem]; rfl) rfl ?_
    exact ⟨rfl, ((m.alloc _).alloc _).drop.drop⟩
  · go_enter Try.func110, Try.ntmps110
    go_wp2_with fail
    refine bodyPost_ret (v := (boolV true).v) (by simp [results, Try.results110, go_sem]; rfl) rfl ?_
    exact ⟨rfl, ((m.alloc _).alloc _).drop.drop⟩
set_option maxHeartbeats 400000 in
theorem refer_any (b : Nat) (k : Int) (hk : -1000000 ≤ k ∧ k ≤ 1000000) {size half scan : Int} (hh : -10 ≤ half ∧ half ≤ 10) {busy : Bool} {vo vn vr : Value} {w0 : World} {H : Hp} {L : List (Nat × Obj)} {w : World} (m : Mem w0 H ((b, HBox TH size half scan busy vo vn vr) :: L) w) :
    Calls Try.prog 83 #[.pointer (some ⟨b, 0, none⟩), .int .i64 k] w (RetV w0 H ((b, HBox TH size half scan busy vo vn vr) :: L) (refV half k)) := by
  have m1 := m
  unfold HBox at m1
  have es := m1.eqs; simp only [EqsL, and_true] at es
  go_enter Try.func83, Try.ntmps83
  go_wp2_with fail
  refine bodyPost_ret (v := (refV half k).v) (by simp [results, Try.results83, go_sem]; rfl) rfl ?_
  exact ⟨rfl, (m.alloc _).drop⟩
end Go.Proofs.Ythipkmmdjhpklaa
namespace Go.Proofs.Ythipkmmdjhpklaa
set_option linter.unusedVariables false
set_option linter.unusedSimpArgs false
open Go.RowKit

def inB (half : Int) (on nn : Nat) (v : ValM) : Bool := v.plain && (decide (v.kind ≠ 5) || decide ((v.n / 2).toNat < if oldV half v then on else nn))
theorem empty_iff (s : ByteArray) : (s.toList == []) = decide (s = ByteArray.empty) := by
  rw [Bool.eq_iff_iff]
  simp [ByteArray.toList_eq, ByteArray.ext_iff]
theorem isEmpty_iff (s : ByteArray) : s.toList.isEmpty = decide (s = ByteArray.empty) := by
  rw [Bool.eq_iff_iff]
  simp [ByteArray.toList_eq, ByteArray.ext_iff]
theorem toList_nil (s : ByteArray) : s.toList = [] ↔ s = ByteArray.empty := by
  simp [ByteArray.toList_eq, ByteArray.ext_iff]
set_option maxRecDepth 10000 in
set_option maxHeartbeats 4000000 in
theorem isValue_any (b : Nat) (x : ValM) (hx : x.fit) {size half scan : Int} {busy : Bool} {ob nb : Option Addr} {on oc nn nc : Nat} {vr : Value} {w0 : World} {H : Hp} {L : List (Nat × Obj)} {w : World} (m : Mem w0 H ((b, HBox TH size half scan busy (.slice ob on oc) (.slice nb nn nc) vr) :: L) w) (hon : on ≤ 100000) (hnn : nn ≤ 100000) :
    Calls Try.prog 106 #[.pointer (some ⟨b, 0, none⟩), x.v] w (Ret w0 H ((b, HBox TH size half scan busy (.slice ob on oc) (.slice nb nn nc) vr) :: L) (.bool (inB half on nn x))) := by
  have hx0 := Lib.hid hx
  obtain ⟨hk, hn, hs⟩ := hx
  have HS := Lib.hid hs; clear hs
  show Calls Try.prog 106 #[.pointer (some ⟨b, 0, none⟩), .agg #[.int .u8 x.kind, .int .i64 x.n, .string x.s]] w _
  have m1 := m.alloc (VBox x)
  unfold VBox HBox at m1
  have m0 := m
  unfold HBox at m0
  have es := m0.eqs; simp only [EqsL, and_true] at es
  have hI := hn
  unfold I64 at hn
  obtain ⟨k, n, s⟩ := x
  simp only at *
  have hks : k = 0 ∨ k = 1 ∨ k = 2 ∨ k = 3 ∨ k = 4 ∨ k = 5 ∨ 5 < k := by omega
  rcases hks with rfl | rfl | rfl | rfl | rfl | rfl | hk5
  · go_enter Try.func106, Try.ntmps106
    by_cases h0 : n = 0 ∧ s = ByteArray.empty
    · obtain ⟨rfl, rfl⟩ := h0
      go_wp2_with fail
      go_ret
      exact ⟨ret_bool (by simp [inB, ValM.plain]), m1.drop⟩
    · have hp : inB half on nn ⟨0, n, s⟩ = false := by
        simp only [inB, ValM.plain]
        simp
        intro h1 h2
        exact h0 ⟨h1, h2⟩
      rw [hp]
      go_wp2_with fail
      all_goals first
        | (go_ret; exact ⟨rfl, m1.drop⟩)
        | (exfalso; rename_i h1 h2; exact h0 ⟨h1, (toList_nil s).1 h2⟩)
        | (rename_i h1 h2; subst h1; go_ret; exact ⟨rfl, m1.drop⟩)
  · go_enter Try.func106, Try.ntmps106
    go_wp2_with fail
    have m2 := m1.alloc (.cells #[.int .i64 n] 3)
    rw [World.size_alloc] at m2
    refine (within1n _ n (-1000000000) 1000000000 hI m2).mono ?_
    rintro e w2 ⟨rfl, m3⟩
    clear es m2
    have es := m3.eqs; simp only [EqsL, and_true] at es
    by_cases hr : -1000000000 ≤ n ∧ n ≤ 1000000000
    · rw [decide_eq_true hr]
      go_wp2_with fail
      go_ret
      exact ⟨ret_bool (by rw [show inB half on nn _ = _ from rfl]; simp [inB, ValM.plain, hr, isEmpty_iff]), m3.drop⟩
    · rw [decide_eq_false hr]
      go_wp2_with fail
      go_ret
      exact ⟨ret_bool (by simp [inB, ValM.plain, hr]), m3.drop⟩
  · go_enter Try.func106, Try.ntmps106
    go_wp2_with fail
    have m2 := m1.alloc (.cells #[.int .i64 n] 3)
    rw [World.size_alloc] at m2
    refine (within1n _ n (0) 1 hI m2).mono ?_
    rintro e w2 ⟨rfl, m3⟩
    clear es m2
    have es := m3.eqs; simp only [EqsL, and_true] at es
    by_cases hr : 0 ≤ n ∧ n ≤ 1
    · rw [decide_eq_true hr]
      go_wp2_with fail
      go_ret
      exact ⟨ret_bool (by rw [show inB half on nn _ = _ from rfl]; simp [inB, ValM.plain, hr, isEmpty_iff]), m3.drop⟩
    · rw [decide_eq_false hr]
      go_wp2_with fail
      go_ret
      exact ⟨ret_bool (by simp [inB, ValM.plain, hr]), m3.drop⟩
  · go_enter Try.func106, Try.ntmps106
    by_cases hn0 : n = 0
    · subst hn0
      go_wp2_with fail
      refine (isString_any s HS.out _).mono ?_
      rintro e w2 ⟨rfl, rfl⟩
      go_wp2_with fail
      go_ret
      exact ⟨ret_bool (by simp [inB, ValM.plain]), m1.drop⟩
    · have hn1 : (n == 0) = false := by simpa using hn0
      go_wp2_with fail
      go_ret
      exact ⟨ret_bool (by simp [inB, ValM.plain, hn0]), m1.drop⟩
  · go_enter Try.func106, Try.ntmps106
    by_cases hn0 : n = 0
    · subst hn0
      go_wp2_with fail
      refine (isName_any s HS.out m1).mono ?_
      rintro e w2 ⟨rfl, m2⟩
      go_wp2_with fail
      go_ret
      exact ⟨ret_bool (by simp [inB, ValM.plain]), m2.drop⟩
    · have hn1 : (n == 0) = false := by simpa using hn0
      go_wp2_with fail
      go_ret
      exact ⟨ret_bool (by simp [inB, ValM.plain, hn0]), m1.drop⟩
  · go_enter Try.func106, Try.ntmps106
    go_wp2_with fail
    refine (isOld_any b ⟨5, n, s⟩ hx0.out (m1.perm (.swap _ _ _))).mono ?_
    rintro e w2 ⟨rfl, m2⟩
    by_cases hold : n.tmod 2 ≠ half
    · rw [decide_eq_true ⟨rfl, hold⟩]
      have m3 := m2.perm (.swap _ _ _)
      clear es
      have es := m3.eqs; simp only [EqsL, and_true] at es
      go_wp2_with fail
      refine (split_any ⟨5, n, s⟩ m3 hI).mono ?_
      rintro e w3 ⟨rfl, m4⟩
      clear es
      have es := m4.eqs; simp only [EqsL, and_true] at es
      by_cases hn0 : 0 ≤ n
      · rw [tdiv2 hn0]
        have hh : ¬ n % 2 = half := by rw [← tmod2 hn0]; exact hold
        obtain ⟨q, hq⟩ := Int.eq_ofNat_of_zero_le (show 0 ≤ n / 2 by omega)
        rw [hq]
        have hge : (0 : Int) ≤ n := hn0
        have hres : inB half on nn ⟨5, n, s⟩ = (decide (s = ByteArray.empty) && decide (q < on)) := by
          have : (n / 2).toNat = q := by omega
          by_cases hs0 : s = ByteArray.empty
          · simp [inB, ValM.plain, hn0, hs0, this, oldV, hh]
          · simp [inB, ValM.plain, hs0]
        by_cases hlt : q < on
        · have hlt1 : (q : Int) < on := by omega
          go_wp2_with fail
          go_ret
          exact ⟨ret_bool (by rw [hres]; simp [hlt, isEmpty_iff]), m4.drop⟩
        · have hlt1 : ¬ (q : Int) < on := by omega
          go_wp2_with fail
          go_ret
          exact ⟨ret_bool (by rw [hres]; simp [hlt]), m4.drop⟩
      · have hres : inB half on nn ⟨5, n, s⟩ = false := by simp [inB, ValM.plain, hn0]
        have hge : ¬ (0 : Int) ≤ n := hn0
        go_wp2_with fail
        go_ret
        exact ⟨by first | rfl | exact ret_bool hres.symm, m4.drop⟩
    · rw [decide_eq_false (fun h => hold h.2)]
      have m3 := m2.perm (.swap _ _ _)
      clear es
      have es := m3.eqs; simp only [EqsL, and_true] at es
      go_wp2_with fail
      refine (split_any ⟨5, n, s⟩ m3 hI).mono ?_
      rintro e w3 ⟨rfl, m4⟩
      clear es
      have es := m4.eqs; simp only [EqsL, and_true] at es
      by_cases hn0 : 0 ≤ n
      · rw [tdiv2 hn0]
        have hh : n % 2 = half := by rw [← tmod2 hn0]; exact Decidable.of_not_not hold
        obtain ⟨q, hq⟩ := Int.eq_ofNat_of_zero_le (show 0 ≤ n / 2 by omega)
        rw [hq]
        have hge : (0 : Int) ≤ n := hn0
        have hres : inB half on nn ⟨5, n, s⟩ = (decide (s = ByteArray.empty) && decide (q < nn)) := by
          have : (n / 2).toNat = q := by omega
          by_cases hs0 : s = ByteArray.empty
          · simp [inB, ValM.plain, hn0, hs0, this, oldV, hh]
          · simp [inB, ValM.plain, hs0]
        by_cases hlt : q < nn
        · have hlt1 : (q : Int) < nn := by omega
          go_wp2_with fail
          go_ret
          exact ⟨ret_bool (by rw [hres]; simp [hlt, isEmpty_iff]), m4.drop⟩
        · have hlt1 : ¬ (q : Int) < nn := by omega
          go_wp2_with fail
          go_ret
          exact ⟨ret_bool (by rw [hres]; simp [hlt]), m4.drop⟩
      · have hres : inB half on nn ⟨5, n, s⟩ = false := by simp [inB, ValM.plain, hn0]
        have hge : ¬ (0 : Int) ≤ n := hn0
        go_wp2_with fail
        go_ret
        exact ⟨by first | rfl | exact ret_bool hres.symm, m4.drop⟩
  · have e0 : ((k : Int) == 0) = false := beq_eq_false_iff_ne.2 (by omega)
    have e1 : ((k : Int) == 1) = false := beq_eq_false_iff_ne.2 (by omega)
    have e2 : ((k : Int) == 2) = false := beq_eq_false_iff_ne.2 (by omega)
    have e3 : ((k : Int) == 3) = false := beq_eq_false_iff_ne.2 (by omega)
    have e4 : ((k : Int) == 4) = false := beq_eq_false_iff_ne.2 (by omega)
    have e5 : ((k : Int) == 5) = false := beq_eq_false_iff_ne.2 (by omega)
    go_enter Try.func106, Try.ntmps106
    go_wp2_with fail
    go_ret
    refine ⟨ret_bool ?_, m1.drop⟩
    simp [inB, ValM.plain, show k ≠ 0 by omega, show k ≠ 1 by omega, show k ≠ 2 by omega, show k ≠ 3 by omega, show k ≠ 4 by omega, show k ≠ 5 by omega]
end Go.Proofs.Ythipkmmdjhpklaa
namespace Go.Proofs.Ythipkmmdjhpklaa
set_option linter.unusedVariables false
set_option linter.unusedSimpArgs false
open Go.RowKit

/-! ### Owned cells: read and written -/
section
variable {w0 w : World} {H H' : Hp} {L L0 : List (Nat × Obj)} {e : TypeId} {size n : Nat} {v : Value} {cs : List Value}
theorem AccL.at {b : Option Addr} {c : Nat} (h : AccL e size (.slice b n c) n cs L0) (hp : 0 < cs.length) (m : Mem w0 H L w) (hs : ∀ p, p ∈ L0 → p ∈ L) :
    ∃ g, b = some ⟨g, 0, none⟩ ∧ (∀ i u, cs[i]? = some u → w.cell? ⟨g, i, none⟩ = some u) ∧ (∀ i, w.frozen? ⟨g, i, none⟩ = false) ∧ g < w.heap.size ∧ n ≤ c ∧ c ≤ maxLen := by
  rcases h.2 with ⟨_, h2, _⟩ | ⟨g, cap, cur, h1, h2, h3, h4, h5, rfl⟩
  · have := h.1
    rw [h2, Nat.zero_mul] at this
    omega
  · cases h1
    have hg := (m.loc _ (hs _ (.head _))).1
    refine ⟨g, rfl, fun i u hu => ?_, frozen_of_heap hg, lt_of_heap hg, h2, h3⟩
    rw [cell_of_heap hg]
    rw [← h5, List.getElem?_take] at hu
    split at hu
    · simpa using hu
    · cases hu
theorem take_set_lt {α : Type} (l : List α) (n k : Nat) (x : α) (h : k < n) : (l.set k x).take n = (l.take n).set k x := by
  rw [List.take_set]
theorem AccL.set1 {g c k : Nat} {x : Value} (h : AccL e size (.slice (some ⟨g, 0, none⟩) n c) n cs L0) (hk : k < cs.length) (m : Mem w0 H (L0 ++ L) w) :
    ∃ L0', AccL e size (.slice (some ⟨g, 0, none⟩) n c) n (cs.set k x) L0' ∧ Mem w0 H (L0' ++ L) (w.setCell ⟨g, k, none⟩ x) := by
  rcases h.2 with ⟨h1, _⟩ | ⟨g', cap, cur, h1, h2, h3, h4, h5, rfl⟩
  · cases h1
  · cases h1
    have m' := m.set (i := k) (v := x) (.head (o' := .cells (cur.setIfInBounds k x) e (0, 0)))
    have hlen := h.1
    refine ⟨[(g, .cells (cur.setIfInBounds k x) e (0, 0))], ⟨by rw [List.length_set]; exact h.1, .inr ⟨g, c, _, rfl, h2, h3, by simpa using h4, ?_, rfl⟩⟩, m'⟩
    rw [Array.toList_setIfInBounds, take_set_lt _ _ _ _ (by omega), h5]
theorem AccL.set3 {g c k : Nat} {x y z : Value} (h : AccL e size (.slice (some ⟨g, 0, none⟩) n c) n cs L0) (hk : k + 2 < cs.length) (m : Mem w0 H (L0 ++ L) w) :
    ∃ L0', AccL e size (.slice (some ⟨g, 0, none⟩) n c) n (((cs.set k x).set (k + 1) y).set (k + 2) z) L0' ∧ Mem w0 H (L0' ++ L) (((w.setCell ⟨g, k, none⟩ x).setCell ⟨g, k + 1, none⟩ y).setCell ⟨g, k + 2, none⟩ z) := by
  obtain ⟨L1, h1, m1⟩ := h.set1 (k := k) (x := x) (by omega) m
  obtain ⟨L2, h2, m2⟩ := h1.set1 (k := k + 1) (x := y) (by rw [List.length_set]; omega) m1
  exact h2.set1 (k := k + 2) (x := z) (by rw [List.length_set, List.length_set]; omega) m2
theorem Mem.dropL : ∀ (L0 : List (Nat × Obj)), Mem w0 H (L0 ++ L) w → Mem w0 H L w
  | [], m => m
  | _ :: L0, m => Mem.dropL L0 m.drop
end

/-- Blocks of the call's own, whatever lies in them. -/
def MemB (w0 : World) (H : Hp) (ks : List Nat) (L : List (Nat × Obj)) (w : World) : Prop := ∃ L1 : List (Nat × Obj), L1.map Prod.fst = ks ∧ Mem w0 H (L1 ++ L) w
theorem LUpd.of_mem' {k : Nat} {o o' : Obj} : ∀ {L : List (Nat × Obj)}, (k, o) ∈ L → ∃ L', LUpd L k o o' L'
  | p :: L, h => by
    by_cases e : p = (k, o)
    · subst e; exact ⟨_, .head⟩
    · rcases List.mem_cons.1 h with h | h
      · exact absurd h.symm e
      · obtain ⟨L', hL⟩ := LUpd.of_mem' (o' := o') h
        exact ⟨_, .tail hL⟩
theorem LUpd.append {k : Nat} {o o' : Obj} {L1 L1' : List (Nat × Obj)} (h : LUpd L1 k o o' L1') (L : List (Nat × Obj)) : LUpd (L1 ++ L) k o o' (L1' ++ L) := by
  induction h with
  | head => exact .head
  | tail _ ih => exact .tail ih
theorem MemB.set {w0 w : World} {H : Hp} {ks : List Nat} {L : List (Nat × Obj)} {k i : Nat} {v : Value} (hk : k ∈ ks) (h : MemB w0 H ks L w) : MemB w0 H ks L (w.setCell ⟨k, i, none⟩ v) := by
  obtain ⟨L1, rfl, m⟩ := h
  obtain ⟨⟨k', o⟩, hp, rfl⟩ := List.mem_map.1 hk
  have hlt : k' < w.heap.size := lt_of_heap (m.loc _ (List.mem_append_left _ hp)).1
  have hsz : (w.setCell ⟨k', i, none⟩ v).heap.size = w.heap.size := by simp [World.setCell]
  have hk' : (w.setCell ⟨k', i, none⟩ v).heap[k']? = some ((w.setCell ⟨k', i, none⟩ v).heap[k']'(by omega)) := Array.getElem?_eq_getElem (by omega)
  obtain ⟨L1', hu⟩ := LUpd.of_mem' (o' := (w.setCell ⟨k', i, none⟩ v).heap[k']'(by omega)) hp
  exact ⟨L1', hu.keys, m.setObj (hu.append L) rfl rfl rfl hk' fun j hj => Below.heap_setCell w _ _ j hj⟩
theorem MemB.drewN {w0 w : World} {H : Hp} {ks : List Nat} {L : List (Nat × Obj)} {n : Nat} (h : MemB w0 H ks L w) : MemB w0 H ks L (w.drewN n) := by
  obtain ⟨L1, h1, m⟩ := h
  exact ⟨L1, h1, m.drewN n⟩
theorem MemB.done {w0 w : World} {H : Hp} {ks : List Nat} {L : List (Nat × Obj)} (h : MemB w0 H ks L w) : Mem w0 H L w := by
  obtain ⟨L1, _, m⟩ := h
  exact Mem.dropL L1 m

/-! ### Values -/
def valCs : List ValM → List Value
  | [] => []
  | v :: l => v.cs ++ valCs l
theorem valCs_length : ∀ l : List ValM, (valCs l).length = l.length * 3
  | [] => rfl
  | v :: l => by simp [valCs, ValM.cs, valCs_length l]; omega
theorem valCs_get : ∀ (l : List ValM) (i : Nat) (h : i < l.length), (valCs l)[i * 3]? = some (.int .u8 l[i].kind) ∧ (valCs l)[i * 3 + 1]? = some (.int .i64 l[i].n) ∧ (valCs l)[i * 3 + 2]? = some (.string l[i].s)
  | v :: l, 0, _ => by simp [valCs, ValM.cs]
  | v :: l, i + 1, h => by
    have := valCs_get l i (by simpa using h)
    have e : ∀ j, (i + 1) * 3 + j = i * 3 + j + 3 := fun j => by omega
    have e0 : (i + 1) * 3 = i * 3 + 3 := by omega
    simpa [valCs, ValM.cs, e, e0] using this
theorem valCs_set : ∀ (l : List ValM) (i : Nat) (x : ValM), i < l.length → (((valCs l).set (i * 3) (.int .u8 x.kind)).set (i * 3 + 1) (.int .i64 x.n)).set (i * 3 + 2) (.string x.s) = valCs (l.set i x)
  | v :: l, 0, x, _ => by simp [valCs, ValM.cs]
  | v :: l, i + 1, x, h => by
    have := valCs_set l i x (by simpa using h)
    have e : ∀ j, (i + 1) * 3 + j = i * 3 + j + 3 := fun j => by omega
    have e0 : (i + 1) * 3 = i * 3 + 3 := by omega
    simpa [valCs, ValM.cs, e, e0] using this
theorem valCs_append (l l' : List ValM) : valCs (l ++ l') = valCs l ++ valCs l' := by
  induction l with
  | nil => rfl
  | cons v l ih => simp [valCs, ih]
theorem valCs_chunks {H : Hp} : ∀ (l : List ValM), (∀ v ∈ l, v.fit) → Chunks encVal H (valCs l) l
  | [], _ => .nil
  | v :: l, h => .cons (E := encVal) ⟨rfl, h v (.head _)⟩ rfl (valCs_chunks l fun x hx => h x (.tail _ hx))
theorem chunks_valCs {H : Hp} {cs : List Value} {l : List ValM} (h : Chunks encVal H cs l) : cs = valCs l ∧ ∀ v ∈ l, v.fit := by
  induction h with
  | nil => exact ⟨rfl, fun _ h => (by cases h)⟩
  | cons h1 _ _ ih =>
    obtain ⟨rfl, h1⟩ := h1
    refine ⟨by rw [ih.1]; rfl, fun x hx => ?_⟩
    rcases List.mem_cons.1 hx with rfl | hx
    · exact h1
    · exact ih.2 x hx
/-- Values in a block of the call's own. -/
structure OwnV (sv : Value) (vs : List ValM) (L0 : List (Nat × Obj)) : Prop where
  acc : AccL 50 3 sv vs.length (valCs vs) L0
  fit : ∀ v ∈ vs, v.fit
theorem OwnV.nil : OwnV (.slice none 0 0) [] [] := ⟨AccL.nil, fun _ h => (by cases h)⟩
theorem OwnV.of {w0 w : World} {H H' : Hp} {L : List (Nat × Obj)} {v : Value} {vs : List ValM} {cs : List Value} (h : MemAcc w0 H L 50 3 v vs.length cs w) (hc : Chunks encVal H' cs vs) : ∃ L0, OwnV v vs L0 ∧ Mem w0 H (L0 ++ L) w := by
  obtain ⟨L0, h1, h2⟩ := h.split
  obtain ⟨rfl, hf⟩ := chunks_valCs hc
  exact ⟨L0, ⟨h1, hf⟩, h2⟩
theorem OwnV.freeze {w0 w : World} {H : Hp} {L L0 : List (Nat × Obj)} {v : Value} {vs : List ValM} (h : OwnV v vs L0) (m : Mem w0 H (L0 ++ L) w) : ∃ H', Mem w0 H' L w ∧ Hle H H' ∧ SlR encVal H' v vs :=
  (h.acc.join m).done (valCs_chunks vs h.fit) rfl rfl
theorem OwnV.shape {v : Value} {vs : List ValM} {L0 : List (Nat × Obj)} (h : OwnV v vs L0) : ∃ b c, v = .slice b vs.length c ∧ vs.length ≤ c ∧ c ≤ maxLen := h.acc.shape
theorem OwnV.at {b : Option Addr} {c : Nat} {vs : List ValM} {w0 w : World} {H : Hp} {L L0 : List (Nat × Obj)} (h : OwnV (.slice b vs.length c) vs L0) {i : Nat} (hi : i < vs.length) (m : Mem w0 H L w) (hs : ∀ p, p ∈ L0 → p ∈ L) :
    ∃ g, b = some ⟨g, 0, none⟩ ∧ w.cell? ⟨g, i * 3, none⟩ = some (.int .u8 vs[i].kind) ∧ w.cell? ⟨g, i * 3 + 1, none⟩ = some (.int .i64 vs[i].n) ∧ w.cell? ⟨g, i * 3 + 2, none⟩ = some (.string vs[i].s) ∧ (∀ i, w.frozen? ⟨g, i, none⟩ = false) ∧ g < w.heap.size ∧ vs[i].fit ∧ vs.length ≤ c ∧ c ≤ maxLen := by
  obtain ⟨g, h1, h2, h3, h4, h5, h6⟩ := h.acc.at (by rw [valCs_length]; omega) m hs
  obtain ⟨e1, e2, e3⟩ := valCs_get vs i hi
  exact ⟨g, h1, h2 _ _ e1, h2 _ _ e2, h2 _ _ e3, h3, h4, h.fit _ (List.getElem_mem hi), h5, h6⟩
theorem OwnV.set {g c : Nat} {vs : List ValM} {w0 w : World} {H : Hp} {L L0 : List (Nat × Obj)} (h : OwnV (.slice (some ⟨g, 0, none⟩) vs.length c) vs L0) {i : Nat} (hi : i < vs.length) (x : ValM) (hx : x.fit) (m : Mem w0 H (L0 ++ L) w) :
    ∃ L0', OwnV (.slice (some ⟨g, 0, none⟩) vs.length c) (vs.set i x) L0' ∧ Mem w0 H (L0' ++ L) (((w.setCell ⟨g, i * 3, none⟩ (.int .u8 x.kind)).setCell ⟨g, i * 3 + 1, none⟩ (.int .i64 x.n)).setCell ⟨g, i * 3 + 2, none⟩ (.string x.s)) := by
  obtain ⟨L1, h1, m1⟩ := h.acc.set3 (k := i * 3) (x := .int .u8 x.kind) (y := .int .i64 x.n) (z := .string x.s) (by rw [valCs_length]; omega) m
  rw [valCs_set vs i x hi] at h1
  refine ⟨L1, ⟨by rw [List.length_set]; exact h1, fun v hv => ?_⟩, m1⟩
  rcases List.mem_or_eq_of_mem_set hv with hv | rfl
  · exact h.fit v hv
  · exact hx

/-! ### Rows of objects -/
structure RowM where
  kind : Nat
  name : ByteArray
  n : Int
  sv : Value
def RowM.cs (r : RowM) : List Value := [.int .u8 r.kind, .string r.name, .int .i64 r.n, r.sv]
def rowCs : List RowM → List Value
  | [] => []
  | r :: l => r.cs ++ rowCs l
theorem rowCs_length : ∀ l : List RowM, (rowCs l).length = l.length * 4
  | [] => rfl
  | v :: l => by simp [rowCs, RowM.cs, rowCs_length l]; omega
theorem rowCs_get : ∀ (l : List RowM) (i : Nat) (h : i < l.length), (rowCs l)[i * 4]? = some (.int .u8 l[i].kind) ∧ (rowCs l)[i * 4 + 1]? = some (.string l[i].name) ∧ (rowCs l)[i * 4 + 2]? = some (.int .i64 l[i].n) ∧ (rowCs l)[i * 4 + 3]? = some l[i].sv
  | v :: l, 0, _ => by simp [rowCs, RowM.cs]
  | v :: l, i + 1, h => by
    have := rowCs_get l i (by simpa using h)
    have e : ∀ j, (i + 1) * 4 + j = i * 4 + j + 4 := fun j => by omega
    have e0 : (i + 1) * 4 = i * 4 + 4 := by omega
    simpa [rowCs, RowM.cs, e, e0] using this
theorem rowCs_append (l l' : List RowM) : rowCs (l ++ l') = rowCs l ++ rowCs l' := by
  induction l with
  | nil => rfl
  | cons v l ih => simp [rowCs, ih]
def heldCs : List (RowM × Int) → List Value
  | [] => []
  | r :: l => (r.1.cs ++ [.int .i64 r.2]) ++ heldCs l
theorem heldCs_length : ∀ l : List (RowM × Int), (heldCs l).length = l.length * 5
  | [] => rfl
  | v :: l => by simp [heldCs, RowM.cs, heldCs_length l]; omega
theorem heldCs_get : ∀ (l : List (RowM × Int)) (i : Nat) (h : i < l.length), (heldCs l)[i * 5]? = some (.int .u8 l[i].1.kind) ∧ (heldCs l)[i * 5 + 1]? = some (.string l[i].1.name) ∧ (heldCs l)[i * 5 + 2]? = some (.int .i64 l[i].1.n) ∧ (heldCs l)[i * 5 + 3]? = some l[i].1.sv ∧ (heldCs l)[i * 5 + 4]? = some (.int .i64 l[i].2)
  | v :: l, 0, _ => by simp [heldCs, RowM.cs]
  | v :: l, i + 1, h => by
    have := heldCs_get l i (by simpa using h)
    have e : ∀ j, (i + 1) * 5 + j = i * 5 + j + 5 := fun j => by omega
    have e0 : (i + 1) * 5 = i * 5 + 5 := by omega
    simpa [heldCs, RowM.cs, e, e0] using this
theorem heldCs_set : ∀ (l : List (RowM × Int)) (i : Nat) (h : i < l.length) (t : Int), (heldCs l).set (i * 5 + 4) (.int .i64 t) = heldCs (l.set i (l[i].1, t))
  | v :: l, 0, _, t => by simp [heldCs, RowM.cs]
  | v :: l, i + 1, h, t => by
    have := heldCs_set l i (by simpa using h) t
    have e : ∀ j, (i + 1) * 5 + j = i * 5 + j + 5 := fun j => by omega
    simpa [heldCs, RowM.cs, e] using this
theorem heldCs_append (l l' : List (RowM × Int)) : heldCs (l ++ l') = heldCs l ++ heldCs l' := by
  induction l with
  | nil => rfl
  | cons v l ih => simp [heldCs, ih]
/-- A row whose slots are written no more. -/
structure RowF (H : Hp) (r : RowM) (o : ObjM) : Prop where
  kind : r.kind = o.kind
  name : r.name = o.name
  n : r.n = o.n
  fit : o.fit
  sl : SlR encVal H r.sv o.slots
theorem RowF.mono {H H' : Hp} {r : RowM} {o : ObjM} (h : RowF H r o) (hl : Hle H H') : RowF H' r o := ⟨h.kind, h.name, h.n, h.fit, h.sl.mono hl⟩
inductive RowsF (H : Hp) : List RowM → List ObjM → Prop
  | nil : RowsF H [] []
  | cons {r : RowM} {o : ObjM} {rs : List RowM} {os : List ObjM} : RowF H r o → RowsF H rs os → RowsF H (r :: rs) (o :: os)
inductive HeldF (H : Hp) : List (RowM × Int) → List (ObjM × Int) → Prop
  | nil : HeldF H [] []
  | cons {r : RowM} {o : ObjM} {t : Int} {rs : List (RowM × Int)} {os : List (ObjM × Int)} : RowF H r o → I64 t → HeldF H rs os → HeldF H ((r, t) :: rs) ((o, t) :: os)
theorem HeldF.mono {H H' : Hp} {rs : List (RowM × Int)} {os : List (ObjM × Int)} (h : HeldF H rs os) (hl : Hle H H') : HeldF H' rs os := by
  induction h with
  | nil => exact .nil
  | cons h1 h2 _ ih => exact .cons (h1.mono hl) h2 ih
theorem HeldF.length {H : Hp} {rs : List (RowM × Int)} {os : List (ObjM × Int)} (h : HeldF H rs os) : rs.length = os.length := by
  induction h with
  | nil => rfl
  | cons _ _ _ ih => simp [ih]
theorem HeldF.get {H : Hp} {rs : List (RowM × Int)} {os : List (ObjM × Int)} (h : HeldF H rs os) : ∀ (i : Nat) (hi : i < rs.length) (hj : i < os.length), RowF H rs[i].1 os[i].1 ∧ rs[i].2 = os[i].2 ∧ I64 os[i].2 := by
  induction h with
  | nil => intro i hi; simp at hi
  | cons h1 h2 _ ih =>
    intro i hi hj
    cases i with
    | zero => exact ⟨h1, rfl, h2⟩
    | succ i => exact ih i (by simpa using hi) (by simpa using hj)
theorem HeldF.set {H : Hp} {rs : List (RowM × Int)} {os : List (ObjM × Int)} (h : HeldF H rs os) : ∀ (i : Nat) (hi : i < rs.length) (hj : i < os.length) (t : Int), I64 t → HeldF H (rs.set i (rs[i].1, t)) (os.set i (os[i].1, t)) := by
  induction h with
  | nil => intro i hi; simp at hi
  | cons h1 h2 h3 ih =>
    intro i hi hj t ht
    cases i with
    | zero => exact .cons h1 ht h3
    | succ i => exact .cons h1 h2 (ih i (by simpa using hi) (by simpa using hj) t ht)
theorem HeldF.snoc {H : Hp} {rs : List (RowM × Int)} {os : List (ObjM × Int)} {r : RowM} {o : ObjM} {t : Int} (h : HeldF H rs os) (h1 : RowF H r o) (h2 : I64 t) : HeldF H (rs ++ [(r, t)]) (os ++ [(o, t)]) := by
  induction h with
  | nil => exact .cons h1 h2 .nil
  | cons a b _ ih => exact .cons a b ih
theorem HeldF.chunks {H : Hp} {rs : List (RowM × Int)} {os : List (ObjM × Int)} (h : HeldF H rs os) : Chunks encHeld H (heldCs rs) os := by
  induction h with
  | nil => exact .nil
  | @cons r o t rs os h1 h2 _ ih =>
    refine .cons (E := encHeld) ⟨r.sv, ?_, h1.fit, h2, h1.sl⟩ rfl ih
    simp [RowM.cs, h1.kind, h1.name, h1.n]
theorem RowsF.chunks {H : Hp} {rs : List RowM} {os : List ObjM} (h : RowsF H rs os) : Chunks encObj H (rowCs rs) os := by
  induction h with
  | nil => exact .nil
  | @cons r o rs os h1 _ ih =>
    refine .cons (E := encObj) ⟨r.sv, ?_, h1.fit, h1.sl⟩ rfl ih
    simp [RowM.cs, h1.kind, h1.name, h1.n]
theorem RowsF.mono {H H' : Hp} {rs : List RowM} {os : List ObjM} (h : RowsF H rs os) (hl : Hle H H') : RowsF H' rs os := by
  induction h with
  | nil => exact .nil
  | cons h1 _ ih => exact .cons (h1.mono hl) ih
theorem RowsF.length {H : Hp} {rs : List RowM} {os : List ObjM} (h : RowsF H rs os) : rs.length = os.length := by
  induction h with
  | nil => rfl
  | cons _ _ ih => simp [ih]
theorem RowsF.get {H : Hp} {rs : List RowM} {os : List ObjM} (h : RowsF H rs os) : ∀ (i : Nat) (hi : i < rs.length) (hj : i < os.length), RowF H rs[i] os[i] := by
  induction h with
  | nil => intro i hi; simp at hi
  | cons h1 _ ih =>
    intro i hi hj
    cases i with
    | zero => exact h1
    | succ i => exact ih i (by simpa using hi) (by simpa using hj)
/-- Rows whose slots the call owns. -/
inductive OwnSlots : List RowM → List ObjM → List (Nat × Obj) → Prop
  | nil : OwnSlots [] [] []
  | cons {r : RowM} {o : ObjM} {rs : List RowM} {os : List ObjM} {L0 L : List (Nat × Obj)} : r.kind = o.kind → r.name = o.name → r.n = o.n → o.fit → OwnV r.sv o.slots L0 → OwnSlots rs os L → OwnSlots (r :: rs) (o :: os) (L0 ++ L)
theorem OwnSlots.length {rs : List RowM} {os : List ObjM} {L : List (Nat × Obj)} (h : OwnSlots rs os L) : rs.length = os.length := by
  induction h with
  | nil => rfl
  | cons _ _ _ _ _ _ ih => simp [ih]
theorem OwnSlots.append {rs rs' : List RowM} {os os' : List ObjM} {L L' : List (Nat × Obj)} (h : OwnSlots rs os L) (h' : OwnSlots rs' os' L') : OwnSlots (rs ++ rs') (os ++ os') (L ++ L') := by
  induction h with
  | nil => exact h'
  | cons a b c d e _ ih => rw [List.append_assoc]; exact .cons a b c d e ih
theorem OwnSlots.one {r : RowM} {o : ObjM} {L0 : List (Nat × Obj)} (a : r.kind = o.kind) (b : r.name = o.name) (c : r.n = o.n) (d : o.fit) (e : OwnV r.sv o.slots L0) : OwnSlots [r] [o] L0 := by
  have := OwnSlots.cons a b c d e .nil
  rwa [List.append_nil] at this
theorem OwnSlots.at {rs : List RowM} {os : List ObjM} {Ls : List (Nat × Obj)} (h : OwnSlots rs os Ls) : ∀ (i : Nat) (hi : i < rs.length) (hj : i < os.length),
    (rs[i].kind = os[i].kind ∧ rs[i].name = os[i].name ∧ rs[i].n = os[i].n ∧ os[i].fit) ∧ ∃ L1 L0 L2, Ls = L1 ++ (L0 ++ L2) ∧ OwnV rs[i].sv os[i].slots L0 ∧ ∀ vs' L0', OwnV rs[i].sv vs' L0' → OwnSlots rs (os.set i { os[i] with slots := vs' }) (L1 ++ (L0' ++ L2)) := by
  induction h with
  | nil => intro i hi; simp at hi
  | @cons r o rs os L0 L a b c d e h ih =>
    intro i hi hj
    cases i with
    | zero => exact ⟨⟨a, b, c, d⟩, [], L0, L, rfl, e, fun vs' L0' h' => OwnSlots.cons (o := { o with slots := vs' }) (L0 := L0') a b c ⟨d.k, d.n, d.s⟩ h' h⟩
    | succ i =>
      obtain ⟨h1, L1, L0', L2, rfl, h2, h3⟩ := ih i (by simpa using hi) (by simpa using hj)
      refine ⟨h1, L0 ++ L1, L0', L2, by rw [List.append_assoc], h2, fun vs' L0'' h' => ?_⟩
      rw [List.append_assoc]
      exact .cons a b c d e (h3 vs' L0'' h')
theorem OwnSlots.freeze {rs : List RowM} {os : List ObjM} {Ls : List (Nat × Obj)} (h : OwnSlots rs os Ls) : ∀ {w0 w : World} {H : Hp} {L : List (Nat × Obj)}, Mem w0 H (Ls ++ L) w → ∃ H', Mem w0 H' L w ∧ Hle H H' ∧ RowsF H' rs os := by
  induction h with
  | nil => intro w0 w H L m; exact ⟨H, m, Hle.refl H, .nil⟩
  | cons a b c d e _ ih =>
    intro w0 w H L m
    rw [List.append_assoc] at m
    obtain ⟨H1, m1, hl1, s1⟩ := e.freeze m
    obtain ⟨H2, m2, hl2, s2⟩ := ih m1
    exact ⟨H2, m2, hl1.trans hl2, .cons ⟨a, b, c, d, s1.mono hl2⟩ s2⟩

/-! ### A heap that the call changes -/
/-- The box, the old half's rows, the new half's rows. -/
def Core (T : TypeId) (b : Nat) (size half scan : Int) (busy : Bool) (old : List (ObjM × Int)) (rs : List RowM) (rv : Value) (w0 : World) (H : Hp) (L : List (Nat × Obj)) (w : World) : Prop :=
  ∃ vo vn hr Lo Ln, AccL 87 5 vo hr.length (heldCs hr) Lo ∧ HeldF H hr old ∧ AccL 48 4 vn rs.length (rowCs rs) Ln ∧ Mem w0 H ((b, HBox T size half scan busy vo vn rv) :: (Lo ++ (Ln ++ L))) w
def HeapOwn (T : TypeId) (b : Nat) (h : HeapM) (w0 : World) (H : Hp) (L : List (Nat × Obj)) (w : World) : Prop :=
  ∃ rs rv Ls Lr, OwnSlots rs h.new Ls ∧ OwnV rv h.regs Lr ∧ Core T b h.size h.half h.scan h.busy h.old rs rv w0 H (Ls ++ (Lr ++ L)) w
end Go.Proofs.Ythipkmmdjhpklaa
namespace Go.Proofs.Ythipkmmdjhpklaa
set_option linter.unusedVariables false
set_option linter.unusedSimpArgs false
open Go.RowKit

/-- Values in a block of the call's own are handed back. -/
def OwnVR (vs : List ValM) (w0 : World) (H : Hp) (L : List (Nat × Obj)) (e : Ending) (w' : World) : Prop :=
  ∃ b c L0, e = .returned (.slice b vs.length c) ∧ OwnV (.slice b vs.length c) vs L0 ∧ Mem w0 H (L0 ++ L) w'
set_option maxHeartbeats 400000 in
theorem CloneV_any (v : Value) (xs : List ValM) {w0 w : World} {H : Hp} {L : List (Nat × Obj)} (m : Mem w0 H L w) (hv : SlR encVal H v xs) (hx : xs.length ≤ 100000) :
    Calls Try.prog 73 #[v] w (OwnVR xs w0 H L) := by
  have HV := Lib.hid hv
  obtain ⟨b, c, rfl, hc1, hc2, h0, _⟩ := hv
  obtain ⟨news, hch, hsrc⟩ := HV.out.src (m.alloc (.cells #[] 50))
  have HC := Lib.hid hch; clear hch
  have HS := Lib.hid hsrc; clear hsrc
  have h1 := fun w => Lib.run_eql_slice_nil (P := Try.prog) w
  cases b with
  | none =>
    have h00 := h0 rfl
    subst h00
    have hxs : xs = [] := List.eq_nil_of_length_eq_zero (by omega)
    subst hxs
    clear HV HC HS h0
    go_enter Try.func73, Try.ntmps73
    go_wp2_with fail
    go_ret
    exact ⟨_, _, [], rfl, OwnV.nil, m⟩
  | some a =>
    go_enter Try.func73, Try.ntmps73
    go_wp2_with (at_builtin; go_must (refine wpList_append_mem (w0 := w0) (H := H) (L := L) rfl _ _ 29 rfl 50 3 32 (.agg #[.int .u8 0, .int .i64 0, .string ByteArray.empty]) Try.underlying29 (by kernel_rfl) rfl (by decide) _ 0 [] ?hacc rfl _ xs.length news ?hsrc rfl ?hl ?h1 ?hb ?h63 ?_))
    case hacc => exact MemAcc.row (m.alloc (.cells #[] 50)) (Nat.le_refl _) (by decide) rfl rfl
    case hsrc => exact HS.out
    case hl => exact HC.out.vlen
    case h1 => exact val_oneCell HC.out
    case hb => omega
    case h63 => unfold maxLen; omega
    intro v' w' hacc
    obtain ⟨b', c', rfl, _, _⟩ := hacc.shape
    obtain ⟨L0, ho, m2⟩ := OwnV.of hacc HC.out
    go_wp2
    go_ret
    exact ⟨b', c', L0, rfl, ho, m2⟩
/-- An object copied: its row, and its slots in a block of the call's own. -/
def OwnOR (o : ObjM) (w0 : World) (H : Hp) (L : List (Nat × Obj)) (e : Ending) (w' : World) : Prop :=
  ∃ b c L0, e = .returned (.agg #[.int .u8 o.kind, .string o.name, .int .i64 o.n, .slice b o.slots.length c]) ∧ OwnV (.slice b o.slots.length c) o.slots L0 ∧ Mem w0 H (L0 ++ L) w'
theorem OwnV.frame {w0 w : World} {H : Hp} {L0 L : List (Nat × Obj)} {p : Nat × Obj} (m : Mem w0 H (L0 ++ (p :: L)) w) : Mem w0 H (p :: (L0 ++ L)) w := m.perm List.perm_middle
set_option maxHeartbeats 400000 in
theorem object_any (o : ObjM) (ho : o.fit) (sv : Value) {w0 w : World} {H : Hp} {L : List (Nat × Obj)} (m : Mem w0 H L w) (hv : SlR encVal H sv o.slots) (hx : o.slots.length ≤ 100000) :
    Calls Try.prog 75 #[.agg #[.int .u8 o.kind, .string o.name, .int .i64 o.n, sv]] w (OwnOR o w0 H L) := by
  have HV := Lib.hid hv
  obtain ⟨b, c, rfl, hc1, hc2, _, _⟩ := hv
  have hs := ho.s
  have HS := Lib.hid hs; clear hs
  go_enter Try.func75, Try.ntmps75
  have m2 := ((m.alloc (.cells #[.int .u8 o.kind, .string o.name, .int .i64 o.n, .slice b o.slots.length c] 48)).alloc (.cells #[.int .u8 0, .string ⟨#[]⟩, .int .i64 0, .slice none 0 0] 48))
  rw [World.size_alloc] at m2
  go_wp2_with fail
  refine (CloneV_any _ o.slots m2 HV.out hx).mono ?_
  rintro e w1 ⟨b1, c1, L0, rfl, hown, m3⟩
  have m4 := (m3.perm (List.perm_middle (l₁ := L0))).perm (.cons _ (List.perm_middle (l₁ := L0)))
  have es := m4.eqs; simp only [EqsL, and_true] at es
  have ns := m4.nes; simp only [NeL, NeFrom, and_true, true_and] at ns
  go_wp2_with fail
  refine bodyPost_ret (v := .agg #[.int .u8 o.kind, .string o.name, .int .i64 o.n, .slice b1 o.slots.length c1]) (by simp [results, Try.results75, go_sem, es, ns]) rfl ?_
  refine ⟨b1, c1, L0, rfl, hown, MemB.done (ks := [w.heap.size + 1, w.heap.size]) ?_⟩
  repeat (first | exact ⟨[_, _], rfl, m4⟩ | refine MemB.set (by simp) ?_)
end Go.Proofs.Ythipkmmdjhpklaa
namespace Go.Proofs.Ythipkmmdjhpklaa
set_option linter.unusedVariables false
set_option linter.unusedSimpArgs false
open Go.RowKit

theorem Core.shape {T : TypeId} {b : Nat} {size half scan : Int} {busy : Bool} {old : List (ObjM × Int)} {rs : List RowM} {rv : Value} {w0 : World} {H : Hp} {L : List (Nat × Obj)} {w : World} (h : Core T b size half scan busy old rs rv w0 H L w) :
    ∃ ob oc nb nc hr Lo Ln, AccL 87 5 (.slice ob old.length oc) old.length (heldCs hr) Lo ∧ hr.length = old.length ∧ HeldF H hr old ∧ AccL 48 4 (.slice nb rs.length nc) rs.length (rowCs rs) Ln ∧ Mem w0 H ((b, HBox T size half scan busy (.slice ob old.length oc) (.slice nb rs.length nc) rv) :: (Lo ++ (Ln ++ L))) w ∧ oc ≤ maxLen ∧ nc ≤ maxLen ∧ old.length ≤ oc ∧ rs.length ≤ nc := by
  obtain ⟨vo, vn, hr, Lo, Ln, h1, h2, h3, h4⟩ := h
  have hl := h2.length
  obtain ⟨ob, oc, rfl, e1, e2⟩ := h1.shape
  obtain ⟨nb, nc, rfl, e3, e4⟩ := h3.shape
  rw [hl] at h1 h4 e1
  exact ⟨ob, oc, nb, nc, hr, Lo, Ln, h1, hl, h2, h3, h4, e2, e4, e1, e3⟩

/-- How many objects of the old half were not copied yet. -/
def unc : List (ObjM × Int) → Nat
  | [] => 0
  | p :: l => (if p.2 < 0 then 1 else 0) + unc l
/-- What the moving of a value asks. -/
structure CanMove (half : Int) (old : List (ObjM × Int)) (nn : Nat) : Prop where
  half : half = 0 ∨ half = 1
  tos : ∀ p ∈ old, -1 ≤ p.2 ∧ p.2 ≤ 100000
  sl : ∀ p ∈ old, p.1.slots.length ≤ 100000
  ol : old.length ≤ 100000
  nl : nn + unc old ≤ 100000
structure CanV (half : Int) (on : Nat) (x : ValM) : Prop where
  fit : x.fit
  n : x.kind = 5 → 0 ≤ x.n
  o : oldV half x → (x.n / 2).toNat < on
theorem refV_fit (half : Int) (k : Int) (hh : half = 0 ∨ half = 1) (hk : -1 ≤ k ∧ k ≤ 100000) : (refV half k).fit := ⟨by simp [refV], ⟨by simp only [refV]; omega, by simp only [refV]; omega⟩, by simp [refV, maxLen]⟩
theorem perm_mv1 {α : Type} (x r b : α) (Lo Ln L : List α) : (r :: x :: b :: (Lo ++ (Ln ++ L))).Perm (b :: (Lo ++ (Ln ++ (x :: r :: L)))) := (by classical exact List.perm_iff_count.2 (fun a => by simp only [List.count_append, List.count_cons, List.cons_append, List.nil_append, List.append_assoc]; omega))
theorem perm_mv2 {α : Type} (x r b : α) (Lo Ln L : List α) : (b :: (Lo ++ (Ln ++ (x :: r :: L)))).Perm (x :: r :: b :: (Lo ++ (Ln ++ L))) := (by classical exact List.perm_iff_count.2 (fun a => by simp only [List.count_append, List.count_cons, List.cons_append, List.nil_append, List.append_assoc]; omega))
theorem perm_mv3 {α : Type} (x r b : α) (Lo Ln L : List α) : (x :: r :: b :: (Lo ++ (Ln ++ L))).Perm (b :: x :: r :: (Lo ++ (Ln ++ L))) := (by classical exact List.perm_iff_count.2 (fun a => by simp only [List.count_append, List.count_cons, List.cons_append, List.nil_append, List.append_assoc]; omega))
theorem perm_mv4 {α : Type} (x r b : α) (Lo Ln L : List α) : (x :: r :: b :: (Lo ++ (Ln ++ L))).Perm (Lo ++ (b :: x :: r :: (Ln ++ L))) := (by classical exact List.perm_iff_count.2 (fun a => by simp only [List.count_append, List.count_cons, List.cons_append, List.nil_append, List.append_assoc]; omega))

theorem perm_mv5 {α : Type} (b : α) (L0 Lo R : List α) : (L0 ++ (b :: (Lo ++ R))).Perm (b :: (Lo ++ (L0 ++ R))) := (by classical exact List.perm_iff_count.2 (fun a => by simp only [List.count_append, List.count_cons, List.cons_append, List.nil_append, List.append_assoc]; omega))
theorem perm_mv6 {α : Type} (l b : α) (L0 Lo R : List α) : (l :: (L0 ++ (b :: (Lo ++ R)))).Perm (b :: (Lo ++ (l :: (L0 ++ R)))) := (by classical exact List.perm_iff_count.2 (fun a => by simp only [List.count_append, List.count_cons, List.cons_append, List.nil_append, List.append_assoc]; omega))
theorem perm_mv7 {α : Type} (l b : α) (L0 Lo Ln R : List α) : (l :: (L0 ++ (b :: (Lo ++ (Ln ++ R))))).Perm (Ln ++ (l :: (L0 ++ (b :: (Lo ++ R))))) := (by classical exact List.perm_iff_count.2 (fun a => by simp only [List.count_append, List.count_cons, List.cons_append, List.nil_append, List.append_assoc]; omega))
theorem perm_mv8 {α : Type} (b : α) (L0 Lo Ln R : List α) : (Ln ++ (L0 ++ (b :: (Lo ++ R)))).Perm (b :: (Lo ++ (Ln ++ (L0 ++ R)))) := (by classical exact List.perm_iff_count.2 (fun a => by simp only [List.count_append, List.count_cons, List.cons_append, List.nil_append, List.append_assoc]; omega))
theorem perm_mv9 {α : Type} (x r b : α) (L0 Lo Ln L : List α) : (b :: (Lo ++ (Ln ++ (L0 ++ (x :: r :: L))))).Perm (x :: r :: b :: (Lo ++ (Ln ++ (L0 ++ L)))) := (by classical exact List.perm_iff_count.2 (fun a => by simp only [List.count_append, List.count_cons, List.cons_append, List.nil_append, List.append_assoc]; omega))
theorem hofit_s {o : ObjM} (h : o.fit) : o.kind < 256 := h.k
set_option maxRecDepth 10000 in
set_option maxHeartbeats 4000000 in
theorem move_any (b : Nat) (x : ValM) {size half scan : Int} {busy : Bool} {old : List (ObjM × Int)} {rs : List RowM} {rv : Value} {w0 : World} {H : Hp} {L : List (Nat × Obj)} {w : World} (hc : Core TH b size half scan busy old rs rv w0 H L w)
    (hm : CanMove half old rs.length) (hx : CanV half old.length x) :
    Calls Try.prog 103 #[.pointer (some ⟨b, 0, none⟩), x.v] w fun e w' => ∃ rs' Lx, e = .returned (moveN half old rs.length x).1.v ∧ OwnSlots rs' (moveN half old rs.length x).2.2 Lx ∧ Core TH b size half scan busy (moveN half old rs.length x).2.1 (rs ++ rs') rv w0 H (Lx ++ L) w' := by
  obtain ⟨ob, oc, nb, nc, hr, Lo, Ln, ho, hrl, hf, hn, m, hoc, hnc, hol, hnl⟩ := hc.shape
  obtain ⟨hh, hto, hsl, hl1, hl2⟩ := hm
  replace hl2 : rs.length ≤ 100000 := by omega
  obtain ⟨hxf, hx1, hx2⟩ := hx
  have hX := Lib.hid hxf
  have hoc := size_le_maxLen hoc
  have hnc := size_le_maxLen hnc
  obtain ⟨hk, hxn, hs⟩ := hxf
  have HS := Lib.hid hs; clear hs
  have HT := Lib.hid hto; clear hto
  have HSl := Lib.hid hsl; clear hsl
  have HX2 := Lib.hid hx2; clear hx2
  have hI := Lib.hid hxn
  unfold I64 at hxn
  show Calls Try.prog 103 #[.pointer (some ⟨b, 0, none⟩), .agg #[.int .u8 x.kind, .int .i64 x.n, .string x.s]] w _
  have m1 := ((m.alloc (.cells #[.int .u8 x.kind, .int .i64 x.n, .string x.s] 50)).alloc (.cells #[.int .u8 0, .int .i64 0, .string ⟨#[]⟩] 50)).perm ((List.Perm.swap _ _ _).trans (perm_mv3 _ _ _ Lo Ln L))
  rw [World.size_alloc] at m1
  go_enter Try.func103, Try.ntmps103
  go_wp2_with fail
  refine (isOld_any b x hX.out m1).mono ?_
  rintro e w1 ⟨rfl, m2⟩
  have m2u := m2
  unfold HBox at m2u
  have es := m2u.eqs; simp only [EqsL, and_true] at es
  have ns := m2u.nes; simp only [NeL, NeFrom, and_true, true_and] at ns
  by_cases hold : oldV half x
  · have hn0 := hx1 hold.1
    have hat := HX2.out hold
    have hold' : x.kind = 5 ∧ x.n.tmod 2 ≠ half := ⟨hold.1, by rw [tmod2 hn0]; exact hold.2⟩
    rw [decide_eq_true hold']
    have HO := Lib.hid hold; clear hold hold'
    go_wp2_with fail
    refine (split_any x m2 hI.out).mono ?_
    rintro e w2 ⟨rfl, m3⟩
    rw [tdiv2 hn0]
    obtain ⟨at', hat'⟩ := Int.eq_ofNat_of_zero_le (show 0 ≤ x.n / 2 by omega)
    have hatn : (x.n / 2).toNat = at' := by omega
    rw [hatn] at hat
    rw [hat']
    have m3p := m3.perm ((perm_mv3 _ _ _ Lo Ln L).symm.trans (perm_mv4 _ _ _ Lo Ln L))
    have m3u := m3
    unfold HBox at m3u
    clear es ns
    have es := m3u.eqs; simp only [EqsL, and_true] at es
    have ns := m3u.nes; simp only [NeL, NeFrom, and_true, true_and] at ns
    have hat2 : (at' : Int) < old.length := by omega
    obtain ⟨g, rfl, hcl, hfr, hgl, _, _⟩ := ho.at (by rw [heldCs_length]; omega) m3p (fun p hp => List.mem_append_left _ hp)
    obtain ⟨e0, e1, e2, e3, e4⟩ := heldCs_get hr at' (by omega)
    have c0 := hcl _ _ e0
    have c1 := hcl _ _ e1
    have c2 := hcl _ _ e2
    have c3 := hcl _ _ e3
    have c4 := hcl _ _ e4
    obtain ⟨r1, r2, r3⟩ := hf.get at' (by omega) hat
    have hto' := HT.out _ (List.getElem_mem hat)
    have hsl' := HSl.out _ (List.getElem_mem hat)
    have hmv : moveN half old rs.length x = (if old[at'].2 < 0 then (refV half rs.length, old.set at' (old[at'].1, (rs.length : Int)), [old[at'].1]) else (refV half old[at'].2, old, [])) := by
      unfold moveN
      rw [if_pos HO.out, hatn, List.getElem?_eq_getElem hat]
    clear e0 e1 e2 e3 e4
    rw [r2] at c4
    have R1 := Lib.hid r1; clear r1 r3
    by_cases hneg : old[at'].2 < 0
    · rw [if_pos hneg] at hmv
      have hm1 : old[at'].2 = -1 := by omega
      rw [hm1] at c4
      have HMV := Lib.hid hmv; clear hmv
      go_wp2_with fail
      obtain ⟨Lo', ho', mA⟩ := ho.set1 (k := at' * 5 + 4) (x := .int .i64 rs.length) (by rw [heldCs_length]; omega) m3p
      rw [heldCs_set hr at' (by omega) rs.length] at ho'
      generalize w2.setCell ⟨g, at' * 5 + 4, none⟩ (.int .i64 rs.length) = W3 at *
      have hf' := hf.set at' (by omega) hat (rs.length : Int) ⟨by omega, by omega⟩
      obtain ⟨e0, e1, e2, e3, e4⟩ := heldCs_get (hr.set at' (hr[at'].1, (rs.length : Int))) at' (by rw [List.length_set]; omega)
      simp only [List.getElem_set_self] at e0 e1 e2 e3 e4
      rw [R1.out.kind] at e0
      rw [R1.out.name] at e1
      rw [R1.out.n] at e2
      have hosl := R1.out.sl
      have hofit := R1.out.fit
      clear c0 c1 c2 c3 c4 hcl R1 es ns m3 m3p m3u m2 m2u m1 m hf ho
      generalize hr[at'].1.sv = sv at *
      generalize hhr : hr.set at' (hr[at'].1, (rs.length : Int)) = hr' at *
      have hrl' : hr'.length = old.length := by rw [← hhr, List.length_set]; exact hrl
      clear hhr
      generalize ho0 : old[at'].1 = o at *
      have HSV := Lib.hid hosl; clear hosl
      have HOF := Lib.hid hofit; clear hofit
      have hos := hofit_s HOF.out
      have m4 := mA.perm ((perm_mv4 _ _ _ Lo' Ln L).symm.trans (perm_mv2 _ _ _ Lo' Ln L).symm)
      clear mA
      refine AnyFrom.start (fun w' => ∃ H' L', Hle H H' ∧ Mem w0 H' ((b, HBox TH size half scan busy (.slice (some ⟨g, 0, none⟩) old.length oc) (.slice nb rs.length nc) rv) :: (Lo' ++ L')) w') 16 (by kernel_rfl) ?_
      have m5 := m4.drew
      clear m4
      generalize W3.drew = W4 at *
      have HS : ∃ H' L', Hle H H' ∧ Mem w0 H' ((b, HBox TH size half scan busy (.slice (some ⟨g, 0, none⟩) old.length oc) (.slice nb rs.length nc) rv) :: (Lo' ++ L')) W4 := ⟨_, _, Hle.refl _, m5⟩
      refine AnyFrom.pure (i := 0) (v := ?_) rfl (by kernel_rfl) (by kernel_rfl) (by kernel_rfl) (by decide) (fun _ _ _ h => h) ⟨by rfl, ?_⟩ HS ?_
      rotate_left
      · first | (intro w'; go_simp; done) | (intro w'; go_simp; with_reducible rfl)
      simp only [Act.put, List.setIfInBounds_toArray, List.set_cons_zero, List.set_cons_succ]
      refine AnyFrom.pure (i := 1) (v := ?_) rfl (by kernel_rfl) (by kernel_rfl) (by kernel_rfl) (by decide) (fun _ _ _ h => h) ⟨by rfl, ?_⟩ HS ?_
      rotate_left
      · first | (intro w'; go_simp; done) | (intro w'; go_simp; with_reducible rfl)
      simp only [Act.put, List.setIfInBounds_toArray, List.set_cons_zero, List.set_cons_succ]
      refine AnyFrom.pure (i := 2) (v := ?_) rfl (by kernel_rfl) (by kernel_rfl) (by kernel_rfl) (by decide) (fun _ _ _ h => h) ⟨by rfl, ?_⟩ HS ?_
      rotate_left
      · first | (intro w'; go_simp; done) | (intro w'; go_simp; with_reducible rfl)
      simp only [Act.put, List.setIfInBounds_toArray, List.set_cons_zero, List.set_cons_succ]
      refine AnyFrom.pure (i := 3) (v := ?_) rfl (by kernel_rfl) (by kernel_rfl) (by kernel_rfl) (by decide) (fun _ _ _ h => h) ⟨by rfl, ?_⟩ HS ?_
      rotate_left
      · first | (intro w'; go_simp; done) | (intro w'; go_simp; with_reducible rfl)
      simp only [Act.put, List.setIfInBounds_toArray, List.set_cons_zero, List.set_cons_succ]
      refine AnyFrom.pure (i := 4) (v := ?_) rfl (by kernel_rfl) (by kernel_rfl) (by kernel_rfl) (by decide) (fun _ _ _ h => h) ⟨by rfl, ?_⟩ HS ?_
      rotate_left
      · first | (intro w'; go_simp; done) | (intro w'; go_simp; with_reducible rfl)
      simp only [Act.put, List.setIfInBounds_toArray, List.set_cons_zero, List.set_cons_succ]
      refine AnyFrom.take (i := 5) (v := ?_) rfl (by kernel_rfl) (by kernel_rfl) (by kernel_rfl) (by kernel_rfl) (fun _ _ _ h => h) ⟨by rfl, ?_⟩ HS ?_
      rotate_left
      · first | (rintro w' ⟨H', L', hl', hm⟩; have es := hm.eqs; simp only [HBox, EqsL, and_true] at es; replace es := es.1; obtain ⟨g', hg', hcl', -, hgl', -, -⟩ := ho'.at (by rw [heldCs_length]; omega) hm (fun p hp => List.mem_cons_of_mem _ (List.mem_append_left _ hp)); cases hg'; have c0 := hcl' _ _ e0; have c1 := hcl' _ _ e1; have c2 := hcl' _ _ e2; have c3 := hcl' _ _ e3; go_simp; done) | (rintro w' ⟨H', L', hl', hm⟩; have es := hm.eqs; simp only [HBox, EqsL, and_true] at es; replace es := es.1; obtain ⟨g', hg', hcl', -, hgl', -, -⟩ := ho'.at (by rw [heldCs_length]; omega) hm (fun p hp => List.mem_cons_of_mem _ (List.mem_append_left _ hp)); cases hg'; have c0 := hcl' _ _ e0; have c1 := hcl' _ _ e1; have c2 := hcl' _ _ e2; have c3 := hcl' _ _ e3; go_simp; with_reducible rfl)
      simp only [Act.put, List.setIfInBounds_toArray, List.set_cons_zero, List.set_cons_succ]
      refine AnyFrom.pure (i := 6) (v := ?_) rfl (by kernel_rfl) (by kernel_rfl) (by kernel_rfl) (by decide) (fun _ _ _ h => h) ⟨by rfl, ?_⟩ HS ?_
      rotate_left
      · first | (intro w'; go_simp; done) | (intro w'; go_simp; with_reducible rfl)
      simp only [Act.put, List.setIfInBounds_toArray, List.set_cons_zero, List.set_cons_succ]
      refine AnyFrom.pure (i := 7) (v := ?_) rfl (by kernel_rfl) (by kernel_rfl) (by kernel_rfl) (by decide) (fun _ _ _ h => h) ⟨by rfl, ?_⟩ HS ?_
      rotate_left
      · first | (intro w'; go_simp; done) | (intro w'; go_simp; with_reducible rfl)
      simp only [Act.put, List.setIfInBounds_toArray, List.set_cons_zero, List.set_cons_succ]
      refine AnyFrom.pure (i := 8) (v := ?_) rfl (by kernel_rfl) (by kernel_rfl) (by kernel_rfl) (by decide) (fun _ _ _ h => h) ⟨by rfl, ?_⟩ HS ?_
      rotate_left
      · first | (intro w'; go_simp; done) | (intro w'; go_simp; with_reducible rfl)
      simp only [Act.put, List.setIfInBounds_toArray, List.set_cons_zero, List.set_cons_succ]
      refine AnyFrom.take (i := 9) (v := ?_) rfl (by kernel_rfl) (by kernel_rfl) (by kernel_rfl) (by kernel_rfl) (fun _ _ _ h => h) ⟨by rfl, ?_⟩ HS ?_
      rotate_left
      · first | (rintro w' ⟨H', L', hl', hm⟩; have es := hm.eqs; simp only [HBox, EqsL, and_true] at es; replace es := es.1; obtain ⟨g', hg', hcl', -, hgl', -, -⟩ := ho'.at (by rw [heldCs_length]; omega) hm (fun p hp => List.mem_cons_of_mem _ (List.mem_append_left _ hp)); cases hg'; have c0 := hcl' _ _ e0; have c1 := hcl' _ _ e1; have c2 := hcl' _ _ e2; have c3 := hcl' _ _ e3; go_simp; done) | (rintro w' ⟨H', L', hl', hm⟩; have es := hm.eqs; simp only [HBox, EqsL, and_true] at es; replace es := es.1; obtain ⟨g', hg', hcl', -, hgl', -, -⟩ := ho'.at (by rw [heldCs_length]; omega) hm (fun p hp => List.mem_cons_of_mem _ (List.mem_append_left _ hp)); cases hg'; have c0 := hcl' _ _ e0; have c1 := hcl' _ _ e1; have c2 := hcl' _ _ e2; have c3 := hcl' _ _ e3; go_simp; with_reducible rfl)
      simp only [Act.put, List.setIfInBounds_toArray, List.set_cons_zero, List.set_cons_succ]
      refine AnyFrom.one (i := 10) (by kernel_rfl) (AnyFrom.op rfl (by rfl) fun K hK => ?_)
      go_simp
      refine (object_any o HOF.out sv m5 HSV.out (by have := hsl'; omega)).mono ?_
      rintro e w5 ⟨b5, c5, L0, rfl, hown, m6⟩
      refine hK _ _ (.inr ⟨_, _, Hle.refl _, m6.perm (perm_mv5 _ L0 Lo' _)⟩) ?_
      clear hK K
      try simp only [Act.put, List.setIfInBounds_toArray, List.set_cons_zero, List.set_cons_succ]
      refine AnyFrom.one (i := 11) (by kernel_rfl) (AnyFrom.op rfl (by rfl) fun K hK => ?_)
      go_simp
      have m7 := m6.alloc (.cells #[.int .u8 o.kind, .string o.name, .int .i64 o.n, .slice b5 o.slots.length c5] 48)
      refine hK _ _ (.inr ⟨_, _, Hle.refl _, m7.perm (perm_mv6 _ _ L0 Lo' _)⟩) ?_
      clear hK K
      try simp only [Act.put, List.setIfInBounds_toArray, List.set_cons_zero, List.set_cons_succ]
      have m8 := m7.perm (perm_mv7 _ _ L0 Lo' Ln _)
      refine AnyFrom.one (i := 12) (by kernel_rfl) (AnyFrom.opIf rfl fun K hK => ?_)
      refine step_append_mem (w0 := w0) (H := H) (L := _ :: _) rfl _ _ 28 rfl 48 4 56 (.agg #[.int .u8 0, .string ByteArray.empty, .int .i64 0, .slice none 0 0]) Try.underlying28 (by kernel_rfl) rfl (by decide) (.slice nb rs.length nc) rs.length (rowCs rs) (hn.join m8) rfl (.slice (some ⟨w5.heap.size, 0, none⟩) 1 1) 1 [.int .u8 o.kind, .string o.name, .int .i64 o.n, .slice b5 o.slots.length c5] (Src.loc (e := 48) (hn.join m8).mem (.head _)) rfl rfl (by simp [Value.oneCell']) (by omega) (by unfold maxLen; omega) ?_
      intro v' w6 hacc
      obtain ⟨b6, c6, rfl, _, _⟩ := hacc.shape
      obtain ⟨Ln', hn', m9⟩ := hacc.drop.split
      have m10 := m9.perm (perm_mv8 _ L0 Lo' Ln' _)
      clear hacc m9 m8 m7 m6
      refine hK _ _ (.inr ⟨_, _, Hle.refl _, m10⟩) ?_
      clear hK K
      try simp only [Act.put, List.setIfInBounds_toArray, List.set_cons_zero, List.set_cons_succ]
      refine AnyFrom.one (i := 13) (by kernel_rfl) (AnyFrom.op rfl (by rfl) fun K hK => ?_)
      go_simp
      refine hK _ _ (.inr ⟨_, _, Hle.refl _, m10⟩) ?_
      clear hK K
      try simp only [Act.put, List.setIfInBounds_toArray, List.set_cons_zero, List.set_cons_succ]
      refine AnyFrom.one (i := 14) (by kernel_rfl) (AnyFrom.op rfl (by rfl) fun K hK => ?_)
      go_simp
      refine hK _ _ (.inr ⟨_, _, Hle.refl _, m10⟩) ?_
      clear hK K
      try simp only [Act.put, List.setIfInBounds_toArray, List.set_cons_zero, List.set_cons_succ]
      refine AnyFrom.one (i := 15) (by kernel_rfl) (AnyFrom.op rfl (by rfl) fun K hK => ?_)
      go_simp
      refine hK _ _ (.inr ⟨_, _, Hle.refl _, m10⟩) ?_
      clear hK K
      try simp only [Act.put, List.setIfInBounds_toArray, List.set_cons_zero, List.set_cons_succ]
      have es := m10.eqs
      simp only [HBox, EqsL, and_true] at es
      refine AnyFrom.one (i := 16) (by kernel_rfl) (AnyFrom.op rfl (by rfl) fun K hK => ?_)
      go_simp
      refine hK _ _ (.inl ⟨16, by decide, by rfl⟩) ?_
      clear hK K
      try simp only [Act.put, List.setIfInBounds_toArray, List.set_cons_zero, List.set_cons_succ]
      refine AnyFrom.done (by kernel_rfl) ?_ _
      have m11 := m10.set (i := 5) (v := .slice b6 (rs.length + 1) c6) .head
      simp only [List.setIfInBounds_toArray, List.set_cons_zero, List.set_cons_succ] at m11
      generalize w6.setCell ⟨b, 5, none⟩ (.slice b6 (rs.length + 1) c6) = W7 at *
      obtain ⟨g', hg', hcl', -, hgl', -, -⟩ := ho'.at (by rw [heldCs_length]; omega) m11 (fun p hp => List.mem_cons_of_mem _ (List.mem_append_left _ hp))
      cases hg'
      have c4 := hcl' _ _ e4
      clear hcl' e0 e1 e2 e3 e4 m10 es
      have m11u := m11
      unfold HBox at m11u
      have es := m11u.eqs; simp only [EqsL, and_true] at es
      go_wp2_with fail
      refine (refer_any b rs.length (by omega) (by omega) m11).mono ?_
      rintro e w8 ⟨rfl, m12⟩
      have m13 := m12.perm (perm_mv9 _ _ _ L0 Lo' Ln' L)
      clear es m11 m11u c4
      have es := m13.eqs; simp only [EqsL, and_true] at es
      have ns := m13.nes; simp only [NeL, NeFrom, and_true, true_and] at ns
      unfold ValM.v
      go_wp2_with fail
      refine bodyPost_ret (v := (refV half rs.length).v) (by simp [results, Try.results103, go_sem, es, ns]; rfl) rfl ?_
      rw [HMV.out]
      refine ⟨[⟨o.kind, o.name, o.n, .slice b5 o.slots.length c5⟩], L0, rfl, OwnSlots.one rfl rfl rfl HOF.out hown, ?_⟩
      refine ⟨_, _, hr', Lo', Ln', by rw [hrl']; exact ho', ?_, by rw [List.length_append, rowCs_append]; exact hn', ?_⟩
      · exact hf'
      refine MemB.done (ks := [w.heap.size, w.heap.size + 1]) ?_
      repeat (first | exact ⟨[_, _], rfl, m13⟩ | refine MemB.set (by simp) ?_)
    · rw [if_neg hneg] at hmv
      have hm1 : (old[at'].2 == -1) = false := beq_eq_false_iff_ne.2 (by omega)
      have HMV := Lib.hid hmv; clear hmv
      go_wp2_with fail
      refine (refer_any b old[at'].2 (by omega) (by omega) m3).mono ?_
      rintro e w3 ⟨rfl, m4⟩
      have m4u := m4
      unfold HBox at m4u
      clear es ns
      have es := m4u.eqs; simp only [EqsL, and_true] at es
      have ns := m4u.nes; simp only [NeL, NeFrom, and_true, true_and] at ns
      unfold ValM.v
      go_wp2_with fail
      refine bodyPost_ret (v := (refV half old[at'].2).v) (by simp [results, Try.results103, go_sem, es, ns]; rfl) rfl ?_
      rw [HMV.out]
      refine ⟨[], [], rfl, .nil, ?_⟩
      rw [List.append_nil]
      refine ⟨_, _, hr, Lo, Ln, by rw [hrl]; exact ho, hf, hn, ?_⟩
      have m5 := m4.perm ((perm_mv3 _ _ _ Lo Ln L).symm)
      refine MemB.done (ks := [w.heap.size, w.heap.size + 1]) ?_
      repeat (first | exact ⟨[_, _], rfl, m5⟩ | refine MemB.set (by simp) ?_)
  · have hold' : ¬ (x.kind = 5 ∧ x.n.tmod 2 ≠ half) := fun h => hold ⟨h.1, by rw [← tmod2 (hx1 h.1)]; exact h.2⟩
    rw [decide_eq_false hold']
    have hmv : moveN half old rs.length x = (x, old, []) := by unfold moveN; rw [if_neg hold]
    have HMV := Lib.hid hmv; clear hmv
    go_wp2_with fail
    refine bodyPost_ret (v := x.v) (by simp [results, Try.results103, go_sem, es, ns]; rfl) rfl ?_
    rw [HMV.out]
    refine ⟨[], [], rfl, .nil, ?_⟩
    rw [List.append_nil]
    refine ⟨_, _, hr, Lo, Ln, by rw [hrl]; exact ho, hf, hn, ?_⟩
    have m5 := m2.perm ((perm_mv3 _ _ _ Lo Ln L).symm)
    refine MemB.done (ks := [w.heap.size, w.heap.size + 1]) ?_
    repeat (first | exact ⟨[_, _], rfl, m5⟩ | refine MemB.set (by simp) ?_)
end Go.Proofs.Ythipkmmdjhpklaa
namespace Go.Proofs.Ythipkmmdjhpklaa
set_option linter.unusedVariables false
set_option linter.unusedSimpArgs false
open Go.RowKit

theorem unc_set : ∀ (l : List (ObjM × Int)) (i : Nat) (h : i < l.length) (t : Int), l[i].2 < 0 → 0 ≤ t → unc (l.set i (l[i].1, t)) + 1 = unc l
  | p :: l, 0, _, t, h1, h2 => by
    have h1' : p.2 < 0 := h1
    simp only [List.set_cons_zero, unc]
    rw [if_neg (show ¬ t < 0 by omega), if_pos h1']
    omega
  | p :: l, i + 1, h, t, h1, h2 => by
    have := unc_set l i (by simpa using h) t h1 h2
    simp only [List.set_cons_succ, unc, List.getElem_cons_succ]
    omega
theorem unc_le : ∀ (l : List (ObjM × Int)), unc l ≤ l.length
  | [] => Nat.le_refl 0
  | p :: l => by
    have := unc_le l
    simp only [unc, List.length_cons]
    split <;> omega
/-- What becomes of the three when one value is moved. -/
theorem moveN_cases {half : Int} {old : List (ObjM × Int)} {nn : Nat} {x : ValM} (hx : oldV half x → (x.n / 2).toNat < old.length) :
    (¬ oldV half x ∧ moveN half old nn x = (x, old, [])) ∨ ∃ (i : Nat) (hi : i < old.length), oldV half x ∧ i = (x.n / 2).toNat ∧
      ((old[i].2 < 0 ∧ moveN half old nn x = (refV half nn, old.set i (old[i].1, (nn : Int)), [old[i].1])) ∨ (¬ old[i].2 < 0 ∧ moveN half old nn x = (refV half old[i].2, old, []))) := by
  by_cases ho : oldV half x
  · have hi := hx ho
    refine .inr ⟨_, hi, ho, rfl, ?_⟩
    by_cases hn : old[(x.n / 2).toNat].2 < 0
    · refine .inl ⟨hn, ?_⟩
      unfold moveN
      rw [if_pos ho, List.getElem?_eq_getElem hi]
      simp only
      rw [if_pos hn]
    · refine .inr ⟨hn, ?_⟩
      unfold moveN
      rw [if_pos ho, List.getElem?_eq_getElem hi]
      simp only
      rw [if_neg hn]
  · refine .inl ⟨ho, ?_⟩
    unfold moveN
    rw [if_neg ho]
theorem CanMove.step {half : Int} {old : List (ObjM × Int)} {nn : Nat} {x : ValM} (hm : CanMove half old nn) (hx : CanV half old.length x) :
    CanMove half (moveN half old nn x).2.1 (nn + (moveN half old nn x).2.2.length) ∧ (moveN half old nn x).1.fit ∧ (moveN half old nn x).2.1.length = old.length := by
  rcases moveN_cases (nn := nn) hx.o with ⟨h1, h2⟩ | ⟨i, hi, h1, h2, ⟨h3, h4⟩ | ⟨h3, h4⟩⟩
  · rw [h2]; exact ⟨hm, hx.fit, rfl⟩
  · rw [h4]
    have hu := unc_set old i hi (nn : Int) h3 (by omega)
    have hnl := hm.nl
    refine ⟨⟨hm.half, fun p hp => ?_, fun p hp => ?_, by simpa using hm.ol, by simp only [List.length_singleton]; omega⟩, refV_fit half nn hm.half ⟨by omega, by omega⟩, by simp⟩
    · rcases List.mem_or_eq_of_mem_set hp with hp | rfl
      · exact hm.tos p hp
      · simp only; omega
    · rcases List.mem_or_eq_of_mem_set hp with hp | rfl
      · exact hm.sl p hp
      · exact hm.sl old[i] (List.getElem_mem hi)
  · rw [h4]
    have := hm.tos _ (List.getElem_mem hi)
    exact ⟨hm, refV_fit half _ hm.half ⟨by omega, by omega⟩, rfl⟩
theorem movesN_snoc (half : Int) (v : ValM) : ∀ (l : List ValM) (old : List (ObjM × Int)) (nn : Nat), movesN half old nn (l ++ [v]) =
    ((movesN half old nn l).1 ++ [(moveN half (movesN half old nn l).2.1 (nn + (movesN half old nn l).2.2.length) v).1],
      (moveN half (movesN half old nn l).2.1 (nn + (movesN half old nn l).2.2.length) v).2.1,
      (movesN half old nn l).2.2 ++ (moveN half (movesN half old nn l).2.1 (nn + (movesN half old nn l).2.2.length) v).2.2)
  | [], old, nn => by simp [movesN]
  | x :: l, old, nn => by
    have ih := movesN_snoc half v l (moveN half old nn x).2.1 (nn + (moveN half old nn x).2.2.length)
    simp only [List.cons_append, movesN, ih, List.length_append, Nat.add_assoc, List.append_assoc]
theorem movesN_len (half : Int) : ∀ (l : List ValM) (old : List (ObjM × Int)) (nn : Nat), (movesN half old nn l).1.length = l.length
  | [], old, nn => rfl
  | x :: l, old, nn => by simp only [movesN, List.length_cons, movesN_len half l]
theorem CanMove.steps {half : Int} : ∀ (l : List ValM) {old : List (ObjM × Int)} {nn : Nat}, CanMove half old nn → (∀ x ∈ l, CanV half old.length x) →
    CanMove half (movesN half old nn l).2.1 (nn + (movesN half old nn l).2.2.length) ∧ (∀ y ∈ (movesN half old nn l).1, y.fit) ∧ (movesN half old nn l).2.1.length = old.length
  | [], old, nn, hm, _ => ⟨hm, fun y hy => (by cases hy), rfl⟩
  | x :: l, old, nn, hm, hx => by
    obtain ⟨h1, h2, h3⟩ := hm.step (hx x (.head _))
    obtain ⟨h4, h5, h6⟩ := CanMove.steps l h1 (fun y hy => by rw [h3]; exact hx y (.tail _ hy))
    simp only [movesN, List.length_append, ← Nat.add_assoc]
    refine ⟨h4, fun y hy => ?_, h6.trans h3⟩
    rcases List.mem_cons.1 hy with rfl | hy
    · exact h2
    · exact h5 y hy

section
variable {T : TypeId} {b : Nat} {size half scan : Int} {busy : Bool} {old : List (ObjM × Int)} {rs : List RowM} {rv : Value} {w0 w : World} {H : Hp} {L L' : List (Nat × Obj)}
theorem Core.perm (h : Core T b size half scan busy old rs rv w0 H L w) (hp : L.Perm L') : Core T b size half scan busy old rs rv w0 H L' w := by
  obtain ⟨vo, vn, hr, Lo, Ln, h1, h2, h3, h4⟩ := h
  exact ⟨vo, vn, hr, Lo, Ln, h1, h2, h3, h4.perm (.cons _ (.append_left _ (.append_left _ hp)))⟩
theorem Core.drewN (h : Core T b size half scan busy old rs rv w0 H L w) (k : Nat) : Core T b size half scan busy old rs rv w0 H L (w.drewN k) := by
  obtain ⟨vo, vn, hr, Lo, Ln, h1, h2, h3, h4⟩ := h
  exact ⟨vo, vn, hr, Lo, Ln, h1, h2, h3, h4.drewN k⟩
theorem perm_ce1 {α : Type} (b : α) (Lo Ln Ls L : List α) : (b :: (Lo ++ (Ln ++ (Ls ++ L)))).Perm (Ls ++ (b :: (Lo ++ (Ln ++ L)))) := (by classical exact List.perm_iff_count.2 (fun a => by simp only [List.count_append, List.count_cons, List.cons_append, List.nil_append, List.append_assoc]; omega))
/-- A value of a list that the call owns beside the heap: read, and written. -/
theorem Core.atV {vs : List ValM} {Ls : List (Nat × Obj)} {sb : Option Addr} {sc : Nat} (h : Core T b size half scan busy old rs rv w0 H (Ls ++ L) w) (ho : OwnV (.slice sb vs.length sc) vs Ls) {i : Nat} (hi : i < vs.length) :
    ∃ g, sb = some ⟨g, 0, none⟩ ∧ w.cell? ⟨g, i * 3, none⟩ = some (.int .u8 vs[i].kind) ∧ w.cell? ⟨g, i * 3 + 1, none⟩ = some (.int .i64 vs[i].n) ∧ w.cell? ⟨g, i * 3 + 2, none⟩ = some (.string vs[i].s) ∧ (∀ i, w.frozen? ⟨g, i, none⟩ = false) ∧ g < w.heap.size ∧ vs[i].fit ∧ vs.length ≤ sc ∧ sc ≤ maxLen := by
  obtain ⟨vo, vn, hr, Lo, Ln, h1, h2, h3, h4⟩ := h
  exact ho.at hi h4 (fun p hp => by simp [hp])
theorem Core.setV {vs : List ValM} {Ls : List (Nat × Obj)} {g sc : Nat} (h : Core T b size half scan busy old rs rv w0 H (Ls ++ L) w) (ho : OwnV (.slice (some ⟨g, 0, none⟩) vs.length sc) vs Ls) {i : Nat} (hi : i < vs.length) (x : ValM) (hx : x.fit) :
    ∃ Ls', OwnV (.slice (some ⟨g, 0, none⟩) vs.length sc) (vs.set i x) Ls' ∧ Core T b size half scan busy old rs rv w0 H (Ls' ++ L) (((w.setCell ⟨g, i * 3, none⟩ (.int .u8 x.kind)).setCell ⟨g, i * 3 + 1, none⟩ (.int .i64 x.n)).setCell ⟨g, i * 3 + 2, none⟩ (.string x.s)) := by
  obtain ⟨vo, vn, hr, Lo, Ln, h1, h2, h3, h4⟩ := h
  obtain ⟨Ls', h5, h6⟩ := ho.set hi x hx (h4.perm (perm_ce1 _ Lo Ln Ls L))
  exact ⟨Ls', h5, vo, vn, hr, Lo, Ln, h1, h2, h3, h6.perm (perm_ce1 _ Lo Ln Ls' L).symm⟩
theorem perm_ce2 {α : Type} (A B C L : List α) : (A ++ (B ++ (C ++ L))).Perm (C ++ (A ++ (B ++ L))) := (by classical exact List.perm_iff_count.2 (fun a => by simp only [List.count_append, List.count_cons, List.cons_append, List.nil_append, List.append_assoc]; omega))
theorem perm_ce3 {α : Type} (A B C L : List α) : (C ++ (A ++ (B ++ L))).Perm ((B ++ A) ++ (C ++ L)) := (by classical exact List.perm_iff_count.2 (fun a => by simp only [List.count_append, List.count_cons, List.cons_append, List.nil_append, List.append_assoc]; omega))
theorem perm_ce4 {α : Type} (A B L : List α) : (A ++ (B ++ L)).Perm (B ++ (A ++ L)) := (by classical exact List.perm_iff_count.2 (fun a => by simp only [List.count_append, List.count_cons, List.cons_append, List.nil_append, List.append_assoc]; omega))

theorem set_mid {α : Type} (l r : List α) (x y : α) (k : Nat) (h : l.length = k) : (l ++ x :: r).set k y = (l ++ [y]) ++ r := by
  subst h
  simp
set_option maxRecDepth 10000 in
set_option maxHeartbeats 2000000 in
theorem moveAll_any (vs : List ValM) {sb : Option Addr} {sc : Nat} {Ls : List (Nat × Obj)} (hc : Core TH b size half scan busy old rs rv w0 H (Ls ++ L) w) (ho : OwnV (.slice sb vs.length sc) vs Ls)
    (hm : CanMove half old rs.length) (hx : ∀ x ∈ vs, CanV half old.length x) :
    Calls Try.prog 84 #[.pointer (some ⟨b, 0, none⟩), .slice sb vs.length sc] w fun e w' => ∃ rs' Lx Ls', e = .returned (.tuple #[]) ∧ OwnSlots rs' (movesN half old rs.length vs).2.2 Lx ∧ OwnV (.slice sb vs.length sc) (movesN half old rs.length vs).1 Ls' ∧ Core TH b size half scan busy (movesN half old rs.length vs).2.1 (rs ++ rs') rv w0 H (Lx ++ (Ls' ++ L)) w' := by
  have HM := Lib.hid hm
  have HX := Lib.hid hx; clear hx hm
  obtain ⟨_, _, hsh, hsc1, hsc2⟩ := ho.shape
  cases hsh
  have hsc2 := size_le_maxLen hsc2
  go_enter Try.func84, Try.ntmps84
  go_wp2_with fail
  go_loopw [4, 7] (fun _ v7 wr => ∃ (k : Nat) (rs' : List RowM) (Lx Ls' : List (Nat × Obj)), k ≤ vs.length ∧ v7 = .int .i64 k ∧ OwnSlots rs' (movesN half old rs.length (vs.take k)).2.2 Lx ∧ OwnV (.slice sb vs.length sc) ((movesN half old rs.length (vs.take k)).1 ++ vs.drop k) Ls' ∧ Core TH b size half scan busy (movesN half old rs.length (vs.take k)).2.1 (rs ++ rs') rv w0 H (Lx ++ (Ls' ++ L)) wr) (fun _ i _ => vs.length - (intOf i).toNat)
  case atStart => exact ⟨0, [], [], Ls, Nat.zero_le _, rfl, .nil, ho, by rw [List.append_nil]; exact hc⟩
  case round =>
    obtain ⟨k, rs', Lx, Ls', hk, rfl, hs', ho', hc'⟩ := hrel
    by_cases hlt : k < vs.length
    · obtain ⟨hm2, hf2, hl2⟩ := HM.out.steps (vs.take k) (fun x hx => HX.out x (List.mem_of_mem_take hx))
      have hsn := movesN_snoc half vs[k] (vs.take k) old rs.length
      rw [← List.take_succ_eq_append_getElem hlt] at hsn
      have hml := movesN_len half (vs.take k) old rs.length
      rw [List.length_take, Nat.min_eq_left (by omega)] at hml
      have hsl := hs'.length
      have hxk := HX.out _ (List.getElem_mem hlt)
      rw [List.drop_eq_getElem_cons hlt] at ho'
      generalize movesN half old rs.length (vs.take k) = r at *
      obtain ⟨ms, old', news⟩ := r
      simp only at *
      have hlen : (ms ++ vs[k] :: vs.drop (k + 1)).length = vs.length := by simp; omega
      have ho2 := ho'
      rw [← hlen] at ho2
      have hki : k < (ms ++ vs[k] :: vs.drop (k + 1)).length := by omega
      have hgk : (ms ++ vs[k] :: vs.drop (k + 1))[k] = vs[k] := by rw [List.getElem_append_right (by omega)]; simp [hml]
      obtain ⟨g, rfl, c0, c1, c2, _, hgl, _, _, _⟩ := (hc'.perm (perm_ce4 Lx Ls' L)).atV ho2 hki
      rw [hgk] at c0 c1 c2
      have hcm : CanMove half old' (rs ++ rs').length := by rw [List.length_append, hsl]; exact hm2
      have hnn : (rs ++ rs').length = rs.length + news.length := by rw [List.length_append, hsl]
      have HSN := Lib.hid hsn; clear hsn
      have HCM := Lib.hid hcm; clear hcm hm2
      have HXK := Lib.hid hxk; clear hxk
      have HO' := Lib.hid ho2; clear ho2 ho'
      go_wp2_with fail
      refine (move_any b vs[k] hc' HCM.out (by rw [hl2]; exact HXK.out)).mono ?_
      rintro e w1 ⟨rs2, Lx2, rfl, hs2, hc2⟩
      have hcan := HCM.out.step (x := vs[k]) (by rw [hl2]; exact HXK.out)
      rw [hnn] at hs2 hc2 hcan ⊢
      have HSN2 := Lib.hid HSN.out; clear HSN
      generalize moveN half old' (rs.length + news.length) vs[k] = mv at *
      obtain ⟨y, old2, news2⟩ := mv
      simp only at *
      have hc3 := hc2.perm (perm_ce2 Lx2 Lx Ls' L)
      obtain ⟨g', hg', d0, d1, d2, hfr, hgl2, _, _, _⟩ := hc3.atV HO'.out hki
      cases hg'
      obtain ⟨Ls2, ho3, hc4⟩ := hc3.setV HO'.out hki y hcan.2.1
      unfold ValM.v
      clear c0 c1 c2 hgl
      go_wp2_with fail
      go_roundw
      case rel =>
        refine ⟨k + 1, rs' ++ rs2, Lx ++ Lx2, Ls2, by omega, by go_num, ?_, ?_, ?_⟩
        · rw [HSN2.out]; exact hs'.append hs2
        · rw [HSN2.out]
          simp only
          rw [hlen, set_mid _ _ _ _ _ hml] at ho3
          exact ho3
        · rw [HSN2.out]
          rw [← List.append_assoc]
          exact hc4.perm (perm_ce3 _ _ _ _)
      case measure => simp [intOf]; omega
    · have hk' : k = vs.length := by omega
      subst hk'
      rw [List.take_length] at hs' ho' hc'
      rw [List.drop_length, List.append_nil] at ho'
      go_wp2_with fail
      go_end0
      exact ⟨rs', Lx, Ls', rfl, hs', ho', hc'⟩
end
end Go.Proofs.Ythipkmmdjhpklaa
