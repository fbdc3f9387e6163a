/- The walks: the predicates of chapter 24: within, isNoText over a list; the checks of a gate. -/
import Derived.Test.YtpkcdkbbhiafnaaDoorGateA
import Derived.Deep.DeepMust
namespace Go.Proofs.YtpkcdkbbhiafnaaDoor
set_option linter.unusedVariables false
set_option linter.unusedSimpArgs false
open Go.RowKit

def inAll (lo hi : Int) (xs : List Int) : Bool := xs.all fun n => decide (lo ≤ n ∧ n ≤ hi)

/-- within's closure: is a number outside? -/
theorem within1_any (n lo hi : Int) (bl bh : Nat) (w : World) (h1 : w.cell? ⟨bl, 0, none⟩ = some (.int .i64 lo)) (h2 : w.cell? ⟨bh, 0, none⟩ = some (.int .i64 hi)) :
    Calls Tryd.prog 46 #[.int .i64 n, .pointer (some ⟨bl, 0, none⟩), .pointer (some ⟨bh, 0, none⟩)] w fun e w' => e = .returned (.bool (!decide (lo ≤ n ∧ n ≤ hi))) ∧ w = w' := by
  go_enter Tryd.func46, Tryd.ntmps46
  go_wp2
  all_goals (go_ret; refine ⟨ret_bool ?_, rfl⟩; rw [Bool.eq_iff_iff]; simp <;> omega)

def SomeIdx (p : Bool) (w : World) (e : Ending) (w' : World) : Prop := ∃ k : Int, e = .returned (.int .i64 k) ∧ decide (0 ≤ k) = p ∧ w = w'

set_option maxHeartbeats 400000 in
theorem IndexFuncI_any (v : Value) (xs : List Int) (lo hi : Int) (bl bh : Nat) {w0 w : World} {H : Hp} {L : List (Nat × Obj)} (m : Mem w0 H L w) (hv : SlR encInt H v xs)
    (h1 : w.cell? ⟨bl, 0, none⟩ = some (.int .i64 lo)) (h2 : w.cell? ⟨bh, 0, none⟩ = some (.int .i64 hi)) :
    Calls Tryd.prog 53 #[v, .func (.func 46) #[] #[.pointer (some ⟨bl, 0, none⟩), .pointer (some ⟨bh, 0, none⟩)]] w (SomeIdx (!inAll lo hi xs) w) := by
  have HV := Lib.hid hv
  obtain ⟨b, c, rfl, hc1, hc2, _, _⟩ := hv
  have hc2 := size_le_maxLen hc2
  go_enter Tryd.func53, Tryd.ntmps53
  go_wp2
  go_loop [5, 8] (fun _ i => ∃ k : Nat, k ≤ xs.length ∧ i = .int .i64 k ∧ inAll lo hi (xs.take k) = true) (fun _ i => xs.length - (intOf i).toNat)
  case atStart => exact ⟨0, Nat.zero_le _, rfl, rfl⟩
  case round =>
    obtain ⟨k, hk, rfl, hall⟩ := hrel
    have HA := Lib.hid hall; clear hall
    by_cases hlt : k < xs.length
    · obtain ⟨blk, off, rfl, hcell, hp⟩ := HV.out.cellV hlt
      have hcell := hcell.cell m
      cases hq : decide (lo ≤ xs[k] ∧ xs[k] ≤ hi)
      · have HQ := Lib.hid hq
        go_wp2_with (go_at_call 46; refine (within1_any _ lo hi bl bh _ h1 h2).mono ?_; rintro e w' ⟨rfl, rfl⟩)
        go_ret
        refine ⟨_, rfl, ?_, rfl⟩
        rw [show inAll lo hi xs = false from all_false_of _ xs k hlt HQ.out]
        simp
      · have HQ := Lib.hid hq
        go_wp2_with (go_at_call 46; refine (within1_any _ lo hi bl bh _ h1 h2).mono ?_; rintro e w' ⟨rfl, rfl⟩)
        go_round
        case rel => exact ⟨k + 1, by omega, by go_num, by have := HA.out; unfold inAll at *; rw [all_take_succ _ _ _ hlt, this, HQ.out]; rfl⟩
        case measure => simp [intOf]; omega
    · go_wp2
      go_ret
      refine ⟨_, rfl, ?_, rfl⟩
      have := HA.out
      rw [List.take_of_length_le (by omega)] at this
      rw [this]
      rfl

theorem ContainsFuncI_any (v : Value) (xs : List Int) (lo hi : Int) (bl bh : Nat) {w0 w : World} {H : Hp} {L : List (Nat × Obj)} (m : Mem w0 H L w) (hv : SlR encInt H v xs)
    (h1 : w.cell? ⟨bl, 0, none⟩ = some (.int .i64 lo)) (h2 : w.cell? ⟨bh, 0, none⟩ = some (.int .i64 hi)) :
    Calls Tryd.prog 45 #[v, .func (.func 46) #[] #[.pointer (some ⟨bl, 0, none⟩), .pointer (some ⟨bh, 0, none⟩)]] w fun e w' => e = .returned (.bool (!inAll lo hi xs)) ∧ w = w' := by
  go_enter Tryd.func45, Tryd.ntmps45
  go_wp2_with (go_at_call 53; refine (IndexFuncI_any v xs lo hi bl bh m hv h1 h2).mono ?_; rintro e w' ⟨k, rfl, hk, rfl⟩; have HK := Lib.hid hk; clear hk)
  go_ret
  exact ⟨ret_bool HK.out, rfl⟩

theorem within_any (v : Value) (xs : List Int) (lo hi : Int) {w0 w : World} {H : Hp} {L : List (Nat × Obj)} (m : Mem w0 H L w) (hv : SlR encInt H v xs) :
    Calls Tryd.prog 38 #[.int .i64 lo, .int .i64 hi, v] w (Ret w0 H L (.bool (inAll lo hi xs))) := by
  have HV := Lib.hid hv; clear hv
  go_enter Tryd.func38, Tryd.ntmps38
  go_wp2_with fail
  have m1 := (m.alloc (.cells #[.int .i64 lo] 3)).alloc (.cells #[.int .i64 hi] 3)
  have es := m1.eqs
  simp only [EqsL] at es
  refine (ContainsFuncI_any v xs lo hi _ _ m1 HV.out (by simp [es]) (by simp [es])).mono ?_
  rintro e w1 ⟨rfl, rfl⟩
  go_wp2
  go_ret
  exact ⟨ret_bool (by simp), m1.drop.drop⟩

set_option maxHeartbeats 400000 in
theorem IndexFuncS_any (v : Value) (xs : List ByteArray) {w0 w : World} {H : Hp} {L : List (Nat × Obj)} (m : Mem w0 H L w) (hv : SlR encStr H v xs) :
    Calls Tryd.prog 47 #[v, .func (.func 40) #[] #[]] w (SomeIdx (!xs.all isText) w) := by
  have HV := Lib.hid hv
  obtain ⟨b, c, rfl, hc1, hc2, _, _⟩ := hv
  have hc2 := size_le_maxLen hc2
  go_enter Tryd.func47, Tryd.ntmps47
  go_wp2
  go_loop [5, 8] (fun _ i => ∃ k : Nat, k ≤ xs.length ∧ i = .int .i64 k ∧ (xs.take k).all isText = true) (fun _ i => xs.length - (intOf i).toNat)
  case atStart => exact ⟨0, Nat.zero_le _, rfl, rfl⟩
  case round =>
    obtain ⟨k, hk, rfl, hall⟩ := hrel
    have HA := Lib.hid hall; clear hall
    by_cases hlt : k < xs.length
    · obtain ⟨blk, off, rfl, hcell, hp⟩ := HV.out.cellV hlt
      have hcell := hcell.cell m
      cases hq : isText xs[k]
      · have HQ := Lib.hid hq
        go_wp2_with (go_at_call 40; refine (isNoText_any _ hp _).mono ?_; rintro e w' ⟨rfl, rfl⟩)
        go_ret
        refine ⟨_, rfl, ?_, rfl⟩
        rw [all_false_of _ xs k hlt HQ.out]
        simp
      · have HQ := Lib.hid hq
        go_wp2_with (go_at_call 40; refine (isNoText_any _ hp _).mono ?_; rintro e w' ⟨rfl, rfl⟩)
        go_round
        case rel => exact ⟨k + 1, by omega, by go_num, by rw [all_take_succ _ _ _ hlt, HA.out, HQ.out]; rfl⟩
        case measure => simp [intOf]; omega
    · go_wp2
      go_ret
      refine ⟨_, rfl, ?_, rfl⟩
      have := HA.out
      rw [List.take_of_length_le (by omega)] at this
      rw [this]
      rfl

theorem ContainsFuncS_any (v : Value) (xs : List ByteArray) {w0 w : World} {H : Hp} {L : List (Nat × Obj)} (m : Mem w0 H L w) (hv : SlR encStr H v xs) :
    Calls Tryd.prog 39 #[v, .func (.func 40) #[] #[]] w fun e w' => e = .returned (.bool (!xs.all isText)) ∧ w = w' := by
  go_enter Tryd.func39, Tryd.ntmps39
  go_wp2_with (go_at_call 47; refine (IndexFuncS_any v xs m hv).mono ?_; rintro e w' ⟨k, rfl, hk, rfl⟩; have HK := Lib.hid hk; clear hk)
  go_ret
  exact ⟨ret_bool HK.out, rfl⟩

/-- slices.Clone of a list of strings: a slice of its own, or nil. -/
def CloneR (xs : List ByteArray) (w0 : World) (H : Hp) (L : List (Nat × Obj)) (e : Ending) (w' : World) : Prop :=
  ∃ b c cs, e = .returned (.slice b xs.length c) ∧ MemAcc w0 H L 9 1 (.slice b xs.length c) xs.length cs w' ∧ Chunks encStr H cs xs
theorem str_oneCell {H : Hp} {cs : List Value} {xs : List ByteArray} (h : Chunks encStr H cs xs) : ∀ u ∈ cs, u.oneCell' = true :=
  h.oneCell fun cs x hx u hu => by
    obtain ⟨rfl, _⟩ := hx
    rw [List.mem_singleton] at hu
    subst hu; rfl
theorem Chunks.len1 {H : Hp} {cs : List Value} {xs : List ByteArray} (h : Chunks encStr H cs xs) : cs.length = xs.length * 1 := h.length
set_option maxHeartbeats 400000 in
theorem Clone_any (v : Value) (xs : List ByteArray) {w0 w : World} {H : Hp} {L : List (Nat × Obj)} (m : Mem w0 H L w) (hv : SlR encStr H v xs) (hx : xs.length ≤ 8796093022208) :
    Calls Tryd.prog 30 #[v] w (CloneR xs w0 H L) := by
  have HV := Lib.hid hv
  obtain ⟨b, c, rfl, hc1, hc2, h0, _⟩ := hv
  obtain ⟨news, hch, hsrc⟩ := HV.out.src (m.alloc (.cells #[] 9))
  have HC := Lib.hid hch; clear hch
  have HS := Lib.hid hsrc; clear hsrc
  have h1 := fun w => Lib.run_eql_slice_nil (P := Tryd.prog) w
  cases b with
  | none =>
    have h00 := h0 rfl
    subst h00
    have hxs : xs = [] := List.eq_nil_of_length_eq_zero (by omega)
    subst hxs
    clear HV HC HS h0
    go_enter Tryd.func30, Tryd.ntmps30
    go_wp2_with fail
    go_ret
    exact ⟨_, _, [], rfl, MemAcc.nil m, .nil⟩
  | some a =>
    go_enter Tryd.func30, Tryd.ntmps30
    go_wp2_with (at_builtin; go_must (refine wpList_append_mem (w0 := w0) (H := H) (L := L) rfl _ _ 25 rfl 9 1 16 (.string ByteArray.empty) Tryd.underlying25 (by kernel_rfl) rfl (by decide) _ 0 [] ?hacc rfl _ xs.length news ?hsrc rfl ?hl ?h1 ?hb ?h63 ?_))
    case hacc => exact MemAcc.row (m.alloc (.cells #[] 9)) (Nat.le_refl _) (by decide) rfl rfl
    case hsrc => exact HS.out
    case hl => exact HC.out.len1
    case h1 => exact str_oneCell HC.out
    case hb => omega
    case h63 => unfold maxLen; omega
    intro v' w' hacc
    obtain ⟨b', c', rfl, _, _⟩ := hacc.shape
    go_wp2
    go_ret
    exact ⟨b', c', _, rfl, by simpa using hacc, HC.out⟩

end Go.Proofs.YtpkcdkbbhiafnaaDoor
