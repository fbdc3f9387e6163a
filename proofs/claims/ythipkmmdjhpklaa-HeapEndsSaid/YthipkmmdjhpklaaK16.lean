/- The walks of the laws' functions: what a law can use. -/
import Derived.Test.YthipkmmdjhpklaaK15
import Derived.Test.YthipkmmdjhpklaaK14
namespace Go.Proofs.Ythipkmmdjhpklaa
set_option linter.unusedVariables false
set_option linter.unusedSimpArgs false
open Go.RowKit

def thin1 (d : DeedM) : Bool := !(decide (12 < d.list.length) || decide (4 < d.obj.slots.length) || decide (300 < d.obj.name.size) || decide (300 < d.val.s.size) || decide (10000 < d.a))
def lenOk (n : Nat) : Bool := !(decide (80 < n) && decide (n ≤ 200) || decide (210 < n))
def thinD (ds : List DeedM) : Bool := lenOk ds.length && ds.all thin1
theorem thin1_bad {d : DeedM} (h : 12 < d.list.length ∨ 4 < d.obj.slots.length ∨ 300 < d.obj.name.size ∨ 300 < d.val.s.size ∨ 10000 < d.a) : thin1 d = false := by
  unfold thin1
  rcases h with h | h | h | h | h <;> simp [h]
theorem thin1_good {d : DeedM} (h1 : ¬ 12 < d.list.length) (h2 : ¬ 4 < d.obj.slots.length) (h3 : ¬ 300 < d.obj.name.size) (h4 : ¬ 300 < d.val.s.size) (h5 : ¬ 10000 < d.a) : thin1 d = true := by
  unfold thin1
  simp [h1, h2, h3, h4, h5]
theorem thin1_all {d : DeedM} (h : thin1 d = true) : d.list.length ≤ 12 ∧ d.obj.slots.length ≤ 4 ∧ d.obj.name.size ≤ 300 ∧ d.val.s.size ≤ 300 ∧ d.a ≤ 10000 := by
  unfold thin1 at h
  simp at h
  omega
set_option maxRecDepth 10000 in
set_option maxHeartbeats 4000000 in
theorem thinDeeds_any (v : Value) (ds : List DeedM) {w0 w : World} {H : Hp} {L : List (Nat × Obj)} (hd : SlR encDeed H v ds) (m : Mem w0 H L w) :
    Calls Try.prog 10 #[v] w (Ret w0 H L (.bool (thinD ds))) := by
  have HD := Lib.hid hd
  obtain ⟨lb, lc, rfl, _, hlc, _, _⟩ := hd
  have hlc := size_le_maxLen hlc
  have hbad : ∀ (k : Nat) (hk : k < ds.length), thin1 ds[k] = false → thinD ds = false := fun k hk h => by
    unfold thinD
    rw [all_false_of thin1 ds k hk h, Bool.and_false]
  have HBAD := Lib.hid hbad; clear hbad
  by_cases h1 : 80 < ds.length
  · have h1I : (80 : Int) < ds.length := by omega
    by_cases h2 : ds.length ≤ 200
    · have h2I : (ds.length : Int) ≤ 200 := by omega
      have hf : thinD ds = false := by unfold thinD lenOk; rw [decide_eq_true h1, decide_eq_true h2]; rfl
      have HF := Lib.hid hf; clear hf
      go_enter Try.func10, Try.ntmps10
      go_wp2_with fail
      go_ret
      exact ⟨by rw [HF.out]; rfl, m⟩
    · have h2I : ¬ (ds.length : Int) ≤ 200 := by omega
      by_cases h3 : 210 < ds.length
      · have h3I : (210 : Int) < ds.length := by omega
        have hf : thinD ds = false := by unfold thinD lenOk; rw [decide_eq_true h3]; simp
        have HF := Lib.hid hf; clear hf
        go_enter Try.func10, Try.ntmps10
        go_wp2_with fail
        go_ret
        exact ⟨by rw [HF.out]; rfl, m⟩
      · have h3I : ¬ (210 : Int) < ds.length := by omega
        have hl : lenOk ds.length = true := by unfold lenOk; rw [decide_eq_false h2, decide_eq_false h3]; simp
        have HL := Lib.hid hl; clear hl
        go_enter Try.func10, Try.ntmps10
        go_wp2_with fail
        go_loopw [3] (fun v3 wr => ∃ k : Nat, k ≤ ds.length ∧ v3 = .int .i64 k ∧ (ds.take k).all thin1 = true ∧ Mem w0 H L wr) (fun i _ => ds.length - (intOf i).toNat)
        case atStart => exact ⟨0, Nat.zero_le _, rfl, rfl, m⟩
        case round =>
          obtain ⟨k, hk, rfl, hall, mk⟩ := hrel
          have HALL := Lib.hid hall; clear hall
          by_cases hlt : k < ds.length
          · obtain ⟨blk, off, lv, sv, rfl, hcell, hdr⟩ := HD.out.getDeed hlt
            have hbk := HBAD.out k hlt
            have hsn : thin1 ds[k] = true → (ds.take (k + 1)).all thin1 = true := fun h => by rw [all_take_succ _ _ _ hlt, HALL.out, h]; rfl
            have HDR := Lib.hid hdr; clear hdr
            have HB := Lib.hid hbk; clear hbk
            have HSN := Lib.hid hsn; clear hsn
            generalize ds[k] = d at *
            have hltI : (k : Int) < ds.length := by omega
            obtain ⟨lb2, lc2, rfl, -, hlc2, -, -⟩ := HDR.out.list
            obtain ⟨sb2, sc2, rfl, -, hsc2, -, -⟩ := HDR.out.slots
            have hlc2 := size_le_maxLen hlc2
            have hsc2 := size_le_maxLen hsc2
            have hns := size_le_maxLen HDR.out.obj.s
            have hvs := size_le_maxLen HDR.out.val.s
            have hda := HDR.out.a
            unfold I64 at hda
            have c0 := (hcell 0 _ rfl).cell mk
            rw [Nat.add_zero] at c0
            have c1 := (hcell 1 _ rfl).cell mk
            have c2 := (hcell 2 _ rfl).cell mk
            have c3 := (hcell 3 _ rfl).cell mk
            have c4 := (hcell 4 _ rfl).cell mk
            have c5 := (hcell 5 _ rfl).cell mk
            have c6 := (hcell 6 _ rfl).cell mk
            have c7 := (hcell 7 _ rfl).cell mk
            have c8 := (hcell 8 _ rfl).cell mk
            have c9 := (hcell 9 _ rfl).cell mk
            have c10 := (hcell 10 _ rfl).cell mk
            have c11 := (hcell 11 _ rfl).cell mk
            have mD := mk.alloc (DBox d (.slice lb2 d.list.length lc2) (.slice sb2 d.obj.slots.length sc2))
            have mu := mD
            unfold DBox at mu
            have es := mu.eqs
            simp only [EqsL] at es
            clear hcell mu
            have ret : ∀ w', Mem w0 H ((wr.heap.size, DBox d (.slice lb2 d.list.length lc2) (.slice sb2 d.obj.slots.length sc2)) :: L) w' → thin1 d = false → Ret w0 H L (.bool (thinD ds)) (.returned (.bool false)) w' := fun w' m' h => ⟨by rw [HB.out h], m'.drop⟩
            have RET := Lib.hid ret; clear ret
            by_cases q1 : 12 < d.list.length
            · have q1I : (12 : Int) < d.list.length := by omega
              go_wp2_with fail
              go_ret
              exact RET.out _ mD (thin1_bad (.inl q1))
            have q1I : ¬ (12 : Int) < d.list.length := by omega
            by_cases q2 : 4 < d.obj.slots.length
            · have q2I : (4 : Int) < d.obj.slots.length := by omega
              go_wp2_with fail
              go_ret
              exact RET.out _ mD (thin1_bad (.inr (.inl q2)))
            have q2I : ¬ (4 : Int) < d.obj.slots.length := by omega
            by_cases q3 : 300 < d.obj.name.size
            · have q3I : (300 : Int) < d.obj.name.size := by omega
              go_wp2_with fail
              go_ret
              exact RET.out _ mD (thin1_bad (.inr (.inr (.inl q3))))
            have q3I : ¬ (300 : Int) < d.obj.name.size := by omega
            by_cases q4 : 300 < d.val.s.size
            · have q4I : (300 : Int) < d.val.s.size := by omega
              go_wp2_with fail
              go_ret
              exact RET.out _ mD (thin1_bad (.inr (.inr (.inr (.inl q4)))))
            have q4I : ¬ (300 : Int) < d.val.s.size := by omega
            by_cases q5 : 10000 < d.a
            · go_wp2_with fail
              go_ret
              exact RET.out _ mD (thin1_bad (.inr (.inr (.inr (.inr q5)))))
            go_wp2_with fail
            go_roundw
            case rel => exact ⟨k + 1, by omega, by go_num, HSN.out (thin1_good q1 q2 q3 q4 q5), mD.drop⟩
            case measure => simp [intOf]; omega
          · have hge : ¬ (k : Int) < ds.length := by omega
            have hk' : k = ds.length := by omega
            have ht : thinD ds = true := by
              have := HALL.out
              rw [hk', List.take_length] at this
              unfold thinD
              rw [HL.out, this]; rfl
            have HT := Lib.hid ht; clear ht hk'
            go_wp2_with fail
            go_ret
            exact ⟨by rw [HT.out]; rfl, mk⟩
  · have h1I : ¬ (80 : Int) < ds.length := by omega
    have h3I : ¬ (210 : Int) < ds.length := by omega
    have hl : lenOk ds.length = true := by unfold lenOk; rw [decide_eq_false h1, decide_eq_false (by omega : ¬ 210 < ds.length)]; simp
    have HL := Lib.hid hl; clear hl
    go_enter Try.func10, Try.ntmps10
    go_wp2_with fail
    go_loopw [3] (fun v3 wr => ∃ k : Nat, k ≤ ds.length ∧ v3 = .int .i64 k ∧ (ds.take k).all thin1 = true ∧ Mem w0 H L wr) (fun i _ => ds.length - (intOf i).toNat)
    case atStart => exact ⟨0, Nat.zero_le _, rfl, rfl, m⟩
    case round =>
      obtain ⟨k, hk, rfl, hall, mk⟩ := hrel
      have HALL := Lib.hid hall; clear hall
      by_cases hlt : k < ds.length
      · obtain ⟨blk, off, lv, sv, rfl, hcell, hdr⟩ := HD.out.getDeed hlt
        have hbk := HBAD.out k hlt
        have hsn : thin1 ds[k] = true → (ds.take (k + 1)).all thin1 = true := fun h => by rw [all_take_succ _ _ _ hlt, HALL.out, h]; rfl
        have HDR := Lib.hid hdr; clear hdr
        have HB := Lib.hid hbk; clear hbk
        have HSN := Lib.hid hsn; clear hsn
        generalize ds[k] = d at *
        have hltI : (k : Int) < ds.length := by omega
        obtain ⟨lb2, lc2, rfl, -, hlc2, -, -⟩ := HDR.out.list
        obtain ⟨sb2, sc2, rfl, -, hsc2, -, -⟩ := HDR.out.slots
        have hlc2 := size_le_maxLen hlc2
        have hsc2 := size_le_maxLen hsc2
        have hns := size_le_maxLen HDR.out.obj.s
        have hvs := size_le_maxLen HDR.out.val.s
        have hda := HDR.out.a
        unfold I64 at hda
        have c0 := (hcell 0 _ rfl).cell mk
        rw [Nat.add_zero] at c0
        have c1 := (hcell 1 _ rfl).cell mk
        have c2 := (hcell 2 _ rfl).cell mk
        have c3 := (hcell 3 _ rfl).cell mk
        have c4 := (hcell 4 _ rfl).cell mk
        have c5 := (hcell 5 _ rfl).cell mk
        have c6 := (hcell 6 _ rfl).cell mk
        have c7 := (hcell 7 _ rfl).cell mk
        have c8 := (hcell 8 _ rfl).cell mk
        have c9 := (hcell 9 _ rfl).cell mk
        have c10 := (hcell 10 _ rfl).cell mk
        have c11 := (hcell 11 _ rfl).cell mk
        have mD := mk.alloc (DBox d (.slice lb2 d.list.length lc2) (.slice sb2 d.obj.slots.length sc2))
        have mu := mD
        unfold DBox at mu
        have es := mu.eqs
        simp only [EqsL] at es
        clear hcell mu
        have ret : ∀ w', Mem w0 H ((wr.heap.size, DBox d (.slice lb2 d.list.length lc2) (.slice sb2 d.obj.slots.length sc2)) :: L) w' → thin1 d = false → Ret w0 H L (.bool (thinD ds)) (.returned (.bool false)) w' := fun w' m' h => ⟨by rw [HB.out h], m'.drop⟩
        have RET := Lib.hid ret; clear ret
        by_cases q1 : 12 < d.list.length
        · have q1I : (12 : Int) < d.list.length := by omega
          go_wp2_with fail
          go_ret
          exact RET.out _ mD (thin1_bad (.inl q1))
        have q1I : ¬ (12 : Int) < d.list.length := by omega
        by_cases q2 : 4 < d.obj.slots.length
        · have q2I : (4 : Int) < d.obj.slots.length := by omega
          go_wp2_with fail
          go_ret
          exact RET.out _ mD (thin1_bad (.inr (.inl q2)))
        have q2I : ¬ (4 : Int) < d.obj.slots.length := by omega
        by_cases q3 : 300 < d.obj.name.size
        · have q3I : (300 : Int) < d.obj.name.size := by omega
          go_wp2_with fail
          go_ret
          exact RET.out _ mD (thin1_bad (.inr (.inr (.inl q3))))
        have q3I : ¬ (300 : Int) < d.obj.name.size := by omega
        by_cases q4 : 300 < d.val.s.size
        · have q4I : (300 : Int) < d.val.s.size := by omega
          go_wp2_with fail
          go_ret
          exact RET.out _ mD (thin1_bad (.inr (.inr (.inr (.inl q4)))))
        have q4I : ¬ (300 : Int) < d.val.s.size := by omega
        by_cases q5 : 10000 < d.a
        · go_wp2_with fail
          go_ret
          exact RET.out _ mD (thin1_bad (.inr (.inr (.inr (.inr q5)))))
        go_wp2_with fail
        go_roundw
        case rel => exact ⟨k + 1, by omega, by go_num, HSN.out (thin1_good q1 q2 q3 q4 q5), mD.drop⟩
        case measure => simp [intOf]; omega
      · have hge : ¬ (k : Int) < ds.length := by omega
        have hk' : k = ds.length := by omega
        have ht : thinD ds = true := by
          have := HALL.out
          rw [hk', List.take_length] at this
          unfold thinD
          rw [HL.out, this]; rfl
        have HT := Lib.hid ht; clear ht hk'
        go_wp2_with fail
        go_ret
        exact ⟨by rw [HT.out]; rfl, mk⟩
end Go.Proofs.Ythipkmmdjhpklaa
