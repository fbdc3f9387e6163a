/- The walk: the law GateInputs. -/
import Derived.Test.YtpkcdkbbhiafnaaGateX
namespace Go.Proofs.Ytpkcdkbbhiafnaa
set_option linter.unusedVariables false
set_option linter.unusedSimpArgs false
open Go.RowKit

theorem offer1_i (nx n : Int) (h1 : nx ≤ 1000) : (⟨0, [], nx⟩ : GateM).offer1 n (ByteArray.mk #[105]) =
    if n < 0 ∨ nx < n then (false, 3, ⟨0, [], nx⟩) else if n < nx then (false, 0, ⟨0, [], nx⟩) else (true, 0, ⟨0, [], nx + 1⟩) := by
  have ht : isText (ByteArray.mk #[105]) = true := by decide
  unfold GateM.offer1
  rw [ht, if_neg (by decide)]
  by_cases h : n < 0 ∨ nx < n
  · rw [if_pos h, if_pos (by simp only; omega)]
  · rw [if_neg h, if_neg (by simp only; omega)]
theorem inputs_chk (nx : Int) (h0 : 0 ≤ nx) (h1 : nx ≤ 1000) : (⟨0, [], nx⟩ : GateM).chk = 0 := by
  unfold GateM.chk
  rw [if_neg (by simp only; omega), if_neg (by simp)]
  rfl
/-- What Offer of a text does to a gate with nothing waiting. -/
theorem inputs_bad (nx n : Int) (h0 : 0 ≤ nx) (h1 : nx ≤ 1000) (h : n < 0 ∨ nx < n) :
    (⟨0, [], nx⟩ : GateM).with1 ((⟨0, [], nx⟩ : GateM).offer1 n (ByteArray.mk #[105])).2 = (GateM.zero, 3) ∧ OfferTk ⟨0, [], nx⟩ n (ByteArray.mk #[105]) = false := by
  unfold GateM.with1 OfferTk
  rw [inputs_chk nx h0 h1, offer1_i nx n h1, if_pos h]
  simp
theorem inputs_old (nx n : Int) (h0 : 0 ≤ nx) (h1 : nx ≤ 1000) (h : ¬ (n < 0 ∨ nx < n)) (h2 : n < nx) :
    (⟨0, [], nx⟩ : GateM).with1 ((⟨0, [], nx⟩ : GateM).offer1 n (ByteArray.mk #[105])).2 = (⟨0, [], nx⟩, 0) ∧ OfferTk ⟨0, [], nx⟩ n (ByteArray.mk #[105]) = false := by
  unfold GateM.with1 OfferTk
  rw [inputs_chk nx h0 h1, offer1_i nx n h1, if_neg h, if_pos h2]
  simp
theorem inputs_new (nx : Int) (h0 : 0 ≤ nx) (h1 : nx ≤ 1000) :
    (⟨0, [], nx⟩ : GateM).with1 ((⟨0, [], nx⟩ : GateM).offer1 nx (ByteArray.mk #[105])).2 = (⟨0, [], nx + 1⟩, 0) ∧ OfferTk ⟨0, [], nx⟩ nx (ByteArray.mk #[105]) = true := by
  unfold GateM.with1 OfferTk
  rw [inputs_chk nx h0 h1, offer1_i nx nx h1, if_neg (show ¬ (nx < 0 ∨ nx < nx) by omega), if_neg (show ¬ nx < nx by omega)]
  simp

theorem inputs_key (nx n : Int) (h0 : 0 ≤ nx) (h1 : nx ≤ 1000) : ∃ (nx' k : Int) (tk : Bool),
    (⟨0, [], nx⟩ : GateM).with1 ((⟨0, [], nx⟩ : GateM).offer1 n (ByteArray.mk #[105])).2 = (⟨0, [], nx'⟩, k) ∧ OfferTk ⟨0, [], nx⟩ n (ByteArray.mk #[105]) = tk ∧
      (((n < 0 ∨ nx < n) ∧ nx' = 0 ∧ k = 3 ∧ tk = false) ∨ (0 ≤ n ∧ n < nx ∧ nx' = nx ∧ k = 0 ∧ tk = false) ∨ (n = nx ∧ nx' = nx + 1 ∧ k = 0 ∧ tk = true)) := by
  by_cases h : n < 0 ∨ nx < n
  · obtain ⟨e1, e2⟩ := inputs_bad nx n h0 h1 h
    exact ⟨0, 3, false, e1, e2, .inl ⟨h, rfl, rfl, rfl⟩⟩
  · by_cases h2 : n < nx
    · obtain ⟨e1, e2⟩ := inputs_old nx n h0 h1 h h2
      exact ⟨nx, 0, false, e1, e2, .inr (.inl ⟨by omega, h2, rfl, rfl, rfl⟩)⟩
    · obtain rfl : n = nx := by omega
      obtain ⟨e1, e2⟩ := inputs_new n h0 h1
      exact ⟨n + 1, 0, true, e1, e2, .inr (.inr ⟨rfl, rfl, rfl, rfl⟩)⟩
theorem src_nil {w : World} {H : Hp} {b : Option Addr} {c : Nat} (h : SlR encStr H (.slice b 0 c) []) : Src w (.slice b 0 c) 0 [] := by
  obtain ⟨b', c', hv, _, _, h0, _⟩ := h
  cases hv
  cases b with
  | none => rw [h0 rfl]; exact .inl ⟨rfl, rfl, rfl⟩
  | some a => exact .inr ⟨a, c, rfl, fun j u hu => by simp at hu⟩

set_option maxRecDepth 10000 in
set_option maxHeartbeats 4000000 in
theorem lawInputs (v : Value) (xs : List UInt8) {w0 w : World} {H : Hp} {L : List (Nat × Obj)} (m : Mem w0 H L w) (hv : SlR encB H v xs) :
    Calls Try.prog 7 #[v] w (Lawful w0 H L) := by
  have HV := Lib.hid hv
  obtain ⟨b, c, rfl, hc1, hc2, _, _⟩ := hv
  have hc2 := size_le_maxLen hc2
  go_enter Try.func7, Try.ntmps7
  go_wp2_with fail
  have m1 := m.alloc (.cells #[.int .i64 0, .slice none 0 0, .int .i64 0] 24)
  go_loopw [4, 5, 6, 7, 8, 9] (fun v4 v5 _ _ _ _ wr => ∃ (j nx : Nat) (qb : Option Addr) (qc : Nat) (H' : Hp), j ≤ xs.length ∧ j ≤ 60 ∧ nx ≤ j ∧ v5 = .int .i64 j ∧ v4 = .int .i64 nx ∧ Hle H H' ∧ SlR encStr H' (.slice qb 0 qc) [] ∧ Mem w0 H' ((w.heap.size, .cells #[.int .i64 0, .slice qb 0 qc, .int .i64 nx] 24) :: L) wr) (fun _ i _ _ _ _ _ => xs.length - (intOf i).toNat)
  case atStart => exact ⟨0, 0, none, 0, H, Nat.zero_le _, by omega, by omega, rfl, rfl, Hle.refl _, SlR.nil _ _, m1⟩
  case round =>
    obtain ⟨j, nx, qb, qc, H', hj, hj2, hnx, rfl, rfl, hle, hq, m2⟩ := hrel
    by_cases hlt : j < xs.length ∧ j < 60
    · obtain ⟨hlt, hlt2⟩ := hlt
      obtain ⟨blk, off, rfl, hcell, _⟩ := (HV.out.mono hle).cellV hlt
      have hcell := hcell.cell m2
      generalize xs[j] = x at *
      have hx := x.toNat_lt
      generalize x.toNat = y at *
      have hmod : ((y : Int).tmod 5) = ((y % 5 : Nat) : Int) := by rw [Int.tmod_eq_emod_of_nonneg (by omega)]; omega
      have hd : y % 5 < 5 := Nat.mod_lt _ (by decide)
      generalize y % 5 = d at *
      have HQ := Lib.hid hq; clear hq
      have es := m2.eqs; simp only [EqsL, and_true] at es
      go_wp2_with fail
      generalize hn : (nx : Int) + (d : Int) - 3 = n at *
      have hnb : -9223372036854775808 ≤ n ∧ n ≤ 9223372036854775807 := by omega
      obtain ⟨nx', k, tk, e1, e2, hcase⟩ := inputs_key nx n (by omega) (by omega)
      have HC := Lib.hid hcase
      have E1 := Lib.hid e1; clear e1
      have E2 := Lib.hid e2; clear e2
      have HN := Lib.hid hn; clear hn hcase
      have hBA : Mem w0 H' ((wr.heap.size, .cells #[] 9) :: (wr.heap.size + 1, .cells #[.int .i64 0, .slice none 0 0, .int .i64 0] 24) :: (w.heap.size, .cells #[.int .i64 0, .slice qb 0 qc, .int .i64 nx] 24) :: L) ((wr.alloc (.cells #[] 9)).alloc (.cells #[.int .i64 0, .slice none 0 0, .int .i64 0] 24)).drew := by
        have h := ((m2.alloc (.cells #[] 9)).alloc (.cells #[.int .i64 0, .slice none 0 0, .int .i64 0] 24)).perm (.swap _ _ _)
        rw [World.size_alloc] at h
        exact h.drew
      have hAB : Mem w0 H' ((wr.heap.size + 1, .cells #[] 9) :: (wr.heap.size, .cells #[.int .i64 0, .slice none 0 0, .int .i64 0] 24) :: (w.heap.size, .cells #[.int .i64 0, .slice qb 0 qc, .int .i64 nx] 24) :: L) ((wr.alloc (.cells #[.int .i64 0, .slice none 0 0, .int .i64 0] 24)).alloc (.cells #[] 9)).drew := by
        have h := (m2.alloc (.cells #[.int .i64 0, .slice none 0 0, .int .i64 0] 24)).alloc (.cells #[] 9)
        rw [World.size_alloc] at h
        exact h.drew
      have ns := trivial
      have hne := trivial
      go_region_held3 (fun w' => w'.cell? ⟨w.heap.size, 0, none⟩ = some (.int .i64 0) ∧ w'.cell? ⟨w.heap.size, 1, none⟩ = some (.slice qb 0 qc) ∧ w'.cell? ⟨w.heap.size, 2, none⟩ = some (.int .i64 nx))
        (simp [es, ns, hne, World.cell?_alloc_lt, World.size_alloc, Nat.lt_succ_of_lt, World.cell?_setCell_other]) (first
          | (refine step_append_mem (w0 := w0) (H := H') (L := (w.heap.size, .cells #[.int .i64 0, .slice qb 0 qc, .int .i64 nx] 24) :: L) rfl _ _ 22 rfl 9 1 16 (.string ByteArray.empty) Try.underlying22 (by kernel_rfl) rfl (by decide) (.slice (some ⟨wr.heap.size, 0, none⟩) 0 0) 0 [] (MemAcc.row (m2.alloc (.cells #[] 9)).drew (Nat.le_refl _) (by decide) rfl rfl) rfl (.slice qb 0 qc) 0 [] (src_nil HQ.out) rfl rfl (by simp) (by omega) (by unfold maxLen; omega) ?_; intro v' w' hacc; obtain ⟨b', c', rfl, _, _⟩ := hacc.shape; obtain ⟨H2, m3, hl2, hsl⟩ := hacc.done (E := encStr) (ys := []) .nil rfl rfl; have HSL := Lib.hid hsl; clear hacc hsl es; have es := m3.eqs; simp only [EqsL, and_true] at es)
          | (refine step_append_mem (w0 := w0) (H := H') (L := (wr.heap.size, .cells #[.int .i64 0, .slice none 0 0, .int .i64 0] 24) :: (w.heap.size, .cells #[.int .i64 0, .slice qb 0 qc, .int .i64 nx] 24) :: L) rfl _ _ 22 rfl 9 1 16 (.string ByteArray.empty) Try.underlying22 (by kernel_rfl) rfl (by decide) (.slice (some ⟨wr.heap.size + 1, 0, none⟩) 0 0) 0 [] (MemAcc.row hAB (Nat.le_refl _) (by decide) rfl rfl) rfl (.slice qb 0 qc) 0 [] (src_nil HQ.out) rfl rfl (by simp) (by omega) (by unfold maxLen; omega) ?_; intro v' w' hacc; obtain ⟨b', c', rfl, _, _⟩ := hacc.shape; obtain ⟨H2, m3, hl2, hsl⟩ := hacc.done (E := encStr) (ys := []) .nil rfl rfl; have HSL := Lib.hid hsl; clear hacc hsl es; have es := m3.eqs; simp only [EqsL, and_true] at es)
          | (refine step_append_mem (w0 := w0) (H := H') (L := (wr.heap.size + 1, .cells #[.int .i64 0, .slice none 0 0, .int .i64 0] 24) :: (w.heap.size, .cells #[.int .i64 0, .slice qb 0 qc, .int .i64 nx] 24) :: L) rfl _ _ 22 rfl 9 1 16 (.string ByteArray.empty) Try.underlying22 (by kernel_rfl) rfl (by decide) (.slice (some ⟨wr.heap.size, 0, none⟩) 0 0) 0 [] (MemAcc.row hBA (Nat.le_refl _) (by decide) rfl rfl) rfl (.slice qb 0 qc) 0 [] (src_nil HQ.out) rfl rfl (by simp) (by omega) (by unfold maxLen; omega) ?_; intro v' w' hacc; obtain ⟨b', c', rfl, _, _⟩ := hacc.shape; obtain ⟨H2, m3, hl2, hsl⟩ := hacc.done (E := encStr) (ys := []) .nil rfl rfl; have HSL := Lib.hid hsl; clear hacc hsl es; have es := m3.eqs; simp only [EqsL, and_true] at es)
          | (go_at_call 16; refine (Offer_any _ ⟨0, [], nx⟩ n (ByteArray.mk #[105]) m3 ⟨_, rfl, HSL.out⟩ ⟨⟨by simp only; omega, by simp only; omega⟩, ⟨by simp only; omega, by simp only; omega⟩⟩ hnb (by decide)).mono ?_; rintro e w3 hR; obtain ⟨b3, c3, H3, rfl, m4, hl3, hs3⟩ := OfferR.lit (N := 0) E1.out E2.out rfl hR; have HS3 := Lib.hid hs3; clear hR hs3 es; clear ns hne; have es := m4.eqs; have ns := m4.nes; simp only [NeL, NeFrom, and_true, true_and] at ns; simp only [EqsL, and_true] at es; have hne : w.heap.size ≠ w3.heap.size ∧ w3.heap.size ≠ w.heap.size := ⟨by omega, by omega⟩)
          | (go_at_call 16; refine (Offer_any _ ⟨0, [], nx⟩ n (ByteArray.mk #[105]) (m3.alloc (.cells #[.int .i64 0, .slice none 0 0, .int .i64 0] 24)) ⟨_, rfl, HSL.out⟩ ⟨⟨by simp only; omega, by simp only; omega⟩, ⟨by simp only; omega, by simp only; omega⟩⟩ hnb (by decide)).mono ?_; rintro e w3 hR; obtain ⟨b3, c3, H3, rfl, m4, hl3, hs3⟩ := OfferR.lit (N := 0) E1.out E2.out rfl hR; have HS3 := Lib.hid hs3; clear hR hs3 es; clear ns hne; have es := m4.eqs; have ns := m4.nes; simp only [NeL, NeFrom, and_true, true_and] at ns; simp only [EqsL, and_true] at es; have hne : w.heap.size ≠ w3.heap.size ∧ w3.heap.size ≠ w.heap.size := ⟨by omega, by omega⟩)
          | fail "no arm")
      all_goals (clear hAB hBA)
      all_goals (first
        | (have m5 := (((m4 : Mem w0 H3 (_ :: _ :: L) w3).set (i := 0) (v := .int .i64 0) .head).set (i := 1) (v := .slice b3 0 c3) .head).set (i := 2) (v := .int .i64 nx') .head)
        | (have m5 := m4.alloc (.cells #[.int .i64 0, .slice b3 0 c3, .int .i64 nx'] 24)))
      all_goals (try simp only [List.setIfInBounds_toArray, List.set_cons_zero, List.set_cons_succ] at m5)
      all_goals (clear es ns hne; have es := m5.eqs; have ns := m5.nes; simp only [NeL, NeFrom, and_true, true_and] at ns; simp only [EqsL, and_true] at es)
      all_goals (rcases HC.out with ⟨hc, rfl, rfl, rfl⟩ | ⟨hc, hc', rfl, rfl, rfl⟩ | ⟨rfl, rfl, rfl, rfl⟩)
      iterate 4
        · by_cases hn0 : n < 0
          · go_wp2_with fail
            go_roundw
            case rel => exact ⟨j + 1, nx, qb, qc, H3, by omega, by omega, by omega, by go_num, rfl, (hle.trans hl2).trans hl3, (HQ.out.mono hl2).mono hl3, m5.drop⟩
            case measure => simp [intOf]; omega
          · have hgt : (nx : Int) < n := by omega
            go_wp2_with fail
            go_roundw
            case rel => exact ⟨j + 1, nx, qb, qc, H3, by omega, by omega, by omega, by go_num, rfl, (hle.trans hl2).trans hl3, (HQ.out.mono hl2).mono hl3, m5.drop⟩
            case measure => simp [intOf]; omega
        · have hn0 : ¬ n < 0 := by omega
          have hgt : ¬ (nx : Int) < n := by omega
          have hne : ¬ n = nx := by omega
          go_wp2_with fail
          have m6 := (((m5.set (i := 0) (v := .int .i64 0) (.tail .head)).set (i := 1) (v := .slice b3 0 c3) (.tail .head)).set (i := 2) (v := .int .i64 (nx)) (.tail .head)).drop
          simp only [List.setIfInBounds_toArray, List.set_cons_zero, List.set_cons_succ] at m6
          go_roundw
          case rel => exact ⟨j + 1, nx, b3, c3, H3, by omega, by omega, by omega, by go_num, rfl, (hle.trans hl2).trans hl3, HS3.out, m6⟩
          case measure => simp [intOf]; omega
        · go_wp2_with fail
          have m6 := (((m5.set (i := 0) (v := .int .i64 0) (.tail .head)).set (i := 1) (v := .slice b3 0 c3) (.tail .head)).set (i := 2) (v := .int .i64 ((nx : Int) + 1)) (.tail .head)).drop
          simp only [List.setIfInBounds_toArray, List.set_cons_zero, List.set_cons_succ] at m6
          go_roundw
          case rel => exact ⟨j + 1, nx + 1, b3, c3, H3, by omega, by omega, by omega, by go_num, by go_num, (hle.trans hl2).trans hl3, HS3.out, by rw [show ((nx + 1 : Nat) : Int) = (nx : Int) + 1 by omega]; exact m6⟩
          case measure => simp [intOf]; omega
    · by_cases hlt1 : j < xs.length
      · have hj60 : j = 60 := by omega
        go_wp2_with fail
        refine (awake_any m2).mono ?_
        rintro e w2 ⟨rfl, m3⟩
        go_wp2_with fail
        go_ret
        exact ⟨rfl, (m3.weaken hle).drop⟩
      · go_wp2_with fail
        refine (awake_any m2).mono ?_
        rintro e w2 ⟨rfl, m3⟩
        go_wp2_with fail
        go_ret
        exact ⟨rfl, (m3.weaken hle).drop⟩
end Go.Proofs.Ytpkcdkbbhiafnaa
