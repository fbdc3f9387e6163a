/- The walks: the reference's Take; the statements' Thin. -/
import Derived.Test.YtpkcdkbbhiafnaaGateJ
namespace Go.Proofs.Ytpkcdkbbhiafnaa
set_option linter.unusedVariables false
set_option linter.unusedSimpArgs false
open Go.RowKit

theorem takeR_err {l l' : List ByteArray} {n k : Int} {s : ByteArray} (h : takeM l n s = (k, l')) (hk : k ≠ 0) : takeR l n s = ([], 0, k) := by unfold takeR; rw [h, if_pos hk]
theorem takeR_ok {l l' : List ByteArray} {n : Int} {s : ByteArray} (h : takeM l n s = (0, l')) : takeR l n s = (l', (l'.length : Int), 0) := by unfold takeR; rw [h, if_neg (by simp)]

set_option maxHeartbeats 2000000 in
theorem RTake_any (v : Value) (l : List ByteArray) (n : Int) (s : ByteArray) {w0 w : World} {H : Hp} {L : List (Nat × Obj)} (m : Mem w0 H L w) (hv : SlR encStr H v l) (hl : l.length ≤ 1000000) (hs : s.size ≤ maxLen) (hn : I64 n) :
    Calls Try.prog 20 #[v, .int .i64 n, .string s] w (TakeR w0 H L (takeR l n s)) := by
  have HV := Lib.hid hv
  obtain ⟨b, c, rfl, hc1, hc2, h0, _⟩ := hv
  cases ht : isText s
  · have HT := Lib.hid ht; clear ht
    go_enter Try.func20, Try.ntmps20
    go_wp2_with (go_at_call 40; refine (IsText_any _ hs _).mono ?_; rintro e w' ⟨rfl, rfl⟩; rw [HT.out])
    go_ret3
    rw [takeR_err (show takeM l n s = (4, l) by unfold takeM; rw [if_pos HT.out]) (by decide)]
    exact ⟨none, 0, H, rfl, m, Hle.refl _, SlR.nil _ _⟩
  · have HT := Lib.hid ht; clear ht
    by_cases hr : n < 0 ∨ (l.length : Int) < n
    · have HR := Lib.hid hr
      go_enter Try.func20, Try.ntmps20
      go_wp2_with (go_at_call 40; refine (IsText_any _ hs _).mono ?_; rintro e w' ⟨rfl, rfl⟩; rw [HT.out])
      all_goals
        go_ret3
        rw [takeR_err (show takeM l n s = (3, l) by unfold takeM; rw [if_neg (by simp [HT.out]), if_pos HR.out]) (by decide)]
        exact ⟨none, 0, H, rfl, m, Hle.refl _, SlR.nil _ _⟩
    · have hr1 : 0 ≤ n ∧ n ≤ l.length := by omega
      obtain ⟨hr1, hr2⟩ := hr1
      have HR := Lib.hid hr; clear hr
      have m2 := m.alloc (.cells #[] 9)
      obtain ⟨news, hch, hsrc⟩ := HV.out.src m2
      have HC := Lib.hid hch; clear hch
      have HS := Lib.hid hsrc; clear hsrc
      go_enter Try.func20, Try.ntmps20
      go_wp2_with (first | (go_at_call 40; refine (IsText_any _ hs _).mono ?_; rintro e w' ⟨rfl, rfl⟩; rw [HT.out]) | (at_builtin; refine wpList_append_mem (w0 := w0) (H := H) (L := L) rfl _ _ 22 rfl 9 1 16 (.string ByteArray.empty) Try.underlying22 (by kernel_rfl) rfl (by decide) _ 0 [] (MemAcc.row m2 (Nat.le_refl _) (by decide) rfl rfl) rfl _ l.length news HS.out rfl HC.out.len1 (str_oneCell HC.out) (by omega) (by unfold maxLen; omega) ?_))
      intro v' w' hacc
      obtain ⟨b', c', rfl, _, hc3⟩ := hacc.shape
      have hc3 := size_le_maxLen hc3
      have HA := Lib.hid hacc; clear hacc
      by_cases hf : n = l.length
      · have hf1 : (n == l.length) = true := by simpa using hf
        have HF := Lib.hid hf; clear hf hr1 hr2
        go_wp2_with (at_builtin; refine wpList_append_mem (w0 := w0) (H := H) (L := (w'.heap.size, .cells #[.string s] 9) :: L) rfl _ _ 22 rfl 9 1 16 (.string ByteArray.empty) Try.underlying22 (by kernel_rfl) rfl (by decide) (.slice b' l.length c') l.length news (HA.out.alloc (.cells #[.string s] 9)) rfl _ 1 [.string s] (Src.loc (HA.out.mem.alloc (.cells #[.string s] 9)) (.head _)) rfl rfl (by simp [Value.oneCell']) (by omega) (by unfold maxLen; omega) ?_)
        intro v' w' hacc
        obtain ⟨b', c', rfl, _, hc3⟩ := hacc.shape
        have hc3 := size_le_maxLen hc3
        have HA2 := Lib.hid hacc.drop; clear hacc
        go_wp2_with fail
        go_ret3
        rw [takeR_ok (show takeM l n s = (0, l ++ [s]) by unfold takeM; rw [if_neg (by simp [HT.out]), if_neg HR.out, if_pos HF.out])]
        obtain ⟨H2, m3, hle, hsl⟩ := HA2.out.done (HC.out.append (.one (x := s) ⟨rfl, hs⟩ rfl)) rfl (by simp)
        exact ⟨b', c', H2, by simp, m3, hle, by simpa using hsl⟩
      · have hf1 : (n == l.length) = false := by simpa using hf
        go_wp2_with fail
        go_ret3
        rw [takeR_ok (show takeM l n s = (0, l) by unfold takeM; rw [if_neg (by simp [HT.out]), if_neg HR.out, if_neg hf])]
        obtain ⟨H2, m3, hle, hsl⟩ := HA.out.done HC.out rfl rfl
        exact ⟨b', c', H2, by simp, m3, hle, by simpa using hsl⟩

def thinB (g : GateM) : Bool := decide (g.queue.length ≤ 70) && g.queue.all fun s => decide (s.size ≤ 300)
set_option maxHeartbeats 400000 in
theorem Thin_any (v : Value) (g : GateM) {w0 w : World} {H : Hp} {L : List (Nat × Obj)} (m : Mem w0 H L w) (hv : GateV H v g) :
    Calls Try.prog 10 #[v] w (Ret w0 H L (.bool (thinB g))) := by
  obtain ⟨q, rfl, hq⟩ := hv
  have HQ := Lib.hid hq
  obtain ⟨qb, qc, rfl⟩ := GateV.slice hq
  clear hq
  have m1 := (m.alloc (.cells #[.int .i64 g.first, .slice qb g.queue.length qc, .int .i64 g.next] 24))
  by_cases hl : g.queue.length ≤ 70
  · go_enter Try.func10, Try.ntmps10
    go_wp2_with fail
    refine (thinTexts_any _ g.queue m1 HQ.out).mono ?_
    rintro e w1 ⟨rfl, rfl⟩
    go_wp2_with fail
    go_ret
    exact ⟨ret_bool (by unfold thinB; simp [hl]), m1.drop⟩
  · go_enter Try.func10, Try.ntmps10
    go_wp2_with fail
    go_ret
    exact ⟨ret_bool (by unfold thinB; simp [hl]), m1.drop⟩
end Go.Proofs.Ytpkcdkbbhiafnaa
