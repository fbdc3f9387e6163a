/- The walks: the reference's functions: Copy, Same, Check, Put, Send, Ack, Offer, Take. -/
import Derived.Test.YtpkcdkbbhiafnaaGateG
import Derived.Deep.RegionHeld3
namespace Go.Proofs.Ytpkcdkbbhiafnaa
set_option linter.unusedVariables false
set_option linter.unusedSimpArgs false
open Go.RowKit

/-- Copy: a gate whose queue is owned. -/
def CopyR (g : GateM) (w0 : World) (H : Hp) (L : List (Nat × Obj)) (e : Ending) (w' : World) : Prop :=
  ∃ b c cs, e = .returned (.agg #[.int .i64 g.first, .slice b g.queue.length c, .int .i64 g.next]) ∧ MemAcc w0 H L 9 1 (.slice b g.queue.length c) g.queue.length cs w' ∧ Chunks encStr H cs g.queue
set_option maxHeartbeats 1000000 in
theorem Copy_any (v : Value) (g : GateM) {w0 w : World} {H : Hp} {L : List (Nat × Obj)} (m : Mem w0 H L w) (hv : GateV H v g) (hb : g.queue.length ≤ 1000000) :
    Calls Try.prog 12 #[v] w (CopyR g w0 H L) := by
  obtain ⟨q, rfl, hq⟩ := hv
  have HQ := Lib.hid hq
  obtain ⟨qb, qc, rfl⟩ := GateV.slice hq
  clear hq
  go_enter Try.func12, Try.ntmps12
  go_wp2_with fail
  have m1 := (m.alloc (.cells #[.int .i64 g.first, .slice qb g.queue.length qc, .int .i64 g.next] 24)).alloc (.cells #[.int .i64 0, .slice none 0 0, .int .i64 0] 24)
  simp only [World.size_alloc] at m1
  revert m1
  generalize ((w.alloc _).alloc _) = w1
  intro m1
  have es := m1.eqs; simp only [EqsL, and_true] at es
  have m2 := (m1.alloc (.cells #[] 9)).drew
  obtain ⟨news, hch, hsrc⟩ := HQ.out.src m2
  have HC := Lib.hid hch; clear hch
  have HS := Lib.hid hsrc; clear hsrc
  go_region_held3 (fun w' => w'.cell? ⟨w.heap.size, 0, none⟩ = some (.int .i64 g.first) ∧ w'.cell? ⟨w.heap.size, 1, none⟩ = some (.slice qb g.queue.length qc) ∧ w'.cell? ⟨w.heap.size, 2, none⟩ = some (.int .i64 g.next))
    (simp [es, World.cell?_alloc_lt, World.cell?_setCell_other]) (first | (refine step_append_mem (w0 := w0) (H := H) (L := (w.heap.size + 1, .cells #[.int .i64 0, .slice none 0 0, .int .i64 0] 24) :: (w.heap.size, .cells #[.int .i64 g.first, .slice qb g.queue.length qc, .int .i64 g.next] 24) :: L) rfl _ _ 22 rfl 9 1 16 (.string ByteArray.empty) Try.underlying22 (by kernel_rfl) rfl (by decide) _ 0 [] (MemAcc.row m2 (Nat.le_refl _) (by decide) rfl rfl) rfl _ g.queue.length news HS.out rfl HC.out.len1 (str_oneCell HC.out) (by omega) (by unfold maxLen; omega) ?_; intro v' w' hacc; obtain ⟨b', c', rfl, _, _⟩ := hacc.shape; have es := hacc.mem.eqs; simp only [EqsL, and_true] at es; have HA := Lib.hid hacc; clear hacc))
  go_wp2_with fail
  refine bodyPost_ret (v := .agg #[.int .i64 g.first, .slice b' g.queue.length c', .int .i64 g.next]) (by simp [results, Try.results12, go_sem, es]) rfl ?_
  refine ⟨b', c', news, by simp, ?_, HC.out⟩
  have hA := HA.out
  simp only [Nat.zero_add, List.nil_append] at hA
  exact (((hA.set (i := 0) (u := .int .i64 g.first) .head).set (i := 1) (u := .slice b' g.queue.length c') .head).set (i := 2) (u := .int .i64 g.next) .head).drop.drop
theorem CopyR.done {g : GateM} {w0 : World} {H : Hp} {L : List (Nat × Obj)} {e : Ending} {w' : World} (h : CopyR g w0 H L e w') :
    ∃ b c H', e = .returned (.agg #[.int .i64 g.first, .slice b g.queue.length c, .int .i64 g.next]) ∧ Mem w0 H' L w' ∧ Hle H H' ∧ GateV H' (.agg #[.int .i64 g.first, .slice b g.queue.length c, .int .i64 g.next]) g := by
  obtain ⟨b, c, cs, rfl, h1, h2⟩ := h
  obtain ⟨H', m, hle, hsl⟩ := h1.done h2 rfl rfl
  exact ⟨b, c, H', rfl, m, hle, _, rfl, hsl⟩

def GateM.eqv (g h : GateM) : Bool := decide (g.first = h.first ∧ g.next = h.next ∧ g.queue = h.queue)
set_option maxHeartbeats 1000000 in
theorem Same_any (v v' : Value) (g h : GateM) {w0 w : World} {H : Hp} {L : List (Nat × Obj)} (m : Mem w0 H L w) (hv : GateV H v g) (hv' : GateV H v' h) :
    Calls Try.prog 15 #[v, v'] w (Ret w0 H L (.bool (g.eqv h))) := by
  obtain ⟨q, rfl, hq⟩ := hv
  have HQ := Lib.hid hq
  obtain ⟨qb, qc, rfl⟩ := GateV.slice hq
  obtain ⟨q', rfl, hq'⟩ := hv'
  have HQ' := Lib.hid hq'
  obtain ⟨qb', qc', rfl⟩ := GateV.slice hq'
  clear hq hq'
  have m1 := (m.alloc (.cells #[.int .i64 g.first, .slice qb g.queue.length qc, .int .i64 g.next] 24)).alloc (.cells #[.int .i64 h.first, .slice qb' h.queue.length qc', .int .i64 h.next] 24)
  by_cases h1 : g.first = h.first
  · have h1' : (g.first == h.first) = true := by simpa using h1
    have H1 := Lib.hid h1; clear h1
    by_cases h2 : g.next = h.next
    · have h2' : (g.next == h.next) = true := by simpa using h2
      have H2 := Lib.hid h2; clear h2
      go_enter Try.func15, Try.ntmps15
      go_wp2_with fail
      refine (Texts_any _ _ g.queue h.queue m1 HQ.out HQ'.out).mono ?_
      rintro e w1 ⟨rfl, n, rfl⟩
      go_wp2_with fail
      go_ret
      exact ⟨ret_bool (by unfold GateM.eqv; simp [H1.out, H2.out]), (m1.drewN n).drop.drop⟩
    · have h2' : (g.next == h.next) = false := by simpa using h2
      have H2 := Lib.hid h2; clear h2
      go_enter Try.func15, Try.ntmps15
      go_wp2_with fail
      go_ret
      exact ⟨ret_bool (by unfold GateM.eqv; have := H2.out; simp [this]), m1.drop.drop⟩
  · have h1' : (g.first == h.first) = false := by simpa using h1
    have H1 := Lib.hid h1; clear h1
    go_enter Try.func15, Try.ntmps15
    go_wp2_with fail
    go_ret
    exact ⟨ret_bool (by unfold GateM.eqv; have := H1.out; simp [this]), m1.drop.drop⟩

set_option maxHeartbeats 1000000 in
theorem RCheck_any (v : Value) (g : GateM) {w0 w : World} {H : Hp} {L : List (Nat × Obj)} (m : Mem w0 H L w) (hv : GateV H v g) :
    Calls Try.prog 30 #[v] w (Ret w0 H L (.int .i64 g.chk)) := by
  obtain ⟨q, rfl, hq⟩ := hv
  have HQ := Lib.hid hq
  obtain ⟨qb, qc, rfl⟩ := GateV.slice hq
  clear hq
  have m1 := (m.alloc (.cells #[.int .i64 g.first, .slice qb g.queue.length qc, .int .i64 g.next] 24))
  by_cases hr : g.first < 0 ∨ 1000000000 < g.first ∨ g.next < 0 ∨ 1000000000 < g.next
  · have e1 : g.chk = 3 := by unfold GateM.chk; rw [if_pos hr]
    have E1 := Lib.hid e1; clear e1
    go_enter Try.func30, Try.ntmps30
    go_wp2_with fail
    all_goals (go_ret; exact ⟨by rw [E1.out]; rfl, m1.drop⟩)
  · have hr1 : 0 ≤ g.first ∧ g.first ≤ 1000000000 ∧ 0 ≤ g.next ∧ g.next ≤ 1000000000 := by omega
    obtain ⟨hr1, hr2, hr3, hr4⟩ := hr1
    have HR := Lib.hid hr; clear hr
    by_cases hl : 64 < g.queue.length
    · have e1 : g.chk = 5 := by unfold GateM.chk; rw [if_neg HR.out, if_pos hl]
      have E1 := Lib.hid e1; clear e1
      go_enter Try.func30, Try.ntmps30
      go_wp2_with fail
      go_ret
      exact ⟨by rw [E1.out]; rfl, m1.drop⟩
    · have e1 : g.chk = if g.queue.all isText then 0 else 4 := by unfold GateM.chk; rw [if_neg HR.out, if_neg hl]
      have E1 := Lib.hid e1; clear e1
      go_enter Try.func30, Try.ntmps30
      go_wp2_with fail
      go_loop [3] (fun i => ∃ k : Nat, k ≤ g.queue.length ∧ i = .int .i64 k ∧ (g.queue.take k).all isText = true) (fun i => g.queue.length - (intOf i).toNat)
      case atStart => exact ⟨0, Nat.zero_le _, rfl, rfl⟩
      case round =>
        obtain ⟨k, hk, rfl, hall⟩ := hrel
        have HA := Lib.hid hall; clear hall
        by_cases hlt : k < g.queue.length
        · obtain ⟨blk, off, rfl, hcell, hp⟩ := HQ.out.cellV hlt
          have hcell := hcell.cell m
          have hblk := World.block_lt_of_cell? _ _ hcell
          cases hq : isText g.queue[k]
          · have HT := Lib.hid hq; clear hq
            go_wp2_with (go_at_call 40; refine (IsText_any _ hp _).mono ?_; rintro e w' ⟨rfl, rfl⟩; rw [HT.out])
            go_ret
            exact ⟨by rw [E1.out, all_false_of _ _ k hlt HT.out]; rfl, m1.drop⟩
          · have HT := Lib.hid hq; clear hq
            go_wp2_with (go_at_call 40; refine (IsText_any _ hp _).mono ?_; rintro e w' ⟨rfl, rfl⟩; rw [HT.out])
            go_round
            case rel => exact ⟨k + 1, by omega, by go_num, by rw [all_take_succ _ _ _ hlt, HA.out, HT.out]; rfl⟩
            case measure => simp [intOf]; omega
        · go_wp2
          go_ret
          have := HA.out
          rw [List.take_of_length_le (by omega)] at this
          exact ⟨by rw [E1.out, this]; rfl, m1.drop⟩
end Go.Proofs.Ytpkcdkbbhiafnaa
