/- The walks: the reference's functions: Copy, Same, Check, Put, Send, Ack, Offer, Take. -/
import Derived.Test.YtpkcdkbbhiafnaaDoorGateG
import Derived.Deep.RegionHeld3
namespace Go.Proofs.YtpkcdkbbhiafnaaDoor
set_option linter.unusedVariables false
set_option linter.unusedSimpArgs false
open Go.RowKit

/-- Copy: a gate whose queue is owned. -/
def CopyR (g : GateM) (w0 : World) (H : Hp) (L : List (Nat × Obj)) (e : Ending) (w' : World) : Prop :=
  ∃ b c cs, e = .returned (.agg #[.int .i64 g.first, .slice b g.queue.length c, .int .i64 g.next]) ∧ MemAcc w0 H L 9 1 (.slice b g.queue.length c) g.queue.length cs w' ∧ Chunks encStr H cs g.queue
set_option maxHeartbeats 1000000 in
theorem Copy_any (v : Value) (g : GateM) {w0 w : World} {H : Hp} {L : List (Nat × Obj)} (m : Mem w0 H L w) (hv : GateV H v g) (hb : g.queue.length ≤ 1000000) :
    Calls Tryd.prog 16 #[v] w (CopyR g w0 H L) := by
  obtain ⟨q, rfl, hq⟩ := hv
  have HQ := Lib.hid hq
  obtain ⟨qb, qc, rfl⟩ := GateV.slice hq
  clear hq
  go_enter Tryd.func16, Tryd.ntmps16
  go_wp2_with fail
  have m1 := (m.alloc (.cells #[.int .i64 g.first, .slice qb g.queue.length qc, .int .i64 g.next] 29)).alloc (.cells #[.int .i64 0, .slice none 0 0, .int .i64 0] 29)
  simp only [World.size_alloc] at m1
  revert m1
  generalize ((w.alloc _).alloc _) = w1
  intro m1
  have es := m1.eqs; simp only [EqsL, and_true] at es
  have m2 := (m1.alloc (.cells #[] 9)).drew
  obtain ⟨news, hch, hsrc⟩ := HQ.out.src m2
  have HC := Lib.hid hch; clear hch
  have HS := Lib.hid hsrc; clear hsrc
  go_region_held3 (fun w' => w'.cell? ⟨w.heap.size, 0, none⟩ = some (.int .i64 g.first) ∧ w'.cell? ⟨w.heap.size, 1, none⟩ = some (.slice qb g.queue.length qc) ∧ w'.cell? ⟨w.heap.size, 2, none⟩ = some (.int .i64 g.next))
    (simp [es, World.cell?_alloc_lt, World.cell?_setCell_other]) (first | (refine step_append_mem (w0 := w0) (H := H) (L := (w.heap.size + 1, .cells #[.int .i64 0, .slice none 0 0, .int .i64 0] 29) :: (w.heap.size, .cells #[.int .i64 g.first, .slice qb g.queue.length qc, .int .i64 g.next] 29) :: L) rfl _ _ 25 rfl 9 1 16 (.string ByteArray.empty) Tryd.underlying25 (by kernel_rfl) rfl (by decide) _ 0 [] (MemAcc.row m2 (Nat.le_refl _) (by decide) rfl rfl) rfl _ g.queue.length news HS.out rfl HC.out.len1 (str_oneCell HC.out) (by omega) (by unfold maxLen; omega) ?_; intro v' w' hacc; obtain ⟨b', c', rfl, _, _⟩ := hacc.shape; have es := hacc.mem.eqs; simp only [EqsL, and_true] at es; have HA := Lib.hid hacc; clear hacc))
  go_wp2_with fail
  refine bodyPost_ret (v := .agg #[.int .i64 g.first, .slice b' g.queue.length c', .int .i64 g.next]) (by simp [results, Tryd.results16, go_sem, es]) rfl ?_
  refine ⟨b', c', news, by simp, ?_, HC.out⟩
  have hA := HA.out
  simp only [Nat.zero_add, List.nil_append] at hA
  exact (((hA.set (i := 0) (u := .int .i64 g.first) .head).set (i := 1) (u := .slice b' g.queue.length c') .head).set (i := 2) (u := .int .i64 g.next) .head).drop.drop
theorem CopyR.done {g : GateM} {w0 : World} {H : Hp} {L : List (Nat × Obj)} {e : Ending} {w' : World} (h : CopyR g w0 H L e w') :
    ∃ b c H', e = .returned (.agg #[.int .i64 g.first, .slice b g.queue.length c, .int .i64 g.next]) ∧ Mem w0 H' L w' ∧ Hle H H' ∧ GateV H' (.agg #[.int .i64 g.first, .slice b g.queue.length c, .int .i64 g.next]) g := by
  obtain ⟨b, c, cs, rfl, h1, h2⟩ := h
  obtain ⟨H', m, hle, hsl⟩ := h1.done h2 rfl rfl
  exact ⟨b, c, H', rfl, m, hle, _, rfl, hsl⟩

def GateM.eqv (g h : GateM) : Bool := decide (g.first = h.first ∧ g.next = h.next ∧ g.queue = h.queue)
end Go.Proofs.YtpkcdkbbhiafnaaDoor
