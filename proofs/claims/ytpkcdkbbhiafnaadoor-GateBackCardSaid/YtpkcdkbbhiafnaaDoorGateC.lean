/- The walks: newGate, and what is asked of a gate. -/
import Derived.Test.YtpkcdkbbhiafnaaDoorGateB
namespace Go.Proofs.YtpkcdkbbhiafnaaDoor
set_option linter.unusedVariables false
set_option linter.unusedSimpArgs false
open Go.RowKit

/-- What newGate makes: a gate with memory of its own at block b. -/
def GateOwn (w0 : World) (H : Hp) (L : List (Nat × Obj)) (b : Nat) (g : GateM) (w : World) : Prop :=
  ∃ q cs, MemAcc w0 H ((b, .cells #[.int .i64 g.first, q, .int .i64 g.next] 49) :: L) 9 1 q g.queue.length cs w ∧ Chunks encStr H cs g.queue
def NewGateR (g : GateM) (w0 : World) (H : Hp) (L : List (Nat × Obj)) (e : Ending) (w' : World) : Prop :=
  ∃ b, e = .returned (.tuple #[.pointer (some ⟨b, 0, none⟩), .int .i64 0]) ∧ GateOwn w0 H L b g w'

def GateM.inRange (g : GateM) : Bool := inAll 0 1000000000 [g.first, g.next]
theorem GateM.chk_range {g : GateM} (h : g.inRange = false) : g.chk = 3 := by
  unfold GateM.inRange inAll at h
  unfold GateM.chk
  rw [if_pos]
  simp at h
  omega
theorem GateM.range_of {g : GateM} (h : g.inRange = true) : 0 ≤ g.first ∧ g.first ≤ 1000000000 ∧ 0 ≤ g.next ∧ g.next ≤ 1000000000 := by
  unfold GateM.inRange inAll at h
  simp at h
  omega
theorem GateM.chk_long {g : GateM} (h : g.inRange = true) (hl : 64 < g.queue.length) : g.chk = 5 := by
  have := GateM.range_of h
  unfold GateM.chk
  rw [if_neg (by omega), if_pos hl]
theorem GateM.chk_rest {g : GateM} (h : g.inRange = true) (hl : ¬ 64 < g.queue.length) : g.chk = if g.queue.all isText then 0 else 4 := by
  have := GateM.range_of h
  unfold GateM.chk
  rw [if_neg (by omega), if_neg hl]


theorem ints_chunks {H : Hp} {xs : List Int} (h : ∀ x ∈ xs, I64 x) : Chunks encInt H (xs.map (Value.int .i64)) xs := Chunks.ofV xs h


/-- The errors of newGate. -/
def errVal (g : GateM) : Value := .tuple #[.pointer none, .int .i64 g.chk]
def NewGateE (g : GateM) (w0 : World) (H : Hp) (L : List (Nat × Obj)) (e : Ending) (w' : World) : Prop :=
  (g.chk ≠ 0 ∧ e = .returned (.tuple #[.pointer none, .int .i64 g.chk]) ∧ Mem w0 H L w') ∨ (g.chk = 0 ∧ NewGateR g w0 H L e w')

set_option maxHeartbeats 1000000 in
theorem newGate_any (v : Value) (g : GateM) {w0 w : World} {H : Hp} {L : List (Nat × Obj)} (m : Mem w0 H L w) (hv : GateV H v g) (hb : I64 g.first ∧ I64 g.next) :
    Calls Tryd.prog 22 #[v] w (NewGateE g w0 H L) := by
  obtain ⟨q, rfl, hq⟩ := hv
  have HQ := Lib.hid hq
  obtain ⟨qb, qc, rfl, hq1, hq2, _, _⟩ := hq
  have hq2 := size_le_maxLen hq2
  have HB := Lib.hid hb; clear hb
  go_enter Tryd.func22, Tryd.ntmps22
  go_wp2_with fail
  obtain ⟨H1, m1, hle, hsl⟩ := Mem.lit (E := encInt) (ys := [g.first, g.next]) ((m.alloc (.cells #[.int .i64 g.first, .slice qb g.queue.length qc, .int .i64 g.next] 29)).alloc (.cells #[.int .i64 g.first, .int .i64 g.next] 3)) (ints_chunks (xs := [g.first, g.next]) (by simpa using HB.out)) (by simp [maxLen])
  simp only [World.size_alloc, List.length_cons, List.length_nil, Nat.zero_add, Nat.reduceAdd] at hsl
  refine (within_any _ [g.first, g.next] _ _ m1 hsl).mono ?_
  rintro e w1 ⟨rfl, m2⟩
  clear hsl m1
  have m2 := m2.weaken hle
  clear hle
  have es := m2.eqs; simp only [EqsL, and_true] at es
  cases hr : inAll 0 1000000000 [g.first, g.next]
  · have HR : Hid (g.inRange = false) := hr
    clear hr
    go_wp2_with fail
    go_ret2
    exact .inl ⟨by rw [GateM.chk_range HR.out]; decide, by rw [GateM.chk_range HR.out]; rfl, m2.drop⟩
  · have HR : Hid (g.inRange = true) := hr
    clear hr
    by_cases hl : 64 < g.queue.length
    · go_wp2_with fail
      go_ret2
      exact .inl ⟨by rw [GateM.chk_long HR.out hl]; decide, by rw [GateM.chk_long HR.out hl]; rfl, m2.drop⟩
    · go_wp2_with fail
      refine (ContainsFuncS_any _ g.queue m2 HQ.out).mono ?_
      rintro e w2 ⟨rfl, rfl⟩
      cases ht : g.queue.all isText
      · have HT := Lib.hid ht; clear ht
        go_wp2_with fail
        go_ret2
        exact .inl ⟨by rw [GateM.chk_rest HR.out hl, HT.out]; decide, by rw [GateM.chk_rest HR.out hl, HT.out]; rfl, m2.drop⟩
      · have HT := Lib.hid ht; clear ht
        go_wp2_with fail
        refine (Clone_any _ g.queue m2 HQ.out (by omega)).mono ?_
        rintro e w3 ⟨b, c, cs, rfl, hacc, hch⟩
        have HA := Lib.hid hacc; clear hacc
        have HC := Lib.hid hch; clear hch
        have es := HA.out.mem.eqs; simp only [EqsL, and_true] at es
        go_wp2_with fail
        go_ret2
        refine .inr ⟨by rw [GateM.chk_rest HR.out hl, HT.out]; rfl, ?_⟩
        refine ⟨_, rfl, .slice b g.queue.length c, cs, ?_, HC.out⟩
        have h1 := (HA.out.set (i := 1) (u := .slice b g.queue.length c) .head).alloc (.cells #[.int .i64 g.first, .slice b g.queue.length c, .int .i64 g.next] 49)
        simpa using h1.swap.drop
end Go.Proofs.YtpkcdkbbhiafnaaDoor
