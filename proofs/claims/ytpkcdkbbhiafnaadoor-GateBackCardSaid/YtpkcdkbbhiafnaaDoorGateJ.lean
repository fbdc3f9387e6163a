/- The walks: the reference's Ack, Offer, Take. -/
import Derived.Test.YtpkcdkbbhiafnaaDoorGateI
namespace Go.Proofs.YtpkcdkbbhiafnaaDoor
set_option linter.unusedVariables false
set_option linter.unusedSimpArgs false
open Go.RowKit

theorem SlR.tail {α : Type} {E : Enc α} {H : Hp} {b : Option Addr} {n c : Nat} {ys : List α} (h : SlR E H (.slice b n c) ys) (hn : 1 ≤ n) : SlR E H (sliceV b 1 n c E.size) (ys.drop 1) := by
  have h2 := h.sliced (i := 1) (j := n) hn (Nat.le_refl _)
  obtain ⟨b', c', hv, _⟩ := h
  cases hv
  rwa [List.take_of_length_le (by simp)] at h2

def OfferEnd (w0 : World) (H : Hp) (L : List (Nat × Obj)) (r : GateM × Int) (tk : Bool) (e : Ending) (w' : World) : Prop := OfferR w0 H L r tk e w'
theorem OfferR.of {w0 : World} {H H' : Hp} {L : List (Nat × Obj)} {r : GateM × Int} {tk tk' : Bool} {f n : Int} {b : Option Addr} {c : Nat} {w' : World} {h : GateM} {k : Int} (hr : r = (h, k)) (htk : tk = tk') (hm : Mem w0 H' L w') (hle : Hle H H') (hg : GateV H' (.agg #[.int .i64 f, .slice b h.queue.length c, .int .i64 n]) h) :
    OfferR w0 H L r tk (.returned (.tuple #[.agg #[.int .i64 f, .slice b h.queue.length c, .int .i64 n], .bool tk', .int .i64 k])) w' := by
  subst hr; subst htk
  exact ⟨f, b, c, n, H', rfl, hm, hle, hg⟩
theorem OfferR.zero {w0 : World} {H : Hp} {L : List (Nat × Obj)} {r : GateM × Int} {tk : Bool} {w' : World} {k : Int} (hr : r = (.zero, k)) (htk : tk = false) (hm : Mem w0 H L w') :
    OfferR w0 H L r tk (.returned (.tuple #[.agg #[.int .i64 0, .slice none 0 0, .int .i64 0], .bool false, .int .i64 k])) w' :=
  OfferR.of hr htk hm (Hle.refl _) (GateV.zero _)
theorem GateM.offer1_bad {g : GateM} {n : Int} {s : ByteArray} (h : isText s = false) : g.offer1 n s = (false, 4, g) := by unfold GateM.offer1; rw [if_pos h]
theorem GateM.offer1_range {g : GateM} {n : Int} {s : ByteArray} (h : isText s = true) (h2 : n < 0 ∨ g.next < n ∨ 999999999 < n) : g.offer1 n s = (false, 3, g) := by unfold GateM.offer1; rw [if_neg (by simp [h]), if_pos h2]
theorem GateM.offer1_old {g : GateM} {n : Int} {s : ByteArray} (h : isText s = true) (h2 : ¬ (n < 0 ∨ g.next < n ∨ 999999999 < n)) (h3 : n < g.next) : g.offer1 n s = (false, 0, g) := by unfold GateM.offer1; rw [if_neg (by simp [h]), if_neg h2, if_pos h3]
theorem GateM.offer1_new {g : GateM} {n : Int} {s : ByteArray} (h : isText s = true) (h2 : ¬ (n < 0 ∨ g.next < n ∨ 999999999 < n)) (h3 : ¬ n < g.next) : g.offer1 n s = (true, 0, { g with next := g.next + 1 }) := by unfold GateM.offer1; rw [if_neg (by simp [h]), if_neg h2, if_neg h3]

end Go.Proofs.YtpkcdkbbhiafnaaDoor
