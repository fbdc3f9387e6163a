/- The walks: the reference's functions: Put, Send, Ack, Offer, Take. -/
import Derived.Test.YtpkcdkbbhiafnaaDoorGateH
import Derived.Deep.LoopGhost
namespace Go.Proofs.YtpkcdkbbhiafnaaDoor
set_option linter.unusedVariables false
set_option linter.unusedSimpArgs false
open Go.RowKit

theorem with1_put {g : GateM} {s : ByteArray} (h : g.chk = 0) : g.with1 (g.put1 s) = if (g.put1 s).1 ≠ 0 then (.zero, (g.put1 s).1) else ((g.put1 s).2, 0) := by
  unfold GateM.with1; rw [if_neg (by simpa using h)]
theorem with1_err {g : GateM} {r : Int × GateM} (h : g.chk ≠ 0) : g.with1 r = (.zero, g.chk) := by unfold GateM.with1; rw [if_pos h]
theorem with1_bad {g : GateM} {r : Int × GateM} {k : Int} {h' : GateM} (h : g.chk = 0) (hr : r = (k, h')) (hk : k ≠ 0) : g.with1 r = (.zero, k) := by
  unfold GateM.with1; rw [if_neg (by simpa using h), if_pos (by rw [hr]; exact hk), hr]
theorem with1_good {g : GateM} {r : Int × GateM} {h' : GateM} (h : g.chk = 0) (hr : r = (0, h')) : g.with1 r = (h', 0) := by
  unfold GateM.with1; rw [if_neg (by simpa using h), if_neg (by rw [hr]; simp), hr]
theorem GateR.of {w0 : World} {H H' : Hp} {L : List (Nat × Obj)} {r : GateM × Int} {f n : Int} {b : Option Addr} {c : Nat} {w' : World} {h : GateM} {k : Int} (hr : r = (h, k)) (hm : Mem w0 H' L w') (hle : Hle H H') (hg : GateV H' (.agg #[.int .i64 f, .slice b h.queue.length c, .int .i64 n]) h) :
    GateR w0 H L r (.returned (.tuple #[.agg #[.int .i64 f, .slice b h.queue.length c, .int .i64 n], .int .i64 k])) w' := by
  subst hr
  exact ⟨f, b, c, n, H', rfl, hm, hle, hg⟩
theorem GateR.zero {w0 : World} {H : Hp} {L : List (Nat × Obj)} {r : GateM × Int} {w' : World} {k : Int} (hr : r = (.zero, k)) (hm : Mem w0 H L w') :
    GateR w0 H L r (.returned (.tuple #[.agg #[.int .i64 0, .slice none 0 0, .int .i64 0], .int .i64 k])) w' :=
  GateR.of hr hm (Hle.refl _) (GateV.zero _)

theorem GateM.put1_bad {g : GateM} {s : ByteArray} (h : isText s = false) : g.put1 s = (4, g) := by unfold GateM.put1; rw [if_pos h]
theorem GateM.put1_full {g : GateM} {s : ByteArray} (h : isText s = true) (h2 : g.queue.length = 64) : g.put1 s = (8, g) := by unfold GateM.put1; rw [if_neg (by simp [h]), if_pos h2]
theorem GateM.put1_range {g : GateM} {s : ByteArray} (h : isText s = true) (h2 : ¬ g.queue.length = 64) (h3 : 1000000000 < g.first + g.queue.length) : g.put1 s = (3, g) := by unfold GateM.put1; rw [if_neg (by simp [h]), if_neg h2, if_pos h3]
theorem GateM.put1_ok {g : GateM} {s : ByteArray} (h : isText s = true) (h2 : ¬ g.queue.length = 64) (h3 : ¬ 1000000000 < g.first + g.queue.length) : g.put1 s = (0, { g with queue := g.queue ++ [s] }) := by unfold GateM.put1; rw [if_neg (by simp [h]), if_neg h2, if_neg h3]
theorem GateM.ack1_bad {g : GateM} {n : Int} (h : n < 0 ∨ g.first + g.queue.length < n) : g.ack1 n = (3, g) := by unfold GateM.ack1; rw [if_pos h]
theorem GateM.ack1_go {g : GateM} {n : Int} (h : ¬ (n < 0 ∨ g.first + g.queue.length < n)) (h2 : g.first < n) : g.ack1 n = (0, { g with first := n, queue := g.queue.drop (n - g.first).toNat }) := by unfold GateM.ack1; rw [if_neg h, if_pos h2]
theorem GateM.ack1_stay {g : GateM} {n : Int} (h : ¬ (n < 0 ∨ g.first + g.queue.length < n)) (h2 : ¬ g.first < n) : g.ack1 n = (0, g) := by unfold GateM.ack1; rw [if_neg h, if_neg h2]

end Go.Proofs.YtpkcdkbbhiafnaaDoor
