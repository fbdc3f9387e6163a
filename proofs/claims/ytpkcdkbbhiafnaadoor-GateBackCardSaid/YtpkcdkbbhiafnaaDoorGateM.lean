/- Plain law: what chapter 24's gate computes, as functions on lists and integers. No program in sight. -/
import Derived.Test.YtpkcdkbbhiafnaaDoorAcc
namespace Go.Proofs.YtpkcdkbbhiafnaaDoor
set_option linter.unusedVariables false
set_option linter.unusedSimpArgs false
open Go.RowKit

/-- A byte of a text. -/
def okByte (c : UInt8) : Bool := c == 10 || (32 ≤ c && c ≤ 126)
def isText (s : ByteArray) : Bool := s.data.toList.all okByte && decide (s.size ≤ 200)

structure GateM where
  first : Int
  queue : List ByteArray
  next : Int

/-- The error of a gate. -/
def GateM.chk (g : GateM) : Int :=
  if g.first < 0 ∨ 1000000000 < g.first ∨ g.next < 0 ∨ 1000000000 < g.next then 3
  else if 64 < g.queue.length then 5
  else if g.queue.all isText then 0 else 4

def Ret (w0 : World) (H : Hp) (L : List (Nat × Obj)) (c : Value) (e : Ending) (w' : World) : Prop := e = .returned c ∧ Mem w0 H L w'
def RetR (w0 : World) (H : Hp) (L : List (Nat × Obj)) (R : Value → Hp → Prop) (e : Ending) (w' : World) : Prop := ∃ r H', e = .returned r ∧ Mem w0 H' L w' ∧ Hle H H' ∧ R r H'

def GateV (H : Hp) (v : Value) (g : GateM) : Prop := ∃ q, v = .agg #[.int .i64 g.first, q, .int .i64 g.next] ∧ SlR encStr H q g.queue
theorem GateV.mono {H H' : Hp} {v : Value} {g : GateM} (h : GateV H v g) (hl : Hle H H') : GateV H' v g := by
  obtain ⟨q, h1, h2⟩ := h
  exact ⟨q, h1, h2.mono hl⟩

theorem okByte_iff (c : UInt8) : okByte c = true ↔ (c.toNat = 10 ∨ (32 ≤ c.toNat ∧ c.toNat ≤ 126)) := by
  unfold okByte
  simp [UInt8.le_iff_toNat_le, ← UInt8.toNat_inj]
theorem okByte_not (c : UInt8) : okByte c = false ↔ (c.toNat ≠ 10 ∧ (c.toNat < 32 ∨ 126 < c.toNat)) := by
  have h := okByte_iff c
  cases hb : okByte c
  · rw [hb] at h; simp at h; simp; omega
  · rw [hb] at h; simp at h; simp; omega

theorem all_take_succ {α : Type} (p : α → Bool) (l : List α) (k : Nat) (h : k < l.length) : (l.take (k + 1)).all p = ((l.take k).all p && p l[k]) := by
  rw [List.take_succ_eq_append_getElem h, List.all_append]; simp
theorem all_false_of {α : Type} (p : α → Bool) (l : List α) (k : Nat) (h : k < l.length) (hp : p l[k] = false) : l.all p = false := by
  rw [List.all_eq_false]; exact ⟨l[k], List.getElem_mem h, by simp [hp]⟩

theorem isText_bad (s : ByteArray) (k : Nat) (h : k < s.size) (hb : okByte s[k] = false) : isText s = false := by
  unfold isText
  rw [all_false_of okByte s.data.toList k (by simpa using h) hb]
  rfl
theorem isText_long (s : ByteArray) (h : 200 < s.size) : isText s = false := by
  unfold isText
  rw [decide_eq_false (by omega), Bool.and_false]
theorem isText_good (s : ByteArray) (k : Nat) (hk : ¬ k < s.size) (hl : s.size ≤ 200) (h : (s.data.toList.take k).all okByte = true) : isText s = true := by
  rw [List.take_of_length_le (by simpa using hk)] at h
  unfold isText
  rw [h, decide_eq_true hl]
  rfl
theorem okByte_snoc (s : ByteArray) (k : Nat) (h : k < s.size) (ha : (s.data.toList.take k).all okByte = true) (hb : okByte s[k] = true) : (s.data.toList.take (k + 1)).all okByte = true := by
  rw [all_take_succ _ _ _ (by simpa using h), ha]
  exact hb
theorem size_le_maxLen {n : Nat} (h : n ≤ maxLen) : n ≤ 9223372036854775807 := by unfold maxLen at h; omega

/-- What put, ack and offer do to a gate, with the error. -/
def GateM.put1 (g : GateM) (s : ByteArray) : Int × GateM :=
  if isText s = false then (4, g) else if g.queue.length = 64 then (8, g) else if 1000000000 < g.first + g.queue.length then (3, g) else (0, { g with queue := g.queue ++ [s] })
def GateM.ack1 (g : GateM) (n : Int) : Int × GateM :=
  if n < 0 ∨ g.first + g.queue.length < n then (3, g) else if g.first < n then (0, { g with first := n, queue := g.queue.drop (n - g.first).toNat }) else (0, g)
def GateM.offer1 (g : GateM) (n : Int) (s : ByteArray) : Bool × Int × GateM :=
  if isText s = false then (false, 4, g) else if n < 0 ∨ g.next < n ∨ 999999999 < n then (false, 3, g) else if n < g.next then (false, 0, g) else (true, 0, { g with next := g.next + 1 })
def GateM.zero : GateM := ⟨0, [], 0⟩
/-- The exported functions: the checks of a gate first. -/
def GateM.with1 (g : GateM) (r : Int × GateM) : GateM × Int := if g.chk ≠ 0 then (.zero, g.chk) else if r.1 ≠ 0 then (.zero, r.1) else (r.2, 0)
/-- The bounds under which a gate's numbers are reckoned. -/
def GateM.small (g : GateM) : Prop := -2000000000 ≤ g.first ∧ g.first ≤ 2000000000 ∧ -2000000000 ≤ g.next ∧ g.next ≤ 2000000000 ∧ g.queue.length ≤ 64
theorem GateM.small_of {g : GateM} (h : g.chk = 0) : g.small := by
  unfold GateM.chk at h
  unfold GateM.small
  split at h
  · cases h
  · split at h
    · cases h
    · omega

end Go.Proofs.YtpkcdkbbhiafnaaDoor
