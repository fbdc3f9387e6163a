/- Plain law: what the reading of a gate from bytes gives. No program in sight. -/
import Derived.Test.YtpkcdkbbhiafnaaDoorByteA
namespace Go.Proofs.YtpkcdkbbhiafnaaDoor
set_option linter.unusedVariables false
set_option linter.unusedSimpArgs false
open Go.RowKit

/-- The number in the first k of some bytes from o on. -/
def numPre (l : List UInt8) (o : Nat) : Nat → Int
  | 0 => 0
  | k + 1 => numPre l o k * 256 + (l.getD (o + k) 0).toNat
theorem numPre_lo (l : List UInt8) (o : Nat) : ∀ k, 0 ≤ numPre l o k
  | 0 => Int.le_refl 0
  | k + 1 => by have := numPre_lo l o k; unfold numPre; omega
theorem numPre4 (l : List UInt8) (o : Nat) : numPre l o 4 = ((l.getD o 0).toNat : Int) * 16777216 + (l.getD (o + 1) 0).toNat * 65536 + (l.getD (o + 2) 0).toNat * 256 + (l.getD (o + 3) 0).toNat := by
  simp only [numPre, Nat.add_zero]
  omega
theorem numPre_hi (l : List UInt8) (o k : Nat) (h : k ≤ 3) : numPre l o k ≤ 16777215 := by
  have h0 := (l.getD o 0).toNat_lt
  have h1 := (l.getD (o + 1) 0).toNat_lt
  have h2 := (l.getD (o + 2) 0).toNat_lt
  have hc : k = 0 ∨ k = 1 ∨ k = 2 ∨ k = 3 := by omega
  rcases hc with rfl | rfl | rfl | rfl <;> simp only [numPre, Nat.add_zero] <;> omega
theorem byteM_eq (n : Int) (k : Nat) (x : UInt8) (h0 : 0 ≤ n) (h : n / 256 ^ k % 256 = x.toNat) : byteM n k = x := by
  have := byteM_val n h0 k
  rw [h] at this
  exact UInt8.toNat_inj.1 (by omega)
theorem numberM_num (l : List UInt8) (o : Nat) (h : o + 4 ≤ l.length) : numberM (numPre l o 4) = (l.drop o).take 4 := by
  have h0 := (l.getD o 0).toNat_lt
  have h1 := (l.getD (o + 1) 0).toNat_lt
  have h2 := (l.getD (o + 2) 0).toNat_lt
  have h3 := (l.getD (o + 3) 0).toNat_lt
  have hn := numPre_lo l o 4
  have hv := numPre4 l o
  have e : (l.drop o).take 4 = [l.getD o 0, l.getD (o + 1) 0, l.getD (o + 2) 0, l.getD (o + 3) 0] := by
    refine List.ext_getElem (by simp; omega) fun i h4 h5 => ?_
    have hc : i = 0 ∨ i = 1 ∨ i = 2 ∨ i = 3 := by simp at h5; omega
    rcases hc with rfl | rfl | rfl | rfl
    · simp [List.getD, show o < l.length by omega]
    · simp [List.getD, show o + 1 < l.length by omega]
    · simp [List.getD, show o + 2 < l.length by omega]
    · simp [List.getD, show o + 3 < l.length by omega]
  rw [e]
  unfold numberM
  rw [byteM_eq _ 3 (l.getD o 0) hn (by rw [hv]; omega), byteM_eq _ 2 (l.getD (o + 1) 0) hn (by rw [hv]; omega), byteM_eq _ 1 (l.getD (o + 2) 0) hn (by rw [hv]; omega), byteM_eq _ 0 (l.getD (o + 3) 0) hn (by rw [hv]; omega)]

/-- One text read. -/
def nextT : List UInt8 → Option (ByteArray × List UInt8)
  | [] => none
  | c :: l => if l.length < c.toNat then none else some (⟨(l.take c.toNat).toArray⟩, l.drop c.toNat)
/-- The texts, what is left, and whether all were there. -/
def parseN : Nat → List UInt8 → List ByteArray × List UInt8 × Bool
  | 0, l => ([], l, true)
  | n + 1, l => match nextT l with
    | none => ([], l, false)
    | some (s, r) => (s :: (parseN n r).1, (parseN n r).2)
theorem nextT_bytes {l r : List UInt8} {s : ByteArray} (h : nextT l = some (s, r)) : l = textB s ++ r := by
  cases l with
  | nil => simp [nextT] at h
  | cons c l =>
    simp only [nextT] at h
    split at h
    · cases h
    · rename_i hl
      simp only [Option.some.injEq, Prod.mk.injEq] at h
      obtain ⟨rfl, rfl⟩ := h
      have hc := c.toNat_lt
      have hs : (ByteArray.mk (l.take c.toNat).toArray).size = c.toNat := by
        simp [ByteArray.size]; omega
      unfold textB
      rw [hs]
      simp
theorem parseN_bytes : ∀ (n : Nat) (l : List UInt8), restB (parseN n l).1 ++ (parseN n l).2.1 = l
  | 0, l => by simp [parseN, restB, flatB]
  | n + 1, l => by
    cases hs : nextT l with
    | none => simp [parseN, hs, restB, flatB]
    | some x =>
      obtain ⟨s, r⟩ := x
      have ih := parseN_bytes n r
      have e : ∀ t, restB (s :: t) = textB s ++ restB t := fun t => by simp [restB, flatB]
      have e0 : parseN (n + 1) l = (s :: (parseN n r).1, (parseN n r).2) := by simp [parseN, hs]
      rw [e0]
      simp only [e, List.append_assoc, ih]
      exact (nextT_bytes hs).symm
theorem parseN_len : ∀ (n : Nat) (l : List UInt8), (parseN n l).1.length ≤ n ∧ ((parseN n l).2.2 = true ↔ (parseN n l).1.length = n)
  | 0, l => by simp [parseN]
  | n + 1, l => by
    cases hs : nextT l with
    | none => simp [parseN, hs]
    | some x =>
      obtain ⟨s, r⟩ := x
      have ih := parseN_len n r
      have e0 : parseN (n + 1) l = (s :: (parseN n r).1, (parseN n r).2) := by simp [parseN, hs]
      rw [e0]
      simp only [List.length_cons]
      exact ⟨by omega, by rw [ih.2]; omega⟩

def gateB (b : List UInt8) : GateM := ⟨numPre b 0 4, (parseN (b.getD 8 0).toNat (b.drop 9)).1, numPre b 4 4⟩
/-- What Read gives. -/
def readM (b : List UInt8) : GateM × Int :=
  if b.length < 9 then (.zero, 4)
  else if (parseN (b.getD 8 0).toNat (b.drop 9)).2.2 = true ∧ (parseN (b.getD 8 0).toNat (b.drop 9)).2.1 = [] ∧ (gateB b).chk = 0 then (gateB b, 0) else (.zero, 4)

theorem gateB_bytes (b : List UInt8) (h9 : 9 ≤ b.length) (hk : (gateB b).chk = 0) :
    bytesM (gateB b) = b ↔ ((parseN (b.getD 8 0).toNat (b.drop 9)).2.2 = true ∧ (parseN (b.getD 8 0).toNat (b.drop 9)).2.1 = []) := by
  obtain ⟨_, _, _, _, hq, _⟩ := GateM.chk_in hk
  have h8 := (b.getD 8 0).toNat_lt
  have hb : b = numberM (numPre b 0 4) ++ numberM (numPre b 4 4) ++ [b.getD 8 0] ++ b.drop 9 := by
    rw [numberM_num b 0 (by omega), numberM_num b 4 (by omega)]
    have e1 : b.drop 8 = b.getD 8 0 :: b.drop 9 := by
      rw [List.drop_eq_getElem_cons (by omega)]
      simp [List.getD, show 8 < b.length by omega]
    have e2 : (b.drop 4).take 4 ++ b.drop 8 = b.drop 4 := by
      have := List.take_append_drop 4 (b.drop 4)
      rwa [List.drop_drop] at this
    have e3 : (b.drop 0).take 4 ++ b.drop 4 = b := by
      simp
    simp only [List.append_assoc, List.singleton_append]
    rw [← e1, e2, e3]
  have hp := parseN_bytes (b.getD 8 0).toNat (b.drop 9)
  have hl := parseN_len (b.getD 8 0).toNat (b.drop 9)
  have hbm : bytesM (gateB b) = numberM (numPre b 0 4) ++ numberM (numPre b 4 4) ++ [UInt8.ofNat (parseN (b.getD 8 0).toNat (b.drop 9)).1.length] ++ restB (parseN (b.getD 8 0).toNat (b.drop 9)).1 := by
    simp [bytesM, headB, flatB, gateB]
  have hq' : (parseN (b.getD 8 0).toNat (b.drop 9)).1.length ≤ 64 := hq
  rw [hbm]
  generalize parseN (b.getD 8 0).toNat (b.drop 9) = r at *
  obtain ⟨ts, rest, ok⟩ := r
  simp only at *
  constructor
  · intro he
    rw [hb] at he
    have e1 := List.append_inj he (by simp [numberM])
    have e2 := List.append_inj e1.1 (by simp [numberM])
    have e3 : UInt8.ofNat ts.length = b.getD 8 0 := by simpa using e2.2
    have e4 : ts.length = (b.getD 8 0).toNat := by
      have := congrArg UInt8.toNat e3
      rw [UInt8.toNat_ofNat'] at this
      omega
    have e5 : restB ts ++ rest = restB ts := hp.trans e1.2.symm
    exact ⟨hl.2.2 e4, by simpa using e5⟩
  · rintro ⟨h1, rfl⟩
    have e4 := hl.2.1 h1
    rw [e4]
    simp only [List.append_nil] at hp
    rw [hp]
    have e5 : UInt8.ofNat (b.getD 8 0).toNat = b.getD 8 0 := by simp
    rw [e5]
    exact hb.symm
end Go.Proofs.YtpkcdkbbhiafnaaDoor
