/- Plain law: a gate is read from its bytes as it is; without a byte, or with one more, there is none. No program in sight. -/
import Derived.Test.YtpkcdkbbhiafnaaDoorReadM
import Derived.Test.YtpkcdkbbhiafnaaDoorLastM
namespace Go.Proofs.YtpkcdkbbhiafnaaDoor
set_option linter.unusedVariables false
set_option linter.unusedSimpArgs false
open Go.RowKit

theorem nextT_text (s : ByteArray) (h : s.size ≤ 255) (r : List UInt8) : nextT (textB s ++ r) = some (s, r) := by
  have hl : s.data.toList.length = s.size := by simp
  have hu : (UInt8.ofNat s.size).toNat = s.size := by rw [UInt8.toNat_ofNat']; omega
  unfold textB
  simp only [List.cons_append, nextT, hu]
  rw [if_neg (by rw [List.length_append]; omega), List.take_append_of_le_length (by omega), List.take_of_length_le (by omega), List.drop_append_of_le_length (by omega), List.drop_of_length_le (by omega)]
  simp
theorem parseN_rest : ∀ (q : List ByteArray) (r : List UInt8), (∀ s ∈ q, s.size ≤ 255) → parseN q.length (restB q ++ r) = (q, r, true)
  | [], r, _ => by simp [parseN, restB, flatB]
  | s :: q, r, h => by
    have ih := parseN_rest q r (fun t ht => h t (.tail _ ht))
    have e : restB (s :: q) ++ r = textB s ++ (restB q ++ r) := by simp [restB, flatB]
    rw [e]
    simp only [List.length_cons, parseN, nextT_text s (h s (.head _)), ih]
theorem isText_size {s : ByteArray} (h : isText s = true) : s.size ≤ 200 := by
  unfold isText at h
  simp at h
  exact h.2
theorem sizes_of {q : List ByteArray} (h : q.all isText = true) : ∀ s ∈ q, s.size ≤ 200 := fun s hs => isText_size (List.all_eq_true.1 h s hs)
theorem chk_hi {g : GateM} (h : g.chk = 0) : g.first ≤ 1000000000 ∧ g.next ≤ 1000000000 := by
  unfold GateM.chk at h
  split at h
  · cases h
  · omega
theorem bytesM_form (g : GateM) : bytesM g = numberM g.first ++ numberM g.next ++ [UInt8.ofNat g.queue.length] ++ restB g.queue := by
  simp [bytesM, headB, flatB]
theorem bytesM_len {g : GateM} (h : g.chk = 0) : 9 ≤ (bytesM g).length ∧ (bytesM g).length ≤ 13000 := by
  obtain ⟨_, _, _, _, hq, ht⟩ := GateM.chk_in h
  have := restB_len g.queue (sizes_of ht)
  rw [bytesM_form]
  simp [numberM]
  omega
/-- What is read from the bytes with something behind them: the head and the texts. -/
theorem gateB_more {g : GateM} (h : g.chk = 0) (r : List UInt8) : gateB (bytesM g ++ r) = g ∧ parseN ((bytesM g ++ r).getD 8 0).toNat ((bytesM g ++ r).drop 9) = (g.queue, r, true) := by
  obtain ⟨h1, _, h3, _, hq, ht⟩ := GateM.chk_in h
  obtain ⟨h5, h6⟩ := chk_hi h
  have hs := sizes_of ht
  have v0 := byteM_val g.first h1 0
  have v1 := byteM_val g.first h1 1
  have v2 := byteM_val g.first h1 2
  have v3 := byteM_val g.first h1 3
  have u0 := byteM_val g.next h3 0
  have u1 := byteM_val g.next h3 1
  have u2 := byteM_val g.next h3 2
  have u3 := byteM_val g.next h3 3
  have e : bytesM g ++ r = byteM g.first 3 :: byteM g.first 2 :: byteM g.first 1 :: byteM g.first 0 :: byteM g.next 3 :: byteM g.next 2 :: byteM g.next 1 :: byteM g.next 0 :: UInt8.ofNat g.queue.length :: (restB g.queue ++ r) := by
    rw [bytesM_form]; simp [numberM]
  have hp : parseN ((bytesM g ++ r).getD 8 0).toNat ((bytesM g ++ r).drop 9) = (g.queue, r, true) := by
    have e8 : ((bytesM g ++ r).getD 8 0).toNat = g.queue.length := by
      rw [e]
      simp [List.getD]
      omega
    have e9 : (bytesM g ++ r).drop 9 = restB g.queue ++ r := by rw [e]; rfl
    rw [e8, e9]
    exact parseN_rest _ _ (fun s hs' => by have := hs s hs'; omega)
  refine ⟨?_, hp⟩
  unfold gateB
  rw [hp, numPre4, numPre4]
  have f1 : ((((bytesM g ++ r).getD 0 0).toNat : Int) * 16777216 + ((bytesM g ++ r).getD (0 + 1) 0).toNat * 65536 + ((bytesM g ++ r).getD (0 + 2) 0).toNat * 256 + ((bytesM g ++ r).getD (0 + 3) 0).toNat) = g.first := by
    rw [e]
    show ((byteM g.first 3).toNat : Int) * 16777216 + ((byteM g.first 2).toNat : Int) * 65536 + ((byteM g.first 1).toNat : Int) * 256 + ((byteM g.first 0).toNat : Int) = g.first
    rw [v0, v1, v2, v3]
    omega
  have f2 : ((((bytesM g ++ r).getD 4 0).toNat : Int) * 16777216 + ((bytesM g ++ r).getD (4 + 1) 0).toNat * 65536 + ((bytesM g ++ r).getD (4 + 2) 0).toNat * 256 + ((bytesM g ++ r).getD (4 + 3) 0).toNat) = g.next := by
    rw [e]
    show ((byteM g.next 3).toNat : Int) * 16777216 + ((byteM g.next 2).toNat : Int) * 65536 + ((byteM g.next 1).toNat : Int) * 256 + ((byteM g.next 0).toNat : Int) = g.next
    rw [u0, u1, u2, u3]
    omega
  rw [f1, f2]
theorem read_same {g : GateM} (h : g.chk = 0) : readM (bytesM g) = (g, 0) := by
  obtain ⟨h1, h2⟩ := gateB_more h []
  rw [List.append_nil] at h1 h2
  have h3 := (bytesM_len h).1
  unfold readM
  rw [if_neg (by omega), h1, h2, if_pos ⟨rfl, rfl, h⟩]
theorem read_more {g : GateM} (h : g.chk = 0) (c : UInt8) : readM (bytesM g ++ [c]) = (GateM.zero, 4) := by
  obtain ⟨h1, h2⟩ := gateB_more h [c]
  have h3 := (bytesM_len h).1
  unfold readM
  rw [if_neg (by rw [List.length_append]; omega), h1, h2, if_neg (by simp)]
theorem read_less {g : GateM} (h : g.chk = 0) (k : Nat) (hk : k < (bytesM g).length) : readM ((bytesM g).take k) = (GateM.zero, 4) := by
  have hl : ((bytesM g).take k).length = k := by rw [List.length_take]; omega
  unfold readM
  by_cases h9 : k < 9
  · rw [if_pos (by omega)]
  · rw [if_neg (by omega), if_neg]
    rintro ⟨e1, e2, e3⟩
    have hb := (gateB_bytes ((bytesM g).take k) (by omega) e3).2 ⟨e1, e2⟩
    obtain ⟨h1, h2⟩ := gateB_more e3 ((bytesM g).drop k)
    rw [hb, List.take_append_drop] at h1 h2
    obtain ⟨_, h4⟩ := gateB_more h []
    rw [List.append_nil] at h4
    rw [h4] at h2
    have := congrArg (fun x => x.2.1.length) h2
    simp only [List.length_nil, List.length_drop] at this
    omega
/-- P24.8, P24.12: what holds of the gate after a storm. -/
theorem back_law (l : List UInt8) : (stormM l).out.length ≤ 180 ∧ (stormM l).put.length ≤ 50 ∧ (PlayM.start.run (stormM l).out).1.gate.chk = 0 ∧
    (PlayM.start.run (stormM l).out).1.gate.first + (PlayM.start.run (stormM l).out).1.gate.queue.length = (stormM l).put.length ∧ (PlayM.start.run (stormM l).out).1.gate.first ≤ (PlayM.start.run (stormM l).out).1.out.length := by
  have hm : stormM l = (l.take (min 90 l.length)).foldl StormS.step .zero := by
    unfold stormM
    rcases Nat.le_total 90 l.length with h | h
    · rw [Nat.min_eq_left h]
    · rw [Nat.min_eq_right h, List.take_of_length_le h, List.take_of_length_le (Nat.le_refl _)]
  have hb := storm_bounds l (min 90 l.length) (Nat.min_le_right _ _)
  obtain ⟨h1, h2⟩ := storm_inv l (min 90 l.length) (Nat.min_le_right _ _) (by omega)
  rw [← hm] at hb h1 h2
  generalize stormM l = s at *
  have hok := PlayM.start_ok.run s.out
  have h4 := h1.queueLen
  have h5 := h1.gf
  have h6 := h1.go
  have h7 := h1.oP
  exact ⟨by omega, h2, hok.gate.chk (by omega), by omega, h6⟩
end Go.Proofs.YtpkcdkbbhiafnaaDoor
