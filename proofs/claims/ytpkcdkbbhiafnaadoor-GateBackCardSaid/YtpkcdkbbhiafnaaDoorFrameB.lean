/- The frame of the laws' proofs: a slice of bytes that came in. No program's function in sight. -/
import Derived.Test.YtpkcdkbbhiafnaaDoorFrame
import Derived.ChangeSlices
namespace Go.Proofs.YtpkcdkbbhiafnaaDoor
set_option linter.unusedVariables false
set_option linter.unusedSimpArgs false
open Go.ChangeShapes Go.WideShapes Go.ChangeAt Go.RowKit Go.Joins Go.Deep

theorem byte_of_wf {n : Int} (h : (Lit.int .u8 n).wf = true) : ((UInt8.ofNat n.toNat).toNat : Int) = n := by
  simp [Lit.wf, IntKind.min, IntKind.max, IntKind.bits, IntKind.signed] at h
  rw [UInt8.toNat_ofNat']
  omega

section
variable {H : Type} {enc : TypeId × Value → H} {P : Program}
/-- A slice of bytes that came in. -/
theorem open_bytes {W : World} {base : Nat} {spare : Nat → Bool} {held : Bool} {t e : TypeId} {fuel : Nat} {v : Value} {x : DataW H × List MemPlace} (ht : P.underlying t = some (.slice e)) (he : P.underlying e = some (.int .u8)) (hc : P.cellsOf e = 1)
    (h : DataW.trod enc P W base spare held fuel t [v] = some x) : ∃ l, SlR encB (heapOf W) v l := by
  rcases open_ints ht he hc h with ⟨hcs, _⟩ | ⟨a, len, cap, zs, hcs, _, hl, hm, hlen, _, hcell, hwf⟩
  · cases hcs
    exact ⟨[], SlR.nil _ _⟩
  · cases hcs
    have hle : len ≤ zs.length := by rw [hlen]; split <;> omega
    have hll : ((zs.take len).map fun n => UInt8.ofNat n.toNat).length = len := by rw [List.length_map, List.length_take]; omega
    refine ⟨(zs.take len).map fun n => UInt8.ofNat n.toNat, some a, cap, by rw [hll], by omega, hm, fun h => (by cases h), fun i hi => ?_⟩
    rw [hll] at hi
    have hi' : i < zs.length := by omega
    have h0 := hcell 0 (by omega)
    rw [show a.add 0 = a from rfl] at h0
    have hs0 := (start_cell h0).1
    obtain ⟨b, o, s⟩ := a
    simp only at hs0
    subst hs0
    have hz := byte_of_wf (hwf zs[i] (by simp))
    refine ⟨b, o, [.int .u8 zs[i]], rfl, ⟨?_, trivial⟩, fun j u hu => ?_⟩
    · simp only [List.getElem_map, List.getElem_take]
      rw [hz]
    match j, hu with
    | 0, hu =>
      simp only [List.getElem?_cons_zero, Option.some.injEq] at hu
      subst hu
      have := (start_cell (hcell i hi')).2
      rw [Addr.add_lit] at this
      simpa [List.getD, hi', encB, encV] using this
    | j + 1, hu => simp at hu
end
end Go.Proofs.YtpkcdkbbhiafnaaDoor
