/- The walk: awake. -/
import Derived.Test.YtpkcdkbbhiafnaaDoorGateV
import Derived.Test.YtpkcdkbbhiafnaaDoorGateK
namespace Go.Proofs.YtpkcdkbbhiafnaaDoor
set_option linter.unusedVariables false
set_option linter.unusedSimpArgs false
open Go.RowKit

theorem GateR.lit {w0 w' : World} {H : Hp} {L : List (Nat × Obj)} {e : Ending} {r : GateM × Int} {f n k : Int} {q : List ByteArray} {N : Nat} (hr : r = (⟨f, q, n⟩, k)) (hN : q.length = N) (h : GateR w0 H L r e w') :
    ∃ b c H', e = .returned (.tuple #[.agg #[.int .i64 f, .slice b N c, .int .i64 n], .int .i64 k]) ∧ Mem w0 H' L w' ∧ Hle H H' ∧ SlR encStr H' (.slice b N c) q := by
  subst hr; subst hN
  obtain ⟨f', b, c, n', H', rfl, m, hl, q', hv, hs⟩ := h
  cases hv
  exact ⟨b, c, H', rfl, m, hl, hs⟩
theorem OfferR.lit {w0 w' : World} {H : Hp} {L : List (Nat × Obj)} {e : Ending} {r : GateM × Int} {tk tk' : Bool} {f n k : Int} {q : List ByteArray} {N : Nat} (hr : r = (⟨f, q, n⟩, k)) (ht : tk = tk') (hN : q.length = N) (h : OfferR w0 H L r tk e w') :
    ∃ b c H', e = .returned (.tuple #[.agg #[.int .i64 f, .slice b N c, .int .i64 n], .bool tk', .int .i64 k]) ∧ Mem w0 H' L w' ∧ Hle H H' ∧ SlR encStr H' (.slice b N c) q := by
  subst hr; subst hN; subst ht
  obtain ⟨f', b, c, n', H', rfl, m, hl, q', hv, hs⟩ := h
  cases hv
  exact ⟨b, c, H', rfl, m, hl, hs⟩
theorem CopyR.lit {w0 w' : World} {H : Hp} {L : List (Nat × Obj)} {e : Ending} {f n : Int} {q : List ByteArray} {N : Nat} (hN : q.length = N) (h : CopyR ⟨f, q, n⟩ w0 H L e w') :
    ∃ b c H', e = .returned (.agg #[.int .i64 f, .slice b N c, .int .i64 n]) ∧ Mem w0 H' L w' ∧ Hle H H' ∧ SlR encStr H' (.slice b N c) q := by
  subst hN
  obtain ⟨b, c, H', rfl, m, hl, q', hv, hs⟩ := h.done
  cases hv
  exact ⟨b, c, H', rfl, m, hl, hs⟩
theorem TakeR.lit {w0 w' : World} {H : Hp} {L : List (Nat × Obj)} {e : Ending} {r : List ByteArray × Int × Int} {l : List ByteArray} {x k : Int} {N : Nat} (hr : r = (l, x, k)) (hN : l.length = N) (h : TakeR w0 H L r e w') :
    ∃ b c H', e = .returned (.tuple #[.slice b N c, .int .i64 x, .int .i64 k]) ∧ Mem w0 H' L w' ∧ Hle H H' ∧ SlR encStr H' (.slice b N c) l := by
  subst hr; subst hN
  obtain ⟨b, c, H', rfl, m, hl, hs⟩ := h
  exact ⟨b, c, H', rfl, m, hl, hs⟩

theorem conv_bytes {P : Program} {w0 w : World} {H : Hp} {L : List (Nat × Obj)} {b : Option Addr} {n c : Nat} {xs : List UInt8} (src dst e : TypeId) (hs : P.underlying src = some (.slice e)) (he : P.underlying e = some (.int .u8)) (hd : P.underlying dst = some .string)
    (m : Mem w0 H L w) (h : SlR encB H (.slice b n c) xs) : (convert src dst (.slice b n c)).run P w = .ok (.string ⟨xs.toArray⟩) w := by
  obtain ⟨b', c', hv, hc1, hc2, h0, hc⟩ := h
  cases hv
  cases b with
  | none =>
    have hx : xs = [] := List.eq_nil_of_length_eq_zero (by have := h0 rfl; omega)
    subst hx
    exact run_convert_bytes_nil w src e hs he _ _ dst hd
  | some a =>
    obtain ⟨blk, off, pth⟩ := a
    by_cases hn : xs.length = 0
    · have hx : xs = [] := List.eq_nil_of_length_eq_zero hn
      subst hx
      rw [run_convert_bytes_string w src dst e _ _ _ hs he hd]
      simp [Conv.bytesToString, loadCells, loadCellsFrom]
      rfl
    · obtain ⟨blk', off', cs, e1, _, _⟩ := hc 0 (by omega)
      cases e1
      have hr := run_convert_bytes_arg (P := P) w src e hs he blk off xs.length c (xs.map fun x => (x.toNat : Int)) (by simp) (fun i hi => by
        obtain ⟨blk2, off2, cs, e1, ⟨rfl, _⟩, e3⟩ := hc i hi
        cases e1
        have := (e3 0 _ rfl).cell m
        simpa [encB, encV, List.getD, hi] using this) dst hd
      rw [hr]
      congr 2
      have : List.map ((fun n : Int => UInt8.ofNat n.toNat) ∘ fun x : UInt8 => (x.toNat : Int)) xs = xs := by
        conv => rhs; rw [← List.map_id xs]
        exact List.map_congr_left fun x _ => by simp
      simp [strOfNums, this]
theorem PlayR.lit {w0 w' : World} {H : Hp} {L : List (Nat × Obj)} {e : Ending} {r : GateM × List ByteArray × List Int × Int} {f n k : Int} {q o : List ByteArray} {x : List Int} {N M X : Nat} (hr : r = (⟨f, q, n⟩, o, x, k)) (hN : q.length = N) (hM : o.length = M) (hX : x.length = X) (h : PlayR w0 H L r e w') :
    ∃ b c b' c' b'' c'' H', e = .returned (.tuple #[.agg #[.int .i64 f, .slice b N c, .int .i64 n], .slice b' M c', .slice b'' X c'', .int .i64 k]) ∧ Mem w0 H' L w' ∧ Hle H H' ∧ SlR encStr H' (.slice b N c) q ∧ SlR encStr H' (.slice b' M c') o ∧ SlR (encV (Value.int .i64) (fun _ => True)) H' (.slice b'' X c'') x := by
  subst hr; subst hN; subst hM; subst hX
  obtain ⟨f', q', n', o', x', H', rfl, m, hl, ⟨q2, hv, hs⟩, ho, hx⟩ := h
  cases hv
  obtain ⟨b, c, rfl⟩ := GateV.slice (g := ⟨f, q, n⟩) hs
  have ho2 := ho
  have hx2 := hx
  obtain ⟨b', c', rfl, _⟩ := ho
  obtain ⟨b'', c'', rfl, _⟩ := hx
  exact ⟨b, c, b', c', b'', c'', H', rfl, m, hl, hs, ho2, hx2⟩

set_option maxRecDepth 10000 in
set_option maxHeartbeats 8000000 in
theorem awake_any {w0 w : World} {H : Hp} {L : List (Nat × Obj)} (m : Mem w0 H L w) :
    Calls Tryd.prog 10 #[] w fun e w' => e = .returned (.bool true) ∧ Mem w0 H L w' := by
  go_enter Tryd.func10, Tryd.ntmps10
  go_wp2_with fail
  refine (Put_any _ GateM.zero (ByteArray.mk #[97]) m ⟨_, rfl, SlR.nil _ _⟩ ⟨⟨by decide, by decide⟩, ⟨by decide, by decide⟩⟩ (by decide)).mono ?_
  rintro e w1 hR
  obtain ⟨b1, c1, H1, rfl, m1, hl1, hs1⟩ := GateR.lit (f := 0) (q := [(ByteArray.mk #[97])]) (n := 0) (k := 0) (by kernel_rfl) rfl hR
  clear hR
  go_wp2_with fail
  have m2 := m1.alloc (.cells #[.int .i64 0, .slice b1 1 c1, .int .i64 0] 29)
  refine (Copy_any _ ⟨0, [(ByteArray.mk #[97])], 0⟩ m2 ⟨_, rfl, hs1⟩ (by decide)).mono ?_
  rintro e w2 hR
  obtain ⟨b2, c2, H2, rfl, m3, hl2, hs2⟩ := CopyR.lit (N := 1) rfl hR
  clear hR
  go_wp2_with fail
  refine (Put_any _ ⟨0, [(ByteArray.mk #[97])], 0⟩ (ByteArray.mk #[98]) m3 ⟨_, rfl, hs2⟩ ⟨⟨by decide, by decide⟩, ⟨by decide, by decide⟩⟩ (by decide)).mono ?_
  rintro e w3 hR
  obtain ⟨b3, c3, H3, rfl, m4, hl3, hs3⟩ := GateR.lit (f := 0) (q := [(ByteArray.mk #[97]), (ByteArray.mk #[98])]) (n := 0) (k := 0) (by kernel_rfl) rfl hR
  clear hR
  go_wp2_with fail
  have m5 := m4.alloc (.cells #[.int .i64 0, .slice b3 2 c3, .int .i64 0] 29)
  refine (Copy_any _ ⟨0, [(ByteArray.mk #[97]), (ByteArray.mk #[98])], 0⟩ m5 ⟨_, rfl, hs3⟩ (by decide)).mono ?_
  rintro e w4 hR
  obtain ⟨b4, c4, H4, rfl, m6, hl4, hs4⟩ := CopyR.lit (N := 2) rfl hR
  clear hR
  go_wp2_with fail
  refine (Send_any _ ⟨0, [(ByteArray.mk #[97]), (ByteArray.mk #[98])], 0⟩ m6 ⟨_, rfl, hs4⟩ ⟨⟨by decide, by decide⟩, ⟨by decide, by decide⟩⟩).mono ?_
  rintro e w5 ⟨rfl, m7⟩
  have e7 : (⟨0, [(ByteArray.mk #[97]), (ByteArray.mk #[98])], 0⟩ : GateM).send = (0, (ByteArray.mk #[97]), 0) := by kernel_rfl
  rw [e7]
  clear e7
  go_wp2_with fail
  refine (Take_any _ [] 0 (ByteArray.mk #[97]) m7 (SlR.nil _ _) (by decide) (by decide) ⟨by decide, by decide⟩).mono ?_
  rintro e w6 hR
  obtain ⟨b6, c6, H6, rfl, m8, hl6, hs6⟩ := TakeR.lit (N := 1) (l := [(ByteArray.mk #[97])]) (x := 1) (k := 0) (by kernel_rfl) rfl hR
  clear hR
  have es := m8.eqs; simp only [EqsL, and_true] at es
  go_wp2_with fail
  clear es
  refine (Copy_any _ ⟨0, [(ByteArray.mk #[97]), (ByteArray.mk #[98])], 0⟩ m8 ⟨_, rfl, (hs3.mono hl4).mono hl6⟩ (by decide)).mono ?_
  rintro e w7 hR
  obtain ⟨b7, c7, H7, rfl, m9, hl7, hs7⟩ := CopyR.lit (N := 2) rfl hR
  clear hR
  go_wp2_with fail
  refine (Ack_any _ ⟨0, [(ByteArray.mk #[97]), (ByteArray.mk #[98])], 0⟩ 1 m9 ⟨_, rfl, hs7⟩ ⟨⟨by decide, by decide⟩, ⟨by decide, by decide⟩⟩ ⟨by decide, by decide⟩).mono ?_
  rintro e w8 hR
  obtain ⟨b8, c8, H8, rfl, m10, hl8, hs8⟩ := GateR.lit (f := 1) (q := [(ByteArray.mk #[98])]) (n := 0) (k := 0) (by kernel_rfl) rfl hR
  clear hR
  go_wp2_with fail
  have m11 := m10.alloc (.cells #[.int .i64 1, .slice b8 1 c8, .int .i64 0] 29)
  refine (Copy_any _ ⟨1, [(ByteArray.mk #[98])], 0⟩ m11 ⟨_, rfl, hs8⟩ (by decide)).mono ?_
  rintro e w9 hR
  obtain ⟨b9, c9, H9, rfl, m12, hl9, hs9⟩ := CopyR.lit (N := 1) rfl hR
  clear hR
  go_wp2_with fail
  refine (Ack_any _ ⟨1, [(ByteArray.mk #[98])], 0⟩ 3 m12 ⟨_, rfl, hs9⟩ ⟨⟨by decide, by decide⟩, ⟨by decide, by decide⟩⟩ ⟨by decide, by decide⟩).mono ?_
  rintro e w10 hR
  obtain ⟨b10, c10, H10, rfl, m13, hl10, hs10⟩ := GateR.lit (f := 0) (q := []) (n := 0) (k := 3) (by kernel_rfl) rfl hR
  clear hR
  have es := m13.eqs; simp only [EqsL, and_true] at es
  go_wp2_with fail
  -- the list ["a"] beside the outside's; the queue beside ["b"]
  have m14 := (m13.alloc (.cells #[.int .i64 0, .slice b10 0 c10, .int .i64 0] 29)).alloc (.cells #[.string (ByteArray.mk #[97])] 9)
  simp only [World.size_alloc] at m14
  obtain ⟨H11, m15, hl11, hs11⟩ := Mem.lit (E := encStr) (ys := [(ByteArray.mk #[97])]) (cs := [.string (ByteArray.mk #[97])]) m14 (.one ⟨rfl, by decide⟩ rfl) (by decide)
  have hs6' := ((((hs6.mono hl7).mono hl8).mono hl9).mono hl10).mono hl11
  have hs8' := ((hs8.mono hl9).mono hl10).mono hl11
  refine (Texts_any _ _ [(ByteArray.mk #[97])] [(ByteArray.mk #[97])] m15 hs6' hs11).mono ?_
  rintro e w11 ⟨rfl, n11, hw⟩
  have m16 : Mem w0 H11 _ w11 := hw ▸ m15.drewN n11
  clear hw es m14 m15
  have et : decide ([(ByteArray.mk #[97])] = [(ByteArray.mk #[97])]) = true := by simp
  rw [et]; clear et
  have es := m16.eqs; simp only [EqsL, and_true] at es
  go_wp2_with fail
  have m17 := m16.alloc (.cells #[.string (ByteArray.mk #[98])] 9)
  obtain ⟨H12, m18, hl12, hs12⟩ := Mem.lit (E := encStr) (ys := [(ByteArray.mk #[98])]) (cs := [.string (ByteArray.mk #[98])]) m17 (.one ⟨rfl, by decide⟩ rfl) (by decide)
  refine (Texts_any _ _ [(ByteArray.mk #[98])] [(ByteArray.mk #[98])] m18 (hs8'.mono hl12) hs12).mono ?_
  rintro e w12 ⟨rfl, n12, hw⟩
  have m19 : Mem w0 H12 _ w12 := hw ▸ m18.drewN n12
  clear hw es m17 m18
  have et : decide ([(ByteArray.mk #[98])] = [(ByteArray.mk #[98])]) = true := by simp
  rw [et]; clear et
  go_wp2_with fail
  refine (Offer_any _ GateM.zero 0 (ByteArray.mk #[120]) m19 ⟨_, rfl, SlR.nil _ _⟩ ⟨⟨by decide, by decide⟩, ⟨by decide, by decide⟩⟩ ⟨by decide, by decide⟩ (by decide)).mono ?_
  rintro e w13 hR
  obtain ⟨b13, c13, H13, rfl, m20, hl13, hs13⟩ := OfferR.lit (f := 0) (q := []) (n := 1) (k := 0) (tk' := true) (by kernel_rfl) (by kernel_rfl) rfl hR
  clear hR
  go_wp2_with fail
  have m21 := m20.alloc (.cells #[.int .i64 0, .slice b13 0 c13, .int .i64 1] 29)
  refine (Copy_any _ ⟨0, [], 1⟩ m21 ⟨_, rfl, hs13⟩ (by decide)).mono ?_
  rintro e w14 hR
  obtain ⟨b14, c14, H14, rfl, m22, hl14, hs14⟩ := CopyR.lit (N := 0) rfl hR
  clear hR
  go_wp2_with fail
  refine (Offer_any _ ⟨0, [], 1⟩ 0 (ByteArray.mk #[120]) m22 ⟨_, rfl, hs14⟩ ⟨⟨by decide, by decide⟩, ⟨by decide, by decide⟩⟩ ⟨by decide, by decide⟩ (by decide)).mono ?_
  rintro e w15 hR
  obtain ⟨b15, c15, H15, rfl, m23, hl15, hs15⟩ := OfferR.lit (f := 0) (q := []) (n := 1) (k := 0) (tk' := false) (by kernel_rfl) (by kernel_rfl) rfl hR
  clear hR
  go_wp2_with fail
  have m24 := (m23.alloc (.cells #[.int .i64 0, .slice b15 0 c15, .int .i64 1] 29)).alloc (.cells #[.string (ByteArray.mk #[98])] 9)
  simp only [World.size_alloc] at m24
  obtain ⟨H16, m25, hl16, hs16⟩ := Mem.lit (E := encStr) (ys := [(ByteArray.mk #[98])]) (cs := [.string (ByteArray.mk #[98])]) m24 (.one ⟨rfl, by decide⟩ rfl) (by decide)
  refine (Bytes_any _ ⟨1, [(ByteArray.mk #[98])], 2⟩ m25 ⟨_, rfl, hs16⟩ ⟨⟨by decide, by decide⟩, ⟨by decide, by decide⟩⟩).mono ?_
  rintro e w16 ⟨b17, n17, c17, H17, rfl, m26, hl17, hs17⟩
  have e17 : bytesR ⟨1, [(ByteArray.mk #[98])], 2⟩ = ([0, 0, 0, 1, 0, 0, 0, 2, 1, 1, 98], 0) := by kernel_rfl
  rw [e17] at hs17 ⊢
  clear e17
  go_wp2_with fail
  have m27 := m26.alloc (.cells #[.int .u8 1, .int .i64 0, .string (ByteArray.mk #[97]), .int .u8 6, .int .i64 0, .string (ByteArray.mk #[]), .int .u8 4, .int .i64 0, .string (ByteArray.mk #[]), .int .u8 7, .int .i64 0, .string (ByteArray.mk #[]), .int .u8 2, .int .i64 0, .string (ByteArray.mk #[])] 38)
  obtain ⟨H18, m28, hl18, hs18⟩ := Mem.lit (E := encAct) (ys := [⟨1, 0, (ByteArray.mk #[97])⟩, ⟨6, 0, (ByteArray.mk #[])⟩, ⟨4, 0, (ByteArray.mk #[])⟩, ⟨7, 0, (ByteArray.mk #[])⟩, ⟨2, 0, (ByteArray.mk #[])⟩]) (cs := [.int .u8 1, .int .i64 0, .string (ByteArray.mk #[97]), .int .u8 6, .int .i64 0, .string (ByteArray.mk #[]), .int .u8 4, .int .i64 0, .string (ByteArray.mk #[]), .int .u8 7, .int .i64 0, .string (ByteArray.mk #[]), .int .u8 2, .int .i64 0, .string (ByteArray.mk #[])]) m27
    (.cons (cs := [_, _, _]) ⟨rfl, ⟨by decide, by decide⟩, by decide⟩ rfl (.cons (cs := [_, _, _]) ⟨rfl, ⟨by decide, by decide⟩, by decide⟩ rfl (.cons (cs := [_, _, _]) ⟨rfl, ⟨by decide, by decide⟩, by decide⟩ rfl (.cons (cs := [_, _, _]) ⟨rfl, ⟨by decide, by decide⟩, by decide⟩ rfl (.cons (cs := [_, _, _]) ⟨rfl, ⟨by decide, by decide⟩, by decide⟩ rfl .nil))))) (by decide)
  refine (Play_any _ _ m28 hs18).mono ?_
  rintro e w17 hR
  obtain ⟨b19, c19, b20, c20, b21, c21, H19, rfl, m29, hl19, hs19, hs20, _⟩ := PlayR.lit (f := 1) (q := []) (n := 0) (o := [(ByteArray.mk #[97])]) (x := [0, 0, 0, 0, 0]) (k := 0) (by kernel_rfl) rfl rfl rfl hR
  clear hR
  have m30 := m29.alloc (.cells #[.int .i64 1, .slice b19 0 c19, .int .i64 0] 29)
  have hs17' := (hs17.mono hl18).mono hl19
  have es := m29.eqs; simp only [EqsL, and_true] at es
  go_wp2_with fail
  have hcv : (convert 22 9 (.slice b17 n17 c17)).run Tryd.prog (w17.alloc (.cells #[.int .i64 1, .slice b19 0 c19, .int .i64 0] 29)) = .ok (.string ⟨#[0, 0, 0, 1, 0, 0, 0, 2, 1, 1, 98]⟩) (w17.alloc (.cells #[.int .i64 1, .slice b19 0 c19, .int .i64 0] 29)) := conv_bytes _ _ 5 Tryd.underlying22 (by kernel_rfl) Tryd.underlying9 m30 hs17'
  rw [hcv]
  simp only [Result.andThen_ok, Oper.upon_value]
  clear hcv es
  have m31 := m30.alloc (.cells #[.string (ByteArray.mk #[97])] 9)
  simp only [World.size_alloc] at m31
  have es := m30.eqs; simp only [EqsL, and_true] at es
  go_wp2_with fail
  obtain ⟨H20, m32, hl20, hs21⟩ := Mem.lit (E := encStr) (ys := [(ByteArray.mk #[97])]) (cs := [.string (ByteArray.mk #[97])]) m31 (.one ⟨rfl, by decide⟩ rfl) (by decide)
  refine (Texts_any _ _ [(ByteArray.mk #[97])] [(ByteArray.mk #[97])] m32 (hs20.mono hl20) hs21).mono ?_
  rintro e w18 ⟨rfl, n18, hw⟩
  have m33 : Mem w0 H20 _ w18 := hw ▸ m32.drewN n18
  clear hw es
  have et : decide ([(ByteArray.mk #[97])] = [(ByteArray.mk #[97])]) = true := by simp
  rw [et]; clear et
  go_wp2_with fail
  go_ret
  refine ⟨rfl, ?_⟩
  have h1 := (((((hl1.trans hl2).trans hl3).trans hl4).trans hl6).trans hl7).trans hl8
  have h2 := (((((h1.trans hl9).trans hl10).trans hl11).trans hl12).trans hl13).trans hl14
  have h3 := (((((h2.trans hl15).trans hl16).trans hl17).trans hl18).trans hl19).trans hl20
  have m34 := m33.weaken h3
  repeat (first | exact m34 | replace m34 := m34.drop)
end Go.Proofs.YtpkcdkbbhiafnaaDoor
