/- The walk: the law HeapExact. -/
import Derived.Test.YthipkmmdjhpklaaK30
import Derived.Test.YthipkmmdjhpklaaK14
namespace Go.Proofs.Ythipkmmdjhpklaa
set_option linter.unusedVariables false
set_option linter.unusedSimpArgs false
open Go.RowKit

def intsOf (l : List Nat) : List Int := l.map fun k : Nat => (k : Int)
theorem intsOf_len (l : List Nat) : (intsOf l).length = l.length := by simp [intsOf]
theorem chunks_nat {H : Hp} : ∀ (l : List Nat), (∀ k ∈ l, k < 100000) → Chunks encInt H (natCs l) (intsOf l)
  | [], _ => .nil
  | k :: l, h => .cons (E := encInt) (cs := [.int .i64 (k : Int)]) ⟨rfl, show I64 (k : Int) from ⟨by omega, by have := h k (.head _); omega⟩⟩ rfl (chunks_nat l fun x hx => h x (.tail _ hx))
theorem chunks_int {H : Hp} : ∀ (l : List Int), (∀ k ∈ l, I64 k) → Chunks encInt H (l.map (Value.int .i64)) l
  | [], _ => .nil
  | k :: l, h => .cons (E := encInt) (cs := [.int .i64 k]) ⟨rfl, h k (.head _)⟩ rfl (chunks_int l fun x hx => h x (.tail _ hx))
/-- The new numbers of the first i objects. -/
def tsAt (l : List Nat) (i n : Nat) : List Int := (List.range n).map fun k => if k ∈ l.take i then ((l.idxOf k : Nat) : Int) else 0
theorem tsAt_len (l : List Nat) (i n : Nat) : (tsAt l i n).length = n := by simp [tsAt]
theorem tsAt_step {l : List Nat} (hn : l.Nodup) {i k n : Nat} (hi : l[i]? = some k) (hk : k < n) : (tsAt l i n).set k (i : Int) = tsAt l (i + 1) n := by
  have hil := lt_of_some hi
  have hgi : l[i] = k := (List.getElem?_eq_some_iff.1 hi).2
  apply List.ext_getElem (by simp [tsAt])
  intro j h1 h2
  simp only [tsAt, List.length_set, List.length_map, List.length_range] at h1
  rw [List.getElem_set]
  simp only [tsAt, List.getElem_map, List.getElem_range]
  rw [List.take_succ_eq_append_getElem hil, hgi]
  by_cases e : k = j
  · subst e
    rw [if_pos rfl, if_pos (by simp), idxOf_of hn hi]
  · rw [if_neg e]
    have hne : ¬ j = k := fun h => e h.symm
    simp [hne]
theorem tsAt_get {l : List Nat} {k n : Nat} (hk : k ∈ l) (hn : k < n) : (tsAt l l.length n).getD k 0 = (l.idxOf k : Nat) := by
  rw [List.getD_eq_getElem?_getD, List.getElem?_eq_getElem (by rw [tsAt_len]; exact hn)]
  simp [tsAt, hk]
theorem tsAt_bnd {l : List Nat} (hl : l.length ≤ 6000) {i n : Nat} : ∀ t ∈ tsAt l i n, 0 ≤ t ∧ t ≤ 100000 := fun t ht => by
  unfold tsAt at ht
  obtain ⟨k, _, rfl⟩ := List.mem_map.1 ht
  split
  · rename_i hk
    have := List.idxOf_lt_length_iff.2 (List.mem_of_mem_take hk)
    omega
  · omega
theorem turnK_eq {l : List Nat} {n : Nat} {half : Int} {xs : List ValM} (hx : ∀ v ∈ xs, v.kind = 5 → idx v ∈ l) (hn : ∀ k ∈ l, k < n) : xs.map (turnK (tsAt l l.length n) half) = xs.map (turnTo half l) := by
  refine List.map_congr_left fun v hv => ?_
  unfold turnK turnTo
  split
  · rename_i hk
    rw [tsAt_get (hx v hv hk) (hn _ (hx v hv hk))]
  · rfl
noncomputable def infoI : TypeInfo := (Try.prog.info? 3).get!
theorem infoI_at : Try.prog.info? 3 = some infoI := by kernel_rfl
theorem infoI_zero : infoI.zero = some (.int .i64 0) := by kernel_rfl
theorem infoI_size : infoI.size = 1 := by kernel_rfl
theorem infoI_bytes : infoI.bytes = 8 := by kernel_rfl
theorem run_make_ints (l : List Nat) (n : Nat) (hn : n ≤ 100000) (w : World) : (Instr.makeSlice 46 (.int .i64 n) (.int .i64 n)).run Try.prog w = .ok (.slice (some ⟨w.heap.size, 0, none⟩) n n) (w.alloc (.cells ((tsAt l 0 n).map (Value.int .i64)).toArray 3)) := by
  have h := run_makeSlice (P := Try.prog) w 46 3 infoI (.int .i64 0) Try.underlying46 infoI_at infoI_zero .i64 .i64 (n : Int) (n : Int) (by omega) (by omega) (by rw [infoI_size]; omega) (by rw [infoI_bytes]; omega) (by omega)
  rw [infoI_size, Int.toNat_natCast, Nat.mul_one] at h
  have e : madeCells (Value.int .i64 0).cells n = ((tsAt l 0 n).map (Value.int .i64)).toArray := by
    unfold madeCells tsAt
    apply Array.ext'
    simp only [Value.cells, Array.toList_map, Array.toList_range, List.map_map, List.map_inj_left, List.mem_range, List.size_toArray, List.length_singleton, Nat.mod_one, List.take_zero, List.not_mem_nil, if_false]
    intro a _
    rfl
  rw [e] at h
  exact h
theorem perm_ex3 {α : Type} (x a b c : α) (L : List α) : (x :: a :: b :: c :: L).Perm (x :: a :: b :: c :: L) := List.Perm.refl _
theorem perm_ex4 {α : Type} (a b c x : α) (L : List α) : (a :: b :: c :: x :: L).Perm (x :: a :: b :: c :: L) := (by classical exact List.perm_iff_count.2 (fun a => by simp only [List.count_append, List.count_cons, List.cons_append, List.nil_append, List.append_assoc]; omega))
theorem SlR.cellVS {α : Type} {f : α → Value} {p : α → Prop} {H : Hp} {b : Option Addr} {n c : Nat} {xs : List α} (h : SlR (encV f p) H (.slice b n c) xs) {i : Nat} {x : α} (hi : xs[i]? = some x) :
    ∃ blk off, b = some ⟨blk, off, none⟩ ∧ CellH H blk (off + i) (f x) := by
  obtain ⟨hl, rfl⟩ := List.getElem?_eq_some_iff.1 hi
  obtain ⟨blk, off, e, h1, _⟩ := h.cellV hl
  exact ⟨blk, off, e, h1⟩
theorem SlR.getObjS {H : Hp} {b : Option Addr} {n c : Nat} {xs : List ObjM} (h : SlR encObj H (.slice b n c) xs) {i : Nat} {o : ObjM} (hi : xs[i]? = some o) :
    ∃ blk off sv, b = some ⟨blk, off, none⟩ ∧ CellH H blk (off + i * 4) (.int .u8 o.kind) ∧ CellH H blk (off + i * 4 + 1) (.string o.name) ∧ CellH H blk (off + i * 4 + 2) (.int .i64 o.n) ∧ CellH H blk (off + i * 4 + 3) sv ∧ SlR encVal H sv o.slots ∧ o.fit := by
  obtain ⟨hl, rfl⟩ := List.getElem?_eq_some_iff.1 hi
  exact h.getObj hl
set_option maxRecDepth 10000 in
set_option maxHeartbeats 16000000 in
theorem exact_any (size regs : Int) (hs : I64 size) (hr : I64 regs) (dv : Value) (ds : List DeedM) {w0 w : World} {H : Hp} {L : List (Nat × Obj)} (hd : SlR encDeed H dv ds) (m : Mem w0 H L w) :
    Calls Try.prog 6 #[.agg #[.int .i64 size, .int .i64 regs, dv]] w (Ret w0 H L (.bool true)) := by
  have HD := Lib.hid hd
  have HSZ := Lib.hid hs; clear hs
  have HRG := Lib.hid hr; clear hr
  obtain ⟨lb, lc, rfl, _, hlc, _, _⟩ := hd
  have hlc := size_le_maxLen hlc
  have m1 := m.alloc (PBox size regs (.slice lb ds.length lc))
  have es := m1.eqs
  simp only [EqsL] at es
  go_enter Try.func6, Try.ntmps6
  go_wp2_with fail
  refine (ready_any size regs _ ds HD.out m1).mono ?_
  rintro e w1 ⟨rfl, m2⟩
  clear es m1
  have es := m2.eqs
  simp only [EqsL] at es
  cases hrd : readyM size regs ds
  · have HRD := Lib.hid hrd; clear hrd
    go_wp2_with fail
    refine (awake_any m2).mono ?_
    rintro e w3 ⟨rfl, m3⟩
    go_wp2_with fail
    go_ret
    exact ⟨rfl, m3.drop⟩
  have HRD := Lib.hid hrd; clear hrd
  go_wp2_with fail
  refine (played_any size regs HSZ.out HRG.out _ ds HRD.out HD.out m2).mono ?_
  rintro e w3 ⟨h, H3, vo3, vn3, vr3, rfl, hl3, f3, g1, hb1, m3⟩
  obtain ⟨ob3, oc3, nb3, nc3, rb3, rc3, rfl, rfl, rfl⟩ := f3.shape6
  have F3 := Lib.hid f3; clear f3
  have G1 := Lib.hid g1; clear g1
  have HB1 := Lib.hid hb1; clear hb1
  have hx := exact_law G1.out.ok HB1.out
  have hbl : h.bfs.length ≤ 6000 := by
    have h1 := len_of_lt hx.e.nodup hx.e.lt
    have := G1.out.ok.core.bounds.1
    omega
  have HX := Lib.hid hx; clear hx
  unfold HVal
  clear es m2
  have m4 := m3.alloc (.cells #[.int .i64 h.size, .int .i64 h.half, .int .i64 h.scan, .bool h.busy, .slice ob3 h.old.length oc3, .slice nb3 h.new.length nc3, .slice rb3 h.regs.length rc3] 31)
  have es := m3.eqs
  simp only [EqsL] at es
  go_wp2_with fail
  refine (breadth_any h G1.out HB1.out _ _ _ F3.out m4).mono ?_
  rintro e w5 ⟨lb5, lc5, L5, rfl, hac, m5⟩
  obtain ⟨H5, m5b, hl5, hsl5, -⟩ := hac.borrow (E := encInt) (chunks_nat h.bfs (fun k hk => by have := HX.out.e.lt k hk; have := G1.out.ok.core.bounds.1; omega)) rfl (by rw [intsOf_len]) m5
  have SL5 := Lib.hid hsl5; clear hsl5 hac
  have HL5 := Lib.hid (hl3.trans hl5)
  have F5 := Lib.hid (F3.out.mono hl5); clear hl5 hl3
  clear es m3 m4 m5
  have es := m5b.eqs
  simp only [EqsL] at es
  go_wp2_with fail
  refine (Copy_fr h G1.out.ok.hbd _ _ _ F5.out m5b).mono ?_
  rintro e wa ⟨Ha, voa, vna, vra, rfl, hla, fa, ma⟩
  obtain ⟨oba, oca, nba, nca, rba, rca, rfl, rfl, rfl⟩ := fa.shape6
  unfold HVal
  clear es m5b
  have es := ma.eqs
  simp only [EqsL] at es
  go_wp2_with fail
  refine (LiveB_any _ h G1.out _ _ _ fa ma (Nat.le_refl _)).mono ?_
  rintro e wb ⟨rfl, mb⟩
  have hlv : (h.liveN (12000 * 401 + h.regs.length) [] h.regs).length = h.bfs.length := HX.out.live
  rw [hlv]
  clear hlv es ma fa
  have es := mb.eqs
  simp only [EqsL] at es
  have F6 := Lib.hid (F5.out.mono hla)
  go_wp2_with fail
  refine (collected_any h G1.out HB1.out _ _ _ F6.out mb).mono ?_
  rintro e wc ⟨Hc, voc, vnc, vrc, rfl, hlc2, fc, mc⟩
  rw [HX.out.many]
  have GD := Lib.hid (fin_good (HGood.mk (G1.out.ok.begin HB1.out) (Copies.begin G1.out.ok HB1.out)))
  generalize h.begin.fin = d at *
  obtain ⟨obc, occ, nbc, ncc, rbc, rcc, rfl, rfl, rfl⟩ := fc.shape6
  have FC := Lib.hid fc; clear fc
  have F7 := Lib.hid (F6.out.mono hlc2)
  have SL7 := Lib.hid ((SL5.out.mono hla).mono hlc2)
  have HL7 := Lib.hid ((HL5.out.trans hla).trans hlc2)
  clear hla hlc2 es mb
  unfold HVal
  have m8 := mc.alloc (.cells #[.int .i64 d.size, .int .i64 d.half, .int .i64 d.scan, .bool d.busy, .slice obc d.old.length occ, .slice nbc d.new.length ncc, .slice rbc d.regs.length rcc] 31)
  have es := mc.eqs
  simp only [EqsL] at es
  go_wp2_with fail
  refine (Copy_fr d GD.out.ok.hbd _ _ _ FC.out m8).mono ?_
  rintro e we ⟨He, voe, vne, vre, rfl, hle, fe, me⟩
  obtain ⟨obe, oce, nbe, nce, rbe, rce, rfl, rfl, rfl⟩ := fe.shape6
  unfold HVal
  clear es m8 mc
  have es := me.eqs
  simp only [EqsL] at es
  go_wp2_with fail
  refine (LiveB_any _ d GD.out _ _ _ fe me (Nat.le_refl _)).mono ?_
  rintro e wf ⟨rfl, mf⟩
  have hlv : (d.liveN (12000 * 401 + d.regs.length) [] d.regs).length = h.bfs.length := HX.out.lived
  rw [hlv]
  clear hlv es me fe
  have es := mf.eqs
  simp only [EqsL] at es
  have FD := Lib.hid (FC.out.mono hle)
  have FH := Lib.hid (F7.out.mono hle)
  have SL := Lib.hid (SL7.out.mono hle)
  have HLE := Lib.hid (HL7.out.trans hle)
  clear hle
  generalize hbb : h.bfs = bl at *
  have hc1 : ((d.new.length : Int) != (bl.length : Int)) = false := by rw [HX.out.e.nn]; simp
  have hc2 : (d.half != 1 - h.half) = false := by rw [HX.out.e.half]; simp
  have hc3 : ((d.regs.length : Int) != (h.regs.length : Int)) = false := by rw [HX.out.e.regs]; simp
  have hhf := G1.out.ok.core.half
  have hw1 : IntKind.i64.wrap (1 - h.half) = 1 - h.half := wrap_i64s _ (by omega) (by omega)
  have hmk := run_make_ints bl h.new.length (by have := G1.out.ok.core.bounds.1; omega)
  go_wp2_with fail
  have mk1 := mf.alloc (.cells ((tsAt bl 0 h.new.length).map (Value.int .i64)).toArray 3)
  clear es hmk mf
  go_loopw [13] (fun v13 wr => ∃ k : Nat, k ≤ bl.length ∧ v13 = .int .i64 k ∧ Mem w0 He ((wf.heap.size, .cells ((tsAt bl k h.new.length).map (Value.int .i64)).toArray 3) :: (wc.heap.size, .cells #[.int .i64 d.size, .int .i64 d.half, .int .i64 d.scan, .bool d.busy, .slice obc d.old.length occ, .slice nbc d.new.length ncc, .slice rbc d.regs.length rcc] 31) :: (w3.heap.size, .cells #[.int .i64 h.size, .int .i64 h.half, .int .i64 h.scan, .bool h.busy, .slice ob3 h.old.length oc3, .slice nb3 h.new.length nc3, .slice rb3 h.regs.length rc3] 31) :: (w.heap.size, PBox size regs (.slice lb ds.length lc)) :: L) wr) (fun v13 _ => bl.length - (intOf v13).toNat)
  case atStart => exact ⟨0, Nat.zero_le _, rfl, mk1⟩
  case round =>
    obtain ⟨k, hk, rfl, mr⟩ := hrel
    clear mk1
    by_cases hlt : k < bl.length
    · have hgi : bl[k]? = some bl[k] := List.getElem?_eq_getElem hlt
      have hin := HX.out.e.lt _ (List.getElem_mem hlt)
      have hstep := tsAt_step (n := h.new.length) HX.out.e.nodup hgi hin
      have hii : (intsOf bl)[k]? = some ((bl[k] : Nat) : Int) := by unfold intsOf; rw [List.getElem?_map, hgi]; rfl
      obtain ⟨blk, off, rfl, hcell⟩ := SL.out.cellVS hii
      have hcell := hcell.cell mr
      have hn6 := G1.out.ok.core.bounds.1
      generalize bl[k] = q at *
      have HST := Lib.hid hstep; clear hstep
      clear hgi hii
      have hltI : (k : Int) < bl.length := by omega
      have hqI : (q : Int) < h.new.length := by omega
      have es := mr.eqs
      simp only [EqsL] at es
      have hsz : ((tsAt bl k h.new.length).map (Value.int .i64)).toArray.size = h.new.length := by simp [tsAt_len]
      go_wp2_with fail
      have ms := mr.set (i := q) (v := .int .i64 k) .head
      go_roundw
      case rel =>
        refine ⟨k + 1, by omega, by go_num, ?_⟩
        rw [← HST.out]
        simpa [List.map_set] using ms
      case measure => simp [intOf]; omega
    · have hk' : k = bl.length := by omega
      subst hk'
      have hge : ¬ (bl.length : Int) < bl.length := by omega
      have hn6 := G1.out.ok.core.bounds.1
      obtain ⟨Ht, mt, hlt2, slt⟩ := mr.lit (E := encInt) (chunks_int (tsAt bl bl.length h.new.length) (fun t ht => by have := tsAt_bnd hbl t ht; unfold I64; omega)) (by rw [tsAt_len]; unfold maxLen; omega)
      rw [tsAt_len] at slt
      have ST := Lib.hid slt; clear slt
      have FD2 := Lib.hid (FD.out.mono hlt2)
      have FH2 := Lib.hid (FH.out.mono hlt2)
      have SL2 := Lib.hid (SL.out.mono hlt2)
      have HL2 := Lib.hid (HLE.out.trans hlt2)
      clear hlt2 mr
      have es := mt.eqs
      simp only [EqsL] at es
      go_wp2_with fail
      clear es
      go_loopw [14, 15] (fun v14 _ wr => ∃ k : Nat, k ≤ bl.length ∧ v14 = .int .i64 k ∧ Mem w0 Ht ((wc.heap.size, .cells #[.int .i64 d.size, .int .i64 d.half, .int .i64 d.scan, .bool d.busy, .slice obc d.old.length occ, .slice nbc d.new.length ncc, .slice rbc d.regs.length rcc] 31) :: (w3.heap.size, .cells #[.int .i64 h.size, .int .i64 h.half, .int .i64 h.scan, .bool h.busy, .slice ob3 h.old.length oc3, .slice nb3 h.new.length nc3, .slice rb3 h.regs.length rc3] 31) :: (w.heap.size, PBox size regs (.slice lb ds.length lc)) :: L) wr) (fun v14 _ _ => bl.length - (intOf v14).toNat)
      case atStart => exact ⟨0, Nat.zero_le _, rfl, mt⟩
      case round =>
        obtain ⟨k, hk, rfl, mr⟩ := hrel
        clear mt
        by_cases hlt : k < bl.length
        · have hgi : bl[k]? = some bl[k] := List.getElem?_eq_getElem hlt
          have hin := HX.out.e.lt _ (List.getElem_mem hlt)
          have hii : (intsOf bl)[k]? = some ((bl[k] : Nat) : Int) := by unfold intsOf; rw [List.getElem?_map, hgi]; rfl
          obtain ⟨blk, off, rfl, hcell⟩ := SL2.out.cellVS hii
          obtain ⟨o, hho, hdo, hoi⟩ := HX.out.e.done k _ hgi
          generalize bl[k] = q at *
          obtain ⟨blk1, off1, sv1, rfl, x0, x1, x2, x3, hsl1, hfit1⟩ := FH2.out.n.getObjS hho
          obtain ⟨blk2, off2, sv2, rfl, y0, y1, y2, y3, hsl2, hfit2⟩ := FD2.out.n.getObjS hdo
          have HSL1 := Lib.hid hsl1
          have HSL2 := Lib.hid hsl2
          obtain ⟨sb1, sc1, rfl, hs11, -, -, -⟩ := hsl1
          obtain ⟨sb2, sc2, rfl, -, -, -, -⟩ := hsl2
          have hoin := G1.out.ok.core.new q o hho
          have hos : o.slots.length ≤ 100000 := by have := hoin.len; omega
          have hoi2 : ∀ v ∈ o.slots, v.kind = 5 → 0 ≤ v.n ∧ idx v ∈ bl ∧ idx v < h.new.length := fun v hv h5 => by
            have := idle_val G1.out.ok HB1.out (hoin.sl v hv) h5
            have hh := G1.out.ok.core.half
            exact ⟨by omega, hoi v hv h5, this.2.1⟩
          have HOI := Lib.hid hoi2; clear hoi hoi2 hoin
          have X := Lib.hid (And.intro hcell (And.intro x0 (And.intro x1 (And.intro x2 x3))))
          have Y := Lib.hid (And.intro y0 (And.intro y1 (And.intro y2 y3)))
          clear hcell x0 x1 x2 x3 y0 y1 y2 y3 hgi hii hho hdo hfit1 hfit2 hs11
          have hltI : (k : Int) < bl.length := by omega
          have hqI : (q : Int) < h.new.length := by omega
          have hdl : d.new.length = bl.length := HX.out.e.nn
          have HDL := Lib.hid hdl
          have hdkI : (k : Int) < d.new.length := by omega
          clear hdl
          obtain ⟨ok, on, onn, osl⟩ := o
          simp only at *
          go_wp2_with fail
          refine AnyFrom.start (fun w' => ∃ H' L', Hle Ht H' ∧ Mem w0 H' ((wc.heap.size, .cells #[.int .i64 d.size, .int .i64 d.half, .int .i64 d.scan, .bool d.busy, .slice obc d.old.length occ, .slice (some ⟨blk2, off2, none⟩) d.new.length ncc, .slice rbc d.regs.length rcc] 31) :: (w3.heap.size, .cells #[.int .i64 h.size, .int .i64 h.half, .int .i64 h.scan, .bool h.busy, .slice ob3 h.old.length oc3, .slice (some ⟨blk1, off1, none⟩) h.new.length nc3, .slice rb3 h.regs.length rc3] 31) :: (w.heap.size, PBox size regs (.slice lb ds.length lc)) :: L') w') 10 (by kernel_rfl) ?_
          have mW := mr.drew
          generalize wr.drew = W at *
          have hs0 := Lib.hid (Hle.refl Ht)
          have HS : (fun w' => ∃ H' L', Hle Ht H' ∧ Mem w0 H' ((wc.heap.size, .cells #[.int .i64 d.size, .int .i64 d.half, .int .i64 d.scan, .bool d.busy, .slice obc d.old.length occ, .slice (some ⟨blk2, off2, none⟩) d.new.length ncc, .slice rbc d.regs.length rcc] 31) :: (w3.heap.size, .cells #[.int .i64 h.size, .int .i64 h.half, .int .i64 h.scan, .bool h.busy, .slice ob3 h.old.length oc3, .slice (some ⟨blk1, off1, none⟩) h.new.length nc3, .slice rb3 h.regs.length rc3] 31) :: (w.heap.size, PBox size regs (.slice lb ds.length lc)) :: L') w') W := ⟨_, _, hs0.out, mW⟩
          refine AnyFrom.take (i := 0) (v := ?_) rfl (by kernel_rfl) (by kernel_rfl) (by kernel_rfl) (by kernel_rfl) (fun _ _ _ h => h) ⟨by kernel_rfl, ?_⟩ HS ?_
          rotate_left
          · first | (rintro w' ⟨H', L', hl', hm⟩; have es := hm.eqs; simp only [EqsL] at es; go_simp; done) | (rintro w' ⟨H', L', hl', hm⟩; have es := hm.eqs; simp only [EqsL] at es; go_simp; with_reducible rfl)
          simp only [Act.put, List.setIfInBounds_toArray, List.set_cons_zero, List.set_cons_succ, List.getElem_toArray, List.getElem_cons_succ, List.getElem_cons_zero]
          refine AnyFrom.take (i := 1) (v := ?_) rfl (by kernel_rfl) (by kernel_rfl) (by kernel_rfl) (by kernel_rfl) (fun _ _ _ h => h) ⟨by kernel_rfl, ?_⟩ HS ?_
          rotate_left
          · first | (rintro w' ⟨H', L', hl', hm⟩; have es := hm.eqs; simp only [EqsL] at es; go_simp; done) | (rintro w' ⟨H', L', hl', hm⟩; have es := hm.eqs; simp only [EqsL] at es; go_simp; with_reducible rfl)
          simp only [Act.put, List.setIfInBounds_toArray, List.set_cons_zero, List.set_cons_succ, List.getElem_toArray, List.getElem_cons_succ, List.getElem_cons_zero]
          refine AnyFrom.pure (i := 2) (v := ?_) rfl (by kernel_rfl) (by kernel_rfl) (by kernel_rfl) (by decide) (fun _ _ _ h => h) ⟨by kernel_rfl, ?_⟩ HS ?_
          rotate_left
          · first | (intro w'; go_simp; done) | (intro w'; go_simp; with_reducible rfl)
          simp only [Act.put, List.setIfInBounds_toArray, List.set_cons_zero, List.set_cons_succ, List.getElem_toArray, List.getElem_cons_succ, List.getElem_cons_zero]
          refine AnyFrom.pure (i := 3) (v := ?_) rfl (by kernel_rfl) (by kernel_rfl) (by kernel_rfl) (by decide) (fun _ _ _ h => h) ⟨by kernel_rfl, ?_⟩ HS ?_
          rotate_left
          · first | (intro w'; go_simp; done) | (intro w'; go_simp; with_reducible rfl)
          simp only [Act.put, List.setIfInBounds_toArray, List.set_cons_zero, List.set_cons_succ, List.getElem_toArray, List.getElem_cons_succ, List.getElem_cons_zero]
          refine AnyFrom.take (i := 4) (v := ?_) rfl (by kernel_rfl) (by kernel_rfl) (by kernel_rfl) (by kernel_rfl) (fun _ _ _ h => h) ⟨by kernel_rfl, ?_⟩ HS ?_
          rotate_left
          · first | (rintro w' ⟨H', L', hl', hm⟩; have es := hm.eqs; simp only [EqsL] at es; go_simp; done) | (rintro w' ⟨H', L', hl', hm⟩; have es := hm.eqs; simp only [EqsL] at es; go_simp; with_reducible rfl)
          simp only [Act.put, List.setIfInBounds_toArray, List.set_cons_zero, List.set_cons_succ, List.getElem_toArray, List.getElem_cons_succ, List.getElem_cons_zero]
          refine AnyFrom.take (i := 5) (v := ?_) rfl (by kernel_rfl) (by kernel_rfl) (by kernel_rfl) (by kernel_rfl) (fun _ _ _ h => h) ⟨by kernel_rfl, ?_⟩ HS ?_
          rotate_left
          · first | (rintro w' ⟨H', L', hl', hm⟩; have es := hm.eqs; simp only [EqsL] at es; have q0 := (X.out.1.mono hl').cell hm; go_simp; done) | (rintro w' ⟨H', L', hl', hm⟩; have es := hm.eqs; simp only [EqsL] at es; have q0 := (X.out.1.mono hl').cell hm; go_simp; with_reducible rfl)
          simp only [Act.put, List.setIfInBounds_toArray, List.set_cons_zero, List.set_cons_succ, List.getElem_toArray, List.getElem_cons_succ, List.getElem_cons_zero]
          refine AnyFrom.take (i := 6) (v := ?_) rfl (by kernel_rfl) (by kernel_rfl) (by kernel_rfl) (by kernel_rfl) (fun _ _ _ h => h) ⟨by kernel_rfl, ?_⟩ HS ?_
          rotate_left
          · first | (rintro w' ⟨H', L', hl', hm⟩; have es := hm.eqs; simp only [EqsL] at es; go_simp; done) | (rintro w' ⟨H', L', hl', hm⟩; have es := hm.eqs; simp only [EqsL] at es; go_simp; with_reducible rfl)
          simp only [Act.put, List.setIfInBounds_toArray, List.set_cons_zero, List.set_cons_succ, List.getElem_toArray, List.getElem_cons_succ, List.getElem_cons_zero]
          refine AnyFrom.take (i := 7) (v := ?_) rfl (by kernel_rfl) (by kernel_rfl) (by kernel_rfl) (by kernel_rfl) (fun _ _ _ h => h) ⟨by kernel_rfl, ?_⟩ HS ?_
          rotate_left
          · first | (rintro w' ⟨H', L', hl', hm⟩; have es := hm.eqs; simp only [EqsL] at es; have q1 := (X.out.2.1.mono hl').cell hm; have q2 := (X.out.2.2.1.mono hl').cell hm; have q3 := (X.out.2.2.2.1.mono hl').cell hm; have q4 := (X.out.2.2.2.2.mono hl').cell hm; go_simp; done) | (rintro w' ⟨H', L', hl', hm⟩; have es := hm.eqs; simp only [EqsL] at es; have q1 := (X.out.2.1.mono hl').cell hm; have q2 := (X.out.2.2.1.mono hl').cell hm; have q3 := (X.out.2.2.2.1.mono hl').cell hm; have q4 := (X.out.2.2.2.2.mono hl').cell hm; go_simp; with_reducible rfl)
          simp only [Act.put, List.setIfInBounds_toArray, List.set_cons_zero, List.set_cons_succ, List.getElem_toArray, List.getElem_cons_succ, List.getElem_cons_zero]
          refine AnyFrom.call (i := 8) (by kernel_rfl) rfl (by kernel_rfl) fun K hK => ?_
          go_simp
          generalize hxo : World.alloc W _ = wA2
          have mA1 : Mem w0 Ht ((W.heap.size, .cells #[.int .u8 0, .string ByteArray.empty, .int .i64 0, .slice none 0 0] 48) :: (wc.heap.size, .cells #[.int .i64 d.size, .int .i64 d.half, .int .i64 d.scan, .bool d.busy, .slice obc d.old.length occ, .slice (some ⟨blk2, off2, none⟩) d.new.length ncc, .slice rbc d.regs.length rcc] 31) :: (w3.heap.size, .cells #[.int .i64 h.size, .int .i64 h.half, .int .i64 h.scan, .bool h.busy, .slice ob3 h.old.length oc3, .slice (some ⟨blk1, off1, none⟩) h.new.length nc3, .slice rb3 h.regs.length rc3] 31) :: (w.heap.size, PBox size regs (.slice lb ds.length lc)) :: L) wA2 := by rw [← hxo]; exact mW.alloc _
          obtain ⟨bo, hxk⟩ : ∃ k, k = W.heap.size := ⟨_, rfl⟩
          rw [← hxk] at mA1
          rw [← hxk]
          replace mA1 := mA1.perm (perm_fr3 _ _ _ _ _)
          clear hxk hxo
          refine hK _ _ (.inr ⟨_, _, hs0.out, mA1⟩) ?_
          clear hK K HS
          try simp only [Act.put, List.setIfInBounds_toArray, List.set_cons_zero, List.set_cons_succ, List.getElem_toArray, List.getElem_cons_succ, List.getElem_cons_zero]
          have HS : (fun w' => ∃ H' L', Hle Ht H' ∧ Mem w0 H' ((wc.heap.size, .cells #[.int .i64 d.size, .int .i64 d.half, .int .i64 d.scan, .bool d.busy, .slice obc d.old.length occ, .slice (some ⟨blk2, off2, none⟩) d.new.length ncc, .slice rbc d.regs.length rcc] 31) :: (w3.heap.size, .cells #[.int .i64 h.size, .int .i64 h.half, .int .i64 h.scan, .bool h.busy, .slice ob3 h.old.length oc3, .slice (some ⟨blk1, off1, none⟩) h.new.length nc3, .slice rb3 h.regs.length rc3] 31) :: (w.heap.size, PBox size regs (.slice lb ds.length lc)) :: L') w') wA2 := ⟨_, _, hs0.out, mA1⟩
          refine AnyFrom.call (i := 9) (by kernel_rfl) rfl (by kernel_rfl) fun K hK => ?_
          have es := mA1.eqs
          simp only [EqsL] at es
          have ns := mA1.nes
          simp only [NeL, NeFrom] at ns
          go_simp
          have mS3 := ((((mA1.set (i := 0) (v := .int .u8 ok) (.tail (.tail (.tail .head)))).set (i := 1) (v := .string on) (.tail (.tail (.tail .head)))).set (i := 2) (v := .int .i64 onn) (.tail (.tail (.tail .head)))).set (i := 3) (v := .slice sb1 osl.length sc1) (.tail (.tail (.tail .head))))
          simp only [List.setIfInBounds_toArray, List.set_cons_zero, List.set_cons_succ] at mS3
          generalize hwx : World.setCell _ _ _ = wS4
          rw [hwx] at mS3
          refine hK _ _ (.inr ⟨_, _, hs0.out, mS3⟩) ?_
          clear hK K HS
          try simp only [Act.put, List.setIfInBounds_toArray, List.set_cons_zero, List.set_cons_succ, List.getElem_toArray, List.getElem_cons_succ, List.getElem_cons_zero]
          clear es ns hwx
          have HS : (fun w' => ∃ H' L', Hle Ht H' ∧ Mem w0 H' ((wc.heap.size, .cells #[.int .i64 d.size, .int .i64 d.half, .int .i64 d.scan, .bool d.busy, .slice obc d.old.length occ, .slice (some ⟨blk2, off2, none⟩) d.new.length ncc, .slice rbc d.regs.length rcc] 31) :: (w3.heap.size, .cells #[.int .i64 h.size, .int .i64 h.half, .int .i64 h.scan, .bool h.busy, .slice ob3 h.old.length oc3, .slice (some ⟨blk1, off1, none⟩) h.new.length nc3, .slice rb3 h.regs.length rc3] 31) :: (w.heap.size, PBox size regs (.slice lb ds.length lc)) :: L') w') wS4 := ⟨_, _, hs0.out, mS3⟩
          refine AnyFrom.done (by kernel_rfl) ?_ _
          have mo := mS3.perm (perm_ex3 _ _ _ _ L)
          have es := mo.eqs
          simp only [EqsL] at es
          have ns := mo.nes
          simp only [NeL, NeFrom] at ns
          go_wp2_with fail
          refine (turned_any _ osl _ (tsAt bl bl.length h.new.length) d.half (by have := HX.out.e.half; have := G1.out.ok.core.half; omega) hos (fun t ht => tsAt_bnd hbl t ht) (by rw [tsAt_len]; omega) (fun v hv h5 => ⟨(HOI.out v hv h5).1, by rw [tsAt_len]; exact (HOI.out v hv h5).2.2⟩) HSL1.out ST.out mo).mono ?_
          rintro e wt ⟨tb, tc, Lt, rfl, hown, m5⟩
          rw [turnK_eq (fun v hv h5 => (HOI.out v hv h5).2.1) (fun k hk => HX.out.e.lt k hk)] at hown
          obtain ⟨Hr, m6, hlr, hslr⟩ := OwnV.freeze hown m5
          have HSR := Lib.hid hslr; clear hslr hown
          have hsd := HSL2.out.mono hlr
          rw [List.length_map] at hsd
          have HSD := Lib.hid hsd; clear hsd
          have Y2 := Lib.hid (And.intro (Y.out.1.mono hlr) (And.intro (Y.out.2.1.mono hlr) (And.intro (Y.out.2.2.1.mono hlr) (Y.out.2.2.2.mono hlr))))
          have HLR := Lib.hid hlr; clear hlr
          clear es ns m5 mo mS3
          have es := m6.eqs
          simp only [EqsL] at es
          have ns := m6.nes
          simp only [NeL, NeFrom] at ns
          go_wp2_with fail
          have m7 := m6.set (i := 3) (v := .slice tb osl.length tc) (.tail (.tail (.tail .head)))
          simp only [List.setIfInBounds_toArray, List.set_cons_zero, List.set_cons_succ] at m7
          generalize hwx : World.setCell _ _ _ = wX
          rw [hwx] at m7
          clear es ns hwx m6
          refine AnyFrom.start (fun w' => ∃ H' L', Hle Hr H' ∧ Mem w0 H' ((wc.heap.size, .cells #[.int .i64 d.size, .int .i64 d.half, .int .i64 d.scan, .bool d.busy, .slice obc d.old.length occ, .slice (some ⟨blk2, off2, none⟩) d.new.length ncc, .slice rbc d.regs.length rcc] 31) :: (w3.heap.size, .cells #[.int .i64 h.size, .int .i64 h.half, .int .i64 h.scan, .bool h.busy, .slice ob3 h.old.length oc3, .slice (some ⟨blk1, off1, none⟩) h.new.length nc3, .slice rb3 h.regs.length rc3] 31) :: (w.heap.size, PBox size regs (.slice lb ds.length lc)) :: (bo, .cells #[.int .u8 ok, .string on, .int .i64 onn, .slice tb osl.length tc] 48) :: L') w') 8 (by kernel_rfl) ?_
          have mW := m7.drew
          generalize wX.drew = W at *
          have hs0 := Lib.hid (Hle.refl Hr)
          have HS : (fun w' => ∃ H' L', Hle Hr H' ∧ Mem w0 H' ((wc.heap.size, .cells #[.int .i64 d.size, .int .i64 d.half, .int .i64 d.scan, .bool d.busy, .slice obc d.old.length occ, .slice (some ⟨blk2, off2, none⟩) d.new.length ncc, .slice rbc d.regs.length rcc] 31) :: (w3.heap.size, .cells #[.int .i64 h.size, .int .i64 h.half, .int .i64 h.scan, .bool h.busy, .slice ob3 h.old.length oc3, .slice (some ⟨blk1, off1, none⟩) h.new.length nc3, .slice rb3 h.regs.length rc3] 31) :: (w.heap.size, PBox size regs (.slice lb ds.length lc)) :: (bo, .cells #[.int .u8 ok, .string on, .int .i64 onn, .slice tb osl.length tc] 48) :: L') w') W := ⟨_, _, hs0.out, mW⟩
          refine AnyFrom.take (i := 0) (v := ?_) rfl (by kernel_rfl) (by kernel_rfl) (by kernel_rfl) (by kernel_rfl) (fun _ _ _ h => h) ⟨by kernel_rfl, ?_⟩ HS ?_
          rotate_left
          · first | (rintro w' ⟨H', L', hl', hm⟩; have es := hm.eqs; simp only [EqsL] at es; go_simp; done) | (rintro w' ⟨H', L', hl', hm⟩; have es := hm.eqs; simp only [EqsL] at es; go_simp; with_reducible rfl)
          simp only [Act.put, List.setIfInBounds_toArray, List.set_cons_zero, List.set_cons_succ, List.getElem_toArray, List.getElem_cons_succ, List.getElem_cons_zero]
          refine AnyFrom.take (i := 1) (v := ?_) rfl (by kernel_rfl) (by kernel_rfl) (by kernel_rfl) (by kernel_rfl) (fun _ _ _ h => h) ⟨by kernel_rfl, ?_⟩ HS ?_
          rotate_left
          · first | (rintro w' ⟨H', L', hl', hm⟩; have es := hm.eqs; simp only [EqsL] at es; go_simp; done) | (rintro w' ⟨H', L', hl', hm⟩; have es := hm.eqs; simp only [EqsL] at es; go_simp; with_reducible rfl)
          simp only [Act.put, List.setIfInBounds_toArray, List.set_cons_zero, List.set_cons_succ, List.getElem_toArray, List.getElem_cons_succ, List.getElem_cons_zero]
          refine AnyFrom.pure (i := 2) (v := ?_) rfl (by kernel_rfl) (by kernel_rfl) (by kernel_rfl) (by decide) (fun _ _ _ h => h) ⟨by kernel_rfl, ?_⟩ HS ?_
          rotate_left
          · first | (intro w'; go_simp; done) | (intro w'; go_simp; with_reducible rfl)
          simp only [Act.put, List.setIfInBounds_toArray, List.set_cons_zero, List.set_cons_succ, List.getElem_toArray, List.getElem_cons_succ, List.getElem_cons_zero]
          refine AnyFrom.take (i := 3) (v := ?_) rfl (by kernel_rfl) (by kernel_rfl) (by kernel_rfl) (by kernel_rfl) (fun _ _ _ h => h) ⟨by kernel_rfl, ?_⟩ HS ?_
          rotate_left
          · first | (rintro w' ⟨H', L', hl', hm⟩; have es := hm.eqs; simp only [EqsL] at es; go_simp; done) | (rintro w' ⟨H', L', hl', hm⟩; have es := hm.eqs; simp only [EqsL] at es; go_simp; with_reducible rfl)
          simp only [Act.put, List.setIfInBounds_toArray, List.set_cons_zero, List.set_cons_succ, List.getElem_toArray, List.getElem_cons_succ, List.getElem_cons_zero]
          refine AnyFrom.take (i := 4) (v := ?_) rfl (by kernel_rfl) (by kernel_rfl) (by kernel_rfl) (by kernel_rfl) (fun _ _ _ h => h) ⟨by kernel_rfl, ?_⟩ HS ?_
          rotate_left
          · first | (rintro w' ⟨H', L', hl', hm⟩; have es := hm.eqs; simp only [EqsL] at es; have q1 := (Y2.out.1.mono hl').cell hm; have q2 := (Y2.out.2.1.mono hl').cell hm; have q3 := (Y2.out.2.2.1.mono hl').cell hm; have q4 := (Y2.out.2.2.2.mono hl').cell hm; go_simp; done) | (rintro w' ⟨H', L', hl', hm⟩; have es := hm.eqs; simp only [EqsL] at es; have q1 := (Y2.out.1.mono hl').cell hm; have q2 := (Y2.out.2.1.mono hl').cell hm; have q3 := (Y2.out.2.2.1.mono hl').cell hm; have q4 := (Y2.out.2.2.2.mono hl').cell hm; go_simp; with_reducible rfl)
          simp only [Act.put, List.setIfInBounds_toArray, List.set_cons_zero, List.set_cons_succ, List.getElem_toArray, List.getElem_cons_succ, List.getElem_cons_zero]
          refine AnyFrom.take (i := 5) (v := ?_) rfl (by kernel_rfl) (by kernel_rfl) (by kernel_rfl) (by kernel_rfl) (fun _ _ _ h => h) ⟨by kernel_rfl, ?_⟩ HS ?_
          rotate_left
          · first | (rintro w' ⟨H', L', hl', hm⟩; have es := hm.eqs; simp only [EqsL] at es; go_simp; done) | (rintro w' ⟨H', L', hl', hm⟩; have es := hm.eqs; simp only [EqsL] at es; go_simp; with_reducible rfl)
          simp only [Act.put, List.setIfInBounds_toArray, List.set_cons_zero, List.set_cons_succ, List.getElem_toArray, List.getElem_cons_succ, List.getElem_cons_zero]
          refine AnyFrom.call (i := 6) (by kernel_rfl) rfl (by kernel_rfl) fun K hK => ?_
          go_simp
          refine (SameObject_eq ok on onn (osl.map (turnTo d.half bl)) _ _ (by rw [List.length_map]; omega) HSD.out HSR.out mW).mono ?_
          rintro e wC2 ⟨rfl, mC1⟩
          refine hK _ _ (.inr ⟨_, _, hs0.out, mC1⟩) ?_
          clear hK K HS
          try simp only [Act.put, List.setIfInBounds_toArray, List.set_cons_zero, List.set_cons_succ, List.getElem_toArray, List.getElem_cons_succ, List.getElem_cons_zero]
          have HS : (fun w' => ∃ H' L', Hle Hr H' ∧ Mem w0 H' ((wc.heap.size, .cells #[.int .i64 d.size, .int .i64 d.half, .int .i64 d.scan, .bool d.busy, .slice obc d.old.length occ, .slice (some ⟨blk2, off2, none⟩) d.new.length ncc, .slice rbc d.regs.length rcc] 31) :: (w3.heap.size, .cells #[.int .i64 h.size, .int .i64 h.half, .int .i64 h.scan, .bool h.busy, .slice ob3 h.old.length oc3, .slice (some ⟨blk1, off1, none⟩) h.new.length nc3, .slice rb3 h.regs.length rc3] 31) :: (w.heap.size, PBox size regs (.slice lb ds.length lc)) :: (bo, .cells #[.int .u8 ok, .string on, .int .i64 onn, .slice tb osl.length tc] 48) :: L') w') wC2 := ⟨_, _, hs0.out, mC1⟩
          refine AnyFrom.pure (i := 7) (v := ?_) rfl (by kernel_rfl) (by kernel_rfl) (by kernel_rfl) (by decide) (fun _ _ _ h => h) ⟨by kernel_rfl, ?_⟩ HS ?_
          rotate_left
          · first | (intro w'; go_simp; done) | (intro w'; go_simp; with_reducible rfl)
          simp only [Act.put, List.setIfInBounds_toArray, List.set_cons_zero, List.set_cons_succ, List.getElem_toArray, List.getElem_cons_succ, List.getElem_cons_zero]
          refine AnyFrom.done (by kernel_rfl) ?_ _
          have hwk : IntKind.i64.wrap ((k : Int) + 1) = (k : Int) + 1 := wrap_i64s _ (by omega) (by omega)
          go_wp2_with fail
          go_roundw
          case rel => exact ⟨k + 1, by omega, by go_num, ((mC1.perm (perm_ex4 _ _ _ _ L)).drop).weaken HLR.out⟩
          case measure => simp [intOf]; omega
        · have hk' : k = bl.length := by omega
          subst hk'
          have hge2 : ¬ (bl.length : Int) < bl.length := by omega
          have hrl := G1.out.ok.regl
          have HRL := Lib.hid hrl; clear hrl
          go_wp2_with fail
          refine AnyFrom.start (fun w' => ∃ H' L', Hle Ht H' ∧ Mem w0 H' ((wc.heap.size, .cells #[.int .i64 d.size, .int .i64 d.half, .int .i64 d.scan, .bool d.busy, .slice obc d.old.length occ, .slice nbc d.new.length ncc, .slice rbc d.regs.length rcc] 31) :: (w3.heap.size, .cells #[.int .i64 h.size, .int .i64 h.half, .int .i64 h.scan, .bool h.busy, .slice ob3 h.old.length oc3, .slice nb3 h.new.length nc3, .slice rb3 h.regs.length rc3] 31) :: (w.heap.size, PBox size regs (.slice lb ds.length lc)) :: L') w') 13 (by kernel_rfl) ?_
          have mW := mr.drew
          generalize wr.drew = W at *
          have hs0 := Lib.hid (Hle.refl Ht)
          have HS : (fun w' => ∃ H' L', Hle Ht H' ∧ Mem w0 H' ((wc.heap.size, .cells #[.int .i64 d.size, .int .i64 d.half, .int .i64 d.scan, .bool d.busy, .slice obc d.old.length occ, .slice nbc d.new.length ncc, .slice rbc d.regs.length rcc] 31) :: (w3.heap.size, .cells #[.int .i64 h.size, .int .i64 h.half, .int .i64 h.scan, .bool h.busy, .slice ob3 h.old.length oc3, .slice nb3 h.new.length nc3, .slice rb3 h.regs.length rc3] 31) :: (w.heap.size, PBox size regs (.slice lb ds.length lc)) :: L') w') W := ⟨_, _, hs0.out, mW⟩
          refine AnyFrom.take (i := 0) (v := ?_) rfl (by kernel_rfl) (by kernel_rfl) (by kernel_rfl) (by kernel_rfl) (fun _ _ _ h => h) ⟨by kernel_rfl, ?_⟩ HS ?_
          rotate_left
          · first | (rintro w' ⟨H', L', hl', hm⟩; have es := hm.eqs; simp only [EqsL] at es; go_simp; done) | (rintro w' ⟨H', L', hl', hm⟩; have es := hm.eqs; simp only [EqsL] at es; go_simp; with_reducible rfl)
          simp only [Act.put, List.setIfInBounds_toArray, List.set_cons_zero, List.set_cons_succ, List.getElem_toArray, List.getElem_cons_succ, List.getElem_cons_zero]
          refine AnyFrom.take (i := 1) (v := ?_) rfl (by kernel_rfl) (by kernel_rfl) (by kernel_rfl) (by kernel_rfl) (fun _ _ _ h => h) ⟨by kernel_rfl, ?_⟩ HS ?_
          rotate_left
          · first | (rintro w' ⟨H', L', hl', hm⟩; have es := hm.eqs; simp only [EqsL] at es; go_simp; done) | (rintro w' ⟨H', L', hl', hm⟩; have es := hm.eqs; simp only [EqsL] at es; go_simp; with_reducible rfl)
          simp only [Act.put, List.setIfInBounds_toArray, List.set_cons_zero, List.set_cons_succ, List.getElem_toArray, List.getElem_cons_succ, List.getElem_cons_zero]
          refine AnyFrom.take (i := 2) (v := ?_) rfl (by kernel_rfl) (by kernel_rfl) (by kernel_rfl) (by kernel_rfl) (fun _ _ _ h => h) ⟨by kernel_rfl, ?_⟩ HS ?_
          rotate_left
          · first | (rintro w' ⟨H', L', hl', hm⟩; have es := hm.eqs; simp only [EqsL] at es; go_simp; done) | (rintro w' ⟨H', L', hl', hm⟩; have es := hm.eqs; simp only [EqsL] at es; go_simp; with_reducible rfl)
          simp only [Act.put, List.setIfInBounds_toArray, List.set_cons_zero, List.set_cons_succ, List.getElem_toArray, List.getElem_cons_succ, List.getElem_cons_zero]
          refine AnyFrom.take (i := 3) (v := ?_) rfl (by kernel_rfl) (by kernel_rfl) (by kernel_rfl) (by kernel_rfl) (fun _ _ _ h => h) ⟨by kernel_rfl, ?_⟩ HS ?_
          rotate_left
          · first | (rintro w' ⟨H', L', hl', hm⟩; have es := hm.eqs; simp only [EqsL] at es; go_simp; done) | (rintro w' ⟨H', L', hl', hm⟩; have es := hm.eqs; simp only [EqsL] at es; go_simp; with_reducible rfl)
          simp only [Act.put, List.setIfInBounds_toArray, List.set_cons_zero, List.set_cons_succ, List.getElem_toArray, List.getElem_cons_succ, List.getElem_cons_zero]
          refine AnyFrom.pure (i := 4) (v := ?_) rfl (by kernel_rfl) (by kernel_rfl) (by kernel_rfl) (by decide) (fun _ _ _ h => h) ⟨by kernel_rfl, ?_⟩ HS ?_
          rotate_left
          · first | (intro w'; go_simp; done) | (intro w'; go_simp; with_reducible rfl)
          simp only [Act.put, List.setIfInBounds_toArray, List.set_cons_zero, List.set_cons_succ, List.getElem_toArray, List.getElem_cons_succ, List.getElem_cons_zero]
          refine AnyFrom.take (i := 5) (v := ?_) rfl (by kernel_rfl) (by kernel_rfl) (by kernel_rfl) (by kernel_rfl) (fun _ _ _ h => h) ⟨by kernel_rfl, ?_⟩ HS ?_
          rotate_left
          · first | (rintro w' ⟨H', L', hl', hm⟩; have es := hm.eqs; simp only [EqsL] at es; go_simp; done) | (rintro w' ⟨H', L', hl', hm⟩; have es := hm.eqs; simp only [EqsL] at es; go_simp; with_reducible rfl)
          simp only [Act.put, List.setIfInBounds_toArray, List.set_cons_zero, List.set_cons_succ, List.getElem_toArray, List.getElem_cons_succ, List.getElem_cons_zero]
          refine AnyFrom.take (i := 6) (v := ?_) rfl (by kernel_rfl) (by kernel_rfl) (by kernel_rfl) (by kernel_rfl) (fun _ _ _ h => h) ⟨by kernel_rfl, ?_⟩ HS ?_
          rotate_left
          · first | (rintro w' ⟨H', L', hl', hm⟩; have es := hm.eqs; simp only [EqsL] at es; go_simp; done) | (rintro w' ⟨H', L', hl', hm⟩; have es := hm.eqs; simp only [EqsL] at es; go_simp; with_reducible rfl)
          simp only [Act.put, List.setIfInBounds_toArray, List.set_cons_zero, List.set_cons_succ, List.getElem_toArray, List.getElem_cons_succ, List.getElem_cons_zero]
          refine AnyFrom.call (i := 7) (by kernel_rfl) rfl (by kernel_rfl) fun K hK => ?_
          go_simp
          refine (turned_any _ h.regs _ (tsAt bl bl.length h.new.length) d.half (by have := HX.out.e.half; have := G1.out.ok.core.half; omega) (by have := HRL.out; omega) (fun t ht => tsAt_bnd hbl t ht) (by rw [tsAt_len]; omega) (fun v hv h5 => by have := idle_reg G1.out.ok HB1.out hv h5; have := G1.out.ok.core.half; exact ⟨by omega, by rw [tsAt_len]; omega⟩) FH2.out.r ST.out mW).mono ?_
          rintro e wT2 ⟨tb, tc, Lt, rfl, hown, m5⟩
          rw [turnK_eq (fun v hv h5 => HX.out.e.regm v hv h5) (fun k hk => HX.out.e.lt k hk), ← HX.out.e.regs] at hown
          obtain ⟨Hr3, mT1, hlr4, hslr⟩ := OwnV.freeze hown m5
          have HSR := Lib.hid hslr; clear hslr hown m5
          have HFD := Lib.hid (FD2.out.r.mono hlr4)
          have HLR := Lib.hid hlr4
          have hs5 := Lib.hid (hs0.out.trans hlr4)
          refine hK _ _ (.inr ⟨_, _, hs5.out, mT1⟩) ?_
          clear hK K HS
          try simp only [Act.put, List.setIfInBounds_toArray, List.set_cons_zero, List.set_cons_succ, List.getElem_toArray, List.getElem_cons_succ, List.getElem_cons_zero]
          have HS : (fun w' => ∃ H' L', Hle Ht H' ∧ Mem w0 H' ((wc.heap.size, .cells #[.int .i64 d.size, .int .i64 d.half, .int .i64 d.scan, .bool d.busy, .slice obc d.old.length occ, .slice nbc d.new.length ncc, .slice rbc d.regs.length rcc] 31) :: (w3.heap.size, .cells #[.int .i64 h.size, .int .i64 h.half, .int .i64 h.scan, .bool h.busy, .slice ob3 h.old.length oc3, .slice nb3 h.new.length nc3, .slice rb3 h.regs.length rc3] 31) :: (w.heap.size, PBox size regs (.slice lb ds.length lc)) :: L') w') wT2 := ⟨_, _, hs5.out, mT1⟩
          refine AnyFrom.call (i := 8) (by kernel_rfl) rfl (by kernel_rfl) fun K hK => ?_
          go_simp
          refine (Values_any d.regs d.regs _ _ (by have := HX.out.e.regs; have h9 := congrArg List.length this; rw [List.length_map] at h9; have := HRL.out; omega) HFD.out HSR.out mT1).mono ?_
          rintro e wV7 ⟨rfl, mV6⟩
          rw [decide_eq_true rfl]
          refine hK _ _ (.inr ⟨_, _, hs5.out, mV6⟩) ?_
          clear hK K HS
          try simp only [Act.put, List.setIfInBounds_toArray, List.set_cons_zero, List.set_cons_succ, List.getElem_toArray, List.getElem_cons_succ, List.getElem_cons_zero]
          have HS : (fun w' => ∃ H' L', Hle Ht H' ∧ Mem w0 H' ((wc.heap.size, .cells #[.int .i64 d.size, .int .i64 d.half, .int .i64 d.scan, .bool d.busy, .slice obc d.old.length occ, .slice nbc d.new.length ncc, .slice rbc d.regs.length rcc] 31) :: (w3.heap.size, .cells #[.int .i64 h.size, .int .i64 h.half, .int .i64 h.scan, .bool h.busy, .slice ob3 h.old.length oc3, .slice nb3 h.new.length nc3, .slice rb3 h.regs.length rc3] 31) :: (w.heap.size, PBox size regs (.slice lb ds.length lc)) :: L') w') wV7 := ⟨_, _, hs5.out, mV6⟩
          refine AnyFrom.pure (i := 9) (v := ?_) rfl (by kernel_rfl) (by kernel_rfl) (by kernel_rfl) (by decide) (fun _ _ _ h => h) ⟨by kernel_rfl, ?_⟩ HS ?_
          rotate_left
          · first | (intro w'; go_simp; done) | (intro w'; go_simp; with_reducible rfl)
          simp only [Act.put, List.setIfInBounds_toArray, List.set_cons_zero, List.set_cons_succ, List.getElem_toArray, List.getElem_cons_succ, List.getElem_cons_zero]
          refine AnyFrom.call (i := 10) (by kernel_rfl) rfl (by kernel_rfl) fun K hK => ?_
          go_simp
          refine (awake_any mV6).mono ?_
          rintro e wA9 ⟨rfl, mA8⟩
          refine hK _ _ (.inr ⟨_, _, hs5.out, mA8⟩) ?_
          clear hK K HS
          try simp only [Act.put, List.setIfInBounds_toArray, List.set_cons_zero, List.set_cons_succ, List.getElem_toArray, List.getElem_cons_succ, List.getElem_cons_zero]
          have HS : (fun w' => ∃ H' L', Hle Ht H' ∧ Mem w0 H' ((wc.heap.size, .cells #[.int .i64 d.size, .int .i64 d.half, .int .i64 d.scan, .bool d.busy, .slice obc d.old.length occ, .slice nbc d.new.length ncc, .slice rbc d.regs.length rcc] 31) :: (w3.heap.size, .cells #[.int .i64 h.size, .int .i64 h.half, .int .i64 h.scan, .bool h.busy, .slice ob3 h.old.length oc3, .slice nb3 h.new.length nc3, .slice rb3 h.regs.length rc3] 31) :: (w.heap.size, PBox size regs (.slice lb ds.length lc)) :: L') w') wA9 := ⟨_, _, hs5.out, mA8⟩
          refine AnyFrom.pure (i := 11) (v := ?_) rfl (by kernel_rfl) (by kernel_rfl) (by kernel_rfl) (by decide) (fun _ _ _ h => h) ⟨by kernel_rfl, ?_⟩ HS ?_
          rotate_left
          · first | (intro w'; go_simp; done) | (intro w'; go_simp; with_reducible rfl)
          simp only [Act.put, List.setIfInBounds_toArray, List.set_cons_zero, List.set_cons_succ, List.getElem_toArray, List.getElem_cons_succ, List.getElem_cons_zero]
          refine AnyFrom.pure (i := 12) (v := ?_) rfl (by kernel_rfl) (by kernel_rfl) (by kernel_rfl) (by decide) (fun _ _ _ h => h) ⟨by kernel_rfl, ?_⟩ HS ?_
          rotate_left
          · first | (intro w'; go_simp; done) | (intro w'; go_simp; with_reducible rfl)
          simp only [Act.put, List.setIfInBounds_toArray, List.set_cons_zero, List.set_cons_succ, List.getElem_toArray, List.getElem_cons_succ, List.getElem_cons_zero]
          refine AnyFrom.done (by kernel_rfl) ?_ _
          go_wp2_with fail
          go_ret
          exact ⟨rfl, (mA8.drop.drop.drop).weaken (HL2.out.trans HLR.out)⟩
end Go.Proofs.Ythipkmmdjhpklaa
