/- Whatever the names and the number, the law FlatSplits (lodelaw09) returns true, and its arguments read behind the call as they read before. Conditions: none beyond the given card's (the listed variables hold what the program's text lays). -/
import Derived.Test.YthcaafhpnmmfmaaGreatDoorK08
import Derived.Test.YthcaafhpnmmfmaaGreatDoorK16
import Derived.Test.YthcaafhpnmmfmaaGreatDoorK17
import Derived.Test.YthcaafhpnmmfmaaGreatDoorRows
import Derived.Test.YthcaafhpnmmfmaaGreatDoorTie
import Derived.Test.YthcaafhpnmmfmaaGreatDoorCards
import Derived.Lib.LaidTab
import Derived.Lib.ItoaNum
import Derived.ChangeMaps5
import Derived.LaidMore
import Derived.OpenShut
import Derived.Stop.Joined
import Derived.SevenTiedAt
namespace Go.Proofs.YthcaafhpnmmfmaaGreatDoor
set_option linter.unusedVariables false
set_option linter.unusedSimpArgs false
open Go.ChangeShapes Go.WideShapes Go.ChangeAt Go.RowKit Go.Joins Go.Deep

/-- What the row lists. -/
def laidL : List (String × DataW Unit) := [("math/bits.deBruijn32tab", Rows.laid_math_bits_deBruijn32tab), ("math/bits.deBruijn64tab", Rows.laid_math_bits_deBruijn64tab), ("internal/strconv.uint64pow10", Rows.laid_internal_strconv_uint64pow10), ("strconv.ErrRange", Rows.laid_strconv_ErrRange), ("strconv.ErrSyntax", Rows.laid_strconv_ErrSyntax)]
/-- One listed variable's reading. -/
def VarRead (P : Program) (w : World) (n : String) (d : DataW Unit) : Prop :=
  ∃ g t cs fuel p, P.globalNamed n = some g ∧ (P.globals[g]?).map (·.type) = some t ∧ w.var? P n = some cs ∧ DataW.trod (fun _ => ()) P w 0 (fun _ => true) false fuel t cs.toList = some (d, p)
theorem laid_reads {P : Program} {w : World} : ∀ {l : List (String × DataW Unit)} {ps : List MemPlace}, DataW.LaidVars P w l ps → ∀ n d, (n, d) ∈ l → VarRead P w n d
  | [], _, _, _, _, hm => by cases hm
  | (n', d') :: r, ps, h, n, d, hm => by
    obtain ⟨g, t, cs, fuel, p, q, h1, h2, h3, h4, h5, _⟩ := h
    rcases List.mem_cons.1 hm with e | e
    · cases e
      exact ⟨g, t, cs, fuel, p, h1, h2, h3, h4⟩
    · exact laid_reads h5 n d e
theorem laid_plain {W : World} (h : laidMetH Tryz.prog laidL W) : ∀ n d, (n, d) ∈ laidL → VarRead Tryz.prog W n d := by
  have e : laidL.filter (fun x => x.2.handleName?.isSome) = [] := by kernel_rfl
  unfold laidMetH at h
  rw [e] at h
  obtain ⟨ps, h1, _⟩ := h
  exact laid_reads h1
theorem door_met (os : Os) (args : Array Value) : laidMetH Tryz.prog laidL ((World.doorLaid Tryz.prog 400 os).forCall (fun _ _ => 0) ⟨#[], args, []⟩).memory :=
  laidMetH_of_parts3 (fuel := 8) (laidMet_of_run' 8 (by kernel_rfl) (by kernel_rfl)) (by kernel_rfl) (by kernel_rfl)
/-- The table of powers. -/
theorem tab_pow {W : World} (h : laidMetH Tryz.prog laidL W) : Lib.TabIs Tryz.prog W "internal/strconv.uint64pow10" .u64 Lib.pow10Tab := by
  obtain ⟨g, t, cs, fuel, p, h1, h2, h3, h4⟩ := laid_plain h "internal/strconv.uint64pow10" Rows.laid_internal_strconv_uint64pow10 (by simp [laidL])
  have hg : Tryz.prog.globalNamed "internal/strconv.uint64pow10" = some 3 := by kernel_rfl
  obtain rfl := Option.some.inj (hg.symm.trans h1)
  have ht : (Tryz.prog.globals[3]?).map (·.type) = some 200 := by kernel_rfl
  obtain rfl := Option.some.inj (ht.symm.trans h2)
  have e : (Rows.laid_internal_strconv_uint64pow10 : DataW Unit) = Lib.tabData .u64 Lib.pow10Tab := by kernel_rfl
  rw [e] at h4
  unfold Lib.TabIs
  rw [h3]
  have := Lib.cells_of_tab (zs := Lib.pow10Tab) (k := .u64) (n := 20) (e := 163) (by kernel_rfl) (by kernel_rfl) (by kernel_rfl) (by kernel_rfl) h4
  rw [← this]
theorem trod_iface {P : Program} {w : World} {t : TypeId} {m : _} (ht : P.underlying t = some (.interface m)) {l : List Value} {fuel : Nat} {nm : String} {d : DataW Unit} {p : List MemPlace} (h4 : DataW.trod (fun _ => ()) P w 0 (fun _ => true) false fuel t l = some (.iface nm d, p)) : ∃ te pe, l = [.iface te pe] := by
  cases fuel with
  | zero => simp [DataW.trod] at h4
  | succ fuel =>
    simp only [DataW.trod, ht] at h4
    split at h4 <;> first | exact ⟨_, _, rfl⟩ | (exfalso; simp at h4; done) | (exfalso; rename_i h; simp at h; done) | (exfalso; simp_all; done)
/-- A variable that holds an error. -/
theorem err_cell {W : World} {n : String} {g : Nat} {nm : String} {d : DataW Unit} (hg : Tryz.prog.globalNamed n = some g) (ht : (Tryz.prog.globals[g]?).map (·.type) = some 63) (h : VarRead Tryz.prog W n (.iface nm d)) : ∃ te pe, W.var? Tryz.prog n = some #[.iface te pe] := by
  obtain ⟨g', t, cs, fuel, p, h1, h2, h3, h4⟩ := h
  obtain rfl := Option.some.inj (hg.symm.trans h1)
  obtain rfl := Option.some.inj (ht.symm.trans h2)
  obtain ⟨te, pe, e⟩ := trod_iface Tryz.underlying63 h4
  obtain ⟨l⟩ := cs
  simp only at e
  subst e
  exact ⟨te, pe, h3⟩
theorem below_grown (w : World) (k : Nat) (os : Array Obj) : Below w.heap.size w (Go.Sort.grow (w.drewN k) os) := by
  have h : (w.drewN k).heap = w.heap := rfl
  refine ⟨rfl, rfl, rfl, ?_, fun j hj => ?_⟩
  · show w.heap.size ≤ ((w.drewN k).heap ++ os).size
    rw [h]
    simp
  · show ((w.drewN k).heap ++ os)[j]? = w.heap[j]?
    rw [h, Array.getElem?_append_left hj]
theorem itoa_laid {W : World} (h : laidMetH Tryz.prog laidL W) (n : Int) (h0 : -9223372036854775808 ≤ n) (h1 : n ≤ 9223372036854775807) (w1 : World) (hb : Below W.heap.size W w1) : ItoaAt n w1 := by
  have hg : Tryz.prog.globalNamed "internal/strconv.uint64pow10" = some 3 := by kernel_rfl
  refine (Tryz.strconv_Itoa n h0 h1 w1 (tab_stays hg (tab_pow h) hb (Nat.le_refl _))).mono ?_
  rintro e w' ⟨rfl, k, os, rfl⟩
  exact ⟨rfl, below_grown _ _ _⟩
theorem atoi_laid {W : World} (h : laidMetH Tryz.prog laidL W) (t : ByteArray) (ht : t.size ≤ 250) (w1 : World) (hb : Below W.heap.size W w1) : AtoiAt t w1 := by
  rcases ha : Lib.atoiAll t.data.toList with v | _ | _
  · refine (Tryz.strconv_Atoi_ok t (by omega) v ha w1).mono ?_
    rintro e w' ⟨rfl, hw⟩
    refine ⟨?_, .inl ⟨v, ha, rfl⟩⟩
    rcases hw with rfl | ⟨b, rfl⟩
    · exact Below.refl _ _
    · exact Go.Joins.below_bytesWorld _ _ _ _ (Nat.le_refl _)
  · have hg : Tryz.prog.globalNamed "strconv.ErrSyntax" = some 1 := by kernel_rfl
    obtain ⟨te, pe, hv⟩ := err_cell hg (by kernel_rfl) (laid_plain h _ _ (show ("strconv.ErrSyntax", Rows.laid_strconv_ErrSyntax) ∈ laidL by simp [laidL]))
    refine (Any.strconv_Atoi_syntax_var Tryz.laysC172 t (by omega) ha te pe w1 (var_stays hg hv hb (Nat.le_refl _))).mono ?_
    rintro e w' ⟨N, rfl, _, _, hb2⟩
    exact ⟨hb2, .inr ⟨fun v hv => (by rw [ha] at hv; cases hv), 0, _, _, by omega, by omega, rfl⟩⟩
  · have hg : Tryz.prog.globalNamed "strconv.ErrRange" = some 2 := by kernel_rfl
    obtain ⟨te, pe, hv⟩ := err_cell hg (by kernel_rfl) (laid_plain h _ _ (show ("strconv.ErrRange", Rows.laid_strconv_ErrRange) ∈ laidL by simp [laidL]))
    refine (Any.strconv_Atoi_range_var Tryz.laysC172 t (by omega) ha te pe w1 (var_stays hg hv hb (Nat.le_refl _))).mono ?_
    rintro e w' ⟨N, rfl, _, _, hb2⟩
    exact ⟨hb2, .inr ⟨fun v hv => (by rw [ha] at hv; cases hv), Lib.atoiSat t.data.toList, _, _, (by unfold Lib.atoiSat; split <;> omega), (by unfold Lib.atoiSat; split <;> omega), rfl⟩⟩

set_option maxRecDepth 100000 in
theorem flatSplits_lifted (os : Os) (started : os.Started) (H : Type) (enc : TypeId × Value → H) :
    ReturnsInHanded {} Tryz.checked os 3 .any (fun w args => (Rows.flatSplitsSpec.pre enc Tryz.prog Tryz.f3 [] false w args ∧ laidMetH Tryz.prog laidL w) ∧ sizedMet enc Tryz.prog Tryz.f3 (OpenSpec.ofChange Rows.flatSplitsSpec) false w args)
      (Rows.flatSplitsSpec.post enc Tryz.prog Tryz.f3 false true false false) := by
  refine returnsInHanded_of_change_and (C := Tryz.checked) (X := fun w _ => laidMetH Tryz.prog laidL w) (fun _ _ _ hh h => h.of_heap hh) Tryz.own started (by kernel_rfl) Tryz.func3
    (ChangeSpec.witness_shaped (enc := enc) (C := Tryz.checked) (os := os) (X := fun w _ => laidMetH Tryz.prog laidL w) false (World.doorLaid Tryz.prog 400 os) #[.string ByteArray.empty, .int .i64 0, .string ByteArray.empty] 8 rfl (World.shaped_of_RefB (by kernel_rfl) (by kernel_rfl)) (by kernel_rfl) (by kernel_rfl) (by kernel_rfl) (door_met os _)) ?_
  intro W base args ds gs before hval0 hW _ _ hL _
  have hval : ∀ (j : Nat) t v, Tryz.f3.params[j]? = some t → args[j]? = some v → Value.okWide Tryz.prog W .any base t v := hval0
  have hW' := hW
  obtain ⟨p, q, hA0, hV, rfl, hfz, hnd⟩ := hW
  have hA : DataW.TrodAll enc Tryz.prog W 0 (fun _ => true) true Tryz.f3.params.toList args.toList ds p := hA0
  rw [Tryz.params3] at hA hval
  obtain ⟨v0, v1, v2, d0, d1, d2, p0, p1, p2, rfl, rfl, rfl, h0, h1, h2⟩ := trodAll_three hA
  obtain ⟨rfl, rfl⟩ := trodVars_none hV
  obtain ⟨s0, rfl, rfl, rfl, hs0⟩ := ChangeMaps.open_string Tryz.underlying9 (hval 0 9 v0 rfl rfl) h0
  obtain ⟨n1, rfl, rfl, rfl, hn1⟩ := open_int Tryz.underlying3 (hval 1 3 v1 rfl rfl) h1
  obtain ⟨s2, rfl, rfl, rfl, hs2⟩ := ChangeMaps.open_string Tryz.underlying9 (hval 2 9 v2 rfl rfl) h2
  clear hA0 hval0
  have hn : -9223372036854775808 ≤ n1 ∧ n1 ≤ 9223372036854775807 := by
    have e1 : IntKind.i64.min = -9223372036854775808 := by decide
    have e2 : IntKind.i64.max = 9223372036854775807 := by decide
    simp only [Lit.wf, e1, e2, Bool.and_eq_true, decide_eq_true_eq] at hn1
    exact hn1
  refine (FlatSplits_any s0 n1 s2 W hs0 hs2 hn.1 hn.2 (fun w1 _ => fk_known.below w1) (atoi_laid hL) (itoa_laid hL)).mono fun e W' ⟨he, hb⟩ => ?_
  subst he
  exact ⟨_, rfl, post_of_below (pa := []) (pv := []) hW' (fun _ _ _ => trodAll_mk1 (shut_bool Tryz.underlying4 true))
    (fun sp hsp => trodAll_mk3 (ChangeMaps.shut_string Tryz.underlying9 hs0) (shut_int Tryz.underlying3 hn1) (ChangeMaps.shut_string Tryz.underlying9 hs2))
    (fun _ _ => rfl) (by simp) hb (ok_one (by kernel_rfl) rfl (okWide_bool_mk Tryz.underlying4 true))⟩

theorem flatSplits_holds : Rows.FlatSplitsSaid :=
  OpenClaim.holds_of_wide 3 Tryz.f3 rfl rfl rfl rfl rfl rfl rfl ⟨rfl, rfl, rfl, rfl, rfl⟩ rfl rfl rfl rfl rfl (by kernel_rfl) Tryz.func3 fs_facts
    (of_decide_eq_true (by kernel_rfl)) (by unfold Func.isWrapper; first | (rw [if_pos (by decide +kernel)]; kernel_rfl) | (rw [if_neg (by decide +kernel)]; exact ⟨rfl, rfl⟩))
    (fun os started H enc _ => flatSplits_lifted os started H enc)

theorem flatSplits_card : Rows.FlatSplitsCardSaid :=
  Claim7.holds_tied_plain_at .later [] [.data, .data, .data, .sentinel, .sentinel] true (true, "f26b433b598acdccdb71f699fac856f8bd549b802556f60d804d86045ec1f553") true
    flatSplits_holds (fun _ h => by cases h) fs_wf (fun _ h => by cases h) flatSplits_row_tie rfl ⟨rfl, rfl⟩ (by kernel_rfl) rfl
    (fun f fn hf hfn => by
      obtain rfl : f = 3 := (Option.some.inj (fs_named0.symm.trans hf)).symm
      obtain rfl : fn = Tryz.f3 := (Option.some.inj (Tryz.func3.symm.trans hfn)).symm
      exact ⟨fs_looks, fun j t ht => by
        rw [Tryz.params3] at ht
        have hm : t ∈ [9, 3, 9] := by simpa using Array.mem_of_getElem? ht
        have hall : ([9, 3, 9].all fun u => !Tryz.prog.wantsStandIn u) = true := by kernel_rfl
        exact (show Tryz.prog.wantsStandIn t = false by simpa using List.all_eq_true.1 hall t hm)⟩)
    fs_goes
end Go.Proofs.YthcaafhpnmmfmaaGreatDoor
