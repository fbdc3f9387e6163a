/- The walk: the document's first example. -/
import Derived.Test.YthipkmmdjhpklaaK17
namespace Go.Proofs.Ythipkmmdjhpklaa
set_option linter.unusedVariables false
set_option linter.unusedSimpArgs false
open Go.RowKit

def gM : HeapM := ⟨20, 0, 0, false, [], [⟨1, ⟨#[97]⟩, 0, []⟩, ⟨1, ⟨#[98]⟩, 0, [refV 0 0, refV 0 0]⟩, ⟨1, ⟨#[97]⟩, 0, [refV 0 1]⟩], [refV 0 2, refV 0 1, unitV]⟩
def dM : HeapM := ⟨20, 1, 0, false, [], [⟨1, ⟨#[97]⟩, 0, [refV 1 1]⟩, ⟨1, ⟨#[98]⟩, 0, [refV 1 2, refV 1 2]⟩, ⟨1, ⟨#[97]⟩, 0, []⟩], [refV 1 0, refV 1 1, unitV]⟩
theorem example_plays : (newH 20 3).plays exampleM = ([unitV, unitV, unitV, textV ⟨#[97]⟩, boolV false], gM) := by rfl
theorem more_plays : gM.plays moreM = ([unitV, unitV, unitV, intV 1, intV 2], dM) := by rfl
theorem gM_used : gM.used = 6 := by rfl
theorem gM_live (F : Nat) : (gM.liveN (F + 20) [] gM.regs).length = 3 := by rfl
/-- A heap handed over, that nobody writes. -/
structure HFr (H : Hp) (h : HeapM) (vo vn vr : Value) : Prop where
  o : SlR encHeld H vo h.old
  n : SlR encObj H vn h.new
  r : SlR encVal H vr h.regs
theorem HFr.mono {H H' : Hp} {h : HeapM} {vo vn vr : Value} (f : HFr H h vo vn vr) (hl : Hle H H') : HFr H' h vo vn vr := ⟨f.o.mono hl, f.n.mono hl, f.r.mono hl⟩
theorem perm_hp1 {α : Type} (Lo Ln Ls Lr L : List α) : (Lo ++ (Ln ++ (Ls ++ (Lr ++ L)))).Perm (Ls ++ (Lo ++ (Ln ++ (Lr ++ L)))) := (by classical exact List.perm_iff_count.2 (fun a => by simp only [List.count_append, List.count_cons, List.cons_append, List.nil_append, List.append_assoc]; omega))
theorem perm_hp2 {α : Type} (Lo Ln Lr L : List α) : (Lo ++ (Ln ++ (Lr ++ L))).Perm (Lr ++ (Lo ++ (Ln ++ L))) := (by classical exact List.perm_iff_count.2 (fun a => by simp only [List.count_append, List.count_cons, List.cons_append, List.nil_append, List.append_assoc]; omega))
theorem HeapParts.freeze {h : HeapM} {vo vn vr : Value} {w0 w : World} {H : Hp} {L : List (Nat × Obj)} (hp : HeapParts h vo vn vr w0 H L w) : ∃ H', Hle H H' ∧ HFr H' h vo vn vr ∧ Mem w0 H' L w := by
  obtain ⟨hr, rs, Lo, Ln, Ls, Lr, h1, h2, h3, hs, hv, m⟩ := hp
  obtain ⟨H1, m1, hl1, hrf⟩ := hs.freeze (m.perm (perm_hp1 Lo Ln Ls Lr L))
  obtain ⟨H2, m2, hl2, hv2⟩ := hv.freeze (m1.perm (perm_hp2 Lo Ln Lr L))
  have h2' := h2.mono (hl1.trans hl2)
  obtain ⟨H3, m3, hl3, ho3⟩ := (h1.join m2).done (h2'.chunks) rfl (by rw [h2.length])
  have hrf2 := hrf.mono (hl2.trans hl3)
  obtain ⟨H4, m4, hl4, hn4⟩ := (h3.join m3).done (hrf2.chunks) rfl (by rw [hrf.length])
  exact ⟨H4, ((hl1.trans hl2).trans hl3).trans hl4, ⟨ho3.mono hl4, hn4, hv2.mono (hl3.trans hl4)⟩, m4⟩
/-- A heap is handed back. -/
def HeapR (h : HeapM) (w0 : World) (H : Hp) (L : List (Nat × Obj)) (e : Ending) (w' : World) : Prop :=
  ∃ H' vo vn vr, e = .returned (HVal h vo vn vr) ∧ Hle H H' ∧ HFr H' h vo vn vr ∧ Mem w0 H' L w'
theorem Copy_fr (h : HeapM) (hb : HB h) (vo vn vr : Value) {w0 w : World} {H : Hp} {L : List (Nat × Obj)} (f : HFr H h vo vn vr) (m : Mem w0 H L w) :
    Calls Try.prog 23 #[HVal h vo vn vr] w (HeapR h w0 H L) := by
  obtain ⟨ob, oc, rfl⟩ := f.o.shape
  obtain ⟨nb, nc, rfl⟩ := f.n.shape
  obtain ⟨rb, rc, rfl⟩ := f.r.shape
  refine (Copy_any h hb ob nb rb oc nc rc f.o f.n f.r m).mono ?_
  rintro e w' ⟨H1, vo, vn, vr, rfl, hl, hp⟩
  obtain ⟨H2, hl2, f2, m2⟩ := hp.freeze
  exact ⟨H2, vo, vn, vr, rfl, hl.trans hl2, f2, m2⟩
theorem HVal_idle {h : HeapM} (o : HOk h) (hb : h.busy = false) {H : Hp} {vo : Value} (hv : SlR encHeld H vo h.old) (vn vr : Value) : ∃ ob oc, HVal h vo vn vr = .agg #[.int .i64 h.size, .int .i64 h.half, .int .i64 0, .bool false, .slice ob 0 oc, vn, vr] := by
  obtain ⟨ob, oc, rfl⟩ := hv.shape
  obtain ⟨h1, h2⟩ := o.core.idle hb
  refine ⟨ob, oc, ?_⟩
  unfold HVal
  rw [h1, h2, hb]
  rfl
def PlayR (h : HeapM) (ds : List DeedM) (w0 : World) (H : Hp) (L : List (Nat × Obj)) (e : Ending) (w' : World) : Prop :=
  ∃ H' vo vn vr rv, e = .returned (.tuple #[HVal (h.plays ds).2 vo vn vr, rv, .int .i64 0]) ∧ Hle H H' ∧ HFr H' (h.plays ds).2 vo vn vr ∧ SlR encVal H' rv (h.plays ds).1 ∧ Mem w0 H' L w'
theorem Play_fr (h : HeapM) (o : HOk h) (hb : h.busy = false) (ds : List DeedM) (hn : ds.length ≤ 200) (ha : ∀ d ∈ ds, d.a ≤ 100000) (vo vn vr dv : Value) {w0 w : World} {H : Hp} {L : List (Nat × Obj)} (f : HFr H h vo vn vr) (hd : SlR encDeed H dv ds) (m : Mem w0 H L w) :
    Calls Try.prog 16 #[HVal h vo vn vr, dv] w (PlayR h ds w0 H L) := by
  obtain ⟨ob, oc, e⟩ := HVal_idle o hb f.o vn vr
  rw [e]
  refine (Play_any h o hb ob oc vn vr dv ds f.n f.r hd ha m).mono ?_
  rintro e w' (⟨h1, _⟩ | ⟨_, H', vo', vn', vr', rv, rfl, hl, h1, h2, h3, h4, m'⟩)
  · omega
  · exact ⟨H', vo', vn', vr', rv, rfl, hl, ⟨h1, h2, h3⟩, h4, m'⟩
theorem Words_fr (h : HeapM) (o : HOk h) (hb : h.busy = false) (vo vn vr : Value) {w0 w : World} {H : Hp} {L : List (Nat × Obj)} (f : HFr H h vo vn vr) (m : Mem w0 H L w) :
    Calls Try.prog 25 #[HVal h vo vn vr] w (Ret w0 H L (.tuple #[.int .i64 h.used, .int .i64 0, .int .i64 (h.size - h.used), .int .i64 0])) := by
  obtain ⟨ob, oc, e⟩ := HVal_idle o hb f.o vn vr
  rw [e]
  exact Words_any h o hb ob oc vn vr f.n f.r m
theorem Live_fr (h : HeapM) (o : HOk h) (hb : h.busy = false) (F : Nat) (hF : 12000 * 401 + h.regs.length ≤ F) (vo vn vr : Value) {w0 w : World} {H : Hp} {L : List (Nat × Obj)} (f : HFr H h vo vn vr) (m : Mem w0 H L w) :
    Calls Try.prog 29 #[HVal h vo vn vr] w (Ret w0 H L (.tuple #[.int .i64 ((h.liveN F [] h.regs).length : Nat), .int .i64 0])) := by
  obtain ⟨ob, oc, e⟩ := HVal_idle o hb f.o vn vr
  rw [e]
  exact Live_any h o hb F hF ob oc vn vr f.n f.r m
theorem newH_hok : HOk (newH 20 3) := newH_ok 20 3 (by decide) (by decide)
theorem gM_hok : HOk gM := by
  have := plays_ok exampleM newH_hok
  rwa [example_plays] at this
theorem dM_hok : HOk dM := by
  have := plays_ok moreM gM_hok
  rwa [more_plays] at this
theorem exampleM_a : ∀ d ∈ exampleM, d.a ≤ 100000 := by decide
theorem moreM_a : ∀ d ∈ moreM, d.a ≤ 100000 := by decide
theorem HOk.hbd {h : HeapM} (o : HOk h) : HB h := by
  have b := o.core.bounds
  have r := o.regl
  refine ⟨by omega, by omega, by omega, fun p hp => ?_, fun x hx => ?_⟩
  · have := (o.core.old p hp).2.2.len; omega
  · obtain ⟨i, hi, rfl⟩ := List.mem_iff_getElem.1 hx
    have := (o.core.new i _ (List.getElem?_eq_getElem hi)).len; omega
theorem exRes_fit : ∀ v ∈ [unitV, unitV, unitV, textV ⟨#[97]⟩, boolV false], v.fit := by
  intro v hv
  simp only [List.mem_cons, List.not_mem_nil, or_false] at hv
  rcases hv with rfl | rfl | rfl | rfl | rfl
  · exact unitV_fit
  · exact unitV_fit
  · exact unitV_fit
  · exact ⟨by decide, I64_small (by decide), by decide⟩
  · exact boolV_fit _
theorem moreRes_fit : ∀ v ∈ [unitV, unitV, unitV, intV 1, intV 2], v.fit := by
  intro v hv
  simp only [List.mem_cons, List.not_mem_nil, or_false] at hv
  rcases hv with rfl | rfl | rfl | rfl | rfl
  · exact unitV_fit
  · exact unitV_fit
  · exact unitV_fit
  · exact intV_fit _ (I64_small (by decide))
  · exact intV_fit _ (I64_small (by decide))
/-- A list of values, written out. -/
theorem Mem.vals {w0 w : World} {H : Hp} {L : List (Nat × Obj)} (vs : List ValM) (hf : ∀ v ∈ vs, v.fit) (hn : vs.length ≤ 100) (m : Mem w0 H L w) :
    ∃ H', Mem w0 H' L (w.alloc (.cells (valCs vs).toArray 50)) ∧ Hle H H' ∧ SlR encVal H' (.slice (some ⟨w.heap.size, 0, none⟩) vs.length vs.length) vs :=
  (m.alloc _).lit (valCs_chunks vs hf) (by unfold maxLen; omega)
theorem ref3_fit : ∀ v ∈ [(⟨5, 3, ByteArray.empty⟩ : ValM)], v.fit := by
  intro v hv
  simp only [List.mem_cons, List.not_mem_nil, or_false] at hv
  subst hv
  exact ⟨by decide, I64_small (by decide), by decide⟩
theorem ref5_fit : ∀ v ∈ [(⟨5, 5, ByteArray.empty⟩ : ValM), ⟨5, 5, ByteArray.empty⟩], v.fit := by
  intro v hv
  simp only [List.mem_cons, List.not_mem_nil, or_false] at hv
  rcases hv with rfl | rfl <;> exact ⟨by decide, I64_small (by decide), by decide⟩
theorem ref1_fit : ∀ v ∈ [(⟨5, 1, ByteArray.empty⟩ : ValM), ⟨5, 3, ByteArray.empty⟩, unitV], v.fit := by
  intro v hv
  simp only [List.mem_cons, List.not_mem_nil, or_false] at hv
  rcases hv with rfl | rfl | rfl
  · exact ⟨by decide, I64_small (by decide), by decide⟩
  · exact ⟨by decide, I64_small (by decide), by decide⟩
  · exact unitV_fit
theorem dM_rows {H : Hp} {u v : Value} (hu : SlR encVal H u [⟨5, 3, ByteArray.empty⟩]) (hv : SlR encVal H v [⟨5, 5, ByteArray.empty⟩, ⟨5, 5, ByteArray.empty⟩]) : Chunks encObj H (rowCs [⟨1, ⟨#[97]⟩, 0, u⟩, ⟨1, ⟨#[98]⟩, 0, v⟩, ⟨1, ⟨#[97]⟩, 0, .slice none 0 0⟩]) dM.new :=
  RowsF.chunks (.cons ⟨rfl, rfl, rfl, ⟨by decide, I64_small (by decide), by decide⟩, hu⟩ (.cons ⟨rfl, rfl, rfl, ⟨by decide, I64_small (by decide), by decide⟩, hv⟩ (.cons ⟨rfl, rfl, rfl, ⟨by decide, I64_small (by decide), by decide⟩, SlR.nil _ _⟩ .nil)))
def PlayS (g : HeapM) (res : List ValM) (w0 : World) (H : Hp) (L : List (Nat × Obj)) (e : Ending) (w' : World) : Prop :=
  ∃ H' vo vn vr rv, e = .returned (.tuple #[HVal g vo vn vr, rv, .int .i64 0]) ∧ Hle H H' ∧ HFr H' g vo vn vr ∧ SlR encVal H' rv res ∧ Mem w0 H' L w'
theorem play_example (vo vn vr dv : Value) {w0 w : World} {H : Hp} {L : List (Nat × Obj)} (f : HFr H (newH 20 3) vo vn vr) (hd : SlR encDeed H dv exampleM) (m : Mem w0 H L w) :
    Calls Try.prog 16 #[HVal (newH 20 3) vo vn vr, dv] w (PlayS gM [unitV, unitV, unitV, textV ⟨#[97]⟩, boolV false] w0 H L) := by
  refine (Play_fr (newH 20 3) newH_hok rfl exampleM (by decide) exampleM_a vo vn vr dv f hd m).mono ?_
  intro e w' h
  unfold PlayR at h
  rw [example_plays] at h
  exact h
theorem play_more (vo vn vr dv : Value) {w0 w : World} {H : Hp} {L : List (Nat × Obj)} (f : HFr H gM vo vn vr) (hd : SlR encDeed H dv moreM) (m : Mem w0 H L w) :
    Calls Try.prog 16 #[HVal gM vo vn vr, dv] w (PlayS dM [unitV, unitV, unitV, intV 1, intV 2] w0 H L) := by
  refine (Play_fr gM gM_hok rfl moreM (by decide) moreM_a vo vn vr dv f hd m).mono ?_
  intro e w' h
  unfold PlayR at h
  rw [more_plays] at h
  exact h
theorem words_gM (vo vn vr : Value) {w0 w : World} {H : Hp} {L : List (Nat × Obj)} (f : HFr H gM vo vn vr) (m : Mem w0 H L w) :
    Calls Try.prog 25 #[HVal gM vo vn vr] w (Ret w0 H L (.tuple #[.int .i64 6, .int .i64 0, .int .i64 14, .int .i64 0])) :=
  Words_fr gM gM_hok rfl vo vn vr f m
theorem live_gM (vo vn vr : Value) {w0 w : World} {H : Hp} {L : List (Nat × Obj)} (f : HFr H gM vo vn vr) (m : Mem w0 H L w) :
    Calls Try.prog 29 #[HVal gM vo vn vr] w (Ret w0 H L (.tuple #[.int .i64 3, .int .i64 0])) := by
  have := Live_fr gM gM_hok rfl (12000 * 401 + 3 + 20) (by simp only [gM, List.length_cons, List.length_nil]; omega) vo vn vr f m
  rw [gM_live] at this
  exact this
set_option maxRecDepth 10000 in
set_option maxHeartbeats 8000000 in
theorem awake_any {w0 w : World} {H : Hp} {L : List (Nat × Obj)} (m : Mem w0 H L w) :
    Calls Try.prog 11 #[] w (Ret w0 H L (.bool true)) := by
  go_enter Try.func11, Try.ntmps11
  go_wp2_with fail
  refine (Make_any 20 3 (I64_small (by decide)) (I64_small (by decide)) m).mono ?_
  rintro e w1 h1
  unfold MakeR at h1
  rw [if_pos (by decide)] at h1
  obtain ⟨vr, H1, rfl, hvr, hl1, m1⟩ := h1
  have f1 : HFr H1 (newH 20 3) (.slice none 0 0) (.slice none 0 0) vr := ⟨SlR.nil _ _, SlR.nil _ _, hvr⟩
  obtain ⟨rb, rc, rfl⟩ := hvr.shape
  clear hvr
  have m2 := m1.alloc (.cells #[.int .i64 20, .int .i64 0, .int .i64 0, .bool false, .slice none 0 0, .slice none 0 0, .slice rb 3 rc] 31)
  have es := m2.eqs
  simp only [EqsL] at es
  go_wp2_with fail
  refine (Copy_fr (newH 20 3) newH_hok.hbd _ _ _ f1 m2).mono ?_
  rintro e w2 ⟨H2, vo, vn, vr, rfl, hl2, f2, m3⟩
  have m4 := m3.drop
  clear es m m1 m2 m3 f1
  go_wp2_with fail
  refine (example_any m4).mono ?_
  rintro e w3 ⟨H3, dv, rfl, hl3, hd3, m5⟩
  go_wp2_with fail
  refine (play_example _ _ _ _ (f2.mono hl3) hd3 m5).mono ?_
  rintro e w4 ⟨H4, vo4, vn4, vr4, rv4, rfl, hl4, f4, hr4, m6⟩
  clear m4 m5 hd3 f2
  unfold HVal
  obtain ⟨ob, oc, rfl⟩ := f4.o.shape
  obtain ⟨nb, nc, rfl⟩ := f4.n.shape
  obtain ⟨rb, rc, rfl⟩ := f4.r.shape
  obtain ⟨qb, qc, rfl⟩ := hr4.shape
  have HR4 := Lib.hid hr4; clear hr4
  have F4 := Lib.hid f4; clear f4
  have m7 := m6.alloc (HBox 31 gM.size gM.half gM.scan gM.busy (.slice ob gM.old.length oc) (.slice nb gM.new.length nc) (.slice rb gM.regs.length rc))
  have mu := m7
  unfold HBox at mu
  have es := mu.eqs
  simp only [EqsL] at es
  go_wp2_with fail
  refine (Copy_fr gM gM_hok.hbd _ _ _ F4.out m7).mono ?_
  rintro e w5 ⟨H5, vo5, vn5, vr5, rfl, hl5, f5, m8⟩
  clear es mu m6 m7
  go_wp2_with fail
  refine (words_gM _ _ _ f5 m8).mono ?_
  rintro e w6 ⟨rfl, m9⟩
  clear f5 m8
  have mu := m9
  unfold HBox at mu
  have es := mu.eqs
  simp only [EqsL] at es
  have F5 := Lib.hid (F4.out.mono hl5)
  go_wp2_with fail
  refine (Copy_fr gM gM_hok.hbd _ _ _ F5.out m9).mono ?_
  rintro e w7 ⟨H7, vo7, vn7, vr7, rfl, hl7, f7, m10⟩
  clear es mu m9
  go_wp2_with fail
  refine (live_gM _ _ _ f7 m10).mono ?_
  rintro e w8 ⟨rfl, m11⟩
  clear f7 m10
  have mu := m11
  unfold HBox at mu
  have es := mu.eqs
  simp only [EqsL] at es
  have F7 := Lib.hid (F5.out.mono hl7)
  go_wp2_with fail
  refine (Copy_fr gM gM_hok.hbd _ _ _ F7.out m11).mono ?_
  rintro e w9 ⟨H9, vo9, vn9, vr9, rfl, hl9, f9, m12⟩
  have m13 := m12.drop
  clear es mu m11 m12
  go_wp2_with fail
  refine (more_any m13).mono ?_
  rintro e w10 ⟨H10, dv10, rfl, hl10, hd10, m14⟩
  go_wp2_with fail
  refine (play_more _ _ _ _ (f9.mono hl10) hd10 m14).mono ?_
  rintro e w11 ⟨H11, vo11, vn11, vr11, rv11, rfl, hl11, f11, hr11, m15⟩
  clear m13 m14 hd10 f9
  have HR := Lib.hid (HR4.out.mono ((((hl5.trans hl7).trans hl9).trans hl10).trans hl11))
  clear HR4 F4 F5 F7
  unfold HVal
  obtain ⟨ob1, oc1, rfl⟩ := f11.o.shape
  obtain ⟨nb1, nc1, rfl⟩ := f11.n.shape
  obtain ⟨rb1, rc1, rfl⟩ := f11.r.shape
  obtain ⟨qb1, qc1, rfl⟩ := hr11.shape
  have HR11 := Lib.hid hr11; clear hr11
  have F11 := Lib.hid f11; clear f11
  have hle := Lib.hid ((((((((hl1.trans hl2).trans hl3).trans hl4).trans hl5).trans hl7).trans hl9).trans hl10).trans hl11)
  clear hl1 hl2 hl3 hl4 hl5 hl7 hl9 hl10 hl11
  have m16 := m15.alloc (HBox 31 dM.size dM.half dM.scan dM.busy (.slice ob1 dM.old.length oc1) (.slice nb1 dM.new.length nc1) (.slice rb1 dM.regs.length rc1))
  have mu := m16
  unfold HBox at mu
  have es := mu.eqs
  simp only [EqsL] at es
  go_wp2_with fail
  refine (KText_any ⟨#[97]⟩ (by decide) m16).mono ?_
  rintro e w12 ⟨rfl, m17⟩
  clear es mu m15 m16
  go_wp2_with fail
  refine (KBool_any false m17).mono ?_
  rintro e w13 ⟨rfl, m18⟩
  unfold ValM.v textV boolV
  obtain ⟨H13, m19, hl13, hs13⟩ := Mem.vals _ exRes_fit (by decide) m18
  have HS13 := Lib.hid hs13; clear hs13 m17 m18
  go_wp2_with fail
  refine (Values_any _ _ _ _ (by decide) (HR.out.mono hl13) HS13.out m19).mono ?_
  rintro e w14 ⟨rfl, m20⟩
  rw [decide_eq_true rfl]
  clear HS13 m19
  have F13 := Lib.hid (F11.out.mono hl13)
  have HR13 := Lib.hid (HR11.out.mono hl13)
  have hle2 := Lib.hid (hle.out.trans hl13)
  clear hle hl13 HR HR11 F11
  have mu := m20
  unfold HBox at mu
  have es := mu.eqs
  simp only [EqsL] at es
  go_wp2_with fail
  refine (KRef_any 3 m20).mono ?_
  rintro e w15 ⟨rfl, m21⟩
  clear es mu m20
  unfold ValM.v
  obtain ⟨H15, m22, hl15, hs15⟩ := Mem.vals _ ref3_fit (by decide) m21
  have HS15 := Lib.hid hs15; clear hs15
  go_wp2_with fail
  refine (KRef_any 5 m22).mono ?_
  rintro e w16 ⟨rfl, m23⟩
  go_wp2_with fail
  refine (KRef_any 5 m23).mono ?_
  rintro e w17 ⟨rfl, m24⟩
  unfold ValM.v
  obtain ⟨H17, m25, hl17, hs17⟩ := Mem.vals _ ref5_fit (by decide) m24
  obtain ⟨H18, m26, hl18, hn18⟩ := (m25.alloc (.cells (rowCs [⟨1, ⟨#[97]⟩, 0, .slice (some ⟨w15.heap.size, 0, none⟩) 1 1⟩, ⟨1, ⟨#[98]⟩, 0, .slice (some ⟨w17.heap.size, 0, none⟩) 2 2⟩, ⟨1, ⟨#[97]⟩, 0, .slice none 0 0⟩]).toArray 48)).lit (dM_rows (HS15.out.mono hl17) hs17) (by decide)
  rw [World.size_alloc] at hn18
  have HN18 := Lib.hid hn18
  have F18 := Lib.hid (F13.out.mono ((hl15.trans hl17).trans hl18))
  have HR18 := Lib.hid (HR13.out.mono ((hl15.trans hl17).trans hl18))
  have hle3 := Lib.hid (((hle2.out.trans hl15).trans hl17).trans hl18)
  clear hs17 hn18 HS15 m21 m22 m23 m24 m25 F13 HR13 hle2 hl15 hl17 hl18
  go_wp2_with fail
  --REGION
  refine AnyFrom.start (fun w' => ∃ H' L', Mem w0 H' ((w11.heap.size, .cells #[.int .i64 dM.size, .int .i64 dM.half, .int .i64 dM.scan, .bool dM.busy, .slice ob1 dM.old.length oc1, .slice nb1 dM.new.length nc1, .slice rb1 dM.regs.length rc1] 31) :: L') w') 23 (by kernel_rfl) ?_
  generalize hW : World.drew _ = W
  have mW : Mem w0 H18 ((w11.heap.size, .cells #[.int .i64 dM.size, .int .i64 dM.half, .int .i64 dM.scan, .bool dM.busy, .slice ob1 dM.old.length oc1, .slice nb1 dM.new.length nc1, .slice rb1 dM.regs.length rc1] 31) :: L) W := by rw [← hW]; exact m26.drew
  clear m26 hW
  have HS : (fun w' => ∃ H' L', Mem w0 H' ((w11.heap.size, .cells #[.int .i64 dM.size, .int .i64 dM.half, .int .i64 dM.scan, .bool dM.busy, .slice ob1 dM.old.length oc1, .slice nb1 dM.new.length nc1, .slice rb1 dM.regs.length rc1] 31) :: L') w') W := ⟨_, _, mW⟩
  refine AnyFrom.pure (i := 0) (v := ?_) rfl (by kernel_rfl) (by kernel_rfl) (by kernel_rfl) (by decide) (fun _ _ _ h => h) ⟨by kernel_rfl, ?_⟩ HS ?_
  rotate_left
  · first | (intro w'; go_simp; done) | (intro w'; go_simp; with_reducible rfl)
  simp only [Act.put, List.setIfInBounds_toArray, List.set_cons_zero, List.set_cons_succ, List.getElem_toArray, List.getElem_cons_succ, List.getElem_cons_zero]
  refine AnyFrom.pure (i := 1) (v := ?_) rfl (by kernel_rfl) (by kernel_rfl) (by kernel_rfl) (by decide) (fun _ _ _ h => h) ⟨by kernel_rfl, ?_⟩ HS ?_
  rotate_left
  · first | (intro w'; go_simp; done) | (intro w'; go_simp; with_reducible rfl)
  simp only [Act.put, List.setIfInBounds_toArray, List.set_cons_zero, List.set_cons_succ, List.getElem_toArray, List.getElem_cons_succ, List.getElem_cons_zero]
  refine AnyFrom.pure (i := 2) (v := ?_) rfl (by kernel_rfl) (by kernel_rfl) (by kernel_rfl) (by decide) (fun _ _ _ h => h) ⟨by kernel_rfl, ?_⟩ HS ?_
  rotate_left
  · first | (intro w'; go_simp; done) | (intro w'; go_simp; with_reducible rfl)
  simp only [Act.put, List.setIfInBounds_toArray, List.set_cons_zero, List.set_cons_succ, List.getElem_toArray, List.getElem_cons_succ, List.getElem_cons_zero]
  refine AnyFrom.pure (i := 3) (v := ?_) rfl (by kernel_rfl) (by kernel_rfl) (by kernel_rfl) (by decide) (fun _ _ _ h => h) ⟨by kernel_rfl, ?_⟩ HS ?_
  rotate_left
  · first | (intro w'; go_simp; done) | (intro w'; go_simp; with_reducible rfl)
  simp only [Act.put, List.setIfInBounds_toArray, List.set_cons_zero, List.set_cons_succ, List.getElem_toArray, List.getElem_cons_succ, List.getElem_cons_zero]
  refine AnyFrom.pure (i := 4) (v := ?_) rfl (by kernel_rfl) (by kernel_rfl) (by kernel_rfl) (by decide) (fun _ _ _ h => h) ⟨by kernel_rfl, ?_⟩ HS ?_
  rotate_left
  · first | (intro w'; go_simp; done) | (intro w'; go_simp; with_reducible rfl)
  simp only [Act.put, List.setIfInBounds_toArray, List.set_cons_zero, List.set_cons_succ, List.getElem_toArray, List.getElem_cons_succ, List.getElem_cons_zero]
  refine AnyFrom.pure (i := 5) (v := ?_) rfl (by kernel_rfl) (by kernel_rfl) (by kernel_rfl) (by decide) (fun _ _ _ h => h) ⟨by kernel_rfl, ?_⟩ HS ?_
  rotate_left
  · first | (intro w'; go_simp; done) | (intro w'; go_simp; with_reducible rfl)
  simp only [Act.put, List.setIfInBounds_toArray, List.set_cons_zero, List.set_cons_succ, List.getElem_toArray, List.getElem_cons_succ, List.getElem_cons_zero]
  refine AnyFrom.pure (i := 6) (v := ?_) rfl (by kernel_rfl) (by kernel_rfl) (by kernel_rfl) (by decide) (fun _ _ _ h => h) ⟨by kernel_rfl, ?_⟩ HS ?_
  rotate_left
  · first | (intro w'; go_simp; done) | (intro w'; go_simp; with_reducible rfl)
  simp only [Act.put, List.setIfInBounds_toArray, List.set_cons_zero, List.set_cons_succ, List.getElem_toArray, List.getElem_cons_succ, List.getElem_cons_zero]
  refine AnyFrom.call (i := 7) (by kernel_rfl) rfl (by kernel_rfl) fun K hK => ?_
  go_simp
  refine (KInt_any 1 mW).mono ?_
  rintro e w18 ⟨rfl, mA⟩
  clear mW
  unfold ValM.v intV
  refine hK _ _ (.inr ⟨_, _, mA⟩) ?_
  clear hK K HS
  try simp only [Act.put, List.setIfInBounds_toArray, List.set_cons_zero, List.set_cons_succ, List.getElem_toArray, List.getElem_cons_succ, List.getElem_cons_zero]
  have HS : (fun w' => ∃ H' L', Mem w0 H' ((w11.heap.size, .cells #[.int .i64 dM.size, .int .i64 dM.half, .int .i64 dM.scan, .bool dM.busy, .slice ob1 dM.old.length oc1, .slice nb1 dM.new.length nc1, .slice rb1 dM.regs.length rc1] 31) :: L') w') w18 := ⟨_, _, mA⟩
  refine AnyFrom.call (i := 8) (by kernel_rfl) rfl (by kernel_rfl) fun K hK => ?_
  go_simp
  refine (KInt_any 2 mA).mono ?_
  rintro e w19 ⟨rfl, mB⟩
  clear mA
  unfold ValM.v intV
  refine hK _ _ (.inr ⟨_, _, mB⟩) ?_
  clear hK K HS
  try simp only [Act.put, List.setIfInBounds_toArray, List.set_cons_zero, List.set_cons_succ, List.getElem_toArray, List.getElem_cons_succ, List.getElem_cons_zero]
  have HS : (fun w' => ∃ H' L', Mem w0 H' ((w11.heap.size, .cells #[.int .i64 dM.size, .int .i64 dM.half, .int .i64 dM.scan, .bool dM.busy, .slice ob1 dM.old.length oc1, .slice nb1 dM.new.length nc1, .slice rb1 dM.regs.length rc1] 31) :: L') w') w19 := ⟨_, _, mB⟩
  refine AnyFrom.call (i := 9) (by kernel_rfl) rfl (by kernel_rfl) fun K hK => ?_
  go_simp
  obtain ⟨H19, mC, hl19, hs19⟩ := Mem.vals _ moreRes_fit (by decide) mB
  clear mB
  have HS19 := Lib.hid hs19; clear hs19
  refine hK _ _ (.inr ⟨_, _, mC⟩) ?_
  clear hK K HS
  try simp only [Act.put, List.setIfInBounds_toArray, List.set_cons_zero, List.set_cons_succ, List.getElem_toArray, List.getElem_cons_succ, List.getElem_cons_zero]
  have HS : (fun w' => ∃ H' L', Mem w0 H' ((w11.heap.size, .cells #[.int .i64 dM.size, .int .i64 dM.half, .int .i64 dM.scan, .bool dM.busy, .slice ob1 dM.old.length oc1, .slice nb1 dM.new.length nc1, .slice rb1 dM.regs.length rc1] 31) :: L') w') _ := ⟨_, _, mC⟩
  refine AnyFrom.call (i := 10) (by kernel_rfl) rfl (by kernel_rfl) fun K hK => ?_
  go_simp
  refine (Values_any _ _ _ _ (by decide) (HR18.out.mono hl19) HS19.out mC).mono ?_
  rintro e w20 ⟨rfl, mD⟩
  clear mC
  rw [decide_eq_true rfl]
  refine hK _ _ (.inr ⟨_, _, mD⟩) ?_
  clear hK K HS
  try simp only [Act.put, List.setIfInBounds_toArray, List.set_cons_zero, List.set_cons_succ, List.getElem_toArray, List.getElem_cons_succ, List.getElem_cons_zero]
  have HS : (fun w' => ∃ H' L', Mem w0 H' ((w11.heap.size, .cells #[.int .i64 dM.size, .int .i64 dM.half, .int .i64 dM.scan, .bool dM.busy, .slice ob1 dM.old.length oc1, .slice nb1 dM.new.length nc1, .slice rb1 dM.regs.length rc1] 31) :: L') w') w20 := ⟨_, _, mD⟩
  refine AnyFrom.pure (i := 11) (v := ?_) rfl (by kernel_rfl) (by kernel_rfl) (by kernel_rfl) (by decide) (fun _ _ _ h => h) ⟨by kernel_rfl, ?_⟩ HS ?_
  rotate_left
  · first | (intro w'; go_simp; done) | (intro w'; go_simp; with_reducible rfl)
  simp only [Act.put, List.setIfInBounds_toArray, List.set_cons_zero, List.set_cons_succ, List.getElem_toArray, List.getElem_cons_succ, List.getElem_cons_zero]
  refine AnyFrom.pure (i := 12) (v := ?_) rfl (by kernel_rfl) (by kernel_rfl) (by kernel_rfl) (by decide) (fun _ _ _ h => h) ⟨by kernel_rfl, ?_⟩ HS ?_
  rotate_left
  · first | (intro w'; go_simp; done) | (intro w'; go_simp; with_reducible rfl)
  simp only [Act.put, List.setIfInBounds_toArray, List.set_cons_zero, List.set_cons_succ, List.getElem_toArray, List.getElem_cons_succ, List.getElem_cons_zero]
  refine AnyFrom.take (i := 13) (v := ?_) rfl (by kernel_rfl) (by kernel_rfl) (by kernel_rfl) (by kernel_rfl) (fun _ _ _ h => h) ⟨by kernel_rfl, ?_⟩ HS ?_
  rotate_left
  · first | (rintro w' ⟨H', L', hm⟩; have es := hm.eqs; simp only [EqsL] at es; go_simp; done) | (rintro w' ⟨H', L', hm⟩; have es := hm.eqs; simp only [EqsL] at es; go_simp; with_reducible rfl)
  simp only [Act.put, List.setIfInBounds_toArray, List.set_cons_zero, List.set_cons_succ, List.getElem_toArray, List.getElem_cons_succ, List.getElem_cons_zero]
  refine AnyFrom.pure (i := 14) (v := ?_) rfl (by kernel_rfl) (by kernel_rfl) (by kernel_rfl) (by decide) (fun _ _ _ h => h) ⟨by kernel_rfl, ?_⟩ HS ?_
  rotate_left
  · first | (intro w'; go_simp; done) | (intro w'; go_simp; with_reducible rfl)
  simp only [Act.put, List.setIfInBounds_toArray, List.set_cons_zero, List.set_cons_succ, List.getElem_toArray, List.getElem_cons_succ, List.getElem_cons_zero]
  refine AnyFrom.pure (i := 17) (v := ?_) rfl (by kernel_rfl) (by kernel_rfl) (by kernel_rfl) (by decide) (fun _ _ _ h => h) ⟨by kernel_rfl, ?_⟩ HS ?_
  rotate_left
  · first | (intro w'; go_simp; done) | (intro w'; go_simp; with_reducible rfl)
  simp only [Act.put, List.setIfInBounds_toArray, List.set_cons_zero, List.set_cons_succ, List.getElem_toArray, List.getElem_cons_succ, List.getElem_cons_zero]
  refine AnyFrom.call (i := 15) (by kernel_rfl) rfl (by kernel_rfl) fun K hK => ?_
  go_simp
  refine (KRef_any 1 mD).mono ?_
  rintro e w21 ⟨rfl, mE⟩
  clear mD
  unfold ValM.v
  refine hK _ _ (.inr ⟨_, _, mE⟩) ?_
  clear hK K HS
  try simp only [Act.put, List.setIfInBounds_toArray, List.set_cons_zero, List.set_cons_succ, List.getElem_toArray, List.getElem_cons_succ, List.getElem_cons_zero]
  have HS : (fun w' => ∃ H' L', Mem w0 H' ((w11.heap.size, .cells #[.int .i64 dM.size, .int .i64 dM.half, .int .i64 dM.scan, .bool dM.busy, .slice ob1 dM.old.length oc1, .slice nb1 dM.new.length nc1, .slice rb1 dM.regs.length rc1] 31) :: L') w') w21 := ⟨_, _, mE⟩
  refine AnyFrom.call (i := 16) (by kernel_rfl) rfl (by kernel_rfl) fun K hK => ?_
  go_simp
  refine (KRef_any 3 mE).mono ?_
  rintro e w22 ⟨rfl, mF⟩
  clear mE
  unfold ValM.v
  refine hK _ _ (.inr ⟨_, _, mF⟩) ?_
  clear hK K HS
  try simp only [Act.put, List.setIfInBounds_toArray, List.set_cons_zero, List.set_cons_succ, List.getElem_toArray, List.getElem_cons_succ, List.getElem_cons_zero]
  have HS : (fun w' => ∃ H' L', Mem w0 H' ((w11.heap.size, .cells #[.int .i64 dM.size, .int .i64 dM.half, .int .i64 dM.scan, .bool dM.busy, .slice ob1 dM.old.length oc1, .slice nb1 dM.new.length nc1, .slice rb1 dM.regs.length rc1] 31) :: L') w') w22 := ⟨_, _, mF⟩
  refine AnyFrom.call (i := 18) (by kernel_rfl) rfl (by kernel_rfl) fun K hK => ?_
  go_simp
  obtain ⟨H22, mG, hl22, hs22⟩ := Mem.vals _ ref1_fit (by decide) mF
  clear mF
  have HS22 := Lib.hid hs22; clear hs22
  refine hK _ _ (.inr ⟨_, _, mG⟩) ?_
  clear hK K HS
  try simp only [Act.put, List.setIfInBounds_toArray, List.set_cons_zero, List.set_cons_succ, List.getElem_toArray, List.getElem_cons_succ, List.getElem_cons_zero]
  have HS : (fun w' => ∃ H' L', Mem w0 H' ((w11.heap.size, .cells #[.int .i64 dM.size, .int .i64 dM.half, .int .i64 dM.scan, .bool dM.busy, .slice ob1 dM.old.length oc1, .slice nb1 dM.new.length nc1, .slice rb1 dM.regs.length rc1] 31) :: L') w') _ := ⟨_, _, mG⟩
  refine AnyFrom.pure (i := 19) (v := ?_) rfl (by kernel_rfl) (by kernel_rfl) (by kernel_rfl) (by decide) (fun _ _ _ h => h) ⟨by kernel_rfl, ?_⟩ HS ?_
  rotate_left
  · first | (intro w'; go_simp; done) | (intro w'; go_simp; with_reducible rfl)
  simp only [Act.put, List.setIfInBounds_toArray, List.set_cons_zero, List.set_cons_succ, List.getElem_toArray, List.getElem_cons_succ, List.getElem_cons_zero]
  refine AnyFrom.call (i := 20) (by kernel_rfl) rfl (by kernel_rfl) fun K hK => ?_
  go_simp
  refine (Same_eq dM dM_hok.hbd _ _ _ _ _ _ (F18.out.o.mono (hl19.trans hl22)) (F18.out.n.mono (hl19.trans hl22)) (F18.out.r.mono (hl19.trans hl22)) (SlR.nil encHeld H22) (HN18.out.mono (hl19.trans hl22)) HS22.out mG).mono ?_
  rintro e w23 ⟨rfl, mH⟩
  clear mG
  refine hK _ _ (.inr ⟨_, _, mH⟩) ?_
  clear hK K HS
  try simp only [Act.put, List.setIfInBounds_toArray, List.set_cons_zero, List.set_cons_succ, List.getElem_toArray, List.getElem_cons_succ, List.getElem_cons_zero]
  have HS : (fun w' => ∃ H' L', Mem w0 H' ((w11.heap.size, .cells #[.int .i64 dM.size, .int .i64 dM.half, .int .i64 dM.scan, .bool dM.busy, .slice ob1 dM.old.length oc1, .slice nb1 dM.new.length nc1, .slice rb1 dM.regs.length rc1] 31) :: L') w') w23 := ⟨_, _, mH⟩
  refine AnyFrom.pure (i := 21) (v := ?_) rfl (by kernel_rfl) (by kernel_rfl) (by kernel_rfl) (by decide) (fun _ _ _ h => h) ⟨by kernel_rfl, ?_⟩ HS ?_
  rotate_left
  · first | (intro w'; go_simp; done) | (intro w'; go_simp; with_reducible rfl)
  simp only [Act.put, List.setIfInBounds_toArray, List.set_cons_zero, List.set_cons_succ, List.getElem_toArray, List.getElem_cons_succ, List.getElem_cons_zero]
  refine AnyFrom.pure (i := 22) (v := ?_) rfl (by kernel_rfl) (by kernel_rfl) (by kernel_rfl) (by decide) (fun _ _ _ h => h) ⟨by kernel_rfl, ?_⟩ HS ?_
  rotate_left
  · first | (intro w'; go_simp; done) | (intro w'; go_simp; with_reducible rfl)
  simp only [Act.put, List.setIfInBounds_toArray, List.set_cons_zero, List.set_cons_succ, List.getElem_toArray, List.getElem_cons_succ, List.getElem_cons_zero]
  refine AnyFrom.done (by kernel_rfl) ?_ _
  go_wp2_with fail
  go_ret
  exact ⟨rfl, mH.drop.weaken ((hle3.out.trans hl19).trans hl22)⟩
end Go.Proofs.Ythipkmmdjhpklaa
