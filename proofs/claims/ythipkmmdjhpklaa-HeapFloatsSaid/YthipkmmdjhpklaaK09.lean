/- The walk: a heap that is not busy, taken over. The walk: deeds, one after the other. The walk: the program's Play, at a heap that is not busy. A law: copying cells onto cells that hold the same leaves the world as it is; the walk of slices.Repeat of the zero value. The walk: the program's Make. The walk: the program's Words, at a heap that is not busy. Plain law: which objects live. No program in sight. -/
import Derived.Test.YthipkmmdjhpklaaK08
import Derived.Test.YthipkmmdjhpklaaK07
import Derived.Laws.CopyRow
import Derived.Laws.MakeOwn
import Derived.Shelf.Bits.Mul64
namespace Go.Proofs.Ythipkmmdjhpklaa
set_option linter.unusedVariables false
set_option linter.unusedSimpArgs false
open Go.RowKit

def idleH (size half : Int) (os : List ObjM) (xs : List ValM) : HeapM := ⟨size, half, 0, false, [], os, xs⟩
theorem HOk.idleOk {h : HeapM} (o : HOk h) (hb : h.busy = false) : h = idleH h.size h.half h.new h.regs ∧ IdleOk h.size h.half h.new h.regs := by
  have c := o.core
  obtain ⟨e1, e2⟩ := c.idle hb
  have hbb := c.bounds
  have hv : ∀ {x : ValM} {b : Bool}, ValIn h.half h.new.length h.old.length b x → inB h.half 0 h.new.length x = true ∧ isOldB h.half x = false := fun {x b} hx => by
    have h4 := plain_cases hx.1
    refine ⟨?_, ?_⟩
    · unfold inB
      rw [hx.1]
      simp only [Bool.true_and, Bool.or_eq_true, decide_eq_true_eq]
      by_cases hk : x.kind = 5
      · right
        rcases hx.2 hk with h3 | h3
        · rw [if_neg (by unfold oldV; simp only [hk]; simp; exact h3.1)]; exact h3.2
        · rw [e1] at h3; simp at h3
      · exact .inl hk
    · unfold isOldB
      refine decide_eq_false fun hk => ?_
      have h5 := h4.2.2.2 hk.1
      rcases hx.2 hk.1 with h3 | h3
      · exact hk.2 (by rw [tmod2 h5]; exact h3.1)
      · rw [e1] at h3; simp at h3
  refine ⟨?_, ⟨c.size, ?_, o.regl, hbb.1, ?_, ?_, ?_, ?_⟩⟩
  · obtain ⟨a1, a2, a3, a4, a5, a6, a7⟩ := h
    simp only [idleH] at *
    rw [hb, e1, e2]
  · have := c.half; omega
  · exact List.all_eq_true.2 fun x hx => (hv (o.regs x hx)).1
  · exact List.any_eq_false.2 fun x hx => by rw [(hv (o.regs x hx)).2]; simp
  · intro p hp
    obtain ⟨i, hi, rfl⟩ := List.mem_iff_getElem.1 hp
    have h1 := c.new i _ (List.getElem?_eq_getElem hi)
    exact ⟨by rw [h1.plain, decide_eq_true h1.len]; rfl, h1.len, List.all_eq_true.2 fun x hx => (hv (h1.sl x hx)).1⟩
  · have h1 := c.words
    have h2 := dueL_ge h.old fun p hp => (c.old p hp).1
    omega
theorem perm_nh1 {α : Type} (b p : α) (R : List α) : (b :: p :: R).Perm (p :: b :: R) := .swap _ _ _
theorem perm_nh2 {α : Type} (p b : α) (L0 L : List α) : (L0 ++ (p :: b :: L)).Perm (p :: b :: (L0 ++ L)) := (by classical exact List.perm_iff_count.2 (fun a => by simp only [List.count_append, List.count_cons, List.cons_append, List.nil_append, List.append_assoc]; omega))
theorem perm_nh3 {α : Type} (p b : α) (Ln Ls L0 L : List α) : (Ln ++ (Ls ++ (p :: b :: (L0 ++ L)))).Perm (p :: b :: (Ln ++ (Ls ++ (L0 ++ L)))) := (by classical exact List.perm_iff_count.2 (fun a => by simp only [List.count_append, List.count_cons, List.cons_append, List.nil_append, List.append_assoc]; omega))
set_option maxRecDepth 10000 in
set_option maxHeartbeats 8000000 in
theorem newHeap_idle (size half : Int) (ob : Option Addr) (oc : Nat) (vn vr : Value) (os : List ObjM) (xs : List ValM) {w0 w : World} {H : Hp} {L : List (Nat × Obj)} (hv : SlR encObj H vn os) (hx : SlR encVal H vr xs) (o : IdleOk size half os xs) (m : Mem w0 H L w) :
    Calls Try.prog 50 #[.agg #[.int .i64 size, .int .i64 half, .int .i64 0, .bool false, .slice ob 0 oc, vn, vr]] w fun e w' => ∃ b, e = .returned (.tuple #[.pointer (some ⟨b, 0, none⟩), .int .i64 0]) ∧ HeapOwn TH b (idleH size half os xs) w0 H L w' := by
  have HV := Lib.hid hv
  have HX := Lib.hid hx
  have HO := Lib.hid o
  obtain ⟨nb, nc, rfl, _, hnc, _, _⟩ := hv
  obtain ⟨rb, rc, rfl, _, hrc, _, _⟩ := hx
  have hnc := size_le_maxLen hnc
  have hrc := size_le_maxLen hrc
  have hrl := o.regl
  have hnl := o.newl
  clear o
  have m1 := (m.alloc (.cells #[.int .i64 size, .int .i64 half, .int .i64 0, .bool false, .slice ob 0 oc, .slice nb os.length nc, .slice rb xs.length rc] 31)).alloc (HBox TH size half 0 false (.slice ob 0 oc) (.slice nb os.length nc) (.slice rb xs.length rc))
  rw [World.size_alloc] at m1
  go_enter Try.func50, Try.ntmps50
  go_wp2_with fail
  refine (isValid_idle (w.heap.size + 1) size half ob oc _ _ os xs HV.out HX.out HO.out m1).mono ?_
  rintro e w1 ⟨rfl, m2⟩
  have m3 := m2.perm (perm_nh1 _ _ _)
  clear m1 m2
  have mu := m3
  unfold HBox at mu
  have es := mu.eqs
  simp only [EqsL] at es
  go_wp2_with fail
  clear es mu
  refine AnyFrom.start (fun w' => ∃ L', Mem w0 H ((w.heap.size, .cells #[.int .i64 size, .int .i64 half, .int .i64 0, .bool false, .slice ob 0 oc, .slice nb os.length nc, .slice rb xs.length rc] 31) :: L') w') 21 (by kernel_rfl) ?_
  have mW := m3.drew
  clear m3
  generalize w1.drew = W at *
  have HS : ∃ L', Mem w0 H ((w.heap.size, .cells #[.int .i64 size, .int .i64 half, .int .i64 0, .bool false, .slice ob 0 oc, .slice nb os.length nc, .slice rb xs.length rc] 31) :: L') W := ⟨_, mW⟩
  refine AnyFrom.pure (i := 0) (v := ?_) rfl (by kernel_rfl) (by kernel_rfl) (by kernel_rfl) (by decide) (fun _ _ _ h => h) ⟨by kernel_rfl, ?_⟩ HS ?_
  rotate_left
  · first | (intro w'; go_simp; done) | (intro w'; go_simp; with_reducible rfl)
  simp only [Act.put, List.setIfInBounds_toArray, List.set_cons_zero, List.set_cons_succ]
  refine AnyFrom.pure (i := 1) (v := ?_) rfl (by kernel_rfl) (by kernel_rfl) (by kernel_rfl) (by decide) (fun _ _ _ h => h) ⟨by kernel_rfl, ?_⟩ HS ?_
  rotate_left
  · first | (intro w'; go_simp; done) | (intro w'; go_simp; with_reducible rfl)
  simp only [Act.put, List.setIfInBounds_toArray, List.set_cons_zero, List.set_cons_succ]
  refine AnyFrom.pure (i := 2) (v := ?_) rfl (by kernel_rfl) (by kernel_rfl) (by kernel_rfl) (by decide) (fun _ _ _ h => h) ⟨by kernel_rfl, ?_⟩ HS ?_
  rotate_left
  · first | (intro w'; go_simp; done) | (intro w'; go_simp; with_reducible rfl)
  simp only [Act.put, List.setIfInBounds_toArray, List.set_cons_zero, List.set_cons_succ]
  refine AnyFrom.take (i := 3) (v := ?_) rfl (by kernel_rfl) (by kernel_rfl) (by kernel_rfl) (by kernel_rfl) (fun _ _ _ h => h) ⟨by kernel_rfl, ?_⟩ HS ?_
  rotate_left
  · first | (rintro w' ⟨L', hm⟩; have es := hm.eqs; simp only [EqsL] at es; go_simp; done) | (rintro w' ⟨L', hm⟩; have es := hm.eqs; simp only [EqsL] at es; go_simp; with_reducible rfl)
  simp only [Act.put, List.setIfInBounds_toArray, List.set_cons_zero, List.set_cons_succ]
  refine AnyFrom.take (i := 4) (v := ?_) rfl (by kernel_rfl) (by kernel_rfl) (by kernel_rfl) (by kernel_rfl) (fun _ _ _ h => h) ⟨by kernel_rfl, ?_⟩ HS ?_
  rotate_left
  · first | (rintro w' ⟨L', hm⟩; have es := hm.eqs; simp only [EqsL] at es; go_simp; done) | (rintro w' ⟨L', hm⟩; have es := hm.eqs; simp only [EqsL] at es; go_simp; with_reducible rfl)
  simp only [Act.put, List.setIfInBounds_toArray, List.set_cons_zero, List.set_cons_succ]
  refine AnyFrom.take (i := 6) (v := ?_) rfl (by kernel_rfl) (by kernel_rfl) (by kernel_rfl) (by kernel_rfl) (fun _ _ _ h => h) ⟨by kernel_rfl, ?_⟩ HS ?_
  rotate_left
  · first | (rintro w' ⟨L', hm⟩; have es := hm.eqs; simp only [EqsL] at es; go_simp; done) | (rintro w' ⟨L', hm⟩; have es := hm.eqs; simp only [EqsL] at es; go_simp; with_reducible rfl)
  simp only [Act.put, List.setIfInBounds_toArray, List.set_cons_zero, List.set_cons_succ]
  refine AnyFrom.take (i := 7) (v := ?_) rfl (by kernel_rfl) (by kernel_rfl) (by kernel_rfl) (by kernel_rfl) (fun _ _ _ h => h) ⟨by kernel_rfl, ?_⟩ HS ?_
  rotate_left
  · first | (rintro w' ⟨L', hm⟩; have es := hm.eqs; simp only [EqsL] at es; go_simp; done) | (rintro w' ⟨L', hm⟩; have es := hm.eqs; simp only [EqsL] at es; go_simp; with_reducible rfl)
  simp only [Act.put, List.setIfInBounds_toArray, List.set_cons_zero, List.set_cons_succ]
  refine AnyFrom.call (i := 5) (by kernel_rfl) rfl (by kernel_rfl) fun K hK => ?_
  go_simp
  refine (CloneV_any _ xs mW HX.out (by omega)).mono ?_
  rintro e w2 ⟨cb, cc, L0, rfl, hcl, mA⟩
  have mB := mA.perm (perm_nh2 _ _ L0 L)
  clear mA
  refine hK _ _ (.inr ⟨_, mB⟩) ?_
  clear hK K HS
  try simp only [Act.put, List.setIfInBounds_toArray, List.set_cons_zero, List.set_cons_succ]
  have HS : ∃ L', Mem w0 H ((w.heap.size, .cells #[.int .i64 size, .int .i64 half, .int .i64 0, .bool false, .slice ob 0 oc, .slice nb os.length nc, .slice rb xs.length rc] 31) :: L') _ := ⟨_, mB⟩
  refine AnyFrom.call (i := 8) (by kernel_rfl) rfl (by kernel_rfl) fun K hK => ?_
  go_simp
  refine (objects_any _ os HV.out (fun o ho => by have := (HO.out.new o ho).2.1; omega) (by omega) mB).mono ?_
  rintro e w4 ⟨ab, ac, rs, Ln, Ls, rfl, hn, hs, mC⟩
  have mD := mC.perm (perm_nh3 _ _ Ln Ls L0 L)
  clear mC
  refine hK _ _ (.inr ⟨_, mD⟩) ?_
  clear hK K HS
  try simp only [Act.put, List.setIfInBounds_toArray, List.set_cons_zero, List.set_cons_succ]
  have HS : ∃ L', Mem w0 H ((w.heap.size, .cells #[.int .i64 size, .int .i64 half, .int .i64 0, .bool false, .slice ob 0 oc, .slice nb os.length nc, .slice rb xs.length rc] 31) :: L') _ := ⟨_, mD⟩
  refine AnyFrom.call (i := 9) (by kernel_rfl) rfl (by kernel_rfl) fun K hK => ?_
  go_simp
  refine hK _ _ (.inr ⟨_, mD⟩) ?_
  clear hK K HS
  try simp only [Act.put, List.setIfInBounds_toArray, List.set_cons_zero, List.set_cons_succ]
  have HS : ∃ L', Mem w0 H ((w.heap.size, .cells #[.int .i64 size, .int .i64 half, .int .i64 0, .bool false, .slice ob 0 oc, .slice nb os.length nc, .slice rb xs.length rc] 31) :: L') _ := ⟨_, mD⟩
  refine AnyFrom.call (i := 10) (by kernel_rfl) rfl (by kernel_rfl) fun K hK => ?_
  go_simp
  refine hK _ _ (.inr ⟨_, mD⟩) ?_
  clear hK K HS
  try simp only [Act.put, List.setIfInBounds_toArray, List.set_cons_zero, List.set_cons_succ]
  have HS : ∃ L', Mem w0 H ((w.heap.size, .cells #[.int .i64 size, .int .i64 half, .int .i64 0, .bool false, .slice ob 0 oc, .slice nb os.length nc, .slice rb xs.length rc] 31) :: L') _ := ⟨_, mD⟩
  refine AnyFrom.call (i := 11) (by kernel_rfl) rfl (by kernel_rfl) fun K hK => ?_
  go_simp
  refine hK _ _ (.inr ⟨_, mD⟩) ?_
  clear hK K HS
  try simp only [Act.put, List.setIfInBounds_toArray, List.set_cons_zero, List.set_cons_succ]
  have HS : ∃ L', Mem w0 H ((w.heap.size, .cells #[.int .i64 size, .int .i64 half, .int .i64 0, .bool false, .slice ob 0 oc, .slice nb os.length nc, .slice rb xs.length rc] 31) :: L') _ := ⟨_, mD⟩
  have mu := mD
  try unfold HBox at mu
  have es := mu.eqs
  simp only [EqsL] at es
  refine AnyFrom.call (i := 12) (by kernel_rfl) rfl (by kernel_rfl) fun K hK => ?_
  go_simp
  have mE := mD.set (i := 6) (v := .slice cb xs.length cc) (.tail .head)
  simp only [List.setIfInBounds_toArray, List.set_cons_zero, List.set_cons_succ] at mE
  clear es mu
  refine hK _ _ (.inr ⟨_, mE⟩) ?_
  clear hK K HS
  try simp only [Act.put, List.setIfInBounds_toArray, List.set_cons_zero, List.set_cons_succ]
  have HS : ∃ L', Mem w0 H ((w.heap.size, .cells #[.int .i64 size, .int .i64 half, .int .i64 0, .bool false, .slice ob 0 oc, .slice nb os.length nc, .slice rb xs.length rc] 31) :: L') _ := ⟨_, mE⟩
  refine AnyFrom.call (i := 13) (by kernel_rfl) rfl (by kernel_rfl) fun K hK => ?_
  go_simp
  refine hK _ _ (.inr ⟨_, mE⟩) ?_
  clear hK K HS
  try simp only [Act.put, List.setIfInBounds_toArray, List.set_cons_zero, List.set_cons_succ]
  have HS : ∃ L', Mem w0 H ((w.heap.size, .cells #[.int .i64 size, .int .i64 half, .int .i64 0, .bool false, .slice ob 0 oc, .slice nb os.length nc, .slice rb xs.length rc] 31) :: L') _ := ⟨_, mE⟩
  refine AnyFrom.call (i := 14) (by kernel_rfl) rfl (by kernel_rfl) fun K hK => ?_
  go_simp
  refine hK _ _ (.inr ⟨_, mE⟩) ?_
  clear hK K HS
  try simp only [Act.put, List.setIfInBounds_toArray, List.set_cons_zero, List.set_cons_succ]
  have HS : ∃ L', Mem w0 H ((w.heap.size, .cells #[.int .i64 size, .int .i64 half, .int .i64 0, .bool false, .slice ob 0 oc, .slice nb os.length nc, .slice rb xs.length rc] 31) :: L') _ := ⟨_, mE⟩
  refine AnyFrom.call (i := 15) (by kernel_rfl) rfl (by kernel_rfl) fun K hK => ?_
  go_simp
  refine hK _ _ (.inr ⟨_, mE⟩) ?_
  clear hK K HS
  try simp only [Act.put, List.setIfInBounds_toArray, List.set_cons_zero, List.set_cons_succ]
  have HS : ∃ L', Mem w0 H ((w.heap.size, .cells #[.int .i64 size, .int .i64 half, .int .i64 0, .bool false, .slice ob 0 oc, .slice nb os.length nc, .slice rb xs.length rc] 31) :: L') _ := ⟨_, mE⟩
  have mu := mE
  try unfold HBox at mu
  have es := mu.eqs
  simp only [EqsL] at es
  refine AnyFrom.call (i := 16) (by kernel_rfl) rfl (by kernel_rfl) fun K hK => ?_
  go_simp
  have mF := mE.set (i := 5) (v := .slice ab rs.length ac) (.tail .head)
  simp only [List.setIfInBounds_toArray, List.set_cons_zero, List.set_cons_succ] at mF
  clear es mu
  refine hK _ _ (.inr ⟨_, mF⟩) ?_
  clear hK K HS
  try simp only [Act.put, List.setIfInBounds_toArray, List.set_cons_zero, List.set_cons_succ]
  have HS : ∃ L', Mem w0 H ((w.heap.size, .cells #[.int .i64 size, .int .i64 half, .int .i64 0, .bool false, .slice ob 0 oc, .slice nb os.length nc, .slice rb xs.length rc] 31) :: L') _ := ⟨_, mF⟩
  refine AnyFrom.call (i := 17) (by kernel_rfl) rfl (by kernel_rfl) fun K hK => ?_
  go_simp
  refine hK _ _ (.inr ⟨_, mF⟩) ?_
  clear hK K HS
  try simp only [Act.put, List.setIfInBounds_toArray, List.set_cons_zero, List.set_cons_succ]
  have HS : ∃ L', Mem w0 H ((w.heap.size, .cells #[.int .i64 size, .int .i64 half, .int .i64 0, .bool false, .slice ob 0 oc, .slice nb os.length nc, .slice rb xs.length rc] 31) :: L') _ := ⟨_, mF⟩
  refine AnyFrom.call (i := 18) (by kernel_rfl) rfl (by kernel_rfl) fun K hK => ?_
  go_simp
  refine hK _ _ (.inr ⟨_, mF⟩) ?_
  clear hK K HS
  try simp only [Act.put, List.setIfInBounds_toArray, List.set_cons_zero, List.set_cons_succ]
  have HS : ∃ L', Mem w0 H ((w.heap.size, .cells #[.int .i64 size, .int .i64 half, .int .i64 0, .bool false, .slice ob 0 oc, .slice nb os.length nc, .slice rb xs.length rc] 31) :: L') _ := ⟨_, mF⟩
  refine AnyFrom.call (i := 19) (by kernel_rfl) rfl (by kernel_rfl) fun K hK => ?_
  go_simp
  refine hK _ _ (.inr ⟨_, mF⟩) ?_
  clear hK K HS
  try simp only [Act.put, List.setIfInBounds_toArray, List.set_cons_zero, List.set_cons_succ]
  have HS : ∃ L', Mem w0 H ((w.heap.size, .cells #[.int .i64 size, .int .i64 half, .int .i64 0, .bool false, .slice ob 0 oc, .slice nb os.length nc, .slice rb xs.length rc] 31) :: L') _ := ⟨_, mF⟩
  have mu := mF
  try unfold HBox at mu
  have es := mu.eqs
  simp only [EqsL] at es
  refine AnyFrom.call (i := 20) (by kernel_rfl) rfl (by kernel_rfl) fun K hK => ?_
  go_simp
  have mG := mF.set (i := 4) (v := .slice none 0 0) (.tail .head)
  simp only [List.setIfInBounds_toArray, List.set_cons_zero, List.set_cons_succ] at mG
  clear es mu
  refine hK _ _ (.inr ⟨_, mG⟩) ?_
  clear hK K HS
  try simp only [Act.put, List.setIfInBounds_toArray, List.set_cons_zero, List.set_cons_succ]
  have HS : ∃ L', Mem w0 H ((w.heap.size, .cells #[.int .i64 size, .int .i64 half, .int .i64 0, .bool false, .slice ob 0 oc, .slice nb os.length nc, .slice rb xs.length rc] 31) :: L') _ := ⟨_, mG⟩
  refine AnyFrom.done (by kernel_rfl) ?_ _
  clear HS
  generalize ((w4.setCell _ _).setCell _ _).setCell _ _ = W9 at *
  have mu := mG
  have es := mu.eqs
  simp only [EqsL] at es
  go_wp2_with fail
  clear es mu
  go_loopw [6, 34] (fun _ v34 wr => v34 = .int .i64 0 ∧ Mem w0 H ((w.heap.size, .cells #[.int .i64 size, .int .i64 half, .int .i64 0, .bool false, .slice ob 0 oc, .slice nb os.length nc, .slice rb xs.length rc] 31) :: (w.heap.size + 1, .cells #[.int .i64 size, .int .i64 half, .int .i64 0, .bool false, .slice none 0 0, .slice ab rs.length ac, .slice cb xs.length cc] TH) :: (Ln ++ (Ls ++ (L0 ++ L)))) wr) (fun _ _ _ => 0)
  case atStart => exact ⟨rfl, mG⟩
  case round =>
    obtain ⟨rfl, mH⟩ := hrel
    go_wp2_with fail
    refine bodyPost_ret (v := .tuple #[.pointer (some ⟨w.heap.size + 1, 0, none⟩), .int .i64 0]) (by simp [results, Try.results50, go_sem]) rfl ?_
    exact ⟨_, rfl, rs, _, Ls, L0, hs, hcl, _, _, [], [], Ln, AccL.nil, .nil, hn, mH.drop⟩
end Go.Proofs.Ythipkmmdjhpklaa
namespace Go.Proofs.Ythipkmmdjhpklaa
set_option linter.unusedVariables false
set_option linter.unusedSimpArgs false
open Go.RowKit

theorem DeedR.mono {H H' : Hp} {d : DeedM} {lv sv : Value} (h : DeedR H d lv sv) (hl : Hle H H') : DeedR H' d lv sv := ⟨h.k, h.a, h.b, h.c, h.list.mono hl, h.obj, h.slots.mono hl, h.val⟩
def DeedM.cs (d : DeedM) (lv sv : Value) : List Value := [.int .u8 d.kind, .int .i64 d.a, .int .i64 d.b, .int .i64 d.c, lv, .int .u8 d.obj.kind, .string d.obj.name, .int .i64 d.obj.n, sv, .int .u8 d.val.kind, .int .i64 d.val.n, .string d.val.s]
def encDeed : Enc DeedM := ⟨12, fun H cs d => ∃ lv sv, cs = d.cs lv sv ∧ DeedR H d lv sv, fun hl ⟨lv, sv, h1, h2⟩ => ⟨lv, sv, h1, h2.mono hl⟩, fun ⟨lv, sv, h1, _⟩ => by rw [h1]; rfl⟩
theorem SlR.getDeed {H : Hp} {b : Option Addr} {n c : Nat} {xs : List DeedM} (h : SlR encDeed H (.slice b n c) xs) {i : Nat} (hi : i < xs.length) :
    ∃ blk off lv sv, b = some ⟨blk, off, none⟩ ∧ (∀ j u, (xs[i].cs lv sv)[j]? = some u → CellH H blk (off + i * 12 + j) u) ∧ DeedR H xs[i] lv sv := by
  obtain ⟨b', c', hv, _, _, _, hc⟩ := h
  cases hv
  obtain ⟨blk, off, cs, e1, e2, e3⟩ := hc i hi
  obtain ⟨lv, sv, rfl, e4⟩ := e2
  exact ⟨blk, off, lv, sv, e1, e3, e4⟩
/-- What deeds do, one after the other: their results, and the heap. -/
def resV (r : Int × ValM × HeapM) : ValM := if r.1 = 0 then r.2.1 else intV (-r.1)
def HeapM.plays : HeapM → List DeedM → List ValM × HeapM
  | h, [] => ([], h)
  | h, d :: l => (resV (h.do d) :: (HeapM.plays (h.do d).2.2 l).1, (HeapM.plays (h.do d).2.2 l).2)
theorem plays_snoc : ∀ (l : List DeedM) (h : HeapM) (d : DeedM), h.plays (l ++ [d]) = ((h.plays l).1 ++ [resV ((h.plays l).2.do d)], ((h.plays l).2.do d).2.2)
  | [], h, d => rfl
  | x :: l, h, d => by
    simp only [List.cons_append, HeapM.plays]
    rw [plays_snoc l]
theorem plays_ok : ∀ (l : List DeedM) {h : HeapM}, HOk h → HOk (h.plays l).2
  | [], h, o => o
  | d :: l, h, o => plays_ok l (o.do d)
theorem plays_len : ∀ (l : List DeedM) (h : HeapM), (h.plays l).1.length = l.length
  | [], h => rfl
  | d :: l, h => by simp only [HeapM.plays, List.length_cons, plays_len l]
theorem slotE_range (h : HeapM) (x : ValM) (n : Int) : 0 ≤ h.slotE x n ∧ h.slotE x n ≤ 11 := by
  unfold HeapM.slotE
  split
  · omega
  · split <;> omega
theorem do_err (h : HeapM) (d : DeedM) : 0 ≤ (h.do d).1 ∧ (h.do d).1 ≤ 11 := by
  unfold HeapM.do
  repeat' split
  · unfold HeapM.doMake; repeat' split
    all_goals simp
  · unfold HeapM.doGet; repeat' split
    · simp
    · exact slotE_range _ _ _
    · simp
  · unfold HeapM.doPut; repeat' split
    · simp
    · exact slotE_range _ _ _
    · simp
  · unfold HeapM.doMove; repeat' split
    all_goals simp
  · unfold HeapM.doSet; repeat' split
    all_goals simp
  · unfold HeapM.doSame; repeat' split
    all_goals simp
  · unfold HeapM.doRead; repeat' split
    all_goals simp
  · unfold HeapM.doBegin; repeat' split
    all_goals simp
  · unfold HeapM.doStep; repeat' split
    all_goals simp
  · simp
theorem stepM_le : ∀ (n : Nat) (h : HeapM), (h.stepM n).1 ≤ n
  | 0, h => Nat.le_refl _
  | n + 1, h => by
    unfold HeapM.stepM
    split
    · simp
    · split
      · have := stepM_le n h.scan1.endIf
        simp only; omega
      · simp
theorem intV_fit (n : Int) (h : I64 n) : (intV n).fit := ⟨by simp [intV], h, by simp [intV, maxLen]⟩
theorem unitV_fit : unitV.fit := ⟨by simp [unitV], ⟨by simp [unitV], by simp [unitV]⟩, by simp [unitV, maxLen]⟩
theorem boolV_fit (b : Bool) : (boolV b).fit := by
  refine ⟨by simp [boolV], ?_, by simp [boolV, maxLen]⟩
  cases b <;> exact ⟨by simp [boolV], by simp [boolV]⟩
theorem do_fit {h : HeapM} (o : HOk h) (d : DeedM) (ha : d.a ≤ 100000) : (resV (h.do d)).fit := by
  have her := do_err h d
  unfold resV
  split
  · rename_i h0
    have hb := o.core.bounds
    unfold HeapM.do
    repeat' split
    · unfold HeapM.doMake; repeat' split
      all_goals exact unitV_fit
    · unfold HeapM.doGet; repeat' split
      all_goals exact unitV_fit
    · unfold HeapM.doPut; repeat' split
      all_goals exact unitV_fit
    · unfold HeapM.doMove; repeat' split
      all_goals exact unitV_fit
    · unfold HeapM.doSet; repeat' split
      all_goals exact unitV_fit
    · unfold HeapM.doSame; split
      · exact unitV_fit
      · exact boolV_fit _
    · unfold HeapM.doRead; split
      · exact unitV_fit
      · rename_i hna
        have hm := reg_mem (are_mem hna (x := d.a) (by simp)).2
        have hv := o.regs _ hm
        simp only
        unfold HeapM.read
        split
        · refine ⟨by simp [textV], ⟨by simp [textV], by simp [textV]⟩, ?_⟩
          simp only [textV]
          unfold HeapM.nameAt
          cases hk : h.new[((h.reg d.a).n / 2).toNat]? with
          | none => simp [maxLen]
          | some p =>
            have hp := (o.core.new _ p hk).plain
            unfold ObjM.plain at hp
            simp only [Bool.and_eq_true, Bool.or_eq_true, decide_eq_true_eq] at hp
            simp only
            rcases hp.1.2 with e | e
            · rw [e]; simp [maxLen]
            · have := isName_size' e; unfold maxLen; omega
        · exact (hv.can (by omega) (by omega) o.core.half).fit
    · unfold HeapM.doBegin; split
      all_goals exact unitV_fit
    · unfold HeapM.doStep; split
      · exact unitV_fit
      · have := stepM_le d.a.toNat h
        exact intV_fit _ ⟨by omega, by omega⟩
    · exact unitV_fit
  · exact intV_fit _ ⟨by omega, by omega⟩
theorem plays_fit : ∀ (l : List DeedM) {h : HeapM}, HOk h → (∀ d ∈ l, d.a ≤ 100000) → ∀ v ∈ (h.plays l).1, v.fit
  | [], h, _, _ => fun v hv => by cases hv
  | d :: l, h, o, ha => fun v hv => by
    simp only [HeapM.plays] at hv
    rcases List.mem_cons.1 hv with rfl | hv
    · exact do_fit o d (ha d (.head _))
    · exact plays_fit l (o.do d) (fun x hx => ha x (.tail _ hx)) v hv
end Go.Proofs.Ythipkmmdjhpklaa
namespace Go.Proofs.Ythipkmmdjhpklaa
set_option linter.unusedVariables false
set_option linter.unusedSimpArgs false
open Go.RowKit

def heapZ : Value := .agg #[.int .i64 0, .int .i64 0, .int .i64 0, .bool false, .slice none 0 0, .slice none 0 0, .slice none 0 0]
theorem perm_py5 {α : Type} (b o : α) (Lq L : List α) : (b :: o :: (Lq ++ L)).Perm (Lq ++ (b :: o :: L)) := (by classical exact List.perm_iff_count.2 (fun a => by simp only [List.count_append, List.count_cons, List.cons_append, List.nil_append, List.append_assoc]; omega))
theorem plain_fit {x : ValM} (h : x.plain = true) (h5 : x.kind ≠ 5) : x.fit := by
  obtain ⟨h1, h2, h3, h4⟩ := plain_cases h
  have := h3 h5
  exact ⟨by omega, by unfold I64; omega, by unfold maxLen; omega⟩
theorem perm_fz1 {α : Type} (b : α) (Lo Ln Ls Lr L : List α) : (b :: (Lo ++ (Ln ++ (Ls ++ (Lr ++ L))))).Perm (Ls ++ (b :: (Lo ++ (Ln ++ (Lr ++ L))))) := (by classical exact List.perm_iff_count.2 (fun a => by simp only [List.count_append, List.count_cons, List.cons_append, List.nil_append, List.append_assoc]; omega))
theorem perm_fz2 {α : Type} (b : α) (Lo Ln Lr L : List α) : (b :: (Lo ++ (Ln ++ (Lr ++ L)))).Perm (Lr ++ (b :: (Lo ++ (Ln ++ L)))) := (by classical exact List.perm_iff_count.2 (fun a => by simp only [List.count_append, List.count_cons, List.cons_append, List.nil_append, List.append_assoc]; omega))
theorem perm_fz3 {α : Type} (b : α) (Lo Ln L : List α) : (b :: (Lo ++ (Ln ++ L))).Perm (Lo ++ (b :: (Ln ++ L))) := (by classical exact List.perm_iff_count.2 (fun a => by simp only [List.count_append, List.count_cons, List.cons_append, List.nil_append, List.append_assoc]; omega))
theorem perm_fz4 {α : Type} (b : α) (Ln L : List α) : (b :: (Ln ++ L)).Perm (Ln ++ (b :: L)) := (by classical exact List.perm_iff_count.2 (fun a => by simp only [List.count_append, List.count_cons, List.cons_append, List.nil_append, List.append_assoc]; omega))
theorem perm_py1 {α : Type} (o p : α) (L : List α) : (o :: p :: L).Perm (p :: o :: L) := .swap _ _ _
theorem perm_py2 {α : Type} (d o : α) (LH Lq L : List α) : (LH ++ (d :: o :: (Lq ++ L))).Perm (d :: (Lq ++ (o :: (LH ++ L)))) := (by classical exact List.perm_iff_count.2 (fun a => by simp only [List.count_append, List.count_cons, List.cons_append, List.nil_append, List.append_assoc]; omega))
theorem perm_py3 {α : Type} (y v : α) (Lq R : List α) : (y :: v :: (Lq ++ R)).Perm (Lq ++ (y :: v :: R)) := (by classical exact List.perm_iff_count.2 (fun a => by simp only [List.count_append, List.count_cons, List.cons_append, List.nil_append, List.append_assoc]; omega))
theorem perm_py4 {α : Type} (v o : α) (Lq LH L : List α) : (Lq ++ (v :: o :: (LH ++ L))).Perm (v :: (LH ++ (o :: (Lq ++ L)))) := (by classical exact List.perm_iff_count.2 (fun a => by simp only [List.count_append, List.count_cons, List.cons_append, List.nil_append, List.append_assoc]; omega))
theorem HeapOwn.freeze {T : TypeId} {b : Nat} {h : HeapM} {w0 w : World} {H : Hp} {L : List (Nat × Obj)} (hc : HeapOwn T b h w0 H L w) :
    ∃ H' vo vn vr, Hle H H' ∧ SlR encHeld H' vo h.old ∧ SlR encObj H' vn h.new ∧ SlR encVal H' vr h.regs ∧ Mem w0 H' ((b, HBox T h.size h.half h.scan h.busy vo vn vr) :: L) w := by
  obtain ⟨rs, rv, Ls, Lr, hs, hv, vo, vn, hr, Lo, Ln, h1, h2, h3, m⟩ := hc
  obtain ⟨H1, m1, hl1, hrf⟩ := hs.freeze (m.perm (perm_fz1 _ Lo Ln Ls Lr L))
  obtain ⟨H2, m2, hl2, hv2⟩ := hv.freeze (m1.perm (perm_fz2 _ Lo Ln Lr L))
  have h2' := h2.mono (hl1.trans hl2)
  obtain ⟨H3, m3, hl3, ho3⟩ := (h1.join (m2.perm (perm_fz3 _ Lo Ln L))).done (h2'.chunks) rfl (by rw [h2.length])
  have hrf2 := hrf.mono (hl2.trans hl3)
  obtain ⟨H4, m4, hl4, hn4⟩ := (h3.join (m3.perm (perm_fz4 _ Ln L))).done (hrf2.chunks) rfl (by rw [hrf.length])
  exact ⟨H4, vo, vn, rv, ((hl1.trans hl2).trans hl3).trans hl4, ho3.mono hl4, hn4, hv2.mono (hl3.trans hl4), m4⟩
set_option maxRecDepth 10000 in
set_option maxHeartbeats 8000000 in
theorem Play_any (h : HeapM) (o : HOk h) (hb : h.busy = false) (ob : Option Addr) (oc : Nat) (vn vr dv : Value) (ds : List DeedM) {w0 w : World} {H : Hp} {L : List (Nat × Obj)} (hv : SlR encObj H vn h.new) (hx : SlR encVal H vr h.regs) (hd : SlR encDeed H dv ds) (ha : ∀ d ∈ ds, d.a ≤ 100000) (m : Mem w0 H L w) :
    Calls Try.prog 16 #[.agg #[.int .i64 h.size, .int .i64 h.half, .int .i64 0, .bool false, .slice ob 0 oc, vn, vr], dv] w fun e w' =>
      (200 < ds.length ∧ e = .returned (.tuple #[heapZ, .slice none 0 0, .int .i64 5]) ∧ Mem w0 H L w') ∨
      (ds.length ≤ 200 ∧ ∃ H' vo' vn' vr' rv, e = .returned (.tuple #[.agg #[.int .i64 (h.plays ds).2.size, .int .i64 (h.plays ds).2.half, .int .i64 (h.plays ds).2.scan, .bool (h.plays ds).2.busy, vo', vn', vr'], rv, .int .i64 0]) ∧ Hle H H' ∧ SlR encHeld H' vo' (h.plays ds).2.old ∧ SlR encObj H' vn' (h.plays ds).2.new ∧ SlR encVal H' vr' (h.plays ds).2.regs ∧ SlR encVal H' rv (h.plays ds).1 ∧ Mem w0 H' L w') := by
  obtain ⟨hid, hio⟩ := o.idleOk hb
  have HV := Lib.hid hv
  have HX := Lib.hid hx
  have HD := Lib.hid hd
  have HA := Lib.hid ha; clear ha
  have HIO := Lib.hid hio; clear hio
  have HID := Lib.hid hid; clear hid
  have HOK := Lib.hid o; clear o
  obtain ⟨nb, nc, rfl, -, -, -, -⟩ := hv
  obtain ⟨rb, rc, rfl, -, -, -, -⟩ := hx
  obtain ⟨lb, lc, rfl, _, hlc, _, _⟩ := hd
  have hlc := size_le_maxLen hlc
  have m1 := (m.alloc (.cells #[.int .i64 h.size, .int .i64 h.half, .int .i64 0, .bool false, .slice ob 0 oc, .slice nb h.new.length nc, .slice rb h.regs.length rc] 31)).alloc (.cells #[.int .i64 0, .int .i64 0, .int .i64 0, .bool false, .slice none 0 0, .slice none 0 0, .slice none 0 0] 31)
  rw [World.size_alloc] at m1
  have m2 := (m1.perm (perm_py1 _ _ _)).drop
  clear hb
  go_enter Try.func16, Try.ntmps16
  go_wp2_with fail
  refine (newHeap_idle h.size h.half ob oc _ _ h.new h.regs HV.out HX.out HIO.out m2).mono ?_
  rintro e w1 ⟨b, rfl, hc⟩
  rw [← HID.out] at hc
  obtain ⟨LH0, mA, back0⟩ := HeapOwn.out (L1 := []) hc
  by_cases hlen : 200 < ds.length
  · have hlen1 : (200 : Int) < ds.length := by omega
    have mB := mA.perm (List.perm_middle (l₁ := LH0))
    have mu := mB
    have es := mu.eqs
    simp only [EqsL] at es
    have ns := mu.nes
    simp only [NeL, NeFrom] at ns
    go_wp2_with fail
    refine bodyPost_ret (v := .tuple #[heapZ, .slice none 0 0, .int .i64 5]) (by simp [results, Try.results16, go_sem, es, ns]; rfl) rfl ?_
    refine .inl ⟨hlen, rfl, ?_⟩
    refine Mem.dropL LH0 (MemB.done (ks := [w.heap.size + 1]) ?_)
    repeat (first | refine MemB.set (by simp) ?_ | exact ⟨[_], rfl, mB⟩)
  · have hlen1 : ¬ (200 : Int) < ds.length := by omega
    go_wp2_with fail
    clear mA back0
    go_loopw [5, 9, 10, 29] (fun v5 _ _ v29 wr => ∃ (k : Nat) (H' : Hp) (pb : Option Addr) (pc : Nat) (Lq : List (Nat × Obj)), k ≤ ds.length ∧ v29 = .int .i64 k ∧ v5 = .slice pb k pc ∧ Hle H H' ∧ AccL 50 3 (.slice pb k pc) k (valCs (h.plays (ds.take k)).1) Lq ∧ HeapOwn TH b (h.plays (ds.take k)).2 w0 H' ((w.heap.size + 1, .cells #[.int .i64 0, .int .i64 0, .int .i64 0, .bool false, .slice none 0 0, .slice none 0 0, .slice none 0 0] 31) :: (Lq ++ L)) wr) (fun _ _ _ i _ => ds.length - (intOf i).toNat)
    case atStart => exact ⟨0, H, none, 0, [], Nat.zero_le _, rfl, rfl, Hle.refl _, AccL.nil, hc⟩
    case round =>
      obtain ⟨k, H', pb, pc, Lq, hk, rfl, rfl, hle, hq, hck⟩ := hrel
      clear hc
      by_cases hlt : k < ds.length
      · obtain ⟨blk, off, lv, sv, rfl, hcell, hdr⟩ := HD.out.getDeed hlt
        have htk : ds.take (k + 1) = ds.take k ++ [ds[k]] := List.take_succ_eq_append_getElem hlt
        have hsn : (h.plays (ds.take (k + 1))).1 = (h.plays (ds.take k)).1 ++ [resV ((h.plays (ds.take k)).2.do ds[k])] := by rw [htk, plays_snoc]
        have hsn2 : (h.plays (ds.take (k + 1))).2 = ((h.plays (ds.take k)).2.do ds[k]).2.2 := by rw [htk, plays_snoc]
        have HSN := Lib.hid hsn; clear hsn
        have HSN2 := Lib.hid hsn2; clear hsn2 htk
        have hok := plays_ok (ds.take k) HOK.out
        have hda := HA.out _ (List.getElem_mem hlt)
        have her := do_err (h.plays (ds.take k)).2 ds[k]
        have HOKK := Lib.hid hok; clear hok
        have HDA := Lib.hid hda; clear hda
        have HDR := Lib.hid (hdr.mono hle); clear hdr
        generalize hdk : ds[k] = d at *
        obtain ⟨LH1, mK, _⟩ := HeapOwn.out (L1 := []) hck
        obtain ⟨lb2, lc2, rfl, -, -, -, -⟩ := HDR.out.list
        obtain ⟨sb2, sc2, rfl, -, -, -, -⟩ := HDR.out.slots
        have hfit2 : (d.cs (.slice lb2 d.list.length lc2) (.slice sb2 d.obj.slots.length sc2)).length = 12 := rfl
        have mK2 := mK.weaken hle
        have c0 := (hcell 0 _ rfl).cell mK2
        rw [Nat.add_zero] at c0
        have c1 := (hcell 1 _ rfl).cell mK2
        have c2 := (hcell 2 _ rfl).cell mK2
        have c3 := (hcell 3 _ rfl).cell mK2
        have c4 := (hcell 4 _ rfl).cell mK2
        have c5 := (hcell 5 _ rfl).cell mK2
        have c6 := (hcell 6 _ rfl).cell mK2
        have c7 := (hcell 7 _ rfl).cell mK2
        have c8 := (hcell 8 _ rfl).cell mK2
        have c9 := (hcell 9 _ rfl).cell mK2
        have c10 := (hcell 10 _ rfl).cell mK2
        have c11 := (hcell 11 _ rfl).cell mK2
        have hltI : (k : Int) < ds.length := by omega
        have hcd := hck.alloc (DBox d (.slice lb2 d.list.length lc2) (.slice sb2 d.obj.slots.length sc2))
        clear hcell mK2
        go_wp2_with fail
        refine (do_any b _ d _ _ hcd HDR.out HOKK.out HDA.out).mono ?_
        rintro e w3 ⟨rfl, H3, hle3, hc3⟩
        clear c0 c1 c2 c3 c4 c5 c6 c7 c8 c9 c10 c11 hcd mK hck
        obtain ⟨LH, mL, back⟩ := HeapOwn.out (L1 := []) hc3
        have mM := (mL.perm (perm_py2 _ _ LH Lq L)).drop
        clear mL hc3
        generalize hres : (h.plays (ds.take k)).2.do d = r at *
        obtain ⟨re, rx, rh⟩ := r
        simp only at *
        obtain ⟨rk, rn, rs'⟩ := rx
        unfold ValM.v
        by_cases hre : re = 0
        · have hrv : resV (re, ⟨rk, rn, rs'⟩, rh) = ⟨rk, rn, rs'⟩ := by unfold resV; rw [if_pos hre]
          have HRV := Lib.hid hrv; clear hrv
          subst hre
          have mD := mM.alloc (.cells #[.int .u8 rk, .int .i64 rn, .string rs'] 50)
          have mE := (mD.alloc (.cells #[.int .u8 rk, .int .i64 rn, .string rs'] 50)).perm (perm_py3 _ _ Lq _)
          rw [World.size_alloc] at mE
          go_wp2_with (at_builtin; go_must (refine wpList_append_mem (w0 := w0) (H := H3) (L := _ :: _) rfl _ _ 29 rfl 50 3 32 (.agg #[.int .u8 0, .int .i64 0, .string ByteArray.empty]) Try.underlying29 (by kernel_rfl) rfl (by decide) (.slice pb k pc) k (valCs (h.plays (ds.take k)).1) (hq.join mE) rfl (.slice (some ⟨w3.heap.size + 1, 0, none⟩) 1 1) 1 [.int .u8 rk, .int .i64 rn, .string rs'] (Src.loc (e := 50) (hq.join mE).mem (.head _)) rfl rfl (by simp [Value.oneCell']) (by omega) (by unfold maxLen; omega) ?_))
          intro v' w6 hacc
          obtain ⟨b6, c6, rfl, _, _⟩ := hacc.shape
          obtain ⟨Lq3, hq3, mF⟩ := hacc.drop.split
          have mG := (mF.perm (perm_py4 _ _ Lq3 LH L)).drop
          go_wp2_with fail
          go_roundw
          case rel =>
            refine ⟨k + 1, H3, b6, c6, Lq3, by omega, by go_num, rfl, hle.trans hle3, ?_, ?_⟩
            · rw [HSN.out, valCs_append]
              rw [HRV.out]
              exact hq3
            · rw [HSN2.out]
              exact back mG
          case measure => simp [intOf]; omega

        · have hrv : resV (re, ⟨rk, rn, rs'⟩, rh) = intV (-re) := by unfold resV; rw [if_neg hre]
          have HRV := Lib.hid hrv; clear hrv
          have hre1 : (re == 0) = false := by simpa using hre
          have hre2 : (re != 0) = true := by simpa using hre
          have mD := mM.alloc (.cells #[.int .u8 rk, .int .i64 rn, .string rs'] 50)
          go_wp2_with fail
          refine (number_any (-re) mD).mono ?_
          rintro e w5 ⟨rfl, mD2⟩
          have mD3 := ((mD2.set (i := 0) (v := .int .u8 1) .head).set (i := 1) (v := .int .i64 (-re)) .head).set (i := 2) (v := .string ByteArray.empty) .head
          simp only [List.setIfInBounds_toArray, List.set_cons_zero, List.set_cons_succ] at mD3
          have hsz : (((w5.setCell ⟨w3.heap.size, 0, none⟩ (.int .u8 1)).setCell ⟨w3.heap.size, 1, none⟩ (.int .i64 (-re))).setCell ⟨w3.heap.size, 2, none⟩ (.string ByteArray.empty)).heap.size = w5.heap.size := by simp [World.setCell]
          have mE := (mD3.alloc (.cells #[.int .u8 1, .int .i64 (-re), .string ByteArray.empty] 50)).perm (perm_py3 _ _ Lq _)
          rw [hsz] at mE
          have mu := mD2
          have es := mu.eqs
          simp only [EqsL] at es
          clear hsz
          unfold ValM.v intV
          go_wp2_with (at_builtin; go_must (refine wpList_append_mem (w0 := w0) (H := H3) (L := _ :: _) rfl _ _ 29 rfl 50 3 32 (.agg #[.int .u8 0, .int .i64 0, .string ByteArray.empty]) Try.underlying29 (by kernel_rfl) rfl (by decide) (.slice pb k pc) k (valCs (h.plays (ds.take k)).1) (hq.join mE) rfl (.slice (some ⟨w5.heap.size, 0, none⟩) 1 1) 1 [.int .u8 1, .int .i64 (-re), .string ByteArray.empty] (Src.loc (e := 50) (hq.join mE).mem (.head _)) rfl rfl (by simp [Value.oneCell']) (by omega) (by unfold maxLen; omega) ?_))
          intro v' w6 hacc
          obtain ⟨b6, c6, rfl, _, _⟩ := hacc.shape
          obtain ⟨Lq3, hq3, mF⟩ := hacc.drop.split
          have mG := (mF.perm (perm_py4 _ _ Lq3 LH L)).drop
          go_wp2_with fail
          go_roundw
          case rel =>
            refine ⟨k + 1, H3, b6, c6, Lq3, by omega, by go_num, rfl, hle.trans hle3, ?_, ?_⟩
            · rw [HSN.out, valCs_append]
              rw [HRV.out]
              exact hq3
            · rw [HSN2.out]
              exact back mG
          case measure => simp [intOf]; omega

      · have hge : ¬ (k : Int) < ds.length := by omega
        have hk' : k = ds.length := by omega
        have hKD := Lib.hid hk'; clear hk'
        obtain ⟨H2, vo', vn', vr', hle2, hvo, hvn, hvr, mZ⟩ := hck.freeze
        have mZ2 := mZ.perm (perm_py5 _ _ Lq L)
        obtain ⟨H3, mQ, hle3, hrv⟩ := (hq.join mZ2).done (valCs_chunks _ (plays_fit (ds.take k) HOK.out (fun d hd => HA.out d (List.mem_of_mem_take hd)))) rfl (by rw [plays_len, List.length_take]; omega)
        have hvo' := hvo.mono hle3
        have hvn' := hvn.mono hle3
        have hvr' := hvr.mono hle3
        clear mZ mZ2 hck hvo hvn hvr
        have mQ2 := mQ
        have mu := mQ
        unfold HBox at mu
        have es := mu.eqs
        simp only [EqsL] at es
        have ns := mu.nes
        simp only [NeL, NeFrom] at ns
        have HVO := Lib.hid hvo'
        have HVN := Lib.hid hvn'
        have HVR := Lib.hid hvr'
        have HRV := Lib.hid hrv; clear hrv
        obtain ⟨ob9, oc9, rfl, -, -, -, -⟩ := hvo'
        obtain ⟨nb9, nc9, rfl, -, -, -, -⟩ := hvn'
        obtain ⟨rb9, rc9, rfl, -, -, -, -⟩ := hvr'
        have htk : ds.take k = ds := by rw [hKD.out, List.take_length]
        rw [htk] at es mQ2
        rw [htk] at HVO HVN HVR HRV
        have HTK := Lib.hid htk; clear htk
        clear mu
        generalize hpr : h.plays ds = pr at *
        have HPR := Lib.hid hpr; clear hpr
        go_wp2_with fail
        refine bodyPost_ret (v := .tuple #[.agg #[.int .i64 pr.2.size, .int .i64 pr.2.half, .int .i64 pr.2.scan, .bool pr.2.busy, .slice ob9 pr.2.old.length oc9, .slice nb9 pr.2.new.length nc9, .slice rb9 pr.2.regs.length rc9], .slice pb k pc, .int .i64 0]) (by simp [results, Try.results16, go_sem, es, ns]) rfl ?_
        have hpr := HPR.out
        subst hpr
        refine ⟨by omega, H3, _, _, _, _, rfl, (hle.trans hle2).trans hle3, HVO.out, HVN.out, HVR.out, HRV.out, ?_⟩
        refine MemB.done (ks := [w.heap.size + 1, b]) ?_
        repeat (first | refine MemB.set (by simp) ?_ | exact ⟨[_, _], rfl, mQ2.perm (perm_py1 _ _ _)⟩)
end Go.Proofs.Ythipkmmdjhpklaa
namespace Go.Proofs.Ythipkmmdjhpklaa
set_option linter.unusedVariables false
set_option linter.unusedSimpArgs false
open Go.RowKit

section
variable {P : Program} {w : World}
theorem run_copy_same (dT sT ty elem : TypeId) (size : Nat) (f : Nat → Value) (g o dLen dCap : Nat) (a : Addr) (sLen sCap : Nat) (cur : Array Value) (t : TypeId)
    (hu : P.underlying dT = some (.slice elem)) (hs : (P.info? elem).map (·.size) = some size) (hg : w.heap[g]? = some (.cells cur t (0, 0)))
    (hsrc : ∀ j, j < Nat.min sLen dLen * size → w.cell? (a.add j) = some (f j)) (hdst : ∀ j, j < Nat.min sLen dLen * size → cur[o + j]? = some (f j)) (h1 : ∀ j, (f j).oneCell' = true) :
    (Builtin.copy_ #[dT, sT] ty #[.slice (some ⟨g, o, none⟩) dLen dCap, .slice (some a) sLen sCap]).run P w = .ok (goInt (Nat.min sLen dLen)) w := by
  generalize hn : Nat.min sLen dLen = n at *
  have hcl : ((List.range (n * size)).map f).length = n * size := by simp
  have hl := run_loadCells_list (P := P) w a ((List.range (n * size)).map f) (fun j v hv => by
    rw [List.getElem?_map] at hv
    cases hr : (List.range (n * size))[j]? with
    | none => rw [hr] at hv; cases hv
    | some k =>
      rw [hr] at hv
      have hj : j < n * size := by have := (List.getElem?_eq_some_iff.1 hr).1; simpa using this
      have hk : k = j := by have := (List.getElem?_eq_some_iff.1 hr).2; simpa using this.symm
      subst hk
      simp only [Option.map_some, Option.some.injEq] at hv
      rw [← hv]
      exact hsrc k hj)
  rw [hcl] at hl
  have hfit : n * size = 0 ∨ o + n * size ≤ cur.size := by
    rcases Nat.eq_zero_or_pos (n * size) with e | e
    · exact .inl e
    · have := hdst (n * size - 1) (by omega)
      have := (Array.getElem?_eq_some_iff.1 this).1
      omega
  cases hq : P.info? elem with
  | none => simp [hq] at hs
  | some i =>
    have hi : i.size = size := by simpa [hq] using hs
    have hst : (storeCells ⟨g, o, none⟩ ((List.range (n * size)).map f)).run P w = .ok () w := by
      rcases hfit with e | hfit
      · rw [e]; simp [storeCells]
      · rw [run_storeCells_at P g o t ((List.range (n * size)).map f) 0 cur w hg (by simpa using hfit) (fun v hv => by
          obtain ⟨j, _, rfl⟩ := List.mem_map.1 hv
          exact h1 j)]
        have hcur : (cur.toList.take (o + 0) ++ (List.range (n * size)).map f ++ cur.toList.drop (o + 0 + ((List.range (n * size)).map f).length)).toArray = cur := by
          rw [hcl, Nat.add_zero]
          apply Array.toList_inj.1
          simp only [List.append_assoc]
          apply List.ext_getElem?
          intro j
          rw [List.getElem?_append, List.getElem?_append]
          simp only [List.length_take, List.length_map, List.length_range, Array.length_toList]
          rw [Nat.min_eq_left (by omega)]
          split
          · rw [List.getElem?_take, if_pos (by assumption)]
          · split
            · rename_i h2 h3
              rw [List.getElem?_map, List.getElem?_range h3]
              have := hdst (j - o) h3
              rw [show o + (j - o) = j by omega] at this
              simpa using this.symm
            · rename_i h2 h3
              rw [List.getElem?_drop]
              congr 1
              omega
        rw [hcur, setRow_self w g cur t (0, 0) hg]
    simp [Builtin.copy_, run_underlying hu, Builtin.lenOf, Builtin.firstCells, sizeOf, typeInfo, hq, hi, hn, hl, hst]
end
set_option maxHeartbeats 1000000 in
theorem Mul64_one (n : Nat) (hn : n ≤ 4000) (w : World) :
    Calls Try.prog 89 #[.int .u64 1, .int .u64 n] w fun e w' => e = .returned (.tuple #[.int .u64 0, .int .u64 n]) ∧ w = w' := by
  have hA : bits .and .u64 (n : Int) 4294967295 = (n : Int) := by
    have h := Mul64.maskN n (by omega)
    rw [Nat.mod_eq_of_lt (by omega)] at h
    exact h
  have hB : (n : Int) / 4294967296 = 0 := by omega
  have h1 : bits .and .u64 1 4294967295 = 1 := by decide
  have h0 : bits .and .u64 0 4294967295 = 0 := by decide
  have hw : IntKind.u64.wrap (n : Int) = (n : Int) := by rw [IntKind.wrap_u64]; omega
  have hw0 : IntKind.u64.wrap 0 = 0 := by decide
  go_enter Try.func89, Try.ntmps89
  go_wp2_with fail
  refine bodyPost_ret (v := .tuple #[.int .u64 0, .int .u64 n]) (by simp [results, Try.results89, go_sem, hA, hB, h1, h0, hw, hw0]) rfl ?_
  exact ⟨rfl, rfl⟩
set_option maxHeartbeats 1000000 in
theorem Mul_one (n : Nat) (hn : n ≤ 4000) (w : World) :
    Calls Try.prog 71 #[.int .u64 1, .int .u64 n] w fun e w' => e = .returned (.tuple #[.int .u64 0, .int .u64 n]) ∧ w = w' := by
  go_enter Try.func71, Try.ntmps71
  go_wp2_with fail
  refine (Mul64_one n hn w).mono ?_
  rintro e w' ⟨rfl, rfl⟩
  go_wp2_with fail
  refine bodyPost_ret (v := .tuple #[.int .u64 0, .int .u64 n]) (by simp [results, Try.results71, go_sem]) rfl ?_
  exact ⟨rfl, rfl⟩

/-! ### slices.Repeat of the zero value -/
def zcell (j : Nat) : Value := #[Value.int .u8 0, .int .i64 0, .string ByteArray.empty][j % 3]!
theorem zcell_one (j : Nat) : (zcell j).oneCell' = true := by
  unfold zcell
  have : j % 3 = 0 ∨ j % 3 = 1 ∨ j % 3 = 2 := by omega
  rcases this with h | h | h <;> rw [h] <;> rfl
theorem zcell_add (q j : Nat) : zcell (q * 3 + j) = zcell j := by
  unfold zcell
  congr 1
  omega
theorem made_at (N j : Nat) (h : j < N * 3) : (madeCells #[Value.int .u8 0, .int .i64 0, .string ByteArray.empty] (N * 3))[j]? = some (zcell j) := by
  unfold madeCells zcell
  rw [Array.getElem?_map, Array.getElem?_range]
  simp [h]
theorem made_val : ∀ N : Nat, (madeCells #[Value.int .u8 0, .int .i64 0, .string ByteArray.empty] (N * 3)).toList = valCs (List.replicate N unitV) := by
  intro N
  apply List.ext_getElem?
  intro j
  have hl : (valCs (List.replicate N unitV)).length = N * 3 := by rw [valCs_length]; simp
  by_cases h : j < N * 3
  · have := made_at N j h
    rw [Array.getElem?_toList, this]
    obtain ⟨q, r, hr, rfl⟩ : ∃ q r, r < 3 ∧ j = q * 3 + r := ⟨j / 3, j % 3, by omega, by omega⟩
    have hq : q < (List.replicate N unitV).length := by simp; omega
    obtain ⟨e0, e1, e2⟩ := valCs_get (List.replicate N unitV) q hq
    rw [List.getElem_replicate] at e0 e1 e2
    rw [zcell_add]
    have : r = 0 ∨ r = 1 ∨ r = 2 := by omega
    rcases this with rfl | rfl | rfl
    · rw [Nat.add_zero, e0]; rfl
    · rw [e1]; rfl
    · rw [e2]; rfl
  · rw [Array.getElem?_toList, Array.getElem?_eq_none (by rw [size_madeCells]; omega), List.getElem?_eq_none (by omega)]
noncomputable def infoV : TypeInfo := (Try.prog.info? 50).get!
theorem info_val : Try.prog.info? 50 = some infoV := by kernel_rfl
theorem info_zero : infoV.zero = some (.agg #[.int .u8 0, .int .i64 0, .string ByteArray.empty]) := by kernel_rfl
theorem info_size : infoV.size = 3 := by kernel_rfl
theorem info_bytes : infoV.bytes = 32 := by kernel_rfl
theorem run_make_vals (n : Nat) (hn : n ≤ 4000) (w : World) : (Instr.makeSlice 29 (.int .i64 n) (.int .i64 n)).run Try.prog w = .ok (.slice (some ⟨w.heap.size, 0, none⟩) n n) (w.alloc (.cells (madeCells #[.int .u8 0, .int .i64 0, .string ByteArray.empty] (n * 3)) 50)) := by
  have h := run_makeSlice (P := Try.prog) w 29 50 infoV (.agg #[.int .u8 0, .int .i64 0, .string ByteArray.empty]) Try.underlying29 info_val info_zero .i64 .i64 (n : Int) (n : Int) (by omega) (by omega) (by rw [info_size]; omega) (by rw [info_bytes]; omega) (by omega)
  rw [info_size, Int.toNat_natCast] at h
  exact h
theorem copy_vals (ty : TypeId) (g o : Nat) (dLen dCap : Nat) (a : Addr) (sLen sCap N : Nat) (w : World) (hg : w.heap[g]? = some (.cells (madeCells #[.int .u8 0, .int .i64 0, .string ByteArray.empty] (N * 3)) 50 (0, 0)))
    (hsrc : ∀ j, j < Nat.min sLen dLen * 3 → w.cell? (a.add j) = some (zcell j)) (hd : o + dLen ≤ N) :
    (Builtin.copy_ #[29, 29] ty #[.slice (some ⟨g, o * 3, none⟩) dLen dCap, .slice (some a) sLen sCap]).run Try.prog w = .ok (goInt (Nat.min sLen dLen)) w :=
  run_copy_same _ _ ty 50 3 zcell g (o * 3) dLen dCap a sLen sCap _ _ Try.underlying29 (by rw [info_val, Option.map_some, info_size]) hg hsrc (fun j hj => by
    have : Nat.min sLen dLen ≤ dLen := Nat.min_le_right _ _
    rw [made_at N _ (by omega), zcell_add]) zcell_one
theorem add_at (b j : Nat) : (⟨b, 0, none⟩ : Addr).add j = ⟨b, j, none⟩ := by unfold Addr.add; split <;> simp_all
set_option maxRecDepth 10000 in
set_option maxHeartbeats 4000000 in
theorem Repeat_any (bl n : Nat) (hn : n ≤ 4000) {w0 w : World} {H : Hp} {L : List (Nat × Obj)} (m : Mem w0 H ((bl, .cells #[.int .u8 0, .int .i64 0, .string ByteArray.empty] 50) :: L) w) :
    Calls Try.prog 49 #[.slice (some ⟨bl, 0, none⟩) 1 1, .int .i64 n] w fun e w' => ∃ g L0, e = .returned (.slice (some ⟨g, 0, none⟩) n n) ∧ OwnV (.slice (some ⟨g, 0, none⟩) n n) (List.replicate n unitV) L0 ∧ Mem w0 H (L0 ++ L) w' := by
  have hn0 : ¬ (n : Int) < 0 := by omega
  have hw : IntKind.u64.wrap (n : Int) = (n : Int) := by rw [IntKind.wrap_u64]; omega
  have hw1 : IntKind.u64.wrap (1 : Int) = 1 := by decide
  have hw2 : IntKind.i64.wrap (n : Int) = (n : Int) := wrap_small _ (by omega) (by omega)
  have hbig : ¬ (9223372036854775807 : Int) < (n : Int) := by omega
  have m1 := m.alloc (.cells (madeCells #[.int .u8 0, .int .i64 0, .string ByteArray.empty] (n * 3)) 50)
  generalize hW : w.alloc (.cells (madeCells #[.int .u8 0, .int .i64 0, .string ByteArray.empty] (n * 3)) 50) = W at *
  generalize hg : w.heap.size = g at *
  have hmk := run_make_vals n hn w
  rw [hW, hg] at hmk
  go_enter Try.func49, Try.ntmps49
  go_wp2_with fail
  refine (Mul_one n hn w).mono ?_
  rintro e w' ⟨rfl, rfl⟩
  have hsrc : ∀ j, j < Nat.min 1 n * 3 → W.cell? ((⟨bl, 0, none⟩ : Addr).add j) = some (zcell j) := by
    intro j hj
    have h1 : Nat.min 1 n ≤ 1 := Nat.min_le_left _ _
    rw [add_at]
    have es := m1.eqs
    simp only [EqsL] at es
    rw [es.2.1.2.1]
    have : j = 0 ∨ j = 1 ∨ j = 2 := by omega
    rcases this with rfl | rfl | rfl <;> rfl
  have hc := copy_vals 3 g 0 n n ⟨bl, 0, none⟩ 1 1 n W (m1.loc _ (.head _)).1 hsrc (by omega)
  rw [Nat.zero_mul] at hc
  obtain ⟨q0, hq0, hq1, hq2⟩ : ∃ q0, Nat.min 1 n = q0 ∧ q0 ≤ n ∧ (n = 0 ∨ 1 ≤ q0) := ⟨Nat.min 1 n, rfl, Nat.min_le_right _ _, by
    rcases Nat.eq_zero_or_pos n with e | e
    · exact .inl e
    · right; show 1 ≤ min 1 n; omega⟩
  rw [hq0] at hc
  clear hsrc hq0
  go_wp2_with fail
  try rw [hc]
  clear hc hmk hW hg
  try go_wp2_with fail
  go_loopw [8] (fun v8 wr => ∃ q : Nat, q ≤ n ∧ (n = 0 ∨ 1 ≤ q) ∧ v8 = .int .i64 q ∧ Mem w0 H ((g, .cells (madeCells #[.int .u8 0, .int .i64 0, .string ByteArray.empty] (n * 3)) 50) :: L) wr) (fun v8 _ => n - (intOf v8).toNat)
  case atStart => exact ⟨q0, hq1, hq2, rfl, (m1.perm (List.Perm.swap _ _ _)).drop⟩
  case round =>
    obtain ⟨q, hqn, hq3, rfl, m2⟩ := hrel
    clear m1
    by_cases hlt : q < n
    · have hltI : (q : Int) < n := by omega
      have hltJ : (q : Int) ≤ n := by omega
      have hne : ¬ n = q := by omega
      go_wp2_with fail
      refine AnyFrom.start (fun w' => ∃ L', Mem w0 H ((g, .cells (madeCells #[.int .u8 0, .int .i64 0, .string ByteArray.empty] (n * 3)) 50) :: L') w') 10 (by kernel_rfl) ?_
      have mW := m2.drew
      clear m2
      generalize wr.drew = W2 at *
      have HS : ∃ L', Mem w0 H ((g, .cells (madeCells #[.int .u8 0, .int .i64 0, .string ByteArray.empty] (n * 3)) 50) :: L') W2 := ⟨_, mW⟩
      refine AnyFrom.pure (i := 0) (v := ?_) rfl (by kernel_rfl) (by kernel_rfl) (by kernel_rfl) (by decide) (fun _ _ _ h => h) ⟨by kernel_rfl, ?_⟩ HS ?_
      rotate_left
      · first | (intro w'; go_simp; done) | (intro w'; go_simp; with_reducible rfl)
      simp only [Act.put, List.setIfInBounds_toArray, List.set_cons_zero, List.set_cons_succ, List.getElem_toArray, List.getElem_cons_succ, List.getElem_cons_zero]
      refine AnyFrom.pure (i := 1) (v := ?_) rfl (by kernel_rfl) (by kernel_rfl) (by kernel_rfl) (by decide) (fun _ _ _ h => h) ⟨by kernel_rfl, ?_⟩ HS ?_
      rotate_left
      · first | (intro w'; go_simp; done) | (intro w'; go_simp; with_reducible rfl)
      simp only [Act.put, List.setIfInBounds_toArray, List.set_cons_zero, List.set_cons_succ, List.getElem_toArray, List.getElem_cons_succ, List.getElem_cons_zero]
      refine AnyFrom.pure (i := 2) (v := ?_) rfl (by kernel_rfl) (by kernel_rfl) (by kernel_rfl) (by decide) (fun _ _ _ h => h) ⟨by kernel_rfl, ?_⟩ HS ?_
      rotate_left
      · first | (intro w'; go_simp; done) | (intro w'; go_simp; with_reducible rfl)
      simp only [Act.put, List.setIfInBounds_toArray, List.set_cons_zero, List.set_cons_succ, List.getElem_toArray, List.getElem_cons_succ, List.getElem_cons_zero]
      refine AnyFrom.pure (i := 3) (v := ?_) rfl (by kernel_rfl) (by kernel_rfl) (by kernel_rfl) (by decide) (fun _ _ _ h => h) ⟨by kernel_rfl, ?_⟩ HS ?_
      rotate_left
      · first | (intro w'; go_simp; done) | (intro w'; go_simp; with_reducible rfl)
      simp only [Act.put, List.setIfInBounds_toArray, List.set_cons_zero, List.set_cons_succ, List.getElem_toArray, List.getElem_cons_succ, List.getElem_cons_zero]
      refine AnyFrom.pure (i := 4) (v := ?_) rfl (by kernel_rfl) (by kernel_rfl) (by kernel_rfl) (by decide) (fun _ _ _ h => h) ⟨by kernel_rfl, ?_⟩ HS ?_
      rotate_left
      · first | (intro w'; go_simp; done) | (intro w'; go_simp; with_reducible rfl)
      simp only [Act.put, List.setIfInBounds_toArray, List.set_cons_zero, List.set_cons_succ, List.getElem_toArray, List.getElem_cons_succ, List.getElem_cons_zero]
      refine AnyFrom.pure (i := 5) (v := ?_) rfl (by kernel_rfl) (by kernel_rfl) (by kernel_rfl) (by decide) (fun _ _ _ h => h) ⟨by kernel_rfl, ?_⟩ HS ?_
      rotate_left
      · first | (intro w'; go_simp; done) | (intro w'; go_simp; with_reducible rfl)
      simp only [Act.put, List.setIfInBounds_toArray, List.set_cons_zero, List.set_cons_succ, List.getElem_toArray, List.getElem_cons_succ, List.getElem_cons_zero]
      refine AnyFrom.pure (i := 6) (v := ?_) rfl (by kernel_rfl) (by kernel_rfl) (by kernel_rfl) (by decide) (fun _ _ _ h => h) ⟨by kernel_rfl, ?_⟩ HS ?_
      rotate_left
      · first | (intro w'; go_simp; done) | (intro w'; go_simp; with_reducible rfl)
      simp only [Act.put, List.setIfInBounds_toArray, List.set_cons_zero, List.set_cons_succ, List.getElem_toArray, List.getElem_cons_succ, List.getElem_cons_zero]
      have hsrc : ∀ j, j < Nat.min q (n - q) * 3 → W2.cell? ((⟨g, 0, none⟩ : Addr).add j) = some (zcell j) := by
        intro j hj
        have h1 : Nat.min q (n - q) ≤ q := Nat.min_le_left _ _
        rw [add_at]
        have es := mW.eqs
        simp only [EqsL] at es
        rw [es.1.2.1]
        exact made_at n j (by omega)
      have hc := copy_vals 3 g q (n - q) (n - q) ⟨g, 0, none⟩ q n n W2 (mW.loc _ (.head _)).1 hsrc (by omega)
      obtain ⟨r, hr0, hr1, hr2⟩ : ∃ r, Nat.min q (n - q) = r ∧ 1 ≤ r ∧ r ≤ n - q := ⟨_, rfl, by show 1 ≤ min q (n - q); omega, Nat.min_le_right _ _⟩
      rw [hr0] at hc
      have hwq : IntKind.i64.wrap ((q : Int) + (r : Int)) = (q : Int) + (r : Int) := wrap_small _ (by omega) (by omega)
      clear hsrc hr0
      refine AnyFrom.call (i := 7) (by kernel_rfl) rfl (by kernel_rfl) fun K hK => ?_
      go_simp
      try rw [hc]
      try go_simp
      refine hK _ _ (.inr ⟨_, mW⟩) ?_
      clear hK K hc
      try simp only [Act.put, List.setIfInBounds_toArray, List.set_cons_zero, List.set_cons_succ, List.getElem_toArray, List.getElem_cons_succ, List.getElem_cons_zero]
      refine AnyFrom.pure (i := 8) (v := ?_) rfl (by kernel_rfl) (by kernel_rfl) (by kernel_rfl) (by decide) (fun _ _ _ h => h) ⟨by kernel_rfl, ?_⟩ HS ?_
      rotate_left
      · first | (intro w'; go_simp; done) | (intro w'; go_simp; with_reducible rfl)
      simp only [Act.put, List.setIfInBounds_toArray, List.set_cons_zero, List.set_cons_succ, List.getElem_toArray, List.getElem_cons_succ, List.getElem_cons_zero]
      refine AnyFrom.pure (i := 9) (v := ?_) rfl (by kernel_rfl) (by kernel_rfl) (by kernel_rfl) (by decide) (fun _ _ _ h => h) ⟨by kernel_rfl, ?_⟩ HS ?_
      rotate_left
      · first | (intro w'; go_simp; done) | (intro w'; go_simp; with_reducible rfl)
      simp only [Act.put, List.setIfInBounds_toArray, List.set_cons_zero, List.set_cons_succ, List.getElem_toArray, List.getElem_cons_succ, List.getElem_cons_zero]
      refine AnyFrom.done (by kernel_rfl) ?_ _
      go_wp2_with fail
      go_roundw
      case rel => exact ⟨q + r, by omega, by omega, by go_num, mW⟩
      case measure => simp [intOf]; omega
    · have hge : ¬ (q : Int) < n := by omega
      go_wp2_with fail
      go_ret
      have hown : AccL 50 3 (.slice (some ⟨g, 0, none⟩) n n) n (valCs (List.replicate n unitV)) [(g, .cells (madeCells #[.int .u8 0, .int .i64 0, .string ByteArray.empty] (n * 3)) 50)] := ⟨by rw [valCs_length]; simp, .inr ⟨g, n, _, rfl, Nat.le_refl _, by unfold maxLen; omega, size_madeCells _ _, by rw [made_val]; rw [List.take_of_length_le (by rw [valCs_length]; simp)], rfl⟩⟩
      exact ⟨g, rfl, _, ⟨by simpa using hown, fun v hv => by rw [List.eq_of_mem_replicate hv]; exact unitV_fit⟩, m2⟩
end Go.Proofs.Ythipkmmdjhpklaa
namespace Go.Proofs.Ythipkmmdjhpklaa
set_option linter.unusedVariables false
set_option linter.unusedSimpArgs false
open Go.RowKit

def MakeR (size regs : Int) (w0 : World) (H : Hp) (L : List (Nat × Obj)) (e : Ending) (w' : World) : Prop :=
  if (0 ≤ size ∧ size ≤ 6000) ∧ (0 ≤ regs ∧ regs ≤ 4000) then
    ∃ vr H', e = .returned (.tuple #[.agg #[.int .i64 size, .int .i64 0, .int .i64 0, .bool false, .slice none 0 0, .slice none 0 0, vr], .int .i64 0]) ∧ SlR encVal H' vr (List.replicate regs.toNat unitV) ∧ Hle H H' ∧ Mem w0 H' L w'
  else e = .returned (.tuple #[heapZ, .int .i64 3]) ∧ Mem w0 H L w'
set_option maxRecDepth 10000 in
set_option maxHeartbeats 4000000 in
theorem Make_any (size regs : Int) (hs : I64 size) (hr : I64 regs) {w0 w : World} {H : Hp} {L : List (Nat × Obj)} (m : Mem w0 H L w) :
    Calls Try.prog 12 #[.int .i64 size, .int .i64 regs] w (MakeR size regs w0 H L) := by
  have m1 := m.alloc (.cells #[.int .i64 0, .int .i64 0, .int .i64 0, .bool false, .slice none 0 0, .slice none 0 0, .slice none 0 0] 31)
  have m2 := m1.alloc (.cells #[.int .i64 size] 3)
  rw [World.size_alloc] at m2
  have HS := Lib.hid hs; clear hs
  have HR := Lib.hid hr; clear hr
  go_enter Try.func12, Try.ntmps12
  go_wp2_with fail
  refine (within1n _ size 0 6000 HS.out m2).mono ?_
  rintro e w1 ⟨rfl, m3⟩
  have mu := m3
  have es := mu.eqs
  simp only [EqsL] at es
  have ns := mu.nes
  simp only [NeL, NeFrom] at ns
  by_cases h1 : 0 ≤ size ∧ size ≤ 6000
  · rw [decide_eq_true h1]
    have H1 := Lib.hid h1; clear h1
    have m4 := m3.alloc (.cells #[.int .i64 regs] 3)
    go_wp2_with fail
    refine (within1n _ regs 0 4000 HR.out m4).mono ?_
    rintro e w2 ⟨rfl, m5⟩
    clear es mu
    have mu := m5
    have es := mu.eqs
    simp only [EqsL] at es
    by_cases h2 : 0 ≤ regs ∧ regs ≤ 4000
    · rw [decide_eq_true h2]
      have H2 := Lib.hid h2
      obtain ⟨n, rfl⟩ := Int.eq_ofNat_of_zero_le h2.1
      have hn : n ≤ 4000 := by omega
      clear h2
      have m6 := m5.alloc (.cells #[.int .u8 0, .int .i64 0, .string ByteArray.empty] 50)
      go_wp2_with fail
      refine (Repeat_any _ n hn m6).mono ?_
      rintro e w3 ⟨g, L0, rfl, hown, m7⟩
      clear es mu m4 m5 m6
      obtain ⟨H', m8, hle, hsl⟩ := hown.freeze m7
      have mu := m8
      have es := mu.eqs
      simp only [EqsL] at es
      have ns := mu.nes
      simp only [NeL, NeFrom] at ns
      go_wp2_with fail
      refine bodyPost_ret (v := .tuple #[.agg #[.int .i64 size, .int .i64 0, .int .i64 0, .bool false, .slice none 0 0, .slice none 0 0, .slice (some ⟨g, 0, none⟩) n n], .int .i64 0]) (by simp [results, Try.results12, go_sem, es, ns]; first | rfl | done) rfl ?_
      unfold MakeR
      rw [if_pos ⟨H1.out, H2.out⟩]
      refine ⟨_, H', rfl, by rw [Int.toNat_natCast]; simpa using hsl, hle, ?_⟩
      refine MemB.done (ks := [w.heap.size]) ?_
      repeat (first | refine MemB.set (by simp) ?_ | exact ⟨[_], rfl, m8⟩)
    · rw [decide_eq_false h2]
      have H2 := Lib.hid h2; clear h2
      go_wp2_with fail
      refine bodyPost_ret (v := .tuple #[heapZ, .int .i64 3]) (by simp [results, Try.results12, go_sem, es, ns]; first | rfl | done) rfl ?_
      unfold MakeR
      rw [if_neg (fun h => H2.out h.2)]
      refine ⟨rfl, ?_⟩
      refine MemB.done (ks := [w.heap.size]) ?_
      repeat (first | refine MemB.set (by simp) ?_ | exact ⟨[_], rfl, m5⟩)
  · rw [decide_eq_false h1]
    have H1 := Lib.hid h1; clear h1
    go_wp2_with fail
    refine bodyPost_ret (v := .tuple #[heapZ, .int .i64 3]) (by simp [results, Try.results12, go_sem, es, ns]; first | rfl | done) rfl ?_
    unfold MakeR
    rw [if_neg (fun h => H1.out h.1)]
    refine ⟨rfl, ?_⟩
    refine MemB.done (ks := [w.heap.size]) ?_
    repeat (first | refine MemB.set (by simp) ?_ | exact ⟨[_], rfl, m3⟩)
end Go.Proofs.Ythipkmmdjhpklaa
namespace Go.Proofs.Ythipkmmdjhpklaa
set_option linter.unusedVariables false
set_option linter.unusedSimpArgs false
open Go.RowKit

set_option maxRecDepth 10000 in
set_option maxHeartbeats 4000000 in
theorem Words_any (h : HeapM) (o : HOk h) (hb : h.busy = false) (ob : Option Addr) (oc : Nat) (vn vr : Value) {w0 w : World} {H : Hp} {L : List (Nat × Obj)} (hv : SlR encObj H vn h.new) (hx : SlR encVal H vr h.regs) (m : Mem w0 H L w) :
    Calls Try.prog 25 #[.agg #[.int .i64 h.size, .int .i64 h.half, .int .i64 0, .bool false, .slice ob 0 oc, vn, vr]] w fun e w' => e = .returned (.tuple #[.int .i64 h.used, .int .i64 0, .int .i64 (h.size - h.used), .int .i64 0]) ∧ Mem w0 H L w' := by
  obtain ⟨hid, hio⟩ := o.idleOk hb
  have HV := Lib.hid hv
  have HX := Lib.hid hx
  have HIO := Lib.hid hio; clear hio
  have HID := Lib.hid hid; clear hid
  have hbb := o.core.bounds
  have hsb := o.slotsB
  have hold := (o.core.idle hb).1
  have hwd := o.core.words
  have hsz := o.core.size
  have hwg := wordsM_ge (lens h.new)
  have hus : h.used = wordsM (lens h.new) := rfl
  rw [hold] at hwd
  simp only [dueL] at hwd
  rw [← hus] at hwd hwg
  have hdu : h.due = 0 := by unfold HeapM.due; rw [hold]; rfl
  have HDU := Lib.hid hdu; clear hdu hus
  have HSB := Lib.hid hsb; clear hsb
  have HOL := Lib.hid hold; clear hold
  obtain ⟨nb, nc, rfl, -, -, -, -⟩ := hv
  obtain ⟨rb, rc, rfl, -, -, -, -⟩ := hx
  have m1 := (m.alloc (.cells #[.int .i64 h.size, .int .i64 h.half, .int .i64 0, .bool false, .slice ob 0 oc, .slice nb h.new.length nc, .slice rb h.regs.length rc] 31)).drop
  clear hb o
  go_enter Try.func25, Try.ntmps25
  go_wp2_with fail
  refine (newHeap_idle h.size h.half ob oc _ _ h.new h.regs HV.out HX.out HIO.out m1).mono ?_
  rintro e w1 ⟨b, rfl, hc⟩
  rw [← HID.out] at hc
  go_wp2_with fail
  refine (used_any b h hc (by omega) HSB.out).mono ?_
  rintro e w2 ⟨rfl, hc2⟩
  go_wp2_with fail
  refine (due_any b h hc2 (by omega) (fun p hp => by rw [HOL.out] at hp; cases hp)).mono ?_
  rintro e w3 ⟨rfl, hc3⟩
  rw [HDU.out]
  obtain ⟨rs, rv, Ls, Lr, hs, hv3, vo, vn, hr, Lo, Ln, h1, h2, h3, m3⟩ := hc3
  have hu0 : 0 ≤ h.used := by omega
  have hu1 : h.used ≤ 6000 := by omega
  have hz0 : 0 ≤ h.size := hsz.1
  have hz1 : h.size ≤ 6000 := hsz.2
  have hwr : IntKind.i64.wrap (h.size - h.used) = h.size - h.used := wrap_small _ (by omega) (by omega)
  generalize hus : h.used = us at *
  have HUS := Lib.hid hus; clear hus
  have mu := m3
  unfold HBox at mu
  have es := mu.eqs
  simp only [EqsL] at es
  go_wp2_with fail
  go_quiet (fail)
  go_wp2_with fail
  refine bodyPost_ret (v := .tuple #[.int .i64 us, .int .i64 0, .int .i64 (h.size - us), .int .i64 0]) (by simp [results, Try.results25, go_sem]) rfl ?_
  rw [HUS.out]
  exact ⟨rfl, Mem.dropL Lr (Mem.dropL Ls (Mem.dropL Ln (Mem.dropL Lo ((m3.drewN _).drop))))⟩
end Go.Proofs.Ythipkmmdjhpklaa
namespace Go.Proofs.Ythipkmmdjhpklaa
set_option linter.unusedVariables false
set_option linter.unusedSimpArgs false
open Go.RowKit

/-- What a reference means when objects that were copied count as their copies. -/
def HeapM.turnR (h : HeapM) (v : ValM) : ValM :=
  if oldV h.half v then (match h.old[(v.n / 2).toNat]? with | some p => if p.2 = -1 then v else refV h.half p.2 | none => v) else v
def HeapM.slotsR (h : HeapM) (r : ValM) : List ValM :=
  if oldV h.half r then (match h.old[(r.n / 2).toNat]? with | some p => p.1.slots | none => []) else h.slotsAt (r.n / 2).toNat
/-- The references that were met, in their order: the last of the list is next. -/
def HeapM.liveN : Nat → HeapM → List Int → List ValM → List Int
  | 0, _, seen, _ => seen
  | f + 1, h, seen, next =>
    match next.getLast? with
    | none => seen
    | some v =>
      if v.kind ≠ 5 then HeapM.liveN f h seen next.dropLast
      else if (h.turnR v).n ∈ seen then HeapM.liveN f h seen next.dropLast
      else HeapM.liveN f h (seen ++ [(h.turnR v).n]) (next.dropLast ++ h.slotsR (h.turnR v))
theorem liveN_nil (f : Nat) (h : HeapM) (seen : List Int) : h.liveN f seen [] = seen := by
  cases f <;> simp [HeapM.liveN]
theorem liveN_skip (f : Nat) (h : HeapM) (seen : List Int) (init : List ValM) (v : ValM) (hk : v.kind ≠ 5) : h.liveN (f + 1) seen (init ++ [v]) = h.liveN f seen init := by
  simp [HeapM.liveN, hk]
theorem liveN_seen (f : Nat) (h : HeapM) (seen : List Int) (init : List ValM) (v : ValM) (hk : v.kind = 5) (hs : (h.turnR v).n ∈ seen) : h.liveN (f + 1) seen (init ++ [v]) = h.liveN f seen init := by
  simp [HeapM.liveN, hk, hs]
theorem liveN_new (f : Nat) (h : HeapM) (seen : List Int) (init : List ValM) (v : ValM) (hk : v.kind = 5) (hs : ¬ (h.turnR v).n ∈ seen) : h.liveN (f + 1) seen (init ++ [v]) = h.liveN f (seen ++ [(h.turnR v).n]) (init ++ h.slotsR (h.turnR v)) := by
  simp [HeapM.liveN, hk, hs]
theorem nodup_bound : ∀ (N : Nat) (l : List Int), l.Nodup → (∀ x ∈ l, 0 ≤ x ∧ x < (N : Int)) → l.length ≤ N
  | 0, l, _, h => by
    cases l with
    | nil => simp
    | cons a l => have := h a (.head _); omega
  | N + 1, l, hn, h => by
    have h1 := nodup_bound N (l.erase (N : Int)) (hn.erase _) (fun x hx => by
      have h2 := (hn.mem_erase_iff).1 hx
      have h3 := h x h2.2
      have h4 := h2.1
      omega)
    rw [List.length_erase] at h1
    split at h1 <;> omega
def seenL (seen : List Int) : List (Int × Value) := seen.map fun k => (k, .bool true)
theorem seenL_lookup : ∀ (seen : List Int) (k : Int), (seenL seen).lookup k = if k ∈ seen then some (.bool true) else none
  | [], k => by simp [seenL]
  | a :: l, k => by
    have ih := seenL_lookup l k
    unfold seenL at ih ⊢
    simp only [List.map_cons, List.lookup, List.mem_cons]
    by_cases e : k = a
    · subst e; simp
    · have e' : (k == a) = false := by simpa using e
      rw [e', ih]
      simp [e]
theorem seenL_snoc (seen : List Int) (k : Int) : seenL (seen ++ [k]) = seenL seen ++ [(k, .bool true)] := by simp [seenL]
theorem IntMap.size {q : IntKind} {es : Array MapEntry} {l : List (Int × Value)} (h : IntMap q es l) : es.size = l.length := by
  have := congrArg List.length h
  simpa using this
theorem run_len_map {P : Program} {w : World} {t kt et : TypeId} {b : Nat} {es : Array MapEntry} {clock : Nat} (ty : TypeId) (ht : P.underlying t = some (.map kt et)) (hb : w.heap[b]? = some (.map es clock)) :
    (Builtin.len_ #[t] ty #[.map (some b)]).run P w = .ok (.int .i64 es.size) w := by
  simp [Builtin.len_, run_underlying ht, MapKept.run_getObj_map hb, goInt]
theorem AccL.shrink {e : TypeId} {b : Option Addr} {n c : Nat} {xs ys : List Value} {size : Nat} {L0 : List (Nat × Obj)} (h : AccL e size (.slice b (n + 1) c) (n + 1) (xs ++ ys) L0) (hy : ys.length = size) : AccL e size (.slice b n c) n xs L0 := by
  have hl := h.1
  rw [List.length_append, hy] at hl
  have hx : xs.length = n * size := by rw [Nat.add_mul] at hl; omega
  rcases h.2 with ⟨h1, _⟩ | ⟨g, cap, cur, h1, h2, h3, h4, h5, h6⟩
  · cases h1
  · cases h1
    refine ⟨hx, .inr ⟨g, c, cur, rfl, by omega, h3, h4, ?_, h6⟩⟩
    have : cur.toList.take (n * size) = (cur.toList.take ((n + 1) * size)).take (n * size) := by
      rw [List.take_take, Nat.min_eq_left (Nat.mul_le_mul_right _ (by omega))]
    rw [this, h5, List.take_append, List.take_of_length_le (by omega), hx, Nat.sub_self, List.take_zero, List.append_nil]
/-- What a reference turns into. -/
theorem turnR_cases {h : HeapM} (o : HOk h) {v : ValM} (hv : ValIn h.half h.new.length h.old.length true v) (hk : v.kind = 5) :
    (¬ oldV h.half v ∧ h.turnR v = v ∧ 0 ≤ v.n ∧ (v.n / 2).toNat < h.new.length) ∨
    ∃ (i : Nat) (hi : i < h.old.length), oldV h.half v ∧ 0 ≤ v.n ∧ v.n / 2 = (i : Int) ∧
      ((h.old[i].2 = -1 ∧ h.turnR v = v) ∨ (0 ≤ h.old[i].2 ∧ h.old[i].2 < h.new.length ∧ h.turnR v = refV h.half h.old[i].2)) := by
  have hn := (plain_cases hv.1).2.2.2 hk
  by_cases ho : oldV h.half v
  · right
    have hi : (v.n / 2).toNat < h.old.length := by
      rcases hv.2 hk with h1 | h1
      · exact absurd h1.1 ho.2
      · exact h1.2.2
    refine ⟨(v.n / 2).toNat, hi, ho, hn, by omega, ?_⟩
    have hp := o.core.old _ (List.getElem_mem hi)
    unfold HeapM.turnR
    rw [if_pos ho, List.getElem?_eq_getElem hi]
    simp only
    by_cases e : h.old[(v.n / 2).toNat].2 = -1
    · exact .inl ⟨e, by rw [if_pos e]⟩
    · exact .inr ⟨by omega, hp.2.1, by rw [if_neg e]⟩
  · left
    refine ⟨ho, by unfold HeapM.turnR; rw [if_neg ho], hn, ?_⟩
    rcases hv.2 hk with h1 | h1
    · exact h1.2
    · exact absurd ⟨hk, h1.1⟩ ho
end Go.Proofs.Ythipkmmdjhpklaa
