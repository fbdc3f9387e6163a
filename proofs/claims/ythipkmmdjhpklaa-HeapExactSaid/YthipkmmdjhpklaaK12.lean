/- The walk of the reference: a heap copied. -/
import Derived.Test.YthipkmmdjhpklaaK11
import Derived.Test.YthipkmmdjhpklaaK01
namespace Go.Proofs.Ythipkmmdjhpklaa
set_option linter.unusedVariables false
set_option linter.unusedSimpArgs false
open Go.RowKit

/-- A heap's value, its parts in blocks of the call's own (the old half's slots are written no more). -/
def HeapParts (h : HeapM) (vo vn vr : Value) (w0 : World) (H : Hp) (L : List (Nat × Obj)) (w : World) : Prop :=
  ∃ hr rs Lo Ln Ls Lr, AccL 87 5 vo hr.length (heldCs hr) Lo ∧ HeldF H hr h.old ∧ AccL 48 4 vn rs.length (rowCs rs) Ln ∧ OwnSlots rs h.new Ls ∧ OwnV vr h.regs Lr ∧ Mem w0 H (Lo ++ (Ln ++ (Ls ++ (Lr ++ L)))) w
def HVal (h : HeapM) (vo vn vr : Value) : Value := .agg #[.int .i64 h.size, .int .i64 h.half, .int .i64 h.scan, .bool h.busy, vo, vn, vr]
structure HB (h : HeapM) : Prop where
  ol : h.old.length ≤ 100000
  nl : h.new.length ≤ 100000
  rl : h.regs.length ≤ 100000
  os : ∀ p ∈ h.old, p.1.slots.length ≤ 100000
  ns : ∀ o ∈ h.new, o.slots.length ≤ 100000
theorem perm_cq1 {α : Type} (p r : α) (L0 L : List α) : (L0 ++ (p :: r :: L)).Perm (p :: r :: (L0 ++ L)) := (by classical exact List.perm_iff_count.2 (fun a => by simp only [List.count_append, List.count_cons, List.cons_append, List.nil_append, List.append_assoc]; omega))
theorem perm_cr1 {α : Type} (y x p o r : α) (Lq M : List α) : (y :: x :: p :: o :: r :: (Lq ++ M)).Perm (Lq ++ (y :: x :: p :: o :: r :: M)) := (by classical exact List.perm_iff_count.2 (fun a => by simp only [List.count_append, List.count_cons, List.cons_append, List.nil_append, List.append_assoc]; omega))
theorem perm_cr2 {α : Type} (x p o r : α) (Lq M : List α) : (Lq ++ (x :: p :: o :: r :: M)).Perm (x :: p :: o :: r :: (Lq ++ M)) := (by classical exact List.perm_iff_count.2 (fun a => by simp only [List.count_append, List.count_cons, List.cons_append, List.nil_append, List.append_assoc]; omega))
theorem perm_cr3 {α : Type} (x p o r : α) (L1 M : List α) : (L1 ++ (x :: p :: o :: r :: M)).Perm (x :: p :: o :: r :: (L1 ++ M)) := (by classical exact List.perm_iff_count.2 (fun a => by simp only [List.count_append, List.count_cons, List.cons_append, List.nil_append, List.append_assoc]; omega))
theorem perm_cr4 {α : Type} (y x p o r : α) (L1 La M : List α) : (y :: x :: p :: o :: r :: (L1 ++ (La ++ M))).Perm (La ++ (y :: x :: p :: o :: r :: (L1 ++ M))) := (by classical exact List.perm_iff_count.2 (fun a => by simp only [List.count_append, List.count_cons, List.cons_append, List.nil_append, List.append_assoc]; omega))
theorem perm_cr5 {α : Type} (x p o r : α) (La L1 Ls M : List α) : (La ++ (x :: p :: o :: r :: (L1 ++ (Ls ++ M)))).Perm (x :: p :: o :: r :: (La ++ ((Ls ++ L1) ++ M))) := (by classical exact List.perm_iff_count.2 (fun a => by simp only [List.count_append, List.count_cons, List.cons_append, List.nil_append, List.append_assoc]; omega))
theorem perm_cr6 {α : Type} (p o r : α) (M : List α) : (p :: o :: r :: M).Perm (r :: p :: o :: M) := (by classical exact List.perm_iff_count.2 (fun a => by simp only [List.count_append, List.count_cons, List.cons_append, List.nil_append, List.append_assoc]; omega))
theorem perm_cr7 {α : Type} (r p o : α) (La Ls Lq M : List α) : (r :: p :: o :: (La ++ (Ls ++ (Lq ++ M)))).Perm (r :: p :: o :: (Lq ++ (La ++ (Ls ++ M)))) := (by classical exact List.perm_iff_count.2 (fun a => by simp only [List.count_append, List.count_cons, List.cons_append, List.nil_append, List.append_assoc]; omega))
theorem perm_cq2 {α : Type} (x p r : α) (L0 L : List α) : (x :: p :: r :: (L0 ++ L)).Perm (p :: x :: r :: (L0 ++ L)) := (by classical exact List.perm_iff_count.2 (fun a => by simp only [List.count_append, List.count_cons, List.cons_append, List.nil_append, List.append_assoc]; omega))
theorem perm_cq3 {α : Type} (x p r : α) (L : List α) : (x :: p :: r :: L).Perm (p :: x :: r :: L) := (by classical exact List.perm_iff_count.2 (fun a => by simp only [List.count_append, List.count_cons, List.cons_append, List.nil_append, List.append_assoc]; omega))
theorem perm_cq4 {α : Type} (p x r : α) (L0 L : List α) : (L0 ++ (p :: x :: r :: L)).Perm (p :: x :: r :: (L0 ++ L)) := (by classical exact List.perm_iff_count.2 (fun a => by simp only [List.count_append, List.count_cons, List.cons_append, List.nil_append, List.append_assoc]; omega))
set_option maxRecDepth 10000 in
set_option maxHeartbeats 8000000 in
theorem Copy_any (h : HeapM) (hb : HB h) (ob nb rb : Option Addr) (oc nc rc : Nat) {w0 w : World} {H : Hp} {L : List (Nat × Obj)} (hvo : SlR encHeld H (.slice ob h.old.length oc) h.old) (hvn : SlR encObj H (.slice nb h.new.length nc) h.new) (hvr : SlR encVal H (.slice rb h.regs.length rc) h.regs) (m : Mem w0 H L w) :
    Calls Try.prog 23 #[HVal h (.slice ob h.old.length oc) (.slice nb h.new.length nc) (.slice rb h.regs.length rc)] w fun e w' => ∃ H' vo vn vr, e = .returned (HVal h vo vn vr) ∧ Hle H H' ∧ HeapParts h vo vn vr w0 H' L w' := by
  have HVO := Lib.hid hvo
  have HVN := Lib.hid hvn
  have HVR := Lib.hid hvr
  obtain ⟨hol, hnl, hrl, hos, hns⟩ := hb
  have HOS := Lib.hid hos; clear hos
  have HNS := Lib.hid hns; clear hns
  have hnc : nc ≤ maxLen := by obtain ⟨_, _, e, _, h2, _⟩ := hvn; cases e; exact h2
  have hoc : oc ≤ maxLen := by obtain ⟨_, _, e, _, h2, _⟩ := hvo; cases e; exact h2
  have hnc := size_le_maxLen hnc
  have hoc := size_le_maxLen hoc
  clear hvo hvn hvr
  have m1 := (m.alloc (.cells #[.int .i64 h.size, .int .i64 h.half, .int .i64 h.scan, .bool h.busy, .slice ob h.old.length oc, .slice nb h.new.length nc, .slice rb h.regs.length rc] 31)).alloc (.cells #[.int .i64 0, .int .i64 0, .int .i64 0, .bool false, .slice none 0 0, .slice none 0 0, .slice none 0 0] 31)
  rw [World.size_alloc] at m1
  have m2 := m1.perm (List.Perm.swap _ _ _)
  unfold HVal
  go_enter Try.func23, Try.ntmps23
  go_wp2_with fail
  refine AnyFrom.start (fun w' => ∃ L', Mem w0 H ((w.heap.size, .cells #[.int .i64 h.size, .int .i64 h.half, .int .i64 h.scan, .bool h.busy, .slice ob h.old.length oc, .slice nb h.new.length nc, .slice rb h.regs.length rc] 31) :: L') w') 13 (by kernel_rfl) ?_
  have mW := m2.drew
  clear m1 m2
  generalize ((w.alloc (.cells #[.int .i64 h.size, .int .i64 h.half, .int .i64 h.scan, .bool h.busy, .slice ob h.old.length oc, .slice nb h.new.length nc, .slice rb h.regs.length rc] 31)).alloc (.cells #[.int .i64 0, .int .i64 0, .int .i64 0, .bool false, .slice none 0 0, .slice none 0 0, .slice none 0 0] 31)).drew = W at *
  have HS : ∃ L', Mem w0 H ((w.heap.size, .cells #[.int .i64 h.size, .int .i64 h.half, .int .i64 h.scan, .bool h.busy, .slice ob h.old.length oc, .slice nb h.new.length nc, .slice rb h.regs.length rc] 31) :: L') W := ⟨_, mW⟩
  refine AnyFrom.take (i := 0) (v := ?_) rfl (by kernel_rfl) (by kernel_rfl) (by kernel_rfl) (by kernel_rfl) (fun _ _ _ h => h) ⟨by kernel_rfl, ?_⟩ HS ?_
  rotate_left
  · first | (rintro w' ⟨L', hm⟩; have es := hm.eqs; simp only [EqsL] at es; go_simp; done) | (rintro w' ⟨L', hm⟩; have es := hm.eqs; simp only [EqsL] at es; go_simp; with_reducible rfl)
  simp only [Act.put, List.setIfInBounds_toArray, List.set_cons_zero, List.set_cons_succ, List.getElem_toArray, List.getElem_cons_succ, List.getElem_cons_zero]
  refine AnyFrom.take (i := 1) (v := ?_) rfl (by kernel_rfl) (by kernel_rfl) (by kernel_rfl) (by kernel_rfl) (fun _ _ _ h => h) ⟨by kernel_rfl, ?_⟩ HS ?_
  rotate_left
  · first | (rintro w' ⟨L', hm⟩; have es := hm.eqs; simp only [EqsL] at es; go_simp; done) | (rintro w' ⟨L', hm⟩; have es := hm.eqs; simp only [EqsL] at es; go_simp; with_reducible rfl)
  simp only [Act.put, List.setIfInBounds_toArray, List.set_cons_zero, List.set_cons_succ, List.getElem_toArray, List.getElem_cons_succ, List.getElem_cons_zero]
  refine AnyFrom.take (i := 2) (v := ?_) rfl (by kernel_rfl) (by kernel_rfl) (by kernel_rfl) (by kernel_rfl) (fun _ _ _ h => h) ⟨by kernel_rfl, ?_⟩ HS ?_
  rotate_left
  · first | (rintro w' ⟨L', hm⟩; have es := hm.eqs; simp only [EqsL] at es; go_simp; done) | (rintro w' ⟨L', hm⟩; have es := hm.eqs; simp only [EqsL] at es; go_simp; with_reducible rfl)
  simp only [Act.put, List.setIfInBounds_toArray, List.set_cons_zero, List.set_cons_succ, List.getElem_toArray, List.getElem_cons_succ, List.getElem_cons_zero]
  refine AnyFrom.take (i := 3) (v := ?_) rfl (by kernel_rfl) (by kernel_rfl) (by kernel_rfl) (by kernel_rfl) (fun _ _ _ h => h) ⟨by kernel_rfl, ?_⟩ HS ?_
  rotate_left
  · first | (rintro w' ⟨L', hm⟩; have es := hm.eqs; simp only [EqsL] at es; go_simp; done) | (rintro w' ⟨L', hm⟩; have es := hm.eqs; simp only [EqsL] at es; go_simp; with_reducible rfl)
  simp only [Act.put, List.setIfInBounds_toArray, List.set_cons_zero, List.set_cons_succ, List.getElem_toArray, List.getElem_cons_succ, List.getElem_cons_zero]
  refine AnyFrom.take (i := 4) (v := ?_) rfl (by kernel_rfl) (by kernel_rfl) (by kernel_rfl) (by kernel_rfl) (fun _ _ _ h => h) ⟨by kernel_rfl, ?_⟩ HS ?_
  rotate_left
  · first | (rintro w' ⟨L', hm⟩; have es := hm.eqs; simp only [EqsL] at es; go_simp; done) | (rintro w' ⟨L', hm⟩; have es := hm.eqs; simp only [EqsL] at es; go_simp; with_reducible rfl)
  simp only [Act.put, List.setIfInBounds_toArray, List.set_cons_zero, List.set_cons_succ, List.getElem_toArray, List.getElem_cons_succ, List.getElem_cons_zero]
  refine AnyFrom.take (i := 5) (v := ?_) rfl (by kernel_rfl) (by kernel_rfl) (by kernel_rfl) (by kernel_rfl) (fun _ _ _ h => h) ⟨by kernel_rfl, ?_⟩ HS ?_
  rotate_left
  · first | (rintro w' ⟨L', hm⟩; have es := hm.eqs; simp only [EqsL] at es; go_simp; done) | (rintro w' ⟨L', hm⟩; have es := hm.eqs; simp only [EqsL] at es; go_simp; with_reducible rfl)
  simp only [Act.put, List.setIfInBounds_toArray, List.set_cons_zero, List.set_cons_succ, List.getElem_toArray, List.getElem_cons_succ, List.getElem_cons_zero]
  refine AnyFrom.take (i := 6) (v := ?_) rfl (by kernel_rfl) (by kernel_rfl) (by kernel_rfl) (by kernel_rfl) (fun _ _ _ h => h) ⟨by kernel_rfl, ?_⟩ HS ?_
  rotate_left
  · first | (rintro w' ⟨L', hm⟩; have es := hm.eqs; simp only [EqsL] at es; go_simp; done) | (rintro w' ⟨L', hm⟩; have es := hm.eqs; simp only [EqsL] at es; go_simp; with_reducible rfl)
  simp only [Act.put, List.setIfInBounds_toArray, List.set_cons_zero, List.set_cons_succ, List.getElem_toArray, List.getElem_cons_succ, List.getElem_cons_zero]
  refine AnyFrom.take (i := 7) (v := ?_) rfl (by kernel_rfl) (by kernel_rfl) (by kernel_rfl) (by kernel_rfl) (fun _ _ _ h => h) ⟨by kernel_rfl, ?_⟩ HS ?_
  rotate_left
  · first | (rintro w' ⟨L', hm⟩; have es := hm.eqs; simp only [EqsL] at es; go_simp; done) | (rintro w' ⟨L', hm⟩; have es := hm.eqs; simp only [EqsL] at es; go_simp; with_reducible rfl)
  simp only [Act.put, List.setIfInBounds_toArray, List.set_cons_zero, List.set_cons_succ, List.getElem_toArray, List.getElem_cons_succ, List.getElem_cons_zero]
  refine AnyFrom.take (i := 8) (v := ?_) rfl (by kernel_rfl) (by kernel_rfl) (by kernel_rfl) (by kernel_rfl) (fun _ _ _ h => h) ⟨by kernel_rfl, ?_⟩ HS ?_
  rotate_left
  · first | (rintro w' ⟨L', hm⟩; have es := hm.eqs; simp only [EqsL] at es; go_simp; done) | (rintro w' ⟨L', hm⟩; have es := hm.eqs; simp only [EqsL] at es; go_simp; with_reducible rfl)
  simp only [Act.put, List.setIfInBounds_toArray, List.set_cons_zero, List.set_cons_succ, List.getElem_toArray, List.getElem_cons_succ, List.getElem_cons_zero]
  refine AnyFrom.take (i := 9) (v := ?_) rfl (by kernel_rfl) (by kernel_rfl) (by kernel_rfl) (by kernel_rfl) (fun _ _ _ h => h) ⟨by kernel_rfl, ?_⟩ HS ?_
  rotate_left
  · first | (rintro w' ⟨L', hm⟩; have es := hm.eqs; simp only [EqsL] at es; go_simp; done) | (rintro w' ⟨L', hm⟩; have es := hm.eqs; simp only [EqsL] at es; go_simp; with_reducible rfl)
  simp only [Act.put, List.setIfInBounds_toArray, List.set_cons_zero, List.set_cons_succ, List.getElem_toArray, List.getElem_cons_succ, List.getElem_cons_zero]
  refine AnyFrom.two (i := 10) (j := 12) (by kernel_rfl) ?g1 ?g2
  case' g1 =>
    refine AnyFrom.op rfl (by kernel_rfl) fun K hK => ?_
    go_simp
    refine (values_any _ h.regs mW HVR.out hrl).mono ?_
    rintro e w1 ⟨cb, cc, L0, rfl, hown, mA⟩
    have mB := mA.perm (perm_cq1 _ _ L0 L)
    refine hK _ _ (.inr ⟨_, mB⟩) ?_
    clear hK K HS
    try simp only [Act.put, List.setIfInBounds_toArray, List.set_cons_zero, List.set_cons_succ, List.getElem_toArray, List.getElem_cons_succ, List.getElem_cons_zero]
    have HS : ∃ L', Mem w0 H ((w.heap.size, .cells #[.int .i64 h.size, .int .i64 h.half, .int .i64 h.scan, .bool h.busy, .slice ob h.old.length oc, .slice nb h.new.length nc, .slice rb h.regs.length rc] 31) :: L') _ := ⟨_, mB⟩

    refine AnyFrom.pure (i := 11) (v := ?_) rfl (by kernel_rfl) (by kernel_rfl) (by kernel_rfl) (by decide) (fun _ _ _ h => h) ⟨by kernel_rfl, ?_⟩ HS ?_
    rotate_left
    · first | (intro w'; go_simp; done) | (intro w'; go_simp; with_reducible rfl)
    simp only [Act.put, List.setIfInBounds_toArray, List.set_cons_zero, List.set_cons_succ, List.getElem_toArray, List.getElem_cons_succ, List.getElem_cons_zero]
    refine AnyFrom.call (i := 12) (by kernel_rfl) rfl (by kernel_rfl) fun K hK => ?_
    go_simp
    have mC := (mB.alloc (.cells #[.int .i64 0, .int .i64 0, .int .i64 0, .bool false, .slice none 0 0, .slice none 0 0, .slice none 0 0] 31)).perm (perm_cq2 _ _ _ L0 L)
    generalize hxo : w1.heap.size = xo at *
    generalize w1.alloc (.cells #[.int .i64 0, .int .i64 0, .int .i64 0, .bool false, .slice none 0 0, .slice none 0 0, .slice none 0 0] 31) = W2 at *
    refine hK _ _ (.inr ⟨_, mC⟩) ?_
    clear hK K HS
    try simp only [Act.put, List.setIfInBounds_toArray, List.set_cons_zero, List.set_cons_succ, List.getElem_toArray, List.getElem_cons_succ, List.getElem_cons_zero]
    have HS : ∃ L', Mem w0 H ((w.heap.size, .cells #[.int .i64 h.size, .int .i64 h.half, .int .i64 h.scan, .bool h.busy, .slice ob h.old.length oc, .slice nb h.new.length nc, .slice rb h.regs.length rc] 31) :: L') _ := ⟨_, mC⟩

  case' g2 =>
    refine AnyFrom.op rfl (by kernel_rfl) fun K hK => ?_
    go_simp
    have mB := (mW.alloc (.cells #[.int .i64 0, .int .i64 0, .int .i64 0, .bool false, .slice none 0 0, .slice none 0 0, .slice none 0 0] 31)).perm (perm_cq3 _ _ _ L)
    generalize hxo : W.heap.size = xo at *
    generalize W.alloc (.cells #[.int .i64 0, .int .i64 0, .int .i64 0, .bool false, .slice none 0 0, .slice none 0 0, .slice none 0 0] 31) = W1 at *
    refine hK _ _ (.inr ⟨_, mB⟩) ?_
    clear hK K HS
    try simp only [Act.put, List.setIfInBounds_toArray, List.set_cons_zero, List.set_cons_succ, List.getElem_toArray, List.getElem_cons_succ, List.getElem_cons_zero]
    have HS : ∃ L', Mem w0 H ((w.heap.size, .cells #[.int .i64 h.size, .int .i64 h.half, .int .i64 h.scan, .bool h.busy, .slice ob h.old.length oc, .slice nb h.new.length nc, .slice rb h.regs.length rc] 31) :: L') _ := ⟨_, mB⟩

    refine AnyFrom.call (i := 10) (by kernel_rfl) rfl (by kernel_rfl) fun K hK => ?_
    go_simp
    refine (values_any _ h.regs mB HVR.out hrl).mono ?_
    rintro e W2 ⟨cb, cc, L0, rfl, hown, mA⟩
    have mC := mA.perm (perm_cq4 _ _ _ L0 L)
    refine hK _ _ (.inr ⟨_, mC⟩) ?_
    clear hK K HS
    try simp only [Act.put, List.setIfInBounds_toArray, List.set_cons_zero, List.set_cons_succ, List.getElem_toArray, List.getElem_cons_succ, List.getElem_cons_zero]
    have HS : ∃ L', Mem w0 H ((w.heap.size, .cells #[.int .i64 h.size, .int .i64 h.half, .int .i64 h.scan, .bool h.busy, .slice ob h.old.length oc, .slice nb h.new.length nc, .slice rb h.regs.length rc] 31) :: L') _ := ⟨_, mC⟩

    refine AnyFrom.pure (i := 11) (v := ?_) rfl (by kernel_rfl) (by kernel_rfl) (by kernel_rfl) (by decide) (fun _ _ _ h => h) ⟨by kernel_rfl, ?_⟩ HS ?_
    rotate_left
    · first | (intro w'; go_simp; done) | (intro w'; go_simp; with_reducible rfl)
    simp only [Act.put, List.setIfInBounds_toArray, List.set_cons_zero, List.set_cons_succ, List.getElem_toArray, List.getElem_cons_succ, List.getElem_cons_zero]

  all_goals
    have es := mC.eqs
    simp only [EqsL] at es
    refine AnyFrom.call (i := 13) (by kernel_rfl) rfl (by kernel_rfl) fun K hK => ?_
    go_simp
    refine hK _ _ (.inl ⟨13, by decide, by rfl⟩) ?_
    clear hK K HS
    try simp only [Act.put, List.setIfInBounds_toArray, List.set_cons_zero, List.set_cons_succ, List.getElem_toArray, List.getElem_cons_succ, List.getElem_cons_zero]
    refine AnyFrom.done (by kernel_rfl) ?_ _
    have mD := (((((((mC.set (i := 0) (v := .int .i64 h.size) (.tail .head)).set (i := 1) (v := .int .i64 h.half) (.tail .head)).set (i := 2) (v := .int .i64 h.scan) (.tail .head)).set (i := 3) (v := .bool h.busy) (.tail .head)).set (i := 4) (v := .slice none 0 0) (.tail .head)).set (i := 5) (v := .slice none 0 0) (.tail .head)).set (i := 6) (v := .slice cb h.regs.length cc) (.tail .head))
    simp only [List.setIfInBounds_toArray, List.set_cons_zero, List.set_cons_succ] at mD
    clear es
    generalize (((((((W2.setCell ⟨xo, 0, none⟩ (.int .i64 h.size)).setCell ⟨xo, 1, none⟩ (.int .i64 h.half)).setCell ⟨xo, 2, none⟩ (.int .i64 h.scan)).setCell ⟨xo, 3, none⟩ (.bool h.busy)).setCell ⟨xo, 4, none⟩ (.slice none 0 0)).setCell ⟨xo, 5, none⟩ (.slice none 0 0)).setCell ⟨xo, 6, none⟩ (.slice cb h.regs.length cc)) = W3 at *
    go_wp2_with fail
    go_loopw [4, 5] (fun v4 _ wr => ∃ (k : Nat) (H' : Hp) (qb : Option Addr) (qc : Nat) (hr : List (RowM × Int)) (Lq : List (Nat × Obj)), k ≤ h.old.length ∧ v4 = .int .i64 k ∧ Hle H H' ∧ AccL 87 5 (.slice qb k qc) k (heldCs hr) Lq ∧ hr.length = k ∧ HeldF H' hr (h.old.take k) ∧ Mem w0 H' ((w.heap.size, .cells #[.int .i64 h.size, .int .i64 h.half, .int .i64 h.scan, .bool h.busy, .slice ob h.old.length oc, .slice nb h.new.length nc, .slice rb h.regs.length rc] 31) :: (xo, .cells #[.int .i64 h.size, .int .i64 h.half, .int .i64 h.scan, .bool h.busy, .slice qb k qc, .slice none 0 0, .slice cb h.regs.length cc] 31) :: (w.heap.size + 1, .cells #[.int .i64 0, .int .i64 0, .int .i64 0, .bool false, .slice none 0 0, .slice none 0 0, .slice none 0 0] 31) :: (Lq ++ (L0 ++ L))) wr) (fun i _ _ => h.old.length - (intOf i).toNat)
    case atStart => exact ⟨0, H, none, 0, [], [], Nat.zero_le _, rfl, Hle.refl _, AccL.nil, rfl, .nil, mD⟩
    case round =>
      obtain ⟨k, H', qb, qc, hr, Lq, hk, rfl, hle, hq, hhl, hhf, mE⟩ := hrel
      clear mC mD
      have HHF := Lib.hid hhf; clear hhf
      have HHL := Lib.hid hhl; clear hhl
      have es := mE.eqs
      simp only [EqsL] at es
      by_cases hlt : k < h.old.length
      · obtain ⟨blo, offo, svo, hbo, o0, o1, o2, o3, o4, hslo, hfto, hto⟩ := (HVO.out.mono hle).getHeld hlt
        have HSLO := Lib.hid hslo
        obtain ⟨bo1, co1, rfl, -, hco1, -, -⟩ := hslo
        have hco1 := size_le_maxLen hco1
        subst hbo
        have o0 := o0.cell mE
        have o1 := o1.cell mE
        have o2 := o2.cell mE
        have o3 := o3.cell mE
        have o4 := o4.cell mE
        have hok := HOS.out _ (List.getElem_mem hlt)
        have htk : h.old.take (k + 1) = h.old.take k ++ [h.old[k]] := List.take_succ_eq_append_getElem hlt
        have HTK := Lib.hid htk; clear htk
        have HFTO := Lib.hid hfto; clear hfto
        have HTO := Lib.hid hto; clear hto
        have hltI : (k : Int) < h.old.length := by omega
        generalize hpk : h.old[k] = p at *
        clear hpk
        obtain ⟨po, pt⟩ := p
        simp only at *
        have mF := mE.alloc (.cells #[.int .u8 po.kind, .string po.name, .int .i64 po.n, .slice bo1 po.slots.length co1, .int .i64 pt] 87)
        go_wp2_with fail
        refine (values_any _ po.slots mF HSLO.out hok).mono ?_
        rintro e w5 ⟨b5, c5, L1, rfl, hown5, mG⟩
        obtain ⟨H2, mH, hle2, hsl5⟩ := hown5.freeze mG
        clear es o0 o1 o2 o3 o4 mF mG mE hown5
        have HSL5 := Lib.hid hsl5; clear hsl5
        have es := mH.eqs
        simp only [EqsL] at es
        have mI := mH.set (i := 3) (v := .slice b5 po.slots.length c5) .head
        simp only [List.setIfInBounds_toArray, List.set_cons_zero, List.set_cons_succ] at mI
        have hsz : (w5.setCell ⟨wr.heap.size, 3, none⟩ (.slice b5 po.slots.length c5)).heap.size = w5.heap.size := by simp [World.setCell]
        have mJ := (mI.alloc (.cells #[.int .u8 po.kind, .string po.name, .int .i64 po.n, .slice b5 po.slots.length c5, .int .i64 pt] 87)).perm (perm_cr1 _ _ _ _ _ Lq _)
        rw [hsz] at mJ
        clear hsz
        obtain ⟨_, _, hqe, hq1, hq2⟩ := hq.shape
        cases hqe
        have hfs := HFTO.out.s
        go_wp2_with (at_builtin; go_must (refine wpList_append_mem (w0 := w0) (H := H2) (L := _ :: _) rfl _ _ 27 rfl 87 5 64 (.agg #[.int .u8 0, .string ByteArray.empty, .int .i64 0, .slice none 0 0, .int .i64 0]) Try.underlying27 (by kernel_rfl) rfl (by decide) (.slice qb k qc) k (heldCs hr) (hq.join mJ) rfl (.slice (some ⟨w5.heap.size, 0, none⟩) 1 1) 1 [.int .u8 po.kind, .string po.name, .int .i64 po.n, .slice b5 po.slots.length c5, .int .i64 pt] (Src.loc (e := 87) (hq.join mJ).mem (.head _)) rfl rfl (one5 rfl) (by omega) (by unfold maxLen; omega) ?_))
        intro v' w6 hacc
        obtain ⟨b6, c6, rfl, _, _⟩ := hacc.shape
        obtain ⟨Lq3, hq3, mK⟩ := hacc.drop.split
        have mL := mK.perm (perm_cr2 _ _ _ _ Lq3 _)
        clear hacc mK mJ mI mH es
        have es := mL.eqs
        simp only [EqsL] at es
        have mM := (mL.set (i := 4) (v := .slice b6 (k + 1) c6) (.tail (.tail .head))).drop
        simp only [List.setIfInBounds_toArray, List.set_cons_zero, List.set_cons_succ] at mM
        go_wp2_with fail
        go_roundw
        case rel =>
          refine ⟨k + 1, H2, b6, c6, hr ++ [(⟨po.kind, po.name, po.n, .slice b5 po.slots.length c5⟩, pt)], Lq3, by omega, by go_num, hle.trans hle2, ?_, by rw [List.length_append, HHL.out]; rfl, ?_, mM⟩
          · rw [heldCs_append]; exact hq3
          · rw [HTK.out]; exact (HHF.out.mono hle2).snoc ⟨rfl, rfl, rfl, HFTO.out, HSL5.out⟩ HTO.out
        case measure => simp [intOf]; omega
      · have hge : ¬ (k : Int) < h.old.length := by omega
        have hk' : k = h.old.length := by omega
        have HK := Lib.hid hk'; clear hk'
        go_wp2_with fail
        clear es
        go_loopw [6, 7] (fun v6 _ wr => ∃ (j : Nat) (ab : Option Addr) (ac : Nat) (rs : List RowM) (La Ls : List (Nat × Obj)), j ≤ h.new.length ∧ v6 = .int .i64 j ∧ AccL 48 4 (.slice ab j ac) j (rowCs rs) La ∧ rs.length = j ∧ OwnSlots rs (h.new.take j) Ls ∧ Mem w0 H' ((w.heap.size, .cells #[.int .i64 h.size, .int .i64 h.half, .int .i64 h.scan, .bool h.busy, .slice ob h.old.length oc, .slice nb h.new.length nc, .slice rb h.regs.length rc] 31) :: (xo, .cells #[.int .i64 h.size, .int .i64 h.half, .int .i64 h.scan, .bool h.busy, .slice qb k qc, .slice ab j ac, .slice cb h.regs.length cc] 31) :: (w.heap.size + 1, .cells #[.int .i64 0, .int .i64 0, .int .i64 0, .bool false, .slice none 0 0, .slice none 0 0, .slice none 0 0] 31) :: (La ++ (Ls ++ (Lq ++ (L0 ++ L))))) wr) (fun i _ _ => h.new.length - (intOf i).toNat)
        case atStart => exact ⟨0, none, 0, [], [], [], Nat.zero_le _, rfl, AccL.nil, rfl, .nil, mE⟩
        case round =>
          obtain ⟨j, ab, ac, rs, La, Ls, hj, rfl, ha, hrs, hos, mN⟩ := hrel
          clear mE
          have HOS2 := Lib.hid hos; clear hos
          have HRS := Lib.hid hrs; clear hrs
          have es := mN.eqs
          simp only [EqsL] at es
          by_cases hlt : j < h.new.length
          · obtain ⟨bln, offn, svn, hbn, o0, o1, o2, o3, hsln, hftn⟩ := (HVN.out.mono hle).getObj hlt
            have HSLN := Lib.hid hsln
            obtain ⟨bo1, co1, rfl, -, hco1, -, -⟩ := hsln
            have hco1 := size_le_maxLen hco1
            subst hbn
            have o0 := o0.cell mN
            have o1 := o1.cell mN
            have o2 := o2.cell mN
            have o3 := o3.cell mN
            have hok := HNS.out _ (List.getElem_mem hlt)
            have htk : h.new.take (j + 1) = h.new.take j ++ [h.new[j]] := List.take_succ_eq_append_getElem hlt
            have HTK := Lib.hid htk; clear htk
            have HFTN := Lib.hid hftn; clear hftn
            have hltI : (j : Int) < h.new.length := by omega
            generalize hpk : h.new[j] = po at *
            clear hpk
            have mF := mN.alloc (.cells #[.int .u8 po.kind, .string po.name, .int .i64 po.n, .slice bo1 po.slots.length co1] 48)
            go_wp2_with fail
            refine (values_any _ po.slots mF HSLN.out hok).mono ?_
            rintro e w5 ⟨b5, c5, L1, rfl, hown5, mG⟩
            have mH := mG.perm (perm_cr3 _ _ _ _ L1 _)
            clear es o0 o1 o2 o3 mF mG mN
            have es := mH.eqs
            simp only [EqsL] at es
            have mI := mH.set (i := 3) (v := .slice b5 po.slots.length c5) .head
            simp only [List.setIfInBounds_toArray, List.set_cons_zero, List.set_cons_succ] at mI
            have hsz : (w5.setCell ⟨wr.heap.size, 3, none⟩ (.slice b5 po.slots.length c5)).heap.size = w5.heap.size := by simp [World.setCell]
            have mJ := (mI.alloc (.cells #[.int .u8 po.kind, .string po.name, .int .i64 po.n, .slice b5 po.slots.length c5] 48)).perm (perm_cr4 _ _ _ _ _ L1 La _)
            rw [hsz] at mJ
            clear hsz
            obtain ⟨_, _, hqe, hq1, hq2⟩ := ha.shape
            cases hqe
            go_wp2_with (at_builtin; go_must (refine wpList_append_mem (w0 := w0) (H := H') (L := _ :: _) rfl _ _ 28 rfl 48 4 56 (.agg #[.int .u8 0, .string ByteArray.empty, .int .i64 0, .slice none 0 0]) Try.underlying28 (by kernel_rfl) rfl (by decide) (.slice ab j ac) j (rowCs rs) (ha.join mJ) rfl (.slice (some ⟨w5.heap.size, 0, none⟩) 1 1) 1 [.int .u8 po.kind, .string po.name, .int .i64 po.n, .slice b5 po.slots.length c5] (Src.loc (e := 48) (ha.join mJ).mem (.head _)) rfl rfl (by simp [Value.oneCell']) (by omega) (by unfold maxLen; omega) ?_))
            intro v' w6 hacc
            obtain ⟨b6, c6, rfl, _, _⟩ := hacc.shape
            obtain ⟨La3, ha3, mK⟩ := hacc.drop.split
            have mL := mK.perm (perm_cr5 _ _ _ _ La3 L1 Ls _)
            clear hacc mK mJ mI mH es
            have es := mL.eqs
            simp only [EqsL] at es
            have mM := (mL.set (i := 5) (v := .slice b6 (j + 1) c6) (.tail (.tail .head))).drop
            simp only [List.setIfInBounds_toArray, List.set_cons_zero, List.set_cons_succ] at mM
            go_wp2_with fail
            go_roundw
            case rel =>
              refine ⟨j + 1, b6, c6, rs ++ [⟨po.kind, po.name, po.n, .slice b5 po.slots.length c5⟩], La3, Ls ++ L1, by omega, by go_num, ?_, by rw [List.length_append, HRS.out]; rfl, ?_, mM⟩
              · rw [rowCs_append]; exact ha3
              · rw [HTK.out]; exact HOS2.out.snoc rfl rfl rfl HFTN.out hown5
            case measure => simp [intOf]; omega
          · have hge : ¬ (j : Int) < h.new.length := by omega
            have hj' : j = h.new.length := by omega
            have HJ := Lib.hid hj'; clear hj'
            have mS := mN.perm (perm_cr6 _ _ _ _)
            have ns := mS.nes
            simp only [NeL, NeFrom] at ns
            go_wp2_with fail
            refine bodyPost_ret (v := .agg #[.int .i64 h.size, .int .i64 h.half, .int .i64 h.scan, .bool h.busy, .slice qb k qc, .slice ab j ac, .slice cb h.regs.length cc]) (by simp [results, Try.results23, go_sem, es, ns]) rfl ?_
            refine ⟨H', _, _, _, rfl, hle, hr, rs, Lq, La, Ls, L0, ?_, ?_, ?_, ?_, hown, ?_⟩
            · rw [HHL.out]; exact hq
            · have := HHF.out; rwa [HK.out, List.take_length] at this
            · rw [HRS.out]; exact ha
            · have := HOS2.out; rwa [HJ.out, List.take_length] at this
            · refine MemB.done (ks := [w.heap.size + 1, w.heap.size, xo]) ?_
              repeat (first | refine MemB.set (by simp) ?_ | exact ⟨[_, _, _], rfl, mS.perm (perm_cr7 _ _ _ La Ls Lq _)⟩)
end Go.Proofs.Ythipkmmdjhpklaa
