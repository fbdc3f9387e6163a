/- The walk: a collection begins. A law for a range over a function whose iterator writes memory of its own: what is owned is listed; the loop's two records lie in the list. No program in sight. Plain law: objects scanned. No program in sight. The walk: objects scanned, one after the other; each is told to the loop over them. The walks: deeds at a heap. The walk: the deed that begins a collection. The walk: the deed that scans objects. -/
import Derived.Test.YthipkmmdjhpklaaK02
import Derived.RangeFuncIn
import Derived.RangeFuncRecord
import Derived.RangeFuncFrom
import Derived.ControlIn
import Derived.Test.YthipkmmdjhpklaaK01
import Derived.Deep.LoopGhost
import Derived.OwnWalkIn
import Derived.TacticsInMore
import Derived.RangeFuncNested
import Derived.RangeFuncBound
import Derived.RangeFuncCalls
import Derived.RangeFuncLeaves
import Derived.Shelf.Abstract
namespace Go.Proofs.Ythipkmmdjhpklaa
set_option linter.unusedVariables false
set_option linter.unusedSimpArgs false
open Go.RowKit

/-- The old half, when a collection begins. -/
def oldOf (l : List ObjM) : List (ObjM × Int) := l.map fun o => (o, -1)
theorem oldOf_length (l : List ObjM) : (oldOf l).length = l.length := by simp [oldOf]
theorem oldOf_snoc (l : List ObjM) (k : Nat) (h : k < l.length) : oldOf (l.take (k + 1)) = oldOf (l.take k) ++ [(l[k], -1)] := by
  unfold oldOf
  rw [List.take_succ_eq_append_getElem h, List.map_append]
  rfl
def HeapM.begin (h : HeapM) : HeapM :=
  { h with half := 1 - h.half, busy := true, scan := 0, old := (movesN (1 - h.half) (oldOf h.new) 0 h.regs).2.1, new := (movesN (1 - h.half) (oldOf h.new) 0 h.regs).2.2, regs := (movesN (1 - h.half) (oldOf h.new) 0 h.regs).1 }
theorem perm_be1 {α : Type} (x b : α) (Lo R : List α) : (x :: b :: (Lo ++ R)).Perm (b :: x :: (Lo ++ R)) := (by classical exact List.perm_iff_count.2 (fun a => by simp only [List.count_append, List.count_cons, List.cons_append, List.nil_append, List.append_assoc]; omega))
theorem perm_be2 {α : Type} (l b x : α) (R : List α) : (l :: b :: x :: R).Perm (b :: x :: l :: R) := (by classical exact List.perm_iff_count.2 (fun a => by simp only [List.count_append, List.count_cons, List.cons_append, List.nil_append, List.append_assoc]; omega))
theorem perm_be3 {α : Type} (l b x : α) (Lo R : List α) : (l :: b :: x :: (Lo ++ R)).Perm (Lo ++ (l :: b :: x :: R)) := (by classical exact List.perm_iff_count.2 (fun a => by simp only [List.count_append, List.count_cons, List.cons_append, List.nil_append, List.append_assoc]; omega))
theorem perm_be4 {α : Type} (b x : α) (Lo R : List α) : (Lo ++ (b :: x :: R)).Perm (b :: x :: (Lo ++ R)) := (by classical exact List.perm_iff_count.2 (fun a => by simp only [List.count_append, List.count_cons, List.cons_append, List.nil_append, List.append_assoc]; omega))
theorem perm_be5 {α : Type} (b x : α) (Lo R : List α) : (b :: x :: (Lo ++ R)).Perm (x :: b :: (Lo ++ R)) := (by classical exact List.perm_iff_count.2 (fun a => by simp only [List.count_append, List.count_cons, List.cons_append, List.nil_append, List.append_assoc]; omega))
theorem perm_be6 {α : Type} (b : α) (Lo Ln R : List α) : (b :: (Lo ++ (Ln ++ R))).Perm (Ln ++ (b :: (Lo ++ R))) := (by classical exact List.perm_iff_count.2 (fun a => by simp only [List.count_append, List.count_cons, List.cons_append, List.nil_append, List.append_assoc]; omega))
theorem perm_be7 {α : Type} (b : α) (Lo Ln Ls R : List α) : (b :: (Lo ++ (Ln ++ (Ls ++ R)))).Perm (Ls ++ (b :: (Lo ++ (Ln ++ R)))) := (by classical exact List.perm_iff_count.2 (fun a => by simp only [List.count_append, List.count_cons, List.cons_append, List.nil_append, List.append_assoc]; omega))
theorem one5 {k : Nat} {s : ByteArray} {n t : Int} {sv : Value} (h : sv.oneCell' = true) : ∀ u ∈ [Value.int .u8 k, .string s, .int .i64 n, sv, .int .i64 t], u.oneCell' = true := by
  intro u hu
  simp only [List.mem_cons, List.not_mem_nil, or_false] at hu
  rcases hu with rfl | rfl | rfl | rfl | rfl
  all_goals first | rfl | exact h
set_option maxRecDepth 10000 in
set_option maxHeartbeats 4000000 in
theorem begin_any (b : Nat) (h : HeapM) {w0 w : World} {H : Hp} {L : List (Nat × Obj)} (hc : HeapOwn TH b h w0 H L w) (hold : h.old = []) (hhalf : h.half = 0 ∨ h.half = 1) (hnl : h.new.length ≤ 100000)
    (hm : CanMove (1 - h.half) (oldOf h.new) 0) (hx : ∀ x ∈ h.regs, CanV (1 - h.half) h.new.length x) :
    Calls Try.prog 111 #[.pointer (some ⟨b, 0, none⟩)] w fun e w' => e = .returned (.tuple #[]) ∧ ∃ H', Hle H H' ∧ HeapOwn TH b h.begin w0 H' L w' := by
  obtain ⟨rs, rv, Ls, Lr, hs, hv, hcore⟩ := hc
  obtain ⟨size, half, scan, busy, old, new, regs⟩ := h
  simp only at *
  subst hold
  obtain ⟨ob, oc, nb, nc, hr, Lo, Ln, ho, hrl, hf, hn, m, hoc, hnc, hol, hnl2⟩ := hcore.shape
  have hnl1 := hs.length
  obtain ⟨H', m1, hle, hrf⟩ := hs.freeze (m.perm (perm_be7 _ Lo Ln Ls _))
  have hnc := size_le_maxLen hnc
  have HM := Lib.hid hm; clear hm
  have HX := Lib.hid hx; clear hx
  have HRF := Lib.hid hrf; clear hrf
  obtain ⟨sb, sc, rfl, _, _⟩ := hv.shape
  have HV := Lib.hid hv; clear hv
  obtain rfl : hr = [] := List.eq_nil_of_length_eq_zero (by simpa using hrl)
  clear hs m hcore hf hrl
  have m1u := m1
  unfold HBox at m1u
  have es := m1u.eqs; simp only [EqsL, and_true] at es
  go_enter Try.func111, Try.ntmps111
  go_wp2_with fail
  clear m1u es
  go_loopw [3, 10] (fun _ v10 wr => ∃ (k : Nat) (ob : Option Addr) (oc : Nat) (hr : List (RowM × Int)) (Lo : List (Nat × Obj)), k ≤ new.length ∧ v10 = .int .i64 k ∧ AccL 87 5 (.slice ob k oc) k (heldCs hr) Lo ∧ HeldF H' hr (oldOf (new.take k)) ∧ Mem w0 H' ((b, HBox TH size half scan busy (.slice ob k oc) (.slice nb rs.length nc) (.slice sb regs.length sc)) :: (Lo ++ (Ln ++ (Lr ++ L)))) wr) (fun _ i _ => new.length - (intOf i).toNat)
  case atStart => exact ⟨0, ob, oc, [], Lo, Nat.zero_le _, rfl, ho, .nil, m1⟩
  case round =>
    obtain ⟨k, ob2, oc2, hr2, Lo2, hk, rfl, ho2, hf2, m2⟩ := hrel
    clear ho hol hoc m1
    by_cases hlt : k < new.length
    · have hltr : k < rs.length := by omega
      have hlt1 : (k : Int) < rs.length := by omega
      have hrk := HRF.out.get k hltr hlt
      obtain ⟨g, rfl, hcl, _, hgl, _, _⟩ := hn.at (by rw [rowCs_length]; omega) m2 (fun p hp => by simp [hp])
      obtain ⟨e0, e1, e2, e3⟩ := rowCs_get rs k hltr
      have c0 := hcl _ _ e0
      have c1 := hcl _ _ e1
      have c2 := hcl _ _ e2
      have c3 := hcl _ _ e3
      have HRK := Lib.hid hrk; clear hrk
      have HF2 := Lib.hid hf2; clear hf2
      have hsn := oldOf_snoc new k hlt
      have HSN := Lib.hid hsn; clear hsn
      have hrs := HRK.out.fit.s
      rw [← HRK.out.name] at hrs
      have HRS := Lib.hid hrs; clear hrs
      clear hcl e0 e1 e2 e3
      generalize rs[k] = r at *
      obtain ⟨rk, rname, rn, rsv⟩ := r
      obtain ⟨rb, rc, hrsv, _, _, _, _⟩ := HRK.out.sl
      simp only at hrsv c0 c1 c2 c3 HRS
      subst hrsv
      have m2u := m2
      unfold HBox at m2u
      have es := m2u.eqs; simp only [EqsL, and_true] at es
      have m3 := (m2.alloc (.cells #[.int .u8 rk, .string rname, .int .i64 rn, (.slice rb new[k].slots.length rc)] 48)).perm (perm_be1 _ _ Lo2 _)
      go_wp2_with fail
      generalize wr.alloc (.cells #[.int .u8 rk, .string rname, .int .i64 rn, (.slice rb new[k].slots.length rc)] 48) = W3 at *
      generalize hxb : wr.heap.size = xb at *
      clear es m2u c0 c1 c2 c3
      refine AnyFrom.start (fun w' => ∃ L', Mem w0 H' ((b, HBox TH size half scan busy (.slice ob2 k oc2) (.slice (some ⟨g, 0, none⟩) rs.length nc) (.slice sb regs.length sc)) :: (xb, .cells #[.int .u8 rk, .string rname, .int .i64 rn, (.slice rb new[k].slots.length rc)] 48) :: L') w') 13 (by kernel_rfl) ?_
      have m4 := m3.drew
      clear m3 m2
      generalize W3.drew = W4 at *
      have HS : ∃ L', Mem w0 H' ((b, HBox TH size half scan busy (.slice ob2 k oc2) (.slice (some ⟨g, 0, none⟩) rs.length nc) (.slice sb regs.length sc)) :: (xb, .cells #[.int .u8 rk, .string rname, .int .i64 rn, (.slice rb new[k].slots.length rc)] 48) :: L') W4 := ⟨_, m4⟩
      refine AnyFrom.pure (i := 0) (v := ?_) rfl (by kernel_rfl) (by kernel_rfl) (by kernel_rfl) (by decide) (fun _ _ _ h => h) ⟨by rfl, ?_⟩ HS ?_
      rotate_left
      · first | (intro w'; go_simp; done) | (intro w'; go_simp; with_reducible rfl)
      simp only [Act.put, List.setIfInBounds_toArray, List.set_cons_zero, List.set_cons_succ]
      refine AnyFrom.pure (i := 1) (v := ?_) rfl (by kernel_rfl) (by kernel_rfl) (by kernel_rfl) (by decide) (fun _ _ _ h => h) ⟨by rfl, ?_⟩ HS ?_
      rotate_left
      · first | (intro w'; go_simp; done) | (intro w'; go_simp; with_reducible rfl)
      simp only [Act.put, List.setIfInBounds_toArray, List.set_cons_zero, List.set_cons_succ]
      refine AnyFrom.pure (i := 2) (v := ?_) rfl (by kernel_rfl) (by kernel_rfl) (by kernel_rfl) (by decide) (fun _ _ _ h => h) ⟨by rfl, ?_⟩ HS ?_
      rotate_left
      · first | (intro w'; go_simp; done) | (intro w'; go_simp; with_reducible rfl)
      simp only [Act.put, List.setIfInBounds_toArray, List.set_cons_zero, List.set_cons_succ]
      refine AnyFrom.pure (i := 3) (v := ?_) rfl (by kernel_rfl) (by kernel_rfl) (by kernel_rfl) (by decide) (fun _ _ _ h => h) ⟨by rfl, ?_⟩ HS ?_
      rotate_left
      · first | (intro w'; go_simp; done) | (intro w'; go_simp; with_reducible rfl)
      simp only [Act.put, List.setIfInBounds_toArray, List.set_cons_zero, List.set_cons_succ]
      refine AnyFrom.pure (i := 4) (v := ?_) rfl (by kernel_rfl) (by kernel_rfl) (by kernel_rfl) (by decide) (fun _ _ _ h => h) ⟨by rfl, ?_⟩ HS ?_
      rotate_left
      · first | (intro w'; go_simp; done) | (intro w'; go_simp; with_reducible rfl)
      simp only [Act.put, List.setIfInBounds_toArray, List.set_cons_zero, List.set_cons_succ]
      refine AnyFrom.take (i := 5) (v := ?_) rfl (by kernel_rfl) (by kernel_rfl) (by kernel_rfl) (by kernel_rfl) (fun _ _ _ h => h) ⟨by rfl, ?_⟩ HS ?_
      rotate_left
      · first | (rintro w' ⟨L', hm⟩; have es := hm.eqs; simp only [HBox, EqsL, and_true] at es; go_simp; done) | (rintro w' ⟨L', hm⟩; have es := hm.eqs; simp only [HBox, EqsL, and_true] at es; go_simp; with_reducible rfl)
      simp only [Act.put, List.setIfInBounds_toArray, List.set_cons_zero, List.set_cons_succ]
      refine AnyFrom.take (i := 6) (v := ?_) rfl (by kernel_rfl) (by kernel_rfl) (by kernel_rfl) (by kernel_rfl) (fun _ _ _ h => h) ⟨by rfl, ?_⟩ HS ?_
      rotate_left
      · first | (rintro w' ⟨L', hm⟩; have es := hm.eqs; simp only [HBox, EqsL, and_true] at es; go_simp; done) | (rintro w' ⟨L', hm⟩; have es := hm.eqs; simp only [HBox, EqsL, and_true] at es; go_simp; with_reducible rfl)
      simp only [Act.put, List.setIfInBounds_toArray, List.set_cons_zero, List.set_cons_succ]
      refine AnyFrom.pure (i := 7) (v := ?_) rfl (by kernel_rfl) (by kernel_rfl) (by kernel_rfl) (by decide) (fun _ _ _ h => h) ⟨by rfl, ?_⟩ HS ?_
      rotate_left
      · first | (intro w'; go_simp; done) | (intro w'; go_simp; with_reducible rfl)
      simp only [Act.put, List.setIfInBounds_toArray, List.set_cons_zero, List.set_cons_succ]
      refine AnyFrom.one (i := 8) (by kernel_rfl) (AnyFrom.op rfl (by rfl) fun K hK => ?_)
      go_simp
      have m5 := m4.alloc (.cells #[.int .u8 rk, .string rname, .int .i64 rn, (.slice rb new[k].slots.length rc), .int .i64 (-1)] 87)
      refine hK _ _ (.inr ⟨_, m5.perm (perm_be2 _ _ _ _)⟩) ?_
      clear hK K
      try simp only [Act.put, List.setIfInBounds_toArray, List.set_cons_zero, List.set_cons_succ]
      have m6 := m5.perm (perm_be3 _ _ _ Lo2 _)
      refine AnyFrom.one (i := 9) (by kernel_rfl) (AnyFrom.opIf rfl fun K hK => ?_)
      refine step_append_mem (w0 := w0) (H := H') (L := _ :: _) rfl _ _ 27 rfl 87 5 64 (.agg #[.int .u8 0, .string ByteArray.empty, .int .i64 0, .slice none 0 0, .int .i64 0]) Try.underlying27 (by kernel_rfl) rfl (by decide) (.slice ob2 k oc2) k (heldCs hr2) (ho2.join m6) rfl (.slice (some ⟨W4.heap.size, 0, none⟩) 1 1) 1 [.int .u8 rk, .string rname, .int .i64 rn, (.slice rb new[k].slots.length rc), .int .i64 (-1)] (Src.loc (e := 87) (ho2.join m6).mem (.head _)) rfl rfl (one5 rfl) (by omega) (by unfold maxLen; omega) ?_
      intro v' w6 hacc
      obtain ⟨b6, c6, rfl, _, _⟩ := hacc.shape
      obtain ⟨Lo3, ho3, m7⟩ := hacc.drop.split
      have m8 := m7.perm (perm_be4 _ _ Lo3 _)
      clear hacc m7 m6 m5
      refine hK _ _ (.inr ⟨_, m8⟩) ?_
      clear hK K
      try simp only [Act.put, List.setIfInBounds_toArray, List.set_cons_zero, List.set_cons_succ]
      refine AnyFrom.one (i := 10) (by kernel_rfl) (AnyFrom.op rfl (by rfl) fun K hK => ?_)
      go_simp
      refine hK _ _ (.inr ⟨_, m8⟩) ?_
      clear hK K
      try simp only [Act.put, List.setIfInBounds_toArray, List.set_cons_zero, List.set_cons_succ]
      refine AnyFrom.one (i := 11) (by kernel_rfl) (AnyFrom.op rfl (by rfl) fun K hK => ?_)
      go_simp
      refine hK _ _ (.inr ⟨_, m8⟩) ?_
      clear hK K
      try simp only [Act.put, List.setIfInBounds_toArray, List.set_cons_zero, List.set_cons_succ]
      refine AnyFrom.one (i := 12) (by kernel_rfl) (AnyFrom.op rfl (by rfl) fun K hK => ?_)
      go_simp
      refine hK _ _ (.inr ⟨_, m8⟩) ?_
      clear hK K
      try simp only [Act.put, List.setIfInBounds_toArray, List.set_cons_zero, List.set_cons_succ]
      have es := m8.eqs
      simp only [HBox, EqsL, and_true] at es
      refine AnyFrom.one (i := 13) (by kernel_rfl) (AnyFrom.op rfl (by rfl) fun K hK => ?_)
      go_simp
      refine hK _ _ (.inl ⟨13, by decide, by rfl⟩) ?_
      clear hK K
      try simp only [Act.put, List.setIfInBounds_toArray, List.set_cons_zero, List.set_cons_succ]
      refine AnyFrom.done (by kernel_rfl) ?_ _
      have m9 := m8.set (i := 4) (v := .slice b6 (k + 1) c6) .head
      simp only [List.setIfInBounds_toArray, List.set_cons_zero, List.set_cons_succ] at m9
      go_wp2_with fail
      go_roundw
      case rel =>
        refine ⟨k + 1, b6, c6, hr2 ++ [(⟨rk, rname, rn, .slice rb new[k].slots.length rc⟩, -1)], Lo3, by omega, by go_num, ?_, ?_, (m9.perm (perm_be5 _ _ Lo3 _)).drop⟩
        · rw [heldCs_append]; exact ho3
        · rw [HSN.out]; exact HF2.out.snoc HRK.out ⟨by decide, by decide⟩
      case measure => simp [intOf]; omega
    · have hk' : k = new.length := by omega
      subst hk'
      have hge : ¬ ((new.length : Int) < rs.length) := by omega
      have m2u := m2
      unfold HBox at m2u
      have es := m2u.eqs; simp only [EqsL, and_true] at es
      go_wp2_with fail
      have m3 := (((m2.set (i := 5) (v := .slice none 0 0) .head).set (i := 1) (v := .int .i64 (1 - half)) .head).set (i := 3) (v := .bool true) .head).set (i := 2) (v := .int .i64 0) .head
      simp only [List.setIfInBounds_toArray, List.set_cons_zero, List.set_cons_succ] at m3
      have m4 := Mem.dropL Ln (m3.perm (perm_be6 _ Lo2 Ln _))
      rw [List.take_length] at hf2
      have hhl := hf2.length
      rw [oldOf_length] at hhl
      have hc2 : Core TH b size (1 - half) 0 true (oldOf new) [] (.slice sb regs.length sc) w0 H' (Lr ++ L) _ := ⟨_, _, hr2, Lo2, [], by rw [hhl]; exact ho2, hf2, AccL.nil, m4⟩
      refine (moveAll_any regs hc2 HV.out HM.out (by rw [oldOf_length]; exact HX.out)).mono ?_
      rintro e w5 ⟨rs', Lx, Ls', rfl, h1, h2, h3⟩
      go_wp2_with fail
      go_end0
      exact ⟨rfl, H', hle, rs', _, Lx, Ls', h1, h2, h3⟩
end Go.Proofs.Ythipkmmdjhpklaa
namespace Go.Proofs.Ythipkmmdjhpklaa
set_option linter.unusedVariables false
set_option linter.unusedSimpArgs false
open Go.RowKit

theorem Mem.putObj {w0 w : World} {H : Hp} {L L' : List (Nat × Obj)} {k : Nat} {o o' : Obj} (m : Mem w0 H L w) (hu : LUpd L k o o' L') : Mem w0 H L' (w.putObj k o') :=
  m.setObj hu rfl rfl rfl (World.putObj_heap_same (lt_of_heap (m.loc _ hu.mem).1)) fun j hj => World.putObj_heap_other hj
theorem LUpd.appR {k : Nat} {o o' : Obj} {L L' : List (Nat × Obj)} (h : LUpd L k o o' L') : ∀ (L0 : List (Nat × Obj)), LUpd (L0 ++ L) k o o' (L0 ++ L')
  | [] => h
  | _ :: L0 => .tail (LUpd.appR h L0)

/-- What a call of yield does to what the round's side owns (RB: it goes on; Rx: it has said 'no more'), whatever the iterator owns beside it. -/
def YieldMem (P : Program) (l : Nat) (w0 : World) (RB Rx : Nat → List (Nat × Obj) → Prop) : Prop :=
  ∀ (n k : Nat) (H1 : Hp) (L1 LB : List (Nat × Obj)) (W : World), RB k LB → Mem w0 H1 (L1 ++ LB) W →
    YieldAt Fence.wide n P l #[] W fun e W' => ∃ LB', Mem w0 H1 (L1 ++ LB') W' ∧ ((e = .returned (.bool true) ∧ RB (k + 1) LB') ∨ (e = .returned (.bool false) ∧ Rx (k + 1) LB'))

def loopRec (fn : FuncId) (tmps : Array Value) (body : Code) (d : Nat) (st : LoopState) (pe : Option Code) : Loop := { state := st, pending := pe, fn, tmps, params := #[], assign := .skip, body, defers := d }
section
variable {P : Program} {w0 w : World} {H : Hp}
theorem wp_rangeFunc_mem {g : Operand} {body : Code} {Q : Exit → Act → World → Prop} {a : Act} {gf : Nat} {first : Array Value} {LH LB : List (Nat × Obj)} (m : Mem w0 H (LH ++ LB) w)
    (hg : a.eval g = .func (.func gf) first #[]) (eg : ∀ args w, (callFunc gf args).run P w = .ok (.enter gf args) w)
    (RB : Nat → List (Nat × Obj) → Prop) (Rx : Code → Nat → List (Nat × Obj) → Prop) (Done Stop : Nat → Hp → List (Nat × Obj) → Prop) (h0 : RB 0 LB)
    (hbody : ∀ (l n k : Nat) (H1 : Hp) (L1 LB : List (Nat × Obj)) (W : World), RB k LB → Mem w0 H1 (L1 ++ LB) W → body.wpIn (Fence.wide.inRound l) n P (fun
      | .normal, _, W' => ∃ LB', RB (k + 1) LB' ∧ Mem w0 H1 (L1 ++ LB') W'
      | .exit id, _, W' => ∃ LB', Rx (.exit id) (k + 1) LB' ∧ Mem w0 H1 (L1 ++ LB') W'
      | _, _, _ => False) { tmps := a.tmps, defers := [] } W)
    (hit : ∀ (l : Nat) (RB' Rx' : Nat → List (Nat × Obj) → Prop), YieldMem P l w0 RB' Rx' → ∀ (LB' : List (Nat × Obj)) (W : World), RB' 0 LB' → Mem w0 H (LH ++ LB') W →
      Calls P gf (first ++ #[.func (.yield l) #[] #[]]) W fun e W' => (∃ v, e = .returned v) ∧ ∃ k H' LH' LB'', Mem w0 H' (LH' ++ LB'') W' ∧ ((RB' k LB'' ∧ Done k H' LH') ∨ (Rx' k LB'' ∧ Stop k H' LH')))
    (hdone : ∀ (D k : Nat) (H' : Hp) (LH' LB' : List (Nat × Obj)) (W : World), RB k LB' → Done k H' LH' → Mem w0 H' (LH' ++ ((D, .deferred (some [])) :: LB')) W → Q .normal { a with defers := { target := .collected D, args := #[] } :: a.defers } W)
    (hstop : ∀ (D k : Nat) (id : Nat) (H' : Hp) (LH' LB' : List (Nat × Obj)) (W : World), Rx (.exit id) k LB' → Stop k H' LH' → Mem w0 H' (LH' ++ ((D, .deferred (some [])) :: LB')) W → (Code.exit id).wp P Q { a with defers := { target := .collected D, args := #[] } :: a.defers } W) :
    (Code.rangeFunc g #[] .skip body).wp P Q a w := by
  rw [← wpIn_wide (n := 0)]
  refine wpIn_rangeFunc ?_
  intro fn hfn
  obtain ⟨W1, hW1⟩ : ∃ W1, (w.alloc (.deferred (some []))).alloc (.loop (loopRec fn a.tmps body w.heap.size .ready none)) = W1 := ⟨_, rfl⟩
  have m1 : Mem w0 H (LH ++ ((w.heap.size + 1, .loop (loopRec fn a.tmps body w.heap.size .ready none)) :: (w.heap.size, .deferred (some [])) :: LB)) W1 := by
    have := (m.alloc (.deferred (some []))).alloc (.loop (loopRec fn a.tmps body w.heap.size .ready none))
    rw [World.size_alloc, hW1] at this
    exact this.perm ((List.perm_middle (l₁ := LH)).trans (.cons _ (List.perm_middle (l₁ := LH)))).symm
  refine ⟨w.heap.size + 1, [{ target := .collected w.heap.size, args := #[] }], W1, { target := .fn (.func gf) #[], args := first ++ #[.func (.yield (w.heap.size + 1)) #[] #[]] }, W1, gf,
    first ++ #[.func (.yield (w.heap.size + 1)) #[] #[]], W1, ?_, ?_, ?_, ?_, fun h => (by simp [Fence.wide] at h), ?_⟩
  · rw [← hW1]; exact run_enterLoop_outer _ _ _ _ _
  · simp only [resolve, hg]
    simp [go_sem]
  · intro f' hf'; trivial
  · simp [invoke, go_sem, eg]
  · refine callsIn_wide.2 ?_
    refine (hit (w.heap.size + 1) (fun k LB' => ∃ LB0, LB' = (w.heap.size + 1, .loop (loopRec fn a.tmps body w.heap.size .ready none)) :: (w.heap.size, .deferred (some [])) :: LB0 ∧ RB k LB0)
      (fun k LB' => ∃ LB0 id, LB' = (w.heap.size + 1, .loop (loopRec fn a.tmps body w.heap.size .done (some (.exit id)))) :: (w.heap.size, .deferred (some [])) :: LB0 ∧ Rx (.exit id) k LB0) ?_ _ W1 ⟨LB, rfl, h0⟩ m1).mono ?_
    · intro n k H1 L1 LB' W hRB mW
      obtain ⟨LB0, rfl, hRB⟩ := hRB
      have hl := (mW.loc (w.heap.size + 1, .loop (loopRec fn a.tmps body w.heap.size .ready none)) (List.mem_append_right _ (.head _))).1
      have hy : (Instr.yield (w.heap.size + 1) #[]).run P W = .ok (.round (w.heap.size + 1) fn a.tmps .skip body) W := by
        have := run_yield (P := P) (args := #[]) hl rfl
        simpa [loopRec] using this
      have mB := mW.putObj ((LUpd.head (o' := .loop (loopRec fn a.tmps body w.heap.size .busy none))).appR L1)
      refine ⟨fn, a.tmps, .skip, body, hy, roundIn_of_wpIn trivial (wpIn_skip ?_)⟩
      have hbr : (Instr.beginRound (w.heap.size + 1)).run P W = .ok () (W.putObj (w.heap.size + 1) (.loop (loopRec fn a.tmps body w.heap.size .busy none))) := run_beginRound hl rfl
      refine ⟨_, hbr, ?_⟩
      refine wpIn_mono (hbody (w.heap.size + 1) n k H1 (L1 ++ [(w.heap.size + 1, .loop (loopRec fn a.tmps body w.heap.size .busy none)), (w.heap.size, .deferred (some []))]) LB0 _ hRB (by simpa using mB)) ?_
      have fin : ∀ (jump : Option Code) (LB1 : List (Nat × Obj)) (W3 : World), Mem w0 H1 (L1 ++ [(w.heap.size + 1, .loop (loopRec fn a.tmps body w.heap.size .busy none)), (w.heap.size, .deferred (some []))] ++ LB1) W3 →
          (Instr.endRound (w.heap.size + 1) jump).run P W3 = .ok (.bool jump.isNone) (W3.putObj (w.heap.size + 1) (.loop (loopRec fn a.tmps body w.heap.size (if jump.isNone then .ready else .done) jump))) ∧
          Mem w0 H1 (L1 ++ ((w.heap.size + 1, .loop (loopRec fn a.tmps body w.heap.size (if jump.isNone then .ready else .done) jump)) :: (w.heap.size, .deferred (some [])) :: LB1)) (W3.putObj (w.heap.size + 1) (.loop (loopRec fn a.tmps body w.heap.size (if jump.isNone then .ready else .done) jump))) := fun jump LB1 W3 m3 => by
        have m3' : Mem w0 H1 (L1 ++ ((w.heap.size + 1, .loop (loopRec fn a.tmps body w.heap.size .busy none)) :: (w.heap.size, .deferred (some [])) :: LB1)) W3 := by simpa using m3
        have hl3 := (m3'.loc (w.heap.size + 1, .loop (loopRec fn a.tmps body w.heap.size .busy none)) (List.mem_append_right _ (.head _))).1
        have := run_endRound (P := P) jump hl3
        have m4 := m3'.putObj ((LUpd.head (o' := .loop (loopRec fn a.tmps body w.heap.size (if jump.isNone then .ready else .done) jump))).appR L1)
        exact ⟨this, m4⟩
      rintro e a3 W3 hp
      cases e with
      | normal =>
        obtain ⟨LB1, hR, m3⟩ := hp
        obtain ⟨hr, m4⟩ := fin none LB1 W3 m3
        exact ⟨_, _, hr, _, m4, .inl ⟨rfl, LB1, rfl, hR⟩⟩
      | exit id =>
        obtain ⟨LB1, hR, m3⟩ := hp
        obtain ⟨hr, m4⟩ := fin (some (.exit id)) LB1 W3 m3
        exact ⟨_, _, hr, _, m4, .inr ⟨rfl, LB1, id, rfl, hR⟩⟩
      | ret => exact hp.elim
      | goto t => exact hp.elim
      | panic ch => exact hp.elim
      | outgrown => exact hp.elim
    · rintro e W2 ⟨⟨v, rfl⟩, k, H', LH', LB'', m2, (⟨⟨LB0, rfl, hR⟩, hD⟩ | ⟨⟨LB0, id, rfl, hR⟩, hD⟩)⟩
      · have hl := (m2.loc (w.heap.size + 1, .loop (loopRec fn a.tmps body w.heap.size .ready none)) (List.mem_append_right _ (.head _))).1
        have he : (Instr.endLoop (w.heap.size + 1)).run P W2 = .ok none (W2.putObj (w.heap.size + 1) (.loop (loopRec fn a.tmps body w.heap.size .exhausted none))) := run_endLoop (P := P) hl (by simp [loopRec])
        have m3 := m2.putObj ((LUpd.head (o' := .loop (loopRec fn a.tmps body w.heap.size .exhausted none))).appR LH')
        exact ⟨none, _, he, hdone _ k H' LH' LB0 _ hR hD ((m3.perm List.perm_middle).drop)⟩
      · have hl := (m2.loc (w.heap.size + 1, .loop (loopRec fn a.tmps body w.heap.size .done (some (.exit id)))) (List.mem_append_right _ (.head _))).1
        have he : (Instr.endLoop (w.heap.size + 1)).run P W2 = .ok (some (.exit id)) (W2.putObj (w.heap.size + 1) (.loop (loopRec fn a.tmps body w.heap.size .exhausted (some (.exit id))))) := run_endLoop (P := P) hl (by simp [loopRec])
        have m3 := m2.putObj ((LUpd.head (o' := .loop (loopRec fn a.tmps body w.heap.size .exhausted (some (.exit id))))).appR LH')
        exact ⟨some (.exit id), _, he, (wpIn_wide (n := 0)).2 (hstop _ k id H' LH' LB0 _ hR hD ((m3.perm List.perm_middle).drop))⟩
end
end Go.Proofs.Ythipkmmdjhpklaa
namespace Go.Proofs.Ythipkmmdjhpklaa
set_option linter.unusedVariables false
set_option linter.unusedSimpArgs false
open Go.RowKit

/-- The object whose turn it is, scanned. -/
def HeapM.scan1 (h : HeapM) : HeapM :=
  match h.new[h.scan.toNat]? with
  | none => h
  | some o => { h with old := (movesN h.half h.old h.new.length o.slots).2.1, new := h.new.set h.scan.toNat { o with slots := (movesN h.half h.old h.new.length o.slots).1 } ++ (movesN h.half h.old h.new.length o.slots).2.2, scan := h.scan + 1 }
def HeapM.endIf (h : HeapM) : HeapM := if h.scan = h.new.length then { h with old := [], scan := 0, busy := false } else h
/-- So many objects scanned. -/
inductive Reach : Nat → HeapM → HeapM → Prop
  | zero (h : HeapM) : Reach 0 h h
  | succ {j : Nat} {h h1 : HeapM} : Reach j h h1 → h1.busy = true → h1.scan < h1.new.length → Reach (j + 1) h h1.scan1.endIf
/-- What the scanning asks. -/
structure ScanOk (h : HeapM) : Prop where
  can : CanMove h.half h.old h.new.length
  new : ∀ o ∈ h.new, ∀ v ∈ o.slots, CanV h.half h.old.length v
  old : ∀ p ∈ h.old, ∀ v ∈ p.1.slots, CanV h.half h.old.length v
  s0 : 0 ≤ h.scan
  s1 : h.scan ≤ h.new.length

theorem moveN_count {half : Int} {old : List (ObjM × Int)} {nn : Nat} {x : ValM} (hx : oldV half x → (x.n / 2).toNat < old.length) : nn + (moveN half old nn x).2.2.length + unc (moveN half old nn x).2.1 = nn + unc old := by
  rcases moveN_cases (nn := nn) hx with ⟨h1, h2⟩ | ⟨i, hi, h1, h2, ⟨h3, h4⟩ | ⟨h3, h4⟩⟩
  · rw [h2]; simp
  · rw [h4]
    have := unc_set old i hi (nn : Int) h3 (by omega)
    simp only [List.length_singleton]
    omega
  · rw [h4]; simp
/-- What is put behind the new half is a copy of what the old half holds; the old half's objects stay. -/
theorem moveN_from {half : Int} {old : List (ObjM × Int)} {nn : Nat} {x : ValM} (hx : oldV half x → (x.n / 2).toNat < old.length) :
    (∀ o ∈ (moveN half old nn x).2.2, ∃ p ∈ old, o = p.1) ∧ (∀ p' ∈ (moveN half old nn x).2.1, ∃ p ∈ old, p'.1 = p.1) ∧ (moveN half old nn x).2.1.length = old.length := by
  rcases moveN_cases (nn := nn) hx with ⟨h1, h2⟩ | ⟨i, hi, h1, h2, ⟨h3, h4⟩ | ⟨h3, h4⟩⟩
  · rw [h2]; exact ⟨fun o ho => (by cases ho), fun p hp => ⟨p, hp, rfl⟩, rfl⟩
  · rw [h4]
    refine ⟨fun o ho => ⟨old[i], List.getElem_mem hi, by simpa using ho⟩, fun p hp => ?_, by simp⟩
    rcases List.mem_or_eq_of_mem_set hp with hp | rfl
    · exact ⟨p, hp, rfl⟩
    · exact ⟨old[i], List.getElem_mem hi, rfl⟩
  · rw [h4]; exact ⟨fun o ho => (by cases ho), fun p hp => ⟨p, hp, rfl⟩, rfl⟩
/-- A value that was moved needs no moving. -/
theorem moveN_done {half : Int} (hh : half = 0 ∨ half = 1) {old : List (ObjM × Int)} {nn : Nat} {x : ValM} (hm : CanMove half old nn) (hx : CanV half old.length x) : CanV half old.length (moveN half old nn x).1 ∧ ¬ oldV half (moveN half old nn x).1 := by
  have href : ∀ k : Int, -1 < k → k ≤ 100000 → CanV half old.length (refV half k) ∧ ¬ oldV half (refV half k) := fun k h1 h2 => by
    have hno : ¬ oldV half (refV half k) := by
      unfold oldV refV
      simp only
      omega
    exact ⟨⟨refV_fit half k hh ⟨by omega, by omega⟩, fun _ => by simp only [refV]; omega, fun h => absurd h hno⟩, hno⟩
  rcases moveN_cases (nn := nn) hx.o with ⟨h1, h2⟩ | ⟨i, hi, h1, h2, ⟨h3, h4⟩ | ⟨h3, h4⟩⟩
  · rw [h2]; exact ⟨hx, h1⟩
  · rw [h4]
    have := hm.nl
    exact href _ (by omega) (by omega)
  · rw [h4]
    have := hm.tos _ (List.getElem_mem hi)
    exact href _ (by omega) (by omega)
theorem movesN_all {half : Int} (hh : half = 0 ∨ half = 1) : ∀ (l : List ValM) {old : List (ObjM × Int)} {nn : Nat}, CanMove half old nn → (∀ x ∈ l, CanV half old.length x) →
    nn + (movesN half old nn l).2.2.length + unc (movesN half old nn l).2.1 = nn + unc old ∧ (∀ o ∈ (movesN half old nn l).2.2, ∃ p ∈ old, o = p.1) ∧ (∀ p' ∈ (movesN half old nn l).2.1, ∃ p ∈ old, p'.1 = p.1) ∧
      (∀ y ∈ (movesN half old nn l).1, CanV half old.length y ∧ ¬ oldV half y)
  | [], old, nn, hm, hx => ⟨by simp [movesN], fun o ho => (by cases ho), fun p hp => ⟨p, hp, rfl⟩, fun y hy => (by cases hy)⟩
  | x :: l, old, nn, hm, hx => by
    have hxx := hx x (.head _)
    obtain ⟨h1, h2, h3⟩ := hm.step hxx
    obtain ⟨a1, a2, a3⟩ := moveN_from (nn := nn) hxx.o
    have hc := moveN_count (nn := nn) hxx.o
    have hd := moveN_done (nn := nn) hh hm hxx
    obtain ⟨b1, b2, b3, b4⟩ := movesN_all hh l h1 (fun y hy => by rw [h3]; exact hx y (.tail _ hy))
    rw [h3] at b4
    simp only [movesN, List.length_append]
    refine ⟨by omega, fun o ho => ?_, fun p hp => ?_, fun y hy => ?_⟩
    · rcases List.mem_append.1 ho with ho | ho
      · exact a1 o ho
      · obtain ⟨p, hp, rfl⟩ := b2 o ho
        exact a2 p hp
    · obtain ⟨q, hq, e⟩ := b3 p hp
      obtain ⟨r, hr, e'⟩ := a2 q hq
      exact ⟨r, hr, e.trans e'⟩
    · rcases List.mem_cons.1 hy with rfl | hy
      · exact hd
      · exact b4 y hy
theorem scan1_eq {h : HeapM} (hi : h.scan.toNat < h.new.length) : h.scan1 = { h with old := (movesN h.half h.old h.new.length h.new[h.scan.toNat].slots).2.1, new := h.new.set h.scan.toNat { h.new[h.scan.toNat] with slots := (movesN h.half h.old h.new.length h.new[h.scan.toNat].slots).1 } ++ (movesN h.half h.old h.new.length h.new[h.scan.toNat].slots).2.2, scan := h.scan + 1 } := by
  unfold HeapM.scan1
  rw [List.getElem?_eq_getElem hi]
/-- How much there is still to do. -/
def HeapM.left (h : HeapM) : Nat := if h.busy = true then (h.new.length + unc h.old - h.scan).toNat + 1 else 0
theorem ScanOk.scan1 {h : HeapM} (ho : ScanOk h) (hb : h.busy = true) (hi : h.scan < h.new.length) : ScanOk h.scan1 ∧ h.scan1.busy = true ∧ h.scan1.left < h.left := by
  have hs0 := ho.s0
  have hi' : h.scan.toNat < h.new.length := by omega
  have hm := List.getElem_mem hi'
  obtain ⟨c1, c2, c3⟩ := CanMove.steps h.new[h.scan.toNat].slots ho.can (ho.new _ hm)
  obtain ⟨d1, d2, d3, d4⟩ := movesN_all ho.can.half h.new[h.scan.toNat].slots ho.can (ho.new _ hm)
  rw [scan1_eq hi']
  refine ⟨⟨?_, ?_, ?_, ?_, ?_⟩, hb, ?_⟩
  · simpa only [List.length_append, List.length_set] using c1
  · simp only [c3]
    intro o hmem v hv
    rcases List.mem_append.1 hmem with hmem | hmem
    · rcases List.mem_or_eq_of_mem_set hmem with hmem | rfl
      · exact ho.new o hmem v hv
      · exact (d4 v hv).1
    · obtain ⟨p, hp, rfl⟩ := d2 o hmem
      exact ho.old p hp v hv
  · simp only [c3]
    intro p hp v hv
    obtain ⟨q, hq, e⟩ := d3 p hp
    rw [e] at hv
    exact ho.old q hq v hv
  · simp only; omega
  · simp only [List.length_append, List.length_set]; omega
  · unfold HeapM.left
    simp only [hb, if_true, List.length_append, List.length_set]
    omega
theorem endIf_left (h : HeapM) : h.endIf.left ≤ h.left := by
  unfold HeapM.endIf
  split
  · unfold HeapM.left; simp
  · exact Nat.le_refl _
end Go.Proofs.Ythipkmmdjhpklaa
namespace Go.Proofs.Ythipkmmdjhpklaa
set_option linter.unusedVariables false
set_option linter.unusedSimpArgs false
open Go.RowKit

/-- A goal that the walk leaves alone. -/
def Stand (p : Prop) : Prop := p
theorem Stand.mk {p : Prop} (h : p) : Stand p := h
theorem wp_region_in7 {P : Program} {ops : Array Oper} {c : Code} {Q : Exit → Act → World → Prop} {a : Act} {w : World} (h : Stand ((Code.region 7 ops false).wpIn Fence.wide 1 P (Exit.then (fun a w => c.wp P Q a w) Q) a w)) : ((Code.region 7 ops false).seq c).wp P Q a w := wp_seq (wpIn_wide.1 h)
theorem pickWorld {F : Fence} {n : Nat} {P : Program} {c : Code} {Q : Exit → Act → World → Prop} {a : Act} {w0 w : World} {H : Hp} {L : List (Nat × Obj)} (m : Mem w0 H L w) (h : ∀ W, Mem w0 H L W → c.wpIn F n P Q a W) : c.wpIn F n P Q a w := h w m
/-- How the scanning ends. -/
def ScanEnd (b : Nat) (h0 : HeapM) (w0 : World) (H : Hp) (RB Rx : Nat → List (Nat × Obj) → Prop) (e : Ending) (w' : World) : Prop :=
  (∃ v, e = .returned v) ∧ ∃ k h1 LB', Reach k h0 h1 ∧
    ((RB k LB' ∧ ∃ h2, HeapOwn TH b h2 w0 H LB' w' ∧ ((h1.busy = false ∧ h2 = h1) ∨ (h1.busy = true ∧ ¬ h1.scan < h1.new.length ∧ h2 = h1.endIf))) ∨ (Rx k LB' ∧ HeapOwn TH b h1 w0 H LB' w'))
theorem perm_be6b {α : Type} (b : α) (Lo R : List α) : (b :: (Lo ++ R)).Perm (Lo ++ (b :: R)) := (by classical exact List.perm_iff_count.2 (fun a => by simp only [List.count_append, List.count_cons, List.cons_append, List.nil_append, List.append_assoc]; omega))
theorem perm_sc2 {α : Type} (Lx L0 L1 L2 R : List α) : (Lx ++ (L0 ++ (L1 ++ (L2 ++ R)))).Perm (((L1 ++ (L0 ++ L2)) ++ Lx) ++ R) := (by classical exact List.perm_iff_count.2 (fun a => by simp only [List.count_append, List.count_cons, List.cons_append, List.nil_append, List.append_assoc]; omega))
theorem perm_sc1 {α : Type} (b : α) (Lo Ln R : List α) : (b :: (Lo ++ (Ln ++ R))).Perm (b :: (Ln ++ (Lo ++ R))) := (by classical exact List.perm_iff_count.2 (fun a => by simp only [List.count_append, List.count_cons, List.cons_append, List.nil_append, List.append_assoc]; omega))
set_option maxRecDepth 10000 in
set_option maxHeartbeats 4000000 in
theorem scans_any (b : Nat) (h0 : HeapM) (hok : h0.busy = true → ScanOk h0) {w0 w : World} {H : Hp} {LB : List (Nat × Obj)} {l : Nat} {RB Rx : Nat → List (Nat × Obj) → Prop} (hY : YieldMem Try.prog l w0 RB Rx) (hRB : RB 0 LB) (hc : HeapOwn TH b h0 w0 H LB w) :
    Calls Try.prog 59 #[.pointer (some ⟨b, 0, none⟩), .func (.yield l) #[] #[]] w (ScanEnd b h0 w0 H RB Rx) := by
  have HY := Lib.hid hY; clear hY
  go_enter Try.func59, Try.ntmps59
  go_wp2_with fail
  go_loopg [4] (h0.left + 1) (fun gk _ wr => ∃ (k : Nat) (h1 : HeapM) (LB1 : List (Nat × Obj)), (Reach k h0 h1 ∨ (h1.busy = false ∧ ∃ h3, Reach k h0 h3 ∧ h3.busy = true ∧ ¬ h3.scan < h3.new.length ∧ h1 = h3.endIf)) ∧ RB k LB1 ∧ HeapOwn TH b h1 w0 H LB1 wr ∧ (h1.busy = true → ScanOk h1) ∧ h1.left < gk)
  case atStart => exact ⟨0, h0, LB, .inl (.zero h0), hRB, hc, hok, by omega⟩
  case round =>
    obtain ⟨k, h1, LB1, hre, hRB1, hc1, hok1, hgk⟩ := hrel
    have HRE := Lib.hid hre; clear hre
    have HRB := Lib.hid hRB1; clear hRB1
    have hcc := hc1
    obtain ⟨rs, rv, Ls, Lr, hs, hv, hcore⟩ := hc1
    obtain ⟨ob, oc, nb, nc, hr, Lo, Ln, ho, hrl, hf, hn, m, hoc, hnc, hol, hnl⟩ := hcore.shape
    have hnc := size_le_maxLen hnc
    have hsl := hs.length
    have m1u := m
    unfold HBox at m1u
    have es := m1u.eqs; simp only [EqsL, and_true] at es
    by_cases hb : h1.busy = true
    · have hok2 := hok1 hb
      have hs0 := hok2.s0
      have hs1 := hok2.s1
      have hnl2 := hok2.can.nl
      have HOK := Lib.hid hok2; clear hok1 hok2
      rw [hb] at es
      by_cases hlt : h1.scan < h1.new.length
      · have hlt1 : h1.scan < (rs.length : Int) := by omega
        have hre : Reach k h0 h1 := by
          rcases HRE.out with hre | ⟨e1, _⟩
          · exact hre
          · rw [hb] at e1; cases e1
        have HR1 := Lib.hid hre; clear hre
        have hsc : h1.scan.toNat < h1.new.length := by omega
        have hscr : h1.scan.toNat < rs.length := by omega
        obtain ⟨g, rfl, hcl, _, hgl, _, _⟩ := hn.at (by rw [rowCs_length]; omega) m (fun p hp => by simp [hp])
        obtain ⟨_, _, _, e3⟩ := rowCs_get rs h1.scan.toNat hscr
        obtain ⟨hrow, L1, L0, L2, hLs, hov, hback⟩ := hs.at h1.scan.toNat hscr hsc
        obtain ⟨sb, sc, hrsv, hsc1, hsc2⟩ := hov.shape
        obtain ⟨sln, hsln⟩ : ∃ n, n = (h1.new[h1.scan.toNat]'hsc).slots.length := ⟨_, rfl⟩
        rw [← hsln] at hrsv
        have HSLN := Lib.hid hsln; clear hsln
        have HBK := Lib.hid hback; clear hback
        have HOV := Lib.hid hov; clear hov
        have HLS := Lib.hid hLs; clear hLs
        have HRW := Lib.hid hrow; clear hrow
        have hsn : ((h1.scan.toNat : Nat) : Int) = h1.scan := by omega
        rw [hb] at m
        have hcell : ∀ (w' : World) (L' : List (Nat × Obj)), Mem w0 H ((b, HBox TH h1.size h1.half h1.scan true (.slice ob h1.old.length oc) (.slice (some ⟨g, 0, none⟩) rs.length nc) rv) :: (Ln ++ L')) w' → w'.cell? ⟨g, h1.scan.toNat * 4 + 3, none⟩ = some (.slice sb sln sc) := by
          intro w' L' hm
          obtain ⟨g', hg', hcl', -, -, -, -⟩ := hn.at (by rw [rowCs_length]; omega) hm (fun p hp => List.mem_cons_of_mem _ (List.mem_append_left _ hp))
          cases hg'
          rw [← hrsv]
          exact hcl' _ _ e3
        have HCELL := Lib.hid hcell; clear hcell hcl e3
        go_wp2_with fail
        go_quiet (fail)
        go_wp2_with fail
        have mq := m.drewN nq
        generalize wr.drewN nq = W1 at *
        refine AnyFrom.start (fun w' => ∃ L', Mem w0 H ((b, HBox TH h1.size h1.half h1.scan true (.slice ob h1.old.length oc) (.slice (some ⟨g, 0, none⟩) rs.length nc) rv) :: (Ln ++ L')) w') 14 (by kernel_rfl) ?_
        have m1 := (mq.drew).perm (perm_sc1 _ Lo Ln _)
        generalize W1.drew = W2 at *
        have HS : ∃ L', Mem w0 H ((b, HBox TH h1.size h1.half h1.scan true (.slice ob h1.old.length oc) (.slice (some ⟨g, 0, none⟩) rs.length nc) rv) :: (Ln ++ L')) W2 := ⟨_, m1⟩
        clear es mq m1u
        refine AnyFrom.pure (i := 0) (v := ?_) rfl (by kernel_rfl) (by kernel_rfl) (by kernel_rfl) (by decide) (fun _ _ _ h => h) ⟨by rfl, ?_⟩ HS ?_
        rotate_left
        · first | (intro w'; go_simp; done) | (intro w'; go_simp; with_reducible rfl)
        simp only [Act.put, List.setIfInBounds_toArray, List.set_cons_zero, List.set_cons_succ]
        refine AnyFrom.pure (i := 1) (v := ?_) rfl (by kernel_rfl) (by kernel_rfl) (by kernel_rfl) (by decide) (fun _ _ _ h => h) ⟨by rfl, ?_⟩ HS ?_
        rotate_left
        · first | (intro w'; go_simp; done) | (intro w'; go_simp; with_reducible rfl)
        simp only [Act.put, List.setIfInBounds_toArray, List.set_cons_zero, List.set_cons_succ]
        refine AnyFrom.pure (i := 2) (v := ?_) rfl (by kernel_rfl) (by kernel_rfl) (by kernel_rfl) (by decide) (fun _ _ _ h => h) ⟨by rfl, ?_⟩ HS ?_
        rotate_left
        · first | (intro w'; go_simp; done) | (intro w'; go_simp; with_reducible rfl)
        simp only [Act.put, List.setIfInBounds_toArray, List.set_cons_zero, List.set_cons_succ]
        refine AnyFrom.pure (i := 3) (v := ?_) rfl (by kernel_rfl) (by kernel_rfl) (by kernel_rfl) (by decide) (fun _ _ _ h => h) ⟨by rfl, ?_⟩ HS ?_
        rotate_left
        · first | (intro w'; go_simp; done) | (intro w'; go_simp; with_reducible rfl)
        simp only [Act.put, List.setIfInBounds_toArray, List.set_cons_zero, List.set_cons_succ]
        refine AnyFrom.pure (i := 4) (v := ?_) rfl (by kernel_rfl) (by kernel_rfl) (by kernel_rfl) (by decide) (fun _ _ _ h => h) ⟨by rfl, ?_⟩ HS ?_
        rotate_left
        · first | (intro w'; go_simp; done) | (intro w'; go_simp; with_reducible rfl)
        simp only [Act.put, List.setIfInBounds_toArray, List.set_cons_zero, List.set_cons_succ]
        refine AnyFrom.takeT (i := 5) (v := ?_) rfl (by kernel_rfl) (by kernel_rfl) (by kernel_rfl) (by kernel_rfl) (fun _ _ _ h => h) ⟨by rfl, ?_⟩ HS ?_
        rotate_left
        · first | (rintro w' ⟨L', hm⟩; have es := hm.eqs; simp only [HBox, EqsL, and_true] at es; replace es := es.1; go_simp; done) | (rintro w' ⟨L', hm⟩; have es := hm.eqs; simp only [HBox, EqsL, and_true] at es; replace es := es.1; go_simp; with_reducible rfl)
        simp only [Act.put, List.setIfInBounds_toArray, List.set_cons_zero, List.set_cons_succ]
        refine AnyFrom.pure (i := 6) (v := ?_) rfl (by kernel_rfl) (by kernel_rfl) (by kernel_rfl) (by decide) (fun _ _ _ h => h) ⟨by rfl, ?_⟩ HS ?_
        rotate_left
        · first | (intro w'; go_simp; done) | (intro w'; go_simp; with_reducible rfl)
        simp only [Act.put, List.setIfInBounds_toArray, List.set_cons_zero, List.set_cons_succ]
        refine AnyFrom.pure (i := 7) (v := ?_) rfl (by kernel_rfl) (by kernel_rfl) (by kernel_rfl) (by decide) (fun _ _ _ h => h) ⟨by rfl, ?_⟩ HS ?_
        rotate_left
        · first | (intro w'; go_simp; done) | (intro w'; go_simp; with_reducible rfl)
        simp only [Act.put, List.setIfInBounds_toArray, List.set_cons_zero, List.set_cons_succ]
        refine AnyFrom.pure (i := 8) (v := ?_) rfl (by kernel_rfl) (by kernel_rfl) (by kernel_rfl) (by decide) (fun _ _ _ h => h) ⟨by rfl, ?_⟩ HS ?_
        rotate_left
        · first | (intro w'; go_simp; done) | (intro w'; go_simp; with_reducible rfl)
        simp only [Act.put, List.setIfInBounds_toArray, List.set_cons_zero, List.set_cons_succ]
        refine AnyFrom.pure (i := 9) (v := ?_) rfl (by kernel_rfl) (by kernel_rfl) (by kernel_rfl) (by decide) (fun _ _ _ h => h) ⟨by rfl, ?_⟩ HS ?_
        rotate_left
        · first | (intro w'; go_simp; done) | (intro w'; go_simp; with_reducible rfl)
        simp only [Act.put, List.setIfInBounds_toArray, List.set_cons_zero, List.set_cons_succ]
        refine AnyFrom.takeT (i := 10) (v := ?_) rfl (by kernel_rfl) (by kernel_rfl) (by kernel_rfl) (by kernel_rfl) (fun _ _ _ h => h) ⟨by rfl, ?_⟩ HS ?_
        rotate_left
        · first | (rintro w' ⟨L', hm⟩; have es := hm.eqs; simp only [HBox, EqsL, and_true] at es; replace es := es.1; go_simp; done) | (rintro w' ⟨L', hm⟩; have es := hm.eqs; simp only [HBox, EqsL, and_true] at es; replace es := es.1; go_simp; with_reducible rfl)
        simp only [Act.put, List.setIfInBounds_toArray, List.set_cons_zero, List.set_cons_succ]
        refine AnyFrom.pure (i := 11) (v := .pointer (some ⟨g, h1.scan.toNat * 4, none⟩)) rfl (by kernel_rfl) (by kernel_rfl) (by kernel_rfl) (by decide) (fun _ _ _ h => h) ⟨by rfl, ?_⟩ HS ?_
        · first | (intro w'; go_simp; done) | (intro w'; go_simp; with_reducible rfl)
        simp only [Act.put, List.setIfInBounds_toArray, List.set_cons_zero, List.set_cons_succ]
        refine AnyFrom.pure (i := 12) (v := .pointer (some ⟨g, h1.scan.toNat * 4 + 3, none⟩)) rfl (by kernel_rfl) (by kernel_rfl) (by kernel_rfl) (by decide) (fun _ _ _ h => h) ⟨by rfl, ?_⟩ HS ?_
        · intro w'
          go_simp
        simp only [Act.put, List.setIfInBounds_toArray, List.set_cons_zero, List.set_cons_succ]
        refine AnyFrom.takeT (i := 13) (v := .slice sb sln sc) rfl ?_ ?_ ?_ ?_ ?_ ?_ HS ?_
        · kernel_rfl
        · kernel_rfl
        · kernel_rfl
        · kernel_rfl
        · exact (fun _ _ _ h => h)
        · refine ⟨by rfl, ?_⟩
          rintro w' ⟨L', hm⟩
          have c3 := HCELL.out w' L' hm
          go_simp
        simp only [Act.put, List.setIfInBounds_toArray, List.set_cons_zero, List.set_cons_succ]
        refine AnyFrom.one (i := 14) (by kernel_rfl) (AnyFrom.op rfl (by rfl) fun K hK => ?_)
        go_simp
        have hcW : Core TH b h1.size h1.half h1.scan true h1.old rs rv w0 H (Ls ++ (Lr ++ LB1)) W2 := ⟨_, _, hr, Lo, Ln, by rw [hrl]; exact ho, hf, hn, m1.perm (perm_sc1 _ Lo Ln _).symm⟩
        rw [HLS.out, List.append_assoc, List.append_assoc] at hcW
        have hcW2 := hcW.perm (perm_ce4 L1 L0 _)
        have hov := HOV.out
        rw [hrsv, HSLN.out] at hov
        have hcan : CanMove h1.half h1.old rs.length := by rw [hsl]; exact HOK.out.can
        rw [HSLN.out]
        refine (moveAll_any _ hcW2 hov hcan (HOK.out.new _ (List.getElem_mem hsc))).mono ?_
        rintro e w5 ⟨rs', Lx, L0', rfl, hs2, hov2, hc5⟩
        refine hK _ _ (.inl ⟨14, by decide, by rfl⟩) ?_
        clear hK K
        try simp only [Act.put, List.setIfInBounds_toArray, List.set_cons_zero, List.set_cons_succ]
        refine AnyFrom.done (by kernel_rfl) ?_ _
        rw [← HSLN.out, ← hrsv] at hov2
        have hs3 := (HBK.out _ _ hov2).append hs2
        have hsc1 := scan1_eq hsc
        rw [hsl] at hs2 hs3 hov2 hc5
        have HSC := Lib.hid hsc1; clear hsc1
        have hc6 := hc5.perm (perm_sc2 Lx L0' L1 L2 (Lr ++ LB1))
        have hn6 : (rs ++ rs').length = h1.scan1.new.length := by
          rw [HSC.out]
          exact hs3.length
        have hc7 : HeapOwn TH b { h1.scan1 with scan := h1.scan } w0 H LB1 w5 := by
          rw [HSC.out]
          exact ⟨rs ++ rs', rv, (L1 ++ (L0' ++ L2)) ++ Lx, Lr, hs3, hv, by simp only [hb]; exact hc6⟩
        obtain ⟨ok3, hb3, hleft⟩ := ScanOk.scan1 HOK.out hb hlt
        have hsc3 : h1.scan1.scan = h1.scan + 1 := by rw [HSC.out]
        have hre3 := Reach.succ HR1.out hb hlt
        clear hs3 hs2 hov2 hc5 hc6 hcW hcW2 hov m1 HCELL hn6 hs hcore hcc hok hc hn ho hf hrl hoc hol hnl HBK HOV HLS HRW HSLN hrsv hgl HS m
        have hnlim := ok3.can.nl
        generalize h1.scan1 = h3 at *
        obtain ⟨rs3, rv3, Ls3, Lr3, hs3, hv3, hcore3⟩ := hc7
        obtain ⟨ob3, oc3, nb3, nc3, hr3, Lo3, Ln3, ho3, hrl3, hf3, hn3, m3, _, _, _, _⟩ := hcore3.shape
        have hl3 := hs3.length
        simp only at *
        rw [hb3] at m3
        have m3u := m3
        unfold HBox at m3u
        have es := m3u.eqs; simp only [EqsL, and_true] at es
        go_wp2_with fail
        have m4 := m3.set (i := 2) (v := .int .i64 (h1.scan + 1)) .head
        simp only [List.setIfInBounds_toArray, List.set_cons_zero, List.set_cons_succ] at m4
        generalize w5.setCell ⟨b, 2, none⟩ (.int .i64 (h1.scan + 1)) = W5 at *
        clear es m3 m3u hcore3
        have es := m4.eqs; simp only [EqsL, and_true] at es
        by_cases hfin : h1.scan + 1 = h3.new.length
        · have hfin1 : ((h1.scan + 1) == (rs3.length : Int)) = true := by simp; omega
          go_quiet (fail)
          iterate 60 (first | (refine wp_region_in7 ?_) | go_values | go_skip | go_guarded | go_step | go_upon | go_back | (simp only [Int.not_lt, Int.not_le] at *; go_simp) | skip)
          refine Stand.mk ?_
          have mQ := fun N => Mem.dropL Lo3 (((((m4.drewN N).set (i := 4) (v := .slice none 0 0) .head).set (i := 2) (v := .int .i64 0) .head).set (i := 3) (v := .bool false) .head).perm (perm_be6b _ Lo3 _))
          simp only [List.setIfInBounds_toArray, List.set_cons_zero, List.set_cons_succ] at mQ
          have heif : h3.endIf = { h3 with old := [], scan := 0, busy := false } := by unfold HeapM.endIf; rw [if_pos (by omega)]
          have hown : ∀ (W : World) (mQ : Mem w0 H ((b, HBox TH h3.size h3.half 0 false (.slice none 0 0) (.slice nb3 rs3.length nc3) rv3) :: (Ln3 ++ (Ls3 ++ (Lr3 ++ LB1)))) W), (∃ LH, (∀ (LB' : List (Nat × Obj)) (w' : World), Mem w0 H (LH ++ LB') w' → HeapOwn TH b h3.endIf w0 H LB' w') ∧ Mem w0 H (LH ++ LB1) W) := fun W mQ => ⟨(b, HBox TH h3.size h3.half 0 false (.slice none 0 0) (.slice nb3 rs3.length nc3) rv3) :: (Ln3 ++ (Ls3 ++ Lr3)), fun LB' w' hm => by rw [heif]; exact ⟨rs3, rv3, Ls3, Lr3, hs3, hv3, _, _, [], [], Ln3, AccL.nil, .nil, hn3, by simpa only [List.nil_append, List.cons_append, List.append_assoc] using hm⟩, by simpa only [List.cons_append, List.append_assoc] using mQ⟩
          refine pickWorld (mQ _) ?_
          intro WY mW
          obtain ⟨LH, hLH, mY⟩ := hown WY mW
          clear hown mQ mW
          obtain ⟨fn, tmps, asg, bdy, hy, hR⟩ := HY.out 0 k H LH LB1 WY HRB.out mY
          gi_wp2
          refine hR.mono ?_
          rintro e W9 ⟨LB9, mW9, (⟨rfl, hRB9⟩ | ⟨rfl, hRx9⟩)⟩
          · gi_wp2
            go_wp2_with fail
            go_roundg h1.left
            case measure => omega
            case rel =>
              have hle := endIf_left h3
              exact ⟨k + 1, h3.endIf, LB9, .inl hre3, hRB9, hLH _ _ mW9, fun h => (by rw [heif] at h; cases h), by omega⟩
          · gi_wp2
            go_wp2_with fail
            go_end0
            exact ⟨⟨_, rfl⟩, k + 1, h3.endIf, LB9, hre3, .inr ⟨hRx9, hLH _ _ mW9⟩⟩
        · have hfin1 : ((h1.scan + 1) == (rs3.length : Int)) = false := beq_eq_false_iff_ne.2 (by omega)
          go_quiet (fail)
          iterate 60 (first | (refine wp_region_in7 ?_) | go_values | go_skip | go_guarded | go_step | go_upon | go_back | (simp only [Int.not_lt, Int.not_le] at *; go_simp) | skip)
          refine Stand.mk ?_
          have mQ := fun N => m4.drewN N
          have heif : h3.endIf = h3 := by unfold HeapM.endIf; rw [if_neg (by omega)]
          have hown : ∀ (W : World) (mQ : Mem w0 H ((b, HBox TH h3.size h3.half (h1.scan + 1) true (.slice ob3 h3.old.length oc3) (.slice nb3 rs3.length nc3) rv3) :: (Lo3 ++ (Ln3 ++ (Ls3 ++ (Lr3 ++ LB1))))) W), (∃ LH, (∀ (LB' : List (Nat × Obj)) (w' : World), Mem w0 H (LH ++ LB') w' → HeapOwn TH b h3.endIf w0 H LB' w') ∧ Mem w0 H (LH ++ LB1) W) := fun W mQ => ⟨(b, HBox TH h3.size h3.half (h1.scan + 1) true (.slice ob3 h3.old.length oc3) (.slice nb3 rs3.length nc3) rv3) :: (Lo3 ++ (Ln3 ++ (Ls3 ++ Lr3))), fun LB' w' hm => by rw [heif]; exact ⟨rs3, rv3, Ls3, Lr3, hs3, hv3, _, _, hr3, Lo3, Ln3, by rw [hrl3]; exact ho3, hf3, hn3, by rw [hsc3, hb3]; simpa only [List.cons_append, List.append_assoc] using hm⟩, by simpa only [List.cons_append, List.append_assoc] using mQ⟩
          refine pickWorld (mQ _) ?_
          intro WY mW
          obtain ⟨LH, hLH, mY⟩ := hown WY mW
          clear hown mQ mW
          obtain ⟨fn, tmps, asg, bdy, hy, hR⟩ := HY.out 0 k H LH LB1 WY HRB.out mY
          gi_wp2
          refine hR.mono ?_
          rintro e W9 ⟨LB9, mW9, (⟨rfl, hRB9⟩ | ⟨rfl, hRx9⟩)⟩
          · gi_wp2
            go_wp2_with fail
            go_roundg h1.left
            case measure => omega
            case rel =>
              have hle := endIf_left h3
              exact ⟨k + 1, h3.endIf, LB9, .inl hre3, hRB9, hLH _ _ mW9, fun h => (by rw [heif]; exact ok3), by omega⟩
          · gi_wp2
            go_wp2_with fail
            go_end0
            exact ⟨⟨_, rfl⟩, k + 1, h3.endIf, LB9, hre3, .inr ⟨hRx9, hLH _ _ mW9⟩⟩
      · have hlt1 : ¬ h1.scan < (rs.length : Int) := by omega
        have heq : h1.scan = (rs.length : Int) := by omega
        have hre : Reach k h0 h1 := by
          rcases HRE.out with hre | ⟨e1, _⟩
          · exact hre
          · rw [hb] at e1; cases e1
        have HR1 := Lib.hid hre; clear hre
        go_wp2_with fail
        go_quiet (fail)
        go_wp2_with fail
        go_quiet (fail)
        go_wp2_with fail
        rw [hb] at m
        have mq := fun N => Mem.dropL Lo ((((((m.drewN N).set (i := 4) (v := .slice none 0 0) .head).set (i := 2) (v := .int .i64 0) .head).set (i := 3) (v := .bool false) .head).perm (perm_be6b _ Lo _)))
        simp only [List.setIfInBounds_toArray, List.set_cons_zero, List.set_cons_succ] at mq
        have heif : h1.endIf = { h1 with old := [], scan := 0, busy := false } := by unfold HeapM.endIf; rw [if_pos (by omega)]
        go_roundg 1
        case measure => unfold HeapM.left at hgk; rw [if_pos hb] at hgk; omega
        case rel =>
          refine ⟨k, h1.endIf, LB1, .inr ⟨by rw [heif], h1, HR1.out, hb, by omega, rfl⟩, HRB.out, ?_, fun h => (by rw [heif] at h; cases h), ?_⟩
          · rw [heif]
            exact ⟨rs, rv, Ls, Lr, hs, hv, _, _, [], [], Ln, AccL.nil, .nil, hn, mq _⟩
          · rw [heif]; unfold HeapM.left; simp
    · have hb' : h1.busy = false := by simpa using hb
      rw [hb'] at es
      go_wp2_with fail
      go_end0
      rcases HRE.out with hre | ⟨_, h3, hre, e1, e2, rfl⟩
      · exact ⟨⟨_, rfl⟩, k, h1, LB1, hre, .inl ⟨HRB.out, h1, hcc, .inl ⟨hb', rfl⟩⟩⟩
      · exact ⟨⟨_, rfl⟩, k, h3, LB1, hre, .inl ⟨HRB.out, _, hcc, .inr ⟨e1, by omega, rfl⟩⟩⟩
end Go.Proofs.Ythipkmmdjhpklaa
namespace Go.Proofs.Ythipkmmdjhpklaa
set_option linter.unusedVariables false
set_option linter.unusedSimpArgs false
open Go.RowKit

def DeedM.v (d : DeedM) (lv sv : Value) : Value := .agg #[.int .u8 d.kind, .int .i64 d.a, .int .i64 d.b, .int .i64 d.c, lv, .int .u8 d.obj.kind, .string d.obj.name, .int .i64 d.obj.n, sv, .int .u8 d.val.kind, .int .i64 d.val.n, .string d.val.s]
abbrev DBox (d : DeedM) (lv sv : Value) : Obj := .cells #[.int .u8 d.kind, .int .i64 d.a, .int .i64 d.b, .int .i64 d.c, lv, .int .u8 d.obj.kind, .string d.obj.name, .int .i64 d.obj.n, sv, .int .u8 d.val.kind, .int .i64 d.val.n, .string d.val.s] 52
structure DeedR (H : Hp) (d : DeedM) (lv sv : Value) : Prop where
  k : d.kind < 256
  a : I64 d.a
  b : I64 d.b
  c : I64 d.c
  list : SlR encInt H lv d.list
  obj : d.obj.fit
  slots : SlR encVal H sv d.obj.slots
  val : d.val.fit
/-- How a deed ends. -/
def DeedEnd (b : Nat) (w0 : World) (H : Hp) (L : List (Nat × Obj)) (r : Int × ValM × HeapM) (e : Ending) (w' : World) : Prop :=
  e = .returned (.tuple #[r.2.1.v, .int .i64 r.1]) ∧ ∃ H', Hle H H' ∧ HeapOwn TH b r.2.2 w0 H' L w'
def HeapM.are (h : HeapM) (l : List Int) : Bool := inAll 0 ((h.regs.length : Int) - 1) l
def HeapM.reg (h : HeapM) (k : Int) : ValM := h.regs.getD k.toNat unitV
def HeapM.doMove (h : HeapM) (d : DeedM) : Int × ValM × HeapM := if h.are [d.a, d.b] = false then (3, unitV, h) else (0, unitV, { h with regs := h.regs.set d.a.toNat (h.reg d.b) })

set_option maxHeartbeats 400000 in
theorem are_any (b : Nat) (v : Value) (xs : List Int) {size half scan : Int} {busy : Bool} {vo vn : Value} {rb : Option Addr} {nr rc : Nat} {w0 w : World} {H : Hp} {L : List (Nat × Obj)} (m : Mem w0 H ((b, HBox TH size half scan busy vo vn (.slice rb nr rc)) :: L) w) (hv : SlR encInt H v xs) (hn : nr ≤ 100000) :
    Calls Try.prog 108 #[.pointer (some ⟨b, 0, none⟩), v] w (Ret w0 H ((b, HBox TH size half scan busy vo vn (.slice rb nr rc)) :: L) (.bool (inAll 0 ((nr : Int) - 1) xs))) := by
  have HV := Lib.hid hv
  obtain ⟨lb, lc, rfl, _, _, _, _⟩ := hv
  have mu := m
  unfold HBox at mu
  have es := mu.eqs; simp only [EqsL, and_true] at es
  go_enter Try.func108, Try.ntmps108
  go_wp2_with fail
  refine (within_any _ xs 0 ((nr : Int) - 1) m HV.out).mono ?_
  rintro e w1 ⟨rfl, m1⟩
  go_wp2_with fail
  go_ret
  exact ⟨rfl, m1⟩
theorem inAll2 (lo hi x y : Int) : inAll lo hi [x, y] = (decide (lo ≤ x ∧ x ≤ hi) && decide (lo ≤ y ∧ y ≤ hi)) := by simp [inAll]
/-- Two numbers of registers, written out. -/
theorem are2 (b k : Nat) (x y : Int) (hx : I64 x) (hy : I64 y) {size half scan : Int} {busy : Bool} {vo vn : Value} {rb : Option Addr} {nr rc : Nat} {w0 w : World} {H : Hp} {L : List (Nat × Obj)} (m : Mem w0 H ((k, .cells #[.int .i64 x, .int .i64 y] 3) :: (b, HBox TH size half scan busy vo vn (.slice rb nr rc)) :: L) w) (hn : nr ≤ 100000) :
    Calls Try.prog 108 #[.pointer (some ⟨b, 0, none⟩), .slice (some ⟨k, 0, none⟩) 2 2] w (Ret w0 H ((b, HBox TH size half scan busy vo vn (.slice rb nr rc)) :: L) (.bool (inAll 0 ((nr : Int) - 1) [x, y]))) := by
  obtain ⟨H', m1, hl, hs⟩ := Mem.ints (xs := [x, y]) m (fun z hz => by simp at hz; rcases hz with rfl | rfl <;> assumption) (by simp [maxLen])
  refine (are_any b _ [x, y] m1 hs hn).mono ?_
  rintro e w' ⟨rfl, m2⟩
  exact ⟨rfl, m2.weaken hl⟩
theorem perm_cp1 {α : Type} (l r d b : α) (R : List α) : (l :: r :: d :: b :: R).Perm (b :: l :: r :: d :: R) := (by classical exact List.perm_iff_count.2 (fun a => by simp only [List.count_append, List.count_cons, List.cons_append, List.nil_append, List.append_assoc]; omega))
theorem perm_cp3 {α : Type} (l r d b : α) (R : List α) : (l :: r :: d :: b :: R).Perm (l :: b :: r :: d :: R) := (by classical exact List.perm_iff_count.2 (fun a => by simp only [List.count_append, List.count_cons, List.cons_append, List.nil_append, List.append_assoc]; omega))
theorem perm_cp4 {α : Type} (r d b : α) (Lo Ln Ls Lr L : List α) : (b :: r :: d :: (Lo ++ (Ln ++ (Ls ++ (Lr ++ L))))).Perm (b :: (Lo ++ (Ln ++ (Lr ++ (Ls ++ (r :: d :: L)))))) := (by classical exact List.perm_iff_count.2 (fun a => by simp only [List.count_append, List.count_cons, List.cons_append, List.nil_append, List.append_assoc]; omega))
theorem perm_cp5 {α : Type} (r d b : α) (Lo Ln Ls Lr L : List α) : (b :: (Lo ++ (Ln ++ (Lr ++ (Ls ++ (r :: d :: L)))))).Perm (r :: d :: b :: (Lo ++ (Ln ++ (Ls ++ (Lr ++ L))))) := (by classical exact List.perm_iff_count.2 (fun a => by simp only [List.count_append, List.count_cons, List.cons_append, List.nil_append, List.append_assoc]; omega))
theorem perm_cp6 {α : Type} (r d : α) (Ls Lr L : List α) : (Lr ++ (Ls ++ (r :: d :: L))).Perm (r :: d :: (Ls ++ (Lr ++ L))) := (by classical exact List.perm_iff_count.2 (fun a => by simp only [List.count_append, List.count_cons, List.cons_append, List.nil_append, List.append_assoc]; omega))
theorem perm_cp2 {α : Type} (r d b : α) (R : List α) : (b :: r :: d :: R).Perm (r :: d :: b :: R) := (by classical exact List.perm_iff_count.2 (fun a => by simp only [List.count_append, List.count_cons, List.cons_append, List.nil_append, List.append_assoc]; omega))

set_option maxRecDepth 10000 in
set_option maxHeartbeats 4000000 in
theorem copy_any (b : Nat) (h : HeapM) (d : DeedM) (lv sv : Value) {w0 w : World} {H : Hp} {L : List (Nat × Obj)} (hc : HeapOwn TH b h w0 H L w) (hd : DeedR H d lv sv) (hr : h.regs.length ≤ 100000) :
    Calls Try.prog 97 #[.pointer (some ⟨b, 0, none⟩), d.v lv sv] w (DeedEnd b w0 H L (h.doMove d)) := by
  obtain ⟨rs, rv, Ls, Lr, hs, hv, hcore⟩ := hc
  obtain ⟨ob, oc, nb, nc, hhr, Lo, Ln, ho, hrl, hf, hn, m, hoc, hnc, hol, hnl⟩ := hcore.shape
  obtain ⟨sb, sc, rfl, hsc1, hsc2⟩ := hv.shape
  have HD := Lib.hid hd
  obtain ⟨lb, lc, rfl, _, _, _, _⟩ := hd.list
  obtain ⟨sb2, sc2, rfl, _, _, _, _⟩ := hd.slots
  have hda := hd.a
  have hdb := hd.b
  unfold I64 at hda hdb
  clear hd
  show Calls Try.prog 97 #[.pointer (some ⟨b, 0, none⟩), .agg #[.int .u8 d.kind, .int .i64 d.a, .int .i64 d.b, .int .i64 d.c, .slice lb d.list.length lc, .int .u8 d.obj.kind, .string d.obj.name, .int .i64 d.obj.n, .slice sb2 d.obj.slots.length sc2, .int .u8 d.val.kind, .int .i64 d.val.n, .string d.val.s]] w _
  have m1 := (m.alloc (DBox d (.slice lb d.list.length lc) (.slice sb2 d.obj.slots.length sc2))).alloc (.cells #[.int .u8 0, .int .i64 0, .string ⟨#[]⟩] 50)
  rw [World.size_alloc] at m1
  have m2 := m1.alloc (.cells #[.int .i64 d.a, .int .i64 d.b] 3)
  rw [World.size_alloc, World.size_alloc] at m2
  go_enter Try.func97, Try.ntmps97
  go_wp2_with fail
  refine (are2 b _ d.a d.b HD.out.a HD.out.b (m2.perm (perm_cp3 _ _ _ _ _)) hr).mono ?_
  rintro e w1 ⟨rfl, m3⟩
  clear m1 m2
  have hare : h.are [d.a, d.b] = inAll 0 ((h.regs.length : Int) - 1) [d.a, d.b] := rfl
  cases hb : inAll 0 ((h.regs.length : Int) - 1) [d.a, d.b]
  · have hdo : h.doMove d = (3, unitV, h) := by unfold HeapM.doMove; rw [if_pos (by rw [hare, hb])]
    have HDO := Lib.hid hdo; clear hdo hare hb
    go_wp2_with fail
    refine (unit_any m3).mono ?_
    rintro e w2 ⟨rfl, m4⟩
    have m5 := m4.perm (perm_cp2 _ _ _ _)
    have es := m5.eqs; simp only [EqsL, and_true] at es
    have ns := m5.nes; simp only [NeL, NeFrom, and_true, true_and] at ns
    unfold ValM.v unitV
    go_wp2_with fail
    refine bodyPost_ret (v := .tuple #[unitV.v, .int .i64 3]) (by simp [results, Try.results97, go_sem, es, ns]; rfl) rfl ?_
    rw [HDO.out]
    refine ⟨rfl, H, Hle.refl _, rs, _, Ls, Lr, hs, hv, _, _, hhr, Lo, Ln, by rw [hrl]; exact ho, hf, hn, ?_⟩
    refine MemB.done (ks := [w.heap.size + 1, w.heap.size]) ?_
    repeat (first | exact ⟨[_, _], rfl, m5⟩ | refine MemB.set (by simp) ?_)
  · have hdo : h.doMove d = (0, unitV, { h with regs := h.regs.set d.a.toNat (h.reg d.b) }) := by unfold HeapM.doMove; rw [if_neg (by rw [hare, hb]; simp)]
    have HDO := Lib.hid hdo; clear hdo hare
    rw [inAll2, Bool.and_eq_true] at hb
    have hb1 := of_decide_eq_true hb.1
    have hb2 := of_decide_eq_true hb.2
    clear hb
    obtain ⟨ia, hia⟩ := Int.eq_ofNat_of_zero_le hb1.1
    obtain ⟨ib, hib⟩ := Int.eq_ofNat_of_zero_le hb2.1
    have hia1 : ia < h.regs.length := by omega
    have hib1 : ib < h.regs.length := by omega
    have hreg : h.reg d.b = h.regs[ib] := by unfold HeapM.reg; rw [hib]; simp [List.getD, hib1]
    have HREG := Lib.hid hreg; clear hreg
    have hc1 : Core TH b h.size h.half h.scan h.busy h.old rs (.slice sb h.regs.length sc) w0 H (Lr ++ (Ls ++ (_ :: _ :: L))) w1 := ⟨_, _, hhr, Lo, Ln, by rw [hrl]; exact ho, hf, hn, m3.perm (perm_cp4 _ _ _ Lo Ln Ls Lr L)⟩
    obtain ⟨g, rfl, c0, c1, c2, hfr, hgl, hfit, _, hscm⟩ := hc1.atV hv hib1
    have hscm := size_le_maxLen hscm
    have m3u := m3
    unfold DBox HBox at m3u
    have es := m3u.eqs
    simp only [EqsL] at es
    go_wp2_with fail
    refine AnyFrom.start (fun w' => w' = w1.drew) 17 (by kernel_rfl) ?_
    have hc2 := hc1.drewN 1
    have hdr : w1.drewN 1 = w1.drew := rfl
    rw [hdr] at hc2
    clear es m3u c0 c1 c2 hfr hgl
    have m3u := m3.drew
    unfold DBox HBox at m3u
    generalize w1.drew = W at *
    have es := m3u.eqs
    simp only [EqsL] at es
    obtain ⟨g', hg', c0, c1, c2, hfr, hgl, _, _, _⟩ := hc2.atV hv hib1
    cases hg'
    obtain ⟨g', hg', d0, d1, d2, _, _, _, _, _⟩ := hc2.atV hv hia1
    cases hg'
    have HS : W = W := rfl
    clear hc1 m3
    refine AnyFrom.takeT (i := 0) (v := ?_) rfl (by kernel_rfl) (by kernel_rfl) (by kernel_rfl) (by kernel_rfl) (fun _ _ _ h => h) ⟨by rfl, ?_⟩ HS ?_
    rotate_left
    · first | (rintro w' rfl; go_simp; done) | (rintro w' rfl; go_simp; with_reducible rfl)
    simp only [Act.put, List.setIfInBounds_toArray, List.set_cons_zero, List.set_cons_succ]
    refine AnyFrom.takeT (i := 1) (v := ?_) rfl (by kernel_rfl) (by kernel_rfl) (by kernel_rfl) (by kernel_rfl) (fun _ _ _ h => h) ⟨by rfl, ?_⟩ HS ?_
    rotate_left
    · first | (rintro w' rfl; go_simp; done) | (rintro w' rfl; go_simp; with_reducible rfl)
    simp only [Act.put, List.setIfInBounds_toArray, List.set_cons_zero, List.set_cons_succ]
    refine AnyFrom.takeT (i := 2) (v := ?_) rfl (by kernel_rfl) (by kernel_rfl) (by kernel_rfl) (by kernel_rfl) (fun _ _ _ h => h) ⟨by rfl, ?_⟩ HS ?_
    rotate_left
    · first | (rintro w' rfl; go_simp; done) | (rintro w' rfl; go_simp; with_reducible rfl)
    simp only [Act.put, List.setIfInBounds_toArray, List.set_cons_zero, List.set_cons_succ]
    refine AnyFrom.takeT (i := 3) (v := ?_) rfl (by kernel_rfl) (by kernel_rfl) (by kernel_rfl) (by kernel_rfl) (fun _ _ _ h => h) ⟨by rfl, ?_⟩ HS ?_
    rotate_left
    · first | (rintro w' rfl; go_simp; done) | (rintro w' rfl; go_simp; with_reducible rfl)
    simp only [Act.put, List.setIfInBounds_toArray, List.set_cons_zero, List.set_cons_succ]
    refine AnyFrom.takeT (i := 4) (v := ?_) rfl (by kernel_rfl) (by kernel_rfl) (by kernel_rfl) (by kernel_rfl) (fun _ _ _ h => h) ⟨by rfl, ?_⟩ HS ?_
    rotate_left
    · first | (rintro w' rfl; go_simp; done) | (rintro w' rfl; go_simp; with_reducible rfl)
    simp only [Act.put, List.setIfInBounds_toArray, List.set_cons_zero, List.set_cons_succ]
    refine AnyFrom.takeT (i := 5) (v := ?_) rfl (by kernel_rfl) (by kernel_rfl) (by kernel_rfl) (by kernel_rfl) (fun _ _ _ h => h) ⟨by rfl, ?_⟩ HS ?_
    rotate_left
    · first | (rintro w' rfl; go_simp; done) | (rintro w' rfl; go_simp; with_reducible rfl)
    simp only [Act.put, List.setIfInBounds_toArray, List.set_cons_zero, List.set_cons_succ]
    refine AnyFrom.takeT (i := 6) (v := ?_) rfl (by kernel_rfl) (by kernel_rfl) (by kernel_rfl) (by kernel_rfl) (fun _ _ _ h => h) ⟨by rfl, ?_⟩ HS ?_
    rotate_left
    · first | (rintro w' rfl; go_simp; done) | (rintro w' rfl; go_simp; with_reducible rfl)
    simp only [Act.put, List.setIfInBounds_toArray, List.set_cons_zero, List.set_cons_succ]
    refine AnyFrom.takeT (i := 7) (v := ?_) rfl (by kernel_rfl) (by kernel_rfl) (by kernel_rfl) (by kernel_rfl) (fun _ _ _ h => h) ⟨by rfl, ?_⟩ HS ?_
    rotate_left
    · first | (rintro w' rfl; go_simp; done) | (rintro w' rfl; go_simp; with_reducible rfl)
    simp only [Act.put, List.setIfInBounds_toArray, List.set_cons_zero, List.set_cons_succ]
    refine AnyFrom.takeT (i := 8) (v := ?_) rfl (by kernel_rfl) (by kernel_rfl) (by kernel_rfl) (by kernel_rfl) (fun _ _ _ h => h) ⟨by rfl, ?_⟩ HS ?_
    rotate_left
    · first | (rintro w' rfl; go_simp; done) | (rintro w' rfl; go_simp; with_reducible rfl)
    simp only [Act.put, List.setIfInBounds_toArray, List.set_cons_zero, List.set_cons_succ]
    refine AnyFrom.takeT (i := 9) (v := ?_) rfl (by kernel_rfl) (by kernel_rfl) (by kernel_rfl) (by kernel_rfl) (fun _ _ _ h => h) ⟨by rfl, ?_⟩ HS ?_
    rotate_left
    · first | (rintro w' rfl; go_simp; done) | (rintro w' rfl; go_simp; with_reducible rfl)
    simp only [Act.put, List.setIfInBounds_toArray, List.set_cons_zero, List.set_cons_succ]
    refine AnyFrom.takeT (i := 10) (v := ?_) rfl (by kernel_rfl) (by kernel_rfl) (by kernel_rfl) (by kernel_rfl) (fun _ _ _ h => h) ⟨by rfl, ?_⟩ HS ?_
    rotate_left
    · first | (rintro w' rfl; go_simp; done) | (rintro w' rfl; go_simp; with_reducible rfl)
    simp only [Act.put, List.setIfInBounds_toArray, List.set_cons_zero, List.set_cons_succ]
    refine AnyFrom.takeT (i := 11) (v := ?_) rfl (by kernel_rfl) (by kernel_rfl) (by kernel_rfl) (by kernel_rfl) (fun _ _ _ h => h) ⟨by rfl, ?_⟩ HS ?_
    rotate_left
    · first | (rintro w' rfl; go_simp; done) | (rintro w' rfl; go_simp; with_reducible rfl)
    simp only [Act.put, List.setIfInBounds_toArray, List.set_cons_zero, List.set_cons_succ]
    refine AnyFrom.takeT (i := 12) (v := ?_) rfl (by kernel_rfl) (by kernel_rfl) (by kernel_rfl) (by kernel_rfl) (fun _ _ _ h => h) ⟨by rfl, ?_⟩ HS ?_
    rotate_left
    · first | (rintro w' rfl; go_simp; done) | (rintro w' rfl; go_simp; with_reducible rfl)
    simp only [Act.put, List.setIfInBounds_toArray, List.set_cons_zero, List.set_cons_succ]
    refine AnyFrom.takeT (i := 13) (v := ?_) rfl (by kernel_rfl) (by kernel_rfl) (by kernel_rfl) (by kernel_rfl) (fun _ _ _ h => h) ⟨by rfl, ?_⟩ HS ?_
    rotate_left
    · first | (rintro w' rfl; go_simp; done) | (rintro w' rfl; go_simp; with_reducible rfl)
    simp only [Act.put, List.setIfInBounds_toArray, List.set_cons_zero, List.set_cons_succ]
    refine AnyFrom.takeT (i := 14) (v := ?_) rfl (by kernel_rfl) (by kernel_rfl) (by kernel_rfl) (by kernel_rfl) (fun _ _ _ h => h) ⟨by rfl, ?_⟩ HS ?_
    rotate_left
    · first | (rintro w' rfl; go_simp; done) | (rintro w' rfl; go_simp; with_reducible rfl)
    simp only [Act.put, List.setIfInBounds_toArray, List.set_cons_zero, List.set_cons_succ]
    refine AnyFrom.takeT (i := 15) (v := ?_) rfl (by kernel_rfl) (by kernel_rfl) (by kernel_rfl) (by kernel_rfl) (fun _ _ _ h => h) ⟨by rfl, ?_⟩ HS ?_
    rotate_left
    · first | (rintro w' rfl; go_simp; done) | (rintro w' rfl; go_simp; with_reducible rfl)
    simp only [Act.put, List.setIfInBounds_toArray, List.set_cons_zero, List.set_cons_succ]
    refine AnyFrom.takeT (i := 16) (v := ?_) rfl (by kernel_rfl) (by kernel_rfl) (by kernel_rfl) (by kernel_rfl) (fun _ _ _ h => h) ⟨by rfl, ?_⟩ HS ?_
    rotate_left
    · first | (rintro w' rfl; go_simp; done) | (rintro w' rfl; go_simp; with_reducible rfl)
    simp only [Act.put, List.setIfInBounds_toArray, List.set_cons_zero, List.set_cons_succ]
    refine AnyFrom.one (i := 17) (by kernel_rfl) (AnyFrom.op rfl (by rfl) fun K hK => ?_)
    go_simp
    refine hK _ _ (.inl ⟨17, by decide, by rfl⟩) ?_
    clear hK K
    try simp only [Act.put, List.setIfInBounds_toArray, List.set_cons_zero, List.set_cons_succ]
    refine AnyFrom.done (by kernel_rfl) ?_ _
    obtain ⟨Lr', hv', hc3⟩ := hc2.setV hv hia1 h.regs[ib] hfit
    clear es m3u hc2 c0 c1 c2 d0 d1 d2 hfr hgl
    obtain ⟨ob3, oc3, nb3, nc3, hhr3, Lo3, Ln3, ho3, hrl3, hf3, hn3, m4, _, _, _, _⟩ := hc3.shape
    have m5 := m4.perm (perm_cp5 _ _ _ Lo3 Ln3 Ls Lr' L)
    generalize (((W.setCell ⟨g, ia * 3, none⟩ (.int .u8 h.regs[ib].kind)).setCell ⟨g, ia * 3 + 1, none⟩ (.int .i64 h.regs[ib].n)).setCell ⟨g, ia * 3 + 2, none⟩ (.string h.regs[ib].s)) = W5 at *
    go_wp2_with fail
    refine (unit_any m5).mono ?_
    rintro e w6 ⟨rfl, m6⟩
    have m6u := m6
    unfold DBox HBox at m6u
    have es := m6u.eqs
    simp only [EqsL] at es
    have ns := m6u.nes
    simp only [NeL, NeFrom] at ns
    unfold ValM.v unitV
    go_wp2_with fail
    refine bodyPost_ret (v := .tuple #[unitV.v, .int .i64 0]) (by simp [results, Try.results97, go_sem, es, ns]; rfl) rfl ?_
    rw [HDO.out, hia, HREG.out, Int.toNat_natCast]
    refine ⟨rfl, H, Hle.refl _, rs, .slice (some ⟨g, 0, none⟩) h.regs.length sc, Ls, Lr', hs, by simpa using hv', _, _, hhr3, Lo3, Ln3, by rw [hrl3]; exact ho3, hf3, hn3, ?_⟩
    refine MemB.done (ks := [w.heap.size + 1, w.heap.size]) ?_
    repeat (first | exact ⟨[_, _], rfl, m6⟩ | refine MemB.set (by simp) ?_)
end Go.Proofs.Ythipkmmdjhpklaa
namespace Go.Proofs.Ythipkmmdjhpklaa
set_option linter.unusedVariables false
set_option linter.unusedSimpArgs false
open Go.RowKit

def HeapM.doBegin (h : HeapM) : Int × ValM × HeapM := if h.busy = true then (9, unitV, h) else (0, unitV, h.begin)
theorem HeapOwn.perm {T : TypeId} {b : Nat} {h : HeapM} {w0 w : World} {H : Hp} {L L' : List (Nat × Obj)} (hc : HeapOwn T b h w0 H L w) (hp : L.Perm L') : HeapOwn T b h w0 H L' w := by
  obtain ⟨rs, rv, Ls, Lr, hs, hv, hcore⟩ := hc
  exact ⟨rs, rv, Ls, Lr, hs, hv, hcore.perm ((List.Perm.refl Ls).append ((List.Perm.refl Lr).append hp))⟩
/-- Blocks that lie behind the heap, put ahead of it, and back. -/
theorem HeapOwn.out {T : TypeId} {b : Nat} {h : HeapM} {w0 w : World} {H : Hp} {L1 L : List (Nat × Obj)} (hc : HeapOwn T b h w0 H (L1 ++ L) w) :
    ∃ LH, Mem w0 H (L1 ++ (LH ++ L)) w ∧ ∀ {L' : List (Nat × Obj)} {w' : World}, Mem w0 H (LH ++ L') w' → HeapOwn T b h w0 H L' w' := by
  obtain ⟨rs, rv, Ls, Lr, hs, hv, vo, vn, hr, Lo, Ln, h1, h2, h3, m⟩ := hc
  refine ⟨(b, HBox T h.size h.half h.scan h.busy vo vn rv) :: (Lo ++ (Ln ++ (Ls ++ Lr))), ?_, fun {L'} {w'} m' => ⟨rs, rv, Ls, Lr, hs, hv, vo, vn, hr, Lo, Ln, h1, h2, h3, by simpa only [List.cons_append, List.append_assoc] using m'⟩⟩
  refine m.perm ?_
  simp only [List.cons_append, List.append_assoc]
  exact (by classical exact List.perm_iff_count.2 (fun a => by simp only [List.count_append, List.count_cons, List.cons_append, List.nil_append, List.append_assoc]; omega))
theorem HeapOwn.alloc {T : TypeId} {b : Nat} {h : HeapM} {w0 w : World} {H : Hp} {L : List (Nat × Obj)} (hc : HeapOwn T b h w0 H L w) (o : Obj) : HeapOwn T b h w0 H ((w.heap.size, o) :: L) (w.alloc o) := by
  obtain ⟨LH, m, back⟩ := HeapOwn.out (L1 := []) hc
  exact back ((m.alloc o).perm (List.perm_middle (l₁ := LH)).symm)

set_option maxRecDepth 10000 in
set_option maxHeartbeats 4000000 in
theorem start_any (b : Nat) (h : HeapM) (d : DeedM) (lv sv : Value) {w0 w : World} {H : Hp} {L : List (Nat × Obj)} (hc : HeapOwn TH b h w0 H L w) (hd : DeedR H d lv sv)
    (hok : h.busy = false → h.old = [] ∧ (h.half = 0 ∨ h.half = 1) ∧ h.new.length ≤ 100000 ∧ CanMove (1 - h.half) (oldOf h.new) 0 ∧ ∀ x ∈ h.regs, CanV (1 - h.half) h.new.length x) :
    Calls Try.prog 101 #[.pointer (some ⟨b, 0, none⟩), d.v lv sv] w (DeedEnd b w0 H L h.doBegin) := by
  have HOK := Lib.hid hok; clear hok
  obtain ⟨lb, lc, rfl, _, _, _, _⟩ := hd.list
  obtain ⟨sb2, sc2, rfl, _, _, _, _⟩ := hd.slots
  clear hd
  obtain ⟨LH0, m0, _⟩ := HeapOwn.out (L1 := []) hc
  have hc1 := (hc.alloc (DBox d (.slice lb d.list.length lc) (.slice sb2 d.obj.slots.length sc2))).alloc (.cells #[.int .u8 0, .int .i64 0, .string ⟨#[]⟩] 50)
  rw [World.size_alloc] at hc1
  have hcc := hc
  obtain ⟨rs, rv, Ls, Lr, hs, hv, hcore⟩ := hcc
  obtain ⟨ob, oc, nb, nc, hhr, Lo, Ln, ho, hrl, hf, hn, m, hoc, hnc, hol, hnl⟩ := hcore.shape
  have mu := m
  unfold HBox at mu
  have es := mu.eqs; simp only [EqsL, and_true] at es
  show Calls Try.prog 101 #[.pointer (some ⟨b, 0, none⟩), .agg #[.int .u8 d.kind, .int .i64 d.a, .int .i64 d.b, .int .i64 d.c, .slice lb d.list.length lc, .int .u8 d.obj.kind, .string d.obj.name, .int .i64 d.obj.n, .slice sb2 d.obj.slots.length sc2, .int .u8 d.val.kind, .int .i64 d.val.n, .string d.val.s]] w _
  cases hb : h.busy
  · rw [hb] at es
    have hdo : h.doBegin = (0, unitV, h.begin) := by unfold HeapM.doBegin; rw [if_neg (by simp [hb])]
    have HDO := Lib.hid hdo; clear hdo
    obtain ⟨o1, o2, o3, o4, o5⟩ := HOK.out hb
    have O4 := Lib.hid o4; clear o4
    have O5 := Lib.hid o5; clear o5
    go_enter Try.func101, Try.ntmps101
    go_wp2_with fail
    refine (begin_any b h hc1 o1 o2 o3 O4.out O5.out).mono ?_
    rintro e w1 ⟨rfl, H', hle, hc2⟩
    clear es
    go_wp2_with fail
    obtain ⟨LH, m2, back⟩ := HeapOwn.out (L1 := []) hc2
    refine (unit_any m2).mono ?_
    rintro e w2 ⟨rfl, m3⟩
    have m4 := m3.perm (((List.perm_middle (l₁ := LH)).trans (.cons _ (List.perm_middle (l₁ := LH)))))
    have es := m4.eqs; simp only [EqsL, and_true] at es
    have ns := m4.nes; simp only [NeL, NeFrom, and_true, true_and] at ns
    unfold ValM.v unitV
    go_wp2_with fail
    refine bodyPost_ret (v := .tuple #[unitV.v, .int .i64 0]) (by simp [results, Try.results101, go_sem, es, ns]; rfl) rfl ?_
    rw [HDO.out]
    refine ⟨rfl, H', hle, back (MemB.done (ks := [w.heap.size + 1, w.heap.size]) ?_)⟩
    repeat (first | exact ⟨[_, _], rfl, m4⟩ | refine MemB.set (by simp) ?_)
  · rw [hb] at es
    have hdo : h.doBegin = (9, unitV, h) := by unfold HeapM.doBegin; rw [if_pos hb]
    have HDO := Lib.hid hdo; clear hdo
    go_enter Try.func101, Try.ntmps101
    go_wp2_with fail
    obtain ⟨LH, m2, back⟩ := HeapOwn.out (L1 := []) hc1
    refine (unit_any m2).mono ?_
    rintro e w2 ⟨rfl, m3⟩
    have m4 := m3.perm (((List.perm_middle (l₁ := LH)).trans (.cons _ (List.perm_middle (l₁ := LH)))))
    clear es
    have es := m4.eqs; simp only [EqsL, and_true] at es
    have ns := m4.nes; simp only [NeL, NeFrom, and_true, true_and] at ns
    unfold ValM.v unitV
    go_wp2_with fail
    refine bodyPost_ret (v := .tuple #[unitV.v, .int .i64 9]) (by simp [results, Try.results101, go_sem, es, ns]; rfl) rfl ?_
    rw [HDO.out]
    refine ⟨rfl, H, Hle.refl _, back (MemB.done (ks := [w.heap.size + 1, w.heap.size]) ?_)⟩
    repeat (first | exact ⟨[_, _], rfl, m4⟩ | refine MemB.set (by simp) ?_)
end Go.Proofs.Ythipkmmdjhpklaa
namespace Go.Proofs.Ythipkmmdjhpklaa
set_option linter.unusedVariables false
set_option linter.unusedSimpArgs false
open Go.RowKit
attribute [local go_sem] Oper.semAt_some

/-- So many objects scanned at most: how many were, and what becomes of the heap. -/
def HeapM.stepM : Nat → HeapM → Nat × HeapM
  | 0, h => (0, h)
  | n + 1, h => if h.busy = false then (0, h) else if h.scan < h.new.length then ((HeapM.stepM n h.scan1.endIf).1 + 1, (HeapM.stepM n h.scan1.endIf).2) else (0, h.endIf)
theorem stepM_reach {k : Nat} {h0 h1 : HeapM} (hr : Reach k h0 h1) : ∀ n, k ≤ n → h0.stepM n = ((h1.stepM (n - k)).1 + k, (h1.stepM (n - k)).2) := by
  induction hr with
  | zero h => intro n _; simp
  | @succ j h h1 hr hb hs ih =>
    intro n hn
    rw [ih n (by omega)]
    obtain ⟨m, hm⟩ : ∃ m, n - j = m + 1 := ⟨n - j - 1, by omega⟩
    have e : n - (j + 1) = m := by omega
    rw [hm, e]
    unfold HeapM.stepM
    rw [if_neg (by simp [hb]), if_pos hs]
    cases m with
    | zero => simp [HeapM.stepM]; omega
    | succ m => simp only; rw [show (HeapM.stepM (m + 1) h1.scan1.endIf).1 + 1 + j = (HeapM.stepM (m + 1) h1.scan1.endIf).1 + (j + 1) by omega]; rfl
def HeapM.doStep (h : HeapM) (d : DeedM) : Int × ValM × HeapM := if d.a < 0 then (3, unitV, h) else (0, intV (h.stepM d.a.toNat).1, (h.stepM d.a.toNat).2)

set_option maxRecDepth 10000 in
set_option maxHeartbeats 4000000 in
theorem step_any (b : Nat) (h : HeapM) (d : DeedM) (lv sv : Value) {w0 w : World} {H : Hp} {L : List (Nat × Obj)} (hc : HeapOwn TH b h w0 H L w) (hd : DeedR H d lv sv) (hok : h.busy = true → ScanOk h) (ha : d.a ≤ 100000) :
    Calls Try.prog 102 #[.pointer (some ⟨b, 0, none⟩), d.v lv sv] w (DeedEnd b w0 H L (h.doStep d)) := by
  have HOK := Lib.hid hok; clear hok
  obtain ⟨lb, lc, rfl, _, _, _, _⟩ := hd.list
  obtain ⟨sb2, sc2, rfl, _, _, _, _⟩ := hd.slots
  have hda := hd.a
  unfold I64 at hda
  clear hd
  have hc1 := (hc.alloc (DBox d (.slice lb d.list.length lc) (.slice sb2 d.obj.slots.length sc2))).alloc (.cells #[.int .u8 0, .int .i64 0, .string ⟨#[]⟩] 50)
  rw [World.size_alloc] at hc1
  show Calls Try.prog 102 #[.pointer (some ⟨b, 0, none⟩), .agg #[.int .u8 d.kind, .int .i64 d.a, .int .i64 d.b, .int .i64 d.c, .slice lb d.list.length lc, .int .u8 d.obj.kind, .string d.obj.name, .int .i64 d.obj.n, .slice sb2 d.obj.slots.length sc2, .int .u8 d.val.kind, .int .i64 d.val.n, .string d.val.s]] w _
  by_cases hneg : d.a < 0
  · have hdo : h.doStep d = (3, unitV, h) := by unfold HeapM.doStep; rw [if_pos hneg]
    have HDO := Lib.hid hdo; clear hdo
    go_enter Try.func102, Try.ntmps102
    go_wp2_with fail
    obtain ⟨LH, m2, back⟩ := HeapOwn.out (L1 := []) hc1
    refine (unit_any m2).mono ?_
    rintro e w2 ⟨rfl, m3⟩
    have m4 := m3.perm (((List.perm_middle (l₁ := LH)).trans (.cons _ (List.perm_middle (l₁ := LH)))))
    have es := m4.eqs; simp only [EqsL, and_true] at es
    have ns := m4.nes; simp only [NeL, NeFrom, and_true, true_and] at ns
    unfold ValM.v unitV
    go_wp2_with fail
    refine bodyPost_ret (v := .tuple #[unitV.v, .int .i64 3]) (by simp [results, Try.results102, go_sem, es, ns]; rfl) rfl ?_
    rw [HDO.out]
    refine ⟨rfl, H, Hle.refl _, back (MemB.done (ks := [w.heap.size + 1, w.heap.size]) ?_)⟩
    repeat (first | exact ⟨[_, _], rfl, m4⟩ | refine MemB.set (by simp) ?_)
  · obtain ⟨n, hn⟩ := Int.eq_ofNat_of_zero_le (show 0 ≤ d.a by omega)
    have hdo : h.doStep d = (0, intV (h.stepM n).1, (h.stepM n).2) := by unfold HeapM.doStep; rw [if_neg hneg, hn, Int.toNat_natCast]
    have HDO := Lib.hid hdo; clear hdo
    have HN := Lib.hid hn; clear hn
    have hc2 := hc1.alloc (.cells #[.int .i64 0] 3)
    rw [World.size_alloc, World.size_alloc] at hc2
    have hmf : ∀ (fn : Fn) (first cap : Array Value) (w : World), (Instr.makeFunc fn first cap).run Try.prog w = .ok (.func fn first cap) w := fun _ _ _ _ => rfl
    by_cases hpos : 0 < d.a
    · refine callsIn_wide.1 (callsIn_of_wp_marks (F := Fence.wide) (n := 3) Try.func102 rfl trivial ?_)
      rw [wpIn_wide]
      simp only [Try.ntmps102, List.size_toArray, List.length_cons, List.length_nil, Nat.reduceAdd, Nat.reduceSub, Array.replicate_succ, Array.replicate_zero, List.push_toArray, List.append_toArray, List.nil_append, List.cons_append]
      go_wp2_with fail
      obtain ⟨LH, m2, back⟩ := HeapOwn.out (L1 := []) hc2
      rw [List.nil_append] at m2
      have HDB := Lib.hid (fun (LH0 : List (Nat × Obj)) (m : Mem w0 H (LH0 ++ L) w) => m)
      refine wp_rangeFunc_mem (gf := 59) (first := #[.pointer (some ⟨b, 0, none⟩)]) (LH := LH) m2 rfl (fun args w => (enters_of (P := Try.prog) Try.func59 (by kernel_rfl) rfl) args w)
        (fun k LB => (k : Int) < d.a ∧ LB = (w.heap.size + 1 + 1, .cells #[.int .i64 k] 3) :: (w.heap.size + 1, .cells #[.int .u8 0, .int .i64 0, .string ⟨#[]⟩] 50) :: (w.heap.size, DBox d (.slice lb d.list.length lc) (.slice sb2 d.obj.slots.length sc2)) :: L)
        (fun c k LB => c = .exit 0 ∧ (k : Int) = d.a ∧ LB = (w.heap.size + 1 + 1, .cells #[.int .i64 k] 3) :: (w.heap.size + 1, .cells #[.int .u8 0, .int .i64 0, .string ⟨#[]⟩] 50) :: (w.heap.size, DBox d (.slice lb d.list.length lc) (.slice sb2 d.obj.slots.length sc2)) :: L)
        (fun k H' LH' => H' = H ∧ ∃ h1 h2, Reach k h h1 ∧ (∀ L' w', Mem w0 H (LH' ++ L') w' → HeapOwn TH b h2 w0 H L' w') ∧ ((h1.busy = false ∧ h2 = h1) ∨ (h1.busy = true ∧ ¬ h1.scan < h1.new.length ∧ h2 = h1.endIf)))
        (fun k H' LH' => H' = H ∧ ∃ h1, Reach k h h1 ∧ (∀ L' w', Mem w0 H (LH' ++ L') w' → HeapOwn TH b h1 w0 H L' w'))
        ⟨by omega, rfl⟩ ?body ?it ?done ?stop
      case body =>
        rintro l n' k H1 L1 LB W ⟨hk, rfl⟩ mW
        have mF := mW.perm ((List.perm_middle (l₁ := L1)).trans (.cons _ ((List.perm_middle (l₁ := L1)).trans (.cons _ (List.perm_middle (l₁ := L1))))))
        have mu := mF
        unfold DBox at mu
        have es := mu.eqs; simp only [EqsL, and_true] at es
        have mS := mW.set (i := 0) (v := .int .i64 ((k : Int) + 1)) (LUpd.head.appR L1)
        simp only [List.setIfInBounds_toArray, List.set_cons_zero] at mS
        clear mu mF
        by_cases heq : (k : Int) + 1 = d.a
        · have he : (((k : Int) + 1) == d.a) = true := by rw [heq]; simp
          gi_wp2
          rw [heq] at mS
          exact mS
        · have he : (((k : Int) + 1) == d.a) = false := beq_eq_false_iff_ne.2 heq
          gi_wp2
          exact ⟨_, ⟨by omega, rfl⟩, mS⟩
      case it =>
        intro l RB' Rx' hY LB' W hRB mW
        refine (scans_any b h HOK.out hY hRB (back mW)).mono ?_
        rintro e W' ⟨hv, k, h1, LB2, hre, (⟨hR, h2, hown, hcase⟩ | ⟨hR, hown⟩)⟩
        · obtain ⟨LH', m', back'⟩ := HeapOwn.out (L1 := []) hown
          exact ⟨hv, k, H, LH', LB2, m', .inl ⟨hR, rfl, h1, h2, hre, fun L' w' hm => back' hm, hcase⟩⟩
        · obtain ⟨LH', m', back'⟩ := HeapOwn.out (L1 := []) hown
          exact ⟨hv, k, H, LH', LB2, m', .inr ⟨hR, rfl, h1, hre, fun L' w' hm => back' hm⟩⟩
      case done =>
        rintro D k H' LH' LB' W ⟨hk, rfl⟩ ⟨rfl, h1, h2, hre, hown, hcase⟩ mW
        have mF := mW.perm ((List.perm_middle (l₁ := LH')).trans (.cons _ ((List.perm_middle (l₁ := LH')).trans (.cons _ ((List.perm_middle (l₁ := LH')).trans (.cons _ (List.perm_middle (l₁ := LH'))))))))
        have mu := mF
        unfold DBox at mu
        have es := mu.eqs; simp only [EqsL, and_true] at es
        have ns := mu.nes; simp only [NeL, NeFrom, and_true, true_and] at ns
        have hD := (mF.loc _ (.head _)).1
        go_wp2_with fail
        refine (number_any k mF).mono ?_
        rintro e W2 ⟨rfl, m3⟩
        clear es ns mu
        have mu := m3
        unfold DBox at mu
        have es := mu.eqs; simp only [EqsL, and_true] at es
        have ns := mu.nes; simp only [NeL, NeFrom, and_true, true_and] at ns
        have hD := (m3.loc _ (.head _)).1
        unfold ValM.v intV
        go_wp2_with fail
        have m4 := ((m3.set (i := 0) (v := .int .u8 1) (.tail (.tail .head))).set (i := 1) (v := .int .i64 k) (.tail (.tail .head))).set (i := 2) (v := .string ByteArray.empty) (.tail (.tail .head))
        simp only [List.setIfInBounds_toArray, List.set_cons_zero, List.set_cons_succ] at m4
        have hD4 := (m4.loc _ (.head _)).1
        refine ⟨by simp, .inl ⟨_, _, rfl, run_takeDeferred hD4, ?_⟩⟩
        have m5 := m4.putObj (LUpd.head (o' := .deferred none))
        clear es ns mu hD hD4 m4 m3
        have mu := m5
        unfold DBox at mu
        have es := mu.eqs; simp only [EqsL, and_true] at es
        have ns := mu.nes; simp only [NeL, NeFrom, and_true, true_and] at ns
        refine ⟨.tuple #[(intV k).v, .int .i64 0], by simp [results, Try.results102, go_sem, es, ns]; rfl, ?_⟩
        rw [HDO.out]
        have hst : h.stepM n = (k, h2) := by
          have hkn : k < n := by have := HN.out; omega
          rw [stepM_reach hre n (by omega)]
          obtain ⟨q, hq⟩ : ∃ q, n - k = q + 1 := ⟨n - k - 1, by omega⟩
          rw [hq]
          rcases hcase with ⟨e1, rfl⟩ | ⟨e1, e2, rfl⟩
          · simp [HeapM.stepM, e1]
          · simp only [HeapM.stepM]
            rw [if_neg (by simp [e1]), if_neg (by omega)]
            simp
        rw [hst]
        exact ⟨rfl, _, Hle.refl _, hown _ _ m5.drop.drop.drop.drop⟩
      case stop =>
        rintro D k id H' LH' LB' W ⟨hid, hk, rfl⟩ ⟨rfl, h1, hre, hown⟩ mW
        injection hid with hid
        subst hid
        have mF := mW.perm ((List.perm_middle (l₁ := LH')).trans (.cons _ ((List.perm_middle (l₁ := LH')).trans (.cons _ ((List.perm_middle (l₁ := LH')).trans (.cons _ (List.perm_middle (l₁ := LH'))))))))
        have mu := mF
        unfold DBox at mu
        have es := mu.eqs; simp only [EqsL, and_true] at es
        have ns := mu.nes; simp only [NeL, NeFrom, and_true, true_and] at ns
        have hD := (mF.loc _ (.head _)).1
        go_wp2_with fail
        refine (number_any d.a mF).mono ?_
        rintro e W2 ⟨rfl, m3⟩
        clear es ns mu
        have mu := m3
        unfold DBox at mu
        have es := mu.eqs; simp only [EqsL, and_true] at es
        have ns := mu.nes; simp only [NeL, NeFrom, and_true, true_and] at ns
        have hD := (m3.loc _ (.head _)).1
        unfold ValM.v intV
        go_wp2_with fail
        have m4 := ((m3.set (i := 0) (v := .int .u8 1) (.tail (.tail .head))).set (i := 1) (v := .int .i64 d.a) (.tail (.tail .head))).set (i := 2) (v := .string ByteArray.empty) (.tail (.tail .head))
        simp only [List.setIfInBounds_toArray, List.set_cons_zero, List.set_cons_succ] at m4
        have hD4 := (m4.loc _ (.head _)).1
        refine ⟨by simp, .inl ⟨_, _, rfl, run_takeDeferred hD4, ?_⟩⟩
        have m5 := m4.putObj (LUpd.head (o' := .deferred none))
        clear es ns mu hD hD4 m4 m3
        have mu := m5
        unfold DBox at mu
        have es := mu.eqs; simp only [EqsL, and_true] at es
        have ns := mu.nes; simp only [NeL, NeFrom, and_true, true_and] at ns
        refine ⟨.tuple #[(intV d.a).v, .int .i64 0], by simp [results, Try.results102, go_sem, es, ns]; rfl, ?_⟩
        rw [HDO.out]
        have hst : h.stepM n = (k, h1) := by
          have hkn : k = n := by have := HN.out; omega
          subst hkn
          rw [stepM_reach hre k (Nat.le_refl _), Nat.sub_self]
          simp [HeapM.stepM]
        rw [hst]
        simp only
        rw [hk]
        exact ⟨rfl, _, Hle.refl _, hown _ _ m5.drop.drop.drop.drop⟩
    · have HZ := Lib.hid (show d.a = 0 by omega)
      go_enter Try.func102, Try.ntmps102
      go_wp2_with fail
      obtain ⟨LH, m2, back⟩ := HeapOwn.out (L1 := []) hc2
      have hs0 : h.stepM n = (0, h) := by
        have : n = 0 := by have := HN.out; have := HZ.out; omega
        subst this
        rfl
      have HS0 := Lib.hid hs0; clear hs0
      rw [List.nil_append] at m2
      have m2f := m2.perm ((List.perm_middle (l₁ := LH)).trans (.cons _ ((List.perm_middle (l₁ := LH)).trans (.cons _ (List.perm_middle (l₁ := LH))))))
      refine (number_any 0 m2f).mono ?_
      rintro e w2 ⟨rfl, m3⟩
      have mu := m3
      unfold DBox at mu
      have es := mu.eqs; simp only [EqsL, and_true] at es
      have ns := mu.nes; simp only [NeL, NeFrom, and_true, true_and] at ns
      unfold ValM.v intV
      go_wp2_with fail
      refine bodyPost_ret (v := .tuple #[(intV 0).v, .int .i64 0]) (by simp [results, Try.results102, go_sem, es, ns]; rfl) rfl ?_
      rw [HDO.out, HS0.out]
      refine ⟨rfl, H, Hle.refl _, back (MemB.done (ks := [w.heap.size + 1 + 1, w.heap.size + 1, w.heap.size]) ?_)⟩
      repeat (first | exact ⟨[_, _, _], rfl, m3⟩ | refine MemB.set (by simp) ?_)
end Go.Proofs.Ythipkmmdjhpklaa
