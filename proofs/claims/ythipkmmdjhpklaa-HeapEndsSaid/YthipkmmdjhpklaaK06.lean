/- The walk: the deed that makes an object. -/
import Derived.Test.YthipkmmdjhpklaaK05
namespace Go.Proofs.Ythipkmmdjhpklaa
set_option linter.unusedVariables false
set_option linter.unusedSimpArgs false
open Go.RowKit

def HeapM.made (h : HeapM) (d : DeedM) : ObjM := ⟨d.obj.kind, d.obj.name, d.obj.n, d.list.map h.reg⟩
def HeapM.doMake (h : HeapM) (d : DeedM) : Int × ValM × HeapM :=
  if h.are [d.a] = false then (3, unitV, h) else
  if h.are d.list = false then (3, unitV, h) else
  if (d.obj.plain && decide (d.obj.slots.length ≤ 400)) = false then (4, unitV, h) else
  if 0 < d.obj.slots.length then (4, unitV, h) else
  if 400 < d.list.length then (5, unitV, h) else
  if h.size < (1 + (d.list.length : Int)) + h.used + h.due then (8, unitV, h) else
  (0, unitV, { h with regs := h.regs.set d.a.toNat (refV h.half h.new.length), new := h.new ++ [h.made d] })
theorem perm_mk1 {α : Type} (b r d : α) (R : List α) : (b :: r :: d :: R).Perm (r :: d :: b :: R) := (by classical exact List.perm_iff_count.2 (fun a => by simp only [List.count_append, List.count_cons, List.cons_append, List.nil_append, List.append_assoc]; omega))
theorem perm_mk2 {α : Type} (x r d b : α) (Lo Ln Ls Lr L : List α) : (x :: r :: d :: b :: (Lo ++ (Ln ++ (Ls ++ (Lr ++ L))))).Perm (b :: x :: d :: (Lr ++ (r :: (Lo ++ (Ln ++ (Ls ++ L)))))) := (by classical exact List.perm_iff_count.2 (fun a => by simp only [List.count_append, List.count_cons, List.cons_append, List.nil_append, List.append_assoc]; omega))
theorem perm_mk3 {α : Type} (x r d b : α) (Lp Lo Ln Ls Lr L : List α) : (x :: (Lp ++ (r :: d :: b :: (Lo ++ (Ln ++ (Ls ++ (Lr ++ L))))))).Perm (b :: x :: (Lr ++ (Lp ++ (r :: d :: (Lo ++ (Ln ++ (Ls ++ L))))))) := (by classical exact List.perm_iff_count.2 (fun a => by simp only [List.count_append, List.count_cons, List.cons_append, List.nil_append, List.append_assoc]; omega))
theorem perm_mk4 {α : Type} (y b x : α) (Lr R : List α) : (y :: b :: x :: (Lr ++ R)).Perm (b :: x :: (Lr ++ (y :: R))) := (by classical exact List.perm_iff_count.2 (fun a => by simp only [List.count_append, List.count_cons, List.cons_append, List.nil_append, List.append_assoc]; omega))
theorem perm_mk5 {α : Type} (y b x : α) (Lr Lp R : List α) : (y :: b :: x :: (Lr ++ (Lp ++ R))).Perm (Lp ++ (y :: b :: x :: (Lr ++ R))) := (by classical exact List.perm_iff_count.2 (fun a => by simp only [List.count_append, List.count_cons, List.cons_append, List.nil_append, List.append_assoc]; omega))
theorem perm_mk6 {α : Type} (b x : α) (Lp Lr R : List α) : (Lp ++ (b :: x :: (Lr ++ R))).Perm (b :: x :: (Lr ++ (Lp ++ R))) := (by classical exact List.perm_iff_count.2 (fun a => by simp only [List.count_append, List.count_cons, List.cons_append, List.nil_append, List.append_assoc]; omega))
theorem perm_mk7 {α : Type} (b x r d : α) (Lp Lo Ln Ls Lr L : List α) : (b :: x :: (Lr ++ (Lp ++ (r :: d :: (Lo ++ (Ln ++ (Ls ++ L))))))).Perm (x :: (Lp ++ (r :: d :: b :: (Lo ++ (Ln ++ (Ls ++ (Lr ++ L))))))) := (by classical exact List.perm_iff_count.2 (fun a => by simp only [List.count_append, List.count_cons, List.cons_append, List.nil_append, List.append_assoc]; omega))
theorem perm_bx1 {α : Type} (b p : α) (Lo Ln Ls Lr L : List α) : (b :: (Lo ++ (Ln ++ (Ls ++ (Lr ++ (p :: L)))))).Perm (b :: p :: (Lo ++ (Ln ++ (Ls ++ (Lr ++ L))))) := (by classical exact List.perm_iff_count.2 (fun a => by simp only [List.count_append, List.count_cons, List.cons_append, List.nil_append, List.append_assoc]; omega))
theorem perm_mk9 {α : Type} (x r d : α) (LH Lp L : List α) : (LH ++ (x :: (Lp ++ (r :: d :: L)))).Perm (r :: d :: x :: (Lp ++ (LH ++ L))) := (by classical exact List.perm_iff_count.2 (fun a => by simp only [List.count_append, List.count_cons, List.cons_append, List.nil_append, List.append_assoc]; omega))
theorem perm_mk10 {α : Type} (x r d b : α) (Lo Ln Ls Lr Lp L : List α) : (b :: (Lo ++ (Ln ++ (Ls ++ (Lr ++ (x :: (Lp ++ (r :: d :: L)))))))).Perm (b :: d :: x :: (Lr ++ (r :: (Lo ++ (Ln ++ (Ls ++ (Lp ++ L))))))) := (by classical exact List.perm_iff_count.2 (fun a => by simp only [List.count_append, List.count_cons, List.cons_append, List.nil_append, List.append_assoc]; omega))
theorem perm_mk11 {α : Type} (b d x : α) (Lr R : List α) : (b :: d :: x :: (Lr ++ R)).Perm (Lr ++ (b :: d :: x :: R)) := (by classical exact List.perm_iff_count.2 (fun a => by simp only [List.count_append, List.count_cons, List.cons_append, List.nil_append, List.append_assoc]; omega))
theorem perm_mk12 {α : Type} (b d x : α) (Lr R : List α) : (b :: d :: x :: (Lr ++ R)).Perm (Lr ++ (b :: d :: x :: R)) := (by classical exact List.perm_iff_count.2 (fun a => by simp only [List.count_append, List.count_cons, List.cons_append, List.nil_append, List.append_assoc]; omega))
theorem perm_mk13 {α : Type} (b d x r : α) (Lr Lo Ln Ls Lp L : List α) : (Lr ++ (b :: d :: x :: r :: (Lo ++ (Ln ++ (Ls ++ (Lp ++ L)))))).Perm (b :: x :: (Ln ++ (r :: d :: (Lo ++ (Ls ++ (Lp ++ (Lr ++ L))))))) := (by classical exact List.perm_iff_count.2 (fun a => by simp only [List.count_append, List.count_cons, List.cons_append, List.nil_append, List.append_assoc]; omega))
theorem perm_mk14 {α : Type} (y b x : α) (R : List α) : (y :: b :: x :: R).Perm (b :: x :: y :: R) := (by classical exact List.perm_iff_count.2 (fun a => by simp only [List.count_append, List.count_cons, List.cons_append, List.nil_append, List.append_assoc]; omega))
theorem perm_mk15 {α : Type} (b x : α) (Ln R : List α) : (Ln ++ (b :: x :: R)).Perm (b :: x :: (Ln ++ R)) := (by classical exact List.perm_iff_count.2 (fun a => by simp only [List.count_append, List.count_cons, List.cons_append, List.nil_append, List.append_assoc]; omega))
theorem perm_mk16 {α : Type} (b x r d : α) (Ln Lo Ls Lp Lr L : List α) : (b :: x :: (Ln ++ (r :: d :: (Lo ++ (Ls ++ (Lp ++ (Lr ++ L))))))).Perm (r :: d :: b :: (Lo ++ (Ln ++ (Ls ++ (Lp ++ (Lr ++ (x :: L))))))) := (by classical exact List.perm_iff_count.2 (fun a => by simp only [List.count_append, List.count_cons, List.cons_append, List.nil_append, List.append_assoc]; omega))
theorem perm_mk17 {α : Type} (b x r d : α) (Lo Ln Ls Lp Lr L : List α) : (r :: d :: b :: (Lo ++ (Ln ++ (Ls ++ (Lp ++ (Lr ++ (x :: L))))))).Perm (x :: r :: d :: b :: (Lo ++ (Ln ++ (Ls ++ (Lp ++ (Lr ++ L)))))) := (by classical exact List.perm_iff_count.2 (fun a => by simp only [List.count_append, List.count_cons, List.cons_append, List.nil_append, List.append_assoc]; omega))
theorem perm_mk8 {α : Type} (x r d b : α) (Lp Lo Ln Ls Lr L : List α) : (x :: (Lp ++ (r :: d :: b :: (Lo ++ (Ln ++ (Ls ++ (Lr ++ L))))))).Perm (b :: (Lo ++ (Ln ++ (Ls ++ (Lr ++ (x :: (Lp ++ (r :: d :: L)))))))) := (by classical exact List.perm_iff_count.2 (fun a => by simp only [List.count_append, List.count_cons, List.cons_append, List.nil_append, List.append_assoc]; omega))
theorem HeapOwn.drewN {T : TypeId} {b : Nat} {h : HeapM} {w0 w : World} {H : Hp} {L : List (Nat × Obj)} (hc : HeapOwn T b h w0 H L w) (k : Nat) : HeapOwn T b h w0 H L (w.drewN k) := by
  obtain ⟨rs, rv, Ls, Lr, hs, hv, hcore⟩ := hc
  exact ⟨rs, rv, Ls, Lr, hs, hv, hcore.drewN k⟩
/-- The heap's box, and one more block, in front. -/
theorem HeapOwn.box {T : TypeId} {b : Nat} {h : HeapM} {w0 w : World} {H : Hp} {p : Nat × Obj} {L : List (Nat × Obj)} (hc : HeapOwn T b h w0 H (p :: L) w) :
    ∃ vo vn vr L', Mem w0 H ((b, HBox T h.size h.half h.scan h.busy vo vn vr) :: p :: L') w := by
  obtain ⟨rs, rv, Ls, Lr, hs, hv, vo, vn, hr, Lo, Ln, h1, h2, h3, m⟩ := hc
  exact ⟨vo, vn, rv, _, m.perm (perm_bx1 _ p Lo Ln Ls Lr L)⟩
set_option maxRecDepth 10000 in
set_option maxHeartbeats 8000000 in
theorem make_any (b : Nat) (h : HeapM) (d : DeedM) (lv sv : Value) {w0 w : World} {H : Hp} {L : List (Nat × Obj)} (hc : HeapOwn TH b h w0 H L w) (hd : DeedR H d lv sv) (hr : h.regs.length ≤ 100000) (hol2 : h.old.length ≤ 100000) (hnl2 : h.new.length ≤ 100000) (hsl1 : ∀ o ∈ h.new, o.slots.length ≤ 100000) (hsl2 : ∀ p ∈ h.old, p.1.slots.length ≤ 100000) (hhalf : h.half = 0 ∨ h.half = 1) (hsz : h.size ≤ 1000000000) :
    Calls Try.prog 94 #[.pointer (some ⟨b, 0, none⟩), d.v lv sv] w (DeedEnd b w0 H L (h.doMake d)) := by
  obtain ⟨rs, rv, Ls, Lr, hs, hv, hcore⟩ := hc
  obtain ⟨ob, oc, nb, nc, hhr, Lo, Ln, ho, hrl, hf, hn, m, hoc, hnc, hol, hnl⟩ := hcore.shape
  obtain ⟨sb, sc, rfl, hsc1, hsc2⟩ := hv.shape
  have hsl := hs.length
  have HD := Lib.hid hd
  obtain ⟨lb, lc, rfl, _, hlc, _, _⟩ := hd.list
  have hlc := size_le_maxLen hlc
  obtain ⟨sb2, sc2, rfl, _, hsc9, _, _⟩ := hd.slots
  have hsc9 := size_le_maxLen hsc9
  have hda := hd.a
  unfold I64 at hda
  clear hd
  have HSL1 := Lib.hid hsl1; clear hsl1
  have HSL2 := Lib.hid hsl2; clear hsl2
  show Calls Try.prog 94 #[.pointer (some ⟨b, 0, none⟩), .agg #[.int .u8 d.kind, .int .i64 d.a, .int .i64 d.b, .int .i64 d.c, .slice lb d.list.length lc, .int .u8 d.obj.kind, .string d.obj.name, .int .i64 d.obj.n, .slice sb2 d.obj.slots.length sc2, .int .u8 d.val.kind, .int .i64 d.val.n, .string d.val.s]] w _
  have m1 := (m.alloc (DBox d (.slice lb d.list.length lc) (.slice sb2 d.obj.slots.length sc2))).alloc (.cells #[.int .u8 0, .int .i64 0, .string ⟨#[]⟩] 50)
  rw [World.size_alloc] at m1
  have m2 := m1.alloc (.cells #[.int .i64 d.a] 3)
  rw [World.size_alloc, World.size_alloc] at m2
  go_enter Try.func94, Try.ntmps94
  go_wp2_with fail
  refine (are1 b _ d.a HD.out.a (m2.perm (perm_cp3 _ _ _ _ _)) hr).mono ?_
  rintro e w1 ⟨rfl, m3⟩
  clear m1 m2
  have hare : h.are [d.a] = inAll 0 ((h.regs.length : Int) - 1) [d.a] := rfl
  have m3p := m3.perm (perm_mk1 _ _ _ _)
  have mu := m3p
  unfold DBox HBox at mu
  have es := mu.eqs
  simp only [EqsL] at es
  cases hb : inAll 0 ((h.regs.length : Int) - 1) [d.a]
  · have hdo : h.doMake d = (3, unitV, h) := by unfold HeapM.doMake; rw [if_pos (by rw [hare, hb])]
    have HDO := Lib.hid hdo; clear hdo hare hb mu
    go_wp2_with fail
    refine (unit_any m3p).mono ?_
    rintro e w9 ⟨rfl, m9⟩
    clear es
    have mu9 := m9
    unfold DBox HBox at mu9
    have es := mu9.eqs
    simp only [EqsL] at es
    have ns := mu9.nes
    simp only [NeL, NeFrom] at ns
    unfold ValM.v unitV
    go_wp2_with fail
    refine bodyPost_ret (v := .tuple #[unitV.v, .int .i64 3]) (by simp [results, Try.results94, go_sem, es, ns]; rfl) rfl ?_
    rw [HDO.out]
    refine ⟨rfl, H, Hle.refl _, rs, _, Ls, Lr, hs, hv, _, _, hhr, Lo, Ln, by rw [hrl]; exact ho, hf, hn, ?_⟩
    refine MemB.done (ks := [w.heap.size + 1, w.heap.size]) ?_
    repeat (first | exact ⟨[_, _], rfl, m9⟩ | refine MemB.set (by simp) ?_)

  · have hna : ¬ h.are [d.a] = false := by rw [hare, hb]; simp
    have HNA := Lib.hid hna; clear hna hare
    rw [inAll1] at hb
    have hb1 := of_decide_eq_true hb
    clear hb
    go_wp2_with fail
    refine (are_any b _ d.list m3 HD.out.list hr).mono ?_
    rintro e w2 ⟨rfl, m4⟩
    have hare2 : h.are d.list = inAll 0 ((h.regs.length : Int) - 1) d.list := rfl
    have m4p := m4.perm (perm_mk1 _ _ _ _)
    clear es mu m3 m3p
    have mu := m4p
    unfold DBox HBox at mu
    have es := mu.eqs
    simp only [EqsL] at es
    cases hb : inAll 0 ((h.regs.length : Int) - 1) d.list
    · have hdo : h.doMake d = (3, unitV, h) := by unfold HeapM.doMake; rw [if_neg HNA.out, if_pos (by rw [hare2, hb])]
      have HDO := Lib.hid hdo; clear hdo hare2 hb mu
      go_wp2_with fail
      refine (unit_any m4p).mono ?_
      rintro e w9 ⟨rfl, m9⟩
      clear es
      have mu9 := m9
      unfold DBox HBox at mu9
      have es := mu9.eqs
      simp only [EqsL] at es
      have ns := mu9.nes
      simp only [NeL, NeFrom] at ns
      unfold ValM.v unitV
      go_wp2_with fail
      refine bodyPost_ret (v := .tuple #[unitV.v, .int .i64 3]) (by simp [results, Try.results94, go_sem, es, ns]; rfl) rfl ?_
      rw [HDO.out]
      refine ⟨rfl, H, Hle.refl _, rs, _, Ls, Lr, hs, hv, _, _, hhr, Lo, Ln, by rw [hrl]; exact ho, hf, hn, ?_⟩
      refine MemB.done (ks := [w.heap.size + 1, w.heap.size]) ?_
      repeat (first | exact ⟨[_, _], rfl, m9⟩ | refine MemB.set (by simp) ?_)

    · have hnl : ¬ h.are d.list = false := by rw [hare2, hb]; simp
      have HNL := Lib.hid hnl; clear hnl hare2
      have HB2 := Lib.hid hb; clear hb
      go_wp2_with fail
      refine (isObject_any d.obj HD.out.obj sb2 sc2 m4p (by omega)).mono ?_
      rintro e w3 ⟨rfl, m5⟩
      clear es mu m4 m4p
      have mu := m5
      unfold DBox HBox at mu
      have es := mu.eqs
      simp only [EqsL] at es
      cases hb : (d.obj.plain && decide (d.obj.slots.length ≤ 400))
      · have hdo : h.doMake d = (4, unitV, h) := by unfold HeapM.doMake; rw [if_neg HNA.out, if_neg HNL.out, if_pos (by rw [hb])]
        have HDO := Lib.hid hdo; clear hdo hb mu
        go_wp2_with fail
        refine (unit_any m5).mono ?_
        rintro e w9 ⟨rfl, m9⟩
        clear es
        have mu9 := m9
        unfold DBox HBox at mu9
        have es := mu9.eqs
        simp only [EqsL] at es
        have ns := mu9.nes
        simp only [NeL, NeFrom] at ns
        unfold ValM.v unitV
        go_wp2_with fail
        refine bodyPost_ret (v := .tuple #[unitV.v, .int .i64 4]) (by simp [results, Try.results94, go_sem, es, ns]; rfl) rfl ?_
        rw [HDO.out]
        refine ⟨rfl, H, Hle.refl _, rs, _, Ls, Lr, hs, hv, _, _, hhr, Lo, Ln, by rw [hrl]; exact ho, hf, hn, ?_⟩
        refine MemB.done (ks := [w.heap.size + 1, w.heap.size]) ?_
        repeat (first | exact ⟨[_, _], rfl, m9⟩ | refine MemB.set (by simp) ?_)

      · have hno : ¬ (d.obj.plain && decide (d.obj.slots.length ≤ 400)) = false := by rw [hb]; simp
        have HNO := Lib.hid hno; clear hno hb
        by_cases hs0 : 0 < d.obj.slots.length
        · have hdo : h.doMake d = (4, unitV, h) := by unfold HeapM.doMake; rw [if_neg HNA.out, if_neg HNL.out, if_neg HNO.out, if_pos hs0]
          have HDO := Lib.hid hdo; clear hdo mu
          have hs1 : (0 : Int) < d.obj.slots.length := by omega
          go_wp2_with fail
          refine (unit_any m5).mono ?_
          rintro e w9 ⟨rfl, m9⟩
          clear es
          have mu9 := m9
          unfold DBox HBox at mu9
          have es := mu9.eqs
          simp only [EqsL] at es
          have ns := mu9.nes
          simp only [NeL, NeFrom] at ns
          unfold ValM.v unitV
          go_wp2_with fail
          refine bodyPost_ret (v := .tuple #[unitV.v, .int .i64 4]) (by simp [results, Try.results94, go_sem, es, ns]; rfl) rfl ?_
          rw [HDO.out]
          refine ⟨rfl, H, Hle.refl _, rs, _, Ls, Lr, hs, hv, _, _, hhr, Lo, Ln, by rw [hrl]; exact ho, hf, hn, ?_⟩
          refine MemB.done (ks := [w.heap.size + 1, w.heap.size]) ?_
          repeat (first | exact ⟨[_, _], rfl, m9⟩ | refine MemB.set (by simp) ?_)

        · have hs1 : ¬ (0 : Int) < d.obj.slots.length := by omega
          by_cases hl4 : 400 < d.list.length
          · have hdo : h.doMake d = (5, unitV, h) := by unfold HeapM.doMake; rw [if_neg HNA.out, if_neg HNL.out, if_neg HNO.out, if_neg hs0, if_pos hl4]
            have HDO := Lib.hid hdo; clear hdo mu
            have hl5 : (400 : Int) < d.list.length := by omega
            go_wp2_with fail
            refine (unit_any m5).mono ?_
            rintro e w9 ⟨rfl, m9⟩
            clear es
            have mu9 := m9
            unfold DBox HBox at mu9
            have es := mu9.eqs
            simp only [EqsL] at es
            have ns := mu9.nes
            simp only [NeL, NeFrom] at ns
            unfold ValM.v unitV
            go_wp2_with fail
            refine bodyPost_ret (v := .tuple #[unitV.v, .int .i64 5]) (by simp [results, Try.results94, go_sem, es, ns]; rfl) rfl ?_
            rw [HDO.out]
            refine ⟨rfl, H, Hle.refl _, rs, _, Ls, Lr, hs, hv, _, _, hhr, Lo, Ln, by rw [hrl]; exact ho, hf, hn, ?_⟩
            refine MemB.done (ks := [w.heap.size + 1, w.heap.size]) ?_
            repeat (first | exact ⟨[_, _], rfl, m9⟩ | refine MemB.set (by simp) ?_)

          · have hl5 : ¬ (400 : Int) < d.list.length := by omega
            have HL4 := Lib.hid hl4; clear hl4
            have HS0 := Lib.hid hs0; clear hs0
            have m6 := m5.alloc (.cells #[.int .u8 d.obj.kind, .string d.obj.name, .int .i64 d.obj.n, .slice none 0 0] 48)
            go_wp2_with fail
            generalize hxb : w3.heap.size = xb at *
            generalize w3.alloc (.cells #[.int .u8 d.obj.kind, .string d.obj.name, .int .i64 d.obj.n, .slice none 0 0] 48) = W4 at *
            clear es mu m5
            rw [show decide (0 < d.obj.slots.length) = false from decide_eq_false HS0.out]
            go_loopw [8, 56] (fun _ v56 wr => ∃ (k : Nat) (pb : Option Addr) (pc : Nat) (Lp : List (Nat × Obj)), k ≤ d.list.length ∧ v56 = .int .i64 k ∧ AccL 50 3 (.slice pb k pc) k (valCs ((d.list.take k).map h.reg)) Lp ∧ Mem w0 H ((xb, .cells #[.int .u8 d.obj.kind, .string d.obj.name, .int .i64 d.obj.n, .slice pb k pc] 48) :: (Lp ++ ((w.heap.size + 1, .cells #[.int .u8 0, .int .i64 0, .string ⟨#[]⟩] 50) :: (w.heap.size, DBox d (.slice lb d.list.length lc) (.slice sb2 d.obj.slots.length sc2)) :: (b, HBox TH h.size h.half h.scan h.busy (.slice ob h.old.length oc) (.slice nb rs.length nc) (.slice sb h.regs.length sc)) :: (Lo ++ (Ln ++ (Ls ++ (Lr ++ L))))))) wr) (fun _ i _ => d.list.length - (intOf i).toNat)
            case atStart => exact ⟨0, none, 0, [], Nat.zero_le _, rfl, AccL.nil, m6⟩
            case round =>
              obtain ⟨k, pb, pc, Lp, hk, rfl, hp, mL⟩ := hrel
              clear m6
              by_cases hlt : k < d.list.length
              · obtain ⟨blk, off, rfl, hcell, hpi⟩ := HD.out.list.cellV hlt
                have hcell := hcell.cell mL
                have hin := (of_decide_eq_true (List.all_eq_true.1 HB2.out _ (List.getElem_mem hlt)) : 0 ≤ d.list[k] ∧ d.list[k] ≤ (h.regs.length : Int) - 1)
                obtain ⟨q, hq⟩ := Int.eq_ofNat_of_zero_le hin.1
                have hq1 : q < h.regs.length := by omega
                have hq2 : (q : Int) < h.regs.length := by omega
                have hltI : (k : Int) < d.list.length := by omega
                have hreg : h.reg d.list[k] = h.regs[q] := by unfold HeapM.reg; rw [hq]; simp [List.getD, hq1]
                have hsn : valCs ((d.list.take (k + 1)).map h.reg) = valCs ((d.list.take k).map h.reg) ++ [.int .u8 h.regs[q].kind, .int .i64 h.regs[q].n, .string h.regs[q].s] := by
                  rw [List.take_succ_eq_append_getElem hlt, List.map_append, valCs_append, List.map_singleton, hreg]
                  rfl
                have HSN := Lib.hid hsn; clear hsn hreg
                have hq' := hq
                clear hq hin hpi
                rw [hq'] at hcell
                clear hq'
                have mP := mL.perm (perm_mk3 _ _ _ _ Lp Lo Ln Ls Lr L)
                obtain ⟨g, rfl, c0, c1, c2, hfr, hgl, hfit, _, hscm⟩ := hv.at hq1 mP (fun p hp => by simp [hp])
                have hscm := size_le_maxLen hscm
                clear c0 c1 c2 hfr hgl
                go_wp2_with fail
                refine AnyFrom.start (fun w' => ∃ L', Mem w0 H ((b, HBox TH h.size h.half h.scan h.busy (.slice ob h.old.length oc) (.slice nb rs.length nc) (.slice (some ⟨g, 0, none⟩) h.regs.length sc)) :: (xb, .cells #[.int .u8 d.obj.kind, .string d.obj.name, .int .i64 d.obj.n, .slice pb k pc] 48) :: (Lr ++ L')) w') 13 (by kernel_rfl) ?_
                have mW := mP.drew
                clear hcell mL mP
                generalize wr.drew = W at *
                have HS : ∃ L', Mem w0 H ((b, HBox TH h.size h.half h.scan h.busy (.slice ob h.old.length oc) (.slice nb rs.length nc) (.slice (some ⟨g, 0, none⟩) h.regs.length sc)) :: (xb, .cells #[.int .u8 d.obj.kind, .string d.obj.name, .int .i64 d.obj.n, .slice pb k pc] 48) :: (Lr ++ L')) W := ⟨_, mW⟩
                refine AnyFrom.takeT (i := 0) (v := ?_) rfl (by kernel_rfl) (by kernel_rfl) (by kernel_rfl) (by kernel_rfl) (fun _ _ _ h => h) ⟨by rfl, ?_⟩ HS ?_
                rotate_left
                · first | (rintro w' ⟨L', hm⟩; have es := hm.eqs; simp only [HBox, EqsL] at es; obtain ⟨g', hg', c0, c1, c2, -, hgl', -, -, -⟩ := hv.at hq1 hm (fun p hp => by simp [hp]); cases hg'; go_simp; done) | (rintro w' ⟨L', hm⟩; have es := hm.eqs; simp only [HBox, EqsL] at es; obtain ⟨g', hg', c0, c1, c2, -, hgl', -, -, -⟩ := hv.at hq1 hm (fun p hp => by simp [hp]); cases hg'; go_simp; with_reducible rfl)
                simp only [Act.put, List.setIfInBounds_toArray, List.set_cons_zero, List.set_cons_succ]
                refine AnyFrom.takeT (i := 1) (v := ?_) rfl (by kernel_rfl) (by kernel_rfl) (by kernel_rfl) (by kernel_rfl) (fun _ _ _ h => h) ⟨by rfl, ?_⟩ HS ?_
                rotate_left
                · first | (rintro w' ⟨L', hm⟩; have es := hm.eqs; simp only [HBox, EqsL] at es; obtain ⟨g', hg', c0, c1, c2, -, hgl', -, -, -⟩ := hv.at hq1 hm (fun p hp => by simp [hp]); cases hg'; go_simp; done) | (rintro w' ⟨L', hm⟩; have es := hm.eqs; simp only [HBox, EqsL] at es; obtain ⟨g', hg', c0, c1, c2, -, hgl', -, -, -⟩ := hv.at hq1 hm (fun p hp => by simp [hp]); cases hg'; go_simp; with_reducible rfl)
                simp only [Act.put, List.setIfInBounds_toArray, List.set_cons_zero, List.set_cons_succ]
                refine AnyFrom.takeT (i := 2) (v := ?_) rfl (by kernel_rfl) (by kernel_rfl) (by kernel_rfl) (by kernel_rfl) (fun _ _ _ h => h) ⟨by rfl, ?_⟩ HS ?_
                rotate_left
                · first | (rintro w' ⟨L', hm⟩; have es := hm.eqs; simp only [HBox, EqsL] at es; obtain ⟨g', hg', c0, c1, c2, -, hgl', -, -, -⟩ := hv.at hq1 hm (fun p hp => by simp [hp]); cases hg'; go_simp; done) | (rintro w' ⟨L', hm⟩; have es := hm.eqs; simp only [HBox, EqsL] at es; obtain ⟨g', hg', c0, c1, c2, -, hgl', -, -, -⟩ := hv.at hq1 hm (fun p hp => by simp [hp]); cases hg'; go_simp; with_reducible rfl)
                simp only [Act.put, List.setIfInBounds_toArray, List.set_cons_zero, List.set_cons_succ]
                refine AnyFrom.takeT (i := 3) (v := ?_) rfl (by kernel_rfl) (by kernel_rfl) (by kernel_rfl) (by kernel_rfl) (fun _ _ _ h => h) ⟨by rfl, ?_⟩ HS ?_
                rotate_left
                · first | (rintro w' ⟨L', hm⟩; have es := hm.eqs; simp only [HBox, EqsL] at es; obtain ⟨g', hg', c0, c1, c2, -, hgl', -, -, -⟩ := hv.at hq1 hm (fun p hp => by simp [hp]); cases hg'; go_simp; done) | (rintro w' ⟨L', hm⟩; have es := hm.eqs; simp only [HBox, EqsL] at es; obtain ⟨g', hg', c0, c1, c2, -, hgl', -, -, -⟩ := hv.at hq1 hm (fun p hp => by simp [hp]); cases hg'; go_simp; with_reducible rfl)
                simp only [Act.put, List.setIfInBounds_toArray, List.set_cons_zero, List.set_cons_succ]
                refine AnyFrom.takeT (i := 4) (v := ?_) rfl (by kernel_rfl) (by kernel_rfl) (by kernel_rfl) (by kernel_rfl) (fun _ _ _ h => h) ⟨by rfl, ?_⟩ HS ?_
                rotate_left
                · first | (rintro w' ⟨L', hm⟩; have es := hm.eqs; simp only [HBox, EqsL] at es; obtain ⟨g', hg', c0, c1, c2, -, hgl', -, -, -⟩ := hv.at hq1 hm (fun p hp => by simp [hp]); cases hg'; go_simp; done) | (rintro w' ⟨L', hm⟩; have es := hm.eqs; simp only [HBox, EqsL] at es; obtain ⟨g', hg', c0, c1, c2, -, hgl', -, -, -⟩ := hv.at hq1 hm (fun p hp => by simp [hp]); cases hg'; go_simp; with_reducible rfl)
                simp only [Act.put, List.setIfInBounds_toArray, List.set_cons_zero, List.set_cons_succ]
                refine AnyFrom.takeT (i := 5) (v := ?_) rfl (by kernel_rfl) (by kernel_rfl) (by kernel_rfl) (by kernel_rfl) (fun _ _ _ h => h) ⟨by rfl, ?_⟩ HS ?_
                rotate_left
                · first | (rintro w' ⟨L', hm⟩; have es := hm.eqs; simp only [HBox, EqsL] at es; obtain ⟨g', hg', c0, c1, c2, -, hgl', -, -, -⟩ := hv.at hq1 hm (fun p hp => by simp [hp]); cases hg'; go_simp; done) | (rintro w' ⟨L', hm⟩; have es := hm.eqs; simp only [HBox, EqsL] at es; obtain ⟨g', hg', c0, c1, c2, -, hgl', -, -, -⟩ := hv.at hq1 hm (fun p hp => by simp [hp]); cases hg'; go_simp; with_reducible rfl)
                simp only [Act.put, List.setIfInBounds_toArray, List.set_cons_zero, List.set_cons_succ]
                refine AnyFrom.takeT (i := 6) (v := ?_) rfl (by kernel_rfl) (by kernel_rfl) (by kernel_rfl) (by kernel_rfl) (fun _ _ _ h => h) ⟨by rfl, ?_⟩ HS ?_
                rotate_left
                · first | (rintro w' ⟨L', hm⟩; have es := hm.eqs; simp only [HBox, EqsL] at es; obtain ⟨g', hg', c0, c1, c2, -, hgl', -, -, -⟩ := hv.at hq1 hm (fun p hp => by simp [hp]); cases hg'; go_simp; done) | (rintro w' ⟨L', hm⟩; have es := hm.eqs; simp only [HBox, EqsL] at es; obtain ⟨g', hg', c0, c1, c2, -, hgl', -, -, -⟩ := hv.at hq1 hm (fun p hp => by simp [hp]); cases hg'; go_simp; with_reducible rfl)
                simp only [Act.put, List.setIfInBounds_toArray, List.set_cons_zero, List.set_cons_succ]
                refine AnyFrom.takeT (i := 7) (v := ?_) rfl (by kernel_rfl) (by kernel_rfl) (by kernel_rfl) (by kernel_rfl) (fun _ _ _ h => h) ⟨by rfl, ?_⟩ HS ?_
                rotate_left
                · first | (rintro w' ⟨L', hm⟩; have es := hm.eqs; simp only [HBox, EqsL] at es; obtain ⟨g', hg', c0, c1, c2, -, hgl', -, -, -⟩ := hv.at hq1 hm (fun p hp => by simp [hp]); cases hg'; go_simp; done) | (rintro w' ⟨L', hm⟩; have es := hm.eqs; simp only [HBox, EqsL] at es; obtain ⟨g', hg', c0, c1, c2, -, hgl', -, -, -⟩ := hv.at hq1 hm (fun p hp => by simp [hp]); cases hg'; go_simp; with_reducible rfl)
                simp only [Act.put, List.setIfInBounds_toArray, List.set_cons_zero, List.set_cons_succ]
                refine AnyFrom.takeT (i := 8) (v := ?_) rfl (by kernel_rfl) (by kernel_rfl) (by kernel_rfl) (by kernel_rfl) (fun _ _ _ h => h) ⟨by rfl, ?_⟩ HS ?_
                rotate_left
                · first | (rintro w' ⟨L', hm⟩; have es := hm.eqs; simp only [HBox, EqsL] at es; obtain ⟨g', hg', c0, c1, c2, -, hgl', -, -, -⟩ := hv.at hq1 hm (fun p hp => by simp [hp]); cases hg'; go_simp; done) | (rintro w' ⟨L', hm⟩; have es := hm.eqs; simp only [HBox, EqsL] at es; obtain ⟨g', hg', c0, c1, c2, -, hgl', -, -, -⟩ := hv.at hq1 hm (fun p hp => by simp [hp]); cases hg'; go_simp; with_reducible rfl)
                simp only [Act.put, List.setIfInBounds_toArray, List.set_cons_zero, List.set_cons_succ]
                refine AnyFrom.takeT (i := 9) (v := ?_) rfl (by kernel_rfl) (by kernel_rfl) (by kernel_rfl) (by kernel_rfl) (fun _ _ _ h => h) ⟨by rfl, ?_⟩ HS ?_
                rotate_left
                · first | (rintro w' ⟨L', hm⟩; have es := hm.eqs; simp only [HBox, EqsL] at es; obtain ⟨g', hg', c0, c1, c2, -, hgl', -, -, -⟩ := hv.at hq1 hm (fun p hp => by simp [hp]); cases hg'; go_simp; done) | (rintro w' ⟨L', hm⟩; have es := hm.eqs; simp only [HBox, EqsL] at es; obtain ⟨g', hg', c0, c1, c2, -, hgl', -, -, -⟩ := hv.at hq1 hm (fun p hp => by simp [hp]); cases hg'; go_simp; with_reducible rfl)
                simp only [Act.put, List.setIfInBounds_toArray, List.set_cons_zero, List.set_cons_succ]
                refine AnyFrom.one (i := 10) (by kernel_rfl) (AnyFrom.op rfl (by rfl) fun K hK => ?_)
                go_simp
                have mA := mW.alloc (.cells #[.int .u8 h.regs[q].kind, .int .i64 h.regs[q].n, .string h.regs[q].s] 50)
                refine hK _ _ (.inr ⟨_, mA.perm (perm_mk4 _ _ _ Lr _)⟩) ?_
                clear hK K
                try simp only [Act.put, List.setIfInBounds_toArray, List.set_cons_zero, List.set_cons_succ]
                have mB := mA.perm (perm_mk5 _ _ _ Lr Lp _)
                refine AnyFrom.one (i := 11) (by kernel_rfl) (AnyFrom.opIf rfl fun K hK => ?_)
                refine step_append_mem (w0 := w0) (H := H) (L := _ :: _) rfl _ _ 29 rfl 50 3 32 (.agg #[.int .u8 0, .int .i64 0, .string ByteArray.empty]) Try.underlying29 (by kernel_rfl) rfl (by decide) (.slice pb k pc) k (valCs ((d.list.take k).map h.reg)) (hp.join mB) rfl (.slice (some ⟨W.heap.size, 0, none⟩) 1 1) 1 [.int .u8 h.regs[q].kind, .int .i64 h.regs[q].n, .string h.regs[q].s] (Src.loc (e := 50) (hp.join mB).mem (.head _)) rfl rfl (by simp [Value.oneCell']) (by omega) (by unfold maxLen; omega) ?_
                intro v' w6 hacc
                obtain ⟨b6, c6, rfl, _, _⟩ := hacc.shape
                obtain ⟨Lp3, hp3, m7⟩ := hacc.drop.split
                have m8 := m7.perm (perm_mk6 _ _ Lp3 Lr _)
                clear hacc m7 mB mA
                refine hK _ _ (.inr ⟨_, m8⟩) ?_
                clear hK K
                try simp only [Act.put, List.setIfInBounds_toArray, List.set_cons_zero, List.set_cons_succ]
                have es := m8.eqs
                simp only [HBox, EqsL] at es
                refine AnyFrom.one (i := 12) (by kernel_rfl) (AnyFrom.op rfl (by rfl) fun K hK => ?_)
                go_simp
                refine hK _ _ (.inr ⟨_, m8⟩) ?_
                clear hK K
                try simp only [Act.put, List.setIfInBounds_toArray, List.set_cons_zero, List.set_cons_succ]
                refine AnyFrom.one (i := 13) (by kernel_rfl) (AnyFrom.op rfl (by rfl) fun K hK => ?_)
                go_simp
                refine hK _ _ (.inl ⟨13, by decide, by rfl⟩) ?_
                clear hK K
                try simp only [Act.put, List.setIfInBounds_toArray, List.set_cons_zero, List.set_cons_succ]
                refine AnyFrom.done (by kernel_rfl) ?_ _
                have m9 := m8.set (i := 3) (v := .slice b6 (k + 1) c6) (.tail .head)
                simp only [List.setIfInBounds_toArray, List.set_cons_zero, List.set_cons_succ] at m9
                go_wp2_with fail
                go_roundw
                case rel =>
                  refine ⟨k + 1, b6, c6, Lp3, by omega, by go_num, ?_, m9.perm (perm_mk7 _ _ _ _ Lp3 Lo Ln Ls Lr L)⟩
                  rw [HSN.out]; exact hp3
                case measure => simp [intOf]; omega
              · have hk' : k = d.list.length := by omega
                subst hk'
                rw [List.take_length] at hp
                have hge : ¬ ((d.list.length : Int) < d.list.length) := by omega
                go_wp2_with fail
                have hown : HeapOwn TH b h w0 H ((xb, .cells #[.int .u8 d.obj.kind, .string d.obj.name, .int .i64 d.obj.n, .slice pb d.list.length pc] 48) :: (Lp ++ ((w.heap.size + 1, .cells #[.int .u8 0, .int .i64 0, .string ⟨#[]⟩] 50) :: (w.heap.size, DBox d (.slice lb d.list.length lc) (.slice sb2 d.obj.slots.length sc2)) :: L))) wr := ⟨rs, _, Ls, Lr, hs, hv, _, _, hhr, Lo, Ln, by rw [hrl]; exact ho, hf, hn, mL.perm (perm_mk8 _ _ _ _ Lp Lo Ln Ls Lr L)⟩
                have hub := wordsM_bound (h.new.map fun o => o.slots.length) (fun n hn => by
                  obtain ⟨o, ho', rfl⟩ := List.mem_map.1 hn
                  have := HSL1.out o ho'
                  omega)
                rw [List.length_map] at hub
                have hdb := dueL_bound h.old HSL2.out
                have hus : 0 ≤ h.used ∧ h.used ≤ 900000000000100000 := by unfold HeapM.used; omega
                have hdu : 0 ≤ h.due ∧ h.due ≤ 10000100000 := by unfold HeapM.due; omega
                have hl400 : d.list.length ≤ 400 := by have := HL4.out; omega
                clear hub hdb ho hf hn hs hv hcore m hrl
                refine AnyFrom.start (fun w' => ∃ L', HeapOwn TH b h w0 H ((xb, .cells #[.int .u8 d.obj.kind, .string d.obj.name, .int .i64 d.obj.n, .slice pb d.list.length pc] 48) :: L') w') 14 (by kernel_rfl) ?_
                have hW := hown.drewN 1
                rw [show wr.drewN 1 = wr.drew from rfl] at hW
                clear hown mL
                generalize wr.drew = W at *
                have HS : ∃ L', HeapOwn TH b h w0 H ((xb, .cells #[.int .u8 d.obj.kind, .string d.obj.name, .int .i64 d.obj.n, .slice pb d.list.length pc] 48) :: L') W := ⟨_, hW⟩
                refine AnyFrom.takeT (i := 0) (v := ?_) rfl (by kernel_rfl) (by kernel_rfl) (by kernel_rfl) (by kernel_rfl) (fun _ _ _ h => h) ⟨by rfl, ?_⟩ HS ?_
                rotate_left
                · first | (rintro w' ⟨L', hm⟩; obtain ⟨vo, vn, vr, L2, hm⟩ := hm.box; have es := hm.eqs; simp only [HBox, EqsL] at es; go_simp; done) | (rintro w' ⟨L', hm⟩; obtain ⟨vo, vn, vr, L2, hm⟩ := hm.box; have es := hm.eqs; simp only [HBox, EqsL] at es; go_simp; with_reducible rfl)
                simp only [Act.put, List.setIfInBounds_toArray, List.set_cons_zero, List.set_cons_succ]
                refine AnyFrom.takeT (i := 3) (v := ?_) rfl (by kernel_rfl) (by kernel_rfl) (by kernel_rfl) (by kernel_rfl) (fun _ _ _ h => h) ⟨by rfl, ?_⟩ HS ?_
                rotate_left
                · first | (rintro w' ⟨L', hm⟩; obtain ⟨vo, vn, vr, L2, hm⟩ := hm.box; have es := hm.eqs; simp only [HBox, EqsL] at es; go_simp; done) | (rintro w' ⟨L', hm⟩; obtain ⟨vo, vn, vr, L2, hm⟩ := hm.box; have es := hm.eqs; simp only [HBox, EqsL] at es; go_simp; with_reducible rfl)
                simp only [Act.put, List.setIfInBounds_toArray, List.set_cons_zero, List.set_cons_succ]
                refine AnyFrom.takeT (i := 6) (v := ?_) rfl (by kernel_rfl) (by kernel_rfl) (by kernel_rfl) (by kernel_rfl) (fun _ _ _ h => h) ⟨by rfl, ?_⟩ HS ?_
                rotate_left
                · first | (rintro w' ⟨L', hm⟩; obtain ⟨vo, vn, vr, L2, hm⟩ := hm.box; have es := hm.eqs; simp only [HBox, EqsL] at es; go_simp; done) | (rintro w' ⟨L', hm⟩; obtain ⟨vo, vn, vr, L2, hm⟩ := hm.box; have es := hm.eqs; simp only [HBox, EqsL] at es; go_simp; with_reducible rfl)
                simp only [Act.put, List.setIfInBounds_toArray, List.set_cons_zero, List.set_cons_succ]
                refine AnyFrom.takeT (i := 9) (v := ?_) rfl (by kernel_rfl) (by kernel_rfl) (by kernel_rfl) (by kernel_rfl) (fun _ _ _ h => h) ⟨by rfl, ?_⟩ HS ?_
                rotate_left
                · first | (rintro w' ⟨L', hm⟩; obtain ⟨vo, vn, vr, L2, hm⟩ := hm.box; have es := hm.eqs; simp only [HBox, EqsL] at es; go_simp; done) | (rintro w' ⟨L', hm⟩; obtain ⟨vo, vn, vr, L2, hm⟩ := hm.box; have es := hm.eqs; simp only [HBox, EqsL] at es; go_simp; with_reducible rfl)
                simp only [Act.put, List.setIfInBounds_toArray, List.set_cons_zero, List.set_cons_succ]
                refine AnyFrom.takeT (i := 10) (v := ?_) rfl (by kernel_rfl) (by kernel_rfl) (by kernel_rfl) (by kernel_rfl) (fun _ _ _ h => h) ⟨by rfl, ?_⟩ HS ?_
                rotate_left
                · first | (rintro w' ⟨L', hm⟩; obtain ⟨vo, vn, vr, L2, hm⟩ := hm.box; have es := hm.eqs; simp only [HBox, EqsL] at es; go_simp; done) | (rintro w' ⟨L', hm⟩; obtain ⟨vo, vn, vr, L2, hm⟩ := hm.box; have es := hm.eqs; simp only [HBox, EqsL] at es; go_simp; with_reducible rfl)
                simp only [Act.put, List.setIfInBounds_toArray, List.set_cons_zero, List.set_cons_succ]
                refine AnyFrom.takeT (i := 11) (v := ?_) rfl (by kernel_rfl) (by kernel_rfl) (by kernel_rfl) (by kernel_rfl) (fun _ _ _ h => h) ⟨by rfl, ?_⟩ HS ?_
                rotate_left
                · first | (rintro w' ⟨L', hm⟩; obtain ⟨vo, vn, vr, L2, hm⟩ := hm.box; have es := hm.eqs; simp only [HBox, EqsL] at es; go_simp; done) | (rintro w' ⟨L', hm⟩; obtain ⟨vo, vn, vr, L2, hm⟩ := hm.box; have es := hm.eqs; simp only [HBox, EqsL] at es; go_simp; with_reducible rfl)
                simp only [Act.put, List.setIfInBounds_toArray, List.set_cons_zero, List.set_cons_succ]
                refine AnyFrom.takeT (i := 12) (v := ?_) rfl (by kernel_rfl) (by kernel_rfl) (by kernel_rfl) (by kernel_rfl) (fun _ _ _ h => h) ⟨by rfl, ?_⟩ HS ?_
                rotate_left
                · first | (rintro w' ⟨L', hm⟩; obtain ⟨vo, vn, vr, L2, hm⟩ := hm.box; have es := hm.eqs; simp only [HBox, EqsL] at es; go_simp; done) | (rintro w' ⟨L', hm⟩; obtain ⟨vo, vn, vr, L2, hm⟩ := hm.box; have es := hm.eqs; simp only [HBox, EqsL] at es; go_simp; with_reducible rfl)
                simp only [Act.put, List.setIfInBounds_toArray, List.set_cons_zero, List.set_cons_succ]
                refine AnyFrom.takeT (i := 13) (v := ?_) rfl (by kernel_rfl) (by kernel_rfl) (by kernel_rfl) (by kernel_rfl) (fun _ _ _ h => h) ⟨by rfl, ?_⟩ HS ?_
                rotate_left
                · first | (rintro w' ⟨L', hm⟩; obtain ⟨vo, vn, vr, L2, hm⟩ := hm.box; have es := hm.eqs; simp only [HBox, EqsL] at es; go_simp; done) | (rintro w' ⟨L', hm⟩; obtain ⟨vo, vn, vr, L2, hm⟩ := hm.box; have es := hm.eqs; simp only [HBox, EqsL] at es; go_simp; with_reducible rfl)
                simp only [Act.put, List.setIfInBounds_toArray, List.set_cons_zero, List.set_cons_succ]
                refine AnyFrom.one (i := 1) (by kernel_rfl) (AnyFrom.op rfl (by rfl) fun K hK => ?_)
                go_simp
                have hA := hW.alloc (.cells #[.int .u8 d.obj.kind, .string d.obj.name, .int .i64 d.obj.n, .slice pb d.list.length pc] 48)
                refine hK _ _ (.inr ⟨_, hA.perm (List.Perm.swap _ _ _)⟩) ?_
                clear hK K
                try simp only [Act.put, List.setIfInBounds_toArray, List.set_cons_zero, List.set_cons_succ]
                obtain ⟨LH, mA, back⟩ := HeapOwn.out (L1 := [_]) hA
                refine AnyFrom.one (i := 2) (by kernel_rfl) (AnyFrom.op rfl (by rfl) fun K hK => ?_)
                go_simp
                refine (words1 _ ⟨d.obj.kind, d.obj.name, d.obj.n, .slice pb d.list.length pc⟩ d.list.length ⟨_, _, rfl⟩ (by omega) mA).mono ?_
                rintro e w5 ⟨rfl, mB⟩
                have hB := back mB
                clear mB mA back hA hW HS
                refine hK _ _ (.inr ⟨_, hB⟩) ?_
                clear hK K
                try simp only [Act.put, List.setIfInBounds_toArray, List.set_cons_zero, List.set_cons_succ]
                refine AnyFrom.one (i := 4) (by kernel_rfl) (AnyFrom.op rfl (by rfl) fun K hK => ?_)
                go_simp
                refine (used_any b h hB hnl2 HSL1.out).mono ?_
                rintro e w6 ⟨rfl, hC⟩
                refine hK _ _ (.inr ⟨_, hC⟩) ?_
                clear hK K hB
                try simp only [Act.put, List.setIfInBounds_toArray, List.set_cons_zero, List.set_cons_succ]
                generalize hus' : h.used = us at *
                have HS : ∃ L', HeapOwn TH b h w0 H ((xb, .cells #[.int .u8 d.obj.kind, .string d.obj.name, .int .i64 d.obj.n, .slice pb d.list.length pc] 48) :: L') w6 := ⟨_, hC⟩
                refine AnyFrom.pure (i := 5) (v := ?_) rfl (by kernel_rfl) (by kernel_rfl) (by kernel_rfl) (by decide) (fun _ _ _ h => h) ⟨by rfl, ?_⟩ HS ?_
                rotate_left
                · first | (intro w'; go_simp; done) | (intro w'; go_simp; with_reducible rfl)
                simp only [Act.put, List.setIfInBounds_toArray, List.set_cons_zero, List.set_cons_succ]
                refine AnyFrom.one (i := 7) (by kernel_rfl) (AnyFrom.op rfl (by rfl) fun K hK => ?_)
                go_simp
                refine (due_any b h hC hol2 HSL2.out).mono ?_
                rintro e w7 ⟨rfl, hD⟩
                refine hK _ _ (.inr ⟨_, hD⟩) ?_
                clear hK K hC
                try simp only [Act.put, List.setIfInBounds_toArray, List.set_cons_zero, List.set_cons_succ]
                generalize hdu' : h.due = du at *
                clear HS
                try rw [wrap_small (1 + (d.list.length : Int) + us) (by omega) (by omega)]
                refine AnyFrom.one (i := 8) (by kernel_rfl) (AnyFrom.op rfl (by rfl) fun K hK => ?_)
                go_simp
                try rw [wrap_small (1 + (d.list.length : Int) + us + du) (by omega) (by omega)]
                refine hK _ _ (.inr ⟨_, hD⟩) ?_
                clear hK K
                try simp only [Act.put, List.setIfInBounds_toArray, List.set_cons_zero, List.set_cons_succ]
                refine AnyFrom.one (i := 14) (by kernel_rfl) (AnyFrom.op rfl (by rfl) fun K hK => ?_)
                go_simp
                refine hK _ _ (.inr ⟨_, hD⟩) ?_
                clear hK K
                try simp only [Act.put, List.setIfInBounds_toArray, List.set_cons_zero, List.set_cons_succ]
                refine AnyFrom.done (by kernel_rfl) ?_ _
                by_cases hfull : h.size < (1 + (d.list.length : Int)) + us + du
                · have hdo : h.doMake d = (8, unitV, h) := by unfold HeapM.doMake; rw [if_neg HNA.out, if_neg HNL.out, if_neg HNO.out, if_neg HS0.out, if_neg HL4.out, hus', hdu', if_pos hfull]
                  have HDO := Lib.hid hdo; clear hdo
                  rw [decide_eq_true hfull]
                  obtain ⟨LH, mA, back⟩ := HeapOwn.out (L1 := []) hD
                  have mB := mA.perm (perm_mk9 _ _ _ LH Lp L)
                  clear mA hD
                  go_wp2_with fail
                  refine (unit_any mB).mono ?_
                  rintro e w9 ⟨rfl, m9⟩
                  have mu9 := m9
                  unfold DBox at mu9
                  have es := mu9.eqs
                  simp only [EqsL] at es
                  have ns := mu9.nes
                  simp only [NeL, NeFrom] at ns
                  unfold ValM.v unitV
                  go_wp2_with fail
                  refine bodyPost_ret (v := .tuple #[unitV.v, .int .i64 8]) (by simp [results, Try.results94, go_sem, es, ns]; rfl) rfl ?_
                  rw [HDO.out]
                  refine ⟨rfl, H, Hle.refl _, back (Mem.dropL Lp (Mem.drop (p := (xb, .cells #[.int .u8 d.obj.kind, .string d.obj.name, .int .i64 d.obj.n, .slice pb d.list.length pc] 48)) (MemB.done (L := (xb, .cells #[.int .u8 d.obj.kind, .string d.obj.name, .int .i64 d.obj.n, .slice pb d.list.length pc] 48) :: (Lp ++ (LH ++ L))) (ks := [w.heap.size + 1, w.heap.size]) ?_)))⟩
                  repeat (first | exact ⟨[_, _], rfl, m9⟩ | refine MemB.set (by simp) ?_)
                · have hdo : h.doMake d = (0, unitV, { h with regs := h.regs.set d.a.toNat (refV h.half h.new.length), new := h.new ++ [h.made d] }) := by unfold HeapM.doMake; rw [if_neg HNA.out, if_neg HNL.out, if_neg HNO.out, if_neg HS0.out, if_neg HL4.out, hus', hdu', if_neg hfull]
                  have HDO := Lib.hid hdo; clear hdo
                  rw [decide_eq_false hfull]
                  obtain ⟨rs, rv, Ls, Lr, hs, hv, hcore⟩ := hD
                  obtain ⟨ob, oc, nb, nc, hhr, Lo, Ln, ho, hrl, hf, hn, m, hoc, hnc, hol, hnl⟩ := hcore.shape
                  obtain ⟨sb, sc, rfl, hsc1, hsc2⟩ := hv.shape
                  have HSLN := Lib.hid hs.length
                  have hrl9 : rs.length ≤ 100000 := by have := HSLN.out; omega
                  obtain ⟨ia, hia⟩ := Int.eq_ofNat_of_zero_le hb1.1
                  have hia1 : ia < h.regs.length := by omega
                  have HIA := Lib.hid hia
                  clear hia
                  have mP := m.perm (perm_mk10 _ _ _ _ Lo Ln Ls Lr Lp L)
                  obtain ⟨g, rfl, _, _, _, _, _, _, _, hscm⟩ := hv.at hia1 mP (fun p hp => by simp [hp])
                  have hscm := size_le_maxLen hscm
                  have hia2 : (ia : Int) < h.regs.length := by omega
                  have hda' : d.a = (ia : Int) := HIA.out
                  go_wp2_with fail
                  refine AnyFrom.start (fun w' => ∃ L', Mem w0 H ((b, HBox TH h.size h.half h.scan h.busy (.slice ob h.old.length oc) (.slice nb rs.length nc) (.slice (some ⟨g, 0, none⟩) h.regs.length sc)) :: (w.heap.size, DBox d (.slice lb d.list.length lc) (.slice sb2 d.obj.slots.length sc2)) :: L') w') 16 (by kernel_rfl) ?_
                  have mW := mP.drew
                  clear mP m hcore
                  generalize w7.drew = W7 at *
                  have HS : ∃ L', Mem w0 H ((b, HBox TH h.size h.half h.scan h.busy (.slice ob h.old.length oc) (.slice nb rs.length nc) (.slice (some ⟨g, 0, none⟩) h.regs.length sc)) :: (w.heap.size, DBox d (.slice lb d.list.length lc) (.slice sb2 d.obj.slots.length sc2)) :: L') W7 := ⟨_, mW⟩
                  refine AnyFrom.takeT (i := 0) (v := ?_) rfl (by kernel_rfl) (by kernel_rfl) (by kernel_rfl) (by kernel_rfl) (fun _ _ _ h => h) ⟨by rfl, ?_⟩ HS ?_
                  rotate_left
                  · first | (rintro w' ⟨L', hm⟩; have es := hm.eqs; simp only [HBox, DBox, EqsL] at es; go_simp; done) | (rintro w' ⟨L', hm⟩; have es := hm.eqs; simp only [HBox, DBox, EqsL] at es; go_simp; with_reducible rfl)
                  simp only [Act.put, List.setIfInBounds_toArray, List.set_cons_zero, List.set_cons_succ]
                  refine AnyFrom.takeT (i := 1) (v := ?_) rfl (by kernel_rfl) (by kernel_rfl) (by kernel_rfl) (by kernel_rfl) (fun _ _ _ h => h) ⟨by rfl, ?_⟩ HS ?_
                  rotate_left
                  · first | (rintro w' ⟨L', hm⟩; have es := hm.eqs; simp only [HBox, DBox, EqsL] at es; go_simp; done) | (rintro w' ⟨L', hm⟩; have es := hm.eqs; simp only [HBox, DBox, EqsL] at es; go_simp; with_reducible rfl)
                  simp only [Act.put, List.setIfInBounds_toArray, List.set_cons_zero, List.set_cons_succ]
                  refine AnyFrom.takeT (i := 2) (v := ?_) rfl (by kernel_rfl) (by kernel_rfl) (by kernel_rfl) (by kernel_rfl) (fun _ _ _ h => h) ⟨by rfl, ?_⟩ HS ?_
                  rotate_left
                  · first | (rintro w' ⟨L', hm⟩; have es := hm.eqs; simp only [HBox, DBox, EqsL] at es; go_simp; done) | (rintro w' ⟨L', hm⟩; have es := hm.eqs; simp only [HBox, DBox, EqsL] at es; go_simp; with_reducible rfl)
                  simp only [Act.put, List.setIfInBounds_toArray, List.set_cons_zero, List.set_cons_succ]
                  refine AnyFrom.takeT (i := 3) (v := ?_) rfl (by kernel_rfl) (by kernel_rfl) (by kernel_rfl) (by kernel_rfl) (fun _ _ _ h => h) ⟨by rfl, ?_⟩ HS ?_
                  rotate_left
                  · first | (rintro w' ⟨L', hm⟩; have es := hm.eqs; simp only [HBox, DBox, EqsL] at es; go_simp; done) | (rintro w' ⟨L', hm⟩; have es := hm.eqs; simp only [HBox, DBox, EqsL] at es; go_simp; with_reducible rfl)
                  simp only [Act.put, List.setIfInBounds_toArray, List.set_cons_zero, List.set_cons_succ]
                  refine AnyFrom.takeT (i := 4) (v := ?_) rfl (by kernel_rfl) (by kernel_rfl) (by kernel_rfl) (by kernel_rfl) (fun _ _ _ h => h) ⟨by rfl, ?_⟩ HS ?_
                  rotate_left
                  · first | (rintro w' ⟨L', hm⟩; have es := hm.eqs; simp only [HBox, DBox, EqsL] at es; go_simp; done) | (rintro w' ⟨L', hm⟩; have es := hm.eqs; simp only [HBox, DBox, EqsL] at es; go_simp; with_reducible rfl)
                  simp only [Act.put, List.setIfInBounds_toArray, List.set_cons_zero, List.set_cons_succ]
                  refine AnyFrom.takeT (i := 5) (v := ?_) rfl (by kernel_rfl) (by kernel_rfl) (by kernel_rfl) (by kernel_rfl) (fun _ _ _ h => h) ⟨by rfl, ?_⟩ HS ?_
                  rotate_left
                  · first | (rintro w' ⟨L', hm⟩; have es := hm.eqs; simp only [HBox, DBox, EqsL] at es; go_simp; done) | (rintro w' ⟨L', hm⟩; have es := hm.eqs; simp only [HBox, DBox, EqsL] at es; go_simp; with_reducible rfl)
                  simp only [Act.put, List.setIfInBounds_toArray, List.set_cons_zero, List.set_cons_succ]
                  refine AnyFrom.takeT (i := 6) (v := ?_) rfl (by kernel_rfl) (by kernel_rfl) (by kernel_rfl) (by kernel_rfl) (fun _ _ _ h => h) ⟨by rfl, ?_⟩ HS ?_
                  rotate_left
                  · first | (rintro w' ⟨L', hm⟩; have es := hm.eqs; simp only [HBox, DBox, EqsL] at es; go_simp; done) | (rintro w' ⟨L', hm⟩; have es := hm.eqs; simp only [HBox, DBox, EqsL] at es; go_simp; with_reducible rfl)
                  simp only [Act.put, List.setIfInBounds_toArray, List.set_cons_zero, List.set_cons_succ]
                  refine AnyFrom.takeT (i := 7) (v := ?_) rfl (by kernel_rfl) (by kernel_rfl) (by kernel_rfl) (by kernel_rfl) (fun _ _ _ h => h) ⟨by rfl, ?_⟩ HS ?_
                  rotate_left
                  · first | (rintro w' ⟨L', hm⟩; have es := hm.eqs; simp only [HBox, DBox, EqsL] at es; go_simp; done) | (rintro w' ⟨L', hm⟩; have es := hm.eqs; simp only [HBox, DBox, EqsL] at es; go_simp; with_reducible rfl)
                  simp only [Act.put, List.setIfInBounds_toArray, List.set_cons_zero, List.set_cons_succ]
                  refine AnyFrom.takeT (i := 8) (v := ?_) rfl (by kernel_rfl) (by kernel_rfl) (by kernel_rfl) (by kernel_rfl) (fun _ _ _ h => h) ⟨by rfl, ?_⟩ HS ?_
                  rotate_left
                  · first | (rintro w' ⟨L', hm⟩; have es := hm.eqs; simp only [HBox, DBox, EqsL] at es; go_simp; done) | (rintro w' ⟨L', hm⟩; have es := hm.eqs; simp only [HBox, DBox, EqsL] at es; go_simp; with_reducible rfl)
                  simp only [Act.put, List.setIfInBounds_toArray, List.set_cons_zero, List.set_cons_succ]
                  refine AnyFrom.takeT (i := 9) (v := ?_) rfl (by kernel_rfl) (by kernel_rfl) (by kernel_rfl) (by kernel_rfl) (fun _ _ _ h => h) ⟨by rfl, ?_⟩ HS ?_
                  rotate_left
                  · first | (rintro w' ⟨L', hm⟩; have es := hm.eqs; simp only [HBox, DBox, EqsL] at es; go_simp; done) | (rintro w' ⟨L', hm⟩; have es := hm.eqs; simp only [HBox, DBox, EqsL] at es; go_simp; with_reducible rfl)
                  simp only [Act.put, List.setIfInBounds_toArray, List.set_cons_zero, List.set_cons_succ]
                  refine AnyFrom.takeT (i := 10) (v := ?_) rfl (by kernel_rfl) (by kernel_rfl) (by kernel_rfl) (by kernel_rfl) (fun _ _ _ h => h) ⟨by rfl, ?_⟩ HS ?_
                  rotate_left
                  · first | (rintro w' ⟨L', hm⟩; have es := hm.eqs; simp only [HBox, DBox, EqsL] at es; go_simp; done) | (rintro w' ⟨L', hm⟩; have es := hm.eqs; simp only [HBox, DBox, EqsL] at es; go_simp; with_reducible rfl)
                  simp only [Act.put, List.setIfInBounds_toArray, List.set_cons_zero, List.set_cons_succ]
                  refine AnyFrom.takeT (i := 11) (v := ?_) rfl (by kernel_rfl) (by kernel_rfl) (by kernel_rfl) (by kernel_rfl) (fun _ _ _ h => h) ⟨by rfl, ?_⟩ HS ?_
                  rotate_left
                  · first | (rintro w' ⟨L', hm⟩; have es := hm.eqs; simp only [HBox, DBox, EqsL] at es; go_simp; done) | (rintro w' ⟨L', hm⟩; have es := hm.eqs; simp only [HBox, DBox, EqsL] at es; go_simp; with_reducible rfl)
                  simp only [Act.put, List.setIfInBounds_toArray, List.set_cons_zero, List.set_cons_succ]
                  refine AnyFrom.takeT (i := 12) (v := ?_) rfl (by kernel_rfl) (by kernel_rfl) (by kernel_rfl) (by kernel_rfl) (fun _ _ _ h => h) ⟨by rfl, ?_⟩ HS ?_
                  rotate_left
                  · first | (rintro w' ⟨L', hm⟩; have es := hm.eqs; simp only [HBox, DBox, EqsL] at es; go_simp; done) | (rintro w' ⟨L', hm⟩; have es := hm.eqs; simp only [HBox, DBox, EqsL] at es; go_simp; with_reducible rfl)
                  simp only [Act.put, List.setIfInBounds_toArray, List.set_cons_zero, List.set_cons_succ]
                  refine AnyFrom.takeT (i := 13) (v := ?_) rfl (by kernel_rfl) (by kernel_rfl) (by kernel_rfl) (by kernel_rfl) (fun _ _ _ h => h) ⟨by rfl, ?_⟩ HS ?_
                  rotate_left
                  · first | (rintro w' ⟨L', hm⟩; have es := hm.eqs; simp only [HBox, DBox, EqsL] at es; go_simp; done) | (rintro w' ⟨L', hm⟩; have es := hm.eqs; simp only [HBox, DBox, EqsL] at es; go_simp; with_reducible rfl)
                  simp only [Act.put, List.setIfInBounds_toArray, List.set_cons_zero, List.set_cons_succ]
                  refine AnyFrom.one (i := 14) (by kernel_rfl) (AnyFrom.op rfl (by rfl) fun K hK => ?_)
                  go_simp
                  refine (refer_any b rs.length (by omega) (by omega) mW).mono ?_
                  rintro e w8 ⟨rfl, mR⟩
                  refine hK _ _ (.inr ⟨_, mR⟩) ?_
                  clear hK K HS mW
                  try simp only [Act.put, List.setIfInBounds_toArray, List.set_cons_zero, List.set_cons_succ]
                  have hvv : (refV h.half rs.length).v = .agg #[.int .u8 5, .int .i64 (refV h.half rs.length).n, .string ByteArray.empty] := rfl
                  have hrf := refV_fit h.half rs.length hhalf (by omega)
                  rw [hvv]
                  have mR2 := mR.perm (perm_mk11 _ _ _ Lr _)
                  obtain ⟨g', hg', d0, d1, d2, hfr, hgl, _, _, _⟩ := hv.at hia1 mR2 (fun p hp => by simp [hp])
                  cases hg'
                  obtain ⟨Lr', hv', mS⟩ := hv.set hia1 (refV h.half rs.length) hrf mR2
                  have hkk : (refV h.half rs.length).kind = 5 := rfl
                  have hss : (refV h.half rs.length).s = ByteArray.empty := rfl
                  rw [hkk, hss] at mS
                  generalize hrn : (refV h.half rs.length).n = rn at *
                  refine AnyFrom.one (i := 15) (by kernel_rfl) (AnyFrom.op rfl (by rfl) fun K hK => ?_)
                  go_simp
                  refine hK _ _ (.inr ⟨_, mR⟩) ?_
                  clear hK K
                  try simp only [Act.put, List.setIfInBounds_toArray, List.set_cons_zero, List.set_cons_succ]
                  refine AnyFrom.one (i := 16) (by kernel_rfl) (AnyFrom.op rfl (by rfl) fun K hK => ?_)
                  go_simp
                  refine hK _ _ (.inl ⟨16, by decide, by rfl⟩) ?_
                  clear hK K
                  try simp only [Act.put, List.setIfInBounds_toArray, List.set_cons_zero, List.set_cons_succ]
                  refine AnyFrom.done (by kernel_rfl) ?_ _
                  clear d0 d1 d2 hfr hgl mR mR2
                  generalize (((w8.setCell ⟨g, ia * 3, none⟩ (.int .u8 5)).setCell ⟨g, ia * 3 + 1, none⟩ (.int .i64 rn)).setCell ⟨g, ia * 3 + 2, none⟩ (.string ByteArray.empty)) = W9 at *
                  have mT := mS.perm (perm_mk13 _ _ _ _ Lr' Lo Ln Ls Lp L)
                  clear mS
                  have hnc2 := size_le_maxLen hnc
                  go_wp2_with fail
                  refine AnyFrom.start (fun w' => ∃ L', Mem w0 H ((b, HBox TH h.size h.half h.scan h.busy (.slice ob h.old.length oc) (.slice nb rs.length nc) (.slice (some ⟨g, 0, none⟩) h.regs.length sc)) :: (xb, .cells #[.int .u8 d.obj.kind, .string d.obj.name, .int .i64 d.obj.n, .slice pb d.list.length pc] 48) :: L') w') 12 (by kernel_rfl) ?_
                  have mU := mT.drew
                  clear mT
                  generalize W9.drew = W10 at *
                  have HS : ∃ L', Mem w0 H ((b, HBox TH h.size h.half h.scan h.busy (.slice ob h.old.length oc) (.slice nb rs.length nc) (.slice (some ⟨g, 0, none⟩) h.regs.length sc)) :: (xb, .cells #[.int .u8 d.obj.kind, .string d.obj.name, .int .i64 d.obj.n, .slice pb d.list.length pc] 48) :: L') W10 := ⟨_, mU⟩
                  refine AnyFrom.takeT (i := 0) (v := ?_) rfl (by kernel_rfl) (by kernel_rfl) (by kernel_rfl) (by kernel_rfl) (fun _ _ _ h => h) ⟨by rfl, ?_⟩ HS ?_
                  rotate_left
                  · first | (rintro w' ⟨L', hm⟩; have es := hm.eqs; simp only [HBox, EqsL] at es; go_simp; done) | (rintro w' ⟨L', hm⟩; have es := hm.eqs; simp only [HBox, EqsL] at es; go_simp; with_reducible rfl)
                  simp only [Act.put, List.setIfInBounds_toArray, List.set_cons_zero, List.set_cons_succ]
                  refine AnyFrom.takeT (i := 1) (v := ?_) rfl (by kernel_rfl) (by kernel_rfl) (by kernel_rfl) (by kernel_rfl) (fun _ _ _ h => h) ⟨by rfl, ?_⟩ HS ?_
                  rotate_left
                  · first | (rintro w' ⟨L', hm⟩; have es := hm.eqs; simp only [HBox, EqsL] at es; go_simp; done) | (rintro w' ⟨L', hm⟩; have es := hm.eqs; simp only [HBox, EqsL] at es; go_simp; with_reducible rfl)
                  simp only [Act.put, List.setIfInBounds_toArray, List.set_cons_zero, List.set_cons_succ]
                  refine AnyFrom.takeT (i := 2) (v := ?_) rfl (by kernel_rfl) (by kernel_rfl) (by kernel_rfl) (by kernel_rfl) (fun _ _ _ h => h) ⟨by rfl, ?_⟩ HS ?_
                  rotate_left
                  · first | (rintro w' ⟨L', hm⟩; have es := hm.eqs; simp only [HBox, EqsL] at es; go_simp; done) | (rintro w' ⟨L', hm⟩; have es := hm.eqs; simp only [HBox, EqsL] at es; go_simp; with_reducible rfl)
                  simp only [Act.put, List.setIfInBounds_toArray, List.set_cons_zero, List.set_cons_succ]
                  refine AnyFrom.takeT (i := 3) (v := ?_) rfl (by kernel_rfl) (by kernel_rfl) (by kernel_rfl) (by kernel_rfl) (fun _ _ _ h => h) ⟨by rfl, ?_⟩ HS ?_
                  rotate_left
                  · first | (rintro w' ⟨L', hm⟩; have es := hm.eqs; simp only [HBox, EqsL] at es; go_simp; done) | (rintro w' ⟨L', hm⟩; have es := hm.eqs; simp only [HBox, EqsL] at es; go_simp; with_reducible rfl)
                  simp only [Act.put, List.setIfInBounds_toArray, List.set_cons_zero, List.set_cons_succ]
                  refine AnyFrom.takeT (i := 4) (v := ?_) rfl (by kernel_rfl) (by kernel_rfl) (by kernel_rfl) (by kernel_rfl) (fun _ _ _ h => h) ⟨by rfl, ?_⟩ HS ?_
                  rotate_left
                  · first | (rintro w' ⟨L', hm⟩; have es := hm.eqs; simp only [HBox, EqsL] at es; go_simp; done) | (rintro w' ⟨L', hm⟩; have es := hm.eqs; simp only [HBox, EqsL] at es; go_simp; with_reducible rfl)
                  simp only [Act.put, List.setIfInBounds_toArray, List.set_cons_zero, List.set_cons_succ]
                  refine AnyFrom.takeT (i := 5) (v := ?_) rfl (by kernel_rfl) (by kernel_rfl) (by kernel_rfl) (by kernel_rfl) (fun _ _ _ h => h) ⟨by rfl, ?_⟩ HS ?_
                  rotate_left
                  · first | (rintro w' ⟨L', hm⟩; have es := hm.eqs; simp only [HBox, EqsL] at es; go_simp; done) | (rintro w' ⟨L', hm⟩; have es := hm.eqs; simp only [HBox, EqsL] at es; go_simp; with_reducible rfl)
                  simp only [Act.put, List.setIfInBounds_toArray, List.set_cons_zero, List.set_cons_succ]
                  refine AnyFrom.takeT (i := 6) (v := ?_) rfl (by kernel_rfl) (by kernel_rfl) (by kernel_rfl) (by kernel_rfl) (fun _ _ _ h => h) ⟨by rfl, ?_⟩ HS ?_
                  rotate_left
                  · first | (rintro w' ⟨L', hm⟩; have es := hm.eqs; simp only [HBox, EqsL] at es; go_simp; done) | (rintro w' ⟨L', hm⟩; have es := hm.eqs; simp only [HBox, EqsL] at es; go_simp; with_reducible rfl)
                  simp only [Act.put, List.setIfInBounds_toArray, List.set_cons_zero, List.set_cons_succ]
                  refine AnyFrom.one (i := 7) (by kernel_rfl) (AnyFrom.op rfl (by rfl) fun K hK => ?_)
                  go_simp
                  have mA := mU.alloc (.cells #[.int .u8 d.obj.kind, .string d.obj.name, .int .i64 d.obj.n, .slice pb d.list.length pc] 48)
                  refine hK _ _ (.inr ⟨_, mA.perm (perm_mk14 _ _ _ _)⟩) ?_
                  clear hK K HS
                  try simp only [Act.put, List.setIfInBounds_toArray, List.set_cons_zero, List.set_cons_succ]
                  have mB := mA.perm (perm_mk5 _ _ _ [] Ln _)
                  refine AnyFrom.one (i := 8) (by kernel_rfl) (AnyFrom.opIf rfl fun K hK => ?_)
                  refine step_append_mem (w0 := w0) (H := H) (L := _ :: _) rfl _ _ 28 rfl 48 4 56 (.agg #[.int .u8 0, .string ByteArray.empty, .int .i64 0, .slice none 0 0]) Try.underlying28 (by kernel_rfl) rfl (by decide) (.slice nb rs.length nc) rs.length (rowCs rs) (hn.join mB) rfl (.slice (some ⟨W10.heap.size, 0, none⟩) 1 1) 1 [.int .u8 d.obj.kind, .string d.obj.name, .int .i64 d.obj.n, .slice pb d.list.length pc] (Src.loc (e := 48) (hn.join mB).mem (.head _)) rfl rfl (by simp [Value.oneCell']) (by omega) (by unfold maxLen; omega) ?_
                  intro v' w11 hacc
                  obtain ⟨b6, c6, rfl, _, _⟩ := hacc.shape
                  obtain ⟨Ln3, hn3, m7⟩ := hacc.drop.split
                  have m8 := m7.perm (perm_mk15 _ _ Ln3 _)
                  clear hacc m7 mB mA mU
                  refine hK _ _ (.inr ⟨_, m8⟩) ?_
                  clear hK K
                  try simp only [Act.put, List.setIfInBounds_toArray, List.set_cons_zero, List.set_cons_succ]
                  refine AnyFrom.one (i := 9) (by kernel_rfl) (AnyFrom.op rfl (by rfl) fun K hK => ?_)
                  go_simp
                  refine hK _ _ (.inr ⟨_, m8⟩) ?_
                  clear hK K
                  try simp only [Act.put, List.setIfInBounds_toArray, List.set_cons_zero, List.set_cons_succ]
                  refine AnyFrom.one (i := 10) (by kernel_rfl) (AnyFrom.op rfl (by rfl) fun K hK => ?_)
                  go_simp
                  refine hK _ _ (.inr ⟨_, m8⟩) ?_
                  clear hK K
                  try simp only [Act.put, List.setIfInBounds_toArray, List.set_cons_zero, List.set_cons_succ]
                  refine AnyFrom.one (i := 11) (by kernel_rfl) (AnyFrom.op rfl (by rfl) fun K hK => ?_)
                  go_simp
                  refine hK _ _ (.inr ⟨_, m8⟩) ?_
                  clear hK K
                  try simp only [Act.put, List.setIfInBounds_toArray, List.set_cons_zero, List.set_cons_succ]
                  have es := m8.eqs
                  simp only [HBox, EqsL, and_true] at es
                  refine AnyFrom.one (i := 12) (by kernel_rfl) (AnyFrom.op rfl (by rfl) fun K hK => ?_)
                  go_simp
                  refine hK _ _ (.inl ⟨12, by decide, by rfl⟩) ?_
                  clear hK K
                  try simp only [Act.put, List.setIfInBounds_toArray, List.set_cons_zero, List.set_cons_succ]
                  refine AnyFrom.done (by kernel_rfl) ?_ _
                  have m9 := m8.set (i := 5) (v := .slice b6 (rs.length + 1) c6) .head
                  simp only [List.setIfInBounds_toArray, List.set_cons_zero, List.set_cons_succ] at m9
                  clear es m8
                  have mX := m9.perm (perm_mk16 _ _ _ _ Ln3 Lo Ls Lp Lr' L)
                  clear m9
                  generalize w11.setCell ⟨b, 5, none⟩ (.slice b6 (rs.length + 1) c6) = W12 at *
                  go_wp2_with fail
                  refine (unit_any mX).mono ?_
                  rintro e w12 ⟨rfl, mY⟩
                  have mu := mY
                  try unfold HBox at mu
                  try unfold DBox at mu
                  have es := mu.eqs
                  simp only [EqsL] at es
                  have ns := mu.nes
                  simp only [NeL, NeFrom] at ns
                  unfold ValM.v unitV
                  go_wp2_with fail
                  refine bodyPost_ret (v := .tuple #[unitV.v, .int .i64 0]) (by simp [results, Try.results94, go_sem, es, ns]; rfl) rfl ?_
                  rw [HDO.out]
                  have hpv : OwnV (.slice pb d.list.length pc) (d.list.map h.reg) Lp := ⟨by simpa using hp, fun v hv1 => by
                    obtain ⟨x, hx, rfl⟩ := List.mem_map.1 hv1
                    have hin := (of_decide_eq_true (List.all_eq_true.1 HB2.out _ hx) : 0 ≤ x ∧ x ≤ (h.regs.length : Int) - 1)
                    have hlt : x.toNat < h.regs.length := by omega
                    have hre : h.reg x = h.regs[x.toNat] := by unfold HeapM.reg; simp [List.getD, hlt]
                    rw [hre]
                    exact hv.fit _ (List.getElem_mem hlt)⟩
                  have hown2 := hs.append (OwnSlots.one (r := ⟨d.obj.kind, d.obj.name, d.obj.n, .slice pb d.list.length pc⟩) (o := h.made d) rfl rfl rfl ⟨HD.out.obj.k, HD.out.obj.n, HD.out.obj.s⟩ hpv)
                  have hrw : rowCs (rs ++ [⟨d.obj.kind, d.obj.name, d.obj.n, .slice pb d.list.length pc⟩]) = rowCs rs ++ [.int .u8 d.obj.kind, .string d.obj.name, .int .i64 d.obj.n, .slice pb d.list.length pc] := by rw [rowCs_append]; rfl
                  refine ⟨rfl, H, Hle.refl _, rs ++ [⟨d.obj.kind, d.obj.name, d.obj.n, .slice pb d.list.length pc⟩], .slice (some ⟨g, 0, none⟩) h.regs.length sc, Ls ++ Lp, Lr', hown2, ?_, _, _, hhr, Lo, Ln3, by rw [hrl]; exact ho, hf, by rw [hrw]; simpa using hn3, ?_⟩
                  · have := hv'
                    rw [HSLN.out] at this
                    rw [HIA.out, Int.toNat_natCast]
                    simpa using this
                  · rw [List.append_assoc]
                    refine MemB.done (ks := [xb, w.heap.size + 1, w.heap.size]) ?_
                    repeat (first | exact ⟨[_, _, _], rfl, mY.perm (perm_mk17 _ _ _ _ Lo Ln3 Ls Lp Lr' L)⟩ | refine MemB.set (by simp) ?_)

end Go.Proofs.Ythipkmmdjhpklaa
