/- The walk: the deed that loads a slot into a register. -/
import Derived.Test.YthipkmmdjhpklaaK04
namespace Go.Proofs.Ythipkmmdjhpklaa
set_option linter.unusedVariables false
set_option linter.unusedSimpArgs false
open Go.RowKit

/-- Slot n of object k, moved, and brought into register a. -/
def HeapM.getTo (h : HeapM) (k n a : Nat) : HeapM :=
  let r := moveN h.half h.old h.new.length ((h.slotsAt k).getD n unitV)
  HeapM.setSlot { h with old := r.2.1, new := h.new ++ r.2.2, regs := h.regs.set a r.1 } k n r.1
def HeapM.doGet (h : HeapM) (d : DeedM) : Int × ValM × HeapM :=
  if h.are [d.a, d.b] = false then (3, unitV, h) else
  if h.slotE (h.reg d.b) d.c ≠ 0 then (h.slotE (h.reg d.b) d.c, unitV, h) else (0, unitV, h.getTo ((h.reg d.b).n / 2).toNat d.c.toNat d.a.toNat)
theorem perm_gt1 {α : Type} (Lx L0 R : List α) : (Lx ++ (L0 ++ R)).Perm (L0 ++ (Lx ++ R)) := (by classical exact List.perm_iff_count.2 (fun a => by simp only [List.count_append, List.count_cons, List.cons_append, List.nil_append, List.append_assoc]; omega))
theorem perm_gt2 {α : Type} (r d b : α) (Lo Ln Lx L0 L1 L2 Lr L : List α) : (b :: (Lo ++ (Ln ++ (Lx ++ (L0 ++ (L1 ++ (L2 ++ (Lr ++ (r :: d :: L))))))))).Perm (r :: d :: b :: (Lo ++ (Ln ++ (Lx ++ (L0 ++ (L1 ++ (L2 ++ (Lr ++ L)))))))) := (by classical exact List.perm_iff_count.2 (fun a => by simp only [List.count_append, List.count_cons, List.cons_append, List.nil_append, List.append_assoc]; omega))
theorem perm_gt3 {α : Type} (r d b : α) (Lo Ln L0 Lx L1 L2 Lr L : List α) : (b :: (Lo ++ (Ln ++ (L0 ++ (Lx ++ (L1 ++ (L2 ++ (Lr ++ (r :: d :: L))))))))).Perm (r :: d :: b :: (Lo ++ (Ln ++ (Lx ++ (L0 ++ (L1 ++ (L2 ++ (Lr ++ L)))))))) := (by classical exact List.perm_iff_count.2 (fun a => by simp only [List.count_append, List.count_cons, List.cons_append, List.nil_append, List.append_assoc]; omega))
theorem perm_gt4 {α : Type} (L0 Lx L1 L2 Lr R : List α) : (L0 ++ (Lx ++ (L1 ++ (L2 ++ (Lr ++ R))))).Perm (Lr ++ (L0 ++ (Lx ++ (L1 ++ (L2 ++ R))))) := (by classical exact List.perm_iff_count.2 (fun a => by simp only [List.count_append, List.count_cons, List.cons_append, List.nil_append, List.append_assoc]; omega))
theorem perm_gt5 {α : Type} (r d b : α) (Lo Ln Lr L0 Lx L1 L2 L : List α) : (b :: (Lo ++ (Ln ++ (Lr ++ (L0 ++ (Lx ++ (L1 ++ (L2 ++ (r :: d :: L))))))))).Perm (r :: d :: b :: (Lo ++ (Ln ++ (L1 ++ (L0 ++ (L2 ++ (Lx ++ (Lr ++ L)))))))) := (by classical exact List.perm_iff_count.2 (fun a => by simp only [List.count_append, List.count_cons, List.cons_append, List.nil_append, List.append_assoc]; omega))
set_option maxRecDepth 10000 in
set_option maxHeartbeats 4000000 in
theorem get_any (b : Nat) (h : HeapM) (d : DeedM) (lv sv : Value) {w0 w : World} {H : Hp} {L : List (Nat × Obj)} (hc : HeapOwn TH b h w0 H L w) (hd : DeedR H d lv sv) (hr : h.regs.length ≤ 100000) (hnl2 : h.new.length ≤ 100000) (hsl2 : ∀ o ∈ h.new, o.slots.length ≤ 100000) (hok : RegOk h) (hcm : CanMove h.half h.old h.new.length) (hcv : ∀ o ∈ h.new, ∀ x ∈ o.slots, CanV h.half h.old.length x) :
    Calls Try.prog 95 #[.pointer (some ⟨b, 0, none⟩), d.v lv sv] w (DeedEnd b w0 H L (h.doGet d)) := by
  obtain ⟨rs, rv, Ls, Lr, hs, hv, hcore⟩ := hc
  obtain ⟨ob, oc, nb, nc, hhr, Lo, Ln, ho, hrl, hf, hn, m, hoc, hnc, hol, hnl⟩ := hcore.shape
  obtain ⟨sb, sc, rfl, hsc1, hsc2⟩ := hv.shape
  have hsl := hs.length
  have HD := Lib.hid hd
  obtain ⟨lb, lc, rfl, _, _, _, _⟩ := hd.list
  obtain ⟨sb2, sc2, rfl, _, _, _, _⟩ := hd.slots
  have hda := hd.a
  have hdb := hd.b
  have hdc := hd.c
  unfold I64 at hda hdb hdc
  clear hd
  show Calls Try.prog 95 #[.pointer (some ⟨b, 0, none⟩), .agg #[.int .u8 d.kind, .int .i64 d.a, .int .i64 d.b, .int .i64 d.c, .slice lb d.list.length lc, .int .u8 d.obj.kind, .string d.obj.name, .int .i64 d.obj.n, .slice sb2 d.obj.slots.length sc2, .int .u8 d.val.kind, .int .i64 d.val.n, .string d.val.s]] w _
  have m1 := (m.alloc (DBox d (.slice lb d.list.length lc) (.slice sb2 d.obj.slots.length sc2))).alloc (.cells #[.int .u8 0, .int .i64 0, .string ⟨#[]⟩] 50)
  rw [World.size_alloc] at m1
  have m2 := m1.alloc (.cells #[.int .i64 d.a, .int .i64 d.b] 3)
  rw [World.size_alloc, World.size_alloc] at m2
  go_enter Try.func95, Try.ntmps95
  go_wp2_with fail
  refine (are2 b _ d.a d.b HD.out.a HD.out.b (m2.perm (perm_cp3 _ _ _ _ _)) hr).mono ?_
  rintro e w1 ⟨rfl, m3⟩
  clear m1 m2
  have hare : h.are [d.a, d.b] = inAll 0 ((h.regs.length : Int) - 1) [d.a, d.b] := rfl
  cases hb : inAll 0 ((h.regs.length : Int) - 1) [d.a, d.b]
  · have hdo : h.doGet d = (3, unitV, h) := by unfold HeapM.doGet; rw [if_pos (by rw [hare, hb])]
    have HDO := Lib.hid hdo; clear hdo hare hb
    go_wp2_with fail
    refine (unit_any m3).mono ?_
    rintro e w2 ⟨rfl, m4⟩
    have m5 := m4.perm (perm_cp2 _ _ _ _)
    have es := m5.eqs; simp only [EqsL, and_true] at es
    have ns := m5.nes; simp only [NeL, NeFrom, and_true, true_and] at ns
    unfold ValM.v unitV
    go_wp2_with fail
    refine bodyPost_ret (v := .tuple #[unitV.v, .int .i64 3]) (by simp [results, Try.results95, go_sem, es, ns]; rfl) rfl ?_
    rw [HDO.out]
    refine ⟨rfl, H, Hle.refl _, rs, _, Ls, Lr, hs, hv, _, _, hhr, Lo, Ln, by rw [hrl]; exact ho, hf, hn, ?_⟩
    refine MemB.done (ks := [w.heap.size + 1, w.heap.size]) ?_
    repeat (first | exact ⟨[_, _], rfl, m5⟩ | refine MemB.set (by simp) ?_)
  · have hna : ¬ h.are [d.a, d.b] = false := by rw [hare, hb]; simp
    have HNA := Lib.hid hna; clear hna hare
    rw [inAll2, Bool.and_eq_true] at hb
    have hb1 := of_decide_eq_true hb.1
    have hb2 := of_decide_eq_true hb.2
    clear hb
    obtain ⟨ia, hia⟩ := Int.eq_ofNat_of_zero_le hb1.1
    obtain ⟨ib, hib⟩ := Int.eq_ofNat_of_zero_le hb2.1
    have hia1 : ia < h.regs.length := by omega
    have hib1 : ib < h.regs.length := by omega
    have hrega : h.reg d.a = h.regs[ia] := by unfold HeapM.reg; rw [hia]; simp [List.getD, hia1]
    have hregb : h.reg d.b = h.regs[ib] := by unfold HeapM.reg; rw [hib]; simp [List.getD, hib1]
    have HREGA := Lib.hid hrega; clear hrega
    have HREGB := Lib.hid hregb; clear hregb
    have HOK := Lib.hid (hok _ (List.getElem_mem hib1)); clear hok
    have HSL := Lib.hid hsl2; clear hsl2
    have HDC := Lib.hid HD.out.c
    have hc1 : CoreOf b h rs (.slice sb h.regs.length sc) w0 H (Lr ++ (Ls ++ (_ :: _ :: L))) w1 := ⟨_, _, hhr, Lo, Ln, by rw [hrl]; exact ho, hf, hn, m3.perm (perm_cp4 _ _ _ Lo Ln Ls Lr L)⟩
    have m3u := m3
    unfold DBox HBox at m3u
    have es := m3u.eqs
    simp only [EqsL] at es
    have HGET := Lib.hid (show h.doGet d = if h.slotE h.regs[ib] d.c ≠ 0 then (h.slotE h.regs[ib] d.c, unitV, h) else (0, unitV, h.getTo (h.regs[ib].n / 2).toNat d.c.toNat d.a.toNat) by unfold HeapM.doGet; rw [if_neg HNA.out, HREGB.out])
    by_cases hk5 : h.regs[ib].kind = 5
    · obtain ⟨hn0, hlt⟩ := HOK.out hk5
      obtain ⟨at', hat'⟩ := Int.eq_ofNat_of_zero_le (show 0 ≤ h.regs[ib].n / 2 by omega)
      have hati : h.regs[ib].n = 2 * (at' : Int) ∨ h.regs[ib].n = 2 * (at' : Int) + 1 := by omega
      rw [hat', Int.toNat_natCast] at hlt
      have hltr : at' < rs.length := by omega
      obtain ⟨hrow, L1, L0, L2, hLs, hov, hback⟩ := hs.at at' hltr hlt
      have hsl3 := HSL.out _ (List.getElem_mem hlt)
      obtain ⟨tb, tc, htv, _, htc⟩ := hov.shape
      have HROW := Lib.hid hrow; clear hrow
      have HBK := Lib.hid hback; clear hback
      rw [htv] at hov
      have htb : 0 < h.new[at'].slots.length → ∃ g, tb = some ⟨g, 0, none⟩ := by
        intro hpos
        obtain ⟨g, hg, _⟩ := hov.at hpos m3 (fun p hp => by rw [hLs]; simp [hp])
        exact ⟨g, hg⟩
      have HAT := Lib.hid hat'; clear hat' hn0
      go_wp2_with fail
      refine (slot_yes b h ib d.c HDC.out hib1 hr hv hc1 hk5 at' hati hltr (by omega) htv hsl3 htb).mono ?_
      rintro e w2 ⟨hc2, (⟨hno, rfl⟩ | ⟨g, q, rfl, hq, hqlt, rfl⟩)⟩
      · have hE : h.slotE h.regs[ib] d.c = 7 := by unfold HeapM.slotE; rw [if_neg (by simp [hk5]), HAT.out, Int.toNat_natCast]; unfold HeapM.slotsAt; rw [List.getElem?_eq_getElem hlt]; rw [if_neg hno]
        have hdo := HGET.out
        rw [hE, if_pos (by decide)] at hdo
        have HDO := Lib.hid hdo; clear hdo hE hno
        obtain ⟨ob3, oc3, nb3, nc3, hhr3, Lo3, Ln3, ho3, hrl3, hf3, hn3, m4, _, _, _, _⟩ := hc2.shape
        have m5 := m4.perm (perm_cp5 _ _ _ Lo3 Ln3 Ls Lr L)
        clear es m3u m4
        have mu := m5
        unfold DBox HBox at mu
        have es := mu.eqs
        simp only [EqsL] at es
        go_wp2_with fail
        refine (unit_any m5).mono ?_
        rintro e w3 ⟨rfl, m6⟩
        clear es mu
        have mu := m6
        unfold DBox HBox at mu
        have es := mu.eqs
        simp only [EqsL] at es
        have ns := mu.nes
        simp only [NeL, NeFrom] at ns
        unfold ValM.v unitV
        go_wp2_with fail
        refine bodyPost_ret (v := .tuple #[unitV.v, .int .i64 7]) (by simp [results, Try.results95, go_sem, es, ns]; rfl) rfl ?_
        rw [HDO.out]
        refine ⟨rfl, H, Hle.refl _, rs, _, Ls, Lr, hs, hv, _, _, hhr3, Lo3, Ln3, by rw [hrl3]; exact ho3, hf3, hn3, ?_⟩
        refine MemB.done (ks := [w.heap.size + 1, w.heap.size]) ?_
        repeat (first | exact ⟨[_, _], rfl, m6⟩ | refine MemB.set (by simp) ?_)
      · have hE : h.slotE h.regs[ib] d.c = 0 := by unfold HeapM.slotE; rw [if_neg (by simp [hk5]), HAT.out, Int.toNat_natCast]; unfold HeapM.slotsAt; rw [List.getElem?_eq_getElem hlt]; rw [if_pos (by simp only; omega)]
        have hdo := HGET.out
        rw [hE, if_neg (by decide), HAT.out, Int.toNat_natCast, hq] at hdo
        have hsq : h.new[at'].slots[q]'hqlt = h.new[at'].slots[q]'hqlt := rfl
        have hmem := List.getElem_mem hqlt
        have hxv := hcv _ (List.getElem_mem hlt) _ hmem
        have HXV := Lib.hid hxv; clear hxv hmem hsq
        have hdo2 : h.doGet d = (0, unitV, { h with old := (moveN h.half h.old h.new.length h.new[at'].slots[q]).2.1, new := (h.new ++ (moveN h.half h.old h.new.length h.new[at'].slots[q]).2.2).set at' { h.new[at'] with slots := h.new[at'].slots.set q (moveN h.half h.old h.new.length h.new[at'].slots[q]).1 }, regs := h.regs.set d.a.toNat (moveN h.half h.old h.new.length h.new[at'].slots[q]).1 }) := by
          rw [hdo]
          unfold HeapM.getTo
          have h1 : (h.slotsAt at').getD (q : Int).toNat unitV = h.new[at'].slots[q] := by unfold HeapM.slotsAt; rw [List.getElem?_eq_getElem hlt]; simp [List.getD, hqlt]
          rw [h1]
          unfold HeapM.setSlot
          simp only
          rw [List.getElem?_append_left hlt, List.getElem?_eq_getElem hlt]
          rfl
        have HDO := Lib.hid hdo2; clear hdo hE hdo2
        obtain ⟨ob3, oc3, nb3, nc3, hhr3, Lo3, Ln3, ho3, hrl3, hf3, hn3, m4, _, _, _, _⟩ := hc2.shape
        have m5 := m4.perm (perm_cp5 _ _ _ Lo3 Ln3 Ls Lr L)
        clear es m3u m4
        have mu := m5
        unfold DBox HBox at mu
        have es := mu.eqs
        simp only [EqsL] at es
        have hcA : Core TH b h.size h.half h.scan h.busy h.old rs (.slice sb h.regs.length sc) w0 H (L0 ++ (L1 ++ (L2 ++ (Lr ++ (_ :: _ :: L))))) w2 := Core.perm hc2 (by rw [hLs]; exact perm_pt1 Lr L1 L0 L2 _)
        have htc := size_le_maxLen htc
        obtain ⟨g3, hg3, d0, d1, d2, hfr2, hgl2, _, _, _⟩ := Core.atV hcA hov hqlt
        cases hg3
        generalize hxq : h.new[at'].slots[q] = xq at *
        generalize hmv : moveN h.half h.old h.new.length xq = mv at *
        have HMV := Lib.hid hmv; clear hmv
        have HXQ := Lib.hid hxq; clear hxq
        have HCM := Lib.hid hcm; clear hcm
        have hrl2 : rs.length = h.new.length := hsl
        go_wp2_with fail
        have hcm2 : CanMove h.half h.old rs.length := by rw [hrl2]; exact HCM.out
        refine (move_any b xq hcA hcm2 HXV.out).mono ?_
        rintro e w4 ⟨rs', Lx, rfl, hsx, hc4⟩
        rw [hrl2, HMV.out] at hsx hc4
        rw [hrl2, HMV.out]
        have hst := HCM.out.step HXV.out
        rw [HMV.out] at hst
        have hfitm := hst.2.1
        have HST := Lib.hid hst; clear hst
        clear es mu d0 d1 d2 hfr2 hgl2 hcA hc2 hc1 m5
        have hc4p := hc4.perm (perm_gt1 Lx L0 _)
        obtain ⟨ob4, oc4, nb4, nc4, hhr4, Lo4, Ln4, ho4, hrl4, hf4, hn4, m6, _, _, _, _⟩ := hc4.shape
        have m7 := m6.perm (perm_gt2 _ _ _ Lo4 Ln4 Lx L0 L1 L2 Lr L)
        have mu := m7
        unfold DBox HBox at mu
        have es := mu.eqs
        simp only [EqsL] at es
        obtain ⟨g3, hg3, d0, d1, d2, hfr2, hgl2, _, _, _⟩ := Core.atV hc4p hov hqlt
        cases hg3
        generalize hyk : mv.1 = y at *
        obtain ⟨L0', hov', hc5⟩ := hc4p.setV hov hqlt y hfitm
        unfold ValM.v
        go_wp2_with fail
        generalize (((w4.setCell ⟨g, q * 3, none⟩ (.int .u8 y.kind)).setCell ⟨g, q * 3 + 1, none⟩ (.int .i64 y.n)).setCell ⟨g, q * 3 + 2, none⟩ (.string y.s)) = W5 at *
        clear es mu d0 d1 d2 hfr2 hgl2 hc4p hc4 m7 m6
        obtain ⟨ob5, oc5, nb5, nc5, hhr5, Lo5, Ln5, ho5, hrl5, hf5, hn5, m8, _, _, _, _⟩ := hc5.shape
        have m9 := m8.perm (perm_gt3 _ _ _ Lo5 Ln5 L0' Lx L1 L2 Lr L)
        have mu := m9
        unfold DBox HBox at mu
        have es := mu.eqs
        simp only [EqsL] at es
        have hov2 : OwnV (.slice (some ⟨g, 0, none⟩) (h.new[at'].slots.set q y).length tc) (h.new[at'].slots.set q y) L0' := by simpa using hov'
        have hql2 : q < (h.new[at'].slots.set q y).length := by simpa using hqlt
        have hcR := hc5.perm (perm_gt4 L0' Lx L1 L2 Lr _)
        obtain ⟨g5, rfl, c0, c1, c2, hfr, hgl, _, _, hscm⟩ := Core.atV hcR hv hia1
        have hscm := size_le_maxLen hscm
        go_wp2_with fail
        refine AnyFrom.start (fun w' => w' = W5.drew) 11 (by kernel_rfl) ?_
        have hcB := Core.drewN hcR 1
        have hcC := hc5.drewN 1
        have hdr : W5.drewN 1 = W5.drew := rfl
        rw [hdr] at hcB hcC
        clear es mu c0 c1 c2 hfr hgl
        have mu := m9.drew
        unfold DBox HBox at mu
        generalize W5.drew = W at *
        have es := mu.eqs
        simp only [EqsL] at es
        obtain ⟨g3, hg3, c0, c1, c2, hfr, hgl, _, _, _⟩ := Core.atV hcB hv hia1
        cases hg3
        obtain ⟨g3, hg3, d0, d1, d2, hfr2, hgl2, _, _, _⟩ := Core.atV hcC hov2 hql2
        cases hg3
        simp only [List.getElem_set_self] at d0 d1 d2
        have HS : W = W := rfl
        clear hcC hcR
        have hia2 : (ia : Int) < h.regs.length := by omega
        refine AnyFrom.takeT (i := 0) (v := ?_) rfl (by kernel_rfl) (by kernel_rfl) (by kernel_rfl) (by kernel_rfl) (fun _ _ _ h => h) ⟨by rfl, ?_⟩ HS ?_
        rotate_left
        · first | (rintro w' rfl; go_simp; done) | (rintro w' rfl; go_simp; with_reducible rfl)
        simp only [Act.put, List.setIfInBounds_toArray, List.set_cons_zero, List.set_cons_succ]
        refine AnyFrom.takeT (i := 1) (v := ?_) rfl (by kernel_rfl) (by kernel_rfl) (by kernel_rfl) (by kernel_rfl) (fun _ _ _ h => h) ⟨by rfl, ?_⟩ HS ?_
        rotate_left
        · first | (rintro w' rfl; go_simp; done) | (rintro w' rfl; go_simp; with_reducible rfl)
        simp only [Act.put, List.setIfInBounds_toArray, List.set_cons_zero, List.set_cons_succ]
        refine AnyFrom.takeT (i := 2) (v := ?_) rfl (by kernel_rfl) (by kernel_rfl) (by kernel_rfl) (by kernel_rfl) (fun _ _ _ h => h) ⟨by rfl, ?_⟩ HS ?_
        rotate_left
        · first | (rintro w' rfl; go_simp; done) | (rintro w' rfl; go_simp; with_reducible rfl)
        simp only [Act.put, List.setIfInBounds_toArray, List.set_cons_zero, List.set_cons_succ]
        refine AnyFrom.takeT (i := 3) (v := ?_) rfl (by kernel_rfl) (by kernel_rfl) (by kernel_rfl) (by kernel_rfl) (fun _ _ _ h => h) ⟨by rfl, ?_⟩ HS ?_
        rotate_left
        · first | (rintro w' rfl; go_simp; done) | (rintro w' rfl; go_simp; with_reducible rfl)
        simp only [Act.put, List.setIfInBounds_toArray, List.set_cons_zero, List.set_cons_succ]
        refine AnyFrom.takeT (i := 4) (v := ?_) rfl (by kernel_rfl) (by kernel_rfl) (by kernel_rfl) (by kernel_rfl) (fun _ _ _ h => h) ⟨by rfl, ?_⟩ HS ?_
        rotate_left
        · first | (rintro w' rfl; go_simp; done) | (rintro w' rfl; go_simp; with_reducible rfl)
        simp only [Act.put, List.setIfInBounds_toArray, List.set_cons_zero, List.set_cons_succ]
        refine AnyFrom.takeT (i := 5) (v := ?_) rfl (by kernel_rfl) (by kernel_rfl) (by kernel_rfl) (by kernel_rfl) (fun _ _ _ h => h) ⟨by rfl, ?_⟩ HS ?_
        rotate_left
        · first | (rintro w' rfl; go_simp; done) | (rintro w' rfl; go_simp; with_reducible rfl)
        simp only [Act.put, List.setIfInBounds_toArray, List.set_cons_zero, List.set_cons_succ]
        refine AnyFrom.takeT (i := 6) (v := ?_) rfl (by kernel_rfl) (by kernel_rfl) (by kernel_rfl) (by kernel_rfl) (fun _ _ _ h => h) ⟨by rfl, ?_⟩ HS ?_
        rotate_left
        · first | (rintro w' rfl; go_simp; done) | (rintro w' rfl; go_simp; with_reducible rfl)
        simp only [Act.put, List.setIfInBounds_toArray, List.set_cons_zero, List.set_cons_succ]
        refine AnyFrom.takeT (i := 7) (v := ?_) rfl (by kernel_rfl) (by kernel_rfl) (by kernel_rfl) (by kernel_rfl) (fun _ _ _ h => h) ⟨by rfl, ?_⟩ HS ?_
        rotate_left
        · first | (rintro w' rfl; go_simp; done) | (rintro w' rfl; go_simp; with_reducible rfl)
        simp only [Act.put, List.setIfInBounds_toArray, List.set_cons_zero, List.set_cons_succ]
        refine AnyFrom.takeT (i := 8) (v := ?_) rfl (by kernel_rfl) (by kernel_rfl) (by kernel_rfl) (by kernel_rfl) (fun _ _ _ h => h) ⟨by rfl, ?_⟩ HS ?_
        rotate_left
        · first | (rintro w' rfl; go_simp; done) | (rintro w' rfl; go_simp; with_reducible rfl)
        simp only [Act.put, List.setIfInBounds_toArray, List.set_cons_zero, List.set_cons_succ]
        refine AnyFrom.takeT (i := 9) (v := ?_) rfl (by kernel_rfl) (by kernel_rfl) (by kernel_rfl) (by kernel_rfl) (fun _ _ _ h => h) ⟨by rfl, ?_⟩ HS ?_
        rotate_left
        · first | (rintro w' rfl; go_simp; done) | (rintro w' rfl; go_simp; with_reducible rfl)
        simp only [Act.put, List.setIfInBounds_toArray, List.set_cons_zero, List.set_cons_succ]
        refine AnyFrom.takeT (i := 10) (v := ?_) rfl (by kernel_rfl) (by kernel_rfl) (by kernel_rfl) (by kernel_rfl) (fun _ _ _ h => h) ⟨by rfl, ?_⟩ HS ?_
        rotate_left
        · first | (rintro w' rfl; go_simp; done) | (rintro w' rfl; go_simp; with_reducible rfl)
        simp only [Act.put, List.setIfInBounds_toArray, List.set_cons_zero, List.set_cons_succ]
        refine AnyFrom.one (i := 11) (by kernel_rfl) (AnyFrom.op rfl (by rfl) fun K hK => ?_)
        go_simp
        refine hK _ _ (.inl ⟨11, by decide, by rfl⟩) ?_
        clear hK K
        try simp only [Act.put, List.setIfInBounds_toArray, List.set_cons_zero, List.set_cons_succ]
        refine AnyFrom.done (by kernel_rfl) ?_ _
        obtain ⟨Lr', hv', hc6⟩ := hcB.setV hv hia1 y hfitm
        clear es mu c0 c1 c2 d0 d1 d2 hfr hgl hfr2 hgl2 hcB m9 m8
        obtain ⟨ob6, oc6, nb6, nc6, hhr6, Lo6, Ln6, ho6, hrl6, hf6, hn6, m10, _, _, _, _⟩ := hc6.shape
        have m11 := m10.perm (perm_gt5 _ _ _ Lo6 Ln6 Lr' L0' Lx L1 L2 L)
        generalize (((W.setCell ⟨g5, ia * 3, none⟩ (.int .u8 y.kind)).setCell ⟨g5, ia * 3 + 1, none⟩ (.int .i64 y.n)).setCell ⟨g5, ia * 3 + 2, none⟩ (.string y.s)) = W6 at *
        go_wp2_with fail
        refine (unit_any m11).mono ?_
        rintro e w6 ⟨rfl, m12⟩
        have m9u := m12
        unfold DBox HBox at m9u
        have es := m9u.eqs
        simp only [EqsL] at es
        have ns := m9u.nes
        simp only [NeL, NeFrom] at ns
        unfold ValM.v unitV
        go_wp2_with fail
        refine bodyPost_ret (v := .tuple #[unitV.v, .int .i64 0]) (by simp [results, Try.results95, go_sem, es, ns]; rfl) rfl ?_
        rw [HDO.out]
        have hown : OwnSlots (rs ++ rs') ((h.new ++ mv.2.2).set at' { h.new[at'] with slots := h.new[at'].slots.set q y }) ((L1 ++ (L0' ++ L2)) ++ Lx) := by
          have h1 := HBK.out (h.new[at'].slots.set q y) L0' (by rw [htv]; exact hov')
          have h2 := h1.append hsx
          rwa [← List.set_append_left _ _ hlt] at h2
        refine ⟨rfl, H, Hle.refl _, rs ++ rs', .slice (some ⟨g5, 0, none⟩) h.regs.length sc, (L1 ++ (L0' ++ L2)) ++ Lx, Lr', by simpa only using hown, by simpa [hia] using hv', _, _, hhr6, Lo6, Ln6, by rw [hrl6]; exact ho6, hf6, hn6, ?_⟩
        simp only [List.append_assoc]
        refine MemB.done (ks := [w.heap.size + 1, w.heap.size]) ?_
        repeat (first | exact ⟨[_, _], rfl, m12⟩ | refine MemB.set (by simp) ?_)
    · have hE : h.slotE h.regs[ib] d.c = 11 := by unfold HeapM.slotE; rw [if_pos hk5]
      have hdo := HGET.out
      rw [hE, if_pos (by decide)] at hdo
      have HDO := Lib.hid hdo; clear hdo hE
      go_wp2_with fail
      refine (slot_no b h ib d.c hib1 hr hv hc1 hk5).mono ?_
      rintro e w2 ⟨rfl, hc2⟩
      obtain ⟨ob3, oc3, nb3, nc3, hhr3, Lo3, Ln3, ho3, hrl3, hf3, hn3, m4, _, _, _, _⟩ := hc2.shape
      have m5 := m4.perm (perm_cp5 _ _ _ Lo3 Ln3 Ls Lr L)
      clear es m3u m4
      have mu := m5
      unfold DBox HBox at mu
      have es := mu.eqs
      simp only [EqsL] at es
      go_wp2_with fail
      refine (unit_any m5).mono ?_
      rintro e w3 ⟨rfl, m6⟩
      clear es mu
      have mu := m6
      unfold DBox HBox at mu
      have es := mu.eqs
      simp only [EqsL] at es
      have ns := mu.nes
      simp only [NeL, NeFrom] at ns
      unfold ValM.v unitV
      go_wp2_with fail
      refine bodyPost_ret (v := .tuple #[unitV.v, .int .i64 11]) (by simp [results, Try.results95, go_sem, es, ns]; rfl) rfl ?_
      rw [HDO.out]
      refine ⟨rfl, H, Hle.refl _, rs, _, Ls, Lr, hs, hv, _, _, hhr3, Lo3, Ln3, by rw [hrl3]; exact ho3, hf3, hn3, ?_⟩
      refine MemB.done (ks := [w.heap.size + 1, w.heap.size]) ?_
      repeat (first | exact ⟨[_, _], rfl, m6⟩ | refine MemB.set (by simp) ?_)
end Go.Proofs.Ythipkmmdjhpklaa
