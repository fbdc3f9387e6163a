/- The walk: the deed that sets a register. The walk: is an object one of a heap, but for its slots? The walk: how many words objects take. The walk: how many words are due. The walks: the slots of an object to which a register refers. The walk: the deed that compares registers. The walk: the deed that compares registers. The walk: the deed that reads a register. The walk: the deed that stores a register in a slot. -/
import Derived.Test.YthipkmmdjhpklaaK03
namespace Go.Proofs.Ythipkmmdjhpklaa
set_option linter.unusedVariables false
set_option linter.unusedSimpArgs false
open Go.RowKit

def HeapM.doSet (h : HeapM) (d : DeedM) : Int × ValM × HeapM :=
  if h.are [d.a] = false then (3, unitV, h)
  else if d.val.kind = 5 ∨ inB h.half h.old.length h.new.length d.val = false then (4, unitV, h)
  else (0, unitV, { h with regs := h.regs.set d.a.toNat d.val })
theorem are1 (b k : Nat) (x : Int) (hx : I64 x) {size half scan : Int} {busy : Bool} {vo vn : Value} {rb : Option Addr} {nr rc : Nat} {w0 w : World} {H : Hp} {L : List (Nat × Obj)} (m : Mem w0 H ((k, .cells #[.int .i64 x] 3) :: (b, HBox TH size half scan busy vo vn (.slice rb nr rc)) :: L) w) (hn : nr ≤ 100000) :
    Calls Try.prog 108 #[.pointer (some ⟨b, 0, none⟩), .slice (some ⟨k, 0, none⟩) 1 1] w (Ret w0 H ((b, HBox TH size half scan busy vo vn (.slice rb nr rc)) :: L) (.bool (inAll 0 ((nr : Int) - 1) [x]))) := by
  obtain ⟨H', m1, hl, hs⟩ := Mem.ints (xs := [x]) m (fun z hz => by simp at hz; rw [hz]; assumption) (by simp [maxLen])
  refine (are_any b _ [x] m1 hs hn).mono ?_
  rintro e w' ⟨rfl, m2⟩
  exact ⟨rfl, m2.weaken hl⟩
theorem inAll1 (lo hi x : Int) : inAll lo hi [x] = decide (lo ≤ x ∧ x ≤ hi) := by simp [inAll]
set_option maxRecDepth 10000 in
set_option maxHeartbeats 4000000 in
theorem set_any (b : Nat) (h : HeapM) (d : DeedM) (lv sv : Value) {w0 w : World} {H : Hp} {L : List (Nat × Obj)} (hc : HeapOwn TH b h w0 H L w) (hd : DeedR H d lv sv) (hr : h.regs.length ≤ 100000) (hol2 : h.old.length ≤ 100000) (hnl2 : h.new.length ≤ 100000) :
    Calls Try.prog 98 #[.pointer (some ⟨b, 0, none⟩), d.v lv sv] w (DeedEnd b w0 H L (h.doSet d)) := by
  obtain ⟨rs, rv, Ls, Lr, hs, hv, hcore⟩ := hc
  obtain ⟨ob, oc, nb, nc, hhr, Lo, Ln, ho, hrl, hf, hn, m, hoc, hnc, hol, hnl⟩ := hcore.shape
  obtain ⟨sb, sc, rfl, hsc1, hsc2⟩ := hv.shape
  have hsl := hs.length
  have HD := Lib.hid hd
  obtain ⟨lb, lc, rfl, _, _, _, _⟩ := hd.list
  obtain ⟨sb2, sc2, rfl, _, _, _, _⟩ := hd.slots
  have hda := hd.a
  unfold I64 at hda
  clear hd
  show Calls Try.prog 98 #[.pointer (some ⟨b, 0, none⟩), .agg #[.int .u8 d.kind, .int .i64 d.a, .int .i64 d.b, .int .i64 d.c, .slice lb d.list.length lc, .int .u8 d.obj.kind, .string d.obj.name, .int .i64 d.obj.n, .slice sb2 d.obj.slots.length sc2, .int .u8 d.val.kind, .int .i64 d.val.n, .string d.val.s]] w _
  have m1 := (m.alloc (DBox d (.slice lb d.list.length lc) (.slice sb2 d.obj.slots.length sc2))).alloc (.cells #[.int .u8 0, .int .i64 0, .string ⟨#[]⟩] 50)
  rw [World.size_alloc] at m1
  have m2 := m1.alloc (.cells #[.int .i64 d.a] 3)
  rw [World.size_alloc, World.size_alloc] at m2
  go_enter Try.func98, Try.ntmps98
  go_wp2_with fail
  refine (are1 b _ d.a HD.out.a (m2.perm (perm_cp3 _ _ _ _ _)) hr).mono ?_
  rintro e w1 ⟨rfl, m3⟩
  clear m1 m2
  have hare : h.are [d.a] = inAll 0 ((h.regs.length : Int) - 1) [d.a] := rfl
  cases hb : inAll 0 ((h.regs.length : Int) - 1) [d.a]
  · have hdo : h.doSet d = (3, unitV, h) := by unfold HeapM.doSet; rw [if_pos (by rw [hare, hb])]
    have HDO := Lib.hid hdo; clear hdo hare hb
    go_wp2_with fail
    refine (unit_any m3).mono ?_
    rintro e w2 ⟨rfl, m4⟩
    have m5 := m4.perm (perm_cp2 _ _ _ _)
    have es := m5.eqs; simp only [EqsL, and_true] at es
    have ns := m5.nes; simp only [NeL, NeFrom, and_true, true_and] at ns
    unfold ValM.v unitV
    go_wp2_with fail
    refine bodyPost_ret (v := .tuple #[unitV.v, .int .i64 3]) (by simp [results, Try.results98, go_sem, es, ns]; rfl) rfl ?_
    rw [HDO.out]
    refine ⟨rfl, H, Hle.refl _, rs, _, Ls, Lr, hs, hv, _, _, hhr, Lo, Ln, by rw [hrl]; exact ho, hf, hn, ?_⟩
    refine MemB.done (ks := [w.heap.size + 1, w.heap.size]) ?_
    repeat (first | exact ⟨[_, _], rfl, m5⟩ | refine MemB.set (by simp) ?_)
  · have hna : ¬ h.are [d.a] = false := by rw [hare, hb]; simp
    have HNA := Lib.hid hna; clear hna hare
    rw [inAll1] at hb
    have hb1 := of_decide_eq_true hb
    clear hb
    have m3u := m3
    unfold DBox HBox at m3u
    have es := m3u.eqs; simp only [EqsL, and_true] at es
    by_cases hk5 : d.val.kind = 5
    · have hdo : h.doSet d = (4, unitV, h) := by unfold HeapM.doSet; rw [if_neg HNA.out, if_pos (.inl hk5)]
      have HDO := Lib.hid hdo; clear hdo
      have hk6 : ((d.val.kind : Int) == 5) = true := by rw [hk5]; rfl
      go_wp2_with fail
      refine (unit_any m3).mono ?_
      rintro e w2 ⟨rfl, m4⟩
      have m5 := m4.perm (perm_cp2 _ _ _ _)
      clear es
      have es := m5.eqs; simp only [EqsL, and_true] at es
      have ns := m5.nes; simp only [NeL, NeFrom, and_true, true_and] at ns
      unfold ValM.v unitV
      go_wp2_with fail
      refine bodyPost_ret (v := .tuple #[unitV.v, .int .i64 4]) (by simp [results, Try.results98, go_sem, es, ns]; rfl) rfl ?_
      rw [HDO.out]
      refine ⟨rfl, H, Hle.refl _, rs, _, Ls, Lr, hs, hv, _, _, hhr, Lo, Ln, by rw [hrl]; exact ho, hf, hn, ?_⟩
      refine MemB.done (ks := [w.heap.size + 1, w.heap.size]) ?_
      repeat (first | exact ⟨[_, _], rfl, m5⟩ | refine MemB.set (by simp) ?_)
    · have hk6 : ((d.val.kind : Int) == 5) = false := beq_eq_false_iff_ne.2 (by omega)
      go_wp2_with fail
      refine (isValue_any b d.val HD.out.val m3 hol2 (by omega)).mono ?_
      rintro e w5 ⟨rfl, m6⟩
      rw [hsl]
      clear m3u es
      have m6u := m6
      unfold DBox HBox at m6u
      have es := m6u.eqs; simp only [EqsL, and_true] at es
      cases hin : inB h.half h.old.length h.new.length d.val
      · have hdo : h.doSet d = (4, unitV, h) := by unfold HeapM.doSet; rw [if_neg HNA.out, if_pos (.inr hin)]
        have HDO := Lib.hid hdo; clear hdo
        go_wp2_with fail
        refine (unit_any m6).mono ?_
        rintro e w2 ⟨rfl, m4⟩
        have m5 := m4.perm (perm_cp2 _ _ _ _)
        clear es
        have es := m5.eqs; simp only [EqsL, and_true] at es
        have ns := m5.nes; simp only [NeL, NeFrom, and_true, true_and] at ns
        unfold ValM.v unitV
        go_wp2_with fail
        refine bodyPost_ret (v := .tuple #[unitV.v, .int .i64 4]) (by simp [results, Try.results98, go_sem, es, ns]; rfl) rfl ?_
        rw [HDO.out]
        refine ⟨rfl, H, Hle.refl _, rs, _, Ls, Lr, hs, hv, _, _, hhr, Lo, Ln, by rw [hrl]; exact ho, hf, hn, ?_⟩
        refine MemB.done (ks := [w.heap.size + 1, w.heap.size]) ?_
        repeat (first | exact ⟨[_, _], rfl, m5⟩ | refine MemB.set (by simp) ?_)
      · have hdo : h.doSet d = (0, unitV, { h with regs := h.regs.set d.a.toNat d.val }) := by unfold HeapM.doSet; rw [if_neg HNA.out, if_neg (by rw [hin]; simp [hk5])]
        have HDO := Lib.hid hdo; clear hdo
        obtain ⟨ia, hia⟩ := Int.eq_ofNat_of_zero_le hb1.1
        have hia1 : ia < h.regs.length := by omega
        have hc1 : Core TH b h.size h.half h.scan h.busy h.old rs (.slice sb h.regs.length sc) w0 H (Lr ++ (Ls ++ (_ :: _ :: L))) w5 := ⟨_, _, hhr, Lo, Ln, by rw [hrl]; exact ho, hf, hn, m6.perm (perm_cp4 _ _ _ Lo Ln Ls Lr L)⟩
        obtain ⟨g, rfl, _, _, _, _, _, _, _, hscm⟩ := hc1.atV hv hia1
        have hscm := size_le_maxLen hscm
        go_wp2_with fail
        refine AnyFrom.start (fun w' => w' = w5.drew) 10 (by kernel_rfl) ?_
        have hc2 := hc1.drewN 1
        have hdr : w5.drewN 1 = w5.drew := rfl
        rw [hdr] at hc2
        clear es m6u
        have m6u := m6.drew
        unfold DBox HBox at m6u
        generalize w5.drew = W at *
        have es := m6u.eqs
        simp only [EqsL] at es
        obtain ⟨g', hg', d0, d1, d2, hfr, hgl, _, _, _⟩ := hc2.atV hv hia1
        cases hg'
        have HS : W = W := rfl
        clear hc1 m6
        refine AnyFrom.takeT (i := 0) (v := ?_) rfl (by kernel_rfl) (by kernel_rfl) (by kernel_rfl) (by kernel_rfl) (fun _ _ _ h => h) ⟨by rfl, ?_⟩ HS ?_
        rotate_left
        · first | (rintro w' rfl; go_simp; done) | (rintro w' rfl; go_simp; with_reducible rfl)
        simp only [Act.put, List.setIfInBounds_toArray, List.set_cons_zero, List.set_cons_succ]
        refine AnyFrom.takeT (i := 1) (v := ?_) rfl (by kernel_rfl) (by kernel_rfl) (by kernel_rfl) (by kernel_rfl) (fun _ _ _ h => h) ⟨by rfl, ?_⟩ HS ?_
        rotate_left
        · first | (rintro w' rfl; go_simp; done) | (rintro w' rfl; go_simp; with_reducible rfl)
        simp only [Act.put, List.setIfInBounds_toArray, List.set_cons_zero, List.set_cons_succ]
        refine AnyFrom.takeT (i := 2) (v := ?_) rfl (by kernel_rfl) (by kernel_rfl) (by kernel_rfl) (by kernel_rfl) (fun _ _ _ h => h) ⟨by rfl, ?_⟩ HS ?_
        rotate_left
        · first | (rintro w' rfl; go_simp; done) | (rintro w' rfl; go_simp; with_reducible rfl)
        simp only [Act.put, List.setIfInBounds_toArray, List.set_cons_zero, List.set_cons_succ]
        refine AnyFrom.takeT (i := 3) (v := ?_) rfl (by kernel_rfl) (by kernel_rfl) (by kernel_rfl) (by kernel_rfl) (fun _ _ _ h => h) ⟨by rfl, ?_⟩ HS ?_
        rotate_left
        · first | (rintro w' rfl; go_simp; done) | (rintro w' rfl; go_simp; with_reducible rfl)
        simp only [Act.put, List.setIfInBounds_toArray, List.set_cons_zero, List.set_cons_succ]
        refine AnyFrom.takeT (i := 4) (v := ?_) rfl (by kernel_rfl) (by kernel_rfl) (by kernel_rfl) (by kernel_rfl) (fun _ _ _ h => h) ⟨by rfl, ?_⟩ HS ?_
        rotate_left
        · first | (rintro w' rfl; go_simp; done) | (rintro w' rfl; go_simp; with_reducible rfl)
        simp only [Act.put, List.setIfInBounds_toArray, List.set_cons_zero, List.set_cons_succ]
        refine AnyFrom.takeT (i := 5) (v := ?_) rfl (by kernel_rfl) (by kernel_rfl) (by kernel_rfl) (by kernel_rfl) (fun _ _ _ h => h) ⟨by rfl, ?_⟩ HS ?_
        rotate_left
        · first | (rintro w' rfl; go_simp; done) | (rintro w' rfl; go_simp; with_reducible rfl)
        simp only [Act.put, List.setIfInBounds_toArray, List.set_cons_zero, List.set_cons_succ]
        refine AnyFrom.takeT (i := 6) (v := ?_) rfl (by kernel_rfl) (by kernel_rfl) (by kernel_rfl) (by kernel_rfl) (fun _ _ _ h => h) ⟨by rfl, ?_⟩ HS ?_
        rotate_left
        · first | (rintro w' rfl; go_simp; done) | (rintro w' rfl; go_simp; with_reducible rfl)
        simp only [Act.put, List.setIfInBounds_toArray, List.set_cons_zero, List.set_cons_succ]
        refine AnyFrom.takeT (i := 7) (v := ?_) rfl (by kernel_rfl) (by kernel_rfl) (by kernel_rfl) (by kernel_rfl) (fun _ _ _ h => h) ⟨by rfl, ?_⟩ HS ?_
        rotate_left
        · first | (rintro w' rfl; go_simp; done) | (rintro w' rfl; go_simp; with_reducible rfl)
        simp only [Act.put, List.setIfInBounds_toArray, List.set_cons_zero, List.set_cons_succ]
        refine AnyFrom.takeT (i := 8) (v := ?_) rfl (by kernel_rfl) (by kernel_rfl) (by kernel_rfl) (by kernel_rfl) (fun _ _ _ h => h) ⟨by rfl, ?_⟩ HS ?_
        rotate_left
        · first | (rintro w' rfl; go_simp; done) | (rintro w' rfl; go_simp; with_reducible rfl)
        simp only [Act.put, List.setIfInBounds_toArray, List.set_cons_zero, List.set_cons_succ]
        refine AnyFrom.takeT (i := 9) (v := ?_) rfl (by kernel_rfl) (by kernel_rfl) (by kernel_rfl) (by kernel_rfl) (fun _ _ _ h => h) ⟨by rfl, ?_⟩ HS ?_
        rotate_left
        · first | (rintro w' rfl; go_simp; done) | (rintro w' rfl; go_simp; with_reducible rfl)
        simp only [Act.put, List.setIfInBounds_toArray, List.set_cons_zero, List.set_cons_succ]
        refine AnyFrom.one (i := 10) (by kernel_rfl) (AnyFrom.op rfl (by rfl) fun K hK => ?_)
        go_simp
        refine hK _ _ (.inl ⟨10, by decide, by rfl⟩) ?_
        clear hK K
        try simp only [Act.put, List.setIfInBounds_toArray, List.set_cons_zero, List.set_cons_succ]
        refine AnyFrom.done (by kernel_rfl) ?_ _
        obtain ⟨Lr', hv', hc3⟩ := hc2.setV hv hia1 d.val HD.out.val
        clear es m6u hc2 d0 d1 d2 hfr hgl
        obtain ⟨ob3, oc3, nb3, nc3, hhr3, Lo3, Ln3, ho3, hrl3, hf3, hn3, m7, _, _, _, _⟩ := hc3.shape
        have m8 := m7.perm (perm_cp5 _ _ _ Lo3 Ln3 Ls Lr' L)
        generalize (((W.setCell ⟨g, ia * 3, none⟩ (.int .u8 d.val.kind)).setCell ⟨g, ia * 3 + 1, none⟩ (.int .i64 d.val.n)).setCell ⟨g, ia * 3 + 2, none⟩ (.string d.val.s)) = W5 at *
        go_wp2_with fail
        refine (unit_any m8).mono ?_
        rintro e w6 ⟨rfl, m9⟩
        have m9u := m9
        unfold DBox HBox at m9u
        have es := m9u.eqs
        simp only [EqsL] at es
        have ns := m9u.nes
        simp only [NeL, NeFrom] at ns
        unfold ValM.v unitV
        go_wp2_with fail
        refine bodyPost_ret (v := .tuple #[unitV.v, .int .i64 0]) (by simp [results, Try.results98, go_sem, es, ns]; rfl) rfl ?_
        rw [HDO.out, hia, Int.toNat_natCast]
        refine ⟨rfl, H, Hle.refl _, rs, .slice (some ⟨g, 0, none⟩) h.regs.length sc, Ls, Lr', hs, by simpa using hv', _, _, hhr3, Lo3, Ln3, by rw [hrl3]; exact ho3, hf3, hn3, ?_⟩
        refine MemB.done (ks := [w.heap.size + 1, w.heap.size]) ?_
        repeat (first | exact ⟨[_, _], rfl, m9⟩ | refine MemB.set (by simp) ?_)
end Go.Proofs.Ythipkmmdjhpklaa
namespace Go.Proofs.Ythipkmmdjhpklaa
set_option linter.unusedVariables false
set_option linter.unusedSimpArgs false
open Go.RowKit

set_option maxRecDepth 10000 in
set_option maxHeartbeats 4000000 in
theorem isObject_any (o : ObjM) (ho : o.fit) (sb : Option Addr) (sc : Nat) {w0 w : World} {H : Hp} {L : List (Nat × Obj)} (m : Mem w0 H L w) (hl : o.slots.length ≤ 9223372036854775807) :
    Calls Try.prog 92 #[.agg #[.int .u8 o.kind, .string o.name, .int .i64 o.n, .slice sb o.slots.length sc]] w (Ret w0 H L (.bool (o.plain && decide (o.slots.length ≤ 400)))) := by
  obtain ⟨hk, hn, hs⟩ := ho
  have HS := Lib.hid hs; clear hs
  have HI := Lib.hid hn
  unfold I64 at hn
  have m1 := m.alloc (.cells #[.int .u8 o.kind, .string o.name, .int .i64 o.n, .slice sb o.slots.length sc] 48)
  have es := m1.eqs; simp only [EqsL, and_true] at es
  by_cases h1 : 1 ≤ o.kind
  · have h1' : (1 : Int) ≤ o.kind := by omega
    by_cases h5 : o.kind ≤ 5
    · have h5' : (o.kind : Int) ≤ 5 := by omega
      by_cases he : o.name = ByteArray.empty
      · go_enter Try.func92, Try.ntmps92
        have hl0 : o.name.toList = [] := (toList_nil _).2 he
        have HE := Lib.hid he; clear he
        go_wp2_with fail
        have m3 := m1.alloc (.cells #[.int .i64 o.n] 3)
        rw [World.size_alloc] at m3
        refine (within1n _ o.n (-1) 1000000000 HI.out m3).mono ?_
        rintro e w3 ⟨rfl, m4⟩
        clear es
        have es := m4.eqs; simp only [EqsL, and_true] at es
        by_cases hr : -1 ≤ o.n ∧ o.n ≤ 1000000000
        · rw [decide_eq_true hr]
          by_cases h4 : o.slots.length ≤ 400
          · have h4' : (o.slots.length : Int) ≤ 400 := by omega
            go_wp2_with fail
            go_ret
            exact ⟨ret_bool (by simp [ObjM.plain, h1, h5, hr, h4, HE.out]), m4.drop⟩
          · have h4' : ¬ (o.slots.length : Int) ≤ 400 := by omega
            go_wp2_with fail
            go_ret
            exact ⟨ret_bool (by first | (simp [ObjM.plain, h4]; done) | (simp [ObjM.plain, h4]; omega)), m4.drop⟩
        · rw [decide_eq_false hr]
          go_wp2_with fail
          go_ret
          exact ⟨ret_bool (by simp [ObjM.plain, hr]), m4.drop⟩
      · go_enter Try.func92, Try.ntmps92
        have hl0 : ¬ o.name.toList = [] := fun h => he ((toList_nil _).1 h)
        go_wp2_with fail
        refine (isName_any o.name HS.out m1).mono ?_
        rintro e w2 ⟨rfl, m2⟩
        clear es
        have es := m2.eqs; simp only [EqsL, and_true] at es
        cases hin : isName o.name
        · go_wp2_with fail
          go_ret
          exact ⟨ret_bool (by simp [ObjM.plain, he, hin]), m2.drop⟩
        · go_wp2_with fail
          have m3 := m2.alloc (.cells #[.int .i64 o.n] 3)
          skip
          refine (within1n _ o.n (-1) 1000000000 HI.out m3).mono ?_
          rintro e w3 ⟨rfl, m4⟩
          clear es
          have es := m4.eqs; simp only [EqsL, and_true] at es
          by_cases hr : -1 ≤ o.n ∧ o.n ≤ 1000000000
          · rw [decide_eq_true hr]
            by_cases h4 : o.slots.length ≤ 400
            · have h4' : (o.slots.length : Int) ≤ 400 := by omega
              go_wp2_with fail
              go_ret
              exact ⟨ret_bool (by simp [ObjM.plain, h1, h5, hr, h4, hin]), m4.drop⟩
            · have h4' : ¬ (o.slots.length : Int) ≤ 400 := by omega
              go_wp2_with fail
              go_ret
              exact ⟨ret_bool (by first | (simp [ObjM.plain, h4]; done) | (simp [ObjM.plain, h4]; omega)), m4.drop⟩
          · rw [decide_eq_false hr]
            go_wp2_with fail
            go_ret
            exact ⟨ret_bool (by simp [ObjM.plain, hr]), m4.drop⟩
    · have h5' : ¬ (o.kind : Int) ≤ 5 := by omega
      go_enter Try.func92, Try.ntmps92
      go_wp2_with fail
      go_ret
      exact ⟨ret_bool (by simp [ObjM.plain]; omega), m1.drop⟩
  · have h1' : ¬ (1 : Int) ≤ o.kind := by omega
    go_enter Try.func92, Try.ntmps92
    go_wp2_with fail
    go_ret
    exact ⟨ret_bool (by simp [ObjM.plain]; omega), m1.drop⟩
end Go.Proofs.Ythipkmmdjhpklaa
namespace Go.Proofs.Ythipkmmdjhpklaa
set_option linter.unusedVariables false
set_option linter.unusedSimpArgs false
open Go.RowKit

/-- How many words objects take. -/
def wordsM : List Nat → Int
  | [] => 0
  | n :: l => (1 + (n : Int)) + wordsM l
theorem wordsM_snoc (l : List Nat) (n : Nat) : wordsM (l ++ [n]) = wordsM l + (1 + (n : Int)) := by
  induction l with
  | nil => simp [wordsM]
  | cons a l ih => simp only [List.cons_append, wordsM, ih]; omega
theorem wordsM_bound (l : List Nat) (h : ∀ n ∈ l, n ≤ 9000000000000) : 0 ≤ wordsM l ∧ wordsM l ≤ l.length * 9000000000001 := by
  induction l with
  | nil => simp [wordsM]
  | cons a l ih =>
    have h1 := ih fun n hn => h n (.tail _ hn)
    have h2 := h a (.head _)
    simp only [wordsM, List.length_cons]
    omega
set_option maxRecDepth 10000 in
set_option maxHeartbeats 4000000 in
theorem words_any (vb : Option Addr) (vc : Nat) (rs : List RowM) (ns : List Nat) (hns : ns.length = rs.length) (hrow : ∀ i, (h : i < rs.length) → ∃ b c, rs[i].sv = .slice b (ns[i]'(by omega)) c) (hb : ∀ n ∈ ns, n ≤ 9000000000000) {Ln : List (Nat × Obj)} (hn : AccL 48 4 (.slice vb rs.length vc) rs.length (rowCs rs) Ln) (hl : rs.length ≤ 100000)
    {w0 w : World} {H : Hp} {L : List (Nat × Obj)} (m : Mem w0 H (Ln ++ L) w) :
    Calls Try.prog 78 #[.slice vb rs.length vc] w (Ret w0 H (Ln ++ L) (.int .i64 (wordsM ns))) := by
  have HB := Lib.hid hb; clear hb
  go_enter Try.func78, Try.ntmps78
  go_wp2_with fail
  go_loopw [2, 4, 7] (fun v2 _ v7 wr => ∃ k : Nat, k ≤ rs.length ∧ v7 = .int .i64 k ∧ v2 = .int .i64 (wordsM (ns.take k)) ∧ Mem w0 H (Ln ++ L) wr) (fun _ _ i _ => rs.length - (intOf i).toNat)
  case atStart => exact ⟨0, Nat.zero_le _, rfl, rfl, m⟩
  case round =>
    obtain ⟨k, hk, rfl, rfl, m2⟩ := hrel
    by_cases hlt : k < rs.length
    · obtain ⟨g, rfl, hcl, _, hgl, _, hcm⟩ := hn.at (by rw [rowCs_length]; omega) m2 (fun p hp => List.mem_append_left _ hp)
      obtain ⟨e0, e1, e2, e3⟩ := rowCs_get rs k hlt
      obtain ⟨b1, c1, hsv⟩ := hrow k hlt
      have c0 := hcl _ _ e0
      have c1' := hcl _ _ e1
      have c2 := hcl _ _ e2
      have c3 := hcl _ _ e3
      rw [hsv] at c3
      have hbd := wordsM_bound (ns.take k) (fun n hn => HB.out n (List.mem_of_mem_take hn))
      have hbk := HB.out _ (List.getElem_mem (show k < ns.length by omega))
      have hlen : (ns.take k).length = k := by rw [List.length_take]; omega
      rw [hlen] at hbd
      have hsn : wordsM (ns.take (k + 1)) = wordsM (ns.take k) + (1 + (ns[k] : Int)) := by rw [List.take_succ_eq_append_getElem (by omega), wordsM_snoc]
      have HSN := Lib.hid hsn; clear hsn
      generalize ns[k] = nk at *
      generalize wordsM (ns.take k) = wk at *
      clear hcl e0 e1 e2 e3 hsv
      have hkb : (k : Int) * 9000000000001 ≤ 900000000000100000 := by omega
      go_wp2_with fail
      go_roundw
      case rel => exact ⟨k + 1, by omega, by go_num, by rw [HSN.out], (m2.alloc _).drop⟩
      case measure => simp [intOf]; omega
    · have hk' : k = ns.length := by omega
      subst hk'
      go_wp2_with fail
      go_ret
      exact ⟨by first | rfl | (rw [List.take_length]; rfl), m2⟩
theorem perm_us1 {α : Type} (b : α) (Lo Ln R : List α) : (b :: (Lo ++ (Ln ++ R))).Perm (Ln ++ (b :: (Lo ++ R))) := (by classical exact List.perm_iff_count.2 (fun a => by simp only [List.count_append, List.count_cons, List.cons_append, List.nil_append, List.append_assoc]; omega))
def HeapM.used (h : HeapM) : Int := wordsM (h.new.map fun o => o.slots.length)
set_option maxRecDepth 10000 in
set_option maxHeartbeats 1000000 in
theorem used_any (b : Nat) (h : HeapM) {w0 w : World} {H : Hp} {L : List (Nat × Obj)} (hc : HeapOwn TH b h w0 H L w) (hnl : h.new.length ≤ 100000) (hsl : ∀ o ∈ h.new, o.slots.length ≤ 100000) :
    Calls Try.prog 54 #[.pointer (some ⟨b, 0, none⟩)] w fun e w' => e = .returned (.int .i64 h.used) ∧ HeapOwn TH b h w0 H L w' := by
  obtain ⟨rs, rv, Ls, Lr, hs, hv, hcore⟩ := hc
  obtain ⟨ob, oc, nb, nc, hhr, Lo, Ln, ho, hrl, hf, hn, m, hoc, hnc, hol, hnl2⟩ := hcore.shape
  have hlen := hs.length
  have mu := m
  unfold HBox at mu
  have es := mu.eqs; simp only [EqsL, and_true] at es
  go_enter Try.func54, Try.ntmps54
  go_wp2_with fail
  have hwa := words_any nb nc rs (h.new.map fun o => o.slots.length) (by simp [hlen]) (fun i hi => by
    obtain ⟨_, L1, L0, L2, _, hov, _⟩ := hs.at i hi (by omega)
    obtain ⟨b', c', hsv, _, _⟩ := hov.shape
    exact ⟨b', c', by simpa using hsv⟩) (fun n hn => by
    obtain ⟨o, ho', rfl⟩ := List.mem_map.1 hn
    have := hsl o ho'
    omega) hn (by omega) (m.perm (perm_us1 _ Lo Ln _))
  rw [hlen] at hwa
  first | refine hwa.mono ?_ | (rw [hlen]; refine hwa.mono ?_)
  rintro e w1 ⟨rfl, m1⟩
  go_wp2_with fail
  go_ret
  rw [← hlen] at m1
  exact ⟨rfl, rs, rv, Ls, Lr, hs, hv, _, _, hhr, Lo, Ln, by rw [hrl]; exact ho, hf, hn, m1.perm (perm_us1 _ Lo Ln _).symm⟩
end Go.Proofs.Ythipkmmdjhpklaa
namespace Go.Proofs.Ythipkmmdjhpklaa
set_option linter.unusedVariables false
set_option linter.unusedSimpArgs false
open Go.RowKit

def dueL : List (ObjM × Int) → Int
  | [] => 0
  | p :: l => (if p.2 = -1 then 1 + (p.1.slots.length : Int) else 0) + dueL l
def HeapM.due (h : HeapM) : Int := dueL h.old
theorem dueL_snoc (l : List (ObjM × Int)) (p : ObjM × Int) : dueL (l ++ [p]) = dueL l + (if p.2 = -1 then 1 + (p.1.slots.length : Int) else 0) := by
  induction l with
  | nil => simp [dueL]
  | cons a l ih => simp only [List.cons_append, dueL, ih]; omega
theorem dueL_bound (l : List (ObjM × Int)) (h : ∀ p ∈ l, p.1.slots.length ≤ 100000) : 0 ≤ dueL l ∧ dueL l ≤ l.length * 100001 := by
  induction l with
  | nil => simp [dueL]
  | cons a l ih =>
    have h1 := ih fun n hn => h n (.tail _ hn)
    have h2 := h a (.head _)
    simp only [dueL, List.length_cons]
    split <;> omega
/-- One object's words, out of a literal. -/
theorem words1 (k : Nat) (r : RowM) (n : Nat) (hr : ∃ b c, r.sv = .slice b n c) (hn : n ≤ 100000) {w0 w : World} {H : Hp} {L : List (Nat × Obj)} (m : Mem w0 H ((k, .cells #[.int .u8 r.kind, .string r.name, .int .i64 r.n, r.sv] 48) :: L) w) :
    Calls Try.prog 78 #[.slice (some ⟨k, 0, none⟩) 1 1] w (Ret w0 H L (.int .i64 (1 + (n : Int)))) := by
  have ha : AccL 48 4 (.slice (some ⟨k, 0, none⟩) [r].length 1) [r].length (rowCs [r]) [(k, .cells #[.int .u8 r.kind, .string r.name, .int .i64 r.n, r.sv] 48)] :=
    ⟨rfl, .inr ⟨k, 1, _, rfl, Nat.le_refl _, by simp [maxLen], rfl, rfl, rfl⟩⟩
  refine (words_any _ 1 [r] [n] rfl (fun i hi => by have : i = 0 := by simpa using hi
                                                    subst this
                                                    exact hr) (fun x hx => by simp at hx; omega) ha (by simp) m).mono ?_
  rintro e w' ⟨rfl, m2⟩
  exact ⟨by simp [wordsM], m2.drop⟩
theorem perm_du1 {α : Type} (l o : α) (R : List α) : (l :: o :: R).Perm (l :: o :: R) := .refl _
set_option maxRecDepth 10000 in
set_option maxHeartbeats 2000000 in
theorem due_any (b : Nat) (h : HeapM) {w0 w : World} {H : Hp} {L : List (Nat × Obj)} (hc : HeapOwn TH b h w0 H L w) (hol : h.old.length ≤ 100000) (hsl : ∀ p ∈ h.old, p.1.slots.length ≤ 100000) :
    Calls Try.prog 55 #[.pointer (some ⟨b, 0, none⟩)] w fun e w' => e = .returned (.int .i64 h.due) ∧ HeapOwn TH b h w0 H L w' := by
  obtain ⟨rs, rv, Ls, Lr, hs, hv, hcore⟩ := hc
  obtain ⟨ob, oc, nb, nc, hr, Lo, Ln, ho, hrl, hf, hn, m, hoc, hnc, hol3, hnl2⟩ := hcore.shape
  have hoc := size_le_maxLen hoc
  have HSL := Lib.hid hsl; clear hsl
  have mu := m
  unfold HBox at mu
  have es := mu.eqs; simp only [EqsL, and_true] at es
  go_enter Try.func55, Try.ntmps55
  go_wp2_with fail
  clear es mu
  go_loopw [2, 4, 11] (fun v2 _ v11 wr => ∃ k : Nat, k ≤ h.old.length ∧ v11 = .int .i64 k ∧ v2 = .int .i64 (dueL (h.old.take k)) ∧ Mem w0 H ((b, HBox TH h.size h.half h.scan h.busy (.slice ob h.old.length oc) (.slice nb rs.length nc) rv) :: (Lo ++ (Ln ++ (Ls ++ (Lr ++ L))))) wr) (fun _ _ i _ => h.old.length - (intOf i).toNat)
  case atStart => exact ⟨0, Nat.zero_le _, rfl, rfl, m⟩
  case round =>
    obtain ⟨k, hk, rfl, rfl, m2⟩ := hrel
    by_cases hlt : k < h.old.length
    · have hkr : k < hr.length := by omega
      obtain ⟨g, rfl, hcl, _, hgl, _, hcm⟩ := ho.at (by rw [heldCs_length]; omega) m2 (fun p hp => List.mem_cons_of_mem _ (List.mem_append_left _ hp))
      obtain ⟨e0, e1, e2, e3, e4⟩ := heldCs_get hr k hkr
      obtain ⟨r1, r2, r3⟩ := hf.get k hkr hlt
      obtain ⟨sb, sc, hsv, q1, q2, q3, q4⟩ := r1.sl
      clear q1 q2 q3 q4
      have c0 := hcl _ _ e0
      have c1 := hcl _ _ e1
      have c2 := hcl _ _ e2
      have c3 := hcl _ _ e3
      have c4 := hcl _ _ e4
      rw [hsv] at c3
      rw [r2] at c4
      have hbd := dueL_bound (h.old.take k) (fun p hp => HSL.out p (List.mem_of_mem_take hp))
      have hbk := HSL.out _ (List.getElem_mem hlt)
      have hlen : (h.old.take k).length = k := by rw [List.length_take]; omega
      rw [hlen] at hbd
      have hsn : dueL (h.old.take (k + 1)) = dueL (h.old.take k) + (if h.old[k].2 = -1 then 1 + (h.old[k].1.slots.length : Int) else 0) := by rw [List.take_succ_eq_append_getElem hlt, dueL_snoc]
      have HSN := Lib.hid hsn; clear hsn
      have hrs := r1.fit.s
      rw [← r1.name] at hrs
      have HRS := Lib.hid hrs; clear hrs
      have hfitk := r1.fit.k
      clear r1 r2 hcl e0 e1 e2 e3 e4
      have HSV := Lib.hid hsv; clear hsv
      generalize h.old[k].2 = t at *
      generalize h.old[k].1.slots.length = nk at *
      generalize dueL (h.old.take k) = wk at *
      by_cases ht : t = -1
      · subst ht
        have m3 := (m2.alloc (.cells #[.int .u8 hr[k].1.kind, .string hr[k].1.name, .int .i64 hr[k].1.n, .slice sb nk sc, .int .i64 (-1)] 87)).alloc (.cells #[.int .u8 hr[k].1.kind, .string hr[k].1.name, .int .i64 hr[k].1.n, .slice sb nk sc] 48)
        rw [World.size_alloc] at m3
        go_wp2_with fail
        refine (words1 _ ⟨hr[k].1.kind, hr[k].1.name, hr[k].1.n, .slice sb nk sc⟩ nk ⟨sb, sc, rfl⟩ hbk m3).mono ?_
        rintro e w5 ⟨rfl, m4⟩
        go_wp2_with fail
        go_roundw
        case rel => exact ⟨k + 1, by omega, by go_num, by rw [HSN.out]; simp, m4.drop⟩
        case measure => simp [intOf]; omega
      · have ht' : (t == -1) = false := beq_eq_false_iff_ne.2 ht
        have HT := Lib.hid ht; clear ht
        go_wp2_with fail
        go_roundw
        case rel => exact ⟨k + 1, by omega, by go_num, by rw [HSN.out, if_neg HT.out, Int.add_zero], (m2.alloc _).drop⟩
        case measure => simp [intOf]; omega
    · have hk' : k = h.old.length := by omega
      subst hk'
      go_wp2_with fail
      go_ret
      refine ⟨?_, rs, rv, Ls, Lr, hs, hv, _, _, hr, Lo, Ln, by rw [hrl]; exact ho, hf, hn, m2⟩
      first | rfl | (rw [List.take_length]; rfl)
end Go.Proofs.Ythipkmmdjhpklaa
namespace Go.Proofs.Ythipkmmdjhpklaa
set_option linter.unusedVariables false
set_option linter.unusedSimpArgs false
open Go.RowKit

section
variable {w0 w : World} {H : Hp} {L Ls Lr : List (Nat × Obj)} {rs : List RowM} {rv : Value}
/-- A heap that a call owns, its rows in sight. -/
def CoreOf (b : Nat) (h : HeapM) (rs : List RowM) (rv : Value) (w0 : World) (H : Hp) (L : List (Nat × Obj)) (w : World) : Prop := Core TH b h.size h.half h.scan h.busy h.old rs rv w0 H L w
theorem CoreOf.own {b : Nat} {h : HeapM} (hc : CoreOf b h rs rv w0 H (Ls ++ (Lr ++ L)) w) (hs : OwnSlots rs h.new Ls) (hv : OwnV rv h.regs Lr) : HeapOwn TH b h w0 H L w := ⟨rs, rv, Ls, Lr, hs, hv, hc⟩

set_option maxRecDepth 10000 in
set_option maxHeartbeats 1000000 in
theorem slots_no (b : Nat) (h : HeapM) (k : Nat) (hk : k < h.regs.length) (hr : h.regs.length ≤ 100000) (hv : OwnV rv h.regs Lr) (hc : CoreOf b h rs rv w0 H (Lr ++ L) w) (hkind : h.regs[k].kind ≠ 5) :
    Calls Try.prog 114 #[.pointer (some ⟨b, 0, none⟩), .int .i64 k] w fun e w' => e = .returned (.tuple #[.slice none 0 0, .int .i64 11]) ∧ CoreOf b h rs rv w0 H (Lr ++ L) w' := by
  obtain ⟨sb, sc, rfl, hsc1, hsc2⟩ := hv.shape
  have hc0 := hc
  obtain ⟨ob, oc, nb, nc, hhr, Lo, Ln, ho, hrl, hf, hn, m, hoc, hnc, hol, hnl⟩ := hc.shape
  obtain ⟨g, rfl, c0, c1, c2, hfr, hgl, hfit, _, hscm⟩ := Core.atV hc hv hk
  have hscm := size_le_maxLen hscm
  have HF := Lib.hid hfit; clear hfit
  have hfk := HF.out.k
  have hfs := HF.out.s
  have hfs := Lib.hid hfs
  have hk1 : (k : Int) < h.regs.length := by omega
  have hne : ((h.regs[k].kind : Int) != 5) = true := by simpa using (by omega : ¬ (h.regs[k].kind : Int) = 5)
  have mu := m
  unfold HBox at mu
  have es := mu.eqs; simp only [EqsL, and_true] at es
  have m1 := m.alloc (.cells #[.int .u8 h.regs[k].kind, .int .i64 h.regs[k].n, .string h.regs[k].s] 50)
  go_enter Try.func114, Try.ntmps114
  go_wp2_with fail
  refine bodyPost_ret (v := .tuple #[.slice none 0 0, .int .i64 11]) (by simp [results, Try.results114, go_sem]) rfl ?_
  exact ⟨rfl, _, _, hhr, Lo, Ln, by rw [hrl]; exact ho, hf, hn, m1.drop⟩
set_option maxRecDepth 10000 in
set_option maxHeartbeats 1000000 in
theorem slots_yes (b : Nat) (h : HeapM) (k : Nat) (hk : k < h.regs.length) (hr : h.regs.length ≤ 100000) (hv : OwnV rv h.regs Lr) (hc : CoreOf b h rs rv w0 H (Lr ++ L) w) (hkind : h.regs[k].kind = 5) (i : Nat) (hi : h.regs[k].n = 2 * (i : Int) ∨ h.regs[k].n = 2 * (i : Int) + 1) (hir : i < rs.length) (hrs : rs.length ≤ 100000) (hsv : ∃ b n c, rs[i].sv = .slice b n c) :
    Calls Try.prog 114 #[.pointer (some ⟨b, 0, none⟩), .int .i64 k] w fun e w' => e = .returned (.tuple #[rs[i].sv, .int .i64 0]) ∧ CoreOf b h rs rv w0 H (Lr ++ L) w' := by
  obtain ⟨sb, sc, rfl, hsc1, hsc2⟩ := hv.shape
  have hc0 := hc
  obtain ⟨ob, oc, nb, nc, hhr, Lo, Ln, ho, hrl, hf, hn, m, hoc, hnc, hol, hnl⟩ := hc.shape
  have hnc := size_le_maxLen hnc
  obtain ⟨g, rfl, c0, c1, c2, hfr, hgl, hfit, _, hscm⟩ := Core.atV hc hv hk
  have hscm := size_le_maxLen hscm
  have HF := Lib.hid hfit; clear hfit
  have hfs := Lib.hid HF.out.s
  have hk1 : (k : Int) < h.regs.length := by omega
  have hx0 : 0 ≤ h.regs[k].n := by omega
  have hx2 : h.regs[k].n / 2 = (i : Int) := by omega
  have hI : I64 h.regs[k].n := HF.out.n
  have HI := Lib.hid hI; clear hI
  rw [hkind] at c0
  have mu := m
  unfold HBox at mu
  have es := mu.eqs; simp only [EqsL, and_true] at es
  have m1 := m.alloc (.cells #[.int .u8 5, .int .i64 h.regs[k].n, .string h.regs[k].s] 50)
  generalize hx : h.regs[k] = x at *
  have H2 := Lib.hid hx2; clear hx2
  have H0 := Lib.hid hx0; clear hx0
  clear hi
  go_enter Try.func114, Try.ntmps114
  go_wp2_with fail
  have hxe : Value.agg #[.int .u8 5, .int .i64 x.n, .string x.s] = x.v := by unfold ValM.v; rw [hkind]; rfl
  rw [hxe]
  refine (split_any x m1 HI.out).mono ?_
  rintro e w1 ⟨rfl, m2⟩
  rw [tdiv2 H0.out, H2.out]
  obtain ⟨g2, rfl, hcl, _, hgl2, _, _⟩ := hn.at (by rw [rowCs_length]; omega) m2 (fun p hp => by simp [hp])
  obtain ⟨e0, e1, e2, e3⟩ := rowCs_get rs i hir
  have d0 := hcl _ _ e0
  have d1 := hcl _ _ e1
  have d2 := hcl _ _ e2
  have d3 := hcl _ _ e3
  have hir1 : (i : Int) < rs.length := by omega
  obtain ⟨b3, n3, c3', hsv⟩ := hsv
  rw [hsv] at d3
  have HSV := Lib.hid hsv
  clear e0 e1 e2 e3 hcl es mu c0 c1 c2 hfr hsv hxe
  have mu := m2
  unfold HBox at mu
  have es := mu.eqs; simp only [EqsL, and_true] at es
  go_wp2_with fail
  refine bodyPost_ret (v := .tuple #[.slice b3 n3 c3', .int .i64 0]) (by simp [results, Try.results114, go_sem]) rfl ?_
  rw [HSV.out]
  exact ⟨rfl, _, _, hhr, Lo, Ln, by rw [hrl]; exact ho, hf, hn, m2.drop⟩

theorem perm_sl1 {α : Type} (x b : α) (R : List α) : (x :: b :: R).Perm (x :: b :: R) := .refl _
set_option maxRecDepth 10000 in
set_option maxHeartbeats 1000000 in
theorem slot_no (b : Nat) (h : HeapM) (k : Nat) (n : Int) (hk : k < h.regs.length) (hr : h.regs.length ≤ 100000) (hv : OwnV rv h.regs Lr) (hc : CoreOf b h rs rv w0 H (Lr ++ L) w) (hkind : h.regs[k].kind ≠ 5) :
    Calls Try.prog 109 #[.pointer (some ⟨b, 0, none⟩), .int .i64 k, .int .i64 n] w fun e w' => e = .returned (.tuple #[.pointer none, .int .i64 11]) ∧ CoreOf b h rs rv w0 H (Lr ++ L) w' := by
  go_enter Try.func109, Try.ntmps109
  go_wp2_with fail
  refine (slots_no b h k hk hr hv hc hkind).mono ?_
  rintro e w1 ⟨rfl, hc1⟩
  go_wp2_with fail
  refine bodyPost_ret (v := .tuple #[.pointer none, .int .i64 11]) (by simp [results, Try.results109, go_sem]) rfl ?_
  exact ⟨rfl, hc1⟩
set_option maxRecDepth 10000 in
set_option maxHeartbeats 1000000 in
theorem slot_yes (b : Nat) (h : HeapM) (k : Nat) (n : Int) (hn64 : I64 n) (hk : k < h.regs.length) (hr : h.regs.length ≤ 100000) (hv : OwnV rv h.regs Lr) (hc : CoreOf b h rs rv w0 H (Lr ++ L) w) (hkind : h.regs[k].kind = 5) (i : Nat) (hi : h.regs[k].n = 2 * (i : Int) ∨ h.regs[k].n = 2 * (i : Int) + 1) (hir : i < rs.length) (hrs : rs.length ≤ 100000)
    {sb : Option Addr} {sn sc : Nat} (hsv : rs[i].sv = .slice sb sn sc) (hsn : sn ≤ 100000) (hsb : 0 < sn → ∃ g, sb = some ⟨g, 0, none⟩) :
    Calls Try.prog 109 #[.pointer (some ⟨b, 0, none⟩), .int .i64 k, .int .i64 n] w fun e w' => CoreOf b h rs rv w0 H (Lr ++ L) w' ∧
      ((¬ (0 ≤ n ∧ n ≤ (sn : Int) - 1) ∧ e = .returned (.tuple #[.pointer none, .int .i64 7])) ∨
       ∃ (g m : Nat), sb = some ⟨g, 0, none⟩ ∧ n = (m : Int) ∧ m < sn ∧ e = .returned (.tuple #[.pointer (some ⟨g, m * 3, none⟩), .int .i64 0])) := by
  have HSB := Lib.hid hsb; clear hsb
  go_enter Try.func109, Try.ntmps109
  go_wp2_with fail
  refine (slots_yes b h k hk hr hv hc hkind i hi hir hrs ⟨_, _, _, hsv⟩).mono ?_
  rintro e w1 ⟨rfl, hc1⟩
  rw [hsv]
  go_wp2_with fail
  obtain ⟨ob, oc, nb, nc, hhr, Lo, Ln, ho, hrl, hf, hn, m, hoc, hnc, hol, hnl⟩ := hc1.shape
  refine (within1n _ n 0 ((sn : Int) - 1) hn64 (m.alloc (.cells #[.int .i64 n] 3))).mono ?_
  rintro e w2 ⟨rfl, m2⟩
  have hc2 : CoreOf b h rs rv w0 H (Lr ++ L) w2 := ⟨_, _, hhr, Lo, Ln, by rw [hrl]; exact ho, hf, hn, m2⟩
  by_cases hin : 0 ≤ n ∧ n ≤ (sn : Int) - 1
  · rw [decide_eq_true hin]
    obtain ⟨m', rfl⟩ := Int.eq_ofNat_of_zero_le hin.1
    obtain ⟨g, rfl⟩ := HSB.out (by omega)
    have hms : (m' : Int) < (sn : Int) := by omega
    go_wp2_with fail
    refine bodyPost_ret (v := .tuple #[.pointer (some ⟨g, m' * 3, none⟩), .int .i64 0]) (by simp [results, Try.results109, go_sem]) rfl ?_
    exact ⟨hc2, .inr ⟨g, m', rfl, rfl, by omega, rfl⟩⟩
  · rw [decide_eq_false hin]
    have HIN := Lib.hid hin; clear hin
    go_wp2_with fail
    refine bodyPost_ret (v := .tuple #[.pointer none, .int .i64 7]) (by simp [results, Try.results109, go_sem]) rfl ?_
    exact ⟨hc2, .inl ⟨HIN.out, rfl⟩⟩
end
end Go.Proofs.Ythipkmmdjhpklaa
namespace Go.Proofs.Ythipkmmdjhpklaa
set_option linter.unusedVariables false
set_option linter.unusedSimpArgs false
open Go.RowKit

set_option maxRecDepth 10000 in
set_option maxHeartbeats 1000000 in
theorem eql_val (xk yk : Nat) (xn yn : Int) (xs ys : ByteArray) (w : World) : (binOp .eql 50 (.agg #[.int .u8 xk, .int .i64 xn, .string xs]) (.agg #[.int .u8 yk, .int .i64 yn, .string ys])).run Try.prog w = .ok (.bool (decide ((⟨xk, xn, xs⟩ : ValM) = ⟨yk, yn, ys⟩))) w := by
  have hs : decide ((⟨xk, xn, xs⟩ : ValM) = ⟨yk, yn, ys⟩) = ((decide (xk = yk) && decide (xn = yn)) && decide (xs = ys)) := by
    rw [Bool.eq_iff_iff]; simp [ValM.ext_iff']; exact and_assoc.symm
  rw [hs]
  clear hs
  by_cases h1 : xk = yk
  · subst h1
    by_cases h2 : xn = yn
    · subst h2
      by_cases h3 : xs = ys
      · subst h3; go_simp
      · have h3' : (xs.toList == ys.toList) = false := beq_eq_false_iff_ne.2 fun e => h3 (by
          rw [ByteArray.toList_eq, ByteArray.toList_eq] at e
          exact ByteArray.ext (Array.toList_inj.1 e))
        simp only [decide_eq_true_eq, h3, decide_false, Bool.and_false, decide_true, Bool.and_self]
        go_simp
    · have h2' : (xn == yn) = false := by simpa using h2
      go_simp
  · have h1' : ((xk : Int) == (yk : Int)) = false := by simpa using (by omega : ¬ (xk : Int) = yk)
    go_simp
theorem eql_ite {α : Type} (x y : ValM) (A : Bool → α) : (if (x.kind : Int) = (y.kind : Int) then if x.n = y.n then if x.s.toList = y.s.toList then A true else A false else A false else A false) = A (decide (x = y)) := by
  obtain ⟨xk, xn, xs⟩ := x
  obtain ⟨yk, yn, ys⟩ := y
  by_cases h1 : xk = yk
  · by_cases h2 : xn = yn
    · by_cases h3 : xs = ys
      · simp [h1, h2, h3]
      · have h4 : ¬ xs.toList = ys.toList := fun e => h3 (by
          rw [ByteArray.toList_eq, ByteArray.toList_eq] at e
          exact ByteArray.ext (Array.toList_inj.1 e))
        simp [h1, h2, h3, h4]
    · simp [h2]
  · have h4 : ¬ (xk : Int) = yk := by omega
    simp [h1, h4]
end Go.Proofs.Ythipkmmdjhpklaa
namespace Go.Proofs.Ythipkmmdjhpklaa
set_option linter.unusedVariables false
set_option linter.unusedSimpArgs false
open Go.RowKit

def HeapM.doSame (h : HeapM) (d : DeedM) : Int × ValM × HeapM := if h.are [d.a, d.b] = false then (3, unitV, h) else (0, boolV (decide (h.reg d.a = h.reg d.b)), h)
set_option maxRecDepth 10000 in
set_option maxHeartbeats 4000000 in
theorem same_any (b : Nat) (h : HeapM) (d : DeedM) (lv sv : Value) {w0 w : World} {H : Hp} {L : List (Nat × Obj)} (hc : HeapOwn TH b h w0 H L w) (hd : DeedR H d lv sv) (hr : h.regs.length ≤ 100000) :
    Calls Try.prog 99 #[.pointer (some ⟨b, 0, none⟩), d.v lv sv] w (DeedEnd b w0 H L (h.doSame d)) := by
  obtain ⟨rs, rv, Ls, Lr, hs, hv, hcore⟩ := hc
  obtain ⟨ob, oc, nb, nc, hhr, Lo, Ln, ho, hrl, hf, hn, m, hoc, hnc, hol, hnl⟩ := hcore.shape
  obtain ⟨sb, sc, rfl, hsc1, hsc2⟩ := hv.shape
  have HD := Lib.hid hd
  obtain ⟨lb, lc, rfl, _, _, _, _⟩ := hd.list
  obtain ⟨sb2, sc2, rfl, _, _, _, _⟩ := hd.slots
  have hda := hd.a
  have hdb := hd.b
  unfold I64 at hda hdb
  clear hd
  show Calls Try.prog 99 #[.pointer (some ⟨b, 0, none⟩), .agg #[.int .u8 d.kind, .int .i64 d.a, .int .i64 d.b, .int .i64 d.c, .slice lb d.list.length lc, .int .u8 d.obj.kind, .string d.obj.name, .int .i64 d.obj.n, .slice sb2 d.obj.slots.length sc2, .int .u8 d.val.kind, .int .i64 d.val.n, .string d.val.s]] w _
  have m1 := (m.alloc (DBox d (.slice lb d.list.length lc) (.slice sb2 d.obj.slots.length sc2))).alloc (.cells #[.int .u8 0, .int .i64 0, .string ⟨#[]⟩] 50)
  rw [World.size_alloc] at m1
  have m2 := m1.alloc (.cells #[.int .i64 d.a, .int .i64 d.b] 3)
  rw [World.size_alloc, World.size_alloc] at m2
  go_enter Try.func99, Try.ntmps99
  go_wp2_with fail
  refine (are2 b _ d.a d.b HD.out.a HD.out.b (m2.perm (perm_cp3 _ _ _ _ _)) hr).mono ?_
  rintro e w1 ⟨rfl, m3⟩
  clear m1 m2
  have hare : h.are [d.a, d.b] = inAll 0 ((h.regs.length : Int) - 1) [d.a, d.b] := rfl
  cases hb : inAll 0 ((h.regs.length : Int) - 1) [d.a, d.b]
  · have hdo : h.doSame d = (3, unitV, h) := by unfold HeapM.doSame; rw [if_pos (by rw [hare, hb])]
    have HDO := Lib.hid hdo; clear hdo hare hb
    go_wp2_with fail
    refine (unit_any m3).mono ?_
    rintro e w2 ⟨rfl, m4⟩
    have m5 := m4.perm (perm_cp2 _ _ _ _)
    have es := m5.eqs; simp only [EqsL, and_true] at es
    have ns := m5.nes; simp only [NeL, NeFrom, and_true, true_and] at ns
    unfold ValM.v unitV
    go_wp2_with fail
    refine bodyPost_ret (v := .tuple #[unitV.v, .int .i64 3]) (by simp [results, Try.results99, go_sem, es, ns]; rfl) rfl ?_
    rw [HDO.out]
    refine ⟨rfl, H, Hle.refl _, rs, _, Ls, Lr, hs, hv, _, _, hhr, Lo, Ln, by rw [hrl]; exact ho, hf, hn, ?_⟩
    refine MemB.done (ks := [w.heap.size + 1, w.heap.size]) ?_
    repeat (first | exact ⟨[_, _], rfl, m5⟩ | refine MemB.set (by simp) ?_)
  · have hdo : h.doSame d = (0, boolV (decide (h.reg d.a = h.reg d.b)), h) := by unfold HeapM.doSame; rw [if_neg (by rw [hare, hb]; simp)]
    have HDO := Lib.hid hdo; clear hdo hare
    rw [inAll2, Bool.and_eq_true] at hb
    have hb1 := of_decide_eq_true hb.1
    have hb2 := of_decide_eq_true hb.2
    clear hb
    obtain ⟨ia, hia⟩ := Int.eq_ofNat_of_zero_le hb1.1
    obtain ⟨ib, hib⟩ := Int.eq_ofNat_of_zero_le hb2.1
    have hia1 : ia < h.regs.length := by omega
    have hib1 : ib < h.regs.length := by omega
    have hregb : h.reg d.b = h.regs[ib] := by unfold HeapM.reg; rw [hib]; simp [List.getD, hib1]
    have hrega : h.reg d.a = h.regs[ia] := by unfold HeapM.reg; rw [hia]; simp [List.getD, hia1]
    have HREG := Lib.hid hregb; clear hregb
    have HREGA := Lib.hid hrega; clear hrega
    have hc1 : Core TH b h.size h.half h.scan h.busy h.old rs (.slice sb h.regs.length sc) w0 H (Lr ++ (Ls ++ (_ :: _ :: L))) w1 := ⟨_, _, hhr, Lo, Ln, by rw [hrl]; exact ho, hf, hn, m3.perm (perm_cp4 _ _ _ Lo Ln Ls Lr L)⟩
    obtain ⟨g, rfl, c0, c1, c2, hfr, hgl, hfit, _, hscm⟩ := hc1.atV hv hib1
    have hscm := size_le_maxLen hscm
    have m3u := m3
    unfold DBox HBox at m3u
    have es := m3u.eqs
    simp only [EqsL] at es
    go_wp2_with fail
    refine AnyFrom.start (fun w' => w' = w1.drew) 19 (by kernel_rfl) ?_
    have hc2 := hc1.drewN 1
    have hdr : w1.drewN 1 = w1.drew := rfl
    rw [hdr] at hc2
    clear es m3u c0 c1 c2 hfr hgl
    have m3d := m3.drew
    have m3u := m3.drew
    unfold DBox HBox at m3u
    generalize w1.drew = W at *
    have es := m3u.eqs
    simp only [EqsL] at es
    obtain ⟨g', hg', c0, c1, c2, hfr, hgl, _, _, _⟩ := hc2.atV hv hib1
    cases hg'
    obtain ⟨g', hg', d0, d1, d2, _, _, _, _, _⟩ := hc2.atV hv hia1
    cases hg'
    have HS : W = W := rfl
    clear hc1 m3
    refine AnyFrom.takeT (i := 0) (v := ?_) rfl (by kernel_rfl) (by kernel_rfl) (by kernel_rfl) (by kernel_rfl) (fun _ _ _ h => h) ⟨by rfl, ?_⟩ HS ?_
    rotate_left
    · first | (rintro w' rfl; go_simp; done) | (rintro w' rfl; go_simp; with_reducible rfl)
    simp only [Act.put, List.setIfInBounds_toArray, List.set_cons_zero, List.set_cons_succ]
    refine AnyFrom.takeT (i := 1) (v := ?_) rfl (by kernel_rfl) (by kernel_rfl) (by kernel_rfl) (by kernel_rfl) (fun _ _ _ h => h) ⟨by rfl, ?_⟩ HS ?_
    rotate_left
    · first | (rintro w' rfl; go_simp; done) | (rintro w' rfl; go_simp; with_reducible rfl)
    simp only [Act.put, List.setIfInBounds_toArray, List.set_cons_zero, List.set_cons_succ]
    refine AnyFrom.takeT (i := 2) (v := ?_) rfl (by kernel_rfl) (by kernel_rfl) (by kernel_rfl) (by kernel_rfl) (fun _ _ _ h => h) ⟨by rfl, ?_⟩ HS ?_
    rotate_left
    · first | (rintro w' rfl; go_simp; done) | (rintro w' rfl; go_simp; with_reducible rfl)
    simp only [Act.put, List.setIfInBounds_toArray, List.set_cons_zero, List.set_cons_succ]
    refine AnyFrom.takeT (i := 3) (v := ?_) rfl (by kernel_rfl) (by kernel_rfl) (by kernel_rfl) (by kernel_rfl) (fun _ _ _ h => h) ⟨by rfl, ?_⟩ HS ?_
    rotate_left
    · first | (rintro w' rfl; go_simp; done) | (rintro w' rfl; go_simp; with_reducible rfl)
    simp only [Act.put, List.setIfInBounds_toArray, List.set_cons_zero, List.set_cons_succ]
    refine AnyFrom.takeT (i := 4) (v := ?_) rfl (by kernel_rfl) (by kernel_rfl) (by kernel_rfl) (by kernel_rfl) (fun _ _ _ h => h) ⟨by rfl, ?_⟩ HS ?_
    rotate_left
    · first | (rintro w' rfl; go_simp; done) | (rintro w' rfl; go_simp; with_reducible rfl)
    simp only [Act.put, List.setIfInBounds_toArray, List.set_cons_zero, List.set_cons_succ]
    refine AnyFrom.takeT (i := 5) (v := ?_) rfl (by kernel_rfl) (by kernel_rfl) (by kernel_rfl) (by kernel_rfl) (fun _ _ _ h => h) ⟨by rfl, ?_⟩ HS ?_
    rotate_left
    · first | (rintro w' rfl; go_simp; done) | (rintro w' rfl; go_simp; with_reducible rfl)
    simp only [Act.put, List.setIfInBounds_toArray, List.set_cons_zero, List.set_cons_succ]
    refine AnyFrom.takeT (i := 6) (v := ?_) rfl (by kernel_rfl) (by kernel_rfl) (by kernel_rfl) (by kernel_rfl) (fun _ _ _ h => h) ⟨by rfl, ?_⟩ HS ?_
    rotate_left
    · first | (rintro w' rfl; go_simp; done) | (rintro w' rfl; go_simp; with_reducible rfl)
    simp only [Act.put, List.setIfInBounds_toArray, List.set_cons_zero, List.set_cons_succ]
    refine AnyFrom.takeT (i := 7) (v := ?_) rfl (by kernel_rfl) (by kernel_rfl) (by kernel_rfl) (by kernel_rfl) (fun _ _ _ h => h) ⟨by rfl, ?_⟩ HS ?_
    rotate_left
    · first | (rintro w' rfl; go_simp; done) | (rintro w' rfl; go_simp; with_reducible rfl)
    simp only [Act.put, List.setIfInBounds_toArray, List.set_cons_zero, List.set_cons_succ]
    refine AnyFrom.takeT (i := 8) (v := ?_) rfl (by kernel_rfl) (by kernel_rfl) (by kernel_rfl) (by kernel_rfl) (fun _ _ _ h => h) ⟨by rfl, ?_⟩ HS ?_
    rotate_left
    · first | (rintro w' rfl; go_simp; done) | (rintro w' rfl; go_simp; with_reducible rfl)
    simp only [Act.put, List.setIfInBounds_toArray, List.set_cons_zero, List.set_cons_succ]
    refine AnyFrom.takeT (i := 9) (v := ?_) rfl (by kernel_rfl) (by kernel_rfl) (by kernel_rfl) (by kernel_rfl) (fun _ _ _ h => h) ⟨by rfl, ?_⟩ HS ?_
    rotate_left
    · first | (rintro w' rfl; go_simp; done) | (rintro w' rfl; go_simp; with_reducible rfl)
    simp only [Act.put, List.setIfInBounds_toArray, List.set_cons_zero, List.set_cons_succ]
    refine AnyFrom.takeT (i := 10) (v := ?_) rfl (by kernel_rfl) (by kernel_rfl) (by kernel_rfl) (by kernel_rfl) (fun _ _ _ h => h) ⟨by rfl, ?_⟩ HS ?_
    rotate_left
    · first | (rintro w' rfl; go_simp; done) | (rintro w' rfl; go_simp; with_reducible rfl)
    simp only [Act.put, List.setIfInBounds_toArray, List.set_cons_zero, List.set_cons_succ]
    refine AnyFrom.takeT (i := 11) (v := ?_) rfl (by kernel_rfl) (by kernel_rfl) (by kernel_rfl) (by kernel_rfl) (fun _ _ _ h => h) ⟨by rfl, ?_⟩ HS ?_
    rotate_left
    · first | (rintro w' rfl; go_simp; done) | (rintro w' rfl; go_simp; with_reducible rfl)
    simp only [Act.put, List.setIfInBounds_toArray, List.set_cons_zero, List.set_cons_succ]
    refine AnyFrom.takeT (i := 12) (v := ?_) rfl (by kernel_rfl) (by kernel_rfl) (by kernel_rfl) (by kernel_rfl) (fun _ _ _ h => h) ⟨by rfl, ?_⟩ HS ?_
    rotate_left
    · first | (rintro w' rfl; go_simp; done) | (rintro w' rfl; go_simp; with_reducible rfl)
    simp only [Act.put, List.setIfInBounds_toArray, List.set_cons_zero, List.set_cons_succ]
    refine AnyFrom.takeT (i := 13) (v := ?_) rfl (by kernel_rfl) (by kernel_rfl) (by kernel_rfl) (by kernel_rfl) (fun _ _ _ h => h) ⟨by rfl, ?_⟩ HS ?_
    rotate_left
    · first | (rintro w' rfl; go_simp; done) | (rintro w' rfl; go_simp; with_reducible rfl)
    simp only [Act.put, List.setIfInBounds_toArray, List.set_cons_zero, List.set_cons_succ]
    refine AnyFrom.takeT (i := 14) (v := ?_) rfl (by kernel_rfl) (by kernel_rfl) (by kernel_rfl) (by kernel_rfl) (fun _ _ _ h => h) ⟨by rfl, ?_⟩ HS ?_
    rotate_left
    · first | (rintro w' rfl; go_simp; done) | (rintro w' rfl; go_simp; with_reducible rfl)
    simp only [Act.put, List.setIfInBounds_toArray, List.set_cons_zero, List.set_cons_succ]
    refine AnyFrom.takeT (i := 15) (v := ?_) rfl (by kernel_rfl) (by kernel_rfl) (by kernel_rfl) (by kernel_rfl) (fun _ _ _ h => h) ⟨by rfl, ?_⟩ HS ?_
    rotate_left
    · first | (rintro w' rfl; go_simp; done) | (rintro w' rfl; go_simp; with_reducible rfl)
    simp only [Act.put, List.setIfInBounds_toArray, List.set_cons_zero, List.set_cons_succ]
    refine AnyFrom.takeT (i := 16) (v := ?_) rfl (by kernel_rfl) (by kernel_rfl) (by kernel_rfl) (by kernel_rfl) (fun _ _ _ h => h) ⟨by rfl, ?_⟩ HS ?_
    rotate_left
    · first | (rintro w' rfl; go_simp; done) | (rintro w' rfl; go_simp; with_reducible rfl)
    simp only [Act.put, List.setIfInBounds_toArray, List.set_cons_zero, List.set_cons_succ]
    refine AnyFrom.takeT (i := 17) (v := ?_) rfl (by kernel_rfl) (by kernel_rfl) (by kernel_rfl) (by kernel_rfl) (fun _ _ _ h => h) ⟨by rfl, ?_⟩ HS ?_
    rotate_left
    · first | (rintro w' rfl; go_simp; done) | (rintro w' rfl; go_simp; with_reducible rfl)
    simp only [Act.put, List.setIfInBounds_toArray, List.set_cons_zero, List.set_cons_succ]
    refine AnyFrom.takeT (i := 18) (v := .bool (decide (h.regs[ia] = h.regs[ib]))) rfl (by kernel_rfl) (by kernel_rfl) (by kernel_rfl) (by kernel_rfl) (fun _ _ _ h => h) ⟨by rfl, ?_⟩ HS ?_
    · rintro w' rfl
      go_simp
      exact eql_ite h.regs[ia] h.regs[ib] (fun b => Result.ok (Next.value (Value.bool b)) w')
    simp only [Act.put, List.setIfInBounds_toArray, List.set_cons_zero, List.set_cons_succ]
    refine AnyFrom.one (i := 19) (by kernel_rfl) (AnyFrom.op rfl (by rfl) fun K hK => ?_)
    go_simp
    refine (truth_any _ m3d).mono ?_
    rintro e w6 ⟨rfl, m6⟩
    refine hK _ _ (.inl ⟨19, by decide, by rfl⟩) ?_
    clear hK K
    try simp only [Act.put, List.setIfInBounds_toArray, List.set_cons_zero, List.set_cons_succ]
    clear es c0 c1 c2 d0 d1 d2 hfr hgl m3u
    have m6u := m6
    unfold DBox HBox at m6u
    have es := m6u.eqs
    simp only [EqsL] at es
    have ns := m6u.nes
    simp only [NeL, NeFrom] at ns
    have hbv : (boolV (decide (h.regs[ia] = h.regs[ib]))).v = .agg #[.int .u8 2, .int .i64 (boolV (decide (h.regs[ia] = h.regs[ib]))).n, .string ByteArray.empty] := rfl
    have HBV := Lib.hid hbv
    rw [hbv]
    clear hbv
    generalize (boolV (decide (h.regs[ia] = h.regs[ib]))).n = qn at *
    refine AnyFrom.one (i := 20) (by kernel_rfl) (AnyFrom.op rfl (by rfl) fun K hK => ?_)
    go_simp
    refine hK _ _ (.inl ⟨20, by decide, by rfl⟩) ?_
    clear hK K
    try simp only [Act.put, List.setIfInBounds_toArray, List.set_cons_zero, List.set_cons_succ]
    refine AnyFrom.one (i := 21) (by kernel_rfl) (AnyFrom.op rfl (by rfl) fun K hK => ?_)
    go_simp
    refine hK _ _ (.inl ⟨20, by decide, by rfl⟩) ?_
    clear hK K
    try simp only [Act.put, List.setIfInBounds_toArray, List.set_cons_zero, List.set_cons_succ]
    refine AnyFrom.done (by kernel_rfl) ?_ _
    go_wp2_with fail
    refine bodyPost_ret (v := .tuple #[.agg #[.int .u8 2, .int .i64 qn, .string ByteArray.empty], .int .i64 0]) (by simp [results, Try.results99, go_sem, es, ns]) rfl ?_
    rw [HDO.out, HREG.out, HREGA.out]
    refine ⟨by rw [← HBV.out], H, Hle.refl _, rs, _, Ls, Lr, hs, hv, _, _, hhr, Lo, Ln, by rw [hrl]; exact ho, hf, hn, ?_⟩
    refine MemB.done (ks := [w.heap.size + 1, w.heap.size]) ?_
    repeat (first | exact ⟨[_, _], rfl, m6.perm (perm_cp2 _ _ _ _)⟩ | refine MemB.set (by simp) ?_)
end Go.Proofs.Ythipkmmdjhpklaa
namespace Go.Proofs.Ythipkmmdjhpklaa
set_option linter.unusedVariables false
set_option linter.unusedSimpArgs false
open Go.RowKit

/-- A register that refers to an object refers to one of the new half. -/
def RegOk (h : HeapM) : Prop := ∀ x ∈ h.regs, x.kind = 5 → 0 ≤ x.n ∧ (x.n / 2).toNat < h.new.length
def HeapM.nameAt (h : HeapM) (k : Nat) : ByteArray := match h.new[k]? with | some o => o.name | none => ByteArray.empty
def HeapM.read (h : HeapM) (x : ValM) : ValM := if x.kind = 5 then textV (h.nameAt (x.n / 2).toNat) else x
def HeapM.doRead (h : HeapM) (d : DeedM) : Int × ValM × HeapM := if h.are [d.a] = false then (3, unitV, h) else (0, h.read (h.reg d.a), h)
theorem perm_rd1 {α : Type} (r d b : α) (Lo Ln Ls Lr L : List α) : (b :: r :: d :: (Lo ++ (Ln ++ (Ls ++ (Lr ++ L))))).Perm (b :: d :: (Lr ++ (r :: (Lo ++ (Ln ++ (Ls ++ L)))))) := (by classical exact List.perm_iff_count.2 (fun a => by simp only [List.count_append, List.count_cons, List.cons_append, List.nil_append, List.append_assoc]; omega))
theorem perm_rd2 {α : Type} (x b d : α) (Lr L : List α) : (x :: b :: d :: (Lr ++ L)).Perm (b :: d :: (Lr ++ (x :: L))) := (by classical exact List.perm_iff_count.2 (fun a => by simp only [List.count_append, List.count_cons, List.cons_append, List.nil_append, List.append_assoc]; omega))
theorem perm_rd3 {α : Type} (x r d b : α) (Lo Ln Ls Lr L : List α) : (x :: b :: d :: (Lr ++ (r :: (Lo ++ (Ln ++ (Ls ++ L)))))).Perm (x :: r :: d :: b :: (Lo ++ (Ln ++ (Ls ++ (Lr ++ L))))) := (by classical exact List.perm_iff_count.2 (fun a => by simp only [List.count_append, List.count_cons, List.cons_append, List.nil_append, List.append_assoc]; omega))
set_option maxRecDepth 10000 in
set_option maxHeartbeats 4000000 in
theorem read_any (b : Nat) (h : HeapM) (d : DeedM) (lv sv : Value) {w0 w : World} {H : Hp} {L : List (Nat × Obj)} (hc : HeapOwn TH b h w0 H L w) (hd : DeedR H d lv sv) (hr : h.regs.length ≤ 100000) (hnl2 : h.new.length ≤ 100000) (hok : RegOk h) :
    Calls Try.prog 100 #[.pointer (some ⟨b, 0, none⟩), d.v lv sv] w (DeedEnd b w0 H L (h.doRead d)) := by
  obtain ⟨rs, rv, Ls, Lr, hs, hv, hcore⟩ := hc
  obtain ⟨ob, oc, nb, nc, hhr, Lo, Ln, ho, hrl, hf, hn, m, hoc, hnc, hol, hnl⟩ := hcore.shape
  obtain ⟨sb, sc, rfl, hsc1, hsc2⟩ := hv.shape
  have hsl := hs.length
  have HD := Lib.hid hd
  obtain ⟨lb, lc, rfl, _, _, _, _⟩ := hd.list
  obtain ⟨sb2, sc2, rfl, _, _, _, _⟩ := hd.slots
  have hda := hd.a
  unfold I64 at hda
  clear hd
  show Calls Try.prog 100 #[.pointer (some ⟨b, 0, none⟩), .agg #[.int .u8 d.kind, .int .i64 d.a, .int .i64 d.b, .int .i64 d.c, .slice lb d.list.length lc, .int .u8 d.obj.kind, .string d.obj.name, .int .i64 d.obj.n, .slice sb2 d.obj.slots.length sc2, .int .u8 d.val.kind, .int .i64 d.val.n, .string d.val.s]] w _
  have m1 := (m.alloc (DBox d (.slice lb d.list.length lc) (.slice sb2 d.obj.slots.length sc2))).alloc (.cells #[.int .u8 0, .int .i64 0, .string ⟨#[]⟩] 50)
  rw [World.size_alloc] at m1
  have m2 := m1.alloc (.cells #[.int .i64 d.a] 3)
  rw [World.size_alloc, World.size_alloc] at m2
  go_enter Try.func100, Try.ntmps100
  go_wp2_with fail
  refine (are1 b _ d.a HD.out.a (m2.perm (perm_cp3 _ _ _ _ _)) hr).mono ?_
  rintro e w1 ⟨rfl, m3⟩
  clear m1 m2
  have hare : h.are [d.a] = inAll 0 ((h.regs.length : Int) - 1) [d.a] := rfl
  cases hb : inAll 0 ((h.regs.length : Int) - 1) [d.a]
  · have hdo : h.doRead d = (3, unitV, h) := by unfold HeapM.doRead; rw [if_pos (by rw [hare, hb])]
    have HDO := Lib.hid hdo; clear hdo hare hb
    go_wp2_with fail
    refine (unit_any m3).mono ?_
    rintro e w2 ⟨rfl, m4⟩
    have m5 := m4.perm (perm_cp2 _ _ _ _)
    have es := m5.eqs; simp only [EqsL, and_true] at es
    have ns := m5.nes; simp only [NeL, NeFrom, and_true, true_and] at ns
    unfold ValM.v unitV
    go_wp2_with fail
    refine bodyPost_ret (v := .tuple #[unitV.v, .int .i64 3]) (by simp [results, Try.results100, go_sem, es, ns]; rfl) rfl ?_
    rw [HDO.out]
    refine ⟨rfl, H, Hle.refl _, rs, _, Ls, Lr, hs, hv, _, _, hhr, Lo, Ln, by rw [hrl]; exact ho, hf, hn, ?_⟩
    refine MemB.done (ks := [w.heap.size + 1, w.heap.size]) ?_
    repeat (first | exact ⟨[_, _], rfl, m5⟩ | refine MemB.set (by simp) ?_)
  · have hna : ¬ h.are [d.a] = false := by rw [hare, hb]; simp
    have HNA := Lib.hid hna; clear hna hare
    rw [inAll1] at hb
    have hb1 := of_decide_eq_true hb
    clear hb
    have hdo : h.doRead d = (0, h.read (h.reg d.a), h) := by unfold HeapM.doRead; rw [if_neg HNA.out]
    have HDO := Lib.hid hdo; clear hdo
    obtain ⟨ia, hia⟩ := Int.eq_ofNat_of_zero_le hb1.1
    have hia1 : ia < h.regs.length := by omega
    have hrega : h.reg d.a = h.regs[ia] := by unfold HeapM.reg; rw [hia]; simp [List.getD, hia1]
    have HREGA := Lib.hid hrega; clear hrega
    have HOK := Lib.hid (hok _ (List.getElem_mem hia1)); clear hok
    have hmp := m3.perm (perm_rd1 _ _ _ Lo Ln Ls Lr L)
    obtain ⟨g, rfl, c0, c1, c2, hfr, hgl, hfit, _, hscm⟩ := hv.at hia1 hmp (fun p hp => by simp [hp])
    have hscm := size_le_maxLen hscm
    have HF := Lib.hid hfit; clear hfit
    have m3u := hmp
    unfold DBox HBox at m3u
    have es := m3u.eqs
    simp only [EqsL] at es
    go_wp2_with fail
    refine AnyFrom.start (fun w' => ∃ L', Mem w0 H ((b, HBox TH h.size h.half h.scan h.busy (.slice ob h.old.length oc) (.slice nb rs.length nc) (.slice (some ⟨g, 0, none⟩) h.regs.length sc)) :: (w.heap.size, DBox d (.slice lb d.list.length lc) (.slice sb2 d.obj.slots.length sc2)) :: (Lr ++ L')) w') 10 (by kernel_rfl) ?_
    clear es m3u c0 c1 c2 hfr hgl
    have mW := hmp.drew
    generalize w1.drew = W at *
    clear m3 hmp
    have HS : ∃ L', Mem w0 H ((b, HBox TH h.size h.half h.scan h.busy (.slice ob h.old.length oc) (.slice nb rs.length nc) (.slice (some ⟨g, 0, none⟩) h.regs.length sc)) :: (w.heap.size, DBox d (.slice lb d.list.length lc) (.slice sb2 d.obj.slots.length sc2)) :: (Lr ++ L')) W := ⟨_, mW⟩
    refine AnyFrom.takeT (i := 0) (v := ?_) rfl (by kernel_rfl) (by kernel_rfl) (by kernel_rfl) (by kernel_rfl) (fun _ _ _ h => h) ⟨by rfl, ?_⟩ HS ?_
    rotate_left
    · first | (rintro w' ⟨L', hm⟩; have es := hm.eqs; simp only [HBox, DBox, EqsL] at es; obtain ⟨g', hg', c0, c1, c2, -, hgl', -, -, -⟩ := hv.at hia1 hm (fun p hp => by simp [hp]); cases hg'; go_simp; done) | (rintro w' ⟨L', hm⟩; have es := hm.eqs; simp only [HBox, DBox, EqsL] at es; obtain ⟨g', hg', c0, c1, c2, -, hgl', -, -, -⟩ := hv.at hia1 hm (fun p hp => by simp [hp]); cases hg'; go_simp; with_reducible rfl)
    simp only [Act.put, List.setIfInBounds_toArray, List.set_cons_zero, List.set_cons_succ]
    refine AnyFrom.takeT (i := 1) (v := ?_) rfl (by kernel_rfl) (by kernel_rfl) (by kernel_rfl) (by kernel_rfl) (fun _ _ _ h => h) ⟨by rfl, ?_⟩ HS ?_
    rotate_left
    · first | (rintro w' ⟨L', hm⟩; have es := hm.eqs; simp only [HBox, DBox, EqsL] at es; obtain ⟨g', hg', c0, c1, c2, -, hgl', -, -, -⟩ := hv.at hia1 hm (fun p hp => by simp [hp]); cases hg'; go_simp; done) | (rintro w' ⟨L', hm⟩; have es := hm.eqs; simp only [HBox, DBox, EqsL] at es; obtain ⟨g', hg', c0, c1, c2, -, hgl', -, -, -⟩ := hv.at hia1 hm (fun p hp => by simp [hp]); cases hg'; go_simp; with_reducible rfl)
    simp only [Act.put, List.setIfInBounds_toArray, List.set_cons_zero, List.set_cons_succ]
    refine AnyFrom.takeT (i := 2) (v := ?_) rfl (by kernel_rfl) (by kernel_rfl) (by kernel_rfl) (by kernel_rfl) (fun _ _ _ h => h) ⟨by rfl, ?_⟩ HS ?_
    rotate_left
    · first | (rintro w' ⟨L', hm⟩; have es := hm.eqs; simp only [HBox, DBox, EqsL] at es; obtain ⟨g', hg', c0, c1, c2, -, hgl', -, -, -⟩ := hv.at hia1 hm (fun p hp => by simp [hp]); cases hg'; go_simp; done) | (rintro w' ⟨L', hm⟩; have es := hm.eqs; simp only [HBox, DBox, EqsL] at es; obtain ⟨g', hg', c0, c1, c2, -, hgl', -, -, -⟩ := hv.at hia1 hm (fun p hp => by simp [hp]); cases hg'; go_simp; with_reducible rfl)
    simp only [Act.put, List.setIfInBounds_toArray, List.set_cons_zero, List.set_cons_succ]
    refine AnyFrom.takeT (i := 3) (v := ?_) rfl (by kernel_rfl) (by kernel_rfl) (by kernel_rfl) (by kernel_rfl) (fun _ _ _ h => h) ⟨by rfl, ?_⟩ HS ?_
    rotate_left
    · first | (rintro w' ⟨L', hm⟩; have es := hm.eqs; simp only [HBox, DBox, EqsL] at es; obtain ⟨g', hg', c0, c1, c2, -, hgl', -, -, -⟩ := hv.at hia1 hm (fun p hp => by simp [hp]); cases hg'; go_simp; done) | (rintro w' ⟨L', hm⟩; have es := hm.eqs; simp only [HBox, DBox, EqsL] at es; obtain ⟨g', hg', c0, c1, c2, -, hgl', -, -, -⟩ := hv.at hia1 hm (fun p hp => by simp [hp]); cases hg'; go_simp; with_reducible rfl)
    simp only [Act.put, List.setIfInBounds_toArray, List.set_cons_zero, List.set_cons_succ]
    refine AnyFrom.takeT (i := 4) (v := ?_) rfl (by kernel_rfl) (by kernel_rfl) (by kernel_rfl) (by kernel_rfl) (fun _ _ _ h => h) ⟨by rfl, ?_⟩ HS ?_
    rotate_left
    · first | (rintro w' ⟨L', hm⟩; have es := hm.eqs; simp only [HBox, DBox, EqsL] at es; obtain ⟨g', hg', c0, c1, c2, -, hgl', -, -, -⟩ := hv.at hia1 hm (fun p hp => by simp [hp]); cases hg'; go_simp; done) | (rintro w' ⟨L', hm⟩; have es := hm.eqs; simp only [HBox, DBox, EqsL] at es; obtain ⟨g', hg', c0, c1, c2, -, hgl', -, -, -⟩ := hv.at hia1 hm (fun p hp => by simp [hp]); cases hg'; go_simp; with_reducible rfl)
    simp only [Act.put, List.setIfInBounds_toArray, List.set_cons_zero, List.set_cons_succ]
    refine AnyFrom.takeT (i := 5) (v := ?_) rfl (by kernel_rfl) (by kernel_rfl) (by kernel_rfl) (by kernel_rfl) (fun _ _ _ h => h) ⟨by rfl, ?_⟩ HS ?_
    rotate_left
    · first | (rintro w' ⟨L', hm⟩; have es := hm.eqs; simp only [HBox, DBox, EqsL] at es; obtain ⟨g', hg', c0, c1, c2, -, hgl', -, -, -⟩ := hv.at hia1 hm (fun p hp => by simp [hp]); cases hg'; go_simp; done) | (rintro w' ⟨L', hm⟩; have es := hm.eqs; simp only [HBox, DBox, EqsL] at es; obtain ⟨g', hg', c0, c1, c2, -, hgl', -, -, -⟩ := hv.at hia1 hm (fun p hp => by simp [hp]); cases hg'; go_simp; with_reducible rfl)
    simp only [Act.put, List.setIfInBounds_toArray, List.set_cons_zero, List.set_cons_succ]
    refine AnyFrom.takeT (i := 6) (v := ?_) rfl (by kernel_rfl) (by kernel_rfl) (by kernel_rfl) (by kernel_rfl) (fun _ _ _ h => h) ⟨by rfl, ?_⟩ HS ?_
    rotate_left
    · first | (rintro w' ⟨L', hm⟩; have es := hm.eqs; simp only [HBox, DBox, EqsL] at es; obtain ⟨g', hg', c0, c1, c2, -, hgl', -, -, -⟩ := hv.at hia1 hm (fun p hp => by simp [hp]); cases hg'; go_simp; done) | (rintro w' ⟨L', hm⟩; have es := hm.eqs; simp only [HBox, DBox, EqsL] at es; obtain ⟨g', hg', c0, c1, c2, -, hgl', -, -, -⟩ := hv.at hia1 hm (fun p hp => by simp [hp]); cases hg'; go_simp; with_reducible rfl)
    simp only [Act.put, List.setIfInBounds_toArray, List.set_cons_zero, List.set_cons_succ]
    refine AnyFrom.takeT (i := 7) (v := ?_) rfl (by kernel_rfl) (by kernel_rfl) (by kernel_rfl) (by kernel_rfl) (fun _ _ _ h => h) ⟨by rfl, ?_⟩ HS ?_
    rotate_left
    · first | (rintro w' ⟨L', hm⟩; have es := hm.eqs; simp only [HBox, DBox, EqsL] at es; obtain ⟨g', hg', c0, c1, c2, -, hgl', -, -, -⟩ := hv.at hia1 hm (fun p hp => by simp [hp]); cases hg'; go_simp; done) | (rintro w' ⟨L', hm⟩; have es := hm.eqs; simp only [HBox, DBox, EqsL] at es; obtain ⟨g', hg', c0, c1, c2, -, hgl', -, -, -⟩ := hv.at hia1 hm (fun p hp => by simp [hp]); cases hg'; go_simp; with_reducible rfl)
    simp only [Act.put, List.setIfInBounds_toArray, List.set_cons_zero, List.set_cons_succ]
    refine AnyFrom.takeT (i := 8) (v := ?_) rfl (by kernel_rfl) (by kernel_rfl) (by kernel_rfl) (by kernel_rfl) (fun _ _ _ h => h) ⟨by rfl, ?_⟩ HS ?_
    rotate_left
    · first | (rintro w' ⟨L', hm⟩; have es := hm.eqs; simp only [HBox, DBox, EqsL] at es; obtain ⟨g', hg', c0, c1, c2, -, hgl', -, -, -⟩ := hv.at hia1 hm (fun p hp => by simp [hp]); cases hg'; go_simp; done) | (rintro w' ⟨L', hm⟩; have es := hm.eqs; simp only [HBox, DBox, EqsL] at es; obtain ⟨g', hg', c0, c1, c2, -, hgl', -, -, -⟩ := hv.at hia1 hm (fun p hp => by simp [hp]); cases hg'; go_simp; with_reducible rfl)
    simp only [Act.put, List.setIfInBounds_toArray, List.set_cons_zero, List.set_cons_succ]
    refine AnyFrom.one (i := 9) (by kernel_rfl) (AnyFrom.op rfl (by rfl) fun K hK => ?_)
    go_simp
    have mA := mW.alloc (.cells #[.int .u8 0, .int .i64 0, .string ⟨#[]⟩] 50)
    refine hK _ _ (.inr ⟨_, mA.perm (perm_rd2 _ _ _ Lr _)⟩) ?_
    clear hK K
    try simp only [Act.put, List.setIfInBounds_toArray, List.set_cons_zero, List.set_cons_succ]
    have mu := mA
    unfold DBox HBox at mu
    have es := mu.eqs
    simp only [EqsL] at es
    refine AnyFrom.one (i := 10) (by kernel_rfl) (AnyFrom.op rfl (by rfl) fun K hK => ?_)
    go_simp
    refine hK _ _ (.inl ⟨10, by decide, by rfl⟩) ?_
    clear hK K
    try simp only [Act.put, List.setIfInBounds_toArray, List.set_cons_zero, List.set_cons_succ]
    refine AnyFrom.done (by kernel_rfl) ?_ _
    have m4 := mW.alloc (.cells #[.int .u8 h.regs[ia].kind, .int .i64 h.regs[ia].n, .string h.regs[ia].s] 50)
    have m5 := m4.perm (perm_rd3 _ _ _ _ Lo Ln Ls Lr L)
    clear es mu mA HS m4
    have mu := mW
    unfold DBox HBox at mu
    have es := mu.eqs
    simp only [EqsL] at es
    go_wp2_with fail
    generalize hWs : W.heap.size = xb at *
    generalize (W.alloc (.cells #[.int .u8 h.regs[ia].kind, .int .i64 h.regs[ia].n, .string h.regs[ia].s] 50)) = W5 at *
    refine (split_any h.regs[ia] m5 HF.out.n).mono ?_
    rintro e w2 ⟨rfl, m6⟩
    clear es mu m5
    have mu := m6
    unfold DBox HBox at mu
    have es := mu.eqs
    simp only [EqsL] at es
    have ns := mu.nes
    simp only [NeL, NeFrom] at ns
    by_cases hk5 : h.regs[ia].kind = 5
    · obtain ⟨hn0, hlt⟩ := HOK.out hk5
      rw [tdiv2 hn0]
      obtain ⟨at', hat'⟩ := Int.eq_ofNat_of_zero_le (show 0 ≤ h.regs[ia].n / 2 by omega)
      rw [hat', Int.toNat_natCast] at hlt
      have hltr : at' < rs.length := by omega
      obtain ⟨g2, rfl, hcl, _, hgl2, _, hncm⟩ := hn.at (by rw [rowCs_length]; omega) m6 (fun p hp => by simp [hp])
      have hncm := size_le_maxLen hncm
      obtain ⟨e0, e1, e2, e3⟩ := rowCs_get rs at' hltr
      have d1 := hcl _ _ e1
      have hrow := (hs.at at' hltr hlt).1
      have hnm : h.read h.regs[ia] = textV rs[at'].name := by unfold HeapM.read HeapM.nameAt; rw [if_pos hk5, hat', Int.toNat_natCast, List.getElem?_eq_getElem hlt]; simp only; rw [hrow.2.1]
      have HNM := Lib.hid hnm; clear hnm
      have hltI : (at' : Int) < rs.length := by omega
      have hk6 : ((h.regs[ia].kind : Int) == 5) = true := by rw [hk5]; rfl
      have HAT := Lib.hid hat'
      rw [hat']
      clear hcl e0 e1 e2 e3 hrow hat' hn0
      go_wp2_with fail
      refine bodyPost_ret (v := .tuple #[.agg #[.int .u8 3, .int .i64 0, .string rs[at'].name], .int .i64 0]) (by simp [results, Try.results100, go_sem, es, ns]) rfl ?_
      rw [HDO.out, HREGA.out]
      refine ⟨by rw [HNM.out]; rfl, H, Hle.refl _, rs, _, Ls, Lr, hs, hv, _, _, hhr, Lo, Ln, by rw [hrl]; exact ho, hf, hn, ?_⟩
      refine MemB.done (ks := [xb, w.heap.size + 1, w.heap.size]) ?_
      repeat (first | exact ⟨[_, _, _], rfl, m6⟩ | refine MemB.set (by simp) ?_)
    · have hk6 : ((h.regs[ia].kind : Int) == 5) = false := beq_eq_false_iff_ne.2 (by omega)
      have hnm : h.read h.regs[ia] = h.regs[ia] := by unfold HeapM.read; rw [if_neg hk5]
      have HNM := Lib.hid hnm; clear hnm
      go_wp2_with fail
      refine bodyPost_ret (v := .tuple #[.agg #[.int .u8 h.regs[ia].kind, .int .i64 h.regs[ia].n, .string h.regs[ia].s], .int .i64 0]) (by simp [results, Try.results100, go_sem, es, ns]) rfl ?_
      rw [HDO.out, HREGA.out]
      refine ⟨by rw [HNM.out]; rfl, H, Hle.refl _, rs, _, Ls, Lr, hs, hv, _, _, hhr, Lo, Ln, by rw [hrl]; exact ho, hf, hn, ?_⟩
      refine MemB.done (ks := [xb, w.heap.size + 1, w.heap.size]) ?_
      repeat (first | exact ⟨[_, _, _], rfl, m6⟩ | refine MemB.set (by simp) ?_)
end Go.Proofs.Ythipkmmdjhpklaa
namespace Go.Proofs.Ythipkmmdjhpklaa
set_option linter.unusedVariables false
set_option linter.unusedSimpArgs false
open Go.RowKit

def HeapM.slotsAt (h : HeapM) (k : Nat) : List ValM := match h.new[k]? with | some o => o.slots | none => []
/-- The error of a slot of the object that a value refers to. -/
def HeapM.slotE (h : HeapM) (x : ValM) (n : Int) : Int := if x.kind ≠ 5 then 11 else if 0 ≤ n ∧ n ≤ ((h.slotsAt (x.n / 2).toNat).length : Int) - 1 then 0 else 7
def HeapM.setSlot (h : HeapM) (k n : Nat) (v : ValM) : HeapM := match h.new[k]? with | some o => { h with new := h.new.set k { o with slots := o.slots.set n v } } | none => h
def HeapM.doPut (h : HeapM) (d : DeedM) : Int × ValM × HeapM :=
  if h.are [d.a, d.c] = false then (3, unitV, h) else
  if h.slotE (h.reg d.a) d.b ≠ 0 then (h.slotE (h.reg d.a) d.b, unitV, h) else (0, unitV, h.setSlot ((h.reg d.a).n / 2).toNat d.b.toNat (h.reg d.c))
theorem perm_pt1 {α : Type} (Lr L1 L0 L2 R : List α) : (Lr ++ ((L1 ++ (L0 ++ L2)) ++ R)).Perm (L0 ++ (L1 ++ (L2 ++ (Lr ++ R)))) := (by classical exact List.perm_iff_count.2 (fun a => by simp only [List.count_append, List.count_cons, List.cons_append, List.nil_append, List.append_assoc]; omega))
theorem perm_pt2 {α : Type} (r d b : α) (Lo Ln L0 L1 L2 Lr L : List α) : (b :: (Lo ++ (Ln ++ (L0 ++ (L1 ++ (L2 ++ (Lr ++ (r :: d :: L)))))))).Perm (r :: d :: b :: (Lo ++ (Ln ++ (L1 ++ (L0 ++ (L2 ++ (Lr ++ L))))))) := (by classical exact List.perm_iff_count.2 (fun a => by simp only [List.count_append, List.count_cons, List.cons_append, List.nil_append, List.append_assoc]; omega))
set_option maxRecDepth 10000 in
set_option maxHeartbeats 4000000 in
theorem put_any (b : Nat) (h : HeapM) (d : DeedM) (lv sv : Value) {w0 w : World} {H : Hp} {L : List (Nat × Obj)} (hc : HeapOwn TH b h w0 H L w) (hd : DeedR H d lv sv) (hr : h.regs.length ≤ 100000) (hnl2 : h.new.length ≤ 100000) (hsl2 : ∀ o ∈ h.new, o.slots.length ≤ 100000) (hok : RegOk h) :
    Calls Try.prog 96 #[.pointer (some ⟨b, 0, none⟩), d.v lv sv] w (DeedEnd b w0 H L (h.doPut d)) := by
  obtain ⟨rs, rv, Ls, Lr, hs, hv, hcore⟩ := hc
  obtain ⟨ob, oc, nb, nc, hhr, Lo, Ln, ho, hrl, hf, hn, m, hoc, hnc, hol, hnl⟩ := hcore.shape
  obtain ⟨sb, sc, rfl, hsc1, hsc2⟩ := hv.shape
  have hsl := hs.length
  have HD := Lib.hid hd
  obtain ⟨lb, lc, rfl, _, _, _, _⟩ := hd.list
  obtain ⟨sb2, sc2, rfl, _, _, _, _⟩ := hd.slots
  have hda := hd.a
  have hdb := hd.b
  have hdc := hd.c
  unfold I64 at hda hdb hdc
  clear hd
  show Calls Try.prog 96 #[.pointer (some ⟨b, 0, none⟩), .agg #[.int .u8 d.kind, .int .i64 d.a, .int .i64 d.b, .int .i64 d.c, .slice lb d.list.length lc, .int .u8 d.obj.kind, .string d.obj.name, .int .i64 d.obj.n, .slice sb2 d.obj.slots.length sc2, .int .u8 d.val.kind, .int .i64 d.val.n, .string d.val.s]] w _
  have m1 := (m.alloc (DBox d (.slice lb d.list.length lc) (.slice sb2 d.obj.slots.length sc2))).alloc (.cells #[.int .u8 0, .int .i64 0, .string ⟨#[]⟩] 50)
  rw [World.size_alloc] at m1
  have m2 := m1.alloc (.cells #[.int .i64 d.a, .int .i64 d.c] 3)
  rw [World.size_alloc, World.size_alloc] at m2
  go_enter Try.func96, Try.ntmps96
  go_wp2_with fail
  refine (are2 b _ d.a d.c HD.out.a HD.out.c (m2.perm (perm_cp3 _ _ _ _ _)) hr).mono ?_
  rintro e w1 ⟨rfl, m3⟩
  clear m1 m2
  have hare : h.are [d.a, d.c] = inAll 0 ((h.regs.length : Int) - 1) [d.a, d.c] := rfl
  cases hb : inAll 0 ((h.regs.length : Int) - 1) [d.a, d.c]
  · have hdo : h.doPut d = (3, unitV, h) := by unfold HeapM.doPut; rw [if_pos (by rw [hare, hb])]
    have HDO := Lib.hid hdo; clear hdo hare hb
    go_wp2_with fail
    refine (unit_any m3).mono ?_
    rintro e w2 ⟨rfl, m4⟩
    have m5 := m4.perm (perm_cp2 _ _ _ _)
    have es := m5.eqs; simp only [EqsL, and_true] at es
    have ns := m5.nes; simp only [NeL, NeFrom, and_true, true_and] at ns
    unfold ValM.v unitV
    go_wp2_with fail
    refine bodyPost_ret (v := .tuple #[unitV.v, .int .i64 3]) (by simp [results, Try.results96, go_sem, es, ns]; rfl) rfl ?_
    rw [HDO.out]
    refine ⟨rfl, H, Hle.refl _, rs, _, Ls, Lr, hs, hv, _, _, hhr, Lo, Ln, by rw [hrl]; exact ho, hf, hn, ?_⟩
    refine MemB.done (ks := [w.heap.size + 1, w.heap.size]) ?_
    repeat (first | exact ⟨[_, _], rfl, m5⟩ | refine MemB.set (by simp) ?_)
  · have hna : ¬ h.are [d.a, d.c] = false := by rw [hare, hb]; simp
    have HNA := Lib.hid hna; clear hna hare
    rw [inAll2, Bool.and_eq_true] at hb
    have hb1 := of_decide_eq_true hb.1
    have hb2 := of_decide_eq_true hb.2
    clear hb
    obtain ⟨ia, hia⟩ := Int.eq_ofNat_of_zero_le hb1.1
    obtain ⟨ic, hic⟩ := Int.eq_ofNat_of_zero_le hb2.1
    have hia1 : ia < h.regs.length := by omega
    have hic1 : ic < h.regs.length := by omega
    have hrega : h.reg d.a = h.regs[ia] := by unfold HeapM.reg; rw [hia]; simp [List.getD, hia1]
    have hregc : h.reg d.c = h.regs[ic] := by unfold HeapM.reg; rw [hic]; simp [List.getD, hic1]
    have HREGA := Lib.hid hrega; clear hrega
    have HREGC := Lib.hid hregc; clear hregc
    have HOK := Lib.hid (hok _ (List.getElem_mem hia1)); clear hok
    have HSL := Lib.hid hsl2; clear hsl2
    have HDB := Lib.hid HD.out.b
    have hc1 : CoreOf b h rs (.slice sb h.regs.length sc) w0 H (Lr ++ (Ls ++ (_ :: _ :: L))) w1 := ⟨_, _, hhr, Lo, Ln, by rw [hrl]; exact ho, hf, hn, m3.perm (perm_cp4 _ _ _ Lo Ln Ls Lr L)⟩
    have m3u := m3
    unfold DBox HBox at m3u
    have es := m3u.eqs
    simp only [EqsL] at es
    have HPUT := Lib.hid (show h.doPut d = if h.slotE h.regs[ia] d.b ≠ 0 then (h.slotE h.regs[ia] d.b, unitV, h) else (0, unitV, h.setSlot (h.regs[ia].n / 2).toNat d.b.toNat h.regs[ic]) by unfold HeapM.doPut; rw [if_neg HNA.out, HREGA.out, HREGC.out])
    by_cases hk5 : h.regs[ia].kind = 5
    · obtain ⟨hn0, hlt⟩ := HOK.out hk5
      obtain ⟨at', hat'⟩ := Int.eq_ofNat_of_zero_le (show 0 ≤ h.regs[ia].n / 2 by omega)
      have hati : h.regs[ia].n = 2 * (at' : Int) ∨ h.regs[ia].n = 2 * (at' : Int) + 1 := by omega
      rw [hat', Int.toNat_natCast] at hlt
      have hltr : at' < rs.length := by omega
      obtain ⟨hrow, L1, L0, L2, hLs, hov, hback⟩ := hs.at at' hltr hlt
      have hsl3 := HSL.out _ (List.getElem_mem hlt)
      obtain ⟨tb, tc, htv, _, htc⟩ := hov.shape
      have HROW := Lib.hid hrow; clear hrow
      have HBK := Lib.hid hback; clear hback
      rw [htv] at hov
      have htb : 0 < h.new[at'].slots.length → ∃ g, tb = some ⟨g, 0, none⟩ := by
        intro hpos
        obtain ⟨g, hg, _⟩ := hov.at hpos m3 (fun p hp => by rw [hLs]; simp [hp])
        exact ⟨g, hg⟩
      have HAT := Lib.hid hat'; clear hat' hn0
      go_wp2_with fail
      refine (slot_yes b h ia d.b HDB.out hia1 hr hv hc1 hk5 at' hati hltr (by omega) htv hsl3 htb).mono ?_
      rintro e w2 ⟨hc2, (⟨hno, rfl⟩ | ⟨g, q, rfl, hq, hqlt, rfl⟩)⟩
      · have hE : h.slotE h.regs[ia] d.b = 7 := by unfold HeapM.slotE; rw [if_neg (by simp [hk5]), HAT.out, Int.toNat_natCast]; unfold HeapM.slotsAt; rw [List.getElem?_eq_getElem hlt]; rw [if_neg hno]
        have hdo := HPUT.out
        rw [hE, if_pos (by decide)] at hdo
        have HDO := Lib.hid hdo; clear hdo hE hno
        obtain ⟨ob3, oc3, nb3, nc3, hhr3, Lo3, Ln3, ho3, hrl3, hf3, hn3, m4, _, _, _, _⟩ := hc2.shape
        have m5 := m4.perm (perm_cp5 _ _ _ Lo3 Ln3 Ls Lr L)
        clear es m3u m4
        have mu := m5
        unfold DBox HBox at mu
        have es := mu.eqs
        simp only [EqsL] at es
        go_wp2_with fail
        refine (unit_any m5).mono ?_
        rintro e w3 ⟨rfl, m6⟩
        clear es mu
        have mu := m6
        unfold DBox HBox at mu
        have es := mu.eqs
        simp only [EqsL] at es
        have ns := mu.nes
        simp only [NeL, NeFrom] at ns
        unfold ValM.v unitV
        go_wp2_with fail
        refine bodyPost_ret (v := .tuple #[unitV.v, .int .i64 7]) (by simp [results, Try.results96, go_sem, es, ns]; rfl) rfl ?_
        rw [HDO.out]
        refine ⟨rfl, H, Hle.refl _, rs, _, Ls, Lr, hs, hv, _, _, hhr3, Lo3, Ln3, by rw [hrl3]; exact ho3, hf3, hn3, ?_⟩
        refine MemB.done (ks := [w.heap.size + 1, w.heap.size]) ?_
        repeat (first | exact ⟨[_, _], rfl, m6⟩ | refine MemB.set (by simp) ?_)
      · have hE : h.slotE h.regs[ia] d.b = 0 := by unfold HeapM.slotE; rw [if_neg (by simp [hk5]), HAT.out, Int.toNat_natCast]; unfold HeapM.slotsAt; rw [List.getElem?_eq_getElem hlt]; rw [if_pos (by simp only; omega)]
        have hdo := HPUT.out
        rw [hE, if_neg (by decide), HAT.out, Int.toNat_natCast, hq] at hdo
        have hdo2 : h.doPut d = (0, unitV, { h with new := h.new.set at' { h.new[at'] with slots := h.new[at'].slots.set q h.regs[ic] } }) := by rw [hdo]; unfold HeapM.setSlot; rw [List.getElem?_eq_getElem hlt]; rfl
        have HDO := Lib.hid hdo2; clear hdo hE hdo2
        obtain ⟨ob3, oc3, nb3, nc3, hhr3, Lo3, Ln3, ho3, hrl3, hf3, hn3, m4, _, _, _, _⟩ := hc2.shape
        have m5 := m4.perm (perm_cp5 _ _ _ Lo3 Ln3 Ls Lr L)
        clear es m3u m4
        have mu := m5
        unfold DBox HBox at mu
        have es := mu.eqs
        simp only [EqsL] at es
        have hcA : Core TH b h.size h.half h.scan h.busy h.old rs (.slice sb h.regs.length sc) w0 H (L0 ++ (L1 ++ (L2 ++ (Lr ++ (_ :: _ :: L))))) w2 := Core.perm hc2 (by rw [hLs]; exact perm_pt1 Lr L1 L0 L2 _)
        obtain ⟨g', rfl, c0, c1, c2, hfr, hgl, hfit, _, hscm⟩ := Core.atV hc2 hv hic1
        have hscm := size_le_maxLen hscm
        have htc := size_le_maxLen htc
        go_wp2_with fail
        refine AnyFrom.start (fun w' => w' = w2.drew) 11 (by kernel_rfl) ?_
        have hcB := Core.drewN hc2 1
        have hcC := hcA.drewN 1
        have hdr : w2.drewN 1 = w2.drew := rfl
        rw [hdr] at hcB hcC
        clear es mu c0 c1 c2 hfr hgl
        have mu := m5.drew
        unfold DBox HBox at mu
        generalize w2.drew = W at *
        have es := mu.eqs
        simp only [EqsL] at es
        obtain ⟨g3, hg3, c0, c1, c2, hfr, hgl, _, _, _⟩ := Core.atV hcB hv hic1
        cases hg3
        obtain ⟨g3, hg3, d0, d1, d2, hfr2, hgl2, _, _, _⟩ := Core.atV hcC hov hqlt
        cases hg3
        have HS : W = W := rfl
        clear hcA hcB
        have hic2 : (ic : Int) < h.regs.length := by omega
        refine AnyFrom.takeT (i := 0) (v := ?_) rfl (by kernel_rfl) (by kernel_rfl) (by kernel_rfl) (by kernel_rfl) (fun _ _ _ h => h) ⟨by rfl, ?_⟩ HS ?_
        rotate_left
        · first | (rintro w' rfl; go_simp; done) | (rintro w' rfl; go_simp; with_reducible rfl)
        simp only [Act.put, List.setIfInBounds_toArray, List.set_cons_zero, List.set_cons_succ]
        refine AnyFrom.takeT (i := 1) (v := ?_) rfl (by kernel_rfl) (by kernel_rfl) (by kernel_rfl) (by kernel_rfl) (fun _ _ _ h => h) ⟨by rfl, ?_⟩ HS ?_
        rotate_left
        · first | (rintro w' rfl; go_simp; done) | (rintro w' rfl; go_simp; with_reducible rfl)
        simp only [Act.put, List.setIfInBounds_toArray, List.set_cons_zero, List.set_cons_succ]
        refine AnyFrom.takeT (i := 2) (v := ?_) rfl (by kernel_rfl) (by kernel_rfl) (by kernel_rfl) (by kernel_rfl) (fun _ _ _ h => h) ⟨by rfl, ?_⟩ HS ?_
        rotate_left
        · first | (rintro w' rfl; go_simp; done) | (rintro w' rfl; go_simp; with_reducible rfl)
        simp only [Act.put, List.setIfInBounds_toArray, List.set_cons_zero, List.set_cons_succ]
        refine AnyFrom.takeT (i := 3) (v := ?_) rfl (by kernel_rfl) (by kernel_rfl) (by kernel_rfl) (by kernel_rfl) (fun _ _ _ h => h) ⟨by rfl, ?_⟩ HS ?_
        rotate_left
        · first | (rintro w' rfl; go_simp; done) | (rintro w' rfl; go_simp; with_reducible rfl)
        simp only [Act.put, List.setIfInBounds_toArray, List.set_cons_zero, List.set_cons_succ]
        refine AnyFrom.takeT (i := 4) (v := ?_) rfl (by kernel_rfl) (by kernel_rfl) (by kernel_rfl) (by kernel_rfl) (fun _ _ _ h => h) ⟨by rfl, ?_⟩ HS ?_
        rotate_left
        · first | (rintro w' rfl; go_simp; done) | (rintro w' rfl; go_simp; with_reducible rfl)
        simp only [Act.put, List.setIfInBounds_toArray, List.set_cons_zero, List.set_cons_succ]
        refine AnyFrom.takeT (i := 5) (v := ?_) rfl (by kernel_rfl) (by kernel_rfl) (by kernel_rfl) (by kernel_rfl) (fun _ _ _ h => h) ⟨by rfl, ?_⟩ HS ?_
        rotate_left
        · first | (rintro w' rfl; go_simp; done) | (rintro w' rfl; go_simp; with_reducible rfl)
        simp only [Act.put, List.setIfInBounds_toArray, List.set_cons_zero, List.set_cons_succ]
        refine AnyFrom.takeT (i := 6) (v := ?_) rfl (by kernel_rfl) (by kernel_rfl) (by kernel_rfl) (by kernel_rfl) (fun _ _ _ h => h) ⟨by rfl, ?_⟩ HS ?_
        rotate_left
        · first | (rintro w' rfl; go_simp; done) | (rintro w' rfl; go_simp; with_reducible rfl)
        simp only [Act.put, List.setIfInBounds_toArray, List.set_cons_zero, List.set_cons_succ]
        refine AnyFrom.takeT (i := 7) (v := ?_) rfl (by kernel_rfl) (by kernel_rfl) (by kernel_rfl) (by kernel_rfl) (fun _ _ _ h => h) ⟨by rfl, ?_⟩ HS ?_
        rotate_left
        · first | (rintro w' rfl; go_simp; done) | (rintro w' rfl; go_simp; with_reducible rfl)
        simp only [Act.put, List.setIfInBounds_toArray, List.set_cons_zero, List.set_cons_succ]
        refine AnyFrom.takeT (i := 8) (v := ?_) rfl (by kernel_rfl) (by kernel_rfl) (by kernel_rfl) (by kernel_rfl) (fun _ _ _ h => h) ⟨by rfl, ?_⟩ HS ?_
        rotate_left
        · first | (rintro w' rfl; go_simp; done) | (rintro w' rfl; go_simp; with_reducible rfl)
        simp only [Act.put, List.setIfInBounds_toArray, List.set_cons_zero, List.set_cons_succ]
        refine AnyFrom.takeT (i := 9) (v := ?_) rfl (by kernel_rfl) (by kernel_rfl) (by kernel_rfl) (by kernel_rfl) (fun _ _ _ h => h) ⟨by rfl, ?_⟩ HS ?_
        rotate_left
        · first | (rintro w' rfl; go_simp; done) | (rintro w' rfl; go_simp; with_reducible rfl)
        simp only [Act.put, List.setIfInBounds_toArray, List.set_cons_zero, List.set_cons_succ]
        refine AnyFrom.takeT (i := 10) (v := ?_) rfl (by kernel_rfl) (by kernel_rfl) (by kernel_rfl) (by kernel_rfl) (fun _ _ _ h => h) ⟨by rfl, ?_⟩ HS ?_
        rotate_left
        · first | (rintro w' rfl; go_simp; done) | (rintro w' rfl; go_simp; with_reducible rfl)
        simp only [Act.put, List.setIfInBounds_toArray, List.set_cons_zero, List.set_cons_succ]
        refine AnyFrom.one (i := 11) (by kernel_rfl) (AnyFrom.op rfl (by rfl) fun K hK => ?_)
        go_simp
        refine hK _ _ (.inl ⟨11, by decide, by rfl⟩) ?_
        clear hK K
        try simp only [Act.put, List.setIfInBounds_toArray, List.set_cons_zero, List.set_cons_succ]
        refine AnyFrom.done (by kernel_rfl) ?_ _
        obtain ⟨L0', hv', hc3⟩ := hcC.setV hov hqlt h.regs[ic] hfit
        clear es mu c0 c1 c2 d0 d1 d2 hfr hgl hfr2 hgl2 hcC m5
        obtain ⟨ob4, oc4, nb4, nc4, hhr4, Lo4, Ln4, ho4, hrl4, hf4, hn4, m7, _, _, _, _⟩ := hc3.shape
        have m8 := m7.perm (perm_pt2 _ _ _ Lo4 Ln4 L0' L1 L2 Lr L)
        generalize (((W.setCell ⟨g, q * 3, none⟩ (.int .u8 h.regs[ic].kind)).setCell ⟨g, q * 3 + 1, none⟩ (.int .i64 h.regs[ic].n)).setCell ⟨g, q * 3 + 2, none⟩ (.string h.regs[ic].s)) = W5 at *
        go_wp2_with fail
        refine (unit_any m8).mono ?_
        rintro e w6 ⟨rfl, m9⟩
        have m9u := m9
        unfold DBox HBox at m9u
        have es := m9u.eqs
        simp only [EqsL] at es
        have ns := m9u.nes
        simp only [NeL, NeFrom] at ns
        unfold ValM.v unitV
        go_wp2_with fail
        refine bodyPost_ret (v := .tuple #[unitV.v, .int .i64 0]) (by simp [results, Try.results96, go_sem, es, ns]; rfl) rfl ?_
        rw [HDO.out]
        refine ⟨rfl, H, Hle.refl _, rs, .slice (some ⟨g', 0, none⟩) h.regs.length sc, L1 ++ (L0' ++ L2), Lr, HBK.out _ _ (by rw [htv]; simpa using hv'), hv, _, _, hhr4, Lo4, Ln4, by rw [hrl4]; exact ho4, hf4, hn4, ?_⟩
        simp only [List.append_assoc]
        refine MemB.done (ks := [w.heap.size + 1, w.heap.size]) ?_
        repeat (first | exact ⟨[_, _], rfl, m9⟩ | refine MemB.set (by simp) ?_)
    · have hE : h.slotE h.regs[ia] d.b = 11 := by unfold HeapM.slotE; rw [if_pos hk5]
      have hdo := HPUT.out
      rw [hE, if_pos (by decide)] at hdo
      have HDO := Lib.hid hdo; clear hdo hE
      go_wp2_with fail
      refine (slot_no b h ia d.b hia1 hr hv hc1 hk5).mono ?_
      rintro e w2 ⟨rfl, hc2⟩
      obtain ⟨ob3, oc3, nb3, nc3, hhr3, Lo3, Ln3, ho3, hrl3, hf3, hn3, m4, _, _, _, _⟩ := hc2.shape
      have m5 := m4.perm (perm_cp5 _ _ _ Lo3 Ln3 Ls Lr L)
      clear es m3u m4
      have mu := m5
      unfold DBox HBox at mu
      have es := mu.eqs
      simp only [EqsL] at es
      go_wp2_with fail
      refine (unit_any m5).mono ?_
      rintro e w3 ⟨rfl, m6⟩
      clear es mu
      have mu := m6
      unfold DBox HBox at mu
      have es := mu.eqs
      simp only [EqsL] at es
      have ns := mu.nes
      simp only [NeL, NeFrom] at ns
      unfold ValM.v unitV
      go_wp2_with fail
      refine bodyPost_ret (v := .tuple #[unitV.v, .int .i64 11]) (by simp [results, Try.results96, go_sem, es, ns]; rfl) rfl ?_
      rw [HDO.out]
      refine ⟨rfl, H, Hle.refl _, rs, _, Ls, Lr, hs, hv, _, _, hhr3, Lo3, Ln3, by rw [hrl3]; exact ho3, hf3, hn3, ?_⟩
      refine MemB.done (ks := [w.heap.size + 1, w.heap.size]) ?_
      repeat (first | exact ⟨[_, _], rfl, m6⟩ | refine MemB.set (by simp) ?_)
end Go.Proofs.Ythipkmmdjhpklaa
