/- The walks: Offer, Check, Send, Take. -/
import Derived.Test.YtpkcdkbbhiafnaaDoorGateF
import Derived.Test.YtpkcdkbbhiafnaaDoorPlayM
namespace Go.Proofs.YtpkcdkbbhiafnaaDoor
set_option linter.unusedVariables false
set_option linter.unusedSimpArgs false
open Go.RowKit

def OfferTk (g : GateM) (n : Int) (s : ByteArray) : Bool := decide (g.chk = 0) && (g.offer1 n s).1
def ChangedU (g : GateM) (r : Int × GateM) (tk : Bool) (bt : Nat) (w0 : World) (H : Hp) (L : List (Nat × Obj)) (e : Ending) (w' : World) : Prop :=
  ∃ f b c n H', e = .returned (.tuple #[.agg #[.int .i64 f, .slice b (g.with1 r).1.queue.length c, .int .i64 n], .int .i64 (g.with1 r).2]) ∧ Mem w0 H' ((bt, .cells #[.bool (decide (g.chk = 0) && tk)] 4) :: L) w' ∧ Hle H H' ∧
    GateV H' (.agg #[.int .i64 f, .slice b (g.with1 r).1.queue.length c, .int .i64 n]) (g.with1 r).1
theorem changedU_Offer (v : Value) (g : GateM) (r : Int × GateM) (tk : Bool) (bt : Nat) (caps : Array Value) {w0 w : World} {H : Hp} {L : List (Nat × Obj)} (m : Mem w0 H ((bt, .cells #[.bool false] 4) :: L) w) (hv : GateV H v g) (hb : I64 g.first ∧ I64 g.next)
    (hdo : g.chk = 0 → ∀ X b w1, GateOwn w0 H (X ++ (bt, .cells #[.bool false] 4) :: L) b g w1 → Calls Tryd.prog 37 (#[.pointer (some ⟨b, 0, none⟩)] ++ caps) w1 (DoR w0 H (X ++ (bt, .cells #[.bool tk] 4) :: L) b r)) :
    Calls Tryd.prog 32 #[v, .func (.func 37) #[] caps] w (ChangedU g r tk bt w0 H L) := by
  refine (changed_Offer v g r caps (L' := (bt, .cells #[.bool tk] 4) :: L) m hv hb hdo).mono ?_
  rintro e w1 ⟨f, b', c', n', H', rfl, m2, hle, hg⟩
  refine ⟨f, b', c', n', H', rfl, ?_, hle, hg⟩
  by_cases hk : g.chk = 0
  · rw [if_pos hk] at m2
    rw [decide_eq_true hk, Bool.true_and]
    exact m2
  · rw [if_neg hk] at m2
    rw [decide_eq_false hk, Bool.false_and]
    exact m2

def OfferR (w0 : World) (H : Hp) (L : List (Nat × Obj)) (r : GateM × Int) (tk : Bool) (e : Ending) (w' : World) : Prop :=
  ∃ f b c n H', e = .returned (.tuple #[.agg #[.int .i64 f, .slice b r.1.queue.length c, .int .i64 n], .bool tk, .int .i64 r.2]) ∧ Mem w0 H' L w' ∧ Hle H H' ∧ GateV H' (.agg #[.int .i64 f, .slice b r.1.queue.length c, .int .i64 n]) r.1

set_option maxHeartbeats 1000000 in
theorem Offer_any (v : Value) (g : GateM) (x : Int) (s : ByteArray) {w0 w : World} {H : Hp} {L : List (Nat × Obj)} (m : Mem w0 H L w) (hv : GateV H v g) (hb : I64 g.first ∧ I64 g.next) (hn : I64 x) (hs : s.size ≤ maxLen) :
    Calls Tryd.prog 21 #[v, .int .i64 x, .string s] w (OfferR w0 H L (g.with1 (g.offer1 x s).2) (OfferTk g x s)) := by
  obtain ⟨q, rfl, hq⟩ := hv
  have HQ := Lib.hid hq
  obtain ⟨qb, qc, rfl⟩ := GateV.slice hq
  clear hq
  go_enter Tryd.func21, Tryd.ntmps21
  go_wp2_with fail
  have m1 := ((((m.alloc (.cells #[.int .i64 g.first, .slice qb g.queue.length qc, .int .i64 g.next] 29)).alloc (.cells #[.int .i64 x] 3)).alloc (.cells #[.string s] 9)).alloc (.cells #[.int .i64 0, .slice none 0 0, .int .i64 0] 29)).alloc (.cells #[.bool false] 4)
  simp only [World.size_alloc] at m1
  refine (changedU_Offer _ g (g.offer1 x s).2 (g.offer1 x s).1 _ #[_, _, _] m1 ⟨_, rfl, HQ.out⟩ hb ?_).mono ?_
  · intro hk X b w1 hg
    exact Offer1_any b _ _ _ g x s hg (GateM.small_of hk) hn hs (by simp) (by simp) (LUpd.app .head X)
  rintro e w1 ⟨f, b', c', n', H', rfl, m2, hle, hg⟩
  have HG := Lib.hid hg; clear hg
  have es := m2.eqs; simp only [EqsL, and_true] at es
  go_wp2_with fail
  have m3 := ((m2.set (i := 0) (v := .int .i64 f) (.tail .head)).set (i := 1) (v := .slice b' (g.with1 (g.offer1 x s).2).1.queue.length c') (.tail .head)).set (i := 2) (v := .int .i64 n') (.tail .head)
  revert m3
  generalize (((w1.setCell _ _).setCell _ _).setCell _ _) = w2
  intro m3
  clear es
  simp only [List.setIfInBounds_toArray, List.set_cons_zero, List.set_cons_succ] at m3
  have es := m3.eqs; simp only [EqsL, and_true] at es
  go_region
  go_wp2_with fail
  refine bodyPost_ret (v := .tuple #[.agg #[.int .i64 f, .slice b' (g.with1 (g.offer1 x s).2).1.queue.length c', .int .i64 n'], .bool (OfferTk g x s), .int .i64 (g.with1 (g.offer1 x s).2).2]) (by simp [results, Tryd.results21, go_sem, es, OfferTk]) rfl ?_
  refine ⟨f, b', c', n', H', rfl, ?_, hle, HG.out⟩
  exact ((((m3.set (.tail .head)).set (.tail .head)).set (.tail .head)).set .head).drew.drop.drop.drop.drop.drop

theorem Check_any (v : Value) (g : GateM) {w0 w : World} {H : Hp} {L : List (Nat × Obj)} (m : Mem w0 H L w) (hv : GateV H v g) (hb : I64 g.first ∧ I64 g.next) :
    Calls Tryd.prog 24 #[v] w (Ret w0 H L (.int .i64 g.chk)) := by
  obtain ⟨q, rfl, hq⟩ := hv
  have HQ := Lib.hid hq
  obtain ⟨qb, qc, rfl⟩ := GateV.slice hq
  clear hq
  go_enter Tryd.func24, Tryd.ntmps24
  go_wp2_with fail
  have m1 := (m.alloc (.cells #[.int .i64 g.first, .slice qb g.queue.length qc, .int .i64 g.next] 29))
  refine (newGate_any _ g m1 ⟨_, rfl, HQ.out⟩ hb).mono ?_
  rintro e w1 (⟨hk, rfl, m2⟩ | ⟨hk, b, rfl, hg⟩)
  · go_wp2_with fail
    go_ret
    exact ⟨rfl, m2.drop⟩
  · have HK := Lib.hid hk; clear hk
    have HG := Lib.hid hg; clear hg
    go_wp2_with fail
    go_ret
    exact ⟨by rw [HK.out]; rfl, HG.out.mem.drop⟩

set_option maxHeartbeats 1000000 in
theorem Send_any (v : Value) (g : GateM) {w0 w : World} {H : Hp} {L : List (Nat × Obj)} (m : Mem w0 H L w) (hv : GateV H v g) (hb : I64 g.first ∧ I64 g.next) :
    Calls Tryd.prog 17 #[v] w (Ret w0 H L (.tuple #[.int .i64 g.send.1, .string g.send.2.1, .int .i64 g.send.2.2])) := by
  obtain ⟨q, rfl, hq⟩ := hv
  have HQ := Lib.hid hq
  obtain ⟨qb, qc, rfl⟩ := GateV.slice hq
  clear hq
  go_enter Tryd.func17, Tryd.ntmps17
  go_wp2_with fail
  have m1 := (m.alloc (.cells #[.int .i64 g.first, .slice qb g.queue.length qc, .int .i64 g.next] 29))
  refine (newGate_any _ g m1 ⟨_, rfl, HQ.out⟩ hb).mono ?_
  rintro e w1 (⟨hk, rfl, m2⟩ | ⟨hk, b, rfl, hg⟩)
  · have hk1 : (g.chk != 0) = true := by simpa using hk
    have HK := Lib.hid hk; clear hk
    go_wp2_with fail
    go_ret3
    have e1 : g.send = (0, ByteArray.empty, g.chk) := by unfold GateM.send; rw [if_pos HK.out]
    rw [e1]
    exact ⟨rfl, m2.drop⟩
  · have HK := Lib.hid hk; clear hk
    obtain ⟨qb', qc', L0, m3, hq1, hq2, _, froz⟩ := hg.opened
    have hq2 := size_le_maxLen hq2
    obtain ⟨H2, m4, hle, hsl⟩ := froz _ _ _ _ (Hle.refl _) m3
    clear froz hg m3
    have es := m4.eqs; simp only [EqsL, and_true] at es
    have e0 : g.queue = [] ∨ ∃ s t, g.queue = s :: t := by cases g.queue <;> simp
    rcases e0 with e0 | ⟨s, t, e0⟩
    · have e1 : g.send = (0, ByteArray.empty, 7) := by unfold GateM.send; rw [if_neg (by simpa using HK.out), e0]
      have hl : ((g.queue.length : Int) == 0) = true := by simp [e0]
      have E1 := Lib.hid e1; clear e1 e0
      go_wp2_with fail
      go_ret3
      rw [E1.out]
      exact ⟨rfl, (m4.weaken hle).drop.drop⟩
    · have e1 : g.send = (g.first, s, 0) := by unfold GateM.send; rw [if_neg (by simpa using HK.out), e0]
      have hl : ((g.queue.length : Int) == 0) = false := by simp [e0]; omega
      have hlt : 0 < g.queue.length := by simp [e0]
      have hlt1 : (0 : Int) < (g.queue.length : Int) := by omega
      obtain ⟨blk, off, rfl, hcell, _⟩ := hsl.cellV hlt
      have hcell := hcell.cell m4
      rw [show g.queue[0] = s by simp [e0], Nat.add_zero] at hcell
      have E1 := Lib.hid e1; clear e1 e0
      go_wp2_with fail
      go_quiet (fail)
      go_wp2_with fail
      go_ret3
      rw [E1.out]
      exact ⟨rfl, ((m4.weaken hle).drop.drop).drewN _⟩

/-- The outside at offset o of block b (whose cells are 'c q' if the list is q): its list owned. -/
def OutOwn (w0 : World) (H : Hp) (L : List (Nat × Obj)) (b : Nat) (c : Value → Array Value) (T : TypeId) (l : List ByteArray) (w : World) : Prop :=
  ∃ q cs, MemAcc w0 H ((b, .cells (c q) T (0, 0)) :: L) 9 1 q l.length cs w ∧ Chunks encStr H cs l

set_option maxHeartbeats 1000000 in
theorem take_any (b o : Nat) (c : Value → Array Value) (T : TypeId) (hget : ∀ q, (c q)[o]? = some q) (hset : ∀ q q', (c q).setIfInBounds o q' = c q') (l : List ByteArray) (n : Int) (s : ByteArray) {w0 w : World} {H : Hp} {L : List (Nat × Obj)} (h : OutOwn w0 H L b c T l w) (hl : l.length ≤ 1000000) (hs : s.size ≤ maxLen) (hn : I64 n) :
    Calls Tryd.prog 34 #[.pointer (some ⟨b, o, none⟩), .int .i64 n, .string s] w fun e w' => e = .returned (.int .i64 (takeM l n s).1) ∧ OutOwn w0 H L b c T (takeM l n s).2 w' := by
  have HO := Lib.hid h
  have HSET := Lib.hid hset; clear hset
  have HGET := Lib.hid hget; clear hget
  obtain ⟨q, cs, hacc, hch⟩ := h
  obtain ⟨qb, qc, rfl, hq1, hq2⟩ := hacc.shape
  have hq2 := size_le_maxLen hq2
  have hget := HGET.out (.slice qb l.length qc)
  have HA := Lib.hid hacc; clear hacc
  have HC := Lib.hid hch; clear hch
  obtain ⟨L0, m, back⟩ := HA.out.opened
  have BACK := Lib.hid back; clear back
  have es := m.eqs; simp only [EqsL, and_true] at es
  cases ht : isText s
  · have HT := Lib.hid ht; clear ht
    go_enter Tryd.func34, Tryd.ntmps34
    go_wp2_with (go_at_call 40; refine (isNoText_any _ hs _).mono ?_; rintro e w' ⟨rfl, rfl⟩; rw [HT.out])
    go_ret
    rw [show takeM l n s = (4, l) by unfold takeM; rw [if_pos HT.out]]
    exact ⟨rfl, HO.out⟩
  · have HT := Lib.hid ht; clear ht
    go_enter Tryd.func34, Tryd.ntmps34
    go_wp2_with (go_at_call 40; refine (isNoText_any _ hs _).mono ?_; rintro e w' ⟨rfl, rfl⟩; rw [HT.out])
    obtain ⟨H1, m1, hle, hsl⟩ := Mem.lit (E := encInt) (ys := [n]) (m.alloc (.cells #[.int .i64 n] 3)) (ints_chunks (xs := [n]) (by simpa using hn)) (by simp [maxLen])
    simp only [List.length_cons, List.length_nil, Nat.zero_add, Nat.reduceAdd] at hsl
    refine (within_any _ [n] 0 (l.length) m1 hsl).mono ?_
    rintro e w1 ⟨rfl, m2⟩
    have m2 := m2.weaken hle
    clear hsl hle m1 es
    rw [inAll_one]
    have HA2 := Lib.hid (BACK.out _ _ _ _ m2)
    have es := m2.eqs; simp only [EqsL, and_true] at es
    by_cases hr : 0 ≤ n ∧ n ≤ l.length
    · rw [decide_eq_true hr]
      by_cases hf : n = l.length
      · have hf1 : (n == l.length) = true := by simpa using hf
        have HF := Lib.hid hf; clear hf hr
        go_wp2_with (at_builtin; refine wpList_append_mem (w0 := w0) (H := H) (L := (w1.heap.size, .cells #[.string s] 9) :: (b, .cells (c (.slice qb l.length qc)) T) :: L) rfl _ _ 50 rfl 9 1 16 (.string ByteArray.empty) Tryd.underlying50 (by kernel_rfl) rfl (by decide) _ l.length cs ?hacc rfl _ 1 [.string s] ?hsrc rfl rfl ?h1 ?hb ?h63 ?_)
        case hacc => exact HA2.out.alloc (.cells #[.string s] 9)
        case hsrc => exact .inr ⟨_, _, rfl, cell_one_new _ _ _⟩
        case h1 => simp [Value.oneCell']
        case hb => omega
        case h63 => unfold maxLen; omega
        intro v' w' hacc
        obtain ⟨b', c', rfl, _, _⟩ := hacc.shape
        have HA3 := Lib.hid hacc.drop; clear hacc
        clear es
        have es := HA3.out.mem.eqs; simp only [EqsL, and_true] at es
        go_wp2_with fail
        go_ret
        rw [show takeM l n s = (0, l ++ [s]) by unfold takeM; rw [if_neg (by simp [HT.out]), if_neg (by have := HF.out; omega), if_pos HF.out]]
        refine ⟨rfl, .slice b' (l.length + 1) c', cs ++ [.string s], ?_, HC.out.append (.one ⟨rfl, hs⟩ rfl)⟩
        have := HA3.out.set (i := o) (u := .slice b' (l.length + 1) c') .head
        rw [HSET.out] at this
        simpa using this
      · have hf1 : (n == l.length) = false := by simpa using hf
        go_wp2_with fail
        go_ret
        rw [show takeM l n s = (0, l) by unfold takeM; rw [if_neg (by simp [HT.out]), if_neg (by omega), if_neg hf]]
        exact ⟨rfl, _, _, HA2.out, HC.out⟩
    · rw [decide_eq_false hr]
      have HR := Lib.hid hr; clear hr
      go_wp2_with fail
      go_ret
      rw [show takeM l n s = (3, l) by unfold takeM; rw [if_neg (by simp [HT.out]), if_pos (by have := HR.out; omega)]]
      exact ⟨rfl, _, _, HA2.out, HC.out⟩

/-- What Take gives: nil on an error. -/
def takeR (l : List ByteArray) (n : Int) (s : ByteArray) : List ByteArray × Int × Int :=
  if (takeM l n s).1 ≠ 0 then ([], 0, (takeM l n s).1) else ((takeM l n s).2, (takeM l n s).2.length, 0)
def TakeR (w0 : World) (H : Hp) (L : List (Nat × Obj)) (r : List ByteArray × Int × Int) (e : Ending) (w' : World) : Prop :=
  ∃ b c H', e = .returned (.tuple #[.slice b r.1.length c, .int .i64 r.2.1, .int .i64 r.2.2]) ∧ Mem w0 H' L w' ∧ Hle H H' ∧ SlR encStr H' (.slice b r.1.length c) r.1

set_option maxHeartbeats 1000000 in
theorem Take_any (v : Value) (l : List ByteArray) (n : Int) (s : ByteArray) {w0 w : World} {H : Hp} {L : List (Nat × Obj)} (m : Mem w0 H L w) (hv : SlR encStr H v l) (hl : l.length ≤ 1000000) (hs : s.size ≤ maxLen) (hn : I64 n) :
    Calls Tryd.prog 18 #[v, .int .i64 n, .string s] w (TakeR w0 H L (takeR l n s)) := by
  go_enter Tryd.func18, Tryd.ntmps18
  go_wp2_with fail
  refine (Clone_any v l m hv (by omega)).mono ?_
  rintro e w1 ⟨b, c, cs, rfl, hacc, hch⟩
  have HA := Lib.hid hacc; clear hacc
  have HC := Lib.hid hch; clear hch
  go_wp2_with fail
  have h1 := HA.out.alloc (.cells #[.slice b l.length c] 50)
  refine (take_any w1.heap.size 0 (fun q => #[q]) 50 (fun _ => rfl) (fun _ _ => rfl) l n s ⟨_, _, h1, HC.out⟩ hl hs hn).mono ?_
  rintro e w2 ⟨rfl, ho⟩
  by_cases hr : (takeM l n s).1 = 0
  · have hr1 : ((takeM l n s).1 != 0) = false := by simpa using hr
    have HR := Lib.hid hr; clear hr
    obtain ⟨q, cs', hacc, hch⟩ := ho
    obtain ⟨qb, qc, rfl, hq1, hq2⟩ := hacc.shape
    have hq2 := size_le_maxLen hq2
    obtain ⟨H2, m3, hle, hsl⟩ := hacc.done hch rfl rfl
    clear hacc hch
    have HS := Lib.hid hsl; clear hsl
    have es := m3.eqs; simp only [EqsL, and_true] at es
    go_wp2_with fail
    go_quiet (fail)
    go_wp2_with fail
    go_ret3
    rw [show takeR l n s = ((takeM l n s).2, ((takeM l n s).2.length : Int), 0) by unfold takeR; rw [if_neg (by simpa using HR.out)]]
    exact ⟨qb, qc, H2, rfl, m3.drop.drewN _, hle, HS.out⟩
  · have hr1 : ((takeM l n s).1 != 0) = true := by simpa using hr
    have HR := Lib.hid hr; clear hr
    have HO := Lib.hid ho; clear ho
    go_wp2_with fail
    go_ret3
    rw [show takeR l n s = ([], 0, (takeM l n s).1) by unfold takeR; rw [if_pos HR.out]]
    obtain ⟨q, cs', hacc, hch⟩ := HO.out
    exact ⟨none, 0, H, rfl, hacc.mem.drop, Hle.refl _, SlR.nil _ _⟩
end Go.Proofs.YtpkcdkbbhiafnaaDoor
