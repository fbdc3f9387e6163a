/- The walks of the laws' functions: ready, full. The walks of the laws' functions: the examples' deeds. -/
import Derived.Test.YthipkmmdjhpklaaK16
namespace Go.Proofs.Ythipkmmdjhpklaa
set_option linter.unusedVariables false
set_option linter.unusedSimpArgs false
open Go.RowKit

def readyM (size regs : Int) (ds : List DeedM) : Bool := thinD ds && decide (ds.length ≤ 80) && decide (0 ≤ size ∧ size ≤ 6000) && decide (1 ≤ regs ∧ regs ≤ 40)
abbrev PBox (size regs : Int) (dv : Value) : Obj := .cells #[.int .i64 size, .int .i64 regs, dv] 24
set_option maxRecDepth 10000 in
set_option maxHeartbeats 4000000 in
theorem ready_any (size regs : Int) (dv : Value) (ds : List DeedM) {w0 w : World} {H : Hp} {L : List (Nat × Obj)} (hd : SlR encDeed H dv ds) (m : Mem w0 H L w) :
    Calls Try.prog 20 #[.agg #[.int .i64 size, .int .i64 regs, dv]] w (Ret w0 H L (.bool (readyM size regs ds))) := by
  have HD := Lib.hid hd
  obtain ⟨lb, lc, rfl, _, hlc, _, _⟩ := hd
  have hlc := size_le_maxLen hlc
  have m1 := m.alloc (PBox size regs (.slice lb ds.length lc))
  have mu := m1
  have es := mu.eqs
  simp only [EqsL] at es
  go_enter Try.func20, Try.ntmps20
  go_wp2_with fail
  refine (thinDeeds_any _ ds HD.out m1).mono ?_
  rintro e w1 ⟨rfl, m2⟩
  clear es mu m1
  have es := m2.eqs
  simp only [EqsL] at es
  cases ht : thinD ds
  · have HT := Lib.hid ht; clear ht
    go_wp2_with fail
    go_ret
    exact ⟨by simp [readyM, HT.out], m2.drop⟩
  have HT := Lib.hid ht; clear ht
  by_cases h1 : ds.length ≤ 80
  · have h1I : (ds.length : Int) ≤ 80 := by omega
    have H1 := Lib.hid h1; clear h1
    go_wp2_with fail
    refine (In_any _ _ _ _).mono ?_
    rintro e w3 ⟨rfl, rfl⟩
    cases h2 : decide (0 ≤ size ∧ size ≤ 6000)
    · have H2 := Lib.hid h2; clear h2
      go_wp2_with fail
      go_ret
      exact ⟨by unfold readyM; rw [H2.out]; simp, m2.drop⟩
    have H2 := Lib.hid h2; clear h2
    go_wp2_with fail
    refine (In_any _ _ _ _).mono ?_
    rintro e w4 ⟨rfl, rfl⟩
    cases h3 : decide (1 ≤ regs ∧ regs ≤ 40)
    · have H3 := Lib.hid h3; clear h3
      go_wp2_with fail
      go_ret
      exact ⟨by unfold readyM; rw [H3.out]; simp, m2.drop⟩
    · have H3 := Lib.hid h3; clear h3
      go_wp2_with fail
      go_ret
      exact ⟨by unfold readyM; rw [HT.out, H2.out, H3.out, decide_eq_true H1.out]; rfl, m2.drop⟩
  · have h1I : ¬ (ds.length : Int) ≤ 80 := by omega
    have H1 := Lib.hid h1; clear h1
    go_wp2_with fail
    go_ret
    exact ⟨by unfold readyM; rw [decide_eq_false H1.out]; simp, m2.drop⟩
set_option maxRecDepth 10000 in
set_option maxHeartbeats 4000000 in
theorem full_any (x : ValM) (hx : x.fit) {w0 w : World} {H : Hp} {L : List (Nat × Obj)} (m : Mem w0 H L w) :
    Calls Try.prog 22 #[x.v] w (Ret w0 H L (.bool (decide (x = fullV)))) := by
  obtain ⟨xk, xn, xs⟩ := x
  have m1 := m.alloc (.cells #[.int .u8 xk, .int .i64 xn, .string xs] 50)
  clear hx
  unfold ValM.v
  go_enter Try.func22, Try.ntmps22
  go_wp2_with fail
  refine AnyFrom.start (fun w' => ∃ L', Mem w0 H ((w.heap.size, .cells #[.int .u8 xk, .int .i64 xn, .string xs] 50) :: L') w') 4 (by kernel_rfl) ?_
  have mW := m1.drew
  clear m1
  generalize (w.alloc (.cells #[.int .u8 xk, .int .i64 xn, .string xs] 50)).drew = W at *
  have HS : ∃ L', Mem w0 H ((w.heap.size, .cells #[.int .u8 xk, .int .i64 xn, .string xs] 50) :: L') W := ⟨_, mW⟩
  refine AnyFrom.take (i := 0) (v := ?_) rfl (by kernel_rfl) (by kernel_rfl) (by kernel_rfl) (by kernel_rfl) (fun _ _ _ h => h) ⟨by kernel_rfl, ?_⟩ HS ?_
  rotate_left
  · first | (rintro w' ⟨L', hm⟩; have es := hm.eqs; simp only [EqsL] at es; go_simp; done) | (rintro w' ⟨L', hm⟩; have es := hm.eqs; simp only [EqsL] at es; go_simp; with_reducible rfl)
  simp only [Act.put, List.setIfInBounds_toArray, List.set_cons_zero, List.set_cons_succ, List.getElem_toArray, List.getElem_cons_succ, List.getElem_cons_zero]
  refine AnyFrom.call (i := 1) (by kernel_rfl) rfl (by kernel_rfl) fun K hK => ?_
  go_simp
  refine (KInt_any (-8) mW).mono ?_
  rintro e w1 ⟨rfl, mA⟩
  refine hK _ _ (.inr ⟨_, mA⟩) ?_
  clear hK K HS
  unfold ValM.v intV
  try simp only [Act.put, List.setIfInBounds_toArray, List.set_cons_zero, List.set_cons_succ, List.getElem_toArray, List.getElem_cons_succ, List.getElem_cons_zero]
  have HS : ∃ L', Mem w0 H ((w.heap.size, .cells #[.int .u8 xk, .int .i64 xn, .string xs] 50) :: L') w1 := ⟨_, mA⟩
  refine AnyFrom.pure (i := 2) (v := .bool (decide ((⟨xk, xn, xs⟩ : ValM) = fullV))) rfl (by kernel_rfl) (by kernel_rfl) (by kernel_rfl) (by decide) (fun _ _ _ h => h) ⟨by kernel_rfl, ?_⟩ HS ?_
  · intro w'
    unfold fullV intV
    go_simp
    have e1 : ((xk : Int) = 1) ↔ xk = 1 := by omega
    by_cases a1 : xk = 1 <;> by_cases a2 : xn = -8 <;> by_cases a3 : xs = ByteArray.empty <;> simp [e1, a1, a2, a3, toList_nil, ValM.ext_iff']
  simp only [Act.put, List.setIfInBounds_toArray, List.set_cons_zero, List.set_cons_succ, List.getElem_toArray, List.getElem_cons_succ, List.getElem_cons_zero]
  refine AnyFrom.pure (i := 3) (v := ?_) rfl (by kernel_rfl) (by kernel_rfl) (by kernel_rfl) (by decide) (fun _ _ _ h => h) ⟨by kernel_rfl, ?_⟩ HS ?_
  rotate_left
  · first | (intro w'; go_simp; done) | (intro w'; go_simp; with_reducible rfl)
  simp only [Act.put, List.setIfInBounds_toArray, List.set_cons_zero, List.set_cons_succ, List.getElem_toArray, List.getElem_cons_succ, List.getElem_cons_zero]
  refine AnyFrom.done (by kernel_rfl) ?_ _
  go_wp2_with fail
  go_ret
  exact ⟨rfl, mA.drop⟩
end Go.Proofs.Ythipkmmdjhpklaa
namespace Go.Proofs.Ythipkmmdjhpklaa
set_option linter.unusedVariables false
set_option linter.unusedSimpArgs false
open Go.RowKit

def exA : ObjM := ⟨1, ⟨#[97]⟩, 0, []⟩
def exB : ObjM := ⟨1, ⟨#[98]⟩, 0, []⟩
def exZ : ObjM := ⟨0, ByteArray.empty, 0, []⟩
def exampleM : List DeedM := [⟨1, 0, 0, 0, [], exA, unitV⟩, ⟨1, 1, 0, 0, [0, 0], exB, unitV⟩, ⟨1, 0, 0, 0, [1], exA, unitV⟩, ⟨7, 0, 0, 0, [], exZ, unitV⟩, ⟨6, 0, 1, 0, [], exZ, unitV⟩]
def moreM : List DeedM := [⟨5, 1, 0, 0, [], exZ, unitV⟩, ⟨8, 0, 0, 0, [], exZ, unitV⟩, ⟨2, 1, 0, 0, [], exZ, unitV⟩, ⟨9, 1, 0, 0, [], exZ, unitV⟩, ⟨9, 5, 0, 0, [], exZ, unitV⟩]
def DeedsR (ds : List DeedM) (w0 : World) (H : Hp) (L : List (Nat × Obj)) (e : Ending) (w' : World) : Prop := ∃ H' v, e = .returned v ∧ Hle H H' ∧ SlR encDeed H' v ds ∧ Mem w0 H' L w'
theorem litDeed {H : Hp} (k : Nat) (a b c : Int) (l : List Int) (o : ObjM) (lv : Value) (hk : k < 256) (ha : I64 a) (hb : I64 b) (hc : I64 c) (hl : SlR encInt H lv l) (ho : o.fit) (hs : o.slots = []) : DeedR H ⟨k, a, b, c, l, o, unitV⟩ lv (.slice none 0 0) :=
  ⟨hk, ha, hb, hc, hl, ho, by simp only; rw [hs]; exact SlR.nil _ _, unitV_fit⟩
theorem I64_small {n : Int} (h : -100 ≤ n ∧ n ≤ 100) : I64 n := by unfold I64; omega
theorem exA_fit : exA.fit := ⟨by decide, I64_small (by decide), by decide⟩
theorem exB_fit : exB.fit := ⟨by decide, I64_small (by decide), by decide⟩
theorem exZ_fit : exZ.fit := ⟨by decide, I64_small (by decide), by decide⟩
theorem Chunks.deeds {H : Hp} {d : DeedM} {lv sv : Value} {cs : List Value} {ds : List DeedM} (h : DeedR H d lv sv) (hc : Chunks encDeed H cs ds) : Chunks encDeed H (d.cs lv sv ++ cs) (d :: ds) := .cons (E := encDeed) ⟨lv, sv, rfl, h⟩ rfl hc
set_option maxRecDepth 10000 in
set_option maxHeartbeats 4000000 in
theorem more_any {w0 w : World} {H : Hp} {L : List (Nat × Obj)} (m : Mem w0 H L w) :
    Calls Try.prog 43 #[] w (DeedsR moreM w0 H L) := by
  have hz : ∀ k a, k < 256 → (-100 ≤ a ∧ a ≤ (100 : Int)) → DeedR H ⟨k, a, 0, 0, [], exZ, unitV⟩ (.slice none 0 0) (.slice none 0 0) := fun k a hk ha => litDeed k a 0 0 [] exZ _ hk (I64_small ha) (I64_small (by decide)) (I64_small (by decide)) (SlR.nil _ _) exZ_fit rfl
  have hch := Chunks.deeds (hz 5 1 (by decide) (by decide)) (Chunks.deeds (hz 8 0 (by decide) (by decide)) (Chunks.deeds (hz 2 1 (by decide) (by decide)) (Chunks.deeds (hz 9 1 (by decide) (by decide)) (Chunks.deeds (hz 9 5 (by decide) (by decide)) .nil))))
  have HCH := Lib.hid hch; clear hch hz
  go_enter Try.func43, Try.ntmps43
  go_wp2_with fail
  go_ret
  obtain ⟨H', m1, hl, hs⟩ := (m.alloc _).lit HCH.out (by decide)
  exact ⟨H', _, rfl, hl, hs, m1⟩
theorem perm_ex1 {α : Type} (d i j b a : α) (L : List α) : (d :: i :: j :: b :: a :: L).Perm (i :: j :: d :: b :: a :: L) := (by classical exact List.perm_iff_count.2 (fun a => by simp only [List.count_append, List.count_cons, List.cons_append, List.nil_append, List.append_assoc]; omega))
def exCs (u v : Value) : List Value := DeedM.cs ⟨1, 0, 0, 0, [], exA, unitV⟩ (.slice none 0 0) (.slice none 0 0) ++ (DeedM.cs ⟨1, 1, 0, 0, [0, 0], exB, unitV⟩ u (.slice none 0 0) ++ (DeedM.cs ⟨1, 0, 0, 0, [1], exA, unitV⟩ v (.slice none 0 0) ++ (DeedM.cs ⟨7, 0, 0, 0, [], exZ, unitV⟩ (.slice none 0 0) (.slice none 0 0) ++ (DeedM.cs ⟨6, 0, 1, 0, [], exZ, unitV⟩ (.slice none 0 0) (.slice none 0 0) ++ []))))
theorem exCs_chunks (H' : Hp) (u v : Value) (hu : SlR encInt H' u [0, 0]) (hv : SlR encInt H' v [1]) : Chunks encDeed H' (exCs u v) exampleM :=
    Chunks.deeds (litDeed 1 0 0 0 [] exA _ (by decide) (I64_small (by decide)) (I64_small (by decide)) (I64_small (by decide)) (SlR.nil _ _) exA_fit rfl)
    (Chunks.deeds (litDeed 1 1 0 0 [0, 0] exB u (by decide) (I64_small (by decide)) (I64_small (by decide)) (I64_small (by decide)) hu exB_fit rfl)
    (Chunks.deeds (litDeed 1 0 0 0 [1] exA v (by decide) (I64_small (by decide)) (I64_small (by decide)) (I64_small (by decide)) hv exA_fit rfl)
    (Chunks.deeds (litDeed 7 0 0 0 [] exZ _ (by decide) (I64_small (by decide)) (I64_small (by decide)) (I64_small (by decide)) (SlR.nil _ _) exZ_fit rfl)
    (Chunks.deeds (litDeed 6 0 1 0 [] exZ _ (by decide) (I64_small (by decide)) (I64_small (by decide)) (I64_small (by decide)) (SlR.nil _ _) exZ_fit rfl) .nil))))
set_option maxRecDepth 10000 in
set_option maxHeartbeats 4000000 in
theorem example_any {w0 w : World} {H : Hp} {L : List (Nat × Obj)} (m : Mem w0 H L w) :
    Calls Try.prog 42 #[] w (DeedsR exampleM w0 H L) := by
  go_enter Try.func42, Try.ntmps42
  go_wp2_with fail
  go_ret
  have m5 := ((((m.alloc (.cells #[.int .u8 1, .string ⟨#[97]⟩, .int .i64 0, .slice none 0 0] 48)).alloc (.cells #[.int .u8 1, .string ⟨#[98]⟩, .int .i64 0, .slice none 0 0] 48)).alloc (.cells #[.int .i64 0, .int .i64 0] 3)).alloc (.cells #[.int .i64 1] 3)).alloc (.cells (exCs (.slice (some ⟨w.heap.size + 1 + 1, 0, none⟩) 2 2) (.slice (some ⟨w.heap.size + 1 + 1 + 1, 0, none⟩) 1 1)).toArray 52)
  simp only [World.size_alloc] at m5
  obtain ⟨H1, m6, hl1, hs1⟩ := Mem.ints (xs := [1]) (m5.perm (perm_ex1 _ _ _ _ _ _)) (by simp [I64]) (by decide)
  obtain ⟨H2, m7, hl2, hs2⟩ := Mem.ints (xs := [0, 0]) m6 (by simp [I64]) (by decide)
  obtain ⟨H3, m8, hl3, hs3⟩ := m7.lit (exCs_chunks _ _ _ hs2 (hs1.mono hl2)) (by decide)
  exact ⟨H3, _, rfl, (hl1.trans hl2).trans hl3, hs3, m8.drop.drop⟩
end Go.Proofs.Ythipkmmdjhpklaa
