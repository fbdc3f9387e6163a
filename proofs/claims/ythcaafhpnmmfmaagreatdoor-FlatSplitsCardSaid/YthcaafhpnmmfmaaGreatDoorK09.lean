/- Functions that the evaluator of closed calls knows: the sorted keys of a set of integers, two names made, two names split. No program in sight. The library contracts that the sorted keys of a set and Grow want, laid at this dump (printed by the kit's lay-plain). The walk: the sorted keys of a set of integers. What the evaluator knows of three functions of the program holds: the sorted keys of a set, two names made, two names split. A closed call in pieces (Fk): what there is between them. A closed call in pieces (Fk): the table. -/
import Derived.Test.YthcaafhpnmmfmaaGreatDoorK02
import Derived.Below
import Derived.Shelf.SlGeneric
import Derived.Shelf.SlIterI.Nil
import Derived.Shelf.SortM.Plain
import Derived.Shelf.SortM.SortNone
import Derived.Shelf.Spec.SlicesGrow
import Derived.Ground.GgzProg
import Derived.Ground.SlgmProg
import Derived.Ground.Names8Prog
import Derived.Test.YthcaafhpnmmfmaaGreatDoorProg
import Derived.Test.YthcaafhpnmmfmaaGreatDoorK03
import Derived.Test.YthcaafhpnmmfmaaGreatDoorK08
import Derived.Lib.SmallJoins
namespace Go.Proofs.YthcaafhpnmmfmaaGreatDoor
set_option linter.unusedVariables false
set_option linter.unusedSimpArgs false
open Go Go.RowKit
noncomputable section

def intA : AV → Option Int
  | .i .i64 (.ofNat n) => bif Nat.ble n 1000000 then some (.ofNat n) else none
  | _ => none
def insI (x : Int) : List Int → List Int
  | [] => [x]
  | y :: l => bif ile x y then x :: y :: l else y :: insI x l
def sortI : List Int → List Int
  | [] => []
  | x :: l => insI x (sortI l)
def sortX (e : TypeId) (s : St) : List Int → AV × St
  | [] => (.ns, s)
  | x :: l => (.sl s.nx 0 (x :: l).length (x :: l).length false 1, s.new (.cells e ((x :: l).map (AV.i .i64))))
def listX (e : TypeId) : List AV → St → Option (AV × St)
  | [.m b], s => match s.h.get b with
    | some (.map es) => match mapO (fun p : AV × AV => intA p.1) es with
      | some l => bif Nat.ble l.length 1000 then some (sortX e s (sortI l)) else none
      | none => none
    | _ => none
  | _, _ => none
def nameX : List AV → St → Option (AV × St)
  | [.s f, .i .i64 (.ofNat n)], s => bif beqL f [102] then (bif Nat.beq n 12 then some (.tup [.s [102, 35, 49, 50], .i .i64 (.ofNat 0)], s) else bif Nat.beq n 0 then some (.tup [.s [102, 35, 48], .i .i64 (.ofNat 0)], s) else none) else none
  | _, _ => none
def splitX : List AV → St → Option (AV × St)
  | [.s l], s => bif beqL l [102, 35, 48, 35, 49] then some (.tup [.s [102, 35, 48], .i .i64 (.ofNat 1), .i .i64 (.ofNat 0)], s) else bif beqL l [102, 35, 48, 48] then some (.tup [.s [], .i .i64 (.ofNat 0), .i .i64 (.ofNat 4)], s) else none
  | _, _ => none
def growX (e : TypeId) : List AV → St → Option (AV × St)
  | [.ns, .i .i64 (.ofNat n)], s => bif Nat.ble n 1000 then (bif Nat.beq n 0 then some (.ns, s) else some (.sl s.nx 0 0 n false 1, s.new (.cells e (repL [AV.i .i64 (.ofNat 0)] n)))) else none
  | _, _ => none
/-- Sorted by insertion: sorted, and a permutation. -/
theorem insI_perm (x : Int) : ∀ l : List Int, (insI x l).Perm (x :: l)
  | [] => .refl _
  | y :: l => by
    unfold insI
    cases ile x y with
    | true => exact .refl _
    | false => exact ((insI_perm x l).cons y).trans (.swap x y l)
theorem sortI_perm : ∀ l : List Int, (sortI l).Perm l
  | [] => .refl _
  | x :: l => (insI_perm x (sortI l)).trans ((sortI_perm l).cons x)
theorem insI_sorted (x : Int) : ∀ l : List Int, l.Pairwise (· ≤ ·) → (insI x l).Pairwise (· ≤ ·)
  | [], _ => by simp [insI]
  | y :: l, h => by
    obtain ⟨h1, h2⟩ := List.pairwise_cons.1 h
    unfold insI
    rw [ile_eq]
    by_cases e : x ≤ y
    · rw [decide_eq_true e, cond_true]
      refine List.pairwise_cons.2 ⟨fun z hz => ?_, h⟩
      rcases List.mem_cons.1 hz with rfl | hz
      · exact e
      · exact Int.le_trans e (h1 z hz)
    · rw [decide_eq_false e, cond_false]
      refine List.pairwise_cons.2 ⟨fun z hz => ?_, insI_sorted x l h2⟩
      rcases List.mem_cons.1 ((insI_perm x l).mem_iff.1 hz) with rfl | hz
      · omega
      · exact h1 z hz
theorem sortI_sorted : ∀ l : List Int, (sortI l).Pairwise (· ≤ ·)
  | [] => List.Pairwise.nil
  | x :: l => insI_sorted x _ (sortI_sorted l)
theorem intA_spec {x : AV} {n : Int} (h : intA x = some n) : x = .i .i64 n ∧ 0 ≤ n ∧ n ≤ 1000000 := by
  unfold intA at h
  split at h
  · rename_i m
    cases hb : Nat.ble m 1000000 with
    | false => rw [hb] at h; cases h
    | true =>
      rw [hb, cond_true] at h
      cases h
      have := nble_of hb
      exact ⟨rfl, Int.natCast_nonneg m, by show (m : Int) ≤ 1000000; omega⟩
  · cases h
theorem ints_spec : ∀ {es : List (AV × AV)} {l : List Int}, mapO (fun p : AV × AV => intA p.1) es = some l → es.map Prod.fst = l.map (AV.i .i64) ∧ ∀ n ∈ l, 0 ≤ n ∧ n ≤ 1000000
  | [], l, h => by cases h; exact ⟨rfl, fun n hn => by cases hn⟩
  | p :: es, l, h => by
    unfold mapO at h
    split at h
    · cases h
    · rename_i n hn
      split at h
      · cases h
      · rename_i l' hl
        cases h
        obtain ⟨e1, e2⟩ := intA_spec hn
        obtain ⟨e3, e4⟩ := ints_spec hl
        refine ⟨by rw [List.map_cons, List.map_cons, e1, e3], fun m hm => ?_⟩
        rcases List.mem_cons.1 hm with rfl | hm
        · exact e2
        · exact e4 m hm
section
variable {F : Nat → Option Obj} {R : Nat → Nat × Nat} {s : St} {w0 w w' : World}
/-- The world grows. -/
theorem HR.grow (h : HR F R s w0 w) (hb : Below w.heap.size w w') : HR F R s w0 w' := by
  obtain ⟨b1, b2, b3, b4, b5⟩ := hb
  refine ⟨b1.trans h.os, b2.trans h.tape, b3.trans h.output, fun k o hk => ?_, h.lt, fun b x hx => ?_, h.inj⟩
  · have := h.fr k o hk
    rw [b5 k (lt_of_heap this)]
    exact this
  · obtain ⟨g1, o, g2, g3⟩ := h.own b x hx
    exact ⟨g1, o, by rw [b5 _ (lt_of_heap g2)]; exact g2, g3⟩
/-- A block that the world has got is taken over. -/
theorem HR.adopt (h : HR F R s w0 w) (hb : Below w.heap.size w w') {g sz : Nat} {x : Blk} {o : Obj} (hg : w.heap.size ≤ g) (ho : w'.heap[g]? = some o) (hx : BR (fun b => if b = s.nx then (g, sz) else R b) (s.nx + 1) sz x o) :
    HR F (fun b => if b = s.nx then (g, sz) else R b) (s.new x) w0 w' := by
  have h' := h.grow hb
  have hE : Ext s.nx R (fun b => if b = s.nx then (g, sz) else R b) := fun b hb => if_neg (by omega)
  have hgt : ∀ b, (s.new x).h.get b = if b = s.nx then some x else s.h.get b := fun b => Tree.get_set _ _ _ _
  have hlt : ∀ b y, s.h.get b = some y → (R b).1 < w.heap.size := fun b y hy => by
    obtain ⟨_, o, g2, _⟩ := h.own b y hy
    exact lt_of_heap g2
  refine ⟨h'.os, h'.tape, h'.output, h'.fr, fun b hb' => ?_, fun b y hy => ?_, fun b c hb' hc' e => ?_⟩
  · rw [hgt] at hb'
    show b < s.nx + 1
    by_cases e : b = s.nx
    · omega
    · rw [if_neg e] at hb'; have := h.lt b hb'; omega
  · rw [hgt] at hy
    by_cases e : b = s.nx
    · subst e
      rw [if_pos rfl] at hy
      cases hy
      simp only [if_true]
      refine ⟨?_, o, ho, hx⟩
      cases hk : F g with
      | none => rfl
      | some o' => have := lt_of_heap (h.fr g o' hk); omega
    · rw [if_neg e] at hy
      simp only [if_neg e]
      obtain ⟨h1, o', h2, h3⟩ := h'.own b y hy
      exact ⟨h1, o', h2, BR.mono h3 (Nat.le_succ _) hE⟩
  · rw [hgt] at hb' hc'
    have key : ∀ d, (if d = s.nx then some x else s.h.get d) ≠ none → d ≠ s.nx → (R d).1 < w.heap.size := fun d hd hne => by
      rw [if_neg hne] at hd
      cases hy : s.h.get d with
      | none => exact absurd hy hd
      | some y => exact hlt d y hy
    by_cases eb : b = s.nx
    · by_cases ec : c = s.nx
      · rw [eb, ec]
      · have := key c hc' ec
        simp only [if_pos eb, if_neg ec] at e
        omega
    · have hb2 := key b hb' eb
      by_cases ec : c = s.nx
      · simp only [if_neg eb, if_pos ec] at e
        omega
      · rw [if_neg eb] at hb'
        rw [if_neg ec] at hc'
        simp only [if_neg eb, if_neg ec] at e
        exact h.inj b c hb' hc' e
end
end
end Go.Proofs.YthcaafhpnmmfmaaGreatDoor
namespace Go.Proofs
open Go.Shelf
def Tryz.keysZ_ren : Go.Shelf.Ren := ⟨fun | 7 => 78 | 10 => 106 | n => n, fun | 23 => 74 | 26 => 3 | 3 => 4 | 28 => 138 | 0 => 0 | 27 => 137 | 33 => 109 | 4 => 4 | n => n, fun | n => n⟩
theorem Tryz.keysZ : Go.Proofs.SlLaysZI.n7 Tryz.prog Tryz.keysZ_ren := {
  mixed := by kernel_rfl
  f7 := ⟨Tryz.f78.name, by decide, Tryz.func78.trans (congrArg some (by kernel_rfl))⟩
  f10 := ⟨Tryz.f106.name, by decide, Tryz.func106.trans (congrArg some (by kernel_rfl))⟩
  t0 := Tryz.underlying0
  a0 := Tryz.isAgg0
  z0 := Tryz.sizeOf0
  v0 := Tryz.zeroValue0
  t4 := Tryz.underlying4
  a4 := Tryz.isAgg4
  z4 := Tryz.sizeOf4
  v4 := Tryz.zeroValue4
  t23 := Tryz.underlying74
  a23 := Tryz.isAgg74
  z23 := Tryz.sizeOf74
  v23 := Tryz.zeroValue74
  t26 := Tryz.underlying3
  a26 := Tryz.isAgg3
  z26 := Tryz.sizeOf3
  v26 := Tryz.zeroValue3
  t27 := Tryz.underlying137
  a27 := Tryz.isAgg137
  z27 := Tryz.sizeOf137
  v27 := Tryz.zeroValue137
  t28 := Tryz.underlying138
  a28 := Tryz.isAgg138
  z28 := Tryz.sizeOf138
  v28 := Tryz.zeroValue138
  t33 := Tryz.underlying109
  a33 := Tryz.isAgg109
  z33 := Tryz.sizeOf109
  v33 := Tryz.zeroValue109 }
def Tryz.sortedZ_ren : Go.Shelf.Ren := ⟨fun | 6 => 77 | 8 => 104 | 9 => 105 | 11 => 143 | 13 => 145 | 12 => 144 | 23 => 176 | 24 => 137 | 14 => 167 | 15 => 168 | 16 => 169 | 17 => 170 | 18 => 171 | 19 => 172 | 20 => 173 | 21 => 174 | 22 => 175 | 25 => 192 | 26 => 193 | 27 => 194 | 28 => 195 | 29 => 196 | 30 => 197 | 31 => 214 | n => n, fun | 26 => 3 | 28 => 138 | 24 => 41 | 0 => 0 | 3 => 3 | 37 => 169 | 48 => 122 | 50 => 163 | 4 => 4 | 40 => 217 | 39 => 216 | 45 => 222 | 5 => 5 | 9 => 9 | 51 => 233 | 55 => 237 | 57 => 249 | 58 => 250 | 33 => 109 | n => n, fun | n => n⟩
theorem Tryz.sortedZ : Go.Proofs.SlLaysZI.n6 Tryz.prog Tryz.sortedZ_ren := {
  mixed := by kernel_rfl
  f6 := ⟨Tryz.f77.name, by decide, Tryz.func77.trans (congrArg some (by kernel_rfl))⟩
  f8 := ⟨Tryz.f104.name, by decide, Tryz.func104.trans (congrArg some (by kernel_rfl))⟩
  f11 := ⟨Tryz.f143.name, by decide, Tryz.func143.trans (congrArg some (by kernel_rfl))⟩
  t0 := Tryz.underlying0
  a0 := Tryz.isAgg0
  z0 := Tryz.sizeOf0
  v0 := Tryz.zeroValue0
  t24 := Tryz.underlying41
  a24 := Tryz.isAgg41
  z24 := Tryz.sizeOf41
  v24 := Tryz.zeroValue41
  t26 := Tryz.underlying3
  a26 := Tryz.isAgg3
  z26 := Tryz.sizeOf3
  v26 := Tryz.zeroValue3
  t28 := Tryz.underlying138
  a28 := Tryz.isAgg138
  z28 := Tryz.sizeOf138
  v28 := Tryz.zeroValue138
  i26 := by kernel_rfl }
def Tryz.sortZ_ren : Go.Shelf.Ren := ⟨fun | 5 => 105 | 8 => 145 | 7 => 144 | 19 => 176 | 20 => 137 | 10 => 167 | 11 => 168 | 12 => 169 | 13 => 170 | 14 => 171 | 15 => 172 | 16 => 173 | 17 => 174 | 18 => 175 | 30 => 192 | 31 => 193 | 32 => 194 | 33 => 195 | 34 => 196 | 35 => 197 | 40 => 214 | n => n, fun | 23 => 41 | 25 => 3 | 3 => 3 | 32 => 169 | 22 => 41 | 0 => 0 | 44 => 122 | 46 => 163 | 4 => 4 | 36 => 217 | 35 => 216 | 41 => 222 | 5 => 5 | 9 => 9 | 53 => 233 | 57 => 237 | 63 => 249 | 64 => 250 | n => n, fun | n => n⟩
theorem Tryz.sortZ : Go.Proofs.SlLaysM.n5 Tryz.prog Tryz.sortZ_ren := {
  mixed := by kernel_rfl
  f5 := ⟨Tryz.f105.name, by decide, Tryz.func105.trans (congrArg some (by kernel_rfl))⟩
  f7 := ⟨Tryz.f144.name, by decide, Tryz.func144.trans (congrArg some (by kernel_rfl))⟩
  f8 := Tryz.func145.trans (congrArg some (by kernel_rfl))
  f10 := ⟨Tryz.f167.name, by decide, Tryz.func167.trans (congrArg some (by kernel_rfl))⟩
  f11 := ⟨Tryz.f168.name, by decide, Tryz.func168.trans (congrArg some (by kernel_rfl))⟩
  f12 := ⟨Tryz.f169.name, by decide, Tryz.func169.trans (congrArg some (by kernel_rfl))⟩
  f13 := ⟨Tryz.f170.name, by decide, Tryz.func170.trans (congrArg some (by kernel_rfl))⟩
  f14 := ⟨Tryz.f171.name, by decide, Tryz.func171.trans (congrArg some (by kernel_rfl))⟩
  f15 := ⟨Tryz.f172.name, by decide, Tryz.func172.trans (congrArg some (by kernel_rfl))⟩
  f16 := ⟨Tryz.f173.name, by decide, Tryz.func173.trans (congrArg some (by kernel_rfl))⟩
  f17 := ⟨Tryz.f174.name, by decide, Tryz.func174.trans (congrArg some (by kernel_rfl))⟩
  f18 := ⟨Tryz.f175.name, by decide, Tryz.func175.trans (congrArg some (by kernel_rfl))⟩
  f19 := Tryz.func176.trans (congrArg some (by kernel_rfl))
  f20 := Tryz.func137.trans (congrArg some (by kernel_rfl))
  f30 := ⟨Tryz.f192.name, by decide, Tryz.func192.trans (congrArg some (by kernel_rfl))⟩
  f31 := Tryz.func193.trans (congrArg some (by kernel_rfl))
  f32 := Tryz.func194.trans (congrArg some (by kernel_rfl))
  f33 := ⟨Tryz.f195.name, by decide, Tryz.func195.trans (congrArg some (by kernel_rfl))⟩
  f34 := ⟨Tryz.f196.name, by decide, Tryz.func196.trans (congrArg some (by kernel_rfl))⟩
  f35 := ⟨Tryz.f197.name, by decide, Tryz.func197.trans (congrArg some (by kernel_rfl))⟩
  f40 := ⟨Tryz.f214.name, by decide, Tryz.func214.trans (congrArg some (by kernel_rfl))⟩
  t0 := Tryz.underlying0
  a0 := Tryz.isAgg0
  z0 := Tryz.sizeOf0
  v0 := Tryz.zeroValue0
  t3 := Tryz.underlying3
  a3 := Tryz.isAgg3
  z3 := Tryz.sizeOf3
  v3 := Tryz.zeroValue3
  t4 := Tryz.underlying4
  a4 := Tryz.isAgg4
  z4 := Tryz.sizeOf4
  v4 := Tryz.zeroValue4
  t5 := Tryz.underlying5
  a5 := Tryz.isAgg5
  z5 := Tryz.sizeOf5
  v5 := Tryz.zeroValue5
  t9 := Tryz.underlying9
  a9 := Tryz.isAgg9
  z9 := Tryz.sizeOf9
  v9 := Tryz.zeroValue9
  t22 := Tryz.underlying41
  a22 := Tryz.isAgg41
  z22 := Tryz.sizeOf41
  v22 := Tryz.zeroValue41
  t23 := Tryz.underlying41
  a23 := Tryz.isAgg41
  z23 := Tryz.sizeOf41
  v23 := Tryz.zeroValue41
  t25 := Tryz.underlying3
  a25 := Tryz.isAgg3
  z25 := Tryz.sizeOf3
  v25 := Tryz.zeroValue3
  t32 := Tryz.underlying169
  a32 := Tryz.isAgg169
  z32 := Tryz.sizeOf169
  v32 := Tryz.zeroValue169
  t35 := Tryz.underlying216
  a35 := Tryz.isAgg216
  z35 := Tryz.sizeOf216
  v35 := Tryz.zeroValue216
  t36 := Tryz.underlying217
  a36 := Tryz.isAgg217
  z36 := Tryz.sizeOf217
  v36 := Tryz.zeroValue217
  t41 := Tryz.underlying222
  a41 := Tryz.isAgg222
  z41 := Tryz.sizeOf222
  v41 := Tryz.zeroValue222
  t44 := Tryz.underlying122
  a44 := Tryz.isAgg122
  z44 := Tryz.sizeOf122
  v44 := Tryz.zeroValue122
  t46 := Tryz.underlying163
  a46 := Tryz.isAgg163
  z46 := Tryz.sizeOf163
  v46 := Tryz.zeroValue163
  t53 := Tryz.underlying233
  a53 := Tryz.isAgg233
  z53 := Tryz.sizeOf233
  v53 := Tryz.zeroValue233
  t57 := Tryz.underlying237
  a57 := Tryz.isAgg237
  z57 := Tryz.sizeOf237
  v57 := Tryz.zeroValue237
  t63 := Tryz.underlying249
  a63 := Tryz.isAgg249
  z63 := Tryz.sizeOf249
  v63 := Tryz.zeroValue249
  t64 := Tryz.underlying250
  a64 := Tryz.isAgg250
  z64 := Tryz.sizeOf250
  v64 := Tryz.zeroValue250 }
def Tryz.growZ_ren : Go.Shelf.Ren := ⟨fun | 4 => 72 | n => n, fun | 22 => 41 | 25 => 3 | 3 => 3 | 4 => 4 | 9 => 9 | 20 => 20 | 0 => 0 | n => n, fun | n => n⟩
theorem Tryz.growZ : Go.Proofs.Lays8.n4 Tryz.prog Tryz.growZ_ren := {
  mixed := by kernel_rfl
  f4 := ⟨Tryz.f72.name, by decide, Tryz.func72.trans (congrArg some (by kernel_rfl))⟩
  t0 := Tryz.underlying0
  a0 := Tryz.isAgg0
  z0 := Tryz.sizeOf0
  v0 := Tryz.zeroValue0
  t3 := Tryz.underlying3
  a3 := Tryz.isAgg3
  z3 := Tryz.sizeOf3
  v3 := Tryz.zeroValue3
  t4 := Tryz.underlying4
  a4 := Tryz.isAgg4
  z4 := Tryz.sizeOf4
  v4 := Tryz.zeroValue4
  t9 := Tryz.underlying9
  a9 := Tryz.isAgg9
  z9 := Tryz.sizeOf9
  v9 := Tryz.zeroValue9
  t20 := Tryz.underlying20
  a20 := Tryz.isAgg20
  z20 := Tryz.sizeOf20
  v20 := Tryz.zeroValue20
  t22 := Tryz.underlying41
  a22 := Tryz.isAgg41
  z22 := Tryz.sizeOf41
  v22 := Tryz.zeroValue41 }
end Go.Proofs
namespace Go.Proofs.YthcaafhpnmmfmaaGreatDoor
set_option linter.unusedVariables false
set_option linter.unusedSimpArgs false
open Go Go.RowKit Go.Maps Go.Sort Go.Shelf

/-- slices.Sort's two contracts at this dump. -/
theorem sortsZ (m : Nat) : AnyZI.SortsIn Tryz.prog Tryz.sortedZ_ren Fence.wide m :=
  ⟨fun blk off cap ss W hH hblk hsz => callsIn_wide.2 (AnyM.slices_Sort_int Tryz.sortZ blk off cap ss W hH hblk hsz),
   fun p cap W => callsIn_wide.2 (AnyM.slices_Sort_int_none Tryz.sortZ p cap W)⟩
set_option maxHeartbeats 1000000 in
theorem list_own {H : Type} (b nn : Nat) (D0 : DataW H) (R : Value → Option (DataW H × List MemPlace)) (w : World) (hown : w.ownsMap Tryz.prog 3 R b nn D0) (hmax : Maps.size D0 ≤ maxLen) (hbytes : Maps.size D0 * 8 ≤ 140737488355328) :
    Calls Tryz.prog 54 #[.map (some b)] w fun e w' => ∃ (v : Value) (ss : List Int), e = .returned v ∧ ss.Perm (intKeys D0) ∧
      w'.ownsRow w.heap.size 3 1 v ss.length ((ss.mergeSort (fun x y => decide (x ≤ y))).map encZ) ∧ (v = .slice none 0 0 ↔ ss = []) ∧ Below w.heap.size w w' := by
  refine (callsIn_wide (n := 6)).1 ?_
  have hbl := hown.lt
  have hseq : SeqGives Fence.wide 2 Tryz.prog 106 #[.pointer (some ⟨w.heap.size, 0, none⟩)] encZ (fun ss => ss.Perm (intKeys D0)) (Maps.size D0) (w.alloc (.cells #[.map (some b)] 74)) :=
    AnyZI.keys_gives (ρ := Tryz.keysZ_ren) { Tryz.keysZ with } Fence.wide _ trivial rfl (by omega) w.heap.size b nn D0 _ (by simp) (by simp) (by
      obtain ⟨es, clock, hb, Ft, hs, hD⟩ := hown
      exact ⟨es, clock, (Below.heap_alloc _ _ b hbl).trans hb, Ft, hs, hD⟩)
  have cK : ∀ mb W, CallsIn Fence.wide 5 Tryz.prog 78 #[.map mb] W fun e w' => e = .returned (.func (.func 106) #[] #[.pointer (some ⟨W.heap.size, 0, none⟩)]) ∧ w' = W.alloc (.cells #[.map mb] 74) := fun mb W => AnyZI.keys_in Tryz.keysZ Fence.wide 5 trivial rfl mb W
  have cS := AnyZI.sorted_in Tryz.sortedZ Fence.wide 5 trivial trivial trivial trivial rfl (by omega) (sortsZ _) (enters_of Tryz.func105 (by kernel_rfl) rfl) 106 #[.pointer (some ⟨w.heap.size, 0, none⟩)] trivial (enters_of Tryz.func106 (by kernel_rfl) rfl) _ _ hmax hbytes _ hseq
  change CallsIn _ _ Tryz.prog 77 _ _ _ at cS
  have hfK : Fence.wide.fn 78 := trivial
  have hfS : Fence.wide.fn 77 := trivial
  refine callsIn_of_wp Tryz.func54 rfl trivial ?_ rfl
  simp only [Tryz.ntmps54, List.size_toArray, List.length_cons, List.length_nil, Nat.reduceAdd, Nat.reduceSub, Array.replicate_succ, Array.replicate_zero, List.push_toArray, List.append_toArray, List.nil_append, List.cons_append]
  gi_wp2_with (first
    | (gi_at_call 78; refine (cK _ _).mono ?_; rintro e w' ⟨rfl, rfl⟩)
    | (gi_at_call 77; refine cS.mono ?_; rintro e w' ⟨v, ss, rfl, hS, hrow, hnil, hb⟩))
  go_ret
  exact ⟨v, ss, rfl, hS, ownsRow_base_a hrow (by simp), hnil, ((Below.refl _ w).alloc (Nat.le_refl _) _).trans (hb.mono (by simp))⟩
end Go.Proofs.YthcaafhpnmmfmaaGreatDoor
namespace Go.Proofs.YthcaafhpnmmfmaaGreatDoor
set_option linter.unusedVariables false
set_option linter.unusedSimpArgs false
open Go Go.RowKit Go.Maps Go.Lib
open Go.WideShapes (sorted_perm)

theorem sort_eq {ss l : List Int} (h : ss.Perm l) : ss.mergeSort (fun x y => decide (x ≤ y)) = sortI l := by
  have h1 : (ss.mergeSort (fun x y => decide (x ≤ y))).Pairwise (fun a b => a ≤ b) := by
    have := List.pairwise_mergeSort (le := fun x y : Int => decide (x ≤ y)) (fun a b c h1 h2 => by simp only [decide_eq_true_eq] at *; exact Int.le_trans h1 h2) (fun a b => by simp only [Bool.or_eq_true, decide_eq_true_eq]; exact Int.le_total a b) ss
    exact this.imp fun h => by simpa using h
  refine List.Perm.eq_of_pairwise (le := fun a b => a ≤ b) (fun a b _ _ h1 h2 => Int.le_antisymm h1 h2) h1 (sortI_sorted l) ?_
  exact ((List.mergeSort_perm ss _).trans h).trans (sortI_perm l).symm
def avI : AV → Int
  | .i _ n => n
  | _ => 0
theorem perm_ints {xs : List AV} {l : List Int} (h : xs.Perm (l.map (AV.i .i64))) : ∃ l1 : List Int, xs = l1.map (AV.i .i64) ∧ l1.Perm l := by
  refine ⟨xs.map avI, ?_, ?_⟩
  · rw [List.map_map]
    conv => lhs; rw [← List.map_id xs]
    refine List.map_congr_left fun x hx => ?_
    obtain ⟨n, _, rfl⟩ := List.mem_map.1 (h.mem_iff.1 hx)
    rfl
  · have h2 := h.map avI
    rw [List.map_map] at h2
    have e : l.map (avI ∘ AV.i .i64) = l := by
      conv => rhs; rw [← List.map_id l]
      exact List.map_congr_left fun n _ => rfl
    rwa [e] at h2
theorem vrl_ints {R : Nat → Nat × Nat} {n : Nat} : ∀ {l : List Int} {vs : List Value}, VRL R n (l.map (AV.i .i64)) vs → vs = l.map encZ
  | [], vs, h => by simp only [List.map_nil, VRL] at h; exact h
  | x :: l, vs, h => by
    simp only [List.map_cons, VRL, VR] at h
    obtain ⟨u, us, rfl, rfl, h2⟩ := h
    rw [vrl_ints h2]
    rfl
theorem vrl_of_ints {R : Nat → Nat × Nat} {n : Nat} : ∀ l : List Int, VRL R n (l.map (AV.i .i64)) (l.map encZ)
  | [] => by simp [VRL]
  | x :: l => by
    simp only [List.map_cons, VRL, VR]
    exact ⟨_, _, rfl, rfl, vrl_of_ints l⟩
theorem dist_nodup {l : List Int} (h : (l.map (AV.i .i64)).Pairwise fun a b => eqA1 a b = some false) : l.Nodup := by
  rw [List.pairwise_map] at h
  refine h.imp fun {a b} hab e => ?_
  subst e
  have : eqA1 (AV.i .i64 a) (AV.i .i64 a) = some true := by
    show (bif decide (IntKind.i64 = IntKind.i64) then some (ieq a a) else none) = _
    rw [decide_eq_true rfl, cond_true, ieq_eq, decide_eq_true rfl]
  rw [this] at hab
  cases hab
/-- How the values of a set are read: not at all. -/
def noR : Value → Option (DataW Unit × List MemPlace) := fun _ => some (.nil, [])
theorem list_ext : ExtOK Tryz.prog ⟨54, listX 3⟩ := by
  refine ⟨enters_of Tryz.func54 (by kernel_rfl) rfl, fun fr R s w0 w xs vs r s' h hr hxs => ?_⟩
  change listX 3 xs s = some (r, s') at h
  unfold listX at h
  split at h <;> try (cases h; done)
  rename_i s0 b
  split at h <;> try (cases h; done)
  rename_i es hes
  split at h <;> try (cases h; done)
  rename_i l hl
  cases hb : Nat.ble l.length 1000 with
  | false => rw [hb] at h; cases h
  | true =>
  rw [hb, cond_true] at h
  have hlen := nble_of hb
  simp only [VRL, VR] at hxs
  obtain ⟨u, us, hvs, ⟨hbn, rfl⟩, rfl⟩ := hxs
  obtain ⟨vs⟩ := vs
  simp only at hvs
  subst hvs
  obtain ⟨mes, cl, es1, h1, hp, hd, h2, h3, hborn⟩ := hr.map hes
  obtain ⟨hk, hrange⟩ := ints_spec hl
  unfold Dist at hd
  rw [hk] at hd
  have hp1 := hp.map Prod.fst
  rw [hk] at hp1
  obtain ⟨l1, e1, hl1⟩ := perm_ints hp1
  rw [e1] at h2
  have hkeys := vrl_ints h2
  have hnd : l1.Nodup := hl1.nodup_iff.2 (dist_nodup hd)
  have hsz : mes.size = l1.length := by
    have := congrArg List.length hkeys
    simpa using this
  have hl1len := hl1.length_eq
  have hkey : ∀ x ∈ mes.toList, ∃ n : Int, x.key = encZ n ∧ 0 ≤ n ∧ n ≤ 1000000 := fun x hx => by
    have : x.key ∈ l1.map encZ := by rw [← hkeys]; exact List.mem_map_of_mem hx
    obtain ⟨n, hn, e⟩ := List.mem_map.1 this
    exact ⟨n, e.symm, hrange n (hl1.mem_iff.1 hn)⟩
  have hkeyOf : ∀ n : Int, 0 ≤ n → n ≤ 1000000 → keyOf Tryz.prog 3 (encZ n) = some (.int .i64 n) := fun n a b => by
    have hw : (Lit.int .i64 n).wf = true := by
      have e1 : IntKind.i64.min = -9223372036854775808 := by decide
      have e2 : IntKind.i64.max = 9223372036854775807 := by decide
      simp only [Lit.wf, e1, e2, Bool.and_eq_true, decide_eq_true_eq]
      omega
    unfold keyOf
    rw [Tryz.underlying3]
    simp [mapKey, Tryz.underlying3, hw]
  have hrd : ∀ x ∈ mes.toList, ∃ n : Int, x.key = encZ n ∧ WideElems.rd Tryz.prog 3 noR x = some (.int .i64 n, .nil) := fun x hx => by
    obtain ⟨n, e, a, b⟩ := hkey x hx
    refine ⟨n, e, ?_⟩
    unfold WideElems.rd
    rw [e, hkeyOf n a b]
    rfl
  have hfit : WideElems.Fit Tryz.prog 3 noR mes cl := ⟨by unfold maxLen; omega, ⟨hborn.1, hborn.2, by
    rw [hkeys]
    exact List.pairwise_map.2 (hnd.imp fun h e => h (encZ_inj e))⟩, fun x hx => by
    obtain ⟨n, _, e⟩ := hrd x hx
    exact ⟨_, e⟩⟩
  have hown : w.ownsMap Tryz.prog 3 noR (R b).1 mes.size (.map ((mes.toList.map (WideElems.rg Tryz.prog 3 noR)).foldr DataW.insert [])) := ⟨mes, cl, h1, hfit, Nat.le_refl _, rfl⟩
  have hmsz : Maps.size (DataW.map ((mes.toList.map (WideElems.rg Tryz.prog 3 noR)).foldr DataW.insert [])) = mes.size := by
    show ((mes.toList.map (WideElems.rg Tryz.prog 3 noR)).foldr DataW.insert []).length = _
    rw [length_sorted]
    simp
  have hik : (intKeys (DataW.map ((mes.toList.map (WideElems.rg Tryz.prog 3 noR)).foldr DataW.insert []))).Perm l1 := by
    show (((mes.toList.map (WideElems.rg Tryz.prog 3 noR)).foldr DataW.insert []).map fun p => Go.intOf p.1).Perm l1
    refine ((sorted_perm _).map _).trans ?_
    rw [List.map_map]
    have : mes.toList.map ((fun p : Lit × DataW Unit => Go.intOf p.1) ∘ WideElems.rg Tryz.prog 3 noR) = l1 := by
      have e2 : (mes.toList.map (·.key)).map (fun v => match v with | .int _ n => n | _ => 0) = l1 := by
        rw [hkeys, List.map_map]
        conv => rhs; rw [← List.map_id l1]
        exact List.map_congr_left fun n _ => rfl
      rw [← e2, List.map_map]
      refine List.map_congr_left fun x hx => ?_
      obtain ⟨n, e, e3⟩ := hrd x hx
      simp only [Function.comp, WideElems.rg, e3, e]
      rfl
    rw [this]
  refine (list_own _ _ _ _ w hown (by rw [hmsz, hsz]; unfold maxLen; omega) (by rw [hmsz, hsz]; omega)).mono ?_
  rintro e w' ⟨v, ss, rfl, hss, hrow, hnil, hbel⟩
  have hsl : ss.Perm l := (hss.trans hik).trans hl1
  have hso := sort_eq hsl
  rw [hso] at hrow
  have hslen : ss.length = (sortI l).length := by rw [hsl.length_eq, (sortI_perm l).length_eq]
  generalize sortI l = m at h hrow hslen
  cases m with
  | nil =>
    cases h
    have : ss = [] := List.eq_nil_of_length_eq_zero hslen
    refine ⟨v, R, rfl, Ext.refl _ _, Nat.le_refl _, hr.grow hbel, ?_⟩
    simp only [VR]
    exact hnil.2 this
  | cons x m =>
    cases h
    obtain ⟨hxl, hor⟩ := hrow
    rcases hor with ⟨_, h0⟩ | ⟨g, cap, cur, rfl, hg, hcur, hcap, hmax, hcsz, htake⟩
    · rw [hslen] at h0
      simp at h0
    · rw [Nat.mul_one] at hcsz htake
      rw [hslen] at hcap htake
      have hE : Ext s.nx R (fun c => if c = s.nx then (g, cap) else R c) := fun c hc => if_neg (by omega)
      refine ⟨_, fun c => if c = s.nx then (g, cap) else R c, rfl, hE, Nat.le_succ _, ?_, ?_⟩
      · refine hr.adopt hbel hg hcur ⟨cur, rfl, hcsz, ?_, ?_, ?_⟩
        · rw [List.length_map]; exact hcap
        · rw [List.length_map, htake]
          exact vrl_of_ints _
        · intro c hc
          obtain ⟨n, _, rfl⟩ := List.mem_map.1 hc
          rfl
      · simp only [VR, St.new]
        refine ⟨Nat.lt_succ_self _, 0, cap, ?_, .inr rfl, fun h => (by cases h), hcap, hcap, hmax, ?_⟩
        · simp only [if_true]
          rw [hslen]
        · simp
theorem below_ext {fr : Nat → Option Obj} {R : Nat → Nat × Nat} {s : St} {w0 w : World} (hr : HR fr R s w0 w) {f : FuncId} {vs : Array Value} {v : Value} {x : AV} (hv : VR R s.nx x v) (h : Calls Tryz.prog f vs w fun e w' => e = .returned v ∧ Below w.heap.size w w') :
    Calls Tryz.prog f vs w fun e w' => ∃ v R', e = .returned v ∧ Ext s.nx R R' ∧ s.nx ≤ s.nx ∧ HR fr R' s w0 w' ∧ VR R' s.nx x v :=
  h.mono fun e w' ⟨he, hb⟩ => ⟨v, R, he, Ext.refl _ _, Nat.le_refl _, hr.grow hb, hv⟩
theorem zeros_one (v : Value) (n : Nat) : (Builtin.zeroCells #[v] n).toList = List.replicate n v := by
  unfold Builtin.zeroCells
  apply List.ext_getElem
  · simp
  · intro i h1 h2
    simp [Nat.mod_one]
theorem repL_one {α : Type} (x : α) : ∀ n : Nat, repL [x] n = List.replicate n x
  | 0 => rfl
  | n + 1 => by rw [repL, repL_one x n]; rfl
theorem vrl_rep {R : Nat → Nat × Nat} {n : Nat} {x : AV} {v : Value} (h : VR R n x v) : ∀ k : Nat, VRL R n (List.replicate k x) (List.replicate k v)
  | 0 => by simp [VRL]
  | k + 1 => by
    simp only [List.replicate_succ, VRL]
    exact ⟨_, _, rfl, h, vrl_rep h k⟩
theorem grow_ext : ExtOK Tryz.prog ⟨72, growX 3⟩ := by
  refine ⟨enters_of Tryz.func72 (by kernel_rfl) rfl, fun fr R s w0 w xs vs r s' h hr hxs => ?_⟩
  change growX 3 xs s = some (r, s') at h
  unfold growX at h
  split at h <;> try (cases h; done)
  rename_i s0 n
  simp only [VRL, VR] at hxs
  obtain ⟨u, us, hvs, rfl, u2, us2, rfl, rfl, rfl⟩ := hxs
  obtain ⟨vs⟩ := vs
  simp only at hvs
  subst hvs
  cases hb : Nat.ble n 1000 with
  | false => rw [hb] at h; cases h
  | true =>
  rw [hb, cond_true] at h
  have hn := nble_of hb
  cases h0 : Nat.beq n 0 with
  | true =>
    rw [h0, cond_true] at h
    have := nbeq_of h0
    subst this
    cases h
    refine (Any8.slices_Grow_room Tryz.growZ none 0 0 0 w (Nat.le_refl _) (by omega) (by omega) (by omega)).mono ?_
    rintro e w' ⟨rfl, rfl⟩
    refine ⟨_, R, rfl, Ext.refl _ _, Nat.le_refl _, hr, ?_⟩
    simp only [VR]
  | false =>
    rw [h0, cond_false] at h
    have hn0 : n ≠ 0 := fun e => by subst e; cases h0
    cases h
    obtain ⟨i0, hi0, hz0, hs0, hb0⟩ : ∃ i0, Tryz.prog.info? 3 = some i0 ∧ i0.zero = some (.int .i64 0) ∧ i0.size = 1 ∧ i0.bytes = 8 := by
      obtain ⟨i, hi⟩ : ∃ i, Tryz.prog.info? 3 = some i := Option.isSome_iff_exists.1 (by kernel_rfl)
      have e1 : (Tryz.prog.info? 3).bind (·.zero) = some (.int .i64 0) := by kernel_rfl
      have e2 : (Tryz.prog.info? 3).map (·.size) = some 1 := by kernel_rfl
      have e3 : (Tryz.prog.info? 3).map (·.bytes) = some 8 := by kernel_rfl
      rw [hi] at e1 e2 e3
      exact ⟨i, hi, e1, Option.some.inj e2, Option.some.inj e3⟩
    refine (Any8.slices_Grow_grow Tryz.growZ i0 (.int .i64 0) hi0 hz0 (by omega) none 0 0 n [] w (Nat.le_refl _) (by omega) (by rw [hb0]; omega) (by omega) (by simp) (fun _ => rfl) (fun a ha => by cases ha)).mono ?_
    rintro e w' ⟨rfl, rfl⟩
    rw [Nat.zero_add]
    have hG := grownCap_ge w n 0 (Tryz.growZ_ren.t 25)
    have hGm := grownCap_le_maxLen w n 0 (Tryz.growZ_ren.t 25) (by unfold maxLen; omega)
    generalize grownCap w n 0 (Tryz.growZ_ren.t 25) = G at hG hGm ⊢
    have hE : Ext s.nx R (fun c => if c = s.nx then (w.heap.size, G) else R c) := fun c hc => if_neg (by omega)
    refine ⟨_, fun c => if c = s.nx then (w.heap.size, G) else R c, rfl, hE, Nat.le_succ _, ?_, ?_⟩
    · refine hr.adopt (g := w.heap.size) (sz := G) (w' := w.drew.alloc _) ((Below.refl _ w).drew.alloc (Nat.le_refl _) _) (Nat.le_refl _) (heap_alloc_new w.drew _) ⟨_, rfl, ?_, ?_, ?_, ?_⟩
      · show (([] : List Value).toArray ++ Builtin.zeroCells #[Value.int .i64 0] (n - 0) ++ Builtin.zeroCells #[Value.int .i64 0] (G - n)).size = G
        simp only [Array.size_append, size_zeroCells, List.size_toArray, List.length_nil]
        show 0 + (n - 0) * 1 + (G - n) * 1 = G
        omega
      · rw [repL_one, List.length_replicate]
        exact hG
      · rw [repL_one, List.length_replicate]
        show VRL _ _ _ ((([] : List Value).toArray ++ Builtin.zeroCells #[Value.int .i64 0] (n - 0) ++ Builtin.zeroCells #[Value.int .i64 0] (G - n)).toList.take n)
        rw [Array.toList_append, Array.toList_append, zeros_one, zeros_one, Nat.sub_zero]
        rw [List.nil_append, List.take_left' (by simp)]
        exact vrl_rep (by simp only [VR]; rfl) n
      · intro c hc
        rw [repL_one] at hc
        obtain ⟨_, rfl⟩ := List.mem_replicate.1 hc
        rfl
    · simp only [VR, St.new]
      refine ⟨Nat.lt_succ_self _, 0, G, ?_, .inr rfl, fun h => (by cases h), hG, Nat.zero_le _, hGm, ?_⟩
      · simp
      · simp
theorem itoa_small (u : Nat) (h : u < 100) (w : World) : ItoaAt u w := by
  refine (Tryz.strconv_Itoa_small u h w).mono ?_
  rintro e w' ⟨rfl, rfl⟩
  rw [itoa_nonneg]
  exact ⟨rfl, Below.refl _ _⟩
theorem dec12 : itoa ((12 : Nat) : Int) = [49, 50] := by rw [itoa_nonneg, decDigits_two (by decide) (by decide)]; rfl
theorem dec0 : itoa ((0 : Nat) : Int) = [48] := by rw [itoa_nonneg, decDigits_one (by decide)]; rfl
theorem dec1 : itoa ((1 : Nat) : Int) = [49] := by rw [itoa_nonneg, decDigits_one (by decide)]; rfl
theorem nameE_of {f : ByteArray} {u : Nat} {l : List UInt8} (hl : lamL f u = l) (hf : isName f = true) (h40 : l.length ≤ 40) : nameE f u = 0 := nameE_zero.2 ⟨hf, by omega, by rw [hl]; exact h40⟩
theorem nameT_of {f : ByteArray} {u : Nat} {l : List UInt8} (hl : lamL f u = l) (h0 : nameE f u = 0) : nameT f u = ⟨l.toArray⟩ := by unfold nameT; rw [if_pos h0, hl]
theorem name_ext : ExtOK Tryz.prog ⟨5, nameX⟩ := by
  refine ⟨enters_of Tryz.func5 (by kernel_rfl) rfl, fun fr R s w0 w xs vs r s' h hr hxs => ?_⟩
  change nameX xs s = some (r, s') at h
  unfold nameX at h
  split at h <;> try (cases h; done)
  rename_i s0 f n
  simp only [VRL, VR] at hxs
  obtain ⟨u, us, hvs, ⟨rfl, _⟩, u2, us2, rfl, rfl, rfl⟩ := hxs
  obtain ⟨vs⟩ := vs
  simp only at hvs
  subst hvs
  rw [beqL_eq] at h
  by_cases e : f = [102]
  · subst e
    rw [decide_eq_true rfl, cond_true] at h
    have hf : isName (bytesA [102]) = true := by decide +kernel
    have key : ∀ (u : Nat) (l : List UInt8), u < 100 → lamL (bytesA [102]) u = l → l.length ≤ 40 → Calls Tryz.prog 5 #[.string (bytesA [102]), .int .i64 u] w fun e w' => e = .returned (.tuple #[.string ⟨l.toArray⟩, .int .i64 0]) ∧ Below w.heap.size w w' := fun u l hu hl h40 => by
      have h0 := nameE_of hl hf h40
      have := flName_any (bytesA [102]) u (by decide) (itoa_length_le _ (by omega) (by omega)) w (itoa_small u hu w)
      rw [h0, nameT_of hl h0] at this
      exact this
    cases h12 : Nat.beq n 12 with
    | true =>
      rw [h12, cond_true] at h
      have := nbeq_of h12
      subst this
      cases h
      refine below_ext hr ?_ (key 12 [102, 35, 49, 50] (by decide) (by unfold lamL; rw [dec12]; rfl) (by decide))
      simp only [VR, VRL]
      exact ⟨_, ⟨_, _, rfl, ⟨rfl, by decide⟩, _, _, rfl, rfl, rfl⟩, rfl⟩
    | false =>
      rw [h12, cond_false] at h
      cases h0 : Nat.beq n 0 with
      | true =>
        rw [h0, cond_true] at h
        have := nbeq_of h0
        subst this
        cases h
        refine below_ext hr ?_ (key 0 [102, 35, 48] (by decide) (by unfold lamL; rw [dec0]; rfl) (by decide))
        simp only [VR, VRL]
        exact ⟨_, ⟨_, _, rfl, ⟨rfl, by decide⟩, _, _, rfl, rfl, rfl⟩, rfl⟩
      | false => rw [h0] at h; cases h
  · rw [decide_eq_false e] at h; cases h
theorem atoi_small (t : ByteArray) (l : List UInt8) (u : Nat) (ht : t.size ≤ 250) (hl : t.data.toList = l) (hu : atoiAll l = .ok u) (w : World) : AtoiAt t w := by
  refine (Tryz.strconv_Atoi_ok t (by omega) u (by rw [hl]; exact hu) w).mono ?_
  rintro e w' ⟨rfl, hw⟩
  refine ⟨?_, .inl ⟨u, by rw [hl]; exact hu, rfl⟩⟩
  rcases hw with rfl | ⟨b, rfl⟩
  · exact Below.refl _ _
  · exact Go.Joins.below_bytesWorld _ _ _ _ (Nat.le_refl _)
theorem split_small (s : ByteArray) (l : List UInt8) (u : Nat) (hs : s.size ≤ 250) (hu : u < 100) (hl : tailL s = l) (ha : atoiAll l = .ok u) (w : World) : Calls Tryz.prog 6 #[.string s] w fun e w' => e = .returned (splitV (splitP s)) ∧ Below w.heap.size w w' :=
  flSplit_any s hs w (fun t ht htl w1 _ => atoi_small t l u ht (by rw [htl, hl]) ha w1) fun n _ _ hn w1 _ => by
    rw [hn u (by rw [hl]; exact ha)]
    exact itoa_small u hu w1
theorem split_a : splitP (bytesA [102, 35, 48, 35, 49]) = some (bytesA [102, 35, 48], ((1 : Nat) : Int)) := by
  have hc : cutAt (bytesA [102, 35, 48, 35, 49]) = some (bytesA [102, 35, 48], [49]) := by decide +kernel
  have hl : lamL (bytesA [102, 35, 48]) ((1 : Nat) : Int) = [102, 35, 48, 35, 49] := by unfold lamL; rw [dec1]; rfl
  have h0 := nameE_of hl (by decide +kernel) (by decide)
  unfold splitP
  rw [hc]
  simp only
  rw [show atoiAll [49] = .ok ((1 : Nat) : Int) by rfl]
  simp only
  rw [if_pos ⟨h0, by rw [nameT_of hl h0]; rfl⟩]
theorem split_b : splitP (bytesA [102, 35, 48, 48]) = none := by
  have hc : cutAt (bytesA [102, 35, 48, 48]) = some (bytesA [102], [48, 48]) := by decide +kernel
  have hl : lamL (bytesA [102]) ((0 : Nat) : Int) = [102, 35, 48] := by unfold lamL; rw [dec0]; rfl
  unfold splitP
  rw [hc]
  simp only
  rw [show atoiAll [48, 48] = .ok ((0 : Nat) : Int) by rfl]
  simp only
  rw [if_neg]
  rintro ⟨h0, h1⟩
  rw [nameT_of hl h0] at h1
  exact absurd (congrArg (fun b : ByteArray => b.data.toList.length) h1) (by decide)
theorem split_ext : ExtOK Tryz.prog ⟨6, splitX⟩ := by
  refine ⟨enters_of Tryz.func6 (by kernel_rfl) rfl, fun fr R s w0 w xs vs r s' h hr hxs => ?_⟩
  change splitX xs s = some (r, s') at h
  unfold splitX at h
  split at h <;> try (cases h; done)
  rename_i s0 l
  simp only [VRL, VR] at hxs
  obtain ⟨u, us, hvs, ⟨rfl, _⟩, rfl⟩ := hxs
  obtain ⟨vs⟩ := vs
  simp only at hvs
  subst hvs
  rw [beqL_eq, beqL_eq] at h
  by_cases e : l = [102, 35, 48, 35, 49]
  · subst e
    rw [decide_eq_true rfl, cond_true] at h
    cases h
    have hc := split_small (bytesA [102, 35, 48, 35, 49]) [49] 1 (by decide) (by decide) (by decide +kernel) rfl w
    rw [split_a] at hc
    refine below_ext hr ?_ hc
    simp only [VR, VRL]
    exact ⟨_, ⟨_, _, rfl, ⟨rfl, by decide⟩, _, _, rfl, rfl, _, _, rfl, rfl, rfl⟩, rfl⟩
  · rw [decide_eq_false e, cond_false] at h
    by_cases e2 : l = [102, 35, 48, 48]
    · subst e2
      rw [decide_eq_true rfl, cond_true] at h
      cases h
      have hc := split_small (bytesA [102, 35, 48, 48]) [48, 48] 0 (by decide) (by decide) (by decide +kernel) rfl w
      rw [split_b] at hc
      refine below_ext hr ?_ hc
      simp only [VR, VRL]
      exact ⟨_, ⟨_, _, rfl, ⟨rfl, by decide⟩, _, _, rfl, rfl, _, _, rfl, rfl, rfl⟩, rfl⟩
    · rw [decide_eq_false e2] at h; cases h
end Go.Proofs.YthcaafhpnmmfmaaGreatDoor
namespace Go.Proofs.YthcaafhpnmmfmaaGreatDoor
set_option linter.unusedVariables false
set_option maxRecDepth 100000
open Go
def FkT0 : List (Nat × AV) := []
def FkB0 : List (Nat × Blk) := []
def FkT1 : List (Nat × AV) := [(2, .i .i64 (.ofNat 0)), (1, .sl 425 0 1 1 false 1), (0, .b false)]
def FkB1 : List (Nat × Blk) := [(376, .cells 3 [.i .i64 (.ofNat 1), .i .i64 (.ofNat 3)]),
  (425, .cells 41 [.sl 376 0 2 2 false 1])]
def FkT2 : List (Nat × AV) := [(2, .i .i64 (.ofNat 0)), (4, .i .i64 (.ofNat 0)), (1, .sl 425 0 1 1 false 1), (3, .sl 857 0 3 3 false 1), (0, .b false)]
def FkB2 : List (Nat × Blk) := [(376, .cells 3 [.i .i64 (.ofNat 1), .i .i64 (.ofNat 3)]),
  (425, .cells 41 [.sl 376 0 2 2 false 1]),
  (857, .cells 3 [.i .i64 (.ofNat 2), .i .i64 (.ofNat 1), .i .i64 (.ofNat 3)])]
def FkT3 : List (Nat × AV) := [(2, .i .i64 (.ofNat 0)), (4, .i .i64 (.ofNat 0)), (6, .i .i64 (.ofNat 0)), (1, .sl 425 0 1 1 false 1), (5, .p 1921 0), (3, .sl 857 0 3 3 false 1), (0, .b false)]
def FkB3 : List (Nat × Blk) := [(376, .cells 3 [.i .i64 (.ofNat 1), .i .i64 (.ofNat 3)]),
  (425, .cells 41 [.sl 376 0 2 2 false 1]),
  (857, .cells 3 [.i .i64 (.ofNat 2), .i .i64 (.ofNat 1), .i .i64 (.ofNat 3)]),
  (1507, .cells 49 [.i .u8 (.ofNat 5), .s [], .i .i64 (.ofNat 2), .i .i64 (.ofNat 0), .ns, .i .u8 (.ofNat 5), .s [], .i .i64 (.ofNat 1), .i .i64 (.ofNat 0), .ns]),
  (1510, .cells 49 [.i .u8 (.ofNat 5), .s [], .i .i64 (.ofNat 0), .i .i64 (.ofNat 0), .ns, .i .u8 (.ofNat 14), .s [97, 100, 100], .i .i64 (.ofNat 0), .i .i64 (.ofNat 0), .sl 1507 0 2 2 false 5]),
  (1565, .cells 49 [.i .u8 (.ofNat 5), .s [], .i .i64 (.ofNat 1), .i .i64 (.ofNat 0), .ns, .i .u8 (.ofNat 5), .s [], .i .i64 (.ofNat 3), .i .i64 (.ofNat 0), .ns]),
  (1567, .cells 49 [.i .u8 (.ofNat 1), .s [], .i .i64 (.ofNat 5), .i .i64 (.ofNat 0), .ns, .i .u8 (.ofNat 40), .s [102, 35, 48], .i .i64 (.ofNat 0), .i .i64 (.ofNat 0), .sl 1565 0 2 2 false 5]),
  (1614, .cells 54 [.s [102, 35, 48], .i .i64 (.ofNat 3), .i .i64 (.ofNat 3), .i .u8 (.ofNat 7), .s [], .i .i64 (.ofNat 2), .i .i64 (.ofNat 0), .sl 1510 0 2 2 false 5, .s [102], .i .i64 (.ofNat 1), .i .i64 (.ofNat 4), .i .u8 (.ofNat 7), .s [], .i .i64 (.ofNat 1), .i .i64 (.ofNat 0), .sl 1567 0 2 2 false 5, .s [115, 116, 97, 114, 116], .i .i64 (.ofNat 0), .i .i64 (.ofNat 0), .i .u8 (.ofNat 4), .s [], .i .i64 (.ofNat 0), .i .i64 (.ofNat 0), .ns]),
  (1921, .cells 39 [.ns, .ns, .ns, .sl 1614 0 3 3 false 8])]
def FkT4 : List (Nat × AV) := [(2, .i .i64 (.ofNat 0)), (4, .i .i64 (.ofNat 0)), (6, .i .i64 (.ofNat 0)), (8, .i .i64 (.ofNat 0)), (1, .sl 425 0 1 1 false 1), (5, .p 1921 0), (3, .sl 857 0 3 3 false 1), (7, .sl 2488 0 5 5 false 1), (0, .b false)]
def FkB4 : List (Nat × Blk) := [(376, .cells 3 [.i .i64 (.ofNat 1), .i .i64 (.ofNat 3)]),
  (425, .cells 41 [.sl 376 0 2 2 false 1]),
  (857, .cells 3 [.i .i64 (.ofNat 2), .i .i64 (.ofNat 1), .i .i64 (.ofNat 3)]),
  (1507, .cells 49 [.i .u8 (.ofNat 5), .s [], .i .i64 (.ofNat 2), .i .i64 (.ofNat 0), .ns, .i .u8 (.ofNat 5), .s [], .i .i64 (.ofNat 1), .i .i64 (.ofNat 0), .ns]),
  (1510, .cells 49 [.i .u8 (.ofNat 5), .s [], .i .i64 (.ofNat 0), .i .i64 (.ofNat 0), .ns, .i .u8 (.ofNat 14), .s [97, 100, 100], .i .i64 (.ofNat 0), .i .i64 (.ofNat 0), .sl 1507 0 2 2 false 5]),
  (1565, .cells 49 [.i .u8 (.ofNat 5), .s [], .i .i64 (.ofNat 1), .i .i64 (.ofNat 0), .ns, .i .u8 (.ofNat 5), .s [], .i .i64 (.ofNat 3), .i .i64 (.ofNat 0), .ns]),
  (1567, .cells 49 [.i .u8 (.ofNat 1), .s [], .i .i64 (.ofNat 5), .i .i64 (.ofNat 0), .ns, .i .u8 (.ofNat 40), .s [102, 35, 48], .i .i64 (.ofNat 0), .i .i64 (.ofNat 0), .sl 1565 0 2 2 false 5]),
  (1614, .cells 54 [.s [102, 35, 48], .i .i64 (.ofNat 3), .i .i64 (.ofNat 3), .i .u8 (.ofNat 7), .s [], .i .i64 (.ofNat 2), .i .i64 (.ofNat 0), .sl 1510 0 2 2 false 5, .s [102], .i .i64 (.ofNat 1), .i .i64 (.ofNat 4), .i .u8 (.ofNat 7), .s [], .i .i64 (.ofNat 1), .i .i64 (.ofNat 0), .sl 1567 0 2 2 false 5, .s [115, 116, 97, 114, 116], .i .i64 (.ofNat 0), .i .i64 (.ofNat 0), .i .u8 (.ofNat 4), .s [], .i .i64 (.ofNat 0), .i .i64 (.ofNat 0), .ns]),
  (1921, .cells 39 [.ns, .ns, .ns, .sl 1614 0 3 3 false 8]),
  (2488, .cells 3 [.i .i64 (.ofNat 3), .i .i64 (.ofNat 4), .i .i64 (.ofNat 5), .i .i64 (.ofNat 6), .i .i64 (.ofNat 7)])]
def FkT5 : List (Nat × AV) := [(1, .sl 425 0 1 1 false 1), (3, .sl 857 0 3 3 false 1), (5, .p 1921 0), (19, .p 3901 0), (20, .p 3910 0), (7, .sl 2488 0 5 5 false 1), (9, .sl 3534 0 5 5 false 1), (11, .s [102, 35, 48]), (12, .i .i64 (.ofNat 1)), (17, .s [102, 35, 49, 50]), (0, .b false)]
def FkB5 : List (Nat × Blk) := [(376, .cells 3 [.i .i64 (.ofNat 1), .i .i64 (.ofNat 3)]),
  (425, .cells 41 [.sl 376 0 2 2 false 1]),
  (857, .cells 3 [.i .i64 (.ofNat 2), .i .i64 (.ofNat 1), .i .i64 (.ofNat 3)]),
  (1507, .cells 49 [.i .u8 (.ofNat 5), .s [], .i .i64 (.ofNat 2), .i .i64 (.ofNat 0), .ns, .i .u8 (.ofNat 5), .s [], .i .i64 (.ofNat 1), .i .i64 (.ofNat 0), .ns]),
  (1510, .cells 49 [.i .u8 (.ofNat 5), .s [], .i .i64 (.ofNat 0), .i .i64 (.ofNat 0), .ns, .i .u8 (.ofNat 14), .s [97, 100, 100], .i .i64 (.ofNat 0), .i .i64 (.ofNat 0), .sl 1507 0 2 2 false 5]),
  (1565, .cells 49 [.i .u8 (.ofNat 5), .s [], .i .i64 (.ofNat 1), .i .i64 (.ofNat 0), .ns, .i .u8 (.ofNat 5), .s [], .i .i64 (.ofNat 3), .i .i64 (.ofNat 0), .ns]),
  (1567, .cells 49 [.i .u8 (.ofNat 1), .s [], .i .i64 (.ofNat 5), .i .i64 (.ofNat 0), .ns, .i .u8 (.ofNat 40), .s [102, 35, 48], .i .i64 (.ofNat 0), .i .i64 (.ofNat 0), .sl 1565 0 2 2 false 5]),
  (1614, .cells 54 [.s [102, 35, 48], .i .i64 (.ofNat 3), .i .i64 (.ofNat 3), .i .u8 (.ofNat 7), .s [], .i .i64 (.ofNat 2), .i .i64 (.ofNat 0), .sl 1510 0 2 2 false 5, .s [102], .i .i64 (.ofNat 1), .i .i64 (.ofNat 4), .i .u8 (.ofNat 7), .s [], .i .i64 (.ofNat 1), .i .i64 (.ofNat 0), .sl 1567 0 2 2 false 5, .s [115, 116, 97, 114, 116], .i .i64 (.ofNat 0), .i .i64 (.ofNat 0), .i .u8 (.ofNat 4), .s [], .i .i64 (.ofNat 0), .i .i64 (.ofNat 0), .ns]),
  (1921, .cells 39 [.ns, .ns, .ns, .sl 1614 0 3 3 false 8]),
  (2488, .cells 3 [.i .i64 (.ofNat 3), .i .i64 (.ofNat 4), .i .i64 (.ofNat 5), .i .i64 (.ofNat 6), .i .i64 (.ofNat 7)]),
  (3534, .cells 3 [.i .i64 (.ofNat 0), .i .i64 (.ofNat 1), .i .i64 (.ofNat 2), .i .i64 (.negSucc 0), .i .i64 (.negSucc 0)]),
  (3895, .cells 49 [.i .u8 (.ofNat 5), .s [], .i .i64 (.ofNat 2), .i .i64 (.ofNat 0), .ns, .i .u8 (.ofNat 5), .s [], .i .i64 (.ofNat 1), .i .i64 (.ofNat 0), .ns]),
  (3900, .cells 49 [.i .u8 (.ofNat 5), .s [], .i .i64 (.ofNat 0), .i .i64 (.ofNat 0), .ns, .i .u8 (.ofNat 14), .s [97, 100, 100], .i .i64 (.ofNat 0), .i .i64 (.ofNat 0), .sl 3895 0 2 2 true 5]),
  (3901, .cells 54 [.s [102, 35, 48], .i .i64 (.ofNat 3), .i .i64 (.ofNat 3), .i .u8 (.ofNat 7), .s [], .i .i64 (.ofNat 2), .i .i64 (.ofNat 0), .sl 3900 0 2 2 true 5]),
  (3905, .cells 49 [.i .u8 (.ofNat 5), .s [], .i .i64 (.ofNat 1), .i .i64 (.ofNat 0), .ns, .i .u8 (.ofNat 5), .s [], .i .i64 (.ofNat 3), .i .i64 (.ofNat 0), .ns]),
  (3909, .cells 49 [.i .u8 (.ofNat 1), .s [], .i .i64 (.ofNat 5), .i .i64 (.ofNat 0), .ns, .i .u8 (.ofNat 40), .s [102, 35, 48], .i .i64 (.ofNat 0), .i .i64 (.ofNat 0), .sl 3905 0 2 2 true 5]),
  (3910, .cells 54 [.s [102], .i .i64 (.ofNat 1), .i .i64 (.ofNat 4), .i .u8 (.ofNat 7), .s [], .i .i64 (.ofNat 1), .i .i64 (.ofNat 0), .sl 3909 0 2 2 true 5])]
def FkT6 : List (Nat × AV) := [(0, .b true)]
def FkB6 : List (Nat × Blk) := []
end Go.Proofs.YthcaafhpnmmfmaaGreatDoor
namespace Go.Proofs.YthcaafhpnmmfmaaGreatDoor
set_option linter.unusedVariables false
set_option maxRecDepth 100000
open Go
noncomputable def FkExt : List ExtC := [⟨54, listX 3⟩, ⟨5, nameX⟩, ⟨6, splitX⟩, ⟨72, growX 3⟩]
noncomputable def FkEnv : Env := envOf Tryz.prog [] FkExt
end Go.Proofs.YthcaafhpnmmfmaaGreatDoor
