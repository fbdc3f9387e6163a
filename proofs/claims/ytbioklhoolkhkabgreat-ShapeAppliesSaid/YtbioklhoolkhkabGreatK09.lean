/- An evaluator of closed calls, made ready for the kernel: pieces. No program in sight. Plain law: what chapter 15's heap is: values, objects, heaps, as lists and integers; how they lie in memory. No program in sight. A law for a region that draws its order: loads come first where every operation ahead of number n keeps what they read, and those from n on wait for them; what looks at no memory comes first anywhere. No program in sight. A region that draws its order: a load comes first, too, where what is carried out from number n on waits for it by way of others. No program in sight. A region that draws its order: an operation that is not wanted. No program in sight. A region that draws its order, as in RegionF and RegionG; which operations may break S is said by p (and need not be the last ones). No program in sight. Plain law: what chapter 23's layouts and changes are, and what changes do to a layout; how they lie in memory. No program in sight. The walks: the small functions of chapter 23 that only read. The walks: names, strings and plain values of chapter 23. -/
import Derived.Test.YtbioklhoolkhkabGreatK08
import Derived.Test.YtbioklhoolkhkabGreatK01
import Derived.Deep.RegionHeld3
import Derived.Lib.ConvBytes
import Derived.Test.YtbioklhoolkhkabGreatRows
import Derived.Deep.QuietTactic
import Derived.BigQuiet
import Derived.Deep.DeepMust
namespace Go.Proofs.YtbioklhoolkhkabGreat
set_option linter.unusedVariables false
set_option linter.unusedSimpArgs false
set_option linter.unusedSectionVars false
open Go Go.RowKit
noncomputable section

def kL (K : KE) (inr : Bool) (nt : Nat) (l : List Code) : Tree AV → St → Option (Ex × Tree AV × St) := List.rec (fun a s => some (.nrm, a, s)) (fun c _ ih a s => Option.rec none (fun r => Prod.rec (fun x p => Ex.rec (Prod.rec (fun a s => ih a s) p) (fun i => some (.exit i, p)) (fun l => some (.goto l, p)) (some (.ret, p)) x) r) (K.e inr nt c a s)) l
theorem kL_eq {E : Env} {draw : Draw} {n : Nat} {K : KE} (hK : K.e = ev E draw n) (inr : Bool) (nt : Nat) : ∀ (l : List Code) (a : Tree AV) (s : St), kL K inr nt l a s = evL E draw n inr nt l a s
  | [], a, s => rfl
  | c :: l, a, s => by
    show (Option.rec none (fun r => Prod.rec (fun x p => Ex.rec (Prod.rec (fun a s => kL K inr nt l a s) p) (fun i => some (.exit i, p)) (fun l => some (.goto l, p)) (some (.ret, p)) x) r) (K.e inr nt c a s) : Option (Ex × Tree AV × St)) = _
    simp only [evL]
    rw [hK]
    cases ev E draw n inr nt c a s with
    | none => rfl
    | some r =>
      obtain ⟨x, a', s'⟩ := r
      cases x
      case nrm => exact kL_eq hK inr nt l a' s'
      all_goals rfl
def pieceK (E : Env) (n : Nat) (nt : Nat) (l : List Code) (ta : List (Nat × AV)) (sb : List (Nat × Blk)) (nx : Nat) (x : Ex) (ta' : List (Nat × AV)) (sb' : List (Nat × Blk)) (nx' : Nat) : Bool :=
  match kL (kE E (kdraw E) n) false nt l (treeOf ta) ⟨treeOf sb, nx⟩ with
  | some (y, a, s) => eqEx y x && subT a ta' && subB s.h sb' && Nat.beq s.nx nx'
  | none => false
theorem pieceK_eq {E : Env} {n : Nat} {nt : Nat} {l : List Code} {ta : List (Nat × AV)} {sb : List (Nat × Blk)} {nx : Nat} {x : Ex} {ta' : List (Nat × AV)} {sb' : List (Nat × Blk)} {nx' : Nat} : pieceK E n nt l ta sb nx x ta' sb' nx' = pieceB E (drawA E) n nt l ta sb nx x ta' sb' nx' := by
  unfold pieceK pieceB
  rw [kL_eq (kE_eq (draw := drawA E) (kdraw_eq E) n).1]
  cases evL E (drawA E) n false nt l (treeOf ta) ⟨treeOf sb, nx⟩ <;> rfl
def litK (E : Env) (n : Nat) (c : LitC) : Bool := match (kE E (kdraw E) n).call (.fn c.f c.fst c.caps) c.xs ⟨treeOf c.sb, c.nx⟩ with
  | some (r, s) => eqV r c.r && subB s.h c.sb' && Nat.beq s.nx c.nx'
  | none => false
theorem litK_eq {E : Env} {n : Nat} {c : LitC} : litK E n c = litB E (drawA E) n c := by
  unfold litK litB
  rw [(kE_eq (draw := drawA E) (kdraw_eq E) n).2]
  cases callE E (drawA E) n (.fn c.f c.fst c.caps) c.xs ⟨treeOf c.sb, c.nx⟩ <;> rfl
end
end Go.Proofs.YtbioklhoolkhkabGreat
namespace Go.Proofs.YtbioklhoolkhkabGreat
set_option linter.unusedVariables false
set_option linter.unusedSimpArgs false
open Go.RowKit

structure ValM where
  kind : Nat
  n : Int
  s : ByteArray
theorem ValM.ext_iff' (a b : ValM) : a = b ↔ a.kind = b.kind ∧ a.n = b.n ∧ a.s = b.s := by
  cases a; cases b; simp
instance : DecidableEq ValM := fun a b => decidable_of_iff _ (ValM.ext_iff' a b).symm
structure ObjM where
  kind : Nat
  name : ByteArray
  n : Int
  slots : List ValM
structure HeapM where
  size : Int
  half : Int
  scan : Int
  busy : Bool
  old : List (ObjM × Int)
  new : List ObjM
  regs : List ValM
structure DeedM where
  kind : Nat
  a : Int
  b : Int
  c : Int
  list : List Int
  obj : ObjM
  val : ValM

def nameByte (c : UInt8) : Bool := 33 ≤ c && c ≤ 126 && c != 34
def isName (s : ByteArray) : Bool := s.data.toList.all nameByte && decide (1 ≤ s.size ∧ s.size ≤ 40)
theorem nameByte_iff (c : UInt8) : nameByte c = true ↔ (33 ≤ c.toNat ∧ c.toNat ≤ 126 ∧ c.toNat ≠ 34) := by
  unfold nameByte
  simp [UInt8.le_iff_toNat_le, ← UInt8.toNat_inj, and_assoc]
theorem nameByte_not (c : UInt8) : nameByte c = false ↔ (c.toNat < 33 ∨ 126 < c.toNat ∨ c.toNat = 34) := by
  have h := nameByte_iff c
  cases hb : nameByte c
  · rw [hb] at h; simp at h; simp; omega
  · rw [hb] at h; simp at h; simp; omega
theorem isName_bad (s : ByteArray) (k : Nat) (h : k < s.size) (hb : nameByte s[k] = false) : isName s = false := by
  unfold isName
  rw [all_false_of nameByte s.data.toList k (by simpa using h) hb]
  rfl
theorem isName_size (s : ByteArray) (h : ¬ (1 ≤ s.size ∧ s.size ≤ 40)) : isName s = false := by
  unfold isName
  rw [decide_eq_false h, Bool.and_false]
theorem isName_good (s : ByteArray) (k : Nat) (hk : ¬ k < s.size) (hl : 1 ≤ s.size ∧ s.size ≤ 40) (h : (s.data.toList.take k).all nameByte = true) : isName s = true := by
  rw [List.take_of_length_le (by simpa using hk)] at h
  unfold isName
  rw [h, decide_eq_true hl]
  rfl
theorem isName_all (s : ByteArray) (k : Nat) (hk : ¬ k < s.size) (h : (s.data.toList.take k).all nameByte = true) : isName s = decide (1 ≤ s.size ∧ s.size ≤ 40) := by
  rw [List.take_of_length_le (by simpa using hk)] at h
  unfold isName
  rw [h, Bool.true_and]
theorem nameByte_snoc (s : ByteArray) (k : Nat) (h : k < s.size) (ha : (s.data.toList.take k).all nameByte = true) (hb : nameByte s[k] = true) : (s.data.toList.take (k + 1)).all nameByte = true := by
  rw [all_take_succ _ _ _ (by simpa using h), ha]
  exact hb

/-- A value, whatever objects there are. -/
def ValM.plain (v : ValM) : Bool :=
  if v.kind = 0 then decide (v.n = 0) && decide (v.s = ByteArray.empty)
  else if v.kind = 1 then decide (v.s = ByteArray.empty) && decide (-1000000000 ≤ v.n ∧ v.n ≤ 1000000000)
  else if v.kind = 2 then decide (v.s = ByteArray.empty) && decide (0 ≤ v.n ∧ v.n ≤ 1)
  else if v.kind = 3 then decide (v.n = 0) && isText v.s
  else if v.kind = 4 then decide (v.n = 0) && isName v.s
  else if v.kind = 5 then decide (v.s = ByteArray.empty) && decide (0 ≤ v.n)
  else false
def ObjM.plain (o : ObjM) : Bool := decide (1 ≤ o.kind ∧ o.kind ≤ 5) && (decide (o.name = ByteArray.empty) || isName o.name) && decide (-1 ≤ o.n ∧ o.n ≤ 1000000000)
/-- Does a value refer to the other half than this one? -/
def oldV (half : Int) (v : ValM) : Prop := v.kind = 5 ∧ v.n % 2 ≠ half
instance (half : Int) (v : ValM) : Decidable (oldV half v) := by unfold oldV; infer_instance
def refV (half : Int) (k : Int) : ValM := ⟨5, 2 * k + half, ByteArray.empty⟩
def unitV : ValM := ⟨0, 0, ByteArray.empty⟩
def intV (n : Int) : ValM := ⟨1, n, ByteArray.empty⟩
def boolV (b : Bool) : ValM := ⟨2, if b then 1 else 0, ByteArray.empty⟩
def textV (s : ByteArray) : ValM := ⟨3, 0, s⟩

/-- One value moved: what becomes of it, of the old half, and what is put behind the new one (which has nn objects). -/
def moveN (half : Int) (old : List (ObjM × Int)) (nn : Nat) (v : ValM) : ValM × List (ObjM × Int) × List ObjM :=
  if oldV half v then
    match old[(v.n / 2).toNat]? with
    | none => (v, old, [])
    | some (o, t) => if t < 0 then (refV half nn, old.set (v.n / 2).toNat (o, (nn : Int)), [o]) else (refV half t, old, [])
  else (v, old, [])
def movesN (half : Int) : List (ObjM × Int) → Nat → List ValM → List ValM × List (ObjM × Int) × List ObjM
  | old, _, [] => ([], old, [])
  | old, nn, v :: l =>
    ((moveN half old nn v).1 :: (movesN half (moveN half old nn v).2.1 (nn + (moveN half old nn v).2.2.length) l).1,
      (movesN half (moveN half old nn v).2.1 (nn + (moveN half old nn v).2.2.length) l).2.1,
      (moveN half old nn v).2.2 ++ (movesN half (moveN half old nn v).2.1 (nn + (moveN half old nn v).2.2.length) l).2.2)

/-! ### How they lie in memory -/
def ValM.v (x : ValM) : Value := .agg #[.int .u8 x.kind, .int .i64 x.n, .string x.s]
def ValM.cs (x : ValM) : List Value := [.int .u8 x.kind, .int .i64 x.n, .string x.s]
structure ValM.fit (x : ValM) : Prop where
  k : x.kind < 256
  n : I64 x.n
  s : x.s.size ≤ maxLen
def encVal : Enc ValM := ⟨3, fun _ cs x => cs = x.cs ∧ x.fit, fun _ h => h, fun h => by rw [h.1]; rfl⟩
structure ObjM.fit (o : ObjM) : Prop where
  k : o.kind < 256
  n : I64 o.n
  s : o.name.size ≤ maxLen
def encObj : Enc ObjM := ⟨4, fun H cs o => ∃ sv, cs = [.int .u8 o.kind, .string o.name, .int .i64 o.n, sv] ∧ o.fit ∧ SlR encVal H sv o.slots, fun hl ⟨sv, h1, h2, h3⟩ => ⟨sv, h1, h2, h3.mono hl⟩, fun ⟨sv, h1, _⟩ => by rw [h1]; rfl⟩
def encHeld : Enc (ObjM × Int) := ⟨5, fun H cs p => ∃ sv, cs = [.int .u8 p.1.kind, .string p.1.name, .int .i64 p.1.n, sv, .int .i64 p.2] ∧ p.1.fit ∧ I64 p.2 ∧ SlR encVal H sv p.1.slots, fun hl ⟨sv, h1, h2, h3, h4⟩ => ⟨sv, h1, h2, h3, h4.mono hl⟩, fun ⟨sv, h1, _⟩ => by rw [h1]; rfl⟩
/-- A heap that is handed over. -/
def HeapV (H : Hp) (v : Value) (h : HeapM) : Prop :=
  ∃ vo vn vr, v = .agg #[.int .i64 h.size, .int .i64 h.half, .int .i64 h.scan, .bool h.busy, vo, vn, vr] ∧ SlR encHeld H vo h.old ∧ SlR encObj H vn h.new ∧ SlR encVal H vr h.regs ∧ I64 h.size ∧ I64 h.half ∧ I64 h.scan
theorem HeapV.mono {H H' : Hp} {v : Value} {h : HeapM} (hv : HeapV H v h) (hl : Hle H H') : HeapV H' v h := by
  obtain ⟨vo, vn, vr, h1, h2, h3, h4, h5⟩ := hv
  exact ⟨vo, vn, vr, h1, h2.mono hl, h3.mono hl, h4.mono hl, h5⟩

theorem SlR.getV {H : Hp} {b : Option Addr} {n c : Nat} {xs : List ValM} (h : SlR encVal H (.slice b n c) xs) {i : Nat} (hi : i < xs.length) :
    ∃ blk off, b = some ⟨blk, off, none⟩ ∧ CellH H blk (off + i * 3) (.int .u8 xs[i].kind) ∧ CellH H blk (off + i * 3 + 1) (.int .i64 xs[i].n) ∧ CellH H blk (off + i * 3 + 2) (.string xs[i].s) ∧ xs[i].fit := by
  obtain ⟨b', c', hv, _, _, _, hc⟩ := h
  cases hv
  obtain ⟨blk, off, cs, e1, e2, e3⟩ := hc i hi
  obtain ⟨rfl, e4⟩ := e2
  exact ⟨blk, off, e1, e3 0 _ rfl, e3 1 _ rfl, e3 2 _ rfl, e4⟩
theorem SlR.getObj {H : Hp} {b : Option Addr} {n c : Nat} {xs : List ObjM} (h : SlR encObj H (.slice b n c) xs) {i : Nat} (hi : i < xs.length) :
    ∃ blk off sv, b = some ⟨blk, off, none⟩ ∧ CellH H blk (off + i * 4) (.int .u8 xs[i].kind) ∧ CellH H blk (off + i * 4 + 1) (.string xs[i].name) ∧ CellH H blk (off + i * 4 + 2) (.int .i64 xs[i].n) ∧ CellH H blk (off + i * 4 + 3) sv ∧ SlR encVal H sv xs[i].slots ∧ xs[i].fit := by
  obtain ⟨b', c', hv, _, _, _, hc⟩ := h
  cases hv
  obtain ⟨blk, off, cs, e1, e2, e3⟩ := hc i hi
  obtain ⟨sv, rfl, e4, e5⟩ := e2
  exact ⟨blk, off, sv, e1, e3 0 _ rfl, e3 1 _ rfl, e3 2 _ rfl, e3 3 _ rfl, e5, e4⟩
theorem SlR.getHeld {H : Hp} {b : Option Addr} {n c : Nat} {xs : List (ObjM × Int)} (h : SlR encHeld H (.slice b n c) xs) {i : Nat} (hi : i < xs.length) :
    ∃ blk off sv, b = some ⟨blk, off, none⟩ ∧ CellH H blk (off + i * 5) (.int .u8 xs[i].1.kind) ∧ CellH H blk (off + i * 5 + 1) (.string xs[i].1.name) ∧ CellH H blk (off + i * 5 + 2) (.int .i64 xs[i].1.n) ∧ CellH H blk (off + i * 5 + 3) sv ∧ CellH H blk (off + i * 5 + 4) (.int .i64 xs[i].2) ∧ SlR encVal H sv xs[i].1.slots ∧ xs[i].1.fit ∧ I64 xs[i].2 := by
  obtain ⟨b', c', hv, _, _, _, hc⟩ := h
  cases hv
  obtain ⟨blk, off, cs, e1, e2, e3⟩ := hc i hi
  obtain ⟨sv, rfl, e4, e5, e6⟩ := e2
  exact ⟨blk, off, sv, e1, e3 0 _ rfl, e3 1 _ rfl, e3 2 _ rfl, e3 3 _ rfl, e3 4 _ rfl, e6, e4, e5⟩
theorem val_oneCell {H : Hp} {cs : List Value} {xs : List ValM} (h : Chunks encVal H cs xs) : ∀ u ∈ cs, u.oneCell' = true :=
  h.oneCell fun cs x hx u hu => by
    obtain ⟨rfl, _⟩ := hx
    simp only [ValM.cs, List.mem_cons, List.not_mem_nil, or_false] at hu
    rcases hu with rfl | rfl | rfl <;> rfl
theorem Chunks.valH {H H' : Hp} {xs : List Value} {ys : List ValM} (h : Chunks encVal H xs ys) : Chunks encVal H' xs ys := by
  induction h with
  | nil => exact .nil
  | cons h1 h2 _ ih => exact .cons h1 h2 ih
theorem Chunks.vlen {H : Hp} {xs : List Value} {ys : List ValM} (h : Chunks encVal H xs ys) : xs.length = ys.length * 3 := h.length
end Go.Proofs.YtbioklhoolkhkabGreat
namespace Go.Proofs.YtbioklhoolkhkabGreat
set_option linter.unusedVariables false
set_option linter.unusedSimpArgs false
open Go

section
variable {P : Program} {ops : Array Oper} {Q : Exit → Act → World → Prop} {S : World → Prop} {n : Nat}

/-- One from n on has come up. -/
def Spent (n : Nat) (ls : Array Bool) : Prop := ∃ e, n ≤ e ∧ ls.getD e false = true
theorem Spent.set {i : Nat} {ls : Array Bool} (h : Spent n ls) : Spent n (ls.setIfInBounds i true) := by
  obtain ⟨e, h1, h2⟩ := h
  exact ⟨e, h1, getD_set_true h2⟩
theorem getD_set_other {ls : Array Bool} {i e : Nat} (h : i ≠ e) : (ls.setIfInBounds i true).getD e false = ls.getD e false := by
  simp [Array.getElem?_setIfInBounds_ne h]

/-- Every order from here on, S behind each operation till one from n on has come up. -/
def AnyFrom (P : Program) (ops : Array Oper) (Q : Exit → Act → World → Prop) (S : World → Prop) (n : Nat) : Nat → Array Bool → Act → World → Prop
  | 0, ls, a, w => Region.ready .any ops ls = [] ∧ Q .normal a w
  | k + 1, ls, a, w => (Region.ready .any ops ls = [] → Q .normal a w) ∧
      ∀ i, i ∈ Region.ready .any ops ls → wpOp P ops Q i (fun a' w' => (Spent n (ls.setIfInBounds i true) ∨ S w') ∧ AnyFrom P ops Q S n k (ls.setIfInBounds i true) a' w') a w

theorem AnyFrom.any : ∀ (k : Nat) {ls : Array Bool} {a : Act} {w : World}, AnyFrom P ops Q S n k ls a w → wpAny P .any ops Q k ls a w
  | 0, _, _, _, h => h
  | k + 1, _, _, _, h => ⟨h.1, fun i hi => wpOp_mono (fun _ _ hx => hx.2.any k) (h.2 i hi)⟩

/-- Do number n and all behind it wait for number i? -/
def waitsAll (ops : Array Oper) (n i : Nat) : Bool := (List.range ops.size).all fun j => decide (j < n) || match ops[j]? with | some o => o.after.any fun e => Region.binds .any e && e.on == i | none => false
def fresh (ops : Array Oper) (n : Nat) (ls : Array Bool) : Bool := (List.range ls.size).all fun e => decide (e < n) || !ls.getD e false
theorem fresh_spec {ls : Array Bool} (h : fresh ops n ls = true) : ¬ Spent n ls := by
  rintro ⟨e, h1, h2⟩
  have hlt : e < ls.size := by
    rcases Nat.lt_or_ge e ls.size with h3 | h3
    · exact h3
    · simp [Array.getElem?_eq_none h3] at h2
  have h3 := List.all_eq_true.1 h e (List.mem_range.2 hlt)
  rw [h2] at h3
  simp at h3
  omega

theorem unlisted_of_ready2 {i : Nat} {ls : Array Bool} (h : i ∈ Region.ready .any ops ls) : ls.getD i false = false := by
  have h0 := (mem_ready.1 h).1
  rcases Nat.lt_or_ge i ls.size with hl | hl
  · simp [hl] at h0 ⊢; exact h0
  · simp [Array.getElem?_eq_none hl]
theorem ready_waits2 {i j : Nat} {oj : Oper} {ls : Array Bool} (hi : i ∈ Region.ready .any ops ls) (hj : j ∈ Region.ready .any ops ls) (hoj : ops[j]? = some oj) :
    ∀ e ∈ oj.after, Region.binds .any e = true → e.on ≠ i := by
  intro e he hb heq
  obtain ⟨_, o, ho, hall⟩ := mem_ready.1 hj
  rw [hoj] at ho
  cases ho
  have h1 := hall e he hb
  rw [heq, unlisted_of_ready2 hi] at h1
  cases h1

/-- The common step: T says when the operation may be carried out, and what of the others keeps T. -/
theorem AnyFrom.swap {i : Nat} {oi : Oper} {v : Value} {T : Array Bool → World → Prop} {U : World → Prop} (hi : ops[i]? = some oi) (hsel : ∀ (j : Nat) (o : Oper) cs b, ops[j]? = some o → o.op ≠ .select cs b)
    (hQ : ∀ c a w, Q (.panic c) (a.put oi.dst v) w → Q (.panic c) a w)
    (hTS : ∀ ls w, T ls w → Spent n (ls.setIfInBounds i true) ∨ S w) (hTU : ∀ ls w, T ls w → U w)
    (hT : ∀ ls w j w', T ls w → i ∈ Region.ready .any ops ls → j ∈ Region.ready .any ops ls → j ≠ i → (Spent n ((ls.setIfInBounds i true).setIfInBounds j true) ∨ S w') → (Spent n (ls.setIfInBounds j true) ∨ S w') ∧ T (ls.setIfInBounds j true) w') :
    ∀ (k : Nat) (ls : Array Bool) (a : Act) (w : World),
      (∀ j oj, ops[j]? = some oj → j ≠ i → ls.getD j true = false → (∀ e ∈ oj.after, Region.binds .any e = true → e.on ≠ i) → oi.apart ops oj = true) →
      i ∈ Region.ready .any ops ls → YieldsIf P ops U oi v a → T ls w →
      AnyFrom P ops Q S n k (ls.setIfInBounds i true) (a.put oi.dst v) w → AnyFrom P ops Q S n (k + 1) ls a w := by
  intro k
  induction k with
  | zero =>
    intro ls a w _ hr hy hC h
    refine ⟨fun h0 => (by rw [h0] at hr; cases hr), fun j hj => ?_⟩
    by_cases e : j = i
    · subst e; exact hy.wpOp hi (hTU _ _ hC) ⟨hTS _ _ hC, h⟩
    · have hx := ready_mono hj e
      rw [h.1] at hx
      cases hx
  | succ k ih =>
    intro ls a w hfree hr hy hC h
    refine ⟨fun h0 => (by rw [h0] at hr; cases hr), fun j hj => ?_⟩
    by_cases e : j = i
    · subst e; exact hy.wpOp hi (hTU _ _ hC) ⟨hTS _ _ hC, h⟩
    · obtain ⟨hju, oj, hoj, _⟩ := mem_ready.1 hj
      have hstep := wpOp_putIf hoj (hfree j oj hoj e hju (ready_waits2 hr hj hoj)) (fun cs b => hsel i oi cs b hi) (fun cs b => hsel j oj cs b hoj) hQ hy (h.2 j (ready_mono hj e))
      refine wpOp_mono (fun a' w' hx => ?_) hstep
      obtain ⟨hS', hT'⟩ := hT ls w j w' hC hr hj e hx.2.1
      refine ⟨hS', ih _ a' w' (fun x ox hx' hxi hun hno => hfree x ox hx' hxi ?_ hno) (ready_mono hr (Ne.symm e)) hx.1 hT' ?_⟩
      · by_cases ej : j = x
        · subst ej; exact hju
        · rwa [getD_set_ne true ej] at hun
      · rw [Array.setIfInBounds_comm _ _ e]
        exact hx.2.2

/-! The walk's moves. -/
/-- What yields in every world that meets S, and is waited for by number n and all behind it. -/
theorem AnyFrom.take {i : Nat} {oi : Oper} {v : Value} {k : Nat} {ls : Array Bool} {a : Act} {w : World} (hi : ops[i]? = some oi) (hs : Region.noSelect ops = true)
    (hf : Region.free .any ops ls i = true) (hr : (Region.ready .any ops ls).contains i = true) (hn : (waitsAll ops n i && fresh ops n ls) = true)
    (hQ : ∀ c a w, Q (.panic c) (a.put oi.dst v) w → Q (.panic c) a w) (hy : Region.wanted oi (yielded ops a.tmps) = true ∧ ∀ w, S w → (execOp a.eval oi).run P w = .ok (.value v) w) (hS : S w)
    (h : AnyFrom P ops Q S n k (ls.setIfInBounds i true) (a.put oi.dst v) w) : AnyFrom P ops Q S n (k + 1) ls a w := by
  rw [Bool.and_eq_true] at hn
  have hni : ∀ {j : Nat} {ls : Array Bool}, i ∈ Region.ready .any ops ls → j ∈ Region.ready .any ops ls → ¬ n ≤ j := by
    intro j ls h1 h2 hle
    obtain ⟨_, o, ho, _⟩ := mem_ready.1 h2
    have hlt : j < ops.size := (Array.getElem?_eq_some_iff.1 ho).1
    have h3 := List.all_eq_true.1 hn.1 j (List.mem_range.2 hlt)
    rw [ho] at h3
    simp only [Bool.or_eq_true, decide_eq_true_eq] at h3
    rcases h3 with h3 | h3
    · omega
    · obtain ⟨e, he, hb⟩ := Array.any_eq_true'.1 h3
      simp only [Bool.and_eq_true, beq_iff_eq] at hb
      exact ready_waits2 h1 h2 ho e he hb.1 hb.2
  have hspent : ∀ {ls : Array Bool} {j : Nat}, ¬ n ≤ j → ¬ Spent n ls → ¬ Spent n (ls.setIfInBounds j true) := by
    rintro ls j h1 h2 ⟨e, h3, h4⟩
    rw [getD_set_other (by omega)] at h4
    exact h2 ⟨e, h3, h4⟩
  refine AnyFrom.swap (T := fun ls w => ¬ Spent n ls ∧ S w) (U := S) hi (Region.noSelect_spec hs) hQ (fun _ _ h => .inr h.2) (fun _ _ h => h.2) ?_ k ls a w (Region.free_spec hi hf) (by simpa using hr) (.inl hy) ⟨fresh_spec hn.2, hS⟩ h
  intro ls w j w' hT h1 h2 _ hx
  have hj := hni h1 h2
  have hi' := hni h1 h1
  have hno := hspent hj hT.1
  have hS' : S w' := hx.resolve_left (hspent hj (hspent hi' hT.1))
  exact ⟨.inr hS', hno, hS'⟩
/-- What yields in whatever world. -/
theorem AnyFrom.pure {i : Nat} {oi : Oper} {v : Value} {k : Nat} {ls : Array Bool} {a : Act} {w : World} (hi : ops[i]? = some oi) (hs : Region.noSelect ops = true)
    (hf : Region.free .any ops ls i = true) (hr : (Region.ready .any ops ls).contains i = true) (hin : i < n)
    (hQ : ∀ c a w, Q (.panic c) (a.put oi.dst v) w → Q (.panic c) a w) (hy : Region.wanted oi (yielded ops a.tmps) = true ∧ ∀ w, (execOp a.eval oi).run P w = .ok (.value v) w) (hS : S w)
    (h : AnyFrom P ops Q S n k (ls.setIfInBounds i true) (a.put oi.dst v) w) : AnyFrom P ops Q S n (k + 1) ls a w := by
  refine AnyFrom.swap (T := fun ls w => Spent n ls ∨ S w) (U := fun _ => True) hi (Region.noSelect_spec hs) hQ (fun _ _ h => h.imp Spent.set id) (fun _ _ _ => trivial) ?_ k ls a w (Region.free_spec hi hf) (by simpa using hr) (.inl ⟨hy.1, fun w _ => hy.2 w⟩) (.inr hS) h
  intro ls w j w' hT h1 h2 hji hx
  have hc : Spent n (ls.setIfInBounds j true) ∨ S w' := by
    refine hx.imp (fun ⟨e, h3, h4⟩ => ?_) id
    rw [Array.setIfInBounds_comm _ _ (Ne.symm hji), getD_set_other (by omega)] at h4
    exact ⟨e, h3, h4⟩
  exact ⟨hc, hc⟩
theorem AnyFrom.done {ls : Array Bool} {a : Act} {w : World} (hr : Region.ready .any ops ls = []) (h : Q .normal a w) : ∀ k, AnyFrom P ops Q S n k ls a w
  | 0 => ⟨hr, h⟩
  | _ + 1 => ⟨fun _ => h, by rw [hr]; intro i hi; cases hi⟩
theorem AnyFrom.one {i k : Nat} {ls : Array Bool} {a : Act} {w : World} (hr : Region.ready .any ops ls = [i])
    (h : wpOp P ops Q i (fun a' w' => (Spent n (ls.setIfInBounds i true) ∨ S w') ∧ AnyFrom P ops Q S n k (ls.setIfInBounds i true) a' w') a w) : AnyFrom P ops Q S n (k + 1) ls a w :=
  ⟨fun h0 => (by rw [hr] at h0; cases h0), fun j hj => by
    rw [hr] at hj
    obtain rfl := List.mem_singleton.1 hj
    exact h⟩
theorem AnyFrom.two {i j k : Nat} {ls : Array Bool} {a : Act} {w : World} (hr : Region.ready .any ops ls = [i, j])
    (h : wpOp P ops Q i (fun a' w' => (Spent n (ls.setIfInBounds i true) ∨ S w') ∧ AnyFrom P ops Q S n k (ls.setIfInBounds i true) a' w') a w)
    (h' : wpOp P ops Q j (fun a' w' => (Spent n (ls.setIfInBounds j true) ∨ S w') ∧ AnyFrom P ops Q S n k (ls.setIfInBounds j true) a' w') a w) : AnyFrom P ops Q S n (k + 1) ls a w :=
  ⟨fun h0 => (by rw [hr] at h0; cases h0), fun x hx => by
    rw [hr] at hx
    rcases List.mem_cons.1 hx with rfl | hx
    · exact h
    · obtain rfl := List.mem_singleton.1 hx
      exact h'⟩
/-- One operation carried out. -/
theorem AnyFrom.op {i k : Nat} {o : Oper} {ls : Array Bool} {a : Act} {w : World} (ho : ops[i]? = some o) (hw : Region.wanted o (yielded ops a.tmps) = true)
    (h : ∀ K : Act → World → Prop, (∀ a w, (Spent n (ls.setIfInBounds i true) ∨ S w) → AnyFrom P ops Q S n k (ls.setIfInBounds i true) a w → K a w) → Oper.wp P o a w K Q) :
    wpOp P ops Q i (fun a' w' => (Spent n (ls.setIfInBounds i true) ∨ S w') ∧ AnyFrom P ops Q S n k (ls.setIfInBounds i true) a' w') a w :=
  wpOp_step ho fun K hK => by rw [if_pos hw]; exact h K (fun a w h1 h2 => hK a w ⟨h1, h2⟩)
theorem AnyFrom.opIf {i k : Nat} {o : Oper} {ls : Array Bool} {a : Act} {w : World} (ho : ops[i]? = some o)
    (h : ∀ K : Act → World → Prop, (∀ a w, (Spent n (ls.setIfInBounds i true) ∨ S w) → AnyFrom P ops Q S n k (ls.setIfInBounds i true) a w → K a w) → if Region.wanted o (yielded ops a.tmps) = true then Oper.wp P o a w K Q else K (a.put o.dst undef) w) :
    wpOp P ops Q i (fun a' w' => (Spent n (ls.setIfInBounds i true) ∨ S w') ∧ AnyFrom P ops Q S n k (ls.setIfInBounds i true) a' w') a w :=
  wpOp_step ho fun K hK => h K (fun a w h1 h2 => hK a w ⟨h1, h2⟩)
theorem AnyFrom.start {id : Nat} {a : Act} {w : World} (S : World → Prop) (n : Nat) (hm : P.follows .mixedOrders = true) (h : AnyFrom P ops Q S n ops.size (Array.replicate ops.size false) a w.drew) :
    (Code.region id ops true).wp P Q a w := wp_region_any hm (h.any _)
end
end Go.Proofs.YtbioklhoolkhkabGreat
namespace Go.Proofs.YtbioklhoolkhkabGreat
set_option linter.unusedVariables false
set_option linter.unusedSimpArgs false
open Go

section
variable {P : Program} {ops : Array Oper} {Q : Exit → Act → World → Prop} {S : World → Prop} {n : Nat}
/-- What has come up has come up behind what it waits for. -/
def Closed (ops : Array Oper) (ls : Array Bool) : Prop := ∀ (j : Nat) (o : Oper), ops[j]? = some o → ls.getD j false = true → ∀ e ∈ o.after, Region.binds .any e = true → ls.getD e.on false = true
/-- Does number j wait for number i, by way of k others at most? -/
def anc (ops : Array Oper) (i : Nat) : Nat → Nat → Bool
  | 0, _ => false
  | k + 1, j => match ops[j]? with | some o => o.after.any fun e => Region.binds .any e && (e.on == i || anc ops i k e.on) | none => false
theorem anc_spec {i : Nat} {ls : Array Bool} (hc : Closed ops ls) : ∀ (k j : Nat) (o : Oper), ops[j]? = some o → (∀ e ∈ o.after, Region.binds .any e = true → ls.getD e.on false = true) → anc ops i k j = true → ls.getD i false = true
  | 0, j, o, ho, hw, h => by simp [anc] at h
  | k + 1, j, o, ho, hw, h => by
    unfold anc at h
    rw [ho] at h
    obtain ⟨e, he, hb⟩ := Array.any_eq_true'.1 h
    simp only [Bool.and_eq_true, Bool.or_eq_true, beq_iff_eq] at hb
    have hl := hw e he hb.1
    rcases hb.2 with h1 | h1
    · rw [← h1]; exact hl
    · have h2 : ∃ o', ops[e.on]? = some o' := by
        cases h3 : ops[e.on]? with
        | some o' => exact ⟨o', rfl⟩
        | none =>
          cases k with
          | zero => simp [anc] at h1
          | succ k => unfold anc at h1; rw [h3] at h1; cases h1
      obtain ⟨o', ho'⟩ := h2
      exact anc_spec hc k e.on o' ho' (hc e.on o' ho' hl) h1
def waitsT (ops : Array Oper) (n i : Nat) : Bool := (List.range ops.size).all fun j => decide (j < n) || anc ops i ops.size j
def closedB (ops : Array Oper) (ls : Array Bool) : Bool := (List.range ops.size).all fun j => !ls.getD j false || match ops[j]? with | some o => o.after.all fun e => !Region.binds .any e || ls.getD e.on false | none => true
theorem closed_of {ls : Array Bool} (h : closedB ops ls = true) : Closed ops ls := by
  intro j o ho hl e he hb
  have hlt : j < ops.size := (Array.getElem?_eq_some_iff.1 ho).1
  have h1 := List.all_eq_true.1 h j (List.mem_range.2 hlt)
  rw [hl, ho] at h1
  simp only [Bool.not_true, Bool.false_or] at h1
  have h2 := Array.all_eq_true'.1 h1 e he
  rw [hb] at h2
  simpa using h2
theorem ready_listed {j : Nat} {ls : Array Bool} {o : Oper} (hj : j ∈ Region.ready .any ops ls) (ho : ops[j]? = some o) : ∀ e ∈ o.after, Region.binds .any e = true → ls.getD e.on false = true := by
  intro e he hb
  obtain ⟨_, o', ho', hall⟩ := mem_ready.1 hj
  rw [ho] at ho'
  cases ho'
  exact hall e he hb
theorem Closed.set {j : Nat} {ls : Array Bool} (h : Closed ops ls) (hj : j ∈ Region.ready .any ops ls) : Closed ops (ls.setIfInBounds j true) := by
  intro k o ho hl e he hb
  refine getD_set_true ?_
  by_cases e1 : j = k
  · subst e1
    exact ready_listed hj ho e he hb
  · rw [getD_set_other e1] at hl
    exact h k o ho hl e he hb
theorem AnyFrom.takeT {i : Nat} {oi : Oper} {v : Value} {k : Nat} {ls : Array Bool} {a : Act} {w : World} (hi : ops[i]? = some oi) (hs : Region.noSelect ops = true)
    (hf : Region.free .any ops ls i = true) (hr : (Region.ready .any ops ls).contains i = true) (hn : (waitsT ops n i && fresh ops n ls && closedB ops ls) = true)
    (hQ : ∀ c a w, Q (.panic c) (a.put oi.dst v) w → Q (.panic c) a w) (hy : Region.wanted oi (yielded ops a.tmps) = true ∧ ∀ w, S w → (execOp a.eval oi).run P w = .ok (.value v) w) (hS : S w)
    (h : AnyFrom P ops Q S n k (ls.setIfInBounds i true) (a.put oi.dst v) w) : AnyFrom P ops Q S n (k + 1) ls a w := by
  rw [Bool.and_eq_true, Bool.and_eq_true] at hn
  obtain ⟨⟨hn1, hn2⟩, hn3⟩ := hn
  have hni : ∀ {j : Nat} {ls : Array Bool}, Closed ops ls → i ∈ Region.ready .any ops ls → j ∈ Region.ready .any ops ls → ¬ n ≤ j := by
    intro j ls hc h1 h2 hle
    obtain ⟨_, o, ho, _⟩ := mem_ready.1 h2
    have hlt : j < ops.size := (Array.getElem?_eq_some_iff.1 ho).1
    have h3 := List.all_eq_true.1 hn1 j (List.mem_range.2 hlt)
    simp only [Bool.or_eq_true, decide_eq_true_eq] at h3
    rcases h3 with h3 | h3
    · omega
    · have h4 := anc_spec hc ops.size j o ho (ready_listed h2 ho) h3
      rw [unlisted_of_ready2 h1] at h4
      cases h4
  have hspent : ∀ {ls : Array Bool} {j : Nat}, ¬ n ≤ j → ¬ Spent n ls → ¬ Spent n (ls.setIfInBounds j true) := by
    rintro ls j h1 h2 ⟨e, h3, h4⟩
    rw [getD_set_other (by omega)] at h4
    exact h2 ⟨e, h3, h4⟩
  refine AnyFrom.swap (T := fun ls w => ¬ Spent n ls ∧ S w ∧ Closed ops ls) (U := S) hi (Region.noSelect_spec hs) hQ (fun _ _ h => .inr h.2.1) (fun _ _ h => h.2.1) ?_ k ls a w (Region.free_spec hi hf) (by simpa using hr) (.inl hy) ⟨fresh_spec hn2, hS, closed_of hn3⟩ h
  intro ls w j w' hT h1 h2 _ hx
  have hj := hni hT.2.2 h1 h2
  have hi' := hni hT.2.2 h1 h1
  have hno := hspent hj hT.1
  have hS' : S w' := hx.resolve_left (hspent hj (hspent hi' hT.1))
  exact ⟨.inr hS', hno, hS', hT.2.2.set h2⟩
end
end Go.Proofs.YtbioklhoolkhkabGreat
namespace Go.Proofs.YtbioklhoolkhkabGreat
set_option linter.unusedVariables false
set_option linter.unusedSimpArgs false
open Go

section
variable {P : Program} {ops : Array Oper} {Q : Exit → Act → World → Prop} {S : World → Prop} {n : Nat}
theorem AnyFrom.skip {i : Nat} {oi : Oper} {k : Nat} {ls : Array Bool} {a : Act} {w : World} (hi : ops[i]? = some oi) (hs : Region.noSelect ops = true)
    (hf : Region.free .any ops ls i = true) (hr : (Region.ready .any ops ls).contains i = true) (hin : i < n)
    (hQ : ∀ c a w, Q (.panic c) (a.put oi.dst undef) w → Q (.panic c) a w) (hw : Region.wanted oi (yielded ops a.tmps) = false) (hS : S w)
    (h : AnyFrom P ops Q S n k (ls.setIfInBounds i true) (a.put oi.dst undef) w) : AnyFrom P ops Q S n (k + 1) ls a w := by
  refine AnyFrom.swap (T := fun ls w => Spent n ls ∨ S w) (U := fun _ => True) hi (Region.noSelect_spec hs) hQ (fun _ _ h => h.imp Spent.set id) (fun _ _ _ => trivial) ?_ k ls a w (Region.free_spec hi hf) (by simpa using hr) (.inr ⟨hw, rfl⟩) (.inr hS) h
  intro ls w j w' hT h1 h2 hji hx
  have hc : Spent n (ls.setIfInBounds j true) ∨ S w' := by
    refine hx.imp (fun ⟨e, h3, h4⟩ => ?_) id
    rw [Array.setIfInBounds_comm _ _ (Ne.symm hji), getD_set_other (by omega)] at h4
    exact ⟨e, h3, h4⟩
  exact ⟨hc, hc⟩
/-- The only one that may be next, carried out. -/
theorem AnyFrom.call {i k : Nat} {o : Oper} {ls : Array Bool} {a : Act} {w : World} (hr : Region.ready .any ops ls = [i]) (ho : ops[i]? = some o) (hw : Region.wanted o (yielded ops a.tmps) = true)
    (h : ∀ K : Act → World → Prop, (∀ a w, (Spent n (ls.setIfInBounds i true) ∨ S w) → AnyFrom P ops Q S n k (ls.setIfInBounds i true) a w → K a w) → Oper.wp P o a w K Q) : AnyFrom P ops Q S n (k + 1) ls a w :=
  AnyFrom.one hr (AnyFrom.op ho hw h)
end
end Go.Proofs.YtbioklhoolkhkabGreat
namespace Go.Proofs.YtbioklhoolkhkabGreat
set_option linter.unusedVariables false
set_option linter.unusedSimpArgs false
open Go

section
variable {P : Program} {ops : Array Oper} {Q : Exit → Act → World → Prop} {S : World → Prop} {p : Nat → Bool}
def SpentP (p : Nat → Bool) (ls : Array Bool) : Prop := ∃ e, p e = true ∧ ls.getD e false = true
theorem SpentP.set {i : Nat} {ls : Array Bool} (h : SpentP p ls) : SpentP p (ls.setIfInBounds i true) := by
  obtain ⟨e, h1, h2⟩ := h
  exact ⟨e, h1, getD_set_true h2⟩
def AnyP (P : Program) (ops : Array Oper) (Q : Exit → Act → World → Prop) (S : World → Prop) (p : Nat → Bool) : Nat → Array Bool → Act → World → Prop
  | 0, ls, a, w => Region.ready .any ops ls = [] ∧ Q .normal a w
  | k + 1, ls, a, w => (Region.ready .any ops ls = [] → Q .normal a w) ∧
      ∀ i, i ∈ Region.ready .any ops ls → wpOp P ops Q i (fun a' w' => (SpentP p (ls.setIfInBounds i true) ∨ S w') ∧ AnyP P ops Q S p k (ls.setIfInBounds i true) a' w') a w

theorem AnyP.any : ∀ (k : Nat) {ls : Array Bool} {a : Act} {w : World}, AnyP P ops Q S p k ls a w → wpAny P .any ops Q k ls a w
  | 0, _, _, _, h => h
  | k + 1, _, _, _, h => ⟨h.1, fun i hi => wpOp_mono (fun _ _ hx => hx.2.any k) (h.2 i hi)⟩

def freshP (ops : Array Oper) (p : Nat → Bool) (ls : Array Bool) : Bool := (List.range ls.size).all fun e => !p e || !ls.getD e false
theorem freshP_spec {ls : Array Bool} (h : freshP ops p ls = true) : ¬ SpentP p ls := by
  rintro ⟨e, h1, h2⟩
  have hlt : e < ls.size := by
    rcases Nat.lt_or_ge e ls.size with h3 | h3
    · exact h3
    · simp [Array.getElem?_eq_none h3] at h2
  have h3 := List.all_eq_true.1 h e (List.mem_range.2 hlt)
  rw [h1, h2] at h3
  simp at h3

theorem AnyP.swap {i : Nat} {oi : Oper} {v : Value} {T : Array Bool → World → Prop} {U : World → Prop} (hi : ops[i]? = some oi) (hsel : ∀ (j : Nat) (o : Oper) cs b, ops[j]? = some o → o.op ≠ .select cs b)
    (hQ : ∀ c a w, Q (.panic c) (a.put oi.dst v) w → Q (.panic c) a w)
    (hTS : ∀ ls w, T ls w → SpentP p (ls.setIfInBounds i true) ∨ S w) (hTU : ∀ ls w, T ls w → U w)
    (hT : ∀ ls w j w', T ls w → i ∈ Region.ready .any ops ls → j ∈ Region.ready .any ops ls → j ≠ i → (SpentP p ((ls.setIfInBounds i true).setIfInBounds j true) ∨ S w') → (SpentP p (ls.setIfInBounds j true) ∨ S w') ∧ T (ls.setIfInBounds j true) w') :
    ∀ (k : Nat) (ls : Array Bool) (a : Act) (w : World),
      (∀ j oj, ops[j]? = some oj → j ≠ i → ls.getD j true = false → (∀ e ∈ oj.after, Region.binds .any e = true → e.on ≠ i) → oi.apart ops oj = true) →
      i ∈ Region.ready .any ops ls → YieldsIf P ops U oi v a → T ls w →
      AnyP P ops Q S p k (ls.setIfInBounds i true) (a.put oi.dst v) w → AnyP P ops Q S p (k + 1) ls a w := by
  intro k
  induction k with
  | zero =>
    intro ls a w _ hr hy hC h
    refine ⟨fun h0 => (by rw [h0] at hr; cases hr), fun j hj => ?_⟩
    by_cases e : j = i
    · subst e; exact hy.wpOp hi (hTU _ _ hC) ⟨hTS _ _ hC, h⟩
    · have hx := ready_mono hj e
      rw [h.1] at hx
      cases hx
  | succ k ih =>
    intro ls a w hfree hr hy hC h
    refine ⟨fun h0 => (by rw [h0] at hr; cases hr), fun j hj => ?_⟩
    by_cases e : j = i
    · subst e; exact hy.wpOp hi (hTU _ _ hC) ⟨hTS _ _ hC, h⟩
    · obtain ⟨hju, oj, hoj, _⟩ := mem_ready.1 hj
      have hstep := wpOp_putIf hoj (hfree j oj hoj e hju (ready_waits2 hr hj hoj)) (fun cs b => hsel i oi cs b hi) (fun cs b => hsel j oj cs b hoj) hQ hy (h.2 j (ready_mono hj e))
      refine wpOp_mono (fun a' w' hx => ?_) hstep
      obtain ⟨hS', hT'⟩ := hT ls w j w' hC hr hj e hx.2.1
      refine ⟨hS', ih _ a' w' (fun x ox hx' hxi hun hno => hfree x ox hx' hxi ?_ hno) (ready_mono hr (Ne.symm e)) hx.1 hT' ?_⟩
      · by_cases ej : j = x
        · subst ej; exact hju
        · rwa [getD_set_ne true ej] at hun
      · rw [Array.setIfInBounds_comm _ _ e]
        exact hx.2.2

theorem AnyP.pure {i : Nat} {oi : Oper} {v : Value} {k : Nat} {ls : Array Bool} {a : Act} {w : World} (hi : ops[i]? = some oi) (hs : Region.noSelect ops = true)
    (hf : Region.free .any ops ls i = true) (hr : (Region.ready .any ops ls).contains i = true) (hin : p i = false)
    (hQ : ∀ c a w, Q (.panic c) (a.put oi.dst v) w → Q (.panic c) a w) (hy : Region.wanted oi (yielded ops a.tmps) = true ∧ ∀ w, (execOp a.eval oi).run P w = .ok (.value v) w) (hS : S w)
    (h : AnyP P ops Q S p k (ls.setIfInBounds i true) (a.put oi.dst v) w) : AnyP P ops Q S p (k + 1) ls a w := by
  refine AnyP.swap (T := fun ls w => SpentP p ls ∨ S w) (U := fun _ => True) hi (Region.noSelect_spec hs) hQ (fun _ _ h => h.imp SpentP.set id) (fun _ _ _ => trivial) ?_ k ls a w (Region.free_spec hi hf) (by simpa using hr) (.inl ⟨hy.1, fun w _ => hy.2 w⟩) (.inr hS) h
  intro ls w j w' hT h1 h2 hji hx
  have hc : SpentP p (ls.setIfInBounds j true) ∨ S w' := by
    refine hx.imp (fun ⟨e, h3, h4⟩ => ?_) id
    rw [Array.setIfInBounds_comm _ _ (Ne.symm hji), getD_set_other (fun e' => by rw [e', h3] at hin; cases hin)] at h4
    exact ⟨e, h3, h4⟩
  exact ⟨hc, hc⟩
theorem AnyP.done {ls : Array Bool} {a : Act} {w : World} (hr : Region.ready .any ops ls = []) (h : Q .normal a w) : ∀ k, AnyP P ops Q S p k ls a w
  | 0 => ⟨hr, h⟩
  | _ + 1 => ⟨fun _ => h, by rw [hr]; intro i hi; cases hi⟩
theorem AnyP.one {i k : Nat} {ls : Array Bool} {a : Act} {w : World} (hr : Region.ready .any ops ls = [i])
    (h : wpOp P ops Q i (fun a' w' => (SpentP p (ls.setIfInBounds i true) ∨ S w') ∧ AnyP P ops Q S p k (ls.setIfInBounds i true) a' w') a w) : AnyP P ops Q S p (k + 1) ls a w :=
  ⟨fun h0 => (by rw [hr] at h0; cases h0), fun j hj => by
    rw [hr] at hj
    obtain rfl := List.mem_singleton.1 hj
    exact h⟩
theorem AnyP.two {i j k : Nat} {ls : Array Bool} {a : Act} {w : World} (hr : Region.ready .any ops ls = [i, j])
    (h : wpOp P ops Q i (fun a' w' => (SpentP p (ls.setIfInBounds i true) ∨ S w') ∧ AnyP P ops Q S p k (ls.setIfInBounds i true) a' w') a w)
    (h' : wpOp P ops Q j (fun a' w' => (SpentP p (ls.setIfInBounds j true) ∨ S w') ∧ AnyP P ops Q S p k (ls.setIfInBounds j true) a' w') a w) : AnyP P ops Q S p (k + 1) ls a w :=
  ⟨fun h0 => (by rw [hr] at h0; cases h0), fun x hx => by
    rw [hr] at hx
    rcases List.mem_cons.1 hx with rfl | hx
    · exact h
    · obtain rfl := List.mem_singleton.1 hx
      exact h'⟩
theorem AnyP.op {i k : Nat} {o : Oper} {ls : Array Bool} {a : Act} {w : World} (ho : ops[i]? = some o) (hw : Region.wanted o (yielded ops a.tmps) = true)
    (h : ∀ K : Act → World → Prop, (∀ a w, (SpentP p (ls.setIfInBounds i true) ∨ S w) → AnyP P ops Q S p k (ls.setIfInBounds i true) a w → K a w) → Oper.wp P o a w K Q) :
    wpOp P ops Q i (fun a' w' => (SpentP p (ls.setIfInBounds i true) ∨ S w') ∧ AnyP P ops Q S p k (ls.setIfInBounds i true) a' w') a w :=
  wpOp_step ho fun K hK => by rw [if_pos hw]; exact h K (fun a w h1 h2 => hK a w ⟨h1, h2⟩)
theorem AnyP.opIf {i k : Nat} {o : Oper} {ls : Array Bool} {a : Act} {w : World} (ho : ops[i]? = some o)
    (h : ∀ K : Act → World → Prop, (∀ a w, (SpentP p (ls.setIfInBounds i true) ∨ S w) → AnyP P ops Q S p k (ls.setIfInBounds i true) a w → K a w) → if Region.wanted o (yielded ops a.tmps) = true then Oper.wp P o a w K Q else K (a.put o.dst undef) w) :
    wpOp P ops Q i (fun a' w' => (SpentP p (ls.setIfInBounds i true) ∨ S w') ∧ AnyP P ops Q S p k (ls.setIfInBounds i true) a' w') a w :=
  wpOp_step ho fun K hK => h K (fun a w h1 h2 => hK a w ⟨h1, h2⟩)
theorem AnyP.start {id : Nat} {a : Act} {w : World} (S : World → Prop) (p : Nat → Bool) (hm : P.follows .mixedOrders = true) (h : AnyP P ops Q S p ops.size (Array.replicate ops.size false) a w.drew) :
    (Code.region id ops true).wp P Q a w := wp_region_any hm (h.any _)
def waitsTP (ops : Array Oper) (p : Nat → Bool) (i : Nat) : Bool := (List.range ops.size).all fun j => !p j || anc ops i ops.size j
theorem AnyP.takeT {i : Nat} {oi : Oper} {v : Value} {k : Nat} {ls : Array Bool} {a : Act} {w : World} (hi : ops[i]? = some oi) (hs : Region.noSelect ops = true)
    (hf : Region.free .any ops ls i = true) (hr : (Region.ready .any ops ls).contains i = true) (hn : (waitsTP ops p i && freshP ops p ls && closedB ops ls) = true)
    (hQ : ∀ c a w, Q (.panic c) (a.put oi.dst v) w → Q (.panic c) a w) (hy : Region.wanted oi (yielded ops a.tmps) = true ∧ ∀ w, S w → (execOp a.eval oi).run P w = .ok (.value v) w) (hS : S w)
    (h : AnyP P ops Q S p k (ls.setIfInBounds i true) (a.put oi.dst v) w) : AnyP P ops Q S p (k + 1) ls a w := by
  rw [Bool.and_eq_true, Bool.and_eq_true] at hn
  obtain ⟨⟨hn1, hn2⟩, hn3⟩ := hn
  have hni : ∀ {j : Nat} {ls : Array Bool}, Closed ops ls → i ∈ Region.ready .any ops ls → j ∈ Region.ready .any ops ls → ¬ p j = true := by
    intro j ls hc h1 h2 hle
    obtain ⟨_, o, ho, _⟩ := mem_ready.1 h2
    have hlt : j < ops.size := (Array.getElem?_eq_some_iff.1 ho).1
    have h3 := List.all_eq_true.1 hn1 j (List.mem_range.2 hlt)
    simp only [Bool.or_eq_true, decide_eq_true_eq] at h3
    rcases h3 with h3 | h3
    · rw [hle] at h3; cases h3
    · have h4 := anc_spec hc ops.size j o ho (ready_listed h2 ho) h3
      rw [unlisted_of_ready2 h1] at h4
      cases h4
  have hspent : ∀ {ls : Array Bool} {j : Nat}, ¬ p j = true → ¬ SpentP p ls → ¬ SpentP p (ls.setIfInBounds j true) := by
    rintro ls j h1 h2 ⟨e, h3, h4⟩
    rw [getD_set_other (fun e' => h1 (by rw [e', h3]))] at h4
    exact h2 ⟨e, h3, h4⟩
  refine AnyP.swap (T := fun ls w => ¬ SpentP p ls ∧ S w ∧ Closed ops ls) (U := S) hi (Region.noSelect_spec hs) hQ (fun _ _ h => .inr h.2.1) (fun _ _ h => h.2.1) ?_ k ls a w (Region.free_spec hi hf) (by simpa using hr) (.inl hy) ⟨freshP_spec hn2, hS, closed_of hn3⟩ h
  intro ls w j w' hT h1 h2 _ hx
  have hj := hni hT.2.2 h1 h2
  have hi' := hni hT.2.2 h1 h1
  have hno := hspent hj hT.1
  have hS' : S w' := hx.resolve_left (hspent hj (hspent hi' hT.1))
  exact ⟨.inr hS', hno, hS', hT.2.2.set h2⟩
theorem AnyP.skip {i : Nat} {oi : Oper} {k : Nat} {ls : Array Bool} {a : Act} {w : World} (hi : ops[i]? = some oi) (hs : Region.noSelect ops = true)
    (hf : Region.free .any ops ls i = true) (hr : (Region.ready .any ops ls).contains i = true) (hin : p i = false)
    (hQ : ∀ c a w, Q (.panic c) (a.put oi.dst undef) w → Q (.panic c) a w) (hw : Region.wanted oi (yielded ops a.tmps) = false) (hS : S w)
    (h : AnyP P ops Q S p k (ls.setIfInBounds i true) (a.put oi.dst undef) w) : AnyP P ops Q S p (k + 1) ls a w := by
  refine AnyP.swap (T := fun ls w => SpentP p ls ∨ S w) (U := fun _ => True) hi (Region.noSelect_spec hs) hQ (fun _ _ h => h.imp SpentP.set id) (fun _ _ _ => trivial) ?_ k ls a w (Region.free_spec hi hf) (by simpa using hr) (.inr ⟨hw, rfl⟩) (.inr hS) h
  intro ls w j w' hT h1 h2 hji hx
  have hc : SpentP p (ls.setIfInBounds j true) ∨ S w' := by
    refine hx.imp (fun ⟨e, h3, h4⟩ => ?_) id
    rw [Array.setIfInBounds_comm _ _ (Ne.symm hji), getD_set_other (fun e' => by rw [e', h3] at hin; cases hin)] at h4
    exact ⟨e, h3, h4⟩
  exact ⟨hc, hc⟩
theorem AnyP.call {i k : Nat} {o : Oper} {ls : Array Bool} {a : Act} {w : World} (hr : Region.ready .any ops ls = [i]) (ho : ops[i]? = some o) (hw : Region.wanted o (yielded ops a.tmps) = true)
    (h : ∀ K : Act → World → Prop, (∀ a w, (SpentP p (ls.setIfInBounds i true) ∨ S w) → AnyP P ops Q S p k (ls.setIfInBounds i true) a w → K a w) → Oper.wp P o a w K Q) : AnyP P ops Q S p (k + 1) ls a w :=
  AnyP.one hr (AnyP.op ho hw h)
end
end Go.Proofs.YtbioklhoolkhkabGreat
namespace Go.Proofs.YtbioklhoolkhkabGreat
set_option linter.unusedVariables false
set_option linter.unusedSimpArgs false
open Go.RowKit

structure ClassM where
  name : ByteArray
  fields : List ByteArray
structure ChangeM where
  kind : Nat
  name : ByteArray
  field : ByteArray
  to : ByteArray
  v : ValM
structure LayM where
  classes : List ClassM
  roots : List ByteArray

/-- The place of the first one; -1 if there is none. -/
def idxF {α : Type} (p : α → Bool) (l : List α) : Int := match l.findIdx? p with
  | some k => (k : Int)
  | none => -1
theorem idxF_none {α : Type} {p : α → Bool} {l : List α} (k : Nat) (hk : ¬ k < l.length) (h : (l.take k).all (fun x => !p x) = true) : idxF p l = -1 := by
  rw [List.take_of_length_le (by omega)] at h
  have : l.findIdx? p = none := by
    rw [List.findIdx?_eq_none_iff]
    intro x hx
    have := List.all_eq_true.1 h x hx
    simpa using this
  unfold idxF
  rw [this]
theorem idxF_at {α : Type} {p : α → Bool} {l : List α} (k : Nat) (hk : k < l.length) (hp : p l[k] = true) (h : (l.take k).all (fun x => !p x) = true) : idxF p l = (k : Int) := by
  have : l.findIdx? p = some k := by
    rw [List.findIdx?_eq_some_iff_getElem]
    refine ⟨hk, hp, fun j hj => ?_⟩
    have := List.all_eq_true.1 h l[j] (List.mem_take_iff_getElem.2 ⟨j, by omega, rfl⟩)
    simpa using this
  unfold idxF
  rw [this]
theorem idxF_cases {α : Type} (p : α → Bool) (l : List α) : (idxF p l = -1 ∧ ∀ x ∈ l, p x = false) ∨ ∃ k, ∃ h : k < l.length, idxF p l = (k : Int) ∧ p l[k] = true := by
  unfold idxF
  cases h : l.findIdx? p with
  | none =>
    refine .inl ⟨rfl, fun x hx => ?_⟩
    have := List.findIdx?_eq_none_iff.1 h x hx
    simpa using this
  | some k =>
    obtain ⟨h1, h2, _⟩ := List.findIdx?_eq_some_iff_getElem.1 h
    exact .inr ⟨k, h1, rfl, h2⟩
theorem all_not_snoc {α : Type} {p : α → Bool} {l : List α} {k : Nat} (h : k < l.length) (ha : (l.take k).all (fun x => !p x) = true) (hp : p l[k] = false) : (l.take (k + 1)).all (fun x => !p x) = true := by
  rw [all_take_succ _ _ _ h, ha, hp]
  rfl

def ValM.basic (v : ValM) : Bool := v.plain && decide (v.kind ≠ 4) && decide (v.kind ≠ 5)
/-- Has a change the form of its kind? -/
def ChangeM.form (c : ChangeM) : Bool :=
  if c.kind = 1 then isName c.field && decide (c.to = ByteArray.empty) && c.v.basic
  else if c.kind = 2 then decide (c.to = ByteArray.empty) && decide (c.v = unitV)
  else if c.kind = 3 then isName c.to && decide (c.v = unitV)
  else if c.kind = 4 then isName c.to && decide (c.field = ByteArray.empty) && decide (c.v = unitV)
  else if c.kind = 5 then isName c.name && decide (c.field = ByteArray.empty) && decide (c.to = ByteArray.empty) && c.v.basic
  else if c.kind = 6 then decide (c.field = ByteArray.empty) && decide (c.to = ByteArray.empty) && decide (c.v = unitV)
  else if c.kind = 7 then isName c.to && decide (c.field = ByteArray.empty) && decide (c.v = unitV)
  else false
def placeS (l : List ByteArray) (s : ByteArray) : Int := idxF (fun x => decide (x = s)) l
def placeC (l : List ClassM) (s : ByteArray) : Int := idxF (fun c => decide (c.name = s)) l
def LayM.inRoots (x : LayM) (c : ChangeM) : Int × LayM :=
  if c.kind = 5 ∧ 0 ≤ placeS x.roots c.name then (6, x)
  else if c.kind = 5 then (0, { x with roots := x.roots ++ [c.name] })
  else if placeS x.roots c.name < 0 then (7, x)
  else if c.kind = 6 then (0, { x with roots := x.roots.eraseIdx (placeS x.roots c.name).toNat })
  else if 0 ≤ placeS x.roots c.to then (6, x)
  else (0, { x with roots := x.roots.set (placeS x.roots c.name).toNat c.to })
/-- What a change does to the fields of its class. -/
def fieldsDone (fs : List ByteArray) (c : ChangeM) : Int × List ByteArray :=
  if c.kind = 1 then (if 0 ≤ placeS fs c.field then (6, fs) else if 6 ≤ fs.length then (8, fs) else (0, fs ++ [c.field]))
  else if placeS fs c.field < 0 then (7, fs)
  else if c.kind = 2 then (0, fs.eraseIdx (placeS fs c.field).toNat)
  else if 0 ≤ placeS fs c.to then (6, fs)
  else (0, fs.set (placeS fs c.field).toNat c.to)
def LayM.fieldsAt (x : LayM) (k : Nat) : List ByteArray := match x.classes[k]? with
  | some c => c.fields
  | none => []
def LayM.inClasses (x : LayM) (c : ChangeM) : Int × LayM :=
  if placeC x.classes c.name < 0 then (7, x)
  else if c.kind = 4 then (if 0 ≤ placeC x.classes c.to then (6, x) else (0, { x with classes := x.classes.set (placeC x.classes c.name).toNat ⟨c.to, x.fieldsAt (placeC x.classes c.name).toNat⟩ }))
  else if (fieldsDone (x.fieldsAt (placeC x.classes c.name).toNat) c).1 ≠ 0 then ((fieldsDone (x.fieldsAt (placeC x.classes c.name).toNat) c).1, x)
  else (0, { x with classes := x.classes.set (placeC x.classes c.name).toNat ⟨c.name, (fieldsDone (x.fieldsAt (placeC x.classes c.name).toNat) c).2⟩ })
def LayM.done (x : LayM) (c : ChangeM) : Int × LayM :=
  if c.form = false then (4, x) else if 5 ≤ c.kind then x.inRoots c else x.inClasses c
/-- Changes, one after the other: the layout, how many were done, the error. -/
def LayM.apply : LayM → Nat → List ChangeM → LayM × Nat × Int
  | x, n, [] => (x, n, 0)
  | x, n, c :: l => if (x.done c).1 ≠ 0 then (x, n, (x.done c).1) else LayM.apply (x.done c).2 (n + 1) l

/-! ### How they lie in memory -/
def encClass : Enc ClassM := ⟨2, fun H cs c => ∃ sv, cs = [.string c.name, sv] ∧ c.name.size ≤ maxLen ∧ SlR encStr H sv c.fields, fun hl ⟨sv, h1, h2, h3⟩ => ⟨sv, h1, h2, h3.mono hl⟩, fun ⟨sv, h1, _⟩ => by rw [h1]; rfl⟩
def ChangeM.cs (c : ChangeM) : List Value := [.int .u8 c.kind, .string c.name, .string c.field, .string c.to, .int .u8 c.v.kind, .int .i64 c.v.n, .string c.v.s]
def ChangeM.val (c : ChangeM) : Value := .agg #[.int .u8 c.kind, .string c.name, .string c.field, .string c.to, .int .u8 c.v.kind, .int .i64 c.v.n, .string c.v.s]
structure ChangeM.fit (c : ChangeM) : Prop where
  k : c.kind < 256
  name : c.name.size ≤ maxLen
  field : c.field.size ≤ maxLen
  to : c.to.size ≤ maxLen
  v : c.v.fit
def encChange : Enc ChangeM := ⟨7, fun _ cs c => cs = c.cs ∧ c.fit, fun _ h => h, fun h => by rw [h.1]; rfl⟩
def encByte : Enc UInt8 := encV (fun b => Value.int .u8 b.toNat) (fun _ => True)

section
variable {H : Hp}
theorem SlR.getStr {b : Option Addr} {n c : Nat} {xs : List ByteArray} (h : SlR encStr H (.slice b n c) xs) {i : Nat} (hi : i < xs.length) :
    ∃ blk off, b = some ⟨blk, off, none⟩ ∧ CellH H blk (off + i) (.string xs[i]) ∧ xs[i].size ≤ maxLen := h.cellV hi
theorem SlR.getClass {b : Option Addr} {n c : Nat} {xs : List ClassM} (h : SlR encClass H (.slice b n c) xs) {i : Nat} (hi : i < xs.length) :
    ∃ blk off sv, b = some ⟨blk, off, none⟩ ∧ CellH H blk (off + i * 2) (.string xs[i].name) ∧ CellH H blk (off + i * 2 + 1) sv ∧ SlR encStr H sv xs[i].fields ∧ xs[i].name.size ≤ maxLen := by
  obtain ⟨b', c', hv, _, _, _, hc⟩ := h
  cases hv
  obtain ⟨blk, off, cs, e1, e2, e3⟩ := hc i hi
  obtain ⟨sv, rfl, e4, e5⟩ := e2
  exact ⟨blk, off, sv, e1, e3 0 _ rfl, e3 1 _ rfl, e5, e4⟩
theorem SlR.getChange {b : Option Addr} {n c : Nat} {xs : List ChangeM} (h : SlR encChange H (.slice b n c) xs) {i : Nat} (hi : i < xs.length) :
    ∃ blk off, b = some ⟨blk, off, none⟩ ∧ (∀ j u, xs[i].cs[j]? = some u → CellH H blk (off + i * 7 + j) u) ∧ xs[i].fit := by
  obtain ⟨b', c', hv, _, _, _, hc⟩ := h
  cases hv
  obtain ⟨blk, off, cs, e1, e2, e3⟩ := hc i hi
  obtain ⟨rfl, e4⟩ := e2
  exact ⟨blk, off, e1, e3, e4⟩
end
theorem toList_nil (s : ByteArray) : s.toList = [] ↔ s = ByteArray.empty := by
  rw [ByteArray.toList_eq]
  constructor
  · intro h
    have : s.data = #[] := Array.toList_eq_nil_iff.1 h
    cases s
    simp only at this
    subst this
    rfl
  · rintro rfl
    rfl
section
variable {w0 w : World} {H : Hp} {L : List (Nat × Obj)}
/-- A text as bytes: a row that nobody writes. -/
theorem Mem.bytes (m : Mem w0 H L w) (e : TypeId) (s : ByteArray) (hs : s.size ≤ maxLen) :
    ∃ H', Mem w0 H' L (Lib.bytesWorld w e s) ∧ Hle H H' ∧ SlR encByte H' (.slice (some ⟨w.heap.size, 0, none⟩) s.data.toList.length (grownCap w s.size 0 e)) s.data.toList := by
  have hold : ∀ k o', w.heap[k]? = some o' → (Lib.bytesWorld w e s).heap[k]? = some o' := fun k o' h => by
    rw [Lib.bytesWorld_at_old w e s k (lt_of_heap h)]; exact h
  have m2 : Mem w0 H ((w.heap.size, .cells (Lib.bytesCells w e s) e ((Lib.bytesCells w e s).size, (Lib.bytesCells w e s).size + 1)) :: L) (Lib.bytesWorld w e s) := by
    refine ⟨m.os, m.tape, m.output, fun k o' h => hold _ _ (m.imm k o' h), fun p hp => ?_, ?_⟩
    · cases hp with
      | head =>
        refine ⟨Lib.bytesWorld_at_new w e s, ?_⟩
        cases hh : H w.heap.size with
        | none => rfl
        | some o' => exact absurd (lt_of_heap (m.imm _ _ hh)) (Nat.lt_irrefl _)
      | tail _ hp => exact ⟨hold _ _ (m.loc p hp).1, (m.loc p hp).2⟩
    · rw [List.map_cons, List.nodup_cons]
      refine ⟨fun hc => ?_, m.nd⟩
      obtain ⟨p, hp, he⟩ := List.mem_map.1 hc
      have := lt_of_heap (m.loc p hp).1
      rw [he] at this
      exact Nat.lt_irrefl _ this
  obtain ⟨m3, hle⟩ := m2.freeze
  have hge := grownCap_ge w s.size 0 e
  have hmx := grownCap_le_maxLen w s.size 0 e hs
  have hsl : s.data.toList.length = s.size := rfl
  refine ⟨_, m3, hle, some ⟨w.heap.size, 0, none⟩, _, rfl, by rw [hsl]; exact hge, hmx, fun h => (by cases h), fun i hi => ?_⟩
  refine ⟨w.heap.size, 0, [.int .u8 (s.data.toList[i]).toNat], rfl, ⟨rfl, trivial⟩, fun j u hu => ⟨_, _, _, Hp.put_same _ _ _, ?_⟩⟩
  cases j with
  | succ j => simp at hu
  | zero =>
    simp only [List.getElem?_cons_zero, Option.some.injEq] at hu
    subst hu
    have hi' : i < s.data.size := by simpa using hi
    have hi2 : i < s.size := hi'
    simp [Lib.bytesCells, encByte, encV, Array.getElem?_append, hi2]
theorem Mem.freezeB {k : Nat} {o : Obj} (m : Mem w0 H ((k, o) :: L) w) : Mem w0 (H.put k o) L w := m.freeze.1
end
end Go.Proofs.YtbioklhoolkhkabGreat
namespace Go.Proofs.YtbioklhoolkhkabGreat
set_option linter.unusedVariables false
set_option linter.unusedSimpArgs false
open Go.RowKit

theorem ret_bool {a b : Bool} (h : a = b) : Ending.returned (.bool a) = .returned (.bool b) := by rw [h]
theorem ret_int {k : IntKind} {a b : Int} (h : a = b) : Ending.returned (.int k a) = .returned (.int k b) := by rw [h]
def inAll (lo hi : Int) (xs : List Int) : Bool := xs.all fun n => decide (lo ≤ n ∧ n ≤ hi)
def SomeIdx (p : Bool) (w : World) (e : Ending) (w' : World) : Prop := ∃ k : Int, e = .returned (.int .i64 k) ∧ decide (0 ≤ k) = p ∧ w = w'

theorem shWithin1_any (n lo hi : Int) (bl bh : Nat) (w : World) (h1 : w.cell? ⟨bl, 0, none⟩ = some (.int .i64 lo)) (h2 : w.cell? ⟨bh, 0, none⟩ = some (.int .i64 hi)) :
    Calls Tryz.prog 96 #[.int .i64 n, .pointer (some ⟨bl, 0, none⟩), .pointer (some ⟨bh, 0, none⟩)] w fun e w' => e = .returned (.bool (decide (lo ≤ n ∧ n ≤ hi))) ∧ w = w' := by
  go_enter Tryz.func96, Tryz.ntmps96
  go_wp2
  all_goals (go_ret; refine ⟨ret_bool ?_, rfl⟩; rw [Bool.eq_iff_iff]; simp <;> omega)
theorem shEveryI1_any (n lo hi : Int) (bl bh bf : Nat) (w : World) (hf : w.cell? ⟨bf, 0, none⟩ = some (.func (.func 96) #[] #[.pointer (some ⟨bl, 0, none⟩), .pointer (some ⟨bh, 0, none⟩)]))
    (h1 : w.cell? ⟨bl, 0, none⟩ = some (.int .i64 lo)) (h2 : w.cell? ⟨bh, 0, none⟩ = some (.int .i64 hi)) :
    Calls Tryz.prog 126 #[.int .i64 n, .pointer (some ⟨bf, 0, none⟩)] w fun e w' => e = .returned (.bool (!decide (lo ≤ n ∧ n ≤ hi))) ∧ w = w' := by
  go_enter Tryz.func126, Tryz.ntmps126
  go_wp2_with (go_at_call 96; refine (shWithin1_any _ lo hi bl bh _ h1 h2).mono ?_; rintro e w' ⟨rfl, rfl⟩)
  go_ret
  exact ⟨ret_bool (by simp), rfl⟩

set_option maxHeartbeats 400000 in
theorem shIndexFuncI_any (v : Value) (xs : List Int) (lo hi : Int) (bl bh bf : Nat) {w0 w : World} {H : Hp} {L : List (Nat × Obj)} (m : Mem w0 H L w) (hv : SlR encInt H v xs)
    (hf : w.cell? ⟨bf, 0, none⟩ = some (.func (.func 96) #[] #[.pointer (some ⟨bl, 0, none⟩), .pointer (some ⟨bh, 0, none⟩)]))
    (h1 : w.cell? ⟨bl, 0, none⟩ = some (.int .i64 lo)) (h2 : w.cell? ⟨bh, 0, none⟩ = some (.int .i64 hi)) :
    Calls Tryz.prog 176 #[v, .func (.func 126) #[] #[.pointer (some ⟨bf, 0, none⟩)]] w (SomeIdx (!inAll lo hi xs) w) := by
  have HV := Lib.hid hv
  obtain ⟨b, c, rfl, hc1, hc2, _, _⟩ := hv
  have hc2 := size_le_maxLen hc2
  go_enter Tryz.func176, Tryz.ntmps176
  go_wp2
  go_loop [5, 8] (fun _ i => ∃ k : Nat, k ≤ xs.length ∧ i = .int .i64 k ∧ inAll lo hi (xs.take k) = true) (fun _ i => xs.length - (intOf i).toNat)
  case atStart => exact ⟨0, Nat.zero_le _, rfl, rfl⟩
  case round =>
    obtain ⟨k, hk, rfl, hall⟩ := hrel
    have HA := Lib.hid hall; clear hall
    by_cases hlt : k < xs.length
    · obtain ⟨blk, off, rfl, hcell, hp⟩ := HV.out.cellV hlt
      have hcell := hcell.cell m
      cases hq : decide (lo ≤ xs[k] ∧ xs[k] ≤ hi)
      · have HQ := Lib.hid hq
        go_wp2_with (go_at_call 126; refine (shEveryI1_any _ lo hi bl bh bf _ hf h1 h2).mono ?_; rintro e w' ⟨rfl, rfl⟩)
        go_ret
        refine ⟨_, rfl, ?_, rfl⟩
        rw [show inAll lo hi xs = false from all_false_of _ xs k hlt HQ.out]
        simp
      · have HQ := Lib.hid hq
        go_wp2_with (go_at_call 126; refine (shEveryI1_any _ lo hi bl bh bf _ hf h1 h2).mono ?_; rintro e w' ⟨rfl, rfl⟩)
        go_round
        case rel => exact ⟨k + 1, by omega, by go_num, by have := HA.out; unfold inAll at *; rw [all_take_succ _ _ _ hlt, this, HQ.out]; rfl⟩
        case measure => simp [intOf]; omega
    · go_wp2
      go_ret
      refine ⟨_, rfl, ?_, rfl⟩
      have := HA.out
      rw [List.take_of_length_le (by omega)] at this
      rw [this]
      rfl
theorem shContainsFuncI_any (v : Value) (xs : List Int) (lo hi : Int) (bl bh bf : Nat) {w0 w : World} {H : Hp} {L : List (Nat × Obj)} (m : Mem w0 H L w) (hv : SlR encInt H v xs)
    (hf : w.cell? ⟨bf, 0, none⟩ = some (.func (.func 96) #[] #[.pointer (some ⟨bl, 0, none⟩), .pointer (some ⟨bh, 0, none⟩)]))
    (h1 : w.cell? ⟨bl, 0, none⟩ = some (.int .i64 lo)) (h2 : w.cell? ⟨bh, 0, none⟩ = some (.int .i64 hi)) :
    Calls Tryz.prog 125 #[v, .func (.func 126) #[] #[.pointer (some ⟨bf, 0, none⟩)]] w fun e w' => e = .returned (.bool (!inAll lo hi xs)) ∧ w = w' := by
  go_enter Tryz.func125, Tryz.ntmps125
  go_wp2_with (go_at_call 176; refine (shIndexFuncI_any v xs lo hi bl bh bf m hv hf h1 h2).mono ?_; rintro e w' ⟨k, rfl, hk, rfl⟩; have HK := Lib.hid hk; clear hk)
  go_ret
  exact ⟨ret_bool HK.out, rfl⟩
theorem shEveryI_any (v : Value) (xs : List Int) (lo hi : Int) (bl bh : Nat) {w0 w : World} {H : Hp} {L : List (Nat × Obj)} (m : Mem w0 H L w) (hv : SlR encInt H v xs)
    (h1 : w.cell? ⟨bl, 0, none⟩ = some (.int .i64 lo)) (h2 : w.cell? ⟨bh, 0, none⟩ = some (.int .i64 hi)) (hl : bl < w.heap.size) (hh : bh < w.heap.size) :
    Calls Tryz.prog 95 #[v, .func (.func 96) #[] #[.pointer (some ⟨bl, 0, none⟩), .pointer (some ⟨bh, 0, none⟩)]] w (Ret w0 H L (.bool (inAll lo hi xs))) := by
  have HV := Lib.hid hv; clear hv
  go_enter Tryz.func95, Tryz.ntmps95
  have m1 := m.alloc (.cells #[.func (.func 96) #[] #[.pointer (some ⟨bl, 0, none⟩), .pointer (some ⟨bh, 0, none⟩)]] 160)
  have es := m1.eqs
  simp only [EqsL] at es
  have g1 := World.heap_alloc_lt' w (.cells #[.func (.func 96) #[] #[.pointer (some ⟨bl, 0, none⟩), .pointer (some ⟨bh, 0, none⟩)]] 160) bl hl
  have g2 := World.heap_alloc_lt' w (.cells #[.func (.func 96) #[] #[.pointer (some ⟨bl, 0, none⟩), .pointer (some ⟨bh, 0, none⟩)]] 160) bh hh
  go_wp2_with fail
  refine (shContainsFuncI_any v xs lo hi bl bh _ m1 HV.out (by simp [es]) (by unfold World.cell? at *; simp only at *; rw [g1]; exact h1) (by unfold World.cell? at *; simp only at *; rw [g2]; exact h2)).mono ?_
  rintro e w1 ⟨rfl, rfl⟩
  go_wp2
  go_ret
  exact ⟨ret_bool (by simp), m1.drop⟩
theorem shWithin_any (v : Value) (xs : List Int) (lo hi : Int) {w0 w : World} {H : Hp} {L : List (Nat × Obj)} (m : Mem w0 H L w) (hv : SlR encInt H v xs) :
    Calls Tryz.prog 58 #[.int .i64 lo, .int .i64 hi, v] w (Ret w0 H L (.bool (inAll lo hi xs))) := by
  have HV := Lib.hid hv; clear hv
  go_enter Tryz.func58, Tryz.ntmps58
  go_wp2_with fail
  have m1 := (m.alloc (.cells #[.int .i64 lo] 3)).alloc (.cells #[.int .i64 hi] 3)
  have es := m1.eqs
  simp only [EqsL] at es
  refine (shEveryI_any v xs lo hi _ _ m1 HV.out (by simp [es]) (by simp [es]) (by simp; omega) (by simp)).mono ?_
  rintro e w1 ⟨rfl, m2⟩
  go_wp2
  go_ret
  exact ⟨rfl, m2.drop.drop⟩
/-- A list of numbers, written out, that lies in a block of the call's own. -/
theorem Mem.ints {w0 w : World} {H : Hp} {L : List (Nat × Obj)} {b : Nat} {xs : List Int} (m : Mem w0 H ((b, .cells (xs.map (Value.int .i64)).toArray 3) :: L) w) (hx : ∀ x ∈ xs, I64 x) (hm : xs.length ≤ maxLen) :
    ∃ H', Mem w0 H' L w ∧ Hle H H' ∧ SlR encInt H' (.slice (some ⟨b, 0, none⟩) xs.length xs.length) xs :=
  m.lit (Chunks.ofV (f := Value.int .i64) (p := I64) xs hx) hm
theorem shWithin1n (b : Nat) (n lo hi : Int) (hn : I64 n) {w0 w : World} {H : Hp} {L : List (Nat × Obj)} (m : Mem w0 H ((b, .cells #[.int .i64 n] 3) :: L) w) :
    Calls Tryz.prog 58 #[.int .i64 lo, .int .i64 hi, .slice (some ⟨b, 0, none⟩) 1 1] w (Ret w0 H L (.bool (decide (lo ≤ n ∧ n ≤ hi)))) := by
  obtain ⟨H', m1, hl, hs⟩ := Mem.ints (xs := [n]) m (by simpa using hn) (by simp [maxLen])
  refine (shWithin_any _ [n] lo hi m1 hs).mono ?_
  rintro e w' ⟨rfl, m2⟩
  exact ⟨by simp [inAll], m2.weaken hl⟩

theorem shisName1x_any (c : UInt8) (w : World) : Calls Tryz.prog 113 #[.int .u8 c.toNat] w fun e w' => e = .returned (.bool (nameByte c)) ∧ w = w' := by
  cases ho : nameByte c
  · have hb := (nameByte_not _).1 ho
    have hx : ((c.toNat : Int) != 34) = !decide (c.toNat = 34) := by rw [Bool.eq_iff_iff]; simp; omega
    go_enter Tryz.func113, Tryz.ntmps113
    go_wp2_with fail
    all_goals (go_ret; refine ⟨ret_bool ?_, rfl⟩; first | rfl | (simp; omega) | omega)
  · have hb := (nameByte_iff _).1 ho
    have hx : ((c.toNat : Int) != 34) = true := by simp; omega
    go_enter Tryz.func113, Tryz.ntmps113
    go_wp2_with fail
    all_goals (go_ret; refine ⟨ret_bool ?_, rfl⟩; first | rfl | (simp; omega) | omega)
theorem shisString1x_any (c : UInt8) (w : World) : Calls Tryz.prog 169 #[.int .u8 c.toNat] w fun e w' => e = .returned (.bool (okByte c)) ∧ w = w' := by
  cases ho : okByte c
  · have hb := (okByte_not _).1 ho
    have hx : ((c.toNat : Int) == 10) = false := by simp; omega
    go_enter Tryz.func169, Tryz.ntmps169
    go_wp2_with fail
    all_goals (go_ret; refine ⟨ret_bool ?_, rfl⟩; first | rfl | (simp; omega) | omega)
  · have hb := (okByte_iff _).1 ho
    have hx : ((c.toNat : Int) == 10) = decide (c.toNat = 10) := by rw [Bool.eq_iff_iff]; simp; omega
    go_enter Tryz.func169, Tryz.ntmps169
    go_wp2_with fail
    all_goals (go_ret; refine ⟨ret_bool ?_, rfl⟩; first | rfl | (simp; omega) | omega)
theorem shEveryB1isName_any (c : UInt8) (bf : Nat) (w : World) (hf : w.cell? ⟨bf, 0, none⟩ = some (.func (.func 113) #[] #[])) :
    Calls Tryz.prog 168 #[.int .u8 c.toNat, .pointer (some ⟨bf, 0, none⟩)] w fun e w' => e = .returned (.bool (!nameByte c)) ∧ w = w' := by
  go_enter Tryz.func168, Tryz.ntmps168
  go_wp2_with (go_at_call 113; refine (shisName1x_any c _).mono ?_; rintro e w' ⟨rfl, rfl⟩)
  go_ret
  exact ⟨rfl, rfl⟩
set_option maxHeartbeats 400000 in
theorem shIndexFuncBisName_any (v : Value) (xs : List UInt8) (bf : Nat) {w0 w : World} {H : Hp} {L : List (Nat × Obj)} (m : Mem w0 H L w) (hv : SlR encByte H v xs)
    (hf : w.cell? ⟨bf, 0, none⟩ = some (.func (.func 113) #[] #[])) :
    Calls Tryz.prog 210 #[v, .func (.func 168) #[] #[.pointer (some ⟨bf, 0, none⟩)]] w (SomeIdx (!xs.all nameByte) w) := by
  have HV := Lib.hid hv
  obtain ⟨b, c, rfl, hc1, hc2, _, _⟩ := hv
  have hc2 := size_le_maxLen hc2
  go_enter Tryz.func210, Tryz.ntmps210
  go_wp2
  go_loop [5, 8] (fun _ i => ∃ k : Nat, k ≤ xs.length ∧ i = .int .i64 k ∧ (xs.take k).all nameByte = true) (fun _ i => xs.length - (intOf i).toNat)
  case atStart => exact ⟨0, Nat.zero_le _, rfl, rfl⟩
  case round =>
    obtain ⟨k, hk, rfl, hall⟩ := hrel
    have HA := Lib.hid hall; clear hall
    by_cases hlt : k < xs.length
    · obtain ⟨blk, off, rfl, hcell, hp⟩ := HV.out.cellV hlt
      have hcell := hcell.cell m
      cases hq : nameByte xs[k]
      · have HQ := Lib.hid hq
        go_wp2_with (go_at_call 168; refine (shEveryB1isName_any _ bf _ hf).mono ?_; rw [HQ.out]; rintro e w' ⟨rfl, rfl⟩)
        go_ret
        refine ⟨_, rfl, ?_, rfl⟩
        rw [show xs.all nameByte = false from all_false_of _ xs k hlt HQ.out]
        simp
      · have HQ := Lib.hid hq
        go_wp2_with (go_at_call 168; refine (shEveryB1isName_any _ bf _ hf).mono ?_; rw [HQ.out]; rintro e w' ⟨rfl, rfl⟩)
        go_round
        case rel => exact ⟨k + 1, by omega, by go_num, by rw [all_take_succ _ _ _ hlt, HA.out, HQ.out]; rfl⟩
        case measure => simp [intOf]; omega
    · go_wp2
      go_ret
      refine ⟨_, rfl, ?_, rfl⟩
      have := HA.out
      rw [List.take_of_length_le (by omega)] at this
      rw [this]
      rfl
theorem shContainsFuncBisName_any (v : Value) (xs : List UInt8) (bf : Nat) {w0 w : World} {H : Hp} {L : List (Nat × Obj)} (m : Mem w0 H L w) (hv : SlR encByte H v xs)
    (hf : w.cell? ⟨bf, 0, none⟩ = some (.func (.func 113) #[] #[])) :
    Calls Tryz.prog 167 #[v, .func (.func 168) #[] #[.pointer (some ⟨bf, 0, none⟩)]] w fun e w' => e = .returned (.bool (!xs.all nameByte)) ∧ w = w' := by
  go_enter Tryz.func167, Tryz.ntmps167
  go_wp2_with (go_at_call 210; refine (shIndexFuncBisName_any v xs bf m hv hf).mono ?_; rintro e w' ⟨k, rfl, hk, rfl⟩; have HK := Lib.hid hk; clear hk)
  go_ret
  exact ⟨ret_bool HK.out, rfl⟩
theorem shEveryBisName_any (v : Value) (xs : List UInt8) {w0 w : World} {H : Hp} {L : List (Nat × Obj)} (m : Mem w0 H L w) (hv : SlR encByte H v xs) :
    Calls Tryz.prog 112 #[v, .func (.func 113) #[] #[]] w (Ret w0 H L (.bool (xs.all nameByte))) := by
  have HV := Lib.hid hv; clear hv
  go_enter Tryz.func112, Tryz.ntmps112
  have m1 := m.alloc (.cells #[.func (.func 113) #[] #[]] 176)
  have es := m1.eqs
  simp only [EqsL] at es
  go_wp2_with fail
  refine (shContainsFuncBisName_any v xs _ m1 HV.out (by simp [es])).mono ?_
  rintro e w1 ⟨rfl, rfl⟩
  go_wp2
  go_ret
  exact ⟨ret_bool (by simp), m1.drop⟩
theorem shEveryB1isString_any (c : UInt8) (bf : Nat) (w : World) (hf : w.cell? ⟨bf, 0, none⟩ = some (.func (.func 169) #[] #[])) :
    Calls Tryz.prog 168 #[.int .u8 c.toNat, .pointer (some ⟨bf, 0, none⟩)] w fun e w' => e = .returned (.bool (!okByte c)) ∧ w = w' := by
  go_enter Tryz.func168, Tryz.ntmps168
  go_wp2_with (go_at_call 169; refine (shisString1x_any c _).mono ?_; rintro e w' ⟨rfl, rfl⟩)
  go_ret
  exact ⟨rfl, rfl⟩
set_option maxHeartbeats 400000 in
theorem shIndexFuncBisString_any (v : Value) (xs : List UInt8) (bf : Nat) {w0 w : World} {H : Hp} {L : List (Nat × Obj)} (m : Mem w0 H L w) (hv : SlR encByte H v xs)
    (hf : w.cell? ⟨bf, 0, none⟩ = some (.func (.func 169) #[] #[])) :
    Calls Tryz.prog 210 #[v, .func (.func 168) #[] #[.pointer (some ⟨bf, 0, none⟩)]] w (SomeIdx (!xs.all okByte) w) := by
  have HV := Lib.hid hv
  obtain ⟨b, c, rfl, hc1, hc2, _, _⟩ := hv
  have hc2 := size_le_maxLen hc2
  go_enter Tryz.func210, Tryz.ntmps210
  go_wp2
  go_loop [5, 8] (fun _ i => ∃ k : Nat, k ≤ xs.length ∧ i = .int .i64 k ∧ (xs.take k).all okByte = true) (fun _ i => xs.length - (intOf i).toNat)
  case atStart => exact ⟨0, Nat.zero_le _, rfl, rfl⟩
  case round =>
    obtain ⟨k, hk, rfl, hall⟩ := hrel
    have HA := Lib.hid hall; clear hall
    by_cases hlt : k < xs.length
    · obtain ⟨blk, off, rfl, hcell, hp⟩ := HV.out.cellV hlt
      have hcell := hcell.cell m
      cases hq : okByte xs[k]
      · have HQ := Lib.hid hq
        go_wp2_with (go_at_call 168; refine (shEveryB1isString_any _ bf _ hf).mono ?_; rw [HQ.out]; rintro e w' ⟨rfl, rfl⟩)
        go_ret
        refine ⟨_, rfl, ?_, rfl⟩
        rw [show xs.all okByte = false from all_false_of _ xs k hlt HQ.out]
        simp
      · have HQ := Lib.hid hq
        go_wp2_with (go_at_call 168; refine (shEveryB1isString_any _ bf _ hf).mono ?_; rw [HQ.out]; rintro e w' ⟨rfl, rfl⟩)
        go_round
        case rel => exact ⟨k + 1, by omega, by go_num, by rw [all_take_succ _ _ _ hlt, HA.out, HQ.out]; rfl⟩
        case measure => simp [intOf]; omega
    · go_wp2
      go_ret
      refine ⟨_, rfl, ?_, rfl⟩
      have := HA.out
      rw [List.take_of_length_le (by omega)] at this
      rw [this]
      rfl
theorem shContainsFuncBisString_any (v : Value) (xs : List UInt8) (bf : Nat) {w0 w : World} {H : Hp} {L : List (Nat × Obj)} (m : Mem w0 H L w) (hv : SlR encByte H v xs)
    (hf : w.cell? ⟨bf, 0, none⟩ = some (.func (.func 169) #[] #[])) :
    Calls Tryz.prog 167 #[v, .func (.func 168) #[] #[.pointer (some ⟨bf, 0, none⟩)]] w fun e w' => e = .returned (.bool (!xs.all okByte)) ∧ w = w' := by
  go_enter Tryz.func167, Tryz.ntmps167
  go_wp2_with (go_at_call 210; refine (shIndexFuncBisString_any v xs bf m hv hf).mono ?_; rintro e w' ⟨k, rfl, hk, rfl⟩; have HK := Lib.hid hk; clear hk)
  go_ret
  exact ⟨ret_bool HK.out, rfl⟩
theorem shEveryBisString_any (v : Value) (xs : List UInt8) {w0 w : World} {H : Hp} {L : List (Nat × Obj)} (m : Mem w0 H L w) (hv : SlR encByte H v xs) :
    Calls Tryz.prog 112 #[v, .func (.func 169) #[] #[]] w (Ret w0 H L (.bool (xs.all okByte))) := by
  have HV := Lib.hid hv; clear hv
  go_enter Tryz.func112, Tryz.ntmps112
  have m1 := m.alloc (.cells #[.func (.func 169) #[] #[]] 176)
  have es := m1.eqs
  simp only [EqsL] at es
  go_wp2_with fail
  refine (shContainsFuncBisString_any v xs _ m1 HV.out (by simp [es])).mono ?_
  rintro e w1 ⟨rfl, rfl⟩
  go_wp2
  go_ret
  exact ⟨ret_bool (by simp), m1.drop⟩
end Go.Proofs.YtbioklhoolkhkabGreat
namespace Go.Proofs.YtbioklhoolkhkabGreat
set_option linter.unusedVariables false
set_option linter.unusedSimpArgs false
open Go.RowKit

def bytesAll (p : UInt8 → Bool) (s : ByteArray) : Bool := s.data.toList.all p
theorem isName_eq (s : ByteArray) : isName s = (decide (1 ≤ s.size ∧ s.size ≤ 40) && bytesAll nameByte s) := by unfold isName bytesAll; rw [Bool.and_comm]
theorem isText_eq (s : ByteArray) : isText s = (decide (s.size ≤ 200) && bytesAll okByte s) := by unfold isText bytesAll; rw [Bool.and_comm]
theorem conv_str (w : World) (s : ByteArray) : (convert 9 175 (.string s)).run Tryz.prog w = .ok (.slice (some ⟨w.heap.size, 0, none⟩) s.size (grownCap w s.size 0 5)) (Lib.bytesWorld w 5 s) :=
  Lib.run_convert_string_bytes w _ _ _ s Tryz.underlying9 Tryz.underlying175 Tryz.underlying5

set_option maxHeartbeats 1000000 in
theorem shIsName_any (s : ByteArray) (hs : s.size ≤ maxLen) {w0 w : World} {H : Hp} {L : List (Nat × Obj)} (m : Mem w0 H L w) :
    Calls Tryz.prog 77 #[.string s] w (Ret w0 H L (.bool (isName s))) := by
  have HS := Lib.hid hs
  have hs := size_le_maxLen hs
  rw [isName_eq]
  go_enter Tryz.func77, Tryz.ntmps77
  have m1 := m.alloc (.cells #[.int .i64 s.size] 3)
  by_cases h : (1 : Int) ≤ s.size ∧ (s.size : Int) ≤ 40
  · have hd : decide (1 ≤ s.size ∧ s.size ≤ 40) = true := decide_eq_true (by omega)
    have hdI : decide ((1 : Int) ≤ s.size ∧ (s.size : Int) ≤ 40) = true := decide_eq_true h
    rw [hd, Bool.true_and]
    go_wp2_with fail
    refine (shWithin1n _ s.size 1 40 ⟨by omega, by omega⟩ m1).mono ?_
    rintro e w' ⟨rfl, m2⟩
    rw [hdI]
    obtain ⟨H', m3, hle, hsl⟩ := m2.bytes 5 s HS.out
    have hc := conv_str w' s
    go_wp2_with fail
    refine (shEveryBisName_any _ _ m3 hsl).mono ?_
    rintro e w2 ⟨rfl, m4⟩
    rw [show s.data.toList.all nameByte = bytesAll nameByte s from rfl]
    go_wp2_with fail
    go_ret
    exact ⟨ret_bool rfl, m4.weaken hle⟩
  · have hd : decide (1 ≤ s.size ∧ s.size ≤ 40) = false := decide_eq_false (by omega)
    have hdI : decide ((1 : Int) ≤ s.size ∧ (s.size : Int) ≤ 40) = false := decide_eq_false h
    rw [hd, Bool.false_and]
    go_wp2_with fail
    refine (shWithin1n _ s.size 1 40 ⟨by omega, by omega⟩ m1).mono ?_
    rintro e w' ⟨rfl, m2⟩
    rw [hdI]
    go_wp2_with fail
    go_ret
    exact ⟨rfl, m2⟩
set_option maxHeartbeats 1000000 in
theorem shIsString_any (s : ByteArray) (hs : s.size ≤ maxLen) {w0 w : World} {H : Hp} {L : List (Nat × Obj)} (m : Mem w0 H L w) :
    Calls Tryz.prog 114 #[.string s] w (Ret w0 H L (.bool (isText s))) := by
  have HS := Lib.hid hs
  have hs := size_le_maxLen hs
  rw [isText_eq]
  go_enter Tryz.func114, Tryz.ntmps114
  by_cases h : s.size ≤ 200
  · have hI : (s.size : Int) ≤ 200 := by omega
    rw [decide_eq_true h, Bool.true_and]
    obtain ⟨H', m3, hle, hsl⟩ := m.bytes 5 s HS.out
    have hc := conv_str w s
    go_wp2_with fail
    refine (shEveryBisString_any _ _ m3 hsl).mono ?_
    rintro e w2 ⟨rfl, m4⟩
    rw [show s.data.toList.all okByte = bytesAll okByte s from rfl]
    go_wp2_with fail
    go_ret
    exact ⟨ret_bool rfl, m4.weaken hle⟩
  · rw [decide_eq_false h, Bool.false_and]
    go_wp2_with fail
    go_ret
    exact ⟨rfl, m⟩
theorem ValM.basic_or (v : ValM) : v.basic = (if v.kind < 4 then v.plain else false) := by
  unfold ValM.basic ValM.plain
  by_cases h : v.kind < 4
  · rw [if_pos h, decide_eq_true (by omega : v.kind ≠ 4), decide_eq_true (by omega : v.kind ≠ 5), Bool.and_true, Bool.and_true]
  · rw [if_neg h, if_neg (by omega), if_neg (by omega), if_neg (by omega), if_neg (by omega)]
    by_cases h4 : v.kind = 4
    · rw [decide_eq_false (by omega : ¬ v.kind ≠ 4), Bool.and_false, Bool.false_and]
    · by_cases h5 : v.kind = 5
      · rw [decide_eq_false (by omega : ¬ v.kind ≠ 5), Bool.and_false]
      · rw [if_neg h4, if_neg h5]
        rfl
set_option maxRecDepth 10000 in
set_option maxHeartbeats 4000000 in
theorem shIsPlain_any (x : ValM) (hx : x.fit) {w0 : World} {H : Hp} {L : List (Nat × Obj)} {w : World} (m : Mem w0 H L w) :
    Calls Tryz.prog 78 #[x.v] w (Ret w0 H L (.bool x.basic)) := by
  obtain ⟨hk, hn, hs⟩ := hx
  have HS := Lib.hid hs; clear hs
  rw [ValM.basic_or]
  show Calls Tryz.prog 78 #[.agg #[.int .u8 x.kind, .int .i64 x.n, .string x.s]] w _
  have m1 := m.alloc (.cells #[.int .u8 x.kind, .int .i64 x.n, .string x.s] 41)
  have hI := hn
  unfold I64 at hn
  obtain ⟨k, n, s⟩ := x
  simp only at *
  have m2 := m1.alloc (.cells #[.int .i64 n] 3)
  rw [World.size_alloc] at m2
  have hks : k = 0 ∨ k = 1 ∨ k = 2 ∨ k = 3 ∨ 3 < k := by omega
  rcases hks with rfl | rfl | rfl | rfl | hk5
  · go_enter Tryz.func78, Tryz.ntmps78
    by_cases h0 : n = 0 ∧ s = ByteArray.empty
    · obtain ⟨rfl, rfl⟩ := h0
      go_wp2_with fail
      go_ret
      exact ⟨ret_bool (by simp [ValM.plain]), m1.drop⟩
    · have hp : ValM.plain ⟨0, n, s⟩ = false := by
        simp only [ValM.plain]
        simp
        intro h1 h2
        exact h0 ⟨h1, h2⟩
      rw [hp]
      go_wp2_with fail
      all_goals first
        | (go_ret; exact ⟨rfl, m1.drop⟩)
        | (exfalso; rename_i h1 h2; exact h0 ⟨h1, (toList_nil s).1 h2⟩)
        | (rename_i h1 h2; subst h1; go_ret; exact ⟨rfl, m1.drop⟩)
  · by_cases hr : (-1000000000 : Int) ≤ n ∧ n ≤ 1000000000
    · by_cases hs0 : s = ByteArray.empty
      · subst hs0
        go_enter Tryz.func78, Tryz.ntmps78
        go_wp2_with fail
        refine (shWithin1n _ n (-1000000000) 1000000000 hI m2).mono ?_
        rintro e w' ⟨rfl, m3⟩
        have es := m3.eqs
        simp only [EqsL] at es
        rw [decide_eq_true hr]
        go_wp2_with fail
        go_ret
        exact ⟨ret_bool (by simp [ValM.plain, hr]), m3.drop⟩
      · have hl0 : ¬ s.toList = [] := fun e => hs0 ((toList_nil s).1 e)
        go_enter Tryz.func78, Tryz.ntmps78
        go_wp2_with fail
        refine (shWithin1n _ n (-1000000000) 1000000000 hI m2).mono ?_
        rintro e w' ⟨rfl, m3⟩
        have es := m3.eqs
        simp only [EqsL] at es
        rw [decide_eq_true hr]
        go_wp2_with fail
        go_ret
        exact ⟨ret_bool (by simp [ValM.plain, hs0, hl0]), m3.drop⟩
    · go_enter Tryz.func78, Tryz.ntmps78
      go_wp2_with fail
      refine (shWithin1n _ n (-1000000000) 1000000000 hI m2).mono ?_
      rintro e w' ⟨rfl, m3⟩
      rw [decide_eq_false hr]
      go_wp2_with fail
      go_ret
      exact ⟨ret_bool (by simp [ValM.plain, hr]), m3.drop⟩
  · by_cases hr : (0 : Int) ≤ n ∧ n ≤ 1
    · by_cases hs0 : s = ByteArray.empty
      · subst hs0
        go_enter Tryz.func78, Tryz.ntmps78
        go_wp2_with fail
        refine (shWithin1n _ n (0) 1 hI m2).mono ?_
        rintro e w' ⟨rfl, m3⟩
        have es := m3.eqs
        simp only [EqsL] at es
        rw [decide_eq_true hr]
        go_wp2_with fail
        go_ret
        exact ⟨ret_bool (by simp [ValM.plain, hr]), m3.drop⟩
      · have hl0 : ¬ s.toList = [] := fun e => hs0 ((toList_nil s).1 e)
        go_enter Tryz.func78, Tryz.ntmps78
        go_wp2_with fail
        refine (shWithin1n _ n (0) 1 hI m2).mono ?_
        rintro e w' ⟨rfl, m3⟩
        have es := m3.eqs
        simp only [EqsL] at es
        rw [decide_eq_true hr]
        go_wp2_with fail
        go_ret
        exact ⟨ret_bool (by simp [ValM.plain, hs0, hl0]), m3.drop⟩
    · go_enter Tryz.func78, Tryz.ntmps78
      go_wp2_with fail
      refine (shWithin1n _ n (0) 1 hI m2).mono ?_
      rintro e w' ⟨rfl, m3⟩
      rw [decide_eq_false hr]
      go_wp2_with fail
      go_ret
      exact ⟨ret_bool (by simp [ValM.plain, hr]), m3.drop⟩
  · by_cases h0 : n = 0
    · subst h0
      go_enter Tryz.func78, Tryz.ntmps78
      go_wp2_with fail
      refine (shIsString_any s HS.out m1).mono ?_
      rintro e w' ⟨rfl, m3⟩
      go_wp2_with fail
      go_ret
      exact ⟨ret_bool (by simp [ValM.plain]), m3.drop⟩
    · go_enter Tryz.func78, Tryz.ntmps78
      go_wp2_with fail
      go_ret
      exact ⟨ret_bool (by simp [ValM.plain, h0]), m1.drop⟩
  · rw [if_neg (by omega)]
    have e0 : ((k : Int) == 0) = false := by simp; omega
    have e1 : ((k : Int) == 1) = false := by simp; omega
    have e2 : ((k : Int) == 2) = false := by simp; omega
    have e3 : ((k : Int) == 3) = false := by simp; omega
    go_enter Tryz.func78, Tryz.ntmps78
    go_wp2_with fail
    go_ret
    exact ⟨rfl, m1.drop⟩
end Go.Proofs.YtbioklhoolkhkabGreat
