/- The walk: a storm's acts. -/
import Derived.Test.YtpkcdkbbhiafnaaDoorDoorA
import Derived.Test.YtpkcdkbbhiafnaaDoorGateS
namespace Go.Proofs.YtpkcdkbbhiafnaaDoor
set_option linter.unusedVariables false
set_option linter.unusedSimpArgs false
open Go.RowKit

theorem perm_st1 {α : Type} (a : α) (L4 L5 L : List α) : (a :: (L4 ++ (L5 ++ L))).Perm (L4 ++ (a :: (L5 ++ L))) := (by classical exact List.perm_iff_count.2 (fun a => by simp only [List.count_append, List.count_cons, List.cons_append, List.nil_append, List.append_assoc]; omega))
theorem perm_st2 {α : Type} (a : α) (L4 L5 L : List α) : (a :: (L4 ++ (L5 ++ L))).Perm (L5 ++ (a :: (L4 ++ L))) := (by classical exact List.perm_iff_count.2 (fun a => by simp only [List.count_append, List.count_cons, List.cons_append, List.nil_append, List.append_assoc]; omega))
theorem perm_st3 {α : Type} (a : α) (L4 L5 L : List α) : (a :: (L5 ++ (L4 ++ L))).Perm (L4 ++ (a :: (L5 ++ L))) := (by classical exact List.perm_iff_count.2 (fun a => by simp only [List.count_append, List.count_cons, List.cons_append, List.nil_append, List.append_assoc]; omega))
theorem perm_st4 {α : Type} (L4 L5 L : List α) : (L4 ++ (L5 ++ L)).Perm (L5 ++ (L4 ++ L)) := (by classical exact List.perm_iff_count.2 (fun a => by simp only [List.count_append, List.count_cons, List.cons_append, List.nil_append, List.append_assoc]; omega))
theorem outB_small (d : Nat) : (outB d).size ≤ maxLen := by simp [outB, ByteArray.size, maxLen]
theorem inB_small (d : Nat) : (inB d).size ≤ maxLen := by simp [inB, ByteArray.size, maxLen]
theorem storm_bounds (l : List UInt8) : ∀ j, j ≤ l.length → ((l.take j).foldl StormS.step .zero).out.length ≤ 2 * j ∧ ((l.take j).foldl StormS.step .zero).put.length ≤ j ∧ ((l.take j).foldl StormS.step .zero).inputs ≤ j := by
  intro j
  induction j with
  | zero => intro _; simp [StormS.zero]
  | succ j ih =>
    intro h
    have := ih (by omega)
    rw [List.take_succ_eq_append_getElem (by omega), List.foldl_append]
    simp only [List.foldl_cons, List.foldl_nil]
    generalize (l.take j).foldl StormS.step .zero = s at *
    unfold StormS.step
    repeat' split
    all_goals try simp only [List.length_append, List.length_cons, List.length_nil]
    all_goals omega

set_option maxRecDepth 10000 in
set_option maxHeartbeats 8000000 in
theorem acts_own (v : Value) (l : List UInt8) {w0 w : World} {H : Hp} {L : List (Nat × Obj)} (m : Mem w0 H L w) (hv : SlR encB H v l) :
    Calls Tryd.prog 7 #[v] w fun e w' => ∃ b c b' c' cs4 L4 H', e = .returned (.tuple #[.slice b (stormM l).out.length c, .slice b' (stormM l).put.length c']) ∧ AccL 38 3 (.slice b (stormM l).out.length c) (stormM l).out.length cs4 L4 ∧ Chunks encAct H' cs4 (stormM l).out ∧ Mem w0 H' (L4 ++ L) w' ∧ Hle H H' ∧ SlR encStr H' (.slice b' (stormM l).put.length c') (stormM l).put := by
  have HV := Lib.hid hv
  obtain ⟨b, c, rfl, hc1, hc2, _, _⟩ := hv
  have hc2 := size_le_maxLen hc2
  go_enter Tryd.func7, Tryd.ntmps7
  go_wp2_with fail
  go_loopw [4, 5, 6, 7, 8, 36, 54, 60, 66, 72, 92] (fun v4 v5 v6 v7 _ _ _ _ _ _ _ wr => ∃ (j : Nat) (b4 : Option Addr) (c4 : Nat) (b5 : Option Addr) (c5 : Nat) (cs4 cs5 : List Value) (L4 L5 : List (Nat × Obj)), j ≤ l.length ∧ j ≤ 90 ∧ v7 = .int .i64 j ∧ v6 = .int .i64 ((l.take j).foldl StormS.step .zero).inputs ∧ v4 = .slice b4 ((l.take j).foldl StormS.step .zero).out.length c4 ∧ v5 = .slice b5 ((l.take j).foldl StormS.step .zero).put.length c5 ∧ AccL 38 3 v4 ((l.take j).foldl StormS.step .zero).out.length cs4 L4 ∧ Chunks encAct H cs4 ((l.take j).foldl StormS.step .zero).out ∧ AccL 9 1 v5 ((l.take j).foldl StormS.step .zero).put.length cs5 L5 ∧ Chunks encStr H cs5 ((l.take j).foldl StormS.step .zero).put ∧ Mem w0 H (L4 ++ (L5 ++ L)) wr) (fun _ _ _ i _ _ _ _ _ _ _ _ => l.length - (intOf i).toNat)
  case atStart => exact ⟨0, none, 0, none, 0, [], [], [], [], Nat.zero_le _, by omega, rfl, rfl, rfl, rfl, AccL.nil, .nil, AccL.nil, .nil, m⟩
  case round =>
    obtain ⟨j, b4, c4, b5, c5, cs4, cs5, L4, L5, hj, hj2, rfl, rfl, rfl, rfl, ha4, hch4, ha5, hch5, m2⟩ := hrel
    have HC4 := Lib.hid hch4; clear hch4
    have HC5 := Lib.hid hch5; clear hch5
    have hbd := storm_bounds l j hj
    by_cases hlt : j < l.length ∧ j < 90
    · obtain ⟨hlt, hlt2⟩ := hlt
      have hstep : (l.take (j + 1)).foldl StormS.step .zero = ((l.take j).foldl StormS.step .zero).step l[j] := by
        rw [List.take_succ_eq_append_getElem hlt, List.foldl_append]
        rfl
      obtain ⟨blk, off, rfl, hce, _⟩ := HV.out.cellV hlt
      have hcell := hce.cell m2
      generalize (l.take j).foldl StormS.step .zero = s at *
      obtain ⟨hb1, hb2, hb3⟩ := hbd
      have HSTEP := Lib.hid (show (l.take (j + 1)).foldl StormS.step .zero = s.step l[j] from hstep); clear hstep
      have hx := l[j].toNat_lt
      have HX := Lib.hid (rfl : l[j].toNat = l[j].toNat)
      have hm8 : ((l[j].toNat : Int) % 8) = ((l[j].toNat % 8 : Nat) : Int) := by omega
      have hd3 : ((l[j].toNat : Int) / 8 % 3) = ((l[j].toNat / 8 % 3 : Nat) : Int) := by omega
      have hd4 : ((l[j].toNat : Int) / 8 % 4) = ((l[j].toNat / 8 % 4 : Nat) : Int) := by omega
      have hk8 : l[j].toNat % 8 < 8 := Nat.mod_lt _ (by decide)
      have hdd : l[j].toNat / 8 % 3 < 3 := Nat.mod_lt _ (by decide)
      have hee : l[j].toNat / 8 % 4 < 4 := Nat.mod_lt _ (by decide)
      have HS := Lib.hid (show ∀ k d e : Nat, l[j].toNat % 8 = k → l[j].toNat / 8 % 3 = d → l[j].toNat / 8 % 4 = e → s.step l[j] = (if k ≤ 1 then if s.put.length = 50 then s else ⟨s.out ++ [⟨1, 0, outB d⟩, bare 6], s.put ++ [outB d], s.inputs⟩ else if k = 5 then ⟨s.out ++ [⟨5, (s.inputs : Int) + ((e : Nat) : Int) - 2, inB d⟩], s.put, s.inputs + 1⟩ else if k = 2 then ⟨s.out ++ [bare 2], s.put, s.inputs⟩ else if k = 3 then ⟨s.out ++ [bare 3], s.put, s.inputs⟩ else if k = 4 then ⟨s.out ++ [bare 4], s.put, s.inputs⟩ else if k = 6 then ⟨s.out ++ [bare 6], s.put, s.inputs⟩ else ⟨s.out ++ [bare 7], s.put, s.inputs⟩) from fun k d e h1 h2 h3 => by subst h1; subst h2; subst h3; rfl)
      have HK := Lib.hid (rfl : l[j].toNat % 8 = l[j].toNat % 8)
      have hs2 := HS.out _ _ _ rfl rfl rfl
      clear HS HX HK
      have hstep := HSTEP.out.trans hs2
      clear hs2 HSTEP
      generalize l[j].toNat % 8 = k at *
      generalize l[j].toNat / 8 % 3 = d at *
      generalize l[j].toNat / 8 % 4 = e4 at *
      generalize l[j].toNat = y at *
      have hst := Lib.hid hstep; clear hstep
      go_wp2_with fail
      refine (Itoa_any d hdd _).mono ?_
      rintro e w1 ⟨rfl, rfl⟩
      have hks : k = 0 ∨ k = 1 ∨ k = 2 ∨ k = 3 ∨ k = 4 ∨ k = 5 ∨ k = 6 ∨ k = 7 := by omega
      rcases hks with rfl | rfl | rfl | rfl | rfl | rfl | rfl | rfl
      · have hstep := hst.out
        have hob : ByteArray.mk #[111] ++ digitB d = outB d := by simp [digitB, outB, ByteArray.ext_iff]
        by_cases h50 : s.put.length = 50
        · have h51 : ((s.put.length : Int) == 50) = true := by simp; omega
          have HST := Lib.hid (show (l.take (j + 1)).foldl StormS.step .zero = s from hstep.trans (by simp [h50]))
          have H50 := Lib.hid h50; clear h50
          go_wp2_with fail
          go_roundw
          case rel =>
            refine ⟨j + 1, b4, c4, b5, c5, cs4, cs5, L4, L5, by omega, by omega, by go_num, ?_, ?_, ?_, ?_, ?_, ?_, ?_, m2⟩
            · rw [HST.out]
            · rw [HST.out]
            · rw [HST.out]
            · rw [HST.out]; exact ha4
            · rw [HST.out]; exact HC4.out
            · rw [HST.out]; exact ha5
            · rw [HST.out]; exact HC5.out
          case measure => simp [intOf]; omega
        · have h51 : ((s.put.length : Int) == 50) = false := by simp; omega
          have HST := Lib.hid (show (l.take (j + 1)).foldl StormS.step .zero = ⟨s.out ++ [⟨1, 0, outB d⟩, bare 6], s.put ++ [outB d], s.inputs⟩ from hstep.trans (by simp [h50]))
          have H50 := Lib.hid h50; clear h50
          have mL := (m2.alloc (.cells #[.string (outB d)] 9)).perm (perm_st2 _ L4 L5 L)
          go_wp2_with (at_builtin; refine wpList_append_mem (w0 := w0) (H := H) (L := _ :: _) rfl _ _ 25 rfl 9 1 16 (.string ByteArray.empty) Tryd.underlying25 (by kernel_rfl) rfl (by decide) (.slice b5 s.put.length c5) s.put.length cs5 (ha5.join mL) rfl _ 1 [.string (outB d)] (Src.loc (e := 9) (ha5.join mL).mem (.head _)) rfl rfl (by simp [Value.oneCell']) (by omega) (by unfold maxLen; omega) ?_)
          intro v' w' hacc
          obtain ⟨b', c', rfl, _, _⟩ := hacc.shape
          obtain ⟨L5', ha5', m3⟩ := hacc.drop.split
          have hl2 : (s.put ++ [outB d]).length = s.put.length + 1 := by simp
          have hone2 : Chunks encStr H [.string (outB d)] [outB d] := .one (x := outB d) ⟨rfl, outB_small d⟩ rfl
          clear hacc mL m2
          have mL := (m3.alloc (.cells #[.int .u8 1, .int .i64 0, .string (outB d), .int .u8 6, .int .i64 0, .string ByteArray.empty] 38)).perm (perm_st3 _ L4 L5' L)
          go_wp2_with (at_builtin; refine wpList_append_mem (w0 := w0) (H := H) (L := _ :: _) rfl _ _ 24 rfl 38 3 32 (.agg #[.int .u8 0, .int .i64 0, .string ByteArray.empty]) Tryd.underlying24 (by kernel_rfl) rfl (by decide) (.slice b4 s.out.length c4) s.out.length cs4 (ha4.join mL) rfl _ 2 [.int .u8 1, .int .i64 0, .string (outB d), .int .u8 6, .int .i64 0, .string ByteArray.empty] (Src.loc (e := 38) (ha4.join mL).mem (.head _)) rfl rfl (by simp [Value.oneCell']) (by omega) (by unfold maxLen; omega) ?_)
          intro v2 w2 hacc
          obtain ⟨b2, c2, rfl, _, _⟩ := hacc.shape
          obtain ⟨L4', ha4', m4⟩ := hacc.drop.split
          have hl1 : (s.out ++ [⟨1, 0, outB d⟩, bare 6]).length = s.out.length + 2 := by simp
          have ho1 : Chunks encAct H [.int .u8 1, .int .i64 0, .string (outB d)] [(⟨1, 0, outB d⟩ : ActM)] := .one (x := (⟨1, 0, outB d⟩ : ActM)) ⟨rfl, ⟨by simp only; omega, by simp only; omega⟩, outB_small d⟩ rfl
          have ho2 : Chunks encAct H [.int .u8 6, .int .i64 0, .string ByteArray.empty] [bare 6] := .one (x := bare 6) ⟨rfl, ⟨by decide, by decide⟩, by decide⟩ rfl
          have hone : Chunks encAct H [.int .u8 1, .int .i64 0, .string (outB d), .int .u8 6, .int .i64 0, .string ByteArray.empty] [⟨1, 0, outB d⟩, bare 6] := ho1.append ho2
          clear hacc mL m3
          go_wp2_with fail
          go_roundw
          case rel =>
            refine ⟨j + 1, b2, c2, b', c', cs4 ++ [.int .u8 1, .int .i64 0, .string (outB d), .int .u8 6, .int .i64 0, .string ByteArray.empty], cs5 ++ [.string (outB d)], L4', L5', by omega, by omega, by go_num, ?_, ?_, ?_, ?_, ?_, ?_, ?_, m4⟩
            · rw [HST.out]
            · rw [HST.out]; simp only [hl1]
            · rw [HST.out]; simp only [hl2]
            · rw [HST.out]; simp only [hl1]; exact ha4'
            · rw [HST.out]; exact HC4.out.append hone
            · rw [HST.out]; simp only [hl2]; exact ha5'
            · rw [HST.out]; exact HC5.out.append hone2
          case measure => simp [intOf]; omega
      · have hstep := hst.out
        have hob : ByteArray.mk #[111] ++ digitB d = outB d := by simp [digitB, outB, ByteArray.ext_iff]
        by_cases h50 : s.put.length = 50
        · have h51 : ((s.put.length : Int) == 50) = true := by simp; omega
          have HST := Lib.hid (show (l.take (j + 1)).foldl StormS.step .zero = s from hstep.trans (by simp [h50]))
          have H50 := Lib.hid h50; clear h50
          go_wp2_with fail
          go_roundw
          case rel =>
            refine ⟨j + 1, b4, c4, b5, c5, cs4, cs5, L4, L5, by omega, by omega, by go_num, ?_, ?_, ?_, ?_, ?_, ?_, ?_, m2⟩
            · rw [HST.out]
            · rw [HST.out]
            · rw [HST.out]
            · rw [HST.out]; exact ha4
            · rw [HST.out]; exact HC4.out
            · rw [HST.out]; exact ha5
            · rw [HST.out]; exact HC5.out
          case measure => simp [intOf]; omega
        · have h51 : ((s.put.length : Int) == 50) = false := by simp; omega
          have HST := Lib.hid (show (l.take (j + 1)).foldl StormS.step .zero = ⟨s.out ++ [⟨1, 0, outB d⟩, bare 6], s.put ++ [outB d], s.inputs⟩ from hstep.trans (by simp [h50]))
          have H50 := Lib.hid h50; clear h50
          have mL := (m2.alloc (.cells #[.string (outB d)] 9)).perm (perm_st2 _ L4 L5 L)
          go_wp2_with (at_builtin; refine wpList_append_mem (w0 := w0) (H := H) (L := _ :: _) rfl _ _ 25 rfl 9 1 16 (.string ByteArray.empty) Tryd.underlying25 (by kernel_rfl) rfl (by decide) (.slice b5 s.put.length c5) s.put.length cs5 (ha5.join mL) rfl _ 1 [.string (outB d)] (Src.loc (e := 9) (ha5.join mL).mem (.head _)) rfl rfl (by simp [Value.oneCell']) (by omega) (by unfold maxLen; omega) ?_)
          intro v' w' hacc
          obtain ⟨b', c', rfl, _, _⟩ := hacc.shape
          obtain ⟨L5', ha5', m3⟩ := hacc.drop.split
          have hl2 : (s.put ++ [outB d]).length = s.put.length + 1 := by simp
          have hone2 : Chunks encStr H [.string (outB d)] [outB d] := .one (x := outB d) ⟨rfl, outB_small d⟩ rfl
          clear hacc mL m2
          have mL := (m3.alloc (.cells #[.int .u8 1, .int .i64 0, .string (outB d), .int .u8 6, .int .i64 0, .string ByteArray.empty] 38)).perm (perm_st3 _ L4 L5' L)
          go_wp2_with (at_builtin; refine wpList_append_mem (w0 := w0) (H := H) (L := _ :: _) rfl _ _ 24 rfl 38 3 32 (.agg #[.int .u8 0, .int .i64 0, .string ByteArray.empty]) Tryd.underlying24 (by kernel_rfl) rfl (by decide) (.slice b4 s.out.length c4) s.out.length cs4 (ha4.join mL) rfl _ 2 [.int .u8 1, .int .i64 0, .string (outB d), .int .u8 6, .int .i64 0, .string ByteArray.empty] (Src.loc (e := 38) (ha4.join mL).mem (.head _)) rfl rfl (by simp [Value.oneCell']) (by omega) (by unfold maxLen; omega) ?_)
          intro v2 w2 hacc
          obtain ⟨b2, c2, rfl, _, _⟩ := hacc.shape
          obtain ⟨L4', ha4', m4⟩ := hacc.drop.split
          have hl1 : (s.out ++ [⟨1, 0, outB d⟩, bare 6]).length = s.out.length + 2 := by simp
          have ho1 : Chunks encAct H [.int .u8 1, .int .i64 0, .string (outB d)] [(⟨1, 0, outB d⟩ : ActM)] := .one (x := (⟨1, 0, outB d⟩ : ActM)) ⟨rfl, ⟨by simp only; omega, by simp only; omega⟩, outB_small d⟩ rfl
          have ho2 : Chunks encAct H [.int .u8 6, .int .i64 0, .string ByteArray.empty] [bare 6] := .one (x := bare 6) ⟨rfl, ⟨by decide, by decide⟩, by decide⟩ rfl
          have hone : Chunks encAct H [.int .u8 1, .int .i64 0, .string (outB d), .int .u8 6, .int .i64 0, .string ByteArray.empty] [⟨1, 0, outB d⟩, bare 6] := ho1.append ho2
          clear hacc mL m3
          go_wp2_with fail
          go_roundw
          case rel =>
            refine ⟨j + 1, b2, c2, b', c', cs4 ++ [.int .u8 1, .int .i64 0, .string (outB d), .int .u8 6, .int .i64 0, .string ByteArray.empty], cs5 ++ [.string (outB d)], L4', L5', by omega, by omega, by go_num, ?_, ?_, ?_, ?_, ?_, ?_, ?_, m4⟩
            · rw [HST.out]
            · rw [HST.out]; simp only [hl1]
            · rw [HST.out]; simp only [hl2]
            · rw [HST.out]; simp only [hl1]; exact ha4'
            · rw [HST.out]; exact HC4.out.append hone
            · rw [HST.out]; simp only [hl2]; exact ha5'
            · rw [HST.out]; exact HC5.out.append hone2
          case measure => simp [intOf]; omega
      · have hstep := hst.out
        have HST := Lib.hid (show (l.take (j + 1)).foldl StormS.step .zero = ⟨s.out ++ [bare 2], s.put, s.inputs⟩ from hstep.trans (by simp))
        have mL := (m2.alloc (.cells #[.int .u8 2, .int .i64 0, .string ByteArray.empty] 38)).perm (perm_st1 _ L4 L5 L)
        go_wp2_with (at_builtin; refine wpList_append_mem (w0 := w0) (H := H) (L := _ :: _) rfl _ _ 24 rfl 38 3 32 (.agg #[.int .u8 0, .int .i64 0, .string ByteArray.empty]) Tryd.underlying24 (by kernel_rfl) rfl (by decide) (.slice b4 s.out.length c4) s.out.length cs4 (ha4.join mL) rfl _ 1 [.int .u8 2, .int .i64 0, .string ByteArray.empty] (Src.loc (e := 38) (ha4.join mL).mem (.head _)) rfl rfl (by simp [Value.oneCell']) (by omega) (by unfold maxLen; omega) ?_)
        intro v' w' hacc
        obtain ⟨b', c', rfl, _, _⟩ := hacc.shape
        obtain ⟨L4', ha4', m3⟩ := hacc.drop.split
        have hl1 : (s.out ++ [bare 2]).length = s.out.length + 1 := by simp
        have hone : Chunks encAct H [.int .u8 2, .int .i64 0, .string ByteArray.empty] [bare 2] := .one (E := encAct) (x := bare 2) ⟨rfl, ⟨by decide, by decide⟩, by decide⟩ rfl
        clear hacc mL m2
        go_wp2_with fail
        go_roundw
        case rel =>
          refine ⟨j + 1, b', c', b5, c5, cs4 ++ [.int .u8 2, .int .i64 0, .string ByteArray.empty], cs5, L4', L5, by omega, by omega, by go_num, ?_, ?_, ?_, ?_, ?_, ?_, ?_, m3⟩
          · rw [HST.out]
          · rw [HST.out]; simp only [hl1]
          · rw [HST.out]
          · rw [HST.out]; simp only [hl1]; exact ha4'
          · rw [HST.out]; exact HC4.out.append hone
          · rw [HST.out]; exact ha5
          · rw [HST.out]; exact HC5.out
        case measure => simp [intOf]; omega
      · have hstep := hst.out
        have HST := Lib.hid (show (l.take (j + 1)).foldl StormS.step .zero = ⟨s.out ++ [bare 3], s.put, s.inputs⟩ from hstep.trans (by simp))
        have mL := (m2.alloc (.cells #[.int .u8 3, .int .i64 0, .string ByteArray.empty] 38)).perm (perm_st1 _ L4 L5 L)
        go_wp2_with (at_builtin; refine wpList_append_mem (w0 := w0) (H := H) (L := _ :: _) rfl _ _ 24 rfl 38 3 32 (.agg #[.int .u8 0, .int .i64 0, .string ByteArray.empty]) Tryd.underlying24 (by kernel_rfl) rfl (by decide) (.slice b4 s.out.length c4) s.out.length cs4 (ha4.join mL) rfl _ 1 [.int .u8 3, .int .i64 0, .string ByteArray.empty] (Src.loc (e := 38) (ha4.join mL).mem (.head _)) rfl rfl (by simp [Value.oneCell']) (by omega) (by unfold maxLen; omega) ?_)
        intro v' w' hacc
        obtain ⟨b', c', rfl, _, _⟩ := hacc.shape
        obtain ⟨L4', ha4', m3⟩ := hacc.drop.split
        have hl1 : (s.out ++ [bare 3]).length = s.out.length + 1 := by simp
        have hone : Chunks encAct H [.int .u8 3, .int .i64 0, .string ByteArray.empty] [bare 3] := .one (E := encAct) (x := bare 3) ⟨rfl, ⟨by decide, by decide⟩, by decide⟩ rfl
        clear hacc mL m2
        go_wp2_with fail
        go_roundw
        case rel =>
          refine ⟨j + 1, b', c', b5, c5, cs4 ++ [.int .u8 3, .int .i64 0, .string ByteArray.empty], cs5, L4', L5, by omega, by omega, by go_num, ?_, ?_, ?_, ?_, ?_, ?_, ?_, m3⟩
          · rw [HST.out]
          · rw [HST.out]; simp only [hl1]
          · rw [HST.out]
          · rw [HST.out]; simp only [hl1]; exact ha4'
          · rw [HST.out]; exact HC4.out.append hone
          · rw [HST.out]; exact ha5
          · rw [HST.out]; exact HC5.out
        case measure => simp [intOf]; omega
      · have hstep := hst.out
        have HST := Lib.hid (show (l.take (j + 1)).foldl StormS.step .zero = ⟨s.out ++ [bare 4], s.put, s.inputs⟩ from hstep.trans (by simp))
        have mL := (m2.alloc (.cells #[.int .u8 4, .int .i64 0, .string ByteArray.empty] 38)).perm (perm_st1 _ L4 L5 L)
        go_wp2_with (at_builtin; refine wpList_append_mem (w0 := w0) (H := H) (L := _ :: _) rfl _ _ 24 rfl 38 3 32 (.agg #[.int .u8 0, .int .i64 0, .string ByteArray.empty]) Tryd.underlying24 (by kernel_rfl) rfl (by decide) (.slice b4 s.out.length c4) s.out.length cs4 (ha4.join mL) rfl _ 1 [.int .u8 4, .int .i64 0, .string ByteArray.empty] (Src.loc (e := 38) (ha4.join mL).mem (.head _)) rfl rfl (by simp [Value.oneCell']) (by omega) (by unfold maxLen; omega) ?_)
        intro v' w' hacc
        obtain ⟨b', c', rfl, _, _⟩ := hacc.shape
        obtain ⟨L4', ha4', m3⟩ := hacc.drop.split
        have hl1 : (s.out ++ [bare 4]).length = s.out.length + 1 := by simp
        have hone : Chunks encAct H [.int .u8 4, .int .i64 0, .string ByteArray.empty] [bare 4] := .one (E := encAct) (x := bare 4) ⟨rfl, ⟨by decide, by decide⟩, by decide⟩ rfl
        clear hacc mL m2
        go_wp2_with fail
        go_roundw
        case rel =>
          refine ⟨j + 1, b', c', b5, c5, cs4 ++ [.int .u8 4, .int .i64 0, .string ByteArray.empty], cs5, L4', L5, by omega, by omega, by go_num, ?_, ?_, ?_, ?_, ?_, ?_, ?_, m3⟩
          · rw [HST.out]
          · rw [HST.out]; simp only [hl1]
          · rw [HST.out]
          · rw [HST.out]; simp only [hl1]; exact ha4'
          · rw [HST.out]; exact HC4.out.append hone
          · rw [HST.out]; exact ha5
          · rw [HST.out]; exact HC5.out
        case measure => simp [intOf]; omega
      · have hstep := hst.out
        have hib : ByteArray.mk #[105] ++ digitB d = inB d := by simp [digitB, inB, ByteArray.ext_iff]
        have HST := Lib.hid (show (l.take (j + 1)).foldl StormS.step .zero = ⟨s.out ++ [(⟨5, (s.inputs : Int) + (e4 : Int) - 2, inB d⟩ : ActM)], s.put, s.inputs + 1⟩ from hstep.trans (by simp))
        have mL := (m2.alloc (.cells #[.int .u8 5, .int .i64 ((s.inputs : Int) + (e4 : Int) - 2), .string (inB d)] 38)).perm (perm_st1 _ L4 L5 L)
        go_wp2_with (at_builtin; refine wpList_append_mem (w0 := w0) (H := H) (L := _ :: _) rfl _ _ 24 rfl 38 3 32 (.agg #[.int .u8 0, .int .i64 0, .string ByteArray.empty]) Tryd.underlying24 (by kernel_rfl) rfl (by decide) (.slice b4 s.out.length c4) s.out.length cs4 (ha4.join mL) rfl _ 1 [.int .u8 5, .int .i64 ((s.inputs : Int) + (e4 : Int) - 2), .string (inB d)] (Src.loc (e := 38) (ha4.join mL).mem (.head _)) rfl rfl (by simp [Value.oneCell']) (by omega) (by unfold maxLen; omega) ?_)
        intro v' w' hacc
        obtain ⟨b', c', rfl, _, _⟩ := hacc.shape
        obtain ⟨L4', ha4', m3⟩ := hacc.drop.split
        have hl1 : (s.out ++ [(⟨5, (s.inputs : Int) + (e4 : Int) - 2, inB d⟩ : ActM)]).length = s.out.length + 1 := by simp
        have hone : Chunks encAct H [.int .u8 5, .int .i64 ((s.inputs : Int) + (e4 : Int) - 2), .string (inB d)] [(⟨5, (s.inputs : Int) + (e4 : Int) - 2, inB d⟩ : ActM)] := .one (E := encAct) (x := (⟨5, (s.inputs : Int) + (e4 : Int) - 2, inB d⟩ : ActM)) ⟨rfl, ⟨by simp only; omega, by simp only; omega⟩, inB_small d⟩ rfl
        clear hacc mL m2
        go_wp2_with fail
        go_roundw
        case rel =>
          refine ⟨j + 1, b', c', b5, c5, cs4 ++ [.int .u8 5, .int .i64 ((s.inputs : Int) + (e4 : Int) - 2), .string (inB d)], cs5, L4', L5, by omega, by omega, by go_num, ?_, ?_, ?_, ?_, ?_, ?_, ?_, m3⟩
          · rw [HST.out]; go_num
          · rw [HST.out]; simp only [hl1]
          · rw [HST.out]
          · rw [HST.out]; simp only [hl1]; exact ha4'
          · rw [HST.out]; exact HC4.out.append hone
          · rw [HST.out]; exact ha5
          · rw [HST.out]; exact HC5.out
        case measure => simp [intOf]; omega
      · have hstep := hst.out
        have HST := Lib.hid (show (l.take (j + 1)).foldl StormS.step .zero = ⟨s.out ++ [bare 6], s.put, s.inputs⟩ from hstep.trans (by simp))
        have mL := (m2.alloc (.cells #[.int .u8 6, .int .i64 0, .string ByteArray.empty] 38)).perm (perm_st1 _ L4 L5 L)
        go_wp2_with (at_builtin; refine wpList_append_mem (w0 := w0) (H := H) (L := _ :: _) rfl _ _ 24 rfl 38 3 32 (.agg #[.int .u8 0, .int .i64 0, .string ByteArray.empty]) Tryd.underlying24 (by kernel_rfl) rfl (by decide) (.slice b4 s.out.length c4) s.out.length cs4 (ha4.join mL) rfl _ 1 [.int .u8 6, .int .i64 0, .string ByteArray.empty] (Src.loc (e := 38) (ha4.join mL).mem (.head _)) rfl rfl (by simp [Value.oneCell']) (by omega) (by unfold maxLen; omega) ?_)
        intro v' w' hacc
        obtain ⟨b', c', rfl, _, _⟩ := hacc.shape
        obtain ⟨L4', ha4', m3⟩ := hacc.drop.split
        have hl1 : (s.out ++ [bare 6]).length = s.out.length + 1 := by simp
        have hone : Chunks encAct H [.int .u8 6, .int .i64 0, .string ByteArray.empty] [bare 6] := .one (E := encAct) (x := bare 6) ⟨rfl, ⟨by decide, by decide⟩, by decide⟩ rfl
        clear hacc mL m2
        go_wp2_with fail
        go_roundw
        case rel =>
          refine ⟨j + 1, b', c', b5, c5, cs4 ++ [.int .u8 6, .int .i64 0, .string ByteArray.empty], cs5, L4', L5, by omega, by omega, by go_num, ?_, ?_, ?_, ?_, ?_, ?_, ?_, m3⟩
          · rw [HST.out]
          · rw [HST.out]; simp only [hl1]
          · rw [HST.out]
          · rw [HST.out]; simp only [hl1]; exact ha4'
          · rw [HST.out]; exact HC4.out.append hone
          · rw [HST.out]; exact ha5
          · rw [HST.out]; exact HC5.out
        case measure => simp [intOf]; omega
      · have hstep := hst.out
        have HST := Lib.hid (show (l.take (j + 1)).foldl StormS.step .zero = ⟨s.out ++ [bare 7], s.put, s.inputs⟩ from hstep.trans (by simp))
        have mL := (m2.alloc (.cells #[.int .u8 7, .int .i64 0, .string ByteArray.empty] 38)).perm (perm_st1 _ L4 L5 L)
        go_wp2_with (at_builtin; refine wpList_append_mem (w0 := w0) (H := H) (L := _ :: _) rfl _ _ 24 rfl 38 3 32 (.agg #[.int .u8 0, .int .i64 0, .string ByteArray.empty]) Tryd.underlying24 (by kernel_rfl) rfl (by decide) (.slice b4 s.out.length c4) s.out.length cs4 (ha4.join mL) rfl _ 1 [.int .u8 7, .int .i64 0, .string ByteArray.empty] (Src.loc (e := 38) (ha4.join mL).mem (.head _)) rfl rfl (by simp [Value.oneCell']) (by omega) (by unfold maxLen; omega) ?_)
        intro v' w' hacc
        obtain ⟨b', c', rfl, _, _⟩ := hacc.shape
        obtain ⟨L4', ha4', m3⟩ := hacc.drop.split
        have hl1 : (s.out ++ [bare 7]).length = s.out.length + 1 := by simp
        have hone : Chunks encAct H [.int .u8 7, .int .i64 0, .string ByteArray.empty] [bare 7] := .one (E := encAct) (x := bare 7) ⟨rfl, ⟨by decide, by decide⟩, by decide⟩ rfl
        clear hacc mL m2
        go_wp2_with fail
        go_roundw
        case rel =>
          refine ⟨j + 1, b', c', b5, c5, cs4 ++ [.int .u8 7, .int .i64 0, .string ByteArray.empty], cs5, L4', L5, by omega, by omega, by go_num, ?_, ?_, ?_, ?_, ?_, ?_, ?_, m3⟩
          · rw [HST.out]
          · rw [HST.out]; simp only [hl1]
          · rw [HST.out]
          · rw [HST.out]; simp only [hl1]; exact ha4'
          · rw [HST.out]; exact HC4.out.append hone
          · rw [HST.out]; exact ha5
          · rw [HST.out]; exact HC5.out
        case measure => simp [intOf]; omega
    · have hte : (l.take j).foldl StormS.step .zero = stormM l := by
        unfold stormM
        rcases Nat.lt_or_ge j 90 with h | h
        · rw [List.take_of_length_le (by omega), List.take_of_length_le (by omega)]
        · rw [show j = 90 by omega]
      rw [hte] at ha4 ha5 HC4 HC5 hbd ⊢
      clear hte
      have hex : (¬ j < l.length) ∨ (j < l.length ∧ ¬ j < 90) := by omega
      rcases hex with h1 | ⟨h1, h2⟩
      all_goals
        go_wp2_with fail
        go_ret2
        obtain ⟨H3, m4, hl3, hs3⟩ := (ha5.join (m2.perm (perm_st4 L4 L5 L))).done HC5.out rfl rfl
        exact ⟨_, _, _, _, _, _, H3, rfl, ha4, HC4.out.mono hl3, m4, hl3, hs3⟩
theorem acts_any (v : Value) (l : List UInt8) {w0 w : World} {H : Hp} {L : List (Nat × Obj)} (m : Mem w0 H L w) (hv : SlR encB H v l) :
    Calls Tryd.prog 7 #[v] w fun e w' => ∃ b c b' c' H', e = .returned (.tuple #[.slice b (stormM l).out.length c, .slice b' (stormM l).put.length c']) ∧ Mem w0 H' L w' ∧ Hle H H' ∧ SlR encAct H' (.slice b (stormM l).out.length c) (stormM l).out ∧ SlR encStr H' (.slice b' (stormM l).put.length c') (stormM l).put := by
  refine (acts_own v l m hv).mono ?_
  rintro e w' ⟨b, c, b', c', cs4, L4, H', rfl, ha4, hc4, m2, hl, hs⟩
  obtain ⟨H2, m3, hl2, hs2⟩ := (ha4.join m2).done hc4 rfl rfl
  exact ⟨_, _, _, _, H2, rfl, m3, hl.trans hl2, hs2, hs.mono hl2⟩
end Go.Proofs.YtpkcdkbbhiafnaaDoor
