/- A closed call in pieces (Vn): piece 6. The closed function VmNames (lodelaw14) comes to true. -/
import Derived.Test.YtbioklhoolkhkadGreatDoorK30
import Derived.KernelRfl
import Derived.Test.YtbioklhoolkhkadGreatDoorK31
import Derived.Test.YtbioklhoolkhkadGreatDoorK32
import Derived.Test.YtbioklhoolkhkadGreatDoorK33
import Derived.Test.YtbioklhoolkhkadGreatDoorK34
import Derived.Test.YtbioklhoolkhkadGreatDoorK35
import Derived.Test.YtbioklhoolkhkadGreatDoorK36
namespace Go.Proofs.YtbioklhoolkhkadGreatDoor
set_option linter.unusedVariables false
set_option maxRecDepth 100000
open Go
theorem Vn_6 : pieceK VnEnv 1000000 190 (tkL (dpL (flatC (bodyOf Tryz.f3)) 21) 1) VnT6 VnB6 10060 .ret VnT7 VnB7 10060 = true := by kernel_rfl
end Go.Proofs.YtbioklhoolkhkadGreatDoor
namespace Go.Proofs.YtbioklhoolkhkadGreatDoor
set_option linter.unusedVariables false
set_option linter.unusedSimpArgs false
open Go.ChangeShapes Go.WideShapes Go.ChangeAt Go.RowKit Go.Joins Go.Deep

theorem vn_env : EnvOK Tryz.prog VnEnv := env_ok names_ok vn_eqs (fun f x h => by
    have := treeOf_get h
    simp only [List.mem_singleton] at this
    cases this
    exact av_known) fun c hc => by
    have hc' : c ∈ [VrLit] := hc
    simp only [List.mem_singleton] at hc'
    subst hc'
    exact vr_lit
theorem vn_known : KnownOK Tryz.prog 3 (.b true) := by
  have h0 := piece_ok vn_env (draw_ok follows_ok vn_env) (pieceK_eq ▸ Vn_0)
  have h1 := piece_ok vn_env (draw_ok follows_ok vn_env) (pieceK_eq ▸ Vn_1)
  have h2 := piece_ok vn_env (draw_ok follows_ok vn_env) (pieceK_eq ▸ Vn_2)
  have h3 := piece_ok vn_env (draw_ok follows_ok vn_env) (pieceK_eq ▸ Vn_3)
  have h4 := piece_ok vn_env (draw_ok follows_ok vn_env) (pieceK_eq ▸ Vn_4)
  have h5 := piece_ok vn_env (draw_ok follows_ok vn_env) (pieceK_eq ▸ Vn_5)
  have h6 := piece_ok vn_env (draw_ok follows_ok vn_env) (pieceK_eq ▸ Vn_6)
  have e : flatC (bodyOf Tryz.f3) = tkL (dpL (flatC (bodyOf Tryz.f3)) 0) 7 ++ (tkL (dpL (flatC (bodyOf Tryz.f3)) 7) 1 ++ (tkL (dpL (flatC (bodyOf Tryz.f3)) 8) 1 ++ (tkL (dpL (flatC (bodyOf Tryz.f3)) 9) 3 ++ (tkL (dpL (flatC (bodyOf Tryz.f3)) 12) 4 ++ (tkL (dpL (flatC (bodyOf Tryz.f3)) 16) 5 ++ (tkL (dpL (flatC (bodyOf Tryz.f3)) 21) 1)))))) := by kernel_rfl
  have h := h0.append (h1.append (h2.append (h3.append (h4.append (h5.append h6)))))
  rw [← e] at h
  exact known_ok Tryz.func3 (by kernel_rfl) (by kernel_rfl) vn_env h (.inr rfl) (by kernel_rfl)
end Go.Proofs.YtbioklhoolkhkadGreatDoor
