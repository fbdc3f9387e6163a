/- The closed function known (lodelaw09) comes to true. -/
import Derived.Test.YthcaafhpnmmfmaaGreatDoorK08
import Derived.Test.YthcaafhpnmmfmaaGreatDoorK09
import Derived.Test.YthcaafhpnmmfmaaGreatDoorK10
import Derived.Test.YthcaafhpnmmfmaaGreatDoorK11
import Derived.Test.YthcaafhpnmmfmaaGreatDoorK12
import Derived.Test.YthcaafhpnmmfmaaGreatDoorK13
import Derived.Test.YthcaafhpnmmfmaaGreatDoorK14
import Derived.Test.YthcaafhpnmmfmaaGreatDoorK15
namespace Go.Proofs.YthcaafhpnmmfmaaGreatDoor
set_option linter.unusedVariables false
set_option linter.unusedSimpArgs false
open Go.ChangeShapes Go.WideShapes Go.ChangeAt Go.RowKit Go.Joins Go.Deep

theorem fk_ext : ∀ c ∈ FkExt, ExtOK Tryz.prog c := fun c hc => by
  simp only [FkExt, List.mem_cons, List.not_mem_nil, or_false] at hc
  rcases hc with rfl | rfl | rfl | rfl
  · exact list_ext
  · exact name_ext
  · exact split_ext
  · exact grow_ext
theorem fk_env : EnvOK Tryz.prog FkEnv := env_ok fk_ext names_ok fun e he => by cases he
theorem fk_known : KnownOK Tryz.prog 4 (.b true) := by
  have h0 := piece_ok fk_env (draw_ok follows_ok fk_env) Fk_0
  have h1 := piece_ok fk_env (draw_ok follows_ok fk_env) Fk_1
  have h2 := piece_ok fk_env (draw_ok follows_ok fk_env) Fk_2
  have h3 := piece_ok fk_env (draw_ok follows_ok fk_env) Fk_3
  have h4 := piece_ok fk_env (draw_ok follows_ok fk_env) Fk_4
  have h5 := piece_ok fk_env (draw_ok follows_ok fk_env) Fk_5
  have e : flatC (bodyOf Tryz.f4) = tkL (dpL (flatC (bodyOf Tryz.f4)) 0) 2 ++ (tkL (dpL (flatC (bodyOf Tryz.f4)) 2) 1 ++ (tkL (dpL (flatC (bodyOf Tryz.f4)) 3) 1 ++ (tkL (dpL (flatC (bodyOf Tryz.f4)) 4) 1 ++ (tkL (dpL (flatC (bodyOf Tryz.f4)) 5) 8 ++ (tkL (dpL (flatC (bodyOf Tryz.f4)) 13) 2))))) := by kernel_rfl
  have h := h0.append (h1.append (h2.append (h3.append (h4.append h5))))
  rw [← e] at h
  exact known_ok Tryz.func4 (by kernel_rfl) (by kernel_rfl) fk_env h (.inr rfl) (by kernel_rfl)
end Go.Proofs.YthcaafhpnmmfmaaGreatDoor
