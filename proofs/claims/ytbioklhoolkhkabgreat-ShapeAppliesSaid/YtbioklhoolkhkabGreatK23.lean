/- The closed function awake (lodelaw23) comes to true. -/
import Derived.Test.YtbioklhoolkhkabGreatK08
import Derived.Test.YtbioklhoolkhkabGreatK18
import Derived.Test.YtbioklhoolkhkabGreatK19
import Derived.Test.YtbioklhoolkhkabGreatK20
import Derived.Test.YtbioklhoolkhkabGreatK21
import Derived.Test.YtbioklhoolkhkabGreatK22
namespace Go.Proofs.YtbioklhoolkhkabGreat
set_option linter.unusedVariables false
set_option linter.unusedSimpArgs false
open Go.ChangeShapes Go.WideShapes Go.ChangeAt Go.RowKit Go.Joins Go.Deep

theorem sh_eq1 : EqOK Tryz.prog 219 (List.replicate 4 (.int .i64)) := by
  obtain ⟨i, hi⟩ : ∃ i, Tryz.prog.info? 217 = some i := Option.isSome_iff_exists.1 (by kernel_rfl)
  exact eqOK_arr (e := 217) (dd := .int .u64) (by kernel_rfl) hi (by kernel_rfl) (by kernel_rfl) (by kernel_rfl) (by kernel_rfl)
theorem sh_eq2 : EqOK Tryz.prog 41 [.int .i64, .int .i64, .string] := eqOK_of (by kernel_rfl) (by kernel_rfl) (by kernel_rfl) (by kernel_rfl)
theorem sh_eqs : ∀ e ∈ [((219 : Nat), [TK.int .i64, .int .i64, .int .i64, .int .i64]), (41, [.int .i64, .int .i64, .string])], EqOK Tryz.prog e.1 e.2 := fun e he => by
  simp only [List.mem_cons, List.not_mem_nil, or_false] at he
  rcases he with rfl | rfl
  · exact sh_eq1
  · exact sh_eq2
theorem sh_env : EnvOK Tryz.prog ShEnv := env_ok names_ok sh_eqs (fun f x h => by
    simp only [treeOf, Tree.get_leaf] at h
    cases h) fun c hc => by cases hc
theorem sh_known : KnownOK Tryz.prog 6 (.b true) := by
  have h0 := piece_ok sh_env (draw_ok follows_ok sh_env) (pieceK_eq ▸ Sh_0)
  have h1 := piece_ok sh_env (draw_ok follows_ok sh_env) (pieceK_eq ▸ Sh_1)
  have h2 := piece_ok sh_env (draw_ok follows_ok sh_env) (pieceK_eq ▸ Sh_2)
  have h3 := piece_ok sh_env (draw_ok follows_ok sh_env) (pieceK_eq ▸ Sh_3)
  have h4 := piece_ok sh_env (draw_ok follows_ok sh_env) (pieceK_eq ▸ Sh_4)
  have e : flatC (bodyOf Tryz.f6) = tkL (dpL (flatC (bodyOf Tryz.f6)) 0) 5 ++ (tkL (dpL (flatC (bodyOf Tryz.f6)) 5) 2 ++ (tkL (dpL (flatC (bodyOf Tryz.f6)) 7) 1 ++ (tkL (dpL (flatC (bodyOf Tryz.f6)) 8) 3 ++ (tkL (dpL (flatC (bodyOf Tryz.f6)) 11) 3)))) := by kernel_rfl
  have h := h0.append (h1.append (h2.append (h3.append h4)))
  rw [← e] at h
  exact known_ok Tryz.func6 (by kernel_rfl) (by kernel_rfl) sh_env h (.inr rfl) (by kernel_rfl)
end Go.Proofs.YtbioklhoolkhkabGreat
