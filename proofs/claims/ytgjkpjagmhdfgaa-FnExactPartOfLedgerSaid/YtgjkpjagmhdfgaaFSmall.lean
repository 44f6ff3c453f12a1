/- Small callees: impl.within, impl.isParty, impl.codeOf. -/
import Derived.Test.YtgjkpjagmhdfgaaG0
import Derived.Test.YtgjkpjagmhdfgaaWk
namespace Go.Proofs.Ytgjkpjagmhdfgaa.G
open Go.RowKit Go.Proofs.YtgjkpjagmhdfgaaW.PrintWords Go.Proofs.YtgjkpjagmhdfgaaW.PrintLast Go.Proofs.YtgjkpjagmhdfgaaW.PrintMore
attribute [local go_sem] max2_int min2_int max_two min_two max_three min_three max_four min_four   -- for this text's walks alone
set_option linter.unusedVariables false
set_option linter.unusedSimpArgs false

open Go.Proofs.Ytgjkpjagmhdfgaa.Wk
namespace Sm
theorem within (x lo hi : Int) (w : World) : Calls Try.prog 35 #[.int .i64 x, .int .i64 lo, .int .i64 hi] w fun e w' => e = .returned (.bool (inB x lo hi)) ∧ w = w' := by
  by_cases h1 : lo ≤ x
  · by_cases h2 : x ≤ hi
    · rw [inB_yes h1 h2]
      go_enter Try.func35, Try.ntmps35
      go_wp2
      go_ret
      exact ⟨by simp [*], rfl⟩
    · rw [inB_high h2]
      go_enter Try.func35, Try.ntmps35
      go_wp2
      go_ret
      exact ⟨by simp [*], rfl⟩
  · rw [inB_low h1]
    go_enter Try.func35, Try.ntmps35
    go_wp2
    go_ret
    exact ⟨rfl, rfl⟩
theorem isParty (n x : Int) (w : World) : Calls Try.prog 34 #[.int .i64 n, .int .i64 x] w fun e w' => e = .returned (.bool (inB x 0 (wrap64 (n - 1)))) ∧ w = w' := by
  go_enter Try.func34, Try.ntmps34
  go_wp2_with (go_at_call 35; refine (within _ _ _ _).mono ?_; rintro e w' ⟨rfl, rfl⟩)
  go_ret
  exact ⟨rfl, rfl⟩
/-- The code of two tests. -/
def code (a b : Bool) : Int := if a = true then (if b = true then 0 else 2) else 1
theorem codeOf (a b : Bool) (w : World) : Calls Try.prog 43 #[.bool a, .bool b] w fun e w' => e = .returned (.int .i64 (code a b)) ∧ w = w' := by
  cases a <;> cases b
  all_goals
    go_enter Try.func43, Try.ntmps43
    go_wp2
    go_ret
    exact ⟨rfl, rfl⟩
end Sm
end Go.Proofs.Ytgjkpjagmhdfgaa.G
