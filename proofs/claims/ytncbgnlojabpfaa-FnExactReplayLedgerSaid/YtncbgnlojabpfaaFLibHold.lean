/- Plain laws on holdings. -/
import Derived.Test.YtncbgnlojabpfaaPl
import Derived.Test.YtncbgnlojabpfaaFHeld
import Derived.Test.YtncbgnlojabpfaaFAreHeld
import Derived.Test.YtncbgnlojabpfaaG2
import Derived.Test.YtncbgnlojabpfaaG2
import Derived.Test.YtncbgnlojabpfaaG2
namespace Go.Proofs.Ytncbgnlojabpfaa.G
open Go.RowKit Go.Proofs.YtncbgnlojabpfaaW.PrintWords Go.Proofs.YtncbgnlojabpfaaW.PrintLast Go.Proofs.YtncbgnlojabpfaaW.PrintMore
attribute [local go_sem] max2_int min2_int max_two min_two max_three min_three max_four min_four   -- for this text's walks alone
set_option linter.unusedVariables false
set_option linter.unusedSimpArgs false

open Go.Proofs.Ytncbgnlojabpfaa.Wk Go.Proofs.Ytncbgnlojabpfaa.Pl
theorem szHoldingS_tells (l : List S73) (hl : l.length * 40 ≤ 140737488351232) (a : Int) (h0 : 0 ≤ a) (h1 : a ≤ 1048576) : laws_szHoldingS.f l a = some (if a < l.length then -1 else a - l.length) := by
  unfold laws_szHoldingS.f
  rw [w_id (by omega) (by omega)]
  by_cases h : a < l.length
  · rw [if_pos (by omega), if_pos h]
  · rw [if_neg (by omega), if_neg h]
/-- The code that the program reckons for holdings is the reference's. -/
theorem codeOf_holds (l : List S71) : ((impl_areParties.f (l.length : Int)).bind fun a => (impl_areHeld.f l).bind fun b => impl_codeOf.f a b) = some (holdsCode l) := by
  unfold impl_areParties.f impl_areHeld.f impl_codeOf.f holdsCode
  simp only [within_tells, Option.bind_some]
  cases inB (l.length : Int) 1 6 <;> cases l.all hB <;> rfl
theorem holdsCode_cases (l : List S71) : (holdsCode l = 0 ∧ 1 ≤ l.length ∧ l.length ≤ 6 ∧ l.all hB = true) ∨ holdsCode l = 1 ∨ holdsCode l = 2 := by
  unfold holdsCode
  cases h : inB (l.length : Int) 1 6
  · right; left; rfl
  · cases h2 : l.all hB
    · right; right; rfl
    · left
      have h := inB_iff.1 h
      exact ⟨rfl, by omega, by omega, rfl⟩
end Go.Proofs.Ytncbgnlojabpfaa.G
