/- Plain laws on lists of numbers: looking for a number, orders of samples. -/
import Derived.Test.YtngpjamojkneeaaPl
import Derived.Test.YtngpjamojkneeaaG1
import Derived.Test.YtngpjamojkneeaaG1
namespace Go.Proofs.Ytngpjamojkneeaa.G
open Go.RowKit Go.Proofs.YtngpjamojkneeaaW.PrintWords Go.Proofs.YtngpjamojkneeaaW.PrintLast Go.Proofs.YtngpjamojkneeaaW.PrintMore
attribute [local go_sem] max2_int min2_int max_two min_two max_three min_three max_four min_four   -- for this text's walks alone
set_option linter.unusedVariables false
set_option linter.unusedSimpArgs false

open Go.Proofs.Ytngpjamojkneeaa.Wk Go.Proofs.Ytngpjamojkneeaa.Pl
theorem within_tells2 (x lo hi : Int) : impl_within.f x lo hi = some (inB x lo hi) := by
  unfold impl_within.f inB
  by_cases h : lo ≤ x <;> simp [h]
theorem l00In_tells2 (x lo hi : Int) : spec_l00In.f x lo hi = some (inB x lo hi) := by
  unfold spec_l00In.f inB
  by_cases h : lo ≤ x <;> simp [h]
end Go.Proofs.Ytngpjamojkneeaa.G
