/- FnExactValidPrices: the program's ValidPrices answers as the reference's does, for all prices. No condition. -/
import Derived.Test.YtodlaafabnmbhaaSayFnExactValidPrices
import Derived.Test.YtodlaafabnmbhaaWk
namespace Go.Proofs.Ytodlaafabnmbhaa.PureFnExactValidPrices
open Go.RowKit Go.Proofs.Ytodlaafabnmbhaa.G Go.Proofs.Ytodlaafabnmbhaa.SayFnExactValidPrices Go.Proofs.Ytodlaafabnmbhaa.Wk
theorem l00In_tells (x lo hi : Int) : spec_l00In.f x lo hi = some (inB x lo hi) := by
  unfold spec_l00In.f inB
  by_cases h : lo ≤ x <;> simp [h]
theorem within_tells (x lo hi : Int) : impl_within.f x lo hi = some (inB x lo hi) := by
  unfold impl_within.f inB
  by_cases h : lo ≤ x <;> simp [h]
theorem FnExactValidPrices : SayFnExactValidPrices.Pure := by
  intro a b _ _
  unfold laws_FnExactValidPrices.f laws_toPrices.f spec_ValidPrices.f spec_l06Prices.f impl_ValidPrices.f
  simp only [Option.bind_some, l00In_tells, within_tells]
  cases inB (wrap64 a) 0 1000 <;> cases inB (wrap64 b) 0 1000 <;> rfl
end Go.Proofs.Ytodlaafabnmbhaa.PureFnExactValidPrices
