/- FnExactOutAt: the program's OutAt answers as the reference's does, for all prices and holdings. No condition. -/
import Derived.Test.YtodlaafabnmbhaaSayFnExactOutAt
import Derived.Test.YtodlaafabnmbhaaFAreHeld
namespace Go.Proofs.Ytodlaafabnmbhaa.PureFnExactOutAt
open Go.RowKit Go.Proofs.Ytodlaafabnmbhaa.G Go.Proofs.Ytodlaafabnmbhaa.SayFnExactOutAt Go.Proofs.Ytodlaafabnmbhaa.Wk
theorem FnExactOutAt : SayFnExactOutAt.Pure := by
  intro b c f0 f1 f2 f3 f4 _ _ _ _ _ _ _
  unfold laws_FnExactOutAt.f laws_toPrices.f laws_toHolding.f spec_OutAt.f impl_OutAt.f impl_ValidPrices.f impl_codeOf.f pricesB outAt
  simp only [Option.bind_some, within_tells, isHeld_tells]
  cases inB (wrap64 b) 0 1000 <;> cases inB (wrap64 c) 0 1000 <;> cases heldB f0 f1 f2 f3 f4 <;> simp
end Go.Proofs.Ytodlaafabnmbhaa.PureFnExactOutAt
