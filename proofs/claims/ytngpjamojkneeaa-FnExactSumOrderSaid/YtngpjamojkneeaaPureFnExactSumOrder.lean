/- FnExactSumOrder: the law's body answers true wherever its walk by hand says so: everywhere. No condition. -/
import Derived.Test.YtngpjamojkneeaaSayFnExactSumOrder
namespace Go.Proofs.Ytngpjamojkneeaa.PureFnExactSumOrder
open Go.RowKit Go.Proofs.YtngpjamojkneeaaW.PrintWords Go.Proofs.Ytngpjamojkneeaa.G Go.Proofs.Ytngpjamojkneeaa.SayFnExactSumOrder
theorem FnExactSumOrder : SayFnExactSumOrder.Pure := by
  intro s m _ hl hx
  unfold laws_FnExactSumOrder.f
  rw [if_pos]
  exact ⟨hl, List.all_eq_true.2 fun x h => decide_eq_true (hx x h).1⟩
end Go.Proofs.Ytngpjamojkneeaa.PureFnExactSumOrder
