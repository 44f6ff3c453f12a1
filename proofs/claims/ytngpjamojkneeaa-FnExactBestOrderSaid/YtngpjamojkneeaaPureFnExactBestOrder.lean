/- FnExactBestOrder: the law's body answers true wherever its walk by hand says so: everywhere. No condition. -/
import Derived.Test.YtngpjamojkneeaaSayFnExactBestOrder
namespace Go.Proofs.Ytngpjamojkneeaa.PureFnExactBestOrder
open Go.RowKit Go.Proofs.YtngpjamojkneeaaW.PrintWords Go.Proofs.Ytngpjamojkneeaa.G Go.Proofs.Ytngpjamojkneeaa.SayFnExactBestOrder
theorem FnExactBestOrder : SayFnExactBestOrder.Pure := by
  intro s m _ hl hx
  unfold laws_FnExactBestOrder.f
  rw [if_pos]
  exact ⟨hl, List.all_eq_true.2 fun x h => decide_eq_true (hx x h).1⟩
end Go.Proofs.Ytngpjamojkneeaa.PureFnExactBestOrder
