/- FnExactFollowOrders: the law's body answers true wherever its walk by hand says so: everywhere. No condition. -/
import Derived.Test.YtgjkpjagmhdfgaaSayFnExactFollowOrders
namespace Go.Proofs.Ytgjkpjagmhdfgaa.PureFnExactFollowOrders
open Go.RowKit Go.Proofs.YtgjkpjagmhdfgaaW.PrintWords Go.Proofs.Ytgjkpjagmhdfgaa.G Go.Proofs.Ytgjkpjagmhdfgaa.SayFnExactFollowOrders
theorem FnExactFollowOrders : SayFnExactFollowOrders.Pure := by
  intro a _
  rfl
end Go.Proofs.Ytgjkpjagmhdfgaa.PureFnExactFollowOrders
