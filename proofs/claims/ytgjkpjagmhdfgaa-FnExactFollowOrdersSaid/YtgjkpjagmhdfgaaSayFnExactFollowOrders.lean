import Derived.Test.YtgjkpjagmhdfgaaFLwFollowOrders
namespace Go.Proofs.Ytgjkpjagmhdfgaa.SayFnExactFollowOrders
open Go.RowKit Go.Proofs.Ytgjkpjagmhdfgaa.G
/-- The law, of numbers and lists alone. -/
def Pure : Prop := ∀ (a0 : Int), ((-9223372036854775808) ≤ a0 ∧ a0 ≤ 9223372036854775807) → laws_FnExactFollowOrders.f a0 = some true
end Go.Proofs.Ytgjkpjagmhdfgaa.SayFnExactFollowOrders
