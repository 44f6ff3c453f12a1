import Derived.Test.YtljkamjdpjaooaaG5
namespace Go.Proofs.Ytljkamjdpjaooaa.SayFnExactFewestPayments
open Go.RowKit Go.Proofs.Ytljkamjdpjaooaa.G
/-- The law, of numbers and lists alone. -/
def Pure : Prop := ∀ (l0 : List Int), l0.length * 8 ≤ 140737488351232 → (∀ x ∈ l0, ((-9223372036854775808) ≤ x ∧ x ≤ 9223372036854775807)) → ∃ k, laws_FnExactFewestPayments.f k l0 = some true
end Go.Proofs.Ytljkamjdpjaooaa.SayFnExactFewestPayments
