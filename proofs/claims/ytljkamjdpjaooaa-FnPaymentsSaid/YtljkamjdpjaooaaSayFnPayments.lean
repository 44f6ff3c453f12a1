import Derived.Test.YtljkamjdpjaooaaG6
namespace Go.Proofs.Ytljkamjdpjaooaa.SayFnPayments
open Go.RowKit Go.Proofs.Ytljkamjdpjaooaa.G
/-- The law, of numbers and lists alone. -/
def Pure : Prop := ∀ (l0 : List Int) (l1 : List Int), l0.length * 1 ≤ 140737488351232 → (∀ x ∈ l0, (0 ≤ x ∧ x ≤ 255)) → l1.length * 1 ≤ 140737488351232 → (∀ x ∈ l1, (0 ≤ x ∧ x ≤ 255)) → ∃ k, laws_FnPayments.f k l0 l1 = some true
end Go.Proofs.Ytljkamjdpjaooaa.SayFnPayments
