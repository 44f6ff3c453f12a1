import Derived.Test.YtmfnlaodcblglaaG29
namespace Go.Proofs.Ytmfnlaodcblglaa.SayFnExactIsOrder
open Go.RowKit Go.Proofs.Ytmfnlaodcblglaa.G
/-- The law, of numbers and lists alone. -/
def Pure : Prop := ∀ (a0 : Int) (l1 : List Int), ((-9223372036854775808) ≤ a0 ∧ a0 ≤ 9223372036854775807) → l1.length * 8 ≤ 140737488351232 → (∀ x ∈ l1, ((-9223372036854775808) ≤ x ∧ x ≤ 9223372036854775807)) → ∃ k, laws_FnExactIsOrder.f k a0 l1 = some true
end Go.Proofs.Ytmfnlaodcblglaa.SayFnExactIsOrder
