import Derived.Test.YtepokbejmnkogaaG3
namespace Go.Proofs.Ytepokbejmnkogaa.SayFnExactRevealOrder
open Go.RowKit Go.Proofs.Ytepokbejmnkogaa.G
def Ok76 (y : S76) : Prop := (0 ≤ y.f0 ∧ y.f0 ≤ 255) ∧ ((-32768) ≤ y.f1 ∧ y.f1 ≤ 32767)
/-- The law, of numbers and lists alone. -/
def Pure : Prop := ∀ (l0 : List Int) (l1 : List Int) (l2 : List (S76)), l0.length * 8 ≤ 140737488351232 → (∀ x ∈ l0, ((-9223372036854775808) ≤ x ∧ x ≤ 9223372036854775807)) → l1.length * 8 ≤ 140737488351232 → (∀ x ∈ l1, ((-9223372036854775808) ≤ x ∧ x ≤ 9223372036854775807)) → l2.length * 4 ≤ 140737488351232 → (∀ x ∈ l2, Ok76 x) → ∃ k, laws_FnExactRevealOrder.f k l0 l1 l2 = some true
end Go.Proofs.Ytepokbejmnkogaa.SayFnExactRevealOrder
