import Derived.Test.YtodlaafabnmbhaaG27
namespace Go.Proofs.Ytodlaafabnmbhaa.SayFnExactSumOf
open Go.RowKit Go.Proofs.Ytodlaafabnmbhaa.G
def Ok37 (y : S37) : Prop := ((-9223372036854775808) ≤ y.f0 ∧ y.f0 ≤ 9223372036854775807) ∧ ((-9223372036854775808) ≤ y.f1 ∧ y.f1 ≤ 9223372036854775807) ∧ ((-9223372036854775808) ≤ y.f2 ∧ y.f2 ≤ 9223372036854775807) ∧ ((-9223372036854775808) ≤ y.f3 ∧ y.f3 ≤ 9223372036854775807) ∧ ((-9223372036854775808) ≤ y.f4 ∧ y.f4 ≤ 9223372036854775807)
/-- The law, of numbers and lists alone. -/
def Pure : Prop := ∀ (l0 : List (S37)), l0.length * 40 ≤ 140737488351232 → (∀ x ∈ l0, Ok37 x) → ∃ k, laws_FnExactSumOf.f k l0 = some true
end Go.Proofs.Ytodlaafabnmbhaa.SayFnExactSumOf
