import Derived.Test.YtmfnlaodcblglaaG31
namespace Go.Proofs.Ytmfnlaodcblglaa.SayFnExactSameMarks
open Go.RowKit Go.Proofs.Ytmfnlaodcblglaa.G
/-- The law, of numbers and lists alone. -/
def Pure : Prop := ∀ (l0 : List (List Int)) (l1 : List (List Int)), l0.length * 24 ≤ 140737488351232 → (∀ x ∈ l0, (x.length ≤ 9223372036854775807 ∧ ∀ x1 ∈ x, ((-9223372036854775808) ≤ x1 ∧ x1 ≤ 9223372036854775807))) → l1.length * 24 ≤ 140737488351232 → (∀ x ∈ l1, (x.length ≤ 9223372036854775807 ∧ ∀ x1 ∈ x, ((-9223372036854775808) ≤ x1 ∧ x1 ≤ 9223372036854775807))) → ∃ k, laws_FnExactSameMarks.f k l0 l1 = some true
end Go.Proofs.Ytmfnlaodcblglaa.SayFnExactSameMarks
