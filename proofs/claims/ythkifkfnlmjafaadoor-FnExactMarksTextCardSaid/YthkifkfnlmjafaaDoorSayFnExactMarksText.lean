import Derived.Test.YthkifkfnlmjafaaDoorG2
namespace Go.Proofs.YthkifkfnlmjafaaDoor.SayFnExactMarksText
open Go.RowKit Go.Proofs.YthkifkfnlmjafaaDoor.G
/-- The law, of numbers and lists alone. -/
def Pure : Prop := ∀ (a0 : Int) (l1 : List (List Int)), ((-9223372036854775808) ≤ a0 ∧ a0 ≤ 9223372036854775807) → l1.length * 24 ≤ 140737488351232 → (∀ x ∈ l1, (x.length ≤ 9223372036854775807 ∧ ∀ x1 ∈ x, ((-9223372036854775808) ≤ x1 ∧ x1 ≤ 9223372036854775807))) → ∃ k, laws_FnExactMarksText.f k a0 l1 = some true
end Go.Proofs.YthkifkfnlmjafaaDoor.SayFnExactMarksText
