import Derived.Test.YtmdcchekaijlbaaG26
namespace Go.Proofs.Ytmdcchekaijlbaa.SayFnExactAgreementOf
open Go.RowKit Go.Proofs.Ytmdcchekaijlbaa.G
/-- The law, of numbers and lists alone. -/
def Pure : Prop := ∀ (a0 : Int) (l1 : List (List Int)) (l2 : List Int), ((-9223372036854775808) ≤ a0 ∧ a0 ≤ 9223372036854775807) → l1.length * 24 ≤ 140737488351232 → (∀ x ∈ l1, (x.length ≤ 9223372036854775807 ∧ ∀ x1 ∈ x, ((-9223372036854775808) ≤ x1 ∧ x1 ≤ 9223372036854775807))) → l2.length * 8 ≤ 140737488351232 → (∀ x ∈ l2, ((-9223372036854775808) ≤ x ∧ x ≤ 9223372036854775807)) → ∃ k, laws_FnExactAgreementOf.f k a0 l1 l2 = some true
end Go.Proofs.Ytmdcchekaijlbaa.SayFnExactAgreementOf
