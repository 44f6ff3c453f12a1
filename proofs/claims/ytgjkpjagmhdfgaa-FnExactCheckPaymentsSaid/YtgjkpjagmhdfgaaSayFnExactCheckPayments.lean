import Derived.Test.YtgjkpjagmhdfgaaG4
namespace Go.Proofs.Ytgjkpjagmhdfgaa.SayFnExactCheckPayments
open Go.RowKit Go.Proofs.Ytgjkpjagmhdfgaa.G
def Ok56 (y : S56) : Prop := ((-128) ≤ y.f0 ∧ y.f0 ≤ 127) ∧ ((-128) ≤ y.f1 ∧ y.f1 ≤ 127) ∧ ((-9223372036854775808) ≤ y.f2 ∧ y.f2 ≤ 9223372036854775807)
/-- The law, of numbers and lists alone. -/
def Pure : Prop := ∀ (l0 : List Int) (l1 : List (S56)), l0.length * 8 ≤ 140737488351232 → (∀ x ∈ l0, ((-9223372036854775808) ≤ x ∧ x ≤ 9223372036854775807)) → l1.length * 16 ≤ 140737488351232 → (∀ x ∈ l1, Ok56 x) → ∃ k, laws_FnExactCheckPayments.f k l0 l1 = some true
end Go.Proofs.Ytgjkpjagmhdfgaa.SayFnExactCheckPayments
