import Derived.Test.YtgjkpjagmhdfgaaG3
namespace Go.Proofs.Ytgjkpjagmhdfgaa.SayFnExactMissingIn
open Go.RowKit Go.Proofs.Ytgjkpjagmhdfgaa.G
def Ok65 (y : S65) : Prop := ((-32768) ≤ y.f0 ∧ y.f0 ≤ 32767) ∧ ((-128) ≤ y.f1 ∧ y.f1 ≤ 127) ∧ ((-128) ≤ y.f2 ∧ y.f2 ≤ 127) ∧ (0 ≤ y.f3 ∧ y.f3 ≤ 255) ∧ ((-32768) ≤ y.f4 ∧ y.f4 ≤ 32767)
/-- The law, of numbers and lists alone. -/
def Pure : Prop := ∀ (l0 : List (S65)) (l1 : List (S65)), l0.length * 8 ≤ 140737488351232 → (∀ x ∈ l0, Ok65 x) → l1.length * 8 ≤ 140737488351232 → (∀ x ∈ l1, Ok65 x) → ∃ k, laws_FnExactMissingIn.f k l0 l1 = some true
end Go.Proofs.Ytgjkpjagmhdfgaa.SayFnExactMissingIn
