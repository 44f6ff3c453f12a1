import Derived.Test.YtgjkpjagmhdfgaaG4
namespace Go.Proofs.Ytgjkpjagmhdfgaa.SayFnExactPartOfLedger
open Go.RowKit Go.Proofs.Ytgjkpjagmhdfgaa.G
def Ok65 (y : S65) : Prop := ((-32768) ≤ y.f0 ∧ y.f0 ≤ 32767) ∧ ((-128) ≤ y.f1 ∧ y.f1 ≤ 127) ∧ ((-128) ≤ y.f2 ∧ y.f2 ≤ 127) ∧ (0 ≤ y.f3 ∧ y.f3 ≤ 255) ∧ ((-32768) ≤ y.f4 ∧ y.f4 ≤ 32767)
/-- The law, of numbers and lists alone. -/
def Pure : Prop := ∀ (a0 : Int) (l1 : List (S65)) (a2 : Int), ((-9223372036854775808) ≤ a0 ∧ a0 ≤ 9223372036854775807) → l1.length * 8 ≤ 140737488351232 → (∀ x ∈ l1, Ok65 x) → ((-9223372036854775808) ≤ a2 ∧ a2 ≤ 9223372036854775807) → ∃ k, laws_FnExactPartOfLedger.f k a0 l1 a2 = some true
end Go.Proofs.Ytgjkpjagmhdfgaa.SayFnExactPartOfLedger
