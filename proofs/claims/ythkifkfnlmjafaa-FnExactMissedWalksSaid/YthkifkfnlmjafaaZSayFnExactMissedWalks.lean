import Derived.Test.YthkifkfnlmjafaaZG6
namespace Go.Proofs.Ythkifkfnlmjafaa.SayFnExactMissedWalks
open Go.RowKit Go.Proofs.Ythkifkfnlmjafaa.G
def Ok55 (y : S55) : Prop := ((-32768) ≤ y.f0 ∧ y.f0 ≤ 32767) ∧ ((-32768) ≤ y.f1 ∧ y.f1 ≤ 32767) ∧ ((-32768) ≤ y.f2 ∧ y.f2 ≤ 32767) ∧ ((-32768) ≤ y.f3 ∧ y.f3 ≤ 32767) ∧ ((-32768) ≤ y.f4 ∧ y.f4 ≤ 32767) ∧ ((-128) ≤ y.f5 ∧ y.f5 ≤ 127)
def Pure : Prop := ∀ (l0 : List Int) (l1 : List (S55)) (a2 : Int) (l3 : List Int), l0.length * 1 ≤ 140737488351232 → (∀ x ∈ l0, (0 ≤ x ∧ x ≤ 255)) → l1.length * 12 ≤ 140737488351232 → (∀ x ∈ l1, Ok55 x) → ((-9223372036854775808) ≤ a2 ∧ a2 ≤ 9223372036854775807) → l3.length * 1 ≤ 140737488351232 → (∀ x ∈ l3, (0 ≤ x ∧ x ≤ 255)) → ∃ k, laws_FnExactMissedWalks.f k l0 l1 a2 l3 = some true
end Go.Proofs.Ythkifkfnlmjafaa.SayFnExactMissedWalks
