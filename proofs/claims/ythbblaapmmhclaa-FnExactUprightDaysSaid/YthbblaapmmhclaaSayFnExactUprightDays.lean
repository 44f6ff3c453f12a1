import Derived.Test.YthbblaapmmhclaaG6
namespace Go.Proofs.Ythbblaapmmhclaa.SayFnExactUprightDays
open Go.RowKit Go.Proofs.Ythbblaapmmhclaa.G
def Ok79 (y : S79) : Prop := ((-32768) ≤ y.f0 ∧ y.f0 ≤ 32767) ∧ ((-32768) ≤ y.f1 ∧ y.f1 ≤ 32767) ∧ ((-32768) ≤ y.f2 ∧ y.f2 ≤ 32767) ∧ ((-32768) ≤ y.f3 ∧ y.f3 ≤ 32767) ∧ ((-32768) ≤ y.f4 ∧ y.f4 ≤ 32767) ∧ ((-128) ≤ y.f5 ∧ y.f5 ≤ 127)
/-- The law, of numbers and lists alone. -/
def Pure : Prop := ∀ (l0 : List Int) (l1 : List (S79)) (a2 : Int) (a3 : Int), l0.length * 1 ≤ 140737488351232 → (∀ x ∈ l0, (0 ≤ x ∧ x ≤ 255)) → l1.length * 12 ≤ 140737488351232 → (∀ x ∈ l1, Ok79 x) → ((-9223372036854775808) ≤ a2 ∧ a2 ≤ 9223372036854775807) → ((-9223372036854775808) ≤ a3 ∧ a3 ≤ 9223372036854775807) → ∃ k, laws_FnExactUprightDays.f k l0 l1 a2 a3 = some true
end Go.Proofs.Ythbblaapmmhclaa.SayFnExactUprightDays
