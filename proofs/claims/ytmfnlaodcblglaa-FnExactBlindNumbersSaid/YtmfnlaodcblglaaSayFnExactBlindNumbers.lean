import Derived.Test.YtmfnlaodcblglaaG15
namespace Go.Proofs.Ytmfnlaodcblglaa.SayFnExactBlindNumbers
open Go.RowKit Go.Proofs.Ytmfnlaodcblglaa.G
/-- The law, of numbers and lists alone. -/
def Pure : Prop := ∀ (a0 : Int) (a1 : Int) (a2 : Int), ((-9223372036854775808) ≤ a0 ∧ a0 ≤ 9223372036854775807) → ((-9223372036854775808) ≤ a1 ∧ a1 ≤ 9223372036854775807) → ((-9223372036854775808) ≤ a2 ∧ a2 ≤ 9223372036854775807) → ∃ k, laws_FnExactBlindNumbers.f k a0 a1 a2 = some true
end Go.Proofs.Ytmfnlaodcblglaa.SayFnExactBlindNumbers
