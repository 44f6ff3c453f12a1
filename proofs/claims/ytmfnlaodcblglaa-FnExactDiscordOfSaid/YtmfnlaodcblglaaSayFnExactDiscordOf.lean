import Derived.Test.YtmfnlaodcblglaaG26
namespace Go.Proofs.Ytmfnlaodcblglaa.SayFnExactDiscordOf
open Go.RowKit Go.Proofs.Ytmfnlaodcblglaa.G
/-- The law, of numbers and lists alone. -/
def Pure : Prop := ∀ (a0 : Int) (l1 : List Int) (l2 : List Int), ((-9223372036854775808) ≤ a0 ∧ a0 ≤ 9223372036854775807) → l1.length * 8 ≤ 140737488351232 → (∀ x ∈ l1, ((-9223372036854775808) ≤ x ∧ x ≤ 9223372036854775807)) → l2.length * 8 ≤ 140737488351232 → (∀ x ∈ l2, ((-9223372036854775808) ≤ x ∧ x ≤ 9223372036854775807)) → ∃ k, laws_FnExactDiscordOf.f k a0 l1 l2 = some true
end Go.Proofs.Ytmfnlaodcblglaa.SayFnExactDiscordOf
