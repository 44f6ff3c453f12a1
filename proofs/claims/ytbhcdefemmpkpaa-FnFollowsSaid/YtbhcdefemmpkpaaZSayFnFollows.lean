import Derived.Test.YtbhcdefemmpkpaaZG6
namespace Go.Proofs.Ytbhcdefemmpkpaa.SayFnFollows
open Go.RowKit Go.Proofs.Ytbhcdefemmpkpaa.G
def Pure : Prop := ∀ (l0 : List Int) (l1 : List Int), l0.length * 1 ≤ 140737488351232 → (∀ x ∈ l0, (0 ≤ x ∧ x ≤ 255)) → l1.length * 1 ≤ 140737488351232 → (∀ x ∈ l1, (0 ≤ x ∧ x ≤ 255)) → ∃ k, laws_FnFollows.f k l0 l1 = some true
end Go.Proofs.Ytbhcdefemmpkpaa.SayFnFollows
