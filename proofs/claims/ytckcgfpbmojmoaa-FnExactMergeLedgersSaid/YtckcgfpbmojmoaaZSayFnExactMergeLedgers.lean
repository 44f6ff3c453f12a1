import Derived.Test.YtckcgfpbmojmoaaZG8
namespace Go.Proofs.Ytckcgfpbmojmoaa.SayFnExactMergeLedgers
open Go.RowKit Go.Proofs.Ytckcgfpbmojmoaa.G
def Ok55 (y : S55) : Prop := ((-32768) ≤ y.f0 ∧ y.f0 ≤ 32767) ∧ ((-128) ≤ y.f1 ∧ y.f1 ≤ 127) ∧ ((-128) ≤ y.f2 ∧ y.f2 ≤ 127) ∧ (0 ≤ y.f3 ∧ y.f3 ≤ 255) ∧ ((-32768) ≤ y.f4 ∧ y.f4 ≤ 32767)
def Pure : Prop := ∀ (a0 : Int) (l1 : List (S55)) (l2 : List (S55)), ((-9223372036854775808) ≤ a0 ∧ a0 ≤ 9223372036854775807) → l1.length * 8 ≤ 140737488351232 → (∀ x ∈ l1, Ok55 x) → l2.length * 8 ≤ 140737488351232 → (∀ x ∈ l2, Ok55 x) → ∃ k, laws_FnExactMergeLedgers.f k a0 l1 l2 = some true
end Go.Proofs.Ytckcgfpbmojmoaa.SayFnExactMergeLedgers
