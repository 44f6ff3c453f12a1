import Derived.Test.YtncbgnlojabpfaaG17
namespace Go.Proofs.Ytncbgnlojabpfaa.SayFnExactReplayLedger
open Go.RowKit Go.Proofs.Ytncbgnlojabpfaa.G
def Ok24 (y : S24) : Prop := ((-32768) ≤ y.f0 ∧ y.f0 ≤ 32767) ∧ ((-32768) ≤ y.f1 ∧ y.f1 ≤ 32767)
def Ok73 (y : S73) : Prop := ((-9223372036854775808) ≤ y.f0 ∧ y.f0 ≤ 9223372036854775807) ∧ ((-9223372036854775808) ≤ y.f1 ∧ y.f1 ≤ 9223372036854775807) ∧ ((-9223372036854775808) ≤ y.f2 ∧ y.f2 ≤ 9223372036854775807) ∧ ((-9223372036854775808) ≤ y.f3 ∧ y.f3 ≤ 9223372036854775807) ∧ ((-9223372036854775808) ≤ y.f4 ∧ y.f4 ≤ 9223372036854775807)
def Ok28 (y : S28) : Prop := ((-32768) ≤ y.f0 ∧ y.f0 ≤ 32767) ∧ ((-128) ≤ y.f1 ∧ y.f1 ≤ 127) ∧ ((-128) ≤ y.f2 ∧ y.f2 ≤ 127) ∧ (0 ≤ y.f3 ∧ y.f3 ≤ 255) ∧ ((-32768) ≤ y.f4 ∧ y.f4 ≤ 32767)
/-- The law, of numbers and lists alone. -/
def Pure : Prop := ∀ (a0_0 : Int) (a0_1 : Int) (l1 : List (S73)) (l2 : List (S28)), ((-32768) ≤ a0_0 ∧ a0_0 ≤ 32767) → ((-32768) ≤ a0_1 ∧ a0_1 ≤ 32767) → l1.length * 40 ≤ 140737488351232 → (∀ x ∈ l1, Ok73 x) → l2.length * 8 ≤ 140737488351232 → (∀ x ∈ l2, Ok28 x) → ∃ k, laws_FnExactReplayLedger.f k a0_0 a0_1 l1 l2 = some true
end Go.Proofs.Ytncbgnlojabpfaa.SayFnExactReplayLedger
