import Derived.Test.YtodlaafabnmbhaaG5
namespace Go.Proofs.Ytodlaafabnmbhaa.SayFnExactOutAt
open Go.RowKit Go.Proofs.Ytodlaafabnmbhaa.G
def Ok24 (y : S24) : Prop := ((-32768) ≤ y.f0 ∧ y.f0 ≤ 32767) ∧ ((-32768) ≤ y.f1 ∧ y.f1 ≤ 32767)
def Ok37 (y : S37) : Prop := ((-9223372036854775808) ≤ y.f0 ∧ y.f0 ≤ 9223372036854775807) ∧ ((-9223372036854775808) ≤ y.f1 ∧ y.f1 ≤ 9223372036854775807) ∧ ((-9223372036854775808) ≤ y.f2 ∧ y.f2 ≤ 9223372036854775807) ∧ ((-9223372036854775808) ≤ y.f3 ∧ y.f3 ≤ 9223372036854775807) ∧ ((-9223372036854775808) ≤ y.f4 ∧ y.f4 ≤ 9223372036854775807)
/-- The law, of numbers and lists alone. -/
def Pure : Prop := ∀ (a0_0 : Int) (a0_1 : Int) (a1_0 : Int) (a1_1 : Int) (a1_2 : Int) (a1_3 : Int) (a1_4 : Int), ((-32768) ≤ a0_0 ∧ a0_0 ≤ 32767) → ((-32768) ≤ a0_1 ∧ a0_1 ≤ 32767) → ((-9223372036854775808) ≤ a1_0 ∧ a1_0 ≤ 9223372036854775807) → ((-9223372036854775808) ≤ a1_1 ∧ a1_1 ≤ 9223372036854775807) → ((-9223372036854775808) ≤ a1_2 ∧ a1_2 ≤ 9223372036854775807) → ((-9223372036854775808) ≤ a1_3 ∧ a1_3 ≤ 9223372036854775807) → ((-9223372036854775808) ≤ a1_4 ∧ a1_4 ≤ 9223372036854775807) → laws_FnExactOutAt.f a0_0 a0_1 a1_0 a1_1 a1_2 a1_3 a1_4 = some true
end Go.Proofs.Ytodlaafabnmbhaa.SayFnExactOutAt
