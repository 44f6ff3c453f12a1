import Derived.Test.YthkifkfnlmjafaaDoorG2
namespace Go.Proofs.YthkifkfnlmjafaaDoor.SayFnExactWalkerText
open Go.RowKit Go.Proofs.YthkifkfnlmjafaaDoor.G
def Ok25 (y : S25) : Prop := ((-32768) ≤ y.f0 ∧ y.f0 ≤ 32767) ∧ ((-32768) ≤ y.f1 ∧ y.f1 ≤ 32767) ∧ ((-32768) ≤ y.f2 ∧ y.f2 ≤ 32767) ∧ ((-32768) ≤ y.f3 ∧ y.f3 ≤ 32767) ∧ ((-32768) ≤ y.f4 ∧ y.f4 ≤ 32767) ∧ ((-128) ≤ y.f5 ∧ y.f5 ≤ 127)
/-- The law, of numbers and lists alone. -/
def Pure : Prop := ∀ (a0_0 : Int) (a0_1 : Int) (a0_2 : Int) (a0_3 : Int) (a0_4 : Int) (a0_5 : Int), ((-32768) ≤ a0_0 ∧ a0_0 ≤ 32767) → ((-32768) ≤ a0_1 ∧ a0_1 ≤ 32767) → ((-32768) ≤ a0_2 ∧ a0_2 ≤ 32767) → ((-32768) ≤ a0_3 ∧ a0_3 ≤ 32767) → ((-32768) ≤ a0_4 ∧ a0_4 ≤ 32767) → ((-128) ≤ a0_5 ∧ a0_5 ≤ 127) → ∃ k, laws_FnExactWalkerText.f k a0_0 a0_1 a0_2 a0_3 a0_4 a0_5 = some true
end Go.Proofs.YthkifkfnlmjafaaDoor.SayFnExactWalkerText
