import Derived.Test.YtodlaafabnmbhaaG2
namespace Go.Proofs.Ytodlaafabnmbhaa.SayFnExactValidPrices
open Go.RowKit Go.Proofs.Ytodlaafabnmbhaa.G
def Ok24 (y : S24) : Prop := ((-32768) ≤ y.f0 ∧ y.f0 ≤ 32767) ∧ ((-32768) ≤ y.f1 ∧ y.f1 ≤ 32767)
/-- The law, of numbers and lists alone. -/
def Pure : Prop := ∀ (a0_0 : Int) (a0_1 : Int), ((-32768) ≤ a0_0 ∧ a0_0 ≤ 32767) → ((-32768) ≤ a0_1 ∧ a0_1 ≤ 32767) → laws_FnExactValidPrices.f a0_0 a0_1 = some true
end Go.Proofs.Ytodlaafabnmbhaa.SayFnExactValidPrices
