import Derived.Test.YtodlaafabnmbhaaG3
namespace Go.Proofs.Ytodlaafabnmbhaa.SayFnExactValidEntry
open Go.RowKit Go.Proofs.Ytodlaafabnmbhaa.G
def Ok31 (y : S31) : Prop := ((-32768) ≤ y.f0 ∧ y.f0 ≤ 32767) ∧ ((-128) ≤ y.f1 ∧ y.f1 ≤ 127) ∧ ((-128) ≤ y.f2 ∧ y.f2 ≤ 127) ∧ (0 ≤ y.f3 ∧ y.f3 ≤ 255) ∧ ((-32768) ≤ y.f4 ∧ y.f4 ≤ 32767)
/-- The law, of numbers and lists alone. -/
def Pure : Prop := ∀ (a0 : Int) (a1_0 : Int) (a1_1 : Int) (a1_2 : Int) (a1_3 : Int) (a1_4 : Int), ((-9223372036854775808) ≤ a0 ∧ a0 ≤ 9223372036854775807) → ((-32768) ≤ a1_0 ∧ a1_0 ≤ 32767) → ((-128) ≤ a1_1 ∧ a1_1 ≤ 127) → ((-128) ≤ a1_2 ∧ a1_2 ≤ 127) → (0 ≤ a1_3 ∧ a1_3 ≤ 255) → ((-32768) ≤ a1_4 ∧ a1_4 ≤ 32767) → laws_FnExactValidEntry.f a0 a1_0 a1_1 a1_2 a1_3 a1_4 = some true
end Go.Proofs.Ytodlaafabnmbhaa.SayFnExactValidEntry
