import Derived.Test.YthkifkfnlmjafaaDoorFLwReadMarks
namespace Go.Proofs.YthkifkfnlmjafaaDoor.SayFnExactReadMarks
open Go.RowKit Go.Proofs.YthkifkfnlmjafaaDoor.G
/-- The law, of numbers and lists alone. -/
def Pure : Prop := ∀ (a0 : Int) (a1 : ByteArray), ((-9223372036854775808) ≤ a0 ∧ a0 ≤ 9223372036854775807) → a1.size ≤ 140737488351232 → laws_FnExactReadMarks.f a0 a1 = some true
end Go.Proofs.YthkifkfnlmjafaaDoor.SayFnExactReadMarks
