import Derived.Test.YthkifkfnlmjafaaDoorG6
namespace Go.Proofs.YthkifkfnlmjafaaDoor.SayFnExactReadLedger
open Go.RowKit Go.Proofs.YthkifkfnlmjafaaDoor.G
/-- The law, of numbers and lists alone. -/
def Pure : Prop := ∀ (a0 : ByteArray), a0.size ≤ 140737488351232 → ∃ k, laws_FnExactReadLedger.f k a0 = some true
end Go.Proofs.YthkifkfnlmjafaaDoor.SayFnExactReadLedger
