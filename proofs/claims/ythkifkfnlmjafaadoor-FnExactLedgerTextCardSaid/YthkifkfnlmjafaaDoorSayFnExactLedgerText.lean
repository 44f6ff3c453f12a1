import Derived.Test.YthkifkfnlmjafaaDoorG4
namespace Go.Proofs.YthkifkfnlmjafaaDoor.SayFnExactLedgerText
open Go.RowKit Go.Proofs.YthkifkfnlmjafaaDoor.G
def Ok63 (y : S63) : Prop := ((-32768) ≤ y.f0 ∧ y.f0 ≤ 32767) ∧ ((-128) ≤ y.f1 ∧ y.f1 ≤ 127) ∧ ((-128) ≤ y.f2 ∧ y.f2 ≤ 127) ∧ (0 ≤ y.f3 ∧ y.f3 ≤ 255) ∧ ((-32768) ≤ y.f4 ∧ y.f4 ≤ 32767)
/-- The law, of numbers and lists alone. -/
def Pure : Prop := ∀ (l0 : List (S63)), l0.length * 8 ≤ 140737488351232 → (∀ x ∈ l0, Ok63 x) → ∃ k, laws_FnExactLedgerText.f k l0 = some true
end Go.Proofs.YthkifkfnlmjafaaDoor.SayFnExactLedgerText
