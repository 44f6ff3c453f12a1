/-
  No cell of these rows narrows 'for every input' (looked for: loops, veiled, ifaces, maps, wideKeys, modest, calm, conditions, laid).
  DERIVED. THE GIVEN ROWS OF THIS SEAT. 6 by the template 'for every input the law returns true; each argument reads behind the call as it read before'; 0 by the template 'total and deterministic' (their statements: YtncbgnlojabpfaaTotals.lean).
  GIVEN WITH THE SEED: the statements are not yours to turn. If you find one false, say at which input.
  Laid BY PROGRAM, IN A SANDBOX (cutbox-rows.mjs): the forced cells as the released guide's own fill.sh prints them over the translation db36894e747dddfc… (all of the seat's roots in one cut). By AI agents, Wed Nov 11 2026. No macro, syntax, notation, axiom, sorry.
-/
import Derived.Test.YtncbgnlojabpfaaChecked
import GoSem.Claim
import GoSem.ClaimJoined
import GoSem.ClaimMapViews
import Derived.JoinedTies
import Derived.KernelRfl
namespace Go.Proofs.Ytncbgnlojabpfaa
/- THE CELL 'sum', in the pinned program and in every row, IS THE sha256 OF THE DUMP (.gsa) THAT YtncbgnlojabpfaaProg.lean LOADS. Nothing in Lean hashes anything: it is a label: what it is worth is what the hold of that sum in a sandbox is worth. -/
noncomputable def Try.pinned : Pinned := { name := "ytncbgnlojabpfaa", sum := "db36894e747dddfcebdc5ee74ef65a529b3eeac066cb8cddfc45ba43a2e0fc11", checked := Try.checked }
namespace Rows
def none {H : Type} : Left H := { results := [], args := [] }

/-- 'laws.FnExactApplyEntry': WHATEVER THE INPUT: true; the input reads as it did. -/
def fnExactApplyEntrySpec : ChangeSpec := { name := "fnExactApplyEntry", fn := fun _ => fun
  | [d1, d2, d3] => { results := [.lit (.bool true)], args := [d1, d2, d3] }
  | _ => none }
def fnExactApplyEntryRow : OpenClaim := { program := "ytncbgnlojabpfaa", sum := "db36894e747dddfcebdc5ee74ef65a529b3eeac066cb8cddfc45ba43a2e0fc11", func := "loop.example/g01353/laws.FnExactApplyEntry", spec := "fnExactApplyEntry", unfollowed := true, recurses := true, plainKeys := false, apart := false }
def FnExactApplyEntrySaid : Prop := fnExactApplyEntryRow.holds Try.pinned (OpenSpec.ofChange fnExactApplyEntrySpec)

/-- ITS FALSE NEIGHBOUR: 'it returns false'. Refute it at one input. -/
def fnExactApplyEntryWrong : ChangeSpec := { name := "fnExactApplyEntry", fn := fun _ => fun
  | [d1, d2, d3] => { results := [.lit (.bool false)], args := [d1, d2, d3] }
  | _ => none }
def FnExactApplyEntryWrongFalsely : Prop := fnExactApplyEntryRow.holds Try.pinned (OpenSpec.ofChange fnExactApplyEntryWrong)

/-- 'laws.FnExactFewestPayments': WHATEVER THE INPUT: true; the input reads as it did. -/
def fnExactFewestPaymentsSpec : ChangeSpec := { name := "fnExactFewestPayments", fn := fun _ => fun
  | [d] => { results := [.lit (.bool true)], args := [d] }
  | _ => none }
def fnExactFewestPaymentsRow : OpenClaim := { program := "ytncbgnlojabpfaa", sum := "db36894e747dddfcebdc5ee74ef65a529b3eeac066cb8cddfc45ba43a2e0fc11", func := "loop.example/g01353/laws.FnExactFewestPayments", spec := "fnExactFewestPayments", unfollowed := true, recurses := true, plainKeys := false, apart := false }
def FnExactFewestPaymentsSaid : Prop := fnExactFewestPaymentsRow.holds Try.pinned (OpenSpec.ofChange fnExactFewestPaymentsSpec)

/-- ITS FALSE NEIGHBOUR: 'it returns false'. Refute it at one input. -/
def fnExactFewestPaymentsWrong : ChangeSpec := { name := "fnExactFewestPayments", fn := fun _ => fun
  | [d] => { results := [.lit (.bool false)], args := [d] }
  | _ => none }
def FnExactFewestPaymentsWrongFalsely : Prop := fnExactFewestPaymentsRow.holds Try.pinned (OpenSpec.ofChange fnExactFewestPaymentsWrong)

/-- 'laws.FnExactFirstWrong': WHATEVER THE INPUT: true; the input reads as it did. -/
def fnExactFirstWrongSpec : ChangeSpec := { name := "fnExactFirstWrong", fn := fun _ => fun
  | [d1, d2, d3] => { results := [.lit (.bool true)], args := [d1, d2, d3] }
  | _ => none }
def fnExactFirstWrongRow : OpenClaim := { program := "ytncbgnlojabpfaa", sum := "db36894e747dddfcebdc5ee74ef65a529b3eeac066cb8cddfc45ba43a2e0fc11", func := "loop.example/g01353/laws.FnExactFirstWrong", spec := "fnExactFirstWrong", unfollowed := true, recurses := true, plainKeys := false, apart := false }
def FnExactFirstWrongSaid : Prop := fnExactFirstWrongRow.holds Try.pinned (OpenSpec.ofChange fnExactFirstWrongSpec)

/-- ITS FALSE NEIGHBOUR: 'it returns false'. Refute it at one input. -/
def fnExactFirstWrongWrong : ChangeSpec := { name := "fnExactFirstWrong", fn := fun _ => fun
  | [d1, d2, d3] => { results := [.lit (.bool false)], args := [d1, d2, d3] }
  | _ => none }
def FnExactFirstWrongWrongFalsely : Prop := fnExactFirstWrongRow.holds Try.pinned (OpenSpec.ofChange fnExactFirstWrongWrong)

/-- 'laws.FnExactMergeLedgers': WHATEVER THE INPUT: true; the input reads as it did. -/
def fnExactMergeLedgersSpec : ChangeSpec := { name := "fnExactMergeLedgers", fn := fun _ => fun
  | [d1, d2, d3] => { results := [.lit (.bool true)], args := [d1, d2, d3] }
  | _ => none }
def fnExactMergeLedgersRow : OpenClaim := { program := "ytncbgnlojabpfaa", sum := "db36894e747dddfcebdc5ee74ef65a529b3eeac066cb8cddfc45ba43a2e0fc11", func := "loop.example/g01353/laws.FnExactMergeLedgers", spec := "fnExactMergeLedgers", unfollowed := true, recurses := true, plainKeys := false, apart := false }
def FnExactMergeLedgersSaid : Prop := fnExactMergeLedgersRow.holds Try.pinned (OpenSpec.ofChange fnExactMergeLedgersSpec)

/-- ITS FALSE NEIGHBOUR: 'it returns false'. Refute it at one input. -/
def fnExactMergeLedgersWrong : ChangeSpec := { name := "fnExactMergeLedgers", fn := fun _ => fun
  | [d1, d2, d3] => { results := [.lit (.bool false)], args := [d1, d2, d3] }
  | _ => none }
def FnExactMergeLedgersWrongFalsely : Prop := fnExactMergeLedgersRow.holds Try.pinned (OpenSpec.ofChange fnExactMergeLedgersWrong)

/-- 'laws.FnExactExplainedBy': WHATEVER THE INPUT: true; the input reads as it did. -/
def fnExactExplainedBySpec : ChangeSpec := { name := "fnExactExplainedBy", fn := fun _ => fun
  | [d1, d2, d3, d4] => { results := [.lit (.bool true)], args := [d1, d2, d3, d4] }
  | _ => none }
def fnExactExplainedByRow : OpenClaim := { program := "ytncbgnlojabpfaa", sum := "db36894e747dddfcebdc5ee74ef65a529b3eeac066cb8cddfc45ba43a2e0fc11", func := "loop.example/g01353/laws.FnExactExplainedBy", spec := "fnExactExplainedBy", unfollowed := true, recurses := true, plainKeys := false, apart := false }
def FnExactExplainedBySaid : Prop := fnExactExplainedByRow.holds Try.pinned (OpenSpec.ofChange fnExactExplainedBySpec)

/-- ITS FALSE NEIGHBOUR: 'it returns false'. Refute it at one input. -/
def fnExactExplainedByWrong : ChangeSpec := { name := "fnExactExplainedBy", fn := fun _ => fun
  | [d1, d2, d3, d4] => { results := [.lit (.bool false)], args := [d1, d2, d3, d4] }
  | _ => none }
def FnExactExplainedByWrongFalsely : Prop := fnExactExplainedByRow.holds Try.pinned (OpenSpec.ofChange fnExactExplainedByWrong)

/-- 'laws.FnExactReplayLedger': WHATEVER THE INPUT: true; the input reads as it did. -/
def fnExactReplayLedgerSpec : ChangeSpec := { name := "fnExactReplayLedger", fn := fun _ => fun
  | [d1, d2, d3] => { results := [.lit (.bool true)], args := [d1, d2, d3] }
  | _ => none }
def fnExactReplayLedgerRow : OpenClaim := { program := "ytncbgnlojabpfaa", sum := "db36894e747dddfcebdc5ee74ef65a529b3eeac066cb8cddfc45ba43a2e0fc11", func := "loop.example/g01353/laws.FnExactReplayLedger", spec := "fnExactReplayLedger", unfollowed := true, recurses := true, plainKeys := false, apart := false }
def FnExactReplayLedgerSaid : Prop := fnExactReplayLedgerRow.holds Try.pinned (OpenSpec.ofChange fnExactReplayLedgerSpec)

/-- ITS FALSE NEIGHBOUR: 'it returns false'. Refute it at one input. -/
def fnExactReplayLedgerWrong : ChangeSpec := { name := "fnExactReplayLedger", fn := fun _ => fun
  | [d1, d2, d3] => { results := [.lit (.bool false)], args := [d1, d2, d3] }
  | _ => none }
def FnExactReplayLedgerWrongFalsely : Prop := fnExactReplayLedgerRow.holds Try.pinned (OpenSpec.ofChange fnExactReplayLedgerWrong)

/- THE SECOND FORM. 'bulk': how many values and letters a reading holds, each counted each time it is reached (what is shared counts as often as it is met; a slice's spare places count too). A statement '..UptoSaid' is the law's where the arguments, and the package variables that the reading takes, are together of bulk at most 1048576: NARROWER than '..Said'. Prove '..Said' where nothing that the law and all that it calls make is longer than what came in: it says more and counts as full. Else prove '..UptoSaid'. A law counts once. -/
mutual
def uptoBulk {H : Type} : DataW H → Nat
  | .lit (.string bytes) => bytes.length + 1
  | .lit _ => 1
  | .nil => 1
  | .ptr d => uptoBulk d + 1
  | .slice elems spare => uptoBulkAll elems + uptoBulkAll spare + 1
  | .agg parts => uptoBulkAll parts + 1
  | .iface _ d => uptoBulk d + 1
  | .map entries => uptoBulkEntries entries + 1
  | .held _ => 1
def uptoBulkAll {H : Type} : List (DataW H) → Nat
  | [] => 0
  | d :: r => uptoBulk d + uptoBulkAll r
def uptoBulkEntries {H : Type} : List (Lit × DataW H) → Nat
  | [] => 0
  | x :: r => uptoBulkEntry x + uptoBulkEntries r
def uptoBulkEntry {H : Type} : Lit × DataW H → Nat
  | (.string bytes, d) => bytes.length + uptoBulk d + 1
  | (_, d) => uptoBulk d + 1
 end
def uptoSmall : (H : Type) → List (DataW H) → Bool := fun _ ds => decide (uptoBulkAll ds ≤ 1048576)
def OpenSpec.upto (s : _root_.Go.ChangeSpec) : _root_.Go.OpenSpec := { _root_.Go.OpenSpec.ofChange s with cond := some uptoSmall }

/-- 'laws.FnExactApplyEntry', WHERE WHAT IT READS IS OF BULK AT MOST 1048576: true; the input reads as it did. -/
def fnExactApplyEntryUptoRow : OpenClaim := { program := "ytncbgnlojabpfaa", sum := "db36894e747dddfcebdc5ee74ef65a529b3eeac066cb8cddfc45ba43a2e0fc11", func := "loop.example/g01353/laws.FnExactApplyEntry", spec := "fnExactApplyEntry", unfollowed := true, recurses := true, plainKeys := false, apart := false, narrowed := true }
def FnExactApplyEntryUptoSaid : Prop := fnExactApplyEntryUptoRow.holds Try.pinned (OpenSpec.upto fnExactApplyEntrySpec)

/-- 'laws.FnExactFewestPayments', WHERE WHAT IT READS IS OF BULK AT MOST 1048576: true; the input reads as it did. -/
def fnExactFewestPaymentsUptoRow : OpenClaim := { program := "ytncbgnlojabpfaa", sum := "db36894e747dddfcebdc5ee74ef65a529b3eeac066cb8cddfc45ba43a2e0fc11", func := "loop.example/g01353/laws.FnExactFewestPayments", spec := "fnExactFewestPayments", unfollowed := true, recurses := true, plainKeys := false, apart := false, narrowed := true }
def FnExactFewestPaymentsUptoSaid : Prop := fnExactFewestPaymentsUptoRow.holds Try.pinned (OpenSpec.upto fnExactFewestPaymentsSpec)

/-- 'laws.FnExactFirstWrong', WHERE WHAT IT READS IS OF BULK AT MOST 1048576: true; the input reads as it did. -/
def fnExactFirstWrongUptoRow : OpenClaim := { program := "ytncbgnlojabpfaa", sum := "db36894e747dddfcebdc5ee74ef65a529b3eeac066cb8cddfc45ba43a2e0fc11", func := "loop.example/g01353/laws.FnExactFirstWrong", spec := "fnExactFirstWrong", unfollowed := true, recurses := true, plainKeys := false, apart := false, narrowed := true }
def FnExactFirstWrongUptoSaid : Prop := fnExactFirstWrongUptoRow.holds Try.pinned (OpenSpec.upto fnExactFirstWrongSpec)

/-- 'laws.FnExactMergeLedgers', WHERE WHAT IT READS IS OF BULK AT MOST 1048576: true; the input reads as it did. -/
def fnExactMergeLedgersUptoRow : OpenClaim := { program := "ytncbgnlojabpfaa", sum := "db36894e747dddfcebdc5ee74ef65a529b3eeac066cb8cddfc45ba43a2e0fc11", func := "loop.example/g01353/laws.FnExactMergeLedgers", spec := "fnExactMergeLedgers", unfollowed := true, recurses := true, plainKeys := false, apart := false, narrowed := true }
def FnExactMergeLedgersUptoSaid : Prop := fnExactMergeLedgersUptoRow.holds Try.pinned (OpenSpec.upto fnExactMergeLedgersSpec)

/-- 'laws.FnExactExplainedBy', WHERE WHAT IT READS IS OF BULK AT MOST 1048576: true; the input reads as it did. -/
def fnExactExplainedByUptoRow : OpenClaim := { program := "ytncbgnlojabpfaa", sum := "db36894e747dddfcebdc5ee74ef65a529b3eeac066cb8cddfc45ba43a2e0fc11", func := "loop.example/g01353/laws.FnExactExplainedBy", spec := "fnExactExplainedBy", unfollowed := true, recurses := true, plainKeys := false, apart := false, narrowed := true }
def FnExactExplainedByUptoSaid : Prop := fnExactExplainedByUptoRow.holds Try.pinned (OpenSpec.upto fnExactExplainedBySpec)

/-- 'laws.FnExactReplayLedger', WHERE WHAT IT READS IS OF BULK AT MOST 1048576: true; the input reads as it did. -/
def fnExactReplayLedgerUptoRow : OpenClaim := { program := "ytncbgnlojabpfaa", sum := "db36894e747dddfcebdc5ee74ef65a529b3eeac066cb8cddfc45ba43a2e0fc11", func := "loop.example/g01353/laws.FnExactReplayLedger", spec := "fnExactReplayLedger", unfollowed := true, recurses := true, plainKeys := false, apart := false, narrowed := true }
def FnExactReplayLedgerUptoSaid : Prop := fnExactReplayLedgerUptoRow.holds Try.pinned (OpenSpec.upto fnExactReplayLedgerSpec)

end Rows
end Go.Proofs.Ytncbgnlojabpfaa
