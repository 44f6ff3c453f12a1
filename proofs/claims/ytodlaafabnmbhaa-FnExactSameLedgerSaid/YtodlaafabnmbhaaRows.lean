/-
  No cell of these rows narrows 'for every input' (looked for: loops, veiled, ifaces, maps, wideKeys, modest, calm, conditions, laid).
  DERIVED. THE GIVEN ROWS OF THIS SEAT. 12 by the template 'for every input the law returns true; each argument reads behind the call as it read before'; 0 by the template 'total and deterministic' (their statements: YtodlaafabnmbhaaTotals.lean).
  GIVEN WITH THE SEED: the statements are not yours to turn. If you find one false, say at which input.
  Laid BY PROGRAM, IN A SANDBOX (cutbox-rows.mjs): the forced cells as the released guide's own fill.sh prints them over the translation 7e1e05ccbe56ff43… (all of the seat's roots in one cut). By AI agents, Wed Nov 11 2026. No macro, syntax, notation, axiom, sorry.
-/
import Derived.Test.YtodlaafabnmbhaaChecked
import GoSem.Claim
import GoSem.ClaimJoined
import GoSem.ClaimMapViews
import Derived.JoinedTies
import Derived.KernelRfl
namespace Go.Proofs.Ytodlaafabnmbhaa
/- THE CELL 'sum', in the pinned program and in every row, IS THE sha256 OF THE DUMP (.gsa) THAT YtodlaafabnmbhaaProg.lean LOADS. Nothing in Lean hashes anything: it is a label: what it is worth is what the hold of that sum in a sandbox is worth. -/
noncomputable def Try.pinned : Pinned := { name := "ytodlaafabnmbhaa", sum := "7e1e05ccbe56ff4325876bd230ef8f021e831b67fd0757f84ad01d65354851a1", checked := Try.checked }
namespace Rows
def none {H : Type} : Left H := { results := [], args := [] }

/-- 'laws.FnExactValidPrices': WHATEVER THE INPUT: true; the input reads as it did. -/
def fnExactValidPricesSpec : ChangeSpec := { name := "fnExactValidPrices", fn := fun _ => fun
  | [d] => { results := [.lit (.bool true)], args := [d] }
  | _ => none }
def fnExactValidPricesRow : OpenClaim := { program := "ytodlaafabnmbhaa", sum := "7e1e05ccbe56ff4325876bd230ef8f021e831b67fd0757f84ad01d65354851a1", func := "loop.example/g01353/laws.FnExactValidPrices", spec := "fnExactValidPrices", plainKeys := false, apart := false }
def FnExactValidPricesSaid : Prop := fnExactValidPricesRow.holds Try.pinned (OpenSpec.ofChange fnExactValidPricesSpec)

/-- ITS FALSE NEIGHBOUR: 'it returns false'. Refute it at one input. -/
def fnExactValidPricesWrong : ChangeSpec := { name := "fnExactValidPrices", fn := fun _ => fun
  | [d] => { results := [.lit (.bool false)], args := [d] }
  | _ => none }
def FnExactValidPricesWrongFalsely : Prop := fnExactValidPricesRow.holds Try.pinned (OpenSpec.ofChange fnExactValidPricesWrong)

/-- 'laws.FnExactValidEntry': WHATEVER THE INPUT: true; the input reads as it did. -/
def fnExactValidEntrySpec : ChangeSpec := { name := "fnExactValidEntry", fn := fun _ => fun
  | [d1, d2] => { results := [.lit (.bool true)], args := [d1, d2] }
  | _ => none }
def fnExactValidEntryRow : OpenClaim := { program := "ytodlaafabnmbhaa", sum := "7e1e05ccbe56ff4325876bd230ef8f021e831b67fd0757f84ad01d65354851a1", func := "loop.example/g01353/laws.FnExactValidEntry", spec := "fnExactValidEntry", plainKeys := false, apart := false }
def FnExactValidEntrySaid : Prop := fnExactValidEntryRow.holds Try.pinned (OpenSpec.ofChange fnExactValidEntrySpec)

/-- ITS FALSE NEIGHBOUR: 'it returns false'. Refute it at one input. -/
def fnExactValidEntryWrong : ChangeSpec := { name := "fnExactValidEntry", fn := fun _ => fun
  | [d1, d2] => { results := [.lit (.bool false)], args := [d1, d2] }
  | _ => none }
def FnExactValidEntryWrongFalsely : Prop := fnExactValidEntryRow.holds Try.pinned (OpenSpec.ofChange fnExactValidEntryWrong)

/-- 'laws.FnExactOutAt': WHATEVER THE INPUT: true; the input reads as it did. -/
def fnExactOutAtSpec : ChangeSpec := { name := "fnExactOutAt", fn := fun _ => fun
  | [d1, d2] => { results := [.lit (.bool true)], args := [d1, d2] }
  | _ => none }
def fnExactOutAtRow : OpenClaim := { program := "ytodlaafabnmbhaa", sum := "7e1e05ccbe56ff4325876bd230ef8f021e831b67fd0757f84ad01d65354851a1", func := "loop.example/g01353/laws.FnExactOutAt", spec := "fnExactOutAt", unfollowed := true, recurses := true, plainKeys := false, apart := false }
def FnExactOutAtSaid : Prop := fnExactOutAtRow.holds Try.pinned (OpenSpec.ofChange fnExactOutAtSpec)

/-- ITS FALSE NEIGHBOUR: 'it returns false'. Refute it at one input. -/
def fnExactOutAtWrong : ChangeSpec := { name := "fnExactOutAt", fn := fun _ => fun
  | [d1, d2] => { results := [.lit (.bool false)], args := [d1, d2] }
  | _ => none }
def FnExactOutAtWrongFalsely : Prop := fnExactOutAtRow.holds Try.pinned (OpenSpec.ofChange fnExactOutAtWrong)

/-- 'laws.FnExactSameLedger': WHATEVER THE INPUT: true; the input reads as it did. -/
def fnExactSameLedgerSpec : ChangeSpec := { name := "fnExactSameLedger", fn := fun _ => fun
  | [d1, d2] => { results := [.lit (.bool true)], args := [d1, d2] }
  | _ => none }
def fnExactSameLedgerRow : OpenClaim := { program := "ytodlaafabnmbhaa", sum := "7e1e05ccbe56ff4325876bd230ef8f021e831b67fd0757f84ad01d65354851a1", func := "loop.example/g01353/laws.FnExactSameLedger", spec := "fnExactSameLedger", plainKeys := false, apart := false }
def FnExactSameLedgerSaid : Prop := fnExactSameLedgerRow.holds Try.pinned (OpenSpec.ofChange fnExactSameLedgerSpec)

/-- ITS FALSE NEIGHBOUR: 'it returns false'. Refute it at one input. -/
def fnExactSameLedgerWrong : ChangeSpec := { name := "fnExactSameLedger", fn := fun _ => fun
  | [d1, d2] => { results := [.lit (.bool false)], args := [d1, d2] }
  | _ => none }
def FnExactSameLedgerWrongFalsely : Prop := fnExactSameLedgerRow.holds Try.pinned (OpenSpec.ofChange fnExactSameLedgerWrong)

/-- 'laws.FnExactValidLedger': WHATEVER THE INPUT: true; the input reads as it did. -/
def fnExactValidLedgerSpec : ChangeSpec := { name := "fnExactValidLedger", fn := fun _ => fun
  | [d1, d2] => { results := [.lit (.bool true)], args := [d1, d2] }
  | _ => none }
def fnExactValidLedgerRow : OpenClaim := { program := "ytodlaafabnmbhaa", sum := "7e1e05ccbe56ff4325876bd230ef8f021e831b67fd0757f84ad01d65354851a1", func := "loop.example/g01353/laws.FnExactValidLedger", spec := "fnExactValidLedger", plainKeys := false, apart := false }
def FnExactValidLedgerSaid : Prop := fnExactValidLedgerRow.holds Try.pinned (OpenSpec.ofChange fnExactValidLedgerSpec)

/-- ITS FALSE NEIGHBOUR: 'it returns false'. Refute it at one input. -/
def fnExactValidLedgerWrong : ChangeSpec := { name := "fnExactValidLedger", fn := fun _ => fun
  | [d1, d2] => { results := [.lit (.bool false)], args := [d1, d2] }
  | _ => none }
def FnExactValidLedgerWrongFalsely : Prop := fnExactValidLedgerRow.holds Try.pinned (OpenSpec.ofChange fnExactValidLedgerWrong)

/-- 'laws.FnExactBreakageOf': WHATEVER THE INPUT: true; the input reads as it did. -/
def fnExactBreakageOfSpec : ChangeSpec := { name := "fnExactBreakageOf", fn := fun _ => fun
  | [d] => { results := [.lit (.bool true)], args := [d] }
  | _ => none }
def fnExactBreakageOfRow : OpenClaim := { program := "ytodlaafabnmbhaa", sum := "7e1e05ccbe56ff4325876bd230ef8f021e831b67fd0757f84ad01d65354851a1", func := "loop.example/g01353/laws.FnExactBreakageOf", spec := "fnExactBreakageOf", plainKeys := false, apart := false }
def FnExactBreakageOfSaid : Prop := fnExactBreakageOfRow.holds Try.pinned (OpenSpec.ofChange fnExactBreakageOfSpec)

/-- ITS FALSE NEIGHBOUR: 'it returns false'. Refute it at one input. -/
def fnExactBreakageOfWrong : ChangeSpec := { name := "fnExactBreakageOf", fn := fun _ => fun
  | [d] => { results := [.lit (.bool false)], args := [d] }
  | _ => none }
def FnExactBreakageOfWrongFalsely : Prop := fnExactBreakageOfRow.holds Try.pinned (OpenSpec.ofChange fnExactBreakageOfWrong)

/-- 'laws.FnExactSumOf': WHATEVER THE INPUT: true; the input reads as it did. -/
def fnExactSumOfSpec : ChangeSpec := { name := "fnExactSumOf", fn := fun _ => fun
  | [d] => { results := [.lit (.bool true)], args := [d] }
  | _ => none }
def fnExactSumOfRow : OpenClaim := { program := "ytodlaafabnmbhaa", sum := "7e1e05ccbe56ff4325876bd230ef8f021e831b67fd0757f84ad01d65354851a1", func := "loop.example/g01353/laws.FnExactSumOf", spec := "fnExactSumOf", unfollowed := true, recurses := true, plainKeys := false, apart := false }
def FnExactSumOfSaid : Prop := fnExactSumOfRow.holds Try.pinned (OpenSpec.ofChange fnExactSumOfSpec)

/-- ITS FALSE NEIGHBOUR: 'it returns false'. Refute it at one input. -/
def fnExactSumOfWrong : ChangeSpec := { name := "fnExactSumOf", fn := fun _ => fun
  | [d] => { results := [.lit (.bool false)], args := [d] }
  | _ => none }
def FnExactSumOfWrongFalsely : Prop := fnExactSumOfRow.holds Try.pinned (OpenSpec.ofChange fnExactSumOfWrong)

/-- 'laws.FnExactLentBetween': WHATEVER THE INPUT: true; the input reads as it did. -/
def fnExactLentBetweenSpec : ChangeSpec := { name := "fnExactLentBetween", fn := fun _ => fun
  | [d1, d2, d3, d4] => { results := [.lit (.bool true)], args := [d1, d2, d3, d4] }
  | _ => none }
def fnExactLentBetweenRow : OpenClaim := { program := "ytodlaafabnmbhaa", sum := "7e1e05ccbe56ff4325876bd230ef8f021e831b67fd0757f84ad01d65354851a1", func := "loop.example/g01353/laws.FnExactLentBetween", spec := "fnExactLentBetween", plainKeys := false, apart := false }
def FnExactLentBetweenSaid : Prop := fnExactLentBetweenRow.holds Try.pinned (OpenSpec.ofChange fnExactLentBetweenSpec)

/-- ITS FALSE NEIGHBOUR: 'it returns false'. Refute it at one input. -/
def fnExactLentBetweenWrong : ChangeSpec := { name := "fnExactLentBetween", fn := fun _ => fun
  | [d1, d2, d3, d4] => { results := [.lit (.bool false)], args := [d1, d2, d3, d4] }
  | _ => none }
def FnExactLentBetweenWrongFalsely : Prop := fnExactLentBetweenRow.holds Try.pinned (OpenSpec.ofChange fnExactLentBetweenWrong)

/-- 'laws.FnExactMissingIn': WHATEVER THE INPUT: true; the input reads as it did. -/
def fnExactMissingInSpec : ChangeSpec := { name := "fnExactMissingIn", fn := fun _ => fun
  | [d1, d2] => { results := [.lit (.bool true)], args := [d1, d2] }
  | _ => none }
def fnExactMissingInRow : OpenClaim := { program := "ytodlaafabnmbhaa", sum := "7e1e05ccbe56ff4325876bd230ef8f021e831b67fd0757f84ad01d65354851a1", func := "loop.example/g01353/laws.FnExactMissingIn", spec := "fnExactMissingIn", plainKeys := false, apart := false }
def FnExactMissingInSaid : Prop := fnExactMissingInRow.holds Try.pinned (OpenSpec.ofChange fnExactMissingInSpec)

/-- ITS FALSE NEIGHBOUR: 'it returns false'. Refute it at one input. -/
def fnExactMissingInWrong : ChangeSpec := { name := "fnExactMissingIn", fn := fun _ => fun
  | [d1, d2] => { results := [.lit (.bool false)], args := [d1, d2] }
  | _ => none }
def FnExactMissingInWrongFalsely : Prop := fnExactMissingInRow.holds Try.pinned (OpenSpec.ofChange fnExactMissingInWrong)

/-- 'laws.FnExactNetsOf': WHATEVER THE INPUT: true; the input reads as it did. -/
def fnExactNetsOfSpec : ChangeSpec := { name := "fnExactNetsOf", fn := fun _ => fun
  | [d] => { results := [.lit (.bool true)], args := [d] }
  | _ => none }
def fnExactNetsOfRow : OpenClaim := { program := "ytodlaafabnmbhaa", sum := "7e1e05ccbe56ff4325876bd230ef8f021e831b67fd0757f84ad01d65354851a1", func := "loop.example/g01353/laws.FnExactNetsOf", spec := "fnExactNetsOf", unfollowed := true, recurses := true, plainKeys := false, apart := false }
def FnExactNetsOfSaid : Prop := fnExactNetsOfRow.holds Try.pinned (OpenSpec.ofChange fnExactNetsOfSpec)

/-- ITS FALSE NEIGHBOUR: 'it returns false'. Refute it at one input. -/
def fnExactNetsOfWrong : ChangeSpec := { name := "fnExactNetsOf", fn := fun _ => fun
  | [d] => { results := [.lit (.bool false)], args := [d] }
  | _ => none }
def FnExactNetsOfWrongFalsely : Prop := fnExactNetsOfRow.holds Try.pinned (OpenSpec.ofChange fnExactNetsOfWrong)

/-- 'laws.FnExactCheckPayments': WHATEVER THE INPUT: true; the input reads as it did. -/
def fnExactCheckPaymentsSpec : ChangeSpec := { name := "fnExactCheckPayments", fn := fun _ => fun
  | [d1, d2] => { results := [.lit (.bool true)], args := [d1, d2] }
  | _ => none }
def fnExactCheckPaymentsRow : OpenClaim := { program := "ytodlaafabnmbhaa", sum := "7e1e05ccbe56ff4325876bd230ef8f021e831b67fd0757f84ad01d65354851a1", func := "loop.example/g01353/laws.FnExactCheckPayments", spec := "fnExactCheckPayments", unfollowed := true, recurses := true, plainKeys := false, apart := false }
def FnExactCheckPaymentsSaid : Prop := fnExactCheckPaymentsRow.holds Try.pinned (OpenSpec.ofChange fnExactCheckPaymentsSpec)

/-- ITS FALSE NEIGHBOUR: 'it returns false'. Refute it at one input. -/
def fnExactCheckPaymentsWrong : ChangeSpec := { name := "fnExactCheckPayments", fn := fun _ => fun
  | [d1, d2] => { results := [.lit (.bool false)], args := [d1, d2] }
  | _ => none }
def FnExactCheckPaymentsWrongFalsely : Prop := fnExactCheckPaymentsRow.holds Try.pinned (OpenSpec.ofChange fnExactCheckPaymentsWrong)

/-- 'laws.FnExactPartOfLedger': WHATEVER THE INPUT: true; the input reads as it did. -/
def fnExactPartOfLedgerSpec : ChangeSpec := { name := "fnExactPartOfLedger", fn := fun _ => fun
  | [d1, d2, d3] => { results := [.lit (.bool true)], args := [d1, d2, d3] }
  | _ => none }
def fnExactPartOfLedgerRow : OpenClaim := { program := "ytodlaafabnmbhaa", sum := "7e1e05ccbe56ff4325876bd230ef8f021e831b67fd0757f84ad01d65354851a1", func := "loop.example/g01353/laws.FnExactPartOfLedger", spec := "fnExactPartOfLedger", unfollowed := true, recurses := true, plainKeys := false, apart := false }
def FnExactPartOfLedgerSaid : Prop := fnExactPartOfLedgerRow.holds Try.pinned (OpenSpec.ofChange fnExactPartOfLedgerSpec)

/-- ITS FALSE NEIGHBOUR: 'it returns false'. Refute it at one input. -/
def fnExactPartOfLedgerWrong : ChangeSpec := { name := "fnExactPartOfLedger", fn := fun _ => fun
  | [d1, d2, d3] => { results := [.lit (.bool false)], args := [d1, d2, d3] }
  | _ => none }
def FnExactPartOfLedgerWrongFalsely : Prop := fnExactPartOfLedgerRow.holds Try.pinned (OpenSpec.ofChange fnExactPartOfLedgerWrong)

/- THE SECOND FORM. 'bulk': how many values and letters a reading holds, each counted each time it is reached (what is shared counts as often as it is met; a slice's spare places count too). A statement '..UptoSaid' is the law's where the arguments, and the package variables that the reading takes, are together of bulk at most 1048576: NARROWER than '..Said'. Prove '..Said' where nothing that the law and all that it calls make is longer than what came in: it says more and counts as full. Else prove '..UptoSaid'. A law counts once. -/
mutual
def uptoBulk {H : Type} : DataW H → Nat
  | .lit (.string bytes) => bytes.length + 1
  | .lit _ => 1
  | .nil => 1
  | .ptr d => uptoBulk d + 1
  | .slice elems spare => uptoBulkAll elems + uptoBulkAll spare + 1
  | .agg parts => uptoBulkAll parts + 1
  | .iface _ d => uptoBulk d + 1
  | .map entries => uptoBulkEntries entries + 1
  | .held _ => 1
def uptoBulkAll {H : Type} : List (DataW H) → Nat
  | [] => 0
  | d :: r => uptoBulk d + uptoBulkAll r
def uptoBulkEntries {H : Type} : List (Lit × DataW H) → Nat
  | [] => 0
  | x :: r => uptoBulkEntry x + uptoBulkEntries r
def uptoBulkEntry {H : Type} : Lit × DataW H → Nat
  | (.string bytes, d) => bytes.length + uptoBulk d + 1
  | (_, d) => uptoBulk d + 1
 end
def uptoSmall : (H : Type) → List (DataW H) → Bool := fun _ ds => decide (uptoBulkAll ds ≤ 1048576)
def OpenSpec.upto (s : _root_.Go.ChangeSpec) : _root_.Go.OpenSpec := { _root_.Go.OpenSpec.ofChange s with cond := some uptoSmall }

/-- 'laws.FnExactValidPrices', WHERE WHAT IT READS IS OF BULK AT MOST 1048576: true; the input reads as it did. -/
def fnExactValidPricesUptoRow : OpenClaim := { program := "ytodlaafabnmbhaa", sum := "7e1e05ccbe56ff4325876bd230ef8f021e831b67fd0757f84ad01d65354851a1", func := "loop.example/g01353/laws.FnExactValidPrices", spec := "fnExactValidPrices", plainKeys := false, apart := false, narrowed := true }
def FnExactValidPricesUptoSaid : Prop := fnExactValidPricesUptoRow.holds Try.pinned (OpenSpec.upto fnExactValidPricesSpec)

/-- 'laws.FnExactValidEntry', WHERE WHAT IT READS IS OF BULK AT MOST 1048576: true; the input reads as it did. -/
def fnExactValidEntryUptoRow : OpenClaim := { program := "ytodlaafabnmbhaa", sum := "7e1e05ccbe56ff4325876bd230ef8f021e831b67fd0757f84ad01d65354851a1", func := "loop.example/g01353/laws.FnExactValidEntry", spec := "fnExactValidEntry", plainKeys := false, apart := false, narrowed := true }
def FnExactValidEntryUptoSaid : Prop := fnExactValidEntryUptoRow.holds Try.pinned (OpenSpec.upto fnExactValidEntrySpec)

/-- 'laws.FnExactOutAt', WHERE WHAT IT READS IS OF BULK AT MOST 1048576: true; the input reads as it did. -/
def fnExactOutAtUptoRow : OpenClaim := { program := "ytodlaafabnmbhaa", sum := "7e1e05ccbe56ff4325876bd230ef8f021e831b67fd0757f84ad01d65354851a1", func := "loop.example/g01353/laws.FnExactOutAt", spec := "fnExactOutAt", unfollowed := true, recurses := true, plainKeys := false, apart := false, narrowed := true }
def FnExactOutAtUptoSaid : Prop := fnExactOutAtUptoRow.holds Try.pinned (OpenSpec.upto fnExactOutAtSpec)

/-- 'laws.FnExactSameLedger', WHERE WHAT IT READS IS OF BULK AT MOST 1048576: true; the input reads as it did. -/
def fnExactSameLedgerUptoRow : OpenClaim := { program := "ytodlaafabnmbhaa", sum := "7e1e05ccbe56ff4325876bd230ef8f021e831b67fd0757f84ad01d65354851a1", func := "loop.example/g01353/laws.FnExactSameLedger", spec := "fnExactSameLedger", plainKeys := false, apart := false, narrowed := true }
def FnExactSameLedgerUptoSaid : Prop := fnExactSameLedgerUptoRow.holds Try.pinned (OpenSpec.upto fnExactSameLedgerSpec)

/-- 'laws.FnExactValidLedger', WHERE WHAT IT READS IS OF BULK AT MOST 1048576: true; the input reads as it did. -/
def fnExactValidLedgerUptoRow : OpenClaim := { program := "ytodlaafabnmbhaa", sum := "7e1e05ccbe56ff4325876bd230ef8f021e831b67fd0757f84ad01d65354851a1", func := "loop.example/g01353/laws.FnExactValidLedger", spec := "fnExactValidLedger", plainKeys := false, apart := false, narrowed := true }
def FnExactValidLedgerUptoSaid : Prop := fnExactValidLedgerUptoRow.holds Try.pinned (OpenSpec.upto fnExactValidLedgerSpec)

/-- 'laws.FnExactBreakageOf', WHERE WHAT IT READS IS OF BULK AT MOST 1048576: true; the input reads as it did. -/
def fnExactBreakageOfUptoRow : OpenClaim := { program := "ytodlaafabnmbhaa", sum := "7e1e05ccbe56ff4325876bd230ef8f021e831b67fd0757f84ad01d65354851a1", func := "loop.example/g01353/laws.FnExactBreakageOf", spec := "fnExactBreakageOf", plainKeys := false, apart := false, narrowed := true }
def FnExactBreakageOfUptoSaid : Prop := fnExactBreakageOfUptoRow.holds Try.pinned (OpenSpec.upto fnExactBreakageOfSpec)

/-- 'laws.FnExactSumOf', WHERE WHAT IT READS IS OF BULK AT MOST 1048576: true; the input reads as it did. -/
def fnExactSumOfUptoRow : OpenClaim := { program := "ytodlaafabnmbhaa", sum := "7e1e05ccbe56ff4325876bd230ef8f021e831b67fd0757f84ad01d65354851a1", func := "loop.example/g01353/laws.FnExactSumOf", spec := "fnExactSumOf", unfollowed := true, recurses := true, plainKeys := false, apart := false, narrowed := true }
def FnExactSumOfUptoSaid : Prop := fnExactSumOfUptoRow.holds Try.pinned (OpenSpec.upto fnExactSumOfSpec)

/-- 'laws.FnExactLentBetween', WHERE WHAT IT READS IS OF BULK AT MOST 1048576: true; the input reads as it did. -/
def fnExactLentBetweenUptoRow : OpenClaim := { program := "ytodlaafabnmbhaa", sum := "7e1e05ccbe56ff4325876bd230ef8f021e831b67fd0757f84ad01d65354851a1", func := "loop.example/g01353/laws.FnExactLentBetween", spec := "fnExactLentBetween", plainKeys := false, apart := false, narrowed := true }
def FnExactLentBetweenUptoSaid : Prop := fnExactLentBetweenUptoRow.holds Try.pinned (OpenSpec.upto fnExactLentBetweenSpec)

/-- 'laws.FnExactMissingIn', WHERE WHAT IT READS IS OF BULK AT MOST 1048576: true; the input reads as it did. -/
def fnExactMissingInUptoRow : OpenClaim := { program := "ytodlaafabnmbhaa", sum := "7e1e05ccbe56ff4325876bd230ef8f021e831b67fd0757f84ad01d65354851a1", func := "loop.example/g01353/laws.FnExactMissingIn", spec := "fnExactMissingIn", plainKeys := false, apart := false, narrowed := true }
def FnExactMissingInUptoSaid : Prop := fnExactMissingInUptoRow.holds Try.pinned (OpenSpec.upto fnExactMissingInSpec)

/-- 'laws.FnExactNetsOf', WHERE WHAT IT READS IS OF BULK AT MOST 1048576: true; the input reads as it did. -/
def fnExactNetsOfUptoRow : OpenClaim := { program := "ytodlaafabnmbhaa", sum := "7e1e05ccbe56ff4325876bd230ef8f021e831b67fd0757f84ad01d65354851a1", func := "loop.example/g01353/laws.FnExactNetsOf", spec := "fnExactNetsOf", unfollowed := true, recurses := true, plainKeys := false, apart := false, narrowed := true }
def FnExactNetsOfUptoSaid : Prop := fnExactNetsOfUptoRow.holds Try.pinned (OpenSpec.upto fnExactNetsOfSpec)

/-- 'laws.FnExactCheckPayments', WHERE WHAT IT READS IS OF BULK AT MOST 1048576: true; the input reads as it did. -/
def fnExactCheckPaymentsUptoRow : OpenClaim := { program := "ytodlaafabnmbhaa", sum := "7e1e05ccbe56ff4325876bd230ef8f021e831b67fd0757f84ad01d65354851a1", func := "loop.example/g01353/laws.FnExactCheckPayments", spec := "fnExactCheckPayments", unfollowed := true, recurses := true, plainKeys := false, apart := false, narrowed := true }
def FnExactCheckPaymentsUptoSaid : Prop := fnExactCheckPaymentsUptoRow.holds Try.pinned (OpenSpec.upto fnExactCheckPaymentsSpec)

/-- 'laws.FnExactPartOfLedger', WHERE WHAT IT READS IS OF BULK AT MOST 1048576: true; the input reads as it did. -/
def fnExactPartOfLedgerUptoRow : OpenClaim := { program := "ytodlaafabnmbhaa", sum := "7e1e05ccbe56ff4325876bd230ef8f021e831b67fd0757f84ad01d65354851a1", func := "loop.example/g01353/laws.FnExactPartOfLedger", spec := "fnExactPartOfLedger", unfollowed := true, recurses := true, plainKeys := false, apart := false, narrowed := true }
def FnExactPartOfLedgerUptoSaid : Prop := fnExactPartOfLedgerUptoRow.holds Try.pinned (OpenSpec.upto fnExactPartOfLedgerSpec)

end Rows
end Go.Proofs.Ytodlaafabnmbhaa
