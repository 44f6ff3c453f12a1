/-
  No cell of these rows narrows 'for every input' (looked for: loops, veiled, ifaces, maps, wideKeys, modest, calm, conditions, laid).
  DERIVED. THE GIVEN ROWS OF THIS SEAT. 4 by the template 'for every input the law returns true; each argument reads behind the call as it read before'; 0 by the template 'total and deterministic' (their statements: YtgjkpjagmhdfgaaTotals.lean).
  GIVEN WITH THE SEED: the statements are not yours to turn. If you find one false, say at which input.
  Laid BY PROGRAM, IN A SANDBOX (cutbox-rows.mjs): the forced cells as the released guide's own fill.sh prints them over the translation 3a972c34e4a2f567… (all of the seat's roots in one cut). By AI agents, Wed Nov 11 2026. No macro, syntax, notation, axiom, sorry.
-/
import Derived.Test.YtgjkpjagmhdfgaaChecked
import GoSem.Claim
import GoSem.ClaimJoined
import GoSem.ClaimMapViews
import Derived.JoinedTies
import Derived.KernelRfl
namespace Go.Proofs.Ytgjkpjagmhdfgaa
/- THE CELL 'sum', in the pinned program and in every row, IS THE sha256 OF THE DUMP (.gsa) THAT YtgjkpjagmhdfgaaProg.lean LOADS. Nothing in Lean hashes anything: it is a label: what it is worth is what the hold of that sum in a sandbox is worth. -/
noncomputable def Try.pinned : Pinned := { name := "ytgjkpjagmhdfgaa", sum := "3a972c34e4a2f56723ca2515c05bc27d0507855eca982928ac25d172e0c9cc31", checked := Try.checked }
namespace Rows
def none {H : Type} : Left H := { results := [], args := [] }

/-- 'laws.FnExactCheckPayments': WHATEVER THE INPUT: true; the input reads as it did. -/
def fnExactCheckPaymentsSpec : ChangeSpec := { name := "fnExactCheckPayments", fn := fun _ => fun
  | [d1, d2] => { results := [.lit (.bool true)], args := [d1, d2] }
  | _ => none }
def fnExactCheckPaymentsRow : OpenClaim := { program := "ytgjkpjagmhdfgaa", sum := "3a972c34e4a2f56723ca2515c05bc27d0507855eca982928ac25d172e0c9cc31", func := "loop.example/g01353/laws.FnExactCheckPayments", spec := "fnExactCheckPayments", unfollowed := true, recurses := true, plainKeys := false, apart := false }
def FnExactCheckPaymentsSaid : Prop := fnExactCheckPaymentsRow.holds Try.pinned (OpenSpec.ofChange fnExactCheckPaymentsSpec)

/-- ITS FALSE NEIGHBOUR: 'it returns false'. Refute it at one input. -/
def fnExactCheckPaymentsWrong : ChangeSpec := { name := "fnExactCheckPayments", fn := fun _ => fun
  | [d1, d2] => { results := [.lit (.bool false)], args := [d1, d2] }
  | _ => none }
def FnExactCheckPaymentsWrongFalsely : Prop := fnExactCheckPaymentsRow.holds Try.pinned (OpenSpec.ofChange fnExactCheckPaymentsWrong)

/-- 'laws.FnExactMissingIn': WHATEVER THE INPUT: true; the input reads as it did. -/
def fnExactMissingInSpec : ChangeSpec := { name := "fnExactMissingIn", fn := fun _ => fun
  | [d1, d2] => { results := [.lit (.bool true)], args := [d1, d2] }
  | _ => none }
def fnExactMissingInRow : OpenClaim := { program := "ytgjkpjagmhdfgaa", sum := "3a972c34e4a2f56723ca2515c05bc27d0507855eca982928ac25d172e0c9cc31", func := "loop.example/g01353/laws.FnExactMissingIn", spec := "fnExactMissingIn", plainKeys := false, apart := false }
def FnExactMissingInSaid : Prop := fnExactMissingInRow.holds Try.pinned (OpenSpec.ofChange fnExactMissingInSpec)

/-- ITS FALSE NEIGHBOUR: 'it returns false'. Refute it at one input. -/
def fnExactMissingInWrong : ChangeSpec := { name := "fnExactMissingIn", fn := fun _ => fun
  | [d1, d2] => { results := [.lit (.bool false)], args := [d1, d2] }
  | _ => none }
def FnExactMissingInWrongFalsely : Prop := fnExactMissingInRow.holds Try.pinned (OpenSpec.ofChange fnExactMissingInWrong)

/-- 'laws.FnExactPartOfLedger': WHATEVER THE INPUT: true; the input reads as it did. -/
def fnExactPartOfLedgerSpec : ChangeSpec := { name := "fnExactPartOfLedger", fn := fun _ => fun
  | [d1, d2, d3] => { results := [.lit (.bool true)], args := [d1, d2, d3] }
  | _ => none }
def fnExactPartOfLedgerRow : OpenClaim := { program := "ytgjkpjagmhdfgaa", sum := "3a972c34e4a2f56723ca2515c05bc27d0507855eca982928ac25d172e0c9cc31", func := "loop.example/g01353/laws.FnExactPartOfLedger", spec := "fnExactPartOfLedger", unfollowed := true, recurses := true, plainKeys := false, apart := false }
def FnExactPartOfLedgerSaid : Prop := fnExactPartOfLedgerRow.holds Try.pinned (OpenSpec.ofChange fnExactPartOfLedgerSpec)

/-- ITS FALSE NEIGHBOUR: 'it returns false'. Refute it at one input. -/
def fnExactPartOfLedgerWrong : ChangeSpec := { name := "fnExactPartOfLedger", fn := fun _ => fun
  | [d1, d2, d3] => { results := [.lit (.bool false)], args := [d1, d2, d3] }
  | _ => none }
def FnExactPartOfLedgerWrongFalsely : Prop := fnExactPartOfLedgerRow.holds Try.pinned (OpenSpec.ofChange fnExactPartOfLedgerWrong)

/-- 'laws.FnExactFollowOrders': WHATEVER THE INPUT: true; the input reads as it did. -/
def fnExactFollowOrdersSpec : ChangeSpec := { name := "fnExactFollowOrders", fn := fun _ => fun
  | [d] => { results := [.lit (.bool true)], args := [d] }
  | _ => none }
def fnExactFollowOrdersRow : OpenClaim := { program := "ytgjkpjagmhdfgaa", sum := "3a972c34e4a2f56723ca2515c05bc27d0507855eca982928ac25d172e0c9cc31", func := "loop.example/g01353/laws.FnExactFollowOrders", spec := "fnExactFollowOrders", plainKeys := false, apart := false }
def FnExactFollowOrdersSaid : Prop := fnExactFollowOrdersRow.holds Try.pinned (OpenSpec.ofChange fnExactFollowOrdersSpec)

/-- ITS FALSE NEIGHBOUR: 'it returns false'. Refute it at one input. -/
def fnExactFollowOrdersWrong : ChangeSpec := { name := "fnExactFollowOrders", fn := fun _ => fun
  | [d] => { results := [.lit (.bool false)], args := [d] }
  | _ => none }
def FnExactFollowOrdersWrongFalsely : Prop := fnExactFollowOrdersRow.holds Try.pinned (OpenSpec.ofChange fnExactFollowOrdersWrong)

/- THE SECOND FORM. 'bulk': how many values and letters a reading holds, each counted each time it is reached (what is shared counts as often as it is met; a slice's spare places count too). A statement '..UptoSaid' is the law's where the arguments, and the package variables that the reading takes, are together of bulk at most 1048576: NARROWER than '..Said'. Prove '..Said' where nothing that the law and all that it calls make is longer than what came in: it says more and counts as full. Else prove '..UptoSaid'. A law counts once. -/
mutual
def uptoBulk {H : Type} : DataW H → Nat
  | .lit (.string bytes) => bytes.length + 1
  | .lit _ => 1
  | .nil => 1
  | .ptr d => uptoBulk d + 1
  | .slice elems spare => uptoBulkAll elems + uptoBulkAll spare + 1
  | .agg parts => uptoBulkAll parts + 1
  | .iface _ d => uptoBulk d + 1
  | .map entries => uptoBulkEntries entries + 1
  | .held _ => 1
def uptoBulkAll {H : Type} : List (DataW H) → Nat
  | [] => 0
  | d :: r => uptoBulk d + uptoBulkAll r
def uptoBulkEntries {H : Type} : List (Lit × DataW H) → Nat
  | [] => 0
  | x :: r => uptoBulkEntry x + uptoBulkEntries r
def uptoBulkEntry {H : Type} : Lit × DataW H → Nat
  | (.string bytes, d) => bytes.length + uptoBulk d + 1
  | (_, d) => uptoBulk d + 1
 end
def uptoSmall : (H : Type) → List (DataW H) → Bool := fun _ ds => decide (uptoBulkAll ds ≤ 1048576)
def OpenSpec.upto (s : _root_.Go.ChangeSpec) : _root_.Go.OpenSpec := { _root_.Go.OpenSpec.ofChange s with cond := some uptoSmall }

/-- 'laws.FnExactCheckPayments', WHERE WHAT IT READS IS OF BULK AT MOST 1048576: true; the input reads as it did. -/
def fnExactCheckPaymentsUptoRow : OpenClaim := { program := "ytgjkpjagmhdfgaa", sum := "3a972c34e4a2f56723ca2515c05bc27d0507855eca982928ac25d172e0c9cc31", func := "loop.example/g01353/laws.FnExactCheckPayments", spec := "fnExactCheckPayments", unfollowed := true, recurses := true, plainKeys := false, apart := false, narrowed := true }
def FnExactCheckPaymentsUptoSaid : Prop := fnExactCheckPaymentsUptoRow.holds Try.pinned (OpenSpec.upto fnExactCheckPaymentsSpec)

/-- 'laws.FnExactMissingIn', WHERE WHAT IT READS IS OF BULK AT MOST 1048576: true; the input reads as it did. -/
def fnExactMissingInUptoRow : OpenClaim := { program := "ytgjkpjagmhdfgaa", sum := "3a972c34e4a2f56723ca2515c05bc27d0507855eca982928ac25d172e0c9cc31", func := "loop.example/g01353/laws.FnExactMissingIn", spec := "fnExactMissingIn", plainKeys := false, apart := false, narrowed := true }
def FnExactMissingInUptoSaid : Prop := fnExactMissingInUptoRow.holds Try.pinned (OpenSpec.upto fnExactMissingInSpec)

/-- 'laws.FnExactPartOfLedger', WHERE WHAT IT READS IS OF BULK AT MOST 1048576: true; the input reads as it did. -/
def fnExactPartOfLedgerUptoRow : OpenClaim := { program := "ytgjkpjagmhdfgaa", sum := "3a972c34e4a2f56723ca2515c05bc27d0507855eca982928ac25d172e0c9cc31", func := "loop.example/g01353/laws.FnExactPartOfLedger", spec := "fnExactPartOfLedger", unfollowed := true, recurses := true, plainKeys := false, apart := false, narrowed := true }
def FnExactPartOfLedgerUptoSaid : Prop := fnExactPartOfLedgerUptoRow.holds Try.pinned (OpenSpec.upto fnExactPartOfLedgerSpec)

/-- 'laws.FnExactFollowOrders', WHERE WHAT IT READS IS OF BULK AT MOST 1048576: true; the input reads as it did. -/
def fnExactFollowOrdersUptoRow : OpenClaim := { program := "ytgjkpjagmhdfgaa", sum := "3a972c34e4a2f56723ca2515c05bc27d0507855eca982928ac25d172e0c9cc31", func := "loop.example/g01353/laws.FnExactFollowOrders", spec := "fnExactFollowOrders", plainKeys := false, apart := false, narrowed := true }
def FnExactFollowOrdersUptoSaid : Prop := fnExactFollowOrdersUptoRow.holds Try.pinned (OpenSpec.upto fnExactFollowOrdersSpec)

end Rows
end Go.Proofs.Ytgjkpjagmhdfgaa
