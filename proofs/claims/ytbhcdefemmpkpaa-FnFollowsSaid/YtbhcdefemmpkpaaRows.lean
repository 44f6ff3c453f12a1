/-
  No cell of these rows narrows 'for every input' (looked for: loops, veiled, ifaces, maps, wideKeys, modest, calm, conditions, laid).
  DERIVED. THE GIVEN ROWS OF THIS SEAT. 4 by the template 'for every input the law returns true; each argument reads behind the call as it read before'; 0 by the template 'total and deterministic' (their statements: YtbhcdefemmpkpaaTotals.lean).
  GIVEN WITH THE SEED: the statements are not yours to turn. If you find one false, say at which input.
  Laid BY PROGRAM, IN A SANDBOX (cutbox-rows.mjs): the forced cells as the released guide's own fill.sh prints them over the translation d7fc18d35e314b8d… (all of the seat's roots in one cut). By AI agents, Wed Nov 11 2026. No macro, syntax, notation, axiom, sorry.
-/
import Derived.Test.YtbhcdefemmpkpaaChecked
import GoSem.Claim
import GoSem.ClaimJoined
import GoSem.ClaimMapViews
import Derived.JoinedTies
import Derived.KernelRfl
namespace Go.Proofs.Ytbhcdefemmpkpaa
/- THE CELL 'sum', in the pinned program and in every row, IS THE sha256 OF THE DUMP (.gsa) THAT YtbhcdefemmpkpaaProg.lean LOADS. Nothing in Lean hashes anything: it is a label: what it is worth is what the hold of that sum in a sandbox is worth. -/
noncomputable def Try.pinned : Pinned := { name := "ytbhcdefemmpkpaa", sum := "d7fc18d35e314b8d84c6fe1853807174e2364bbbba9a616dff77cfbaf3baf618", checked := Try.checked }
namespace Rows
def none {H : Type} : Left H := { results := [], args := [] }

/-- 'laws.FnFollows': WHATEVER THE INPUT: true; the input reads as it did. -/
def fnFollowsSpec : ChangeSpec := { name := "fnFollows", fn := fun _ => fun
  | [d1, d2] => { results := [.lit (.bool true)], args := [d1, d2] }
  | _ => none }
def fnFollowsRow : OpenClaim := { program := "ytbhcdefemmpkpaa", sum := "d7fc18d35e314b8d84c6fe1853807174e2364bbbba9a616dff77cfbaf3baf618", func := "loop.example/g01353/laws.FnFollows", spec := "fnFollows", unfollowed := true, recurses := true, plainKeys := false, apart := false }
def FnFollowsSaid : Prop := fnFollowsRow.holds Try.pinned (OpenSpec.ofChange fnFollowsSpec)

/-- ITS FALSE NEIGHBOUR: 'it returns false'. Refute it at one input. -/
def fnFollowsWrong : ChangeSpec := { name := "fnFollows", fn := fun _ => fun
  | [d1, d2] => { results := [.lit (.bool false)], args := [d1, d2] }
  | _ => none }
def FnFollowsWrongFalsely : Prop := fnFollowsRow.holds Try.pinned (OpenSpec.ofChange fnFollowsWrong)

/-- 'laws.FnExactFewestPayments': WHATEVER THE INPUT: true; the input reads as it did. -/
def fnExactFewestPaymentsSpec : ChangeSpec := { name := "fnExactFewestPayments", fn := fun _ => fun
  | [d] => { results := [.lit (.bool true)], args := [d] }
  | _ => none }
def fnExactFewestPaymentsRow : OpenClaim := { program := "ytbhcdefemmpkpaa", sum := "d7fc18d35e314b8d84c6fe1853807174e2364bbbba9a616dff77cfbaf3baf618", func := "loop.example/g01353/laws.FnExactFewestPayments", spec := "fnExactFewestPayments", unfollowed := true, recurses := true, plainKeys := false, apart := false }
def FnExactFewestPaymentsSaid : Prop := fnExactFewestPaymentsRow.holds Try.pinned (OpenSpec.ofChange fnExactFewestPaymentsSpec)

/-- ITS FALSE NEIGHBOUR: 'it returns false'. Refute it at one input. -/
def fnExactFewestPaymentsWrong : ChangeSpec := { name := "fnExactFewestPayments", fn := fun _ => fun
  | [d] => { results := [.lit (.bool false)], args := [d] }
  | _ => none }
def FnExactFewestPaymentsWrongFalsely : Prop := fnExactFewestPaymentsRow.holds Try.pinned (OpenSpec.ofChange fnExactFewestPaymentsWrong)

/-- 'laws.FnPayments': WHATEVER THE INPUT: true; the input reads as it did. -/
def fnPaymentsSpec : ChangeSpec := { name := "fnPayments", fn := fun _ => fun
  | [d1, d2] => { results := [.lit (.bool true)], args := [d1, d2] }
  | _ => none }
def fnPaymentsRow : OpenClaim := { program := "ytbhcdefemmpkpaa", sum := "d7fc18d35e314b8d84c6fe1853807174e2364bbbba9a616dff77cfbaf3baf618", func := "loop.example/g01353/laws.FnPayments", spec := "fnPayments", unfollowed := true, recurses := true, plainKeys := false, apart := false }
def FnPaymentsSaid : Prop := fnPaymentsRow.holds Try.pinned (OpenSpec.ofChange fnPaymentsSpec)

/-- ITS FALSE NEIGHBOUR: 'it returns false'. Refute it at one input. -/
def fnPaymentsWrong : ChangeSpec := { name := "fnPayments", fn := fun _ => fun
  | [d1, d2] => { results := [.lit (.bool false)], args := [d1, d2] }
  | _ => none }
def FnPaymentsWrongFalsely : Prop := fnPaymentsRow.holds Try.pinned (OpenSpec.ofChange fnPaymentsWrong)

/-- 'laws.FnExactMergeLedgers': WHATEVER THE INPUT: true; the input reads as it did. -/
def fnExactMergeLedgersSpec : ChangeSpec := { name := "fnExactMergeLedgers", fn := fun _ => fun
  | [d1, d2, d3] => { results := [.lit (.bool true)], args := [d1, d2, d3] }
  | _ => none }
def fnExactMergeLedgersRow : OpenClaim := { program := "ytbhcdefemmpkpaa", sum := "d7fc18d35e314b8d84c6fe1853807174e2364bbbba9a616dff77cfbaf3baf618", func := "loop.example/g01353/laws.FnExactMergeLedgers", spec := "fnExactMergeLedgers", unfollowed := true, recurses := true, plainKeys := false, apart := false }
def FnExactMergeLedgersSaid : Prop := fnExactMergeLedgersRow.holds Try.pinned (OpenSpec.ofChange fnExactMergeLedgersSpec)

/-- ITS FALSE NEIGHBOUR: 'it returns false'. Refute it at one input. -/
def fnExactMergeLedgersWrong : ChangeSpec := { name := "fnExactMergeLedgers", fn := fun _ => fun
  | [d1, d2, d3] => { results := [.lit (.bool false)], args := [d1, d2, d3] }
  | _ => none }
def FnExactMergeLedgersWrongFalsely : Prop := fnExactMergeLedgersRow.holds Try.pinned (OpenSpec.ofChange fnExactMergeLedgersWrong)

/- THE SECOND FORM. 'bulk': how many values and letters a reading holds, each counted each time it is reached (what is shared counts as often as it is met; a slice's spare places count too). A statement '..UptoSaid' is the law's where the arguments, and the package variables that the reading takes, are together of bulk at most 1048576: NARROWER than '..Said'. Prove '..Said' where nothing that the law and all that it calls make is longer than what came in: it says more and counts as full. Else prove '..UptoSaid'. A law counts once. -/
mutual
def uptoBulk {H : Type} : DataW H → Nat
  | .lit (.string bytes) => bytes.length + 1
  | .lit _ => 1
  | .nil => 1
  | .ptr d => uptoBulk d + 1
  | .slice elems spare => uptoBulkAll elems + uptoBulkAll spare + 1
  | .agg parts => uptoBulkAll parts + 1
  | .iface _ d => uptoBulk d + 1
  | .map entries => uptoBulkEntries entries + 1
  | .held _ => 1
def uptoBulkAll {H : Type} : List (DataW H) → Nat
  | [] => 0
  | d :: r => uptoBulk d + uptoBulkAll r
def uptoBulkEntries {H : Type} : List (Lit × DataW H) → Nat
  | [] => 0
  | x :: r => uptoBulkEntry x + uptoBulkEntries r
def uptoBulkEntry {H : Type} : Lit × DataW H → Nat
  | (.string bytes, d) => bytes.length + uptoBulk d + 1
  | (_, d) => uptoBulk d + 1
 end
def uptoSmall : (H : Type) → List (DataW H) → Bool := fun _ ds => decide (uptoBulkAll ds ≤ 1048576)
def OpenSpec.upto (s : _root_.Go.ChangeSpec) : _root_.Go.OpenSpec := { _root_.Go.OpenSpec.ofChange s with cond := some uptoSmall }

/-- 'laws.FnFollows', WHERE WHAT IT READS IS OF BULK AT MOST 1048576: true; the input reads as it did. -/
def fnFollowsUptoRow : OpenClaim := { program := "ytbhcdefemmpkpaa", sum := "d7fc18d35e314b8d84c6fe1853807174e2364bbbba9a616dff77cfbaf3baf618", func := "loop.example/g01353/laws.FnFollows", spec := "fnFollows", unfollowed := true, recurses := true, plainKeys := false, apart := false, narrowed := true }
def FnFollowsUptoSaid : Prop := fnFollowsUptoRow.holds Try.pinned (OpenSpec.upto fnFollowsSpec)

/-- 'laws.FnExactFewestPayments', WHERE WHAT IT READS IS OF BULK AT MOST 1048576: true; the input reads as it did. -/
def fnExactFewestPaymentsUptoRow : OpenClaim := { program := "ytbhcdefemmpkpaa", sum := "d7fc18d35e314b8d84c6fe1853807174e2364bbbba9a616dff77cfbaf3baf618", func := "loop.example/g01353/laws.FnExactFewestPayments", spec := "fnExactFewestPayments", unfollowed := true, recurses := true, plainKeys := false, apart := false, narrowed := true }
def FnExactFewestPaymentsUptoSaid : Prop := fnExactFewestPaymentsUptoRow.holds Try.pinned (OpenSpec.upto fnExactFewestPaymentsSpec)

/-- 'laws.FnPayments', WHERE WHAT IT READS IS OF BULK AT MOST 1048576: true; the input reads as it did. -/
def fnPaymentsUptoRow : OpenClaim := { program := "ytbhcdefemmpkpaa", sum := "d7fc18d35e314b8d84c6fe1853807174e2364bbbba9a616dff77cfbaf3baf618", func := "loop.example/g01353/laws.FnPayments", spec := "fnPayments", unfollowed := true, recurses := true, plainKeys := false, apart := false, narrowed := true }
def FnPaymentsUptoSaid : Prop := fnPaymentsUptoRow.holds Try.pinned (OpenSpec.upto fnPaymentsSpec)

/-- 'laws.FnExactMergeLedgers', WHERE WHAT IT READS IS OF BULK AT MOST 1048576: true; the input reads as it did. -/
def fnExactMergeLedgersUptoRow : OpenClaim := { program := "ytbhcdefemmpkpaa", sum := "d7fc18d35e314b8d84c6fe1853807174e2364bbbba9a616dff77cfbaf3baf618", func := "loop.example/g01353/laws.FnExactMergeLedgers", spec := "fnExactMergeLedgers", unfollowed := true, recurses := true, plainKeys := false, apart := false, narrowed := true }
def FnExactMergeLedgersUptoSaid : Prop := fnExactMergeLedgersUptoRow.holds Try.pinned (OpenSpec.upto fnExactMergeLedgersSpec)

end Rows
end Go.Proofs.Ytbhcdefemmpkpaa
