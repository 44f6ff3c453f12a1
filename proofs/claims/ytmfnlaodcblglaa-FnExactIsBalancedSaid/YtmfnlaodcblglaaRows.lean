/-
  No cell of these rows narrows 'for every input' (looked for: loops, veiled, ifaces, maps, wideKeys, modest, calm, conditions, laid).
  DERIVED. THE GIVEN ROWS OF THIS SEAT. 12 by the template 'for every input the law returns true; each argument reads behind the call as it read before'; 0 by the template 'total and deterministic' (their statements: YtmfnlaodcblglaaTotals.lean).
  GIVEN WITH THE SEED: the statements are not yours to turn. If you find one false, say at which input.
  Laid BY PROGRAM, IN A SANDBOX (cutbox-rows.mjs): the forced cells as the released guide's own fill.sh prints them over the translation 12b924e7d0d7b7f4… (all of the seat's roots in one cut). By AI agents, Wed Nov 11 2026. No macro, syntax, notation, axiom, sorry.
-/
import Derived.Test.YtmfnlaodcblglaaChecked
import GoSem.Claim
import GoSem.ClaimJoined
import GoSem.ClaimMapViews
import Derived.JoinedTies
import Derived.KernelRfl
namespace Go.Proofs.Ytmfnlaodcblglaa
/- THE CELL 'sum', in the pinned program and in every row, IS THE sha256 OF THE DUMP (.gsa) THAT YtmfnlaodcblglaaProg.lean LOADS. Nothing in Lean hashes anything: it is a label: what it is worth is what the hold of that sum in a sandbox is worth. -/
noncomputable def Try.pinned : Pinned := { name := "ytmfnlaodcblglaa", sum := "12b924e7d0d7b7f45c9922bfb091cfb1f98e18f447cba5217718ae0eea2a1040", checked := Try.checked }
namespace Rows
def none {H : Type} : Left H := { results := [], args := [] }

/-- 'laws.FnExactIsOrder': WHATEVER THE INPUT: true; the input reads as it did. -/
def fnExactIsOrderSpec : ChangeSpec := { name := "fnExactIsOrder", fn := fun _ => fun
  | [d1, d2] => { results := [.lit (.bool true)], args := [d1, d2] }
  | _ => none }
def fnExactIsOrderRow : OpenClaim := { program := "ytmfnlaodcblglaa", sum := "12b924e7d0d7b7f45c9922bfb091cfb1f98e18f447cba5217718ae0eea2a1040", func := "loop.example/g01353/laws.FnExactIsOrder", spec := "fnExactIsOrder", apart := false }
def FnExactIsOrderSaid : Prop := fnExactIsOrderRow.holds Try.pinned (OpenSpec.ofChange fnExactIsOrderSpec)

/-- ITS FALSE NEIGHBOUR: 'it returns false'. Refute it at one input. -/
def fnExactIsOrderWrong : ChangeSpec := { name := "fnExactIsOrder", fn := fun _ => fun
  | [d1, d2] => { results := [.lit (.bool false)], args := [d1, d2] }
  | _ => none }
def FnExactIsOrderWrongFalsely : Prop := fnExactIsOrderRow.holds Try.pinned (OpenSpec.ofChange fnExactIsOrderWrong)

/-- 'laws.FnExactBlindNumbers': WHATEVER THE INPUT: true; the input reads as it did. -/
def fnExactBlindNumbersSpec : ChangeSpec := { name := "fnExactBlindNumbers", fn := fun _ => fun
  | [d1, d2, d3] => { results := [.lit (.bool true)], args := [d1, d2, d3] }
  | _ => none }
def fnExactBlindNumbersRow : OpenClaim := { program := "ytmfnlaodcblglaa", sum := "12b924e7d0d7b7f45c9922bfb091cfb1f98e18f447cba5217718ae0eea2a1040", func := "loop.example/g01353/laws.FnExactBlindNumbers", spec := "fnExactBlindNumbers", apart := false }
def FnExactBlindNumbersSaid : Prop := fnExactBlindNumbersRow.holds Try.pinned (OpenSpec.ofChange fnExactBlindNumbersSpec)

/-- ITS FALSE NEIGHBOUR: 'it returns false'. Refute it at one input. -/
def fnExactBlindNumbersWrong : ChangeSpec := { name := "fnExactBlindNumbers", fn := fun _ => fun
  | [d1, d2, d3] => { results := [.lit (.bool false)], args := [d1, d2, d3] }
  | _ => none }
def FnExactBlindNumbersWrongFalsely : Prop := fnExactBlindNumbersRow.holds Try.pinned (OpenSpec.ofChange fnExactBlindNumbersWrong)

/-- 'laws.FnExactValidMarks': WHATEVER THE INPUT: true; the input reads as it did. -/
def fnExactValidMarksSpec : ChangeSpec := { name := "fnExactValidMarks", fn := fun _ => fun
  | [d1, d2] => { results := [.lit (.bool true)], args := [d1, d2] }
  | _ => none }
def fnExactValidMarksRow : OpenClaim := { program := "ytmfnlaodcblglaa", sum := "12b924e7d0d7b7f45c9922bfb091cfb1f98e18f447cba5217718ae0eea2a1040", func := "loop.example/g01353/laws.FnExactValidMarks", spec := "fnExactValidMarks", unfollowed := true, recurses := true, apart := false }
def FnExactValidMarksSaid : Prop := fnExactValidMarksRow.holds Try.pinned (OpenSpec.ofChange fnExactValidMarksSpec)

/-- ITS FALSE NEIGHBOUR: 'it returns false'. Refute it at one input. -/
def fnExactValidMarksWrong : ChangeSpec := { name := "fnExactValidMarks", fn := fun _ => fun
  | [d1, d2] => { results := [.lit (.bool false)], args := [d1, d2] }
  | _ => none }
def FnExactValidMarksWrongFalsely : Prop := fnExactValidMarksRow.holds Try.pinned (OpenSpec.ofChange fnExactValidMarksWrong)

/-- 'laws.FnExactDiscordOf': WHATEVER THE INPUT: true; the input reads as it did. -/
def fnExactDiscordOfSpec : ChangeSpec := { name := "fnExactDiscordOf", fn := fun _ => fun
  | [d1, d2, d3] => { results := [.lit (.bool true)], args := [d1, d2, d3] }
  | _ => none }
def fnExactDiscordOfRow : OpenClaim := { program := "ytmfnlaodcblglaa", sum := "12b924e7d0d7b7f45c9922bfb091cfb1f98e18f447cba5217718ae0eea2a1040", func := "loop.example/g01353/laws.FnExactDiscordOf", spec := "fnExactDiscordOf", apart := false }
def FnExactDiscordOfSaid : Prop := fnExactDiscordOfRow.holds Try.pinned (OpenSpec.ofChange fnExactDiscordOfSpec)

/-- ITS FALSE NEIGHBOUR: 'it returns false'. Refute it at one input. -/
def fnExactDiscordOfWrong : ChangeSpec := { name := "fnExactDiscordOf", fn := fun _ => fun
  | [d1, d2, d3] => { results := [.lit (.bool false)], args := [d1, d2, d3] }
  | _ => none }
def FnExactDiscordOfWrongFalsely : Prop := fnExactDiscordOfRow.holds Try.pinned (OpenSpec.ofChange fnExactDiscordOfWrong)

/-- 'laws.FnExactSameMarks': WHATEVER THE INPUT: true; the input reads as it did. -/
def fnExactSameMarksSpec : ChangeSpec := { name := "fnExactSameMarks", fn := fun _ => fun
  | [d1, d2] => { results := [.lit (.bool true)], args := [d1, d2] }
  | _ => none }
def fnExactSameMarksRow : OpenClaim := { program := "ytmfnlaodcblglaa", sum := "12b924e7d0d7b7f45c9922bfb091cfb1f98e18f447cba5217718ae0eea2a1040", func := "loop.example/g01353/laws.FnExactSameMarks", spec := "fnExactSameMarks", unfollowed := true, recurses := true, apart := false }
def FnExactSameMarksSaid : Prop := fnExactSameMarksRow.holds Try.pinned (OpenSpec.ofChange fnExactSameMarksSpec)

/-- ITS FALSE NEIGHBOUR: 'it returns false'. Refute it at one input. -/
def fnExactSameMarksWrong : ChangeSpec := { name := "fnExactSameMarks", fn := fun _ => fun
  | [d1, d2] => { results := [.lit (.bool false)], args := [d1, d2] }
  | _ => none }
def FnExactSameMarksWrongFalsely : Prop := fnExactSameMarksRow.holds Try.pinned (OpenSpec.ofChange fnExactSameMarksWrong)

/-- 'laws.FnExactFollowOrders': WHATEVER THE INPUT: true; the input reads as it did. -/
def fnExactFollowOrdersSpec : ChangeSpec := { name := "fnExactFollowOrders", fn := fun _ => fun
  | [d] => { results := [.lit (.bool true)], args := [d] }
  | _ => none }
def fnExactFollowOrdersRow : OpenClaim := { program := "ytmfnlaodcblglaa", sum := "12b924e7d0d7b7f45c9922bfb091cfb1f98e18f447cba5217718ae0eea2a1040", func := "loop.example/g01353/laws.FnExactFollowOrders", spec := "fnExactFollowOrders", apart := false }
def FnExactFollowOrdersSaid : Prop := fnExactFollowOrdersRow.holds Try.pinned (OpenSpec.ofChange fnExactFollowOrdersSpec)

/-- ITS FALSE NEIGHBOUR: 'it returns false'. Refute it at one input. -/
def fnExactFollowOrdersWrong : ChangeSpec := { name := "fnExactFollowOrders", fn := fun _ => fun
  | [d] => { results := [.lit (.bool false)], args := [d] }
  | _ => none }
def FnExactFollowOrdersWrongFalsely : Prop := fnExactFollowOrdersRow.holds Try.pinned (OpenSpec.ofChange fnExactFollowOrdersWrong)

/-- 'laws.FnExactAgreementBound': WHATEVER THE INPUT: true; the input reads as it did. -/
def fnExactAgreementBoundSpec : ChangeSpec := { name := "fnExactAgreementBound", fn := fun _ => fun
  | [d1, d2] => { results := [.lit (.bool true)], args := [d1, d2] }
  | _ => none }
def fnExactAgreementBoundRow : OpenClaim := { program := "ytmfnlaodcblglaa", sum := "12b924e7d0d7b7f45c9922bfb091cfb1f98e18f447cba5217718ae0eea2a1040", func := "loop.example/g01353/laws.FnExactAgreementBound", spec := "fnExactAgreementBound", unfollowed := true, recurses := true, apart := false }
def FnExactAgreementBoundSaid : Prop := fnExactAgreementBoundRow.holds Try.pinned (OpenSpec.ofChange fnExactAgreementBoundSpec)

/-- ITS FALSE NEIGHBOUR: 'it returns false'. Refute it at one input. -/
def fnExactAgreementBoundWrong : ChangeSpec := { name := "fnExactAgreementBound", fn := fun _ => fun
  | [d1, d2] => { results := [.lit (.bool false)], args := [d1, d2] }
  | _ => none }
def FnExactAgreementBoundWrongFalsely : Prop := fnExactAgreementBoundRow.holds Try.pinned (OpenSpec.ofChange fnExactAgreementBoundWrong)

/-- 'laws.FnExactWinnerOf': WHATEVER THE INPUT: true; the input reads as it did. -/
def fnExactWinnerOfSpec : ChangeSpec := { name := "fnExactWinnerOf", fn := fun _ => fun
  | [d1, d2] => { results := [.lit (.bool true)], args := [d1, d2] }
  | _ => none }
def fnExactWinnerOfRow : OpenClaim := { program := "ytmfnlaodcblglaa", sum := "12b924e7d0d7b7f45c9922bfb091cfb1f98e18f447cba5217718ae0eea2a1040", func := "loop.example/g01353/laws.FnExactWinnerOf", spec := "fnExactWinnerOf", unfollowed := true, recurses := true, apart := false }
def FnExactWinnerOfSaid : Prop := fnExactWinnerOfRow.holds Try.pinned (OpenSpec.ofChange fnExactWinnerOfSpec)

/-- ITS FALSE NEIGHBOUR: 'it returns false'. Refute it at one input. -/
def fnExactWinnerOfWrong : ChangeSpec := { name := "fnExactWinnerOf", fn := fun _ => fun
  | [d1, d2] => { results := [.lit (.bool false)], args := [d1, d2] }
  | _ => none }
def FnExactWinnerOfWrongFalsely : Prop := fnExactWinnerOfRow.holds Try.pinned (OpenSpec.ofChange fnExactWinnerOfWrong)

/-- 'laws.FnExactWithoutTaster': WHATEVER THE INPUT: true; the input reads as it did. -/
def fnExactWithoutTasterSpec : ChangeSpec := { name := "fnExactWithoutTaster", fn := fun _ => fun
  | [d1, d2, d3] => { results := [.lit (.bool true)], args := [d1, d2, d3] }
  | _ => none }
def fnExactWithoutTasterRow : OpenClaim := { program := "ytmfnlaodcblglaa", sum := "12b924e7d0d7b7f45c9922bfb091cfb1f98e18f447cba5217718ae0eea2a1040", func := "loop.example/g01353/laws.FnExactWithoutTaster", spec := "fnExactWithoutTaster", unfollowed := true, recurses := true, apart := false }
def FnExactWithoutTasterSaid : Prop := fnExactWithoutTasterRow.holds Try.pinned (OpenSpec.ofChange fnExactWithoutTasterSpec)

/-- ITS FALSE NEIGHBOUR: 'it returns false'. Refute it at one input. -/
def fnExactWithoutTasterWrong : ChangeSpec := { name := "fnExactWithoutTaster", fn := fun _ => fun
  | [d1, d2, d3] => { results := [.lit (.bool false)], args := [d1, d2, d3] }
  | _ => none }
def FnExactWithoutTasterWrongFalsely : Prop := fnExactWithoutTasterRow.holds Try.pinned (OpenSpec.ofChange fnExactWithoutTasterWrong)

/-- 'laws.FnExactSpreadOf': WHATEVER THE INPUT: true; the input reads as it did. -/
def fnExactSpreadOfSpec : ChangeSpec := { name := "fnExactSpreadOf", fn := fun _ => fun
  | [d1, d2] => { results := [.lit (.bool true)], args := [d1, d2] }
  | _ => none }
def fnExactSpreadOfRow : OpenClaim := { program := "ytmfnlaodcblglaa", sum := "12b924e7d0d7b7f45c9922bfb091cfb1f98e18f447cba5217718ae0eea2a1040", func := "loop.example/g01353/laws.FnExactSpreadOf", spec := "fnExactSpreadOf", unfollowed := true, recurses := true, apart := false }
def FnExactSpreadOfSaid : Prop := fnExactSpreadOfRow.holds Try.pinned (OpenSpec.ofChange fnExactSpreadOfSpec)

/-- ITS FALSE NEIGHBOUR: 'it returns false'. Refute it at one input. -/
def fnExactSpreadOfWrong : ChangeSpec := { name := "fnExactSpreadOf", fn := fun _ => fun
  | [d1, d2] => { results := [.lit (.bool false)], args := [d1, d2] }
  | _ => none }
def FnExactSpreadOfWrongFalsely : Prop := fnExactSpreadOfRow.holds Try.pinned (OpenSpec.ofChange fnExactSpreadOfWrong)

/-- 'laws.FnExactRankSums': WHATEVER THE INPUT: true; the input reads as it did. -/
def fnExactRankSumsSpec : ChangeSpec := { name := "fnExactRankSums", fn := fun _ => fun
  | [d1, d2] => { results := [.lit (.bool true)], args := [d1, d2] }
  | _ => none }
def fnExactRankSumsRow : OpenClaim := { program := "ytmfnlaodcblglaa", sum := "12b924e7d0d7b7f45c9922bfb091cfb1f98e18f447cba5217718ae0eea2a1040", func := "loop.example/g01353/laws.FnExactRankSums", spec := "fnExactRankSums", unfollowed := true, recurses := true, apart := false }
def FnExactRankSumsSaid : Prop := fnExactRankSumsRow.holds Try.pinned (OpenSpec.ofChange fnExactRankSumsSpec)

/-- ITS FALSE NEIGHBOUR: 'it returns false'. Refute it at one input. -/
def fnExactRankSumsWrong : ChangeSpec := { name := "fnExactRankSums", fn := fun _ => fun
  | [d1, d2] => { results := [.lit (.bool false)], args := [d1, d2] }
  | _ => none }
def FnExactRankSumsWrongFalsely : Prop := fnExactRankSumsRow.holds Try.pinned (OpenSpec.ofChange fnExactRankSumsWrong)

/-- 'laws.FnExactIsBalanced': WHATEVER THE INPUT: true; the input reads as it did. -/
def fnExactIsBalancedSpec : ChangeSpec := { name := "fnExactIsBalanced", fn := fun _ => fun
  | [d1, d2] => { results := [.lit (.bool true)], args := [d1, d2] }
  | _ => none }
def fnExactIsBalancedRow : OpenClaim := { program := "ytmfnlaodcblglaa", sum := "12b924e7d0d7b7f45c9922bfb091cfb1f98e18f447cba5217718ae0eea2a1040", func := "loop.example/g01353/laws.FnExactIsBalanced", spec := "fnExactIsBalanced", unfollowed := true, recurses := true, apart := false }
def FnExactIsBalancedSaid : Prop := fnExactIsBalancedRow.holds Try.pinned (OpenSpec.ofChange fnExactIsBalancedSpec)

/-- ITS FALSE NEIGHBOUR: 'it returns false'. Refute it at one input. -/
def fnExactIsBalancedWrong : ChangeSpec := { name := "fnExactIsBalanced", fn := fun _ => fun
  | [d1, d2] => { results := [.lit (.bool false)], args := [d1, d2] }
  | _ => none }
def FnExactIsBalancedWrongFalsely : Prop := fnExactIsBalancedRow.holds Try.pinned (OpenSpec.ofChange fnExactIsBalancedWrong)

/- THE SECOND FORM. 'bulk': how many values and letters a reading holds, each counted each time it is reached (what is shared counts as often as it is met; a slice's spare places count too). A statement '..UptoSaid' is the law's where the arguments, and the package variables that the reading takes, are together of bulk at most 1048576: NARROWER than '..Said'. Prove '..Said' where nothing that the law and all that it calls make is longer than what came in: it says more and counts as full. Else prove '..UptoSaid'. A law counts once. -/
mutual
def uptoBulk {H : Type} : DataW H → Nat
  | .lit (.string bytes) => bytes.length + 1
  | .lit _ => 1
  | .nil => 1
  | .ptr d => uptoBulk d + 1
  | .slice elems spare => uptoBulkAll elems + uptoBulkAll spare + 1
  | .agg parts => uptoBulkAll parts + 1
  | .iface _ d => uptoBulk d + 1
  | .map entries => uptoBulkEntries entries + 1
  | .held _ => 1
def uptoBulkAll {H : Type} : List (DataW H) → Nat
  | [] => 0
  | d :: r => uptoBulk d + uptoBulkAll r
def uptoBulkEntries {H : Type} : List (Lit × DataW H) → Nat
  | [] => 0
  | x :: r => uptoBulkEntry x + uptoBulkEntries r
def uptoBulkEntry {H : Type} : Lit × DataW H → Nat
  | (.string bytes, d) => bytes.length + uptoBulk d + 1
  | (_, d) => uptoBulk d + 1
 end
def uptoSmall : (H : Type) → List (DataW H) → Bool := fun _ ds => decide (uptoBulkAll ds ≤ 1048576)
def OpenSpec.upto (s : _root_.Go.ChangeSpec) : _root_.Go.OpenSpec := { _root_.Go.OpenSpec.ofChange s with cond := some uptoSmall }

/-- 'laws.FnExactIsOrder', WHERE WHAT IT READS IS OF BULK AT MOST 1048576: true; the input reads as it did. -/
def fnExactIsOrderUptoRow : OpenClaim := { program := "ytmfnlaodcblglaa", sum := "12b924e7d0d7b7f45c9922bfb091cfb1f98e18f447cba5217718ae0eea2a1040", func := "loop.example/g01353/laws.FnExactIsOrder", spec := "fnExactIsOrder", apart := false, narrowed := true }
def FnExactIsOrderUptoSaid : Prop := fnExactIsOrderUptoRow.holds Try.pinned (OpenSpec.upto fnExactIsOrderSpec)

/-- 'laws.FnExactBlindNumbers', WHERE WHAT IT READS IS OF BULK AT MOST 1048576: true; the input reads as it did. -/
def fnExactBlindNumbersUptoRow : OpenClaim := { program := "ytmfnlaodcblglaa", sum := "12b924e7d0d7b7f45c9922bfb091cfb1f98e18f447cba5217718ae0eea2a1040", func := "loop.example/g01353/laws.FnExactBlindNumbers", spec := "fnExactBlindNumbers", apart := false, narrowed := true }
def FnExactBlindNumbersUptoSaid : Prop := fnExactBlindNumbersUptoRow.holds Try.pinned (OpenSpec.upto fnExactBlindNumbersSpec)

/-- 'laws.FnExactValidMarks', WHERE WHAT IT READS IS OF BULK AT MOST 1048576: true; the input reads as it did. -/
def fnExactValidMarksUptoRow : OpenClaim := { program := "ytmfnlaodcblglaa", sum := "12b924e7d0d7b7f45c9922bfb091cfb1f98e18f447cba5217718ae0eea2a1040", func := "loop.example/g01353/laws.FnExactValidMarks", spec := "fnExactValidMarks", unfollowed := true, recurses := true, apart := false, narrowed := true }
def FnExactValidMarksUptoSaid : Prop := fnExactValidMarksUptoRow.holds Try.pinned (OpenSpec.upto fnExactValidMarksSpec)

/-- 'laws.FnExactDiscordOf', WHERE WHAT IT READS IS OF BULK AT MOST 1048576: true; the input reads as it did. -/
def fnExactDiscordOfUptoRow : OpenClaim := { program := "ytmfnlaodcblglaa", sum := "12b924e7d0d7b7f45c9922bfb091cfb1f98e18f447cba5217718ae0eea2a1040", func := "loop.example/g01353/laws.FnExactDiscordOf", spec := "fnExactDiscordOf", apart := false, narrowed := true }
def FnExactDiscordOfUptoSaid : Prop := fnExactDiscordOfUptoRow.holds Try.pinned (OpenSpec.upto fnExactDiscordOfSpec)

/-- 'laws.FnExactSameMarks', WHERE WHAT IT READS IS OF BULK AT MOST 1048576: true; the input reads as it did. -/
def fnExactSameMarksUptoRow : OpenClaim := { program := "ytmfnlaodcblglaa", sum := "12b924e7d0d7b7f45c9922bfb091cfb1f98e18f447cba5217718ae0eea2a1040", func := "loop.example/g01353/laws.FnExactSameMarks", spec := "fnExactSameMarks", unfollowed := true, recurses := true, apart := false, narrowed := true }
def FnExactSameMarksUptoSaid : Prop := fnExactSameMarksUptoRow.holds Try.pinned (OpenSpec.upto fnExactSameMarksSpec)

/-- 'laws.FnExactFollowOrders', WHERE WHAT IT READS IS OF BULK AT MOST 1048576: true; the input reads as it did. -/
def fnExactFollowOrdersUptoRow : OpenClaim := { program := "ytmfnlaodcblglaa", sum := "12b924e7d0d7b7f45c9922bfb091cfb1f98e18f447cba5217718ae0eea2a1040", func := "loop.example/g01353/laws.FnExactFollowOrders", spec := "fnExactFollowOrders", apart := false, narrowed := true }
def FnExactFollowOrdersUptoSaid : Prop := fnExactFollowOrdersUptoRow.holds Try.pinned (OpenSpec.upto fnExactFollowOrdersSpec)

/-- 'laws.FnExactAgreementBound', WHERE WHAT IT READS IS OF BULK AT MOST 1048576: true; the input reads as it did. -/
def fnExactAgreementBoundUptoRow : OpenClaim := { program := "ytmfnlaodcblglaa", sum := "12b924e7d0d7b7f45c9922bfb091cfb1f98e18f447cba5217718ae0eea2a1040", func := "loop.example/g01353/laws.FnExactAgreementBound", spec := "fnExactAgreementBound", unfollowed := true, recurses := true, apart := false, narrowed := true }
def FnExactAgreementBoundUptoSaid : Prop := fnExactAgreementBoundUptoRow.holds Try.pinned (OpenSpec.upto fnExactAgreementBoundSpec)

/-- 'laws.FnExactWinnerOf', WHERE WHAT IT READS IS OF BULK AT MOST 1048576: true; the input reads as it did. -/
def fnExactWinnerOfUptoRow : OpenClaim := { program := "ytmfnlaodcblglaa", sum := "12b924e7d0d7b7f45c9922bfb091cfb1f98e18f447cba5217718ae0eea2a1040", func := "loop.example/g01353/laws.FnExactWinnerOf", spec := "fnExactWinnerOf", unfollowed := true, recurses := true, apart := false, narrowed := true }
def FnExactWinnerOfUptoSaid : Prop := fnExactWinnerOfUptoRow.holds Try.pinned (OpenSpec.upto fnExactWinnerOfSpec)

/-- 'laws.FnExactWithoutTaster', WHERE WHAT IT READS IS OF BULK AT MOST 1048576: true; the input reads as it did. -/
def fnExactWithoutTasterUptoRow : OpenClaim := { program := "ytmfnlaodcblglaa", sum := "12b924e7d0d7b7f45c9922bfb091cfb1f98e18f447cba5217718ae0eea2a1040", func := "loop.example/g01353/laws.FnExactWithoutTaster", spec := "fnExactWithoutTaster", unfollowed := true, recurses := true, apart := false, narrowed := true }
def FnExactWithoutTasterUptoSaid : Prop := fnExactWithoutTasterUptoRow.holds Try.pinned (OpenSpec.upto fnExactWithoutTasterSpec)

/-- 'laws.FnExactSpreadOf', WHERE WHAT IT READS IS OF BULK AT MOST 1048576: true; the input reads as it did. -/
def fnExactSpreadOfUptoRow : OpenClaim := { program := "ytmfnlaodcblglaa", sum := "12b924e7d0d7b7f45c9922bfb091cfb1f98e18f447cba5217718ae0eea2a1040", func := "loop.example/g01353/laws.FnExactSpreadOf", spec := "fnExactSpreadOf", unfollowed := true, recurses := true, apart := false, narrowed := true }
def FnExactSpreadOfUptoSaid : Prop := fnExactSpreadOfUptoRow.holds Try.pinned (OpenSpec.upto fnExactSpreadOfSpec)

/-- 'laws.FnExactRankSums', WHERE WHAT IT READS IS OF BULK AT MOST 1048576: true; the input reads as it did. -/
def fnExactRankSumsUptoRow : OpenClaim := { program := "ytmfnlaodcblglaa", sum := "12b924e7d0d7b7f45c9922bfb091cfb1f98e18f447cba5217718ae0eea2a1040", func := "loop.example/g01353/laws.FnExactRankSums", spec := "fnExactRankSums", unfollowed := true, recurses := true, apart := false, narrowed := true }
def FnExactRankSumsUptoSaid : Prop := fnExactRankSumsUptoRow.holds Try.pinned (OpenSpec.upto fnExactRankSumsSpec)

/-- 'laws.FnExactIsBalanced', WHERE WHAT IT READS IS OF BULK AT MOST 1048576: true; the input reads as it did. -/
def fnExactIsBalancedUptoRow : OpenClaim := { program := "ytmfnlaodcblglaa", sum := "12b924e7d0d7b7f45c9922bfb091cfb1f98e18f447cba5217718ae0eea2a1040", func := "loop.example/g01353/laws.FnExactIsBalanced", spec := "fnExactIsBalanced", unfollowed := true, recurses := true, apart := false, narrowed := true }
def FnExactIsBalancedUptoSaid : Prop := fnExactIsBalancedUptoRow.holds Try.pinned (OpenSpec.upto fnExactIsBalancedSpec)

end Rows
end Go.Proofs.Ytmfnlaodcblglaa
